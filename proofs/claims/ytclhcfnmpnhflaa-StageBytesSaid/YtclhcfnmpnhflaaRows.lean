/-
  No cell of these rows narrows 'for every input' (looked for: loops, veiled, ifaces, maps, wideKeys, modest, calm, conditions, laid).
  DERIVED. THE GIVEN ROWS OF THIS SEAT. 5 by the template 'for every input the law returns true; each argument reads behind the call as it read before'; 0 by the template 'total and deterministic' (their statements: YtclhcfnmpnhflaaTotals.lean).
  GIVEN WITH THE SEED: the statements are not yours to turn. If you find one false, say at which input.
  Laid BY PROGRAM, IN A SANDBOX (cutbox-rows.mjs): the forced cells as the released guide's own fill.sh prints them over the translation a5a20ba6570f9437… (all of the seat's roots in one cut). By AI agents, Wed Nov 11 2026. No macro, syntax, notation, axiom, sorry.
-/
import Derived.Test.YtclhcfnmpnhflaaChecked
import GoSem.Claim
import GoSem.ClaimJoined
import GoSem.ClaimMapViews
import Derived.JoinedTies
import Derived.KernelRfl
namespace Go.Proofs.Ytclhcfnmpnhflaa
/- THE CELL 'sum', in the pinned program and in every row, IS THE sha256 OF THE DUMP (.gsa) THAT YtclhcfnmpnhflaaProg.lean LOADS. Nothing in Lean hashes anything: it is a label: what it is worth is what the hold of that sum in a sandbox is worth. -/
noncomputable def Try.pinned : Pinned := { name := "ytclhcfnmpnhflaa", sum := "a5a20ba6570f9437d3cfaeaeb9c534cef8d092046b3e984a6e08638b6a1a9ff3", checked := Try.checked }
namespace Rows
def none {H : Type} : Left H := { results := [], args := [] }

/-- 'skifflaw9.Stages': WHATEVER THE INPUT: true; the input reads as it did. -/
def stagesSpec : ChangeSpec := { name := "stages", fn := fun _ => fun
  | [d1, d2, d3] => { results := [.lit (.bool true)], args := [d1, d2, d3] }
  | _ => none }
def stagesRow : OpenClaim := { program := "ytclhcfnmpnhflaa", sum := "a5a20ba6570f9437d3cfaeaeb9c534cef8d092046b3e984a6e08638b6a1a9ff3", func := "skiff/skifflaw9.Stages", spec := "stages", apart := false }
def StagesSaid : Prop := stagesRow.holds Try.pinned (OpenSpec.ofChange stagesSpec)

/-- ITS FALSE NEIGHBOUR: 'it returns false'. Refute it at one input. -/
def stagesWrong : ChangeSpec := { name := "stages", fn := fun _ => fun
  | [d1, d2, d3] => { results := [.lit (.bool false)], args := [d1, d2, d3] }
  | _ => none }
def StagesWrongFalsely : Prop := stagesRow.holds Try.pinned (OpenSpec.ofChange stagesWrong)

/-- 'skifflaw9.StageGood': WHATEVER THE INPUT: true; the input reads as it did. -/
def stageGoodSpec : ChangeSpec := { name := "stageGood", fn := fun _ => fun
  | [d1, d2, d3] => { results := [.lit (.bool true)], args := [d1, d2, d3] }
  | _ => none }
def stageGoodRow : OpenClaim := { program := "ytclhcfnmpnhflaa", sum := "a5a20ba6570f9437d3cfaeaeb9c534cef8d092046b3e984a6e08638b6a1a9ff3", func := "skiff/skifflaw9.StageGood", spec := "stageGood", apart := false }
def StageGoodSaid : Prop := stageGoodRow.holds Try.pinned (OpenSpec.ofChange stageGoodSpec)

/-- ITS FALSE NEIGHBOUR: 'it returns false'. Refute it at one input. -/
def stageGoodWrong : ChangeSpec := { name := "stageGood", fn := fun _ => fun
  | [d1, d2, d3] => { results := [.lit (.bool false)], args := [d1, d2, d3] }
  | _ => none }
def StageGoodWrongFalsely : Prop := stageGoodRow.holds Try.pinned (OpenSpec.ofChange stageGoodWrong)

/-- 'skifflaw9.StageForms': WHATEVER THE INPUT: true; the input reads as it did. -/
def stageFormsSpec : ChangeSpec := { name := "stageForms", fn := fun _ => fun
  | [d1, d2] => { results := [.lit (.bool true)], args := [d1, d2] }
  | _ => none }
def stageFormsRow : OpenClaim := { program := "ytclhcfnmpnhflaa", sum := "a5a20ba6570f9437d3cfaeaeb9c534cef8d092046b3e984a6e08638b6a1a9ff3", func := "skiff/skifflaw9.StageForms", spec := "stageForms", apart := false }
def StageFormsSaid : Prop := stageFormsRow.holds Try.pinned (OpenSpec.ofChange stageFormsSpec)

/-- ITS FALSE NEIGHBOUR: 'it returns false'. Refute it at one input. -/
def stageFormsWrong : ChangeSpec := { name := "stageForms", fn := fun _ => fun
  | [d1, d2] => { results := [.lit (.bool false)], args := [d1, d2] }
  | _ => none }
def StageFormsWrongFalsely : Prop := stageFormsRow.holds Try.pinned (OpenSpec.ofChange stageFormsWrong)

/-- 'skifflaw9.StageErases': WHATEVER THE INPUT: true; the input reads as it did. -/
def stageErasesSpec : ChangeSpec := { name := "stageErases", fn := fun _ => fun
  | [d1, d2] => { results := [.lit (.bool true)], args := [d1, d2] }
  | _ => none }
def stageErasesRow : OpenClaim := { program := "ytclhcfnmpnhflaa", sum := "a5a20ba6570f9437d3cfaeaeb9c534cef8d092046b3e984a6e08638b6a1a9ff3", func := "skiff/skifflaw9.StageErases", spec := "stageErases", apart := false }
def StageErasesSaid : Prop := stageErasesRow.holds Try.pinned (OpenSpec.ofChange stageErasesSpec)

/-- ITS FALSE NEIGHBOUR: 'it returns false'. Refute it at one input. -/
def stageErasesWrong : ChangeSpec := { name := "stageErases", fn := fun _ => fun
  | [d1, d2] => { results := [.lit (.bool false)], args := [d1, d2] }
  | _ => none }
def StageErasesWrongFalsely : Prop := stageErasesRow.holds Try.pinned (OpenSpec.ofChange stageErasesWrong)

/-- 'skifflaw9.StageBytes': WHATEVER THE INPUT: true; the input reads as it did. -/
def stageBytesSpec : ChangeSpec := { name := "stageBytes", fn := fun _ => fun
  | [d1, d2, d3, d4, d5] => { results := [.lit (.bool true)], args := [d1, d2, d3, d4, d5] }
  | _ => none }
def stageBytesRow : OpenClaim := { program := "ytclhcfnmpnhflaa", sum := "a5a20ba6570f9437d3cfaeaeb9c534cef8d092046b3e984a6e08638b6a1a9ff3", func := "skiff/skifflaw9.StageBytes", spec := "stageBytes", apart := false }
def StageBytesSaid : Prop := stageBytesRow.holds Try.pinned (OpenSpec.ofChange stageBytesSpec)

/-- ITS FALSE NEIGHBOUR: 'it returns false'. Refute it at one input. -/
def stageBytesWrong : ChangeSpec := { name := "stageBytes", fn := fun _ => fun
  | [d1, d2, d3, d4, d5] => { results := [.lit (.bool false)], args := [d1, d2, d3, d4, d5] }
  | _ => none }
def StageBytesWrongFalsely : Prop := stageBytesRow.holds Try.pinned (OpenSpec.ofChange stageBytesWrong)

/- THE SECOND FORM. 'bulk': how many values and letters a reading holds, each counted each time it is reached (what is shared counts as often as it is met; a slice's spare places count too). A statement '..UptoSaid' is the law's where the arguments, and the package variables that the reading takes, are together of bulk at most 1048576: NARROWER than '..Said'. Prove '..Said' where nothing that the law and all that it calls make is longer than what came in: it says more and counts as full. Else prove '..UptoSaid'. A law counts once. -/
mutual
def uptoBulk {H : Type} : DataW H → Nat
  | .lit (.string bytes) => bytes.length + 1
  | .lit _ => 1
  | .nil => 1
  | .ptr d => uptoBulk d + 1
  | .slice elems spare => uptoBulkAll elems + uptoBulkAll spare + 1
  | .agg parts => uptoBulkAll parts + 1
  | .iface _ d => uptoBulk d + 1
  | .map entries => uptoBulkEntries entries + 1
  | .held _ => 1
def uptoBulkAll {H : Type} : List (DataW H) → Nat
  | [] => 0
  | d :: r => uptoBulk d + uptoBulkAll r
def uptoBulkEntries {H : Type} : List (Lit × DataW H) → Nat
  | [] => 0
  | x :: r => uptoBulkEntry x + uptoBulkEntries r
def uptoBulkEntry {H : Type} : Lit × DataW H → Nat
  | (.string bytes, d) => bytes.length + uptoBulk d + 1
  | (_, d) => uptoBulk d + 1
 end
def uptoSmall : (H : Type) → List (DataW H) → Bool := fun _ ds => decide (uptoBulkAll ds ≤ 1048576)
def OpenSpec.upto (s : _root_.Go.ChangeSpec) : _root_.Go.OpenSpec := { _root_.Go.OpenSpec.ofChange s with cond := some uptoSmall }

/-- 'skifflaw9.Stages', WHERE WHAT IT READS IS OF BULK AT MOST 1048576: true; the input reads as it did. -/
def stagesUptoRow : OpenClaim := { program := "ytclhcfnmpnhflaa", sum := "a5a20ba6570f9437d3cfaeaeb9c534cef8d092046b3e984a6e08638b6a1a9ff3", func := "skiff/skifflaw9.Stages", spec := "stages", apart := false, narrowed := true }
def StagesUptoSaid : Prop := stagesUptoRow.holds Try.pinned (OpenSpec.upto stagesSpec)

/-- 'skifflaw9.StageGood', WHERE WHAT IT READS IS OF BULK AT MOST 1048576: true; the input reads as it did. -/
def stageGoodUptoRow : OpenClaim := { program := "ytclhcfnmpnhflaa", sum := "a5a20ba6570f9437d3cfaeaeb9c534cef8d092046b3e984a6e08638b6a1a9ff3", func := "skiff/skifflaw9.StageGood", spec := "stageGood", apart := false, narrowed := true }
def StageGoodUptoSaid : Prop := stageGoodUptoRow.holds Try.pinned (OpenSpec.upto stageGoodSpec)

/-- 'skifflaw9.StageForms', WHERE WHAT IT READS IS OF BULK AT MOST 1048576: true; the input reads as it did. -/
def stageFormsUptoRow : OpenClaim := { program := "ytclhcfnmpnhflaa", sum := "a5a20ba6570f9437d3cfaeaeb9c534cef8d092046b3e984a6e08638b6a1a9ff3", func := "skiff/skifflaw9.StageForms", spec := "stageForms", apart := false, narrowed := true }
def StageFormsUptoSaid : Prop := stageFormsUptoRow.holds Try.pinned (OpenSpec.upto stageFormsSpec)

/-- 'skifflaw9.StageErases', WHERE WHAT IT READS IS OF BULK AT MOST 1048576: true; the input reads as it did. -/
def stageErasesUptoRow : OpenClaim := { program := "ytclhcfnmpnhflaa", sum := "a5a20ba6570f9437d3cfaeaeb9c534cef8d092046b3e984a6e08638b6a1a9ff3", func := "skiff/skifflaw9.StageErases", spec := "stageErases", apart := false, narrowed := true }
def StageErasesUptoSaid : Prop := stageErasesUptoRow.holds Try.pinned (OpenSpec.upto stageErasesSpec)

/-- 'skifflaw9.StageBytes', WHERE WHAT IT READS IS OF BULK AT MOST 1048576: true; the input reads as it did. -/
def stageBytesUptoRow : OpenClaim := { program := "ytclhcfnmpnhflaa", sum := "a5a20ba6570f9437d3cfaeaeb9c534cef8d092046b3e984a6e08638b6a1a9ff3", func := "skiff/skifflaw9.StageBytes", spec := "stageBytes", apart := false, narrowed := true }
def StageBytesUptoSaid : Prop := stageBytesUptoRow.holds Try.pinned (OpenSpec.upto stageBytesSpec)

end Rows
end Go.Proofs.Ytclhcfnmpnhflaa
