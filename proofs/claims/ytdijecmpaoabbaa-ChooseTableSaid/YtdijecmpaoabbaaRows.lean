/-
  No cell of these rows narrows 'for every input' (looked for: loops, veiled, ifaces, maps, wideKeys, modest, calm, conditions, laid).
  DERIVED. THE GIVEN ROWS OF THIS SEAT. 5 by the template 'for every input the law returns true; each argument reads behind the call as it read before'; 0 by the template 'total and deterministic' (their statements: YtdijecmpaoabbaaTotals.lean).
  GIVEN WITH THE SEED: the statements are not yours to turn. If you find one false, say at which input.
  Laid BY PROGRAM, IN A SANDBOX (cutbox-rows.mjs): the forced cells as the released guide's own fill.sh prints them over the translation 3a1164a7bf6cfcb5… (all of the seat's roots in one cut). By AI agents, Wed Nov 11 2026. No macro, syntax, notation, axiom, sorry.
-/
import Derived.Test.YtdijecmpaoabbaaChecked
import GoSem.Claim
import GoSem.ClaimJoined
import GoSem.ClaimMapViews
import Derived.JoinedTies
import Derived.KernelRfl
namespace Go.Proofs.Ytdijecmpaoabbaa
/- THE CELL 'sum', in the pinned program and in every row, IS THE sha256 OF THE DUMP (.gsa) THAT YtdijecmpaoabbaaProg.lean LOADS. Nothing in Lean hashes anything: it is a label: what it is worth is what the hold of that sum in a sandbox is worth. -/
noncomputable def Try.pinned : Pinned := { name := "ytdijecmpaoabbaa", sum := "3a1164a7bf6cfcb5f88508e9be8b1cf81e19fc839586a9923f0ad66eb12728aa", checked := Try.checked }
namespace Rows
def none {H : Type} : Left H := { results := [], args := [] }

/-- 'skifflaw7.Chooses': WHATEVER THE INPUT: true; the input reads as it did. -/
def choosesSpec : ChangeSpec := { name := "chooses", fn := fun _ => fun
  | [d] => { results := [.lit (.bool true)], args := [d] }
  | _ => none }
def choosesRow : OpenClaim := { program := "ytdijecmpaoabbaa", sum := "3a1164a7bf6cfcb5f88508e9be8b1cf81e19fc839586a9923f0ad66eb12728aa", func := "skiff/skifflaw7.Chooses", spec := "chooses", unfollowed := true, recurses := true, apart := false }
def ChoosesSaid : Prop := choosesRow.holds Try.pinned (OpenSpec.ofChange choosesSpec)

/-- ITS FALSE NEIGHBOUR: 'it returns false'. Refute it at one input. -/
def choosesWrong : ChangeSpec := { name := "chooses", fn := fun _ => fun
  | [d] => { results := [.lit (.bool false)], args := [d] }
  | _ => none }
def ChoosesWrongFalsely : Prop := choosesRow.holds Try.pinned (OpenSpec.ofChange choosesWrong)

/-- 'skifflaw7.ChooseBest': WHATEVER THE INPUT: true; the input reads as it did. -/
def chooseBestSpec : ChangeSpec := { name := "chooseBest", fn := fun _ => fun
  | [d] => { results := [.lit (.bool true)], args := [d] }
  | _ => none }
def chooseBestRow : OpenClaim := { program := "ytdijecmpaoabbaa", sum := "3a1164a7bf6cfcb5f88508e9be8b1cf81e19fc839586a9923f0ad66eb12728aa", func := "skiff/skifflaw7.ChooseBest", spec := "chooseBest", unfollowed := true, recurses := true, apart := false }
def ChooseBestSaid : Prop := chooseBestRow.holds Try.pinned (OpenSpec.ofChange chooseBestSpec)

/-- ITS FALSE NEIGHBOUR: 'it returns false'. Refute it at one input. -/
def chooseBestWrong : ChangeSpec := { name := "chooseBest", fn := fun _ => fun
  | [d] => { results := [.lit (.bool false)], args := [d] }
  | _ => none }
def ChooseBestWrongFalsely : Prop := chooseBestRow.holds Try.pinned (OpenSpec.ofChange chooseBestWrong)

/-- 'skifflaw7.ChooseTable': WHATEVER THE INPUT: true; the input reads as it did. -/
def chooseTableSpec : ChangeSpec := { name := "chooseTable", fn := fun _ => fun
  | [d1, d2, d3] => { results := [.lit (.bool true)], args := [d1, d2, d3] }
  | _ => none }
def chooseTableRow : OpenClaim := { program := "ytdijecmpaoabbaa", sum := "3a1164a7bf6cfcb5f88508e9be8b1cf81e19fc839586a9923f0ad66eb12728aa", func := "skiff/skifflaw7.ChooseTable", spec := "chooseTable", unfollowed := true, recurses := true, apart := false }
def ChooseTableSaid : Prop := chooseTableRow.holds Try.pinned (OpenSpec.ofChange chooseTableSpec)

/-- ITS FALSE NEIGHBOUR: 'it returns false'. Refute it at one input. -/
def chooseTableWrong : ChangeSpec := { name := "chooseTable", fn := fun _ => fun
  | [d1, d2, d3] => { results := [.lit (.bool false)], args := [d1, d2, d3] }
  | _ => none }
def ChooseTableWrongFalsely : Prop := chooseTableRow.holds Try.pinned (OpenSpec.ofChange chooseTableWrong)

/-- 'skifflaw7.ChooseOther': WHATEVER THE INPUT: true; the input reads as it did. -/
def chooseOtherSpec : ChangeSpec := { name := "chooseOther", fn := fun _ => fun
  | [d1, d2] => { results := [.lit (.bool true)], args := [d1, d2] }
  | _ => none }
def chooseOtherRow : OpenClaim := { program := "ytdijecmpaoabbaa", sum := "3a1164a7bf6cfcb5f88508e9be8b1cf81e19fc839586a9923f0ad66eb12728aa", func := "skiff/skifflaw7.ChooseOther", spec := "chooseOther", unfollowed := true, recurses := true, apart := false }
def ChooseOtherSaid : Prop := chooseOtherRow.holds Try.pinned (OpenSpec.ofChange chooseOtherSpec)

/-- ITS FALSE NEIGHBOUR: 'it returns false'. Refute it at one input. -/
def chooseOtherWrong : ChangeSpec := { name := "chooseOther", fn := fun _ => fun
  | [d1, d2] => { results := [.lit (.bool false)], args := [d1, d2] }
  | _ => none }
def ChooseOtherWrongFalsely : Prop := chooseOtherRow.holds Try.pinned (OpenSpec.ofChange chooseOtherWrong)

/-- 'skifflaw7.ChooseStays': WHATEVER THE INPUT: true; the input reads as it did. -/
def chooseStaysSpec : ChangeSpec := { name := "chooseStays", fn := fun _ => fun
  | [d1, d2, d3, d4] => { results := [.lit (.bool true)], args := [d1, d2, d3, d4] }
  | _ => none }
def chooseStaysRow : OpenClaim := { program := "ytdijecmpaoabbaa", sum := "3a1164a7bf6cfcb5f88508e9be8b1cf81e19fc839586a9923f0ad66eb12728aa", func := "skiff/skifflaw7.ChooseStays", spec := "chooseStays", unfollowed := true, recurses := true, apart := false }
def ChooseStaysSaid : Prop := chooseStaysRow.holds Try.pinned (OpenSpec.ofChange chooseStaysSpec)

/-- ITS FALSE NEIGHBOUR: 'it returns false'. Refute it at one input. -/
def chooseStaysWrong : ChangeSpec := { name := "chooseStays", fn := fun _ => fun
  | [d1, d2, d3, d4] => { results := [.lit (.bool false)], args := [d1, d2, d3, d4] }
  | _ => none }
def ChooseStaysWrongFalsely : Prop := chooseStaysRow.holds Try.pinned (OpenSpec.ofChange chooseStaysWrong)

/- THE SECOND FORM. 'bulk': how many values and letters a reading holds, each counted each time it is reached (what is shared counts as often as it is met; a slice's spare places count too). A statement '..UptoSaid' is the law's where the arguments, and the package variables that the reading takes, are together of bulk at most 1048576: NARROWER than '..Said'. Prove '..Said' where nothing that the law and all that it calls make is longer than what came in: it says more and counts as full. Else prove '..UptoSaid'. A law counts once. -/
mutual
def uptoBulk {H : Type} : DataW H → Nat
  | .lit (.string bytes) => bytes.length + 1
  | .lit _ => 1
  | .nil => 1
  | .ptr d => uptoBulk d + 1
  | .slice elems spare => uptoBulkAll elems + uptoBulkAll spare + 1
  | .agg parts => uptoBulkAll parts + 1
  | .iface _ d => uptoBulk d + 1
  | .map entries => uptoBulkEntries entries + 1
  | .held _ => 1
def uptoBulkAll {H : Type} : List (DataW H) → Nat
  | [] => 0
  | d :: r => uptoBulk d + uptoBulkAll r
def uptoBulkEntries {H : Type} : List (Lit × DataW H) → Nat
  | [] => 0
  | x :: r => uptoBulkEntry x + uptoBulkEntries r
def uptoBulkEntry {H : Type} : Lit × DataW H → Nat
  | (.string bytes, d) => bytes.length + uptoBulk d + 1
  | (_, d) => uptoBulk d + 1
 end
def uptoSmall : (H : Type) → List (DataW H) → Bool := fun _ ds => decide (uptoBulkAll ds ≤ 1048576)
def OpenSpec.upto (s : _root_.Go.ChangeSpec) : _root_.Go.OpenSpec := { _root_.Go.OpenSpec.ofChange s with cond := some uptoSmall }

/-- 'skifflaw7.Chooses', WHERE WHAT IT READS IS OF BULK AT MOST 1048576: true; the input reads as it did. -/
def choosesUptoRow : OpenClaim := { program := "ytdijecmpaoabbaa", sum := "3a1164a7bf6cfcb5f88508e9be8b1cf81e19fc839586a9923f0ad66eb12728aa", func := "skiff/skifflaw7.Chooses", spec := "chooses", unfollowed := true, recurses := true, apart := false, narrowed := true }
def ChoosesUptoSaid : Prop := choosesUptoRow.holds Try.pinned (OpenSpec.upto choosesSpec)

/-- 'skifflaw7.ChooseBest', WHERE WHAT IT READS IS OF BULK AT MOST 1048576: true; the input reads as it did. -/
def chooseBestUptoRow : OpenClaim := { program := "ytdijecmpaoabbaa", sum := "3a1164a7bf6cfcb5f88508e9be8b1cf81e19fc839586a9923f0ad66eb12728aa", func := "skiff/skifflaw7.ChooseBest", spec := "chooseBest", unfollowed := true, recurses := true, apart := false, narrowed := true }
def ChooseBestUptoSaid : Prop := chooseBestUptoRow.holds Try.pinned (OpenSpec.upto chooseBestSpec)

/-- 'skifflaw7.ChooseTable', WHERE WHAT IT READS IS OF BULK AT MOST 1048576: true; the input reads as it did. -/
def chooseTableUptoRow : OpenClaim := { program := "ytdijecmpaoabbaa", sum := "3a1164a7bf6cfcb5f88508e9be8b1cf81e19fc839586a9923f0ad66eb12728aa", func := "skiff/skifflaw7.ChooseTable", spec := "chooseTable", unfollowed := true, recurses := true, apart := false, narrowed := true }
def ChooseTableUptoSaid : Prop := chooseTableUptoRow.holds Try.pinned (OpenSpec.upto chooseTableSpec)

/-- 'skifflaw7.ChooseOther', WHERE WHAT IT READS IS OF BULK AT MOST 1048576: true; the input reads as it did. -/
def chooseOtherUptoRow : OpenClaim := { program := "ytdijecmpaoabbaa", sum := "3a1164a7bf6cfcb5f88508e9be8b1cf81e19fc839586a9923f0ad66eb12728aa", func := "skiff/skifflaw7.ChooseOther", spec := "chooseOther", unfollowed := true, recurses := true, apart := false, narrowed := true }
def ChooseOtherUptoSaid : Prop := chooseOtherUptoRow.holds Try.pinned (OpenSpec.upto chooseOtherSpec)

/-- 'skifflaw7.ChooseStays', WHERE WHAT IT READS IS OF BULK AT MOST 1048576: true; the input reads as it did. -/
def chooseStaysUptoRow : OpenClaim := { program := "ytdijecmpaoabbaa", sum := "3a1164a7bf6cfcb5f88508e9be8b1cf81e19fc839586a9923f0ad66eb12728aa", func := "skiff/skifflaw7.ChooseStays", spec := "chooseStays", unfollowed := true, recurses := true, apart := false, narrowed := true }
def ChooseStaysUptoSaid : Prop := chooseStaysUptoRow.holds Try.pinned (OpenSpec.upto chooseStaysSpec)

end Rows
end Go.Proofs.Ytdijecmpaoabbaa
