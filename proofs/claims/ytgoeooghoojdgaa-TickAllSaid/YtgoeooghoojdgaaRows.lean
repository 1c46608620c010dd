/-
  No cell of these rows narrows 'for every input' (looked for: loops, veiled, ifaces, maps, wideKeys, modest, calm, conditions, laid).
  DERIVED. THE GIVEN ROWS OF THIS SEAT. 6 by the template 'for every input the law returns true; each argument reads behind the call as it read before'; 0 by the template 'total and deterministic' (their statements: YtgoeooghoojdgaaTotals.lean).
  GIVEN WITH THE SEED: the statements are not yours to turn. If you find one false, say at which input.
  Laid BY PROGRAM, IN A SANDBOX (cutbox-rows.mjs): the forced cells as the released guide's own fill.sh prints them over the translation 6693513a7c8767ad… (all of the seat's roots in one cut). By AI agents, Wed Nov 11 2026. No macro, syntax, notation, axiom, sorry.
-/
import Derived.Test.YtgoeooghoojdgaaChecked
import GoSem.Claim
import GoSem.ClaimJoined
import GoSem.ClaimMapViews
import Derived.JoinedTies
import Derived.KernelRfl
namespace Go.Proofs.Ytgoeooghoojdgaa
/- THE CELL 'sum', in the pinned program and in every row, IS THE sha256 OF THE DUMP (.gsa) THAT YtgoeooghoojdgaaProg.lean LOADS. Nothing in Lean hashes anything: it is a label: what it is worth is what the hold of that sum in a sandbox is worth. -/
noncomputable def Try.pinned : Pinned := { name := "ytgoeooghoojdgaa", sum := "6693513a7c8767ad3d1f61d2453607ad5c380611c6c12955f93beae936933ef4", checked := Try.checked }
namespace Rows
def none {H : Type} : Left H := { results := [], args := [] }

/-- 'skifflaw18.Ticks': WHATEVER THE INPUT: true; the input reads as it did. -/
def ticksSpec : ChangeSpec := { name := "ticks", fn := fun _ => fun
  | [d1, d2, d3] => { results := [.lit (.bool true)], args := [d1, d2, d3] }
  | _ => none }
def ticksRow : OpenClaim := { program := "ytgoeooghoojdgaa", sum := "6693513a7c8767ad3d1f61d2453607ad5c380611c6c12955f93beae936933ef4", func := "skiff/skifflaw18.Ticks", spec := "ticks", inPlace := ["internal/abi.NoEscape", "internal/bytealg.MakeNoZero"], unfollowed := true, recurses := true, apart := false }
def TicksSaid : Prop := ticksRow.holds Try.pinned (OpenSpec.ofChange ticksSpec)

/-- ITS FALSE NEIGHBOUR: 'it returns false'. Refute it at one input. -/
def ticksWrong : ChangeSpec := { name := "ticks", fn := fun _ => fun
  | [d1, d2, d3] => { results := [.lit (.bool false)], args := [d1, d2, d3] }
  | _ => none }
def TicksWrongFalsely : Prop := ticksRow.holds Try.pinned (OpenSpec.ofChange ticksWrong)

/-- 'skifflaw18.TickForms': WHATEVER THE INPUT: true; the input reads as it did. -/
def tickFormsSpec : ChangeSpec := { name := "tickForms", fn := fun _ => fun
  | [d1, d2] => { results := [.lit (.bool true)], args := [d1, d2] }
  | _ => none }
def tickFormsRow : OpenClaim := { program := "ytgoeooghoojdgaa", sum := "6693513a7c8767ad3d1f61d2453607ad5c380611c6c12955f93beae936933ef4", func := "skiff/skifflaw18.TickForms", spec := "tickForms", inPlace := ["internal/abi.NoEscape", "internal/bytealg.MakeNoZero"], unfollowed := true, recurses := true, apart := false }
def TickFormsSaid : Prop := tickFormsRow.holds Try.pinned (OpenSpec.ofChange tickFormsSpec)

/-- ITS FALSE NEIGHBOUR: 'it returns false'. Refute it at one input. -/
def tickFormsWrong : ChangeSpec := { name := "tickForms", fn := fun _ => fun
  | [d1, d2] => { results := [.lit (.bool false)], args := [d1, d2] }
  | _ => none }
def TickFormsWrongFalsely : Prop := tickFormsRow.holds Try.pinned (OpenSpec.ofChange tickFormsWrong)

/-- 'skifflaw18.TickAll': WHATEVER THE INPUT: true; the input reads as it did. -/
def tickAllSpec : ChangeSpec := { name := "tickAll", fn := fun _ => fun
  | [d1, d2, d3, d4] => { results := [.lit (.bool true)], args := [d1, d2, d3, d4] }
  | _ => none }
def tickAllRow : OpenClaim := { program := "ytgoeooghoojdgaa", sum := "6693513a7c8767ad3d1f61d2453607ad5c380611c6c12955f93beae936933ef4", func := "skiff/skifflaw18.TickAll", spec := "tickAll", inPlace := ["internal/abi.NoEscape", "internal/bytealg.MakeNoZero"], unfollowed := true, recurses := true, apart := false }
def TickAllSaid : Prop := tickAllRow.holds Try.pinned (OpenSpec.ofChange tickAllSpec)

/-- ITS FALSE NEIGHBOUR: 'it returns false'. Refute it at one input. -/
def tickAllWrong : ChangeSpec := { name := "tickAll", fn := fun _ => fun
  | [d1, d2, d3, d4] => { results := [.lit (.bool false)], args := [d1, d2, d3, d4] }
  | _ => none }
def TickAllWrongFalsely : Prop := tickAllRow.holds Try.pinned (OpenSpec.ofChange tickAllWrong)

/-- 'skifflaw18.TickIdle': WHATEVER THE INPUT: true; the input reads as it did. -/
def tickIdleSpec : ChangeSpec := { name := "tickIdle", fn := fun _ => fun
  | [d1, d2, d3] => { results := [.lit (.bool true)], args := [d1, d2, d3] }
  | _ => none }
def tickIdleRow : OpenClaim := { program := "ytgoeooghoojdgaa", sum := "6693513a7c8767ad3d1f61d2453607ad5c380611c6c12955f93beae936933ef4", func := "skiff/skifflaw18.TickIdle", spec := "tickIdle", inPlace := ["internal/abi.NoEscape", "internal/bytealg.MakeNoZero"], unfollowed := true, recurses := true, apart := false }
def TickIdleSaid : Prop := tickIdleRow.holds Try.pinned (OpenSpec.ofChange tickIdleSpec)

/-- ITS FALSE NEIGHBOUR: 'it returns false'. Refute it at one input. -/
def tickIdleWrong : ChangeSpec := { name := "tickIdle", fn := fun _ => fun
  | [d1, d2, d3] => { results := [.lit (.bool false)], args := [d1, d2, d3] }
  | _ => none }
def TickIdleWrongFalsely : Prop := tickIdleRow.holds Try.pinned (OpenSpec.ofChange tickIdleWrong)

/-- 'skifflaw18.TickCut': WHATEVER THE INPUT: true; the input reads as it did. -/
def tickCutSpec : ChangeSpec := { name := "tickCut", fn := fun _ => fun
  | [d1, d2, d3] => { results := [.lit (.bool true)], args := [d1, d2, d3] }
  | _ => none }
def tickCutRow : OpenClaim := { program := "ytgoeooghoojdgaa", sum := "6693513a7c8767ad3d1f61d2453607ad5c380611c6c12955f93beae936933ef4", func := "skiff/skifflaw18.TickCut", spec := "tickCut", inPlace := ["internal/abi.NoEscape", "internal/bytealg.MakeNoZero"], unfollowed := true, recurses := true, apart := false }
def TickCutSaid : Prop := tickCutRow.holds Try.pinned (OpenSpec.ofChange tickCutSpec)

/-- ITS FALSE NEIGHBOUR: 'it returns false'. Refute it at one input. -/
def tickCutWrong : ChangeSpec := { name := "tickCut", fn := fun _ => fun
  | [d1, d2, d3] => { results := [.lit (.bool false)], args := [d1, d2, d3] }
  | _ => none }
def TickCutWrongFalsely : Prop := tickCutRow.holds Try.pinned (OpenSpec.ofChange tickCutWrong)

/-- 'skifflaw18.TickRow': WHATEVER THE INPUT: true; the input reads as it did. -/
def tickRowSpec : ChangeSpec := { name := "tickRow", fn := fun _ => fun
  | [d1, d2, d3] => { results := [.lit (.bool true)], args := [d1, d2, d3] }
  | _ => none }
def tickRowRow : OpenClaim := { program := "ytgoeooghoojdgaa", sum := "6693513a7c8767ad3d1f61d2453607ad5c380611c6c12955f93beae936933ef4", func := "skiff/skifflaw18.TickRow", spec := "tickRow", inPlace := ["internal/abi.NoEscape", "internal/bytealg.MakeNoZero"], unfollowed := true, recurses := true, apart := false }
def TickRowSaid : Prop := tickRowRow.holds Try.pinned (OpenSpec.ofChange tickRowSpec)

/-- ITS FALSE NEIGHBOUR: 'it returns false'. Refute it at one input. -/
def tickRowWrong : ChangeSpec := { name := "tickRow", fn := fun _ => fun
  | [d1, d2, d3] => { results := [.lit (.bool false)], args := [d1, d2, d3] }
  | _ => none }
def TickRowWrongFalsely : Prop := tickRowRow.holds Try.pinned (OpenSpec.ofChange tickRowWrong)

/- THE SECOND FORM. 'bulk': how many values and letters a reading holds, each counted each time it is reached (what is shared counts as often as it is met; a slice's spare places count too). A statement '..UptoSaid' is the law's where the arguments, and the package variables that the reading takes, are together of bulk at most 1048576: NARROWER than '..Said'. Prove '..Said' where nothing that the law and all that it calls make is longer than what came in: it says more and counts as full. Else prove '..UptoSaid'. A law counts once. -/
mutual
def uptoBulk {H : Type} : DataW H → Nat
  | .lit (.string bytes) => bytes.length + 1
  | .lit _ => 1
  | .nil => 1
  | .ptr d => uptoBulk d + 1
  | .slice elems spare => uptoBulkAll elems + uptoBulkAll spare + 1
  | .agg parts => uptoBulkAll parts + 1
  | .iface _ d => uptoBulk d + 1
  | .map entries => uptoBulkEntries entries + 1
  | .held _ => 1
def uptoBulkAll {H : Type} : List (DataW H) → Nat
  | [] => 0
  | d :: r => uptoBulk d + uptoBulkAll r
def uptoBulkEntries {H : Type} : List (Lit × DataW H) → Nat
  | [] => 0
  | x :: r => uptoBulkEntry x + uptoBulkEntries r
def uptoBulkEntry {H : Type} : Lit × DataW H → Nat
  | (.string bytes, d) => bytes.length + uptoBulk d + 1
  | (_, d) => uptoBulk d + 1
 end
def uptoSmall : (H : Type) → List (DataW H) → Bool := fun _ ds => decide (uptoBulkAll ds ≤ 1048576)
def OpenSpec.upto (s : _root_.Go.ChangeSpec) : _root_.Go.OpenSpec := { _root_.Go.OpenSpec.ofChange s with cond := some uptoSmall }

/-- 'skifflaw18.Ticks', WHERE WHAT IT READS IS OF BULK AT MOST 1048576: true; the input reads as it did. -/
def ticksUptoRow : OpenClaim := { program := "ytgoeooghoojdgaa", sum := "6693513a7c8767ad3d1f61d2453607ad5c380611c6c12955f93beae936933ef4", func := "skiff/skifflaw18.Ticks", spec := "ticks", inPlace := ["internal/abi.NoEscape", "internal/bytealg.MakeNoZero"], unfollowed := true, recurses := true, apart := false, narrowed := true }
def TicksUptoSaid : Prop := ticksUptoRow.holds Try.pinned (OpenSpec.upto ticksSpec)

/-- 'skifflaw18.TickForms', WHERE WHAT IT READS IS OF BULK AT MOST 1048576: true; the input reads as it did. -/
def tickFormsUptoRow : OpenClaim := { program := "ytgoeooghoojdgaa", sum := "6693513a7c8767ad3d1f61d2453607ad5c380611c6c12955f93beae936933ef4", func := "skiff/skifflaw18.TickForms", spec := "tickForms", inPlace := ["internal/abi.NoEscape", "internal/bytealg.MakeNoZero"], unfollowed := true, recurses := true, apart := false, narrowed := true }
def TickFormsUptoSaid : Prop := tickFormsUptoRow.holds Try.pinned (OpenSpec.upto tickFormsSpec)

/-- 'skifflaw18.TickAll', WHERE WHAT IT READS IS OF BULK AT MOST 1048576: true; the input reads as it did. -/
def tickAllUptoRow : OpenClaim := { program := "ytgoeooghoojdgaa", sum := "6693513a7c8767ad3d1f61d2453607ad5c380611c6c12955f93beae936933ef4", func := "skiff/skifflaw18.TickAll", spec := "tickAll", inPlace := ["internal/abi.NoEscape", "internal/bytealg.MakeNoZero"], unfollowed := true, recurses := true, apart := false, narrowed := true }
def TickAllUptoSaid : Prop := tickAllUptoRow.holds Try.pinned (OpenSpec.upto tickAllSpec)

/-- 'skifflaw18.TickIdle', WHERE WHAT IT READS IS OF BULK AT MOST 1048576: true; the input reads as it did. -/
def tickIdleUptoRow : OpenClaim := { program := "ytgoeooghoojdgaa", sum := "6693513a7c8767ad3d1f61d2453607ad5c380611c6c12955f93beae936933ef4", func := "skiff/skifflaw18.TickIdle", spec := "tickIdle", inPlace := ["internal/abi.NoEscape", "internal/bytealg.MakeNoZero"], unfollowed := true, recurses := true, apart := false, narrowed := true }
def TickIdleUptoSaid : Prop := tickIdleUptoRow.holds Try.pinned (OpenSpec.upto tickIdleSpec)

/-- 'skifflaw18.TickCut', WHERE WHAT IT READS IS OF BULK AT MOST 1048576: true; the input reads as it did. -/
def tickCutUptoRow : OpenClaim := { program := "ytgoeooghoojdgaa", sum := "6693513a7c8767ad3d1f61d2453607ad5c380611c6c12955f93beae936933ef4", func := "skiff/skifflaw18.TickCut", spec := "tickCut", inPlace := ["internal/abi.NoEscape", "internal/bytealg.MakeNoZero"], unfollowed := true, recurses := true, apart := false, narrowed := true }
def TickCutUptoSaid : Prop := tickCutUptoRow.holds Try.pinned (OpenSpec.upto tickCutSpec)

/-- 'skifflaw18.TickRow', WHERE WHAT IT READS IS OF BULK AT MOST 1048576: true; the input reads as it did. -/
def tickRowUptoRow : OpenClaim := { program := "ytgoeooghoojdgaa", sum := "6693513a7c8767ad3d1f61d2453607ad5c380611c6c12955f93beae936933ef4", func := "skiff/skifflaw18.TickRow", spec := "tickRow", inPlace := ["internal/abi.NoEscape", "internal/bytealg.MakeNoZero"], unfollowed := true, recurses := true, apart := false, narrowed := true }
def TickRowUptoSaid : Prop := tickRowUptoRow.holds Try.pinned (OpenSpec.upto tickRowSpec)

end Rows
end Go.Proofs.Ytgoeooghoojdgaa
