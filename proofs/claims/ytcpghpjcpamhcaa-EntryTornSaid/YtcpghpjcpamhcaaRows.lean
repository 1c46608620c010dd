/-
  No cell of these rows narrows 'for every input' (looked for: loops, veiled, ifaces, maps, wideKeys, modest, calm, conditions, laid).
  DERIVED. THE GIVEN ROWS OF THIS SEAT. 6 by the template 'for every input the law returns true; each argument reads behind the call as it read before'; 0 by the template 'total and deterministic' (their statements: YtcpghpjcpamhcaaTotals.lean).
  GIVEN WITH THE SEED: the statements are not yours to turn. If you find one false, say at which input.
  Laid BY PROGRAM, IN A SANDBOX (cutbox-rows.mjs): the forced cells as the released guide's own fill.sh prints them over the translation dc96ee59eaf17e6e… (all of the seat's roots in one cut). By AI agents, Wed Nov 11 2026. No macro, syntax, notation, axiom, sorry.
-/
import Derived.Test.YtcpghpjcpamhcaaChecked
import GoSem.Claim
import GoSem.ClaimJoined
import GoSem.ClaimMapViews
import Derived.JoinedTies
import Derived.KernelRfl
namespace Go.Proofs.Ytcpghpjcpamhcaa
/- THE CELL 'sum', in the pinned program and in every row, IS THE sha256 OF THE DUMP (.gsa) THAT YtcpghpjcpamhcaaProg.lean LOADS. Nothing in Lean hashes anything: it is a label: what it is worth is what the hold of that sum in a sandbox is worth. -/
noncomputable def Try.pinned : Pinned := { name := "ytcpghpjcpamhcaa", sum := "dc96ee59eaf17e6e4de45e75815bf69ea7d91847cf02f2c0742251de50706720", checked := Try.checked }
namespace Rows
def none {H : Type} : Left H := { results := [], args := [] }

/-- 'skifflaw4.Entries': WHATEVER THE INPUT: true; the input reads as it did. -/
def entriesSpec : ChangeSpec := { name := "entries", fn := fun _ => fun
  | [d1, d2, d3] => { results := [.lit (.bool true)], args := [d1, d2, d3] }
  | _ => none }
def entriesRow : OpenClaim := { program := "ytcpghpjcpamhcaa", sum := "dc96ee59eaf17e6e4de45e75815bf69ea7d91847cf02f2c0742251de50706720", func := "skiff/skifflaw4.Entries", spec := "entries", apart := false }
def EntriesSaid : Prop := entriesRow.holds Try.pinned (OpenSpec.ofChange entriesSpec)

/-- ITS FALSE NEIGHBOUR: 'it returns false'. Refute it at one input. -/
def entriesWrong : ChangeSpec := { name := "entries", fn := fun _ => fun
  | [d1, d2, d3] => { results := [.lit (.bool false)], args := [d1, d2, d3] }
  | _ => none }
def EntriesWrongFalsely : Prop := entriesRow.holds Try.pinned (OpenSpec.ofChange entriesWrong)

/-- 'skifflaw4.EntryTorn': WHATEVER THE INPUT: true; the input reads as it did. -/
def entryTornSpec : ChangeSpec := { name := "entryTorn", fn := fun _ => fun
  | [d1, d2, d3] => { results := [.lit (.bool true)], args := [d1, d2, d3] }
  | _ => none }
def entryTornRow : OpenClaim := { program := "ytcpghpjcpamhcaa", sum := "dc96ee59eaf17e6e4de45e75815bf69ea7d91847cf02f2c0742251de50706720", func := "skiff/skifflaw4.EntryTorn", spec := "entryTorn", apart := false }
def EntryTornSaid : Prop := entryTornRow.holds Try.pinned (OpenSpec.ofChange entryTornSpec)

/-- ITS FALSE NEIGHBOUR: 'it returns false'. Refute it at one input. -/
def entryTornWrong : ChangeSpec := { name := "entryTorn", fn := fun _ => fun
  | [d1, d2, d3] => { results := [.lit (.bool false)], args := [d1, d2, d3] }
  | _ => none }
def EntryTornWrongFalsely : Prop := entryTornRow.holds Try.pinned (OpenSpec.ofChange entryTornWrong)

/-- 'skifflaw4.EntryForms': WHATEVER THE INPUT: true; the input reads as it did. -/
def entryFormsSpec : ChangeSpec := { name := "entryForms", fn := fun _ => fun
  | [d1, d2] => { results := [.lit (.bool true)], args := [d1, d2] }
  | _ => none }
def entryFormsRow : OpenClaim := { program := "ytcpghpjcpamhcaa", sum := "dc96ee59eaf17e6e4de45e75815bf69ea7d91847cf02f2c0742251de50706720", func := "skiff/skifflaw4.EntryForms", spec := "entryForms", apart := false }
def EntryFormsSaid : Prop := entryFormsRow.holds Try.pinned (OpenSpec.ofChange entryFormsSpec)

/-- ITS FALSE NEIGHBOUR: 'it returns false'. Refute it at one input. -/
def entryFormsWrong : ChangeSpec := { name := "entryForms", fn := fun _ => fun
  | [d1, d2] => { results := [.lit (.bool false)], args := [d1, d2] }
  | _ => none }
def EntryFormsWrongFalsely : Prop := entryFormsRow.holds Try.pinned (OpenSpec.ofChange entryFormsWrong)

/-- 'skifflaw4.EntryBack': WHATEVER THE INPUT: true; the input reads as it did. -/
def entryBackSpec : ChangeSpec := { name := "entryBack", fn := fun _ => fun
  | [d1, d2] => { results := [.lit (.bool true)], args := [d1, d2] }
  | _ => none }
def entryBackRow : OpenClaim := { program := "ytcpghpjcpamhcaa", sum := "dc96ee59eaf17e6e4de45e75815bf69ea7d91847cf02f2c0742251de50706720", func := "skiff/skifflaw4.EntryBack", spec := "entryBack", apart := false }
def EntryBackSaid : Prop := entryBackRow.holds Try.pinned (OpenSpec.ofChange entryBackSpec)

/-- ITS FALSE NEIGHBOUR: 'it returns false'. Refute it at one input. -/
def entryBackWrong : ChangeSpec := { name := "entryBack", fn := fun _ => fun
  | [d1, d2] => { results := [.lit (.bool false)], args := [d1, d2] }
  | _ => none }
def EntryBackWrongFalsely : Prop := entryBackRow.holds Try.pinned (OpenSpec.ofChange entryBackWrong)

/-- 'skifflaw4.EntryMixed': WHATEVER THE INPUT: true; the input reads as it did. -/
def entryMixedSpec : ChangeSpec := { name := "entryMixed", fn := fun _ => fun
  | [d1, d2, d3] => { results := [.lit (.bool true)], args := [d1, d2, d3] }
  | _ => none }
def entryMixedRow : OpenClaim := { program := "ytcpghpjcpamhcaa", sum := "dc96ee59eaf17e6e4de45e75815bf69ea7d91847cf02f2c0742251de50706720", func := "skiff/skifflaw4.EntryMixed", spec := "entryMixed", apart := false }
def EntryMixedSaid : Prop := entryMixedRow.holds Try.pinned (OpenSpec.ofChange entryMixedSpec)

/-- ITS FALSE NEIGHBOUR: 'it returns false'. Refute it at one input. -/
def entryMixedWrong : ChangeSpec := { name := "entryMixed", fn := fun _ => fun
  | [d1, d2, d3] => { results := [.lit (.bool false)], args := [d1, d2, d3] }
  | _ => none }
def EntryMixedWrongFalsely : Prop := entryMixedRow.holds Try.pinned (OpenSpec.ofChange entryMixedWrong)

/-- 'skifflaw4.EntryWords': WHATEVER THE INPUT: true; the input reads as it did. -/
def entryWordsSpec : ChangeSpec := { name := "entryWords", fn := fun _ => fun
  | [d1, d2, d3, d4] => { results := [.lit (.bool true)], args := [d1, d2, d3, d4] }
  | _ => none }
def entryWordsRow : OpenClaim := { program := "ytcpghpjcpamhcaa", sum := "dc96ee59eaf17e6e4de45e75815bf69ea7d91847cf02f2c0742251de50706720", func := "skiff/skifflaw4.EntryWords", spec := "entryWords", apart := false }
def EntryWordsSaid : Prop := entryWordsRow.holds Try.pinned (OpenSpec.ofChange entryWordsSpec)

/-- ITS FALSE NEIGHBOUR: 'it returns false'. Refute it at one input. -/
def entryWordsWrong : ChangeSpec := { name := "entryWords", fn := fun _ => fun
  | [d1, d2, d3, d4] => { results := [.lit (.bool false)], args := [d1, d2, d3, d4] }
  | _ => none }
def EntryWordsWrongFalsely : Prop := entryWordsRow.holds Try.pinned (OpenSpec.ofChange entryWordsWrong)

/- THE SECOND FORM. 'bulk': how many values and letters a reading holds, each counted each time it is reached (what is shared counts as often as it is met; a slice's spare places count too). A statement '..UptoSaid' is the law's where the arguments, and the package variables that the reading takes, are together of bulk at most 1048576: NARROWER than '..Said'. Prove '..Said' where nothing that the law and all that it calls make is longer than what came in: it says more and counts as full. Else prove '..UptoSaid'. A law counts once. -/
mutual
def uptoBulk {H : Type} : DataW H → Nat
  | .lit (.string bytes) => bytes.length + 1
  | .lit _ => 1
  | .nil => 1
  | .ptr d => uptoBulk d + 1
  | .slice elems spare => uptoBulkAll elems + uptoBulkAll spare + 1
  | .agg parts => uptoBulkAll parts + 1
  | .iface _ d => uptoBulk d + 1
  | .map entries => uptoBulkEntries entries + 1
  | .held _ => 1
def uptoBulkAll {H : Type} : List (DataW H) → Nat
  | [] => 0
  | d :: r => uptoBulk d + uptoBulkAll r
def uptoBulkEntries {H : Type} : List (Lit × DataW H) → Nat
  | [] => 0
  | x :: r => uptoBulkEntry x + uptoBulkEntries r
def uptoBulkEntry {H : Type} : Lit × DataW H → Nat
  | (.string bytes, d) => bytes.length + uptoBulk d + 1
  | (_, d) => uptoBulk d + 1
 end
def uptoSmall : (H : Type) → List (DataW H) → Bool := fun _ ds => decide (uptoBulkAll ds ≤ 1048576)
def OpenSpec.upto (s : _root_.Go.ChangeSpec) : _root_.Go.OpenSpec := { _root_.Go.OpenSpec.ofChange s with cond := some uptoSmall }

/-- 'skifflaw4.Entries', WHERE WHAT IT READS IS OF BULK AT MOST 1048576: true; the input reads as it did. -/
def entriesUptoRow : OpenClaim := { program := "ytcpghpjcpamhcaa", sum := "dc96ee59eaf17e6e4de45e75815bf69ea7d91847cf02f2c0742251de50706720", func := "skiff/skifflaw4.Entries", spec := "entries", apart := false, narrowed := true }
def EntriesUptoSaid : Prop := entriesUptoRow.holds Try.pinned (OpenSpec.upto entriesSpec)

/-- 'skifflaw4.EntryTorn', WHERE WHAT IT READS IS OF BULK AT MOST 1048576: true; the input reads as it did. -/
def entryTornUptoRow : OpenClaim := { program := "ytcpghpjcpamhcaa", sum := "dc96ee59eaf17e6e4de45e75815bf69ea7d91847cf02f2c0742251de50706720", func := "skiff/skifflaw4.EntryTorn", spec := "entryTorn", apart := false, narrowed := true }
def EntryTornUptoSaid : Prop := entryTornUptoRow.holds Try.pinned (OpenSpec.upto entryTornSpec)

/-- 'skifflaw4.EntryForms', WHERE WHAT IT READS IS OF BULK AT MOST 1048576: true; the input reads as it did. -/
def entryFormsUptoRow : OpenClaim := { program := "ytcpghpjcpamhcaa", sum := "dc96ee59eaf17e6e4de45e75815bf69ea7d91847cf02f2c0742251de50706720", func := "skiff/skifflaw4.EntryForms", spec := "entryForms", apart := false, narrowed := true }
def EntryFormsUptoSaid : Prop := entryFormsUptoRow.holds Try.pinned (OpenSpec.upto entryFormsSpec)

/-- 'skifflaw4.EntryBack', WHERE WHAT IT READS IS OF BULK AT MOST 1048576: true; the input reads as it did. -/
def entryBackUptoRow : OpenClaim := { program := "ytcpghpjcpamhcaa", sum := "dc96ee59eaf17e6e4de45e75815bf69ea7d91847cf02f2c0742251de50706720", func := "skiff/skifflaw4.EntryBack", spec := "entryBack", apart := false, narrowed := true }
def EntryBackUptoSaid : Prop := entryBackUptoRow.holds Try.pinned (OpenSpec.upto entryBackSpec)

/-- 'skifflaw4.EntryMixed', WHERE WHAT IT READS IS OF BULK AT MOST 1048576: true; the input reads as it did. -/
def entryMixedUptoRow : OpenClaim := { program := "ytcpghpjcpamhcaa", sum := "dc96ee59eaf17e6e4de45e75815bf69ea7d91847cf02f2c0742251de50706720", func := "skiff/skifflaw4.EntryMixed", spec := "entryMixed", apart := false, narrowed := true }
def EntryMixedUptoSaid : Prop := entryMixedUptoRow.holds Try.pinned (OpenSpec.upto entryMixedSpec)

/-- 'skifflaw4.EntryWords', WHERE WHAT IT READS IS OF BULK AT MOST 1048576: true; the input reads as it did. -/
def entryWordsUptoRow : OpenClaim := { program := "ytcpghpjcpamhcaa", sum := "dc96ee59eaf17e6e4de45e75815bf69ea7d91847cf02f2c0742251de50706720", func := "skiff/skifflaw4.EntryWords", spec := "entryWords", apart := false, narrowed := true }
def EntryWordsUptoSaid : Prop := entryWordsUptoRow.holds Try.pinned (OpenSpec.upto entryWordsSpec)

end Rows
end Go.Proofs.Ytcpghpjcpamhcaa
