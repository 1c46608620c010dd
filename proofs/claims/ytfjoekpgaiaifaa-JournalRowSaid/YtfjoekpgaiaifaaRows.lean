/-
  No cell of these rows narrows 'for every input' (looked for: loops, veiled, ifaces, maps, wideKeys, modest, calm, conditions, laid).
  DERIVED. THE GIVEN ROWS OF THIS SEAT. 5 by the template 'for every input the law returns true; each argument reads behind the call as it read before'; 0 by the template 'total and deterministic' (their statements: YtfjoekpgaiaifaaTotals.lean).
  GIVEN WITH THE SEED: the statements are not yours to turn. If you find one false, say at which input.
  Laid BY PROGRAM, IN A SANDBOX (cutbox-rows.mjs): the forced cells as the released guide's own fill.sh prints them over the translation 310c794d3a6b4b2d… (all of the seat's roots in one cut). By AI agents, Wed Nov 11 2026. No macro, syntax, notation, axiom, sorry.
-/
import Derived.Test.YtfjoekpgaiaifaaChecked
import GoSem.Claim
import GoSem.ClaimJoined
import GoSem.ClaimMapViews
import Derived.JoinedTies
import Derived.KernelRfl
namespace Go.Proofs.Ytfjoekpgaiaifaa
/- THE CELL 'sum', in the pinned program and in every row, IS THE sha256 OF THE DUMP (.gsa) THAT YtfjoekpgaiaifaaProg.lean LOADS. Nothing in Lean hashes anything: it is a label: what it is worth is what the hold of that sum in a sandbox is worth. -/
noncomputable def Try.pinned : Pinned := { name := "ytfjoekpgaiaifaa", sum := "310c794d3a6b4b2de37c46b7e5194ceb71ea8f7e3dd74307da7838c6cd0ba4c5", checked := Try.checked }
namespace Rows
def none {H : Type} : Left H := { results := [], args := [] }

/-- 'skifflaw5.Journals': WHATEVER THE INPUT: true; the input reads as it did. -/
def journalsSpec : ChangeSpec := { name := "journals", fn := fun _ => fun
  | [d1, d2] => { results := [.lit (.bool true)], args := [d1, d2] }
  | _ => none }
def journalsRow : OpenClaim := { program := "ytfjoekpgaiaifaa", sum := "310c794d3a6b4b2de37c46b7e5194ceb71ea8f7e3dd74307da7838c6cd0ba4c5", func := "skiff/skifflaw5.Journals", spec := "journals", inPlace := ["internal/abi.NoEscape", "internal/bytealg.MakeNoZero"], apart := false }
def JournalsSaid : Prop := journalsRow.holds Try.pinned (OpenSpec.ofChange journalsSpec)

/-- ITS FALSE NEIGHBOUR: 'it returns false'. Refute it at one input. -/
def journalsWrong : ChangeSpec := { name := "journals", fn := fun _ => fun
  | [d1, d2] => { results := [.lit (.bool false)], args := [d1, d2] }
  | _ => none }
def JournalsWrongFalsely : Prop := journalsRow.holds Try.pinned (OpenSpec.ofChange journalsWrong)

/-- 'skifflaw5.JournalPut': WHATEVER THE INPUT: true; the input reads as it did. -/
def journalPutSpec : ChangeSpec := { name := "journalPut", fn := fun _ => fun
  | [d1, d2] => { results := [.lit (.bool true)], args := [d1, d2] }
  | _ => none }
def journalPutRow : OpenClaim := { program := "ytfjoekpgaiaifaa", sum := "310c794d3a6b4b2de37c46b7e5194ceb71ea8f7e3dd74307da7838c6cd0ba4c5", func := "skiff/skifflaw5.JournalPut", spec := "journalPut", inPlace := ["internal/abi.NoEscape", "internal/bytealg.MakeNoZero"], apart := false }
def JournalPutSaid : Prop := journalPutRow.holds Try.pinned (OpenSpec.ofChange journalPutSpec)

/-- ITS FALSE NEIGHBOUR: 'it returns false'. Refute it at one input. -/
def journalPutWrong : ChangeSpec := { name := "journalPut", fn := fun _ => fun
  | [d1, d2] => { results := [.lit (.bool false)], args := [d1, d2] }
  | _ => none }
def JournalPutWrongFalsely : Prop := journalPutRow.holds Try.pinned (OpenSpec.ofChange journalPutWrong)

/-- 'skifflaw5.JournalRow': WHATEVER THE INPUT: true; the input reads as it did. -/
def journalRowSpec : ChangeSpec := { name := "journalRow", fn := fun _ => fun
  | [d1, d2] => { results := [.lit (.bool true)], args := [d1, d2] }
  | _ => none }
def journalRowRow : OpenClaim := { program := "ytfjoekpgaiaifaa", sum := "310c794d3a6b4b2de37c46b7e5194ceb71ea8f7e3dd74307da7838c6cd0ba4c5", func := "skiff/skifflaw5.JournalRow", spec := "journalRow", inPlace := ["internal/abi.NoEscape", "internal/bytealg.MakeNoZero"], apart := false }
def JournalRowSaid : Prop := journalRowRow.holds Try.pinned (OpenSpec.ofChange journalRowSpec)

/-- ITS FALSE NEIGHBOUR: 'it returns false'. Refute it at one input. -/
def journalRowWrong : ChangeSpec := { name := "journalRow", fn := fun _ => fun
  | [d1, d2] => { results := [.lit (.bool false)], args := [d1, d2] }
  | _ => none }
def JournalRowWrongFalsely : Prop := journalRowRow.holds Try.pinned (OpenSpec.ofChange journalRowWrong)

/-- 'skifflaw5.JournalForms': WHATEVER THE INPUT: true; the input reads as it did. -/
def journalFormsSpec : ChangeSpec := { name := "journalForms", fn := fun _ => fun
  | [d1, d2] => { results := [.lit (.bool true)], args := [d1, d2] }
  | _ => none }
def journalFormsRow : OpenClaim := { program := "ytfjoekpgaiaifaa", sum := "310c794d3a6b4b2de37c46b7e5194ceb71ea8f7e3dd74307da7838c6cd0ba4c5", func := "skiff/skifflaw5.JournalForms", spec := "journalForms", inPlace := ["internal/abi.NoEscape", "internal/bytealg.MakeNoZero"], apart := false }
def JournalFormsSaid : Prop := journalFormsRow.holds Try.pinned (OpenSpec.ofChange journalFormsSpec)

/-- ITS FALSE NEIGHBOUR: 'it returns false'. Refute it at one input. -/
def journalFormsWrong : ChangeSpec := { name := "journalForms", fn := fun _ => fun
  | [d1, d2] => { results := [.lit (.bool false)], args := [d1, d2] }
  | _ => none }
def JournalFormsWrongFalsely : Prop := journalFormsRow.holds Try.pinned (OpenSpec.ofChange journalFormsWrong)

/-- 'skifflaw5.JournalErased': WHATEVER THE INPUT: true; the input reads as it did. -/
def journalErasedSpec : ChangeSpec := { name := "journalErased", fn := fun _ => fun
  | [d1, d2] => { results := [.lit (.bool true)], args := [d1, d2] }
  | _ => none }
def journalErasedRow : OpenClaim := { program := "ytfjoekpgaiaifaa", sum := "310c794d3a6b4b2de37c46b7e5194ceb71ea8f7e3dd74307da7838c6cd0ba4c5", func := "skiff/skifflaw5.JournalErased", spec := "journalErased", inPlace := ["internal/abi.NoEscape", "internal/bytealg.MakeNoZero"], apart := false }
def JournalErasedSaid : Prop := journalErasedRow.holds Try.pinned (OpenSpec.ofChange journalErasedSpec)

/-- ITS FALSE NEIGHBOUR: 'it returns false'. Refute it at one input. -/
def journalErasedWrong : ChangeSpec := { name := "journalErased", fn := fun _ => fun
  | [d1, d2] => { results := [.lit (.bool false)], args := [d1, d2] }
  | _ => none }
def JournalErasedWrongFalsely : Prop := journalErasedRow.holds Try.pinned (OpenSpec.ofChange journalErasedWrong)

/- THE SECOND FORM. 'bulk': how many values and letters a reading holds, each counted each time it is reached (what is shared counts as often as it is met; a slice's spare places count too). A statement '..UptoSaid' is the law's where the arguments, and the package variables that the reading takes, are together of bulk at most 1048576: NARROWER than '..Said'. Prove '..Said' where nothing that the law and all that it calls make is longer than what came in: it says more and counts as full. Else prove '..UptoSaid'. A law counts once. -/
mutual
def uptoBulk {H : Type} : DataW H → Nat
  | .lit (.string bytes) => bytes.length + 1
  | .lit _ => 1
  | .nil => 1
  | .ptr d => uptoBulk d + 1
  | .slice elems spare => uptoBulkAll elems + uptoBulkAll spare + 1
  | .agg parts => uptoBulkAll parts + 1
  | .iface _ d => uptoBulk d + 1
  | .map entries => uptoBulkEntries entries + 1
  | .held _ => 1
def uptoBulkAll {H : Type} : List (DataW H) → Nat
  | [] => 0
  | d :: r => uptoBulk d + uptoBulkAll r
def uptoBulkEntries {H : Type} : List (Lit × DataW H) → Nat
  | [] => 0
  | x :: r => uptoBulkEntry x + uptoBulkEntries r
def uptoBulkEntry {H : Type} : Lit × DataW H → Nat
  | (.string bytes, d) => bytes.length + uptoBulk d + 1
  | (_, d) => uptoBulk d + 1
 end
def uptoSmall : (H : Type) → List (DataW H) → Bool := fun _ ds => decide (uptoBulkAll ds ≤ 1048576)
def OpenSpec.upto (s : _root_.Go.ChangeSpec) : _root_.Go.OpenSpec := { _root_.Go.OpenSpec.ofChange s with cond := some uptoSmall }

/-- 'skifflaw5.Journals', WHERE WHAT IT READS IS OF BULK AT MOST 1048576: true; the input reads as it did. -/
def journalsUptoRow : OpenClaim := { program := "ytfjoekpgaiaifaa", sum := "310c794d3a6b4b2de37c46b7e5194ceb71ea8f7e3dd74307da7838c6cd0ba4c5", func := "skiff/skifflaw5.Journals", spec := "journals", inPlace := ["internal/abi.NoEscape", "internal/bytealg.MakeNoZero"], apart := false, narrowed := true }
def JournalsUptoSaid : Prop := journalsUptoRow.holds Try.pinned (OpenSpec.upto journalsSpec)

/-- 'skifflaw5.JournalPut', WHERE WHAT IT READS IS OF BULK AT MOST 1048576: true; the input reads as it did. -/
def journalPutUptoRow : OpenClaim := { program := "ytfjoekpgaiaifaa", sum := "310c794d3a6b4b2de37c46b7e5194ceb71ea8f7e3dd74307da7838c6cd0ba4c5", func := "skiff/skifflaw5.JournalPut", spec := "journalPut", inPlace := ["internal/abi.NoEscape", "internal/bytealg.MakeNoZero"], apart := false, narrowed := true }
def JournalPutUptoSaid : Prop := journalPutUptoRow.holds Try.pinned (OpenSpec.upto journalPutSpec)

/-- 'skifflaw5.JournalRow', WHERE WHAT IT READS IS OF BULK AT MOST 1048576: true; the input reads as it did. -/
def journalRowUptoRow : OpenClaim := { program := "ytfjoekpgaiaifaa", sum := "310c794d3a6b4b2de37c46b7e5194ceb71ea8f7e3dd74307da7838c6cd0ba4c5", func := "skiff/skifflaw5.JournalRow", spec := "journalRow", inPlace := ["internal/abi.NoEscape", "internal/bytealg.MakeNoZero"], apart := false, narrowed := true }
def JournalRowUptoSaid : Prop := journalRowUptoRow.holds Try.pinned (OpenSpec.upto journalRowSpec)

/-- 'skifflaw5.JournalForms', WHERE WHAT IT READS IS OF BULK AT MOST 1048576: true; the input reads as it did. -/
def journalFormsUptoRow : OpenClaim := { program := "ytfjoekpgaiaifaa", sum := "310c794d3a6b4b2de37c46b7e5194ceb71ea8f7e3dd74307da7838c6cd0ba4c5", func := "skiff/skifflaw5.JournalForms", spec := "journalForms", inPlace := ["internal/abi.NoEscape", "internal/bytealg.MakeNoZero"], apart := false, narrowed := true }
def JournalFormsUptoSaid : Prop := journalFormsUptoRow.holds Try.pinned (OpenSpec.upto journalFormsSpec)

/-- 'skifflaw5.JournalErased', WHERE WHAT IT READS IS OF BULK AT MOST 1048576: true; the input reads as it did. -/
def journalErasedUptoRow : OpenClaim := { program := "ytfjoekpgaiaifaa", sum := "310c794d3a6b4b2de37c46b7e5194ceb71ea8f7e3dd74307da7838c6cd0ba4c5", func := "skiff/skifflaw5.JournalErased", spec := "journalErased", inPlace := ["internal/abi.NoEscape", "internal/bytealg.MakeNoZero"], apart := false, narrowed := true }
def JournalErasedUptoSaid : Prop := journalErasedUptoRow.holds Try.pinned (OpenSpec.upto journalErasedSpec)

end Rows
end Go.Proofs.Ytfjoekpgaiaifaa
