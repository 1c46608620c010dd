/-
  No cell of these rows narrows 'for every input' (looked for: loops, veiled, ifaces, maps, wideKeys, modest, calm, conditions, laid).
  DERIVED. THE GIVEN ROWS OF THIS SEAT. 7 by the template 'for every input the law returns true; each argument reads behind the call as it read before'; 0 by the template 'total and deterministic' (their statements: YtbpmmjfibnkmeaaTotals.lean).
  GIVEN WITH THE SEED: the statements are not yours to turn. If you find one false, say at which input.
  Laid BY PROGRAM, IN A SANDBOX (cutbox-rows.mjs): the forced cells as the released guide's own fill.sh prints them over the translation 526a0975e943c156… (all of the seat's roots in one cut). By AI agents, Wed Nov 11 2026. No macro, syntax, notation, axiom, sorry.
-/
import Derived.Test.YtbpmmjfibnkmeaaChecked
import GoSem.Claim
import GoSem.ClaimJoined
import GoSem.ClaimMapViews
import Derived.JoinedTies
import Derived.KernelRfl
namespace Go.Proofs.Ytbpmmjfibnkmeaa
/- THE CELL 'sum', in the pinned program and in every row, IS THE sha256 OF THE DUMP (.gsa) THAT YtbpmmjfibnkmeaaProg.lean LOADS. Nothing in Lean hashes anything: it is a label: what it is worth is what the hold of that sum in a sandbox is worth. -/
noncomputable def Try.pinned : Pinned := { name := "ytbpmmjfibnkmeaa", sum := "526a0975e943c1569ce11578bf310b280784358f7e6a58f0e9b61eb4b5cb3ae0", checked := Try.checked }
namespace Rows
def none {H : Type} : Left H := { results := [], args := [] }

/-- 'skifflaw2.Nors': WHATEVER THE INPUT: true; the input reads as it did. -/
def norsSpec : ChangeSpec := { name := "nors", fn := fun _ => fun
  | [d1, d2, d3, d4] => { results := [.lit (.bool true)], args := [d1, d2, d3, d4] }
  | _ => none }
def norsRow : OpenClaim := { program := "ytbpmmjfibnkmeaa", sum := "526a0975e943c1569ce11578bf310b280784358f7e6a58f0e9b61eb4b5cb3ae0", func := "skiff/skifflaw2.Nors", spec := "nors", inPlace := ["internal/abi.NoEscape", "internal/bytealg.MakeNoZero"], apart := false }
def NorsSaid : Prop := norsRow.holds Try.pinned (OpenSpec.ofChange norsSpec)

/-- ITS FALSE NEIGHBOUR: 'it returns false'. Refute it at one input. -/
def norsWrong : ChangeSpec := { name := "nors", fn := fun _ => fun
  | [d1, d2, d3, d4] => { results := [.lit (.bool false)], args := [d1, d2, d3, d4] }
  | _ => none }
def NorsWrongFalsely : Prop := norsRow.holds Try.pinned (OpenSpec.ofChange norsWrong)

/-- 'skifflaw2.NorClears': WHATEVER THE INPUT: true; the input reads as it did. -/
def norClearsSpec : ChangeSpec := { name := "norClears", fn := fun _ => fun
  | [d1, d2, d3, d4] => { results := [.lit (.bool true)], args := [d1, d2, d3, d4] }
  | _ => none }
def norClearsRow : OpenClaim := { program := "ytbpmmjfibnkmeaa", sum := "526a0975e943c1569ce11578bf310b280784358f7e6a58f0e9b61eb4b5cb3ae0", func := "skiff/skifflaw2.NorClears", spec := "norClears", inPlace := ["internal/abi.NoEscape", "internal/bytealg.MakeNoZero"], apart := false }
def NorClearsSaid : Prop := norClearsRow.holds Try.pinned (OpenSpec.ofChange norClearsSpec)

/-- ITS FALSE NEIGHBOUR: 'it returns false'. Refute it at one input. -/
def norClearsWrong : ChangeSpec := { name := "norClears", fn := fun _ => fun
  | [d1, d2, d3, d4] => { results := [.lit (.bool false)], args := [d1, d2, d3, d4] }
  | _ => none }
def NorClearsWrongFalsely : Prop := norClearsRow.holds Try.pinned (OpenSpec.ofChange norClearsWrong)

/-- 'skifflaw2.NorForms': WHATEVER THE INPUT: true; the input reads as it did. -/
def norFormsSpec : ChangeSpec := { name := "norForms", fn := fun _ => fun
  | [d1, d2] => { results := [.lit (.bool true)], args := [d1, d2] }
  | _ => none }
def norFormsRow : OpenClaim := { program := "ytbpmmjfibnkmeaa", sum := "526a0975e943c1569ce11578bf310b280784358f7e6a58f0e9b61eb4b5cb3ae0", func := "skiff/skifflaw2.NorForms", spec := "norForms", inPlace := ["internal/abi.NoEscape", "internal/bytealg.MakeNoZero"], apart := false }
def NorFormsSaid : Prop := norFormsRow.holds Try.pinned (OpenSpec.ofChange norFormsSpec)

/-- ITS FALSE NEIGHBOUR: 'it returns false'. Refute it at one input. -/
def norFormsWrong : ChangeSpec := { name := "norForms", fn := fun _ => fun
  | [d1, d2] => { results := [.lit (.bool false)], args := [d1, d2] }
  | _ => none }
def NorFormsWrongFalsely : Prop := norFormsRow.holds Try.pinned (OpenSpec.ofChange norFormsWrong)

/-- 'skifflaw2.NorErases': WHATEVER THE INPUT: true; the input reads as it did. -/
def norErasesSpec : ChangeSpec := { name := "norErases", fn := fun _ => fun
  | [d1, d2, d3] => { results := [.lit (.bool true)], args := [d1, d2, d3] }
  | _ => none }
def norErasesRow : OpenClaim := { program := "ytbpmmjfibnkmeaa", sum := "526a0975e943c1569ce11578bf310b280784358f7e6a58f0e9b61eb4b5cb3ae0", func := "skiff/skifflaw2.NorErases", spec := "norErases", inPlace := ["internal/abi.NoEscape", "internal/bytealg.MakeNoZero"], apart := false }
def NorErasesSaid : Prop := norErasesRow.holds Try.pinned (OpenSpec.ofChange norErasesSpec)

/-- ITS FALSE NEIGHBOUR: 'it returns false'. Refute it at one input. -/
def norErasesWrong : ChangeSpec := { name := "norErases", fn := fun _ => fun
  | [d1, d2, d3] => { results := [.lit (.bool false)], args := [d1, d2, d3] }
  | _ => none }
def NorErasesWrongFalsely : Prop := norErasesRow.holds Try.pinned (OpenSpec.ofChange norErasesWrong)

/-- 'skifflaw2.NorTwice': WHATEVER THE INPUT: true; the input reads as it did. -/
def norTwiceSpec : ChangeSpec := { name := "norTwice", fn := fun _ => fun
  | [d1, d2, d3, d4, d5] => { results := [.lit (.bool true)], args := [d1, d2, d3, d4, d5] }
  | _ => none }
def norTwiceRow : OpenClaim := { program := "ytbpmmjfibnkmeaa", sum := "526a0975e943c1569ce11578bf310b280784358f7e6a58f0e9b61eb4b5cb3ae0", func := "skiff/skifflaw2.NorTwice", spec := "norTwice", inPlace := ["internal/abi.NoEscape", "internal/bytealg.MakeNoZero"], apart := false }
def NorTwiceSaid : Prop := norTwiceRow.holds Try.pinned (OpenSpec.ofChange norTwiceSpec)

/-- ITS FALSE NEIGHBOUR: 'it returns false'. Refute it at one input. -/
def norTwiceWrong : ChangeSpec := { name := "norTwice", fn := fun _ => fun
  | [d1, d2, d3, d4, d5] => { results := [.lit (.bool false)], args := [d1, d2, d3, d4, d5] }
  | _ => none }
def NorTwiceWrongFalsely : Prop := norTwiceRow.holds Try.pinned (OpenSpec.ofChange norTwiceWrong)

/-- 'skifflaw2.NorBits': WHATEVER THE INPUT: true; the input reads as it did. -/
def norBitsSpec : ChangeSpec := { name := "norBits", fn := fun _ => fun
  | [d1, d2, d3, d4, d5] => { results := [.lit (.bool true)], args := [d1, d2, d3, d4, d5] }
  | _ => none }
def norBitsRow : OpenClaim := { program := "ytbpmmjfibnkmeaa", sum := "526a0975e943c1569ce11578bf310b280784358f7e6a58f0e9b61eb4b5cb3ae0", func := "skiff/skifflaw2.NorBits", spec := "norBits", inPlace := ["internal/abi.NoEscape", "internal/bytealg.MakeNoZero"], apart := false }
def NorBitsSaid : Prop := norBitsRow.holds Try.pinned (OpenSpec.ofChange norBitsSpec)

/-- ITS FALSE NEIGHBOUR: 'it returns false'. Refute it at one input. -/
def norBitsWrong : ChangeSpec := { name := "norBits", fn := fun _ => fun
  | [d1, d2, d3, d4, d5] => { results := [.lit (.bool false)], args := [d1, d2, d3, d4, d5] }
  | _ => none }
def NorBitsWrongFalsely : Prop := norBitsRow.holds Try.pinned (OpenSpec.ofChange norBitsWrong)

/-- 'skifflaw2.NorWorn': WHATEVER THE INPUT: true; the input reads as it did. -/
def norWornSpec : ChangeSpec := { name := "norWorn", fn := fun _ => fun
  | [d1, d2, d3, d4] => { results := [.lit (.bool true)], args := [d1, d2, d3, d4] }
  | _ => none }
def norWornRow : OpenClaim := { program := "ytbpmmjfibnkmeaa", sum := "526a0975e943c1569ce11578bf310b280784358f7e6a58f0e9b61eb4b5cb3ae0", func := "skiff/skifflaw2.NorWorn", spec := "norWorn", inPlace := ["internal/abi.NoEscape", "internal/bytealg.MakeNoZero"], apart := false }
def NorWornSaid : Prop := norWornRow.holds Try.pinned (OpenSpec.ofChange norWornSpec)

/-- ITS FALSE NEIGHBOUR: 'it returns false'. Refute it at one input. -/
def norWornWrong : ChangeSpec := { name := "norWorn", fn := fun _ => fun
  | [d1, d2, d3, d4] => { results := [.lit (.bool false)], args := [d1, d2, d3, d4] }
  | _ => none }
def NorWornWrongFalsely : Prop := norWornRow.holds Try.pinned (OpenSpec.ofChange norWornWrong)

/- THE SECOND FORM. 'bulk': how many values and letters a reading holds, each counted each time it is reached (what is shared counts as often as it is met; a slice's spare places count too). A statement '..UptoSaid' is the law's where the arguments, and the package variables that the reading takes, are together of bulk at most 1048576: NARROWER than '..Said'. Prove '..Said' where nothing that the law and all that it calls make is longer than what came in: it says more and counts as full. Else prove '..UptoSaid'. A law counts once. -/
mutual
def uptoBulk {H : Type} : DataW H → Nat
  | .lit (.string bytes) => bytes.length + 1
  | .lit _ => 1
  | .nil => 1
  | .ptr d => uptoBulk d + 1
  | .slice elems spare => uptoBulkAll elems + uptoBulkAll spare + 1
  | .agg parts => uptoBulkAll parts + 1
  | .iface _ d => uptoBulk d + 1
  | .map entries => uptoBulkEntries entries + 1
  | .held _ => 1
def uptoBulkAll {H : Type} : List (DataW H) → Nat
  | [] => 0
  | d :: r => uptoBulk d + uptoBulkAll r
def uptoBulkEntries {H : Type} : List (Lit × DataW H) → Nat
  | [] => 0
  | x :: r => uptoBulkEntry x + uptoBulkEntries r
def uptoBulkEntry {H : Type} : Lit × DataW H → Nat
  | (.string bytes, d) => bytes.length + uptoBulk d + 1
  | (_, d) => uptoBulk d + 1
 end
def uptoSmall : (H : Type) → List (DataW H) → Bool := fun _ ds => decide (uptoBulkAll ds ≤ 1048576)
def OpenSpec.upto (s : _root_.Go.ChangeSpec) : _root_.Go.OpenSpec := { _root_.Go.OpenSpec.ofChange s with cond := some uptoSmall }

/-- 'skifflaw2.Nors', WHERE WHAT IT READS IS OF BULK AT MOST 1048576: true; the input reads as it did. -/
def norsUptoRow : OpenClaim := { program := "ytbpmmjfibnkmeaa", sum := "526a0975e943c1569ce11578bf310b280784358f7e6a58f0e9b61eb4b5cb3ae0", func := "skiff/skifflaw2.Nors", spec := "nors", inPlace := ["internal/abi.NoEscape", "internal/bytealg.MakeNoZero"], apart := false, narrowed := true }
def NorsUptoSaid : Prop := norsUptoRow.holds Try.pinned (OpenSpec.upto norsSpec)

/-- 'skifflaw2.NorClears', WHERE WHAT IT READS IS OF BULK AT MOST 1048576: true; the input reads as it did. -/
def norClearsUptoRow : OpenClaim := { program := "ytbpmmjfibnkmeaa", sum := "526a0975e943c1569ce11578bf310b280784358f7e6a58f0e9b61eb4b5cb3ae0", func := "skiff/skifflaw2.NorClears", spec := "norClears", inPlace := ["internal/abi.NoEscape", "internal/bytealg.MakeNoZero"], apart := false, narrowed := true }
def NorClearsUptoSaid : Prop := norClearsUptoRow.holds Try.pinned (OpenSpec.upto norClearsSpec)

/-- 'skifflaw2.NorForms', WHERE WHAT IT READS IS OF BULK AT MOST 1048576: true; the input reads as it did. -/
def norFormsUptoRow : OpenClaim := { program := "ytbpmmjfibnkmeaa", sum := "526a0975e943c1569ce11578bf310b280784358f7e6a58f0e9b61eb4b5cb3ae0", func := "skiff/skifflaw2.NorForms", spec := "norForms", inPlace := ["internal/abi.NoEscape", "internal/bytealg.MakeNoZero"], apart := false, narrowed := true }
def NorFormsUptoSaid : Prop := norFormsUptoRow.holds Try.pinned (OpenSpec.upto norFormsSpec)

/-- 'skifflaw2.NorErases', WHERE WHAT IT READS IS OF BULK AT MOST 1048576: true; the input reads as it did. -/
def norErasesUptoRow : OpenClaim := { program := "ytbpmmjfibnkmeaa", sum := "526a0975e943c1569ce11578bf310b280784358f7e6a58f0e9b61eb4b5cb3ae0", func := "skiff/skifflaw2.NorErases", spec := "norErases", inPlace := ["internal/abi.NoEscape", "internal/bytealg.MakeNoZero"], apart := false, narrowed := true }
def NorErasesUptoSaid : Prop := norErasesUptoRow.holds Try.pinned (OpenSpec.upto norErasesSpec)

/-- 'skifflaw2.NorTwice', WHERE WHAT IT READS IS OF BULK AT MOST 1048576: true; the input reads as it did. -/
def norTwiceUptoRow : OpenClaim := { program := "ytbpmmjfibnkmeaa", sum := "526a0975e943c1569ce11578bf310b280784358f7e6a58f0e9b61eb4b5cb3ae0", func := "skiff/skifflaw2.NorTwice", spec := "norTwice", inPlace := ["internal/abi.NoEscape", "internal/bytealg.MakeNoZero"], apart := false, narrowed := true }
def NorTwiceUptoSaid : Prop := norTwiceUptoRow.holds Try.pinned (OpenSpec.upto norTwiceSpec)

/-- 'skifflaw2.NorBits', WHERE WHAT IT READS IS OF BULK AT MOST 1048576: true; the input reads as it did. -/
def norBitsUptoRow : OpenClaim := { program := "ytbpmmjfibnkmeaa", sum := "526a0975e943c1569ce11578bf310b280784358f7e6a58f0e9b61eb4b5cb3ae0", func := "skiff/skifflaw2.NorBits", spec := "norBits", inPlace := ["internal/abi.NoEscape", "internal/bytealg.MakeNoZero"], apart := false, narrowed := true }
def NorBitsUptoSaid : Prop := norBitsUptoRow.holds Try.pinned (OpenSpec.upto norBitsSpec)

/-- 'skifflaw2.NorWorn', WHERE WHAT IT READS IS OF BULK AT MOST 1048576: true; the input reads as it did. -/
def norWornUptoRow : OpenClaim := { program := "ytbpmmjfibnkmeaa", sum := "526a0975e943c1569ce11578bf310b280784358f7e6a58f0e9b61eb4b5cb3ae0", func := "skiff/skifflaw2.NorWorn", spec := "norWorn", inPlace := ["internal/abi.NoEscape", "internal/bytealg.MakeNoZero"], apart := false, narrowed := true }
def NorWornUptoSaid : Prop := norWornUptoRow.holds Try.pinned (OpenSpec.upto norWornSpec)

end Rows
end Go.Proofs.Ytbpmmjfibnkmeaa
