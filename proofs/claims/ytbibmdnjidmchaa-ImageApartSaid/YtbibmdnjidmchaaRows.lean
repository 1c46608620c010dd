/-
  No cell of these rows narrows 'for every input' (looked for: loops, veiled, ifaces, maps, wideKeys, modest, calm, conditions, laid).
  DERIVED. THE GIVEN ROWS OF THIS SEAT. 4 by the template 'for every input the law returns true; each argument reads behind the call as it read before'; 0 by the template 'total and deterministic' (their statements: YtbibmdnjidmchaaTotals.lean).
  GIVEN WITH THE SEED: the statements are not yours to turn. If you find one false, say at which input.
  Laid BY PROGRAM, IN A SANDBOX (cutbox-rows.mjs): the forced cells as the released guide's own fill.sh prints them over the translation 4881a45e8ff67ca4… (all of the seat's roots in one cut). By AI agents, Wed Nov 11 2026. No macro, syntax, notation, axiom, sorry.
-/
import Derived.Test.YtbibmdnjidmchaaChecked
import GoSem.Claim
import GoSem.ClaimJoined
import GoSem.ClaimMapViews
import Derived.JoinedTies
import Derived.KernelRfl
namespace Go.Proofs.Ytbibmdnjidmchaa
/- THE CELL 'sum', in the pinned program and in every row, IS THE sha256 OF THE DUMP (.gsa) THAT YtbibmdnjidmchaaProg.lean LOADS. Nothing in Lean hashes anything: it is a label: what it is worth is what the hold of that sum in a sandbox is worth. -/
noncomputable def Try.pinned : Pinned := { name := "ytbibmdnjidmchaa", sum := "4881a45e8ff67ca456b4826eb37ca34964e1f98ab2dd0f8e5fba190e63caf4cd", checked := Try.checked }
namespace Rows
def none {H : Type} : Left H := { results := [], args := [] }

/-- 'skifflaw6.Images': WHATEVER THE INPUT: true; the input reads as it did. -/
def imagesSpec : ChangeSpec := { name := "images", fn := fun _ => fun
  | [d1, d2, d3] => { results := [.lit (.bool true)], args := [d1, d2, d3] }
  | _ => none }
def imagesRow : OpenClaim := { program := "ytbibmdnjidmchaa", sum := "4881a45e8ff67ca456b4826eb37ca34964e1f98ab2dd0f8e5fba190e63caf4cd", func := "skiff/skifflaw6.Images", spec := "images", apart := false }
def ImagesSaid : Prop := imagesRow.holds Try.pinned (OpenSpec.ofChange imagesSpec)

/-- ITS FALSE NEIGHBOUR: 'it returns false'. Refute it at one input. -/
def imagesWrong : ChangeSpec := { name := "images", fn := fun _ => fun
  | [d1, d2, d3] => { results := [.lit (.bool false)], args := [d1, d2, d3] }
  | _ => none }
def ImagesWrongFalsely : Prop := imagesRow.holds Try.pinned (OpenSpec.ofChange imagesWrong)

/-- 'skifflaw6.ImageForms': WHATEVER THE INPUT: true; the input reads as it did. -/
def imageFormsSpec : ChangeSpec := { name := "imageForms", fn := fun _ => fun
  | [d1, d2] => { results := [.lit (.bool true)], args := [d1, d2] }
  | _ => none }
def imageFormsRow : OpenClaim := { program := "ytbibmdnjidmchaa", sum := "4881a45e8ff67ca456b4826eb37ca34964e1f98ab2dd0f8e5fba190e63caf4cd", func := "skiff/skifflaw6.ImageForms", spec := "imageForms", apart := false }
def ImageFormsSaid : Prop := imageFormsRow.holds Try.pinned (OpenSpec.ofChange imageFormsSpec)

/-- ITS FALSE NEIGHBOUR: 'it returns false'. Refute it at one input. -/
def imageFormsWrong : ChangeSpec := { name := "imageForms", fn := fun _ => fun
  | [d1, d2] => { results := [.lit (.bool false)], args := [d1, d2] }
  | _ => none }
def ImageFormsWrongFalsely : Prop := imageFormsRow.holds Try.pinned (OpenSpec.ofChange imageFormsWrong)

/-- 'skifflaw6.ImageTurned': WHATEVER THE INPUT: true; the input reads as it did. -/
def imageTurnedSpec : ChangeSpec := { name := "imageTurned", fn := fun _ => fun
  | [d1, d2, d3, d4] => { results := [.lit (.bool true)], args := [d1, d2, d3, d4] }
  | _ => none }
def imageTurnedRow : OpenClaim := { program := "ytbibmdnjidmchaa", sum := "4881a45e8ff67ca456b4826eb37ca34964e1f98ab2dd0f8e5fba190e63caf4cd", func := "skiff/skifflaw6.ImageTurned", spec := "imageTurned", apart := false }
def ImageTurnedSaid : Prop := imageTurnedRow.holds Try.pinned (OpenSpec.ofChange imageTurnedSpec)

/-- ITS FALSE NEIGHBOUR: 'it returns false'. Refute it at one input. -/
def imageTurnedWrong : ChangeSpec := { name := "imageTurned", fn := fun _ => fun
  | [d1, d2, d3, d4] => { results := [.lit (.bool false)], args := [d1, d2, d3, d4] }
  | _ => none }
def ImageTurnedWrongFalsely : Prop := imageTurnedRow.holds Try.pinned (OpenSpec.ofChange imageTurnedWrong)

/-- 'skifflaw6.ImageApart': WHATEVER THE INPUT: true; the input reads as it did. -/
def imageApartSpec : ChangeSpec := { name := "imageApart", fn := fun _ => fun
  | [d1, d2, d3, d4] => { results := [.lit (.bool true)], args := [d1, d2, d3, d4] }
  | _ => none }
def imageApartRow : OpenClaim := { program := "ytbibmdnjidmchaa", sum := "4881a45e8ff67ca456b4826eb37ca34964e1f98ab2dd0f8e5fba190e63caf4cd", func := "skiff/skifflaw6.ImageApart", spec := "imageApart", apart := false }
def ImageApartSaid : Prop := imageApartRow.holds Try.pinned (OpenSpec.ofChange imageApartSpec)

/-- ITS FALSE NEIGHBOUR: 'it returns false'. Refute it at one input. -/
def imageApartWrong : ChangeSpec := { name := "imageApart", fn := fun _ => fun
  | [d1, d2, d3, d4] => { results := [.lit (.bool false)], args := [d1, d2, d3, d4] }
  | _ => none }
def ImageApartWrongFalsely : Prop := imageApartRow.holds Try.pinned (OpenSpec.ofChange imageApartWrong)

/- THE SECOND FORM. 'bulk': how many values and letters a reading holds, each counted each time it is reached (what is shared counts as often as it is met; a slice's spare places count too). A statement '..UptoSaid' is the law's where the arguments, and the package variables that the reading takes, are together of bulk at most 1048576: NARROWER than '..Said'. Prove '..Said' where nothing that the law and all that it calls make is longer than what came in: it says more and counts as full. Else prove '..UptoSaid'. A law counts once. -/
mutual
def uptoBulk {H : Type} : DataW H → Nat
  | .lit (.string bytes) => bytes.length + 1
  | .lit _ => 1
  | .nil => 1
  | .ptr d => uptoBulk d + 1
  | .slice elems spare => uptoBulkAll elems + uptoBulkAll spare + 1
  | .agg parts => uptoBulkAll parts + 1
  | .iface _ d => uptoBulk d + 1
  | .map entries => uptoBulkEntries entries + 1
  | .held _ => 1
def uptoBulkAll {H : Type} : List (DataW H) → Nat
  | [] => 0
  | d :: r => uptoBulk d + uptoBulkAll r
def uptoBulkEntries {H : Type} : List (Lit × DataW H) → Nat
  | [] => 0
  | x :: r => uptoBulkEntry x + uptoBulkEntries r
def uptoBulkEntry {H : Type} : Lit × DataW H → Nat
  | (.string bytes, d) => bytes.length + uptoBulk d + 1
  | (_, d) => uptoBulk d + 1
 end
def uptoSmall : (H : Type) → List (DataW H) → Bool := fun _ ds => decide (uptoBulkAll ds ≤ 1048576)
def OpenSpec.upto (s : _root_.Go.ChangeSpec) : _root_.Go.OpenSpec := { _root_.Go.OpenSpec.ofChange s with cond := some uptoSmall }

/-- 'skifflaw6.Images', WHERE WHAT IT READS IS OF BULK AT MOST 1048576: true; the input reads as it did. -/
def imagesUptoRow : OpenClaim := { program := "ytbibmdnjidmchaa", sum := "4881a45e8ff67ca456b4826eb37ca34964e1f98ab2dd0f8e5fba190e63caf4cd", func := "skiff/skifflaw6.Images", spec := "images", apart := false, narrowed := true }
def ImagesUptoSaid : Prop := imagesUptoRow.holds Try.pinned (OpenSpec.upto imagesSpec)

/-- 'skifflaw6.ImageForms', WHERE WHAT IT READS IS OF BULK AT MOST 1048576: true; the input reads as it did. -/
def imageFormsUptoRow : OpenClaim := { program := "ytbibmdnjidmchaa", sum := "4881a45e8ff67ca456b4826eb37ca34964e1f98ab2dd0f8e5fba190e63caf4cd", func := "skiff/skifflaw6.ImageForms", spec := "imageForms", apart := false, narrowed := true }
def ImageFormsUptoSaid : Prop := imageFormsUptoRow.holds Try.pinned (OpenSpec.upto imageFormsSpec)

/-- 'skifflaw6.ImageTurned', WHERE WHAT IT READS IS OF BULK AT MOST 1048576: true; the input reads as it did. -/
def imageTurnedUptoRow : OpenClaim := { program := "ytbibmdnjidmchaa", sum := "4881a45e8ff67ca456b4826eb37ca34964e1f98ab2dd0f8e5fba190e63caf4cd", func := "skiff/skifflaw6.ImageTurned", spec := "imageTurned", apart := false, narrowed := true }
def ImageTurnedUptoSaid : Prop := imageTurnedUptoRow.holds Try.pinned (OpenSpec.upto imageTurnedSpec)

/-- 'skifflaw6.ImageApart', WHERE WHAT IT READS IS OF BULK AT MOST 1048576: true; the input reads as it did. -/
def imageApartUptoRow : OpenClaim := { program := "ytbibmdnjidmchaa", sum := "4881a45e8ff67ca456b4826eb37ca34964e1f98ab2dd0f8e5fba190e63caf4cd", func := "skiff/skifflaw6.ImageApart", spec := "imageApart", apart := false, narrowed := true }
def ImageApartUptoSaid : Prop := imageApartUptoRow.holds Try.pinned (OpenSpec.upto imageApartSpec)

end Rows
end Go.Proofs.Ytbibmdnjidmchaa
