/-
  No cell of these rows narrows 'for every input' (looked for: loops, veiled, ifaces, maps, wideKeys, modest, calm, conditions, laid).
  DERIVED. THE GIVEN ROWS OF THIS SEAT. 6 by the template 'for every input the law returns true; each argument reads behind the call as it read before'; 0 by the template 'total and deterministic' (their statements: YtmidohjfajbpmaaTotals.lean).
  GIVEN WITH THE SEED: the statements are not yours to turn. If you find one false, say at which input.
  Laid BY PROGRAM, IN A SANDBOX (cutbox-rows.mjs): the forced cells as the released guide's own fill.sh prints them over the translation e6f2b191d6a9030c… (all of the seat's roots in one cut). By AI agents, Wed Nov 11 2026. No macro, syntax, notation, axiom, sorry.
-/
import Derived.Test.YtmidohjfajbpmaaChecked
import GoSem.Claim
import GoSem.ClaimJoined
import GoSem.ClaimMapViews
import Derived.JoinedTies
import Derived.KernelRfl
namespace Go.Proofs.Ytmidohjfajbpmaa
/- THE CELL 'sum', in the pinned program and in every row, IS THE sha256 OF THE DUMP (.gsa) THAT YtmidohjfajbpmaaProg.lean LOADS. Nothing in Lean hashes anything: it is a label: what it is worth is what the hold of that sum in a sandbox is worth. -/
noncomputable def Try.pinned : Pinned := { name := "ytmidohjfajbpmaa", sum := "e6f2b191d6a9030c8a73abc5d48d69306392403a281e15b5aade9db3bd0441af", checked := Try.checked }
namespace Rows
def none {H : Type} : Left H := { results := [], args := [] }

/-- 'skifflaw20.Uploads': WHATEVER THE INPUT: true; the input reads as it did. -/
def uploadsSpec : ChangeSpec := { name := "uploads", fn := fun _ => fun
  | [d1, d2, d3, d4] => { results := [.lit (.bool true)], args := [d1, d2, d3, d4] }
  | _ => none }
def uploadsRow : OpenClaim := { program := "ytmidohjfajbpmaa", sum := "e6f2b191d6a9030c8a73abc5d48d69306392403a281e15b5aade9db3bd0441af", func := "skiff/skifflaw20.Uploads", spec := "uploads", unfollowed := true, recurses := true, apart := false }
def UploadsSaid : Prop := uploadsRow.holds Try.pinned (OpenSpec.ofChange uploadsSpec)

/-- ITS FALSE NEIGHBOUR: 'it returns false'. Refute it at one input. -/
def uploadsWrong : ChangeSpec := { name := "uploads", fn := fun _ => fun
  | [d1, d2, d3, d4] => { results := [.lit (.bool false)], args := [d1, d2, d3, d4] }
  | _ => none }
def UploadsWrongFalsely : Prop := uploadsRow.holds Try.pinned (OpenSpec.ofChange uploadsWrong)

/-- 'skifflaw20.UploadForms': WHATEVER THE INPUT: true; the input reads as it did. -/
def uploadFormsSpec : ChangeSpec := { name := "uploadForms", fn := fun _ => fun
  | [d1, d2] => { results := [.lit (.bool true)], args := [d1, d2] }
  | _ => none }
def uploadFormsRow : OpenClaim := { program := "ytmidohjfajbpmaa", sum := "e6f2b191d6a9030c8a73abc5d48d69306392403a281e15b5aade9db3bd0441af", func := "skiff/skifflaw20.UploadForms", spec := "uploadForms", unfollowed := true, recurses := true, apart := false }
def UploadFormsSaid : Prop := uploadFormsRow.holds Try.pinned (OpenSpec.ofChange uploadFormsSpec)

/-- ITS FALSE NEIGHBOUR: 'it returns false'. Refute it at one input. -/
def uploadFormsWrong : ChangeSpec := { name := "uploadForms", fn := fun _ => fun
  | [d1, d2] => { results := [.lit (.bool false)], args := [d1, d2] }
  | _ => none }
def UploadFormsWrongFalsely : Prop := uploadFormsRow.holds Try.pinned (OpenSpec.ofChange uploadFormsWrong)

/-- 'skifflaw20.UploadAll': WHATEVER THE INPUT: true; the input reads as it did. -/
def uploadAllSpec : ChangeSpec := { name := "uploadAll", fn := fun _ => fun
  | [d] => { results := [.lit (.bool true)], args := [d] }
  | _ => none }
def uploadAllRow : OpenClaim := { program := "ytmidohjfajbpmaa", sum := "e6f2b191d6a9030c8a73abc5d48d69306392403a281e15b5aade9db3bd0441af", func := "skiff/skifflaw20.UploadAll", spec := "uploadAll", unfollowed := true, recurses := true, apart := false }
def UploadAllSaid : Prop := uploadAllRow.holds Try.pinned (OpenSpec.ofChange uploadAllSpec)

/-- ITS FALSE NEIGHBOUR: 'it returns false'. Refute it at one input. -/
def uploadAllWrong : ChangeSpec := { name := "uploadAll", fn := fun _ => fun
  | [d] => { results := [.lit (.bool false)], args := [d] }
  | _ => none }
def UploadAllWrongFalsely : Prop := uploadAllRow.holds Try.pinned (OpenSpec.ofChange uploadAllWrong)

/-- 'skifflaw20.UploadRow': WHATEVER THE INPUT: true; the input reads as it did. -/
def uploadRowSpec : ChangeSpec := { name := "uploadRow", fn := fun _ => fun
  | [d1, d2] => { results := [.lit (.bool true)], args := [d1, d2] }
  | _ => none }
def uploadRowRow : OpenClaim := { program := "ytmidohjfajbpmaa", sum := "e6f2b191d6a9030c8a73abc5d48d69306392403a281e15b5aade9db3bd0441af", func := "skiff/skifflaw20.UploadRow", spec := "uploadRow", unfollowed := true, recurses := true, apart := false }
def UploadRowSaid : Prop := uploadRowRow.holds Try.pinned (OpenSpec.ofChange uploadRowSpec)

/-- ITS FALSE NEIGHBOUR: 'it returns false'. Refute it at one input. -/
def uploadRowWrong : ChangeSpec := { name := "uploadRow", fn := fun _ => fun
  | [d1, d2] => { results := [.lit (.bool false)], args := [d1, d2] }
  | _ => none }
def UploadRowWrongFalsely : Prop := uploadRowRow.holds Try.pinned (OpenSpec.ofChange uploadRowWrong)

/-- 'skifflaw20.UploadShort': WHATEVER THE INPUT: true; the input reads as it did. -/
def uploadShortSpec : ChangeSpec := { name := "uploadShort", fn := fun _ => fun
  | [d] => { results := [.lit (.bool true)], args := [d] }
  | _ => none }
def uploadShortRow : OpenClaim := { program := "ytmidohjfajbpmaa", sum := "e6f2b191d6a9030c8a73abc5d48d69306392403a281e15b5aade9db3bd0441af", func := "skiff/skifflaw20.UploadShort", spec := "uploadShort", unfollowed := true, recurses := true, apart := false }
def UploadShortSaid : Prop := uploadShortRow.holds Try.pinned (OpenSpec.ofChange uploadShortSpec)

/-- ITS FALSE NEIGHBOUR: 'it returns false'. Refute it at one input. -/
def uploadShortWrong : ChangeSpec := { name := "uploadShort", fn := fun _ => fun
  | [d] => { results := [.lit (.bool false)], args := [d] }
  | _ => none }
def UploadShortWrongFalsely : Prop := uploadShortRow.holds Try.pinned (OpenSpec.ofChange uploadShortWrong)

/-- 'skifflaw20.UploadElder': WHATEVER THE INPUT: true; the input reads as it did. -/
def uploadElderSpec : ChangeSpec := { name := "uploadElder", fn := fun _ => fun
  | [d1, d2] => { results := [.lit (.bool true)], args := [d1, d2] }
  | _ => none }
def uploadElderRow : OpenClaim := { program := "ytmidohjfajbpmaa", sum := "e6f2b191d6a9030c8a73abc5d48d69306392403a281e15b5aade9db3bd0441af", func := "skiff/skifflaw20.UploadElder", spec := "uploadElder", unfollowed := true, recurses := true, apart := false }
def UploadElderSaid : Prop := uploadElderRow.holds Try.pinned (OpenSpec.ofChange uploadElderSpec)

/-- ITS FALSE NEIGHBOUR: 'it returns false'. Refute it at one input. -/
def uploadElderWrong : ChangeSpec := { name := "uploadElder", fn := fun _ => fun
  | [d1, d2] => { results := [.lit (.bool false)], args := [d1, d2] }
  | _ => none }
def UploadElderWrongFalsely : Prop := uploadElderRow.holds Try.pinned (OpenSpec.ofChange uploadElderWrong)

/- THE SECOND FORM. 'bulk': how many values and letters a reading holds, each counted each time it is reached (what is shared counts as often as it is met; a slice's spare places count too). A statement '..UptoSaid' is the law's where the arguments, and the package variables that the reading takes, are together of bulk at most 1048576: NARROWER than '..Said'. Prove '..Said' where nothing that the law and all that it calls make is longer than what came in: it says more and counts as full. Else prove '..UptoSaid'. A law counts once. -/
mutual
def uptoBulk {H : Type} : DataW H → Nat
  | .lit (.string bytes) => bytes.length + 1
  | .lit _ => 1
  | .nil => 1
  | .ptr d => uptoBulk d + 1
  | .slice elems spare => uptoBulkAll elems + uptoBulkAll spare + 1
  | .agg parts => uptoBulkAll parts + 1
  | .iface _ d => uptoBulk d + 1
  | .map entries => uptoBulkEntries entries + 1
  | .held _ => 1
def uptoBulkAll {H : Type} : List (DataW H) → Nat
  | [] => 0
  | d :: r => uptoBulk d + uptoBulkAll r
def uptoBulkEntries {H : Type} : List (Lit × DataW H) → Nat
  | [] => 0
  | x :: r => uptoBulkEntry x + uptoBulkEntries r
def uptoBulkEntry {H : Type} : Lit × DataW H → Nat
  | (.string bytes, d) => bytes.length + uptoBulk d + 1
  | (_, d) => uptoBulk d + 1
 end
def uptoSmall : (H : Type) → List (DataW H) → Bool := fun _ ds => decide (uptoBulkAll ds ≤ 1048576)
def OpenSpec.upto (s : _root_.Go.ChangeSpec) : _root_.Go.OpenSpec := { _root_.Go.OpenSpec.ofChange s with cond := some uptoSmall }

/-- 'skifflaw20.Uploads', WHERE WHAT IT READS IS OF BULK AT MOST 1048576: true; the input reads as it did. -/
def uploadsUptoRow : OpenClaim := { program := "ytmidohjfajbpmaa", sum := "e6f2b191d6a9030c8a73abc5d48d69306392403a281e15b5aade9db3bd0441af", func := "skiff/skifflaw20.Uploads", spec := "uploads", unfollowed := true, recurses := true, apart := false, narrowed := true }
def UploadsUptoSaid : Prop := uploadsUptoRow.holds Try.pinned (OpenSpec.upto uploadsSpec)

/-- 'skifflaw20.UploadForms', WHERE WHAT IT READS IS OF BULK AT MOST 1048576: true; the input reads as it did. -/
def uploadFormsUptoRow : OpenClaim := { program := "ytmidohjfajbpmaa", sum := "e6f2b191d6a9030c8a73abc5d48d69306392403a281e15b5aade9db3bd0441af", func := "skiff/skifflaw20.UploadForms", spec := "uploadForms", unfollowed := true, recurses := true, apart := false, narrowed := true }
def UploadFormsUptoSaid : Prop := uploadFormsUptoRow.holds Try.pinned (OpenSpec.upto uploadFormsSpec)

/-- 'skifflaw20.UploadAll', WHERE WHAT IT READS IS OF BULK AT MOST 1048576: true; the input reads as it did. -/
def uploadAllUptoRow : OpenClaim := { program := "ytmidohjfajbpmaa", sum := "e6f2b191d6a9030c8a73abc5d48d69306392403a281e15b5aade9db3bd0441af", func := "skiff/skifflaw20.UploadAll", spec := "uploadAll", unfollowed := true, recurses := true, apart := false, narrowed := true }
def UploadAllUptoSaid : Prop := uploadAllUptoRow.holds Try.pinned (OpenSpec.upto uploadAllSpec)

/-- 'skifflaw20.UploadRow', WHERE WHAT IT READS IS OF BULK AT MOST 1048576: true; the input reads as it did. -/
def uploadRowUptoRow : OpenClaim := { program := "ytmidohjfajbpmaa", sum := "e6f2b191d6a9030c8a73abc5d48d69306392403a281e15b5aade9db3bd0441af", func := "skiff/skifflaw20.UploadRow", spec := "uploadRow", unfollowed := true, recurses := true, apart := false, narrowed := true }
def UploadRowUptoSaid : Prop := uploadRowUptoRow.holds Try.pinned (OpenSpec.upto uploadRowSpec)

/-- 'skifflaw20.UploadShort', WHERE WHAT IT READS IS OF BULK AT MOST 1048576: true; the input reads as it did. -/
def uploadShortUptoRow : OpenClaim := { program := "ytmidohjfajbpmaa", sum := "e6f2b191d6a9030c8a73abc5d48d69306392403a281e15b5aade9db3bd0441af", func := "skiff/skifflaw20.UploadShort", spec := "uploadShort", unfollowed := true, recurses := true, apart := false, narrowed := true }
def UploadShortUptoSaid : Prop := uploadShortUptoRow.holds Try.pinned (OpenSpec.upto uploadShortSpec)

/-- 'skifflaw20.UploadElder', WHERE WHAT IT READS IS OF BULK AT MOST 1048576: true; the input reads as it did. -/
def uploadElderUptoRow : OpenClaim := { program := "ytmidohjfajbpmaa", sum := "e6f2b191d6a9030c8a73abc5d48d69306392403a281e15b5aade9db3bd0441af", func := "skiff/skifflaw20.UploadElder", spec := "uploadElder", unfollowed := true, recurses := true, apart := false, narrowed := true }
def UploadElderUptoSaid : Prop := uploadElderUptoRow.holds Try.pinned (OpenSpec.upto uploadElderSpec)

end Rows
end Go.Proofs.Ytmidohjfajbpmaa
