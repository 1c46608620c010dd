/-
  No cell of these rows narrows 'for every input' (looked for: loops, veiled, ifaces, maps, wideKeys, modest, calm, conditions, laid).
  DERIVED. THE GIVEN ROWS OF THIS SEAT. 4 by the template 'for every input the law returns true; each argument reads behind the call as it read before'; 0 by the template 'total and deterministic' (their statements: YthkpaoajfiapkaaGreatTotals.lean).
  GIVEN WITH THE SEED: the statements are not yours to turn. If you find one false, say at which input.
  Laid BY PROGRAM, IN A SANDBOX (cutbox-rows.mjs): the forced cells as the released guide's own fill.sh prints them over the translation e21e493928dc9cb4… (all of the seat's roots in one cut). By AI agents, Wed Nov 11 2026. No macro, syntax, notation, axiom, sorry.
-/
import Derived.Test.YthkpaoajfiapkaaGreatChecked
import GoSem.Claim
import GoSem.ClaimJoined
import GoSem.ClaimMapViews
import Derived.JoinedTies
import Derived.KernelRfl
namespace Go.Proofs.YthkpaoajfiapkaaGreat
/- THE CELL 'sum', in the pinned program and in every row, IS THE sha256 OF THE DUMP (.gsa) THAT YthkpaoajfiapkaaGreatProg.lean LOADS. Nothing in Lean hashes anything: it is a label: what it is worth is what the hold of that sum in a sandbox is worth. -/
noncomputable def Tryz.pinned : Pinned := { name := "ythkpaoajfiapkaagreat", sum := "e21e493928dc9cb4767ee1ce87e78b6d120a06b2169de37b6e2c452491a54cb9", checked := Tryz.checked }
namespace Rows
def none {H : Type} : Left H := { results := [], args := [] }

/-- 'skifflaw17.Downloads': WHATEVER THE INPUT: true; the input reads as it did. -/
def downloadsSpec : ChangeSpec := { name := "downloads", fn := fun _ => fun
  | [d1, d2, d3, d4] => { results := [.lit (.bool true)], args := [d1, d2, d3, d4] }
  | _ => none }
def downloadsRow : OpenClaim := { program := "ythkpaoajfiapkaagreat", sum := "e21e493928dc9cb4767ee1ce87e78b6d120a06b2169de37b6e2c452491a54cb9", func := "skiff/skifflaw17.Downloads", spec := "downloads", inPlace := ["internal/abi.NoEscape", "internal/bytealg.MakeNoZero"], unfollowed := true, recurses := true, apart := false }
def DownloadsSaid : Prop := downloadsRow.holds Tryz.pinned (OpenSpec.ofChange downloadsSpec)

/-- ITS FALSE NEIGHBOUR: 'it returns false'. Refute it at one input. -/
def downloadsWrong : ChangeSpec := { name := "downloads", fn := fun _ => fun
  | [d1, d2, d3, d4] => { results := [.lit (.bool false)], args := [d1, d2, d3, d4] }
  | _ => none }
def DownloadsWrongFalsely : Prop := downloadsRow.holds Tryz.pinned (OpenSpec.ofChange downloadsWrong)

/-- 'skifflaw17.DownloadBlocks': WHATEVER THE INPUT: true; the input reads as it did. -/
def downloadBlocksSpec : ChangeSpec := { name := "downloadBlocks", fn := fun _ => fun
  | [d1, d2, d3] => { results := [.lit (.bool true)], args := [d1, d2, d3] }
  | _ => none }
def downloadBlocksRow : OpenClaim := { program := "ythkpaoajfiapkaagreat", sum := "e21e493928dc9cb4767ee1ce87e78b6d120a06b2169de37b6e2c452491a54cb9", func := "skiff/skifflaw17.DownloadBlocks", spec := "downloadBlocks", inPlace := ["internal/abi.NoEscape", "internal/bytealg.MakeNoZero"], unfollowed := true, recurses := true, apart := false }
def DownloadBlocksSaid : Prop := downloadBlocksRow.holds Tryz.pinned (OpenSpec.ofChange downloadBlocksSpec)

/-- ITS FALSE NEIGHBOUR: 'it returns false'. Refute it at one input. -/
def downloadBlocksWrong : ChangeSpec := { name := "downloadBlocks", fn := fun _ => fun
  | [d1, d2, d3] => { results := [.lit (.bool false)], args := [d1, d2, d3] }
  | _ => none }
def DownloadBlocksWrongFalsely : Prop := downloadBlocksRow.holds Tryz.pinned (OpenSpec.ofChange downloadBlocksWrong)

/-- 'skifflaw17.DownloadFirst': WHATEVER THE INPUT: true; the input reads as it did. -/
def downloadFirstSpec : ChangeSpec := { name := "downloadFirst", fn := fun _ => fun
  | [d1, d2] => { results := [.lit (.bool true)], args := [d1, d2] }
  | _ => none }
def downloadFirstRow : OpenClaim := { program := "ythkpaoajfiapkaagreat", sum := "e21e493928dc9cb4767ee1ce87e78b6d120a06b2169de37b6e2c452491a54cb9", func := "skiff/skifflaw17.DownloadFirst", spec := "downloadFirst", inPlace := ["internal/abi.NoEscape", "internal/bytealg.MakeNoZero"], unfollowed := true, recurses := true, apart := false }
def DownloadFirstSaid : Prop := downloadFirstRow.holds Tryz.pinned (OpenSpec.ofChange downloadFirstSpec)

/-- ITS FALSE NEIGHBOUR: 'it returns false'. Refute it at one input. -/
def downloadFirstWrong : ChangeSpec := { name := "downloadFirst", fn := fun _ => fun
  | [d1, d2] => { results := [.lit (.bool false)], args := [d1, d2] }
  | _ => none }
def DownloadFirstWrongFalsely : Prop := downloadFirstRow.holds Tryz.pinned (OpenSpec.ofChange downloadFirstWrong)

/-- 'skifflaw17.DownloadMixed': WHATEVER THE INPUT: true; the input reads as it did. -/
def downloadMixedSpec : ChangeSpec := { name := "downloadMixed", fn := fun _ => fun
  | [d1, d2, d3] => { results := [.lit (.bool true)], args := [d1, d2, d3] }
  | _ => none }
def downloadMixedRow : OpenClaim := { program := "ythkpaoajfiapkaagreat", sum := "e21e493928dc9cb4767ee1ce87e78b6d120a06b2169de37b6e2c452491a54cb9", func := "skiff/skifflaw17.DownloadMixed", spec := "downloadMixed", inPlace := ["internal/abi.NoEscape", "internal/bytealg.MakeNoZero"], unfollowed := true, recurses := true, apart := false }
def DownloadMixedSaid : Prop := downloadMixedRow.holds Tryz.pinned (OpenSpec.ofChange downloadMixedSpec)

/-- ITS FALSE NEIGHBOUR: 'it returns false'. Refute it at one input. -/
def downloadMixedWrong : ChangeSpec := { name := "downloadMixed", fn := fun _ => fun
  | [d1, d2, d3] => { results := [.lit (.bool false)], args := [d1, d2, d3] }
  | _ => none }
def DownloadMixedWrongFalsely : Prop := downloadMixedRow.holds Tryz.pinned (OpenSpec.ofChange downloadMixedWrong)

/- THE SECOND FORM. 'bulk': how many values and letters a reading holds, each counted each time it is reached (what is shared counts as often as it is met; a slice's spare places count too). A statement '..UptoSaid' is the law's where the arguments, and the package variables that the reading takes, are together of bulk at most 1048576: NARROWER than '..Said'. Prove '..Said' where nothing that the law and all that it calls make is longer than what came in: it says more and counts as full. Else prove '..UptoSaid'. A law counts once. -/
mutual
def uptoBulk {H : Type} : DataW H → Nat
  | .lit (.string bytes) => bytes.length + 1
  | .lit _ => 1
  | .nil => 1
  | .ptr d => uptoBulk d + 1
  | .slice elems spare => uptoBulkAll elems + uptoBulkAll spare + 1
  | .agg parts => uptoBulkAll parts + 1
  | .iface _ d => uptoBulk d + 1
  | .map entries => uptoBulkEntries entries + 1
  | .held _ => 1
def uptoBulkAll {H : Type} : List (DataW H) → Nat
  | [] => 0
  | d :: r => uptoBulk d + uptoBulkAll r
def uptoBulkEntries {H : Type} : List (Lit × DataW H) → Nat
  | [] => 0
  | x :: r => uptoBulkEntry x + uptoBulkEntries r
def uptoBulkEntry {H : Type} : Lit × DataW H → Nat
  | (.string bytes, d) => bytes.length + uptoBulk d + 1
  | (_, d) => uptoBulk d + 1
 end
def uptoSmall : (H : Type) → List (DataW H) → Bool := fun _ ds => decide (uptoBulkAll ds ≤ 1048576)
def OpenSpec.upto (s : _root_.Go.ChangeSpec) : _root_.Go.OpenSpec := { _root_.Go.OpenSpec.ofChange s with cond := some uptoSmall }

/-- 'skifflaw17.Downloads', WHERE WHAT IT READS IS OF BULK AT MOST 1048576: true; the input reads as it did. -/
def downloadsUptoRow : OpenClaim := { program := "ythkpaoajfiapkaagreat", sum := "e21e493928dc9cb4767ee1ce87e78b6d120a06b2169de37b6e2c452491a54cb9", func := "skiff/skifflaw17.Downloads", spec := "downloads", inPlace := ["internal/abi.NoEscape", "internal/bytealg.MakeNoZero"], unfollowed := true, recurses := true, apart := false, narrowed := true }
def DownloadsUptoSaid : Prop := downloadsUptoRow.holds Tryz.pinned (OpenSpec.upto downloadsSpec)

/-- 'skifflaw17.DownloadBlocks', WHERE WHAT IT READS IS OF BULK AT MOST 1048576: true; the input reads as it did. -/
def downloadBlocksUptoRow : OpenClaim := { program := "ythkpaoajfiapkaagreat", sum := "e21e493928dc9cb4767ee1ce87e78b6d120a06b2169de37b6e2c452491a54cb9", func := "skiff/skifflaw17.DownloadBlocks", spec := "downloadBlocks", inPlace := ["internal/abi.NoEscape", "internal/bytealg.MakeNoZero"], unfollowed := true, recurses := true, apart := false, narrowed := true }
def DownloadBlocksUptoSaid : Prop := downloadBlocksUptoRow.holds Tryz.pinned (OpenSpec.upto downloadBlocksSpec)

/-- 'skifflaw17.DownloadFirst', WHERE WHAT IT READS IS OF BULK AT MOST 1048576: true; the input reads as it did. -/
def downloadFirstUptoRow : OpenClaim := { program := "ythkpaoajfiapkaagreat", sum := "e21e493928dc9cb4767ee1ce87e78b6d120a06b2169de37b6e2c452491a54cb9", func := "skiff/skifflaw17.DownloadFirst", spec := "downloadFirst", inPlace := ["internal/abi.NoEscape", "internal/bytealg.MakeNoZero"], unfollowed := true, recurses := true, apart := false, narrowed := true }
def DownloadFirstUptoSaid : Prop := downloadFirstUptoRow.holds Tryz.pinned (OpenSpec.upto downloadFirstSpec)

/-- 'skifflaw17.DownloadMixed', WHERE WHAT IT READS IS OF BULK AT MOST 1048576: true; the input reads as it did. -/
def downloadMixedUptoRow : OpenClaim := { program := "ythkpaoajfiapkaagreat", sum := "e21e493928dc9cb4767ee1ce87e78b6d120a06b2169de37b6e2c452491a54cb9", func := "skiff/skifflaw17.DownloadMixed", spec := "downloadMixed", inPlace := ["internal/abi.NoEscape", "internal/bytealg.MakeNoZero"], unfollowed := true, recurses := true, apart := false, narrowed := true }
def DownloadMixedUptoSaid : Prop := downloadMixedUptoRow.holds Tryz.pinned (OpenSpec.upto downloadMixedSpec)

end Rows
end Go.Proofs.YthkpaoajfiapkaaGreat
