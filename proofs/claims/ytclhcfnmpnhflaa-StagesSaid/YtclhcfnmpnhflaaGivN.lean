
/- Contracts of chapter 2, in the form in which the kit's print states its own. -/
import Derived.Test.YtclhcfnmpnhflaaNorC
set_option linter.unusedVariables false
set_option linter.unusedSimpArgs false
set_option maxHeartbeats 4000000
namespace Skiff
def tornPair (o : Option (List UInt8)) : ByteArray × Int := match o with
  | some l => (mk l, 0)
  | none => (mk [], 200)
def fulls (n : Int) : Option ByteArray := if 0 ≤ n ∧ n ≤ 768 then some (mk (List.replicate n.toNat 255)) else none
def repeats (s : ByteArray) (n : Int) : Option ByteArray := if bl s = [255] then fulls n else none
end Skiff
namespace Go.Proofs.Ytclhcfnmpnhflaa
open Go.RowKit Skiff

theorem tornRes_pair {o : Option (List UInt8)} {r1 : ByteArray} {r2 : Int} (h : some (tornPair o) = some (r1, r2)) : tornRes o = .tuple #[.string r1, .int .i64 r2] := by
  have h := Option.some.inj h
  cases o with
  | none => simp only [tornPair, Prod.mk.injEq] at h; obtain ⟨rfl, rfl⟩ := h; rfl
  | some l => simp only [tornPair, Prod.mk.injEq] at h; obtain ⟨rfl, rfl⟩ := h; rfl




theorem g_skiffref1_Torn (a0 : ByteArray) (a1 : Int) (a2 : ByteArray) (a3 : Int) (r1 : ByteArray) (r2 : Int) (w : World) (h : some (tornPair (torn (bl a0) a1 (bl a2) a3)) = some (r1, r2)) :
    Calls Try.prog 51 #[.string a0, .int .i64 a1, .string a2, .int .i64 a3] w fun e w' => e = .returned (.tuple #[.string r1, .int .i64 r2]) ∧ Below w.heap.size w w' :=
  (rtorn_calls a0 a2 a1 a3 w).mono fun e w' ⟨he, hw⟩ => ⟨by rw [he, tornRes_pair h], hw⟩


theorem g_skiffref1_Worn (a0 : ByteArray) (a1 : Int) (a2 : Int) (r1 : ByteArray) (r2 : Int) (w : World) (h : some (tornPair (worn (bl a0) a1 a2)) = some (r1, r2)) :
    Calls Try.prog 50 #[.string a0, .int .i64 a1, .int .i64 a2] w fun e w' => e = .returned (.tuple #[.string r1, .int .i64 r2]) ∧ Below w.heap.size w w' :=
  (rworn_calls a0 a1 a2 w).mono fun e w' ⟨he, hw⟩ => ⟨by rw [he, tornRes_pair h], hw⟩



theorem g_skiffref1_Blank (r : ByteArray) (w : World) (h : some (mk flash0) = some r) :
    Calls Try.prog 18 #[] w fun e w' => e = .returned (.string r) ∧ Below w.heap.size w w' :=
  (rblank_calls w).mono fun e w' ⟨he, hw⟩ => ⟨by rw [he, Option.some.inj h], hw⟩

theorem fulls_some {n : Int} {r : ByteArray} (h : fulls n = some r) : ∃ k : Nat, n = k ∧ k ≤ 768 ∧ r = mk (List.replicate k 255) := by
  unfold fulls at h
  split at h
  · exact ⟨n.toNat, by omega, by omega, (Option.some.inj h).symm⟩
  · cases h
theorem g_skiffref1_full (a0 : Int) (r : ByteArray) (w : World) (h : fulls a0 = some r) :
    Calls Try.prog 37 #[.int .i64 a0] w fun e w' => e = .returned (.string r) ∧ Below w.heap.size w w' := by
  obtain ⟨k, rfl, hk, rfl⟩ := fulls_some h
  exact rfull_calls k hk w


end Go.Proofs.Ytclhcfnmpnhflaa
