
/- Records, in the form in which the kit's print states its own contracts. -/
import Derived.Test.YtclhcfnmpnhflaaRefG
set_option linter.unusedVariables false
set_option linter.unusedSimpArgs false
set_option maxHeartbeats 4000000
namespace Skiff
def putPair (r : Rec) : ByteArray × Int := if recMay r = true then (mk (put r), 0) else (mk [], 400)
def getTup (l : List UInt8) : Int × Int × Int × Int × Int := match get l with
  | some r => (r.seq, r.slot, r.size, r.sum, 0)
  | none => (0, 0, 0, 0, 400)
end Skiff
namespace Go.Proofs.Ytclhcfnmpnhflaa
open Go.RowKit Skiff

theorem putPair_res {r : Rec} {r1 : ByteArray} {r2 : Int} (h : some (putPair r) = some (r1, r2)) : (if recMay r = true then Value.tuple #[.string (mk (put r)), .int .i64 0] else .tuple #[.string (mk []), .int .i64 400]) = .tuple #[.string r1, .int .i64 r2] := by
  have h := Option.some.inj h
  unfold putPair at h
  split at h
  · rename_i hc; rw [if_pos hc]; simp only [Prod.mk.injEq] at h; obtain ⟨rfl, rfl⟩ := h; rfl
  · rename_i hc; rw [if_neg hc]; simp only [Prod.mk.injEq] at h; obtain ⟨rfl, rfl⟩ := h; rfl
theorem getTup_res {l : List UInt8} {r1 r2 r3 r4 r5 : Int} (h : some (getTup l) = some (r1, r2, r3, r4, r5)) : getRes l = .tuple #[.agg #[.int .i64 r1, .int .i64 r2, .int .i64 r3, .int .i64 r4], .int .i64 r5] := by
  have h := Option.some.inj h
  unfold getTup at h
  unfold getRes
  split at h
  · simp only [Prod.mk.injEq] at h; obtain ⟨rfl, rfl, rfl, rfl, rfl⟩ := h; rename_i hc; rw [hc]; rfl
  · simp only [Prod.mk.injEq] at h; obtain ⟨rfl, rfl, rfl, rfl, rfl⟩ := h; rename_i hc; rw [hc]; rfl

theorem g_entry_Get (a0 : ByteArray) (r1 r2 r3 r4 r5 : Int) (w : World) (h : some (getTup (bl a0)) = some (r1, r2, r3, r4, r5)) :
    Calls Try.prog 52 #[.string a0] w fun e w' => e = .returned (.tuple #[.agg #[.int .i64 r1, .int .i64 r2, .int .i64 r3, .int .i64 r4], .int .i64 r5]) ∧ Below w.heap.size w w' :=
  (get_calls a0 w).mono fun e w' ⟨he, hw⟩ => ⟨by rw [he, getTup_res h], hw⟩
theorem g_skiffref1_PutEntry (a0_0 a0_1 a0_2 a0_3 : Int) (r1 : ByteArray) (r2 : Int) (w : World) (h : some (putPair ⟨a0_0, a0_1, a0_2, a0_3⟩) = some (r1, r2)) :
    Calls Try.prog 19 #[.agg #[.int .i64 a0_0, .int .i64 a0_1, .int .i64 a0_2, .int .i64 a0_3]] w fun e w' => e = .returned (.tuple #[.string r1, .int .i64 r2]) ∧ Below w.heap.size w w' :=
  (rput_calls ⟨a0_0, a0_1, a0_2, a0_3⟩ w).mono fun e w' ⟨he, hw⟩ => ⟨by rw [he, putPair_res h], hw⟩

theorem g_skiffref1_GetEntry (a0 : ByteArray) (r1 r2 r3 r4 r5 : Int) (w : World) (h : some (getTup (bl a0)) = some (r1, r2, r3, r4, r5)) :
    Calls Try.prog 36 #[.string a0] w fun e w' => e = .returned (.tuple #[.agg #[.int .i64 r1, .int .i64 r2, .int .i64 r3, .int .i64 r4], .int .i64 r5]) ∧ Below w.heap.size w w' :=
  (rget_calls a0 w).mono fun e w' ⟨he, hw⟩ => ⟨by rw [he, getTup_res h], hw⟩

theorem g_skiffref1_RecordMay (a0_0 a0_1 a0_2 a0_3 : Int) (r : Bool) (w : World) (h : some (recMay ⟨a0_0, a0_1, a0_2, a0_3⟩) = some r) :
    Calls Try.prog 38 #[.agg #[.int .i64 a0_0, .int .i64 a0_1, .int .i64 a0_2, .int .i64 a0_3]] w fun e w' => e = .returned (.bool r) ∧ Below w.heap.size w w' :=
  (recordMay_calls ⟨a0_0, a0_1, a0_2, a0_3⟩ w).mono fun e w' ⟨he, hw⟩ => ⟨by rw [he, Option.some.inj h], hw⟩

theorem g_entry_May (a0_0 a0_1 a0_2 a0_3 : Int) (r : Bool) (w : World) (h : some (recMay ⟨a0_0, a0_1, a0_2, a0_3⟩) = some r) :
    Calls Try.prog 57 #[.agg #[.int .i64 a0_0, .int .i64 a0_1, .int .i64 a0_2, .int .i64 a0_3]] w fun e w' => e = .returned (.bool r) ∧ Below w.heap.size w w' :=
  (may_calls ⟨a0_0, a0_1, a0_2, a0_3⟩ w).mono fun e w' ⟨he, hw⟩ => ⟨by rw [he, Option.some.inj h], hw⟩

end Go.Proofs.Ytclhcfnmpnhflaa
