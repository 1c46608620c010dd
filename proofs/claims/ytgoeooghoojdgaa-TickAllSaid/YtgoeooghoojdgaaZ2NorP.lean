/- Plain laws of the flash. -/
import Derived.Test.YtgoeooghoojdgaaZ2HandA
set_option linter.unusedVariables false
set_option linter.unusedSimpArgs false
set_option maxHeartbeats 4000000
namespace Skiff

theorem wornF_length (f : List UInt8) (a n : Nat) (h : a + n ≤ f.length) : (wornF f a n).length = f.length := by
  unfold wornF
  simp
  omega
theorem wornF_at (f : List UInt8) (a n i : Nat) (h : a + n ≤ f.length) : (wornF f a n).getD i 0 = if a ≤ i ∧ i < a + n then 255 else f.getD i 0 := by
  have l1 : (f.take a).length = a := by simp; omega
  unfold wornF
  by_cases h1 : i < a
  · rw [if_neg (by omega), List.append_assoc, List.getD_eq_getElem?_getD, List.getElem?_append_left (by omega), List.getElem?_take, if_pos h1, ← List.getD_eq_getElem?_getD]
  · by_cases h2 : i < a + n
    · rw [if_pos ⟨by omega, h2⟩, List.append_assoc, List.getD_eq_getElem?_getD, List.getElem?_append_right (by omega), l1, List.getElem?_append_left (by simp; omega), List.getElem?_replicate, if_pos (by omega)]
      rfl
    · rw [if_neg (by omega), List.append_assoc, List.getD_eq_getElem?_getD, List.getElem?_append_right (by omega), l1, List.getElem?_append_right (by simp; omega), List.length_replicate, List.getElem?_drop, show a + n + (i - a - n) = i by omega, ← List.getD_eq_getElem?_getD]
/-- Two rows of bytes of one length, the same at each place. -/
theorem ext_getD {a b : List UInt8} (hl : a.length = b.length) (h : ∀ i, a.getD i 0 = b.getD i 0) : a = b := by
  apply List.ext_getElem hl
  intro i h1 h2
  have := h i
  rwa [List.getD_eq_getElem?_getD, List.getD_eq_getElem?_getD, List.getElem?_eq_getElem h1, List.getElem?_eq_getElem h2] at this

theorem tornF_full (f w : List UInt8) (a i : Nat) (h : a + 4 ≤ f.length) (hw : w.length = 4) : (tornF f a w 32).getD i 0 = if a ≤ i ∧ i < a + 4 then f.getD i 0 &&& w.getD (i - a) 0 else f.getD i 0 := by
  rw [tornF_at _ _ _ _ _ h hw]
  split
  · unfold tornB
    rw [maskB_full _ _ (by omega)]
  · rfl

end Skiff
