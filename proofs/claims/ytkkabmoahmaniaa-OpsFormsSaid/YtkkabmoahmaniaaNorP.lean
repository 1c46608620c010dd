/- Plain laws of the flash. -/
import Derived.Test.YtkkabmoahmaniaaHandA
set_option linter.unusedVariables false
set_option linter.unusedSimpArgs false
set_option maxHeartbeats 4000000
namespace Skiff

theorem wornF_length (f : List UInt8) (a n : Nat) (h : a + n ≤ f.length) : (wornF f a n).length = f.length := by
  unfold wornF
  simp
  omega
theorem wornF_at (f : List UInt8) (a n i : Nat) (h : a + n ≤ f.length) : (wornF f a n).getD i 0 = if a ≤ i ∧ i < a + n then 255 else f.getD i 0 := by
  have l1 : (f.take a).length = a := by simp; omega
  unfold wornF
  by_cases h1 : i < a
  · rw [if_neg (by omega), List.append_assoc, List.getD_eq_getElem?_getD, List.getElem?_append_left (by omega), List.getElem?_take, if_pos h1, ← List.getD_eq_getElem?_getD]
  · by_cases h2 : i < a + n
    · rw [if_pos ⟨by omega, h2⟩, List.append_assoc, List.getD_eq_getElem?_getD, List.getElem?_append_right (by omega), l1, List.getElem?_append_left (by simp; omega), List.getElem?_replicate, if_pos (by omega)]
      rfl
    · rw [if_neg (by omega), List.append_assoc, List.getD_eq_getElem?_getD, List.getElem?_append_right (by omega), l1, List.getElem?_append_right (by simp; omega), List.length_replicate, List.getElem?_drop, show a + n + (i - a - n) = i by omega, ← List.getD_eq_getElem?_getD]
/-- Two rows of bytes of one length, the same at each place. -/
theorem ext_getD {a b : List UInt8} (hl : a.length = b.length) (h : ∀ i, a.getD i 0 = b.getD i 0) : a = b := by
  apply List.ext_getElem hl
  intro i h1 h2
  have := h i
  rwa [List.getD_eq_getElem?_getD, List.getD_eq_getElem?_getD, List.getElem?_eq_getElem h1, List.getElem?_eq_getElem h2] at this
theorem wornF_wornF (f : List UInt8) (a i j : Nat) (h1 : a + i ≤ f.length) (h2 : a + j ≤ f.length) : wornF (wornF f a i) a j = wornF f a (max i j) := by
  have l1 := wornF_length f a i h1
  have l2 := wornF_length (wornF f a i) a j (by omega)
  have l3 := wornF_length f a (max i j) (by omega)
  apply ext_getD (by omega)
  intro k
  rw [wornF_at _ _ _ _ (by omega), wornF_at _ _ _ _ h1, wornF_at _ _ _ _ (by omega)]
  by_cases c1 : a ≤ k ∧ k < a + j
  · rw [if_pos c1, if_pos (by omega)]
  · rw [if_neg c1]
    by_cases c2 : a ≤ k ∧ k < a + i
    · rw [if_pos c2, if_pos (by omega)]
    · rw [if_neg c2, if_neg (by omega)]

theorem mask_mask (w : UInt8) (i j : Nat) : maskB w i &&& maskB w j = maskB w (max i j) := by
  have h : ∀ (p q : Fin 9) (n : Fin 256), maskB (UInt8.ofFin n) p.val &&& maskB (UInt8.ofFin n) q.val = maskB (UInt8.ofFin n) (max p.val q.val) := by decide +kernel
  have e : ∀ m, maskB w m = maskB w (min m 8) := by intro m; unfold maskB; rw [show min (min m 8) 8 = min m 8 by omega]
  have h2 := h ⟨min i 8, by omega⟩ ⟨min j 8, by omega⟩ w.toFin
  rw [e i, e j, e (max i j), show min (max i j) 8 = max (min i 8) (min j 8) by omega]
  exact h2
theorem tornB_tornB (b w : UInt8) (i j : Nat) : tornB (tornB b w i) w j = tornB b w (max i j) := by
  unfold tornB
  rw [UInt8.and_assoc, mask_mask]
theorem tornF_tornF (f w : List UInt8) (a i j : Nat) (h : a + 4 ≤ f.length) (hw : w.length = 4) : tornF (tornF f a w i) a w j = tornF f a w (max i j) := by
  have l1 := tornF_length f w a i h
  have l2 := tornF_length (tornF f a w i) w a j (by omega)
  have l3 := tornF_length f w a (max i j) h
  apply ext_getD (by omega)
  intro k
  rw [tornF_at _ _ _ _ _ (by omega) hw, tornF_at _ _ _ _ _ h hw, tornF_at _ _ _ _ _ h hw]
  by_cases c1 : a ≤ k ∧ k < a + 4
  · rw [if_pos c1, if_pos c1, if_pos c1, tornB_tornB, show max (i - 8 * (k - a)) (j - 8 * (k - a)) = max i j - 8 * (k - a) by omega]
  · rw [if_neg c1, if_neg c1, if_neg c1]
theorem tornF_full (f w : List UInt8) (a i : Nat) (h : a + 4 ≤ f.length) (hw : w.length = 4) : (tornF f a w 32).getD i 0 = if a ≤ i ∧ i < a + 4 then f.getD i 0 &&& w.getD (i - a) 0 else f.getD i 0 := by
  rw [tornF_at _ _ _ _ _ h hw]
  split
  · unfold tornB
    rw [maskB_full _ _ (by omega)]
  · rfl
theorem tornF_swap (f v w : List UInt8) (a b : Nat) (ha : a + 4 ≤ f.length) (hb : b + 4 ≤ f.length) (hv : v.length = 4) (hw : w.length = 4) : tornF (tornF f a v 32) b w 32 = tornF (tornF f b w 32) a v 32 := by
  have l1 := tornF_length f v a 32 ha
  have l2 := tornF_length f w b 32 hb
  have l3 := tornF_length (tornF f a v 32) w b 32 (by omega)
  have l4 := tornF_length (tornF f b w 32) v a 32 (by omega)
  apply ext_getD (by omega)
  intro k
  rw [tornF_full _ _ _ _ (by omega) hw, tornF_full _ _ _ _ ha hv, tornF_full _ _ _ _ (by omega) hv, tornF_full _ _ _ _ hb hw]
  by_cases c1 : b ≤ k ∧ k < b + 4
  · by_cases c2 : a ≤ k ∧ k < a + 4
    · rw [if_pos c1, if_pos c2, if_pos c2, if_pos c1, UInt8.and_assoc, UInt8.and_assoc, UInt8.and_comm (v.getD _ _)]
    · rw [if_pos c1, if_neg c2, if_neg c2, if_pos c1]
  · by_cases c2 : a ≤ k ∧ k < a + 4
    · rw [if_neg c1, if_pos c2, if_pos c2, if_neg c1]
    · rw [if_neg c1, if_neg c2, if_neg c2, if_neg c1]

end Skiff
