/- Words written, steps done again, steps apart: plain laws. -/
import Derived.Test.YtgoeooghoojdgaaZ2OpsP
set_option linter.unusedVariables false
set_option linter.unusedSimpArgs false
set_option maxHeartbeats 4000000
namespace Go.Proofs.Ytgoeooghoojdgaa.O
open Go.RowKit Skiff Go.Proofs.YtgoeooghoojdgaaW.PrintWords Go.Proofs.YtgoeooghoojdgaaW.PrintMore

theorem bt_bl (s : ByteArray) (i : Nat) (h : i < s.size) : bt s (i : Int) = (((bl s).getD i 0).toNat : Int) := by
  unfold bt
  rw [dif_pos (by rw [Int.toNat_natCast]; exact h)]
  simp only [Int.toNat_natCast]
  rw [List.getD_eq_getElem?_getD, List.getElem?_eq_getElem (by rw [bl_length]; exact h)]
  simp [bl]; rfl
/-- A flash on which so many words of a text are written. -/
def Wrote (l : List UInt8) (a : Nat) (t : List UInt8) (n : Nat) : Prop := l.length = 768 ∧ ∀ i, l.getD i 0 = if i < 768 then (if a ≤ i ∧ i < a + 4 * n ∧ i - a < t.length then t.getD (i - a) 0 else 255) else 0
theorem and255 (b : UInt8) : 255 &&& b = b := by
  have h : ∀ n : Fin 256, 255 &&& UInt8.ofFin n = UInt8.ofFin n := by decide +kernel
  exact h b.toFin
theorem flash0_at (i : Nat) : flash0.getD i 0 = if i < 768 then 255 else 0 := by
  unfold flash0
  rw [List.getD_eq_getElem?_getD, List.getElem?_replicate]; split <;> rfl
theorem wrote_zero (a : Nat) (t : List UInt8) : Wrote flash0 a t 0 := by
  refine ⟨flash0_length, fun i => ?_⟩
  rw [flash0_at]
  split
  · rw [if_neg (by omega)]
  · rfl
theorem wrote_step {l : List UInt8} {a : Nat} {t : List UInt8} {n : Nat} (h : Wrote l a t n) (hn : n < manyL t) (ha : a + 4 * manyL t ≤ 768) : Wrote (tornF l (a + 4 * n) (wordL t n) 32) a t (n + 1) := by
  obtain ⟨h1, h2⟩ := h
  have hw := wordL_length hn
  refine ⟨by rw [tornF_length _ _ _ _ (by omega), h1], fun i => ?_⟩
  rw [tornF_full _ _ _ _ (by omega) hw]
  by_cases c : a + 4 * n ≤ i ∧ i < a + 4 * n + 4
  · have e1 : l.getD i 0 = 255 := by rw [h2 i, if_pos (by omega), if_neg (by omega)]
    rw [if_pos c, e1, and255, wordL_at hn (by omega), if_pos (by omega : i < 768), show 4 * n + (i - (a + 4 * n)) = i - a by omega]
    by_cases c2 : i - a < t.length
    · rw [if_pos c2, if_pos (by omega)]
    · rw [if_neg c2, if_neg (by omega)]
  · rw [if_neg c, h2 i]
    by_cases c1 : i < 768
    · rw [if_pos c1, if_pos c1]
      by_cases c2 : a ≤ i ∧ i < a + 4 * n ∧ i - a < t.length
      · rw [if_pos c2, if_pos (by omega)]
      · rw [if_neg c2, if_neg (by omega)]
    · rw [if_neg c1, if_neg c1]
theorem wrote_all {l : List UInt8} {a : Nat} {t : List UInt8} (h : Wrote l a t (manyL t)) (ha : a + t.length ≤ 768) :
    l.take a = flash0.take a ∧ (l.drop a).take t.length = t ∧ l.drop (a + t.length) = flash0.drop (a + t.length) := by
  obtain ⟨h1, h2⟩ := h
  have hm : t.length ≤ 4 * manyL t := by unfold manyL; omega
  refine ⟨?_, ?_, ?_⟩
  · apply ext_getD (by rw [List.length_take, List.length_take, h1, flash0_length])
    intro i
    by_cases c : i < a
    · rw [List.getD_eq_getElem?_getD, List.getD_eq_getElem?_getD, List.getElem?_take, List.getElem?_take, if_pos c, if_pos c, ← List.getD_eq_getElem?_getD, ← List.getD_eq_getElem?_getD, h2, flash0_at, if_pos (by omega), if_neg (by omega), if_pos (by omega)]
    · rw [List.getD_eq_getElem?_getD, List.getD_eq_getElem?_getD, List.getElem?_take, List.getElem?_take, if_neg c, if_neg c]
  · apply ext_getD (by rw [List.length_take, List.length_drop, h1]; omega)
    intro i
    by_cases c : i < t.length
    · rw [List.getD_eq_getElem?_getD, List.getElem?_take, if_pos c, List.getElem?_drop, ← List.getD_eq_getElem?_getD, h2, if_pos (by omega), if_pos (by omega), show a + i - a = i by omega]
    · rw [List.getD_eq_getElem?_getD, List.getElem?_take, if_neg c, List.getD_eq_getElem?_getD, List.getElem?_eq_none (by omega)]
  · apply ext_getD (by rw [List.length_drop, List.length_drop, h1, flash0_length])
    intro i
    rw [List.getD_eq_getElem?_getD, List.getD_eq_getElem?_getD, List.getElem?_drop, List.getElem?_drop, ← List.getD_eq_getElem?_getD, ← List.getD_eq_getElem?_getD, h2, flash0_at]
    by_cases c : a + t.length + i < 768
    · rw [if_pos c, if_pos c, if_neg (by omega)]
    · rw [if_neg c, if_neg c]
theorem wordsMay_iff {a : Int} {t : List UInt8} : wordsMay a t = true ↔ (0 ≤ a ∧ a ≤ 768) ∧ a % 4 = 0 ∧ (t.length : Int) ≤ 768 - a := by
  simp [wordsMay, within]
theorem opF_at (l : List UInt8) (e : Bool) (a : Int) (t : List UInt8) (c i : Nat) (hl : l.length = 768) (hm : opMay e a t = true) (hc : c ≤ 96) :
    (opF l e a t c).getD i 0 = if e = true then (if a.toNat ≤ i ∧ i < a.toNat + c then 255 else l.getD i 0) else (if a.toNat ≤ i ∧ i < a.toNat + 4 then tornB (l.getD i 0) (t.getD (i - a.toNat) 0) (min c 32 - 8 * (i - a.toNat)) else l.getD i 0) := by
  unfold opF
  cases e
  · have h := opMay_false.1 hm
    rw [if_neg Bool.false_ne_true, if_neg Bool.false_ne_true, tornF_at _ _ _ _ _ (by omega) (by omega)]
  · have h := opMay_true.1 hm
    rw [if_pos rfl, if_pos rfl, wornF_at _ _ _ _ (by omega)]

end Go.Proofs.Ytgoeooghoojdgaa.O
