/- A record written on a blank flash and cut anywhere: it is there whole, or it is no record. -/
import Derived.Test.YtbpmmjfibnkmeaaFlash
set_option linter.unusedVariables false
set_option linter.unusedSimpArgs false
set_option maxHeartbeats 4000000
namespace Skiff

theorem or_and_back (a m : UInt8) : (a ||| m) &&& a = a := by
  apply UInt8.toBitVec_inj.1
  ext i hi
  simp
  cases a.toBitVec[i] <;> simp
theorem and_both (g h : UInt8) (h1 : g &&& h = h) (h2 : ~~~ g &&& ~~~ h = ~~~ h) : g = h := by
  apply UInt8.toBitVec_inj.1
  ext i hi
  have e1 := congrArg (fun x : UInt8 => x.toBitVec[i]) h1
  have e2 := congrArg (fun x : UInt8 => x.toBitVec[i]) h2
  simp at e1 e2
  revert e1 e2
  cases g.toBitVec[i] <;> cases h.toBitVec[i] <;> simp

/-- Whatever bit p sets, f has set. -/
def Sup (p f : List UInt8) : Prop := ∀ i, i < p.length → f.getD i 0 &&& p.getD i 0 = p.getD i 0
theorem sup_flash0 (p : List UInt8) (h : p.length = 24) : Sup p flash0 := by
  intro i hi
  have e : flash0.getD i 0 = 255 := by
    unfold flash0
    rw [List.getD_eq_getElem?_getD, List.getElem?_replicate, if_pos (by omega)]; rfl
  rw [e]
  have h : ∀ n : Fin 256, 255 &&& UInt8.ofFin n = UInt8.ofFin n := by decide +kernel
  exact h (p.getD i 0).toFin
theorem tornF_length (f w : List UInt8) (a n : Nat) (h : a + 4 ≤ f.length) : (tornF f a w n).length = f.length := by
  unfold tornF
  simp
  omega
theorem tornF_at (f w : List UInt8) (a n i : Nat) (h : a + 4 ≤ f.length) (hw : w.length = 4) :
    (tornF f a w n).getD i 0 = if a ≤ i ∧ i < a + 4 then tornB (f.getD i 0) (w.getD (i - a) 0) (n - 8 * (i - a)) else f.getD i 0 := by
  have l1 : (f.take a).length = a := by simp; omega
  have l2 : (tornL ((f.drop a).take 4) w n).length = 4 := by simp; omega
  unfold tornF
  by_cases h1 : i < a
  · rw [if_neg (by omega), List.append_assoc, List.getD_eq_getElem?_getD, List.getElem?_append_left (by omega), List.getElem?_take, if_pos h1, ← List.getD_eq_getElem?_getD]
  · by_cases h2 : i < a + 4
    · rw [if_pos ⟨by omega, h2⟩, List.append_assoc, List.getD_eq_getElem?_getD, List.getElem?_append_right (by omega), l1, List.getElem?_append_left (by omega), ← List.getD_eq_getElem?_getD,
        tornL_at _ _ _ _ (by simp; omega) (by omega)]
      congr 1
      rw [List.getD_eq_getElem?_getD, List.getElem?_take, if_pos (by omega), List.getElem?_drop, show a + (i - a) = i by omega, ← List.getD_eq_getElem?_getD]
    · rw [if_neg (by omega), List.append_assoc, List.getD_eq_getElem?_getD, List.getElem?_append_right (by omega), l1, List.getElem?_append_right (by omega), l2, List.getElem?_drop, show a + 4 + (i - a - 4) = i by omega, ← List.getD_eq_getElem?_getD]
theorem sup_torn {p f : List UInt8} (c n : Nat) (hp : p.length = 24) (hf : f.length = 768) (hc : c < 6) (h : Sup p f) : Sup p (tornF f (4 * c) ((p.drop (4 * c)).take 4) n) := by
  intro i hi
  have hi' := h i hi
  rw [tornF_at _ _ _ _ _ (by omega) (by simp; omega)]
  split
  · rename_i hr
    have e : ((p.drop (4 * c)).take 4).getD (i - 4 * c) 0 = p.getD i 0 := by
      rw [List.getD_eq_getElem?_getD, List.getElem?_take, if_pos (by omega), List.getElem?_drop, show 4 * c + (i - 4 * c) = i by omega, ← List.getD_eq_getElem?_getD]
    rw [e]
    unfold tornB maskB
    rw [UInt8.and_assoc, or_and_back, hi']
  · exact hi'
theorem sup_whole {r q : Rec} {F : List UInt8} (hl : F.length = 24) (h : Sup (put r) F) (hg : get F = some q) : F = put r := by
  have hq := (get_some hg).2
  have lr := half_length r
  have lq := half_length q
  have e : half q = half r := by
    apply List.ext_getElem (by omega)
    intro i h1 h2
    have s1 := h i (by simp; omega)
    have s2 := h (i + 12) (by simp; omega)
    have a1 : F.getD i 0 = (half q)[i] := by rw [← hq, put, List.getD_eq_getElem?_getD, List.getElem?_append_left (by omega), List.getElem?_eq_getElem h1]; rfl
    have a2 : (put r).getD i 0 = (half r)[i] := by rw [put, List.getD_eq_getElem?_getD, List.getElem?_append_left (by omega), List.getElem?_eq_getElem h2]; rfl
    have a3 : F.getD (i + 12) 0 = ~~~ (half q)[i] := by
      rw [← hq, put, List.getD_eq_getElem?_getD, List.getElem?_append_right (by omega), lq, show i + 12 - 12 = i by omega]
      rw [compl, List.getElem?_map, List.getElem?_eq_getElem h1]; rfl
    have a4 : (put r).getD (i + 12) 0 = ~~~ (half r)[i] := by
      rw [put, List.getD_eq_getElem?_getD, List.getElem?_append_right (by omega), lr, show i + 12 - 12 = i by omega]
      rw [compl, List.getElem?_map, List.getElem?_eq_getElem h2]; rfl
    rw [a1, a2] at s1
    rw [a3, a4] at s2
    exact and_both _ _ s1 s2
  rw [← hq, put, put, e]
theorem sup_take {p f : List UInt8} (hp : p.length = 24) (h : Sup p f) : Sup p (f.take 24) := by
  intro i hi
  rw [List.getD_eq_getElem?_getD, List.getElem?_take, if_pos (by omega), ← List.getD_eq_getElem?_getD]
  exact h i hi
theorem torn_some {f w : List UInt8} (c n : Nat) (hf : f.length = 768) (hc : c < 6) (hw : w.length = 4) (hn : n ≤ 32) : torn f (4 * (c : Int)) w (n : Int) = some (tornF f (4 * c) w n) := by
  unfold torn
  rw [if_pos]
  · congr 1
  · simp only [tornMay, wordAt, within, Bool.and_eq_true, decide_eq_true_eq]
    omega

end Skiff
