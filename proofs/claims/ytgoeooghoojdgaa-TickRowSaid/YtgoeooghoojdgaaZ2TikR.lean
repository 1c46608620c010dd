/- What the laws of chapter 18 share. -/
import Derived.Test.YtgoeooghoojdgaaZ2TikP
import Derived.Test.YtgoeooghoojdgaaZ2Px6
import Derived.Test.YtgoeooghoojdgaaZ2Px7
import Derived.Test.YtgoeooghoojdgaaZ2Px8
set_option linter.unusedVariables false
set_option linter.unusedSimpArgs false
set_option maxHeartbeats 4000000
namespace Go.Proofs.Ytgoeooghoojdgaa
open Go.RowKit Skiff Go.Proofs.YtgoeooghoojdgaaW.PrintWords Go.Proofs.YtgoeooghoojdgaaW.PrintMore O

def sentT : List UInt8 := [48, 49, 50, 51, 52, 53, 54, 55, 56, 57, 97, 98, 99, 100, 101, 102, 48, 49, 50, 51, 52, 53, 54, 55, 56, 57, 97, 98, 99, 100, 101, 102]
def erase0 : List Opn := [⟨true, 192, ⟨#[]⟩⟩, ⟨true, 288, ⟨#[]⟩⟩, ⟨true, 384, ⟨#[]⟩⟩]
def sentL : List Opn := erase0 ++ wordOps 192 sentT 8
theorem sent_len : sentL.length = 11 := by unfold sentL; rw [List.length_append, wordOps_length]; rfl
theorem sent18_f : P.skifflaw18_sent.f 250 = some (1, 0, 1, 32, 0, sentL) := by kernel_rfl
theorem sent18_up : ∀ j, P.skifflaw18_sent.f (250 + j) = some (1, 0, 1, 32, 0, sentL)
  | 0 => sent18_f
  | j + 1 => P.skifflaw18_sent.mono (250 + j) _ (sent18_up j)
theorem sent18 (k : Nat) (hk : 250 ≤ k) : P.skifflaw18_sent.f k = some (1, 0, 1, 32, 0, sentL) := by
  obtain ⟨j, rfl⟩ : ∃ j, k = 250 + j := ⟨k - 250, by omega⟩
  exact sent18_up j
theorem sameDev_f (s st n g sl : Int) (l : List Opn) (k : Nat) (hl : l.length < 1000000) (hk : l.length < k) : P.skifflaw0_SameDevice.f k s st n g sl l s st n g sl l = some true := by
  unfold P.skifflaw0_SameDevice.f
  rw [if_pos rfl, if_pos rfl, if_pos rfl, if_pos rfl, if_pos rfl, same_f l hl k hk]; rfl
def abcd : List UInt8 := [97, 98, 99, 100]
theorem fl_size : (mk flash0).size = 768 := by rw [mk_size, flash0_length]
theorem okOps_all {l : List Opn} (h : opsMayB l = true) : OkOps l := fun o ho => by
  have := opMay_lt (List.all_eq_true.1 h o ho); omega
theorem awake18_f : P.skifflaw18_awake.f 300 = some true := by
  have lA : (tornF flash0 192 abcd 32).length = 768 := by rw [tornF_length _ _ _ _ (by rw [flash0_length]; omega), flash0_length]
  have lB : (tornF flash0 192 abcd 3).length = 768 := by rw [tornF_length _ _ _ _ (by rw [flash0_length]; omega), flash0_length]
  have oy : opsMayB [⟨false, 192, ⟨#[97, 98, 99, 100]⟩⟩] = true := by decide +kernel
  have os : opsMayB sentL = true := by decide +kernel
  have dy : devMayB 2 0 0 0 0 [⟨false, 192, ⟨#[97, 98, 99, 100]⟩⟩] = true := by unfold devMayB; rw [oy]; rfl
  have ds : devMayB 1 0 1 32 0 sentL = true := by unfold devMayB; rw [os, sent_len]; rfl
  have c1 : cutPair (mk flash0) false 192 ⟨#[97, 98, 99, 100]⟩ 96 = (mk (tornF flash0 192 abcd 32), 0) := by
    rw [cutPair_ok (cutMay_iff.2 ⟨fl_size, by decide +kernel, by omega⟩), bl_mk]; rfl
  have c2 : cutPair (mk flash0) false 192 ⟨#[97, 98, 99, 100]⟩ 3 = (mk (tornF flash0 192 abcd 3), 0) := by
    rw [cutPair_ok (cutMay_iff.2 ⟨fl_size, by decide +kernel, by omega⟩), bl_mk]; rfl
  have t1 : P.tick_Step.f 300 (mk flash0) 2 0 0 0 0 [⟨false, 192, ⟨#[97, 98, 99, 100]⟩⟩] = some (mk (tornF flash0 192 abcd 32), 1, 0, 0, 0, 0, [], 0) := by
    rw [step_f _ _ _ _ _ _ _ 300 (by omega) (okOps_all oy), stepTup, dy, decide_eq_true fl_size, Bool.and_self, if_pos rfl, if_pos (by rfl), stepped, c1, if_pos rfl, if_neg (by omega)]
  have t2 : P.tick_Cut.f 300 (mk flash0) 2 0 0 0 0 [⟨false, 192, ⟨#[97, 98, 99, 100]⟩⟩] 3 = some (mk (tornF flash0 192 abcd 3), 0, 0, 0, 0, 0, [], 0) := by
    rw [tcut_f _ _ _ _ _ _ _ _ 300 (by omega) (okOps_all oy), cutTup, dy, decide_eq_true fl_size, if_pos (by rfl), cutted, if_pos (by rfl), c2]
  have t3 : P.tick_Step.f 300 (mk flash0) 1 0 1 32 0 sentL = some (mk flash0, 1, 0, 1, 32, 0, sentL, 0) := by
    rw [step_f _ _ _ _ _ _ _ 300 (by omega) (okOps_all os), stepTup, ds, decide_eq_true fl_size, Bool.and_self, if_pos rfl, if_neg (by decide)]
  have t4 : P.tick_Step.f 300 ⟨#[]⟩ 2 0 0 0 0 [⟨false, 192, ⟨#[97, 98, 99, 100]⟩⟩] = some (⟨#[]⟩, 0, 0, 0, 0, 0, [], 1800) := by
    rw [step_f _ _ _ _ _ _ _ 300 (by omega) (okOps_all oy), stepTup, if_neg (by decide)]
  have x1 : ((mk (tornF flash0 192 abcd 32)).extract 192 196).toList = [97, 98, 99, 100] := by
    rw [toList_bl, bl_extract, bl_mk]; decide +kernel
  have x2 : bt (mk (tornF flash0 192 abcd 3)) 192 = 249 := by
    rw [show (192 : Int) = ((192 : Nat) : Int) from rfl, bt_bl _ _ (by rw [mk_size, lB]; omega), bl_mk]; decide +kernel
  have s1 := sent18 300 (by omega)
  have s2 := sent18 299 (by omega)
  have d1 := sameDev_f 0 0 0 0 0 [] 299 (by simp) (by simp)
  have d2 := sameDev_f 1 0 1 32 0 sentL 299 (by rw [sent_len]; omega) (by rw [sent_len]; omega)
  have zA : (mk (tornF flash0 192 abcd 32)).size = 768 := by rw [mk_size, lA]
  have zB : (mk (tornF flash0 192 abcd 3)).size = 768 := by rw [mk_size, lB]
  generalize mk (tornF flash0 192 abcd 32) = A at *
  generalize mk (tornF flash0 192 abcd 3) = B at *
  clear c1 c2 os ds oy dy lA lB
  generalize sentL = L at *
  unfold P.skifflaw18_awake.f
  rw [P.skiffref1_Blank.f, Option.bind_some, Option.bind_some]
  generalize mk flash0 = F at *
  rw [t1, Option.bind_some, t2, Option.bind_some, s1, Option.bind_some]
  dsimp only
  rw [t3, Option.bind_some, t4, Option.bind_some]
  dsimp only
  rw [zA, if_pos (by rfl), zB]
  show P.skifflaw18_awake.j0 (299 + 1) F A 0 B 0 F 0 1800 false 1 0 0 0 0 [] 0 0 0 0 0 [] 1 0 1 32 0 L = some true
  rw [P.skifflaw18_awake.j0, if_neg Bool.false_ne_true, if_pos (by decide), zA, if_pos (by decide), if_pos x1, if_pos rfl, if_pos (by rfl)]
  unfold P.skifflaw0_Num.f
  simp only [Option.bind_some, if_true]
  rw [zB, if_pos (by decide), if_pos x2, d1, Option.bind_some, if_pos rfl, s2, Option.bind_some]
  dsimp only
  rw [d2]
  rfl

/-- A flash that is blank outside slot 0; a step that stays in it. -/
def Out (l : List UInt8) : Prop := l.length = 768 ∧ ∀ i, (i < 192 ∨ 480 ≤ i) → l.getD i 0 = if i < 768 then 255 else 0
def InSlot (o : Opn) : Prop := opMay o.f0 o.f1 (bl o.f2) = true ∧ 192 ≤ o.f1 ∧ o.f1 + (if o.f0 = true then 96 else 4) ≤ 480
theorem out_flash0 : Out flash0 := ⟨flash0_length, fun i _ => flash0_at i⟩
theorem out_step {l : List UInt8} {o : Opn} (h : Out l) (ho : InSlot o) (c : Nat) (hc : c ≤ 96) : Out (opF l o.f0 o.f1 (bl o.f2) c) := by
  obtain ⟨e, a, t⟩ := o
  obtain ⟨h1, h2, h3⟩ := ho
  simp only at h1 h2 h3 ⊢
  refine ⟨opF_length h.1 h1 hc, fun i hi => ?_⟩
  rw [opF_at _ _ _ _ _ _ h.1 h1 hc]
  cases e
  · simp only [Bool.false_eq_true, if_false] at h3 ⊢
    rw [if_neg (by omega)]
    exact h.2 i hi
  · simp only [if_true] at h3 ⊢
    rw [if_neg (by omega)]
    exact h.2 i hi
def runL (l : List UInt8) (os : List Opn) : List UInt8 := os.foldl (fun l o => opF l o.f0 o.f1 (bl o.f2) 96) l
def allOps (t : List UInt8) : List Opn := erase0 ++ wordOps 192 t (manyL t)
theorem allOps_len (t : List UInt8) : (allOps t).length = 3 + manyL t := by
  unfold allOps; rw [List.length_append, wordOps_length]; rfl
theorem word_mem {a : Int} {t : List UInt8} {n : Nat} {o : Opn} (h : o ∈ wordOps a t n) : ∃ i, i < n ∧ o = wordOp a t i := by
  obtain ⟨i, hi, rfl⟩ := List.getElem_of_mem h
  rw [wordOps_at]
  rw [wordOps_length] at hi
  exact ⟨i, hi, rfl⟩
theorem all_slot (t : List UInt8) (ht : t.length ≤ 288) : ∀ o ∈ allOps t, InSlot o := by
  intro o ho
  rcases List.mem_append.1 ho with h | h
  · unfold erase0 at h
    simp only [List.mem_cons, List.not_mem_nil, or_false] at h
    rcases h with rfl | rfl | rfl
    · exact ⟨by decide +kernel, by decide, by decide⟩
    · exact ⟨by decide +kernel, by decide, by decide⟩
    · exact ⟨by decide +kernel, by decide, by decide⟩
  · obtain ⟨i, hi, rfl⟩ := word_mem h
    have hm : manyL t ≤ 72 := by unfold manyL; omega
    have hw := wordL_length hi
    refine ⟨?_, ?_, ?_⟩
    · show opMay false (192 + 4 * (i : Int)) (bl (mk (wordL t i))) = true
      rw [bl_mk, opMay_false]; omega
    · show 192 ≤ 192 + 4 * (i : Int); omega
    · show 192 + 4 * (i : Int) + (if false = true then 96 else 4) ≤ 480
      rw [if_neg Bool.false_ne_true]; omega
theorem run_words (t : List UInt8) (ht : t.length ≤ 288) : ∀ n, n ≤ manyL t → Wrote (runL flash0 (wordOps 192 t n)) 192 t n
  | 0, _ => wrote_zero _ _
  | n + 1, h => by
    have hm : manyL t ≤ 72 := by unfold manyL; omega
    have h1 := wrote_step (run_words t ht n (by omega)) (by omega) (by omega)
    have e : runL flash0 (wordOps 192 t (n + 1)) = tornF (runL flash0 (wordOps 192 t n)) (192 + 4 * n) (wordL t n) 32 := by
      rw [wordOps, runL, List.foldl_append]
      show opF (runL flash0 (wordOps 192 t n)) false (192 + 4 * (n : Int)) (bl (mk (wordL t n))) 96 = _
      unfold opF
      rw [if_neg Bool.false_ne_true, bl_mk, show (192 + 4 * (n : Int)).toNat = 192 + 4 * n by omega]; rfl
    rw [e]
    exact h1
theorem erase_out {l : List UInt8} (h : Out l) : runL l erase0 = flash0 := by
  have e : runL l erase0 = wornF (wornF (wornF l 192 96) 288 96) 384 96 := rfl
  have l1 := wornF_length l 192 96 (by rw [h.1]; omega)
  have l2 := wornF_length (wornF l 192 96) 288 96 (by rw [l1, h.1]; omega)
  rw [e]
  apply ext_getD (by rw [wornF_length _ _ _ (by rw [l2, l1, h.1]; omega), l2, l1, h.1, flash0_length])
  intro i
  rw [wornF_at _ _ _ _ (by rw [l2, l1, h.1]; omega), wornF_at _ _ _ _ (by rw [l1, h.1]; omega), wornF_at _ _ _ _ (by rw [h.1]; omega), flash0_at]
  by_cases c1 : 384 ≤ i ∧ i < 384 + 96
  · rw [if_pos c1, if_pos (by omega)]
  rw [if_neg c1]
  by_cases c2 : 288 ≤ i ∧ i < 288 + 96
  · rw [if_pos c2, if_pos (by omega)]
  rw [if_neg c2]
  by_cases c3 : 192 ≤ i ∧ i < 192 + 96
  · rw [if_pos c3, if_pos (by omega)]
  rw [if_neg c3]
  exact h.2 i (by omega)
theorem run_all {l : List UInt8} (t : List UInt8) (ht : t.length ≤ 288) (h : Out l) : Wrote (runL l (allOps t)) 192 t (manyL t) := by
  have e : runL l (allOps t) = runL flash0 (wordOps 192 t (manyL t)) := by
    unfold allOps
    rw [runL, List.foldl_append]
    show runL (runL l erase0) _ = _
    rw [erase_out h]
  rw [e]
  exact run_words t ht _ (Nat.le_refl _)
theorem slot_may {os : List Opn} (h : ∀ o ∈ os, InSlot o) : opsMayB os = true := List.all_eq_true.2 fun o ho => (h o ho).1
theorem busy_may {os : List Opn} (h : ∀ o ∈ os, InSlot o) (hl : os.length ≤ 768) : devMayB 2 0 0 0 0 os = true := by
  unfold devMayB
  rw [slot_may h, decide_eq_true hl]; rfl
theorem busy_step (l : List UInt8) (hl : l.length = 768) (o : Opn) (r : List Opn) (h : ∀ p ∈ o :: r, InSlot p) (hs : (o :: r).length ≤ 768) (k : Nat) (hk : 2 < k) :
    P.tick_Step.f k (mk l) 2 0 0 0 0 (o :: r) = some (mk (opF l o.f0 o.f1 (bl o.f2) 96), (if r = [] then 1 else 2), 0, 0, 0, 0, r, 0) := by
  have hz : (mk l).size = 768 := by rw [mk_size, hl]
  have ho := h o (List.mem_cons_self ..)
  rw [step_f _ _ _ _ _ _ _ k hk (okOps_all (slot_may h)), stepTup, busy_may h hs, decide_eq_true hz, Bool.and_self, if_pos rfl, if_pos (by rfl), stepped, cutPair_ok (cutMay_iff.2 ⟨hz, ho.1, by omega⟩), bl_mk]
  cases r with
  | nil => rw [if_pos rfl, if_neg (by omega), if_pos rfl]; rfl
  | cons p r => rw [if_neg (by simp), if_neg (by simp)]; rfl
theorem drop_slot {os : List Opn} (h : ∀ o ∈ os, InSlot o) (i : Nat) : ∀ o ∈ os.drop i, InSlot o := fun o ho => h o (List.mem_of_mem_drop ho)

end Go.Proofs.Ytgoeooghoojdgaa
