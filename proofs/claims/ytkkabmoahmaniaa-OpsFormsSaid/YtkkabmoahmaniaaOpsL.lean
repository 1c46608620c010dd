/- Opses, OpsWrite, OpsCuts, OpsMany, OpsApart. -/
import Derived.Test.YtkkabmoahmaniaaOpsP
import Derived.Test.YtkkabmoahmaniaaPx2
import Derived.Test.YtkkabmoahmaniaaPx3
import Derived.Test.YtkkabmoahmaniaaPx4
import Derived.Test.YtkkabmoahmaniaaPx6
import Derived.Test.YtkkabmoahmaniaaPx7
import Derived.Test.YtkkabmoahmaniaaPx8
set_option linter.unusedVariables false
set_option linter.unusedSimpArgs false
set_option maxHeartbeats 4000000
namespace Go.Proofs.Ytkkabmoahmaniaa
open Go.RowKit Skiff Go.Proofs.YtkkabmoahmaniaaW.PrintWords Go.Proofs.YtkkabmoahmaniaaW.PrintMore O

theorem bt_bl (s : ByteArray) (i : Nat) (h : i < s.size) : bt s (i : Int) = (((bl s).getD i 0).toNat : Int) := by
  unfold bt
  rw [dif_pos (by rw [Int.toNat_natCast]; exact h)]
  simp only [Int.toNat_natCast]
  rw [List.getD_eq_getElem?_getD, List.getElem?_eq_getElem (by rw [bl_length]; exact h)]
  simp [bl]; rfl
def wE : List UInt8 := [101, 255, 255, 255]
theorem awake3_f : P.skifflaw3_awake.f 300 = some true := by
  have z0 : (mk flash0).size = 768 := by rw [mk_size, flash0_length]
  have lA : (tornF flash0 12 wE 32).length = 768 := by rw [tornF_length _ _ _ _ (by rw [flash0_length]; omega), flash0_length]
  have lB : (tornF flash0 12 wE 3).length = 768 := by rw [tornF_length _ _ _ _ (by rw [flash0_length]; omega), flash0_length]
  have w1 : P.ops_Words.f 300 8 ⟨#[97, 98, 99, 100, 101]⟩ = some ([⟨false, 8, ⟨#[97, 98, 99, 100]⟩⟩, ⟨false, 12, ⟨#[101, 255, 255, 255]⟩⟩], 0) := by kernel_rfl
  have w2 : P.ops_Words.f 300 6 ⟨#[97, 98, 99, 100]⟩ = some ([], 300) := by kernel_rfl
  have d1 : P.ops_Do.f 300 (mk flash0) false 12 ⟨#[101, 255, 255, 255]⟩ = some (mk (tornF flash0 12 wE 32), 0) := by
    rw [do_f _ _ _ _ 300 (by omega) (by omega), cutPair_ok (cutMay_iff.2 ⟨z0, by decide +kernel, by omega⟩), bl_mk]; rfl
  have d2 : P.ops_Cut.f 300 (mk flash0) false 12 ⟨#[101, 255, 255, 255]⟩ 3 = some (mk (tornF flash0 12 wE 3), 0) := by
    rw [cut_f _ _ _ _ 3 300 (by omega) (by omega), cutPair_ok (cutMay_iff.2 ⟨z0, by decide +kernel, by omega⟩), bl_mk]; rfl
  have d3 : P.ops_Do.f 300 (mk (tornF flash0 12 wE 32)) true 0 ⟨#[]⟩ = some (mk flash0, 0) := by
    rw [do_f _ _ _ _ 300 (by omega) (by omega), cutPair_ok (cutMay_iff.2 ⟨by rw [mk_size, lA], by decide +kernel, by omega⟩), bl_mk]
    have e : opF (tornF flash0 12 wE 32) true 0 (bl ⟨#[]⟩) (96 : Int).toNat = flash0 := by
      unfold opF
      rw [if_pos rfl]
      apply ext_getD (by rw [wornF_length _ _ _ (by rw [lA]; decide), lA, flash0_length])
      intro i
      rw [wornF_at _ _ _ _ (by rw [lA]; decide), tornF_at _ _ _ _ _ (by rw [flash0_length]; omega) rfl]
      by_cases c : (0 : Int).toNat ≤ i ∧ i < (0 : Int).toNat + (96 : Int).toNat
      · rw [if_pos c]; unfold flash0; rw [List.getD_eq_getElem?_getD, List.getElem?_replicate, if_pos (by omega)]; rfl
      · rw [if_neg c, if_neg (by omega)]
    rw [e]
  have d4 : P.ops_Do.f 300 (mk flash0) true 4 ⟨#[]⟩ = some (⟨#[]⟩, 300) := by
    rw [do_f _ _ _ _ 300 (by omega) (by omega), cutPair_no (by rw [Bool.eq_false_iff]; intro h; have h := (opMay_true.1 (cutMay_iff.1 h).2.1).2.1; revert h; decide)]
  have x1 : ((mk (tornF flash0 12 wE 32)).extract 12 16).toList = [101, 255, 255, 255] := by
    rw [toList_bl, bl_extract, bl_mk]; decide +kernel
  have x2 : bt (mk (tornF flash0 12 wE 3)) 12 = 253 := by
    rw [show (12 : Int) = ((12 : Nat) : Int) from rfl, bt_bl _ _ (by rw [mk_size, lB]; omega), bl_mk]; decide +kernel
  have x3 : P.skifflaw0_SameOps.f 299 [⟨false, 8, ⟨#[97, 98, 99, 100]⟩⟩, ⟨false, 12, ⟨#[101, 255, 255, 255]⟩⟩] [⟨false, 8, ⟨#[97, 98, 99, 100]⟩⟩, ⟨false, 12, ⟨#[101, 255, 255, 255]⟩⟩] = some true := same_f _ (by simp) 299 (by simp)
  have x4 : P.ops_May.f false 8 ⟨#[97, 98, 99, 100]⟩ = some true := by kernel_rfl
  have r0 : P.rd_T23 [⟨false, 8, ⟨#[97, 98, 99, 100]⟩⟩, ⟨false, 12, ⟨#[101, 255, 255, 255]⟩⟩] 0 = ⟨false, 8, ⟨#[97, 98, 99, 100]⟩⟩ := rfl
  have r1 : P.rd_T23 [⟨false, 8, ⟨#[97, 98, 99, 100]⟩⟩, ⟨false, 12, ⟨#[101, 255, 255, 255]⟩⟩] 1 = ⟨false, 12, ⟨#[101, 255, 255, 255]⟩⟩ := rfl
  have zA : (mk (tornF flash0 12 wE 32)).size = 768 := by rw [mk_size, lA]
  have zB : (mk (tornF flash0 12 wE 3)).size = 768 := by rw [mk_size, lB]
  generalize tornF flash0 12 wE 32 = A at *
  generalize tornF flash0 12 wE 3 = B at *
  generalize mk A = A at *
  generalize mk B = B at *
  unfold P.skifflaw3_awake.f
  rw [P.skiffref1_Blank.f, Option.bind_some, w1, Option.bind_some]
  dsimp only
  rw [if_pos (by decide), if_pos (by decide)]
  rw [r1]
  dsimp only
  generalize mk flash0 = F at *
  rw [d1, Option.bind_some, d2, Option.bind_some, d3, Option.bind_some, w2, Option.bind_some, d4, Option.bind_some]
  dsimp only
  rw [zA, z0, if_pos rfl, zB]
  show P.skifflaw3_awake.j0 (299 + 1) F _ 0 A 0 B 0 F 0 300 300 false = some true
  rw [P.skifflaw3_awake.j0, if_neg Bool.false_ne_true, x3, Option.bind_some, if_pos rfl]
  unfold P.skifflaw0_Num.f
  simp only [Option.bind_some]
  rw [if_pos trivial, if_pos (by decide), zA, if_pos (by decide), if_pos x1, if_pos trivial, zB, if_pos (by decide), if_pos x2]
  simp only [if_true]
  rw [if_pos (by decide), r0, x4]
  rfl
theorem awake3_up : ∀ j, P.skifflaw3_awake.f (300 + j) = some true
  | 0 => awake3_f
  | j + 1 => P.skifflaw3_awake.mono (300 + j) _ (awake3_up j)
theorem opses_j1 (l : List Opn) (hl : l.length < 300) : P.skifflaw3_Opses.j1 301 l false = some true := by
  obtain ⟨r, hr⟩ := spoil_f l (by omega) 300 (by omega)
  show P.skifflaw3_Opses.j1 (300 + 1) l false = _
  rw [P.skifflaw3_Opses.j1, if_neg Bool.false_ne_true, hr, Option.bind_some, awake3_f]; rfl
theorem opses_j0 (f : ByteArray) (e : Bool) (a : Int) (t : ByteArray) (c : Int) (l : List Opn) (n m : Int) (x : ByteArray) (hl : l.length < 300) (ha : a < 9223372036854775808) : P.skifflaw3_Opses.j0 302 f c l n l n x m x m e a t = some true := by
  have hj := opses_j1 l hl
  show P.skifflaw3_Opses.j0 (301 + 1) f c l n l n x m x m e a t = _
  rw [P.skifflaw3_Opses.j0, cut_f f e a t c 301 (by omega) ha, rcut_f f e a t c 301 (by omega), same_f l (by omega) 301 (by omega), opsMay_f e a t ha, ropMay_f]
  simp [hj, P.skifflaw0_Num.f]
theorem opses_f (f : ByteArray) (e : Bool) (a : Int) (t : ByteArray) (x : Int) (s : ByteArray) (c : Int) (hs : s.size ≤ 140737488351232) (ha : a < 9223372036854775808) : P.skifflaw3_Opses.f 302 f e a t x s c = some true := by
  have hl := wordsPair_len x s
  unfold P.skifflaw3_Opses.f
  rw [words_f x s 302 (by omega) hs, rwords_f x s 302 (by omega) hs, do_f f e a t 302 (by omega) ha, rdo_f f e a t 302 (by omega), ropMay_f, Option.bind_some, Option.bind_some, Option.bind_some, Option.bind_some, Option.bind_some]
  cases hm : opMay e a (bl t)
  · have hc : cutPair f e a t 96 = (⟨#[]⟩, 300) := cutPair_no (by unfold cutMay; rw [hm, Bool.false_and, Bool.and_false])
    rw [if_neg Bool.false_ne_true, hc]
    exact opses_j0 f e a t c _ _ _ _ (by omega) ha
  · rw [if_pos rfl]
    exact opses_j0 f e a t c _ _ _ _ (by omega) ha
theorem wf_lt {a : Int} (h : (Lit.int .i64 a).wf = true) : -9223372036854775808 ≤ a ∧ a < 9223372036854775808 := by
  simp [Lit.wf, IntKind.min, IntKind.max, IntKind.bits, IntKind.signed] at h; omega
theorem opses_walk (f : ByteArray) (e : Bool) (a : Int) (t : ByteArray) (x : Int) (s : ByteArray) (c : Int) (hf : f.size ≤ 140737488351232) (f1 : (Lit.int .i64 a).wf = true) (f2 : (Lit.int .i64 x).wf = true) (hs : s.size ≤ 140737488351232) (f3 : (Lit.int .i64 c).wf = true) (w : World) :
    Calls Try.prog 3 #[.string f, .agg #[.bool e, .int .i64 a, .string t], .int .i64 x, .string s, .int .i64 c] w fun e w' => e = .returned (.bool true) ∧ Ext w w' :=
  P.skifflaw3_Opses.calls 302 f e a t x s c true w (opses_f f e a t x s c hs (wf_lt f1).2)

/-- A flash on which so many words of a text are written. -/
def Wrote (l : List UInt8) (a : Nat) (t : List UInt8) (n : Nat) : Prop := l.length = 768 ∧ ∀ i, l.getD i 0 = if i < 768 then (if a ≤ i ∧ i < a + 4 * n ∧ i - a < t.length then t.getD (i - a) 0 else 255) else 0
theorem and255 (b : UInt8) : 255 &&& b = b := by
  have h : ∀ n : Fin 256, 255 &&& UInt8.ofFin n = UInt8.ofFin n := by decide +kernel
  exact h b.toFin
theorem flash0_at (i : Nat) : flash0.getD i 0 = if i < 768 then 255 else 0 := by
  unfold flash0
  rw [List.getD_eq_getElem?_getD, List.getElem?_replicate]; split <;> rfl
theorem wrote_zero (a : Nat) (t : List UInt8) : Wrote flash0 a t 0 := by
  refine ⟨flash0_length, fun i => ?_⟩
  rw [flash0_at]
  split
  · rw [if_neg (by omega)]
  · rfl
theorem wrote_step {l : List UInt8} {a : Nat} {t : List UInt8} {n : Nat} (h : Wrote l a t n) (hn : n < manyL t) (ha : a + 4 * manyL t ≤ 768) : Wrote (tornF l (a + 4 * n) (wordL t n) 32) a t (n + 1) := by
  obtain ⟨h1, h2⟩ := h
  have hw := wordL_length hn
  refine ⟨by rw [tornF_length _ _ _ _ (by omega), h1], fun i => ?_⟩
  rw [tornF_full _ _ _ _ (by omega) hw]
  by_cases c : a + 4 * n ≤ i ∧ i < a + 4 * n + 4
  · have e1 : l.getD i 0 = 255 := by rw [h2 i, if_pos (by omega), if_neg (by omega)]
    rw [if_pos c, e1, and255, wordL_at hn (by omega), if_pos (by omega : i < 768), show 4 * n + (i - (a + 4 * n)) = i - a by omega]
    by_cases c2 : i - a < t.length
    · rw [if_pos c2, if_pos (by omega)]
    · rw [if_neg c2, if_neg (by omega)]
  · rw [if_neg c, h2 i]
    by_cases c1 : i < 768
    · rw [if_pos c1, if_pos c1]
      by_cases c2 : a ≤ i ∧ i < a + 4 * n ∧ i - a < t.length
      · rw [if_pos c2, if_pos (by omega)]
      · rw [if_neg c2, if_neg (by omega)]
    · rw [if_neg c1, if_neg c1]
theorem wrote_all {l : List UInt8} {a : Nat} {t : List UInt8} (h : Wrote l a t (manyL t)) (ha : a + t.length ≤ 768) :
    l.take a = flash0.take a ∧ (l.drop a).take t.length = t ∧ l.drop (a + t.length) = flash0.drop (a + t.length) := by
  obtain ⟨h1, h2⟩ := h
  have hm : t.length ≤ 4 * manyL t := by unfold manyL; omega
  refine ⟨?_, ?_, ?_⟩
  · apply ext_getD (by rw [List.length_take, List.length_take, h1, flash0_length])
    intro i
    by_cases c : i < a
    · rw [List.getD_eq_getElem?_getD, List.getD_eq_getElem?_getD, List.getElem?_take, List.getElem?_take, if_pos c, if_pos c, ← List.getD_eq_getElem?_getD, ← List.getD_eq_getElem?_getD, h2, flash0_at, if_pos (by omega), if_neg (by omega), if_pos (by omega)]
    · rw [List.getD_eq_getElem?_getD, List.getD_eq_getElem?_getD, List.getElem?_take, List.getElem?_take, if_neg c, if_neg c]
  · apply ext_getD (by rw [List.length_take, List.length_drop, h1]; omega)
    intro i
    by_cases c : i < t.length
    · rw [List.getD_eq_getElem?_getD, List.getElem?_take, if_pos c, List.getElem?_drop, ← List.getD_eq_getElem?_getD, h2, if_pos (by omega), if_pos (by omega), show a + i - a = i by omega]
    · rw [List.getD_eq_getElem?_getD, List.getElem?_take, if_neg c, List.getD_eq_getElem?_getD, List.getElem?_eq_none (by omega)]
  · apply ext_getD (by rw [List.length_drop, List.length_drop, h1, flash0_length])
    intro i
    rw [List.getD_eq_getElem?_getD, List.getD_eq_getElem?_getD, List.getElem?_drop, List.getElem?_drop, ← List.getD_eq_getElem?_getD, ← List.getD_eq_getElem?_getD, h2, flash0_at]
    by_cases c : a + t.length + i < 768
    · rw [if_pos c, if_pos c, if_neg (by omega)]
    · rw [if_neg c, if_neg c]
theorem wordsMay_iff {a : Int} {t : List UInt8} : wordsMay a t = true ↔ (0 ≤ a ∧ a ≤ 768) ∧ a % 4 = 0 ∧ (t.length : Int) ≤ 768 - a := by
  simp [wordsMay, within]
theorem write_l0 (a : Int) (t : ByteArray) (hm : wordsMay a (bl t) = true) (d : Nat) : ∀ (k n : Nat) (l : List UInt8), n + d = manyL (bl t) → d + 1 < k → Wrote l a.toNat (bl t) n → P.skifflaw3_OpsWrite.l0 k a t (mk l) (wordOps a (bl t) (manyL (bl t))) (n : Int) = some true := by
  have h1 := wordsMay_iff.1 hm
  have hlen := wordOps_length a (bl t) (manyL (bl t))
  have hlt : manyL (bl t) ≤ 192 ∧ a + 4 * (manyL (bl t) : Int) ≤ 768 := by unfold manyL; omega
  rw [bl_length] at h1
  induction d with
  | zero =>
    intro k n l h2 h3 h4
    obtain ⟨k, rfl⟩ : ∃ m, k = m + 1 := ⟨k - 1, by omega⟩
    obtain rfl : n = manyL (bl t) := by omega
    obtain ⟨w1, w2, w3⟩ := wrote_all h4 (by rw [bl_length]; omega)
    have hz : (mk l).size = 768 := by rw [mk_size, h4.1]
    have hz0 : (mk flash0).size = 768 := by rw [mk_size, flash0_length]
    have e1 : wrap64 (768 - a) = 768 - a := by simp only [wrap64]; omega
    have e2 : wrap64 (a + (t.size : Int)) = a + (t.size : Int) := by simp only [wrap64]; omega
    rw [bl_length] at w2 w3
    rw [P.skifflaw3_OpsWrite.l0, P.skiffref1_Blank.f, hlen, if_neg (by omega), if_pos (by omega), if_pos (by omega), e1, if_pos (by omega), if_pos (by omega), e2, if_pos (by omega), hz, if_pos (by omega)]
    rw [show (a + (t.size : Int)).toNat = a.toNat + t.size by omega]
    rw [if_pos, if_pos (by omega), Option.bind_some, hz0, if_pos (by omega), if_pos, if_pos (by omega), Option.bind_some, hz0, if_pos (by omega)]
    · rw [beq_bl, decide_eq_true]
      rw [bl_extract, bl_extract, bl_mk, bl_mk, w3]
    · rw [toList_bl, toList_bl, bl_extract, bl_extract, bl_mk, bl_mk, List.drop_zero, List.drop_zero, Nat.sub_zero, w1]
    · rw [toList_bl, toList_bl, bl_extract, bl_mk, show a.toNat + t.size - a.toNat = t.size by omega, w2]
  | succ d ih =>
    intro k n l h2 h3 h4
    obtain ⟨k, rfl⟩ : ∃ m, k = m + 1 := ⟨k - 1, by omega⟩
    have e2 : wrap64 ((n : Int) + 1) = ((n + 1 : Nat) : Int) := by simp only [wrap64]; omega
    have hs := wrote_step h4 (by omega) (by omega)
    have hr := ih k (n + 1) _ (by omega) (by omega) hs
    have hw := wordL_length (t := bl t) (n := n) (by omega)
    have hc : cutPair (mk l) false (a + 4 * (n : Int)) (mk (wordL (bl t) n)) 96 = (mk (tornF l (a.toNat + 4 * n) (wordL (bl t) n) 32), 0) := by
      rw [cutPair_ok]
      · unfold opF
        rw [if_neg Bool.false_ne_true, bl_mk, bl_mk, show (a + 4 * (n : Int)).toNat = a.toNat + 4 * n by omega]; rfl
      · rw [cutMay_iff, mk_size, h4.1, bl_mk, opMay_false]
        omega
    rw [P.skifflaw3_OpsWrite.l0, hlen, if_pos (by omega), if_pos (by omega), O.rd_at _ n (by omega), wordOps_at]
    unfold wordOp
    dsimp only
    rw [do_f _ _ _ _ k (by omega) (by omega), hc, Option.bind_some, P.skifflaw0_Num.f, Option.bind_some, if_pos rfl, if_pos (by rw [mk_size, hs.1]; rfl), e2]
    exact hr
theorem opsWrite_f (a : Int) (t : ByteArray) (ht : t.size ≤ 140737488351232) : P.skifflaw3_OpsWrite.f 300 a t = some true := by
  unfold P.skifflaw3_OpsWrite.f
  rw [awake3_f, Option.bind_some, if_pos rfl, P.skiffref1_Blank.f, Option.bind_some, words_f a t 300 (by omega) ht, Option.bind_some, P.skifflaw0_Num.f, Option.bind_some]
  unfold wordsPair
  cases hm : wordsMay a (bl t)
  · rfl
  · have h1 := wordsMay_iff.1 hm
    exact write_l0 a t hm (manyL (bl t)) 300 0 flash0 (by omega) (by unfold manyL; omega) (wrote_zero _ _)
theorem opsWrite_walk (a : Int) (t : ByteArray) (f1 : (Lit.int .i64 a).wf = true) (ht : t.size ≤ 140737488351232) (w : World) :
    Calls Try.prog 4 #[.int .i64 a, .string t] w fun e w' => e = .returned (.bool true) ∧ Ext w w' :=
  P.skifflaw3_OpsWrite.calls 300 a t true w (opsWrite_f a t ht)

theorem opF_at (l : List UInt8) (e : Bool) (a : Int) (t : List UInt8) (c i : Nat) (hl : l.length = 768) (hm : opMay e a t = true) (hc : c ≤ 96) :
    (opF l e a t c).getD i 0 = if e = true then (if a.toNat ≤ i ∧ i < a.toNat + c then 255 else l.getD i 0) else (if a.toNat ≤ i ∧ i < a.toNat + 4 then tornB (l.getD i 0) (t.getD (i - a.toNat) 0) (min c 32 - 8 * (i - a.toNat)) else l.getD i 0) := by
  unfold opF
  cases e
  · have h := opMay_false.1 hm
    rw [if_neg Bool.false_ne_true, if_neg Bool.false_ne_true, tornF_at _ _ _ _ _ (by omega) (by omega)]
  · have h := opMay_true.1 hm
    rw [if_pos rfl, if_pos rfl, wornF_at _ _ _ _ (by omega)]
/-- Done again. -/
theorem opF_opF (l : List UInt8) (e : Bool) (a : Int) (t : List UInt8) (c d : Nat) (hl : l.length = 768) (hm : opMay e a t = true) (hc : c ≤ 96) (hd : d ≤ 96) : opF (opF l e a t c) e a t d = opF l e a t (max c d) := by
  unfold opF
  cases e
  · have h := opMay_false.1 hm
    rw [if_neg Bool.false_ne_true, if_neg Bool.false_ne_true, if_neg Bool.false_ne_true, tornF_tornF _ _ _ _ _ (by omega) (by omega), show max (min c 32) (min d 32) = min (max c d) 32 by omega]
  · have h := opMay_true.1 hm
    rw [if_pos rfl, if_pos rfl, if_pos rfl, wornF_wornF _ _ _ _ (by omega) (by omega)]
theorem opF_none (l : List UInt8) (e : Bool) (a : Int) (t : List UInt8) (hl : l.length = 768) (hm : opMay e a t = true) : opF l e a t 0 = l := by
  apply ext_getD (by rw [opF_length hl hm (by omega), hl])
  intro i
  rw [opF_at l e a t 0 i hl hm (by omega)]
  cases e
  · rw [if_neg Bool.false_ne_true, show min 0 32 - 8 * (i - a.toNat) = 0 by omega, tornB_zero]; split <;> rfl
  · rw [if_pos rfl, if_neg (by omega)]
theorem opsCuts_f (f : ByteArray) (e : Bool) (a : Int) (t : ByteArray) (c : Int) (ha : a < 9223372036854775808) : P.skifflaw3_OpsCuts.f 300 f e a t c = some true := by
  obtain ⟨n, hn, hn2⟩ : ∃ k : Nat, wrap64 ((IntKind.u64.wrap c).tmod 97) = (k : Int) ∧ k < 97 := mod_nat c 97 (by omega) (by omega)
  unfold P.skifflaw3_OpsCuts.f
  rw [awake3_f, Option.bind_some, if_pos rfl, do_f f e a t 300 (by omega) ha, Option.bind_some, hn, cut_f f e a t n 300 (by omega) ha, Option.bind_some, P.skifflaw0_Num.f, Option.bind_some]
  cases hm : cutMay f e a t 96
  · have hm2 : cutMay f e a t n = false := by
      rw [Bool.eq_false_iff] at hm ⊢
      intro h
      have h := cutMay_iff.1 h
      exact hm (cutMay_iff.2 ⟨h.1, h.2.1, by omega⟩)
    rw [cutPair_no hm, cutPair_no hm2, if_neg (by decide)]
    show P.skifflaw3_OpsCuts.j0 (299 + 1) f ⟨#[]⟩ ⟨#[]⟩ true e a t = some true
    rw [P.skifflaw3_OpsCuts.j0, if_pos rfl, if_pos (by decide +kernel)]; decide +kernel
  · have h := cutMay_iff.1 hm
    have lf : (bl f).length = 768 := by rw [bl_length, h.1]
    have hm2 : cutMay f e a t n = true := cutMay_iff.2 ⟨h.1, h.2.1, by omega⟩
    have hm3 : cutMay f e a t 0 = true := cutMay_iff.2 ⟨h.1, h.2.1, by omega⟩
    have l2 : (opF (bl f) e a (bl t) n).length = 768 := opF_length lf h.2.1 (by omega)
    have hm4 : cutMay (mk (opF (bl f) e a (bl t) n)) e a t 96 = true := cutMay_iff.2 ⟨by rw [mk_size, l2], h.2.1, by omega⟩
    rw [cutPair_ok hm, cutPair_ok hm2, Int.toNat_natCast, P.skifflaw0_Num.f, Option.bind_some, if_pos rfl]
    show P.skifflaw3_OpsCuts.j0 (299 + 1) f _ _ false e a t = some true
    rw [P.skifflaw3_OpsCuts.j0, if_neg Bool.false_ne_true, do_f _ e a t 299 (by omega) ha, cut_f f e a t 0 299 (by omega) ha, cut_f f e a t 96 299 (by omega) ha, cutPair_ok hm, cutPair_ok hm3, cutPair_ok hm4, bl_mk]
    rw [show (96 : Int).toNat = 96 from rfl, show (0 : Int).toNat = 0 from rfl, opF_opF _ _ _ _ _ _ lf h.2.1 (by omega) (by omega), opF_none _ _ _ _ lf h.2.1, show max n 96 = 96 by omega, mk_bl]
    simp [P.skifflaw0_Num.f]
theorem opsCuts_walk (f : ByteArray) (e : Bool) (a : Int) (t : ByteArray) (c : Int) (hf : f.size ≤ 140737488351232) (f1 : (Lit.int .i64 a).wf = true) (f2 : (Lit.int .i64 c).wf = true) (w : World) :
    Calls Try.prog 6 #[.string f, .agg #[.bool e, .int .i64 a, .string t], .int .i64 c] w fun e w' => e = .returned (.bool true) ∧ Ext w w' :=
  P.skifflaw3_OpsCuts.calls 300 f e a t c true w (opsCuts_f f e a t c (wf_lt f1).2)

theorem opF_swap (l : List UInt8) (e g : Bool) (a b : Int) (t u : List UInt8) (hl : l.length = 768) (h1 : opMay e a t = true) (h2 : opMay g b u = true)
    (hd : ¬ (a < b + (if g = true then 96 else 4) ∧ b < a + (if e = true then 96 else 4))) : opF (opF l e a t 96) g b u 96 = opF (opF l g b u 96) e a t 96 := by
  have q1 := opMay_lt h1
  have q2 := opMay_lt h2
  have l1 := opF_length (c := 96) hl h1 (by omega)
  have l2 := opF_length (c := 96) hl h2 (by omega)
  apply ext_getD (by rw [opF_length l1 h2 (by omega), opF_length l2 h1 (by omega)])
  intro i
  rw [opF_at _ _ _ _ _ _ l1 h2 (by omega), opF_at _ _ _ _ _ _ hl h1 (by omega), opF_at _ _ _ _ _ _ l2 h1 (by omega), opF_at _ _ _ _ _ _ hl h2 (by omega)]
  cases e
  · cases g
    · simp only [Bool.false_eq_true, if_false] at hd ⊢
      by_cases c1 : b.toNat ≤ i ∧ i < b.toNat + 4
      · rw [if_pos c1, if_neg (by omega), if_neg (by omega), if_pos c1]
      · rw [if_neg c1, if_neg c1]
    · simp only [Bool.false_eq_true, if_false, if_true] at hd ⊢
      by_cases c1 : b.toNat ≤ i ∧ i < b.toNat + 96
      · rw [if_pos c1, if_neg (by omega), if_pos c1]
      · rw [if_neg c1, if_neg c1]
  · cases g
    · simp only [Bool.false_eq_true, if_false, if_true] at hd ⊢
      by_cases c1 : b.toNat ≤ i ∧ i < b.toNat + 4
      · rw [if_pos c1, if_neg (by omega), if_neg (by omega), if_pos c1]
      · rw [if_neg c1, if_neg c1]
    · simp only [if_true] at hd ⊢
      by_cases c1 : b.toNat ≤ i ∧ i < b.toNat + 96
      · rw [if_pos c1, if_neg (by omega), if_pos c1]
      · rw [if_neg c1, if_neg c1]
def opSize (e : Bool) : Int := if e = true then 96 else 4
theorem apart_j3 (f : ByteArray) (e g : Bool) (a b : Int) (t u : ByteArray) (h1 : cutMay f e a t 96 = true) (h2 : cutMay f g b u 96 = true) (k : Nat) (hk : 0 < k) :
    P.skifflaw3_OpsApart.j3 (k + 1) (mk (opF (bl f) e a (bl t) 96)) (mk (opF (bl f) g b (bl u) 96)) (decide (a < b + opSize g ∧ b < a + opSize e)) e a t g b u = some true := by
  have m1 := cutMay_iff.1 h1
  have m2 := cutMay_iff.1 h2
  have q1 := opMay_lt m1.2.1
  have q2 := opMay_lt m2.2.1
  have lf : (bl f).length = 768 := by rw [bl_length, m1.1]
  have l1 := opF_length (c := 96) lf m1.2.1 (by omega)
  have l2 := opF_length (c := 96) lf m2.2.1 (by omega)
  rw [P.skifflaw3_OpsApart.j3]
  by_cases hc : a < b + opSize g ∧ b < a + opSize e
  · rw [decide_eq_true hc, if_pos rfl, ropMay_f, ropMay_f, m1.2.1, m2.2.1]; rfl
  · have h3 : cutMay (mk (opF (bl f) e a (bl t) 96)) g b u 96 = true := cutMay_iff.2 ⟨by rw [mk_size, l1], m2.2.1, by omega⟩
    have h4 : cutMay (mk (opF (bl f) g b (bl u) 96)) e a t 96 = true := cutMay_iff.2 ⟨by rw [mk_size, l2], m1.2.1, by omega⟩
    rw [decide_eq_false hc, if_neg Bool.false_ne_true, do_f _ g b u k hk (by omega), do_f _ e a t k hk (by omega), cutPair_ok h3, cutPair_ok h4, bl_mk, bl_mk]
    rw [show (96 : Int).toNat = 96 from rfl, opF_swap _ _ _ _ _ _ _ lf m1.2.1 m2.2.1 hc]
    simp [P.skifflaw0_Num.f]
theorem apart_j2 (f : ByteArray) (e g : Bool) (a b : Int) (t u : ByteArray) (h1 : cutMay f e a t 96 = true) (h2 : cutMay f g b u 96 = true) (k : Nat) (hk : 0 < k) :
    P.skifflaw3_OpsApart.j2 (k + 2) (mk (opF (bl f) e a (bl t) 96)) (mk (opF (bl f) g b (bl u) 96)) (opSize e) (opSize g) e a t g b u = some true := by
  have h := apart_j3 f e g a b t u h1 h2 k hk
  have q1 := opMay_lt (cutMay_iff.1 h1).2.1
  have q2 := opMay_lt (cutMay_iff.1 h2).2.1
  have s1 : opSize e = 96 ∨ opSize e = 4 := by unfold opSize; split <;> omega
  have s2 : opSize g = 96 ∨ opSize g = 4 := by unfold opSize; split <;> omega
  have e1 : wrap64 (b + opSize g) = b + opSize g := by simp only [wrap64]; omega
  have e2 : wrap64 (a + opSize e) = a + opSize e := by simp only [wrap64]; omega
  show P.skifflaw3_OpsApart.j2 ((k + 1) + 1) _ _ _ _ _ _ _ _ _ _ = _
  rw [P.skifflaw3_OpsApart.j2, e1, e2]
  by_cases c : a < b + opSize g
  · rw [if_pos c]
    rw [show decide (a < b + opSize g ∧ b < a + opSize e) = decide (b < a + opSize e) by rw [Bool.decide_and, decide_eq_true c, Bool.true_and]] at h
    exact h
  · rw [if_neg c]
    rw [decide_eq_false (fun h => c h.1)] at h
    exact h
theorem apart_j0 (f : ByteArray) (e g : Bool) (a b : Int) (t u : ByteArray) (h1 : cutMay f e a t 96 = true) (h2 : cutMay f g b u 96 = true) :
    P.skifflaw3_OpsApart.j0 300 (mk (opF (bl f) e a (bl t) 96)) (mk (opF (bl f) g b (bl u) 96)) false e a t g b u = some true := by
  have h := apart_j2 f e g a b t u h1 h2 296 (by omega)
  show P.skifflaw3_OpsApart.j0 (299 + 1) _ _ _ _ _ _ _ _ _ = _
  have hj1 : P.skifflaw3_OpsApart.j1 (298 + 1) (mk (opF (bl f) e a (bl t) 96)) (mk (opF (bl f) g b (bl u) 96)) (opSize e) 4 e a t g b u = some true := by
    rw [P.skifflaw3_OpsApart.j1]
    cases g
    · exact h
    · exact h
  rw [P.skifflaw3_OpsApart.j0, if_neg Bool.false_ne_true]
  cases e
  · exact hj1
  · exact hj1
theorem opsApart_f (f : ByteArray) (e g : Bool) (a b : Int) (t u : ByteArray) (ha : a < 9223372036854775808) (hb : b < 9223372036854775808) : P.skifflaw3_OpsApart.f 300 f e a t g b u = some true := by
  unfold P.skifflaw3_OpsApart.f
  rw [awake3_f, Option.bind_some, if_pos rfl, do_f f e a t 300 (by omega) ha, Option.bind_some, do_f f g b u 300 (by omega) hb, Option.bind_some, P.skifflaw0_Num.f, P.skifflaw0_Num.f, Option.bind_some, Option.bind_some]
  cases h1 : cutMay f e a t 96
  · rw [cutPair_no h1, if_neg (by decide)]
    show P.skifflaw3_OpsApart.j0 (299 + 1) _ _ _ _ _ _ _ _ _ = _
    rw [P.skifflaw3_OpsApart.j0, if_pos rfl]
  · rw [cutPair_ok h1, if_pos rfl]
    cases h2 : cutMay f g b u 96
    · rw [cutPair_no h2]
      show P.skifflaw3_OpsApart.j0 (299 + 1) _ _ true _ _ _ _ _ _ = _
      rw [P.skifflaw3_OpsApart.j0, if_pos rfl]
    · rw [cutPair_ok h2]
      exact apart_j0 f e g a b t u h1 h2
theorem opsApart_walk (f : ByteArray) (e : Bool) (a : Int) (t : ByteArray) (g : Bool) (b : Int) (u : ByteArray) (hf : f.size ≤ 140737488351232) (f1 : (Lit.int .i64 a).wf = true) (f2 : (Lit.int .i64 b).wf = true) (w : World) :
    Calls Try.prog 8 #[.string f, .agg #[.bool e, .int .i64 a, .string t], .agg #[.bool g, .int .i64 b, .string u]] w fun e w' => e = .returned (.bool true) ∧ Ext w w' :=
  P.skifflaw3_OpsApart.calls 300 f e a t g b u true w (opsApart_f f e g a b t u (wf_lt f1).2 (wf_lt f2).2)

theorem many_l1 (s : ByteArray) (hz : s.size ≤ 1000) (d : Nat) : ∀ (k i : Nat), i + d = s.size → d < k → (∀ j, i ≤ j → j < s.size → (bl s).getD j 0 = 255) → P.skifflaw3_OpsMany.l1 k s (i : Int) = some true := by
  induction d with
  | zero =>
    intro k i h1 h2 h3
    obtain ⟨k, rfl⟩ : ∃ m, k = m + 1 := ⟨k - 1, by omega⟩
    rw [P.skifflaw3_OpsMany.l1, if_neg (by omega)]
  | succ d ih =>
    intro k i h1 h2 h3
    obtain ⟨k, rfl⟩ : ∃ m, k = m + 1 := ⟨k - 1, by omega⟩
    have e2 : wrap64 ((i : Int) + 1) = ((i + 1 : Nat) : Int) := by simp only [wrap64]; omega
    rw [P.skifflaw3_OpsMany.l1, if_pos (by omega), if_pos (by omega), bt_bl s i (by omega), h3 i (by omega) (by omega), if_pos (by rfl), e2]
    exact ih k (i + 1) (by omega) (by omega) (fun j hj1 hj2 => h3 j (by omega) hj2)
theorem many_j1 (t : ByteArray) (s : ByteArray) (hs : bl s = padL (bl t)) (ht : t.size ≤ 768) (k : Nat) (hk : 10 < k) : P.skifflaw3_OpsMany.j1 k t s false = some true := by
  obtain ⟨k, rfl⟩ : ∃ m, k = m + 1 := ⟨k - 1, by omega⟩
  have hp := padL_length (bl t)
  have hz : s.size = 4 * manyL (bl t) := by rw [← bl_length, hs, hp]
  have hm : t.size ≤ 4 * manyL (bl t) ∧ 4 * manyL (bl t) < t.size + 4 := by unfold manyL; rw [bl_length]; omega
  rw [P.skifflaw3_OpsMany.j1, if_neg Bool.false_ne_true]
  refine many_l1 s (by omega) (s.size - t.size) k t.size (by omega) (by omega) fun j h1 h2 => ?_
  rw [hs]
  unfold padL
  rw [List.getD_eq_getElem?_getD, List.getElem?_append_right (by rw [bl_length]; omega), List.getElem?_replicate, if_pos (by rw [bl_length]; omega)]; rfl
theorem many_l0 (a : Int) (t : ByteArray) (hm : wordsMay a (bl t) = true) (d : Nat) : ∀ (k n : Nat), n + d = manyL (bl t) → d + 20 < k → P.skifflaw3_OpsMany.l0 k a t (wordOps a (bl t) (manyL (bl t))) (mk ((padL (bl t)).take (4 * n))) (n : Int) = some true := by
  have h1 := wordsMay_iff.1 hm
  have hlen := wordOps_length a (bl t) (manyL (bl t))
  have hp := padL_length (bl t)
  have hlt : manyL (bl t) ≤ 192 ∧ a + 4 * (manyL (bl t) : Int) ≤ 768 := by unfold manyL; omega
  have hmn : t.size ≤ 4 * manyL (bl t) ∧ 4 * manyL (bl t) < t.size + 4 := by unfold manyL; rw [bl_length]; omega
  rw [bl_length] at h1
  induction d with
  | zero =>
    intro k n h2 h3
    obtain ⟨k, rfl⟩ : ∃ m, k = m + 1 := ⟨k - 1, by omega⟩
    obtain rfl : n = manyL (bl t) := by omega
    have e1 : wrap64 ((t.size : Int) + 4) = (t.size : Int) + 4 := by simp only [wrap64]; omega
    rw [List.take_of_length_le (by omega)]
    rw [P.skifflaw3_OpsMany.l0, hlen, if_neg (by omega), mk_size, hp, if_neg (by omega), e1, if_neg (by omega), if_pos (by omega), if_pos (by omega), Int.toNat_natCast]
    have e2 : (((mk (padL (bl t))).extract 0 t.size).toList != t.toList) = false := by
      rw [bne_eq_false_iff_eq, toList_bl, toList_bl, bl_extract, bl_mk, List.drop_zero, Nat.sub_zero]
      unfold padL
      rw [List.take_append_of_le_length (by rw [bl_length]; exact Nat.le_refl _), List.take_of_length_le (by rw [bl_length]; exact Nat.le_refl _)]
    rw [e2]
    exact many_j1 t _ (bl_mk _) (by omega) k (by omega)
  | succ d ih =>
    intro k n h2 h3
    obtain ⟨k, rfl⟩ : ∃ m, k = m + 1 := ⟨k - 1, by omega⟩
    have e2 : wrap64 ((n : Int) + 1) = ((n + 1 : Nat) : Int) := by simp only [wrap64]; omega
    have e3 : wrap64 (a + wrap64 (4 * (n : Int))) = a + 4 * (n : Int) := by simp only [wrap64]; omega
    have hr := ih k (n + 1) (by omega) (by omega)
    have hw := wordL_length (t := bl t) (n := n) (by omega)
    have hcat : mk ((padL (bl t)).take (4 * n)) ++ mk (wordL (bl t) n) = mk ((padL (bl t)).take (4 * (n + 1))) := by
      rw [← mk_append]
      unfold wordL
      rw [show 4 * (n + 1) = 4 * n + 4 by omega, List.take_add]
    rw [P.skifflaw3_OpsMany.l0, hlen, if_pos (by omega), if_pos (by omega), O.rd_at _ n (by omega), wordOps_at]
    unfold wordOp
    dsimp only
    rw [if_neg Bool.false_ne_true, e3, if_pos rfl, if_pos (by rw [mk_size, hw]; rfl), opsMay_f _ _ _ (by omega), bl_mk, opMay_false.2 (by omega), Option.bind_some, if_pos rfl, if_pos (by rw [mk_size, mk_size, hw, List.length_take]; omega), hcat, e2]
    exact hr
theorem opsMany_f (a : Int) (t : ByteArray) (ht : t.size ≤ 140737488351232) : P.skifflaw3_OpsMany.f 300 a t = some true := by
  unfold P.skifflaw3_OpsMany.f
  rw [awake3_f, Option.bind_some, if_pos rfl, words_f a t 300 (by omega) ht, Option.bind_some, P.skifflaw0_Num.f, Option.bind_some]
  unfold wordsPair
  cases hm : wordsMay a (bl t)
  · rfl
  · have h1 := wordsMay_iff.1 hm
    exact many_l0 a t hm (manyL (bl t)) 300 0 (by omega) (by unfold manyL; omega)
theorem opsMany_walk (a : Int) (t : ByteArray) (f1 : (Lit.int .i64 a).wf = true) (ht : t.size ≤ 140737488351232) (w : World) :
    Calls Try.prog 7 #[.int .i64 a, .string t] w fun e w' => e = .returned (.bool true) ∧ Ext w w' :=
  P.skifflaw3_OpsMany.calls 300 a t true w (opsMany_f a t ht)

end Go.Proofs.Ytkkabmoahmaniaa
