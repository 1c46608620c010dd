/- Steps of a flash in plain Lean: what ops.May, Cut, Do, Words, and the reference's, come to. -/
import Derived.Test.YtgoeooghoojdgaaZ2HandA
import Derived.Test.YtgoeooghoojdgaaZ2NorP
import Derived.Test.YtgoeooghoojdgaaZ2Px2
import Derived.Test.YtgoeooghoojdgaaZ2Px5
import Derived.Test.YtgoeooghoojdgaaZ2Px6
import Derived.Test.YtgoeooghoojdgaaZ2Px7
set_option linter.unusedVariables false
set_option linter.unusedSimpArgs false
set_option maxHeartbeats 4000000
namespace Skiff
/-- May a step be? What it leaves of a flash; its answer. -/
def opMay (e : Bool) (a : Int) (t : List UInt8) : Bool :=
  if e = true then within a 0 672 && (decide (a % 96 = 0) && decide (t.length = 0)) else within a 0 764 && (decide (a % 4 = 0) && decide (t.length = 4))
def opF (f : List UInt8) (e : Bool) (a : Int) (t : List UInt8) (c : Nat) : List UInt8 := if e = true then wornF f a.toNat c else tornF f a.toNat t (min c 32)
def cutMay (f : ByteArray) (e : Bool) (a : Int) (t : ByteArray) (c : Int) : Bool := decide (f.size = 768) && (opMay e a (bl t) && within c 0 96)
def cutPair (f : ByteArray) (e : Bool) (a : Int) (t : ByteArray) (c : Int) : ByteArray × Int := if cutMay f e a t c = true then (mk (opF (bl f) e a (bl t) c.toNat), 0) else (⟨#[]⟩, 300)
theorem opMay_true {a : Int} {t : List UInt8} : opMay true a t = true ↔ (0 ≤ a ∧ a ≤ 672) ∧ a % 96 = 0 ∧ t.length = 0 := by
  simp [opMay, within]
theorem opMay_false {a : Int} {t : List UInt8} : opMay false a t = true ↔ (0 ≤ a ∧ a ≤ 764) ∧ a % 4 = 0 ∧ t.length = 4 := by
  simp [opMay, within]
theorem opF_length {f : List UInt8} {e : Bool} {a : Int} {t : List UInt8} {c : Nat} (hf : f.length = 768) (hm : opMay e a t = true) (hc : c ≤ 96) : (opF f e a t c).length = 768 := by
  unfold opF
  cases e
  · have h := opMay_false.1 hm
    simp only [Bool.false_eq_true, if_false]
    rw [tornF_length _ _ _ _ (by omega), hf]
  · have h := opMay_true.1 hm
    simp only [if_true]
    rw [wornF_length _ _ _ (by omega), hf]
/-- A text, made as long as its words need; a word of it; how many there are. -/
def padL (t : List UInt8) : List UInt8 := t ++ List.replicate ((4 - t.length % 4) % 4) 255
def wordL (t : List UInt8) (n : Nat) : List UInt8 := ((padL t).drop (4 * n)).take 4
def manyL (t : List UInt8) : Nat := (t.length + 3) / 4
theorem padL_length (t : List UInt8) : (padL t).length = 4 * manyL t := by
  unfold padL manyL
  rw [List.length_append, List.length_replicate]; omega
theorem wordL_length {t : List UInt8} {n : Nat} (h : n < manyL t) : (wordL t n).length = 4 := by
  unfold wordL
  rw [List.length_take, List.length_drop, padL_length]; omega
theorem wordL_at {t : List UInt8} {n i : Nat} (h : n < manyL t) (hi : i < 4) : (wordL t n).getD i 0 = if 4 * n + i < t.length then t.getD (4 * n + i) 0 else 255 := by
  unfold wordL padL
  have hl : 4 * n + i < t.length + (4 - t.length % 4) % 4 := by unfold manyL at h; omega
  rw [List.getD_eq_getElem?_getD, List.getElem?_take, if_pos hi, List.getElem?_drop]
  by_cases c : 4 * n + i < t.length
  · rw [if_pos c, List.getElem?_append_left c, ← List.getD_eq_getElem?_getD]
  · rw [if_neg c, List.getElem?_append_right (by omega), List.getElem?_replicate, if_pos (by omega)]; rfl
def wordsMay (a : Int) (t : List UInt8) : Bool := within a 0 768 && (decide (a % 4 = 0) && decide ((t.length : Int) ≤ 768 - a))
end Skiff
namespace Go.Proofs.Ytgoeooghoojdgaa.O
open Go.RowKit Skiff Go.Proofs.YtgoeooghoojdgaaW.PrintWords Go.Proofs.YtgoeooghoojdgaaW.PrintMore

abbrev Opn := P.S40
theorem upTo_f (x a b : Int) : P.skiffref1_upTo.f x a b = some (within x a b) := by
  unfold P.skiffref1_upTo.f within
  by_cases h : a ≤ x
  · rw [if_pos h, decide_eq_true h]; rfl
  · rw [if_neg h, decide_eq_false h]; rfl
theorem may_f (f : ByteArray) : P.nor_May.f f = some (decide (f.size = 768)) := by
  unfold P.nor_May.f
  congr 1
  rw [Bool.eq_iff_iff]; simp; omega
theorem flashMay_f (f : ByteArray) : P.skiffref1_FlashMay.f f = some (decide (f.size = 768)) := by
  unfold P.skiffref1_FlashMay.f
  congr 1
  rw [Bool.eq_iff_iff]; simp; omega
theorem none_iff (t : ByteArray) : (t.toList == ([] : List UInt8)) = decide ((bl t).length = 0) := by
  rw [toList_bl]; cases bl t <;> rfl
theorem four_iff (t : ByteArray) : ((t.size : Int) == 4) = decide ((bl t).length = 4) := by
  rw [bl_length, Bool.eq_iff_iff]; simp; omega
theorem opsMay_f (e : Bool) (a : Int) (t : ByteArray) (ha : a < 9223372036854775808) : P.ops_May.f e a t = some (opMay e a (bl t)) := by
  unfold P.ops_May.f P.nor_Sector.f P.nor_Begins.f opMay within
  rw [none_iff, four_iff]
  cases e
  · simp only [Bool.false_eq_true, if_false]
    by_cases h0 : a ≥ 0
    · rw [if_pos h0, decide_eq_true (by omega : 0 ≤ a), Int.tmod_eq_emod_of_nonneg h0]
      by_cases h1 : a < 768
      · rw [if_pos h1, Option.bind_some]
        by_cases h2 : a % 4 = 0
        · rw [beq_iff_eq.2 h2, if_pos rfl, decide_eq_true h2, decide_eq_true (by omega : a ≤ 764)]; rfl
        · rw [beq_eq_false_iff_ne.2 h2, if_neg Bool.false_ne_true, decide_eq_false h2]; simp
      · rw [if_neg h1, Option.bind_some, if_neg Bool.false_ne_true, decide_eq_false (by omega : ¬ a ≤ 764)]; rfl
    · rw [if_neg h0, Option.bind_some, if_neg Bool.false_ne_true, decide_eq_false (by omega : ¬ 0 ≤ a)]; rfl
  · simp only [if_true]
    by_cases h0 : a ≥ 0
    · rw [if_pos h0, decide_eq_true (by omega : 0 ≤ a), Int.tmod_eq_emod_of_nonneg h0, Int.tdiv_eq_ediv_of_nonneg h0]
      have ew : wrap64 (a / 96) = a / 96 := by simp only [wrap64]; omega
      rw [ew, if_pos (by omega : a / 96 ≥ 0), Option.bind_some]
      by_cases h2 : a % 96 = 0
      · rw [if_pos h2, decide_eq_true h2]
        by_cases h1 : a / 96 < 8
        · rw [decide_eq_true h1, if_pos rfl, decide_eq_true (by omega : a ≤ 672)]; rfl
        · rw [decide_eq_false h1, if_neg Bool.false_ne_true, decide_eq_false (by omega : ¬ a ≤ 672)]; rfl
      · rw [if_neg h2, decide_eq_false h2]; simp
    · rw [if_neg h0, decide_eq_false (by omega : ¬ 0 ≤ a)]; rfl
theorem ropMay_f (e : Bool) (a : Int) (t : ByteArray) : P.skiffref1_OpMay.f e a t = some (opMay e a (bl t)) := by
  unfold P.skiffref1_OpMay.f P.skiffref1_wordAt.f opMay
  rw [none_iff, four_iff, upTo_f, upTo_f, Option.bind_some, Option.bind_some]
  cases e
  · simp only [Bool.false_eq_true, if_false]
    cases h : within a 0 764
    · rfl
    · have h := Skiff.within_iff.1 h
      rw [if_pos rfl, Option.bind_some, Int.tmod_eq_emod_of_nonneg h.1]
      by_cases h2 : a % 4 = 0
      · rw [beq_iff_eq.2 h2, if_pos rfl, decide_eq_true h2]; rfl
      · rw [beq_eq_false_iff_ne.2 h2, if_neg Bool.false_ne_true, decide_eq_false h2]; rfl
  · simp only [if_true]
    cases h : within a 0 672
    · rfl
    · have h := Skiff.within_iff.1 h
      rw [if_pos rfl, Int.tmod_eq_emod_of_nonneg h.1]
      by_cases h2 : a % 96 = 0
      · rw [if_pos h2, decide_eq_true h2]; rfl
      · rw [if_neg h2, decide_eq_false h2]; rfl
theorem worn_ok {f : ByteArray} {a c : Int} {t : List UInt8} (hf : f.size = 768) (hm : opMay true a t = true) (hc : 0 ≤ c ∧ c ≤ 96) : worn (bl f) (wrap64 (Int.tdiv a 96)) c = some (wornF (bl f) a.toNat c.toNat) := by
  have h := opMay_true.1 hm
  have ew : wrap64 (a / 96) = a / 96 := by simp only [wrap64]; omega
  rw [Int.tdiv_eq_ediv_of_nonneg h.1.1, ew]
  unfold worn wornMay
  rw [bl_length, if_pos]
  · rw [show 96 * (a / 96).toNat = a.toNat by omega]
  · rw [decide_eq_true hf, Skiff.within_iff.2 (by omega : (0 : Int) ≤ a / 96 ∧ a / 96 ≤ 7), Skiff.within_iff.2 hc]; rfl
theorem torn_ok {f : ByteArray} {a c : Int} {t : ByteArray} (hf : f.size = 768) (hm : opMay false a (bl t) = true) (hc : 0 ≤ c ∧ c ≤ 96) : torn (bl f) a (bl t) (mn c 32) = some (tornF (bl f) a.toNat (bl t) (min c.toNat 32)) := by
  have h := opMay_false.1 hm
  have e : mn c 32 = ((min c.toNat 32 : Nat) : Int) := by unfold mn; split <;> omega
  rw [e]
  unfold torn tornMay wordAt
  rw [if_pos]
  · rfl
  · rw [bl_length, decide_eq_true hf, Skiff.within_iff.2 h.1, decide_eq_true h.2.1, decide_eq_true h.2.2, Skiff.within_iff.2 (by omega : (0 : Int) ≤ ((min c.toNat 32 : Nat) : Int) ∧ ((min c.toNat 32 : Nat) : Int) ≤ 32)]; rfl
theorem cut_j0 (f : ByteArray) (e : Bool) (a : Int) (t : ByteArray) (c : Int) (k : Nat) (b : Bool) (hb : b = !(cutMay f e a t c)) : P.ops_Cut.j0 (k + 1) f c b e a t = some (cutPair f e a t c) := by
  subst hb
  rw [P.ops_Cut.j0]
  unfold cutPair
  cases hm : cutMay f e a t c
  · rfl
  · obtain ⟨h1, h2⟩ := Bool.and_eq_true_iff.1 hm
    obtain ⟨h2, h3⟩ := Bool.and_eq_true_iff.1 h2
    have h1 := of_decide_eq_true h1
    have h3 := Skiff.within_iff.1 h3
    rw [if_neg (by decide), if_pos rfl]
    cases e
    · rw [if_neg Bool.false_ne_true, P.nor_Torn.f, torn_ok h1 h2 h3]; rfl
    · rw [if_pos rfl, P.nor_Worn.f, worn_ok h1 h2 h3]; rfl
theorem cut_f (f : ByteArray) (e : Bool) (a : Int) (t : ByteArray) (c : Int) (k : Nat) (hk : 0 < k) (ha : a < 9223372036854775808) : P.ops_Cut.f k f e a t c = some (cutPair f e a t c) := by
  obtain ⟨k, rfl⟩ : ∃ m, k = m + 1 := ⟨k - 1, by omega⟩
  unfold P.ops_Cut.f
  rw [may_f, opsMay_f e a t ha, Option.bind_some, Option.bind_some]
  by_cases h1 : f.size = 768
  · rw [decide_eq_true h1, if_pos rfl]
    cases h2 : opMay e a (bl t)
    · rw [if_neg Bool.false_ne_true]; exact cut_j0 f e a t c k _ (by unfold cutMay; rw [h2, Bool.false_and, Bool.and_false]; rfl)
    · rw [if_pos rfl]
      by_cases h3 : c < 0
      · rw [if_pos h3]; exact cut_j0 f e a t c k _ (by unfold cutMay within; rw [decide_eq_false (by omega : ¬ 0 ≤ c), Bool.false_and, Bool.and_false, Bool.and_false]; rfl)
      · rw [if_neg h3]; exact cut_j0 f e a t c k _ (by
          unfold cutMay within; rw [decide_eq_true h1, h2, decide_eq_true (by omega : 0 ≤ c), Bool.true_and, Bool.true_and, Bool.true_and]
          by_cases h4 : c > 96
          · rw [decide_eq_true h4, decide_eq_false (by omega)]; rfl
          · rw [decide_eq_false h4, decide_eq_true (by omega)]; rfl)
  · rw [decide_eq_false h1, if_neg Bool.false_ne_true]; exact cut_j0 f e a t c k _ (by unfold cutMay; rw [decide_eq_false h1, Bool.false_and]; rfl)
theorem do_f (f : ByteArray) (e : Bool) (a : Int) (t : ByteArray) (k : Nat) (hk : 0 < k) (ha : a < 9223372036854775808) : P.ops_Do.f k f e a t = some (cutPair f e a t 96) := by
  unfold P.ops_Do.f
  rw [cut_f f e a t 96 k hk ha]; rfl
theorem rcut_j0 (f : ByteArray) (e : Bool) (a : Int) (t : ByteArray) (c : Int) (k : Nat) (b : Bool) (hb : b = !(cutMay f e a t c)) : P.skiffref1_Cut.j0 (k + 1) f c b e a t = some (cutPair f e a t c) := by
  subst hb
  rw [P.skiffref1_Cut.j0]
  unfold cutPair
  cases hm : cutMay f e a t c
  · rfl
  · obtain ⟨h1, h2⟩ := Bool.and_eq_true_iff.1 hm
    obtain ⟨h2, h3⟩ := Bool.and_eq_true_iff.1 h2
    have h1 := of_decide_eq_true h1
    have h3 := Skiff.within_iff.1 h3
    rw [if_neg (by decide), if_pos rfl]
    cases e
    · rw [if_neg Bool.false_ne_true, P.skiffref1_Torn.f, torn_ok h1 h2 h3]; rfl
    · rw [if_pos rfl, P.skiffref1_Worn.f, worn_ok h1 h2 h3]; rfl
theorem rcut_f (f : ByteArray) (e : Bool) (a : Int) (t : ByteArray) (c : Int) (k : Nat) (hk : 0 < k) : P.skiffref1_Cut.f k f e a t c = some (cutPair f e a t c) := by
  obtain ⟨k, rfl⟩ : ∃ m, k = m + 1 := ⟨k - 1, by omega⟩
  unfold P.skiffref1_Cut.f
  rw [flashMay_f, ropMay_f e a t, upTo_f, Option.bind_some, Option.bind_some, Option.bind_some]
  by_cases h1 : f.size = 768
  · rw [decide_eq_true h1, if_pos rfl]
    cases h2 : opMay e a (bl t)
    · rw [if_neg Bool.false_ne_true]; exact rcut_j0 f e a t c k _ (by unfold cutMay; rw [h2, Bool.false_and, Bool.and_false]; rfl)
    · rw [if_pos rfl]; exact rcut_j0 f e a t c k _ (by unfold cutMay; rw [decide_eq_true h1, h2, Bool.true_and, Bool.true_and])
  · rw [decide_eq_false h1, if_neg Bool.false_ne_true]; exact rcut_j0 f e a t c k _ (by unfold cutMay; rw [decide_eq_false h1, Bool.false_and]; rfl)
theorem rdo_f (f : ByteArray) (e : Bool) (a : Int) (t : ByteArray) (k : Nat) (hk : 0 < k) : P.skiffref1_Do.f k f e a t = some (cutPair f e a t 96) := by
  unfold P.skiffref1_Do.f
  rw [rcut_f f e a t 96 k hk]; rfl

/-- The steps that program a text. -/
def wordOp (a : Int) (t : List UInt8) (n : Nat) : Opn := ⟨false, a + 4 * (n : Int), mk (wordL t n)⟩
def wordOps (a : Int) (t : List UInt8) : Nat → List Opn
  | 0 => []
  | n + 1 => wordOps a t n ++ [wordOp a t n]
def wordsPair (a : Int) (t : ByteArray) : List Opn × Int := if wordsMay a (bl t) = true then (wordOps a (bl t) (manyL (bl t)), 0) else ([], 300)
theorem wordOps_length (a : Int) (t : List UInt8) : ∀ n, (wordOps a t n).length = n
  | 0 => rfl
  | n + 1 => by rw [wordOps, List.length_append, wordOps_length a t n]; rfl
theorem wordOps_at (a : Int) (t : List UInt8) : ∀ n i (h : i < (wordOps a t n).length), (wordOps a t n)[i] = wordOp a t i
  | 0, i, h => by simp [wordOps] at h
  | n + 1, i, h => by
    have hl := wordOps_length a t n
    rw [wordOps_length] at h
    by_cases c : i < n
    · rw [List.getElem_of_eq (show wordOps a t (n + 1) = wordOps a t n ++ [wordOp a t n] from rfl), List.getElem_append_left (by omega)]
      exact wordOps_at a t n i (by omega)
    · obtain rfl : i = n := by omega
      rw [List.getElem_of_eq (show wordOps a t (i + 1) = wordOps a t i ++ [wordOp a t i] from rfl), List.getElem_append_right (by omega)]
      simp [hl]
theorem rwords_l0 (a : Int) (t : List UInt8) (hm : wordsMay a t = true) (d : Nat) : ∀ (k n : Nat), n + d = manyL t → d < k → P.skiffref1_Words.l0 k a (mk (padL t)) (wordOps a t n) (4 * (n : Int)) = some (wordOps a t (manyL t), 0) := by
  obtain ⟨h1, h2⟩ := Bool.and_eq_true_iff.1 hm
  have h1 := Skiff.within_iff.1 h1
  have h2 := Bool.and_eq_true_iff.1 h2
  have h3 := of_decide_eq_true h2.2
  have h2 := of_decide_eq_true h2.1
  have hp := padL_length t
  have hb : manyL t ≤ 192 := by unfold manyL; omega
  induction d with
  | zero =>
    intro k n h4 h5
    obtain ⟨k, rfl⟩ : ∃ m, k = m + 1 := ⟨k - 1, by omega⟩
    obtain rfl : n = manyL t := by omega
    rw [P.skiffref1_Words.l0, mk_size, hp, if_neg (by omega)]
  | succ d ih =>
    intro k n h4 h5
    obtain ⟨k, rfl⟩ : ∃ m, k = m + 1 := ⟨k - 1, by omega⟩
    have hr := ih k (n + 1) (by omega) (by omega)
    have hlen := wordOps_length a t n
    have e1 : wrap64 (4 * (n : Int) + 4) = 4 * ((n + 1 : Nat) : Int) := by simp only [wrap64]; omega
    have e2 : wrap64 (a + 4 * (n : Int)) = a + 4 * (n : Int) := by simp only [wrap64]; omega
    have hx : (mk (padL t)).extract (4 * (n : Int)).toNat (4 * ((n + 1 : Nat) : Int)).toNat = mk (wordL t n) := by
      apply bl_inj
      rw [bl_extract, bl_mk, bl_mk, show (4 * (n : Int)).toNat = 4 * n by omega, show (4 * ((n + 1 : Nat) : Int)).toNat - 4 * n = 4 by omega]
      rfl
    rw [P.skiffref1_Words.l0, mk_size, hp, if_pos (by omega), if_pos (by omega), e1, if_pos (by omega), if_pos (by omega), if_pos (by omega), e2, hx]
    exact hr
theorem rwords_j0 (a : Int) (t : ByteArray) (k : Nat) (hk : 193 < k) (b : Bool) (hb : b = !(wordsMay a (bl t))) : P.skiffref1_Words.j0 (k + 1) a t b = some (wordsPair a t) := by
  subst hb
  rw [P.skiffref1_Words.j0]
  unfold wordsPair
  cases hm : wordsMay a (bl t)
  · rfl
  · have hq : (t.size : Int) ≤ 768 ∧ manyL (bl t) ≤ 192 := by
      obtain ⟨h1, h2⟩ := Bool.and_eq_true_iff.1 hm
      have h1 := Skiff.within_iff.1 h1
      have h3 := of_decide_eq_true (Bool.and_eq_true_iff.1 h2).2
      rw [bl_length] at h3
      unfold manyL
      rw [bl_length]
      omega
    have hfl : fulls ((4 - (t.size : Int) % 4) % 4) = some (mk (List.replicate ((4 - (bl t).length % 4) % 4) 255)) := by
      unfold fulls
      rw [if_pos (by omega), bl_length, show ((4 - (t.size : Int) % 4) % 4).toNat = (4 - t.size % 4) % 4 by omega]
    have hp : t ++ mk (List.replicate ((4 - (bl t).length % 4) % 4) 255) = mk (padL (bl t)) := by
      apply bl_inj
      rw [bl_append, bl_mk, bl_mk]; rfl
    rw [if_neg (by decide), P.skiffref1_full.f, hfl, Option.bind_some, hp, if_pos (by rw [mk_size, List.length_replicate]; omega), if_pos rfl]
    exact rwords_l0 a (bl t) hm (manyL (bl t)) k 0 (by omega) (by omega)
theorem rwords_f (a : Int) (t : ByteArray) (k : Nat) (hk : 194 < k) (ht : t.size ≤ 140737488351232) : P.skiffref1_Words.f k a t = some (wordsPair a t) := by
  obtain ⟨k, rfl⟩ : ∃ m, k = m + 1 := ⟨k - 1, by omega⟩
  unfold P.skiffref1_Words.f
  rw [upTo_f, Option.bind_some]
  cases h1 : within a 0 768
  · rw [if_neg Bool.false_ne_true]; exact rwords_j0 a t k (by omega) _ (by unfold wordsMay; rw [h1]; rfl)
  · have h := Skiff.within_iff.1 h1
    rw [if_pos rfl, Int.tmod_eq_emod_of_nonneg (by omega)]
    by_cases h2 : a % 4 = 0
    · have ew : wrap64 (768 - a) = 768 - a := by simp only [wrap64]; omega
      rw [if_pos h2, ew]; exact rwords_j0 a t k (by omega) _ (by
        unfold wordsMay; rw [h1, decide_eq_true h2, bl_length, Bool.true_and, Bool.true_and]
        by_cases c : (t.size : Int) > 768 - a
        · rw [decide_eq_true c, decide_eq_false (by omega)]; rfl
        · rw [decide_eq_false c, decide_eq_true (by omega)]; rfl)
    · rw [if_neg h2]; exact rwords_j0 a t k (by omega) _ (by unfold wordsMay; rw [decide_eq_false h2, Bool.false_and, Bool.and_false]; rfl)

theorem rd_at (l : List Opn) (i : Nat) (h : i < l.length) : P.rd_T40 l (i : Int) = l[i] := by
  unfold P.rd_T40
  rw [Int.toNat_natCast, List.getD_eq_getElem?_getD, List.getElem?_eq_getElem h]; rfl
theorem same_l0 (l : List Opn) (hl : l.length < 1000000) (d : Nat) : ∀ (k i : Nat), i + d = l.length → d < k → P.skifflaw0_SameOps.l0 k l l (i : Int) = some true := by
  induction d with
  | zero =>
    intro k i h1 h2
    obtain ⟨k, rfl⟩ : ∃ m, k = m + 1 := ⟨k - 1, by omega⟩
    rw [P.skifflaw0_SameOps.l0, if_neg (by omega)]
  | succ d ih =>
    intro k i h1 h2
    obtain ⟨k, rfl⟩ : ∃ m, k = m + 1 := ⟨k - 1, by omega⟩
    have e2 : wrap64 ((i : Int) + 1) = ((i + 1 : Nat) : Int) := by simp only [wrap64]; omega
    have hr := ih k (i + 1) (by omega) (by omega)
    rw [P.skifflaw0_SameOps.l0, if_pos (by omega), if_pos (by omega), if_pos (by omega), e2, hr]
    simp
theorem same_f (l : List Opn) (hl : l.length < 1000000) (k : Nat) (hk : l.length < k) : P.skifflaw0_SameOps.f k l l = some true := by
  unfold P.skifflaw0_SameOps.f
  rw [if_pos rfl]
  exact same_l0 l hl l.length k 0 (by omega) hk
theorem cutPair_ok {f : ByteArray} {e : Bool} {a : Int} {t : ByteArray} {c : Int} (h : cutMay f e a t c = true) : cutPair f e a t c = (mk (opF (bl f) e a (bl t) c.toNat), 0) := by unfold cutPair; rw [if_pos h]
theorem cutMay_iff {f : ByteArray} {e : Bool} {a : Int} {t : ByteArray} {c : Int} : cutMay f e a t c = true ↔ f.size = 768 ∧ opMay e a (bl t) = true ∧ 0 ≤ c ∧ c ≤ 96 := by
  simp [cutMay, within]
theorem opMay_lt {e : Bool} {a : Int} {t : List UInt8} (h : opMay e a t = true) : 0 ≤ a ∧ a ≤ 764 := by
  cases e
  · have := opMay_false.1 h; omega
  · have := opMay_true.1 h; omega

end Go.Proofs.Ytgoeooghoojdgaa.O
