/- Which record is active: choose.Active, choose.Other, and the reference's. -/
import Derived.Test.YtdijecmpaoabbaaZ0ScnP
import Derived.Test.YtdijecmpaoabbaaZ0GivHp
import Derived.Test.YtdijecmpaoabbaaZ0Px3
import Derived.Test.YtdijecmpaoabbaaZ0Px4
set_option linter.unusedVariables false
set_option linter.unusedSimpArgs false
set_option maxHeartbeats 4000000
namespace Go.Proofs.Ytdijecmpaoabbaa
open Go.RowKit Skiff Go.Proofs.YtdijecmpaoabbaaW.PrintWords

def recOf (p : Plc) : Rec := ⟨p.f1.f0, p.f1.f1, p.f1.f2, p.f1.f3⟩
def goodAt (f : ByteArray) (p : Plc) : Bool := goodB f (recOf p)
def best (f : ByteArray) : Option Plc := (scanTo f 8).foldl (stepB (goodAt f)) none
def actTup (f : ByteArray) : Int × Int × Int × Int × Int × Int := if f.size = 768 then P.actOut (best f) else (0, 0, 0, 0, 0, 700)
theorem scan_may {f : ByteArray} (hf : f.size = 768) {p : Plc} {n : Nat} (h : p ∈ scanTo f n) : imageMay f (recOf p) = true := by
  obtain ⟨i, r, _, hs, rfl⟩ := scanTo_mem h
  unfold imageMay
  rw [decide_eq_true hf, Bool.true_and]
  exact slotAt_may hs
theorem ats_scan (f : ByteArray) : Ats (scanTo f 8) := fun p hp => by have := scanTo_at hp; omega
theorem best_gen (f : ByteArray) (l : List Plc) (ha : Ats l) (hb : Asc l) (o : Option Plc) (ho : l.foldl (stepB (goodAt f)) none = o) : Hp.Best pkey (goodAt f) l o := by
  have h := fold_best (goodAt f) l [] none
  rw [List.nil_append, ho] at h
  exact h ha hb (fun x hx => by cases hx)
theorem best_of (f : ByteArray) (l : List Plc) (o : Option Plc) (h1 : scanTo f 8 = l) (h2 : best f = o) : Hp.Best pkey (goodAt f) l o := by
  have ha := ats_scan f
  have hb := scanTo_asc f 8
  unfold best at h2
  rw [h1] at ha hb h2
  exact best_gen f l ha hb o h2
theorem foldM_good (f : ByteArray) (hf : f.size = 768) : ∀ (l : List Plc) (b : Option Plc), (∀ p ∈ l, imageMay f (recOf p) = true) →
    l.foldlM (fun (b : Option Plc) p => (P.image_Good.f f p.f1.f0 p.f1.f1 p.f1.f2 p.f1.f3).bind fun g => some (if g.1 && (b.all fun q => decide (q.f1.f0 ≤ p.f1.f0)) then some p else b)) b = some (l.foldl (stepB (goodAt f)) b)
  | [], b, _ => rfl
  | p :: l, b, h => by
    have hg := good_f f (recOf p)
    unfold goodPair at hg
    rw [h p (List.mem_cons_self ..), if_pos rfl] at hg
    rw [List.foldlM_cons, List.foldl_cons, show P.image_Good.f f p.f1.f0 p.f1.f1 p.f1.f2 p.f1.f3 = _ from hg]
    exact foldM_good f hf l _ (fun q hq => h q (List.mem_cons_of_mem _ hq))
theorem act_f (f : ByteArray) : P.choose_Active.f f = some (actTup f) := by
  unfold P.choose_Active.f actTup
  rw [scan_f f 300 (by omega)]
  by_cases hf : f.size = 768
  · rw [if_pos hf, if_pos hf]
    simp only [Option.bind_some, if_true]
    rw [foldM_good f hf (scanTo f 8) none (fun p hp => scan_may hf hp)]
    unfold best
    generalize (scanTo f 8).foldl (stepB (goodAt f)) none = b
    rfl
  · rw [if_neg hf, if_neg hf]; rfl
theorem ract_l0 (f : ByteArray) (hf : f.size = 768) (l : List Plc) (hl : l.length ≤ 8) (hm : ∀ p ∈ l, imageMay f (recOf p) = true) (d : Nat) : ∀ (k i : Nat) (bi : Int) (o : Option Plc), i + d = l.length → d < k →
    ((bi = -1 ∧ o = none) ∨ ∃ (j : Nat) (h : j < l.length), bi = j ∧ o = some l[j]) → P.skiffref1_Active.l0 k f l bi (i : Int) = some (P.actOut ((l.drop i).foldl (stepB (goodAt f)) o)) := by
  induction d with
  | zero =>
    intro k i bi o h1 h2 hR
    obtain ⟨k, rfl⟩ : ∃ m, k = m + 1 := ⟨k - 1, by omega⟩
    simp only [P.skiffref1_Active.l0]
    rw [if_neg (by omega), List.drop_of_length_le (by omega)]
    rcases hR with ⟨rfl, rfl⟩ | ⟨j, hj, rfl, rfl⟩
    · rw [if_pos (by omega)]; rfl
    · rw [if_neg (by omega), if_pos (by omega), if_pos (by omega), rd_at l j hj]; rfl
  | succ d ih =>
    intro k i bi o h1 h2 hR
    obtain ⟨k, rfl⟩ : ∃ m, k = m + 1 := ⟨k - 1, by omega⟩
    have hi : i < l.length := by omega
    have e2 : wrap64 ((i : Int) + 1) = ((i + 1 : Nat) : Int) := by simp only [wrap64]; omega
    have hg := rgood_f f (recOf l[i])
    unfold goodPair at hg
    rw [hm _ (List.getElem_mem hi), if_pos rfl] at hg
    simp only [P.skiffref1_Active.l0]
    rw [if_pos (by omega), if_pos (by omega), rd_at l i hi, show P.skiffref1_Good.f f l[i].f1.f0 l[i].f1.f1 l[i].f1.f2 l[i].f1.f3 = _ from hg, e2, List.drop_eq_getElem_cons hi, List.foldl_cons]
    simp only [Option.bind_some]
    have hgd : goodAt f l[i] = goodB f (recOf l[i]) := rfl
    cases hb : goodB f (recOf l[i]) with
    | false =>
      rw [if_neg (by decide), ih k (i + 1) bi o (by omega) (by omega) hR]
      congr 2
      unfold stepB
      rw [hgd, hb, Bool.false_and, if_neg (by decide)]
    | true =>
      rw [if_pos rfl]
      rcases hR with ⟨rfl, rfl⟩ | ⟨j, hj, rfl, rfl⟩
      · rw [if_pos (by omega), ih k (i + 1) (i : Int) (some l[i]) (by omega) (by omega) (.inr ⟨i, hi, rfl, rfl⟩)]
        congr 2
        unfold stepB
        rw [hgd, hb]; rfl
      · rw [if_neg (by omega), if_pos (by omega), if_pos (by omega), rd_at l j hj]
        by_cases hs : l[i].f1.f0 ≥ l[j].f1.f0
        · rw [if_pos hs, ih k (i + 1) (i : Int) (some l[i]) (by omega) (by omega) (.inr ⟨i, hi, rfl, rfl⟩)]
          congr 2
          unfold stepB
          rw [hgd, hb, Bool.true_and, Option.all_some, if_pos (decide_eq_true hs)]
        · rw [if_neg hs, ih k (i + 1) (j : Int) (some l[j]) (by omega) (by omega) (.inr ⟨j, hj, rfl, rfl⟩)]
          congr 2
          unfold stepB
          rw [hgd, hb, Bool.true_and, Option.all_some, if_neg (fun h => hs (of_decide_eq_true h))]
theorem ract_f (f : ByteArray) (k : Nat) (hk : 16 < k) : P.skiffref1_Active.f k f = some (actTup f) := by
  unfold P.skiffref1_Active.f actTup
  rw [rscan_f f k hk]
  by_cases hf : f.size = 768
  · rw [if_pos hf, if_pos hf]
    have hl := scanTo_len f 8
    simp only [Option.bind_some, if_true]
    have h := ract_l0 f hf (scanTo f 8) hl (fun p hp => scan_may hf hp) (scanTo f 8).length k 0 (-1) none (by omega) (by omega) (.inl ⟨rfl, rfl⟩)
    rw [List.drop_zero] at h
    unfold best
    exact h
  · rw [if_neg hf, if_neg hf]; rfl
/-- What is active has a record that may be, and its image has its sum. -/
theorem best_some {f : ByteArray} {p : Plc} (h : best f = some p) : ∃ i r, i < 8 ∧ slotAt f i = some r ∧ p = mkPl i r ∧ goodB f r = true ∧ recMay r = true := by
  have hb := best_of f _ _ rfl h
  obtain ⟨i, r, hi, hs, rfl⟩ := scanTo_mem hb.1
  exact ⟨i, r, hi, hs, rfl, hb.2.1, slotAt_may hs⟩
def othOf (b : Option Plc) : Int × Int := match b with | none => (0, 0) | some p => (1 - p.f1.f1, 0)
def otherPair (f : ByteArray) : Int × Int := if f.size = 768 then othOf (best f) else (0, 700)
theorem act_oth (b : Option Plc) (hb : ∀ p, b = some p → 0 ≤ p.f1.f1 ∧ p.f1.f1 ≤ 1) : ((P.actOut b).2.2.2.2.2 = 0 ∧ othOf b = (wrap64 (1 - (P.actOut b).2.2.1), 0)) ∨ ((P.actOut b).2.2.2.2.2 = 701 ∧ othOf b = (0, 0)) := by
  cases b with
  | none => exact .inr ⟨rfl, rfl⟩
  | some p =>
    have h := hb p rfl
    refine .inl ⟨rfl, ?_⟩
    show ((1 - p.f1.f1 : Int), (0 : Int)) = (wrap64 (1 - p.f1.f1), 0)
    congr 1
    simp only [wrap64]
    omega
theorem best_slot (f : ByteArray) (b : Option Plc) (hb : best f = b) : ∀ p, b = some p → 0 ≤ p.f1.f1 ∧ p.f1.f1 ≤ 1 := fun p hp => by
  subst hp
  obtain ⟨i, r, hi, hs, rfl, _, hm⟩ := best_some hb
  have hm := recMay_iff.1 hm
  show 0 ≤ r.slot ∧ r.slot ≤ 1
  omega
theorem other_f (f : ByteArray) : P.choose_Other.f f = some (otherPair f) := by
  unfold P.choose_Other.f
  rw [act_f f, Option.bind_some]
  unfold actTup otherPair
  by_cases hf : f.size = 768
  · simp only [if_pos hf]
    generalize hb : best f = b
    rcases act_oth b (best_slot f b hb) with ⟨h1, h2⟩ | ⟨h1, h2⟩
    · rw [if_neg (by rw [h1]; decide), if_pos h1, h2]
    · rw [if_neg (by rw [h1]; decide), if_neg (by rw [h1]; decide), h2]
  · simp only [if_neg hf]
    rfl
theorem rother_f (f : ByteArray) (k : Nat) (hk : 16 < k) : P.skiffref1_Other.f k f = some (otherPair f) := by
  unfold P.skiffref1_Other.f
  rw [ract_f f k hk, Option.bind_some]
  unfold actTup otherPair
  by_cases hf : f.size = 768
  · simp only [if_pos hf]
    generalize hb : best f = b
    rcases act_oth b (best_slot f b hb) with ⟨h1, h2⟩ | ⟨h1, h2⟩
    · rw [if_pos h1, h2]
    · rw [if_neg (by rw [h1]; decide), if_pos h1, h2]
  · simp only [if_neg hf]
    rfl

end Go.Proofs.Ytdijecmpaoabbaa
