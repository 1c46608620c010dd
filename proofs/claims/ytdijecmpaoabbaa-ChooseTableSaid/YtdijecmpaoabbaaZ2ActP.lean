/- Which record is active: choose.Active, choose.Other, and the reference's. -/
import Derived.Test.YtdijecmpaoabbaaZ2ScnP
import Derived.Test.YtdijecmpaoabbaaZ2GivHp
import Derived.Test.YtdijecmpaoabbaaZ2Px3
import Derived.Test.YtdijecmpaoabbaaZ2Px4
set_option linter.unusedVariables false
set_option linter.unusedSimpArgs false
set_option maxHeartbeats 4000000
namespace Go.Proofs.Ytdijecmpaoabbaa
open Go.RowKit Skiff Go.Proofs.YtdijecmpaoabbaaW.PrintWords

def recOf (p : Plc) : Rec := ⟨p.f1.f0, p.f1.f1, p.f1.f2, p.f1.f3⟩
def goodAt (f : ByteArray) (p : Plc) : Bool := goodB f (recOf p)
def best (f : ByteArray) : Option Plc := (scanTo f 8).foldl (stepB (goodAt f)) none
def actTup (f : ByteArray) : Int × Int × Int × Int × Int × Int := if f.size = 768 then P.actOut (best f) else (0, 0, 0, 0, 0, 700)
theorem scan_may {f : ByteArray} (hf : f.size = 768) {p : Plc} {n : Nat} (h : p ∈ scanTo f n) : imageMay f (recOf p) = true := by
  obtain ⟨i, r, _, hs, rfl⟩ := scanTo_mem h
  unfold imageMay
  rw [decide_eq_true hf, Bool.true_and]
  exact slotAt_may hs
theorem ats_scan (f : ByteArray) : Ats (scanTo f 8) := fun p hp => by have := scanTo_at hp; omega
theorem best_gen (f : ByteArray) (l : List Plc) (ha : Ats l) (hb : Asc l) (o : Option Plc) (ho : l.foldl (stepB (goodAt f)) none = o) : Hp.Best pkey (goodAt f) l o := by
  have h := fold_best (goodAt f) l [] none
  rw [List.nil_append, ho] at h
  exact h ha hb (fun x hx => by cases hx)
theorem best_of (f : ByteArray) (l : List Plc) (o : Option Plc) (h1 : scanTo f 8 = l) (h2 : best f = o) : Hp.Best pkey (goodAt f) l o := by
  have ha := ats_scan f
  have hb := scanTo_asc f 8
  unfold best at h2
  rw [h1] at ha hb h2
  exact best_gen f l ha hb o h2
theorem foldM_good (f : ByteArray) (hf : f.size = 768) : ∀ (l : List Plc) (b : Option Plc), (∀ p ∈ l, imageMay f (recOf p) = true) →
    l.foldlM (fun (b : Option Plc) p => (P.image_Good.f f p.f1.f0 p.f1.f1 p.f1.f2 p.f1.f3).bind fun g => some (if g.1 && (b.all fun q => decide (q.f1.f0 ≤ p.f1.f0)) then some p else b)) b = some (l.foldl (stepB (goodAt f)) b)
  | [], b, _ => rfl
  | p :: l, b, h => by
    have hg := good_f f (recOf p)
    unfold goodPair at hg
    rw [h p (List.mem_cons_self ..), if_pos rfl] at hg
    rw [List.foldlM_cons, List.foldl_cons, show P.image_Good.f f p.f1.f0 p.f1.f1 p.f1.f2 p.f1.f3 = _ from hg]
    exact foldM_good f hf l _ (fun q hq => h q (List.mem_cons_of_mem _ hq))
theorem act_f (f : ByteArray) : P.choose_Active.f f = some (actTup f) := by
  unfold P.choose_Active.f actTup
  rw [scan_f f 300 (by omega)]
  by_cases hf : f.size = 768
  · rw [if_pos hf, if_pos hf]
    simp only [Option.bind_some, if_true]
    rw [foldM_good f hf (scanTo f 8) none (fun p hp => scan_may hf hp)]
    unfold best
    generalize (scanTo f 8).foldl (stepB (goodAt f)) none = b
    rfl
  · rw [if_neg hf, if_neg hf]; rfl
/-- What is active has a record that may be, and its image has its sum. -/
theorem best_some {f : ByteArray} {p : Plc} (h : best f = some p) : ∃ i r, i < 8 ∧ slotAt f i = some r ∧ p = mkPl i r ∧ goodB f r = true ∧ recMay r = true := by
  have hb := best_of f _ _ rfl h
  obtain ⟨i, r, hi, hs, rfl⟩ := scanTo_mem hb.1
  exact ⟨i, r, hi, hs, rfl, hb.2.1, slotAt_may hs⟩
def othOf (b : Option Plc) : Int × Int := match b with | none => (0, 0) | some p => (1 - p.f1.f1, 0)
def otherPair (f : ByteArray) : Int × Int := if f.size = 768 then othOf (best f) else (0, 700)
theorem act_oth (b : Option Plc) (hb : ∀ p, b = some p → 0 ≤ p.f1.f1 ∧ p.f1.f1 ≤ 1) : ((P.actOut b).2.2.2.2.2 = 0 ∧ othOf b = (wrap64 (1 - (P.actOut b).2.2.1), 0)) ∨ ((P.actOut b).2.2.2.2.2 = 701 ∧ othOf b = (0, 0)) := by
  cases b with
  | none => exact .inr ⟨rfl, rfl⟩
  | some p =>
    have h := hb p rfl
    refine .inl ⟨rfl, ?_⟩
    show ((1 - p.f1.f1 : Int), (0 : Int)) = (wrap64 (1 - p.f1.f1), 0)
    congr 1
    simp only [wrap64]
    omega
theorem best_slot (f : ByteArray) (b : Option Plc) (hb : best f = b) : ∀ p, b = some p → 0 ≤ p.f1.f1 ∧ p.f1.f1 ≤ 1 := fun p hp => by
  subst hp
  obtain ⟨i, r, hi, hs, rfl, _, hm⟩ := best_some hb
  have hm := recMay_iff.1 hm
  show 0 ≤ r.slot ∧ r.slot ≤ 1
  omega
theorem other_f (f : ByteArray) : P.choose_Other.f f = some (otherPair f) := by
  unfold P.choose_Other.f
  rw [act_f f, Option.bind_some]
  unfold actTup otherPair
  by_cases hf : f.size = 768
  · simp only [if_pos hf]
    generalize hb : best f = b
    rcases act_oth b (best_slot f b hb) with ⟨h1, h2⟩ | ⟨h1, h2⟩
    · rw [if_neg (by rw [h1]; decide), if_pos h1, h2]
    · rw [if_neg (by rw [h1]; decide), if_neg (by rw [h1]; decide), h2]
  · simp only [if_neg hf]
    rfl

end Go.Proofs.Ytdijecmpaoabbaa
