/- Chooses, ChooseBest. -/
import Derived.Test.YtdijecmpaoabbaaZ0ChsA
import Derived.Test.YtdijecmpaoabbaaZ0Px5
import Derived.Test.YtdijecmpaoabbaaZ0Px6
import Derived.Test.YtdijecmpaoabbaaZ0Px7
set_option linter.unusedVariables false
set_option linter.unusedSimpArgs false
set_option maxHeartbeats 4000000
namespace Go.Proofs.Ytdijecmpaoabbaa
open Go.RowKit Skiff Go.Proofs.YtdijecmpaoabbaaW.PrintWords

theorem chooses_f (f : ByteArray) : P.skifflaw7_Chooses.f 300 f = some true := by
  unfold P.skifflaw7_Chooses.f P.skifflaw0_Num.f
  rw [act_f, ract_f f 300 (by omega), other_f, rother_f f 300 (by omega), awake7_f]
  generalize actTup f = t
  generalize otherPair f = o
  simp
theorem chooses_walk (f : ByteArray) (hf : f.size ≤ 140737488351232) (w : World) : Calls Try.prog 3 #[.string f] w fun e w' => e = .returned (.bool true) ∧ Ext w w' :=
  P.skifflaw7_Chooses.calls 300 f true w (chooses_f f)

def sameP (q : Plc) (a b c d e : Int) : Bool := q.f0 == a && (q.f1.f0 == b && (q.f1.f1 == c && (q.f1.f2 == d && (q.f1.f3 == e))))
theorem cbest_l0 (f : ByteArray) (hf : f.size = 768) (er a b c d e : Int) (l : List Plc) (hl : l.length ≤ 8) (hm : ∀ p ∈ l, imageMay f (recOf p) = true) (hg : ∀ q ∈ l, goodAt f q = true → er = 0 ∧ q.f1.f0 ≤ b) (m : Nat) : ∀ (k i : Nat) (x : Bool), i + m = l.length → m < k →
    P.skifflaw7_ChooseBest.l0 k f er l x (i : Int) a b c d e = some ((x || (l.drop i).any (fun q => goodAt f q && sameP q a b c d e)) == (er == 0)) := by
  induction m with
  | zero =>
    intro k i x h1 h2
    obtain ⟨k, rfl⟩ : ∃ m, k = m + 1 := ⟨k - 1, by omega⟩
    simp only [P.skifflaw7_ChooseBest.l0, P.skifflaw0_Num.f]
    rw [if_neg (by omega), List.drop_of_length_le (by omega), List.any_nil, Bool.or_false]
    rfl
  | succ m ih =>
    intro k i x h1 h2
    obtain ⟨k, rfl⟩ : ∃ m, k = m + 1 := ⟨k - 1, by omega⟩
    have hi : i < l.length := by omega
    have e2 : wrap64 ((i : Int) + 1) = ((i + 1 : Nat) : Int) := by simp only [wrap64]; omega
    have hgd := rgood_f f (recOf l[i])
    unfold goodPair at hgd
    rw [hm _ (List.getElem_mem hi), if_pos rfl] at hgd
    have hq := hg _ (List.getElem_mem hi)
    simp only [P.skifflaw7_ChooseBest.l0, P.skifflaw0_Num.f]
    rw [if_pos (by omega), if_pos (by omega), rd_at l i hi, show P.skiffref1_Good.f f l[i].f1.f0 l[i].f1.f1 l[i].f1.f2 l[i].f1.f3 = _ from hgd, e2, List.drop_eq_getElem_cons hi, List.any_cons]
    simp only [Option.bind_some]
    have hga : goodAt f l[i] = goodB f (recOf l[i]) := rfl
    rw [hga] at hq ⊢
    cases hb : goodB f (recOf l[i]) with
    | false => rw [if_neg (by decide), ih k (i + 1) x (by omega) (by omega), Bool.false_and, Bool.false_or]
    | true =>
      have hq := hq hb
      rw [if_pos rfl, if_pos hq.1, if_neg (by omega)]
      cases x with
      | true => rw [if_pos rfl, ih k (i + 1) true (by omega) (by omega), Bool.true_or, Bool.true_or]
      | false =>
        rw [if_neg (by decide), ih k (i + 1) _ (by omega) (by omega), Bool.true_and, Bool.false_or]
        rfl
theorem chooseBest_f (f : ByteArray) : P.skifflaw7_ChooseBest.f 300 f = some true := by
  unfold P.skifflaw7_ChooseBest.f P.skifflaw0_Num.f
  rw [awake7_f, act_f, rscan_f f 300 (by omega)]
  simp only [Option.bind_some, if_true]
  unfold actTup
  by_cases hf : f.size = 768
  · simp only [if_pos hf]
    have hl := scanTo_len f 8
    have hm := fun p (hp : p ∈ scanTo f 8) => scan_may hf hp
    have hats := ats_scan f
    have hB := best_of f
    generalize best f = b at hB ⊢
    generalize scanTo f 8 = l at hl hm hB hats ⊢
    have hB := hB l b rfl rfl
    cases b with
    | none =>
      have h := cbest_l0 f hf 701 0 0 0 0 0 l hl hm (fun q hq hg => by have := hB q hq; rw [hg] at this; cases this) l.length 300 0 false (by omega) (by omega)
      rw [List.drop_zero, show l.any (fun q => goodAt f q && sameP q 0 0 0 0 0) = false from List.any_eq_false.2 (fun q hq => by rw [hB q hq, Bool.false_and]; decide)] at h
      exact h
    | some p =>
      have h := cbest_l0 f hf 0 p.f0 p.f1.f0 p.f1.f1 p.f1.f2 p.f1.f3 l hl hm (fun q hq hg => ⟨rfl, by
        have h1 := hB.2.2 q hq hg
        have h2 := hats q hq
        have h3 := hats p hB.1
        unfold pkey at h1
        omega⟩) l.length 300 0 false (by omega) (by omega)
      rw [List.drop_zero, show l.any (fun q => goodAt f q && sameP q p.f0 p.f1.f0 p.f1.f1 p.f1.f2 p.f1.f3) = true from List.any_eq_true.2 ⟨p, hB.1, by rw [hB.2.1]; simp [sameP]⟩] at h
      exact h
  · simp only [if_neg hf]
    rfl
theorem chooseBest_walk (f : ByteArray) (hf : f.size ≤ 140737488351232) (w : World) : Calls Try.prog 4 #[.string f] w fun e w' => e = .returned (.bool true) ∧ Ext w w' :=
  P.skifflaw7_ChooseBest.calls 300 f true w (chooseBest_f f)

end Go.Proofs.Ytdijecmpaoabbaa
