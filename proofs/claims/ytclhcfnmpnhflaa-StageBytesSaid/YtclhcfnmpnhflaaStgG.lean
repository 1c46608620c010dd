/- What the laws of chapter 9 share. -/
import Derived.Test.YtclhcfnmpnhflaaScnP
import Derived.Test.YtclhcfnmpnhflaaHandA
import Derived.Test.YtclhcfnmpnhflaaPx3
import Derived.Test.YtclhcfnmpnhflaaPx4
set_option linter.unusedVariables false
set_option linter.unusedSimpArgs false
set_option maxHeartbeats 4000000
namespace Go.Proofs.Ytclhcfnmpnhflaa
open Go.RowKit Skiff Go.Proofs.YtclhcfnmpnhflaaW.PrintWords

theorem awake9_f : P.skifflaw9_awake.f 300 = some true := by kernel_rfl

abbrev Opn := P.S53
def eraseOp (s : Int) (i : Nat) : Opn := ⟨true, 192 + 288 * s + 96 * (i : Int), ⟨#[]⟩⟩
def eraseOps (s : Int) : List Opn := [eraseOp s 0, eraseOp s 1, eraseOp s 2]
def erasePair (s : Int) : List Opn × Int := if within s 0 1 = true then (eraseOps s, 0) else ([], 900)
theorem erases_step (s : Int) (hs : 0 ≤ s ∧ s ≤ 1) (acc : List Opn) (i k : Nat) (hi : i < 3) (hl : acc.length < 1000) : P.stage_Erases.l0 (k + 1) s acc (i : Int) = P.stage_Erases.l0 k s (acc ++ [eraseOp s i]) ((i + 1 : Nat) : Int) := by
  have e1 : wrap64 ((wrap64 (wrap64 (2 + wrap64 (3 * s)) + (i : Int))) * 96) = 192 + 288 * s + 96 * (i : Int) := by simp only [wrap64]; omega
  have e2 : wrap64 ((i : Int) + 1) = ((i + 1 : Nat) : Int) := by simp only [wrap64]; omega
  simp only [P.stage_Erases.l0, P.image_Sector.f, P.journal_Begin.f, Option.bind_some]
  rw [if_pos (by omega), e1, if_pos (by omega), e2]
  rfl
theorem erases_f (s : Int) (k : Nat) (hk : 4 < k) : P.stage_Erases.f k s = some (erasePair s) := by
  unfold P.stage_Erases.f erasePair
  rw [slot_f]
  simp only [Option.bind_some]
  cases h : within s 0 1
  · rfl
  · have hs := Skiff.within_iff.1 h
    obtain ⟨k, rfl⟩ : ∃ m, k = m + 1 + 1 + 1 + 1 := ⟨k - 4, by omega⟩
    have h0 := erases_step s hs [] 0 (k + 1 + 1 + 1) (by omega) (by simp)
    have h1 := erases_step s hs [eraseOp s 0] 1 (k + 1 + 1) (by omega) (by simp)
    have h2 := erases_step s hs [eraseOp s 0, eraseOp s 1] 2 (k + 1) (by omega) (by simp)
    simp only [if_true]
    refine (h0.trans (h1.trans h2)).trans ?_
    simp only [P.stage_Erases.l0]
    rw [if_neg (by omega)]
    rfl
theorem rerases_step (s : Int) (hs : 0 ≤ s ∧ s ≤ 1) (acc : List Opn) (i k : Nat) (hi : i < 3) (hl : acc.length < 1000) : P.skiffref1_Erases.l0 (k + 1) (192 + 288 * s) acc (i : Int) = P.skiffref1_Erases.l0 k (192 + 288 * s) (acc ++ [eraseOp s i]) ((i + 1 : Nat) : Int) := by
  have e1 : wrap64 (192 + 288 * s + wrap64 ((i : Int) * 96)) = 192 + 288 * s + 96 * (i : Int) := by simp only [wrap64]; omega
  have e2 : wrap64 ((i : Int) + 1) = ((i + 1 : Nat) : Int) := by simp only [wrap64]; omega
  simp only [P.skiffref1_Erases.l0]
  rw [if_pos (by omega), if_pos (by omega), e1, e2]
  rfl
theorem rerases_f (s : Int) (k : Nat) (hk : 4 < k) : P.skiffref1_Erases.f k s = some (erasePair s) := by
  unfold P.skiffref1_Erases.f erasePair
  rw [rbase_f]
  simp only [Option.bind_some]
  unfold baseOf
  cases h : within s 0 1
  · rfl
  · have hs := Skiff.within_iff.1 h
    obtain ⟨k, rfl⟩ : ∃ m, k = m + 1 + 1 + 1 + 1 := ⟨k - 4, by omega⟩
    have h0 := rerases_step s hs [] 0 (k + 1 + 1 + 1) (by omega) (by simp)
    have h1 := rerases_step s hs [eraseOp s 0] 1 (k + 1 + 1) (by omega) (by simp)
    have h2 := rerases_step s hs [eraseOp s 0, eraseOp s 1] 2 (k + 1) (by omega) (by simp)
    simp only [if_true]
    refine (h0.trans (h1.trans h2)).trans ?_
    simp only [P.skiffref1_Erases.l0]
    rw [if_neg (by omega)]
    rfl
theorem same_l0 (l : List Opn) (hl : l.length < 1000000) (d : Nat) : ∀ (k i : Nat), i + d = l.length → d < k → P.skifflaw0_SameOps.l0 k l l (i : Int) = some true := by
  induction d with
  | zero =>
    intro k i h1 h2
    obtain ⟨k, rfl⟩ : ∃ m, k = m + 1 := ⟨k - 1, by omega⟩
    simp only [P.skifflaw0_SameOps.l0]
    rw [if_neg (by omega)]
  | succ d ih =>
    intro k i h1 h2
    obtain ⟨k, rfl⟩ : ∃ m, k = m + 1 := ⟨k - 1, by omega⟩
    have e2 : wrap64 ((i : Int) + 1) = ((i + 1 : Nat) : Int) := by simp only [wrap64]; omega
    have hr := ih k (i + 1) (by omega) (by omega)
    simp only [P.skifflaw0_SameOps.l0]
    rw [if_pos (by omega), if_pos (by omega), if_pos (by omega), e2, hr]
    simp
theorem same_f (l : List Opn) (hl : l.length < 1000000) (k : Nat) (hk : l.length < k) : P.skifflaw0_SameOps.f k l l = some true := by
  unfold P.skifflaw0_SameOps.f
  rw [if_pos rfl]
  exact same_l0 l hl l.length k 0 (by omega) hk
theorem spoil_l0 (d : Nat) : ∀ (k i : Nat) (l : List Opn), l.length < 1000000 → i + d = l.length → d < k → ∃ r, P.skifflaw0_SpoilOps.l0 k l (i : Int) = some r := by
  induction d with
  | zero =>
    intro k i l hl h1 h2
    obtain ⟨k, rfl⟩ : ∃ m, k = m + 1 := ⟨k - 1, by omega⟩
    refine ⟨l, ?_⟩
    simp only [P.skifflaw0_SpoilOps.l0]
    rw [if_neg (by omega)]
  | succ d ih =>
    intro k i l hl h1 h2
    obtain ⟨k, rfl⟩ : ∃ m, k = m + 1 := ⟨k - 1, by omega⟩
    have e2 : wrap64 ((i : Int) + 1) = ((i + 1 : Nat) : Int) := by simp only [wrap64]; omega
    simp only [P.skifflaw0_SpoilOps.l0]
    rw [if_pos (by omega), if_pos (by omega), e2]
    exact ih k (i + 1) _ (by rw [List.length_set]; exact hl) (by rw [List.length_set]; omega) (by omega)
theorem spoil_f (l : List Opn) (hl : l.length < 1000000) (k : Nat) (hk : l.length < k) : ∃ r, P.skifflaw0_SpoilOps.f k l = some r :=
  spoil_l0 l.length k 0 l hl (by omega) hk
theorem erasePair_len (s : Int) : (erasePair s).1.length ≤ 3 := by unfold erasePair; split <;> simp [eraseOps]

theorem within_no {x a b : Int} (h : ¬ (a ≤ x ∧ x ≤ b)) : within x a b = false := by
  rw [Bool.eq_false_iff]; exact fun hw => h (Skiff.within_iff.1 hw)
theorem recTup_no {f : ByteArray} {s n : Int} (h : ¬ (f.size = 768 ∧ (0 ≤ s ∧ s ≤ 1) ∧ 1 ≤ n ∧ n ≤ 288)) : recTup f s n = (0, 0, 0, 0, 900) := by
  unfold recTup
  rw [if_neg]
  intro hm
  have h1 := Bool.and_eq_true_iff.1 hm
  have h2 := Bool.and_eq_true_iff.1 h1.2
  exact h ⟨of_decide_eq_true h1.1, Skiff.within_iff.1 h2.1, Skiff.within_iff.1 h2.2⟩
theorem fl_size : (mk flash0).size = 768 := by rw [mk_size, flash0_length]
theorem held9_f : P.skifflaw9_held.f 300 = some (mk (put ⟨1, 0, 12, 3146506012⟩ ++ (List.replicate 168 255 ++ ([97, 98, 97, 98, 97, 98, 97, 98, 97, 98, 97, 98] ++ List.replicate 564 255)))) := by kernel_rfl
theorem held9_some : ∃ H : ByteArray, P.skifflaw9_held.f 300 = some H ∧ H.size = 768 :=
  ⟨_, held9_f, by rw [mk_size]; simp only [List.length_append, put_length, List.length_replicate, List.length_cons, List.length_nil]⟩
/-- A step that erases a sector. -/
theorem do_erase (f : ByteArray) (hf : f.size = 768) (s k : Nat) (hs : s < 8) : P.skiffref1_Do.f (k + 1) f true (96 * (s : Int)) ⟨#[]⟩ = some (mk (wornF (bl f) (96 * s) 96), 0) := by
  have he : (⟨#[]⟩ : ByteArray).toList = [] := by decide +kernel
  have ht : Int.tmod (96 * (s : Int)) 96 = 0 := by rw [Int.tmod_eq_emod_of_nonneg (by omega)]; omega
  have hq : Int.tdiv (96 * (s : Int)) 96 = s := by rw [Int.tdiv_eq_ediv_of_nonneg (by omega)]; omega
  have hw : wrap64 (s : Int) = s := by simp only [wrap64]; omega
  have hworn : worn (bl f) s 96 = some (wornF (bl f) (96 * s) 96) := by
    unfold worn wornMay
    rw [bl_length, if_pos]
    · rfl
    · rw [decide_eq_true hf, Skiff.within_iff.2 (by omega : (0 : Int) ≤ s ∧ (s : Int) ≤ 7)]; rfl
  unfold P.skiffref1_Do.f P.skiffref1_Cut.f P.skiffref1_OpMay.f
  rw [flashMay_f, upTo_f, upTo_f, decide_eq_true hf, Skiff.within_iff.2 (by omega : (0 : Int) ≤ 96 * (s : Int) ∧ 96 * (s : Int) ≤ 672)]
  simp only [Option.bind_some, if_true, ht, he, beq_self_eq_true]
  simp only [P.skiffref1_Cut.j0, P.skiffref1_Worn.f]
  rw [show within 96 0 96 = true from rfl]
  simp only [Bool.not_true, Bool.false_eq_true, if_false, if_true]
  rw [hq, hw, hworn]
  rfl


end Go.Proofs.Ytclhcfnmpnhflaa
