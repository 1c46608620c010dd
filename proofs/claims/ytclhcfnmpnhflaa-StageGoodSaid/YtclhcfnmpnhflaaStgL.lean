/- Laws of chapter 9. -/
import Derived.Test.YtclhcfnmpnhflaaScnP
import Derived.Test.YtclhcfnmpnhflaaPx10
import Derived.Test.YtclhcfnmpnhflaaPx3
import Derived.Test.YtclhcfnmpnhflaaPx5
import Derived.Test.YtclhcfnmpnhflaaPx8
import Derived.Test.YtclhcfnmpnhflaaPx9
set_option linter.unusedVariables false
set_option linter.unusedSimpArgs false
set_option maxHeartbeats 4000000
namespace Go.Proofs.Ytclhcfnmpnhflaa
open Go.RowKit Skiff Go.Proofs.YtclhcfnmpnhflaaW.PrintWords

theorem awake9_f : P.skifflaw9_awake.f 300 = some true := by kernel_rfl

abbrev Opn := P.S53
def eraseOp (s : Int) (i : Nat) : Opn := ⟨true, 192 + 288 * s + 96 * (i : Int), ⟨#[]⟩⟩
def eraseOps (s : Int) : List Opn := [eraseOp s 0, eraseOp s 1, eraseOp s 2]
def erasePair (s : Int) : List Opn × Int := if within s 0 1 = true then (eraseOps s, 0) else ([], 900)
theorem erases_step (s : Int) (hs : 0 ≤ s ∧ s ≤ 1) (acc : List Opn) (i k : Nat) (hi : i < 3) (hl : acc.length < 1000) : P.stage_Erases.l0 (k + 1) s acc (i : Int) = P.stage_Erases.l0 k s (acc ++ [eraseOp s i]) ((i + 1 : Nat) : Int) := by
  have e1 : wrap64 ((wrap64 (wrap64 (2 + wrap64 (3 * s)) + (i : Int))) * 96) = 192 + 288 * s + 96 * (i : Int) := by simp only [wrap64]; omega
  have e2 : wrap64 ((i : Int) + 1) = ((i + 1 : Nat) : Int) := by simp only [wrap64]; omega
  simp only [P.stage_Erases.l0, P.image_Sector.f, P.journal_Begin.f, Option.bind_some]
  rw [if_pos (by omega), e1, if_pos (by omega), e2]
  rfl
theorem erases_f (s : Int) (k : Nat) (hk : 4 < k) : P.stage_Erases.f k s = some (erasePair s) := by
  unfold P.stage_Erases.f erasePair
  rw [slot_f]
  simp only [Option.bind_some]
  cases h : within s 0 1
  · rfl
  · have hs := Skiff.within_iff.1 h
    obtain ⟨k, rfl⟩ : ∃ m, k = m + 1 + 1 + 1 + 1 := ⟨k - 4, by omega⟩
    have h0 := erases_step s hs [] 0 (k + 1 + 1 + 1) (by omega) (by simp)
    have h1 := erases_step s hs [eraseOp s 0] 1 (k + 1 + 1) (by omega) (by simp)
    have h2 := erases_step s hs [eraseOp s 0, eraseOp s 1] 2 (k + 1) (by omega) (by simp)
    simp only [if_true]
    refine (h0.trans (h1.trans h2)).trans ?_
    simp only [P.stage_Erases.l0]
    rw [if_neg (by omega)]
    rfl
theorem rerases_step (s : Int) (hs : 0 ≤ s ∧ s ≤ 1) (acc : List Opn) (i k : Nat) (hi : i < 3) (hl : acc.length < 1000) : P.skiffref1_Erases.l0 (k + 1) (192 + 288 * s) acc (i : Int) = P.skiffref1_Erases.l0 k (192 + 288 * s) (acc ++ [eraseOp s i]) ((i + 1 : Nat) : Int) := by
  have e1 : wrap64 (192 + 288 * s + wrap64 ((i : Int) * 96)) = 192 + 288 * s + 96 * (i : Int) := by simp only [wrap64]; omega
  have e2 : wrap64 ((i : Int) + 1) = ((i + 1 : Nat) : Int) := by simp only [wrap64]; omega
  simp only [P.skiffref1_Erases.l0]
  rw [if_pos (by omega), if_pos (by omega), e1, e2]
  rfl
theorem rerases_f (s : Int) (k : Nat) (hk : 4 < k) : P.skiffref1_Erases.f k s = some (erasePair s) := by
  unfold P.skiffref1_Erases.f erasePair
  rw [rbase_f]
  simp only [Option.bind_some]
  unfold baseOf
  cases h : within s 0 1
  · rfl
  · have hs := Skiff.within_iff.1 h
    obtain ⟨k, rfl⟩ : ∃ m, k = m + 1 + 1 + 1 + 1 := ⟨k - 4, by omega⟩
    have h0 := rerases_step s hs [] 0 (k + 1 + 1 + 1) (by omega) (by simp)
    have h1 := rerases_step s hs [eraseOp s 0] 1 (k + 1 + 1) (by omega) (by simp)
    have h2 := rerases_step s hs [eraseOp s 0, eraseOp s 1] 2 (k + 1) (by omega) (by simp)
    simp only [if_true]
    refine (h0.trans (h1.trans h2)).trans ?_
    simp only [P.skiffref1_Erases.l0]
    rw [if_neg (by omega)]
    rfl
theorem same_l0 (l : List Opn) (hl : l.length < 1000000) (d : Nat) : ∀ (k i : Nat), i + d = l.length → d < k → P.skifflaw0_SameOps.l0 k l l (i : Int) = some true := by
  induction d with
  | zero =>
    intro k i h1 h2
    obtain ⟨k, rfl⟩ : ∃ m, k = m + 1 := ⟨k - 1, by omega⟩
    simp only [P.skifflaw0_SameOps.l0]
    rw [if_neg (by omega)]
  | succ d ih =>
    intro k i h1 h2
    obtain ⟨k, rfl⟩ : ∃ m, k = m + 1 := ⟨k - 1, by omega⟩
    have e2 : wrap64 ((i : Int) + 1) = ((i + 1 : Nat) : Int) := by simp only [wrap64]; omega
    have hr := ih k (i + 1) (by omega) (by omega)
    simp only [P.skifflaw0_SameOps.l0]
    rw [if_pos (by omega), if_pos (by omega), if_pos (by omega), e2, hr]
    simp
theorem same_f (l : List Opn) (hl : l.length < 1000000) (k : Nat) (hk : l.length < k) : P.skifflaw0_SameOps.f k l l = some true := by
  unfold P.skifflaw0_SameOps.f
  rw [if_pos rfl]
  exact same_l0 l hl l.length k 0 (by omega) hk
theorem spoil_l0 (d : Nat) : ∀ (k i : Nat) (l : List Opn), l.length < 1000000 → i + d = l.length → d < k → ∃ r, P.skifflaw0_SpoilOps.l0 k l (i : Int) = some r := by
  induction d with
  | zero =>
    intro k i l hl h1 h2
    obtain ⟨k, rfl⟩ : ∃ m, k = m + 1 := ⟨k - 1, by omega⟩
    refine ⟨l, ?_⟩
    simp only [P.skifflaw0_SpoilOps.l0]
    rw [if_neg (by omega)]
  | succ d ih =>
    intro k i l hl h1 h2
    obtain ⟨k, rfl⟩ : ∃ m, k = m + 1 := ⟨k - 1, by omega⟩
    have e2 : wrap64 ((i : Int) + 1) = ((i + 1 : Nat) : Int) := by simp only [wrap64]; omega
    simp only [P.skifflaw0_SpoilOps.l0]
    rw [if_pos (by omega), if_pos (by omega), e2]
    exact ih k (i + 1) _ (by rw [List.length_set]; exact hl) (by rw [List.length_set]; omega) (by omega)
theorem spoil_f (l : List Opn) (hl : l.length < 1000000) (k : Nat) (hk : l.length < k) : ∃ r, P.skifflaw0_SpoilOps.f k l = some r :=
  spoil_l0 l.length k 0 l hl (by omega) hk
theorem erasePair_len (s : Int) : (erasePair s).1.length ≤ 3 := by unfold erasePair; split <;> simp [eraseOps]

theorem stages_j0 (l : List Opn) (hl : l.length < 100) : P.skifflaw9_Stages.j0 301 l false = some true := by
  obtain ⟨r, hr⟩ := spoil_f l (by omega) 300 (by omega)
  show P.skifflaw9_Stages.j0 (300 + 1) l false = some true
  simp only [P.skifflaw9_Stages.j0, Bool.false_eq_true, if_false]
  rw [hr, awake9_f]; rfl
theorem stages_f (f : ByteArray) (s n : Int) : P.skifflaw9_Stages.f 301 f s n = some true := by
  have hl := erasePair_len s
  have hj := stages_j0 (erasePair s).1 (by omega)
  unfold P.skifflaw9_Stages.f P.skifflaw0_Num.f
  rw [erases_f s 301 (by omega), rerases_f s 301 (by omega), rec_f f s n 301 (by omega), rrec_f f s n 301 (by omega)]
  simp only [Option.bind_some]
  rw [same_f (erasePair s).1 (by omega) 301 (by omega)]
  simp [hj]
theorem stages_walk (f : ByteArray) (s n : Int) (hf : f.size ≤ 140737488351232) (f1 : (Lit.int .i64 s).wf = true) (f2 : (Lit.int .i64 n).wf = true) (w : World) :
    Calls Try.prog 3 #[.string f, .int .i64 s, .int .i64 n] w fun e w' => e = .returned (.bool true) ∧ Ext w w' :=
  P.skifflaw9_Stages.calls 301 f s n true w (stages_f f s n)

theorem good_l0 (s n q a b c d : Int) (l : List Plc) (hl : l.length ≤ 8) (hq : ∀ p ∈ l, p.f1.f0 < q) (hb : b = s) (hc : c = n) (m : Nat) : ∀ (k i : Nat), i + m = l.length → m < k → P.skifflaw9_StageGood.l0 k s n true 0 l 0 (i : Int) q b c d = some true := by
  induction m with
  | zero =>
    intro k i h1 h2
    obtain ⟨k, rfl⟩ : ∃ m, k = m + 1 := ⟨k - 1, by omega⟩
    simp only [P.skifflaw9_StageGood.l0]
    rw [if_neg (by omega), if_pos hb]
    simp [hc]
  | succ m ih =>
    intro k i h1 h2
    obtain ⟨k, rfl⟩ : ∃ m, k = m + 1 := ⟨k - 1, by omega⟩
    have e2 : wrap64 ((i : Int) + 1) = ((i + 1 : Nat) : Int) := by simp only [wrap64]; omega
    have hp := hq _ (List.getElem_mem (show i < l.length by omega))
    simp only [P.skifflaw9_StageGood.l0]
    rw [if_pos (by omega), if_pos (by omega), rd_at l i (by omega), if_neg (by omega), e2]
    exact ih k (i + 1) (by omega) (by omega)
theorem nextPair_ok {f : ByteArray} (h : (nextPair f).2 = 0) : f.size = 768 ∧ (nextPair f).1 = maxSeq (scanTo f 8) 0 + 1 ∧ 1 ≤ (nextPair f).1 ∧ (nextPair f).1 ≤ 1048576 := by
  have hm := maxSeq_may f 8
  by_cases h1 : f.size = 768
  · by_cases h2 : maxSeq (scanTo f 8) 0 = 1048576
    · unfold nextPair at h
      rw [if_pos h1, if_pos h2] at h
      cases h
    · have e : nextPair f = (maxSeq (scanTo f 8) 0 + 1, 0) := by unfold nextPair; rw [if_pos h1, if_neg h2]
      rw [e]
      exact ⟨h1, rfl, by simp only; omega, by simp only; omega⟩
  · unfold nextPair at h
    rw [if_neg h1] at h
    cases h
theorem stageGood_f (f : ByteArray) (s n : Int) : P.skifflaw9_StageGood.f 300 f s n = some true := by
  unfold P.skifflaw9_StageGood.f P.skifflaw0_Num.f
  rw [awake9_f, rec_f f s n 300 (by omega), rscan_f f 300 (by omega)]
  simp only [Option.bind_some, if_true]
  unfold recTup
  cases hm : recMayOf f s n
  · simp
  · simp only [if_true]
    by_cases hx : (nextPair f).2 = 0
    · obtain ⟨hf, hv, h1, h2⟩ := nextPair_ok hx
      have hr := (Bool.and_eq_true_iff.1 (Bool.and_eq_true_iff.1 hm).2)
      have hs := Skiff.within_iff.1 hr.1
      have hn := Skiff.within_iff.1 hr.2
      rw [if_pos hx]
      simp only [if_true]
      have hg := rgood_f f ⟨(nextPair f).1, s, n, (crcSum (bl (f.extract (192 + 288 * s.toNat) (192 + 288 * s.toNat + n.toNat))) : Nat)⟩
      have hi : imageMay f ⟨(nextPair f).1, s, n, (crcSum (bl (f.extract (192 + 288 * s.toNat) (192 + 288 * s.toNat + n.toNat))) : Nat)⟩ = true := by
        unfold imageMay
        have := crcSum_lt (bl (f.extract (192 + 288 * s.toNat) (192 + 288 * s.toNat + n.toNat)))
        rw [decide_eq_true hf, Bool.true_and, recMay_iff]
        simp only; omega
      unfold goodPair goodB image at hg
      rw [hi] at hg
      simp only [if_true, beq_self_eq_true] at hg
      rw [hg]
      simp only [Option.bind_some, hf, if_true]
      have hl := scanTo_len f 8
      refine good_l0 s n _ 0 s n _ (scanTo f 8) hl (fun p hp => ?_) rfl rfl (scanTo f 8).length 300 0 (by omega) (by omega)
      have := (maxSeq_ge (l := scanTo f 8) (m := 0)).2 p hp
      omega
    · rw [if_neg hx]
      simp [hx]
theorem stageGood_walk (f : ByteArray) (s n : Int) (hf : f.size ≤ 140737488351232) (f1 : (Lit.int .i64 s).wf = true) (f2 : (Lit.int .i64 n).wf = true) (w : World) :
    Calls Try.prog 4 #[.string f, .int .i64 s, .int .i64 n] w fun e w' => e = .returned (.bool true) ∧ Ext w w' :=
  P.skifflaw9_StageGood.calls 300 f s n true w (stageGood_f f s n)

end Go.Proofs.Ytclhcfnmpnhflaa
