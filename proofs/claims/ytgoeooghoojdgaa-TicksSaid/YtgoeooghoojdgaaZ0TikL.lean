/- Ticks: every call as the document has it; what is handed in stays. -/
import Derived.Test.YtgoeooghoojdgaaZ0TikI
import Derived.Test.YtgoeooghoojdgaaZ0Px2
import Derived.Test.YtgoeooghoojdgaaZ0Px6
import Derived.Test.YtgoeooghoojdgaaZ0Px9
set_option linter.unusedVariables false
set_option linter.unusedSimpArgs false
set_option maxHeartbeats 4000000
namespace Go.Proofs.Ytgoeooghoojdgaa
open Go.RowKit Skiff Go.Proofs.YtgoeooghoojdgaaW.PrintWords Go.Proofs.YtgoeooghoojdgaaW.PrintMore O

theorem same_big0 (l : List Opn) (hl : l.length < 9223372036854775807) (d : Nat) : ∀ (k i : Nat), i + d = l.length → d < k → P.skifflaw0_SameOps.l0 k l l (i : Int) = some true := by
  induction d with
  | zero =>
    intro k i h1 h2
    obtain ⟨k, rfl⟩ : ∃ m, k = m + 1 := ⟨k - 1, by omega⟩
    rw [P.skifflaw0_SameOps.l0, if_neg (by omega)]
  | succ d ih =>
    intro k i h1 h2
    obtain ⟨k, rfl⟩ : ∃ m, k = m + 1 := ⟨k - 1, by omega⟩
    have e2 : wrap64 ((i : Int) + 1) = ((i + 1 : Nat) : Int) := by simp only [wrap64]; omega
    have hr := ih k (i + 1) (by omega) (by omega)
    rw [P.skifflaw0_SameOps.l0, if_pos (by omega), if_pos (by omega), if_pos (by omega), e2, hr]
    simp
theorem sameDev_big (s st n g sl : Int) (l : List Opn) (k : Nat) (hl : l.length < 9223372036854775807) (hk : l.length < k) : P.skifflaw0_SameDevice.f k s st n g sl l s st n g sl l = some true := by
  unfold P.skifflaw0_SameDevice.f P.skifflaw0_SameOps.f
  rw [if_pos rfl, if_pos rfl, if_pos rfl, if_pos rfl, if_pos rfl, if_pos rfl, show (0 : Int) = ((0 : Nat) : Int) from rfl, same_big0 l hl l.length k 0 (by omega) hk]; rfl
theorem both_f (f : ByteArray) (s st n g sl : Int) (l : List Opn) (k : Nat) (hl : l.length ≤ 9223372036854775807) (hk : l.length < k) : P.skiffref16_both.f k f s st n g sl l = some (decide (f.size = 768) && devMayB s st n g sl l) := by
  unfold P.skiffref16_both.f
  rw [flashMay_f, Option.bind_some, rdevMay_f s st n g sl l k hl hk]
  cases decide (f.size = 768) <;> rfl
theorem rworks_f (s st n g sl : Int) (l : List Opn) : P.skiffref16_working.f s st n g sl l = some (works s) := by
  unfold P.skiffref16_working.f works
  by_cases h : s = 2
  · rw [if_pos h, h]; rfl
  · rw [if_neg h, beq_eq_false_iff_ne.2 h]; rfl
theorem rcopy_f (s st n g sl : Int) (l : List Opn) (hl : l.length < 4398046511104) : P.skiffref16_copyDevice.f s st n g sl l = some (s, st, n, g, sl, l) := by
  unfold P.skiffref16_copyDevice.f
  rw [Option.bind_some, if_pos (by simpa using hl)]; rfl
theorem lcopy_f (s st n g sl : Int) (l : List Opn) (hl : l.length < 4398046511104) : P.skifflaw0_CopyDevice.f s st n g sl l = some (s, st, n, g, sl, l) := by
  unfold P.skifflaw0_CopyDevice.f
  rw [Option.bind_some, if_pos (by simpa using hl)]; rfl
theorem rtick_j0 (f : ByteArray) (s st n g sl : Int) (r : List Opn) (k : Nat) (l : List Opn) : P.skiffref16_Tick.j0 (k + 1) f s st n g sl l s st n g sl r = some (if r = [] then (if s = 5 then (f, 0, 0, 0, 0, 0, [], 0) else (f, 1, st, n, g, sl, [], 0)) else (f, s, st, n, g, sl, r, 0)) := by
  rw [P.skiffref16_Tick.j0]
  cases r with
  | nil =>
    rw [if_neg (by simp), if_pos rfl]
    by_cases h5 : s = 5
    · rw [if_pos h5, if_pos h5]; rfl
    · rw [if_neg h5, if_neg h5]
  | cons o r => rw [if_pos (by simp only [List.length_cons]; omega), if_neg (by simp)]
theorem rtick_f (f : ByteArray) (s st n g sl : Int) (l : List Opn) (k : Nat) (hl : l.length < 4398046511104) (hk : l.length + 2 < k) : P.skiffref16_Tick.f k f s st n g sl l = some (stepTup f s st n g sl l) := by
  obtain ⟨k, rfl⟩ : ∃ m, k = m + 1 := ⟨k - 1, by omega⟩
  unfold P.skiffref16_Tick.f stepTup
  rw [both_f f s st n g sl l (k + 1) (by omega) (by omega), Option.bind_some]
  cases hm : (decide (f.size = 768) && devMayB s st n g sl l)
  · rfl
  rw [if_pos rfl, if_pos rfl, rcopy_f s st n g sl l hl, Option.bind_some, rworks_f, Option.bind_some]
  cases hw : works s
  · rfl
  rw [if_pos rfl, if_pos rfl]
  dsimp only
  cases l with
  | nil => rw [if_neg (by simp)]; exact rtick_j0 f s st n g sl [] k []
  | cons o r =>
    have h1 : r.length + 1 < 4398046511104 := by simpa using hl
    rw [if_pos (by simp only [List.length_cons]; omega), if_pos (by simp only [List.length_cons]; omega), rd_cons, rdo_f f o.f0 o.f1 o.f2 (k + 1) (by omega), Option.bind_some, Option.bind_some, if_pos (by simp only [List.length_cons]; omega), Option.bind_some, if_pos (by simp only [List.length_nil, List.length_drop, List.length_cons]; omega)]
    exact rtick_j0 (cutPair f o.f0 o.f1 o.f2 96).1 s st n g sl r k (o :: r)
theorem rcutd_j1 (f : ByteArray) (s st n g sl : Int) (l : List Opn) (c : Int) (k : Nat) (b : Bool) (hb : b = (works s && decide (l ≠ []))) : P.skiffref16_CutDevice.j1 (k + 2) f c b s st n g sl l = some (cutted f s c l, 0, 0, 0, 0, 0, [], 0) := by
  subst hb
  show P.skiffref16_CutDevice.j1 ((k + 1) + 1) _ _ _ _ _ _ _ _ _ = _
  rw [P.skiffref16_CutDevice.j1]
  cases l with
  | nil => rw [show (works s && decide (([] : List Opn) ≠ [])) = false by simp]; rfl
  | cons o r =>
    rw [show (works s && decide (o :: r ≠ [])) = works s by simp, cutted]
    cases works s
    · rfl
    rw [if_pos rfl, if_pos rfl, if_pos (by simp only [List.length_cons]; omega), rd_cons, rcut_f f o.f0 o.f1 o.f2 c (k + 1) (by omega), Option.bind_some]; rfl
theorem rcutd_f (f : ByteArray) (s st n g sl : Int) (l : List Opn) (c : Int) (k : Nat) (hl : l.length ≤ 9223372036854775807) (hk : l.length + 3 < k) : P.skiffref16_CutDevice.f k f s st n g sl l c = some (cutTup f s st n g sl l c) := by
  obtain ⟨k, rfl⟩ : ∃ m, k = m + 4 := ⟨k - 4, by omega⟩
  have j0 : ∀ b, b = !(decide (f.size = 768) && (devMayB s st n g sl l && within c 0 96)) → P.skiffref16_CutDevice.j0 ((k + 3) + 1) f c b s st n g sl l = some (cutTup f s st n g sl l c) := by
    intro b hb
    subst hb
    rw [P.skiffref16_CutDevice.j0]
    unfold cutTup
    cases decide (f.size = 768) && (devMayB s st n g sl l && within c 0 96)
    · rfl
    rw [if_neg (by decide), if_pos rfl, rworks_f, Option.bind_some]
    have e : decide ((l.length : Int) > 0) = decide (l ≠ []) := by cases l <;> simp
    cases hw : works s
    · rw [if_neg Bool.false_ne_true]; exact rcutd_j1 f s st n g sl l c (k + 1) false (by rw [hw]; rfl)
    · rw [if_pos rfl, e]
      exact rcutd_j1 f s st n g sl l c (k + 1) (decide (l ≠ [])) (by rw [hw]; rfl)
  unfold P.skiffref16_CutDevice.f
  rw [both_f f s st n g sl l (k + 4) hl (by omega), Option.bind_some]
  cases hm : (decide (f.size = 768) && devMayB s st n g sl l)
  · rw [if_neg Bool.false_ne_true]; exact j0 _ (by rw [← Bool.and_assoc, hm]; rfl)
  · rw [if_pos rfl, rupTo_f, Option.bind_some]
    exact j0 _ (by rw [← Bool.and_assoc, hm]; rfl)
theorem stepTup_len (f : ByteArray) (s st n g sl : Int) (l : List Opn) : (stepTup f s st n g sl l).2.2.2.2.2.2.1.length ≤ 768 := by
  unfold stepTup
  cases hm : (decide (f.size = 768) && devMayB s st n g sl l)
  · simp
  have hl := (devMayB_len (Bool.and_eq_true_iff.1 hm).2).1
  rw [if_pos rfl]
  cases works s
  · exact hl
  rw [if_pos rfl]
  cases l with
  | nil =>
    rw [stepped]
    by_cases h5 : s = 5
    · rw [if_pos h5]; simp
    · rw [if_neg h5]; simp
  | cons o r =>
    have h1 : r.length + 1 ≤ 768 := by simpa using hl
    rw [stepped]
    by_cases hr : r = []
    · rw [if_pos hr]
      by_cases h5 : s = 5
      · rw [if_pos h5]; simp
      · rw [if_neg h5]; simp
    · rw [if_neg hr]; show r.length ≤ 768; omega
theorem cutTup_len (f : ByteArray) (s st n g sl : Int) (l : List Opn) (c : Int) : (cutTup f s st n g sl l c).2.2.2.2.2.2.1 = [] := by
  unfold cutTup
  split <;> rfl
theorem ticks_f (f : ByteArray) (s st n g sl : Int) (l : List Opn) (c : Int) (h : OkOps l) (hl : l.length < 4398046511104) : P.skifflaw18_Ticks.f (l.length + 2000) f s st n g sl l c = some true := by
  obtain ⟨k, hk⟩ : ∃ k, k = l.length + 1999 := ⟨_, rfl⟩
  rw [show l.length + 2000 = k + 1 by omega]
  unfold P.skifflaw18_Ticks.f
  rw [lcopy_f s st n g sl l hl, Option.bind_some]
  dsimp only
  rw [step_f f s st n g sl l (k + 1) (by omega) h, Option.bind_some, rtick_f f s st n g sl l (k + 1) hl (by omega), Option.bind_some, tcut_f f s st n g sl l c (k + 1) (by omega) h, Option.bind_some, rcutd_f f s st n g sl l c (k + 1) (by omega) (by omega), Option.bind_some]
  have z1 := stepTup_len f s st n g sl l
  have z2 := cutTup_len f s st n g sl l c
  generalize stepTup f s st n g sl l = A at z1 ⊢
  generalize cutTup f s st n g sl l c = B at z2 ⊢
  obtain ⟨a0, a1, a2, a3, a4, a5, a6, a7⟩ := A
  obtain ⟨b0, b1, b2, b3, b4, b5, b6, b7⟩ := B
  dsimp only at z1 z2 ⊢
  subst z2
  unfold P.skifflaw0_Num.f
  rw [if_pos rfl, sameDev_big a1 a2 a3 a4 a5 a6 (k + 1) (by omega) (by omega), Option.bind_some, if_pos rfl, Option.bind_some, if_pos rfl, if_pos rfl, sameDev_big b1 b2 b3 b4 b5 [] (k + 1) (by simp) (by simp), Option.bind_some, if_pos rfl, Option.bind_some]
  rw [P.skifflaw18_Ticks.j0, if_neg (by simp)]
  obtain ⟨r1, e1⟩ := O.spoil_f a6 (by omega) k (by omega)
  obtain ⟨r2, e2⟩ := O.spoil_f ([] : List Opn) (by simp) k (by simp; omega)
  unfold P.skifflaw0_SpoilDevice.f
  rw [e1, Option.bind_some, Option.bind_some, e2, Option.bind_some, Option.bind_some, sameDev_big s st n g sl l k (by omega) (by omega), Option.bind_some, if_pos rfl, awake18 k (by omega), Option.bind_some]
theorem ticks_walk (f : ByteArray) (s st n g sl : Int) (A : Option Addr) (cap : Nat) (l : List Opn) (c : Int) (hf : f.size ≤ 140737488351232) (f1 : (Lit.int .i64 s).wf = true) (hl : l.length ≤ cap) (ho : ∀ o ∈ l, (Lit.int .i64 o.f1).wf = true) (hs : l.length * 32 ≤ reachBytes) (f2 : (Lit.int .i64 c).wf = true) (w : World) (hc : Kd.C P.k40 w A l.length l) :
    Calls Try.prog 3 #[.string f, .agg #[.int .i64 s, .int .i64 st, .int .i64 n, .int .i64 g, .int .i64 sl, .slice A l.length cap], .int .i64 c] w fun e w' => e = .returned (.bool true) ∧ Ext w w' :=
  P.skifflaw18_Ticks.calls _ f s st n g sl A cap l c true w hc hl (ticks_f f s st n g sl l c (ok_of_wf ho) (by unfold reachBytes at hs; omega))

end Go.Proofs.Ytgoeooghoojdgaa
