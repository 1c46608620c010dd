/- A device's steps in plain Lean: device.May, Copy, tick.Step, tick.Cut. -/
import Derived.Test.YtgoeooghoojdgaaZ2OpsW
import Derived.Test.YtgoeooghoojdgaaZ2Px3
import Derived.Test.YtgoeooghoojdgaaZ2Px4
import Derived.Test.YtgoeooghoojdgaaZ2Px5
import Derived.Test.YtgoeooghoojdgaaZ2Px6
set_option linter.unusedVariables false
set_option linter.unusedSimpArgs false
set_option maxHeartbeats 4000000
namespace Go.Proofs.Ytgoeooghoojdgaa.O
open Go.RowKit Skiff Go.Proofs.YtgoeooghoojdgaaW.PrintWords Go.Proofs.YtgoeooghoojdgaaW.PrintMore

/-- All places of steps are numbers that an int bears. -/
def OkOps (l : List Opn) : Prop := ∀ o ∈ l, o.f1 < 9223372036854775808
def opsMayB (l : List Opn) : Bool := l.all fun o => opMay o.f0 o.f1 (bl o.f2)
def devMayB (s st n g sl : Int) (l : List Opn) : Bool := within s 0 7 && (within st 0 6 && (within n 0 16 && (within g 0 288 && (within sl 0 1 && (decide (l.length ≤ 768) && opsMayB l)))))
theorem any_odd {l : List Opn} (h : OkOps l) : (l.any fun o => !((P.ops_May.f o.f0 o.f1 o.f2).getD true)) = !opsMayB l := by
  induction l with
  | nil => rfl
  | cons o l ih =>
    have h1 := opsMay_f o.f0 o.f1 o.f2 (h o (List.mem_cons_self ..))
    rw [List.any_cons, ih (fun p hp => h p (List.mem_cons_of_mem _ hp)), h1]
    unfold opsMayB
    rw [List.all_cons, Option.getD_some, Bool.not_and]
theorem in_f (x a b : Int) : P.entry_in.f x a b = some (within x a b) := by
  unfold P.entry_in.f within
  by_cases h : a ≤ x
  · rw [if_pos h, decide_eq_true h]; rfl
  · rw [if_neg h, decide_eq_false h]; rfl
theorem state_f (x : Int) : P.answer_State.f x = some (within x 0 7) := by
  unfold P.answer_State.f within
  by_cases h : 0 ≤ x
  · rw [if_pos h, decide_eq_true h]; rfl
  · rw [if_neg h, decide_eq_false h]; rfl
theorem status_f (x : Int) : P.answer_Status.f x = some (within x 0 6) := by
  unfold P.answer_Status.f within
  by_cases h : 0 ≤ x
  · rw [if_pos h, decide_eq_true h]; rfl
  · rw [if_neg h, decide_eq_false h]; rfl
theorem contains_f (l : List Opn) (h : OkOps l) (hl : l.length ≤ 768) : P.slices_ContainsFunc_Op.f l = some (!opsMayB l) := by
  unfold P.slices_ContainsFunc_Op.f
  rw [if_pos (by omega), any_odd h]
theorem devMay_f (s st n g sl : Int) (l : List Opn) (h : OkOps l) : P.device_May.f s st n g sl l = some (devMayB s st n g sl l) := by
  unfold P.device_May.f devMayB P.entry_Size.f P.entry_Slot.f
  rw [state_f, status_f, in_f, in_f, Option.bind_some, Option.bind_some]
  cases within s 0 7
  · rfl
  rw [if_pos rfl]
  cases within st 0 6
  · rfl
  rw [if_pos rfl, Bool.true_and, Bool.true_and]
  by_cases h1 : n ≥ 0
  case neg =>
    rw [if_neg h1, show within n 0 16 = false by unfold within; rw [decide_eq_false (by omega : ¬ 0 ≤ n)]; rfl]; rfl
  rw [if_pos h1]
  by_cases h2 : n ≤ 16
  case neg =>
    rw [if_neg h2, show within n 0 16 = false by unfold within; rw [decide_eq_false (by omega : ¬ n ≤ 16), Bool.and_false]]; rfl
  rw [if_pos h2, Skiff.within_iff.2 (by omega : (0 : Int) ≤ n ∧ n ≤ 16), Bool.true_and]
  have key : ∀ b : Bool, ((some (within sl 0 1)).bind fun t => if t = true then (if (l.length : Int) ≤ 768 then (P.slices_ContainsFunc_Op.f l).bind fun t => some (!t) else some false) else some false) = some (within sl 0 1 && (decide (l.length ≤ 768) && opsMayB l)) := by
    intro _
    rw [Option.bind_some]
    cases within sl 0 1
    · rfl
    rw [if_pos rfl, Bool.true_and]
    by_cases h4 : l.length ≤ 768
    · rw [if_pos (by omega), decide_eq_true h4, contains_f l h h4, Option.bind_some, Bool.not_not, Bool.true_and]
    · rw [if_neg (by omega), decide_eq_false h4]; rfl
  by_cases h3 : g = 0
  · rw [if_pos h3, Skiff.within_iff.2 (by omega : (0 : Int) ≤ g ∧ g ≤ 288), Bool.true_and]
    exact key true
  · rw [if_neg h3, Option.bind_some]
    have e : within g 1 288 = within g 0 288 := by unfold within; rw [Bool.eq_iff_iff]; simp; omega
    rw [e]
    cases within g 0 288
    · rfl
    rw [Bool.true_and]
    exact key true
theorem copy_f (s st n g sl : Int) (l : List Opn) (h : l.length ≤ 768) : P.device_Copy.f s st n g sl l = some (s, st, n, g, sl, l) := by
  unfold P.device_Copy.f P.slices_Clone_Op.f
  rw [if_pos (by omega)]; rfl

abbrev StepT := ByteArray × Int × Int × Int × Int × Int × List Opn × Int
def works (s : Int) : Bool := s == 2 || s == 5
/-- What a tick leaves of a device that works. -/
def stepped (f : ByteArray) (s st n g sl : Int) : List Opn → StepT
  | [] => if s = 5 then (f, 0, 0, 0, 0, 0, [], 0) else (f, 1, st, n, g, sl, [], 0)
  | o :: r => if r = [] then (if s = 5 then ((cutPair f o.f0 o.f1 o.f2 96).1, 0, 0, 0, 0, 0, [], 0) else ((cutPair f o.f0 o.f1 o.f2 96).1, 1, st, n, g, sl, [], 0)) else ((cutPair f o.f0 o.f1 o.f2 96).1, s, st, n, g, sl, r, 0)
def stepTup (f : ByteArray) (s st n g sl : Int) (l : List Opn) : StepT :=
  if (decide (f.size = 768) && devMayB s st n g sl l) = true then (if works s = true then stepped f s st n g sl l else (f, s, st, n, g, sl, l, 0)) else (⟨#[]⟩, 0, 0, 0, 0, 0, [], 1800)
/-- The flash that a cut leaves. -/
def cutted (f : ByteArray) (s c : Int) : List Opn → ByteArray
  | [] => f
  | o :: _ => if works s = true then (cutPair f o.f0 o.f1 o.f2 c).1 else f
def cutTup (f : ByteArray) (s st n g sl : Int) (l : List Opn) (c : Int) : StepT :=
  if (decide (f.size = 768) && (devMayB s st n g sl l && within c 0 96)) = true then (cutted f s c l, 0, 0, 0, 0, 0, [], 0) else (⟨#[]⟩, 0, 0, 0, 0, 0, [], 1800)
theorem devMayB_len {s st n g sl : Int} {l : List Opn} (h : devMayB s st n g sl l = true) : l.length ≤ 768 ∧ opsMayB l = true := by
  have h := (Bool.and_eq_true_iff.1 (Bool.and_eq_true_iff.1 (Bool.and_eq_true_iff.1 (Bool.and_eq_true_iff.1 (Bool.and_eq_true_iff.1 h).2).2).2).2).2
  have h := Bool.and_eq_true_iff.1 h
  exact ⟨of_decide_eq_true h.1, h.2⟩
theorem step_j1 (f : ByteArray) (s st n g sl : Int) (r : List Opn) (k : Nat) : P.tick_Step.j1 (k + 1) f s st n g sl r = some (if r = [] then (if s = 5 then (f, 0, 0, 0, 0, 0, [], 0) else (f, 1, st, n, g, sl, [], 0)) else (f, s, st, n, g, sl, r, 0)) := by
  rw [P.tick_Step.j1]
  cases r with
  | nil =>
    rw [if_neg (by simp), if_pos rfl]
    by_cases h5 : s = 5
    · rw [if_pos h5, if_pos h5]; rfl
    · rw [if_neg h5, if_neg h5]
  | cons o r => rw [if_pos (by simp only [List.length_cons]; omega), if_neg (by simp)]
theorem rd_cons (o : Opn) (r : List Opn) : P.rd_T40 (o :: r) 0 = o := rfl
theorem step_f (f : ByteArray) (s st n g sl : Int) (l : List Opn) (k : Nat) (hk : 2 < k) (h : OkOps l) : P.tick_Step.f k f s st n g sl l = some (stepTup f s st n g sl l) := by
  obtain ⟨k, rfl⟩ : ∃ m, k = m + 3 := ⟨k - 3, by omega⟩
  unfold P.tick_Step.f stepTup
  rw [may_f, devMay_f s st n g sl l h, Option.bind_some, Option.bind_some]
  by_cases hf : f.size = 768
  case neg => rw [decide_eq_false hf, if_neg Bool.false_ne_true, Bool.false_and, if_neg Bool.false_ne_true, P.tick_Step.j0, if_pos rfl]
  rw [decide_eq_true hf, if_pos rfl, Bool.true_and]
  show P.tick_Step.j0 ((k + 2) + 1) _ _ _ _ _ _ _ _ = _
  rw [P.tick_Step.j0]
  cases hm : devMayB s st n g sl l
  · rfl
  have hl := devMayB_len hm
  rw [if_neg (by decide), if_pos rfl, copy_f s st n g sl l hl.1, Option.bind_some]
  dsimp only
  rw [P.tick_Works.f, Option.bind_some]
  show (if works s = true then _ else _) = _
  cases hw : works s
  · rfl
  rw [if_pos rfl, if_pos rfl]
  cases l with
  | nil => rw [if_neg (by simp)]; exact step_j1 f s st n g sl [] (k + 1)
  | cons o r =>
    rw [if_pos (by simp only [List.length_cons]; omega), if_pos (by simp only [List.length_cons]; omega), rd_cons, do_f f o.f0 o.f1 o.f2 (k + 2) (by omega) (h o (List.mem_cons_self ..)), Option.bind_some, if_pos (by simp only [List.length_cons]; omega)]
    exact step_j1 (cutPair f o.f0 o.f1 o.f2 96).1 s st n g sl r (k + 1)
theorem cut_j1 (f : ByteArray) (s st n g sl : Int) (l : List Opn) (c : Int) (k : Nat) (h : OkOps l) (b : Bool) (hb : b = (works s && decide (l ≠ []))) : P.tick_Cut.j1 (k + 2) f c b s st n g sl l = some (cutted f s c l, 0, 0, 0, 0, 0, [], 0) := by
  subst hb
  show P.tick_Cut.j1 ((k + 1) + 1) _ _ _ _ _ _ _ _ _ = _
  rw [P.tick_Cut.j1]
  cases l with
  | nil => rw [show (works s && decide (([] : List Opn) ≠ [])) = false by simp]; rfl
  | cons o r =>
    rw [show (works s && decide (o :: r ≠ [])) = works s by simp, cutted]
    cases works s
    · rfl
    rw [if_pos rfl, if_pos rfl, if_pos (by simp only [List.length_cons]; omega), rd_cons, cut_f f o.f0 o.f1 o.f2 c (k + 1) (by omega) (h o (List.mem_cons_self ..)), Option.bind_some]; rfl
theorem tcut_f (f : ByteArray) (s st n g sl : Int) (l : List Opn) (c : Int) (k : Nat) (hk : 3 < k) (h : OkOps l) : P.tick_Cut.f k f s st n g sl l c = some (cutTup f s st n g sl l c) := by
  obtain ⟨k, rfl⟩ : ∃ m, k = m + 4 := ⟨k - 4, by omega⟩
  have j0 : ∀ b, b = !(decide (f.size = 768) && (devMayB s st n g sl l && within c 0 96)) → P.tick_Cut.j0 ((k + 3) + 1) f c b s st n g sl l = some (cutTup f s st n g sl l c) := by
    intro b hb
    subst hb
    rw [P.tick_Cut.j0]
    unfold cutTup
    cases decide (f.size = 768) && (devMayB s st n g sl l && within c 0 96)
    · rfl
    rw [if_neg (by decide), if_pos rfl, P.tick_Works.f, Option.bind_some]
    show (if works s = true then _ else _) = _
    have e : decide ((l.length : Int) > 0) = decide (l ≠ []) := by cases l <;> simp
    cases hw : works s
    · rw [if_neg Bool.false_ne_true]; exact cut_j1 f s st n g sl l c (k + 1) h false (by rw [hw]; rfl)
    · rw [if_pos rfl, e]
      exact cut_j1 f s st n g sl l c (k + 1) h (decide (l ≠ [])) (by rw [hw]; rfl)
  unfold P.tick_Cut.f
  rw [may_f, devMay_f s st n g sl l h, Option.bind_some, Option.bind_some]
  by_cases hf : f.size = 768
  case neg => rw [decide_eq_false hf, if_neg Bool.false_ne_true]; exact j0 _ (by rw [decide_eq_false hf]; rfl)
  rw [decide_eq_true hf, if_pos rfl]
  cases hm : devMayB s st n g sl l
  · rw [if_neg Bool.false_ne_true]; exact j0 _ (by rw [hm]; simp)
  rw [if_pos rfl]
  by_cases h0 : c < 0
  · rw [if_pos h0]; exact j0 _ (by unfold within; rw [decide_eq_false (by omega : ¬ 0 ≤ c)]; simp)
  · rw [if_neg h0]; exact j0 _ (by
      rw [decide_eq_true hf, hm]
      unfold within
      rw [decide_eq_true (by omega : 0 ≤ c), Bool.true_and, Bool.true_and, Bool.true_and]
      by_cases h9 : c > 96
      · rw [decide_eq_true h9, decide_eq_false (by omega)]; rfl
      · rw [decide_eq_false h9, decide_eq_true (by omega)]; rfl)

end Go.Proofs.Ytgoeooghoojdgaa.O
