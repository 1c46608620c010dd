/- TickIdle, TickCut. -/
import Derived.Test.YtgoeooghoojdgaaZ0TikR
import Derived.Test.YtgoeooghoojdgaaZ0DevW
import Derived.Test.YtgoeooghoojdgaaZ0Px12
import Derived.Test.YtgoeooghoojdgaaZ0Px13
import Derived.Test.YtgoeooghoojdgaaZ0Px5
set_option linter.unusedVariables false
set_option linter.unusedSimpArgs false
set_option maxHeartbeats 4000000
namespace Go.Proofs.Ytgoeooghoojdgaa
open Go.RowKit Skiff Go.Proofs.YtgoeooghoojdgaaW.PrintWords Go.Proofs.YtgoeooghoojdgaaW.PrintMore O

theorem awake18 (k : Nat) (hk : 300 ≤ k) : P.skifflaw18_awake.f k = some true := by
  have up : ∀ j, P.skifflaw18_awake.f (300 + j) = some true := fun j => by
    induction j with
    | zero => exact awake18_f
    | succ j ih => exact P.skifflaw18_awake.mono (300 + j) _ ih
  obtain ⟨j, rfl⟩ : ∃ j, k = 300 + j := ⟨k - 300, by omega⟩
  exact up j
theorem ok_of_wf {l : List Opn} (h : ∀ o ∈ l, (Lit.int .i64 o.f1).wf = true) : OkOps l := fun o ho => (wf_lt (h o ho)).2

theorem rstate_f (x : Int) : P.skiffref1_StateMay.f x = some (within x 0 7) := by unfold P.skiffref1_StateMay.f; rw [upTo_f]; rfl
theorem rstatus_f (x : Int) : P.skiffref1_StatusMay.f x = some (within x 0 6) := by unfold P.skiffref1_StatusMay.f; rw [upTo_f]; rfl
theorem rupTo_f (x a b : Int) : P.skiffref16_upTo.f x a b = some (within x a b) := by
  unfold P.skiffref16_upTo.f within
  by_cases h : a ≤ x
  · rw [if_pos h, decide_eq_true h]; rfl
  · rw [if_neg h, decide_eq_false h]; rfl
theorem rdev_l0 (s st n g sl : Int) (l : List Opn) (hl : l.length ≤ 9223372036854775807) (d : Nat) : ∀ (k i : Nat), i + d = l.length → d < k → P.skiffref16_DeviceMay.l0 k (i : Int) s st n g sl l = some (opsMayB (l.drop i) && (within s 0 7 && (within st 0 6 && (within n 0 16 && (within g 0 288 && (within sl 0 1 && decide (l.length ≤ 768))))))) := by
  induction d with
  | zero =>
    intro k i h1 h2
    obtain ⟨k, rfl⟩ : ∃ m, k = m + 1 := ⟨k - 1, by omega⟩
    have e : decide ((l.length : Int) ≤ 768) = decide (l.length ≤ 768) := by rw [Bool.eq_iff_iff]; simp; omega
    rw [P.skiffref16_DeviceMay.l0, if_neg (by omega), List.drop_of_length_le (by omega), rstate_f, rstatus_f, rupTo_f, rupTo_f, rupTo_f, e]
    show _ = some (true && _)
    rw [Bool.true_and]
    simp only [Option.bind_some]
    cases within s 0 7 <;> cases within st 0 6 <;> cases within n 0 16 <;> cases within g 0 288 <;> cases within sl 0 1 <;> rfl
  | succ d ih =>
    intro k i h1 h2
    obtain ⟨k, rfl⟩ : ∃ m, k = m + 1 := ⟨k - 1, by omega⟩
    have e2 : wrap64 ((i : Int) + 1) = ((i + 1 : Nat) : Int) := by simp only [wrap64]; omega
    have hd := List.drop_eq_getElem_cons (show i < l.length by omega)
    rw [P.skiffref16_DeviceMay.l0, if_pos (by omega), if_pos (by omega), O.rd_at l i (by omega), ropMay_f, Option.bind_some, e2, ih k (i + 1) (by omega) (by omega), hd]
    have e3 : opsMayB (l[i]'(by omega) :: l.drop (i + 1)) = (opMay (l[i]'(by omega)).f0 (l[i]'(by omega)).f1 (bl (l[i]'(by omega)).f2) && opsMayB (l.drop (i + 1))) := rfl
    rw [e3]
    cases opMay (l[i]'(by omega)).f0 (l[i]'(by omega)).f1 (bl (l[i]'(by omega)).f2)
    · rfl
    · rfl
theorem rdevMay_f (s st n g sl : Int) (l : List Opn) (k : Nat) (hl : l.length ≤ 9223372036854775807) (hk : l.length < k) : P.skiffref16_DeviceMay.f k s st n g sl l = some (devMayB s st n g sl l) := by
  unfold P.skiffref16_DeviceMay.f
  have h := rdev_l0 s st n g sl l hl l.length k 0 (by omega) hk
  rw [List.drop_zero] at h
  rw [show ((0 : Nat) : Int) = 0 from rfl] at h
  rw [h]
  unfold devMayB
  congr 1
  cases opsMayB l <;> cases within s 0 7 <;> cases within st 0 6 <;> cases within n 0 16 <;> cases within g 0 288 <;> cases within sl 0 1 <;> cases decide (l.length ≤ 768) <;> rfl

end Go.Proofs.Ytgoeooghoojdgaa
