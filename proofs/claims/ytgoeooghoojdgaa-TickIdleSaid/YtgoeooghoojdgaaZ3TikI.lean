/- TickIdle, TickCut. -/
import Derived.Test.YtgoeooghoojdgaaZ3TikR
import Derived.Test.YtgoeooghoojdgaaZ3DevW
import Derived.Test.YtgoeooghoojdgaaZ3Px12
import Derived.Test.YtgoeooghoojdgaaZ3Px13
import Derived.Test.YtgoeooghoojdgaaZ3Px5
set_option linter.unusedVariables false
set_option linter.unusedSimpArgs false
set_option maxHeartbeats 4000000
namespace Go.Proofs.Ytgoeooghoojdgaa
open Go.RowKit Skiff Go.Proofs.YtgoeooghoojdgaaW.PrintWords Go.Proofs.YtgoeooghoojdgaaW.PrintMore O

theorem awake18 (k : Nat) (hk : 300 ≤ k) : P.skifflaw18_awake.f k = some true := by
  have up : ∀ j, P.skifflaw18_awake.f (300 + j) = some true := fun j => by
    induction j with
    | zero => exact awake18_f
    | succ j ih => exact P.skifflaw18_awake.mono (300 + j) _ ih
  obtain ⟨j, rfl⟩ : ∃ j, k = 300 + j := ⟨k - 300, by omega⟩
  exact up j
theorem empty_l : (⟨#[]⟩ : ByteArray).toList = ([] : List UInt8) := by decide +kernel
theorem tickIdle_f (f : ByteArray) (s st n g sl : Int) (l : List Opn) (c : Int) (h : OkOps l) : P.skifflaw18_TickIdle.f 1500 f s st n g sl l c = some true := by
  obtain ⟨b, hb, hb2⟩ : ∃ k : Nat, wrap64 ((IntKind.u64.wrap c).tmod 97) = (k : Int) ∧ k < 97 := mod_nat c 97 (by omega) (by omega)
  unfold P.skifflaw18_TickIdle.f
  rw [awake18 1500 (by omega), Option.bind_some, if_pos rfl]
  by_cases h2 : s = 2
  · rw [if_pos h2]
    show P.skifflaw18_TickIdle.j0 (1499 + 1) _ _ true _ _ _ _ _ _ = _
    rw [P.skifflaw18_TickIdle.j0, if_pos rfl]
  rw [if_neg h2]
  show P.skifflaw18_TickIdle.j0 (1499 + 1) _ _ _ _ _ _ _ _ _ = _
  rw [P.skifflaw18_TickIdle.j0]
  by_cases h5 : s = 5
  · rw [if_pos (by rw [h5]; rfl)]
  have hw : works s = false := by unfold works; rw [beq_eq_false_iff_ne.2 h2, beq_eq_false_iff_ne.2 h5]; rfl
  rw [if_neg (by rw [beq_eq_false_iff_ne.2 h5]; decide), step_f f s st n g sl l 1499 (by omega) h, Option.bind_some, hb, tcut_f f s st n g sl l b 1499 (by omega) h, Option.bind_some]
  unfold stepTup cutTup
  rw [Skiff.within_iff.2 (by omega : (0 : Int) ≤ b ∧ (b : Int) ≤ 96), Bool.and_true, hw]
  unfold P.skifflaw0_Num.f
  cases hm : (decide (f.size = 768) && devMayB s st n g sl l)
  · have hs := sent18 1498 (by omega)
    have he := empty_l
    have hl := sent_len
    generalize sentL = L at hs hl
    show P.skifflaw18_TickIdle.j1 (1498 + 1) f ⟨#[]⟩ ⟨#[]⟩ true s st n g sl l 0 0 0 0 0 [] 0 0 0 0 0 [] = _
    rw [P.skifflaw18_TickIdle.j1, if_pos rfl, if_pos he, if_pos he, hs, Option.bind_some]
    dsimp only
    rw [hl]; rfl
  · have hl := devMayB_len (Bool.and_eq_true_iff.1 hm).2
    have hc : cutted f s b l = f := by
      cases l with
      | nil => rfl
      | cons o r => rw [cutted, hw, if_neg Bool.false_ne_true]
    have d1 := sameDev_f s st n g sl l 1498 (by omega) (by omega)
    have d2 := sameDev_f 0 0 0 0 0 [] 1498 (by simp) (by simp)
    rw [hc]
    show P.skifflaw18_TickIdle.j1 (1498 + 1) f f f false s st n g sl l s st n g sl l 0 0 0 0 0 [] = _
    rw [P.skifflaw18_TickIdle.j1, if_neg Bool.false_ne_true, if_pos rfl, d1, Option.bind_some, if_pos rfl, if_pos rfl, d2]; rfl
theorem ok_of_wf {l : List Opn} (h : ∀ o ∈ l, (Lit.int .i64 o.f1).wf = true) : OkOps l := fun o ho => (wf_lt (h o ho)).2
theorem tickIdle_walk (f : ByteArray) (s st n g sl : Int) (A : Option Addr) (cap : Nat) (l : List Opn) (c : Int) (hf : f.size ≤ 140737488351232) (f1 : (Lit.int .i64 s).wf = true) (hl : l.length ≤ cap) (ho : ∀ o ∈ l, (Lit.int .i64 o.f1).wf = true) (f2 : (Lit.int .i64 c).wf = true) (w : World) (hc : Kd.C P.k40 w A l.length l) :
    Calls Try.prog 6 #[.string f, .agg #[.int .i64 s, .int .i64 st, .int .i64 n, .int .i64 g, .int .i64 sl, .slice A l.length cap], .int .i64 c] w fun e w' => e = .returned (.bool true) ∧ Ext w w' :=
  P.skifflaw18_TickIdle.calls 1500 f s st n g sl A cap l c true w hc hl (tickIdle_f f s st n g sl l c (ok_of_wf ho))

end Go.Proofs.Ytgoeooghoojdgaa
