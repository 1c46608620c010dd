/- tick.Works, of a pointer to a device in memory. -/
import Derived.Test.YtgoeooghoojdgaaZ2HandA
import Derived.Test.YtgoeooghoojdgaaZ2Px4
set_option linter.unusedVariables false
set_option linter.unusedSimpArgs false
set_option maxHeartbeats 4000000
namespace Go.Proofs.Ytgoeooghoojdgaa.P
open Go.RowKit Go.Proofs.YtgoeooghoojdgaaW.PrintWords Go.Proofs.YtgoeooghoojdgaaW.PrintLast Go.Proofs.YtgoeooghoojdgaaW.PrintMore

theorem tick_Works.ptr (a0 a1 a2 a3 a4 : Int) (l : List (S40)) (r : Bool) (g : Nat) {cs : Array Value} {t : TypeId} (w : World) (hg : w.heap[g]? = some (.cells cs t (0, 0))) (h0 : cs[0]? = some (.int .i64 a0)) (h : tick_Works.f a0 a1 a2 a3 a4 l = some r) :
    Calls Try.prog 28 #[.pointer (some ⟨g, 0, none⟩)] w fun e w' => e = .returned (.bool r) ∧ Below w.heap.size w w' := by
  have hc : w.cell? ⟨g, 0, none⟩ = some (.int .i64 a0) := (blk_cell hg 0).trans h0
  have hr : (a0 == 2 || a0 == 5) = r := Option.some.inj h
  clear h h0 hg
  by_cases h2 : a0 = 2
  · subst h2
    obtain rfl : true = r := hr
    go_enter Try.func28, Try.ntmps28
    go_wp2
    go_ret
    exact ⟨rfl, Below.refl _ _⟩
  · have e2 : (a0 == 2) = false := beq_eq_false_iff_ne.2 h2
    rw [e2, Bool.false_or] at hr
    clear h2
    by_cases h5 : a0 = 5
    · subst h5
      obtain rfl : true = r := hr
      clear e2
      go_enter Try.func28, Try.ntmps28
      go_wp2
      go_ret
      exact ⟨rfl, Below.refl _ _⟩
    · have e5 : (a0 == 5) = false := beq_eq_false_iff_ne.2 h5
      rw [e5] at hr
      subst hr
      clear h5
      go_enter Try.func28, Try.ntmps28
      go_wp2
      go_ret
      exact ⟨rfl, Below.refl _ _⟩

end Go.Proofs.Ytgoeooghoojdgaa.P
