-- written by wip/prt.py of this repo, by the kit's print, over contracts that are proved here by hand
import Derived.Test.YtgoeooghoojdgaaZ2Cz
import Derived.Test.YtgoeooghoojdgaaZ2GivMay
import Derived.Test.YtgoeooghoojdgaaZ2Px0
import Derived.Test.YtgoeooghoojdgaaZ2Px2
namespace Go.Proofs.Ytgoeooghoojdgaa.P
open Go.RowKit Go.Proofs.YtgoeooghoojdgaaW.PrintWords Go.Proofs.YtgoeooghoojdgaaW.PrintLast Go.Proofs.YtgoeooghoojdgaaW.PrintMore
attribute [local go_sem] max2_int min2_int max_two min_two max_three min_three max_four min_four   -- for this text's walks alone
set_option linter.unusedVariables false
set_option linter.unusedSimpArgs false

/-! ### device_May: function 26 -/
def device_May.f (a0_0 : Int) (a0_1 : Int) (a0_2 : Int) (a0_3 : Int) (a0_4 : Int) (l0_5 : List (S40)) : Option (Bool) := (answer_State.f a0_0).bind fun t115 => (if t115 = true then ((answer_Status.f a0_1).bind fun t116 => (if t116 = true then (if a0_2 ≥ 0 then (if a0_2 ≤ 16 then (if a0_3 = 0 then ((entry_Slot.f a0_4).bind fun t117 => (if t117 = true then (if (l0_5.length : Int) ≤ 768 then ((slices_ContainsFunc_Op.f l0_5).bind fun t118 => (some (!t118))) else (some false)) else (some false))) else ((entry_Size.f a0_3).bind fun t119 => (if t119 = true then ((entry_Slot.f a0_4).bind fun t120 => (if t120 = true then (if (l0_5.length : Int) ≤ 768 then ((slices_ContainsFunc_Op.f l0_5).bind fun t121 => (some (!t121))) else (some false)) else (some false))) else (some false)))) else (some false)) else (some false)) else (some false))) else (some false))
set_option maxHeartbeats 8000000 in
set_option maxRecDepth 100000 in
theorem device_May.calls (a0_0 : Int) (a0_1 : Int) (a0_2 : Int) (a0_3 : Int) (a0_4 : Int) (A0_5 : Option Addr) (c0_5 : Nat) (l0_5 : List (S40)) (r : Bool) (w : World) (hr0_5 : Kd.C k40 w A0_5 l0_5.length l0_5) (hc0_5 : l0_5.length ≤ c0_5) (h : device_May.f a0_0 a0_1 a0_2 a0_3 a0_4 l0_5 = some r) :
  Calls Try.prog 26 #[.agg #[.int .i64 a0_0, .int .i64 a0_1, .int .i64 a0_2, .int .i64 a0_3, .int .i64 a0_4, .slice A0_5 l0_5.length c0_5]] w fun e w' => e = .returned (.bool r) ∧ Below w.heap.size w w' := by
 have hu24 := Try.underlying24
 have HR0_5 := Aside0.mk hr0_5
 have HC0_5 := Aside0.mk hc0_5
 clear hr0_5 hc0_5
 have HB := Aside0.mk (Below.refl w.heap.size w)
 have H : ((answer_State.f a0_0).bind fun t115 => (if t115 = true then ((answer_Status.f a0_1).bind fun t116 => (if t116 = true then (if a0_2 ≥ 0 then (if a0_2 ≤ 16 then (if a0_3 = 0 then ((entry_Slot.f a0_4).bind fun t117 => (if t117 = true then (if (l0_5.length : Int) ≤ 768 then ((slices_ContainsFunc_Op.f l0_5).bind fun t118 => (some (!t118))) else (some false)) else (some false))) else ((entry_Size.f a0_3).bind fun t119 => (if t119 = true then ((entry_Slot.f a0_4).bind fun t120 => (if t120 = true then (if (l0_5.length : Int) ≤ 768 then ((slices_ContainsFunc_Op.f l0_5).bind fun t121 => (some (!t121))) else (some false)) else (some false))) else (some false)))) else (some false)) else (some false)) else (some false))) else (some false))) = some r := h
 clear h
 replace H := Option.bind_eq_some_iff.mp H
 obtain ⟨t115, A20, H⟩ := H
 replace H : (if t115 = true then ((answer_Status.f a0_1).bind fun t116 => (if t116 = true then (if a0_2 ≥ 0 then (if a0_2 ≤ 16 then (if a0_3 = 0 then ((entry_Slot.f a0_4).bind fun t117 => (if t117 = true then (if (l0_5.length : Int) ≤ 768 then ((slices_ContainsFunc_Op.f l0_5).bind fun t118 => (some (!t118))) else (some false)) else (some false))) else ((entry_Size.f a0_3).bind fun t119 => (if t119 = true then ((entry_Slot.f a0_4).bind fun t120 => (if t120 = true then (if (l0_5.length : Int) ≤ 768 then ((slices_ContainsFunc_Op.f l0_5).bind fun t121 => (some (!t121))) else (some false)) else (some false))) else (some false)))) else (some false)) else (some false)) else (some false))) else (some false)) = some r := H
 have A2 := Aside0.mk A20
 clear A20
 by_cases c3 : t115 = true
 case neg =>
  replace c3 := Bool.eq_false_iff.mpr c3
  subst c3
  have H1 : (some false) = some r := by rw [if_neg (show ¬ (false = true) by decide)] at H; exact H
  clear H; have H := H1; clear H1
  obtain rfl := Option.some.inj H
  go_enter Try.func26, Try.ntmps26
  go_wp2_with (first | ((with_reducible refine gate_dst (N := 1) rfl ?_); (try (refine gate_guard (by rfl) ?_; dsimp only)); refine box_event ?hg (N := 1) ?hd (cs := #[.int .i64 a0_0, .int .i64 a0_1, .int .i64 a0_2, .int .i64 a0_3, .int .i64 a0_4, .slice A0_5 l0_5.length c0_5]) (t := 24) ?hr ?_; (case hd => rfl); (case hg => rfl); (case hr => first | (go_simp; done) | (go_simp; rfl)); intro gb114 hg w41 hbox hb; have n0_ := Aside0.mk (below_step (kb HB.out) hb); have n1_ := Aside0.mk (hbox); have n2_ := Aside0.mk ((kz hg (below_size (kb HB.out)) : w.heap.size ≤ gb114)); have n3_ := Aside0.mk ((kz hg (below_size (kb HB.out)) : w.heap.size ≤ gb114)); clear HB; have HB := n0_; have BK114 := n1_; have GW114 := n2_; have GE114 := n3_; clear n0_ n1_ n2_ n3_; clear hb hbox hg; obtain ⟨hcz42_0, hcz42_1, hcz42_2, hcz42_3, hcz42_4, hcz42_5⟩ := kc6 BK114.out; obtain ⟨hfz42_0, hfz42_1, hfz42_2, hfz42_3, hfz42_4, hfz42_5⟩ := kf6 BK114.out) | ((with_reducible refine gate_callee (f := 49) rfl ?_); refine goesL_ (some 6) rfl rfl Try.func49 (by kernel_rfl) rfl #[.int .i64 a0_0] rfl ka ?_; (with_reducible refine (answer_State.calls a0_0 false _ A2.out).mono ?_); rintro e w' ⟨rfl, ⟨nd, rfl⟩⟩; refine ⟨_, rfl, ?_⟩))
  go_ret
  exact ⟨by first | rfl | (simp [errW_none, errW_some] <;> rfl) | (simp [*, errW_none, errW_some] <;> rfl), kb1 HB.out GE114.out⟩
 subst c3
 have H1 : ((answer_Status.f a0_1).bind fun t116 => (if t116 = true then (if a0_2 ≥ 0 then (if a0_2 ≤ 16 then (if a0_3 = 0 then ((entry_Slot.f a0_4).bind fun t117 => (if t117 = true then (if (l0_5.length : Int) ≤ 768 then ((slices_ContainsFunc_Op.f l0_5).bind fun t118 => (some (!t118))) else (some false)) else (some false))) else ((entry_Size.f a0_3).bind fun t119 => (if t119 = true then ((entry_Slot.f a0_4).bind fun t120 => (if t120 = true then (if (l0_5.length : Int) ≤ 768 then ((slices_ContainsFunc_Op.f l0_5).bind fun t121 => (some (!t121))) else (some false)) else (some false))) else (some false)))) else (some false)) else (some false)) else (some false))) = some r := by rw [if_pos rfl] at H; exact H
 clear H; have H := H1; clear H1
 replace H := Option.bind_eq_some_iff.mp H
 obtain ⟨t116, A40, H⟩ := H
 replace H : (if t116 = true then (if a0_2 ≥ 0 then (if a0_2 ≤ 16 then (if a0_3 = 0 then ((entry_Slot.f a0_4).bind fun t117 => (if t117 = true then (if (l0_5.length : Int) ≤ 768 then ((slices_ContainsFunc_Op.f l0_5).bind fun t118 => (some (!t118))) else (some false)) else (some false))) else ((entry_Size.f a0_3).bind fun t119 => (if t119 = true then ((entry_Slot.f a0_4).bind fun t120 => (if t120 = true then (if (l0_5.length : Int) ≤ 768 then ((slices_ContainsFunc_Op.f l0_5).bind fun t121 => (some (!t121))) else (some false)) else (some false))) else (some false)))) else (some false)) else (some false)) else (some false)) = some r := H
 have A4 := Aside0.mk A40
 clear A40
 by_cases c5 : t116 = true
 case neg =>
  replace c5 := Bool.eq_false_iff.mpr c5
  subst c5
  have H1 : (some false) = some r := by rw [if_neg (show ¬ (false = true) by decide)] at H; exact H
  clear H; have H := H1; clear H1
  obtain rfl := Option.some.inj H
  go_enter Try.func26, Try.ntmps26
  go_wp2_with (first | ((with_reducible refine gate_dst (N := 1) rfl ?_); (try (refine gate_guard (by rfl) ?_; dsimp only)); refine box_event ?hg (N := 1) ?hd (cs := #[.int .i64 a0_0, .int .i64 a0_1, .int .i64 a0_2, .int .i64 a0_3, .int .i64 a0_4, .slice A0_5 l0_5.length c0_5]) (t := 24) ?hr ?_; (case hd => rfl); (case hg => rfl); (case hr => first | (go_simp; done) | (go_simp; rfl)); intro gb114 hg w39 hbox hb; have n0_ := Aside0.mk (below_step (kb HB.out) hb); have n1_ := Aside0.mk (hbox); have n2_ := Aside0.mk ((kz hg (below_size (kb HB.out)) : w.heap.size ≤ gb114)); have n3_ := Aside0.mk ((kz hg (below_size (kb HB.out)) : w.heap.size ≤ gb114)); clear HB; have HB := n0_; have BK114 := n1_; have GW114 := n2_; have GE114 := n3_; clear n0_ n1_ n2_ n3_; clear hb hbox hg; obtain ⟨hcz40_0, hcz40_1, hcz40_2, hcz40_3, hcz40_4, hcz40_5⟩ := kc6 BK114.out; obtain ⟨hfz40_0, hfz40_1, hfz40_2, hfz40_3, hfz40_4, hfz40_5⟩ := kf6 BK114.out) | ((with_reducible refine gate_callee (f := 49) rfl ?_); refine goesL_ (some 6) rfl rfl Try.func49 (by kernel_rfl) rfl #[.int .i64 a0_0] rfl ka ?_; (with_reducible refine (answer_State.calls a0_0 true _ A2.out).mono ?_); rintro e w' ⟨rfl, ⟨nd, rfl⟩⟩; refine ⟨_, rfl, ?_⟩) | (go_at_call 50; (with_reducible refine (answer_Status.calls a0_1 false _ A4.out).mono ?_); rintro e w' ⟨rfl, ⟨nd, rfl⟩⟩))
  go_ret
  exact ⟨by first | rfl | (simp [errW_none, errW_some] <;> rfl) | (simp [*, errW_none, errW_some] <;> rfl), kb1 HB.out GE114.out⟩
 subst c5
 have H1 : (if a0_2 ≥ 0 then (if a0_2 ≤ 16 then (if a0_3 = 0 then ((entry_Slot.f a0_4).bind fun t117 => (if t117 = true then (if (l0_5.length : Int) ≤ 768 then ((slices_ContainsFunc_Op.f l0_5).bind fun t118 => (some (!t118))) else (some false)) else (some false))) else ((entry_Size.f a0_3).bind fun t119 => (if t119 = true then ((entry_Slot.f a0_4).bind fun t120 => (if t120 = true then (if (l0_5.length : Int) ≤ 768 then ((slices_ContainsFunc_Op.f l0_5).bind fun t121 => (some (!t121))) else (some false)) else (some false))) else (some false)))) else (some false)) else (some false)) = some r := by rw [if_pos rfl] at H; exact H
 clear H; have H := H1; clear H1
 by_cases c6 : a0_2 ≥ 0
 case neg =>
  rw [if_neg c6] at H
  have c6b0 : decide (0 ≤ a0_2) = false := decide_eq_false c6
  clear c6
  obtain rfl := Option.some.inj H
  go_enter Try.func26, Try.ntmps26
  go_wp2_with (first | ((with_reducible refine gate_dst (N := 1) rfl ?_); (try (refine gate_guard (by rfl) ?_; dsimp only)); refine box_event ?hg (N := 1) ?hd (cs := #[.int .i64 a0_0, .int .i64 a0_1, .int .i64 a0_2, .int .i64 a0_3, .int .i64 a0_4, .slice A0_5 l0_5.length c0_5]) (t := 24) ?hr ?_; (case hd => rfl); (case hg => rfl); (case hr => first | (go_simp; done) | (go_simp; rfl)); intro gb114 hg w37 hbox hb; have n0_ := Aside0.mk (below_step (kb HB.out) hb); have n1_ := Aside0.mk (hbox); have n2_ := Aside0.mk ((kz hg (below_size (kb HB.out)) : w.heap.size ≤ gb114)); have n3_ := Aside0.mk ((kz hg (below_size (kb HB.out)) : w.heap.size ≤ gb114)); clear HB; have HB := n0_; have BK114 := n1_; have GW114 := n2_; have GE114 := n3_; clear n0_ n1_ n2_ n3_; clear hb hbox hg; obtain ⟨hcz38_0, hcz38_1, hcz38_2, hcz38_3, hcz38_4, hcz38_5⟩ := kc6 BK114.out; obtain ⟨hfz38_0, hfz38_1, hfz38_2, hfz38_3, hfz38_4, hfz38_5⟩ := kf6 BK114.out) | ((with_reducible refine gate_callee (f := 49) rfl ?_); refine goesL_ (some 6) rfl rfl Try.func49 (by kernel_rfl) rfl #[.int .i64 a0_0] rfl ka ?_; (with_reducible refine (answer_State.calls a0_0 true _ A2.out).mono ?_); rintro e w' ⟨rfl, ⟨nd, rfl⟩⟩; refine ⟨_, rfl, ?_⟩) | (go_at_call 50; (with_reducible refine (answer_Status.calls a0_1 true _ A4.out).mono ?_); rintro e w' ⟨rfl, ⟨nd, rfl⟩⟩))
  go_ret
  exact ⟨by first | rfl | (simp [errW_none, errW_some] <;> rfl) | (simp [*, errW_none, errW_some] <;> rfl), kb1 HB.out GE114.out⟩
 rw [if_pos c6] at H
 have c6b0 : decide (0 ≤ a0_2) = true := decide_eq_true c6
 clear c6
 by_cases c7 : a0_2 ≤ 16
 case neg =>
  rw [if_neg c7] at H
  have c7b0 : decide (a0_2 ≤ 16) = false := decide_eq_false c7
  clear c7
  obtain rfl := Option.some.inj H
  go_enter Try.func26, Try.ntmps26
  go_wp2_with (first | ((with_reducible refine gate_dst (N := 1) rfl ?_); (try (refine gate_guard (by rfl) ?_; dsimp only)); refine box_event ?hg (N := 1) ?hd (cs := #[.int .i64 a0_0, .int .i64 a0_1, .int .i64 a0_2, .int .i64 a0_3, .int .i64 a0_4, .slice A0_5 l0_5.length c0_5]) (t := 24) ?hr ?_; (case hd => rfl); (case hg => rfl); (case hr => first | (go_simp; done) | (go_simp; rfl)); intro gb114 hg w35 hbox hb; have n0_ := Aside0.mk (below_step (kb HB.out) hb); have n1_ := Aside0.mk (hbox); have n2_ := Aside0.mk ((kz hg (below_size (kb HB.out)) : w.heap.size ≤ gb114)); have n3_ := Aside0.mk ((kz hg (below_size (kb HB.out)) : w.heap.size ≤ gb114)); clear HB; have HB := n0_; have BK114 := n1_; have GW114 := n2_; have GE114 := n3_; clear n0_ n1_ n2_ n3_; clear hb hbox hg; obtain ⟨hcz36_0, hcz36_1, hcz36_2, hcz36_3, hcz36_4, hcz36_5⟩ := kc6 BK114.out; obtain ⟨hfz36_0, hfz36_1, hfz36_2, hfz36_3, hfz36_4, hfz36_5⟩ := kf6 BK114.out) | ((with_reducible refine gate_callee (f := 49) rfl ?_); refine goesL_ (some 6) rfl rfl Try.func49 (by kernel_rfl) rfl #[.int .i64 a0_0] rfl ka ?_; (with_reducible refine (answer_State.calls a0_0 true _ A2.out).mono ?_); rintro e w' ⟨rfl, ⟨nd, rfl⟩⟩; refine ⟨_, rfl, ?_⟩) | (go_at_call 50; (with_reducible refine (answer_Status.calls a0_1 true _ A4.out).mono ?_); rintro e w' ⟨rfl, ⟨nd, rfl⟩⟩))
  go_ret
  exact ⟨by first | rfl | (simp [errW_none, errW_some] <;> rfl) | (simp [*, errW_none, errW_some] <;> rfl), kb1 HB.out GE114.out⟩
 rw [if_pos c7] at H
 have c7b0 : decide (a0_2 ≤ 16) = true := decide_eq_true c7
 clear c7
 by_cases c8 : a0_3 = 0
 ·rw [if_pos c8] at H
  have c8b0 : (a0_3 == 0) = true := beq_iff_eq.mpr c8
  have c8b1 : (a0_3 != 0) = false := bne_eq_false_iff_eq.mpr c8
  clear c8
  replace H := Option.bind_eq_some_iff.mp H
  obtain ⟨t117, A90, H⟩ := H
  replace H : (if t117 = true then (if (l0_5.length : Int) ≤ 768 then ((slices_ContainsFunc_Op.f l0_5).bind fun t118 => (some (!t118))) else (some false)) else (some false)) = some r := H
  have A9 := Aside0.mk A90
  clear A90
  by_cases c10 : t117 = true
  case neg =>
   replace c10 := Bool.eq_false_iff.mpr c10
   subst c10
   have H1 : (some false) = some r := by rw [if_neg (show ¬ (false = true) by decide)] at H; exact H
   clear H; have H := H1; clear H1
   obtain rfl := Option.some.inj H
   go_enter Try.func26, Try.ntmps26
   go_wp2_with (first | ((with_reducible refine gate_dst (N := 1) rfl ?_); (try (refine gate_guard (by rfl) ?_; dsimp only)); refine box_event ?hg (N := 1) ?hd (cs := #[.int .i64 a0_0, .int .i64 a0_1, .int .i64 a0_2, .int .i64 a0_3, .int .i64 a0_4, .slice A0_5 l0_5.length c0_5]) (t := 24) ?hr ?_; (case hd => rfl); (case hg => rfl); (case hr => first | (go_simp; done) | (go_simp; rfl)); intro gb114 hg w18 hbox hb; have n0_ := Aside0.mk (below_step (kb HB.out) hb); have n1_ := Aside0.mk (hbox); have n2_ := Aside0.mk ((kz hg (below_size (kb HB.out)) : w.heap.size ≤ gb114)); have n3_ := Aside0.mk ((kz hg (below_size (kb HB.out)) : w.heap.size ≤ gb114)); clear HB; have HB := n0_; have BK114 := n1_; have GW114 := n2_; have GE114 := n3_; clear n0_ n1_ n2_ n3_; clear hb hbox hg; obtain ⟨hcz19_0, hcz19_1, hcz19_2, hcz19_3, hcz19_4, hcz19_5⟩ := kc6 BK114.out; obtain ⟨hfz19_0, hfz19_1, hfz19_2, hfz19_3, hfz19_4, hfz19_5⟩ := kf6 BK114.out) | ((with_reducible refine gate_callee (f := 49) rfl ?_); refine goesL_ (some 6) rfl rfl Try.func49 (by kernel_rfl) rfl #[.int .i64 a0_0] rfl ka ?_; (with_reducible refine (answer_State.calls a0_0 true _ A2.out).mono ?_); rintro e w' ⟨rfl, ⟨nd, rfl⟩⟩; refine ⟨_, rfl, ?_⟩) | (go_at_call 50; (with_reducible refine (answer_Status.calls a0_1 true _ A4.out).mono ?_); rintro e w' ⟨rfl, ⟨nd, rfl⟩⟩) | (go_at_call 52; (with_reducible refine (entry_Slot.calls a0_4 false _ A9.out).mono ?_); rintro e w' ⟨rfl, ⟨nd, rfl⟩⟩))
   go_ret
   exact ⟨by first | rfl | (simp [errW_none, errW_some] <;> rfl) | (simp [*, errW_none, errW_some] <;> rfl), kb1 HB.out GE114.out⟩
  subst c10
  have H1 : (if (l0_5.length : Int) ≤ 768 then ((slices_ContainsFunc_Op.f l0_5).bind fun t118 => (some (!t118))) else (some false)) = some r := by rw [if_pos rfl] at H; exact H
  clear H; have H := H1; clear H1
  by_cases c11 : (l0_5.length : Int) ≤ 768
  case neg =>
   rw [if_neg c11] at H
   have c11b0 : decide ((l0_5.length : Int) ≤ 768) = false := decide_eq_false c11
   have c11b1 : decide (l0_5.length ≤ 768) = false := decide_eq_false (by omega)
   clear c11
   obtain rfl := Option.some.inj H
   go_enter Try.func26, Try.ntmps26
   go_wp2_with (first | ((with_reducible refine gate_dst (N := 1) rfl ?_); (try (refine gate_guard (by rfl) ?_; dsimp only)); refine box_event ?hg (N := 1) ?hd (cs := #[.int .i64 a0_0, .int .i64 a0_1, .int .i64 a0_2, .int .i64 a0_3, .int .i64 a0_4, .slice A0_5 l0_5.length c0_5]) (t := 24) ?hr ?_; (case hd => rfl); (case hg => rfl); (case hr => first | (go_simp; done) | (go_simp; rfl)); intro gb114 hg w16 hbox hb; have n0_ := Aside0.mk (below_step (kb HB.out) hb); have n1_ := Aside0.mk (hbox); have n2_ := Aside0.mk ((kz hg (below_size (kb HB.out)) : w.heap.size ≤ gb114)); have n3_ := Aside0.mk ((kz hg (below_size (kb HB.out)) : w.heap.size ≤ gb114)); clear HB; have HB := n0_; have BK114 := n1_; have GW114 := n2_; have GE114 := n3_; clear n0_ n1_ n2_ n3_; clear hb hbox hg; obtain ⟨hcz17_0, hcz17_1, hcz17_2, hcz17_3, hcz17_4, hcz17_5⟩ := kc6 BK114.out; obtain ⟨hfz17_0, hfz17_1, hfz17_2, hfz17_3, hfz17_4, hfz17_5⟩ := kf6 BK114.out) | ((with_reducible refine gate_callee (f := 49) rfl ?_); refine goesL_ (some 6) rfl rfl Try.func49 (by kernel_rfl) rfl #[.int .i64 a0_0] rfl ka ?_; (with_reducible refine (answer_State.calls a0_0 true _ A2.out).mono ?_); rintro e w' ⟨rfl, ⟨nd, rfl⟩⟩; refine ⟨_, rfl, ?_⟩) | (go_at_call 50; (with_reducible refine (answer_Status.calls a0_1 true _ A4.out).mono ?_); rintro e w' ⟨rfl, ⟨nd, rfl⟩⟩) | (go_at_call 52; (with_reducible refine (entry_Slot.calls a0_4 true _ A9.out).mono ?_); rintro e w' ⟨rfl, ⟨nd, rfl⟩⟩))
   go_ret
   exact ⟨by first | rfl | (simp [errW_none, errW_some] <;> rfl) | (simp [*, errW_none, errW_some] <;> rfl), kb1 HB.out GE114.out⟩
  rw [if_pos c11] at H
  have c11b0 : decide ((l0_5.length : Int) ≤ 768) = true := decide_eq_true c11
  have c11b1 : decide (l0_5.length ≤ 768) = true := decide_eq_true (by omega)
  clear c11
  replace H := Option.bind_eq_some_iff.mp H
  obtain ⟨t118, A120, H⟩ := H
  replace H : (some (!t118)) = some r := H
  have A12 := Aside0.mk A120
  clear A120
  obtain rfl := Option.some.inj H
  go_enter Try.func26, Try.ntmps26
  go_wp2_with (first | ((with_reducible refine gate_dst (N := 1) rfl ?_); (try (refine gate_guard (by rfl) ?_; dsimp only)); refine box_event ?hg (N := 1) ?hd (cs := #[.int .i64 a0_0, .int .i64 a0_1, .int .i64 a0_2, .int .i64 a0_3, .int .i64 a0_4, .slice A0_5 l0_5.length c0_5]) (t := 24) ?hr ?_; (case hd => rfl); (case hg => rfl); (case hr => first | (go_simp; done) | (go_simp; rfl)); intro gb114 hg w13 hbox hb; have n0_ := Aside0.mk (below_step (kb HB.out) hb); have n1_ := Aside0.mk (hbox); have n2_ := Aside0.mk ((kz hg (below_size (kb HB.out)) : w.heap.size ≤ gb114)); have n3_ := Aside0.mk ((kz hg (below_size (kb HB.out)) : w.heap.size ≤ gb114)); clear HB; have HB := n0_; have BK114 := n1_; have GW114 := n2_; have GE114 := n3_; clear n0_ n1_ n2_ n3_; clear hb hbox hg; obtain ⟨hcz14_0, hcz14_1, hcz14_2, hcz14_3, hcz14_4, hcz14_5⟩ := kc6 BK114.out; obtain ⟨hfz14_0, hfz14_1, hfz14_2, hfz14_3, hfz14_4, hfz14_5⟩ := kf6 BK114.out) | ((with_reducible refine gate_callee (f := 49) rfl ?_); refine goesL_ (some 6) rfl rfl Try.func49 (by kernel_rfl) rfl #[.int .i64 a0_0] rfl ka ?_; (with_reducible refine (answer_State.calls a0_0 true _ A2.out).mono ?_); rintro e w' ⟨rfl, ⟨nd, rfl⟩⟩; refine ⟨_, rfl, ?_⟩) | (go_at_call 50; (with_reducible refine (answer_Status.calls a0_1 true _ A4.out).mono ?_); rintro e w' ⟨rfl, ⟨nd, rfl⟩⟩) | (go_at_call 52; (with_reducible refine (entry_Slot.calls a0_4 true _ A9.out).mono ?_); rintro e w' ⟨rfl, ⟨nd, rfl⟩⟩) | (go_at_call 53; (with_reducible refine (slices_ContainsFunc_Op.calls _ _ l0_5 t118 _ ?side1 ?side2 A12.out).mono ?_); (case side1 => repeat (first | exact (Kd.C_below HR0_5.out (kb1 HB.out GE114.out)) | (with_reducible refine Kd.C_alloc ?_ _) | (with_reducible refine Kd.C_drewN ?_ _) | (with_reducible refine Kd.C_drew ?_))); (case side2 => exact HC0_5.out); rintro e w15 ⟨rfl, hb⟩; have n0_ := Aside0.mk (kL BK114.out hb); have n1_ := Aside0.mk (below_step (kb1 HB.out GE114.out) hb); clear BK114; clear HB; have BK114 := n0_; have HB := n1_; clear n0_ n1_; (try clear hb); (try clear hb2); (try clear hk); (try clear hi)))
  go_ret
  exact ⟨by first | rfl | (simp [errW_none, errW_some] <;> rfl) | (simp [*, errW_none, errW_some] <;> rfl), kb1 HB.out GE114.out⟩
 ·rw [if_neg c8] at H
  have c8b0 : (a0_3 == 0) = false := beq_eq_false_iff_ne.mpr c8
  have c8b1 : (a0_3 != 0) = true := bne_iff_ne.mpr c8
  replace H := Option.bind_eq_some_iff.mp H
  obtain ⟨t119, A200, H⟩ := H
  replace H : (if t119 = true then ((entry_Slot.f a0_4).bind fun t120 => (if t120 = true then (if (l0_5.length : Int) ≤ 768 then ((slices_ContainsFunc_Op.f l0_5).bind fun t121 => (some (!t121))) else (some false)) else (some false))) else (some false)) = some r := H
  have A20 := Aside0.mk A200
  clear A200
  by_cases c21 : t119 = true
  case neg =>
   replace c21 := Bool.eq_false_iff.mpr c21
   subst c21
   have H1 : (some false) = some r := by rw [if_neg (show ¬ (false = true) by decide)] at H; exact H
   clear H; have H := H1; clear H1
   obtain rfl := Option.some.inj H
   go_enter Try.func26, Try.ntmps26
   go_wp2_with (first | ((with_reducible refine gate_dst (N := 1) rfl ?_); (try (refine gate_guard (by rfl) ?_; dsimp only)); refine box_event ?hg (N := 1) ?hd (cs := #[.int .i64 a0_0, .int .i64 a0_1, .int .i64 a0_2, .int .i64 a0_3, .int .i64 a0_4, .slice A0_5 l0_5.length c0_5]) (t := 24) ?hr ?_; (case hd => rfl); (case hg => rfl); (case hr => first | (go_simp; done) | (go_simp; rfl)); intro gb114 hg w33 hbox hb; have n0_ := Aside0.mk (below_step (kb HB.out) hb); have n1_ := Aside0.mk (hbox); have n2_ := Aside0.mk ((kz hg (below_size (kb HB.out)) : w.heap.size ≤ gb114)); have n3_ := Aside0.mk ((kz hg (below_size (kb HB.out)) : w.heap.size ≤ gb114)); clear HB; have HB := n0_; have BK114 := n1_; have GW114 := n2_; have GE114 := n3_; clear n0_ n1_ n2_ n3_; clear hb hbox hg; obtain ⟨hcz34_0, hcz34_1, hcz34_2, hcz34_3, hcz34_4, hcz34_5⟩ := kc6 BK114.out; obtain ⟨hfz34_0, hfz34_1, hfz34_2, hfz34_3, hfz34_4, hfz34_5⟩ := kf6 BK114.out) | ((with_reducible refine gate_callee (f := 49) rfl ?_); refine goesL_ (some 6) rfl rfl Try.func49 (by kernel_rfl) rfl #[.int .i64 a0_0] rfl ka ?_; (with_reducible refine (answer_State.calls a0_0 true _ A2.out).mono ?_); rintro e w' ⟨rfl, ⟨nd, rfl⟩⟩; refine ⟨_, rfl, ?_⟩) | (go_at_call 50; (with_reducible refine (answer_Status.calls a0_1 true _ A4.out).mono ?_); rintro e w' ⟨rfl, ⟨nd, rfl⟩⟩) | (go_at_call 51; (with_reducible refine (entry_Size.calls a0_3 false _ A20.out).mono ?_); rintro e w' ⟨rfl, ⟨nd, rfl⟩⟩))
   go_ret
   exact ⟨by first | rfl | (simp [errW_none, errW_some] <;> rfl) | (simp [*, errW_none, errW_some] <;> rfl), kb1 HB.out GE114.out⟩
  subst c21
  have H1 : ((entry_Slot.f a0_4).bind fun t120 => (if t120 = true then (if (l0_5.length : Int) ≤ 768 then ((slices_ContainsFunc_Op.f l0_5).bind fun t121 => (some (!t121))) else (some false)) else (some false))) = some r := by rw [if_pos rfl] at H; exact H
  clear H; have H := H1; clear H1
  replace H := Option.bind_eq_some_iff.mp H
  obtain ⟨t120, A220, H⟩ := H
  replace H : (if t120 = true then (if (l0_5.length : Int) ≤ 768 then ((slices_ContainsFunc_Op.f l0_5).bind fun t121 => (some (!t121))) else (some false)) else (some false)) = some r := H
  have A22 := Aside0.mk A220
  clear A220
  by_cases c23 : t120 = true
  case neg =>
   replace c23 := Bool.eq_false_iff.mpr c23
   subst c23
   have H1 : (some false) = some r := by rw [if_neg (show ¬ (false = true) by decide)] at H; exact H
   clear H; have H := H1; clear H1
   obtain rfl := Option.some.inj H
   go_enter Try.func26, Try.ntmps26
   go_wp2_with (first | ((with_reducible refine gate_dst (N := 1) rfl ?_); (try (refine gate_guard (by rfl) ?_; dsimp only)); refine box_event ?hg (N := 1) ?hd (cs := #[.int .i64 a0_0, .int .i64 a0_1, .int .i64 a0_2, .int .i64 a0_3, .int .i64 a0_4, .slice A0_5 l0_5.length c0_5]) (t := 24) ?hr ?_; (case hd => rfl); (case hg => rfl); (case hr => first | (go_simp; done) | (go_simp; rfl)); intro gb114 hg w31 hbox hb; have n0_ := Aside0.mk (below_step (kb HB.out) hb); have n1_ := Aside0.mk (hbox); have n2_ := Aside0.mk ((kz hg (below_size (kb HB.out)) : w.heap.size ≤ gb114)); have n3_ := Aside0.mk ((kz hg (below_size (kb HB.out)) : w.heap.size ≤ gb114)); clear HB; have HB := n0_; have BK114 := n1_; have GW114 := n2_; have GE114 := n3_; clear n0_ n1_ n2_ n3_; clear hb hbox hg; obtain ⟨hcz32_0, hcz32_1, hcz32_2, hcz32_3, hcz32_4, hcz32_5⟩ := kc6 BK114.out; obtain ⟨hfz32_0, hfz32_1, hfz32_2, hfz32_3, hfz32_4, hfz32_5⟩ := kf6 BK114.out) | ((with_reducible refine gate_callee (f := 49) rfl ?_); refine goesL_ (some 6) rfl rfl Try.func49 (by kernel_rfl) rfl #[.int .i64 a0_0] rfl ka ?_; (with_reducible refine (answer_State.calls a0_0 true _ A2.out).mono ?_); rintro e w' ⟨rfl, ⟨nd, rfl⟩⟩; refine ⟨_, rfl, ?_⟩) | (go_at_call 50; (with_reducible refine (answer_Status.calls a0_1 true _ A4.out).mono ?_); rintro e w' ⟨rfl, ⟨nd, rfl⟩⟩) | (go_at_call 51; (with_reducible refine (entry_Size.calls a0_3 true _ A20.out).mono ?_); rintro e w' ⟨rfl, ⟨nd, rfl⟩⟩) | (go_at_call 52; (with_reducible refine (entry_Slot.calls a0_4 false _ A22.out).mono ?_); rintro e w' ⟨rfl, ⟨nd, rfl⟩⟩))
   go_ret
   exact ⟨by first | rfl | (simp [errW_none, errW_some] <;> rfl) | (simp [*, errW_none, errW_some] <;> rfl), kb1 HB.out GE114.out⟩
  subst c23
  have H1 : (if (l0_5.length : Int) ≤ 768 then ((slices_ContainsFunc_Op.f l0_5).bind fun t121 => (some (!t121))) else (some false)) = some r := by rw [if_pos rfl] at H; exact H
  clear H; have H := H1; clear H1
  by_cases c24 : (l0_5.length : Int) ≤ 768
  case neg =>
   rw [if_neg c24] at H
   have c24b0 : decide ((l0_5.length : Int) ≤ 768) = false := decide_eq_false c24
   have c24b1 : decide (l0_5.length ≤ 768) = false := decide_eq_false (by omega)
   clear c24
   obtain rfl := Option.some.inj H
   go_enter Try.func26, Try.ntmps26
   go_wp2_with (first | ((with_reducible refine gate_dst (N := 1) rfl ?_); (try (refine gate_guard (by rfl) ?_; dsimp only)); refine box_event ?hg (N := 1) ?hd (cs := #[.int .i64 a0_0, .int .i64 a0_1, .int .i64 a0_2, .int .i64 a0_3, .int .i64 a0_4, .slice A0_5 l0_5.length c0_5]) (t := 24) ?hr ?_; (case hd => rfl); (case hg => rfl); (case hr => first | (go_simp; done) | (go_simp; rfl)); intro gb114 hg w29 hbox hb; have n0_ := Aside0.mk (below_step (kb HB.out) hb); have n1_ := Aside0.mk (hbox); have n2_ := Aside0.mk ((kz hg (below_size (kb HB.out)) : w.heap.size ≤ gb114)); have n3_ := Aside0.mk ((kz hg (below_size (kb HB.out)) : w.heap.size ≤ gb114)); clear HB; have HB := n0_; have BK114 := n1_; have GW114 := n2_; have GE114 := n3_; clear n0_ n1_ n2_ n3_; clear hb hbox hg; obtain ⟨hcz30_0, hcz30_1, hcz30_2, hcz30_3, hcz30_4, hcz30_5⟩ := kc6 BK114.out; obtain ⟨hfz30_0, hfz30_1, hfz30_2, hfz30_3, hfz30_4, hfz30_5⟩ := kf6 BK114.out) | ((with_reducible refine gate_callee (f := 49) rfl ?_); refine goesL_ (some 6) rfl rfl Try.func49 (by kernel_rfl) rfl #[.int .i64 a0_0] rfl ka ?_; (with_reducible refine (answer_State.calls a0_0 true _ A2.out).mono ?_); rintro e w' ⟨rfl, ⟨nd, rfl⟩⟩; refine ⟨_, rfl, ?_⟩) | (go_at_call 50; (with_reducible refine (answer_Status.calls a0_1 true _ A4.out).mono ?_); rintro e w' ⟨rfl, ⟨nd, rfl⟩⟩) | (go_at_call 51; (with_reducible refine (entry_Size.calls a0_3 true _ A20.out).mono ?_); rintro e w' ⟨rfl, ⟨nd, rfl⟩⟩) | (go_at_call 52; (with_reducible refine (entry_Slot.calls a0_4 true _ A22.out).mono ?_); rintro e w' ⟨rfl, ⟨nd, rfl⟩⟩))
   go_ret
   exact ⟨by first | rfl | (simp [errW_none, errW_some] <;> rfl) | (simp [*, errW_none, errW_some] <;> rfl), kb1 HB.out GE114.out⟩
  rw [if_pos c24] at H
  have c24b0 : decide ((l0_5.length : Int) ≤ 768) = true := decide_eq_true c24
  have c24b1 : decide (l0_5.length ≤ 768) = true := decide_eq_true (by omega)
  clear c24
  replace H := Option.bind_eq_some_iff.mp H
  obtain ⟨t121, A250, H⟩ := H
  replace H : (some (!t121)) = some r := H
  have A25 := Aside0.mk A250
  clear A250
  obtain rfl := Option.some.inj H
  go_enter Try.func26, Try.ntmps26
  go_wp2_with (first | ((with_reducible refine gate_dst (N := 1) rfl ?_); (try (refine gate_guard (by rfl) ?_; dsimp only)); refine box_event ?hg (N := 1) ?hd (cs := #[.int .i64 a0_0, .int .i64 a0_1, .int .i64 a0_2, .int .i64 a0_3, .int .i64 a0_4, .slice A0_5 l0_5.length c0_5]) (t := 24) ?hr ?_; (case hd => rfl); (case hg => rfl); (case hr => first | (go_simp; done) | (go_simp; rfl)); intro gb114 hg w26 hbox hb; have n0_ := Aside0.mk (below_step (kb HB.out) hb); have n1_ := Aside0.mk (hbox); have n2_ := Aside0.mk ((kz hg (below_size (kb HB.out)) : w.heap.size ≤ gb114)); have n3_ := Aside0.mk ((kz hg (below_size (kb HB.out)) : w.heap.size ≤ gb114)); clear HB; have HB := n0_; have BK114 := n1_; have GW114 := n2_; have GE114 := n3_; clear n0_ n1_ n2_ n3_; clear hb hbox hg; obtain ⟨hcz27_0, hcz27_1, hcz27_2, hcz27_3, hcz27_4, hcz27_5⟩ := kc6 BK114.out; obtain ⟨hfz27_0, hfz27_1, hfz27_2, hfz27_3, hfz27_4, hfz27_5⟩ := kf6 BK114.out) | ((with_reducible refine gate_callee (f := 49) rfl ?_); refine goesL_ (some 6) rfl rfl Try.func49 (by kernel_rfl) rfl #[.int .i64 a0_0] rfl ka ?_; (with_reducible refine (answer_State.calls a0_0 true _ A2.out).mono ?_); rintro e w' ⟨rfl, ⟨nd, rfl⟩⟩; refine ⟨_, rfl, ?_⟩) | (go_at_call 50; (with_reducible refine (answer_Status.calls a0_1 true _ A4.out).mono ?_); rintro e w' ⟨rfl, ⟨nd, rfl⟩⟩) | (go_at_call 51; (with_reducible refine (entry_Size.calls a0_3 true _ A20.out).mono ?_); rintro e w' ⟨rfl, ⟨nd, rfl⟩⟩) | (go_at_call 52; (with_reducible refine (entry_Slot.calls a0_4 true _ A22.out).mono ?_); rintro e w' ⟨rfl, ⟨nd, rfl⟩⟩) | (go_at_call 53; (with_reducible refine (slices_ContainsFunc_Op.calls _ _ l0_5 t121 _ ?side1 ?side2 A25.out).mono ?_); (case side1 => repeat (first | exact (Kd.C_below HR0_5.out (kb1 HB.out GE114.out)) | (with_reducible refine Kd.C_alloc ?_ _) | (with_reducible refine Kd.C_drewN ?_ _) | (with_reducible refine Kd.C_drew ?_))); (case side2 => exact HC0_5.out); rintro e w28 ⟨rfl, hb⟩; have n0_ := Aside0.mk (kL BK114.out hb); have n1_ := Aside0.mk (below_step (kb1 HB.out GE114.out) hb); clear BK114; clear HB; have BK114 := n0_; have HB := n1_; clear n0_ n1_; (try clear hb); (try clear hb2); (try clear hk); (try clear hi)))
  go_ret
  exact ⟨by first | rfl | (simp [errW_none, errW_some] <;> rfl) | (simp [*, errW_none, errW_some] <;> rfl), kb1 HB.out GE114.out⟩

-- its contract: by hand
/-! ### slices_Clone_Op: function 54 -/
def slices_Clone_Op.f (l0 : List (S40)) : Option ((List (S40))) := if l0.length < 4398046511104 then some l0 else none

end Go.Proofs.Ytgoeooghoojdgaa.P
