/- Texts of this claim, laid together. -/
import Derived.Test.YtmidohjfajbpmaaZ1Cz
import Derived.Test.YtmidohjfajbpmaaZ1M22
section
namespace Go.Proofs.Ytmidohjfajbpmaa.P
open Go.RowKit Go.Proofs.YtmidohjfajbpmaaW.PrintWords Go.Proofs.YtmidohjfajbpmaaW.PrintLast Go.Proofs.YtmidohjfajbpmaaW.PrintMore
attribute [local go_sem] max2_int min2_int max_two min_two max_three min_three max_four min_four   -- for this text's walks alone
set_option linter.unusedVariables false
set_option linter.unusedSimpArgs false

/-! ### device_May: function 22 -/
def device_May.f (a0_0 : Int) (a0_1 : Int) (a0_2 : Int) (a0_3 : Int) (a0_4 : Int) (l0_5 : List (S68)) : Option (Bool) := (answer_State.f a0_0).bind fun t115 => (if t115 = true then ((answer_Status.f a0_1).bind fun t116 => (if t116 = true then (if a0_2 ≥ 0 then (if a0_2 ≤ 16 then (if a0_3 = 0 then ((entry_Slot.f a0_4).bind fun t117 => (if t117 = true then (if (l0_5.length : Int) ≤ 768 then ((slices_ContainsFunc_Op.f l0_5).bind fun t118 => (some (!t118))) else (some false)) else (some false))) else ((entry_Size.f a0_3).bind fun t119 => (if t119 = true then ((entry_Slot.f a0_4).bind fun t120 => (if t120 = true then (if (l0_5.length : Int) ≤ 768 then ((slices_ContainsFunc_Op.f l0_5).bind fun t121 => (some (!t121))) else (some false)) else (some false))) else (some false)))) else (some false)) else (some false)) else (some false))) else (some false))
set_option maxHeartbeats 8000000 in
set_option maxRecDepth 100000 in
theorem device_May.calls (a0_0 : Int) (a0_1 : Int) (a0_2 : Int) (a0_3 : Int) (a0_4 : Int) (A0_5 : Option Addr) (c0_5 : Nat) (l0_5 : List (S68)) (r : Bool) (w : World) (hr0_5 : Kd.C k68 w A0_5 l0_5.length l0_5) (hc0_5 : l0_5.length ≤ c0_5) (h : device_May.f a0_0 a0_1 a0_2 a0_3 a0_4 l0_5 = some r) :
  Calls Try.prog 22 #[.agg #[.int .i64 a0_0, .int .i64 a0_1, .int .i64 a0_2, .int .i64 a0_3, .int .i64 a0_4, .slice A0_5 l0_5.length c0_5]] w fun e w' => e = .returned (.bool r) ∧ Below w.heap.size w w' := by
 have hu24 := Try.underlying24
 have HR0_5 := Aside0.mk hr0_5
 have HC0_5 := Aside0.mk hc0_5
 clear hr0_5 hc0_5
 have HB := Aside0.mk (Below.refl w.heap.size w)
 have H : ((answer_State.f a0_0).bind fun t115 => (if t115 = true then ((answer_Status.f a0_1).bind fun t116 => (if t116 = true then (if a0_2 ≥ 0 then (if a0_2 ≤ 16 then (if a0_3 = 0 then ((entry_Slot.f a0_4).bind fun t117 => (if t117 = true then (if (l0_5.length : Int) ≤ 768 then ((slices_ContainsFunc_Op.f l0_5).bind fun t118 => (some (!t118))) else (some false)) else (some false))) else ((entry_Size.f a0_3).bind fun t119 => (if t119 = true then ((entry_Slot.f a0_4).bind fun t120 => (if t120 = true then (if (l0_5.length : Int) ≤ 768 then ((slices_ContainsFunc_Op.f l0_5).bind fun t121 => (some (!t121))) else (some false)) else (some false))) else (some false)))) else (some false)) else (some false)) else (some false))) else (some false))) = some r := h
 clear h
 replace H := Option.bind_eq_some_iff.mp H
 obtain ⟨t115, A20, H⟩ := H
 replace H : (if t115 = true then ((answer_Status.f a0_1).bind fun t116 => (if t116 = true then (if a0_2 ≥ 0 then (if a0_2 ≤ 16 then (if a0_3 = 0 then ((entry_Slot.f a0_4).bind fun t117 => (if t117 = true then (if (l0_5.length : Int) ≤ 768 then ((slices_ContainsFunc_Op.f l0_5).bind fun t118 => (some (!t118))) else (some false)) else (some false))) else ((entry_Size.f a0_3).bind fun t119 => (if t119 = true then ((entry_Slot.f a0_4).bind fun t120 => (if t120 = true then (if (l0_5.length : Int) ≤ 768 then ((slices_ContainsFunc_Op.f l0_5).bind fun t121 => (some (!t121))) else (some false)) else (some false))) else (some false)))) else (some false)) else (some false)) else (some false))) else (some false)) = some r := H
 have A2 := Aside0.mk A20
 clear A20
 by_cases c3 : t115 = true
 case neg =>
  replace c3 := Bool.eq_false_iff.mpr c3
  subst c3
  have H1 : (some false) = some r := by rw [if_neg (show ¬ (false = true) by decide)] at H; exact H
  clear H; have H := H1; clear H1
  obtain rfl := Option.some.inj H
  go_enter Try.func22, Try.ntmps22
  go_wp2_with (first | ((with_reducible refine gate_dst (N := 1) rfl ?_); (try (refine gate_guard (by rfl) ?_; dsimp only)); refine box_event ?hg (N := 1) ?hd (cs := #[.int .i64 a0_0, .int .i64 a0_1, .int .i64 a0_2, .int .i64 a0_3, .int .i64 a0_4, .slice A0_5 l0_5.length c0_5]) (t := 24) ?hr ?_; (case hd => rfl); (case hg => rfl); (case hr => first | (go_simp; done) | (go_simp; rfl)); intro gb114 hg w41 hbox hb; have n0_ := Aside0.mk (below_step (kb HB.out) hb); have n1_ := Aside0.mk (hbox); have n2_ := Aside0.mk ((kz hg (below_size (kb HB.out)) : w.heap.size ≤ gb114)); have n3_ := Aside0.mk ((kz hg (below_size (kb HB.out)) : w.heap.size ≤ gb114)); clear HB; have HB := n0_; have BK114 := n1_; have GW114 := n2_; have GE114 := n3_; clear n0_ n1_ n2_ n3_; clear hb hbox hg; obtain ⟨hcz42_0, hcz42_1, hcz42_2, hcz42_3, hcz42_4, hcz42_5⟩ := kc6 BK114.out; obtain ⟨hfz42_0, hfz42_1, hfz42_2, hfz42_3, hfz42_4, hfz42_5⟩ := kf6 BK114.out) | ((with_reducible refine gate_callee (f := 48) rfl ?_); refine goesL_ (some 6) rfl rfl Try.func48 (by kernel_rfl) rfl #[.int .i64 a0_0] rfl ka ?_; (with_reducible refine (answer_State.calls a0_0 false _ A2.out).mono ?_); rintro e w' ⟨rfl, ⟨nd, rfl⟩⟩; refine ⟨_, rfl, ?_⟩))
  go_ret
  exact ⟨by first | rfl | (simp [errW_none, errW_some] <;> rfl) | (simp [*, errW_none, errW_some] <;> rfl), kb1 HB.out GE114.out⟩
 subst c3
 have H1 : ((answer_Status.f a0_1).bind fun t116 => (if t116 = true then (if a0_2 ≥ 0 then (if a0_2 ≤ 16 then (if a0_3 = 0 then ((entry_Slot.f a0_4).bind fun t117 => (if t117 = true then (if (l0_5.length : Int) ≤ 768 then ((slices_ContainsFunc_Op.f l0_5).bind fun t118 => (some (!t118))) else (some false)) else (some false))) else ((entry_Size.f a0_3).bind fun t119 => (if t119 = true then ((entry_Slot.f a0_4).bind fun t120 => (if t120 = true then (if (l0_5.length : Int) ≤ 768 then ((slices_ContainsFunc_Op.f l0_5).bind fun t121 => (some (!t121))) else (some false)) else (some false))) else (some false)))) else (some false)) else (some false)) else (some false))) = some r := by rw [if_pos rfl] at H; exact H
 clear H; have H := H1; clear H1
 replace H := Option.bind_eq_some_iff.mp H
 obtain ⟨t116, A40, H⟩ := H
 replace H : (if t116 = true then (if a0_2 ≥ 0 then (if a0_2 ≤ 16 then (if a0_3 = 0 then ((entry_Slot.f a0_4).bind fun t117 => (if t117 = true then (if (l0_5.length : Int) ≤ 768 then ((slices_ContainsFunc_Op.f l0_5).bind fun t118 => (some (!t118))) else (some false)) else (some false))) else ((entry_Size.f a0_3).bind fun t119 => (if t119 = true then ((entry_Slot.f a0_4).bind fun t120 => (if t120 = true then (if (l0_5.length : Int) ≤ 768 then ((slices_ContainsFunc_Op.f l0_5).bind fun t121 => (some (!t121))) else (some false)) else (some false))) else (some false)))) else (some false)) else (some false)) else (some false)) = some r := H
 have A4 := Aside0.mk A40
 clear A40
 by_cases c5 : t116 = true
 case neg =>
  replace c5 := Bool.eq_false_iff.mpr c5
  subst c5
  have H1 : (some false) = some r := by rw [if_neg (show ¬ (false = true) by decide)] at H; exact H
  clear H; have H := H1; clear H1
  obtain rfl := Option.some.inj H
  go_enter Try.func22, Try.ntmps22
  go_wp2_with (first | ((with_reducible refine gate_dst (N := 1) rfl ?_); (try (refine gate_guard (by rfl) ?_; dsimp only)); refine box_event ?hg (N := 1) ?hd (cs := #[.int .i64 a0_0, .int .i64 a0_1, .int .i64 a0_2, .int .i64 a0_3, .int .i64 a0_4, .slice A0_5 l0_5.length c0_5]) (t := 24) ?hr ?_; (case hd => rfl); (case hg => rfl); (case hr => first | (go_simp; done) | (go_simp; rfl)); intro gb114 hg w39 hbox hb; have n0_ := Aside0.mk (below_step (kb HB.out) hb); have n1_ := Aside0.mk (hbox); have n2_ := Aside0.mk ((kz hg (below_size (kb HB.out)) : w.heap.size ≤ gb114)); have n3_ := Aside0.mk ((kz hg (below_size (kb HB.out)) : w.heap.size ≤ gb114)); clear HB; have HB := n0_; have BK114 := n1_; have GW114 := n2_; have GE114 := n3_; clear n0_ n1_ n2_ n3_; clear hb hbox hg; obtain ⟨hcz40_0, hcz40_1, hcz40_2, hcz40_3, hcz40_4, hcz40_5⟩ := kc6 BK114.out; obtain ⟨hfz40_0, hfz40_1, hfz40_2, hfz40_3, hfz40_4, hfz40_5⟩ := kf6 BK114.out) | ((with_reducible refine gate_callee (f := 48) rfl ?_); refine goesL_ (some 6) rfl rfl Try.func48 (by kernel_rfl) rfl #[.int .i64 a0_0] rfl ka ?_; (with_reducible refine (answer_State.calls a0_0 true _ A2.out).mono ?_); rintro e w' ⟨rfl, ⟨nd, rfl⟩⟩; refine ⟨_, rfl, ?_⟩) | (go_at_call 49; (with_reducible refine (answer_Status.calls a0_1 false _ A4.out).mono ?_); rintro e w' ⟨rfl, ⟨nd, rfl⟩⟩))
  go_ret
  exact ⟨by first | rfl | (simp [errW_none, errW_some] <;> rfl) | (simp [*, errW_none, errW_some] <;> rfl), kb1 HB.out GE114.out⟩
 subst c5
 have H1 : (if a0_2 ≥ 0 then (if a0_2 ≤ 16 then (if a0_3 = 0 then ((entry_Slot.f a0_4).bind fun t117 => (if t117 = true then (if (l0_5.length : Int) ≤ 768 then ((slices_ContainsFunc_Op.f l0_5).bind fun t118 => (some (!t118))) else (some false)) else (some false))) else ((entry_Size.f a0_3).bind fun t119 => (if t119 = true then ((entry_Slot.f a0_4).bind fun t120 => (if t120 = true then (if (l0_5.length : Int) ≤ 768 then ((slices_ContainsFunc_Op.f l0_5).bind fun t121 => (some (!t121))) else (some false)) else (some false))) else (some false)))) else (some false)) else (some false)) = some r := by rw [if_pos rfl] at H; exact H
 clear H; have H := H1; clear H1
 by_cases c6 : a0_2 ≥ 0
 case neg =>
  rw [if_neg c6] at H
  have c6b0 : decide (0 ≤ a0_2) = false := decide_eq_false c6
  clear c6
  obtain rfl := Option.some.inj H
  go_enter Try.func22, Try.ntmps22
  go_wp2_with (first | ((with_reducible refine gate_dst (N := 1) rfl ?_); (try (refine gate_guard (by rfl) ?_; dsimp only)); refine box_event ?hg (N := 1) ?hd (cs := #[.int .i64 a0_0, .int .i64 a0_1, .int .i64 a0_2, .int .i64 a0_3, .int .i64 a0_4, .slice A0_5 l0_5.length c0_5]) (t := 24) ?hr ?_; (case hd => rfl); (case hg => rfl); (case hr => first | (go_simp; done) | (go_simp; rfl)); intro gb114 hg w37 hbox hb; have n0_ := Aside0.mk (below_step (kb HB.out) hb); have n1_ := Aside0.mk (hbox); have n2_ := Aside0.mk ((kz hg (below_size (kb HB.out)) : w.heap.size ≤ gb114)); have n3_ := Aside0.mk ((kz hg (below_size (kb HB.out)) : w.heap.size ≤ gb114)); clear HB; have HB := n0_; have BK114 := n1_; have GW114 := n2_; have GE114 := n3_; clear n0_ n1_ n2_ n3_; clear hb hbox hg; obtain ⟨hcz38_0, hcz38_1, hcz38_2, hcz38_3, hcz38_4, hcz38_5⟩ := kc6 BK114.out; obtain ⟨hfz38_0, hfz38_1, hfz38_2, hfz38_3, hfz38_4, hfz38_5⟩ := kf6 BK114.out) | ((with_reducible refine gate_callee (f := 48) rfl ?_); refine goesL_ (some 6) rfl rfl Try.func48 (by kernel_rfl) rfl #[.int .i64 a0_0] rfl ka ?_; (with_reducible refine (answer_State.calls a0_0 true _ A2.out).mono ?_); rintro e w' ⟨rfl, ⟨nd, rfl⟩⟩; refine ⟨_, rfl, ?_⟩) | (go_at_call 49; (with_reducible refine (answer_Status.calls a0_1 true _ A4.out).mono ?_); rintro e w' ⟨rfl, ⟨nd, rfl⟩⟩))
  go_ret
  exact ⟨by first | rfl | (simp [errW_none, errW_some] <;> rfl) | (simp [*, errW_none, errW_some] <;> rfl), kb1 HB.out GE114.out⟩
 rw [if_pos c6] at H
 have c6b0 : decide (0 ≤ a0_2) = true := decide_eq_true c6
 clear c6
 by_cases c7 : a0_2 ≤ 16
 case neg =>
  rw [if_neg c7] at H
  have c7b0 : decide (a0_2 ≤ 16) = false := decide_eq_false c7
  clear c7
  obtain rfl := Option.some.inj H
  go_enter Try.func22, Try.ntmps22
  go_wp2_with (first | ((with_reducible refine gate_dst (N := 1) rfl ?_); (try (refine gate_guard (by rfl) ?_; dsimp only)); refine box_event ?hg (N := 1) ?hd (cs := #[.int .i64 a0_0, .int .i64 a0_1, .int .i64 a0_2, .int .i64 a0_3, .int .i64 a0_4, .slice A0_5 l0_5.length c0_5]) (t := 24) ?hr ?_; (case hd => rfl); (case hg => rfl); (case hr => first | (go_simp; done) | (go_simp; rfl)); intro gb114 hg w35 hbox hb; have n0_ := Aside0.mk (below_step (kb HB.out) hb); have n1_ := Aside0.mk (hbox); have n2_ := Aside0.mk ((kz hg (below_size (kb HB.out)) : w.heap.size ≤ gb114)); have n3_ := Aside0.mk ((kz hg (below_size (kb HB.out)) : w.heap.size ≤ gb114)); clear HB; have HB := n0_; have BK114 := n1_; have GW114 := n2_; have GE114 := n3_; clear n0_ n1_ n2_ n3_; clear hb hbox hg; obtain ⟨hcz36_0, hcz36_1, hcz36_2, hcz36_3, hcz36_4, hcz36_5⟩ := kc6 BK114.out; obtain ⟨hfz36_0, hfz36_1, hfz36_2, hfz36_3, hfz36_4, hfz36_5⟩ := kf6 BK114.out) | ((with_reducible refine gate_callee (f := 48) rfl ?_); refine goesL_ (some 6) rfl rfl Try.func48 (by kernel_rfl) rfl #[.int .i64 a0_0] rfl ka ?_; (with_reducible refine (answer_State.calls a0_0 true _ A2.out).mono ?_); rintro e w' ⟨rfl, ⟨nd, rfl⟩⟩; refine ⟨_, rfl, ?_⟩) | (go_at_call 49; (with_reducible refine (answer_Status.calls a0_1 true _ A4.out).mono ?_); rintro e w' ⟨rfl, ⟨nd, rfl⟩⟩))
  go_ret
  exact ⟨by first | rfl | (simp [errW_none, errW_some] <;> rfl) | (simp [*, errW_none, errW_some] <;> rfl), kb1 HB.out GE114.out⟩
 rw [if_pos c7] at H
 have c7b0 : decide (a0_2 ≤ 16) = true := decide_eq_true c7
 clear c7
 by_cases c8 : a0_3 = 0
 ·rw [if_pos c8] at H
  have c8b0 : (a0_3 == 0) = true := beq_iff_eq.mpr c8
  have c8b1 : (a0_3 != 0) = false := bne_eq_false_iff_eq.mpr c8
  clear c8
  replace H := Option.bind_eq_some_iff.mp H
  obtain ⟨t117, A90, H⟩ := H
  replace H : (if t117 = true then (if (l0_5.length : Int) ≤ 768 then ((slices_ContainsFunc_Op.f l0_5).bind fun t118 => (some (!t118))) else (some false)) else (some false)) = some r := H
  have A9 := Aside0.mk A90
  clear A90
  by_cases c10 : t117 = true
  case neg =>
   replace c10 := Bool.eq_false_iff.mpr c10
   subst c10
   have H1 : (some false) = some r := by rw [if_neg (show ¬ (false = true) by decide)] at H; exact H
   clear H; have H := H1; clear H1
   obtain rfl := Option.some.inj H
   go_enter Try.func22, Try.ntmps22
   go_wp2_with (first | ((with_reducible refine gate_dst (N := 1) rfl ?_); (try (refine gate_guard (by rfl) ?_; dsimp only)); refine box_event ?hg (N := 1) ?hd (cs := #[.int .i64 a0_0, .int .i64 a0_1, .int .i64 a0_2, .int .i64 a0_3, .int .i64 a0_4, .slice A0_5 l0_5.length c0_5]) (t := 24) ?hr ?_; (case hd => rfl); (case hg => rfl); (case hr => first | (go_simp; done) | (go_simp; rfl)); intro gb114 hg w18 hbox hb; have n0_ := Aside0.mk (below_step (kb HB.out) hb); have n1_ := Aside0.mk (hbox); have n2_ := Aside0.mk ((kz hg (below_size (kb HB.out)) : w.heap.size ≤ gb114)); have n3_ := Aside0.mk ((kz hg (below_size (kb HB.out)) : w.heap.size ≤ gb114)); clear HB; have HB := n0_; have BK114 := n1_; have GW114 := n2_; have GE114 := n3_; clear n0_ n1_ n2_ n3_; clear hb hbox hg; obtain ⟨hcz19_0, hcz19_1, hcz19_2, hcz19_3, hcz19_4, hcz19_5⟩ := kc6 BK114.out; obtain ⟨hfz19_0, hfz19_1, hfz19_2, hfz19_3, hfz19_4, hfz19_5⟩ := kf6 BK114.out) | ((with_reducible refine gate_callee (f := 48) rfl ?_); refine goesL_ (some 6) rfl rfl Try.func48 (by kernel_rfl) rfl #[.int .i64 a0_0] rfl ka ?_; (with_reducible refine (answer_State.calls a0_0 true _ A2.out).mono ?_); rintro e w' ⟨rfl, ⟨nd, rfl⟩⟩; refine ⟨_, rfl, ?_⟩) | (go_at_call 49; (with_reducible refine (answer_Status.calls a0_1 true _ A4.out).mono ?_); rintro e w' ⟨rfl, ⟨nd, rfl⟩⟩) | (go_at_call 51; (with_reducible refine (entry_Slot.calls a0_4 false _ A9.out).mono ?_); rintro e w' ⟨rfl, ⟨nd, rfl⟩⟩))
   go_ret
   exact ⟨by first | rfl | (simp [errW_none, errW_some] <;> rfl) | (simp [*, errW_none, errW_some] <;> rfl), kb1 HB.out GE114.out⟩
  subst c10
  have H1 : (if (l0_5.length : Int) ≤ 768 then ((slices_ContainsFunc_Op.f l0_5).bind fun t118 => (some (!t118))) else (some false)) = some r := by rw [if_pos rfl] at H; exact H
  clear H; have H := H1; clear H1
  by_cases c11 : (l0_5.length : Int) ≤ 768
  case neg =>
   rw [if_neg c11] at H
   have c11b0 : decide ((l0_5.length : Int) ≤ 768) = false := decide_eq_false c11
   have c11b1 : decide (l0_5.length ≤ 768) = false := decide_eq_false (by omega)
   clear c11
   obtain rfl := Option.some.inj H
   go_enter Try.func22, Try.ntmps22
   go_wp2_with (first | ((with_reducible refine gate_dst (N := 1) rfl ?_); (try (refine gate_guard (by rfl) ?_; dsimp only)); refine box_event ?hg (N := 1) ?hd (cs := #[.int .i64 a0_0, .int .i64 a0_1, .int .i64 a0_2, .int .i64 a0_3, .int .i64 a0_4, .slice A0_5 l0_5.length c0_5]) (t := 24) ?hr ?_; (case hd => rfl); (case hg => rfl); (case hr => first | (go_simp; done) | (go_simp; rfl)); intro gb114 hg w16 hbox hb; have n0_ := Aside0.mk (below_step (kb HB.out) hb); have n1_ := Aside0.mk (hbox); have n2_ := Aside0.mk ((kz hg (below_size (kb HB.out)) : w.heap.size ≤ gb114)); have n3_ := Aside0.mk ((kz hg (below_size (kb HB.out)) : w.heap.size ≤ gb114)); clear HB; have HB := n0_; have BK114 := n1_; have GW114 := n2_; have GE114 := n3_; clear n0_ n1_ n2_ n3_; clear hb hbox hg; obtain ⟨hcz17_0, hcz17_1, hcz17_2, hcz17_3, hcz17_4, hcz17_5⟩ := kc6 BK114.out; obtain ⟨hfz17_0, hfz17_1, hfz17_2, hfz17_3, hfz17_4, hfz17_5⟩ := kf6 BK114.out) | ((with_reducible refine gate_callee (f := 48) rfl ?_); refine goesL_ (some 6) rfl rfl Try.func48 (by kernel_rfl) rfl #[.int .i64 a0_0] rfl ka ?_; (with_reducible refine (answer_State.calls a0_0 true _ A2.out).mono ?_); rintro e w' ⟨rfl, ⟨nd, rfl⟩⟩; refine ⟨_, rfl, ?_⟩) | (go_at_call 49; (with_reducible refine (answer_Status.calls a0_1 true _ A4.out).mono ?_); rintro e w' ⟨rfl, ⟨nd, rfl⟩⟩) | (go_at_call 51; (with_reducible refine (entry_Slot.calls a0_4 true _ A9.out).mono ?_); rintro e w' ⟨rfl, ⟨nd, rfl⟩⟩))
   go_ret
   exact ⟨by first | rfl | (simp [errW_none, errW_some] <;> rfl) | (simp [*, errW_none, errW_some] <;> rfl), kb1 HB.out GE114.out⟩
  rw [if_pos c11] at H
  have c11b0 : decide ((l0_5.length : Int) ≤ 768) = true := decide_eq_true c11
  have c11b1 : decide (l0_5.length ≤ 768) = true := decide_eq_true (by omega)
  clear c11
  replace H := Option.bind_eq_some_iff.mp H
  obtain ⟨t118, A120, H⟩ := H
  replace H : (some (!t118)) = some r := H
  have A12 := Aside0.mk A120
  clear A120
  obtain rfl := Option.some.inj H
  go_enter Try.func22, Try.ntmps22
  go_wp2_with (first | ((with_reducible refine gate_dst (N := 1) rfl ?_); (try (refine gate_guard (by rfl) ?_; dsimp only)); refine box_event ?hg (N := 1) ?hd (cs := #[.int .i64 a0_0, .int .i64 a0_1, .int .i64 a0_2, .int .i64 a0_3, .int .i64 a0_4, .slice A0_5 l0_5.length c0_5]) (t := 24) ?hr ?_; (case hd => rfl); (case hg => rfl); (case hr => first | (go_simp; done) | (go_simp; rfl)); intro gb114 hg w13 hbox hb; have n0_ := Aside0.mk (below_step (kb HB.out) hb); have n1_ := Aside0.mk (hbox); have n2_ := Aside0.mk ((kz hg (below_size (kb HB.out)) : w.heap.size ≤ gb114)); have n3_ := Aside0.mk ((kz hg (below_size (kb HB.out)) : w.heap.size ≤ gb114)); clear HB; have HB := n0_; have BK114 := n1_; have GW114 := n2_; have GE114 := n3_; clear n0_ n1_ n2_ n3_; clear hb hbox hg; obtain ⟨hcz14_0, hcz14_1, hcz14_2, hcz14_3, hcz14_4, hcz14_5⟩ := kc6 BK114.out; obtain ⟨hfz14_0, hfz14_1, hfz14_2, hfz14_3, hfz14_4, hfz14_5⟩ := kf6 BK114.out) | ((with_reducible refine gate_callee (f := 48) rfl ?_); refine goesL_ (some 6) rfl rfl Try.func48 (by kernel_rfl) rfl #[.int .i64 a0_0] rfl ka ?_; (with_reducible refine (answer_State.calls a0_0 true _ A2.out).mono ?_); rintro e w' ⟨rfl, ⟨nd, rfl⟩⟩; refine ⟨_, rfl, ?_⟩) | (go_at_call 49; (with_reducible refine (answer_Status.calls a0_1 true _ A4.out).mono ?_); rintro e w' ⟨rfl, ⟨nd, rfl⟩⟩) | (go_at_call 51; (with_reducible refine (entry_Slot.calls a0_4 true _ A9.out).mono ?_); rintro e w' ⟨rfl, ⟨nd, rfl⟩⟩) | (go_at_call 52; (with_reducible refine (slices_ContainsFunc_Op.calls _ _ l0_5 t118 _ ?side1 ?side2 A12.out).mono ?_); (case side1 => repeat (first | exact (Kd.C_below HR0_5.out (kb1 HB.out GE114.out)) | (with_reducible refine Kd.C_alloc ?_ _) | (with_reducible refine Kd.C_drewN ?_ _) | (with_reducible refine Kd.C_drew ?_))); (case side2 => exact HC0_5.out); rintro e w15 ⟨rfl, hb⟩; have n0_ := Aside0.mk (kL BK114.out hb); have n1_ := Aside0.mk (below_step (kb1 HB.out GE114.out) hb); clear BK114; clear HB; have BK114 := n0_; have HB := n1_; clear n0_ n1_; (try clear hb); (try clear hb2); (try clear hk); (try clear hi)))
  go_ret
  exact ⟨by first | rfl | (simp [errW_none, errW_some] <;> rfl) | (simp [*, errW_none, errW_some] <;> rfl), kb1 HB.out GE114.out⟩
 ·rw [if_neg c8] at H
  have c8b0 : (a0_3 == 0) = false := beq_eq_false_iff_ne.mpr c8
  have c8b1 : (a0_3 != 0) = true := bne_iff_ne.mpr c8
  replace H := Option.bind_eq_some_iff.mp H
  obtain ⟨t119, A200, H⟩ := H
  replace H : (if t119 = true then ((entry_Slot.f a0_4).bind fun t120 => (if t120 = true then (if (l0_5.length : Int) ≤ 768 then ((slices_ContainsFunc_Op.f l0_5).bind fun t121 => (some (!t121))) else (some false)) else (some false))) else (some false)) = some r := H
  have A20 := Aside0.mk A200
  clear A200
  by_cases c21 : t119 = true
  case neg =>
   replace c21 := Bool.eq_false_iff.mpr c21
   subst c21
   have H1 : (some false) = some r := by rw [if_neg (show ¬ (false = true) by decide)] at H; exact H
   clear H; have H := H1; clear H1
   obtain rfl := Option.some.inj H
   go_enter Try.func22, Try.ntmps22
   go_wp2_with (first | ((with_reducible refine gate_dst (N := 1) rfl ?_); (try (refine gate_guard (by rfl) ?_; dsimp only)); refine box_event ?hg (N := 1) ?hd (cs := #[.int .i64 a0_0, .int .i64 a0_1, .int .i64 a0_2, .int .i64 a0_3, .int .i64 a0_4, .slice A0_5 l0_5.length c0_5]) (t := 24) ?hr ?_; (case hd => rfl); (case hg => rfl); (case hr => first | (go_simp; done) | (go_simp; rfl)); intro gb114 hg w33 hbox hb; have n0_ := Aside0.mk (below_step (kb HB.out) hb); have n1_ := Aside0.mk (hbox); have n2_ := Aside0.mk ((kz hg (below_size (kb HB.out)) : w.heap.size ≤ gb114)); have n3_ := Aside0.mk ((kz hg (below_size (kb HB.out)) : w.heap.size ≤ gb114)); clear HB; have HB := n0_; have BK114 := n1_; have GW114 := n2_; have GE114 := n3_; clear n0_ n1_ n2_ n3_; clear hb hbox hg; obtain ⟨hcz34_0, hcz34_1, hcz34_2, hcz34_3, hcz34_4, hcz34_5⟩ := kc6 BK114.out; obtain ⟨hfz34_0, hfz34_1, hfz34_2, hfz34_3, hfz34_4, hfz34_5⟩ := kf6 BK114.out) | ((with_reducible refine gate_callee (f := 48) rfl ?_); refine goesL_ (some 6) rfl rfl Try.func48 (by kernel_rfl) rfl #[.int .i64 a0_0] rfl ka ?_; (with_reducible refine (answer_State.calls a0_0 true _ A2.out).mono ?_); rintro e w' ⟨rfl, ⟨nd, rfl⟩⟩; refine ⟨_, rfl, ?_⟩) | (go_at_call 49; (with_reducible refine (answer_Status.calls a0_1 true _ A4.out).mono ?_); rintro e w' ⟨rfl, ⟨nd, rfl⟩⟩) | (go_at_call 50; (with_reducible refine (entry_Size.calls a0_3 false _ A20.out).mono ?_); rintro e w' ⟨rfl, ⟨nd, rfl⟩⟩))
   go_ret
   exact ⟨by first | rfl | (simp [errW_none, errW_some] <;> rfl) | (simp [*, errW_none, errW_some] <;> rfl), kb1 HB.out GE114.out⟩
  subst c21
  have H1 : ((entry_Slot.f a0_4).bind fun t120 => (if t120 = true then (if (l0_5.length : Int) ≤ 768 then ((slices_ContainsFunc_Op.f l0_5).bind fun t121 => (some (!t121))) else (some false)) else (some false))) = some r := by rw [if_pos rfl] at H; exact H
  clear H; have H := H1; clear H1
  replace H := Option.bind_eq_some_iff.mp H
  obtain ⟨t120, A220, H⟩ := H
  replace H : (if t120 = true then (if (l0_5.length : Int) ≤ 768 then ((slices_ContainsFunc_Op.f l0_5).bind fun t121 => (some (!t121))) else (some false)) else (some false)) = some r := H
  have A22 := Aside0.mk A220
  clear A220
  by_cases c23 : t120 = true
  case neg =>
   replace c23 := Bool.eq_false_iff.mpr c23
   subst c23
   have H1 : (some false) = some r := by rw [if_neg (show ¬ (false = true) by decide)] at H; exact H
   clear H; have H := H1; clear H1
   obtain rfl := Option.some.inj H
   go_enter Try.func22, Try.ntmps22
   go_wp2_with (first | ((with_reducible refine gate_dst (N := 1) rfl ?_); (try (refine gate_guard (by rfl) ?_; dsimp only)); refine box_event ?hg (N := 1) ?hd (cs := #[.int .i64 a0_0, .int .i64 a0_1, .int .i64 a0_2, .int .i64 a0_3, .int .i64 a0_4, .slice A0_5 l0_5.length c0_5]) (t := 24) ?hr ?_; (case hd => rfl); (case hg => rfl); (case hr => first | (go_simp; done) | (go_simp; rfl)); intro gb114 hg w31 hbox hb; have n0_ := Aside0.mk (below_step (kb HB.out) hb); have n1_ := Aside0.mk (hbox); have n2_ := Aside0.mk ((kz hg (below_size (kb HB.out)) : w.heap.size ≤ gb114)); have n3_ := Aside0.mk ((kz hg (below_size (kb HB.out)) : w.heap.size ≤ gb114)); clear HB; have HB := n0_; have BK114 := n1_; have GW114 := n2_; have GE114 := n3_; clear n0_ n1_ n2_ n3_; clear hb hbox hg; obtain ⟨hcz32_0, hcz32_1, hcz32_2, hcz32_3, hcz32_4, hcz32_5⟩ := kc6 BK114.out; obtain ⟨hfz32_0, hfz32_1, hfz32_2, hfz32_3, hfz32_4, hfz32_5⟩ := kf6 BK114.out) | ((with_reducible refine gate_callee (f := 48) rfl ?_); refine goesL_ (some 6) rfl rfl Try.func48 (by kernel_rfl) rfl #[.int .i64 a0_0] rfl ka ?_; (with_reducible refine (answer_State.calls a0_0 true _ A2.out).mono ?_); rintro e w' ⟨rfl, ⟨nd, rfl⟩⟩; refine ⟨_, rfl, ?_⟩) | (go_at_call 49; (with_reducible refine (answer_Status.calls a0_1 true _ A4.out).mono ?_); rintro e w' ⟨rfl, ⟨nd, rfl⟩⟩) | (go_at_call 50; (with_reducible refine (entry_Size.calls a0_3 true _ A20.out).mono ?_); rintro e w' ⟨rfl, ⟨nd, rfl⟩⟩) | (go_at_call 51; (with_reducible refine (entry_Slot.calls a0_4 false _ A22.out).mono ?_); rintro e w' ⟨rfl, ⟨nd, rfl⟩⟩))
   go_ret
   exact ⟨by first | rfl | (simp [errW_none, errW_some] <;> rfl) | (simp [*, errW_none, errW_some] <;> rfl), kb1 HB.out GE114.out⟩
  subst c23
  have H1 : (if (l0_5.length : Int) ≤ 768 then ((slices_ContainsFunc_Op.f l0_5).bind fun t121 => (some (!t121))) else (some false)) = some r := by rw [if_pos rfl] at H; exact H
  clear H; have H := H1; clear H1
  by_cases c24 : (l0_5.length : Int) ≤ 768
  case neg =>
   rw [if_neg c24] at H
   have c24b0 : decide ((l0_5.length : Int) ≤ 768) = false := decide_eq_false c24
   have c24b1 : decide (l0_5.length ≤ 768) = false := decide_eq_false (by omega)
   clear c24
   obtain rfl := Option.some.inj H
   go_enter Try.func22, Try.ntmps22
   go_wp2_with (first | ((with_reducible refine gate_dst (N := 1) rfl ?_); (try (refine gate_guard (by rfl) ?_; dsimp only)); refine box_event ?hg (N := 1) ?hd (cs := #[.int .i64 a0_0, .int .i64 a0_1, .int .i64 a0_2, .int .i64 a0_3, .int .i64 a0_4, .slice A0_5 l0_5.length c0_5]) (t := 24) ?hr ?_; (case hd => rfl); (case hg => rfl); (case hr => first | (go_simp; done) | (go_simp; rfl)); intro gb114 hg w29 hbox hb; have n0_ := Aside0.mk (below_step (kb HB.out) hb); have n1_ := Aside0.mk (hbox); have n2_ := Aside0.mk ((kz hg (below_size (kb HB.out)) : w.heap.size ≤ gb114)); have n3_ := Aside0.mk ((kz hg (below_size (kb HB.out)) : w.heap.size ≤ gb114)); clear HB; have HB := n0_; have BK114 := n1_; have GW114 := n2_; have GE114 := n3_; clear n0_ n1_ n2_ n3_; clear hb hbox hg; obtain ⟨hcz30_0, hcz30_1, hcz30_2, hcz30_3, hcz30_4, hcz30_5⟩ := kc6 BK114.out; obtain ⟨hfz30_0, hfz30_1, hfz30_2, hfz30_3, hfz30_4, hfz30_5⟩ := kf6 BK114.out) | ((with_reducible refine gate_callee (f := 48) rfl ?_); refine goesL_ (some 6) rfl rfl Try.func48 (by kernel_rfl) rfl #[.int .i64 a0_0] rfl ka ?_; (with_reducible refine (answer_State.calls a0_0 true _ A2.out).mono ?_); rintro e w' ⟨rfl, ⟨nd, rfl⟩⟩; refine ⟨_, rfl, ?_⟩) | (go_at_call 49; (with_reducible refine (answer_Status.calls a0_1 true _ A4.out).mono ?_); rintro e w' ⟨rfl, ⟨nd, rfl⟩⟩) | (go_at_call 50; (with_reducible refine (entry_Size.calls a0_3 true _ A20.out).mono ?_); rintro e w' ⟨rfl, ⟨nd, rfl⟩⟩) | (go_at_call 51; (with_reducible refine (entry_Slot.calls a0_4 true _ A22.out).mono ?_); rintro e w' ⟨rfl, ⟨nd, rfl⟩⟩))
   go_ret
   exact ⟨by first | rfl | (simp [errW_none, errW_some] <;> rfl) | (simp [*, errW_none, errW_some] <;> rfl), kb1 HB.out GE114.out⟩
  rw [if_pos c24] at H
  have c24b0 : decide ((l0_5.length : Int) ≤ 768) = true := decide_eq_true c24
  have c24b1 : decide (l0_5.length ≤ 768) = true := decide_eq_true (by omega)
  clear c24
  replace H := Option.bind_eq_some_iff.mp H
  obtain ⟨t121, A250, H⟩ := H
  replace H : (some (!t121)) = some r := H
  have A25 := Aside0.mk A250
  clear A250
  obtain rfl := Option.some.inj H
  go_enter Try.func22, Try.ntmps22
  go_wp2_with (first | ((with_reducible refine gate_dst (N := 1) rfl ?_); (try (refine gate_guard (by rfl) ?_; dsimp only)); refine box_event ?hg (N := 1) ?hd (cs := #[.int .i64 a0_0, .int .i64 a0_1, .int .i64 a0_2, .int .i64 a0_3, .int .i64 a0_4, .slice A0_5 l0_5.length c0_5]) (t := 24) ?hr ?_; (case hd => rfl); (case hg => rfl); (case hr => first | (go_simp; done) | (go_simp; rfl)); intro gb114 hg w26 hbox hb; have n0_ := Aside0.mk (below_step (kb HB.out) hb); have n1_ := Aside0.mk (hbox); have n2_ := Aside0.mk ((kz hg (below_size (kb HB.out)) : w.heap.size ≤ gb114)); have n3_ := Aside0.mk ((kz hg (below_size (kb HB.out)) : w.heap.size ≤ gb114)); clear HB; have HB := n0_; have BK114 := n1_; have GW114 := n2_; have GE114 := n3_; clear n0_ n1_ n2_ n3_; clear hb hbox hg; obtain ⟨hcz27_0, hcz27_1, hcz27_2, hcz27_3, hcz27_4, hcz27_5⟩ := kc6 BK114.out; obtain ⟨hfz27_0, hfz27_1, hfz27_2, hfz27_3, hfz27_4, hfz27_5⟩ := kf6 BK114.out) | ((with_reducible refine gate_callee (f := 48) rfl ?_); refine goesL_ (some 6) rfl rfl Try.func48 (by kernel_rfl) rfl #[.int .i64 a0_0] rfl ka ?_; (with_reducible refine (answer_State.calls a0_0 true _ A2.out).mono ?_); rintro e w' ⟨rfl, ⟨nd, rfl⟩⟩; refine ⟨_, rfl, ?_⟩) | (go_at_call 49; (with_reducible refine (answer_Status.calls a0_1 true _ A4.out).mono ?_); rintro e w' ⟨rfl, ⟨nd, rfl⟩⟩) | (go_at_call 50; (with_reducible refine (entry_Size.calls a0_3 true _ A20.out).mono ?_); rintro e w' ⟨rfl, ⟨nd, rfl⟩⟩) | (go_at_call 51; (with_reducible refine (entry_Slot.calls a0_4 true _ A22.out).mono ?_); rintro e w' ⟨rfl, ⟨nd, rfl⟩⟩) | (go_at_call 52; (with_reducible refine (slices_ContainsFunc_Op.calls _ _ l0_5 t121 _ ?side1 ?side2 A25.out).mono ?_); (case side1 => repeat (first | exact (Kd.C_below HR0_5.out (kb1 HB.out GE114.out)) | (with_reducible refine Kd.C_alloc ?_ _) | (with_reducible refine Kd.C_drewN ?_ _) | (with_reducible refine Kd.C_drew ?_))); (case side2 => exact HC0_5.out); rintro e w28 ⟨rfl, hb⟩; have n0_ := Aside0.mk (kL BK114.out hb); have n1_ := Aside0.mk (below_step (kb1 HB.out GE114.out) hb); clear BK114; clear HB; have BK114 := n0_; have HB := n1_; clear n0_ n1_; (try clear hb); (try clear hb2); (try clear hk); (try clear hi)))
  go_ret
  exact ⟨by first | rfl | (simp [errW_none, errW_some] <;> rfl) | (simp [*, errW_none, errW_some] <;> rfl), kb1 HB.out GE114.out⟩

/-! ### setup_Value: function 23 -/
def setup_Value.f (a0 : Int) : Option (Bool) := if a0 ≥ 0 then (some (decide (a0 ≤ 65535))) else (some false)
set_option maxHeartbeats 8000000 in
set_option maxRecDepth 100000 in
theorem setup_Value.calls (a0 : Int) (r : Bool) (w : World) (h : setup_Value.f a0 = some r) :
  Calls Try.prog 23 #[.int .i64 a0] w fun e w' => e = .returned (.bool r) ∧ Drawn0 w w' := by
 have H : (if a0 ≥ 0 then (some (decide (a0 ≤ 65535))) else (some false)) = some r := h
 clear h
 by_cases c2 : a0 ≥ 0
 case neg =>
  rw [if_neg c2] at H
  have c2b0 : decide (0 ≤ a0) = false := decide_eq_false c2
  clear c2
  obtain rfl := Option.some.inj H
  go_enter Try.func23, Try.ntmps23
  go_wp2
  go_ret
  exact ⟨by first | rfl | (simp; done) | (simp [*]; done), by repeat (first | exact Drawn0.refl _ | apply Drawn0.step)⟩
 rw [if_pos c2] at H
 have c2b0 : decide (0 ≤ a0) = true := decide_eq_true c2
 clear c2
 obtain rfl := Option.some.inj H
 go_enter Try.func23, Try.ntmps23
 go_wp2
 go_ret
 exact ⟨by first | rfl | (simp; done) | (simp [*]; done), by repeat (first | exact Drawn0.refl _ | apply Drawn0.step)⟩

/-! ### setup_Length: function 24 -/
def setup_Length.f (a0 : Int) : Option (Bool) := if a0 ≥ 0 then (some (decide (a0 ≤ 32))) else (some false)
set_option maxHeartbeats 8000000 in
set_option maxRecDepth 100000 in
theorem setup_Length.calls (a0 : Int) (r : Bool) (w : World) (h : setup_Length.f a0 = some r) :
  Calls Try.prog 24 #[.int .i64 a0] w fun e w' => e = .returned (.bool r) ∧ Drawn0 w w' := by
 have H : (if a0 ≥ 0 then (some (decide (a0 ≤ 32))) else (some false)) = some r := h
 clear h
 by_cases c2 : a0 ≥ 0
 case neg =>
  rw [if_neg c2] at H
  have c2b0 : decide (0 ≤ a0) = false := decide_eq_false c2
  clear c2
  obtain rfl := Option.some.inj H
  go_enter Try.func24, Try.ntmps24
  go_wp2
  go_ret
  exact ⟨by first | rfl | (simp; done) | (simp [*]; done), by repeat (first | exact Drawn0.refl _ | apply Drawn0.step)⟩
 rw [if_pos c2] at H
 have c2b0 : decide (0 ≤ a0) = true := decide_eq_true c2
 clear c2
 obtain rfl := Option.some.inj H
 go_enter Try.func24, Try.ntmps24
 go_wp2
 go_ret
 exact ⟨by first | rfl | (simp; done) | (simp [*]; done), by repeat (first | exact Drawn0.refl _ | apply Drawn0.step)⟩

/-! ### entry_Get: function 73 -/
def entry_Get.f (a0 : ByteArray) : Option (Int × Int × Int × Int × Int) := some (Skiff.getTup (Skiff.bl a0))
theorem entry_Get.calls (a0 : ByteArray) (r1 : Int) (r2 : Int) (r3 : Int) (r4 : Int) (r5 : Int) (w : World) (h : entry_Get.f a0 = some (r1, r2, r3, r4, r5)) :
  Calls Try.prog 73 #[.string a0] w fun e w' => e = .returned (.tuple #[.agg #[.int .i64 r1, .int .i64 r2, .int .i64 r3, .int .i64 r4], .int .i64 r5]) ∧ Below w.heap.size w w' :=
 Go.Proofs.Ytmidohjfajbpmaa.g_entry_Get a0 r1 r2 r3 r4 r5 w h

/-! ### journal_at: function 74 -/
def journal_at.f (a0 : ByteArray) (a1 : Int) : Option (ByteArray) := if 0 ≤ a1 then (if a1 ≤ (wrap64 (a1 + 24)) then (if (wrap64 (a1 + 24)) ≤ (a0.size : Int) then (some (a0.extract (a1 : Int).toNat ((wrap64 (a1 + 24)) : Int).toNat)) else (none)) else (none)) else (none)
set_option maxHeartbeats 8000000 in
set_option maxRecDepth 100000 in
theorem journal_at.calls (a0 : ByteArray) (a1 : Int) (r : ByteArray) (w : World) (h : journal_at.f a0 a1 = some r) :
  Calls Try.prog 74 #[.string a0, .int .i64 a1] w fun e w' => e = .returned (.string r) ∧ Drawn0 w w' := by
 have H : (if 0 ≤ a1 then (if a1 ≤ (wrap64 (a1 + 24)) then (if (wrap64 (a1 + 24)) ≤ (a0.size : Int) then (some (a0.extract (a1 : Int).toNat ((wrap64 (a1 + 24)) : Int).toNat)) else (none)) else (none)) else (none)) = some r := h
 clear h
 by_cases c3 : 0 ≤ a1
 case neg =>
  rw [if_neg c3] at H
  exact absurd H (by simp)
 rw [if_pos c3] at H
 have c3b0 := eq_true c3
 have c3b1 : decide (0 ≤ a1) = true := decide_eq_true c3
 clear c3
 by_cases c4 : a1 ≤ (wrap64 (a1 + 24))
 case neg =>
  rw [if_neg c4] at H
  exact absurd H (by simp)
 rw [if_pos c4] at H
 have c4b0 := eq_true c4
 have c4b1 : decide (a1 ≤ (wrap64 (a1 + 24))) = true := decide_eq_true c4
 by_cases c5 : (wrap64 (a1 + 24)) ≤ (a0.size : Int)
 case neg =>
  rw [if_neg c5] at H
  exact absurd H (by simp)
 rw [if_pos c5] at H
 have c5b0 := eq_true c5
 have c5b1 : decide ((wrap64 (a1 + 24)) ≤ (a0.size : Int)) = true := decide_eq_true c5
 obtain rfl := Option.some.inj H
 go_enter Try.func74, Try.ntmps74
 go_wp2
 go_ret
 exact ⟨by first | rfl | (simp; done) | (simp [*]; done), by repeat (first | exact Drawn0.refl _ | apply Drawn0.step)⟩

/-! ### journal_Scan: function 53 -/
def journal_Scan.l0 : Nat → ByteArray → List (S43) → Int → Option ((List (S43)) × Int)
 | 0, _, _, _ => none
 | k + 1, x0, x4, x12 => if x12 < 8 then ((journal_at.f x0 (wrap64 (x12 * 24))).bind fun t123 => ((entry_Get.f t123).bind fun bt124 => (if bt124.2.2.2.2 = 0 then (if x4.length < 3518437208883 then (journal_Scan.l0 k x0 (x4 ++ [(⟨wrap64 (x12 * 24), (⟨bt124.1, bt124.2.1, bt124.2.2.1, bt124.2.2.2.1⟩ : S41)⟩ : S43)]) (wrap64 (x12 + 1))) else (none)) else (journal_Scan.l0 k x0 x4 (wrap64 (x12 + 1)))))) else (some (x4, 0))
def journal_Scan.f (k : Nat) (a0 : ByteArray) : Option ((List (S43)) × Int) := (nor_May.f a0).bind fun t122 => (if t122 = true then (journal_Scan.l0 k a0 ([] : List (S43)) 0) else (some (([] : List (S43)), 500)))
set_option maxHeartbeats 8000000 in
set_option maxRecDepth 100000 in
theorem journal_Scan.calls (k : Nat) (a0 : ByteArray) (r1 : List (S43)) (r2 : Int) (w : World) (h : journal_Scan.f k a0 = some (r1, r2)) :
  Calls Try.prog 53 #[.string a0] w fun e w' => ∃ v0_ : Value, e = .returned (.tuple #[v0_, .int .i64 r2]) ∧ Kd.R k43 43 w' w.heap.size (fun _ => True) v0_ r1 ∧ Below w.heap.size w w' := by
 have hu41 := Try.underlying41
 have hu43 := Try.underlying43
 have HB := Aside0.mk (Below.refl w.heap.size w)
 have H : ((nor_May.f a0).bind fun t122 => (if t122 = true then (journal_Scan.l0 k a0 ([] : List (S43)) 0) else (some (([] : List (S43)), 500)))) = some (r1, r2) := h
 clear h
 replace H := Option.bind_eq_some_iff.mp H
 obtain ⟨t122, A20, H⟩ := H
 replace H : (if t122 = true then (journal_Scan.l0 k a0 ([] : List (S43)) 0) else (some (([] : List (S43)), 500))) = some (r1, r2) := H
 have A2 := Aside0.mk A20
 clear A20
 by_cases c3 : t122 = true
 ·subst c3
  have H1 : (journal_Scan.l0 k a0 ([] : List (S43)) 0) = some (r1, r2) := by rw [if_pos rfl] at H; exact H
  clear H; have H := H1; clear H1
  have H' := Aside0.mk H
  clear H
  go_enter Try.func53, Try.ntmps53
  go_wp2_with (first | ((with_reducible refine gate_callee (f := 21) rfl ?_); refine goesL_ (some 10) rfl rfl Try.func21 (by kernel_rfl) rfl #[.string a0] rfl ka ?_; (with_reducible refine (nor_May.calls a0 true _ A2.out).mono ?_); rintro e w' ⟨rfl, ⟨nd, rfl⟩⟩; refine ⟨_, rfl, ?_⟩))
  go_loopg [4, 12] k (fun kq v4 v12 w' => ∃ (x4_1 : List (S43)) (x12_1 : Int), v12 = .int .i64 x12_1 ∧ Aside0 (journal_Scan.l0 kq a0 x4_1 x12_1 = some (r1, r2)) ∧ Aside0 (kq ≤ k) ∧ Aside0 (Kd.R k43 43 w' w.heap.size (fun _ => True) v4 x4_1) ∧ Aside0 (Below w.heap.size w w'))
  case atStart => exact ⟨(([] : List (S43))), (0), (by first | rfl | (simp; done) | (simp [*]; done)), H', ⟨Nat.le_refl _⟩, ⟨by first | exact Kd.R_nil _ _ _ _ _ | exact Kd.N_nil _ _ _ _ _ | exact Kd.V_nil _ _ _ _ _ | exact Kd.Q_nil _ _ _ _ _ | exact Kd.S_nil _ _ _ _ _⟩, ⟨kb HB.out⟩⟩
  case round =>
   clear H'
   try clear c2; try clear p2; try clear c3
   obtain ⟨x4_1, x12_1, rfl, HA, HK1, HO_4, HB⟩ := hrel
   cases gk with
   | zero => exact absurd HA.out (by simp [journal_Scan.l0])
   | succ k1 =>
    have H := HA.out
    clear HA
    simp only [journal_Scan.l0] at H
    by_cases c4 : x12_1 < 8
    case neg =>
     rw [if_neg c4] at H
     have c4b0 : decide (x12_1 < 8) = false := decide_eq_false c4
     clear c4
     simp only [Option.some.injEq, Prod.mk.injEq] at H
     obtain ⟨rfl, rfl⟩ := H
     go_wp2
     go_ret2
     exact ⟨_, by first | rfl | (simp [errW_none, errW_some] <;> rfl) | (simp [*, errW_none, errW_some] <;> rfl), kR HO_4.out, kb HB.out⟩
    rw [if_pos c4] at H
    have c4b0 : decide (x12_1 < 8) = true := decide_eq_true c4
    clear c4
    replace H := Option.bind_eq_some_iff.mp H
    obtain ⟨t123, A50, H⟩ := H
    replace H : ((entry_Get.f t123).bind fun bt124 => (if bt124.2.2.2.2 = 0 then (if x4_1.length < 3518437208883 then (journal_Scan.l0 k1 a0 (x4_1 ++ [(⟨wrap64 (x12_1 * 24), (⟨bt124.1, bt124.2.1, bt124.2.2.1, bt124.2.2.2.1⟩ : S41)⟩ : S43)]) (wrap64 (x12_1 + 1))) else (none)) else (journal_Scan.l0 k1 a0 x4_1 (wrap64 (x12_1 + 1))))) = some (r1, r2) := H
    have A5 := Aside0.mk A50
    clear A50
    replace H := Option.bind_eq_some_iff.mp H
    obtain ⟨⟨t124, t125, t126, t127, t128⟩, A60, H⟩ := H
    replace H : (if t128 = 0 then (if x4_1.length < 3518437208883 then (journal_Scan.l0 k1 a0 (x4_1 ++ [(⟨wrap64 (x12_1 * 24), (⟨t124, t125, t126, t127⟩ : S41)⟩ : S43)]) (wrap64 (x12_1 + 1))) else (none)) else (journal_Scan.l0 k1 a0 x4_1 (wrap64 (x12_1 + 1)))) = some (r1, r2) := H
    have A6 := Aside0.mk A60
    clear A60
    by_cases c7 : t128 = 0
    case neg =>
     rw [if_neg c7] at H
     have c7b0 : (t128 == 0) = false := beq_eq_false_iff_ne.mpr c7
     have c7b1 : (t128 != 0) = true := bne_iff_ne.mpr c7
     have H' := Aside0.mk H
     clear H
     go_wp2_with (first | ((with_reducible refine gate_callee (f := 74) rfl ?_); refine goesL_ (some 20) rfl rfl Try.func74 (by kernel_rfl) rfl #[.string a0, .int .i64 (wrap64 (x12_1 * 24))] rfl ka ?_; (with_reducible refine (journal_at.calls a0 (wrap64 (x12_1 * 24)) t123 _ A5.out).mono ?_); rintro e w' ⟨rfl, ⟨nd, rfl⟩⟩; refine ⟨_, rfl, ?_⟩; (try (rw [drewN_self wr]; generalize hq_ : World.drewN wr _ = wr; have n0_ : Aside0 (Kd.R k43 43 wr w.heap.size (fun _ => True) u4 x4_1) := ⟨by rw [← hq_]; exact (kR HO_4.out)⟩; have n1_ : Aside0 (Below w.heap.size w wr) := ⟨by rw [← hq_]; exact (kb HB.out)⟩; clear HO_4 HB hq_; have HO_4 := n0_; have HB := n1_; clear n0_ n1_))) | ((with_reducible refine gate_callee (f := 73) rfl ?_); refine goesL_ (some 21) rfl rfl Try.func73 (by kernel_rfl) rfl #[.string t123] rfl ka ?_; (with_reducible refine (entry_Get.calls t123 t124 t125 t126 t127 t128 _ A6.out).mono ?_); rintro e w13 ⟨rfl, hb⟩; refine ⟨_, rfl, ?_⟩; have n0_ := Aside0.mk (Kd.R_below (kR HO_4.out) hb); have n1_ := Aside0.mk (below_step (kb HB.out) hb); clear HO_4; clear HB; have HO_4 := n0_; have HB := n1_; clear n0_ n1_; (try clear hb); (try clear hb2); (try clear hk); (try clear hi)) | ((with_reducible refine gate_dst (N := 7) rfl ?_); refine box_event ?hg (N := 7) ?hd (cs := #[.int .i64 0, .int .i64 0, .int .i64 0, .int .i64 0]) (t := 41) ?hr ?_; (case hd => rfl); (case hg => rfl); (case hr => first | (go_simp; done) | (go_simp; rfl)); intro gb129 hg w14 hbox hb; have n0_ := Aside0.mk (Kd.R_below (kR HO_4.out) hb); have n1_ := Aside0.mk (below_step (kb HB.out) hb); have n2_ := Aside0.mk (hbox); have n3_ := Aside0.mk ((kz hg (below_size (kb HB.out)) : w.heap.size ≤ gb129)); have n4_ := Aside0.mk ((kz hg (below_size (kb HB.out)) : w.heap.size ≤ gb129)); clear HO_4; clear HB; have HO_4 := n0_; have HB := n1_; have BK129 := n2_; have GW129 := n3_; have GE129 := n4_; clear n0_ n1_ n2_ n3_ n4_; clear hb hbox hg; obtain ⟨hcz15_0, hcz15_1, hcz15_2, hcz15_3⟩ := kc4 BK129.out; obtain ⟨hfz15_0, hfz15_1, hfz15_2, hfz15_3⟩ := kf4 BK129.out))
     go_roundg k1
     case measure => have := HK1.out; omega
     case rel => exact ⟨(x4_1), (wrap64 (x12_1 + 1)), (by first | rfl | (simp; done) | (simp [*]; done)), H', ⟨by have := HK1.out; omega⟩, ⟨by (with_reducible repeat (first | apply Kd.R_alloc | apply Kd.R_drewN | apply Kd.R_drew)); exact Kd.R_mono (Kd.R_far (p := ⟨gb129, 3, none⟩) (Kd.R_far (p := ⟨gb129, 2, none⟩) (Kd.R_far (p := ⟨gb129, 1, none⟩) (Kd.R_far (p := ⟨gb129, 0, none⟩) (Kd.R_types HO_4.out BK129.out (by decide)) (fun _ hk => hk.2) (.int .i64 t124)) (fun _ hk => hk.2) (.int .i64 t125)) (fun _ hk => hk.2) (.int .i64 t126)) (fun _ hk => hk.2) (.int .i64 t127)) (fun _ hk => trivial)⟩, ⟨kb1 HB.out GE129.out⟩⟩
    rw [if_pos c7] at H
    have c7b0 : (t128 == 0) = true := beq_iff_eq.mpr c7
    have c7b1 : (t128 != 0) = false := bne_eq_false_iff_eq.mpr c7
    clear c7
    by_cases c8 : x4_1.length < 3518437208883
    case neg =>
     rw [if_neg c8] at H
     exact absurd H (by simp)
    rw [if_pos c8] at H
    have LMc8 := Aside0.mk c8
    clear c8
    obtain ⟨y130, hy130⟩ : ∃ y_ : List (S43), y_ = (x4_1 ++ [(⟨wrap64 (x12_1 * 24), (⟨t124, t125, t126, t127⟩ : S41)⟩ : S43)]) := ⟨_, rfl⟩
    replace H : (journal_Scan.l0 k1 a0 y130 (wrap64 (x12_1 + 1))) = some (r1, r2) := by first | (rw [hy130]; with_reducible exact H) | (have H2_ := (Option.bind_some _ _).symm.trans H; rw [hy130]; with_reducible exact H2_) | (have H2_ := (Option.bind_some _ _).symm.trans H; with_reducible exact H2_) | with_reducible exact H | (rw [hy130]; exact H) | exact H
    have Ny130 := Aside0.mk hy130
    clear hy130
    have H' := Aside0.mk H
    clear H
    go_wp2_with (first | ((with_reducible refine gate_callee (f := 74) rfl ?_); refine goesL_ (some 20) rfl rfl Try.func74 (by kernel_rfl) rfl #[.string a0, .int .i64 (wrap64 (x12_1 * 24))] rfl ka ?_; (with_reducible refine (journal_at.calls a0 (wrap64 (x12_1 * 24)) t123 _ A5.out).mono ?_); rintro e w' ⟨rfl, ⟨nd, rfl⟩⟩; refine ⟨_, rfl, ?_⟩; (try (rw [drewN_self wr]; generalize hq_ : World.drewN wr _ = wr; have n0_ : Aside0 (Kd.R k43 43 wr w.heap.size (fun _ => True) u4 x4_1) := ⟨by rw [← hq_]; exact (kR HO_4.out)⟩; have n1_ : Aside0 (Below w.heap.size w wr) := ⟨by rw [← hq_]; exact (kb HB.out)⟩; clear HO_4 HB hq_; have HO_4 := n0_; have HB := n1_; clear n0_ n1_))) | ((with_reducible refine gate_callee (f := 73) rfl ?_); refine goesL_ (some 21) rfl rfl Try.func73 (by kernel_rfl) rfl #[.string t123] rfl ka ?_; (with_reducible refine (entry_Get.calls t123 t124 t125 t126 t127 t128 _ A6.out).mono ?_); rintro e w9 ⟨rfl, hb⟩; refine ⟨_, rfl, ?_⟩; have n0_ := Aside0.mk (Kd.R_below (kR HO_4.out) hb); have n1_ := Aside0.mk (below_step (kb HB.out) hb); clear HO_4; clear HB; have HO_4 := n0_; have HB := n1_; clear n0_ n1_; (try clear hb); (try clear hb2); (try clear hk); (try clear hi)) | ((with_reducible refine gate_dst (N := 7) rfl ?_); refine box_event ?hg (N := 7) ?hd (cs := #[.int .i64 0, .int .i64 0, .int .i64 0, .int .i64 0]) (t := 41) ?hr ?_; (case hd => rfl); (case hg => rfl); (case hr => first | (go_simp; done) | (go_simp; rfl)); intro gb129 hg w10 hbox hb; have n0_ := Aside0.mk (Kd.R_below (kR HO_4.out) hb); have n1_ := Aside0.mk (below_step (kb HB.out) hb); have n2_ := Aside0.mk (hbox); have n3_ := Aside0.mk ((kz hg (below_size (kb HB.out)) : w.heap.size ≤ gb129)); have n4_ := Aside0.mk ((kz hg (below_size (kb HB.out)) : w.heap.size ≤ gb129)); clear HO_4; clear HB; have HO_4 := n0_; have HB := n1_; have BK129 := n2_; have GW129 := n3_; have GE129 := n4_; clear n0_ n1_ n2_ n3_ n4_; clear hb hbox hg; obtain ⟨hcz11_0, hcz11_1, hcz11_2, hcz11_3⟩ := kc4 BK129.out; obtain ⟨hfz11_0, hfz11_1, hfz11_2, hfz11_3⟩ := kf4 BK129.out) | ((with_reducible refine gate_builtin (b := .append) (xs := #[.tmp 26, .tmp 30]) rfl ?_); at_builtin; refine Kd.R_append k43 (w0 := w) w.heap.size rfl (.tmp 26) (.tmp 30) 72 43 (.agg #[(.int .i64 0), (.int .i64 0), (.int .i64 0), (.int .i64 0), (.int .i64 0)]) 40 rfl Try.underlying72 info43 rfl (by decide) (by omega) u4 x4_1 (⟨wrap64 (x12_1 * 24), (⟨t124, t125, t126, t127⟩ : S41)⟩ : S43) [.int .i64 (wrap64 (x12_1 * 24)), .int .i64 t124, .int .i64 t125, .int .i64 t126, .int .i64 t127] (fun _ => True) (fun _ => False) rfl (by first | (go_simp; done) | (go_simp; rfl)) ?aP (fun _ hk => hk.elim) ?aF ?aO ?aB ?aS ?aL ?_; (case aP => exact k43_mkM _ _ _ (⟨wrap64 (x12_1 * 24), (⟨t124, t125, t126, t127⟩ : S41)⟩ : S43)); (case aB => exact (kb1 HB.out GE129.out)); (case aF => exact (fun _ _ => trivial)); (case aO => exact (by (with_reducible repeat (first | apply Kd.R_alloc | apply Kd.R_drewN | apply Kd.R_drew)); exact Kd.R_mono (Kd.R_far (p := ⟨gb129, 3, none⟩) (Kd.R_far (p := ⟨gb129, 2, none⟩) (Kd.R_far (p := ⟨gb129, 1, none⟩) (Kd.R_far (p := ⟨gb129, 0, none⟩) (Kd.R_types HO_4.out BK129.out (by decide)) (fun _ hk => hk.2) (.int .i64 t124)) (fun _ hk => hk.2) (.int .i64 t125)) (fun _ hk => hk.2) (.int .i64 t126)) (fun _ hk => hk.2) (.int .i64 t127)) (fun _ hk => trivial))); (case aS => exact (below_size (kb1 HB.out GE129.out))); (case aL => have := LMc8.out; omega); intro v131 w12 ho hb hg hat; rw [← Ny130.out] at ho; have n0_ := Aside0.mk (blk_grown (g := gb129) (o := .cells #[.int .i64 t124, .int .i64 t125, .int .i64 t126, .int .i64 t127] 41 (0, 0)) (kP4 BK129.out) hg (Kd.R_ne HO_4.out BK129.out (by decide))); have n1_ := Aside0.mk (hb); have n2_ := Aside0.mk (ho); clear BK129; clear HB; clear HO_4; have BK129 := n0_; have HB := n1_; have HO132 := n2_; clear n0_ n1_ n2_; clear ho hb hg hat))
    go_roundg k1
    case measure => have := HK1.out; omega
    case rel => exact ⟨(y130), (wrap64 (x12_1 + 1)), (by first | rfl | (simp; done) | (simp [*]; done)), H', ⟨by have := HK1.out; omega⟩, ⟨kR HO132.out⟩, ⟨kb1 HB.out GE129.out⟩⟩
 ·replace c3 := Bool.eq_false_iff.mpr c3
  subst c3
  have H1 : (some (([] : List (S43)), 500)) = some (r1, r2) := by rw [if_neg (show ¬ (false = true) by decide)] at H; exact H
  clear H; have H := H1; clear H1
  simp only [Option.some.injEq, Prod.mk.injEq] at H
  obtain ⟨rfl, rfl⟩ := H
  go_enter Try.func53, Try.ntmps53
  go_wp2_with (first | ((with_reducible refine gate_callee (f := 21) rfl ?_); refine goesL_ (some 10) rfl rfl Try.func21 (by kernel_rfl) rfl #[.string a0] rfl ka ?_; (with_reducible refine (nor_May.calls a0 false _ A2.out).mono ?_); rintro e w' ⟨rfl, ⟨nd, rfl⟩⟩; refine ⟨_, rfl, ?_⟩))
  go_ret2
  exact ⟨_, by first | rfl | (simp [errW_none, errW_some] <;> rfl) | (simp [*, errW_none, errW_some] <;> rfl), by first | exact Kd.R_nil _ _ _ _ _ | exact Kd.N_nil _ _ _ _ _ | exact Kd.V_nil _ _ _ _ _ | exact Kd.Q_nil _ _ _ _ _ | exact Kd.S_nil _ _ _ _ _, kb HB.out⟩

/-! ### choose_queue_Len: function 55 -/
def choose_queue_Len.f (l0 : List (S43)) : Option (Int) := some (l0.length : Int)
set_option maxHeartbeats 8000000 in
set_option maxRecDepth 100000 in
theorem choose_queue_Len.calls (A0 : Option Addr) (c0 : Nat) (l0 : List (S43)) (r : Int) (w : World) (hr0 : Kd.C k43 w A0 l0.length l0) (hc0 : l0.length ≤ c0) (h : choose_queue_Len.f l0 = some r) :
  Calls Try.prog 55 #[.slice A0 l0.length c0] w fun e w' => e = .returned (.int .i64 r) ∧ Drawn0 w w' := by
 have HR0 := Aside0.mk hr0
 have HC0 := Aside0.mk hc0
 clear hr0 hc0
 have H : (some (l0.length : Int)) = some r := h
 clear h
 obtain rfl := Option.some.inj H
 go_enter Try.func55, Try.ntmps55
 go_wp2
 go_ret
 exact ⟨by first | rfl | (simp; done) | (simp [*]; done), by repeat (first | exact Drawn0.refl _ | apply Drawn0.step)⟩

/-! ### entry_May: function 59 -/
def entry_May.f (a0_0 : Int) (a0_1 : Int) (a0_2 : Int) (a0_3 : Int) : Option (Bool) := some (Skiff.recMay ⟨a0_0, a0_1, a0_2, a0_3⟩)
theorem entry_May.calls (a0_0 : Int) (a0_1 : Int) (a0_2 : Int) (a0_3 : Int) (r : Bool) (w : World) (h : entry_May.f a0_0 a0_1 a0_2 a0_3 = some r) :
  Calls Try.prog 59 #[.agg #[.int .i64 a0_0, .int .i64 a0_1, .int .i64 a0_2, .int .i64 a0_3]] w fun e w' => e = .returned (.bool r) ∧ Below w.heap.size w w' :=
 Go.Proofs.Ytmidohjfajbpmaa.g_entry_May a0_0 a0_1 a0_2 a0_3 r w h

/-! ### journal_Begin: function 77 -/
def journal_Begin.f (a0 : Int) : Option (Int) := some (wrap64 (a0 * 96))
set_option maxHeartbeats 8000000 in
set_option maxRecDepth 100000 in
theorem journal_Begin.calls (a0 : Int) (r : Int) (w : World) (h : journal_Begin.f a0 = some r) :
  Calls Try.prog 77 #[.int .i64 a0] w fun e w' => e = .returned (.int .i64 r) ∧ Drawn0 w w' := by
 have H : (some (wrap64 (a0 * 96))) = some r := h
 clear h
 obtain rfl := Option.some.inj H
 go_enter Try.func77, Try.ntmps77
 go_wp2
 go_ret
 exact ⟨by first | rfl | (simp; done) | (simp [*]; done), by repeat (first | exact Drawn0.refl _ | apply Drawn0.step)⟩

/-! ### image_Sector: function 78 -/
def image_Sector.f (a0 : Int) : Option (Int) := some (wrap64 (2 + (wrap64 (3 * a0))))
set_option maxHeartbeats 8000000 in
set_option maxRecDepth 100000 in
theorem image_Sector.calls (a0 : Int) (r : Int) (w : World) (h : image_Sector.f a0 = some r) :
  Calls Try.prog 78 #[.int .i64 a0] w fun e w' => e = .returned (.int .i64 r) ∧ Drawn0 w w' := by
 have H : (some (wrap64 (2 + (wrap64 (3 * a0))))) = some r := h
 clear h
 obtain rfl := Option.some.inj H
 go_enter Try.func78, Try.ntmps78
 go_wp2
 go_ret
 exact ⟨by first | rfl | (simp; done) | (simp [*]; done), by repeat (first | exact Drawn0.refl _ | apply Drawn0.step)⟩

/-! ### image_Base: function 60 -/
def image_Base.f (a0 : Int) : Option (Int × Int) := (entry_Slot.f a0).bind fun t133 => (if t133 = true then ((image_Sector.f a0).bind fun t134 => ((journal_Begin.f t134).bind fun t135 => (some (t135, 0)))) else (some (0, 600)))
set_option maxHeartbeats 8000000 in
set_option maxRecDepth 100000 in
theorem image_Base.calls (a0 : Int) (r1 : Int) (r2 : Int) (w : World) (h : image_Base.f a0 = some (r1, r2)) :
  Calls Try.prog 60 #[.int .i64 a0] w fun e w' => e = .returned (.tuple #[.int .i64 r1, .int .i64 r2]) ∧ Drawn0 w w' := by
 have H : ((entry_Slot.f a0).bind fun t133 => (if t133 = true then ((image_Sector.f a0).bind fun t134 => ((journal_Begin.f t134).bind fun t135 => (some (t135, 0)))) else (some (0, 600)))) = some (r1, r2) := h
 clear h
 replace H := Option.bind_eq_some_iff.mp H
 obtain ⟨t133, A20, H⟩ := H
 replace H : (if t133 = true then ((image_Sector.f a0).bind fun t134 => ((journal_Begin.f t134).bind fun t135 => (some (t135, 0)))) else (some (0, 600))) = some (r1, r2) := H
 have A2 := Aside0.mk A20
 clear A20
 by_cases c3 : t133 = true
 ·subst c3
  have H1 : ((image_Sector.f a0).bind fun t134 => ((journal_Begin.f t134).bind fun t135 => (some (t135, 0)))) = some (r1, r2) := by rw [if_pos rfl] at H; exact H
  clear H; have H := H1; clear H1
  replace H := Option.bind_eq_some_iff.mp H
  obtain ⟨t134, A40, H⟩ := H
  replace H : ((journal_Begin.f t134).bind fun t135 => (some (t135, 0))) = some (r1, r2) := H
  have A4 := Aside0.mk A40
  clear A40
  replace H := Option.bind_eq_some_iff.mp H
  obtain ⟨t135, A50, H⟩ := H
  replace H : (some (t135, 0)) = some (r1, r2) := H
  have A5 := Aside0.mk A50
  clear A50
  simp only [Option.some.injEq, Prod.mk.injEq] at H
  obtain ⟨rfl, rfl⟩ := H
  go_enter Try.func60, Try.ntmps60
  go_wp2_with (first | ((with_reducible refine gate_callee (f := 51) rfl ?_); refine goesL_ (some 5) rfl rfl Try.func51 (by kernel_rfl) rfl #[.int .i64 a0] rfl ka ?_; (with_reducible refine (entry_Slot.calls a0 true _ A2.out).mono ?_); rintro e w' ⟨rfl, ⟨nd, rfl⟩⟩; refine ⟨_, rfl, ?_⟩) | ((with_reducible refine gate_callee (f := 78) rfl ?_); refine goesL_ (some 8) rfl rfl Try.func78 (by kernel_rfl) rfl #[.int .i64 a0] rfl ka ?_; (with_reducible refine (image_Sector.calls a0 t134 _ A4.out).mono ?_); rintro e w' ⟨rfl, ⟨nd, rfl⟩⟩; refine ⟨_, rfl, ?_⟩) | ((with_reducible refine gate_callee (f := 77) rfl ?_); refine goesL_ (some 9) rfl rfl Try.func77 (by kernel_rfl) rfl #[.int .i64 t134] rfl ka ?_; (with_reducible refine (journal_Begin.calls t134 t135 _ A5.out).mono ?_); rintro e w' ⟨rfl, ⟨nd, rfl⟩⟩; refine ⟨_, rfl, ?_⟩))
  go_ret2
  exact ⟨by first | rfl | (simp; done) | (simp [*]; done), by repeat (first | exact Drawn0.refl _ | apply Drawn0.step)⟩
 ·replace c3 := Bool.eq_false_iff.mpr c3
  subst c3
  have H1 : (some (0, 600)) = some (r1, r2) := by rw [if_neg (show ¬ (false = true) by decide)] at H; exact H
  clear H; have H := H1; clear H1
  simp only [Option.some.injEq, Prod.mk.injEq] at H
  obtain ⟨rfl, rfl⟩ := H
  go_enter Try.func60, Try.ntmps60
  go_wp2_with (first | ((with_reducible refine gate_callee (f := 51) rfl ?_); refine goesL_ (some 5) rfl rfl Try.func51 (by kernel_rfl) rfl #[.int .i64 a0] rfl ka ?_; (with_reducible refine (entry_Slot.calls a0 false _ A2.out).mono ?_); rintro e w' ⟨rfl, ⟨nd, rfl⟩⟩; refine ⟨_, rfl, ?_⟩))
  go_ret2
  exact ⟨by first | rfl | (simp; done) | (simp [*]; done), by repeat (first | exact Drawn0.refl _ | apply Drawn0.step)⟩

/-! ### image_Of: function 28 -/
def image_Of.f (a0 : ByteArray) (a1_0 : Int) (a1_1 : Int) (a1_2 : Int) (a1_3 : Int) : Option (ByteArray × Int) := (nor_May.f a0).bind fun t137 => (if t137 = true then ((entry_May.f a1_0 a1_1 a1_2 a1_3).bind fun t138 => (if t138 = true then ((image_Base.f a1_1).bind fun bt139 => (if 0 ≤ bt139.1 then (if bt139.1 ≤ (wrap64 (bt139.1 + a1_2)) then (if (wrap64 (bt139.1 + a1_2)) ≤ (a0.size : Int) then (some (a0.extract (bt139.1 : Int).toNat ((wrap64 (bt139.1 + a1_2)) : Int).toNat, 0)) else (none)) else (none)) else (none))) else (some ((⟨#[]⟩ : ByteArray), 600)))) else (some ((⟨#[]⟩ : ByteArray), 600)))
set_option maxHeartbeats 8000000 in
set_option maxRecDepth 100000 in
theorem image_Of.calls (a0 : ByteArray) (a1_0 : Int) (a1_1 : Int) (a1_2 : Int) (a1_3 : Int) (r1 : ByteArray) (r2 : Int) (w : World) (h : image_Of.f a0 a1_0 a1_1 a1_2 a1_3 = some (r1, r2)) :
  Calls Try.prog 28 #[.string a0, .agg #[.int .i64 a1_0, .int .i64 a1_1, .int .i64 a1_2, .int .i64 a1_3]] w fun e w' => e = .returned (.tuple #[.string r1, .int .i64 r2]) ∧ Below w.heap.size w w' := by
 have hu41 := Try.underlying41
 have HB := Aside0.mk (Below.refl w.heap.size w)
 have H : ((nor_May.f a0).bind fun t137 => (if t137 = true then ((entry_May.f a1_0 a1_1 a1_2 a1_3).bind fun t138 => (if t138 = true then ((image_Base.f a1_1).bind fun bt139 => (if 0 ≤ bt139.1 then (if bt139.1 ≤ (wrap64 (bt139.1 + a1_2)) then (if (wrap64 (bt139.1 + a1_2)) ≤ (a0.size : Int) then (some (a0.extract (bt139.1 : Int).toNat ((wrap64 (bt139.1 + a1_2)) : Int).toNat, 0)) else (none)) else (none)) else (none))) else (some ((⟨#[]⟩ : ByteArray), 600)))) else (some ((⟨#[]⟩ : ByteArray), 600)))) = some (r1, r2) := h
 clear h
 replace H := Option.bind_eq_some_iff.mp H
 obtain ⟨t137, A30, H⟩ := H
 replace H : (if t137 = true then ((entry_May.f a1_0 a1_1 a1_2 a1_3).bind fun t138 => (if t138 = true then ((image_Base.f a1_1).bind fun bt139 => (if 0 ≤ bt139.1 then (if bt139.1 ≤ (wrap64 (bt139.1 + a1_2)) then (if (wrap64 (bt139.1 + a1_2)) ≤ (a0.size : Int) then (some (a0.extract (bt139.1 : Int).toNat ((wrap64 (bt139.1 + a1_2)) : Int).toNat, 0)) else (none)) else (none)) else (none))) else (some ((⟨#[]⟩ : ByteArray), 600)))) else (some ((⟨#[]⟩ : ByteArray), 600))) = some (r1, r2) := H
 have A3 := Aside0.mk A30
 clear A30
 by_cases c4 : t137 = true
 ·subst c4
  have H1 : ((entry_May.f a1_0 a1_1 a1_2 a1_3).bind fun t138 => (if t138 = true then ((image_Base.f a1_1).bind fun bt139 => (if 0 ≤ bt139.1 then (if bt139.1 ≤ (wrap64 (bt139.1 + a1_2)) then (if (wrap64 (bt139.1 + a1_2)) ≤ (a0.size : Int) then (some (a0.extract (bt139.1 : Int).toNat ((wrap64 (bt139.1 + a1_2)) : Int).toNat, 0)) else (none)) else (none)) else (none))) else (some ((⟨#[]⟩ : ByteArray), 600)))) = some (r1, r2) := by rw [if_pos rfl] at H; exact H
  clear H; have H := H1; clear H1
  replace H := Option.bind_eq_some_iff.mp H
  obtain ⟨t138, A50, H⟩ := H
  replace H : (if t138 = true then ((image_Base.f a1_1).bind fun bt139 => (if 0 ≤ bt139.1 then (if bt139.1 ≤ (wrap64 (bt139.1 + a1_2)) then (if (wrap64 (bt139.1 + a1_2)) ≤ (a0.size : Int) then (some (a0.extract (bt139.1 : Int).toNat ((wrap64 (bt139.1 + a1_2)) : Int).toNat, 0)) else (none)) else (none)) else (none))) else (some ((⟨#[]⟩ : ByteArray), 600))) = some (r1, r2) := H
  have A5 := Aside0.mk A50
  clear A50
  by_cases c6 : t138 = true
  ·subst c6
   have H1 : ((image_Base.f a1_1).bind fun bt139 => (if 0 ≤ bt139.1 then (if bt139.1 ≤ (wrap64 (bt139.1 + a1_2)) then (if (wrap64 (bt139.1 + a1_2)) ≤ (a0.size : Int) then (some (a0.extract (bt139.1 : Int).toNat ((wrap64 (bt139.1 + a1_2)) : Int).toNat, 0)) else (none)) else (none)) else (none))) = some (r1, r2) := by rw [if_pos rfl] at H; exact H
   clear H; have H := H1; clear H1
   replace H := Option.bind_eq_some_iff.mp H
   obtain ⟨⟨t139, t140⟩, A70, H⟩ := H
   replace H : (if 0 ≤ t139 then (if t139 ≤ (wrap64 (t139 + a1_2)) then (if (wrap64 (t139 + a1_2)) ≤ (a0.size : Int) then (some (a0.extract (t139 : Int).toNat ((wrap64 (t139 + a1_2)) : Int).toNat, 0)) else (none)) else (none)) else (none)) = some (r1, r2) := H
   have A7 := Aside0.mk A70
   clear A70
   by_cases c8 : 0 ≤ t139
   case neg =>
    rw [if_neg c8] at H
    exact absurd H (by simp)
   rw [if_pos c8] at H
   have c8b0 := eq_true c8
   have c8b1 : decide (0 ≤ t139) = true := decide_eq_true c8
   clear c8
   by_cases c9 : t139 ≤ (wrap64 (t139 + a1_2))
   case neg =>
    rw [if_neg c9] at H
    exact absurd H (by simp)
   rw [if_pos c9] at H
   have c9b0 := eq_true c9
   have c9b1 : decide (t139 ≤ (wrap64 (t139 + a1_2))) = true := decide_eq_true c9
   by_cases c10 : (wrap64 (t139 + a1_2)) ≤ (a0.size : Int)
   case neg =>
    rw [if_neg c10] at H
    exact absurd H (by simp)
   rw [if_pos c10] at H
   have c10b0 := eq_true c10
   have c10b1 : decide ((wrap64 (t139 + a1_2)) ≤ (a0.size : Int)) = true := decide_eq_true c10
   simp only [Option.some.injEq, Prod.mk.injEq] at H
   obtain ⟨rfl, rfl⟩ := H
   go_enter Try.func28, Try.ntmps28
   go_wp2_with (first | ((with_reducible refine gate_dst (N := 3) rfl ?_); refine box_event ?hg (N := 3) ?hd (cs := #[.int .i64 a1_0, .int .i64 a1_1, .int .i64 a1_2, .int .i64 a1_3]) (t := 41) ?hr ?_; (case hd => rfl); (case hg => rfl); (case hr => first | (go_simp; done) | (go_simp; rfl)); intro gb136 hg w11 hbox hb; have n0_ := Aside0.mk (below_step (kb HB.out) hb); have n1_ := Aside0.mk (hbox); have n2_ := Aside0.mk ((kz hg (below_size (kb HB.out)) : w.heap.size ≤ gb136)); have n3_ := Aside0.mk ((kz hg (below_size (kb HB.out)) : w.heap.size ≤ gb136)); clear HB; have HB := n0_; have BK136 := n1_; have GW136 := n2_; have GE136 := n3_; clear n0_ n1_ n2_ n3_; clear hb hbox hg) | ((with_reducible refine gate_callee (f := 21) rfl ?_); refine goesL_ (some 9) rfl rfl Try.func21 (by kernel_rfl) rfl #[.string a0] rfl ka ?_; (with_reducible refine (nor_May.calls a0 true _ A3.out).mono ?_); rintro e w' ⟨rfl, ⟨nd, rfl⟩⟩; refine ⟨_, rfl, ?_⟩; obtain ⟨hcz12_0, hcz12_1, hcz12_2, hcz12_3⟩ := kc4 BK136.out; obtain ⟨hfz12_0, hfz12_1, hfz12_2, hfz12_3⟩ := kf4 BK136.out) | (go_at_call 59; (with_reducible refine (entry_May.calls a1_0 a1_1 a1_2 a1_3 true _ A5.out).mono ?_); rintro e w13 ⟨rfl, hb⟩; have n0_ := Aside0.mk (kL BK136.out hb); have n1_ := Aside0.mk (below_step (kb1 HB.out GE136.out) hb); clear BK136; clear HB; have BK136 := n0_; have HB := n1_; clear n0_ n1_; (try clear hb); (try clear hb2); (try clear hk); (try clear hi); obtain ⟨hcz14_0, hcz14_1, hcz14_2, hcz14_3⟩ := kc4 BK136.out; obtain ⟨hfz14_0, hfz14_1, hfz14_2, hfz14_3⟩ := kf4 BK136.out) | ((with_reducible refine gate_callee (f := 60) rfl ?_); refine goesL_ (some 19) rfl rfl Try.func60 (by kernel_rfl) rfl #[.int .i64 a1_1] rfl ka ?_; (with_reducible refine (image_Base.calls a1_1 t139 t140 _ A7.out).mono ?_); rintro e w' ⟨rfl, ⟨nd, rfl⟩⟩; refine ⟨_, rfl, ?_⟩))
   go_ret2
   exact ⟨by first | rfl | (simp [errW_none, errW_some] <;> rfl) | (simp [*, errW_none, errW_some] <;> rfl), kb1 HB.out GE136.out⟩
  ·replace c6 := Bool.eq_false_iff.mpr c6
   subst c6
   have H1 : (some ((⟨#[]⟩ : ByteArray), 600)) = some (r1, r2) := by rw [if_neg (show ¬ (false = true) by decide)] at H; exact H
   clear H; have H := H1; clear H1
   simp only [Option.some.injEq, Prod.mk.injEq] at H
   obtain ⟨rfl, rfl⟩ := H
   go_enter Try.func28, Try.ntmps28
   go_wp2_with (first | ((with_reducible refine gate_dst (N := 3) rfl ?_); refine box_event ?hg (N := 3) ?hd (cs := #[.int .i64 a1_0, .int .i64 a1_1, .int .i64 a1_2, .int .i64 a1_3]) (t := 41) ?hr ?_; (case hd => rfl); (case hg => rfl); (case hr => first | (go_simp; done) | (go_simp; rfl)); intro gb136 hg w15 hbox hb; have n0_ := Aside0.mk (below_step (kb HB.out) hb); have n1_ := Aside0.mk (hbox); have n2_ := Aside0.mk ((kz hg (below_size (kb HB.out)) : w.heap.size ≤ gb136)); have n3_ := Aside0.mk ((kz hg (below_size (kb HB.out)) : w.heap.size ≤ gb136)); clear HB; have HB := n0_; have BK136 := n1_; have GW136 := n2_; have GE136 := n3_; clear n0_ n1_ n2_ n3_; clear hb hbox hg) | ((with_reducible refine gate_callee (f := 21) rfl ?_); refine goesL_ (some 9) rfl rfl Try.func21 (by kernel_rfl) rfl #[.string a0] rfl ka ?_; (with_reducible refine (nor_May.calls a0 true _ A3.out).mono ?_); rintro e w' ⟨rfl, ⟨nd, rfl⟩⟩; refine ⟨_, rfl, ?_⟩; obtain ⟨hcz16_0, hcz16_1, hcz16_2, hcz16_3⟩ := kc4 BK136.out; obtain ⟨hfz16_0, hfz16_1, hfz16_2, hfz16_3⟩ := kf4 BK136.out) | (go_at_call 59; (with_reducible refine (entry_May.calls a1_0 a1_1 a1_2 a1_3 false _ A5.out).mono ?_); rintro e w17 ⟨rfl, hb⟩; have n0_ := Aside0.mk (kL BK136.out hb); have n1_ := Aside0.mk (below_step (kb1 HB.out GE136.out) hb); clear BK136; clear HB; have BK136 := n0_; have HB := n1_; clear n0_ n1_; (try clear hb); (try clear hb2); (try clear hk); (try clear hi)))
   go_ret2
   exact ⟨by first | rfl | (simp [errW_none, errW_some] <;> rfl) | (simp [*, errW_none, errW_some] <;> rfl), kb1 HB.out GE136.out⟩
 ·replace c4 := Bool.eq_false_iff.mpr c4
  subst c4
  have H1 : (some ((⟨#[]⟩ : ByteArray), 600)) = some (r1, r2) := by rw [if_neg (show ¬ (false = true) by decide)] at H; exact H
  clear H; have H := H1; clear H1
  simp only [Option.some.injEq, Prod.mk.injEq] at H
  obtain ⟨rfl, rfl⟩ := H
  go_enter Try.func28, Try.ntmps28
  go_wp2_with (first | ((with_reducible refine gate_dst (N := 3) rfl ?_); refine box_event ?hg (N := 3) ?hd (cs := #[.int .i64 a1_0, .int .i64 a1_1, .int .i64 a1_2, .int .i64 a1_3]) (t := 41) ?hr ?_; (case hd => rfl); (case hg => rfl); (case hr => first | (go_simp; done) | (go_simp; rfl)); intro gb136 hg w18 hbox hb; have n0_ := Aside0.mk (below_step (kb HB.out) hb); have n1_ := Aside0.mk (hbox); have n2_ := Aside0.mk ((kz hg (below_size (kb HB.out)) : w.heap.size ≤ gb136)); have n3_ := Aside0.mk ((kz hg (below_size (kb HB.out)) : w.heap.size ≤ gb136)); clear HB; have HB := n0_; have BK136 := n1_; have GW136 := n2_; have GE136 := n3_; clear n0_ n1_ n2_ n3_; clear hb hbox hg) | ((with_reducible refine gate_callee (f := 21) rfl ?_); refine goesL_ (some 9) rfl rfl Try.func21 (by kernel_rfl) rfl #[.string a0] rfl ka ?_; (with_reducible refine (nor_May.calls a0 false _ A3.out).mono ?_); rintro e w' ⟨rfl, ⟨nd, rfl⟩⟩; refine ⟨_, rfl, ?_⟩))
  go_ret2
  exact ⟨by first | rfl | (simp [errW_none, errW_some] <;> rfl) | (simp [*, errW_none, errW_some] <;> rfl), kb1 HB.out GE136.out⟩

/-! ### crc_Sum: function 76 -/
def crc_Sum.f (a0 : ByteArray) : Option (Int) := Skiff.sums a0
theorem crc_Sum.calls (a0 : ByteArray) (r : Int) (w : World) (h : crc_Sum.f a0 = some r) :
  Calls Try.prog 76 #[.string a0] w fun e w' => e = .returned (.int .i64 r) ∧ Below w.heap.size w w' :=
 Go.Proofs.Ytmidohjfajbpmaa.g_crc_Sum a0 r w h

/-! ### image_Good: function 57 -/
def image_Good.f (a0 : ByteArray) (a1_0 : Int) (a1_1 : Int) (a1_2 : Int) (a1_3 : Int) : Option (Bool × Int) := (image_Of.f a0 a1_0 a1_1 a1_2 a1_3).bind fun bt142 => (if bt142.2 = 0 then ((crc_Sum.f bt142.1).bind fun t144 => (some ((t144 == a1_3), bt142.2))) else (some (false, bt142.2)))
def image_Good.T2 : Bool × List (List Nat × List Nat) := (true, [([], []), ([0], [0]), ([1], [1]), ([2], [2]), ([3, 2, 2], [2, 3]), ([2], [2]), ([5, 2], [2, 5]), ([4, 6, 2], [2, 4, 6]), ([2, 7], [2, 7]), ([], []), ([8, 4, 0, 1, 2, 3, 4, 5, 6, 7, 8], [8]), ([9, 10, 0, 1, 2, 3, 4, 5, 6, 7, 8, 9, 10], [9])])
def image_Good.B2 : List Nat := [0, 1, 3, 7, 15, 7, 39, 127, 255, 0, 511, 2047]
theorem image_Good.tab2 : rtab .any (opsOf Try.f57 2) = image_Good.T2 := by kernel_rfl
theorem image_Good.bits2 : waitsOk image_Good.T2.2 image_Good.B2 = true := by kernel_rfl
set_option maxHeartbeats 8000000 in
set_option maxRecDepth 100000 in
theorem image_Good.calls (a0 : ByteArray) (a1_0 : Int) (a1_1 : Int) (a1_2 : Int) (a1_3 : Int) (r1 : Bool) (r2 : Int) (w : World) (h : image_Good.f a0 a1_0 a1_1 a1_2 a1_3 = some (r1, r2)) :
  Calls Try.prog 57 #[.string a0, .agg #[.int .i64 a1_0, .int .i64 a1_1, .int .i64 a1_2, .int .i64 a1_3]] w fun e w' => e = .returned (.tuple #[.bool r1, .int .i64 r2]) ∧ Below w.heap.size w w' := by
 have hu41 := Try.underlying41
 have HB := Aside0.mk (Below.refl w.heap.size w)
 have H : ((image_Of.f a0 a1_0 a1_1 a1_2 a1_3).bind fun bt142 => (if bt142.2 = 0 then ((crc_Sum.f bt142.1).bind fun t144 => (some ((t144 == a1_3), bt142.2))) else (some (false, bt142.2)))) = some (r1, r2) := h
 clear h
 replace H := Option.bind_eq_some_iff.mp H
 obtain ⟨⟨t142, t143⟩, A30, H⟩ := H
 replace H : (if t143 = 0 then ((crc_Sum.f t142).bind fun t144 => (some ((t144 == a1_3), t143))) else (some (false, t143))) = some (r1, r2) := H
 have A3 := Aside0.mk A30
 clear A30
 by_cases c4 : t143 = 0
 ·rw [if_pos c4] at H
  have c4b0 : (t143 == 0) = true := beq_iff_eq.mpr c4
  have c4b1 : (t143 != 0) = false := bne_eq_false_iff_eq.mpr c4
  clear c4
  replace H := Option.bind_eq_some_iff.mp H
  obtain ⟨t144, A50, H⟩ := H
  replace H : (some ((t144 == a1_3), t143)) = some (r1, r2) := H
  have A5 := Aside0.mk A50
  clear A50
  simp only [Option.some.injEq, Prod.mk.injEq] at H
  obtain ⟨rfl, rfl⟩ := H
  go_enter Try.func57, Try.ntmps57
  try go_wp2_with (first | ((with_reducible refine gate_dst (N := 3) rfl ?_); refine box_event ?hg (N := 3) ?hd (cs := #[.int .i64 a1_0, .int .i64 a1_1, .int .i64 a1_2, .int .i64 a1_3]) (t := 41) ?hr ?_; (case hd => rfl); (case hg => rfl); (case hr => first | (go_simp; done) | (go_simp; rfl)); intro gb141 hg w6 hbox hb; have n0_ := Aside0.mk (below_step (kb HB.out) hb); have n1_ := Aside0.mk (hbox); have n2_ := Aside0.mk ((kz hg (below_size (kb HB.out)) : w.heap.size ≤ gb141)); have n3_ := Aside0.mk ((kz hg (below_size (kb HB.out)) : w.heap.size ≤ gb141)); clear HB; have HB := n0_; have BK141 := n1_; have GW141 := n2_; have GE141 := n3_; clear n0_ n1_ n2_ n3_; clear hb hbox hg; obtain ⟨hcz7_0, hcz7_1, hcz7_2, hcz7_3⟩ := kc4 BK141.out; obtain ⟨hfz7_0, hfz7_1, hfz7_2, hfz7_3⟩ := kf4 BK141.out) | ((with_reducible refine gate_callee (f := 28) rfl ?_); refine goesL_ (some 11) rfl rfl Try.func28 (by kernel_rfl) rfl #[.string a0, .agg #[.int .i64 a1_0, .int .i64 a1_1, .int .i64 a1_2, .int .i64 a1_3]] rfl ka ?_; (with_reducible refine (image_Of.calls a0 a1_0 a1_1 a1_2 a1_3 t142 t143 _ A3.out).mono ?_); rintro e w8 ⟨rfl, hb⟩; refine ⟨_, rfl, ?_⟩; have n0_ := Aside0.mk (kL BK141.out hb); have n1_ := Aside0.mk (below_step (kb1 HB.out GE141.out) hb); clear BK141; clear HB; have BK141 := n0_; have HB := n1_; clear n0_ n1_; (try clear hb); (try clear hb2); (try clear hk); (try clear hi)))
  have n0_ := Aside0.mk (blk_drew BK141.out)
  have n1_ := Aside0.mk (below_drew1 HB.out)
  clear BK141 HB; have BK141 := n0_; have HB := n1_; clear n0_ n1_
  refine start_ (n := 12) (S := fun w' => w'.cell? ⟨gb141, 0, none⟩ = some (.int .i64 a1_0) ∧ w'.cell? ⟨gb141, 1, none⟩ = some (.int .i64 a1_1) ∧ w'.cell? ⟨gb141, 2, none⟩ = some (.int .i64 a1_2) ∧ w'.cell? ⟨gb141, 3, none⟩ = some (.int .i64 a1_3)) (ds := []) #[false, false, false, false, false, false, false, false, false, false, false, false] (by kernel_rfl) rfl rfl ⟨(blk_cell BK141.out 0).trans rfl, (blk_cell BK141.out 1).trans rfl, (blk_cell BK141.out 2).trans rfl, (blk_cell BK141.out 3).trans rfl⟩ (fun hHeld => ?_); refine with_tabW image_Good.tab2 image_Good.bits2 (fun HT_ HW_ => ?_)
  generalize w8.drew = w9 at BK141 HB hHeld ⊢
  refine pure_ (i := 0) (N := some 14) (v := ?_) (a' := ?_) #[true, false, false, false, false, false, false, false, false, false, false, false] rfl rfl (any_of HT_.out (by kernel_rfl)) (fun _ _ _ h => h) (Or.inl ⟨by rfl, ?_⟩) ?_ ?_
  rotate_left
  ·intro w'
   go_simp
   with_reducible rfl
  rotate_left
  ·simp only [Act.put, List.setIfInBounds_toArray, List.set_cons_zero, List.set_cons_succ, i64_w, i32_w]
   rfl
  refine pure_ (i := 1) (N := some 15) (v := ?_) (a' := ?_) #[true, true, false, false, false, false, false, false, false, false, false, false] rfl rfl (any_of HT_.out (by kernel_rfl)) (fun _ _ _ h => h) (Or.inl ⟨by rfl, ?_⟩) ?_ ?_
  rotate_left
  ·intro w'
   go_simp
   with_reducible rfl
  rotate_left
  ·simp only [Act.put, List.setIfInBounds_toArray, List.set_cons_zero, List.set_cons_succ, i64_w, i32_w]
   rfl
  refine pure_ (i := 2) (N := some 16) (v := ?_) (a' := ?_) #[true, true, true, false, false, false, false, false, false, false, false, false] rfl rfl (any_of HT_.out (by kernel_rfl)) (fun _ _ _ h => h) (Or.inl ⟨by rfl, ?_⟩) ?_ ?_
  rotate_left
  ·intro w'
   go_simp
   with_reducible rfl
  rotate_left
  ·simp only [Act.put, List.setIfInBounds_toArray, List.set_cons_zero, List.set_cons_succ, i64_w, i32_w]
   rfl
  refine pure_ (i := 3) (N := some 17) (v := ?_) (a' := ?_) #[true, true, true, true, false, false, false, false, false, false, false, false] rfl rfl (any_of HT_.out (by kernel_rfl)) (fun _ _ _ h => h) (Or.inl ⟨by rfl, ?_⟩) ?_ ?_
  rotate_left
  ·intro w'
   go_simp
   with_reducible rfl
  rotate_left
  ·simp only [Act.put, List.setIfInBounds_toArray, List.set_cons_zero, List.set_cons_succ, i64_w, i32_w]
   rfl
  refine pure_ (i := 5) (N := some 19) (v := ?_) (a' := ?_) #[true, true, true, true, false, true, false, false, false, false, false, false] rfl rfl (any_of HT_.out (by kernel_rfl)) (fun _ _ _ h => h) (Or.inl ⟨by rfl, ?_⟩) ?_ ?_
  rotate_left
  ·intro w'
   go_simp
   with_reducible rfl
  rotate_left
  ·simp only [Act.put, List.setIfInBounds_toArray, List.set_cons_zero, List.set_cons_succ, i64_w, i32_w]
   rfl
  refine pure_ (i := 9) (N := some 23) (v := ?_) (a' := ?_) #[true, true, true, true, false, true, false, false, false, true, false, false] rfl rfl (any_of HT_.out (by kernel_rfl)) (fun _ _ _ h => h) (Or.inl ⟨by rfl, ?_⟩) ?_ ?_
  rotate_left
  ·intro w'
   go_simp
   with_reducible rfl
  rotate_left
  ·simp only [Act.put, List.setIfInBounds_toArray, List.set_cons_zero, List.set_cons_succ, i64_w, i32_w]
   rfl
  refine take_ (i := 6) (N := some 20) (v := ?_) (a' := ?_) #[true, true, true, true, false, true, true, false, false, true, false, false] rfl rfl (take_ofW HT_.out HW_.out (by kernel_rfl)) (fun _ _ _ h => h) (Or.inl ⟨by rfl, ?_⟩) hHeld ?_ ?_
  rotate_left
  ·rintro w' ⟨s0, s1, s2, s3⟩
   go_simp
   with_reducible rfl
  rotate_left
  ·simp only [Act.put, List.setIfInBounds_toArray, List.set_cons_zero, List.set_cons_succ, i64_w, i32_w]
   rfl
  refine one_ (i := 4) (N := some 18) #[true, true, true, true, true, true, true, false, false, true, false, false] rfl rfl (one_of HT_.out (by kernel_rfl)) (by decide) (fun K hK => ?_)
  refine goes_ Try.func76 (by kernel_rfl) rfl #[.string t142] (by rfl) rfl rfl ka ?_
  with_reducible refine (crc_Sum.calls t142 t144 _ A5.out).mono ?_
  rintro e w10 ⟨rfl, hb⟩
  refine ⟨_, rfl, ?_⟩
  have n0_ := Aside0.mk (kL BK141.out hb)
  have n1_ := Aside0.mk (below_step (kb1 HB.out GE141.out) hb)
  clear BK141 HB; have BK141 := n0_; have HB := n1_; clear n0_ n1_
  (try clear hb)
  (try clear hb2)
  (try clear hk)
  (try clear hi)
  refine hK.out _ _ ⟨(blk_cell BK141.out 0).trans rfl, (blk_cell BK141.out 1).trans rfl, (blk_cell BK141.out 2).trans rfl, (blk_cell BK141.out 3).trans rfl⟩ (fun hHeld => ?_)
  clear hK K
  refine norm_ (a' := ?_) ?_ ?_
  rotate_left
  ·show Act.put _ (some 18) _ = _
   simp only [Act.put, List.setIfInBounds_toArray, List.set_cons_zero, List.set_cons_succ, i64_w, i32_w]
   rfl
  refine pure_ (i := 7) (N := some 21) (v := ?_) (a' := ?_) #[true, true, true, true, true, true, true, true, false, true, false, false] rfl rfl (any_of HT_.out (by kernel_rfl)) (fun _ _ _ h => h) (Or.inl ⟨by rfl, ?_⟩) ?_ ?_
  rotate_left
  ·intro w'
   go_simp
   with_reducible rfl
  rotate_left
  ·simp only [Act.put, List.setIfInBounds_toArray, List.set_cons_zero, List.set_cons_succ, i64_w, i32_w]
   rfl
  refine pure_ (i := 8) (N := some 22) (v := ?_) (a' := ?_) #[true, true, true, true, true, true, true, true, true, true, false, false] rfl rfl (any_of HT_.out (by kernel_rfl)) (fun _ _ _ h => h) (Or.inl ⟨by rfl, ?_⟩) ?_ ?_
  rotate_left
  ·intro w'
   go_simp
   with_reducible rfl
  rotate_left
  ·simp only [Act.put, List.setIfInBounds_toArray, List.set_cons_zero, List.set_cons_succ, i64_w, i32_w]
   rfl
  refine pure_ (i := 10) (N := some 4) (v := ?_) (a' := ?_) #[true, true, true, true, true, true, true, true, true, true, true, false] rfl rfl (any_of HT_.out (by kernel_rfl)) (fun _ _ _ h => h) (Or.inl ⟨by rfl, ?_⟩) ?_ ?_
  rotate_left
  ·intro w'
   go_simp
   with_reducible rfl
  rotate_left
  ·simp only [Act.put, List.setIfInBounds_toArray, List.set_cons_zero, List.set_cons_succ, i64_w, i32_w]
   rfl
  refine pure_ (i := 11) (N := some 5) (v := ?_) (a' := ?_) #[true, true, true, true, true, true, true, true, true, true, true, true] rfl rfl (any_of HT_.out (by kernel_rfl)) (fun _ _ _ h => h) (Or.inl ⟨by rfl, ?_⟩) ?_ ?_
  rotate_left
  ·intro w'
   go_simp
   with_reducible rfl
  rotate_left
  ·simp only [Act.put, List.setIfInBounds_toArray, List.set_cons_zero, List.set_cons_succ, i64_w, i32_w]
   rfl
  refine done_ (done_of HT_.out (by kernel_rfl)) ?_
  try go_wp2
  go_ret2
  exact ⟨by first | rfl | (simp [errW_none, errW_some] <;> rfl) | (simp [*, errW_none, errW_some] <;> rfl), kb1 HB.out GE141.out⟩
 ·rw [if_neg c4] at H
  have c4b0 : (t143 == 0) = false := beq_eq_false_iff_ne.mpr c4
  have c4b1 : (t143 != 0) = true := bne_iff_ne.mpr c4
  simp only [Option.some.injEq, Prod.mk.injEq] at H
  obtain ⟨rfl, rfl⟩ := H
  go_enter Try.func57, Try.ntmps57
  try go_wp2_with (first | ((with_reducible refine gate_dst (N := 3) rfl ?_); refine box_event ?hg (N := 3) ?hd (cs := #[.int .i64 a1_0, .int .i64 a1_1, .int .i64 a1_2, .int .i64 a1_3]) (t := 41) ?hr ?_; (case hd => rfl); (case hg => rfl); (case hr => first | (go_simp; done) | (go_simp; rfl)); intro gb141 hg w11 hbox hb; have n0_ := Aside0.mk (below_step (kb HB.out) hb); have n1_ := Aside0.mk (hbox); have n2_ := Aside0.mk ((kz hg (below_size (kb HB.out)) : w.heap.size ≤ gb141)); have n3_ := Aside0.mk ((kz hg (below_size (kb HB.out)) : w.heap.size ≤ gb141)); clear HB; have HB := n0_; have BK141 := n1_; have GW141 := n2_; have GE141 := n3_; clear n0_ n1_ n2_ n3_; clear hb hbox hg; obtain ⟨hcz12_0, hcz12_1, hcz12_2, hcz12_3⟩ := kc4 BK141.out; obtain ⟨hfz12_0, hfz12_1, hfz12_2, hfz12_3⟩ := kf4 BK141.out) | ((with_reducible refine gate_callee (f := 28) rfl ?_); refine goesL_ (some 11) rfl rfl Try.func28 (by kernel_rfl) rfl #[.string a0, .agg #[.int .i64 a1_0, .int .i64 a1_1, .int .i64 a1_2, .int .i64 a1_3]] rfl ka ?_; (with_reducible refine (image_Of.calls a0 a1_0 a1_1 a1_2 a1_3 t142 t143 _ A3.out).mono ?_); rintro e w13 ⟨rfl, hb⟩; refine ⟨_, rfl, ?_⟩; have n0_ := Aside0.mk (kL BK141.out hb); have n1_ := Aside0.mk (below_step (kb1 HB.out GE141.out) hb); clear BK141; clear HB; have BK141 := n0_; have HB := n1_; clear n0_ n1_; (try clear hb); (try clear hb2); (try clear hk); (try clear hi)))
  have n0_ := Aside0.mk (blk_drew BK141.out)
  have n1_ := Aside0.mk (below_drew1 HB.out)
  clear BK141 HB; have BK141 := n0_; have HB := n1_; clear n0_ n1_
  refine start_ (n := 12) (S := fun w' => True) (ds := []) #[false, false, false, false, false, false, false, false, false, false, false, false] (by kernel_rfl) rfl rfl trivial (fun hHeld => ?_); refine with_tabW image_Good.tab2 image_Good.bits2 (fun HT_ HW_ => ?_)
  generalize w13.drew = w14 at BK141 HB hHeld ⊢
  refine pure_ (i := 0) (N := some 14) (v := ?_) (a' := ?_) #[true, false, false, false, false, false, false, false, false, false, false, false] rfl rfl (any_of HT_.out (by kernel_rfl)) (fun _ _ _ h => h) (Or.inl ⟨by rfl, ?_⟩) ?_ ?_
  rotate_left
  ·intro w'
   go_simp
   with_reducible rfl
  rotate_left
  ·simp only [Act.put, List.setIfInBounds_toArray, List.set_cons_zero, List.set_cons_succ, i64_w, i32_w]
   rfl
  refine pure_ (i := 1) (N := some 15) (v := ?_) (a' := ?_) #[true, true, false, false, false, false, false, false, false, false, false, false] rfl rfl (any_of HT_.out (by kernel_rfl)) (fun _ _ _ h => h) (Or.inl ⟨by rfl, ?_⟩) ?_ ?_
  rotate_left
  ·intro w'
   go_simp
   with_reducible rfl
  rotate_left
  ·simp only [Act.put, List.setIfInBounds_toArray, List.set_cons_zero, List.set_cons_succ, i64_w, i32_w]
   rfl
  refine pure_ (i := 2) (N := some 16) (v := ?_) (a' := ?_) #[true, true, true, false, false, false, false, false, false, false, false, false] rfl rfl (any_of HT_.out (by kernel_rfl)) (fun _ _ _ h => h) (Or.inl ⟨by rfl, ?_⟩) ?_ ?_
  rotate_left
  ·intro w'
   go_simp
   with_reducible rfl
  rotate_left
  ·simp only [Act.put, List.setIfInBounds_toArray, List.set_cons_zero, List.set_cons_succ, i64_w, i32_w]
   rfl
  refine pure_ (i := 3) (N := some 17) (v := undef) (a' := ?_) #[true, true, true, true, false, false, false, false, false, false, false, false] rfl rfl (any_of HT_.out (by kernel_rfl)) (fun _ _ _ h => h) (Or.inr ⟨by rfl, rfl⟩) ?_ ?_
  rotate_left
  ·simp only [Act.put, List.setIfInBounds_toArray, List.set_cons_zero, List.set_cons_succ, i64_w, i32_w]
   rfl
  refine pure_ (i := 4) (N := some 18) (v := undef) (a' := ?_) #[true, true, true, true, true, false, false, false, false, false, false, false] rfl rfl (any_of HT_.out (by kernel_rfl)) (fun _ _ _ h => h) (Or.inr ⟨by rfl, rfl⟩) ?_ ?_
  rotate_left
  ·simp only [Act.put, List.setIfInBounds_toArray, List.set_cons_zero, List.set_cons_succ, i64_w, i32_w]
   rfl
  refine pure_ (i := 5) (N := some 19) (v := undef) (a' := ?_) #[true, true, true, true, true, true, false, false, false, false, false, false] rfl rfl (any_of HT_.out (by kernel_rfl)) (fun _ _ _ h => h) (Or.inr ⟨by rfl, rfl⟩) ?_ ?_
  rotate_left
  ·simp only [Act.put, List.setIfInBounds_toArray, List.set_cons_zero, List.set_cons_succ, i64_w, i32_w]
   rfl
  refine pure_ (i := 6) (N := some 20) (v := undef) (a' := ?_) #[true, true, true, true, true, true, true, false, false, false, false, false] rfl rfl (any_of HT_.out (by kernel_rfl)) (fun _ _ _ h => h) (Or.inr ⟨by rfl, rfl⟩) ?_ ?_
  rotate_left
  ·simp only [Act.put, List.setIfInBounds_toArray, List.set_cons_zero, List.set_cons_succ, i64_w, i32_w]
   rfl
  refine pure_ (i := 7) (N := some 21) (v := undef) (a' := ?_) #[true, true, true, true, true, true, true, true, false, false, false, false] rfl rfl (any_of HT_.out (by kernel_rfl)) (fun _ _ _ h => h) (Or.inr ⟨by rfl, rfl⟩) ?_ ?_
  rotate_left
  ·simp only [Act.put, List.setIfInBounds_toArray, List.set_cons_zero, List.set_cons_succ, i64_w, i32_w]
   rfl
  refine pure_ (i := 8) (N := some 22) (v := ?_) (a' := ?_) #[true, true, true, true, true, true, true, true, true, false, false, false] rfl rfl (any_of HT_.out (by kernel_rfl)) (fun _ _ _ h => h) (Or.inl ⟨by rfl, ?_⟩) ?_ ?_
  rotate_left
  ·intro w'
   go_simp
   with_reducible rfl
  rotate_left
  ·simp only [Act.put, List.setIfInBounds_toArray, List.set_cons_zero, List.set_cons_succ, i64_w, i32_w]
   rfl
  refine pure_ (i := 9) (N := some 23) (v := ?_) (a' := ?_) #[true, true, true, true, true, true, true, true, true, true, false, false] rfl rfl (any_of HT_.out (by kernel_rfl)) (fun _ _ _ h => h) (Or.inl ⟨by rfl, ?_⟩) ?_ ?_
  rotate_left
  ·intro w'
   go_simp
   with_reducible rfl
  rotate_left
  ·simp only [Act.put, List.setIfInBounds_toArray, List.set_cons_zero, List.set_cons_succ, i64_w, i32_w]
   rfl
  refine pure_ (i := 10) (N := some 4) (v := ?_) (a' := ?_) #[true, true, true, true, true, true, true, true, true, true, true, false] rfl rfl (any_of HT_.out (by kernel_rfl)) (fun _ _ _ h => h) (Or.inl ⟨by rfl, ?_⟩) ?_ ?_
  rotate_left
  ·intro w'
   go_simp
   with_reducible rfl
  rotate_left
  ·simp only [Act.put, List.setIfInBounds_toArray, List.set_cons_zero, List.set_cons_succ, i64_w, i32_w]
   rfl
  refine pure_ (i := 11) (N := some 5) (v := ?_) (a' := ?_) #[true, true, true, true, true, true, true, true, true, true, true, true] rfl rfl (any_of HT_.out (by kernel_rfl)) (fun _ _ _ h => h) (Or.inl ⟨by rfl, ?_⟩) ?_ ?_
  rotate_left
  ·intro w'
   go_simp
   with_reducible rfl
  rotate_left
  ·simp only [Act.put, List.setIfInBounds_toArray, List.set_cons_zero, List.set_cons_succ, i64_w, i32_w]
   rfl
  refine done_ (done_of HT_.out (by kernel_rfl)) ?_
  try go_wp2
  go_ret2
  exact ⟨by first | rfl | (simp [errW_none, errW_some] <;> rfl) | (simp [*, errW_none, errW_some] <;> rfl), kb1 HB.out GE141.out⟩

end Go.Proofs.Ytmidohjfajbpmaa.P
end
section
set_option linter.unusedVariables false
set_option linter.unusedSimpArgs false
set_option maxHeartbeats 4000000
namespace Go.Proofs.Ytmidohjfajbpmaa
open Go.RowKit

set_option maxRecDepth 100000 in
theorem que_less (n : Nat) (g : Nat) (v : Value) (w : World) (h : w.cell? ⟨g, 0, none⟩ = some v) : Sem.run Try.prog (method (n + 1) 84 (.pointer (some ⟨g, 0, none⟩)) "Less") w = .ok (107, v) w := by
  obtain ⟨T, s, e1, e2⟩ : ∃ (T : TypeInfo) (s : TypeId), Sem.run Try.prog (typeInfo 84) w = .ok T w ∧ T.methods.find? (·.name == "Less") = some ⟨"Less", s, #[], some (107, false)⟩ := ⟨_, _, rfl, rfl⟩
  rw [method]
  have ssa : ∀ x y : String, Builtin.ssaWrapNilChk_ #[84] 84 #[.pointer (some ⟨g, 0, none⟩), strVal x, strVal y] = pure (.pointer (some ⟨g, 0, none⟩)) := fun _ _ => rfl
  simp [go_sem, e1, e2, follow, receiverAt, Place.get, ssa, h]
set_option maxRecDepth 100000 in
theorem que_swap (n : Nat) (g : Nat) (v : Value) (w : World) (h : w.cell? ⟨g, 0, none⟩ = some v) : Sem.run Try.prog (method (n + 1) 84 (.pointer (some ⟨g, 0, none⟩)) "Swap") w = .ok (108, v) w := by
  obtain ⟨T, s, e1, e2⟩ : ∃ (T : TypeInfo) (s : TypeId), Sem.run Try.prog (typeInfo 84) w = .ok T w ∧ T.methods.find? (·.name == "Swap") = some ⟨"Swap", s, #[], some (108, false)⟩ := ⟨_, _, rfl, rfl⟩
  rw [method]
  have ssa : ∀ x y : String, Builtin.ssaWrapNilChk_ #[84] 84 #[.pointer (some ⟨g, 0, none⟩), strVal x, strVal y] = pure (.pointer (some ⟨g, 0, none⟩)) := fun _ _ => rfl
  simp [go_sem, e1, e2, follow, receiverAt, Place.get, ssa, h]
set_option maxRecDepth 100000 in
theorem que_len (n : Nat) (g : Nat) (v : Value) (w : World) (h : w.cell? ⟨g, 0, none⟩ = some v) : Sem.run Try.prog (method (n + 1) 84 (.pointer (some ⟨g, 0, none⟩)) "Len") w = .ok (55, v) w := by
  obtain ⟨T, s, e1, e2⟩ : ∃ (T : TypeInfo) (s : TypeId), Sem.run Try.prog (typeInfo 84) w = .ok T w ∧ T.methods.find? (·.name == "Len") = some ⟨"Len", s, #[], some (55, false)⟩ := ⟨_, _, rfl, rfl⟩
  rw [method]
  have ssa : ∀ x y : String, Builtin.ssaWrapNilChk_ #[84] 84 #[.pointer (some ⟨g, 0, none⟩), strVal x, strVal y] = pure (.pointer (some ⟨g, 0, none⟩)) := fun _ _ => rfl
  simp [go_sem, e1, e2, follow, receiverAt, Place.get, ssa, h]
set_option maxRecDepth 100000 in
theorem que_pop (n : Nat) (g : Nat) (w : World) : Sem.run Try.prog (method (n + 1) 84 (.pointer (some ⟨g, 0, none⟩)) "Pop") w = .ok (109, .pointer (some ⟨g, 0, none⟩)) w := by
  obtain ⟨T, s, e1, e2⟩ : ∃ (T : TypeInfo) (s : TypeId), Sem.run Try.prog (typeInfo 84) w = .ok T w ∧ T.methods.find? (·.name == "Pop") = some ⟨"Pop", s, #[], some (109, true)⟩ := ⟨_, _, rfl, rfl⟩
  rw [method]
  simp [go_sem, e1, e2, follow, receiverAt, Place.get]

end Go.Proofs.Ytmidohjfajbpmaa
end
section
set_option linter.unusedVariables false
set_option linter.unusedSimpArgs false
set_option maxHeartbeats 4000000
namespace Go.Proofs.Ytmidohjfajbpmaa.Hp
variable {α : Type} (z : α) (K : α → Int)

def swp (l : List α) (i j : Nat) : List α := (l.set i (l.getD j z)).set j (l.getD i z)
theorem swp_length (l : List α) (i j : Nat) : (swp z l i j).length = l.length := by unfold swp; rw [List.length_set, List.length_set]
theorem swp_at (l : List α) (i j k : Nat) (hi : i < l.length) (hj : j < l.length) : (swp z l i j).getD k z = if k = j then l.getD i z else if k = i then l.getD j z else l.getD k z := by
  unfold swp
  rw [List.getD_eq_getElem?_getD, List.getElem?_set]
  by_cases h : j = k
  · subst h; rw [if_pos rfl, if_pos rfl, if_pos (by rw [List.length_set]; exact hj)]; rfl
  · rw [if_neg h, if_neg (fun e => h e.symm), List.getElem?_set]
    by_cases h2 : i = k
    · subst h2; rw [if_pos rfl, if_pos rfl, if_pos hi]; rfl
    · rw [if_neg h2, if_neg (fun e => h2 e.symm), List.getD_eq_getElem?_getD]
theorem swp_perm (l : List α) (i j : Nat) (hi : i < l.length) (hj : j < l.length) : (swp z l i j).Perm l := by
  have h := Array.swap_perm (xs := l.toArray) (i := i) (j := j) (by simpa using hi) (by simpa using hj)
  rw [Array.perm_iff_toList_perm, Array.toList_swap] at h
  simp only [List.getElem_toArray] at h
  unfold swp
  rw [List.getD_eq_getElem?_getD, List.getD_eq_getElem?_getD, List.getElem?_eq_getElem hi, List.getElem?_eq_getElem hj]
  exact h

/-- The greater child. -/
def child (n i : Nat) (l : List α) : Nat := if 2 * i + 2 < n ∧ K (l.getD (2 * i + 2) z) > K (l.getD (2 * i + 1) z) then 2 * i + 2 else 2 * i + 1
def down (n : Nat) : Nat → Nat → List α → List α
  | 0, _, l => l
  | f + 1, i, l => if n ≤ 2 * i + 1 then l else if K (l.getD (child z K n i l) z) > K (l.getD i z) then down n f (child z K n i l) (swp z l i (child z K n i l)) else l
theorem child_le (n i : Nat) (l : List α) (h : ¬ n ≤ 2 * i + 1) : child z K n i l < n ∧ (child z K n i l = 2 * i + 1 ∨ child z K n i l = 2 * i + 2) := by
  unfold child
  split <;> omega
theorem child_max (n i : Nat) (l : List α) (c : Nat) (hc : c = 2 * i + 1 ∨ c = 2 * i + 2) (hn : c < n) : K (l.getD c z) ≤ K (l.getD (child z K n i l) z) := by
  unfold child
  split
  · rename_i h
    rcases hc with rfl | rfl <;> omega
  · rename_i h
    rcases hc with rfl | rfl
    · omega
    · by_cases h2 : K (l.getD (2 * i + 2) z) > K (l.getD (2 * i + 1) z)
      · exact absurd ⟨hn, h2⟩ h
      · omega
theorem down_length (n : Nat) : ∀ f i (l : List α), (down z K n f i l).length = l.length
  | 0, _, _ => rfl
  | f + 1, i, l => by
    rw [down]
    split
    · rfl
    split
    · rw [down_length n f, swp_length]
    · rfl
theorem down_perm (n : Nat) : ∀ f i (l : List α), n ≤ l.length → i < n → (down z K n f i l).Perm l
  | 0, _, l, _, _ => List.Perm.refl l
  | f + 1, i, l, h, hi => by
    rw [down]
    split
    · exact List.Perm.refl l
    rename_i h1
    have hc := child_le z K n i l h1
    split
    · exact (down_perm n f _ _ (by rw [swp_length]; exact h) hc.1).trans (swp_perm z l i _ (by omega) (by omega))
    · exact List.Perm.refl l
theorem down_out (n : Nat) : ∀ f i (l : List α) k, n ≤ l.length → i < n → n ≤ k → (down z K n f i l).getD k z = l.getD k z
  | 0, _, _, _, _, _, _ => rfl
  | f + 1, i, l, k, h, hi, hk => by
    rw [down]
    split
    · rfl
    rename_i h1
    have hc := child_le z K n i l h1
    split
    · rw [down_out n f _ _ k (by rw [swp_length]; exact h) hc.1 hk, swp_at z l i _ k (by omega) (by omega), if_neg (by omega), if_neg (by omega)]
    · rfl
/-- No child is greater. -/
def At (l : List α) (n k : Nat) : Prop := ∀ c, (c = 2 * k + 1 ∨ c = 2 * k + 2) → c < n → K (l.getD c z) ≤ K (l.getD k z)
theorem down_heap (n lo : Nat) : ∀ f i (l : List α), n ≤ l.length → i < n → lo ≤ i → n ≤ i + f → (∀ k, lo ≤ k → k ≠ i → At z K l n k) →
    (∀ p, lo ≤ p → (i = 2 * p + 1 ∨ i = 2 * p + 2) → ∀ c, (c = 2 * i + 1 ∨ c = 2 * i + 2) → c < n → K (l.getD c z) ≤ K (l.getD p z)) → ∀ k, lo ≤ k → At z K (down z K n f i l) n k
  | 0, i, l, _, hi, _, hf, _, _, _, _ => by omega
  | f + 1, i, l, h, hi, hlo, hf, h1, h2, k, hk => by
    rw [down]
    by_cases hc : n ≤ 2 * i + 1
    · rw [if_pos hc]
      by_cases hki : k = i
      · subst hki; intro c hcc hcn; omega
      · exact h1 k hk hki
    rw [if_neg hc]
    have hch := child_le z K n i l hc
    have hmx := child_max z K n i l
    generalize child z K n i l = j at hch hmx
    by_cases hg : K (l.getD j z) > K (l.getD i z)
    · rw [if_pos hg]
      have hs := fun k => swp_at z l i j k (by omega) (by omega)
      refine down_heap n lo f j (swp z l i j) (by rw [swp_length]; exact h) hch.1 (by omega) (by omega) ?_ ?_ k hk
      · intro k hk hkj c hcc hcn
        rw [hs c, hs k, if_neg hkj]
        by_cases hki : k = i
        · rw [if_pos hki]
          subst hki
          by_cases hcj : c = j
          · rw [if_pos hcj]; omega
          · rw [if_neg hcj, if_neg (by omega)]
            exact hmx c hcc hcn
        · rw [if_neg hki, if_neg (by omega)]
          by_cases hci : c = i
          · rw [if_pos hci]
            subst hci
            exact h2 k hk hcc j hch.2 hch.1
          · rw [if_neg hci]
            exact h1 k hk hki c hcc hcn
      · intro p hp hpj c hcc hcn
        have : p = i := by omega
        subst this
        rw [hs c, hs p, if_neg (by omega), if_neg (by omega), if_neg (by omega), if_pos rfl]
        exact h1 j (by omega) (by omega) c hcc hcn
    · rw [if_neg hg]
      by_cases hki : k = i
      · subst hki
        intro c hcc hcn
        have := hmx c hcc hcn
        omega
      · exact h1 k hk hki
theorem down_stop (n f i : Nat) (l : List α) (h : n ≤ 2 * i + 1) : down z K n f i l = l := by
  cases f with
  | zero => rfl
  | succ f => rw [down, if_pos h]
theorem down_go (n f i : Nat) (l : List α) (j : Nat) (h : ¬ n ≤ 2 * i + 1) (hj : child z K n i l = j) (hg : K (l.getD j z) > K (l.getD i z)) : down z K n (f + 1) i l = down z K n f j (swp z l i j) := by
  rw [down, if_neg h, hj, if_pos hg]
theorem down_halt (n f i : Nat) (l : List α) (j : Nat) (h : ¬ n ≤ 2 * i + 1) (hj : child z K n i l = j) (hg : ¬ K (l.getD j z) > K (l.getD i z)) : down z K n (f + 1) i l = l := by
  rw [down, if_neg h, hj, if_neg hg]
theorem child_right (n i : Nat) (l : List α) (h : 2 * i + 2 < n) (hg : decide (K (l.getD (2 * i + 2) z) > K (l.getD (2 * i + 1) z)) = true) : child z K n i l = 2 * i + 2 := if_pos ⟨h, of_decide_eq_true hg⟩
theorem child_left (n i : Nat) (l : List α) (hg : 2 * i + 2 < n → decide (K (l.getD (2 * i + 2) z) > K (l.getD (2 * i + 1) z)) = false) : child z K n i l = 2 * i + 1 := if_neg fun h => of_decide_eq_false (hg h.1) h.2
/-- heap.Init: the places below i are still to do. -/
def init (n : Nat) : Nat → List α → List α
  | 0, l => l
  | i + 1, l => init n i (down z K n n i l)
theorem init_length (n : Nat) : ∀ i (l : List α), (init z K n i l).length = l.length
  | 0, _ => rfl
  | i + 1, l => by rw [init, init_length n i, down_length]
theorem init_perm (n : Nat) : ∀ i (l : List α), n ≤ l.length → i ≤ n → (init z K n i l).Perm l
  | 0, l, _, _ => List.Perm.refl l
  | i + 1, l, h, hi => by rw [init]; exact (init_perm n i _ (by rw [down_length]; exact h) (by omega)).trans (down_perm z K n n i l h (by omega))
theorem init_heap (n : Nat) : ∀ i (l : List α), n ≤ l.length → i ≤ n → (∀ k, i ≤ k → At z K l n k) → ∀ k, At z K (init z K n i l) n k
  | 0, _, _, _, h, k => h k (Nat.zero_le _)
  | i + 1, l, h, hi, h1, k => by
    rw [init]
    exact init_heap n i _ (by rw [down_length]; exact h) (by omega) (fun k hk => down_heap z K n i n i l h (by omega) (Nat.le_refl _) (by omega) (fun k hk hki => h1 k (by omega)) (fun p hp hpi => by omega) k hk) k
theorem root_max (l : List α) (n : Nat) (h : ∀ k, At z K l n k) (c : Nat) : c < n → K (l.getD c z) ≤ K (l.getD 0 z) := by
  induction c using Nat.strongRecOn with
  | ind c ih =>
    intro hc
    by_cases h0 : c = 0
    · rw [h0]; omega
    have h1 := h ((c - 1) / 2) c (by omega) hc
    have h2 := ih ((c - 1) / 2) (by omega) (by omega)
    omega
/-- heap.Pop: what is left, behind it what is handed back. -/
def popped (l : List α) : List α := down z K (l.length - 1) (l.length - 1) 0 (swp z l 0 (l.length - 1))
def rest (l : List α) : List α := (popped z K l).take (l.length - 1)
theorem popped_length (l : List α) : (popped z K l).length = l.length := by unfold popped; rw [down_length, swp_length]
theorem rest_length (l : List α) : (rest z K l).length = l.length - 1 := by unfold rest; rw [List.length_take, popped_length]; omega
theorem pop_facts (l : List α) (hl : l ≠ []) (h : ∀ k, At z K l l.length k) : (popped z K l).getD (l.length - 1) z = l.getD 0 z ∧ l.Perm (l.getD 0 z :: rest z K l) ∧ ∀ k, At z K (rest z K l) (rest z K l).length k := by
  have h0 : 0 < l.length := List.length_pos_iff.2 hl
  by_cases h1 : l.length = 1
  · obtain ⟨x, rfl⟩ := List.length_eq_one_iff.1 h1
    refine ⟨rfl, List.Perm.refl _, fun k c hc hn => ?_⟩
    rw [rest_length] at hn
    simp at hn
  have hs := fun k => swp_at z l 0 (l.length - 1) k (by omega) (by omega)
  have e1 : (popped z K l).getD (l.length - 1) z = l.getD 0 z := by
    unfold popped
    rw [down_out z K _ _ _ _ _ (by rw [swp_length]; omega) (by omega) (Nat.le_refl _), hs, if_pos rfl]
  have e2 : ∀ k, At z K (popped z K l) (l.length - 1) k := fun k => by
    unfold popped
    refine down_heap z K (l.length - 1) 0 (l.length - 1) 0 _ (by rw [swp_length]; omega) (by omega) (Nat.le_refl _) (by omega) (fun k _ hk c hc hn => ?_) (fun p _ hp => by omega) k (Nat.zero_le _)
    rw [hs, hs, if_neg (by omega), if_neg (by omega), if_neg (by omega), if_neg (by omega)]
    exact h k c hc (by omega)
  refine ⟨e1, ?_, fun k c hc hn => ?_⟩
  · have p1 : (popped z K l).Perm l := by
      unfold popped
      exact (down_perm z K _ _ _ _ (by rw [swp_length]; omega) (by omega)).trans (swp_perm z l 0 _ h0 (by omega))
    have e3 : popped z K l = rest z K l ++ [l.getD 0 z] := by
      have hp := popped_length z K l
      have hlt : l.length - 1 < (popped z K l).length := by omega
      rw [← e1]
      unfold rest
      rw [List.getD_eq_getElem?_getD, List.getElem?_eq_getElem hlt, Option.getD_some, List.take_append_getElem, List.take_of_length_le (by omega)]
    rw [e3] at p1
    exact p1.symm.trans (List.perm_append_singleton _ _)
  · rw [rest_length] at hn
    have e4 : ∀ c, c < l.length - 1 → (rest z K l).getD c z = (popped z K l).getD c z := fun c hc => by
      unfold rest
      rw [List.getD_eq_getElem?_getD, List.getElem?_take, if_pos hc, List.getD_eq_getElem?_getD]
    rw [e4 c hn, e4 k (by omega)]
    exact e2 k c hc hn
theorem popped_last (l : List α) (hl : l ≠ []) : (popped z K l).getD (l.length - 1) z = l.getD 0 z := by
  have h0 : 0 < l.length := List.length_pos_iff.2 hl
  have hs := fun k => swp_at z l 0 (l.length - 1) k (by omega) (by omega)
  unfold popped
  by_cases h1 : l.length = 1
  · rw [h1]
    show (swp z l 0 0).getD 0 z = l.getD 0 z
    have h2 := hs 0
    rw [h1] at h2
    rw [h2, if_pos rfl]
  · rw [down_out z K _ _ _ _ _ (by rw [swp_length]; omega) (by omega) (Nat.le_refl _), hs, if_pos rfl]
theorem rest_sub (l : List α) (hl : l ≠ []) : ∀ x, x ∈ rest z K l → x ∈ l := by
  have h0 : 0 < l.length := List.length_pos_iff.2 hl
  intro x hx
  have h1 : x ∈ popped z K l := List.mem_of_mem_take hx
  have hp : (popped z K l).Perm l := by
    unfold popped
    by_cases h2 : l.length = 1
    · rw [h2]; exact swp_perm z l 0 0 h0 h0
    · exact (down_perm z K _ _ _ _ (by rw [swp_length]; omega) (by omega)).trans (swp_perm z l 0 _ h0 (by omega))
  exact hp.mem_iff.1 h1
/-- The first one that is good. -/
def pick (good : α → Bool) : Nat → List α → Option α
  | 0, _ => none
  | f + 1, l => if l.length = 0 then none else if good (l.getD 0 z) then some (l.getD 0 z) else pick good f (rest z K l)
/-- The greatest good one. -/
def Best (good : α → Bool) (l : List α) : Option α → Prop
  | none => ∀ x ∈ l, good x = false
  | some p => p ∈ l ∧ good p = true ∧ ∀ x ∈ l, good x = true → K x ≤ K p
theorem pick_best (good : α → Bool) : ∀ f (l : List α), l.length ≤ f → (∀ k, At z K l l.length k) → Best K good l (pick z K good f l)
  | 0, l, hf, _ => by
    have : l = [] := List.length_eq_zero_iff.1 (by omega)
    subst this
    intro x hx; cases hx
  | f + 1, l, hf, h => by
    rw [pick]
    by_cases h0 : l.length = 0
    · rw [if_pos h0]
      have : l = [] := List.length_eq_zero_iff.1 h0
      subst this
      intro x hx; cases hx
    rw [if_neg h0]
    have hl : l ≠ [] := fun e => h0 (by rw [e]; rfl)
    obtain ⟨_, hp, hr⟩ := pop_facts z K l hl h
    have hm : l.getD 0 z ∈ l := hp.mem_iff.2 (List.mem_cons_self ..)
    by_cases hg : good (l.getD 0 z) = true
    · rw [if_pos hg]
      refine ⟨hm, hg, fun x hx _ => ?_⟩
      obtain ⟨c, hc, rfl⟩ := List.getElem_of_mem hx
      have := root_max z K l l.length h c hc
      rw [List.getD_eq_getElem?_getD, List.getElem?_eq_getElem hc] at this
      exact this
    · rw [if_neg hg]
      have ih := pick_best good f (rest z K l) (by rw [rest_length]; omega) hr
      generalize pick z K good f (rest z K l) = o at ih
      have back : ∀ x, x ∈ l → good x = true → x ∈ rest z K l := fun x hx hgx => by
        rcases List.mem_cons.1 (hp.mem_iff.1 hx) with rfl | h
        · exact absurd hgx hg
        · exact h
      cases o with
      | none =>
        intro x hx
        cases hgx : good x
        · rfl
        · have := ih x (back x hx hgx); rw [hgx] at this; exact this
      | some p => exact ⟨hp.mem_iff.2 (List.mem_cons_of_mem _ ih.1), ih.2.1, fun x hx hgx => ih.2.2 x (back x hx hgx) hgx⟩

end Go.Proofs.Ytmidohjfajbpmaa.Hp
end
section
set_option linter.unusedVariables false
set_option linter.unusedSimpArgs false
set_option maxHeartbeats 4000000
namespace Go.Proofs.Ytmidohjfajbpmaa
open Go.RowKit Skiff Go.Proofs.YtmidohjfajbpmaaW.PrintWords

abbrev Plc := P.S43
def slotAt (f : ByteArray) (i : Nat) : Option Rec := Skiff.get (bl (f.extract (24 * i) (24 * i + 24)))
def mkPl (i : Nat) (r : Rec) : Plc := ⟨24 * (i : Int), ⟨r.seq, r.slot, r.size, r.sum⟩⟩
def pls (f : ByteArray) (i : Nat) : List Plc := ((slotAt f i).map (mkPl i)).toList
def scanTo (f : ByteArray) : Nat → List Plc
  | 0 => []
  | n + 1 => scanTo f n ++ pls f n
theorem scanTo_len (f : ByteArray) : ∀ n, (scanTo f n).length ≤ n
  | 0 => Nat.le_refl _
  | n + 1 => by
    have := scanTo_len f n
    rw [scanTo, List.length_append]
    have : (pls f n).length ≤ 1 := by unfold pls; cases slotAt f n <;> simp
    omega
theorem scanTo_mem {f : ByteArray} {p : Plc} : ∀ {n}, p ∈ scanTo f n → ∃ i r, i < n ∧ slotAt f i = some r ∧ p = mkPl i r
  | 0, h => by simp [scanTo] at h
  | n + 1, h => by
    rw [scanTo, List.mem_append] at h
    rcases h with h | h
    · obtain ⟨i, r, h1, h2⟩ := scanTo_mem h
      exact ⟨i, r, by omega, h2⟩
    · unfold pls at h
      cases hs : slotAt f n with
      | none => rw [hs] at h; simp at h
      | some r => rw [hs] at h; simp at h; exact ⟨n, r, by omega, hs, h⟩
theorem scanTo_asc (f : ByteArray) : ∀ n, (scanTo f n).Pairwise (fun p q => p.f0 < q.f0)
  | 0 => List.Pairwise.nil
  | n + 1 => by
    rw [scanTo, List.pairwise_append]
    refine ⟨scanTo_asc f n, ?_, fun p hp q hq => ?_⟩
    · unfold pls; cases slotAt f n <;> simp
    · obtain ⟨i, r, hi, _, rfl⟩ := scanTo_mem hp
      unfold pls at hq
      cases hs : slotAt f n with
      | none => rw [hs] at hq; simp at hq
      | some r2 =>
        rw [hs] at hq
        simp at hq
        subst hq
        show 24 * (i : Int) < 24 * (n : Int)
        omega
theorem scanTo_at {f : ByteArray} {p : Plc} {n : Nat} (h : p ∈ scanTo f n) : 0 ≤ p.f0 ∧ p.f0 < 24 * (n : Int) := by
  obtain ⟨i, r, hi, _, rfl⟩ := scanTo_mem h
  show 0 ≤ 24 * (i : Int) ∧ 24 * (i : Int) < 24 * (n : Int)
  omega
theorem slotAt_may {f : ByteArray} {i : Nat} {r : Rec} (h : slotAt f i = some r) : recMay r = true := (get_some h).1

theorem getTup_some {l : List UInt8} {r : Rec} (h : Skiff.get l = some r) : getTup l = (r.seq, r.slot, r.size, r.sum, 0) := by unfold getTup; rw [h]
theorem getTup_none {l : List UInt8} (h : Skiff.get l = none) : getTup l = (0, 0, 0, 0, 400) := by unfold getTup; rw [h]

theorem nmay_f (f : ByteArray) : P.nor_May.f f = some (decide (f.size = 768)) := by
  unfold P.nor_May.f
  congr 1
  rw [Bool.eq_iff_iff]; simp; omega
theorem at_f (f : ByteArray) (hf : f.size = 768) (i : Nat) (hi : i < 8) : P.journal_at.f f (24 * (i : Int)) = some (f.extract (24 * i) (24 * i + 24)) := by
  unfold P.journal_at.f
  have e : wrap64 (24 * (i : Int) + 24) = 24 * (i : Int) + 24 := by simp only [wrap64]; omega
  rw [e, if_pos (by omega), if_pos (by omega), if_pos (by omega)]
  rw [show (24 * (i : Int)).toNat = 24 * i by omega, show (24 * (i : Int) + 24).toNat = 24 * i + 24 by omega]
theorem scan_l0 (f : ByteArray) (hf : f.size = 768) (d : Nat) : ∀ (k i : Nat), i + d = 8 → d < k → P.journal_Scan.l0 k f (scanTo f i) (i : Int) = some (scanTo f 8, 0) := by
  induction d with
  | zero =>
    intro k i h1 h2
    obtain ⟨k, rfl⟩ : ∃ m, k = m + 1 := ⟨k - 1, by omega⟩
    obtain rfl : i = 8 := by omega
    simp only [P.journal_Scan.l0]
    rw [if_neg (by omega)]
  | succ d ih =>
    intro k i h1 h2
    obtain ⟨k, rfl⟩ : ∃ m, k = m + 1 := ⟨k - 1, by omega⟩
    have hr := ih k (i + 1) (by omega) (by omega)
    have hl := scanTo_len f i
    have e1 : wrap64 ((i : Int) * 24) = 24 * (i : Int) := by simp only [wrap64]; omega
    have e2 : wrap64 ((i : Int) + 1) = ((i + 1 : Nat) : Int) := by simp only [wrap64]; omega
    simp only [P.journal_Scan.l0, P.entry_Get.f]
    rw [if_pos (by omega), e1, at_f f hf i (by omega), e2]
    simp only [Option.bind_some]
    cases hs : slotAt f i with
    | none =>
      rw [getTup_none hs]
      simp only
      rw [if_neg (by omega)]
      rw [scanTo, pls, hs] at hr
      simpa using hr
    | some r =>
      rw [getTup_some hs]
      simp only [if_true]
      rw [if_pos (by omega)]
      rw [scanTo, pls, hs] at hr
      exact hr
theorem scan_f (f : ByteArray) (k : Nat) (hk : 8 < k) : P.journal_Scan.f k f = some (if f.size = 768 then (scanTo f 8, 0) else ([], 500)) := by
  unfold P.journal_Scan.f
  rw [nmay_f]
  simp only [Option.bind_some]
  by_cases h : f.size = 768
  · rw [decide_eq_true h, if_pos h, if_pos rfl]
    exact scan_l0 f h 8 k 0 (by omega) hk
  · rw [decide_eq_false h, if_neg h]; rfl

end Go.Proofs.Ytmidohjfajbpmaa
end
