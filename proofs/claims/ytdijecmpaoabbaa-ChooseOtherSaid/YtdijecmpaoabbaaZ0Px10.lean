-- written by wip/prt.py of this repo, by the kit's print, over contracts that are proved here by hand
import Derived.Test.YtdijecmpaoabbaaZ0GivHp
import Derived.Test.YtdijecmpaoabbaaZ0Px0
import Derived.Test.YtdijecmpaoabbaaZ0Px1
import Derived.Test.YtdijecmpaoabbaaZ0Px3
import Derived.Test.YtdijecmpaoabbaaZ0Px4
import Derived.Test.YtdijecmpaoabbaaZ0Px5
namespace Go.Proofs.Ytdijecmpaoabbaa.P
open Go.RowKit Go.Proofs.YtdijecmpaoabbaaW.PrintWords Go.Proofs.YtdijecmpaoabbaaW.PrintLast Go.Proofs.YtdijecmpaoabbaaW.PrintMore
attribute [local go_sem] max2_int min2_int max_two min_two max_three min_three max_four min_four   -- for this text's walks alone
set_option linter.unusedVariables false
set_option linter.unusedSimpArgs false

attribute [local go_sem high] eqA25
/-! ### skifflaw7_ChooseStays: function 7 -/
mutual
def skifflaw7_ChooseStays.j0 : Nat → ByteArray → Int → ByteArray → Int → Int → Int → Bool → Int → Int → Int → Int → Int → Option (Bool)
 | 0, _, _, _, _, _, _, _, _, _, _, _, _ => none
 | k + 1, x0, x1, x2, x3, x10, x11, x43, x408000, x408001, x408002, x408003, x408004 => if x43 = true then ((skifflaw0_Num.f x10).bind fun t412 => (some (t412 != 0))) else ((skiffref1_Base.f x11).bind fun bt413 => ((skiffref1_Torn.f x0 (wrap64 (bt413.1 + (wrap64 (4 * (wrap64 (Int.tmod (IntKind.u64.wrap (x1)) 72)))))) x2 (wrap64 (Int.tmod (IntKind.u64.wrap (x3)) 33))).bind fun bt415 => (if bt413.2 = 0 then (skifflaw7_ChooseStays.j1 k x11 bt413.2 bt415.1 (bt415.2 != 0) x408000 x408001 x408002 x408003 x408004) else (skifflaw7_ChooseStays.j1 k x11 bt413.2 bt415.1 true x408000 x408001 x408002 x408003 x408004))))
def skifflaw7_ChooseStays.j1 : Nat → Int → Int → ByteArray → Bool → Int → Int → Int → Int → Int → Option (Bool)
 | 0, _, _, _, _, _, _, _, _, _ => none
 | k + 1, x11, x14, x15, x74, x408000, x408001, x408002, x408003, x408004 => if x74 = true then (some (x14 == 0)) else ((choose_Active.f x15).bind fun bt417 => ((skiffref1_Scan.f k x15).bind fun bt424 => (skifflaw7_ChooseStays.l0 k x11 x15 bt417.2.2.2.2.2 bt424.1 0 x408000 x408001 x408002 x408003 x408004 bt417.1 bt417.2.1 bt417.2.2.1 bt417.2.2.2.1 bt417.2.2.2.2.1)))
def skifflaw7_ChooseStays.l0 : Nat → Int → ByteArray → Int → List (S25) → Int → Int → Int → Int → Int → Int → Int → Int → Int → Int → Int → Option (Bool)
 | 0, _, _, _, _, _, _, _, _, _, _, _, _, _, _, _ => none
 | k + 1, x11, x15, x18, x19, x21, x408000, x408001, x408002, x408003, x408004, x424000, x424001, x424002, x424003, x424004 => if x21 < (x19.length : Int) then (if 0 ≤ x21 then ((skiffref1_Good.f x15 ((rd_T25 x19 x21).f1.f0) ((rd_T25 x19 x21).f1.f1) ((rd_T25 x19 x21).f1.f2) ((rd_T25 x19 x21).f1.f3)).bind fun bt431 => (if bt431.1 = true then (if ((rd_T25 x19 x21).f1.f1) = x11 then ((skifflaw0_Num.f x18).bind fun t434 => (some (t434 == 0))) else (skifflaw7_ChooseStays.l0 k x11 x15 x18 x19 (wrap64 (x21 + 1)) x408000 x408001 x408002 x408003 x408004 x424000 x424001 x424002 x424003 x424004)) else (skifflaw7_ChooseStays.l0 k x11 x15 x18 x19 (wrap64 (x21 + 1)) x408000 x408001 x408002 x408003 x408004 x424000 x424001 x424002 x424003 x424004))) else (none)) else ((skifflaw0_Num.f x18).bind fun t428 => (if t428 = 0 then (if (x424000 == x408000 && ((x424001 == x408001 && (x424002 == x408002 && (x424003 == x408003 && (x424004 == x408004)))))) = true then ((skifflaw7_held.f k).bind fun t429 => (some ((t429.size : Int) == 768))) else (none)) else (none)))
end
def skifflaw7_ChooseStays.f (k : Nat) (a0 : ByteArray) (a1 : Int) (a2 : ByteArray) (a3 : Int) : Option (Bool) := (skifflaw7_awake.f k).bind fun t400 => (if t400 = true then ((choose_Active.f a0).bind fun bt401 => ((choose_Other.f a0).bind fun bt408 => ((skifflaw0_Num.f bt401.2.2.2.2.2).bind fun t410 => (if t410 = 0 then ((skifflaw0_Num.f bt408.2).bind fun t411 => (skifflaw7_ChooseStays.j0 k a0 a1 a2 a3 bt401.2.2.2.2.2 bt408.1 (t411 != 0) bt401.1 bt401.2.1 bt401.2.2.1 bt401.2.2.2.1 bt401.2.2.2.2.1)) else (skifflaw7_ChooseStays.j0 k a0 a1 a2 a3 bt401.2.2.2.2.2 bt408.1 true bt401.1 bt401.2.1 bt401.2.2.1 bt401.2.2.2.1 bt401.2.2.2.2.1))))) else (none))
set_option maxHeartbeats 8000000 in
set_option maxRecDepth 100000 in
theorem skifflaw7_ChooseStays.calls (k : Nat) (a0 : ByteArray) (a1 : Int) (a2 : ByteArray) (a3 : Int) (r : Bool) (w : World) (h : skifflaw7_ChooseStays.f k a0 a1 a2 a3 = some r) :
  Calls Try.prog 7 #[.string a0, .int .i64 a1, .string a2, .int .i64 a3] w fun e w' => e = .returned (.bool r) ∧ Below w.heap.size w w' := by
 have hu25 := Try.underlying25
 have hu23 := Try.underlying23
 have HB := Aside0.mk (Below.refl w.heap.size w)
 have H : ((skifflaw7_awake.f k).bind fun t400 => (if t400 = true then ((choose_Active.f a0).bind fun bt401 => ((choose_Other.f a0).bind fun bt408 => ((skifflaw0_Num.f bt401.2.2.2.2.2).bind fun t410 => (if t410 = 0 then ((skifflaw0_Num.f bt408.2).bind fun t411 => (skifflaw7_ChooseStays.j0 k a0 a1 a2 a3 bt401.2.2.2.2.2 bt408.1 (t411 != 0) bt401.1 bt401.2.1 bt401.2.2.1 bt401.2.2.2.1 bt401.2.2.2.2.1)) else (skifflaw7_ChooseStays.j0 k a0 a1 a2 a3 bt401.2.2.2.2.2 bt408.1 true bt401.1 bt401.2.1 bt401.2.2.1 bt401.2.2.2.1 bt401.2.2.2.2.1))))) else (none))) = some r := h
 clear h
 replace H := Option.bind_eq_some_iff.mp H
 obtain ⟨t400, A50, H⟩ := H
 replace H : (if t400 = true then ((choose_Active.f a0).bind fun bt401 => ((choose_Other.f a0).bind fun bt408 => ((skifflaw0_Num.f bt401.2.2.2.2.2).bind fun t410 => (if t410 = 0 then ((skifflaw0_Num.f bt408.2).bind fun t411 => (skifflaw7_ChooseStays.j0 k a0 a1 a2 a3 bt401.2.2.2.2.2 bt408.1 (t411 != 0) bt401.1 bt401.2.1 bt401.2.2.1 bt401.2.2.2.1 bt401.2.2.2.2.1)) else (skifflaw7_ChooseStays.j0 k a0 a1 a2 a3 bt401.2.2.2.2.2 bt408.1 true bt401.1 bt401.2.1 bt401.2.2.1 bt401.2.2.2.1 bt401.2.2.2.2.1))))) else (none)) = some r := H
 have A5 := Aside0.mk A50
 clear A50
 by_cases c6 : t400 = true
 case neg =>
  replace c6 := Bool.eq_false_iff.mpr c6
  subst c6
  have H1 : (none) = some r := by rw [if_neg (show ¬ (false = true) by decide)] at H; exact H
  clear H; have H := H1; clear H1
  exact absurd H (by simp)
 subst c6
 have H1 : ((choose_Active.f a0).bind fun bt401 => ((choose_Other.f a0).bind fun bt408 => ((skifflaw0_Num.f bt401.2.2.2.2.2).bind fun t410 => (if t410 = 0 then ((skifflaw0_Num.f bt408.2).bind fun t411 => (skifflaw7_ChooseStays.j0 k a0 a1 a2 a3 bt401.2.2.2.2.2 bt408.1 (t411 != 0) bt401.1 bt401.2.1 bt401.2.2.1 bt401.2.2.2.1 bt401.2.2.2.2.1)) else (skifflaw7_ChooseStays.j0 k a0 a1 a2 a3 bt401.2.2.2.2.2 bt408.1 true bt401.1 bt401.2.1 bt401.2.2.1 bt401.2.2.2.1 bt401.2.2.2.2.1))))) = some r := by rw [if_pos rfl] at H; exact H
 clear H; have H := H1; clear H1
 replace H := Option.bind_eq_some_iff.mp H
 obtain ⟨⟨t401, t402, t403, t404, t405, t406⟩, A70, H⟩ := H
 replace H : ((choose_Other.f a0).bind fun bt408 => ((skifflaw0_Num.f t406).bind fun t410 => (if t410 = 0 then ((skifflaw0_Num.f bt408.2).bind fun t411 => (skifflaw7_ChooseStays.j0 k a0 a1 a2 a3 t406 bt408.1 (t411 != 0) t401 t402 t403 t404 t405)) else (skifflaw7_ChooseStays.j0 k a0 a1 a2 a3 t406 bt408.1 true t401 t402 t403 t404 t405)))) = some r := H
 have A7 := Aside0.mk A70
 clear A70
 replace H := Option.bind_eq_some_iff.mp H
 obtain ⟨⟨t408, t409⟩, A80, H⟩ := H
 replace H : ((skifflaw0_Num.f t406).bind fun t410 => (if t410 = 0 then ((skifflaw0_Num.f t409).bind fun t411 => (skifflaw7_ChooseStays.j0 k a0 a1 a2 a3 t406 t408 (t411 != 0) t401 t402 t403 t404 t405)) else (skifflaw7_ChooseStays.j0 k a0 a1 a2 a3 t406 t408 true t401 t402 t403 t404 t405))) = some r := H
 have A8 := Aside0.mk A80
 clear A80
 have HC9 := Aside0.mk H
 clear H
 go_enter Try.func7, Try.ntmps7
 go_upto_region 5 with (first | ((with_reducible refine gate_callee (f := 13) rfl ?_); refine goesL_ (some 24) rfl rfl Try.func13 (by kernel_rfl) rfl #[] rfl (by (try simp only [List.map_toArray, List.map_cons, List.map_nil]); first | done | rfl | (simp only [List.length_drop, List.length_take]; rfl)) ?_; (with_reducible refine (skifflaw7_awake.calls k  true _ A5.out).mono ?_); rintro e w10 ⟨rfl, hb⟩; refine ⟨_, rfl, ?_⟩; have n0_ := Aside0.mk (below_step (by repeat (first | (with_reducible first | exact HB.out | apply below_alloc | apply pw_below_drewN | apply below_drew1) | exact HB.out)) hb); clear HB; have HB := n0_; clear n0_; (try clear hb); (try clear hb2); (try clear hk); (try clear hi)) | ((with_reducible refine gate_callee (f := 8) rfl ?_); refine goesL_ (some 28) rfl rfl Try.func8 (by kernel_rfl) rfl #[.string a0] rfl (by (try simp only [List.map_toArray, List.map_cons, List.map_nil]); first | done | rfl | (simp only [List.length_drop, List.length_take]; rfl)) ?_; (with_reducible refine (choose_Active.calls a0 t401 t402 t403 t404 t405 t406 _ A7.out).mono ?_); rintro e w11 ⟨rfl, hb⟩; refine ⟨_, rfl, ?_⟩; have n0_ := Aside0.mk (below_step (by repeat (first | (with_reducible first | exact HB.out | apply below_alloc | apply pw_below_drewN | apply below_drew1) | exact HB.out)) hb); clear HB; have HB := n0_; clear n0_; (try clear hb); (try clear hb2); (try clear hk); (try clear hi)) | ((with_reducible refine gate_dst (N := 9) rfl ?_); (try (refine gate_guard (by rfl) ?_; dsimp only)); refine box_event ?hg (N := 9) ?hd (cs := #[.int .i64 0, .int .i64 0, .int .i64 0, .int .i64 0, .int .i64 0]) (t := 25) ?hr ?_; (case hd => rfl); (case hg => rfl); (case hr => first | (go_simp; done) | (go_simp; rfl)); intro gb407 hg w12 hbox hb; have n0_ := Aside0.mk (below_step (by repeat (first | (with_reducible first | exact HB.out | apply below_alloc | apply pw_below_drewN | apply below_drew1) | exact HB.out)) hb); have n1_ := Aside0.mk (hbox); have n2_ := Aside0.mk ((by rw [hg]; exact (below_size (by repeat (first | (with_reducible first | exact HB.out | apply below_alloc | apply pw_below_drewN | apply below_drew1) | exact HB.out))) : w.heap.size ≤ gb407)); have n3_ := Aside0.mk ((by rw [hg]; exact (below_size (by repeat (first | (with_reducible first | exact HB.out | apply below_alloc | apply pw_below_drewN | apply below_drew1) | exact HB.out))) : w.heap.size ≤ gb407)); clear HB; have HB := n0_; have BK407 := n1_; have GW407 := n2_; have GE407 := n3_; clear n0_ n1_ n2_ n3_; clear hb hbox hg; have hcz13_0 : w12.cell? ⟨gb407, 0, none⟩ = some (.int .i64 0) := (blk_cell BK407.out 0).trans rfl; have hcz13_1 : w12.cell? ⟨gb407, 1, none⟩ = some (.int .i64 0) := (blk_cell BK407.out 1).trans rfl; have hcz13_2 : w12.cell? ⟨gb407, 2, none⟩ = some (.int .i64 0) := (blk_cell BK407.out 2).trans rfl; have hcz13_3 : w12.cell? ⟨gb407, 3, none⟩ = some (.int .i64 0) := (blk_cell BK407.out 3).trans rfl; have hcz13_4 : w12.cell? ⟨gb407, 4, none⟩ = some (.int .i64 0) := (blk_cell BK407.out 4).trans rfl; have hfz13_0 := blk_frozen BK407.out 0; have hfz13_1 := blk_frozen BK407.out 1; have hfz13_2 := blk_frozen BK407.out 2; have hfz13_3 := blk_frozen BK407.out 3; have hfz13_4 := blk_frozen BK407.out 4) | ((with_reducible refine gate_callee (f := 10) rfl ?_); refine goesL_ (some 33) rfl rfl Try.func10 (by kernel_rfl) rfl #[.string a0] rfl (by (try simp only [List.map_toArray, List.map_cons, List.map_nil]); first | done | rfl | (simp only [List.length_drop, List.length_take]; rfl)) ?_; (with_reducible refine (choose_Other.calls a0 t408 t409 _ A8.out).mono ?_); rintro e w14 ⟨rfl, hb⟩; refine ⟨_, rfl, ?_⟩; have n0_ := Aside0.mk (blk_below (g := gb407) (o := .cells #[.int .i64 t401, .int .i64 t402, .int .i64 t403, .int .i64 t404, .int .i64 t405] 25 (0, 0)) (by (with_reducible repeat (first | refine blk_drewN ?_ _ | refine blk_drew ?_ | refine blk_alloc ?_ _)); refine blk_put (cs := #[.int .i64 t401, .int .i64 t402, .int .i64 t403, .int .i64 t404, .int .i64 0]) ?_ 4 _ rfl; (with_reducible repeat (first | refine blk_drewN ?_ _ | refine blk_drew ?_ | refine blk_alloc ?_ _)); refine blk_put (cs := #[.int .i64 t401, .int .i64 t402, .int .i64 t403, .int .i64 0, .int .i64 0]) ?_ 3 _ rfl; (with_reducible repeat (first | refine blk_drewN ?_ _ | refine blk_drew ?_ | refine blk_alloc ?_ _)); refine blk_put (cs := #[.int .i64 t401, .int .i64 t402, .int .i64 0, .int .i64 0, .int .i64 0]) ?_ 2 _ rfl; (with_reducible repeat (first | refine blk_drewN ?_ _ | refine blk_drew ?_ | refine blk_alloc ?_ _)); refine blk_put (cs := #[.int .i64 t401, .int .i64 0, .int .i64 0, .int .i64 0, .int .i64 0]) ?_ 1 _ rfl; (with_reducible repeat (first | refine blk_drewN ?_ _ | refine blk_drew ?_ | refine blk_alloc ?_ _)); refine blk_put (cs := #[.int .i64 0, .int .i64 0, .int .i64 0, .int .i64 0, .int .i64 0]) ?_ 0 _ rfl; (with_reducible repeat (first | refine blk_drewN ?_ _ | refine blk_drew ?_ | refine blk_alloc ?_ _)); exact BK407.out) hb); have n1_ := Aside0.mk (below_step (by repeat (first | (with_reducible first | exact HB.out | apply below_alloc | apply pw_below_drewN | apply below_drew1 | refine below_set ?_ GE407.out) | exact HB.out)) hb); clear BK407; clear HB; have BK407 := n0_; have HB := n1_; clear n0_ n1_; (try clear hb); (try clear hb2); (try clear hk); (try clear hi)))
 (try simp only [Act.put, List.setIfInBounds_toArray, List.set_cons_zero, List.set_cons_succ])
 go_cut [43] (fun v43 wc => ∃ (kq : Nat) (x43_8 : Bool), v43 = .bool x43_8 ∧ Aside0 (skifflaw7_ChooseStays.j0 kq a0 a1 a2 a3 t406 t408 x43_8 t401 t402 t403 t404 t405 = some r) ∧ Aside0 (kq ≤ k) ∧ Aside0 (wc.heap[gb407]? = some (.cells #[.int .i64 t401, .int .i64 t402, .int .i64 t403, .int .i64 t404, .int .i64 t405] 25 (0, 0))) ∧ Aside0 (Below w.heap.size w wc))
 case first =>
  have H := HC9.out
  clear HC9
  replace H := Option.bind_eq_some_iff.mp H
  obtain ⟨t410, A150, H⟩ := H
  replace H : (if t410 = 0 then ((skifflaw0_Num.f t409).bind fun t411 => (skifflaw7_ChooseStays.j0 k a0 a1 a2 a3 t406 t408 (t411 != 0) t401 t402 t403 t404 t405)) else (skifflaw7_ChooseStays.j0 k a0 a1 a2 a3 t406 t408 true t401 t402 t403 t404 t405)) = some r := H
  have A15 := Aside0.mk A150
  clear A150
  by_cases c16 : t410 = 0
  case neg =>
   rw [if_neg c16] at H
   have c16b0 : (t410 == 0) = false := beq_eq_false_iff_ne.mpr c16
   have c16b1 : (t410 != 0) = true := bne_iff_ne.mpr c16
   (first | rw [c16b0] | rw [c16b1] | (simp only [i64_w, i32_w]; rw [c16b0]) | skip)
   have H' := Aside0.mk H
   clear H
   go_wp2_with (first | ((with_reducible refine gate_callee (f := 12) rfl ?_); refine goesL_ (some 37) rfl rfl Try.func12 (by kernel_rfl) rfl #[.int .i64 t406] rfl (by (try simp only [List.map_toArray, List.map_cons, List.map_nil]); first | done | rfl | (simp only [List.length_drop, List.length_take]; rfl)) ?_; (with_reducible refine (skifflaw0_Num.calls t406 t410 _ A15.out).mono ?_); rintro e w' ⟨rfl, ⟨nd, rfl⟩⟩; refine ⟨_, rfl, ?_⟩))
   go_meet
   case rel => exact ⟨_, (true), (by first | rfl | (simp; done) | (simp [*]; done)), H', ⟨by first | omega | exact Nat.le_refl _⟩, ⟨by (with_reducible repeat (first | refine blk_drewN ?_ _ | refine blk_drew ?_ | refine blk_alloc ?_ _)); exact BK407.out⟩, ⟨by repeat (first | (with_reducible first | exact HB.out | apply below_alloc | apply pw_below_drewN | apply below_drew1 | refine below_set ?_ GE407.out) | exact HB.out)⟩⟩
  rw [if_pos c16] at H
  have c16b0 : (t410 == 0) = true := beq_iff_eq.mpr c16
  have c16b1 : (t410 != 0) = false := bne_eq_false_iff_eq.mpr c16
  clear c16
  (first | rw [c16b0] | rw [c16b1] | (simp only [i64_w, i32_w]; rw [c16b0]) | skip)
  replace H := Option.bind_eq_some_iff.mp H
  obtain ⟨t411, A170, H⟩ := H
  replace H : (skifflaw7_ChooseStays.j0 k a0 a1 a2 a3 t406 t408 (t411 != 0) t401 t402 t403 t404 t405) = some r := H
  have A17 := Aside0.mk A170
  clear A170
  have H' := Aside0.mk H
  clear H
  go_wp2_with (first | ((with_reducible refine gate_callee (f := 12) rfl ?_); refine goesL_ (some 37) rfl rfl Try.func12 (by kernel_rfl) rfl #[.int .i64 t406] rfl (by (try simp only [List.map_toArray, List.map_cons, List.map_nil]); first | done | rfl | (simp only [List.length_drop, List.length_take]; rfl)) ?_; (with_reducible refine (skifflaw0_Num.calls t406 t410 _ A15.out).mono ?_); rintro e w' ⟨rfl, ⟨nd, rfl⟩⟩; refine ⟨_, rfl, ?_⟩) | (go_at_call 12; (with_reducible refine (skifflaw0_Num.calls t409 t411 _ A17.out).mono ?_); rintro e w' ⟨rfl, ⟨nd, rfl⟩⟩))
  go_meet
  case rel => exact ⟨_, ((t411 != 0)), (by first | rfl | (simp; done) | (simp [*]; done)), H', ⟨by first | omega | exact Nat.le_refl _⟩, ⟨by (with_reducible repeat (first | refine blk_drewN ?_ _ | refine blk_drew ?_ | refine blk_alloc ?_ _)); exact BK407.out⟩, ⟨by repeat (first | (with_reducible first | exact HB.out | apply below_alloc | apply pw_below_drewN | apply below_drew1 | refine below_set ?_ GE407.out) | exact HB.out)⟩⟩
 case rest =>
  clear HC9
  try clear c1
  try clear p2
  try clear c6
  try clear c7
  try clear c8
  try clear c10
  try clear c12
  try clear c13
  try clear c16
  try clear c16b0
  try clear c16b1
  try clear hcz13_0
  try clear hcz13_1
  try clear hcz13_2
  try clear hcz13_3
  try clear hcz13_4
  try clear hfz13_0
  try clear hfz13_1
  try clear hfz13_2
  try clear hfz13_3
  try clear hfz13_4
  obtain ⟨kq, x43_8, rfl, HA, HJ8, BK407, HB⟩ := hcut
  cases kq with
  | zero => exact absurd HA.out (by simp [skifflaw7_ChooseStays.j0])
  | succ kj8 =>
   have H := HA.out
   clear HA
   simp only [skifflaw7_ChooseStays.j0] at H
   by_cases c18 : x43_8 = true
   ·subst c18
    have H1 : ((skifflaw0_Num.f t406).bind fun t412 => (some (t412 != 0))) = some r := by rw [if_pos rfl] at H; exact H
    clear H; have H := H1; clear H1
    replace H := Option.bind_eq_some_iff.mp H
    obtain ⟨t412, A190, H⟩ := H
    replace H : (some (t412 != 0)) = some r := H
    have A19 := Aside0.mk A190
    clear A190
    obtain rfl := Option.some.inj H
    go_wp2_with (first | ((with_reducible refine gate_callee (f := 12) rfl ?_); refine goesL_ (some 45) rfl rfl Try.func12 (by kernel_rfl) rfl #[.int .i64 t406] rfl (by (try simp only [List.map_toArray, List.map_cons, List.map_nil]); first | done | rfl | (simp only [List.length_drop, List.length_take]; rfl)) ?_; (with_reducible refine (skifflaw0_Num.calls t406 t412 _ A19.out).mono ?_); rintro e w' ⟨rfl, ⟨nd, rfl⟩⟩; refine ⟨_, rfl, ?_⟩))
    go_ret
    exact ⟨by first | rfl | (simp [errW_none, errW_some] <;> rfl) | (simp [*, errW_none, errW_some] <;> rfl), by repeat (first | (with_reducible first | exact HB.out | apply below_alloc | apply pw_below_drewN | apply below_drew1 | refine below_set ?_ GE407.out) | exact HB.out)⟩
   ·replace c18 := Bool.eq_false_iff.mpr c18
    subst c18
    have H1 : ((skiffref1_Base.f t408).bind fun bt413 => ((skiffref1_Torn.f a0 (wrap64 (bt413.1 + (wrap64 (4 * (wrap64 (Int.tmod (IntKind.u64.wrap (a1)) 72)))))) a2 (wrap64 (Int.tmod (IntKind.u64.wrap (a3)) 33))).bind fun bt415 => (if bt413.2 = 0 then (skifflaw7_ChooseStays.j1 kj8 t408 bt413.2 bt415.1 (bt415.2 != 0) t401 t402 t403 t404 t405) else (skifflaw7_ChooseStays.j1 kj8 t408 bt413.2 bt415.1 true t401 t402 t403 t404 t405)))) = some r := by rw [if_neg (show ¬ (false = true) by decide)] at H; exact H
    clear H; have H := H1; clear H1
    replace H := Option.bind_eq_some_iff.mp H
    obtain ⟨⟨t413, t414⟩, A200, H⟩ := H
    replace H : ((skiffref1_Torn.f a0 (wrap64 (t413 + (wrap64 (4 * (wrap64 (Int.tmod (IntKind.u64.wrap (a1)) 72)))))) a2 (wrap64 (Int.tmod (IntKind.u64.wrap (a3)) 33))).bind fun bt415 => (if t414 = 0 then (skifflaw7_ChooseStays.j1 kj8 t408 t414 bt415.1 (bt415.2 != 0) t401 t402 t403 t404 t405) else (skifflaw7_ChooseStays.j1 kj8 t408 t414 bt415.1 true t401 t402 t403 t404 t405))) = some r := H
    have A20 := Aside0.mk A200
    clear A200
    replace H := Option.bind_eq_some_iff.mp H
    obtain ⟨⟨t415, t416⟩, A210, H⟩ := H
    replace H : (if t414 = 0 then (skifflaw7_ChooseStays.j1 kj8 t408 t414 t415 (t416 != 0) t401 t402 t403 t404 t405) else (skifflaw7_ChooseStays.j1 kj8 t408 t414 t415 true t401 t402 t403 t404 t405)) = some r := H
    have A21 := Aside0.mk A210
    clear A210
    have HC22 := Aside0.mk H
    clear H
    go_upto_region 9 with (first | ((with_reducible refine gate_callee (f := 19) rfl ?_); refine goesL_ (some 49) rfl rfl Try.func19 (by kernel_rfl) rfl #[.int .i64 t408] rfl (by (try simp only [List.map_toArray, List.map_cons, List.map_nil]); first | done | rfl | (simp only [List.length_drop, List.length_take]; rfl)) ?_; (with_reducible refine (skiffref1_Base.calls t408 t413 t414 _ A20.out).mono ?_); rintro e w' ⟨rfl, ⟨nd, rfl⟩⟩; refine ⟨_, rfl, ?_⟩) | ((with_reducible refine gate_callee (f := 20) rfl ?_); refine goesL_ (some 66) rfl rfl Try.func20 (by kernel_rfl) rfl #[.string a0, .int .i64 (wrap64 (t413 + (wrap64 (4 * (wrap64 (Int.tmod (IntKind.u64.wrap (a1)) 72)))))), .string a2, .int .i64 (wrap64 (Int.tmod (IntKind.u64.wrap (a3)) 33))] rfl (by (try simp only [List.map_toArray, List.map_cons, List.map_nil]); first | done | rfl | (simp only [List.length_drop, List.length_take]; rfl)) ?_; (with_reducible refine (skiffref1_Torn.calls a0 (wrap64 (t413 + (wrap64 (4 * (wrap64 (Int.tmod (IntKind.u64.wrap (a1)) 72)))))) a2 (wrap64 (Int.tmod (IntKind.u64.wrap (a3)) 33)) t415 t416 _ A21.out).mono ?_); rintro e w23 ⟨rfl, hb⟩; refine ⟨_, rfl, ?_⟩; have n0_ := Aside0.mk (blk_below (g := gb407) (o := .cells #[.int .i64 t401, .int .i64 t402, .int .i64 t403, .int .i64 t404, .int .i64 t405] 25 (0, 0)) (by (with_reducible repeat (first | refine blk_drewN ?_ _ | refine blk_drew ?_ | refine blk_alloc ?_ _)); exact BK407.out) hb); have n1_ := Aside0.mk (below_step (by repeat (first | (with_reducible first | exact HB.out | apply below_alloc | apply pw_below_drewN | apply below_drew1 | refine below_set ?_ GE407.out) | exact HB.out)) hb); clear BK407; clear HB; have BK407 := n0_; have HB := n1_; clear n0_ n1_; (try clear hb); (try clear hb2); (try clear hk); (try clear hi)))
    (try simp only [Act.put, List.setIfInBounds_toArray, List.set_cons_zero, List.set_cons_succ])
    go_cut [74] (fun v74 wc => ∃ (kq : Nat) (x74_21 : Bool), v74 = .bool x74_21 ∧ Aside0 (skifflaw7_ChooseStays.j1 kq t408 t414 t415 x74_21 t401 t402 t403 t404 t405 = some r) ∧ Aside0 (kq ≤ kj8) ∧ Aside0 (wc.heap[gb407]? = some (.cells #[.int .i64 t401, .int .i64 t402, .int .i64 t403, .int .i64 t404, .int .i64 t405] 25 (0, 0))) ∧ Aside0 (Below w.heap.size w wc))
    case first =>
     have H := HC22.out
     clear HC22
     by_cases c24 : t414 = 0
     case neg =>
      rw [if_neg c24] at H
      have c24b0 : (t414 == 0) = false := beq_eq_false_iff_ne.mpr c24
      have c24b1 : (t414 != 0) = true := bne_iff_ne.mpr c24
      (first | rw [c24b0] | rw [c24b1] | (simp only [i64_w, i32_w]; rw [c24b0]) | skip)
      have H' := Aside0.mk H
      clear H
      go_wp2
      go_meet
      case rel => exact ⟨_, (true), (by first | rfl | (simp; done) | (simp [*]; done)), H', ⟨by have := HJ8.out; first | omega | exact Nat.le_refl _⟩, ⟨by (with_reducible repeat (first | refine blk_drewN ?_ _ | refine blk_drew ?_ | refine blk_alloc ?_ _)); exact BK407.out⟩, ⟨by repeat (first | (with_reducible first | exact HB.out | apply below_alloc | apply pw_below_drewN | apply below_drew1 | refine below_set ?_ GE407.out) | exact HB.out)⟩⟩
     rw [if_pos c24] at H
     have c24b0 : (t414 == 0) = true := beq_iff_eq.mpr c24
     have c24b1 : (t414 != 0) = false := bne_eq_false_iff_eq.mpr c24
     clear c24
     (first | rw [c24b0] | rw [c24b1] | (simp only [i64_w, i32_w]; rw [c24b0]) | skip)
     have H' := Aside0.mk H
     clear H
     go_wp2
     go_meet
     case rel => exact ⟨_, ((t416 != 0)), (by first | rfl | (simp; done) | (simp [*]; done)), H', ⟨by have := HJ8.out; first | omega | exact Nat.le_refl _⟩, ⟨by (with_reducible repeat (first | refine blk_drewN ?_ _ | refine blk_drew ?_ | refine blk_alloc ?_ _)); exact BK407.out⟩, ⟨by repeat (first | (with_reducible first | exact HB.out | apply below_alloc | apply pw_below_drewN | apply below_drew1 | refine below_set ?_ GE407.out) | exact HB.out)⟩⟩
    case rest =>
     clear HC22
     try clear c1
     try clear c2
     try clear p2
     try clear c6
     try clear p6
     try clear c7
     try clear c8
     try clear c10
     try clear c12
     try clear c13
     try clear c16
     try clear c16b0
     try clear c16b1
     try clear c18
     try clear c19
     try clear c20
     try clear c24
     try clear c24b0
     try clear c24b1
     try clear hcz13_0
     try clear hcz13_1
     try clear hcz13_2
     try clear hcz13_3
     try clear hcz13_4
     try clear hfz13_0
     try clear hfz13_1
     try clear hfz13_2
     try clear hfz13_3
     try clear hfz13_4
     try clear p2
     obtain ⟨kq, x74_21, rfl, HA, HJ21, BK407, HB⟩ := hcut
     cases kq with
     | zero => exact absurd HA.out (by simp [skifflaw7_ChooseStays.j1])
     | succ kj21 =>
      have H := HA.out
      clear HA
      simp only [skifflaw7_ChooseStays.j1] at H
      by_cases c25 : x74_21 = true
      ·subst c25
       have H1 : (some (t414 == 0)) = some r := by rw [if_pos rfl] at H; exact H
       clear H; have H := H1; clear H1
       obtain rfl := Option.some.inj H
       go_wp2
       go_ret
       exact ⟨by first | rfl | (simp [errW_none, errW_some] <;> rfl) | (simp [*, errW_none, errW_some] <;> rfl), by repeat (first | (with_reducible first | exact HB.out | apply below_alloc | apply pw_below_drewN | apply below_drew1 | refine below_set ?_ GE407.out) | exact HB.out)⟩
      ·replace c25 := Bool.eq_false_iff.mpr c25
       subst c25
       have H1 : ((choose_Active.f t415).bind fun bt417 => ((skiffref1_Scan.f kj21 t415).bind fun bt424 => (skifflaw7_ChooseStays.l0 kj21 t408 t415 bt417.2.2.2.2.2 bt424.1 0 t401 t402 t403 t404 t405 bt417.1 bt417.2.1 bt417.2.2.1 bt417.2.2.2.1 bt417.2.2.2.2.1))) = some r := by rw [if_neg (show ¬ (false = true) by decide)] at H; exact H
       clear H; have H := H1; clear H1
       replace H := Option.bind_eq_some_iff.mp H
       obtain ⟨⟨t417, t418, t419, t420, t421, t422⟩, A260, H⟩ := H
       replace H : ((skiffref1_Scan.f kj21 t415).bind fun bt424 => (skifflaw7_ChooseStays.l0 kj21 t408 t415 t422 bt424.1 0 t401 t402 t403 t404 t405 t417 t418 t419 t420 t421)) = some r := H
       have A26 := Aside0.mk A260
       clear A260
       replace H := Option.bind_eq_some_iff.mp H
       obtain ⟨⟨t424, t425⟩, A270, H⟩ := H
       replace H : (skifflaw7_ChooseStays.l0 kj21 t408 t415 t422 t424 0 t401 t402 t403 t404 t405 t417 t418 t419 t420 t421) = some r := H
       have A27 := Aside0.mk A270
       clear A270
       have H' := Aside0.mk H
       clear H
       go_wp2_with (first | ((with_reducible refine gate_callee (f := 8) rfl ?_); refine goesL_ (some 79) rfl rfl Try.func8 (by kernel_rfl) rfl #[.string t415] rfl (by (try simp only [List.map_toArray, List.map_cons, List.map_nil]); first | done | rfl | (simp only [List.length_drop, List.length_take]; rfl)) ?_; (with_reducible refine (choose_Active.calls t415 t417 t418 t419 t420 t421 t422 _ A26.out).mono ?_); rintro e w28 ⟨rfl, hb⟩; refine ⟨_, rfl, ?_⟩; have n0_ := Aside0.mk (blk_below (g := gb407) (o := .cells #[.int .i64 t401, .int .i64 t402, .int .i64 t403, .int .i64 t404, .int .i64 t405] 25 (0, 0)) (by (with_reducible repeat (first | refine blk_drewN ?_ _ | refine blk_drew ?_ | refine blk_alloc ?_ _)); exact BK407.out) hb); have n1_ := Aside0.mk (below_step (by repeat (first | (with_reducible first | exact HB.out | apply below_alloc | apply pw_below_drewN | apply below_drew1 | refine below_set ?_ GE407.out) | exact HB.out)) hb); clear BK407; clear HB; have BK407 := n0_; have HB := n1_; clear n0_ n1_; (try clear hb); (try clear hb2); (try clear hk); (try clear hi)) | ((with_reducible refine gate_dst (N := 17) rfl ?_); (try (refine gate_guard (by rfl) ?_; dsimp only)); refine box_event ?hg (N := 17) ?hd (cs := #[.int .i64 0, .int .i64 0, .int .i64 0, .int .i64 0, .int .i64 0]) (t := 25) ?hr ?_; (case hd => rfl); (case hg => rfl); (case hr => first | (go_simp; done) | (go_simp; rfl)); intro gb423 hg w29 hbox hb; have n0_ := Aside0.mk (blk_below (g := gb407) (o := .cells #[.int .i64 t401, .int .i64 t402, .int .i64 t403, .int .i64 t404, .int .i64 t405] 25 (0, 0)) (by (with_reducible repeat (first | refine blk_drewN ?_ _ | refine blk_drew ?_ | refine blk_alloc ?_ _)); exact BK407.out) hb); have n1_ := Aside0.mk (below_step (by repeat (first | (with_reducible first | exact HB.out | apply below_alloc | apply pw_below_drewN | apply below_drew1 | refine below_set ?_ GE407.out) | exact HB.out)) hb); have n2_ := Aside0.mk (hbox); have n3_ := Aside0.mk ((by rw [hg]; exact (below_size (by repeat (first | (with_reducible first | exact HB.out | apply below_alloc | apply pw_below_drewN | apply below_drew1 | refine below_set ?_ GE407.out) | exact HB.out))) : w.heap.size ≤ gb423)); have n4_ := Aside0.mk ((by rw [hg]; exact (below_size (by repeat (first | (with_reducible first | exact HB.out | apply below_alloc | apply pw_below_drewN | apply below_drew1 | refine below_set ?_ GE407.out) | exact HB.out))) : w.heap.size ≤ gb423)); have n5_ := Aside0.mk ((by rw [hg]; exact Nat.ne_of_lt (blk_lt (g := gb407) (o := .cells #[.int .i64 t401, .int .i64 t402, .int .i64 t403, .int .i64 t404, .int .i64 t405] 25 (0, 0)) (by (with_reducible repeat (first | refine blk_drewN ?_ _ | refine blk_drew ?_ | refine blk_alloc ?_ _)); exact BK407.out)) : gb407 ≠ gb423)); have n6_ := Aside0.mk ((by rw [hg]; exact Nat.ne_of_gt (blk_lt (g := gb407) (o := .cells #[.int .i64 t401, .int .i64 t402, .int .i64 t403, .int .i64 t404, .int .i64 t405] 25 (0, 0)) (by (with_reducible repeat (first | refine blk_drewN ?_ _ | refine blk_drew ?_ | refine blk_alloc ?_ _)); exact BK407.out)) : gb423 ≠ gb407)); clear BK407; clear HB; have BK407 := n0_; have HB := n1_; have BK423 := n2_; have GW423 := n3_; have GE423 := n4_; have NB407_423 := n5_; have NB423_407 := n6_; clear n0_ n1_ n2_ n3_ n4_ n5_ n6_; clear hb hbox hg; have hnb30 := NB423_407.out; have hnc30 := NB407_423.out; have hcz31_0 : w29.cell? ⟨gb423, 0, none⟩ = some (.int .i64 0) := (blk_cell BK423.out 0).trans rfl; have hcz31_1 : w29.cell? ⟨gb423, 1, none⟩ = some (.int .i64 0) := (blk_cell BK423.out 1).trans rfl; have hcz31_2 : w29.cell? ⟨gb423, 2, none⟩ = some (.int .i64 0) := (blk_cell BK423.out 2).trans rfl; have hcz31_3 : w29.cell? ⟨gb423, 3, none⟩ = some (.int .i64 0) := (blk_cell BK423.out 3).trans rfl; have hcz31_4 : w29.cell? ⟨gb423, 4, none⟩ = some (.int .i64 0) := (blk_cell BK423.out 4).trans rfl; have hfz31_0 := blk_frozen BK423.out 0; have hfz31_1 := blk_frozen BK423.out 1; have hfz31_2 := blk_frozen BK423.out 2; have hfz31_3 := blk_frozen BK423.out 3; have hfz31_4 := blk_frozen BK423.out 4) | ((with_reducible refine gate_callee (f := 14) rfl ?_); refine goesL_ (some 84) rfl rfl Try.func14 (by kernel_rfl) rfl #[.string t415] rfl (by (try simp only [List.map_toArray, List.map_cons, List.map_nil]); first | done | rfl | (simp only [List.length_drop, List.length_take]; rfl)) ?_; (with_reducible refine (skiffref1_Scan.calls kj21 t415 t424 t425 _ A27.out).mono ?_); rintro e w32 ⟨v426, rfl, ho0, hb⟩; refine ⟨_, rfl, ?_⟩; have n0_ := Aside0.mk (Kd.R_lower (Kd.R_newB (Kd.R_newB ho0 (g := gb407) (o := .cells #[.int .i64 t401, .int .i64 t402, .int .i64 t403, .int .i64 t404, .int .i64 t405] 25 (0, 0)) (by (with_reducible repeat (first | refine blk_drewN ?_ _ | refine blk_drew ?_ | refine blk_alloc ?_ _)); refine blk_far ?_ NB407_423.out _; (with_reducible repeat (first | refine blk_drewN ?_ _ | refine blk_drew ?_ | refine blk_alloc ?_ _)); refine blk_far ?_ NB407_423.out _; (with_reducible repeat (first | refine blk_drewN ?_ _ | refine blk_drew ?_ | refine blk_alloc ?_ _)); refine blk_far ?_ NB407_423.out _; (with_reducible repeat (first | refine blk_drewN ?_ _ | refine blk_drew ?_ | refine blk_alloc ?_ _)); refine blk_far ?_ NB407_423.out _; (with_reducible repeat (first | refine blk_drewN ?_ _ | refine blk_drew ?_ | refine blk_alloc ?_ _)); refine blk_far ?_ NB407_423.out _; (with_reducible repeat (first | refine blk_drewN ?_ _ | refine blk_drew ?_ | refine blk_alloc ?_ _)); exact BK407.out)) (g := gb423) (o := .cells #[.int .i64 t417, .int .i64 t418, .int .i64 t419, .int .i64 t420, .int .i64 t421] 25 (0, 0)) (by (with_reducible repeat (first | refine blk_drewN ?_ _ | refine blk_drew ?_ | refine blk_alloc ?_ _)); refine blk_put (cs := #[.int .i64 t417, .int .i64 t418, .int .i64 t419, .int .i64 t420, .int .i64 0]) ?_ 4 _ rfl; (with_reducible repeat (first | refine blk_drewN ?_ _ | refine blk_drew ?_ | refine blk_alloc ?_ _)); refine blk_put (cs := #[.int .i64 t417, .int .i64 t418, .int .i64 t419, .int .i64 0, .int .i64 0]) ?_ 3 _ rfl; (with_reducible repeat (first | refine blk_drewN ?_ _ | refine blk_drew ?_ | refine blk_alloc ?_ _)); refine blk_put (cs := #[.int .i64 t417, .int .i64 t418, .int .i64 0, .int .i64 0, .int .i64 0]) ?_ 2 _ rfl; (with_reducible repeat (first | refine blk_drewN ?_ _ | refine blk_drew ?_ | refine blk_alloc ?_ _)); refine blk_put (cs := #[.int .i64 t417, .int .i64 0, .int .i64 0, .int .i64 0, .int .i64 0]) ?_ 1 _ rfl; (with_reducible repeat (first | refine blk_drewN ?_ _ | refine blk_drew ?_ | refine blk_alloc ?_ _)); refine blk_put (cs := #[.int .i64 0, .int .i64 0, .int .i64 0, .int .i64 0, .int .i64 0]) ?_ 0 _ rfl; (with_reducible repeat (first | refine blk_drewN ?_ _ | refine blk_drew ?_ | refine blk_alloc ?_ _)); exact BK423.out)) (below_size (by repeat (first | (with_reducible first | exact HB.out | apply below_alloc | apply pw_below_drewN | apply below_drew1 | refine below_set ?_ GE407.out | refine below_set ?_ GE423.out) | exact HB.out)))); have n1_ := Aside0.mk (blk_below (g := gb407) (o := .cells #[.int .i64 t401, .int .i64 t402, .int .i64 t403, .int .i64 t404, .int .i64 t405] 25 (0, 0)) (by (with_reducible repeat (first | refine blk_drewN ?_ _ | refine blk_drew ?_ | refine blk_alloc ?_ _)); refine blk_far ?_ NB407_423.out _; (with_reducible repeat (first | refine blk_drewN ?_ _ | refine blk_drew ?_ | refine blk_alloc ?_ _)); refine blk_far ?_ NB407_423.out _; (with_reducible repeat (first | refine blk_drewN ?_ _ | refine blk_drew ?_ | refine blk_alloc ?_ _)); refine blk_far ?_ NB407_423.out _; (with_reducible repeat (first | refine blk_drewN ?_ _ | refine blk_drew ?_ | refine blk_alloc ?_ _)); refine blk_far ?_ NB407_423.out _; (with_reducible repeat (first | refine blk_drewN ?_ _ | refine blk_drew ?_ | refine blk_alloc ?_ _)); refine blk_far ?_ NB407_423.out _; (with_reducible repeat (first | refine blk_drewN ?_ _ | refine blk_drew ?_ | refine blk_alloc ?_ _)); exact BK407.out) hb); have n2_ := Aside0.mk (blk_below (g := gb423) (o := .cells #[.int .i64 t417, .int .i64 t418, .int .i64 t419, .int .i64 t420, .int .i64 t421] 25 (0, 0)) (by (with_reducible repeat (first | refine blk_drewN ?_ _ | refine blk_drew ?_ | refine blk_alloc ?_ _)); refine blk_put (cs := #[.int .i64 t417, .int .i64 t418, .int .i64 t419, .int .i64 t420, .int .i64 0]) ?_ 4 _ rfl; (with_reducible repeat (first | refine blk_drewN ?_ _ | refine blk_drew ?_ | refine blk_alloc ?_ _)); refine blk_put (cs := #[.int .i64 t417, .int .i64 t418, .int .i64 t419, .int .i64 0, .int .i64 0]) ?_ 3 _ rfl; (with_reducible repeat (first | refine blk_drewN ?_ _ | refine blk_drew ?_ | refine blk_alloc ?_ _)); refine blk_put (cs := #[.int .i64 t417, .int .i64 t418, .int .i64 0, .int .i64 0, .int .i64 0]) ?_ 2 _ rfl; (with_reducible repeat (first | refine blk_drewN ?_ _ | refine blk_drew ?_ | refine blk_alloc ?_ _)); refine blk_put (cs := #[.int .i64 t417, .int .i64 0, .int .i64 0, .int .i64 0, .int .i64 0]) ?_ 1 _ rfl; (with_reducible repeat (first | refine blk_drewN ?_ _ | refine blk_drew ?_ | refine blk_alloc ?_ _)); refine blk_put (cs := #[.int .i64 0, .int .i64 0, .int .i64 0, .int .i64 0, .int .i64 0]) ?_ 0 _ rfl; (with_reducible repeat (first | refine blk_drewN ?_ _ | refine blk_drew ?_ | refine blk_alloc ?_ _)); exact BK423.out) hb); have n3_ := Aside0.mk (below_step (by repeat (first | (with_reducible first | exact HB.out | apply below_alloc | apply pw_below_drewN | apply below_drew1 | refine below_set ?_ GE407.out | refine below_set ?_ GE423.out) | exact HB.out)) hb); clear BK407; clear BK423; clear HB; have HO427 := n0_; have BK407 := n1_; have BK423 := n2_; have HB := n3_; clear n0_ n1_ n2_ n3_; (try clear hb); (try clear hb2); (try clear hk); (try clear hi); (try clear ho0)))
       go_loopg [21] kj21 (fun kq v21 w' => ∃ (x21_3 : Int), v21 = .int .i64 x21_3 ∧ Aside0 (skifflaw7_ChooseStays.l0 kq t408 t415 t422 t424 x21_3 t401 t402 t403 t404 t405 t417 t418 t419 t420 t421 = some r) ∧ Aside0 (kq ≤ kj21) ∧ Aside0 (Kd.R k25 25 w' w.heap.size (fun k_ => k_ ≠ gb407 ∧ k_ ≠ gb423) v426 t424) ∧ Aside0 (w'.heap[gb407]? = some (.cells #[.int .i64 t401, .int .i64 t402, .int .i64 t403, .int .i64 t404, .int .i64 t405] 25 (0, 0))) ∧ Aside0 (w'.heap[gb423]? = some (.cells #[.int .i64 t417, .int .i64 t418, .int .i64 t419, .int .i64 t420, .int .i64 t421] 25 (0, 0))) ∧ Aside0 (Below w.heap.size w w'))
       case atStart => exact ⟨(0), (by first | rfl | (simp; done) | (simp [*]; done)), H', ⟨Nat.le_refl _⟩, ⟨by (with_reducible repeat (first | apply Kd.R_alloc | apply Kd.R_drewN | apply Kd.R_drew)); exact Kd.R_mono HO427.out (fun _ hk => ⟨hk.1.2, hk.2⟩)⟩, ⟨by (with_reducible repeat (first | refine blk_drewN ?_ _ | refine blk_drew ?_ | refine blk_alloc ?_ _)); exact BK407.out⟩, ⟨by (with_reducible repeat (first | refine blk_drewN ?_ _ | refine blk_drew ?_ | refine blk_alloc ?_ _)); exact BK423.out⟩, ⟨by repeat (first | (with_reducible first | exact HB.out | apply below_alloc | apply pw_below_drewN | apply below_drew1 | refine below_set ?_ GE407.out | refine below_set ?_ GE423.out) | exact HB.out)⟩⟩
       case round =>
        clear H'
        try clear c1
        try clear c2
        try clear p2
        try clear c3
        try clear c6
        try clear p6
        try clear c7
        try clear c8
        try clear c10
        try clear c12
        try clear c13
        try clear c14
        try clear c16
        try clear c16b0
        try clear c16b1
        try clear c18
        try clear c19
        try clear c20
        try clear c24
        try clear c24b0
        try clear c24b1
        try clear c25
        try clear c30
        try clear hcz13_0
        try clear hcz13_1
        try clear hcz13_2
        try clear hcz13_3
        try clear hcz13_4
        try clear hcz31_0
        try clear hcz31_1
        try clear hcz31_2
        try clear hcz31_3
        try clear hcz31_4
        try clear hfz13_0
        try clear hfz13_1
        try clear hfz13_2
        try clear hfz13_3
        try clear hfz13_4
        try clear hfz31_0
        try clear hfz31_1
        try clear hfz31_2
        try clear hfz31_3
        try clear hfz31_4
        try clear p2
        try clear p6
        obtain ⟨x21_3, rfl, HA, HK3, HO_19, BK407, BK423, HB⟩ := hrel
        cases gk with
        | zero => exact absurd HA.out (by simp [skifflaw7_ChooseStays.l0])
        | succ k3 =>
         have H := HA.out
         clear HA
         simp only [skifflaw7_ChooseStays.l0] at H
         by_cases c33 : x21_3 < (t424.length : Int)
         ·rw [if_pos c33] at H
          have c33b0 : decide (x21_3 < (t424.length : Int)) = true := decide_eq_true c33
          clear c33
          by_cases c34 : 0 ≤ x21_3
          case neg =>
           rw [if_neg c34] at H
           exact absurd H (by simp)
          rw [if_pos c34] at H
          have c34b0 : decide (0 ≤ x21_3) = true := decide_eq_true c34
          clear c34
          replace H := Option.bind_eq_some_iff.mp H
          obtain ⟨⟨t431, t432⟩, A350, H⟩ := H
          replace H : (if t431 = true then (if ((rd_T25 t424 x21_3).f1.f1) = t408 then ((skifflaw0_Num.f t422).bind fun t434 => (some (t434 == 0))) else (skifflaw7_ChooseStays.l0 k3 t408 t415 t422 t424 (wrap64 (x21_3 + 1)) t401 t402 t403 t404 t405 t417 t418 t419 t420 t421)) else (skifflaw7_ChooseStays.l0 k3 t408 t415 t422 t424 (wrap64 (x21_3 + 1)) t401 t402 t403 t404 t405 t417 t418 t419 t420 t421)) = some r := H
          have A35 := Aside0.mk A350
          clear A350
          by_cases c36 : t431 = true
          ·subst c36
           have H1 : (if ((rd_T25 t424 x21_3).f1.f1) = t408 then ((skifflaw0_Num.f t422).bind fun t434 => (some (t434 == 0))) else (skifflaw7_ChooseStays.l0 k3 t408 t415 t422 t424 (wrap64 (x21_3 + 1)) t401 t402 t403 t404 t405 t417 t418 t419 t420 t421)) = some r := by rw [if_pos rfl] at H; exact H
           clear H; have H := H1; clear H1
           by_cases c37 : ((rd_T25 t424 x21_3).f1.f1) = t408
           ·rw [if_pos c37] at H
            have c37b0 : (((rd_T25 t424 x21_3).f1.f1) == t408) = true := beq_iff_eq.mpr c37
            have c37b1 : (((rd_T25 t424 x21_3).f1.f1) != t408) = false := bne_eq_false_iff_eq.mpr c37
            clear c37
            replace H := Option.bind_eq_some_iff.mp H
            obtain ⟨t434, A380, H⟩ := H
            replace H : (some (t434 == 0)) = some r := H
            have A38 := Aside0.mk A380
            clear A380
            obtain rfl := Option.some.inj H
            obtain ⟨Ao39, co39, eo39⟩ := Kd.R_slice HO_19.out
            subst eo39
            have p430 : 0 ≤ (x21_3 : Int) := of_decide_eq_true (by first | (with_reducible assumption) | assumption)
            have q430 : x21_3 < (t424.length : Int) := of_decide_eq_true (by first | (with_reducible assumption) | assumption)
            obtain ⟨ad430, e430, hx430_0, hx430_1, hx430_2, hx430_3, hx430_4⟩ := at_T25 (Kd.R_reads' HO_19.out).2.2 x21_3 p430 q430
            cases e430
            replace p430 := eq_true p430
            replace q430 := eq_true q430
            go_wp2_with (first | ((with_reducible refine gate_callee (f := 15) rfl ?_); refine goesL_ (some 100) rfl rfl Try.func15 (by kernel_rfl) rfl #[.string t415, .agg #[.int .i64 ((rd_T25 t424 x21_3).f1.f0), .int .i64 ((rd_T25 t424 x21_3).f1.f1), .int .i64 ((rd_T25 t424 x21_3).f1.f2), .int .i64 ((rd_T25 t424 x21_3).f1.f3)]] rfl (by (try simp only [List.map_toArray, List.map_cons, List.map_nil]); first | done | rfl | (simp only [List.length_drop, List.length_take]; rfl)) ?_; (with_reducible refine (skiffref1_Good.calls t415 ((rd_T25 t424 x21_3).f1.f0) ((rd_T25 t424 x21_3).f1.f1) ((rd_T25 t424 x21_3).f1.f2) ((rd_T25 t424 x21_3).f1.f3) true t432 _ A35.out).mono ?_); rintro e w40 ⟨rfl, hb⟩; refine ⟨_, rfl, ?_⟩; have n0_ := Aside0.mk (Kd.R_below (by (with_reducible repeat (first | apply Kd.R_alloc | apply Kd.R_drewN | apply Kd.R_drew)); exact HO_19.out) hb); have n1_ := Aside0.mk (blk_below (g := gb407) (o := .cells #[.int .i64 t401, .int .i64 t402, .int .i64 t403, .int .i64 t404, .int .i64 t405] 25 (0, 0)) (by (with_reducible repeat (first | refine blk_drewN ?_ _ | refine blk_drew ?_ | refine blk_alloc ?_ _)); exact BK407.out) hb); have n2_ := Aside0.mk (blk_below (g := gb423) (o := .cells #[.int .i64 t417, .int .i64 t418, .int .i64 t419, .int .i64 t420, .int .i64 t421] 25 (0, 0)) (by (with_reducible repeat (first | refine blk_drewN ?_ _ | refine blk_drew ?_ | refine blk_alloc ?_ _)); exact BK423.out) hb); have n3_ := Aside0.mk (below_step (by repeat (first | (with_reducible first | exact HB.out | apply below_alloc | apply pw_below_drewN | apply below_drew1 | refine below_set ?_ GE407.out | refine below_set ?_ GE423.out) | exact HB.out)) hb); clear HO_19; clear BK407; clear BK423; clear HB; have HO_19 := n0_; have BK407 := n1_; have BK423 := n2_; have HB := n3_; clear n0_ n1_ n2_ n3_; (try clear hb); (try clear hb2); (try clear hk); (try clear hi); have p433 : 0 ≤ (x21_3 : Int) := of_decide_eq_true (by first | (with_reducible assumption) | assumption); have q433 : x21_3 < (t424.length : Int) := of_decide_eq_true (by first | (with_reducible assumption) | assumption); obtain ⟨ad433, e433, hx433_0, hx433_1, hx433_2, hx433_3, hx433_4⟩ := at_T25 (Kd.R_reads' HO_19.out).2.2 x21_3 p433 q433; obtain rfl : ad430 = ad433 := (by injection e433); replace p433 := eq_true p433; replace q433 := eq_true q433) | ((with_reducible refine gate_callee (f := 12) rfl ?_); refine goesL_ (some 115) rfl rfl Try.func12 (by kernel_rfl) rfl #[.int .i64 t422] rfl (by (try simp only [List.map_toArray, List.map_cons, List.map_nil]); first | done | rfl | (simp only [List.length_drop, List.length_take]; rfl)) ?_; (with_reducible refine (skifflaw0_Num.calls t422 t434 _ A38.out).mono ?_); rintro e w' ⟨rfl, ⟨nd, rfl⟩⟩; refine ⟨_, rfl, ?_⟩))
            go_ret
            exact ⟨by first | rfl | (simp [errW_none, errW_some] <;> rfl) | (simp [*, errW_none, errW_some] <;> rfl), by repeat (first | (with_reducible first | exact HB.out | apply below_alloc | apply pw_below_drewN | apply below_drew1 | refine below_set ?_ GE407.out | refine below_set ?_ GE423.out) | exact HB.out)⟩
           ·rw [if_neg c37] at H
            have c37b0 : (((rd_T25 t424 x21_3).f1.f1) == t408) = false := beq_eq_false_iff_ne.mpr c37
            have c37b1 : (((rd_T25 t424 x21_3).f1.f1) != t408) = true := bne_iff_ne.mpr c37
            have H' := Aside0.mk H
            clear H
            obtain ⟨Ao41, co41, eo41⟩ := Kd.R_slice HO_19.out
            subst eo41
            have p430 : 0 ≤ (x21_3 : Int) := of_decide_eq_true (by first | (with_reducible assumption) | assumption)
            have q430 : x21_3 < (t424.length : Int) := of_decide_eq_true (by first | (with_reducible assumption) | assumption)
            obtain ⟨ad430, e430, hx430_0, hx430_1, hx430_2, hx430_3, hx430_4⟩ := at_T25 (Kd.R_reads' HO_19.out).2.2 x21_3 p430 q430
            cases e430
            replace p430 := eq_true p430
            replace q430 := eq_true q430
            go_wp2_with (first | ((with_reducible refine gate_callee (f := 15) rfl ?_); refine goesL_ (some 100) rfl rfl Try.func15 (by kernel_rfl) rfl #[.string t415, .agg #[.int .i64 ((rd_T25 t424 x21_3).f1.f0), .int .i64 ((rd_T25 t424 x21_3).f1.f1), .int .i64 ((rd_T25 t424 x21_3).f1.f2), .int .i64 ((rd_T25 t424 x21_3).f1.f3)]] rfl (by (try simp only [List.map_toArray, List.map_cons, List.map_nil]); first | done | rfl | (simp only [List.length_drop, List.length_take]; rfl)) ?_; (with_reducible refine (skiffref1_Good.calls t415 ((rd_T25 t424 x21_3).f1.f0) ((rd_T25 t424 x21_3).f1.f1) ((rd_T25 t424 x21_3).f1.f2) ((rd_T25 t424 x21_3).f1.f3) true t432 _ A35.out).mono ?_); rintro e w42 ⟨rfl, hb⟩; refine ⟨_, rfl, ?_⟩; have n0_ := Aside0.mk (Kd.R_below (by (with_reducible repeat (first | apply Kd.R_alloc | apply Kd.R_drewN | apply Kd.R_drew)); exact HO_19.out) hb); have n1_ := Aside0.mk (blk_below (g := gb407) (o := .cells #[.int .i64 t401, .int .i64 t402, .int .i64 t403, .int .i64 t404, .int .i64 t405] 25 (0, 0)) (by (with_reducible repeat (first | refine blk_drewN ?_ _ | refine blk_drew ?_ | refine blk_alloc ?_ _)); exact BK407.out) hb); have n2_ := Aside0.mk (blk_below (g := gb423) (o := .cells #[.int .i64 t417, .int .i64 t418, .int .i64 t419, .int .i64 t420, .int .i64 t421] 25 (0, 0)) (by (with_reducible repeat (first | refine blk_drewN ?_ _ | refine blk_drew ?_ | refine blk_alloc ?_ _)); exact BK423.out) hb); have n3_ := Aside0.mk (below_step (by repeat (first | (with_reducible first | exact HB.out | apply below_alloc | apply pw_below_drewN | apply below_drew1 | refine below_set ?_ GE407.out | refine below_set ?_ GE423.out) | exact HB.out)) hb); clear HO_19; clear BK407; clear BK423; clear HB; have HO_19 := n0_; have BK407 := n1_; have BK423 := n2_; have HB := n3_; clear n0_ n1_ n2_ n3_; (try clear hb); (try clear hb2); (try clear hk); (try clear hi); have p433 : 0 ≤ (x21_3 : Int) := of_decide_eq_true (by first | (with_reducible assumption) | assumption); have q433 : x21_3 < (t424.length : Int) := of_decide_eq_true (by first | (with_reducible assumption) | assumption); obtain ⟨ad433, e433, hx433_0, hx433_1, hx433_2, hx433_3, hx433_4⟩ := at_T25 (Kd.R_reads' HO_19.out).2.2 x21_3 p433 q433; obtain rfl : ad430 = ad433 := (by injection e433); replace p433 := eq_true p433; replace q433 := eq_true q433))
            go_roundg k3
            case measure => have := HJ8.out; have := HJ21.out; have := HK3.out; omega
            case rel => exact ⟨(wrap64 (x21_3 + 1)), (by first | rfl | (simp; done) | (simp [*]; done)), H', ⟨by have := HJ8.out; have := HJ21.out; have := HK3.out; omega⟩, ⟨by (with_reducible repeat (first | apply Kd.R_alloc | apply Kd.R_drewN | apply Kd.R_drew)); exact HO_19.out⟩, ⟨by (with_reducible repeat (first | refine blk_drewN ?_ _ | refine blk_drew ?_ | refine blk_alloc ?_ _)); exact BK407.out⟩, ⟨by (with_reducible repeat (first | refine blk_drewN ?_ _ | refine blk_drew ?_ | refine blk_alloc ?_ _)); exact BK423.out⟩, ⟨by repeat (first | (with_reducible first | exact HB.out | apply below_alloc | apply pw_below_drewN | apply below_drew1 | refine below_set ?_ GE407.out | refine below_set ?_ GE423.out) | exact HB.out)⟩⟩
          ·replace c36 := Bool.eq_false_iff.mpr c36
           subst c36
           have H1 : (skifflaw7_ChooseStays.l0 k3 t408 t415 t422 t424 (wrap64 (x21_3 + 1)) t401 t402 t403 t404 t405 t417 t418 t419 t420 t421) = some r := by rw [if_neg (show ¬ (false = true) by decide)] at H; exact H
           clear H; have H := H1; clear H1
           have H' := Aside0.mk H
           clear H
           obtain ⟨Ao43, co43, eo43⟩ := Kd.R_slice HO_19.out
           subst eo43
           have p430 : 0 ≤ (x21_3 : Int) := of_decide_eq_true (by first | (with_reducible assumption) | assumption)
           have q430 : x21_3 < (t424.length : Int) := of_decide_eq_true (by first | (with_reducible assumption) | assumption)
           obtain ⟨ad430, e430, hx430_0, hx430_1, hx430_2, hx430_3, hx430_4⟩ := at_T25 (Kd.R_reads' HO_19.out).2.2 x21_3 p430 q430
           cases e430
           replace p430 := eq_true p430
           replace q430 := eq_true q430
           go_wp2_with (first | ((with_reducible refine gate_callee (f := 15) rfl ?_); refine goesL_ (some 100) rfl rfl Try.func15 (by kernel_rfl) rfl #[.string t415, .agg #[.int .i64 ((rd_T25 t424 x21_3).f1.f0), .int .i64 ((rd_T25 t424 x21_3).f1.f1), .int .i64 ((rd_T25 t424 x21_3).f1.f2), .int .i64 ((rd_T25 t424 x21_3).f1.f3)]] rfl (by (try simp only [List.map_toArray, List.map_cons, List.map_nil]); first | done | rfl | (simp only [List.length_drop, List.length_take]; rfl)) ?_; (with_reducible refine (skiffref1_Good.calls t415 ((rd_T25 t424 x21_3).f1.f0) ((rd_T25 t424 x21_3).f1.f1) ((rd_T25 t424 x21_3).f1.f2) ((rd_T25 t424 x21_3).f1.f3) false t432 _ A35.out).mono ?_); rintro e w44 ⟨rfl, hb⟩; refine ⟨_, rfl, ?_⟩; have n0_ := Aside0.mk (Kd.R_below (by (with_reducible repeat (first | apply Kd.R_alloc | apply Kd.R_drewN | apply Kd.R_drew)); exact HO_19.out) hb); have n1_ := Aside0.mk (blk_below (g := gb407) (o := .cells #[.int .i64 t401, .int .i64 t402, .int .i64 t403, .int .i64 t404, .int .i64 t405] 25 (0, 0)) (by (with_reducible repeat (first | refine blk_drewN ?_ _ | refine blk_drew ?_ | refine blk_alloc ?_ _)); exact BK407.out) hb); have n2_ := Aside0.mk (blk_below (g := gb423) (o := .cells #[.int .i64 t417, .int .i64 t418, .int .i64 t419, .int .i64 t420, .int .i64 t421] 25 (0, 0)) (by (with_reducible repeat (first | refine blk_drewN ?_ _ | refine blk_drew ?_ | refine blk_alloc ?_ _)); exact BK423.out) hb); have n3_ := Aside0.mk (below_step (by repeat (first | (with_reducible first | exact HB.out | apply below_alloc | apply pw_below_drewN | apply below_drew1 | refine below_set ?_ GE407.out | refine below_set ?_ GE423.out) | exact HB.out)) hb); clear HO_19; clear BK407; clear BK423; clear HB; have HO_19 := n0_; have BK407 := n1_; have BK423 := n2_; have HB := n3_; clear n0_ n1_ n2_ n3_; (try clear hb); (try clear hb2); (try clear hk); (try clear hi)))
           go_roundg k3
           case measure => have := HJ8.out; have := HJ21.out; have := HK3.out; omega
           case rel => exact ⟨(wrap64 (x21_3 + 1)), (by first | rfl | (simp; done) | (simp [*]; done)), H', ⟨by have := HJ8.out; have := HJ21.out; have := HK3.out; omega⟩, ⟨by (with_reducible repeat (first | apply Kd.R_alloc | apply Kd.R_drewN | apply Kd.R_drew)); exact HO_19.out⟩, ⟨by (with_reducible repeat (first | refine blk_drewN ?_ _ | refine blk_drew ?_ | refine blk_alloc ?_ _)); exact BK407.out⟩, ⟨by (with_reducible repeat (first | refine blk_drewN ?_ _ | refine blk_drew ?_ | refine blk_alloc ?_ _)); exact BK423.out⟩, ⟨by repeat (first | (with_reducible first | exact HB.out | apply below_alloc | apply pw_below_drewN | apply below_drew1 | refine below_set ?_ GE407.out | refine below_set ?_ GE423.out) | exact HB.out)⟩⟩
         ·rw [if_neg c33] at H
          have c33b0 : decide (x21_3 < (t424.length : Int)) = false := decide_eq_false c33
          clear c33
          replace H := Option.bind_eq_some_iff.mp H
          obtain ⟨t428, A450, H⟩ := H
          replace H : (if t428 = 0 then (if (t417 == t401 && ((t418 == t402 && (t419 == t403 && (t420 == t404 && (t421 == t405)))))) = true then ((skifflaw7_held.f k3).bind fun t429 => (some ((t429.size : Int) == 768))) else (none)) else (none)) = some r := H
          have A45 := Aside0.mk A450
          clear A450
          by_cases c46 : t428 = 0
          case neg =>
           rw [if_neg c46] at H
           exact absurd H (by simp)
          rw [if_pos c46] at H
          have c46b0 : (t428 == 0) = true := beq_iff_eq.mpr c46
          have c46b1 : (t428 != 0) = false := bne_eq_false_iff_eq.mpr c46
          clear c46
          by_cases c47 : (t417 == t401 && ((t418 == t402 && (t419 == t403 && (t420 == t404 && (t421 == t405)))))) = true
          case neg =>
           rw [if_neg c47] at H
           exact absurd H (by simp)
          rw [if_pos c47] at H
          have c47b0 : (t417 == t401 && ((t418 == t402 && (t419 == t403 && (t420 == t404 && (t421 == t405)))))) = true := c47
          (try (have c47b1 : decide (t417 = t401 && ((t418 == t402 && (t419 == t403 && (t420 == t404 && (t421 == t405)))))) = true := by simpa using c47))
          (try (have c47b2 : (t417 == t401 && ((t418 == t402 && (t419 == t403 && (t420 == t404 && (t421 == t405)))))) = true := by simpa using c47))
          clear c47
          replace H := Option.bind_eq_some_iff.mp H
          obtain ⟨t429, A480, H⟩ := H
          replace H : (some ((t429.size : Int) == 768)) = some r := H
          have A48 := Aside0.mk A480
          clear A480
          obtain rfl := Option.some.inj H
          obtain ⟨Ao49, co49, eo49⟩ := Kd.R_slice HO_19.out
          subst eo49
          go_wp2_with (first | ((with_reducible refine gate_callee (f := 12) rfl ?_); refine goesL_ (some 118) rfl rfl Try.func12 (by kernel_rfl) rfl #[.int .i64 t422] rfl (by (try simp only [List.map_toArray, List.map_cons, List.map_nil]); first | done | rfl | (simp only [List.length_drop, List.length_take]; rfl)) ?_; (with_reducible refine (skifflaw0_Num.calls t422 t428 _ A45.out).mono ?_); rintro e w' ⟨rfl, ⟨nd, rfl⟩⟩; refine ⟨_, rfl, ?_⟩; have hnb50 := NB423_407.out; have hnc50 := NB407_423.out; have hcz51_0 : wr.cell? ⟨gb423, 0, none⟩ = some (.int .i64 t417) := (blk_cell BK423.out 0).trans rfl; have hcz51_1 : wr.cell? ⟨gb423, 1, none⟩ = some (.int .i64 t418) := (blk_cell BK423.out 1).trans rfl; have hcz51_2 : wr.cell? ⟨gb423, 2, none⟩ = some (.int .i64 t419) := (blk_cell BK423.out 2).trans rfl; have hcz51_3 : wr.cell? ⟨gb423, 3, none⟩ = some (.int .i64 t420) := (blk_cell BK423.out 3).trans rfl; have hcz51_4 : wr.cell? ⟨gb423, 4, none⟩ = some (.int .i64 t421) := (blk_cell BK423.out 4).trans rfl; have hfz51_0 := blk_frozen BK423.out 0; have hfz51_1 := blk_frozen BK423.out 1; have hfz51_2 := blk_frozen BK423.out 2; have hfz51_3 := blk_frozen BK423.out 3; have hfz51_4 := blk_frozen BK423.out 4; have hcz52_0 : wr.cell? ⟨gb407, 0, none⟩ = some (.int .i64 t401) := (blk_cell BK407.out 0).trans rfl; have hcz52_1 : wr.cell? ⟨gb407, 1, none⟩ = some (.int .i64 t402) := (blk_cell BK407.out 1).trans rfl; have hcz52_2 : wr.cell? ⟨gb407, 2, none⟩ = some (.int .i64 t403) := (blk_cell BK407.out 2).trans rfl; have hcz52_3 : wr.cell? ⟨gb407, 3, none⟩ = some (.int .i64 t404) := (blk_cell BK407.out 3).trans rfl; have hcz52_4 : wr.cell? ⟨gb407, 4, none⟩ = some (.int .i64 t405) := (blk_cell BK407.out 4).trans rfl; have hfz52_0 := blk_frozen BK407.out 0; have hfz52_1 := blk_frozen BK407.out 1; have hfz52_2 := blk_frozen BK407.out 2; have hfz52_3 := blk_frozen BK407.out 3; have hfz52_4 := blk_frozen BK407.out 4) | (go_at_call 21; (with_reducible refine (skifflaw7_held.calls k3  t429 _ A48.out).mono ?_); rintro e w53 ⟨rfl, hb⟩; have n0_ := Aside0.mk (Kd.R_below (by (with_reducible repeat (first | apply Kd.R_alloc | apply Kd.R_drewN | apply Kd.R_drew)); exact HO_19.out) hb); have n1_ := Aside0.mk (blk_below (g := gb407) (o := .cells #[.int .i64 t401, .int .i64 t402, .int .i64 t403, .int .i64 t404, .int .i64 t405] 25 (0, 0)) (by (with_reducible repeat (first | refine blk_drewN ?_ _ | refine blk_drew ?_ | refine blk_alloc ?_ _)); exact BK407.out) hb); have n2_ := Aside0.mk (blk_below (g := gb423) (o := .cells #[.int .i64 t417, .int .i64 t418, .int .i64 t419, .int .i64 t420, .int .i64 t421] 25 (0, 0)) (by (with_reducible repeat (first | refine blk_drewN ?_ _ | refine blk_drew ?_ | refine blk_alloc ?_ _)); exact BK423.out) hb); have n3_ := Aside0.mk (below_step (by repeat (first | (with_reducible first | exact HB.out | apply below_alloc | apply pw_below_drewN | apply below_drew1 | refine below_set ?_ GE407.out | refine below_set ?_ GE423.out) | exact HB.out)) hb); clear HO_19; clear BK407; clear BK423; clear HB; have HO_19 := n0_; have BK407 := n1_; have BK423 := n2_; have HB := n3_; clear n0_ n1_ n2_ n3_; (try clear hb); (try clear hb2); (try clear hk); (try clear hi)))
          go_ret
          exact ⟨by first | rfl | (simp [errW_none, errW_some] <;> rfl) | (simp [*, errW_none, errW_some] <;> rfl), by repeat (first | (with_reducible first | exact HB.out | apply below_alloc | apply pw_below_drewN | apply below_drew1 | refine below_set ?_ GE407.out | refine below_set ?_ GE423.out) | exact HB.out)⟩

end Go.Proofs.Ytdijecmpaoabbaa.P
