-- written by wip/prt.py of this repo, by the kit's print, over contracts that are proved here by hand
import Derived.Test.YtbibmdnjidmchaaPx0
import Derived.Test.YtbibmdnjidmchaaPx1
import Derived.Test.YtbibmdnjidmchaaPx2
import Derived.Test.YtbibmdnjidmchaaPx5
namespace Go.Proofs.Ytbibmdnjidmchaa.P
open Go.RowKit Go.Proofs.YtbibmdnjidmchaaW.PrintWords Go.Proofs.YtbibmdnjidmchaaW.PrintLast Go.Proofs.YtbibmdnjidmchaaW.PrintMore
attribute [local go_sem] max2_int min2_int max_two min_two max_three min_three max_four min_four   -- for this text's walks alone
set_option linter.unusedVariables false
set_option linter.unusedSimpArgs false

/-! ### skifflaw6_ImageForms: function 4 -/
def skifflaw6_ImageForms.j0 : Nat → Int → Int → ByteArray → Int → Int → Int → Int → Int → Int → Int → Int → Option (Bool)
 | 0, _, _, _, _, _, _, _, _, _, _, _ => none
 | k + 1, x0, x5, x6, x278000, x278001, x278002, x278003, x279000, x279001, x279002, x279003 => (some (([wrap64 (-x5), wrap64 (1 + x5)] : List Int) : List Int)).bind fun y279 => (if 0 ≤ (Go.bits .and .i64 x0 1) then (if (Go.bits .and .i64 x0 1) < (y279.length : Int) then ((image_Base.f (rd y279 (Go.bits .and .i64 x0 1))).bind fun bt283 => ((image_Of.f x6 x279000 x279001 x279002 x279003).bind fun bt285 => ((image_Good.f x6 x279000 x279001 x279002 x279003).bind fun bt287 => (if 1 ≤ (x6.size : Int) then ((image_Of.f (x6.extract 1 x6.size) x278000 x278001 x278002 x278003).bind fun bt289 => ((image_Good.f (x6.extract 1 x6.size) x278000 x278001 x278002 x278003).bind fun bt291 => ((skifflaw0_Num.f bt283.2).bind fun t293 => (if t293 = 600 then (if bt285.1.toList = ([] : List UInt8) then ((skifflaw0_Num.f bt285.2).bind fun t294 => (if t294 = 600 then (if bt287.1 = true then (none) else ((skifflaw0_Num.f bt287.2).bind fun t295 => (if t295 = 600 then (if bt289.1.toList = ([] : List UInt8) then ((skifflaw0_Num.f bt289.2).bind fun t296 => (if t296 = 600 then (if bt291.1 = true then (none) else ((skifflaw0_Num.f bt291.2).bind fun t297 => (some (t297 == 600)))) else (none))) else (none)) else (none)))) else (none))) else (none)) else (none))))) else (none))))) else (none)) else (none))
def skifflaw6_ImageForms.f (k : Nat) (a0 : Int) (a1 : Int) : Option (Bool) := (skifflaw6_awake.f k).bind fun t275 => (if t275 = true then ((skiffref1_Blank.f).bind fun t276 => (if (Int.tmod (IntKind.u64.wrap (a0)) 4) = 0 then (skifflaw6_ImageForms.j0 k a0 (wrap64 (1 + (Go.bits .and .i64 a1 1023))) t276 1 0 5 0 0 0 5 0) else (if (Int.tmod (IntKind.u64.wrap (a0)) 4) = 1 then (skifflaw6_ImageForms.j0 k a0 (wrap64 (1 + (Go.bits .and .i64 a1 1023))) t276 1 0 5 0 1 0 (wrap64 (288 + (wrap64 (1 + (Go.bits .and .i64 a1 1023))))) 0) else (if (Int.tmod (IntKind.u64.wrap (a0)) 4) = 2 then (skifflaw6_ImageForms.j0 k a0 (wrap64 (1 + (Go.bits .and .i64 a1 1023))) t276 1 0 5 0 1 (wrap64 (1 + (wrap64 (1 + (Go.bits .and .i64 a1 1023))))) 5 0) else (skifflaw6_ImageForms.j0 k a0 (wrap64 (1 + (Go.bits .and .i64 a1 1023))) t276 1 0 5 0 1 0 5 (wrap64 (-(wrap64 (1 + (Go.bits .and .i64 a1 1023)))))))))) else (none))
theorem skifflaw6_ImageForms.mono_l : ∀ k, (∀ y0 y1 y2 y3 y4 y5 y6 y7 y8 y9 y10, LeO (skifflaw6_ImageForms.j0 k y0 y1 y2 y3 y4 y5 y6 y7 y8 y9 y10) (skifflaw6_ImageForms.j0 (k + 1) y0 y1 y2 y3 y4 y5 y6 y7 y8 y9 y10))
 | 0 => fun _ _ _ _ _ _ _ _ _ _ _ r h => by simp [skifflaw6_ImageForms.j0] at h
 | k + 1 => by
  have ih0 := skifflaw6_ImageForms.mono_l k
  ·intro y0 y1 y2 y3 y4 y5 y6 y7 y8 y9 y10
   unfold skifflaw6_ImageForms.j0
   repeat' first
   | (with_reducible exact ih0 _ _ _ _ _ _ _ _ _ _ _)
   | (with_reducible exact skifflaw6_awake.mono _)
   | (with_reducible exact LeO.refl _)
   | (with_reducible exact LeO.none _)
   | (with_reducible refine LeO.ite ?_ ?_)
   | (with_reducible refine LeO.bind ?_ (fun _ => ?_))
   | exact ih0 _ _ _ _ _ _ _ _ _ _ _
   | exact skifflaw6_awake.mono _
   | exact LeO.none _
   | refine LeO.ite ?_ ?_
   | refine LeO.bind ?_ (fun _ => ?_)
theorem skifflaw6_ImageForms.mono : ∀ a0 a1 k, LeO (skifflaw6_ImageForms.f k a0 a1) (skifflaw6_ImageForms.f (k + 1) a0 a1) := by
 intro a0 a1 k
 have ih0 := skifflaw6_ImageForms.mono_l k
 unfold skifflaw6_ImageForms.f
 repeat' first
   | (with_reducible exact ih0 _ _ _ _ _ _ _ _ _ _ _)
   | (with_reducible exact skifflaw6_awake.mono _)
   | (with_reducible exact LeO.refl _)
   | (with_reducible exact LeO.none _)
   | (with_reducible refine LeO.ite ?_ ?_)
   | (with_reducible refine LeO.bind ?_ (fun _ => ?_))
   | exact ih0 _ _ _ _ _ _ _ _ _ _ _
   | exact skifflaw6_awake.mono _
   | exact LeO.none _
   | refine LeO.ite ?_ ?_
   | refine LeO.bind ?_ (fun _ => ?_)
def skifflaw6_ImageForms.T18 : Bool × List (List Nat × List Nat) := (true, [([], []), ([0], [0]), ([], []), ([1, 2], [1, 2]), ([3], [3]), ([4], [4]), ([4], [4]), ([5, 3, 0, 1, 2, 3, 4, 5], [5]), ([6, 7, 0, 1, 2, 3, 4, 5, 6, 7], [6])])
def skifflaw6_ImageForms.B18 : List Nat := [0, 1, 0, 7, 15, 31, 31, 63, 255]
theorem skifflaw6_ImageForms.tab18 : rtab .any (opsOf Try.f4 18) = skifflaw6_ImageForms.T18 := by kernel_rfl
theorem skifflaw6_ImageForms.bits18 : waitsOk skifflaw6_ImageForms.T18.2 skifflaw6_ImageForms.B18 = true := by kernel_rfl
def skifflaw6_ImageForms.T19 : Bool × List (List Nat × List Nat) := (true, [([], []), ([0], [0]), ([], []), ([1, 2], [1, 2]), ([3], [3]), ([4], [4]), ([4], [4]), ([5, 3, 0, 1, 2, 3, 4, 5], [5]), ([6, 7, 0, 1, 2, 3, 4, 5, 6, 7], [6])])
def skifflaw6_ImageForms.B19 : List Nat := [0, 1, 0, 7, 15, 31, 31, 63, 255]
theorem skifflaw6_ImageForms.tab19 : rtab .any (opsOf Try.f4 19) = skifflaw6_ImageForms.T19 := by kernel_rfl
theorem skifflaw6_ImageForms.bits19 : waitsOk skifflaw6_ImageForms.T19.2 skifflaw6_ImageForms.B19 = true := by kernel_rfl
set_option maxHeartbeats 8000000 in
set_option maxRecDepth 100000 in
theorem skifflaw6_ImageForms.calls (k : Nat) (a0 : Int) (a1 : Int) (r : Bool) (w : World) (h : skifflaw6_ImageForms.f k a0 a1 = some r) :
  Calls Try.prog 4 #[.int .i64 a0, .int .i64 a1] w fun e w' => e = .returned (.bool r) ∧ Below w.heap.size w w' := by
 have hu23 := Try.underlying23
 have HB := Aside0.mk (Below.refl w.heap.size w)
 have H : ((skifflaw6_awake.f k).bind fun t275 => (if t275 = true then ((skiffref1_Blank.f).bind fun t276 => (if (Int.tmod (IntKind.u64.wrap (a0)) 4) = 0 then (skifflaw6_ImageForms.j0 k a0 (wrap64 (1 + (Go.bits .and .i64 a1 1023))) t276 1 0 5 0 0 0 5 0) else (if (Int.tmod (IntKind.u64.wrap (a0)) 4) = 1 then (skifflaw6_ImageForms.j0 k a0 (wrap64 (1 + (Go.bits .and .i64 a1 1023))) t276 1 0 5 0 1 0 (wrap64 (288 + (wrap64 (1 + (Go.bits .and .i64 a1 1023))))) 0) else (if (Int.tmod (IntKind.u64.wrap (a0)) 4) = 2 then (skifflaw6_ImageForms.j0 k a0 (wrap64 (1 + (Go.bits .and .i64 a1 1023))) t276 1 0 5 0 1 (wrap64 (1 + (wrap64 (1 + (Go.bits .and .i64 a1 1023))))) 5 0) else (skifflaw6_ImageForms.j0 k a0 (wrap64 (1 + (Go.bits .and .i64 a1 1023))) t276 1 0 5 0 1 0 5 (wrap64 (-(wrap64 (1 + (Go.bits .and .i64 a1 1023)))))))))) else (none))) = some r := h
 clear h
 replace H := Option.bind_eq_some_iff.mp H
 obtain ⟨t275, A30, H⟩ := H
 replace H : (if t275 = true then ((skiffref1_Blank.f).bind fun t276 => (if (Int.tmod (IntKind.u64.wrap (a0)) 4) = 0 then (skifflaw6_ImageForms.j0 k a0 (wrap64 (1 + (Go.bits .and .i64 a1 1023))) t276 1 0 5 0 0 0 5 0) else (if (Int.tmod (IntKind.u64.wrap (a0)) 4) = 1 then (skifflaw6_ImageForms.j0 k a0 (wrap64 (1 + (Go.bits .and .i64 a1 1023))) t276 1 0 5 0 1 0 (wrap64 (288 + (wrap64 (1 + (Go.bits .and .i64 a1 1023))))) 0) else (if (Int.tmod (IntKind.u64.wrap (a0)) 4) = 2 then (skifflaw6_ImageForms.j0 k a0 (wrap64 (1 + (Go.bits .and .i64 a1 1023))) t276 1 0 5 0 1 (wrap64 (1 + (wrap64 (1 + (Go.bits .and .i64 a1 1023))))) 5 0) else (skifflaw6_ImageForms.j0 k a0 (wrap64 (1 + (Go.bits .and .i64 a1 1023))) t276 1 0 5 0 1 0 5 (wrap64 (-(wrap64 (1 + (Go.bits .and .i64 a1 1023)))))))))) else (none)) = some r := H
 have A3 := Aside0.mk A30
 clear A30
 by_cases c4 : t275 = true
 ·subst c4
  have H1 : ((skiffref1_Blank.f).bind fun t276 => (if (Int.tmod (IntKind.u64.wrap (a0)) 4) = 0 then (skifflaw6_ImageForms.j0 k a0 (wrap64 (1 + (Go.bits .and .i64 a1 1023))) t276 1 0 5 0 0 0 5 0) else (if (Int.tmod (IntKind.u64.wrap (a0)) 4) = 1 then (skifflaw6_ImageForms.j0 k a0 (wrap64 (1 + (Go.bits .and .i64 a1 1023))) t276 1 0 5 0 1 0 (wrap64 (288 + (wrap64 (1 + (Go.bits .and .i64 a1 1023))))) 0) else (if (Int.tmod (IntKind.u64.wrap (a0)) 4) = 2 then (skifflaw6_ImageForms.j0 k a0 (wrap64 (1 + (Go.bits .and .i64 a1 1023))) t276 1 0 5 0 1 (wrap64 (1 + (wrap64 (1 + (Go.bits .and .i64 a1 1023))))) 5 0) else (skifflaw6_ImageForms.j0 k a0 (wrap64 (1 + (Go.bits .and .i64 a1 1023))) t276 1 0 5 0 1 0 5 (wrap64 (-(wrap64 (1 + (Go.bits .and .i64 a1 1023)))))))))) = some r := by rw [if_pos rfl] at H; exact H
  clear H
  have H := H1
  clear H1
  replace H := Option.bind_eq_some_iff.mp H
  obtain ⟨t276, A50, H⟩ := H
  replace H : (if (Int.tmod (IntKind.u64.wrap (a0)) 4) = 0 then (skifflaw6_ImageForms.j0 k a0 (wrap64 (1 + (Go.bits .and .i64 a1 1023))) t276 1 0 5 0 0 0 5 0) else (if (Int.tmod (IntKind.u64.wrap (a0)) 4) = 1 then (skifflaw6_ImageForms.j0 k a0 (wrap64 (1 + (Go.bits .and .i64 a1 1023))) t276 1 0 5 0 1 0 (wrap64 (288 + (wrap64 (1 + (Go.bits .and .i64 a1 1023))))) 0) else (if (Int.tmod (IntKind.u64.wrap (a0)) 4) = 2 then (skifflaw6_ImageForms.j0 k a0 (wrap64 (1 + (Go.bits .and .i64 a1 1023))) t276 1 0 5 0 1 (wrap64 (1 + (wrap64 (1 + (Go.bits .and .i64 a1 1023))))) 5 0) else (skifflaw6_ImageForms.j0 k a0 (wrap64 (1 + (Go.bits .and .i64 a1 1023))) t276 1 0 5 0 1 0 5 (wrap64 (-(wrap64 (1 + (Go.bits .and .i64 a1 1023))))))))) = some r := H
  have A5 := Aside0.mk A50
  clear A50
  have HC6 := Aside0.mk H
  clear H
  go_enter Try.func4, Try.ntmps4
  go_upto_block 0 with (first | ((with_reducible refine gate_callee (f := 14) rfl ?_); refine goesL_ (some 19) rfl rfl Try.func14 (by kernel_rfl) rfl #[] rfl (by (try simp only [List.map_toArray, List.map_cons, List.map_nil]); first | done | rfl | (simp only [List.length_drop, List.length_take]; rfl)) ?_; (with_reducible refine (skifflaw6_awake.calls k  true _ A3.out).mono ?_); rintro e w7 ⟨rfl, hb⟩; refine ⟨_, rfl, ?_⟩; have n0_ := Aside0.mk (below_step (by repeat (first | (with_reducible first | exact HB.out | apply below_alloc | apply pw_below_drewN | apply below_drew1) | exact HB.out)) hb); clear HB; have HB := n0_; clear n0_; (try clear hb); (try clear hb2); (try clear hk); (try clear hi)) | ((with_reducible refine gate_callee (f := 15) rfl ?_); refine goesL_ (some 24) rfl rfl Try.func15 (by kernel_rfl) rfl #[] rfl (by (try simp only [List.map_toArray, List.map_cons, List.map_nil]); first | done | rfl | (simp only [List.length_drop, List.length_take]; rfl)) ?_; (with_reducible refine (skiffref1_Blank.calls  t276 _ A5.out).mono ?_); rintro e w8 ⟨rfl, hb⟩; refine ⟨_, rfl, ?_⟩; have n0_ := Aside0.mk (below_step (by repeat (first | (with_reducible first | exact HB.out | apply below_alloc | apply pw_below_drewN | apply below_drew1) | exact HB.out)) hb); clear HB; have HB := n0_; clear n0_; (try clear hb); (try clear hb2); (try clear hk); (try clear hi)) | ((with_reducible refine gate_dst (N := 7) rfl ?_); refine box_event ?hg (N := 7) ?hd (cs := #[.int .i64 0, .int .i64 0, .int .i64 0, .int .i64 0]) (t := 23) ?hr ?_; (case hd => rfl); (case hg => rfl); (case hr => first | (go_simp; done) | (go_simp; rfl)); intro gb277 hg w9 hbox hb; have n0_ := Aside0.mk (below_step (by repeat (first | (with_reducible first | exact HB.out | apply below_alloc | apply pw_below_drewN | apply below_drew1) | exact HB.out)) hb); have n1_ := Aside0.mk (hbox); have n2_ := Aside0.mk ((by rw [hg]; exact (below_size (by repeat (first | (with_reducible first | exact HB.out | apply below_alloc | apply pw_below_drewN | apply below_drew1) | exact HB.out))) : w.heap.size ≤ gb277)); have n3_ := Aside0.mk ((by rw [hg]; exact (below_size (by repeat (first | (with_reducible first | exact HB.out | apply below_alloc | apply pw_below_drewN | apply below_drew1) | exact HB.out))) : w.heap.size ≤ gb277)); clear HB; have HB := n0_; have BK277 := n1_; have GW277 := n2_; have GE277 := n3_; clear n0_ n1_ n2_ n3_; clear hb hbox hg; have hcz10_0 : w9.cell? ⟨gb277, 0, none⟩ = some (.int .i64 0) := (blk_cell BK277.out 0).trans rfl; have hcz10_1 : w9.cell? ⟨gb277, 1, none⟩ = some (.int .i64 0) := (blk_cell BK277.out 1).trans rfl; have hcz10_2 : w9.cell? ⟨gb277, 2, none⟩ = some (.int .i64 0) := (blk_cell BK277.out 2).trans rfl; have hcz10_3 : w9.cell? ⟨gb277, 3, none⟩ = some (.int .i64 0) := (blk_cell BK277.out 3).trans rfl; have hfz10_0 := blk_frozen BK277.out 0; have hfz10_1 := blk_frozen BK277.out 1; have hfz10_2 := blk_frozen BK277.out 2; have hfz10_3 := blk_frozen BK277.out 3) | ((with_reducible refine gate_dst (N := 8) rfl ?_); refine box_event ?hg (N := 8) ?hd (cs := #[.int .i64 0, .int .i64 0, .int .i64 0, .int .i64 0]) (t := 23) ?hr ?_; (case hd => rfl); (case hg => rfl); (case hr => first | (go_simp; done) | (go_simp; rfl)); intro gb278 hg w11 hbox hb; have n0_ := Aside0.mk (blk_below (g := gb277) (o := .cells #[.int .i64 1, .int .i64 0, .int .i64 5, .int .i64 0] 23 (0, 0)) (by (with_reducible repeat (first | refine blk_drewN ?_ _ | refine blk_drew ?_ | refine blk_alloc ?_ _)); refine blk_put (cs := #[.int .i64 1, .int .i64 0, .int .i64 5, .int .i64 0]) ?_ 3 _ rfl; (with_reducible repeat (first | refine blk_drewN ?_ _ | refine blk_drew ?_ | refine blk_alloc ?_ _)); refine blk_put (cs := #[.int .i64 1, .int .i64 0, .int .i64 0, .int .i64 0]) ?_ 2 _ rfl; (with_reducible repeat (first | refine blk_drewN ?_ _ | refine blk_drew ?_ | refine blk_alloc ?_ _)); refine blk_put (cs := #[.int .i64 1, .int .i64 0, .int .i64 0, .int .i64 0]) ?_ 1 _ rfl; (with_reducible repeat (first | refine blk_drewN ?_ _ | refine blk_drew ?_ | refine blk_alloc ?_ _)); refine blk_put (cs := #[.int .i64 0, .int .i64 0, .int .i64 0, .int .i64 0]) ?_ 0 _ rfl; (with_reducible repeat (first | refine blk_drewN ?_ _ | refine blk_drew ?_ | refine blk_alloc ?_ _)); exact BK277.out) hb); have n1_ := Aside0.mk (below_step (by repeat (first | (with_reducible first | exact HB.out | apply below_alloc | apply pw_below_drewN | apply below_drew1 | refine below_set ?_ GE277.out) | exact HB.out)) hb); have n2_ := Aside0.mk (hbox); have n3_ := Aside0.mk ((by rw [hg]; exact (below_size (by repeat (first | (with_reducible first | exact HB.out | apply below_alloc | apply pw_below_drewN | apply below_drew1 | refine below_set ?_ GE277.out) | exact HB.out))) : w.heap.size ≤ gb278)); have n4_ := Aside0.mk ((by rw [hg]; exact (below_size (by repeat (first | (with_reducible first | exact HB.out | apply below_alloc | apply pw_below_drewN | apply below_drew1 | refine below_set ?_ GE277.out) | exact HB.out))) : w.heap.size ≤ gb278)); have n5_ := Aside0.mk ((by rw [hg]; exact Nat.ne_of_lt (blk_lt (g := gb277) (o := .cells #[.int .i64 1, .int .i64 0, .int .i64 5, .int .i64 0] 23 (0, 0)) (by (with_reducible repeat (first | refine blk_drewN ?_ _ | refine blk_drew ?_ | refine blk_alloc ?_ _)); refine blk_put (cs := #[.int .i64 1, .int .i64 0, .int .i64 5, .int .i64 0]) ?_ 3 _ rfl; (with_reducible repeat (first | refine blk_drewN ?_ _ | refine blk_drew ?_ | refine blk_alloc ?_ _)); refine blk_put (cs := #[.int .i64 1, .int .i64 0, .int .i64 0, .int .i64 0]) ?_ 2 _ rfl; (with_reducible repeat (first | refine blk_drewN ?_ _ | refine blk_drew ?_ | refine blk_alloc ?_ _)); refine blk_put (cs := #[.int .i64 1, .int .i64 0, .int .i64 0, .int .i64 0]) ?_ 1 _ rfl; (with_reducible repeat (first | refine blk_drewN ?_ _ | refine blk_drew ?_ | refine blk_alloc ?_ _)); refine blk_put (cs := #[.int .i64 0, .int .i64 0, .int .i64 0, .int .i64 0]) ?_ 0 _ rfl; (with_reducible repeat (first | refine blk_drewN ?_ _ | refine blk_drew ?_ | refine blk_alloc ?_ _)); exact BK277.out)) : gb277 ≠ gb278)); have n6_ := Aside0.mk ((by rw [hg]; exact Nat.ne_of_gt (blk_lt (g := gb277) (o := .cells #[.int .i64 1, .int .i64 0, .int .i64 5, .int .i64 0] 23 (0, 0)) (by (with_reducible repeat (first | refine blk_drewN ?_ _ | refine blk_drew ?_ | refine blk_alloc ?_ _)); refine blk_put (cs := #[.int .i64 1, .int .i64 0, .int .i64 5, .int .i64 0]) ?_ 3 _ rfl; (with_reducible repeat (first | refine blk_drewN ?_ _ | refine blk_drew ?_ | refine blk_alloc ?_ _)); refine blk_put (cs := #[.int .i64 1, .int .i64 0, .int .i64 0, .int .i64 0]) ?_ 2 _ rfl; (with_reducible repeat (first | refine blk_drewN ?_ _ | refine blk_drew ?_ | refine blk_alloc ?_ _)); refine blk_put (cs := #[.int .i64 1, .int .i64 0, .int .i64 0, .int .i64 0]) ?_ 1 _ rfl; (with_reducible repeat (first | refine blk_drewN ?_ _ | refine blk_drew ?_ | refine blk_alloc ?_ _)); refine blk_put (cs := #[.int .i64 0, .int .i64 0, .int .i64 0, .int .i64 0]) ?_ 0 _ rfl; (with_reducible repeat (first | refine blk_drewN ?_ _ | refine blk_drew ?_ | refine blk_alloc ?_ _)); exact BK277.out)) : gb278 ≠ gb277)); clear BK277; clear HB; have BK277 := n0_; have HB := n1_; have BK278 := n2_; have GW278 := n3_; have GE278 := n4_; have NB277_278 := n5_; have NB278_277 := n6_; clear n0_ n1_ n2_ n3_ n4_ n5_ n6_; clear hb hbox hg; have hnb12 := NB278_277.out; have hnc12 := NB277_278.out; have hcz13_0 : w11.cell? ⟨gb278, 0, none⟩ = some (.int .i64 0) := (blk_cell BK278.out 0).trans rfl; have hcz13_1 : w11.cell? ⟨gb278, 1, none⟩ = some (.int .i64 0) := (blk_cell BK278.out 1).trans rfl; have hcz13_2 : w11.cell? ⟨gb278, 2, none⟩ = some (.int .i64 0) := (blk_cell BK278.out 2).trans rfl; have hcz13_3 : w11.cell? ⟨gb278, 3, none⟩ = some (.int .i64 0) := (blk_cell BK278.out 3).trans rfl; have hfz13_0 := blk_frozen BK278.out 0; have hfz13_1 := blk_frozen BK278.out 1; have hfz13_2 := blk_frozen BK278.out 2; have hfz13_3 := blk_frozen BK278.out 3))
  (try simp only [Act.put, List.setIfInBounds_toArray, List.set_cons_zero, List.set_cons_succ])
  go_cut [] (fun wc => ∃ (kq : Nat) (x279000_5 : Int) (x279001_5 : Int) (x279002_5 : Int) (x279003_5 : Int), Aside0 (skifflaw6_ImageForms.j0 kq a0 (wrap64 (1 + (Go.bits .and .i64 a1 1023))) t276 1 0 5 0 x279000_5 x279001_5 x279002_5 x279003_5 = some r) ∧ Aside0 (kq ≤ k) ∧ Aside0 (wc.heap[gb277]? = some (.cells #[.int .i64 1, .int .i64 0, .int .i64 5, .int .i64 0] 23 (0, 0))) ∧ Aside0 (wc.heap[gb278]? = some (.cells #[.int .i64 x279000_5, .int .i64 x279001_5, .int .i64 x279002_5, .int .i64 x279003_5] 23 (0, 0))) ∧ Aside0 (Below w.heap.size w wc))
  case first =>
   have H := HC6.out
   clear HC6
   by_cases c14 : (Int.tmod (IntKind.u64.wrap (a0)) 4) = 0
   ·rw [if_pos c14] at H
    have c14b0 : ((Int.tmod (IntKind.u64.wrap (a0)) 4) == 0) = true := beq_iff_eq.mpr c14
    have c14b1 : ((Int.tmod (IntKind.u64.wrap (a0)) 4) != 0) = false := bne_eq_false_iff_eq.mpr c14
    clear c14
    (first | rw [c14b0] | (simp only [i64_w, i32_w]; rw [c14b0]) | skip)
    have H' := Aside0.mk H
    clear H
    have hnb15 := NB278_277.out
    have hnc15 := NB277_278.out
    have hcz16_0 : w11.cell? ⟨gb278, 0, none⟩ = some (.int .i64 0) := (blk_cell BK278.out 0).trans rfl
    have hcz16_1 : w11.cell? ⟨gb278, 1, none⟩ = some (.int .i64 0) := (blk_cell BK278.out 1).trans rfl
    have hcz16_2 : w11.cell? ⟨gb278, 2, none⟩ = some (.int .i64 0) := (blk_cell BK278.out 2).trans rfl
    have hcz16_3 : w11.cell? ⟨gb278, 3, none⟩ = some (.int .i64 0) := (blk_cell BK278.out 3).trans rfl
    have hfz16_0 := blk_frozen BK278.out 0
    have hfz16_1 := blk_frozen BK278.out 1
    have hfz16_2 := blk_frozen BK278.out 2
    have hfz16_3 := blk_frozen BK278.out 3
    go_wp2
    go_meet
    case rel => exact ⟨_, (0), (0), (5), (0), H', ⟨by first | omega | exact Nat.le_refl _⟩, ⟨by (with_reducible repeat (first | refine blk_drewN ?_ _ | refine blk_drew ?_ | refine blk_alloc ?_ _)); refine blk_far ?_ NB277_278.out _; (with_reducible repeat (first | refine blk_drewN ?_ _ | refine blk_drew ?_ | refine blk_alloc ?_ _)); refine blk_far ?_ NB277_278.out _; (with_reducible repeat (first | refine blk_drewN ?_ _ | refine blk_drew ?_ | refine blk_alloc ?_ _)); refine blk_far ?_ NB277_278.out _; (with_reducible repeat (first | refine blk_drewN ?_ _ | refine blk_drew ?_ | refine blk_alloc ?_ _)); refine blk_far ?_ NB277_278.out _; (with_reducible repeat (first | refine blk_drewN ?_ _ | refine blk_drew ?_ | refine blk_alloc ?_ _)); refine blk_far ?_ NB277_278.out _; (with_reducible repeat (first | refine blk_drewN ?_ _ | refine blk_drew ?_ | refine blk_alloc ?_ _)); exact BK277.out⟩, ⟨by (with_reducible repeat (first | refine blk_drewN ?_ _ | refine blk_drew ?_ | refine blk_alloc ?_ _)); refine blk_put (cs := #[.int .i64 1, .int .i64 0, .int .i64 5, .int .i64 0]) ?_ 0 _ rfl; (with_reducible repeat (first | refine blk_drewN ?_ _ | refine blk_drew ?_ | refine blk_alloc ?_ _)); refine blk_put (cs := #[.int .i64 1, .int .i64 0, .int .i64 5, .int .i64 0]) ?_ 3 _ rfl; (with_reducible repeat (first | refine blk_drewN ?_ _ | refine blk_drew ?_ | refine blk_alloc ?_ _)); refine blk_put (cs := #[.int .i64 1, .int .i64 0, .int .i64 0, .int .i64 0]) ?_ 2 _ rfl; (with_reducible repeat (first | refine blk_drewN ?_ _ | refine blk_drew ?_ | refine blk_alloc ?_ _)); refine blk_put (cs := #[.int .i64 1, .int .i64 0, .int .i64 0, .int .i64 0]) ?_ 1 _ rfl; (with_reducible repeat (first | refine blk_drewN ?_ _ | refine blk_drew ?_ | refine blk_alloc ?_ _)); refine blk_put (cs := #[.int .i64 0, .int .i64 0, .int .i64 0, .int .i64 0]) ?_ 0 _ rfl; (with_reducible repeat (first | refine blk_drewN ?_ _ | refine blk_drew ?_ | refine blk_alloc ?_ _)); exact BK278.out⟩, ⟨by repeat (first | (with_reducible first | exact HB.out | apply below_alloc | apply pw_below_drewN | apply below_drew1 | refine below_set ?_ GE277.out | refine below_set ?_ GE278.out) | exact HB.out)⟩⟩
   ·rw [if_neg c14] at H
    have c14b0 : ((Int.tmod (IntKind.u64.wrap (a0)) 4) == 0) = false := beq_eq_false_iff_ne.mpr c14
    have c14b1 : ((Int.tmod (IntKind.u64.wrap (a0)) 4) != 0) = true := bne_iff_ne.mpr c14
    (first | rw [c14b0] | (simp only [i64_w, i32_w]; rw [c14b0]) | skip)
    by_cases c17 : (Int.tmod (IntKind.u64.wrap (a0)) 4) = 1
    ·rw [if_pos c17] at H
     have c17b0 : ((Int.tmod (IntKind.u64.wrap (a0)) 4) == 1) = true := beq_iff_eq.mpr c17
     have c17b1 : ((Int.tmod (IntKind.u64.wrap (a0)) 4) != 1) = false := bne_eq_false_iff_eq.mpr c17
     clear c17
     have H' := Aside0.mk H
     clear H
     have hnb18 := NB278_277.out
     have hnc18 := NB277_278.out
     have hcz19_0 : w11.cell? ⟨gb278, 0, none⟩ = some (.int .i64 0) := (blk_cell BK278.out 0).trans rfl
     have hcz19_1 : w11.cell? ⟨gb278, 1, none⟩ = some (.int .i64 0) := (blk_cell BK278.out 1).trans rfl
     have hcz19_2 : w11.cell? ⟨gb278, 2, none⟩ = some (.int .i64 0) := (blk_cell BK278.out 2).trans rfl
     have hcz19_3 : w11.cell? ⟨gb278, 3, none⟩ = some (.int .i64 0) := (blk_cell BK278.out 3).trans rfl
     have hfz19_0 := blk_frozen BK278.out 0
     have hfz19_1 := blk_frozen BK278.out 1
     have hfz19_2 := blk_frozen BK278.out 2
     have hfz19_3 := blk_frozen BK278.out 3
     go_wp2
     go_meet
     case rel => exact ⟨_, (1), (0), (wrap64 (288 + (wrap64 (1 + (Go.bits .and .i64 a1 1023))))), (0), H', ⟨by first | omega | exact Nat.le_refl _⟩, ⟨by (with_reducible repeat (first | refine blk_drewN ?_ _ | refine blk_drew ?_ | refine blk_alloc ?_ _)); refine blk_far ?_ NB277_278.out _; (with_reducible repeat (first | refine blk_drewN ?_ _ | refine blk_drew ?_ | refine blk_alloc ?_ _)); refine blk_far ?_ NB277_278.out _; (with_reducible repeat (first | refine blk_drewN ?_ _ | refine blk_drew ?_ | refine blk_alloc ?_ _)); refine blk_far ?_ NB277_278.out _; (with_reducible repeat (first | refine blk_drewN ?_ _ | refine blk_drew ?_ | refine blk_alloc ?_ _)); refine blk_far ?_ NB277_278.out _; (with_reducible repeat (first | refine blk_drewN ?_ _ | refine blk_drew ?_ | refine blk_alloc ?_ _)); refine blk_far ?_ NB277_278.out _; (with_reducible repeat (first | refine blk_drewN ?_ _ | refine blk_drew ?_ | refine blk_alloc ?_ _)); exact BK277.out⟩, ⟨by (with_reducible repeat (first | refine blk_drewN ?_ _ | refine blk_drew ?_ | refine blk_alloc ?_ _)); refine blk_put (cs := #[.int .i64 1, .int .i64 0, .int .i64 5, .int .i64 0]) ?_ 2 _ rfl; (with_reducible repeat (first | refine blk_drewN ?_ _ | refine blk_drew ?_ | refine blk_alloc ?_ _)); refine blk_put (cs := #[.int .i64 1, .int .i64 0, .int .i64 5, .int .i64 0]) ?_ 3 _ rfl; (with_reducible repeat (first | refine blk_drewN ?_ _ | refine blk_drew ?_ | refine blk_alloc ?_ _)); refine blk_put (cs := #[.int .i64 1, .int .i64 0, .int .i64 0, .int .i64 0]) ?_ 2 _ rfl; (with_reducible repeat (first | refine blk_drewN ?_ _ | refine blk_drew ?_ | refine blk_alloc ?_ _)); refine blk_put (cs := #[.int .i64 1, .int .i64 0, .int .i64 0, .int .i64 0]) ?_ 1 _ rfl; (with_reducible repeat (first | refine blk_drewN ?_ _ | refine blk_drew ?_ | refine blk_alloc ?_ _)); refine blk_put (cs := #[.int .i64 0, .int .i64 0, .int .i64 0, .int .i64 0]) ?_ 0 _ rfl; (with_reducible repeat (first | refine blk_drewN ?_ _ | refine blk_drew ?_ | refine blk_alloc ?_ _)); exact BK278.out⟩, ⟨by repeat (first | (with_reducible first | exact HB.out | apply below_alloc | apply pw_below_drewN | apply below_drew1 | refine below_set ?_ GE277.out | refine below_set ?_ GE278.out) | exact HB.out)⟩⟩
    ·rw [if_neg c17] at H
     have c17b0 : ((Int.tmod (IntKind.u64.wrap (a0)) 4) == 1) = false := beq_eq_false_iff_ne.mpr c17
     have c17b1 : ((Int.tmod (IntKind.u64.wrap (a0)) 4) != 1) = true := bne_iff_ne.mpr c17
     by_cases c20 : (Int.tmod (IntKind.u64.wrap (a0)) 4) = 2
     ·rw [if_pos c20] at H
      have c20b0 : ((Int.tmod (IntKind.u64.wrap (a0)) 4) == 2) = true := beq_iff_eq.mpr c20
      have c20b1 : ((Int.tmod (IntKind.u64.wrap (a0)) 4) != 2) = false := bne_eq_false_iff_eq.mpr c20
      clear c20
      have H' := Aside0.mk H
      clear H
      have hnb21 := NB278_277.out
      have hnc21 := NB277_278.out
      have hcz22_0 : w11.cell? ⟨gb278, 0, none⟩ = some (.int .i64 0) := (blk_cell BK278.out 0).trans rfl
      have hcz22_1 : w11.cell? ⟨gb278, 1, none⟩ = some (.int .i64 0) := (blk_cell BK278.out 1).trans rfl
      have hcz22_2 : w11.cell? ⟨gb278, 2, none⟩ = some (.int .i64 0) := (blk_cell BK278.out 2).trans rfl
      have hcz22_3 : w11.cell? ⟨gb278, 3, none⟩ = some (.int .i64 0) := (blk_cell BK278.out 3).trans rfl
      have hfz22_0 := blk_frozen BK278.out 0
      have hfz22_1 := blk_frozen BK278.out 1
      have hfz22_2 := blk_frozen BK278.out 2
      have hfz22_3 := blk_frozen BK278.out 3
      go_wp2
      go_meet
      case rel => exact ⟨_, (1), (wrap64 (1 + (wrap64 (1 + (Go.bits .and .i64 a1 1023))))), (5), (0), H', ⟨by first | omega | exact Nat.le_refl _⟩, ⟨by (with_reducible repeat (first | refine blk_drewN ?_ _ | refine blk_drew ?_ | refine blk_alloc ?_ _)); refine blk_far ?_ NB277_278.out _; (with_reducible repeat (first | refine blk_drewN ?_ _ | refine blk_drew ?_ | refine blk_alloc ?_ _)); refine blk_far ?_ NB277_278.out _; (with_reducible repeat (first | refine blk_drewN ?_ _ | refine blk_drew ?_ | refine blk_alloc ?_ _)); refine blk_far ?_ NB277_278.out _; (with_reducible repeat (first | refine blk_drewN ?_ _ | refine blk_drew ?_ | refine blk_alloc ?_ _)); refine blk_far ?_ NB277_278.out _; (with_reducible repeat (first | refine blk_drewN ?_ _ | refine blk_drew ?_ | refine blk_alloc ?_ _)); refine blk_far ?_ NB277_278.out _; (with_reducible repeat (first | refine blk_drewN ?_ _ | refine blk_drew ?_ | refine blk_alloc ?_ _)); exact BK277.out⟩, ⟨by (with_reducible repeat (first | refine blk_drewN ?_ _ | refine blk_drew ?_ | refine blk_alloc ?_ _)); refine blk_put (cs := #[.int .i64 1, .int .i64 0, .int .i64 5, .int .i64 0]) ?_ 1 _ rfl; (with_reducible repeat (first | refine blk_drewN ?_ _ | refine blk_drew ?_ | refine blk_alloc ?_ _)); refine blk_put (cs := #[.int .i64 1, .int .i64 0, .int .i64 5, .int .i64 0]) ?_ 3 _ rfl; (with_reducible repeat (first | refine blk_drewN ?_ _ | refine blk_drew ?_ | refine blk_alloc ?_ _)); refine blk_put (cs := #[.int .i64 1, .int .i64 0, .int .i64 0, .int .i64 0]) ?_ 2 _ rfl; (with_reducible repeat (first | refine blk_drewN ?_ _ | refine blk_drew ?_ | refine blk_alloc ?_ _)); refine blk_put (cs := #[.int .i64 1, .int .i64 0, .int .i64 0, .int .i64 0]) ?_ 1 _ rfl; (with_reducible repeat (first | refine blk_drewN ?_ _ | refine blk_drew ?_ | refine blk_alloc ?_ _)); refine blk_put (cs := #[.int .i64 0, .int .i64 0, .int .i64 0, .int .i64 0]) ?_ 0 _ rfl; (with_reducible repeat (first | refine blk_drewN ?_ _ | refine blk_drew ?_ | refine blk_alloc ?_ _)); exact BK278.out⟩, ⟨by repeat (first | (with_reducible first | exact HB.out | apply below_alloc | apply pw_below_drewN | apply below_drew1 | refine below_set ?_ GE277.out | refine below_set ?_ GE278.out) | exact HB.out)⟩⟩
     ·rw [if_neg c20] at H
      have c20b0 : ((Int.tmod (IntKind.u64.wrap (a0)) 4) == 2) = false := beq_eq_false_iff_ne.mpr c20
      have c20b1 : ((Int.tmod (IntKind.u64.wrap (a0)) 4) != 2) = true := bne_iff_ne.mpr c20
      have H' := Aside0.mk H
      clear H
      have hnb23 := NB278_277.out
      have hnc23 := NB277_278.out
      have hcz24_0 : w11.cell? ⟨gb278, 0, none⟩ = some (.int .i64 0) := (blk_cell BK278.out 0).trans rfl
      have hcz24_1 : w11.cell? ⟨gb278, 1, none⟩ = some (.int .i64 0) := (blk_cell BK278.out 1).trans rfl
      have hcz24_2 : w11.cell? ⟨gb278, 2, none⟩ = some (.int .i64 0) := (blk_cell BK278.out 2).trans rfl
      have hcz24_3 : w11.cell? ⟨gb278, 3, none⟩ = some (.int .i64 0) := (blk_cell BK278.out 3).trans rfl
      have hfz24_0 := blk_frozen BK278.out 0
      have hfz24_1 := blk_frozen BK278.out 1
      have hfz24_2 := blk_frozen BK278.out 2
      have hfz24_3 := blk_frozen BK278.out 3
      go_wp2
      go_meet
      case rel => exact ⟨_, (1), (0), (5), (wrap64 (-(wrap64 (1 + (Go.bits .and .i64 a1 1023))))), H', ⟨by first | omega | exact Nat.le_refl _⟩, ⟨by (with_reducible repeat (first | refine blk_drewN ?_ _ | refine blk_drew ?_ | refine blk_alloc ?_ _)); refine blk_far ?_ NB277_278.out _; (with_reducible repeat (first | refine blk_drewN ?_ _ | refine blk_drew ?_ | refine blk_alloc ?_ _)); refine blk_far ?_ NB277_278.out _; (with_reducible repeat (first | refine blk_drewN ?_ _ | refine blk_drew ?_ | refine blk_alloc ?_ _)); refine blk_far ?_ NB277_278.out _; (with_reducible repeat (first | refine blk_drewN ?_ _ | refine blk_drew ?_ | refine blk_alloc ?_ _)); refine blk_far ?_ NB277_278.out _; (with_reducible repeat (first | refine blk_drewN ?_ _ | refine blk_drew ?_ | refine blk_alloc ?_ _)); refine blk_far ?_ NB277_278.out _; (with_reducible repeat (first | refine blk_drewN ?_ _ | refine blk_drew ?_ | refine blk_alloc ?_ _)); exact BK277.out⟩, ⟨by (with_reducible repeat (first | refine blk_drewN ?_ _ | refine blk_drew ?_ | refine blk_alloc ?_ _)); refine blk_put (cs := #[.int .i64 1, .int .i64 0, .int .i64 5, .int .i64 0]) ?_ 3 _ rfl; (with_reducible repeat (first | refine blk_drewN ?_ _ | refine blk_drew ?_ | refine blk_alloc ?_ _)); refine blk_put (cs := #[.int .i64 1, .int .i64 0, .int .i64 5, .int .i64 0]) ?_ 3 _ rfl; (with_reducible repeat (first | refine blk_drewN ?_ _ | refine blk_drew ?_ | refine blk_alloc ?_ _)); refine blk_put (cs := #[.int .i64 1, .int .i64 0, .int .i64 0, .int .i64 0]) ?_ 2 _ rfl; (with_reducible repeat (first | refine blk_drewN ?_ _ | refine blk_drew ?_ | refine blk_alloc ?_ _)); refine blk_put (cs := #[.int .i64 1, .int .i64 0, .int .i64 0, .int .i64 0]) ?_ 1 _ rfl; (with_reducible repeat (first | refine blk_drewN ?_ _ | refine blk_drew ?_ | refine blk_alloc ?_ _)); refine blk_put (cs := #[.int .i64 0, .int .i64 0, .int .i64 0, .int .i64 0]) ?_ 0 _ rfl; (with_reducible repeat (first | refine blk_drewN ?_ _ | refine blk_drew ?_ | refine blk_alloc ?_ _)); exact BK278.out⟩, ⟨by repeat (first | (with_reducible first | exact HB.out | apply below_alloc | apply pw_below_drewN | apply below_drew1 | refine below_set ?_ GE277.out | refine below_set ?_ GE278.out) | exact HB.out)⟩⟩
  case rest =>
   clear HC6
   try clear c1
   try clear c2
   try clear p2
   try clear c4
   try clear p6
   try clear c12
   try clear c14
   try clear c14b0
   try clear c14b1
   try clear c15
   try clear c17
   try clear c17b0
   try clear c17b1
   try clear c18
   try clear c20
   try clear c20b0
   try clear c20b1
   try clear c21
   try clear c23
   try clear hcz10_0
   try clear hcz10_1
   try clear hcz10_2
   try clear hcz10_3
   try clear hcz13_0
   try clear hcz13_1
   try clear hcz13_2
   try clear hcz13_3
   try clear hcz16_0
   try clear hcz16_1
   try clear hcz16_2
   try clear hcz16_3
   try clear hcz19_0
   try clear hcz19_1
   try clear hcz19_2
   try clear hcz19_3
   try clear hcz22_0
   try clear hcz22_1
   try clear hcz22_2
   try clear hcz22_3
   try clear hcz24_0
   try clear hcz24_1
   try clear hcz24_2
   try clear hcz24_3
   try clear hfz10_0
   try clear hfz10_1
   try clear hfz10_2
   try clear hfz10_3
   try clear hfz13_0
   try clear hfz13_1
   try clear hfz13_2
   try clear hfz13_3
   try clear hfz16_0
   try clear hfz16_1
   try clear hfz16_2
   try clear hfz16_3
   try clear hfz19_0
   try clear hfz19_1
   try clear hfz19_2
   try clear hfz19_3
   try clear hfz22_0
   try clear hfz22_1
   try clear hfz22_2
   try clear hfz22_3
   try clear hfz24_0
   try clear hfz24_1
   try clear hfz24_2
   try clear hfz24_3
   obtain ⟨kq, x279000_5, x279001_5, x279002_5, x279003_5, HA, HJ5, BK277, BK278, HB⟩ := hcut
   cases kq with
   | zero => exact absurd HA.out (by simp [skifflaw6_ImageForms.j0])
   | succ kj5 =>
    have H := HA.out
    clear HA
    simp only [skifflaw6_ImageForms.j0] at H
    obtain ⟨y279, hy279⟩ : ∃ y_ : List Int, y_ = (([wrap64 (-(wrap64 (1 + (Go.bits .and .i64 a1 1023)))), wrap64 (1 + (wrap64 (1 + (Go.bits .and .i64 a1 1023))))] : List Int)) := ⟨_, rfl⟩
    replace H : (if 0 ≤ (Go.bits .and .i64 a0 1) then (if (Go.bits .and .i64 a0 1) < (y279.length : Int) then ((image_Base.f (rd y279 (Go.bits .and .i64 a0 1))).bind fun bt283 => ((image_Of.f t276 x279000_5 x279001_5 x279002_5 x279003_5).bind fun bt285 => ((image_Good.f t276 x279000_5 x279001_5 x279002_5 x279003_5).bind fun bt287 => (if 1 ≤ (t276.size : Int) then ((image_Of.f (t276.extract 1 t276.size) 1 0 5 0).bind fun bt289 => ((image_Good.f (t276.extract 1 t276.size) 1 0 5 0).bind fun bt291 => ((skifflaw0_Num.f bt283.2).bind fun t293 => (if t293 = 600 then (if bt285.1.toList = ([] : List UInt8) then ((skifflaw0_Num.f bt285.2).bind fun t294 => (if t294 = 600 then (if bt287.1 = true then (none) else ((skifflaw0_Num.f bt287.2).bind fun t295 => (if t295 = 600 then (if bt289.1.toList = ([] : List UInt8) then ((skifflaw0_Num.f bt289.2).bind fun t296 => (if t296 = 600 then (if bt291.1 = true then (none) else ((skifflaw0_Num.f bt291.2).bind fun t297 => (some (t297 == 600)))) else (none))) else (none)) else (none)))) else (none))) else (none)) else (none))))) else (none))))) else (none)) else (none)) = some r := by first | (rw [hy279]; with_reducible exact H) | (have H2_ := (Option.bind_some _ _).symm.trans H; rw [hy279]; with_reducible exact H2_) | (have H2_ := (Option.bind_some _ _).symm.trans H; with_reducible exact H2_) | with_reducible exact H | (rw [hy279]; exact H) | exact H
    have Ny279 := Aside0.mk hy279
    clear hy279
    by_cases c25 : 0 ≤ (Go.bits .and .i64 a0 1)
    ·rw [if_pos c25] at H
     have c25b0 : decide (0 ≤ (Go.bits .and .i64 a0 1)) = true := decide_eq_true c25
     clear c25
     by_cases c26 : (Go.bits .and .i64 a0 1) < (y279.length : Int)
     ·rw [if_pos c26] at H
      have c26b0 : decide ((Go.bits .and .i64 a0 1) < (y279.length : Int)) = true := decide_eq_true c26
      clear c26
      replace H := Option.bind_eq_some_iff.mp H
      obtain ⟨⟨t283, t284⟩, A270, H⟩ := H
      replace H : ((image_Of.f t276 x279000_5 x279001_5 x279002_5 x279003_5).bind fun bt285 => ((image_Good.f t276 x279000_5 x279001_5 x279002_5 x279003_5).bind fun bt287 => (if 1 ≤ (t276.size : Int) then ((image_Of.f (t276.extract 1 t276.size) 1 0 5 0).bind fun bt289 => ((image_Good.f (t276.extract 1 t276.size) 1 0 5 0).bind fun bt291 => ((skifflaw0_Num.f t284).bind fun t293 => (if t293 = 600 then (if bt285.1.toList = ([] : List UInt8) then ((skifflaw0_Num.f bt285.2).bind fun t294 => (if t294 = 600 then (if bt287.1 = true then (none) else ((skifflaw0_Num.f bt287.2).bind fun t295 => (if t295 = 600 then (if bt289.1.toList = ([] : List UInt8) then ((skifflaw0_Num.f bt289.2).bind fun t296 => (if t296 = 600 then (if bt291.1 = true then (none) else ((skifflaw0_Num.f bt291.2).bind fun t297 => (some (t297 == 600)))) else (none))) else (none)) else (none)))) else (none))) else (none)) else (none))))) else (none)))) = some r := H
      have A27 := Aside0.mk A270
      clear A270
      replace H := Option.bind_eq_some_iff.mp H
      obtain ⟨⟨t285, t286⟩, A280, H⟩ := H
      replace H : ((image_Good.f t276 x279000_5 x279001_5 x279002_5 x279003_5).bind fun bt287 => (if 1 ≤ (t276.size : Int) then ((image_Of.f (t276.extract 1 t276.size) 1 0 5 0).bind fun bt289 => ((image_Good.f (t276.extract 1 t276.size) 1 0 5 0).bind fun bt291 => ((skifflaw0_Num.f t284).bind fun t293 => (if t293 = 600 then (if t285.toList = ([] : List UInt8) then ((skifflaw0_Num.f t286).bind fun t294 => (if t294 = 600 then (if bt287.1 = true then (none) else ((skifflaw0_Num.f bt287.2).bind fun t295 => (if t295 = 600 then (if bt289.1.toList = ([] : List UInt8) then ((skifflaw0_Num.f bt289.2).bind fun t296 => (if t296 = 600 then (if bt291.1 = true then (none) else ((skifflaw0_Num.f bt291.2).bind fun t297 => (some (t297 == 600)))) else (none))) else (none)) else (none)))) else (none))) else (none)) else (none))))) else (none))) = some r := H
      have A28 := Aside0.mk A280
      clear A280
      replace H := Option.bind_eq_some_iff.mp H
      obtain ⟨⟨t287, t288⟩, A290, H⟩ := H
      replace H : (if 1 ≤ (t276.size : Int) then ((image_Of.f (t276.extract 1 t276.size) 1 0 5 0).bind fun bt289 => ((image_Good.f (t276.extract 1 t276.size) 1 0 5 0).bind fun bt291 => ((skifflaw0_Num.f t284).bind fun t293 => (if t293 = 600 then (if t285.toList = ([] : List UInt8) then ((skifflaw0_Num.f t286).bind fun t294 => (if t294 = 600 then (if t287 = true then (none) else ((skifflaw0_Num.f t288).bind fun t295 => (if t295 = 600 then (if bt289.1.toList = ([] : List UInt8) then ((skifflaw0_Num.f bt289.2).bind fun t296 => (if t296 = 600 then (if bt291.1 = true then (none) else ((skifflaw0_Num.f bt291.2).bind fun t297 => (some (t297 == 600)))) else (none))) else (none)) else (none)))) else (none))) else (none)) else (none))))) else (none)) = some r := H
      have A29 := Aside0.mk A290
      clear A290
      by_cases c30 : 1 ≤ (t276.size : Int)
      ·rw [if_pos c30] at H
       have c30b0 := eq_true c30
       have c30b1 : decide (1 ≤ (t276.size : Int)) = true := decide_eq_true c30
       clear c30
       replace H := Option.bind_eq_some_iff.mp H
       obtain ⟨⟨t289, t290⟩, A310, H⟩ := H
       replace H : ((image_Good.f (t276.extract 1 t276.size) 1 0 5 0).bind fun bt291 => ((skifflaw0_Num.f t284).bind fun t293 => (if t293 = 600 then (if t285.toList = ([] : List UInt8) then ((skifflaw0_Num.f t286).bind fun t294 => (if t294 = 600 then (if t287 = true then (none) else ((skifflaw0_Num.f t288).bind fun t295 => (if t295 = 600 then (if t289.toList = ([] : List UInt8) then ((skifflaw0_Num.f t290).bind fun t296 => (if t296 = 600 then (if bt291.1 = true then (none) else ((skifflaw0_Num.f bt291.2).bind fun t297 => (some (t297 == 600)))) else (none))) else (none)) else (none)))) else (none))) else (none)) else (none)))) = some r := H
       have A31 := Aside0.mk A310
       clear A310
       have c32b0 := eq_true (of_decide_eq_true (by first | (with_reducible assumption) | assumption) : 1 ≤ (t276.size : Int))
       replace H := Option.bind_eq_some_iff.mp H
       obtain ⟨⟨t291, t292⟩, A330, H⟩ := H
       replace H : ((skifflaw0_Num.f t284).bind fun t293 => (if t293 = 600 then (if t285.toList = ([] : List UInt8) then ((skifflaw0_Num.f t286).bind fun t294 => (if t294 = 600 then (if t287 = true then (none) else ((skifflaw0_Num.f t288).bind fun t295 => (if t295 = 600 then (if t289.toList = ([] : List UInt8) then ((skifflaw0_Num.f t290).bind fun t296 => (if t296 = 600 then (if t291 = true then (none) else ((skifflaw0_Num.f t292).bind fun t297 => (some (t297 == 600)))) else (none))) else (none)) else (none)))) else (none))) else (none)) else (none))) = some r := H
       have A33 := Aside0.mk A330
       clear A330
       replace H := Option.bind_eq_some_iff.mp H
       obtain ⟨t293, A340, H⟩ := H
       replace H : (if t293 = 600 then (if t285.toList = ([] : List UInt8) then ((skifflaw0_Num.f t286).bind fun t294 => (if t294 = 600 then (if t287 = true then (none) else ((skifflaw0_Num.f t288).bind fun t295 => (if t295 = 600 then (if t289.toList = ([] : List UInt8) then ((skifflaw0_Num.f t290).bind fun t296 => (if t296 = 600 then (if t291 = true then (none) else ((skifflaw0_Num.f t292).bind fun t297 => (some (t297 == 600)))) else (none))) else (none)) else (none)))) else (none))) else (none)) else (none)) = some r := H
       have A34 := Aside0.mk A340
       clear A340
       by_cases c35 : t293 = 600
       ·rw [if_pos c35] at H
        have c35b0 : (t293 == 600) = true := beq_iff_eq.mpr c35
        have c35b1 : (t293 != 600) = false := bne_eq_false_iff_eq.mpr c35
        clear c35
        by_cases c36 : t285.toList = ([] : List UInt8)
        ·rw [if_pos c36] at H
         have c36b0 : (t285.toList == ([] : List UInt8)) = true := beq_iff_eq.mpr c36
         have c36b1 : (t285.toList != ([] : List UInt8)) = false := bne_eq_false_iff_eq.mpr c36
         clear c36
         replace H := Option.bind_eq_some_iff.mp H
         obtain ⟨t294, A370, H⟩ := H
         replace H : (if t294 = 600 then (if t287 = true then (none) else ((skifflaw0_Num.f t288).bind fun t295 => (if t295 = 600 then (if t289.toList = ([] : List UInt8) then ((skifflaw0_Num.f t290).bind fun t296 => (if t296 = 600 then (if t291 = true then (none) else ((skifflaw0_Num.f t292).bind fun t297 => (some (t297 == 600)))) else (none))) else (none)) else (none)))) else (none)) = some r := H
         have A37 := Aside0.mk A370
         clear A370
         by_cases c38 : t294 = 600
         ·rw [if_pos c38] at H
          have c38b0 : (t294 == 600) = true := beq_iff_eq.mpr c38
          have c38b1 : (t294 != 600) = false := bne_eq_false_iff_eq.mpr c38
          clear c38
          by_cases c39 : t287 = true
          ·subst c39
           have H1 : (none) = some r := by rw [if_pos rfl] at H; exact H
           clear H
           have H := H1
           clear H1
           exact absurd H (by simp)
          ·replace c39 := Bool.eq_false_iff.mpr c39
           subst c39
           have H1 : ((skifflaw0_Num.f t288).bind fun t295 => (if t295 = 600 then (if t289.toList = ([] : List UInt8) then ((skifflaw0_Num.f t290).bind fun t296 => (if t296 = 600 then (if t291 = true then (none) else ((skifflaw0_Num.f t292).bind fun t297 => (some (t297 == 600)))) else (none))) else (none)) else (none))) = some r := by rw [if_neg (show ¬ (false = true) by decide)] at H; exact H
           clear H
           have H := H1
           clear H1
           replace H := Option.bind_eq_some_iff.mp H
           obtain ⟨t295, A400, H⟩ := H
           replace H : (if t295 = 600 then (if t289.toList = ([] : List UInt8) then ((skifflaw0_Num.f t290).bind fun t296 => (if t296 = 600 then (if t291 = true then (none) else ((skifflaw0_Num.f t292).bind fun t297 => (some (t297 == 600)))) else (none))) else (none)) else (none)) = some r := H
           have A40 := Aside0.mk A400
           clear A400
           by_cases c41 : t295 = 600
           ·rw [if_pos c41] at H
            have c41b0 : (t295 == 600) = true := beq_iff_eq.mpr c41
            have c41b1 : (t295 != 600) = false := bne_eq_false_iff_eq.mpr c41
            clear c41
            by_cases c42 : t289.toList = ([] : List UInt8)
            ·rw [if_pos c42] at H
             have c42b0 : (t289.toList == ([] : List UInt8)) = true := beq_iff_eq.mpr c42
             have c42b1 : (t289.toList != ([] : List UInt8)) = false := bne_eq_false_iff_eq.mpr c42
             clear c42
             replace H := Option.bind_eq_some_iff.mp H
             obtain ⟨t296, A430, H⟩ := H
             replace H : (if t296 = 600 then (if t291 = true then (none) else ((skifflaw0_Num.f t292).bind fun t297 => (some (t297 == 600)))) else (none)) = some r := H
             have A43 := Aside0.mk A430
             clear A430
             by_cases c44 : t296 = 600
             ·rw [if_pos c44] at H
              have c44b0 : (t296 == 600) = true := beq_iff_eq.mpr c44
              have c44b1 : (t296 != 600) = false := bne_eq_false_iff_eq.mpr c44
              clear c44
              by_cases c45 : t291 = true
              ·subst c45
               have H1 : (none) = some r := by rw [if_pos rfl] at H; exact H
               clear H
               have H := H1
               clear H1
               exact absurd H (by simp)
              ·replace c45 := Bool.eq_false_iff.mpr c45
               subst c45
               have H1 : ((skifflaw0_Num.f t292).bind fun t297 => (some (t297 == 600))) = some r := by rw [if_neg (show ¬ (false = true) by decide)] at H; exact H
               clear H
               have H := H1
               clear H1
               replace H := Option.bind_eq_some_iff.mp H
               obtain ⟨t297, A460, H⟩ := H
               replace H : (some (t297 == 600)) = some r := H
               have A46 := Aside0.mk A460
               clear A460
               obtain rfl := Option.some.inj H
               try go_wp2_with (first | ((with_reducible refine gate_dst (N := 51) rfl ?_); refine Kd.R_lit (Kd.int .i64) _ 3 ?hg (N := 51) ?hd (xs := ([wrap64 (-(wrap64 (1 + (Go.bits .and .i64 a1 1023)))), wrap64 (1 + (wrap64 (1 + (Go.bits .and .i64 a1 1023))))] : List Int)) (inner := [.int .i64 (wrap64 (-(wrap64 (1 + (Go.bits .and .i64 a1 1023))))), .int .i64 (wrap64 (1 + (wrap64 (1 + (Go.bits .and .i64 a1 1023)))))]) (ok := fun _ => True) (okp := fun _ => True) ?hr ?hp (fun _ hk => hk) trivial (Below.refl _ _) (Nat.le_refl _) (by simp) ?_; (case hd => rfl); (case hg => rfl); (case hr => first | (go_simp; done) | (go_simp; rfl)); (case hp => exact (Reps.one (show Kd.M (Kd.int .i64) _ _ _ (wrap64 (-(wrap64 (1 + (Go.bits .and .i64 a1 1023))))) [.int .i64 (wrap64 (-(wrap64 (1 + (Go.bits .and .i64 a1 1023)))))] from rfl) (Reps.one (show Kd.M (Kd.int .i64) _ _ _ (wrap64 (1 + (wrap64 (1 + (Go.bits .and .i64 a1 1023))))) [.int .i64 (wrap64 (1 + (wrap64 (1 + (Go.bits .and .i64 a1 1023)))))] from rfl) (Reps.none _ _)))); intro v280 w47 ho48 hb hg_ hnew_; clear hg_ hnew_; (first | rw [← Ny279.out] at ho48 | (simp only [Int.reduceToNat] at ho48; rw [← Ny279.out] at ho48)); have n0_ := Aside0.mk (Kd.R_lower ho48 (below_size (by repeat (first | (with_reducible first | exact HB.out | apply below_alloc | apply pw_below_drewN | apply below_drew1 | refine below_set ?_ GE277.out | refine below_set ?_ GE278.out) | exact HB.out)))); have n1_ := Aside0.mk (blk_below (g := gb277) (o := .cells #[.int .i64 1, .int .i64 0, .int .i64 5, .int .i64 0] 23 (0, 0)) (by (with_reducible repeat (first | refine blk_drewN ?_ _ | refine blk_drew ?_ | refine blk_alloc ?_ _)); exact BK277.out) hb); have n2_ := Aside0.mk (blk_below (g := gb278) (o := .cells #[.int .i64 x279000_5, .int .i64 x279001_5, .int .i64 x279002_5, .int .i64 x279003_5] 23 (0, 0)) (by (with_reducible repeat (first | refine blk_drewN ?_ _ | refine blk_drew ?_ | refine blk_alloc ?_ _)); exact BK278.out) hb); have n3_ := Aside0.mk (below_step (by repeat (first | (with_reducible first | exact HB.out | apply below_alloc | apply pw_below_drewN | apply below_drew1 | refine below_set ?_ GE277.out | refine below_set ?_ GE278.out) | exact HB.out)) hb); clear BK277; clear BK278; clear HB; have HO281 := n0_; have BK277 := n1_; have BK278 := n2_; have HB := n3_; clear n0_ n1_ n2_ n3_; clear hb ho48; obtain ⟨Ao49, co49, eo49⟩ := Kd.R_slice HO281.out; subst eo49; have p282 : 0 ≤ ((Go.bits .and .i64 a0 1) : Int) := of_decide_eq_true (by first | (with_reducible assumption) | assumption); have q282 : (Go.bits .and .i64 a0 1) < (y279.length : Int) := of_decide_eq_true (by first | (with_reducible assumption) | assumption); obtain ⟨ad282, e282, hx282_0⟩ := Kd.at_int (Kd.R_reads' HO281.out).2.2 (Go.bits .and .i64 a0 1) p282 q282; cases e282; replace p282 := eq_true p282; replace q282 := eq_true q282) | ((with_reducible refine gate_callee (f := 7) rfl ?_); refine goesL_ (some 56) rfl rfl Try.func7 (by kernel_rfl) rfl #[.int .i64 (rd y279 (Go.bits .and .i64 a0 1))] rfl (by (try simp only [List.map_toArray, List.map_cons, List.map_nil]); first | done | rfl | (simp only [List.length_drop, List.length_take]; rfl)) ?_; (with_reducible refine (image_Base.calls (rd y279 (Go.bits .and .i64 a0 1)) t283 t284 _ A27.out).mono ?_); rintro e w' ⟨rfl, ⟨nd, rfl⟩⟩; refine ⟨_, rfl, ?_⟩; have hnb50 := NB278_277.out; have hnc50 := NB277_278.out; have hcz51_0 : w47.cell? ⟨gb278, 0, none⟩ = some (.int .i64 x279000_5) := (blk_cell BK278.out 0).trans rfl; have hcz51_1 : w47.cell? ⟨gb278, 1, none⟩ = some (.int .i64 x279001_5) := (blk_cell BK278.out 1).trans rfl; have hcz51_2 : w47.cell? ⟨gb278, 2, none⟩ = some (.int .i64 x279002_5) := (blk_cell BK278.out 2).trans rfl; have hcz51_3 : w47.cell? ⟨gb278, 3, none⟩ = some (.int .i64 x279003_5) := (blk_cell BK278.out 3).trans rfl; have hfz51_0 := blk_frozen BK278.out 0; have hfz51_1 := blk_frozen BK278.out 1; have hfz51_2 := blk_frozen BK278.out 2; have hfz51_3 := blk_frozen BK278.out 3) | ((with_reducible refine gate_callee (f := 9) rfl ?_); refine goesL_ (some 62) rfl rfl Try.func9 (by kernel_rfl) rfl #[.string t276, .agg #[.int .i64 x279000_5, .int .i64 x279001_5, .int .i64 x279002_5, .int .i64 x279003_5]] rfl (by (try simp only [List.map_toArray, List.map_cons, List.map_nil]); first | done | rfl | (simp only [List.length_drop, List.length_take]; rfl)) ?_; (with_reducible refine (image_Of.calls t276 x279000_5 x279001_5 x279002_5 x279003_5 t285 t286 _ A28.out).mono ?_); rintro e w52 ⟨rfl, hb⟩; refine ⟨_, rfl, ?_⟩; have n0_ := Aside0.mk (Kd.R_below (by (with_reducible repeat (first | apply Kd.R_alloc | apply Kd.R_drewN | apply Kd.R_drew)); exact HO281.out) hb); have n1_ := Aside0.mk (blk_below (g := gb277) (o := .cells #[.int .i64 1, .int .i64 0, .int .i64 5, .int .i64 0] 23 (0, 0)) (by (with_reducible repeat (first | refine blk_drewN ?_ _ | refine blk_drew ?_ | refine blk_alloc ?_ _)); exact BK277.out) hb); have n2_ := Aside0.mk (blk_below (g := gb278) (o := .cells #[.int .i64 x279000_5, .int .i64 x279001_5, .int .i64 x279002_5, .int .i64 x279003_5] 23 (0, 0)) (by (with_reducible repeat (first | refine blk_drewN ?_ _ | refine blk_drew ?_ | refine blk_alloc ?_ _)); exact BK278.out) hb); have n3_ := Aside0.mk (below_step (by repeat (first | (with_reducible first | exact HB.out | apply below_alloc | apply pw_below_drewN | apply below_drew1 | refine below_set ?_ GE277.out | refine below_set ?_ GE278.out) | exact HB.out)) hb); clear HO281; clear BK277; clear BK278; clear HB; have HO281 := n0_; have BK277 := n1_; have BK278 := n2_; have HB := n3_; clear n0_ n1_ n2_ n3_; (try clear hb); (try clear hb2); (try clear hk); (try clear hi); have hcz53_0 : w52.cell? ⟨gb278, 0, none⟩ = some (.int .i64 x279000_5) := (blk_cell BK278.out 0).trans rfl; have hcz53_1 : w52.cell? ⟨gb278, 1, none⟩ = some (.int .i64 x279001_5) := (blk_cell BK278.out 1).trans rfl; have hcz53_2 : w52.cell? ⟨gb278, 2, none⟩ = some (.int .i64 x279002_5) := (blk_cell BK278.out 2).trans rfl; have hcz53_3 : w52.cell? ⟨gb278, 3, none⟩ = some (.int .i64 x279003_5) := (blk_cell BK278.out 3).trans rfl; have hfz53_0 := blk_frozen BK278.out 0; have hfz53_1 := blk_frozen BK278.out 1; have hfz53_2 := blk_frozen BK278.out 2; have hfz53_3 := blk_frozen BK278.out 3) | ((with_reducible refine gate_callee (f := 11) rfl ?_); refine goesL_ (some 68) rfl rfl Try.func11 (by kernel_rfl) rfl #[.string t276, .agg #[.int .i64 x279000_5, .int .i64 x279001_5, .int .i64 x279002_5, .int .i64 x279003_5]] rfl (by (try simp only [List.map_toArray, List.map_cons, List.map_nil]); first | done | rfl | (simp only [List.length_drop, List.length_take]; rfl)) ?_; (with_reducible refine (image_Good.calls t276 x279000_5 x279001_5 x279002_5 x279003_5 false t288 _ A29.out).mono ?_); rintro e w54 ⟨rfl, hb⟩; refine ⟨_, rfl, ?_⟩; have n0_ := Aside0.mk (Kd.R_below (by (with_reducible repeat (first | apply Kd.R_alloc | apply Kd.R_drewN | apply Kd.R_drew)); exact HO281.out) hb); have n1_ := Aside0.mk (blk_below (g := gb277) (o := .cells #[.int .i64 1, .int .i64 0, .int .i64 5, .int .i64 0] 23 (0, 0)) (by (with_reducible repeat (first | refine blk_drewN ?_ _ | refine blk_drew ?_ | refine blk_alloc ?_ _)); exact BK277.out) hb); have n2_ := Aside0.mk (blk_below (g := gb278) (o := .cells #[.int .i64 x279000_5, .int .i64 x279001_5, .int .i64 x279002_5, .int .i64 x279003_5] 23 (0, 0)) (by (with_reducible repeat (first | refine blk_drewN ?_ _ | refine blk_drew ?_ | refine blk_alloc ?_ _)); exact BK278.out) hb); have n3_ := Aside0.mk (below_step (by repeat (first | (with_reducible first | exact HB.out | apply below_alloc | apply pw_below_drewN | apply below_drew1 | refine below_set ?_ GE277.out | refine below_set ?_ GE278.out) | exact HB.out)) hb); clear HO281; clear BK277; clear BK278; clear HB; have HO281 := n0_; have BK277 := n1_; have BK278 := n2_; have HB := n3_; clear n0_ n1_ n2_ n3_; (try clear hb); (try clear hb2); (try clear hk); (try clear hi)))
               have n0_ := Aside0.mk (Kd.R_drew HO281.out)
               have n1_ := Aside0.mk (blk_drew BK277.out)
               have n2_ := Aside0.mk (blk_drew BK278.out)
               have n3_ := Aside0.mk (below_drew1 HB.out)
               clear HO281
               clear BK277
               clear BK278
               clear HB
               have HO281 := n0_
               have BK277 := n1_
               have BK278 := n2_
               have HB := n3_
               clear n0_ n1_ n2_ n3_
               refine start_ (n := 9) (S := fun w' => w'.cell? ⟨gb277, 0, none⟩ = some (.int .i64 1) ∧ w'.cell? ⟨gb277, 1, none⟩ = some (.int .i64 0) ∧ w'.cell? ⟨gb277, 2, none⟩ = some (.int .i64 5) ∧ w'.cell? ⟨gb277, 3, none⟩ = some (.int .i64 0)) (ds := []) #[false, false, false, false, false, false, false, false, false] (by kernel_rfl) rfl rfl ⟨(blk_cell BK277.out 0).trans rfl, (blk_cell BK277.out 1).trans rfl, (blk_cell BK277.out 2).trans rfl, (blk_cell BK277.out 3).trans rfl⟩ (fun hHeld => ?_); refine with_tabW skifflaw6_ImageForms.tab18 skifflaw6_ImageForms.bits18 (fun HT_ HW_ => ?_)
               generalize w54.drew = w55 at HO281 BK277 BK278 HB hHeld ⊢
               refine pure_ (i := 0) (N := some 72) (v := ?_) (a' := ?_) #[true, false, false, false, false, false, false, false, false] rfl rfl (any_of HT_.out (by kernel_rfl)) (fun _ _ _ h => h) (Or.inl ⟨by rfl, ?_⟩) ?_ ?_
               rotate_left
               ·intro w'
                go_simp
                with_reducible rfl
               rotate_left
               ·simp only [Act.put, List.setIfInBounds_toArray, List.set_cons_zero, List.set_cons_succ, i64_w, i32_w]
                rfl
               refine pure_ (i := 1) (N := some 73) (v := ?_) (a' := ?_) #[true, true, false, false, false, false, false, false, false] rfl rfl (any_of HT_.out (by kernel_rfl)) (fun _ _ _ h => h) (Or.inl ⟨by rfl, ?_⟩) ?_ ?_
               rotate_left
               ·intro w'
                go_simp
                with_reducible rfl
               rotate_left
               ·simp only [Act.put, List.setIfInBounds_toArray, List.set_cons_zero, List.set_cons_succ, i64_w, i32_w]
                rfl
               refine take_ (i := 2) (N := some 74) (v := ?_) (a' := ?_) #[true, true, true, false, false, false, false, false, false] rfl rfl (take_ofW HT_.out HW_.out (by kernel_rfl)) (fun _ _ _ h => h) (Or.inl ⟨by rfl, ?_⟩) hHeld ?_ ?_
               rotate_left
               ·rintro w' ⟨s0, s1, s2, s3⟩
                go_simp
                with_reducible rfl
               rotate_left
               ·simp only [Act.put, List.setIfInBounds_toArray, List.set_cons_zero, List.set_cons_succ, i64_w, i32_w]
                rfl
               refine one_ (i := 3) (N := some 75) #[true, true, true, true, false, false, false, false, false] rfl rfl (one_of HT_.out (by kernel_rfl)) (by decide) (fun K hK => ?_)
               refine goes_ Try.func9 (by kernel_rfl) rfl #[.string (t276.extract 1 t276.size), .agg #[.int .i64 1, .int .i64 0, .int .i64 5, .int .i64 0]] (by rfl) rfl rfl (by (try simp only [List.map_toArray, List.map_cons, List.map_nil]); first | done | rfl | (simp only [List.length_drop, List.length_take]; rfl)) ?_
               with_reducible refine (image_Of.calls (t276.extract 1 t276.size) 1 0 5 0 t289 t290 _ A31.out).mono ?_
               rintro e w56 ⟨rfl, hb⟩
               refine ⟨_, rfl, ?_⟩
               have n0_ := Aside0.mk (Kd.R_below (by (with_reducible repeat (first | apply Kd.R_alloc | apply Kd.R_drewN | apply Kd.R_drew)); exact HO281.out) hb)
               have n1_ := Aside0.mk (blk_below (g := gb277) (o := .cells #[.int .i64 1, .int .i64 0, .int .i64 5, .int .i64 0] 23 (0, 0)) (by (with_reducible repeat (first | refine blk_drewN ?_ _ | refine blk_drew ?_ | refine blk_alloc ?_ _)); exact BK277.out) hb)
               have n2_ := Aside0.mk (blk_below (g := gb278) (o := .cells #[.int .i64 x279000_5, .int .i64 x279001_5, .int .i64 x279002_5, .int .i64 x279003_5] 23 (0, 0)) (by (with_reducible repeat (first | refine blk_drewN ?_ _ | refine blk_drew ?_ | refine blk_alloc ?_ _)); exact BK278.out) hb)
               have n3_ := Aside0.mk (below_step (by repeat (first | (with_reducible first | exact HB.out | apply below_alloc | apply pw_below_drewN | apply below_drew1 | refine below_set ?_ GE277.out | refine below_set ?_ GE278.out) | exact HB.out)) hb)
               clear HO281
               clear BK277
               clear BK278
               clear HB
               have HO281 := n0_
               have BK277 := n1_
               have BK278 := n2_
               have HB := n3_
               clear n0_ n1_ n2_ n3_
               (try clear hb)
               (try clear hb2)
               (try clear hk)
               (try clear hi)
               refine hK.out _ _ ⟨(blk_cell BK277.out 0).trans rfl, (blk_cell BK277.out 1).trans rfl, (blk_cell BK277.out 2).trans rfl, (blk_cell BK277.out 3).trans rfl⟩ (fun hHeld => ?_)
               clear hK K
               refine norm_ (a' := ?_) ?_ ?_
               rotate_left
               ·show Act.put _ (some 75) _ = _
                simp only [Act.put, List.setIfInBounds_toArray, List.set_cons_zero, List.set_cons_succ, i64_w, i32_w]
                rfl
               refine pure_ (i := 4) (N := some 71) (v := ?_) (a' := ?_) #[true, true, true, true, true, false, false, false, false] rfl rfl (any_of HT_.out (by kernel_rfl)) (fun _ _ _ h => h) (Or.inl ⟨by rfl, ?_⟩) ?_ ?_
               rotate_left
               ·intro w'
                go_simp
                with_reducible rfl
               rotate_left
               ·simp only [Act.put, List.setIfInBounds_toArray, List.set_cons_zero, List.set_cons_succ, i64_w, i32_w]
                rfl
               refine pure_ (i := 5) (N := some 76) (v := ?_) (a' := ?_) #[true, true, true, true, true, true, false, false, false] rfl rfl (any_of HT_.out (by kernel_rfl)) (fun _ _ _ h => h) (Or.inl ⟨by rfl, ?_⟩) ?_ ?_
               rotate_left
               ·intro w'
                go_simp
                with_reducible rfl
               rotate_left
               ·simp only [Act.put, List.setIfInBounds_toArray, List.set_cons_zero, List.set_cons_succ, i64_w, i32_w]
                rfl
               refine pure_ (i := 6) (N := some 77) (v := ?_) (a' := ?_) #[true, true, true, true, true, true, true, false, false] rfl rfl (any_of HT_.out (by kernel_rfl)) (fun _ _ _ h => h) (Or.inl ⟨by rfl, ?_⟩) ?_ ?_
               rotate_left
               ·intro w'
                go_simp
                with_reducible rfl
               rotate_left
               ·simp only [Act.put, List.setIfInBounds_toArray, List.set_cons_zero, List.set_cons_succ, i64_w, i32_w]
                rfl
               refine pure_ (i := 7) (N := some 15) (v := ?_) (a' := ?_) #[true, true, true, true, true, true, true, true, false] rfl rfl (any_of HT_.out (by kernel_rfl)) (fun _ _ _ h => h) (Or.inl ⟨by rfl, ?_⟩) ?_ ?_
               rotate_left
               ·intro w'
                go_simp
                with_reducible rfl
               rotate_left
               ·simp only [Act.put, List.setIfInBounds_toArray, List.set_cons_zero, List.set_cons_succ, i64_w, i32_w]
                rfl
               refine pure_ (i := 8) (N := some 16) (v := ?_) (a' := ?_) #[true, true, true, true, true, true, true, true, true] rfl rfl (any_of HT_.out (by kernel_rfl)) (fun _ _ _ h => h) (Or.inl ⟨by rfl, ?_⟩) ?_ ?_
               rotate_left
               ·intro w'
                go_simp
                with_reducible rfl
               rotate_left
               ·simp only [Act.put, List.setIfInBounds_toArray, List.set_cons_zero, List.set_cons_succ, i64_w, i32_w]
                rfl
               refine done_ (done_of HT_.out (by kernel_rfl)) ?_
               try go_wp2
               have n0_ := Aside0.mk (Kd.R_drew HO281.out)
               have n1_ := Aside0.mk (blk_drew BK277.out)
               have n2_ := Aside0.mk (blk_drew BK278.out)
               have n3_ := Aside0.mk (below_drew1 HB.out)
               clear HO281
               clear BK277
               clear BK278
               clear HB
               have HO281 := n0_
               have BK277 := n1_
               have BK278 := n2_
               have HB := n3_
               clear n0_ n1_ n2_ n3_
               refine start_ (n := 9) (S := fun w' => w'.cell? ⟨gb277, 0, none⟩ = some (.int .i64 1) ∧ w'.cell? ⟨gb277, 1, none⟩ = some (.int .i64 0) ∧ w'.cell? ⟨gb277, 2, none⟩ = some (.int .i64 5) ∧ w'.cell? ⟨gb277, 3, none⟩ = some (.int .i64 0)) (ds := []) #[false, false, false, false, false, false, false, false, false] (by kernel_rfl) rfl rfl ⟨(blk_cell BK277.out 0).trans rfl, (blk_cell BK277.out 1).trans rfl, (blk_cell BK277.out 2).trans rfl, (blk_cell BK277.out 3).trans rfl⟩ (fun hHeld => ?_); refine with_tabW skifflaw6_ImageForms.tab19 skifflaw6_ImageForms.bits19 (fun HT_ HW_ => ?_)
               generalize w56.drew = w57 at HO281 BK277 BK278 HB hHeld ⊢
               refine pure_ (i := 0) (N := some 79) (v := ?_) (a' := ?_) #[true, false, false, false, false, false, false, false, false] rfl rfl (any_of HT_.out (by kernel_rfl)) (fun _ _ _ h => h) (Or.inl ⟨by rfl, ?_⟩) ?_ ?_
               rotate_left
               ·intro w'
                go_simp
                with_reducible rfl
               rotate_left
               ·simp only [Act.put, List.setIfInBounds_toArray, List.set_cons_zero, List.set_cons_succ, i64_w, i32_w]
                rfl
               refine pure_ (i := 1) (N := some 80) (v := ?_) (a' := ?_) #[true, true, false, false, false, false, false, false, false] rfl rfl (any_of HT_.out (by kernel_rfl)) (fun _ _ _ h => h) (Or.inl ⟨by rfl, ?_⟩) ?_ ?_
               rotate_left
               ·intro w'
                go_simp
                with_reducible rfl
               rotate_left
               ·simp only [Act.put, List.setIfInBounds_toArray, List.set_cons_zero, List.set_cons_succ, i64_w, i32_w]
                rfl
               refine take_ (i := 2) (N := some 81) (v := ?_) (a' := ?_) #[true, true, true, false, false, false, false, false, false] rfl rfl (take_ofW HT_.out HW_.out (by kernel_rfl)) (fun _ _ _ h => h) (Or.inl ⟨by rfl, ?_⟩) hHeld ?_ ?_
               rotate_left
               ·rintro w' ⟨s0, s1, s2, s3⟩
                go_simp
                with_reducible rfl
               rotate_left
               ·simp only [Act.put, List.setIfInBounds_toArray, List.set_cons_zero, List.set_cons_succ, i64_w, i32_w]
                rfl
               refine one_ (i := 3) (N := some 82) #[true, true, true, true, false, false, false, false, false] rfl rfl (one_of HT_.out (by kernel_rfl)) (by decide) (fun K hK => ?_)
               refine goes_ Try.func11 (by kernel_rfl) rfl #[.string (t276.extract 1 t276.size), .agg #[.int .i64 1, .int .i64 0, .int .i64 5, .int .i64 0]] (by rfl) rfl rfl (by (try simp only [List.map_toArray, List.map_cons, List.map_nil]); first | done | rfl | (simp only [List.length_drop, List.length_take]; rfl)) ?_
               with_reducible refine (image_Good.calls (t276.extract 1 t276.size) 1 0 5 0 false t292 _ A33.out).mono ?_
               rintro e w58 ⟨rfl, hb⟩
               refine ⟨_, rfl, ?_⟩
               have n0_ := Aside0.mk (Kd.R_below (by (with_reducible repeat (first | apply Kd.R_alloc | apply Kd.R_drewN | apply Kd.R_drew)); exact HO281.out) hb)
               have n1_ := Aside0.mk (blk_below (g := gb277) (o := .cells #[.int .i64 1, .int .i64 0, .int .i64 5, .int .i64 0] 23 (0, 0)) (by (with_reducible repeat (first | refine blk_drewN ?_ _ | refine blk_drew ?_ | refine blk_alloc ?_ _)); exact BK277.out) hb)
               have n2_ := Aside0.mk (blk_below (g := gb278) (o := .cells #[.int .i64 x279000_5, .int .i64 x279001_5, .int .i64 x279002_5, .int .i64 x279003_5] 23 (0, 0)) (by (with_reducible repeat (first | refine blk_drewN ?_ _ | refine blk_drew ?_ | refine blk_alloc ?_ _)); exact BK278.out) hb)
               have n3_ := Aside0.mk (below_step (by repeat (first | (with_reducible first | exact HB.out | apply below_alloc | apply pw_below_drewN | apply below_drew1 | refine below_set ?_ GE277.out | refine below_set ?_ GE278.out) | exact HB.out)) hb)
               clear HO281
               clear BK277
               clear BK278
               clear HB
               have HO281 := n0_
               have BK277 := n1_
               have BK278 := n2_
               have HB := n3_
               clear n0_ n1_ n2_ n3_
               (try clear hb)
               (try clear hb2)
               (try clear hk)
               (try clear hi)
               refine hK.out _ _ ⟨(blk_cell BK277.out 0).trans rfl, (blk_cell BK277.out 1).trans rfl, (blk_cell BK277.out 2).trans rfl, (blk_cell BK277.out 3).trans rfl⟩ (fun hHeld => ?_)
               clear hK K
               refine norm_ (a' := ?_) ?_ ?_
               rotate_left
               ·show Act.put _ (some 82) _ = _
                simp only [Act.put, List.setIfInBounds_toArray, List.set_cons_zero, List.set_cons_succ, i64_w, i32_w]
                rfl
               refine pure_ (i := 4) (N := some 78) (v := ?_) (a' := ?_) #[true, true, true, true, true, false, false, false, false] rfl rfl (any_of HT_.out (by kernel_rfl)) (fun _ _ _ h => h) (Or.inl ⟨by rfl, ?_⟩) ?_ ?_
               rotate_left
               ·intro w'
                go_simp
                with_reducible rfl
               rotate_left
               ·simp only [Act.put, List.setIfInBounds_toArray, List.set_cons_zero, List.set_cons_succ, i64_w, i32_w]
                rfl
               refine pure_ (i := 5) (N := some 83) (v := ?_) (a' := ?_) #[true, true, true, true, true, true, false, false, false] rfl rfl (any_of HT_.out (by kernel_rfl)) (fun _ _ _ h => h) (Or.inl ⟨by rfl, ?_⟩) ?_ ?_
               rotate_left
               ·intro w'
                go_simp
                with_reducible rfl
               rotate_left
               ·simp only [Act.put, List.setIfInBounds_toArray, List.set_cons_zero, List.set_cons_succ, i64_w, i32_w]
                rfl
               refine pure_ (i := 6) (N := some 84) (v := ?_) (a' := ?_) #[true, true, true, true, true, true, true, false, false] rfl rfl (any_of HT_.out (by kernel_rfl)) (fun _ _ _ h => h) (Or.inl ⟨by rfl, ?_⟩) ?_ ?_
               rotate_left
               ·intro w'
                go_simp
                with_reducible rfl
               rotate_left
               ·simp only [Act.put, List.setIfInBounds_toArray, List.set_cons_zero, List.set_cons_succ, i64_w, i32_w]
                rfl
               refine pure_ (i := 7) (N := some 17) (v := ?_) (a' := ?_) #[true, true, true, true, true, true, true, true, false] rfl rfl (any_of HT_.out (by kernel_rfl)) (fun _ _ _ h => h) (Or.inl ⟨by rfl, ?_⟩) ?_ ?_
               rotate_left
               ·intro w'
                go_simp
                with_reducible rfl
               rotate_left
               ·simp only [Act.put, List.setIfInBounds_toArray, List.set_cons_zero, List.set_cons_succ, i64_w, i32_w]
                rfl
               refine pure_ (i := 8) (N := some 18) (v := ?_) (a' := ?_) #[true, true, true, true, true, true, true, true, true] rfl rfl (any_of HT_.out (by kernel_rfl)) (fun _ _ _ h => h) (Or.inl ⟨by rfl, ?_⟩) ?_ ?_
               rotate_left
               ·intro w'
                go_simp
                with_reducible rfl
               rotate_left
               ·simp only [Act.put, List.setIfInBounds_toArray, List.set_cons_zero, List.set_cons_succ, i64_w, i32_w]
                rfl
               refine done_ (done_of HT_.out (by kernel_rfl)) ?_
               try go_wp2_with (first | ((with_reducible refine gate_callee (f := 13) rfl ?_); refine goesL_ (some 86) rfl rfl Try.func13 (by kernel_rfl) rfl #[.int .i64 t284] rfl (by (try simp only [List.map_toArray, List.map_cons, List.map_nil]); first | done | rfl | (simp only [List.length_drop, List.length_take]; rfl)) ?_; (with_reducible refine (skifflaw0_Num.calls t284 t293 _ A34.out).mono ?_); rintro e w' ⟨rfl, ⟨nd, rfl⟩⟩; refine ⟨_, rfl, ?_⟩) | (go_at_call 13; (with_reducible refine (skifflaw0_Num.calls t286 t294 _ A37.out).mono ?_); rintro e w' ⟨rfl, ⟨nd, rfl⟩⟩) | (go_at_call 13; (with_reducible refine (skifflaw0_Num.calls t288 t295 _ A40.out).mono ?_); rintro e w' ⟨rfl, ⟨nd, rfl⟩⟩) | (go_at_call 13; (with_reducible refine (skifflaw0_Num.calls t290 t296 _ A43.out).mono ?_); rintro e w' ⟨rfl, ⟨nd, rfl⟩⟩) | (go_at_call 13; (with_reducible refine (skifflaw0_Num.calls t292 t297 _ A46.out).mono ?_); rintro e w' ⟨rfl, ⟨nd, rfl⟩⟩))
               go_ret
               exact ⟨by first | rfl | (simp [errW_none, errW_some] <;> rfl) | (simp [*, errW_none, errW_some] <;> rfl), by repeat (first | (with_reducible first | exact HB.out | apply below_alloc | apply pw_below_drewN | apply below_drew1 | refine below_set ?_ GE277.out | refine below_set ?_ GE278.out) | exact HB.out)⟩
             ·rw [if_neg c44] at H
              exact absurd H (by simp)
            ·rw [if_neg c42] at H
             exact absurd H (by simp)
           ·rw [if_neg c41] at H
            exact absurd H (by simp)
         ·rw [if_neg c38] at H
          exact absurd H (by simp)
        ·rw [if_neg c36] at H
         exact absurd H (by simp)
       ·rw [if_neg c35] at H
        exact absurd H (by simp)
      ·rw [if_neg c30] at H
       exact absurd H (by simp)
     ·rw [if_neg c26] at H
      exact absurd H (by simp)
    ·rw [if_neg c25] at H
     exact absurd H (by simp)
 ·replace c4 := Bool.eq_false_iff.mpr c4
  subst c4
  have H1 : (none) = some r := by rw [if_neg (show ¬ (false = true) by decide)] at H; exact H
  clear H
  have H := H1
  clear H1
  exact absurd H (by simp)

/-- THE ONE PURE STATEMENT of skifflaw6_ImageForms: yours. -/
def skifflaw6_ImageForms.Pure : Prop := ∀ (a0 : Int) (a1 : Int), (Lit.int .i64 a0).wf = true → (Lit.int .i64 a1).wf = true → ∃ k, skifflaw6_ImageForms.f k a0 a1 = some true
theorem skifflaw6_ImageForms.walk (P : skifflaw6_ImageForms.Pure) (a0 : Int) (a1 : Int) (w : World) (w0 : (Lit.int .i64 a0).wf = true) (w1 : (Lit.int .i64 a1).wf = true) :
  Calls Try.prog 4 #[.int .i64 a0, .int .i64 a1] w fun e w' => e = .returned (.bool true) ∧ Below w.heap.size w w' := by
 obtain ⟨k, h⟩ := P a0 a1 w0 w1
 refine (skifflaw6_ImageForms.calls k a0 a1 true w h).mono ?_
 rintro e w' ⟨rfl, hd⟩
 exact ⟨rfl, hd⟩

-- NOT PRINTED: function 5 (skifflaw6_ImageTurned)

-- NOT PRINTED: function 6 (skifflaw6_ImageApart)

end Go.Proofs.Ytbibmdnjidmchaa.P
