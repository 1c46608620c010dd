-- written by wip/prt.py of this repo, by the kit's print, over contracts that are proved here by hand
import Derived.Test.YtkkabmoahmaniaaPx0
import Derived.Test.YtkkabmoahmaniaaPx2
namespace Go.Proofs.Ytkkabmoahmaniaa.P
open Go.RowKit Go.Proofs.YtkkabmoahmaniaaW.PrintWords Go.Proofs.YtkkabmoahmaniaaW.PrintLast Go.Proofs.YtkkabmoahmaniaaW.PrintMore
attribute [local go_sem] max2_int min2_int max_two min_two max_three min_three max_four min_four   -- for this text's walks alone
set_option linter.unusedVariables false
set_option linter.unusedSimpArgs false

/-! ### skifflaw3_OpsApart: function 8 -/
mutual
def skifflaw3_OpsApart.j0 : Nat → ByteArray → ByteArray → Bool → Bool → Int → ByteArray → Bool → Int → ByteArray → Option (Bool)
 | 0, _, _, _, _, _, _, _, _, _ => none
 | k + 1, x7, x9, x38, x290000, x290001, x290002, x291000, x291001, x291002 => if x38 = true then (some true) else (if x290000 = true then (skifflaw3_OpsApart.j1 k x7 x9 96 4 x290000 x290001 x290002 x291000 x291001 x291002) else (skifflaw3_OpsApart.j1 k x7 x9 4 4 x290000 x290001 x290002 x291000 x291001 x291002))
def skifflaw3_OpsApart.j1 : Nat → ByteArray → ByteArray → Int → Int → Bool → Int → ByteArray → Bool → Int → ByteArray → Option (Bool)
 | 0, _, _, _, _, _, _, _, _, _, _ => none
 | k + 1, x7, x9, x11, x12, x290000, x290001, x290002, x291000, x291001, x291002 => if x291000 = true then (skifflaw3_OpsApart.j2 k x7 x9 x11 96 x290000 x290001 x290002 x291000 x291001 x291002) else (skifflaw3_OpsApart.j2 k x7 x9 x11 x12 x290000 x290001 x290002 x291000 x291001 x291002)
def skifflaw3_OpsApart.j2 : Nat → ByteArray → ByteArray → Int → Int → Bool → Int → ByteArray → Bool → Int → ByteArray → Option (Bool)
 | 0, _, _, _, _, _, _, _, _, _, _ => none
 | k + 1, x7, x9, x11, x12, x290000, x290001, x290002, x291000, x291001, x291002 => if x290001 < (wrap64 (x291001 + x12)) then (skifflaw3_OpsApart.j3 k x7 x9 (decide (x291001 < (wrap64 (x290001 + x11)))) x290000 x290001 x290002 x291000 x291001 x291002) else (skifflaw3_OpsApart.j3 k x7 x9 false x290000 x290001 x290002 x291000 x291001 x291002)
def skifflaw3_OpsApart.j3 : Nat → ByteArray → ByteArray → Bool → Bool → Int → ByteArray → Bool → Int → ByteArray → Option (Bool)
 | 0, _, _, _, _, _, _, _, _, _ => none
 | k + 1, x7, x9, x58, x290000, x290001, x290002, x291000, x291001, x291002 => if x58 = true then ((skiffref1_OpMay.f x290000 x290001 x290002).bind fun t298 => (if t298 = true then ((skiffref1_OpMay.f x291000 x291001 x291002).bind fun t299 => (some t299)) else (none))) else ((ops_Do.f k x7 x291000 x291001 x291002).bind fun bt300 => ((ops_Do.f k x9 x290000 x290001 x290002).bind fun bt302 => ((skifflaw0_Num.f bt300.2).bind fun t304 => (if t304 = 0 then ((skifflaw0_Num.f bt302.2).bind fun t305 => (if t305 = 0 then (some (bt300.1.toList == bt302.1.toList)) else (none))) else (none)))))
end
def skifflaw3_OpsApart.f (k : Nat) (a0 : ByteArray) (a1_0 : Bool) (a1_1 : Int) (a1_2 : ByteArray) (a2_0 : Bool) (a2_1 : Int) (a2_2 : ByteArray) : Option (Bool) := (skifflaw3_awake.f k).bind fun t291 => (if t291 = true then ((ops_Do.f k a0 a1_0 a1_1 a1_2).bind fun bt292 => ((ops_Do.f k a0 a2_0 a2_1 a2_2).bind fun bt294 => ((skifflaw0_Num.f bt292.2).bind fun t296 => (if t296 = 0 then ((skifflaw0_Num.f bt294.2).bind fun t297 => (skifflaw3_OpsApart.j0 k bt292.1 bt294.1 (t297 != 0) a1_0 a1_1 a1_2 a2_0 a2_1 a2_2)) else (skifflaw3_OpsApart.j0 k bt292.1 bt294.1 true a1_0 a1_1 a1_2 a2_0 a2_1 a2_2))))) else (none))
theorem skifflaw3_OpsApart.mono_l : ∀ k, (∀ y0 y1 y2 y3 y4 y5 y6 y7 y8, LeO (skifflaw3_OpsApart.j0 k y0 y1 y2 y3 y4 y5 y6 y7 y8) (skifflaw3_OpsApart.j0 (k + 1) y0 y1 y2 y3 y4 y5 y6 y7 y8)) ∧ (∀ y0 y1 y2 y3 y4 y5 y6 y7 y8 y9, LeO (skifflaw3_OpsApart.j1 k y0 y1 y2 y3 y4 y5 y6 y7 y8 y9) (skifflaw3_OpsApart.j1 (k + 1) y0 y1 y2 y3 y4 y5 y6 y7 y8 y9)) ∧ (∀ y0 y1 y2 y3 y4 y5 y6 y7 y8 y9, LeO (skifflaw3_OpsApart.j2 k y0 y1 y2 y3 y4 y5 y6 y7 y8 y9) (skifflaw3_OpsApart.j2 (k + 1) y0 y1 y2 y3 y4 y5 y6 y7 y8 y9)) ∧ (∀ y0 y1 y2 y3 y4 y5 y6 y7 y8, LeO (skifflaw3_OpsApart.j3 k y0 y1 y2 y3 y4 y5 y6 y7 y8) (skifflaw3_OpsApart.j3 (k + 1) y0 y1 y2 y3 y4 y5 y6 y7 y8))
 | 0 => ⟨fun _ _ _ _ _ _ _ _ _ r h => by simp [skifflaw3_OpsApart.j0] at h, fun _ _ _ _ _ _ _ _ _ _ r h => by simp [skifflaw3_OpsApart.j1] at h, fun _ _ _ _ _ _ _ _ _ _ r h => by simp [skifflaw3_OpsApart.j2] at h, fun _ _ _ _ _ _ _ _ _ r h => by simp [skifflaw3_OpsApart.j3] at h⟩
 | k + 1 => by
  obtain ⟨ih0, ih1, ih2, ih3⟩ := skifflaw3_OpsApart.mono_l k
  refine ⟨?_, ?_, ?_, ?_⟩
  ·intro y0 y1 y2 y3 y4 y5 y6 y7 y8
   unfold skifflaw3_OpsApart.j0
   repeat' first
   | (with_reducible exact ih0 _ _ _ _ _ _ _ _ _)
   | (with_reducible exact ih1 _ _ _ _ _ _ _ _ _ _)
   | (with_reducible exact ih2 _ _ _ _ _ _ _ _ _ _)
   | (with_reducible exact ih3 _ _ _ _ _ _ _ _ _)
   | (with_reducible exact ops_Do.mono _ _ _ _ _)
   | (with_reducible exact skifflaw3_awake.mono _)
   | (with_reducible exact LeO.refl _)
   | (with_reducible exact LeO.none _)
   | (with_reducible refine LeO.ite ?_ ?_)
   | (with_reducible refine LeO.bind ?_ (fun _ => ?_))
   | exact ih0 _ _ _ _ _ _ _ _ _
   | exact ih1 _ _ _ _ _ _ _ _ _ _
   | exact ih2 _ _ _ _ _ _ _ _ _ _
   | exact ih3 _ _ _ _ _ _ _ _ _
   | exact ops_Do.mono _ _ _ _ _
   | exact skifflaw3_awake.mono _
   | exact LeO.none _
   | refine LeO.ite ?_ ?_
   | refine LeO.bind ?_ (fun _ => ?_)
  ·intro y0 y1 y2 y3 y4 y5 y6 y7 y8 y9
   unfold skifflaw3_OpsApart.j1
   repeat' first
   | (with_reducible exact ih0 _ _ _ _ _ _ _ _ _)
   | (with_reducible exact ih1 _ _ _ _ _ _ _ _ _ _)
   | (with_reducible exact ih2 _ _ _ _ _ _ _ _ _ _)
   | (with_reducible exact ih3 _ _ _ _ _ _ _ _ _)
   | (with_reducible exact ops_Do.mono _ _ _ _ _)
   | (with_reducible exact skifflaw3_awake.mono _)
   | (with_reducible exact LeO.refl _)
   | (with_reducible exact LeO.none _)
   | (with_reducible refine LeO.ite ?_ ?_)
   | (with_reducible refine LeO.bind ?_ (fun _ => ?_))
   | exact ih0 _ _ _ _ _ _ _ _ _
   | exact ih1 _ _ _ _ _ _ _ _ _ _
   | exact ih2 _ _ _ _ _ _ _ _ _ _
   | exact ih3 _ _ _ _ _ _ _ _ _
   | exact ops_Do.mono _ _ _ _ _
   | exact skifflaw3_awake.mono _
   | exact LeO.none _
   | refine LeO.ite ?_ ?_
   | refine LeO.bind ?_ (fun _ => ?_)
  ·intro y0 y1 y2 y3 y4 y5 y6 y7 y8 y9
   unfold skifflaw3_OpsApart.j2
   repeat' first
   | (with_reducible exact ih0 _ _ _ _ _ _ _ _ _)
   | (with_reducible exact ih1 _ _ _ _ _ _ _ _ _ _)
   | (with_reducible exact ih2 _ _ _ _ _ _ _ _ _ _)
   | (with_reducible exact ih3 _ _ _ _ _ _ _ _ _)
   | (with_reducible exact ops_Do.mono _ _ _ _ _)
   | (with_reducible exact skifflaw3_awake.mono _)
   | (with_reducible exact LeO.refl _)
   | (with_reducible exact LeO.none _)
   | (with_reducible refine LeO.ite ?_ ?_)
   | (with_reducible refine LeO.bind ?_ (fun _ => ?_))
   | exact ih0 _ _ _ _ _ _ _ _ _
   | exact ih1 _ _ _ _ _ _ _ _ _ _
   | exact ih2 _ _ _ _ _ _ _ _ _ _
   | exact ih3 _ _ _ _ _ _ _ _ _
   | exact ops_Do.mono _ _ _ _ _
   | exact skifflaw3_awake.mono _
   | exact LeO.none _
   | refine LeO.ite ?_ ?_
   | refine LeO.bind ?_ (fun _ => ?_)
  ·intro y0 y1 y2 y3 y4 y5 y6 y7 y8
   unfold skifflaw3_OpsApart.j3
   repeat' first
   | (with_reducible exact ih0 _ _ _ _ _ _ _ _ _)
   | (with_reducible exact ih1 _ _ _ _ _ _ _ _ _ _)
   | (with_reducible exact ih2 _ _ _ _ _ _ _ _ _ _)
   | (with_reducible exact ih3 _ _ _ _ _ _ _ _ _)
   | (with_reducible exact ops_Do.mono _ _ _ _ _)
   | (with_reducible exact skifflaw3_awake.mono _)
   | (with_reducible exact LeO.refl _)
   | (with_reducible exact LeO.none _)
   | (with_reducible refine LeO.ite ?_ ?_)
   | (with_reducible refine LeO.bind ?_ (fun _ => ?_))
   | exact ih0 _ _ _ _ _ _ _ _ _
   | exact ih1 _ _ _ _ _ _ _ _ _ _
   | exact ih2 _ _ _ _ _ _ _ _ _ _
   | exact ih3 _ _ _ _ _ _ _ _ _
   | exact ops_Do.mono _ _ _ _ _
   | exact skifflaw3_awake.mono _
   | exact LeO.none _
   | refine LeO.ite ?_ ?_
   | refine LeO.bind ?_ (fun _ => ?_)
theorem skifflaw3_OpsApart.mono : ∀ a0 a1 a2 a3 a4 a5 a6 k, LeO (skifflaw3_OpsApart.f k a0 a1 a2 a3 a4 a5 a6) (skifflaw3_OpsApart.f (k + 1) a0 a1 a2 a3 a4 a5 a6) := by
 intro a0 a1 a2 a3 a4 a5 a6 k
 obtain ⟨ih0, ih1, ih2, ih3⟩ := skifflaw3_OpsApart.mono_l k
 unfold skifflaw3_OpsApart.f
 repeat' first
   | (with_reducible exact ih0 _ _ _ _ _ _ _ _ _)
   | (with_reducible exact ih1 _ _ _ _ _ _ _ _ _ _)
   | (with_reducible exact ih2 _ _ _ _ _ _ _ _ _ _)
   | (with_reducible exact ih3 _ _ _ _ _ _ _ _ _)
   | (with_reducible exact ops_Do.mono _ _ _ _ _)
   | (with_reducible exact skifflaw3_awake.mono _)
   | (with_reducible exact LeO.refl _)
   | (with_reducible exact LeO.none _)
   | (with_reducible refine LeO.ite ?_ ?_)
   | (with_reducible refine LeO.bind ?_ (fun _ => ?_))
   | exact ih0 _ _ _ _ _ _ _ _ _
   | exact ih1 _ _ _ _ _ _ _ _ _ _
   | exact ih2 _ _ _ _ _ _ _ _ _ _
   | exact ih3 _ _ _ _ _ _ _ _ _
   | exact ops_Do.mono _ _ _ _ _
   | exact skifflaw3_awake.mono _
   | exact LeO.none _
   | refine LeO.ite ?_ ?_
   | refine LeO.bind ?_ (fun _ => ?_)
set_option maxHeartbeats 8000000 in
set_option maxRecDepth 100000 in
theorem skifflaw3_OpsApart.calls (k : Nat) (a0 : ByteArray) (a1_0 : Bool) (a1_1 : Int) (a1_2 : ByteArray) (a2_0 : Bool) (a2_1 : Int) (a2_2 : ByteArray) (r : Bool) (w : World) (h : skifflaw3_OpsApart.f k a0 a1_0 a1_1 a1_2 a2_0 a2_1 a2_2 = some r) :
  Calls Try.prog 8 #[.string a0, .agg #[.bool a1_0, .int .i64 a1_1, .string a1_2], .agg #[.bool a2_0, .int .i64 a2_1, .string a2_2]] w fun e w' => e = .returned (.bool r) ∧ Below w.heap.size w w' := by
 have hu23 := Try.underlying23
 have HB := Aside0.mk (Below.refl w.heap.size w)
 have H : ((skifflaw3_awake.f k).bind fun t291 => (if t291 = true then ((ops_Do.f k a0 a1_0 a1_1 a1_2).bind fun bt292 => ((ops_Do.f k a0 a2_0 a2_1 a2_2).bind fun bt294 => ((skifflaw0_Num.f bt292.2).bind fun t296 => (if t296 = 0 then ((skifflaw0_Num.f bt294.2).bind fun t297 => (skifflaw3_OpsApart.j0 k bt292.1 bt294.1 (t297 != 0) a1_0 a1_1 a1_2 a2_0 a2_1 a2_2)) else (skifflaw3_OpsApart.j0 k bt292.1 bt294.1 true a1_0 a1_1 a1_2 a2_0 a2_1 a2_2))))) else (none))) = some r := h
 clear h
 replace H := Option.bind_eq_some_iff.mp H
 obtain ⟨t291, A40, H⟩ := H
 replace H : (if t291 = true then ((ops_Do.f k a0 a1_0 a1_1 a1_2).bind fun bt292 => ((ops_Do.f k a0 a2_0 a2_1 a2_2).bind fun bt294 => ((skifflaw0_Num.f bt292.2).bind fun t296 => (if t296 = 0 then ((skifflaw0_Num.f bt294.2).bind fun t297 => (skifflaw3_OpsApart.j0 k bt292.1 bt294.1 (t297 != 0) a1_0 a1_1 a1_2 a2_0 a2_1 a2_2)) else (skifflaw3_OpsApart.j0 k bt292.1 bt294.1 true a1_0 a1_1 a1_2 a2_0 a2_1 a2_2))))) else (none)) = some r := H
 have A4 := Aside0.mk A40
 clear A40
 by_cases c5 : t291 = true
 ·subst c5
  have H1 : ((ops_Do.f k a0 a1_0 a1_1 a1_2).bind fun bt292 => ((ops_Do.f k a0 a2_0 a2_1 a2_2).bind fun bt294 => ((skifflaw0_Num.f bt292.2).bind fun t296 => (if t296 = 0 then ((skifflaw0_Num.f bt294.2).bind fun t297 => (skifflaw3_OpsApart.j0 k bt292.1 bt294.1 (t297 != 0) a1_0 a1_1 a1_2 a2_0 a2_1 a2_2)) else (skifflaw3_OpsApart.j0 k bt292.1 bt294.1 true a1_0 a1_1 a1_2 a2_0 a2_1 a2_2))))) = some r := by rw [if_pos rfl] at H; exact H
  clear H
  have H := H1
  clear H1
  replace H := Option.bind_eq_some_iff.mp H
  obtain ⟨⟨t292, t293⟩, A60, H⟩ := H
  replace H : ((ops_Do.f k a0 a2_0 a2_1 a2_2).bind fun bt294 => ((skifflaw0_Num.f t293).bind fun t296 => (if t296 = 0 then ((skifflaw0_Num.f bt294.2).bind fun t297 => (skifflaw3_OpsApart.j0 k t292 bt294.1 (t297 != 0) a1_0 a1_1 a1_2 a2_0 a2_1 a2_2)) else (skifflaw3_OpsApart.j0 k t292 bt294.1 true a1_0 a1_1 a1_2 a2_0 a2_1 a2_2)))) = some r := H
  have A6 := Aside0.mk A60
  clear A60
  replace H := Option.bind_eq_some_iff.mp H
  obtain ⟨⟨t294, t295⟩, A70, H⟩ := H
  replace H : ((skifflaw0_Num.f t293).bind fun t296 => (if t296 = 0 then ((skifflaw0_Num.f t295).bind fun t297 => (skifflaw3_OpsApart.j0 k t292 t294 (t297 != 0) a1_0 a1_1 a1_2 a2_0 a2_1 a2_2)) else (skifflaw3_OpsApart.j0 k t292 t294 true a1_0 a1_1 a1_2 a2_0 a2_1 a2_2))) = some r := H
  have A7 := Aside0.mk A70
  clear A70
  have HC8 := Aside0.mk H
  clear H
  go_enter Try.func8, Try.ntmps8
  go_upto_region 5 with (first | ((with_reducible refine gate_dst (N := 4) rfl ?_); refine box_event ?hg (N := 4) ?hd (cs := #[.bool a1_0, .int .i64 a1_1, .string a1_2]) (t := 23) ?hr ?_; (case hd => rfl); (case hg => rfl); (case hr => first | (go_simp; done) | (go_simp; rfl)); intro gb289 hg w9 hbox hb; have n0_ := Aside0.mk (below_step (by repeat (first | (with_reducible first | exact HB.out | apply below_alloc | apply pw_below_drewN | apply below_drew1) | exact HB.out)) hb); have n1_ := Aside0.mk (hbox); have n2_ := Aside0.mk ((by rw [hg]; exact (below_size (by repeat (first | (with_reducible first | exact HB.out | apply below_alloc | apply pw_below_drewN | apply below_drew1) | exact HB.out))) : w.heap.size ≤ gb289)); have n3_ := Aside0.mk ((by rw [hg]; exact (below_size (by repeat (first | (with_reducible first | exact HB.out | apply below_alloc | apply pw_below_drewN | apply below_drew1) | exact HB.out))) : w.heap.size ≤ gb289)); clear HB; have HB := n0_; have BK289 := n1_; have GW289 := n2_; have GE289 := n3_; clear n0_ n1_ n2_ n3_; clear hb hbox hg) | ((with_reducible refine gate_dst (N := 5) rfl ?_); refine box_event ?hg (N := 5) ?hd (cs := #[.bool a2_0, .int .i64 a2_1, .string a2_2]) (t := 23) ?hr ?_; (case hd => rfl); (case hg => rfl); (case hr => first | (go_simp; done) | (go_simp; rfl)); intro gb290 hg w10 hbox hb; have n0_ := Aside0.mk (blk_below (g := gb289) (o := .cells #[.bool a1_0, .int .i64 a1_1, .string a1_2] 23 (0, 0)) (by (with_reducible repeat (first | refine blk_drewN ?_ _ | refine blk_drew ?_ | refine blk_alloc ?_ _)); exact BK289.out) hb); have n1_ := Aside0.mk (below_step (by repeat (first | (with_reducible first | exact HB.out | apply below_alloc | apply pw_below_drewN | apply below_drew1 | refine below_set ?_ GE289.out) | exact HB.out)) hb); have n2_ := Aside0.mk (hbox); have n3_ := Aside0.mk ((by rw [hg]; exact (below_size (by repeat (first | (with_reducible first | exact HB.out | apply below_alloc | apply pw_below_drewN | apply below_drew1 | refine below_set ?_ GE289.out) | exact HB.out))) : w.heap.size ≤ gb290)); have n4_ := Aside0.mk ((by rw [hg]; exact (below_size (by repeat (first | (with_reducible first | exact HB.out | apply below_alloc | apply pw_below_drewN | apply below_drew1 | refine below_set ?_ GE289.out) | exact HB.out))) : w.heap.size ≤ gb290)); have n5_ := Aside0.mk ((by rw [hg]; exact Nat.ne_of_lt (blk_lt (g := gb289) (o := .cells #[.bool a1_0, .int .i64 a1_1, .string a1_2] 23 (0, 0)) (by (with_reducible repeat (first | refine blk_drewN ?_ _ | refine blk_drew ?_ | refine blk_alloc ?_ _)); exact BK289.out)) : gb289 ≠ gb290)); have n6_ := Aside0.mk ((by rw [hg]; exact Nat.ne_of_gt (blk_lt (g := gb289) (o := .cells #[.bool a1_0, .int .i64 a1_1, .string a1_2] 23 (0, 0)) (by (with_reducible repeat (first | refine blk_drewN ?_ _ | refine blk_drew ?_ | refine blk_alloc ?_ _)); exact BK289.out)) : gb290 ≠ gb289)); clear BK289; clear HB; have BK289 := n0_; have HB := n1_; have BK290 := n2_; have GW290 := n3_; have GE290 := n4_; have NB289_290 := n5_; have NB290_289 := n6_; clear n0_ n1_ n2_ n3_ n4_ n5_ n6_; clear hb hbox hg) | ((with_reducible refine gate_callee (f := 20) rfl ?_); refine goesL_ (some 17) rfl rfl Try.func20 (by kernel_rfl) rfl #[] rfl (by (try simp only [List.map_toArray, List.map_cons, List.map_nil]); first | done | rfl | (simp only [List.length_drop, List.length_take]; rfl)) ?_; (with_reducible refine (skifflaw3_awake.calls k  true _ A4.out).mono ?_); rintro e w11 ⟨rfl, hb⟩; refine ⟨_, rfl, ?_⟩; have n0_ := Aside0.mk (blk_below (g := gb289) (o := .cells #[.bool a1_0, .int .i64 a1_1, .string a1_2] 23 (0, 0)) (by (with_reducible repeat (first | refine blk_drewN ?_ _ | refine blk_drew ?_ | refine blk_alloc ?_ _)); exact BK289.out) hb); have n1_ := Aside0.mk (blk_below (g := gb290) (o := .cells #[.bool a2_0, .int .i64 a2_1, .string a2_2] 23 (0, 0)) (by (with_reducible repeat (first | refine blk_drewN ?_ _ | refine blk_drew ?_ | refine blk_alloc ?_ _)); exact BK290.out) hb); have n2_ := Aside0.mk (below_step (by repeat (first | (with_reducible first | exact HB.out | apply below_alloc | apply pw_below_drewN | apply below_drew1 | refine below_set ?_ GE289.out | refine below_set ?_ GE290.out) | exact HB.out)) hb); clear BK289; clear BK290; clear HB; have BK289 := n0_; have BK290 := n1_; have HB := n2_; clear n0_ n1_ n2_; (try clear hb); (try clear hb2); (try clear hk); (try clear hi); have hnb12 := NB289_290.out; have hnc12 := NB290_289.out; have hcz13_0 : w11.cell? ⟨gb289, 0, none⟩ = some (.bool a1_0) := (blk_cell BK289.out 0).trans rfl; have hcz13_1 : w11.cell? ⟨gb289, 1, none⟩ = some (.int .i64 a1_1) := (blk_cell BK289.out 1).trans rfl; have hcz13_2 : w11.cell? ⟨gb289, 2, none⟩ = some (.string a1_2) := (blk_cell BK289.out 2).trans rfl; have hfz13_0 := blk_frozen BK289.out 0; have hfz13_1 := blk_frozen BK289.out 1; have hfz13_2 := blk_frozen BK289.out 2) | ((with_reducible refine gate_callee (f := 11) rfl ?_); refine goesL_ (some 22) rfl rfl Try.func11 (by kernel_rfl) rfl #[.string a0, .agg #[.bool a1_0, .int .i64 a1_1, .string a1_2]] rfl (by (try simp only [List.map_toArray, List.map_cons, List.map_nil]); first | done | rfl | (simp only [List.length_drop, List.length_take]; rfl)) ?_; (with_reducible refine (ops_Do.calls k a0 a1_0 a1_1 a1_2 t292 t293 _ A6.out).mono ?_); rintro e w14 ⟨rfl, hb⟩; refine ⟨_, rfl, ?_⟩; have n0_ := Aside0.mk (blk_below (g := gb289) (o := .cells #[.bool a1_0, .int .i64 a1_1, .string a1_2] 23 (0, 0)) (by (with_reducible repeat (first | refine blk_drewN ?_ _ | refine blk_drew ?_ | refine blk_alloc ?_ _)); exact BK289.out) hb); have n1_ := Aside0.mk (blk_below (g := gb290) (o := .cells #[.bool a2_0, .int .i64 a2_1, .string a2_2] 23 (0, 0)) (by (with_reducible repeat (first | refine blk_drewN ?_ _ | refine blk_drew ?_ | refine blk_alloc ?_ _)); exact BK290.out) hb); have n2_ := Aside0.mk (below_step (by repeat (first | (with_reducible first | exact HB.out | apply below_alloc | apply pw_below_drewN | apply below_drew1 | refine below_set ?_ GE289.out | refine below_set ?_ GE290.out) | exact HB.out)) hb); clear BK289; clear BK290; clear HB; have BK289 := n0_; have BK290 := n1_; have HB := n2_; clear n0_ n1_ n2_; (try clear hb); (try clear hb2); (try clear hk); (try clear hi); have hcz15_0 : w14.cell? ⟨gb290, 0, none⟩ = some (.bool a2_0) := (blk_cell BK290.out 0).trans rfl; have hcz15_1 : w14.cell? ⟨gb290, 1, none⟩ = some (.int .i64 a2_1) := (blk_cell BK290.out 1).trans rfl; have hcz15_2 : w14.cell? ⟨gb290, 2, none⟩ = some (.string a2_2) := (blk_cell BK290.out 2).trans rfl; have hfz15_0 := blk_frozen BK290.out 0; have hfz15_1 := blk_frozen BK290.out 1; have hfz15_2 := blk_frozen BK290.out 2) | ((with_reducible refine gate_callee (f := 11) rfl ?_); refine goesL_ (some 28) rfl rfl Try.func11 (by kernel_rfl) rfl #[.string a0, .agg #[.bool a2_0, .int .i64 a2_1, .string a2_2]] rfl (by (try simp only [List.map_toArray, List.map_cons, List.map_nil]); first | done | rfl | (simp only [List.length_drop, List.length_take]; rfl)) ?_; (with_reducible refine (ops_Do.calls k a0 a2_0 a2_1 a2_2 t294 t295 _ A7.out).mono ?_); rintro e w16 ⟨rfl, hb⟩; refine ⟨_, rfl, ?_⟩; have n0_ := Aside0.mk (blk_below (g := gb289) (o := .cells #[.bool a1_0, .int .i64 a1_1, .string a1_2] 23 (0, 0)) (by (with_reducible repeat (first | refine blk_drewN ?_ _ | refine blk_drew ?_ | refine blk_alloc ?_ _)); exact BK289.out) hb); have n1_ := Aside0.mk (blk_below (g := gb290) (o := .cells #[.bool a2_0, .int .i64 a2_1, .string a2_2] 23 (0, 0)) (by (with_reducible repeat (first | refine blk_drewN ?_ _ | refine blk_drew ?_ | refine blk_alloc ?_ _)); exact BK290.out) hb); have n2_ := Aside0.mk (below_step (by repeat (first | (with_reducible first | exact HB.out | apply below_alloc | apply pw_below_drewN | apply below_drew1 | refine below_set ?_ GE289.out | refine below_set ?_ GE290.out) | exact HB.out)) hb); clear BK289; clear BK290; clear HB; have BK289 := n0_; have BK290 := n1_; have HB := n2_; clear n0_ n1_ n2_; (try clear hb); (try clear hb2); (try clear hk); (try clear hi)))
  (try simp only [Act.put, List.setIfInBounds_toArray, List.set_cons_zero, List.set_cons_succ])
  go_cut [38] (fun v38 wc => ∃ (kq : Nat) (x38_7 : Bool), v38 = .bool x38_7 ∧ Aside0 (skifflaw3_OpsApart.j0 kq t292 t294 x38_7 a1_0 a1_1 a1_2 a2_0 a2_1 a2_2 = some r) ∧ Aside0 (kq ≤ k) ∧ Aside0 (wc.heap[gb289]? = some (.cells #[.bool a1_0, .int .i64 a1_1, .string a1_2] 23 (0, 0))) ∧ Aside0 (wc.heap[gb290]? = some (.cells #[.bool a2_0, .int .i64 a2_1, .string a2_2] 23 (0, 0))) ∧ Aside0 (Below w.heap.size w wc))
  case first =>
   have H := HC8.out
   clear HC8
   replace H := Option.bind_eq_some_iff.mp H
   obtain ⟨t296, A170, H⟩ := H
   replace H : (if t296 = 0 then ((skifflaw0_Num.f t295).bind fun t297 => (skifflaw3_OpsApart.j0 k t292 t294 (t297 != 0) a1_0 a1_1 a1_2 a2_0 a2_1 a2_2)) else (skifflaw3_OpsApart.j0 k t292 t294 true a1_0 a1_1 a1_2 a2_0 a2_1 a2_2)) = some r := H
   have A17 := Aside0.mk A170
   clear A170
   by_cases c18 : t296 = 0
   ·rw [if_pos c18] at H
    have c18b0 : (t296 == 0) = true := beq_iff_eq.mpr c18
    have c18b1 : (t296 != 0) = false := bne_eq_false_iff_eq.mpr c18
    clear c18
    (first | rw [c18b0] | (simp only [i64_w, i32_w]; rw [c18b0]) | skip)
    replace H := Option.bind_eq_some_iff.mp H
    obtain ⟨t297, A190, H⟩ := H
    replace H : (skifflaw3_OpsApart.j0 k t292 t294 (t297 != 0) a1_0 a1_1 a1_2 a2_0 a2_1 a2_2) = some r := H
    have A19 := Aside0.mk A190
    clear A190
    have H' := Aside0.mk H
    clear H
    go_wp2_with (first | ((with_reducible refine gate_callee (f := 17) rfl ?_); refine goesL_ (some 32) rfl rfl Try.func17 (by kernel_rfl) rfl #[.int .i64 t293] rfl (by (try simp only [List.map_toArray, List.map_cons, List.map_nil]); first | done | rfl | (simp only [List.length_drop, List.length_take]; rfl)) ?_; (with_reducible refine (skifflaw0_Num.calls t293 t296 _ A17.out).mono ?_); rintro e w' ⟨rfl, ⟨nd, rfl⟩⟩; refine ⟨_, rfl, ?_⟩) | (go_at_call 17; (with_reducible refine (skifflaw0_Num.calls t295 t297 _ A19.out).mono ?_); rintro e w' ⟨rfl, ⟨nd, rfl⟩⟩))
    go_meet
    case rel => exact ⟨_, ((t297 != 0)), (by first | rfl | (simp; done) | (simp [*]; done)), H', ⟨by first | omega | exact Nat.le_refl _⟩, ⟨by (with_reducible repeat (first | refine blk_drewN ?_ _ | refine blk_drew ?_ | refine blk_alloc ?_ _)); exact BK289.out⟩, ⟨by (with_reducible repeat (first | refine blk_drewN ?_ _ | refine blk_drew ?_ | refine blk_alloc ?_ _)); exact BK290.out⟩, ⟨by repeat (first | (with_reducible first | exact HB.out | apply below_alloc | apply pw_below_drewN | apply below_drew1 | refine below_set ?_ GE289.out | refine below_set ?_ GE290.out) | exact HB.out)⟩⟩
   ·rw [if_neg c18] at H
    have c18b0 : (t296 == 0) = false := beq_eq_false_iff_ne.mpr c18
    have c18b1 : (t296 != 0) = true := bne_iff_ne.mpr c18
    (first | rw [c18b0] | (simp only [i64_w, i32_w]; rw [c18b0]) | skip)
    have H' := Aside0.mk H
    clear H
    go_wp2_with (first | ((with_reducible refine gate_callee (f := 17) rfl ?_); refine goesL_ (some 32) rfl rfl Try.func17 (by kernel_rfl) rfl #[.int .i64 t293] rfl (by (try simp only [List.map_toArray, List.map_cons, List.map_nil]); first | done | rfl | (simp only [List.length_drop, List.length_take]; rfl)) ?_; (with_reducible refine (skifflaw0_Num.calls t293 t296 _ A17.out).mono ?_); rintro e w' ⟨rfl, ⟨nd, rfl⟩⟩; refine ⟨_, rfl, ?_⟩))
    go_meet
    case rel => exact ⟨_, (true), (by first | rfl | (simp; done) | (simp [*]; done)), H', ⟨by first | omega | exact Nat.le_refl _⟩, ⟨by (with_reducible repeat (first | refine blk_drewN ?_ _ | refine blk_drew ?_ | refine blk_alloc ?_ _)); exact BK289.out⟩, ⟨by (with_reducible repeat (first | refine blk_drewN ?_ _ | refine blk_drew ?_ | refine blk_alloc ?_ _)); exact BK290.out⟩, ⟨by repeat (first | (with_reducible first | exact HB.out | apply below_alloc | apply pw_below_drewN | apply below_drew1 | refine below_set ?_ GE289.out | refine below_set ?_ GE290.out) | exact HB.out)⟩⟩
  case rest =>
   clear HC8
   try clear c1
   try clear c2
   try clear p2
   try clear c5
   try clear c8
   try clear c11
   try clear c12
   try clear c17
   try clear c18
   try clear c18b0
   try clear c18b1
   try clear hcz13_0
   try clear hcz13_1
   try clear hcz13_2
   try clear hcz15_0
   try clear hcz15_1
   try clear hcz15_2
   try clear hfz13_0
   try clear hfz13_1
   try clear hfz13_2
   try clear hfz15_0
   try clear hfz15_1
   try clear hfz15_2
   obtain ⟨kq, x38_7, rfl, HA, HJ7, BK289, BK290, HB⟩ := hcut
   cases kq with
   | zero => exact absurd HA.out (by simp [skifflaw3_OpsApart.j0])
   | succ kj7 =>
    have H := HA.out
    clear HA
    simp only [skifflaw3_OpsApart.j0] at H
    by_cases c20 : x38_7 = true
    ·subst c20
     have H1 : (some true) = some r := by rw [if_pos rfl] at H; exact H
     clear H
     have H := H1
     clear H1
     obtain rfl := Option.some.inj H
     go_wp2
     go_ret
     exact ⟨by first | rfl | (simp [errW_none, errW_some] <;> rfl) | (simp [*, errW_none, errW_some] <;> rfl), by repeat (first | (with_reducible first | exact HB.out | apply below_alloc | apply pw_below_drewN | apply below_drew1 | refine below_set ?_ GE289.out | refine below_set ?_ GE290.out) | exact HB.out)⟩
    ·replace c20 := Bool.eq_false_iff.mpr c20
     subst c20
     have H1 : (if a1_0 = true then (skifflaw3_OpsApart.j1 kj7 t292 t294 96 4 a1_0 a1_1 a1_2 a2_0 a2_1 a2_2) else (skifflaw3_OpsApart.j1 kj7 t292 t294 4 4 a1_0 a1_1 a1_2 a2_0 a2_1 a2_2)) = some r := by rw [if_neg (show ¬ (false = true) by decide)] at H; exact H
     clear H
     have H := H1
     clear H1
     have HC21 := Aside0.mk H
     clear H
     have hnb22 := NB289_290.out
     have hnc22 := NB290_289.out
     have hcz23_0 : wc.cell? ⟨gb289, 0, none⟩ = some (.bool a1_0) := (blk_cell BK289.out 0).trans rfl
     have hcz23_1 : wc.cell? ⟨gb289, 1, none⟩ = some (.int .i64 a1_1) := (blk_cell BK289.out 1).trans rfl
     have hcz23_2 : wc.cell? ⟨gb289, 2, none⟩ = some (.string a1_2) := (blk_cell BK289.out 2).trans rfl
     have hfz23_0 := blk_frozen BK289.out 0
     have hfz23_1 := blk_frozen BK289.out 1
     have hfz23_2 := blk_frozen BK289.out 2
     go_upto_if 40 with (fail)
     go_cut [11] (fun v11 wc => ∃ (kq : Nat) (x11_20 : Int), v11 = .int .i64 x11_20 ∧ Aside0 (skifflaw3_OpsApart.j1 kq t292 t294 x11_20 4 a1_0 a1_1 a1_2 a2_0 a2_1 a2_2 = some r) ∧ Aside0 (kq ≤ kj7) ∧ Aside0 (wc.heap[gb289]? = some (.cells #[.bool a1_0, .int .i64 a1_1, .string a1_2] 23 (0, 0))) ∧ Aside0 (wc.heap[gb290]? = some (.cells #[.bool a2_0, .int .i64 a2_1, .string a2_2] 23 (0, 0))) ∧ Aside0 (Below w.heap.size w wc))
     case first =>
      have H := HC21.out
      clear HC21
      by_cases c24 : a1_0 = true
      ·subst c24
       have H1 : (skifflaw3_OpsApart.j1 kj7 t292 t294 96 4 true a1_1 a1_2 a2_0 a2_1 a2_2) = some r := by rw [if_pos rfl] at H; exact H
       clear H
       have H := H1
       clear H1
       have H' := Aside0.mk H
       clear H
       go_wp2
       go_meet
       case rel => exact ⟨_, (96), (by first | rfl | (simp; done) | (simp [*]; done)), H', ⟨by have := HJ7.out; first | omega | exact Nat.le_refl _⟩, ⟨by (with_reducible repeat (first | refine blk_drewN ?_ _ | refine blk_drew ?_ | refine blk_alloc ?_ _)); exact BK289.out⟩, ⟨by (with_reducible repeat (first | refine blk_drewN ?_ _ | refine blk_drew ?_ | refine blk_alloc ?_ _)); exact BK290.out⟩, ⟨by repeat (first | (with_reducible first | exact HB.out | apply below_alloc | apply pw_below_drewN | apply below_drew1 | refine below_set ?_ GE289.out | refine below_set ?_ GE290.out) | exact HB.out)⟩⟩
      ·replace c24 := Bool.eq_false_iff.mpr c24
       subst c24
       have H1 : (skifflaw3_OpsApart.j1 kj7 t292 t294 4 4 false a1_1 a1_2 a2_0 a2_1 a2_2) = some r := by rw [if_neg (show ¬ (false = true) by decide)] at H; exact H
       clear H
       have H := H1
       clear H1
       have H' := Aside0.mk H
       clear H
       go_wp2
       go_meet
       case rel => exact ⟨_, (4), (by first | rfl | (simp; done) | (simp [*]; done)), H', ⟨by have := HJ7.out; first | omega | exact Nat.le_refl _⟩, ⟨by (with_reducible repeat (first | refine blk_drewN ?_ _ | refine blk_drew ?_ | refine blk_alloc ?_ _)); exact BK289.out⟩, ⟨by (with_reducible repeat (first | refine blk_drewN ?_ _ | refine blk_drew ?_ | refine blk_alloc ?_ _)); exact BK290.out⟩, ⟨by repeat (first | (with_reducible first | exact HB.out | apply below_alloc | apply pw_below_drewN | apply below_drew1 | refine below_set ?_ GE289.out | refine below_set ?_ GE290.out) | exact HB.out)⟩⟩
     case rest =>
      clear HC21
      try clear c1
      try clear c2
      try clear p2
      try clear c5
      try clear c8
      try clear c11
      try clear c12
      try clear c17
      try clear c18
      try clear c18b0
      try clear c18b1
      try clear c20
      try clear c22
      try clear c24
      try clear hcz13_0
      try clear hcz13_1
      try clear hcz13_2
      try clear hcz15_0
      try clear hcz15_1
      try clear hcz15_2
      try clear hcz23_0
      try clear hcz23_1
      try clear hcz23_2
      try clear hfz13_0
      try clear hfz13_1
      try clear hfz13_2
      try clear hfz15_0
      try clear hfz15_1
      try clear hfz15_2
      try clear hfz23_0
      try clear hfz23_1
      try clear hfz23_2
      try clear p2
      obtain ⟨kq, x11_20, rfl, HA, HJ20, BK289, BK290, HB⟩ := hcut
      cases kq with
      | zero => exact absurd HA.out (by simp [skifflaw3_OpsApart.j1])
      | succ kj20 =>
       have H := HA.out
       clear HA
       simp only [skifflaw3_OpsApart.j1] at H
       have HC25 := Aside0.mk H
       clear H
       have hnb26 := NB290_289.out
       have hnc26 := NB289_290.out
       have hcz27_0 : wc.cell? ⟨gb290, 0, none⟩ = some (.bool a2_0) := (blk_cell BK290.out 0).trans rfl
       have hcz27_1 : wc.cell? ⟨gb290, 1, none⟩ = some (.int .i64 a2_1) := (blk_cell BK290.out 1).trans rfl
       have hcz27_2 : wc.cell? ⟨gb290, 2, none⟩ = some (.string a2_2) := (blk_cell BK290.out 2).trans rfl
       have hfz27_0 := blk_frozen BK290.out 0
       have hfz27_1 := blk_frozen BK290.out 1
       have hfz27_2 := blk_frozen BK290.out 2
       go_upto_if 42 with (fail)
       go_cut [12] (fun v12 wc => ∃ (kq : Nat) (x12_24 : Int), v12 = .int .i64 x12_24 ∧ Aside0 (skifflaw3_OpsApart.j2 kq t292 t294 x11_20 x12_24 a1_0 a1_1 a1_2 a2_0 a2_1 a2_2 = some r) ∧ Aside0 (kq ≤ kj20) ∧ Aside0 (wc.heap[gb289]? = some (.cells #[.bool a1_0, .int .i64 a1_1, .string a1_2] 23 (0, 0))) ∧ Aside0 (wc.heap[gb290]? = some (.cells #[.bool a2_0, .int .i64 a2_1, .string a2_2] 23 (0, 0))) ∧ Aside0 (Below w.heap.size w wc))
       case first =>
        have H := HC25.out
        clear HC25
        by_cases c28 : a2_0 = true
        ·subst c28
         have H1 : (skifflaw3_OpsApart.j2 kj20 t292 t294 x11_20 96 a1_0 a1_1 a1_2 true a2_1 a2_2) = some r := by rw [if_pos rfl] at H; exact H
         clear H
         have H := H1
         clear H1
         have H' := Aside0.mk H
         clear H
         go_wp2
         go_meet
         case rel => exact ⟨_, (96), (by first | rfl | (simp; done) | (simp [*]; done)), H', ⟨by have := HJ7.out; have := HJ20.out; first | omega | exact Nat.le_refl _⟩, ⟨by (with_reducible repeat (first | refine blk_drewN ?_ _ | refine blk_drew ?_ | refine blk_alloc ?_ _)); exact BK289.out⟩, ⟨by (with_reducible repeat (first | refine blk_drewN ?_ _ | refine blk_drew ?_ | refine blk_alloc ?_ _)); exact BK290.out⟩, ⟨by repeat (first | (with_reducible first | exact HB.out | apply below_alloc | apply pw_below_drewN | apply below_drew1 | refine below_set ?_ GE289.out | refine below_set ?_ GE290.out) | exact HB.out)⟩⟩
        ·replace c28 := Bool.eq_false_iff.mpr c28
         subst c28
         have H1 : (skifflaw3_OpsApart.j2 kj20 t292 t294 x11_20 4 a1_0 a1_1 a1_2 false a2_1 a2_2) = some r := by rw [if_neg (show ¬ (false = true) by decide)] at H; exact H
         clear H
         have H := H1
         clear H1
         have H' := Aside0.mk H
         clear H
         go_wp2
         go_meet
         case rel => exact ⟨_, (4), (by first | rfl | (simp; done) | (simp [*]; done)), H', ⟨by have := HJ7.out; have := HJ20.out; first | omega | exact Nat.le_refl _⟩, ⟨by (with_reducible repeat (first | refine blk_drewN ?_ _ | refine blk_drew ?_ | refine blk_alloc ?_ _)); exact BK289.out⟩, ⟨by (with_reducible repeat (first | refine blk_drewN ?_ _ | refine blk_drew ?_ | refine blk_alloc ?_ _)); exact BK290.out⟩, ⟨by repeat (first | (with_reducible first | exact HB.out | apply below_alloc | apply pw_below_drewN | apply below_drew1 | refine below_set ?_ GE289.out | refine below_set ?_ GE290.out) | exact HB.out)⟩⟩
       case rest =>
        clear HC25
        try clear c1
        try clear c2
        try clear p2
        try clear c5
        try clear c8
        try clear c11
        try clear c12
        try clear c17
        try clear c18
        try clear c18b0
        try clear c18b1
        try clear c20
        try clear c22
        try clear c24
        try clear c26
        try clear c28
        try clear hcz13_0
        try clear hcz13_1
        try clear hcz13_2
        try clear hcz15_0
        try clear hcz15_1
        try clear hcz15_2
        try clear hcz23_0
        try clear hcz23_1
        try clear hcz23_2
        try clear hcz27_0
        try clear hcz27_1
        try clear hcz27_2
        try clear hfz13_0
        try clear hfz13_1
        try clear hfz13_2
        try clear hfz15_0
        try clear hfz15_1
        try clear hfz15_2
        try clear hfz23_0
        try clear hfz23_1
        try clear hfz23_2
        try clear hfz27_0
        try clear hfz27_1
        try clear hfz27_2
        try clear p2
        obtain ⟨kq, x12_24, rfl, HA, HJ24, BK289, BK290, HB⟩ := hcut
        cases kq with
        | zero => exact absurd HA.out (by simp [skifflaw3_OpsApart.j2])
        | succ kj24 =>
         have H := HA.out
         clear HA
         simp only [skifflaw3_OpsApart.j2] at H
         have HC29 := Aside0.mk H
         clear H
         go_upto_region 12 with (fail)
         go_cut [58] (fun v58 wc => ∃ (kq : Nat) (x58_28 : Bool), v58 = .bool x58_28 ∧ Aside0 (skifflaw3_OpsApart.j3 kq t292 t294 x58_28 a1_0 a1_1 a1_2 a2_0 a2_1 a2_2 = some r) ∧ Aside0 (kq ≤ kj24) ∧ Aside0 (wc.heap[gb289]? = some (.cells #[.bool a1_0, .int .i64 a1_1, .string a1_2] 23 (0, 0))) ∧ Aside0 (wc.heap[gb290]? = some (.cells #[.bool a2_0, .int .i64 a2_1, .string a2_2] 23 (0, 0))) ∧ Aside0 (Below w.heap.size w wc))
         case first =>
          have H := HC29.out
          clear HC29
          by_cases c30 : a1_1 < (wrap64 (a2_1 + x12_24))
          ·rw [if_pos c30] at H
           have c30b0 : decide (a1_1 < (wrap64 (a2_1 + x12_24))) = true := decide_eq_true c30
           clear c30
           (first | rw [c30b0] | (simp only [i64_w, i32_w]; rw [c30b0]) | skip)
           have H' := Aside0.mk H
           clear H
           have hnb31 := NB289_290.out
           have hnc31 := NB290_289.out
           have hcz32_0 : wc.cell? ⟨gb289, 0, none⟩ = some (.bool a1_0) := (blk_cell BK289.out 0).trans rfl
           have hcz32_1 : wc.cell? ⟨gb289, 1, none⟩ = some (.int .i64 a1_1) := (blk_cell BK289.out 1).trans rfl
           have hcz32_2 : wc.cell? ⟨gb289, 2, none⟩ = some (.string a1_2) := (blk_cell BK289.out 2).trans rfl
           have hfz32_0 := blk_frozen BK289.out 0
           have hfz32_1 := blk_frozen BK289.out 1
           have hfz32_2 := blk_frozen BK289.out 2
           have hcz33_0 : wc.cell? ⟨gb290, 0, none⟩ = some (.bool a2_0) := (blk_cell BK290.out 0).trans rfl
           have hcz33_1 : wc.cell? ⟨gb290, 1, none⟩ = some (.int .i64 a2_1) := (blk_cell BK290.out 1).trans rfl
           have hcz33_2 : wc.cell? ⟨gb290, 2, none⟩ = some (.string a2_2) := (blk_cell BK290.out 2).trans rfl
           have hfz33_0 := blk_frozen BK290.out 0
           have hfz33_1 := blk_frozen BK290.out 1
           have hfz33_2 := blk_frozen BK290.out 2
           go_wp2
           go_meet
           case rel => exact ⟨_, (decide (a2_1 < (wrap64 (a1_1 + x11_20)))), (by first | rfl | (simp; done) | (simp [*]; done)), H', ⟨by have := HJ7.out; have := HJ20.out; have := HJ24.out; first | omega | exact Nat.le_refl _⟩, ⟨by (with_reducible repeat (first | refine blk_drewN ?_ _ | refine blk_drew ?_ | refine blk_alloc ?_ _)); exact BK289.out⟩, ⟨by (with_reducible repeat (first | refine blk_drewN ?_ _ | refine blk_drew ?_ | refine blk_alloc ?_ _)); exact BK290.out⟩, ⟨by repeat (first | (with_reducible first | exact HB.out | apply below_alloc | apply pw_below_drewN | apply below_drew1 | refine below_set ?_ GE289.out | refine below_set ?_ GE290.out) | exact HB.out)⟩⟩
          ·rw [if_neg c30] at H
           have c30b0 : decide (a1_1 < (wrap64 (a2_1 + x12_24))) = false := decide_eq_false c30
           clear c30
           (first | rw [c30b0] | (simp only [i64_w, i32_w]; rw [c30b0]) | skip)
           have H' := Aside0.mk H
           clear H
           have hnb34 := NB289_290.out
           have hnc34 := NB290_289.out
           have hcz35_0 : wc.cell? ⟨gb289, 0, none⟩ = some (.bool a1_0) := (blk_cell BK289.out 0).trans rfl
           have hcz35_1 : wc.cell? ⟨gb289, 1, none⟩ = some (.int .i64 a1_1) := (blk_cell BK289.out 1).trans rfl
           have hcz35_2 : wc.cell? ⟨gb289, 2, none⟩ = some (.string a1_2) := (blk_cell BK289.out 2).trans rfl
           have hfz35_0 := blk_frozen BK289.out 0
           have hfz35_1 := blk_frozen BK289.out 1
           have hfz35_2 := blk_frozen BK289.out 2
           have hcz36_0 : wc.cell? ⟨gb290, 0, none⟩ = some (.bool a2_0) := (blk_cell BK290.out 0).trans rfl
           have hcz36_1 : wc.cell? ⟨gb290, 1, none⟩ = some (.int .i64 a2_1) := (blk_cell BK290.out 1).trans rfl
           have hcz36_2 : wc.cell? ⟨gb290, 2, none⟩ = some (.string a2_2) := (blk_cell BK290.out 2).trans rfl
           have hfz36_0 := blk_frozen BK290.out 0
           have hfz36_1 := blk_frozen BK290.out 1
           have hfz36_2 := blk_frozen BK290.out 2
           go_wp2
           go_meet
           case rel => exact ⟨_, (false), (by first | rfl | (simp; done) | (simp [*]; done)), H', ⟨by have := HJ7.out; have := HJ20.out; have := HJ24.out; first | omega | exact Nat.le_refl _⟩, ⟨by (with_reducible repeat (first | refine blk_drewN ?_ _ | refine blk_drew ?_ | refine blk_alloc ?_ _)); exact BK289.out⟩, ⟨by (with_reducible repeat (first | refine blk_drewN ?_ _ | refine blk_drew ?_ | refine blk_alloc ?_ _)); exact BK290.out⟩, ⟨by repeat (first | (with_reducible first | exact HB.out | apply below_alloc | apply pw_below_drewN | apply below_drew1 | refine below_set ?_ GE289.out | refine below_set ?_ GE290.out) | exact HB.out)⟩⟩
         case rest =>
          clear HC29
          try clear c1
          try clear c2
          try clear p2
          try clear c3
          try clear c5
          try clear p6
          try clear c8
          try clear c11
          try clear c12
          try clear c17
          try clear c18
          try clear c18b0
          try clear c18b1
          try clear c20
          try clear c22
          try clear c24
          try clear c26
          try clear c28
          try clear c30
          try clear c30b0
          try clear c31
          try clear c34
          try clear hcz13_0
          try clear hcz13_1
          try clear hcz13_2
          try clear hcz15_0
          try clear hcz15_1
          try clear hcz15_2
          try clear hcz23_0
          try clear hcz23_1
          try clear hcz23_2
          try clear hcz27_0
          try clear hcz27_1
          try clear hcz27_2
          try clear hcz32_0
          try clear hcz32_1
          try clear hcz32_2
          try clear hcz33_0
          try clear hcz33_1
          try clear hcz33_2
          try clear hcz35_0
          try clear hcz35_1
          try clear hcz35_2
          try clear hcz36_0
          try clear hcz36_1
          try clear hcz36_2
          try clear hfz13_0
          try clear hfz13_1
          try clear hfz13_2
          try clear hfz15_0
          try clear hfz15_1
          try clear hfz15_2
          try clear hfz23_0
          try clear hfz23_1
          try clear hfz23_2
          try clear hfz27_0
          try clear hfz27_1
          try clear hfz27_2
          try clear hfz32_0
          try clear hfz32_1
          try clear hfz32_2
          try clear hfz33_0
          try clear hfz33_1
          try clear hfz33_2
          try clear hfz35_0
          try clear hfz35_1
          try clear hfz35_2
          try clear hfz36_0
          try clear hfz36_1
          try clear hfz36_2
          try clear p2
          obtain ⟨kq, x58_28, rfl, HA, HJ28, BK289, BK290, HB⟩ := hcut
          cases kq with
          | zero => exact absurd HA.out (by simp [skifflaw3_OpsApart.j3])
          | succ kj28 =>
           have H := HA.out
           clear HA
           simp only [skifflaw3_OpsApart.j3] at H
           by_cases c37 : x58_28 = true
           ·subst c37
            have H1 : ((skiffref1_OpMay.f a1_0 a1_1 a1_2).bind fun t298 => (if t298 = true then ((skiffref1_OpMay.f a2_0 a2_1 a2_2).bind fun t299 => (some t299)) else (none))) = some r := by rw [if_pos rfl] at H; exact H
            clear H
            have H := H1
            clear H1
            replace H := Option.bind_eq_some_iff.mp H
            obtain ⟨t298, A380, H⟩ := H
            replace H : (if t298 = true then ((skiffref1_OpMay.f a2_0 a2_1 a2_2).bind fun t299 => (some t299)) else (none)) = some r := H
            have A38 := Aside0.mk A380
            clear A380
            by_cases c39 : t298 = true
            ·subst c39
             have H1 : ((skiffref1_OpMay.f a2_0 a2_1 a2_2).bind fun t299 => (some t299)) = some r := by rw [if_pos rfl] at H; exact H
             clear H
             have H := H1
             clear H1
             replace H := Option.bind_eq_some_iff.mp H
             obtain ⟨t299, A400, H⟩ := H
             replace H : (some t299) = some r := H
             have A40 := Aside0.mk A400
             clear A400
             obtain rfl := Option.some.inj H
             have hnb41 := NB289_290.out
             have hnc41 := NB290_289.out
             have hcz42_0 : wc.cell? ⟨gb289, 0, none⟩ = some (.bool a1_0) := (blk_cell BK289.out 0).trans rfl
             have hcz42_1 : wc.cell? ⟨gb289, 1, none⟩ = some (.int .i64 a1_1) := (blk_cell BK289.out 1).trans rfl
             have hcz42_2 : wc.cell? ⟨gb289, 2, none⟩ = some (.string a1_2) := (blk_cell BK289.out 2).trans rfl
             have hfz42_0 := blk_frozen BK289.out 0
             have hfz42_1 := blk_frozen BK289.out 1
             have hfz42_2 := blk_frozen BK289.out 2
             go_wp2_with (first | ((with_reducible refine gate_callee (f := 13) rfl ?_); refine goesL_ (some 60) rfl rfl Try.func13 (by kernel_rfl) rfl #[.agg #[.bool a1_0, .int .i64 a1_1, .string a1_2]] rfl (by (try simp only [List.map_toArray, List.map_cons, List.map_nil]); first | done | rfl | (simp only [List.length_drop, List.length_take]; rfl)) ?_; (with_reducible refine (skiffref1_OpMay.calls a1_0 a1_1 a1_2 true _ A38.out).mono ?_); rintro e w43 ⟨rfl, hb⟩; refine ⟨_, rfl, ?_⟩; have n0_ := Aside0.mk (blk_below (g := gb289) (o := .cells #[.bool a1_0, .int .i64 a1_1, .string a1_2] 23 (0, 0)) (by (with_reducible repeat (first | refine blk_drewN ?_ _ | refine blk_drew ?_ | refine blk_alloc ?_ _)); exact BK289.out) hb); have n1_ := Aside0.mk (blk_below (g := gb290) (o := .cells #[.bool a2_0, .int .i64 a2_1, .string a2_2] 23 (0, 0)) (by (with_reducible repeat (first | refine blk_drewN ?_ _ | refine blk_drew ?_ | refine blk_alloc ?_ _)); exact BK290.out) hb); have n2_ := Aside0.mk (below_step (by repeat (first | (with_reducible first | exact HB.out | apply below_alloc | apply pw_below_drewN | apply below_drew1 | refine below_set ?_ GE289.out | refine below_set ?_ GE290.out) | exact HB.out)) hb); clear BK289; clear BK290; clear HB; have BK289 := n0_; have BK290 := n1_; have HB := n2_; clear n0_ n1_ n2_; (try clear hb); (try clear hb2); (try clear hk); (try clear hi); have hcz44_0 : w43.cell? ⟨gb290, 0, none⟩ = some (.bool a2_0) := (blk_cell BK290.out 0).trans rfl; have hcz44_1 : w43.cell? ⟨gb290, 1, none⟩ = some (.int .i64 a2_1) := (blk_cell BK290.out 1).trans rfl; have hcz44_2 : w43.cell? ⟨gb290, 2, none⟩ = some (.string a2_2) := (blk_cell BK290.out 2).trans rfl; have hfz44_0 := blk_frozen BK290.out 0; have hfz44_1 := blk_frozen BK290.out 1; have hfz44_2 := blk_frozen BK290.out 2) | (go_at_call 13; (with_reducible refine (skiffref1_OpMay.calls a2_0 a2_1 a2_2 t299 _ A40.out).mono ?_); rintro e w45 ⟨rfl, hb⟩; have n0_ := Aside0.mk (blk_below (g := gb289) (o := .cells #[.bool a1_0, .int .i64 a1_1, .string a1_2] 23 (0, 0)) (by (with_reducible repeat (first | refine blk_drewN ?_ _ | refine blk_drew ?_ | refine blk_alloc ?_ _)); exact BK289.out) hb); have n1_ := Aside0.mk (blk_below (g := gb290) (o := .cells #[.bool a2_0, .int .i64 a2_1, .string a2_2] 23 (0, 0)) (by (with_reducible repeat (first | refine blk_drewN ?_ _ | refine blk_drew ?_ | refine blk_alloc ?_ _)); exact BK290.out) hb); have n2_ := Aside0.mk (below_step (by repeat (first | (with_reducible first | exact HB.out | apply below_alloc | apply pw_below_drewN | apply below_drew1 | refine below_set ?_ GE289.out | refine below_set ?_ GE290.out) | exact HB.out)) hb); clear BK289; clear BK290; clear HB; have BK289 := n0_; have BK290 := n1_; have HB := n2_; clear n0_ n1_ n2_; (try clear hb); (try clear hb2); (try clear hk); (try clear hi)))
             go_ret
             exact ⟨by first | rfl | (simp [errW_none, errW_some] <;> rfl) | (simp [*, errW_none, errW_some] <;> rfl), by repeat (first | (with_reducible first | exact HB.out | apply below_alloc | apply pw_below_drewN | apply below_drew1 | refine below_set ?_ GE289.out | refine below_set ?_ GE290.out) | exact HB.out)⟩
            ·replace c39 := Bool.eq_false_iff.mpr c39
             subst c39
             have H1 : (none) = some r := by rw [if_neg (show ¬ (false = true) by decide)] at H; exact H
             clear H
             have H := H1
             clear H1
             exact absurd H (by simp)
           ·replace c37 := Bool.eq_false_iff.mpr c37
            subst c37
            have H1 : ((ops_Do.f kj28 t292 a2_0 a2_1 a2_2).bind fun bt300 => ((ops_Do.f kj28 t294 a1_0 a1_1 a1_2).bind fun bt302 => ((skifflaw0_Num.f bt300.2).bind fun t304 => (if t304 = 0 then ((skifflaw0_Num.f bt302.2).bind fun t305 => (if t305 = 0 then (some (bt300.1.toList == bt302.1.toList)) else (none))) else (none))))) = some r := by rw [if_neg (show ¬ (false = true) by decide)] at H; exact H
            clear H
            have H := H1
            clear H1
            replace H := Option.bind_eq_some_iff.mp H
            obtain ⟨⟨t300, t301⟩, A460, H⟩ := H
            replace H : ((ops_Do.f kj28 t294 a1_0 a1_1 a1_2).bind fun bt302 => ((skifflaw0_Num.f t301).bind fun t304 => (if t304 = 0 then ((skifflaw0_Num.f bt302.2).bind fun t305 => (if t305 = 0 then (some (t300.toList == bt302.1.toList)) else (none))) else (none)))) = some r := H
            have A46 := Aside0.mk A460
            clear A460
            replace H := Option.bind_eq_some_iff.mp H
            obtain ⟨⟨t302, t303⟩, A470, H⟩ := H
            replace H : ((skifflaw0_Num.f t301).bind fun t304 => (if t304 = 0 then ((skifflaw0_Num.f t303).bind fun t305 => (if t305 = 0 then (some (t300.toList == t302.toList)) else (none))) else (none))) = some r := H
            have A47 := Aside0.mk A470
            clear A470
            replace H := Option.bind_eq_some_iff.mp H
            obtain ⟨t304, A480, H⟩ := H
            replace H : (if t304 = 0 then ((skifflaw0_Num.f t303).bind fun t305 => (if t305 = 0 then (some (t300.toList == t302.toList)) else (none))) else (none)) = some r := H
            have A48 := Aside0.mk A480
            clear A480
            by_cases c49 : t304 = 0
            ·rw [if_pos c49] at H
             have c49b0 : (t304 == 0) = true := beq_iff_eq.mpr c49
             have c49b1 : (t304 != 0) = false := bne_eq_false_iff_eq.mpr c49
             clear c49
             replace H := Option.bind_eq_some_iff.mp H
             obtain ⟨t305, A500, H⟩ := H
             replace H : (if t305 = 0 then (some (t300.toList == t302.toList)) else (none)) = some r := H
             have A50 := Aside0.mk A500
             clear A500
             by_cases c51 : t305 = 0
             ·rw [if_pos c51] at H
              have c51b0 : (t305 == 0) = true := beq_iff_eq.mpr c51
              have c51b1 : (t305 != 0) = false := bne_eq_false_iff_eq.mpr c51
              clear c51
              obtain rfl := Option.some.inj H
              have hnb52 := NB290_289.out
              have hnc52 := NB289_290.out
              have hcz53_0 : wc.cell? ⟨gb290, 0, none⟩ = some (.bool a2_0) := (blk_cell BK290.out 0).trans rfl
              have hcz53_1 : wc.cell? ⟨gb290, 1, none⟩ = some (.int .i64 a2_1) := (blk_cell BK290.out 1).trans rfl
              have hcz53_2 : wc.cell? ⟨gb290, 2, none⟩ = some (.string a2_2) := (blk_cell BK290.out 2).trans rfl
              have hfz53_0 := blk_frozen BK290.out 0
              have hfz53_1 := blk_frozen BK290.out 1
              have hfz53_2 := blk_frozen BK290.out 2
              go_wp2_with (first | ((with_reducible refine gate_callee (f := 11) rfl ?_); refine goesL_ (some 68) rfl rfl Try.func11 (by kernel_rfl) rfl #[.string t292, .agg #[.bool a2_0, .int .i64 a2_1, .string a2_2]] rfl (by (try simp only [List.map_toArray, List.map_cons, List.map_nil]); first | done | rfl | (simp only [List.length_drop, List.length_take]; rfl)) ?_; (with_reducible refine (ops_Do.calls kj28 t292 a2_0 a2_1 a2_2 t300 t301 _ A46.out).mono ?_); rintro e w54 ⟨rfl, hb⟩; refine ⟨_, rfl, ?_⟩; have n0_ := Aside0.mk (blk_below (g := gb289) (o := .cells #[.bool a1_0, .int .i64 a1_1, .string a1_2] 23 (0, 0)) (by (with_reducible repeat (first | refine blk_drewN ?_ _ | refine blk_drew ?_ | refine blk_alloc ?_ _)); exact BK289.out) hb); have n1_ := Aside0.mk (blk_below (g := gb290) (o := .cells #[.bool a2_0, .int .i64 a2_1, .string a2_2] 23 (0, 0)) (by (with_reducible repeat (first | refine blk_drewN ?_ _ | refine blk_drew ?_ | refine blk_alloc ?_ _)); exact BK290.out) hb); have n2_ := Aside0.mk (below_step (by repeat (first | (with_reducible first | exact HB.out | apply below_alloc | apply pw_below_drewN | apply below_drew1 | refine below_set ?_ GE289.out | refine below_set ?_ GE290.out) | exact HB.out)) hb); clear BK289; clear BK290; clear HB; have BK289 := n0_; have BK290 := n1_; have HB := n2_; clear n0_ n1_ n2_; (try clear hb); (try clear hb2); (try clear hk); (try clear hi); have hcz55_0 : w54.cell? ⟨gb289, 0, none⟩ = some (.bool a1_0) := (blk_cell BK289.out 0).trans rfl; have hcz55_1 : w54.cell? ⟨gb289, 1, none⟩ = some (.int .i64 a1_1) := (blk_cell BK289.out 1).trans rfl; have hcz55_2 : w54.cell? ⟨gb289, 2, none⟩ = some (.string a1_2) := (blk_cell BK289.out 2).trans rfl; have hfz55_0 := blk_frozen BK289.out 0; have hfz55_1 := blk_frozen BK289.out 1; have hfz55_2 := blk_frozen BK289.out 2) | ((with_reducible refine gate_callee (f := 11) rfl ?_); refine goesL_ (some 74) rfl rfl Try.func11 (by kernel_rfl) rfl #[.string t294, .agg #[.bool a1_0, .int .i64 a1_1, .string a1_2]] rfl (by (try simp only [List.map_toArray, List.map_cons, List.map_nil]); first | done | rfl | (simp only [List.length_drop, List.length_take]; rfl)) ?_; (with_reducible refine (ops_Do.calls kj28 t294 a1_0 a1_1 a1_2 t302 t303 _ A47.out).mono ?_); rintro e w56 ⟨rfl, hb⟩; refine ⟨_, rfl, ?_⟩; have n0_ := Aside0.mk (blk_below (g := gb289) (o := .cells #[.bool a1_0, .int .i64 a1_1, .string a1_2] 23 (0, 0)) (by (with_reducible repeat (first | refine blk_drewN ?_ _ | refine blk_drew ?_ | refine blk_alloc ?_ _)); exact BK289.out) hb); have n1_ := Aside0.mk (blk_below (g := gb290) (o := .cells #[.bool a2_0, .int .i64 a2_1, .string a2_2] 23 (0, 0)) (by (with_reducible repeat (first | refine blk_drewN ?_ _ | refine blk_drew ?_ | refine blk_alloc ?_ _)); exact BK290.out) hb); have n2_ := Aside0.mk (below_step (by repeat (first | (with_reducible first | exact HB.out | apply below_alloc | apply pw_below_drewN | apply below_drew1 | refine below_set ?_ GE289.out | refine below_set ?_ GE290.out) | exact HB.out)) hb); clear BK289; clear BK290; clear HB; have BK289 := n0_; have BK290 := n1_; have HB := n2_; clear n0_ n1_ n2_; (try clear hb); (try clear hb2); (try clear hk); (try clear hi)) | ((with_reducible refine gate_callee (f := 17) rfl ?_); refine goesL_ (some 78) rfl rfl Try.func17 (by kernel_rfl) rfl #[.int .i64 t301] rfl (by (try simp only [List.map_toArray, List.map_cons, List.map_nil]); first | done | rfl | (simp only [List.length_drop, List.length_take]; rfl)) ?_; (with_reducible refine (skifflaw0_Num.calls t301 t304 _ A48.out).mono ?_); rintro e w' ⟨rfl, ⟨nd, rfl⟩⟩; refine ⟨_, rfl, ?_⟩) | (go_at_call 17; (with_reducible refine (skifflaw0_Num.calls t303 t305 _ A50.out).mono ?_); rintro e w' ⟨rfl, ⟨nd, rfl⟩⟩))
              go_ret
              exact ⟨by first | rfl | (simp [errW_none, errW_some] <;> rfl) | (simp [*, errW_none, errW_some] <;> rfl), by repeat (first | (with_reducible first | exact HB.out | apply below_alloc | apply pw_below_drewN | apply below_drew1 | refine below_set ?_ GE289.out | refine below_set ?_ GE290.out) | exact HB.out)⟩
             ·rw [if_neg c51] at H
              exact absurd H (by simp)
            ·rw [if_neg c49] at H
             exact absurd H (by simp)
 ·replace c5 := Bool.eq_false_iff.mpr c5
  subst c5
  have H1 : (none) = some r := by rw [if_neg (show ¬ (false = true) by decide)] at H; exact H
  clear H
  have H := H1
  clear H1
  exact absurd H (by simp)

end Go.Proofs.Ytkkabmoahmaniaa.P
