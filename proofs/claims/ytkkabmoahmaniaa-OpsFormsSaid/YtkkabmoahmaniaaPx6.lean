-- written by wip/prt.py of this repo, by the kit's print, over contracts that are proved here by hand
import Derived.Test.YtkkabmoahmaniaaPx0
import Derived.Test.YtkkabmoahmaniaaPx2
namespace Go.Proofs.Ytkkabmoahmaniaa.P
open Go.RowKit Go.Proofs.YtkkabmoahmaniaaW.PrintWords Go.Proofs.YtkkabmoahmaniaaW.PrintLast Go.Proofs.YtkkabmoahmaniaaW.PrintMore
attribute [local go_sem] max2_int min2_int max_two min_two max_three min_three max_four min_four   -- for this text's walks alone
set_option linter.unusedVariables false
set_option linter.unusedSimpArgs false

/-! ### skifflaw3_OpsCuts: function 6 -/
def skifflaw3_OpsCuts.j0 : Nat → ByteArray → ByteArray → ByteArray → Bool → Bool → Int → ByteArray → Option (Bool)
 | 0, _, _, _, _, _, _, _ => none
 | k + 1, x0, x7, x9, x42, x261000, x261001, x261002 => if x42 = true then (if x7.toList = ([] : List UInt8) then (some (x9.toList == ([] : List UInt8))) else (none)) else ((ops_Do.f k x9 x261000 x261001 x261002).bind fun bt268 => ((ops_Cut.f k x0 x261000 x261001 x261002 0).bind fun bt270 => ((ops_Cut.f k x0 x261000 x261001 x261002 96).bind fun bt272 => (if bt268.1.toList = x7.toList then ((skifflaw0_Num.f bt268.2).bind fun t274 => (if t274 = 0 then (if bt270.1.toList = x0.toList then ((skifflaw0_Num.f bt270.2).bind fun t275 => (if t275 = 0 then (if bt272.1.toList = x7.toList then ((skifflaw0_Num.f bt272.2).bind fun t276 => (some (t276 == 0))) else (none)) else (none))) else (none)) else (none))) else (none)))))
def skifflaw3_OpsCuts.f (k : Nat) (a0 : ByteArray) (a1_0 : Bool) (a1_1 : Int) (a1_2 : ByteArray) (a2 : Int) : Option (Bool) := (skifflaw3_awake.f k).bind fun t261 => (if t261 = true then ((ops_Do.f k a0 a1_0 a1_1 a1_2).bind fun bt262 => ((ops_Cut.f k a0 a1_0 a1_1 a1_2 (wrap64 (Int.tmod (IntKind.u64.wrap (a2)) 97))).bind fun bt264 => ((skifflaw0_Num.f bt262.2).bind fun t266 => (if t266 = 0 then ((skifflaw0_Num.f bt264.2).bind fun t267 => (skifflaw3_OpsCuts.j0 k a0 bt262.1 bt264.1 (t267 != 0) a1_0 a1_1 a1_2)) else (skifflaw3_OpsCuts.j0 k a0 bt262.1 bt264.1 true a1_0 a1_1 a1_2))))) else (none))
theorem skifflaw3_OpsCuts.mono_l : ∀ k, (∀ y0 y1 y2 y3 y4 y5 y6, LeO (skifflaw3_OpsCuts.j0 k y0 y1 y2 y3 y4 y5 y6) (skifflaw3_OpsCuts.j0 (k + 1) y0 y1 y2 y3 y4 y5 y6))
 | 0 => fun _ _ _ _ _ _ _ r h => by simp [skifflaw3_OpsCuts.j0] at h
 | k + 1 => by
  have ih0 := skifflaw3_OpsCuts.mono_l k
  ·intro y0 y1 y2 y3 y4 y5 y6
   unfold skifflaw3_OpsCuts.j0
   repeat' first
   | (with_reducible exact ih0 _ _ _ _ _ _ _)
   | (with_reducible exact ops_Cut.mono _ _ _ _ _ _)
   | (with_reducible exact ops_Do.mono _ _ _ _ _)
   | (with_reducible exact skifflaw3_awake.mono _)
   | (with_reducible exact LeO.refl _)
   | (with_reducible exact LeO.none _)
   | (with_reducible refine LeO.ite ?_ ?_)
   | (with_reducible refine LeO.bind ?_ (fun _ => ?_))
   | exact ih0 _ _ _ _ _ _ _
   | exact ops_Cut.mono _ _ _ _ _ _
   | exact ops_Do.mono _ _ _ _ _
   | exact skifflaw3_awake.mono _
   | exact LeO.none _
   | refine LeO.ite ?_ ?_
   | refine LeO.bind ?_ (fun _ => ?_)
theorem skifflaw3_OpsCuts.mono : ∀ a0 a1 a2 a3 a4 k, LeO (skifflaw3_OpsCuts.f k a0 a1 a2 a3 a4) (skifflaw3_OpsCuts.f (k + 1) a0 a1 a2 a3 a4) := by
 intro a0 a1 a2 a3 a4 k
 have ih0 := skifflaw3_OpsCuts.mono_l k
 unfold skifflaw3_OpsCuts.f
 repeat' first
   | (with_reducible exact ih0 _ _ _ _ _ _ _)
   | (with_reducible exact ops_Cut.mono _ _ _ _ _ _)
   | (with_reducible exact ops_Do.mono _ _ _ _ _)
   | (with_reducible exact skifflaw3_awake.mono _)
   | (with_reducible exact LeO.refl _)
   | (with_reducible exact LeO.none _)
   | (with_reducible refine LeO.ite ?_ ?_)
   | (with_reducible refine LeO.bind ?_ (fun _ => ?_))
   | exact ih0 _ _ _ _ _ _ _
   | exact ops_Cut.mono _ _ _ _ _ _
   | exact ops_Do.mono _ _ _ _ _
   | exact skifflaw3_awake.mono _
   | exact LeO.none _
   | refine LeO.ite ?_ ?_
   | refine LeO.bind ?_ (fun _ => ?_)
set_option maxHeartbeats 8000000 in
set_option maxRecDepth 100000 in
theorem skifflaw3_OpsCuts.calls (k : Nat) (a0 : ByteArray) (a1_0 : Bool) (a1_1 : Int) (a1_2 : ByteArray) (a2 : Int) (r : Bool) (w : World) (h : skifflaw3_OpsCuts.f k a0 a1_0 a1_1 a1_2 a2 = some r) :
  Calls Try.prog 6 #[.string a0, .agg #[.bool a1_0, .int .i64 a1_1, .string a1_2], .int .i64 a2] w fun e w' => e = .returned (.bool r) ∧ Below w.heap.size w w' := by
 have hu23 := Try.underlying23
 have HB := Aside0.mk (Below.refl w.heap.size w)
 have H : ((skifflaw3_awake.f k).bind fun t261 => (if t261 = true then ((ops_Do.f k a0 a1_0 a1_1 a1_2).bind fun bt262 => ((ops_Cut.f k a0 a1_0 a1_1 a1_2 (wrap64 (Int.tmod (IntKind.u64.wrap (a2)) 97))).bind fun bt264 => ((skifflaw0_Num.f bt262.2).bind fun t266 => (if t266 = 0 then ((skifflaw0_Num.f bt264.2).bind fun t267 => (skifflaw3_OpsCuts.j0 k a0 bt262.1 bt264.1 (t267 != 0) a1_0 a1_1 a1_2)) else (skifflaw3_OpsCuts.j0 k a0 bt262.1 bt264.1 true a1_0 a1_1 a1_2))))) else (none))) = some r := h
 clear h
 replace H := Option.bind_eq_some_iff.mp H
 obtain ⟨t261, A40, H⟩ := H
 replace H : (if t261 = true then ((ops_Do.f k a0 a1_0 a1_1 a1_2).bind fun bt262 => ((ops_Cut.f k a0 a1_0 a1_1 a1_2 (wrap64 (Int.tmod (IntKind.u64.wrap (a2)) 97))).bind fun bt264 => ((skifflaw0_Num.f bt262.2).bind fun t266 => (if t266 = 0 then ((skifflaw0_Num.f bt264.2).bind fun t267 => (skifflaw3_OpsCuts.j0 k a0 bt262.1 bt264.1 (t267 != 0) a1_0 a1_1 a1_2)) else (skifflaw3_OpsCuts.j0 k a0 bt262.1 bt264.1 true a1_0 a1_1 a1_2))))) else (none)) = some r := H
 have A4 := Aside0.mk A40
 clear A40
 by_cases c5 : t261 = true
 ·subst c5
  have H1 : ((ops_Do.f k a0 a1_0 a1_1 a1_2).bind fun bt262 => ((ops_Cut.f k a0 a1_0 a1_1 a1_2 (wrap64 (Int.tmod (IntKind.u64.wrap (a2)) 97))).bind fun bt264 => ((skifflaw0_Num.f bt262.2).bind fun t266 => (if t266 = 0 then ((skifflaw0_Num.f bt264.2).bind fun t267 => (skifflaw3_OpsCuts.j0 k a0 bt262.1 bt264.1 (t267 != 0) a1_0 a1_1 a1_2)) else (skifflaw3_OpsCuts.j0 k a0 bt262.1 bt264.1 true a1_0 a1_1 a1_2))))) = some r := by rw [if_pos rfl] at H; exact H
  clear H
  have H := H1
  clear H1
  replace H := Option.bind_eq_some_iff.mp H
  obtain ⟨⟨t262, t263⟩, A60, H⟩ := H
  replace H : ((ops_Cut.f k a0 a1_0 a1_1 a1_2 (wrap64 (Int.tmod (IntKind.u64.wrap (a2)) 97))).bind fun bt264 => ((skifflaw0_Num.f t263).bind fun t266 => (if t266 = 0 then ((skifflaw0_Num.f bt264.2).bind fun t267 => (skifflaw3_OpsCuts.j0 k a0 t262 bt264.1 (t267 != 0) a1_0 a1_1 a1_2)) else (skifflaw3_OpsCuts.j0 k a0 t262 bt264.1 true a1_0 a1_1 a1_2)))) = some r := H
  have A6 := Aside0.mk A60
  clear A60
  replace H := Option.bind_eq_some_iff.mp H
  obtain ⟨⟨t264, t265⟩, A70, H⟩ := H
  replace H : ((skifflaw0_Num.f t263).bind fun t266 => (if t266 = 0 then ((skifflaw0_Num.f t265).bind fun t267 => (skifflaw3_OpsCuts.j0 k a0 t262 t264 (t267 != 0) a1_0 a1_1 a1_2)) else (skifflaw3_OpsCuts.j0 k a0 t262 t264 true a1_0 a1_1 a1_2))) = some r := H
  have A7 := Aside0.mk A70
  clear A70
  have HC8 := Aside0.mk H
  clear H
  go_enter Try.func6, Try.ntmps6
  go_upto_region 5 with (first | ((with_reducible refine gate_dst (N := 4) rfl ?_); refine box_event ?hg (N := 4) ?hd (cs := #[.bool a1_0, .int .i64 a1_1, .string a1_2]) (t := 23) ?hr ?_; (case hd => rfl); (case hg => rfl); (case hr => first | (go_simp; done) | (go_simp; rfl)); intro gb260 hg w9 hbox hb; have n0_ := Aside0.mk (below_step (by repeat (first | (with_reducible first | exact HB.out | apply below_alloc | apply pw_below_drewN | apply below_drew1) | exact HB.out)) hb); have n1_ := Aside0.mk (hbox); have n2_ := Aside0.mk ((by rw [hg]; exact (below_size (by repeat (first | (with_reducible first | exact HB.out | apply below_alloc | apply pw_below_drewN | apply below_drew1) | exact HB.out))) : w.heap.size ≤ gb260)); have n3_ := Aside0.mk ((by rw [hg]; exact (below_size (by repeat (first | (with_reducible first | exact HB.out | apply below_alloc | apply pw_below_drewN | apply below_drew1) | exact HB.out))) : w.heap.size ≤ gb260)); clear HB; have HB := n0_; have BK260 := n1_; have GW260 := n2_; have GE260 := n3_; clear n0_ n1_ n2_ n3_; clear hb hbox hg) | ((with_reducible refine gate_callee (f := 20) rfl ?_); refine goesL_ (some 17) rfl rfl Try.func20 (by kernel_rfl) rfl #[] rfl (by (try simp only [List.map_toArray, List.map_cons, List.map_nil]); first | done | rfl | (simp only [List.length_drop, List.length_take]; rfl)) ?_; (with_reducible refine (skifflaw3_awake.calls k  true _ A4.out).mono ?_); rintro e w10 ⟨rfl, hb⟩; refine ⟨_, rfl, ?_⟩; have n0_ := Aside0.mk (blk_below (g := gb260) (o := .cells #[.bool a1_0, .int .i64 a1_1, .string a1_2] 23 (0, 0)) (by (with_reducible repeat (first | refine blk_drewN ?_ _ | refine blk_drew ?_ | refine blk_alloc ?_ _)); exact BK260.out) hb); have n1_ := Aside0.mk (below_step (by repeat (first | (with_reducible first | exact HB.out | apply below_alloc | apply pw_below_drewN | apply below_drew1 | refine below_set ?_ GE260.out) | exact HB.out)) hb); clear BK260; clear HB; have BK260 := n0_; have HB := n1_; clear n0_ n1_; (try clear hb); (try clear hb2); (try clear hk); (try clear hi); have hcz11_0 : w10.cell? ⟨gb260, 0, none⟩ = some (.bool a1_0) := (blk_cell BK260.out 0).trans rfl; have hcz11_1 : w10.cell? ⟨gb260, 1, none⟩ = some (.int .i64 a1_1) := (blk_cell BK260.out 1).trans rfl; have hcz11_2 : w10.cell? ⟨gb260, 2, none⟩ = some (.string a1_2) := (blk_cell BK260.out 2).trans rfl; have hfz11_0 := blk_frozen BK260.out 0; have hfz11_1 := blk_frozen BK260.out 1; have hfz11_2 := blk_frozen BK260.out 2) | ((with_reducible refine gate_callee (f := 11) rfl ?_); refine goesL_ (some 22) rfl rfl Try.func11 (by kernel_rfl) rfl #[.string a0, .agg #[.bool a1_0, .int .i64 a1_1, .string a1_2]] rfl (by (try simp only [List.map_toArray, List.map_cons, List.map_nil]); first | done | rfl | (simp only [List.length_drop, List.length_take]; rfl)) ?_; (with_reducible refine (ops_Do.calls k a0 a1_0 a1_1 a1_2 t262 t263 _ A6.out).mono ?_); rintro e w12 ⟨rfl, hb⟩; refine ⟨_, rfl, ?_⟩; have n0_ := Aside0.mk (blk_below (g := gb260) (o := .cells #[.bool a1_0, .int .i64 a1_1, .string a1_2] 23 (0, 0)) (by (with_reducible repeat (first | refine blk_drewN ?_ _ | refine blk_drew ?_ | refine blk_alloc ?_ _)); exact BK260.out) hb); have n1_ := Aside0.mk (below_step (by repeat (first | (with_reducible first | exact HB.out | apply below_alloc | apply pw_below_drewN | apply below_drew1 | refine below_set ?_ GE260.out) | exact HB.out)) hb); clear BK260; clear HB; have BK260 := n0_; have HB := n1_; clear n0_ n1_; (try clear hb); (try clear hb2); (try clear hk); (try clear hi); have hcz13_0 : w12.cell? ⟨gb260, 0, none⟩ = some (.bool a1_0) := (blk_cell BK260.out 0).trans rfl; have hcz13_1 : w12.cell? ⟨gb260, 1, none⟩ = some (.int .i64 a1_1) := (blk_cell BK260.out 1).trans rfl; have hcz13_2 : w12.cell? ⟨gb260, 2, none⟩ = some (.string a1_2) := (blk_cell BK260.out 2).trans rfl; have hfz13_0 := blk_frozen BK260.out 0; have hfz13_1 := blk_frozen BK260.out 1; have hfz13_2 := blk_frozen BK260.out 2) | ((with_reducible refine gate_callee (f := 14) rfl ?_); refine goesL_ (some 32) rfl rfl Try.func14 (by kernel_rfl) rfl #[.string a0, .agg #[.bool a1_0, .int .i64 a1_1, .string a1_2], .int .i64 (wrap64 (Int.tmod (IntKind.u64.wrap (a2)) 97))] rfl (by (try simp only [List.map_toArray, List.map_cons, List.map_nil]); first | done | rfl | (simp only [List.length_drop, List.length_take]; rfl)) ?_; (with_reducible refine (ops_Cut.calls k a0 a1_0 a1_1 a1_2 (wrap64 (Int.tmod (IntKind.u64.wrap (a2)) 97)) t264 t265 _ A7.out).mono ?_); rintro e w14 ⟨rfl, hb⟩; refine ⟨_, rfl, ?_⟩; have n0_ := Aside0.mk (blk_below (g := gb260) (o := .cells #[.bool a1_0, .int .i64 a1_1, .string a1_2] 23 (0, 0)) (by (with_reducible repeat (first | refine blk_drewN ?_ _ | refine blk_drew ?_ | refine blk_alloc ?_ _)); exact BK260.out) hb); have n1_ := Aside0.mk (below_step (by repeat (first | (with_reducible first | exact HB.out | apply below_alloc | apply pw_below_drewN | apply below_drew1 | refine below_set ?_ GE260.out) | exact HB.out)) hb); clear BK260; clear HB; have BK260 := n0_; have HB := n1_; clear n0_ n1_; (try clear hb); (try clear hb2); (try clear hk); (try clear hi)))
  (try simp only [Act.put, List.setIfInBounds_toArray, List.set_cons_zero, List.set_cons_succ])
  go_cut [42] (fun v42 wc => ∃ (kq : Nat) (x42_7 : Bool), v42 = .bool x42_7 ∧ Aside0 (skifflaw3_OpsCuts.j0 kq a0 t262 t264 x42_7 a1_0 a1_1 a1_2 = some r) ∧ Aside0 (kq ≤ k) ∧ Aside0 (wc.heap[gb260]? = some (.cells #[.bool a1_0, .int .i64 a1_1, .string a1_2] 23 (0, 0))) ∧ Aside0 (Below w.heap.size w wc))
  case first =>
   have H := HC8.out
   clear HC8
   replace H := Option.bind_eq_some_iff.mp H
   obtain ⟨t266, A150, H⟩ := H
   replace H : (if t266 = 0 then ((skifflaw0_Num.f t265).bind fun t267 => (skifflaw3_OpsCuts.j0 k a0 t262 t264 (t267 != 0) a1_0 a1_1 a1_2)) else (skifflaw3_OpsCuts.j0 k a0 t262 t264 true a1_0 a1_1 a1_2)) = some r := H
   have A15 := Aside0.mk A150
   clear A150
   by_cases c16 : t266 = 0
   ·rw [if_pos c16] at H
    have c16b0 : (t266 == 0) = true := beq_iff_eq.mpr c16
    have c16b1 : (t266 != 0) = false := bne_eq_false_iff_eq.mpr c16
    clear c16
    (first | rw [c16b0] | (simp only [i64_w, i32_w]; rw [c16b0]) | skip)
    replace H := Option.bind_eq_some_iff.mp H
    obtain ⟨t267, A170, H⟩ := H
    replace H : (skifflaw3_OpsCuts.j0 k a0 t262 t264 (t267 != 0) a1_0 a1_1 a1_2) = some r := H
    have A17 := Aside0.mk A170
    clear A170
    have H' := Aside0.mk H
    clear H
    go_wp2_with (first | ((with_reducible refine gate_callee (f := 17) rfl ?_); refine goesL_ (some 36) rfl rfl Try.func17 (by kernel_rfl) rfl #[.int .i64 t263] rfl (by (try simp only [List.map_toArray, List.map_cons, List.map_nil]); first | done | rfl | (simp only [List.length_drop, List.length_take]; rfl)) ?_; (with_reducible refine (skifflaw0_Num.calls t263 t266 _ A15.out).mono ?_); rintro e w' ⟨rfl, ⟨nd, rfl⟩⟩; refine ⟨_, rfl, ?_⟩) | (go_at_call 17; (with_reducible refine (skifflaw0_Num.calls t265 t267 _ A17.out).mono ?_); rintro e w' ⟨rfl, ⟨nd, rfl⟩⟩))
    go_meet
    case rel => exact ⟨_, ((t267 != 0)), (by first | rfl | (simp; done) | (simp [*]; done)), H', ⟨by first | omega | exact Nat.le_refl _⟩, ⟨by (with_reducible repeat (first | refine blk_drewN ?_ _ | refine blk_drew ?_ | refine blk_alloc ?_ _)); exact BK260.out⟩, ⟨by repeat (first | (with_reducible first | exact HB.out | apply below_alloc | apply pw_below_drewN | apply below_drew1 | refine below_set ?_ GE260.out) | exact HB.out)⟩⟩
   ·rw [if_neg c16] at H
    have c16b0 : (t266 == 0) = false := beq_eq_false_iff_ne.mpr c16
    have c16b1 : (t266 != 0) = true := bne_iff_ne.mpr c16
    (first | rw [c16b0] | (simp only [i64_w, i32_w]; rw [c16b0]) | skip)
    have H' := Aside0.mk H
    clear H
    go_wp2_with (first | ((with_reducible refine gate_callee (f := 17) rfl ?_); refine goesL_ (some 36) rfl rfl Try.func17 (by kernel_rfl) rfl #[.int .i64 t263] rfl (by (try simp only [List.map_toArray, List.map_cons, List.map_nil]); first | done | rfl | (simp only [List.length_drop, List.length_take]; rfl)) ?_; (with_reducible refine (skifflaw0_Num.calls t263 t266 _ A15.out).mono ?_); rintro e w' ⟨rfl, ⟨nd, rfl⟩⟩; refine ⟨_, rfl, ?_⟩))
    go_meet
    case rel => exact ⟨_, (true), (by first | rfl | (simp; done) | (simp [*]; done)), H', ⟨by first | omega | exact Nat.le_refl _⟩, ⟨by (with_reducible repeat (first | refine blk_drewN ?_ _ | refine blk_drew ?_ | refine blk_alloc ?_ _)); exact BK260.out⟩, ⟨by repeat (first | (with_reducible first | exact HB.out | apply below_alloc | apply pw_below_drewN | apply below_drew1 | refine below_set ?_ GE260.out) | exact HB.out)⟩⟩
  case rest =>
   clear HC8
   try clear c1
   try clear c2
   try clear p2
   try clear c5
   try clear c6
   try clear p6
   try clear c11
   try clear c14
   try clear c16
   try clear c16b0
   try clear c16b1
   try clear c17
   try clear hcz11_0
   try clear hcz11_1
   try clear hcz11_2
   try clear hcz13_0
   try clear hcz13_1
   try clear hcz13_2
   try clear hfz11_0
   try clear hfz11_1
   try clear hfz11_2
   try clear hfz13_0
   try clear hfz13_1
   try clear hfz13_2
   obtain ⟨kq, x42_7, rfl, HA, HJ7, BK260, HB⟩ := hcut
   cases kq with
   | zero => exact absurd HA.out (by simp [skifflaw3_OpsCuts.j0])
   | succ kj7 =>
    have H := HA.out
    clear HA
    simp only [skifflaw3_OpsCuts.j0] at H
    by_cases c18 : x42_7 = true
    ·subst c18
     have H1 : (if t262.toList = ([] : List UInt8) then (some (t264.toList == ([] : List UInt8))) else (none)) = some r := by rw [if_pos rfl] at H; exact H
     clear H
     have H := H1
     clear H1
     by_cases c19 : t262.toList = ([] : List UInt8)
     ·rw [if_pos c19] at H
      have c19b0 : (t262.toList == ([] : List UInt8)) = true := beq_iff_eq.mpr c19
      have c19b1 : (t262.toList != ([] : List UInt8)) = false := bne_eq_false_iff_eq.mpr c19
      clear c19
      obtain rfl := Option.some.inj H
      go_wp2
      go_ret
      exact ⟨by first | rfl | (simp [errW_none, errW_some] <;> rfl) | (simp [*, errW_none, errW_some] <;> rfl), by repeat (first | (with_reducible first | exact HB.out | apply below_alloc | apply pw_below_drewN | apply below_drew1 | refine below_set ?_ GE260.out) | exact HB.out)⟩
     ·rw [if_neg c19] at H
      exact absurd H (by simp)
    ·replace c18 := Bool.eq_false_iff.mpr c18
     subst c18
     have H1 : ((ops_Do.f kj7 t264 a1_0 a1_1 a1_2).bind fun bt268 => ((ops_Cut.f kj7 a0 a1_0 a1_1 a1_2 0).bind fun bt270 => ((ops_Cut.f kj7 a0 a1_0 a1_1 a1_2 96).bind fun bt272 => (if bt268.1.toList = t262.toList then ((skifflaw0_Num.f bt268.2).bind fun t274 => (if t274 = 0 then (if bt270.1.toList = a0.toList then ((skifflaw0_Num.f bt270.2).bind fun t275 => (if t275 = 0 then (if bt272.1.toList = t262.toList then ((skifflaw0_Num.f bt272.2).bind fun t276 => (some (t276 == 0))) else (none)) else (none))) else (none)) else (none))) else (none))))) = some r := by rw [if_neg (show ¬ (false = true) by decide)] at H; exact H
     clear H
     have H := H1
     clear H1
     replace H := Option.bind_eq_some_iff.mp H
     obtain ⟨⟨t268, t269⟩, A200, H⟩ := H
     replace H : ((ops_Cut.f kj7 a0 a1_0 a1_1 a1_2 0).bind fun bt270 => ((ops_Cut.f kj7 a0 a1_0 a1_1 a1_2 96).bind fun bt272 => (if t268.toList = t262.toList then ((skifflaw0_Num.f t269).bind fun t274 => (if t274 = 0 then (if bt270.1.toList = a0.toList then ((skifflaw0_Num.f bt270.2).bind fun t275 => (if t275 = 0 then (if bt272.1.toList = t262.toList then ((skifflaw0_Num.f bt272.2).bind fun t276 => (some (t276 == 0))) else (none)) else (none))) else (none)) else (none))) else (none)))) = some r := H
     have A20 := Aside0.mk A200
     clear A200
     replace H := Option.bind_eq_some_iff.mp H
     obtain ⟨⟨t270, t271⟩, A210, H⟩ := H
     replace H : ((ops_Cut.f kj7 a0 a1_0 a1_1 a1_2 96).bind fun bt272 => (if t268.toList = t262.toList then ((skifflaw0_Num.f t269).bind fun t274 => (if t274 = 0 then (if t270.toList = a0.toList then ((skifflaw0_Num.f t271).bind fun t275 => (if t275 = 0 then (if bt272.1.toList = t262.toList then ((skifflaw0_Num.f bt272.2).bind fun t276 => (some (t276 == 0))) else (none)) else (none))) else (none)) else (none))) else (none))) = some r := H
     have A21 := Aside0.mk A210
     clear A210
     replace H := Option.bind_eq_some_iff.mp H
     obtain ⟨⟨t272, t273⟩, A220, H⟩ := H
     replace H : (if t268.toList = t262.toList then ((skifflaw0_Num.f t269).bind fun t274 => (if t274 = 0 then (if t270.toList = a0.toList then ((skifflaw0_Num.f t271).bind fun t275 => (if t275 = 0 then (if t272.toList = t262.toList then ((skifflaw0_Num.f t273).bind fun t276 => (some (t276 == 0))) else (none)) else (none))) else (none)) else (none))) else (none)) = some r := H
     have A22 := Aside0.mk A220
     clear A220
     by_cases c23 : t268.toList = t262.toList
     ·rw [if_pos c23] at H
      have c23b0 : (t268.toList == t262.toList) = true := beq_iff_eq.mpr c23
      have c23b1 : (t268.toList != t262.toList) = false := bne_eq_false_iff_eq.mpr c23
      clear c23
      replace H := Option.bind_eq_some_iff.mp H
      obtain ⟨t274, A240, H⟩ := H
      replace H : (if t274 = 0 then (if t270.toList = a0.toList then ((skifflaw0_Num.f t271).bind fun t275 => (if t275 = 0 then (if t272.toList = t262.toList then ((skifflaw0_Num.f t273).bind fun t276 => (some (t276 == 0))) else (none)) else (none))) else (none)) else (none)) = some r := H
      have A24 := Aside0.mk A240
      clear A240
      by_cases c25 : t274 = 0
      ·rw [if_pos c25] at H
       have c25b0 : (t274 == 0) = true := beq_iff_eq.mpr c25
       have c25b1 : (t274 != 0) = false := bne_eq_false_iff_eq.mpr c25
       clear c25
       by_cases c26 : t270.toList = a0.toList
       ·rw [if_pos c26] at H
        have c26b0 : (t270.toList == a0.toList) = true := beq_iff_eq.mpr c26
        have c26b1 : (t270.toList != a0.toList) = false := bne_eq_false_iff_eq.mpr c26
        clear c26
        replace H := Option.bind_eq_some_iff.mp H
        obtain ⟨t275, A270, H⟩ := H
        replace H : (if t275 = 0 then (if t272.toList = t262.toList then ((skifflaw0_Num.f t273).bind fun t276 => (some (t276 == 0))) else (none)) else (none)) = some r := H
        have A27 := Aside0.mk A270
        clear A270
        by_cases c28 : t275 = 0
        ·rw [if_pos c28] at H
         have c28b0 : (t275 == 0) = true := beq_iff_eq.mpr c28
         have c28b1 : (t275 != 0) = false := bne_eq_false_iff_eq.mpr c28
         clear c28
         by_cases c29 : t272.toList = t262.toList
         ·rw [if_pos c29] at H
          have c29b0 : (t272.toList == t262.toList) = true := beq_iff_eq.mpr c29
          have c29b1 : (t272.toList != t262.toList) = false := bne_eq_false_iff_eq.mpr c29
          clear c29
          replace H := Option.bind_eq_some_iff.mp H
          obtain ⟨t276, A300, H⟩ := H
          replace H : (some (t276 == 0)) = some r := H
          have A30 := Aside0.mk A300
          clear A300
          obtain rfl := Option.some.inj H
          have hcz31_0 : wc.cell? ⟨gb260, 0, none⟩ = some (.bool a1_0) := (blk_cell BK260.out 0).trans rfl
          have hcz31_1 : wc.cell? ⟨gb260, 1, none⟩ = some (.int .i64 a1_1) := (blk_cell BK260.out 1).trans rfl
          have hcz31_2 : wc.cell? ⟨gb260, 2, none⟩ = some (.string a1_2) := (blk_cell BK260.out 2).trans rfl
          have hfz31_0 := blk_frozen BK260.out 0
          have hfz31_1 := blk_frozen BK260.out 1
          have hfz31_2 := blk_frozen BK260.out 2
          go_wp2_with (first | ((with_reducible refine gate_callee (f := 11) rfl ?_); refine goesL_ (some 52) rfl rfl Try.func11 (by kernel_rfl) rfl #[.string t264, .agg #[.bool a1_0, .int .i64 a1_1, .string a1_2]] rfl (by (try simp only [List.map_toArray, List.map_cons, List.map_nil]); first | done | rfl | (simp only [List.length_drop, List.length_take]; rfl)) ?_; (with_reducible refine (ops_Do.calls kj7 t264 a1_0 a1_1 a1_2 t268 t269 _ A20.out).mono ?_); rintro e w32 ⟨rfl, hb⟩; refine ⟨_, rfl, ?_⟩; have n0_ := Aside0.mk (blk_below (g := gb260) (o := .cells #[.bool a1_0, .int .i64 a1_1, .string a1_2] 23 (0, 0)) (by (with_reducible repeat (first | refine blk_drewN ?_ _ | refine blk_drew ?_ | refine blk_alloc ?_ _)); exact BK260.out) hb); have n1_ := Aside0.mk (below_step (by repeat (first | (with_reducible first | exact HB.out | apply below_alloc | apply pw_below_drewN | apply below_drew1 | refine below_set ?_ GE260.out) | exact HB.out)) hb); clear BK260; clear HB; have BK260 := n0_; have HB := n1_; clear n0_ n1_; (try clear hb); (try clear hb2); (try clear hk); (try clear hi); have hcz33_0 : w32.cell? ⟨gb260, 0, none⟩ = some (.bool a1_0) := (blk_cell BK260.out 0).trans rfl; have hcz33_1 : w32.cell? ⟨gb260, 1, none⟩ = some (.int .i64 a1_1) := (blk_cell BK260.out 1).trans rfl; have hcz33_2 : w32.cell? ⟨gb260, 2, none⟩ = some (.string a1_2) := (blk_cell BK260.out 2).trans rfl; have hfz33_0 := blk_frozen BK260.out 0; have hfz33_1 := blk_frozen BK260.out 1; have hfz33_2 := blk_frozen BK260.out 2) | ((with_reducible refine gate_callee (f := 14) rfl ?_); refine goesL_ (some 58) rfl rfl Try.func14 (by kernel_rfl) rfl #[.string a0, .agg #[.bool a1_0, .int .i64 a1_1, .string a1_2], .int .i64 0] rfl (by (try simp only [List.map_toArray, List.map_cons, List.map_nil]); first | done | rfl | (simp only [List.length_drop, List.length_take]; rfl)) ?_; (with_reducible refine (ops_Cut.calls kj7 a0 a1_0 a1_1 a1_2 0 t270 t271 _ A21.out).mono ?_); rintro e w34 ⟨rfl, hb⟩; refine ⟨_, rfl, ?_⟩; have n0_ := Aside0.mk (blk_below (g := gb260) (o := .cells #[.bool a1_0, .int .i64 a1_1, .string a1_2] 23 (0, 0)) (by (with_reducible repeat (first | refine blk_drewN ?_ _ | refine blk_drew ?_ | refine blk_alloc ?_ _)); exact BK260.out) hb); have n1_ := Aside0.mk (below_step (by repeat (first | (with_reducible first | exact HB.out | apply below_alloc | apply pw_below_drewN | apply below_drew1 | refine below_set ?_ GE260.out) | exact HB.out)) hb); clear BK260; clear HB; have BK260 := n0_; have HB := n1_; clear n0_ n1_; (try clear hb); (try clear hb2); (try clear hk); (try clear hi); have hcz35_0 : w34.cell? ⟨gb260, 0, none⟩ = some (.bool a1_0) := (blk_cell BK260.out 0).trans rfl; have hcz35_1 : w34.cell? ⟨gb260, 1, none⟩ = some (.int .i64 a1_1) := (blk_cell BK260.out 1).trans rfl; have hcz35_2 : w34.cell? ⟨gb260, 2, none⟩ = some (.string a1_2) := (blk_cell BK260.out 2).trans rfl; have hfz35_0 := blk_frozen BK260.out 0; have hfz35_1 := blk_frozen BK260.out 1; have hfz35_2 := blk_frozen BK260.out 2) | ((with_reducible refine gate_callee (f := 14) rfl ?_); refine goesL_ (some 64) rfl rfl Try.func14 (by kernel_rfl) rfl #[.string a0, .agg #[.bool a1_0, .int .i64 a1_1, .string a1_2], .int .i64 96] rfl (by (try simp only [List.map_toArray, List.map_cons, List.map_nil]); first | done | rfl | (simp only [List.length_drop, List.length_take]; rfl)) ?_; (with_reducible refine (ops_Cut.calls kj7 a0 a1_0 a1_1 a1_2 96 t272 t273 _ A22.out).mono ?_); rintro e w36 ⟨rfl, hb⟩; refine ⟨_, rfl, ?_⟩; have n0_ := Aside0.mk (blk_below (g := gb260) (o := .cells #[.bool a1_0, .int .i64 a1_1, .string a1_2] 23 (0, 0)) (by (with_reducible repeat (first | refine blk_drewN ?_ _ | refine blk_drew ?_ | refine blk_alloc ?_ _)); exact BK260.out) hb); have n1_ := Aside0.mk (below_step (by repeat (first | (with_reducible first | exact HB.out | apply below_alloc | apply pw_below_drewN | apply below_drew1 | refine below_set ?_ GE260.out) | exact HB.out)) hb); clear BK260; clear HB; have BK260 := n0_; have HB := n1_; clear n0_ n1_; (try clear hb); (try clear hb2); (try clear hk); (try clear hi)) | (go_at_call 17; (with_reducible refine (skifflaw0_Num.calls t269 t274 _ A24.out).mono ?_); rintro e w' ⟨rfl, ⟨nd, rfl⟩⟩) | (go_at_call 17; (with_reducible refine (skifflaw0_Num.calls t271 t275 _ A27.out).mono ?_); rintro e w' ⟨rfl, ⟨nd, rfl⟩⟩) | (go_at_call 17; (with_reducible refine (skifflaw0_Num.calls t273 t276 _ A30.out).mono ?_); rintro e w' ⟨rfl, ⟨nd, rfl⟩⟩))
          go_ret
          exact ⟨by first | rfl | (simp [errW_none, errW_some] <;> rfl) | (simp [*, errW_none, errW_some] <;> rfl), by repeat (first | (with_reducible first | exact HB.out | apply below_alloc | apply pw_below_drewN | apply below_drew1 | refine below_set ?_ GE260.out) | exact HB.out)⟩
         ·rw [if_neg c29] at H
          exact absurd H (by simp)
        ·rw [if_neg c28] at H
         exact absurd H (by simp)
       ·rw [if_neg c26] at H
        exact absurd H (by simp)
      ·rw [if_neg c25] at H
       exact absurd H (by simp)
     ·rw [if_neg c23] at H
      exact absurd H (by simp)
 ·replace c5 := Bool.eq_false_iff.mpr c5
  subst c5
  have H1 : (none) = some r := by rw [if_neg (show ¬ (false = true) by decide)] at H; exact H
  clear H
  have H := H1
  clear H1
  exact absurd H (by simp)

end Go.Proofs.Ytkkabmoahmaniaa.P
