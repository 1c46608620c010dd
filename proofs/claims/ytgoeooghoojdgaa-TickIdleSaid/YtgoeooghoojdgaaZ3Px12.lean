-- written by wip/prt.py of this repo, by the kit's print, over contracts that are proved here by hand
import Derived.Test.YtgoeooghoojdgaaZ3Px0
import Derived.Test.YtgoeooghoojdgaaZ3Px5
import Derived.Test.YtgoeooghoojdgaaZ3Px6
import Derived.Test.YtgoeooghoojdgaaZ3Px7
import Derived.Test.YtgoeooghoojdgaaZ3Px8
import Derived.Test.YtgoeooghoojdgaaZ3Px9
namespace Go.Proofs.Ytgoeooghoojdgaa.P
open Go.RowKit Go.Proofs.YtgoeooghoojdgaaW.PrintWords Go.Proofs.YtgoeooghoojdgaaW.PrintLast Go.Proofs.YtgoeooghoojdgaaW.PrintMore
attribute [local go_sem] max2_int min2_int max_two min_two max_three min_three max_four min_four   -- for this text's walks alone
set_option linter.unusedVariables false
set_option linter.unusedSimpArgs false

/-! ### skifflaw18_TickIdle: function 6 -/
mutual
def skifflaw18_TickIdle.j0 : Nat → ByteArray → Int → Bool → Int → Int → Int → Int → Int → List (S40) → Option (Bool)
 | 0, _, _, _, _, _, _, _, _, _ => none
 | k + 1, x0, x2, x22, x640000, x640001, x640002, x640003, x640004, x640005 => if x22 = true then (some true) else ((tick_Step.f k x0 x640000 x640001 x640002 x640003 x640004 x640005).bind fun bt641 => ((tick_Cut.f k x0 x640000 x640001 x640002 x640003 x640004 x640005 (wrap64 (Int.tmod (IntKind.u64.wrap (x2)) 97))).bind fun bt652 => ((skifflaw0_Num.f bt641.2.2.2.2.2.2.2).bind fun t663 => (if t663 = 0 then ((skifflaw0_Num.f bt652.2.2.2.2.2.2.2).bind fun t664 => (skifflaw18_TickIdle.j1 k x0 bt641.1 bt652.1 (t664 != 0) x640000 x640001 x640002 x640003 x640004 x640005 bt641.2.1 bt641.2.2.1 bt641.2.2.2.1 bt641.2.2.2.2.1 bt641.2.2.2.2.2.1 bt641.2.2.2.2.2.2.1 bt652.2.1 bt652.2.2.1 bt652.2.2.2.1 bt652.2.2.2.2.1 bt652.2.2.2.2.2.1 bt652.2.2.2.2.2.2.1)) else (skifflaw18_TickIdle.j1 k x0 bt641.1 bt652.1 true x640000 x640001 x640002 x640003 x640004 x640005 bt641.2.1 bt641.2.2.1 bt641.2.2.2.1 bt641.2.2.2.2.1 bt641.2.2.2.2.2.1 bt641.2.2.2.2.2.2.1 bt652.2.1 bt652.2.2.1 bt652.2.2.2.1 bt652.2.2.2.2.1 bt652.2.2.2.2.2.1 bt652.2.2.2.2.2.2.1)))))
def skifflaw18_TickIdle.j1 : Nat → ByteArray → ByteArray → ByteArray → Bool → Int → Int → Int → Int → Int → List (S40) → Int → Int → Int → Int → Int → List (S40) → Int → Int → Int → Int → Int → List (S40) → Option (Bool)
 | 0, _, _, _, _, _, _, _, _, _, _, _, _, _, _, _, _, _, _, _, _, _, _ => none
 | k + 1, x0, x7, x10, x48, x640000, x640001, x640002, x640003, x640004, x640005, x652000, x652001, x652002, x652003, x652004, x652005, x663000, x663001, x663002, x663003, x663004, x663005 => if x48 = true then (if x7.toList = ([] : List UInt8) then (if x10.toList = ([] : List UInt8) then ((skifflaw18_sent.f k).bind fun bt665 => (some ((bt665.2.2.2.2.2.length : Int) == 11))) else (none)) else (none)) else (if x7.toList = x0.toList then ((skifflaw0_SameDevice.f k x652000 x652001 x652002 x652003 x652004 x652005 x640000 x640001 x640002 x640003 x640004 x640005).bind fun t673 => (if t673 = true then (if x10.toList = x0.toList then ((skifflaw0_SameDevice.f k x663000 x663001 x663002 x663003 x663004 x663005 0 0 0 0 0 ([] : List (S40))).bind fun t674 => (some t674)) else (none)) else (none))) else (none))
end
def skifflaw18_TickIdle.f (k : Nat) (a0 : ByteArray) (a1_0 : Int) (a1_1 : Int) (a1_2 : Int) (a1_3 : Int) (a1_4 : Int) (l1_5 : List (S40)) (a2 : Int) : Option (Bool) := (skifflaw18_awake.f k).bind fun t640 => (if t640 = true then (if a1_0 = 2 then (skifflaw18_TickIdle.j0 k a0 a2 true a1_0 a1_1 a1_2 a1_3 a1_4 l1_5) else (skifflaw18_TickIdle.j0 k a0 a2 (a1_0 == 5) a1_0 a1_1 a1_2 a1_3 a1_4 l1_5)) else (none))
set_option maxHeartbeats 8000000 in
set_option maxRecDepth 100000 in
theorem skifflaw18_TickIdle.calls (k : Nat) (a0 : ByteArray) (a1_0 : Int) (a1_1 : Int) (a1_2 : Int) (a1_3 : Int) (a1_4 : Int) (A1_5 : Option Addr) (c1_5 : Nat) (l1_5 : List (S40)) (a2 : Int) (r : Bool) (w : World) (hr1_5 : Kd.C k40 w A1_5 l1_5.length l1_5) (hc1_5 : l1_5.length ≤ c1_5) (h : skifflaw18_TickIdle.f k a0 a1_0 a1_1 a1_2 a1_3 a1_4 l1_5 a2 = some r) :
  Calls Try.prog 6 #[.string a0, .agg #[.int .i64 a1_0, .int .i64 a1_1, .int .i64 a1_2, .int .i64 a1_3, .int .i64 a1_4, .slice A1_5 l1_5.length c1_5], .int .i64 a2] w fun e w' => e = .returned (.bool r) ∧ Below w.heap.size w w' := by
 have hu24 := Try.underlying24
 have hfld : ∀ (w : World) (a0 a1 a2 a3 a4 : Int) (v : Value), (Instr.field 24 (.agg #[.int .i64 a0, .int .i64 a1, .int .i64 a2, .int .i64 a3, .int .i64 a4, v]) 5).run Try.prog w = .ok v w := by intro w a0 a1 a2 a3 a4 v; kernel_rfl
 have HR1_5 := Aside0.mk hr1_5
 have HC1_5 := Aside0.mk hc1_5
 clear hr1_5 hc1_5
 have HB := Aside0.mk (Below.refl w.heap.size w)
 have H : ((skifflaw18_awake.f k).bind fun t640 => (if t640 = true then (if a1_0 = 2 then (skifflaw18_TickIdle.j0 k a0 a2 true a1_0 a1_1 a1_2 a1_3 a1_4 l1_5) else (skifflaw18_TickIdle.j0 k a0 a2 (a1_0 == 5) a1_0 a1_1 a1_2 a1_3 a1_4 l1_5)) else (none))) = some r := h
 clear h
 replace H := Option.bind_eq_some_iff.mp H
 obtain ⟨t640, A40, H⟩ := H
 replace H : (if t640 = true then (if a1_0 = 2 then (skifflaw18_TickIdle.j0 k a0 a2 true a1_0 a1_1 a1_2 a1_3 a1_4 l1_5) else (skifflaw18_TickIdle.j0 k a0 a2 (a1_0 == 5) a1_0 a1_1 a1_2 a1_3 a1_4 l1_5)) else (none)) = some r := H
 have A4 := Aside0.mk A40
 clear A40
 by_cases c5 : t640 = true
 ·subst c5
  have H1 : (if a1_0 = 2 then (skifflaw18_TickIdle.j0 k a0 a2 true a1_0 a1_1 a1_2 a1_3 a1_4 l1_5) else (skifflaw18_TickIdle.j0 k a0 a2 (a1_0 == 5) a1_0 a1_1 a1_2 a1_3 a1_4 l1_5)) = some r := by rw [if_pos rfl] at H; exact H
  clear H
  have H := H1
  clear H1
  have HC6 := Aside0.mk H
  clear H
  go_enter Try.func6, Try.ntmps6
  go_upto_region 3 with (first | ((with_reducible refine gate_dst (N := 4) rfl ?_); (try (refine gate_guard (by rfl) ?_; dsimp only)); refine box_event ?hg (N := 4) ?hd (cs := #[.int .i64 a1_0, .int .i64 a1_1, .int .i64 a1_2, .int .i64 a1_3, .int .i64 a1_4, .slice A1_5 l1_5.length c1_5]) (t := 24) ?hr ?_; (case hd => rfl); (case hg => rfl); (case hr => first | (go_simp; done) | (go_simp; rfl)); intro gb639 hg w7 hbox hb; have n0_ := Aside0.mk (below_step (by repeat (first | (with_reducible first | exact HB.out | apply below_alloc | apply pw_below_drewN | apply below_drew1) | exact HB.out)) hb); have n1_ := Aside0.mk (hbox); have n2_ := Aside0.mk ((by rw [hg]; exact (below_size (by repeat (first | (with_reducible first | exact HB.out | apply below_alloc | apply pw_below_drewN | apply below_drew1) | exact HB.out))) : w.heap.size ≤ gb639)); have n3_ := Aside0.mk ((by rw [hg]; exact (below_size (by repeat (first | (with_reducible first | exact HB.out | apply below_alloc | apply pw_below_drewN | apply below_drew1) | exact HB.out))) : w.heap.size ≤ gb639)); clear HB; have HB := n0_; have BK639 := n1_; have GW639 := n2_; have GE639 := n3_; clear n0_ n1_ n2_ n3_; clear hb hbox hg) | ((with_reducible refine gate_callee (f := 17) rfl ?_); refine goesL_ (some 13) rfl rfl Try.func17 (by kernel_rfl) rfl #[] rfl (by (try simp only [List.map_toArray, List.map_cons, List.map_nil]); first | done | rfl | (simp only [List.length_drop, List.length_take]; rfl)) ?_; (with_reducible refine (skifflaw18_awake.calls k  true _ A4.out).mono ?_); rintro e w8 ⟨rfl, hb⟩; refine ⟨_, rfl, ?_⟩; have n0_ := Aside0.mk (blk_below (g := gb639) (o := .cells #[.int .i64 a1_0, .int .i64 a1_1, .int .i64 a1_2, .int .i64 a1_3, .int .i64 a1_4, .slice A1_5 l1_5.length c1_5] 24 (0, 0)) (by (with_reducible repeat (first | refine blk_drewN ?_ _ | refine blk_drew ?_ | refine blk_alloc ?_ _)); exact BK639.out) hb); have n1_ := Aside0.mk (below_step (by repeat (first | (with_reducible first | exact HB.out | apply below_alloc | apply pw_below_drewN | apply below_drew1 | refine below_set ?_ GE639.out) | exact HB.out)) hb); clear BK639; clear HB; have BK639 := n0_; have HB := n1_; clear n0_ n1_; (try clear hb); (try clear hb2); (try clear hk); (try clear hi)))
  (try simp only [Act.put, List.setIfInBounds_toArray, List.set_cons_zero, List.set_cons_succ])
  go_cut [22] (fun v22 wc => ∃ (kq : Nat) (x22_5 : Bool), v22 = .bool x22_5 ∧ Aside0 (skifflaw18_TickIdle.j0 kq a0 a2 x22_5 a1_0 a1_1 a1_2 a1_3 a1_4 l1_5 = some r) ∧ Aside0 (kq ≤ k) ∧ Aside0 (wc.heap[gb639]? = some (.cells #[.int .i64 a1_0, .int .i64 a1_1, .int .i64 a1_2, .int .i64 a1_3, .int .i64 a1_4, (.slice A1_5 l1_5.length c1_5)] 24 (0, 0))) ∧ Aside0 (Below w.heap.size w wc))
  case first =>
   have H := HC6.out
   clear HC6
   by_cases c9 : a1_0 = 2
   ·rw [if_pos c9] at H
    have c9b0 : (a1_0 == 2) = true := beq_iff_eq.mpr c9
    have c9b1 : (a1_0 != 2) = false := bne_eq_false_iff_eq.mpr c9
    clear c9
    (first | rw [c9b0] | rw [c9b1] | (simp only [i64_w, i32_w]; rw [c9b0]) | skip)
    have H' := Aside0.mk H
    clear H
    have hcz10_0 : w8.cell? ⟨gb639, 0, none⟩ = some (.int .i64 a1_0) := (blk_cell BK639.out 0).trans rfl
    have hcz10_1 : w8.cell? ⟨gb639, 1, none⟩ = some (.int .i64 a1_1) := (blk_cell BK639.out 1).trans rfl
    have hcz10_2 : w8.cell? ⟨gb639, 2, none⟩ = some (.int .i64 a1_2) := (blk_cell BK639.out 2).trans rfl
    have hcz10_3 : w8.cell? ⟨gb639, 3, none⟩ = some (.int .i64 a1_3) := (blk_cell BK639.out 3).trans rfl
    have hcz10_4 : w8.cell? ⟨gb639, 4, none⟩ = some (.int .i64 a1_4) := (blk_cell BK639.out 4).trans rfl
    have hcz10_5 : w8.cell? ⟨gb639, 5, none⟩ = some (.slice A1_5 l1_5.length c1_5) := (blk_cell BK639.out 5).trans rfl
    have hfz10_0 := blk_frozen BK639.out 0
    have hfz10_1 := blk_frozen BK639.out 1
    have hfz10_2 := blk_frozen BK639.out 2
    have hfz10_3 := blk_frozen BK639.out 3
    have hfz10_4 := blk_frozen BK639.out 4
    have hfz10_5 := blk_frozen BK639.out 5
    go_wp2
    go_meet
    case rel => exact ⟨_, (true), (by first | rfl | (simp; done) | (simp [*]; done)), H', ⟨by first | omega | exact Nat.le_refl _⟩, ⟨by (with_reducible repeat (first | refine blk_drewN ?_ _ | refine blk_drew ?_ | refine blk_alloc ?_ _)); exact BK639.out⟩, ⟨by repeat (first | (with_reducible first | exact HB.out | apply below_alloc | apply pw_below_drewN | apply below_drew1 | refine below_set ?_ GE639.out) | exact HB.out)⟩⟩
   ·rw [if_neg c9] at H
    have c9b0 : (a1_0 == 2) = false := beq_eq_false_iff_ne.mpr c9
    have c9b1 : (a1_0 != 2) = true := bne_iff_ne.mpr c9
    (first | rw [c9b0] | rw [c9b1] | (simp only [i64_w, i32_w]; rw [c9b0]) | skip)
    have H' := Aside0.mk H
    clear H
    have hcz11_0 : w8.cell? ⟨gb639, 0, none⟩ = some (.int .i64 a1_0) := (blk_cell BK639.out 0).trans rfl
    have hcz11_1 : w8.cell? ⟨gb639, 1, none⟩ = some (.int .i64 a1_1) := (blk_cell BK639.out 1).trans rfl
    have hcz11_2 : w8.cell? ⟨gb639, 2, none⟩ = some (.int .i64 a1_2) := (blk_cell BK639.out 2).trans rfl
    have hcz11_3 : w8.cell? ⟨gb639, 3, none⟩ = some (.int .i64 a1_3) := (blk_cell BK639.out 3).trans rfl
    have hcz11_4 : w8.cell? ⟨gb639, 4, none⟩ = some (.int .i64 a1_4) := (blk_cell BK639.out 4).trans rfl
    have hcz11_5 : w8.cell? ⟨gb639, 5, none⟩ = some (.slice A1_5 l1_5.length c1_5) := (blk_cell BK639.out 5).trans rfl
    have hfz11_0 := blk_frozen BK639.out 0
    have hfz11_1 := blk_frozen BK639.out 1
    have hfz11_2 := blk_frozen BK639.out 2
    have hfz11_3 := blk_frozen BK639.out 3
    have hfz11_4 := blk_frozen BK639.out 4
    have hfz11_5 := blk_frozen BK639.out 5
    go_wp2
    go_meet
    case rel => exact ⟨_, ((a1_0 == 5)), (by first | rfl | (simp; done) | (simp [*]; done)), H', ⟨by first | omega | exact Nat.le_refl _⟩, ⟨by (with_reducible repeat (first | refine blk_drewN ?_ _ | refine blk_drew ?_ | refine blk_alloc ?_ _)); exact BK639.out⟩, ⟨by repeat (first | (with_reducible first | exact HB.out | apply below_alloc | apply pw_below_drewN | apply below_drew1 | refine below_set ?_ GE639.out) | exact HB.out)⟩⟩
  case rest =>
   clear HC6
   try clear c1
   try clear p2
   try clear c5
   try clear c6
   try clear c9
   try clear c9b0
   try clear c9b1
   try clear hcz10_0
   try clear hcz10_1
   try clear hcz10_2
   try clear hcz10_3
   try clear hcz10_4
   try clear hcz10_5
   try clear hcz11_0
   try clear hcz11_1
   try clear hcz11_2
   try clear hcz11_3
   try clear hcz11_4
   try clear hcz11_5
   try clear hfz10_0
   try clear hfz10_1
   try clear hfz10_2
   try clear hfz10_3
   try clear hfz10_4
   try clear hfz10_5
   try clear hfz11_0
   try clear hfz11_1
   try clear hfz11_2
   try clear hfz11_3
   try clear hfz11_4
   try clear hfz11_5
   obtain ⟨kq, x22_5, rfl, HA, HJ5, BK639, HB⟩ := hcut
   cases kq with
   | zero => exact absurd HA.out (by simp [skifflaw18_TickIdle.j0])
   | succ kj5 =>
    have H := HA.out
    clear HA
    simp only [skifflaw18_TickIdle.j0] at H
    by_cases c12 : x22_5 = true
    ·subst c12
     have H1 : (some true) = some r := by rw [if_pos rfl] at H; exact H
     clear H
     have H := H1
     clear H1
     obtain rfl := Option.some.inj H
     go_wp2
     go_ret
     exact ⟨by first | rfl | (simp [errW_none, errW_some] <;> rfl) | (simp [*, errW_none, errW_some] <;> rfl), by repeat (first | (with_reducible first | exact HB.out | apply below_alloc | apply pw_below_drewN | apply below_drew1 | refine below_set ?_ GE639.out) | exact HB.out)⟩
    ·replace c12 := Bool.eq_false_iff.mpr c12
     subst c12
     have H1 : ((tick_Step.f kj5 a0 a1_0 a1_1 a1_2 a1_3 a1_4 l1_5).bind fun bt641 => ((tick_Cut.f kj5 a0 a1_0 a1_1 a1_2 a1_3 a1_4 l1_5 (wrap64 (Int.tmod (IntKind.u64.wrap (a2)) 97))).bind fun bt652 => ((skifflaw0_Num.f bt641.2.2.2.2.2.2.2).bind fun t663 => (if t663 = 0 then ((skifflaw0_Num.f bt652.2.2.2.2.2.2.2).bind fun t664 => (skifflaw18_TickIdle.j1 kj5 a0 bt641.1 bt652.1 (t664 != 0) a1_0 a1_1 a1_2 a1_3 a1_4 l1_5 bt641.2.1 bt641.2.2.1 bt641.2.2.2.1 bt641.2.2.2.2.1 bt641.2.2.2.2.2.1 bt641.2.2.2.2.2.2.1 bt652.2.1 bt652.2.2.1 bt652.2.2.2.1 bt652.2.2.2.2.1 bt652.2.2.2.2.2.1 bt652.2.2.2.2.2.2.1)) else (skifflaw18_TickIdle.j1 kj5 a0 bt641.1 bt652.1 true a1_0 a1_1 a1_2 a1_3 a1_4 l1_5 bt641.2.1 bt641.2.2.1 bt641.2.2.2.1 bt641.2.2.2.2.1 bt641.2.2.2.2.2.1 bt641.2.2.2.2.2.2.1 bt652.2.1 bt652.2.2.1 bt652.2.2.2.1 bt652.2.2.2.2.1 bt652.2.2.2.2.2.1 bt652.2.2.2.2.2.2.1))))) = some r := by rw [if_neg (show ¬ (false = true) by decide)] at H; exact H
     clear H
     have H := H1
     clear H1
     replace H := Option.bind_eq_some_iff.mp H
     obtain ⟨⟨t641, t642, t643, t644, t645, t646, t647, t650⟩, A130, H⟩ := H
     replace H : ((tick_Cut.f kj5 a0 a1_0 a1_1 a1_2 a1_3 a1_4 l1_5 (wrap64 (Int.tmod (IntKind.u64.wrap (a2)) 97))).bind fun bt652 => ((skifflaw0_Num.f t650).bind fun t663 => (if t663 = 0 then ((skifflaw0_Num.f bt652.2.2.2.2.2.2.2).bind fun t664 => (skifflaw18_TickIdle.j1 kj5 a0 t641 bt652.1 (t664 != 0) a1_0 a1_1 a1_2 a1_3 a1_4 l1_5 t642 t643 t644 t645 t646 t647 bt652.2.1 bt652.2.2.1 bt652.2.2.2.1 bt652.2.2.2.2.1 bt652.2.2.2.2.2.1 bt652.2.2.2.2.2.2.1)) else (skifflaw18_TickIdle.j1 kj5 a0 t641 bt652.1 true a1_0 a1_1 a1_2 a1_3 a1_4 l1_5 t642 t643 t644 t645 t646 t647 bt652.2.1 bt652.2.2.1 bt652.2.2.2.1 bt652.2.2.2.2.1 bt652.2.2.2.2.2.1 bt652.2.2.2.2.2.2.1)))) = some r := H
     have A13 := Aside0.mk A130
     clear A130
     replace H := Option.bind_eq_some_iff.mp H
     obtain ⟨⟨t652, t653, t654, t655, t656, t657, t658, t661⟩, A140, H⟩ := H
     replace H : ((skifflaw0_Num.f t650).bind fun t663 => (if t663 = 0 then ((skifflaw0_Num.f t661).bind fun t664 => (skifflaw18_TickIdle.j1 kj5 a0 t641 t652 (t664 != 0) a1_0 a1_1 a1_2 a1_3 a1_4 l1_5 t642 t643 t644 t645 t646 t647 t653 t654 t655 t656 t657 t658)) else (skifflaw18_TickIdle.j1 kj5 a0 t641 t652 true a1_0 a1_1 a1_2 a1_3 a1_4 l1_5 t642 t643 t644 t645 t646 t647 t653 t654 t655 t656 t657 t658))) = some r := H
     have A14 := Aside0.mk A140
     clear A140
     have HC15 := Aside0.mk H
     clear H
     have hcz16_0 : wc.cell? ⟨gb639, 0, none⟩ = some (.int .i64 a1_0) := (blk_cell BK639.out 0).trans rfl
     have hcz16_1 : wc.cell? ⟨gb639, 1, none⟩ = some (.int .i64 a1_1) := (blk_cell BK639.out 1).trans rfl
     have hcz16_2 : wc.cell? ⟨gb639, 2, none⟩ = some (.int .i64 a1_2) := (blk_cell BK639.out 2).trans rfl
     have hcz16_3 : wc.cell? ⟨gb639, 3, none⟩ = some (.int .i64 a1_3) := (blk_cell BK639.out 3).trans rfl
     have hcz16_4 : wc.cell? ⟨gb639, 4, none⟩ = some (.int .i64 a1_4) := (blk_cell BK639.out 4).trans rfl
     have hcz16_5 : wc.cell? ⟨gb639, 5, none⟩ = some (.slice A1_5 l1_5.length c1_5) := (blk_cell BK639.out 5).trans rfl
     have hfz16_0 := blk_frozen BK639.out 0
     have hfz16_1 := blk_frozen BK639.out 1
     have hfz16_2 := blk_frozen BK639.out 2
     have hfz16_3 := blk_frozen BK639.out 3
     have hfz16_4 := blk_frozen BK639.out 4
     have hfz16_5 := blk_frozen BK639.out 5
     go_upto_region 7 with (first | ((with_reducible refine gate_callee (f := 10) rfl ?_); refine goesL_ (some 26) rfl rfl Try.func10 (by kernel_rfl) rfl #[.string a0, .agg #[.int .i64 a1_0, .int .i64 a1_1, .int .i64 a1_2, .int .i64 a1_3, .int .i64 a1_4, .slice A1_5 l1_5.length c1_5]] rfl (by (try simp only [List.map_toArray, List.map_cons, List.map_nil]); first | done | rfl | (simp only [List.length_drop, List.length_take]; rfl)) ?_; (with_reducible refine (tick_Step.calls kj5 a0 a1_0 a1_1 a1_2 a1_3 a1_4 _ _ l1_5 t641 t642 t643 t644 t645 t646 t647 t650 _ ?side1 ?side2 A13.out).mono ?_); (case side1 => repeat (first | exact (Kd.C_below HR1_5.out HB.out) | (with_reducible refine Kd.C_alloc ?_ _) | (with_reducible refine Kd.C_drewN ?_ _) | (with_reducible refine Kd.C_drew ?_))); (case side2 => exact HC1_5.out); rintro e w17 ⟨v648, rfl, ho0, hb⟩; refine ⟨_, rfl, ?_⟩; have n0_ := Aside0.mk (Kd.Q_lower ho0 (below_size (by repeat (first | (with_reducible first | exact HB.out | apply below_alloc | apply pw_below_drewN | apply below_drew1 | refine below_set ?_ GE639.out) | exact HB.out)))); have n1_ := Aside0.mk (blk_below (g := gb639) (o := .cells #[.int .i64 a1_0, .int .i64 a1_1, .int .i64 a1_2, .int .i64 a1_3, .int .i64 a1_4, .slice A1_5 l1_5.length c1_5] 24 (0, 0)) (by (with_reducible repeat (first | refine blk_drewN ?_ _ | refine blk_drew ?_ | refine blk_alloc ?_ _)); exact BK639.out) hb); have n2_ := Aside0.mk (below_step (by repeat (first | (with_reducible first | exact HB.out | apply below_alloc | apply pw_below_drewN | apply below_drew1 | refine below_set ?_ GE639.out) | exact HB.out)) hb); clear BK639; clear HB; have HO649 := n0_; have BK639 := n1_; have HB := n2_; clear n0_ n1_ n2_; (try clear hb); (try clear hb2); (try clear hk); (try clear hi); (try clear ho0)) | ((with_reducible refine gate_dst (N := 8) rfl ?_); (try (refine gate_guard (by rfl) ?_; dsimp only)); refine box_event ?hg (N := 8) ?hd (cs := #[.int .i64 0, .int .i64 0, .int .i64 0, .int .i64 0, .int .i64 0, .slice none 0 0]) (t := 24) ?hr ?_; (case hd => rfl); (case hg => rfl); (case hr => first | (go_simp; done) | (go_simp; rfl)); intro gb651 hg w18 hbox hb; have n0_ := Aside0.mk (Kd.Q_below (by (with_reducible repeat (first | apply Kd.Q_alloc | apply Kd.Q_drewN | apply Kd.Q_drew)); exact HO649.out) hb); have n1_ := Aside0.mk (blk_below (g := gb639) (o := .cells #[.int .i64 a1_0, .int .i64 a1_1, .int .i64 a1_2, .int .i64 a1_3, .int .i64 a1_4, .slice A1_5 l1_5.length c1_5] 24 (0, 0)) (by (with_reducible repeat (first | refine blk_drewN ?_ _ | refine blk_drew ?_ | refine blk_alloc ?_ _)); exact BK639.out) hb); have n2_ := Aside0.mk (below_step (by repeat (first | (with_reducible first | exact HB.out | apply below_alloc | apply pw_below_drewN | apply below_drew1 | refine below_set ?_ GE639.out) | exact HB.out)) hb); have n3_ := Aside0.mk (hbox); have n4_ := Aside0.mk ((by rw [hg]; exact (below_size (by repeat (first | (with_reducible first | exact HB.out | apply below_alloc | apply pw_below_drewN | apply below_drew1 | refine below_set ?_ GE639.out) | exact HB.out))) : w.heap.size ≤ gb651)); have n5_ := Aside0.mk ((by rw [hg]; exact (below_size (by repeat (first | (with_reducible first | exact HB.out | apply below_alloc | apply pw_below_drewN | apply below_drew1 | refine below_set ?_ GE639.out) | exact HB.out))) : w.heap.size ≤ gb651)); have n6_ := Aside0.mk ((by rw [hg]; exact Nat.ne_of_lt (blk_lt (g := gb639) (o := .cells #[.int .i64 a1_0, .int .i64 a1_1, .int .i64 a1_2, .int .i64 a1_3, .int .i64 a1_4, .slice A1_5 l1_5.length c1_5] 24 (0, 0)) (by (with_reducible repeat (first | refine blk_drewN ?_ _ | refine blk_drew ?_ | refine blk_alloc ?_ _)); exact BK639.out)) : gb639 ≠ gb651)); have n7_ := Aside0.mk ((by rw [hg]; exact Nat.ne_of_gt (blk_lt (g := gb639) (o := .cells #[.int .i64 a1_0, .int .i64 a1_1, .int .i64 a1_2, .int .i64 a1_3, .int .i64 a1_4, .slice A1_5 l1_5.length c1_5] 24 (0, 0)) (by (with_reducible repeat (first | refine blk_drewN ?_ _ | refine blk_drew ?_ | refine blk_alloc ?_ _)); exact BK639.out)) : gb651 ≠ gb639)); clear HO649; clear BK639; clear HB; have HO649 := n0_; have BK639 := n1_; have HB := n2_; have BK651 := n3_; have GW651 := n4_; have GE651 := n5_; have NB639_651 := n6_; have NB651_639 := n7_; clear n0_ n1_ n2_ n3_ n4_ n5_ n6_ n7_; clear hb hbox hg; have hnb19 := NB651_639.out; have hnc19 := NB639_651.out; have hcz20_0 : w18.cell? ⟨gb651, 0, none⟩ = some (.int .i64 0) := (blk_cell BK651.out 0).trans rfl; have hcz20_1 : w18.cell? ⟨gb651, 1, none⟩ = some (.int .i64 0) := (blk_cell BK651.out 1).trans rfl; have hcz20_2 : w18.cell? ⟨gb651, 2, none⟩ = some (.int .i64 0) := (blk_cell BK651.out 2).trans rfl; have hcz20_3 : w18.cell? ⟨gb651, 3, none⟩ = some (.int .i64 0) := (blk_cell BK651.out 3).trans rfl; have hcz20_4 : w18.cell? ⟨gb651, 4, none⟩ = some (.int .i64 0) := (blk_cell BK651.out 4).trans rfl; have hcz20_5 : w18.cell? ⟨gb651, 5, none⟩ = some (.slice none 0 0) := (blk_cell BK651.out 5).trans rfl; have hfz20_0 := blk_frozen BK651.out 0; have hfz20_1 := blk_frozen BK651.out 1; have hfz20_2 := blk_frozen BK651.out 2; have hfz20_3 := blk_frozen BK651.out 3; have hfz20_4 := blk_frozen BK651.out 4; have hfz20_5 := blk_frozen BK651.out 5; obtain ⟨Ao21, co21, eo21, _⟩ := Kd.Q_slice HO649.out; subst eo21; have hcz22_0 : w18.cell? ⟨gb639, 0, none⟩ = some (.int .i64 a1_0) := (blk_cell BK639.out 0).trans rfl; have hcz22_1 : w18.cell? ⟨gb639, 1, none⟩ = some (.int .i64 a1_1) := (blk_cell BK639.out 1).trans rfl; have hcz22_2 : w18.cell? ⟨gb639, 2, none⟩ = some (.int .i64 a1_2) := (blk_cell BK639.out 2).trans rfl; have hcz22_3 : w18.cell? ⟨gb639, 3, none⟩ = some (.int .i64 a1_3) := (blk_cell BK639.out 3).trans rfl; have hcz22_4 : w18.cell? ⟨gb639, 4, none⟩ = some (.int .i64 a1_4) := (blk_cell BK639.out 4).trans rfl; have hcz22_5 : w18.cell? ⟨gb639, 5, none⟩ = some (.slice A1_5 l1_5.length c1_5) := (blk_cell BK639.out 5).trans rfl; have hfz22_0 := blk_frozen BK639.out 0; have hfz22_1 := blk_frozen BK639.out 1; have hfz22_2 := blk_frozen BK639.out 2; have hfz22_3 := blk_frozen BK639.out 3; have hfz22_4 := blk_frozen BK639.out 4; have hfz22_5 := blk_frozen BK639.out 5) | ((with_reducible refine gate_callee (f := 12) rfl ?_); refine goesL_ (some 37) rfl rfl Try.func12 (by kernel_rfl) rfl #[.string a0, .agg #[.int .i64 a1_0, .int .i64 a1_1, .int .i64 a1_2, .int .i64 a1_3, .int .i64 a1_4, .slice A1_5 l1_5.length c1_5], .int .i64 (wrap64 (Int.tmod (IntKind.u64.wrap (a2)) 97))] rfl (by (try simp only [List.map_toArray, List.map_cons, List.map_nil]); first | done | rfl | (simp only [List.length_drop, List.length_take]; rfl)) ?_; (with_reducible refine (tick_Cut.calls kj5 a0 a1_0 a1_1 a1_2 a1_3 a1_4 _ _ l1_5 (wrap64 (Int.tmod (IntKind.u64.wrap (a2)) 97)) t652 t653 t654 t655 t656 t657 t658 t661 _ ?side1 ?side2 A14.out).mono ?_); (case side1 => exact Kd.C_below HR1_5.out (by repeat (first | (with_reducible first | exact HB.out | apply below_alloc | apply pw_below_drewN | apply below_drew1 | refine below_set ?_ GE639.out | refine below_set ?_ GE651.out) | exact HB.out))); (case side2 => exact HC1_5.out); rintro e w23 ⟨v659, rfl, ho0, hb⟩; refine ⟨_, rfl, ?_⟩; have n0_ := Aside0.mk (Kd.Q_elder' (by (with_reducible repeat (first | apply Kd.Q_alloc | apply Kd.Q_drewN | apply Kd.Q_drew)); exact (Kd.Q_mono (Kd.Q_far (p := ⟨gb651, 5, none⟩) (Kd.Q_far (p := ⟨gb651, 4, none⟩) (Kd.Q_far (p := ⟨gb651, 3, none⟩) (Kd.Q_far (p := ⟨gb651, 2, none⟩) (Kd.Q_far (p := ⟨gb651, 1, none⟩) (Kd.Q_far (p := ⟨gb651, 0, none⟩) (Kd.Q_types HO649.out BK651.out (by decide)) (fun _ hk => hk.2) (.int .i64 t642)) (fun _ hk => hk.2) (.int .i64 t643)) (fun _ hk => hk.2) (.int .i64 t644)) (fun _ hk => hk.2) (.int .i64 t645)) (fun _ hk => hk.2) (.int .i64 t646)) (fun _ hk => hk.2) (.slice Ao21 t647.length co21)) (fun _ h_ => h_.1))) (Kd.R_base ho0) hb); have n1_ := Aside0.mk (Kd.R_lower (Kd.R_new' ho0 (Kd.Q_lt (by (with_reducible repeat (first | apply Kd.Q_alloc | apply Kd.Q_drewN | apply Kd.Q_drew)); exact (Kd.Q_mono (Kd.Q_far (p := ⟨gb651, 5, none⟩) (Kd.Q_far (p := ⟨gb651, 4, none⟩) (Kd.Q_far (p := ⟨gb651, 3, none⟩) (Kd.Q_far (p := ⟨gb651, 2, none⟩) (Kd.Q_far (p := ⟨gb651, 1, none⟩) (Kd.Q_far (p := ⟨gb651, 0, none⟩) (Kd.Q_types HO649.out BK651.out (by decide)) (fun _ hk => hk.2) (.int .i64 t642)) (fun _ hk => hk.2) (.int .i64 t643)) (fun _ hk => hk.2) (.int .i64 t644)) (fun _ hk => hk.2) (.int .i64 t645)) (fun _ hk => hk.2) (.int .i64 t646)) (fun _ hk => hk.2) (.slice Ao21 t647.length co21)) (fun _ h_ => h_.1))))) (below_size (by repeat (first | (with_reducible first | exact HB.out | apply below_alloc | apply pw_below_drewN | apply below_drew1 | refine below_set ?_ GE639.out | refine below_set ?_ GE651.out) | exact HB.out)))); have n2_ := Aside0.mk (blk_below (g := gb639) (o := .cells #[.int .i64 a1_0, .int .i64 a1_1, .int .i64 a1_2, .int .i64 a1_3, .int .i64 a1_4, .slice A1_5 l1_5.length c1_5] 24 (0, 0)) (by (with_reducible repeat (first | refine blk_drewN ?_ _ | refine blk_drew ?_ | refine blk_alloc ?_ _)); refine blk_far ?_ NB639_651.out _; (with_reducible repeat (first | refine blk_drewN ?_ _ | refine blk_drew ?_ | refine blk_alloc ?_ _)); refine blk_far ?_ NB639_651.out _; (with_reducible repeat (first | refine blk_drewN ?_ _ | refine blk_drew ?_ | refine blk_alloc ?_ _)); refine blk_far ?_ NB639_651.out _; (with_reducible repeat (first | refine blk_drewN ?_ _ | refine blk_drew ?_ | refine blk_alloc ?_ _)); refine blk_far ?_ NB639_651.out _; (with_reducible repeat (first | refine blk_drewN ?_ _ | refine blk_drew ?_ | refine blk_alloc ?_ _)); refine blk_far ?_ NB639_651.out _; (with_reducible repeat (first | refine blk_drewN ?_ _ | refine blk_drew ?_ | refine blk_alloc ?_ _)); refine blk_far ?_ NB639_651.out _; (with_reducible repeat (first | refine blk_drewN ?_ _ | refine blk_drew ?_ | refine blk_alloc ?_ _)); exact BK639.out) hb); have n3_ := Aside0.mk (blk_below (g := gb651) (o := .cells #[.int .i64 t642, .int .i64 t643, .int .i64 t644, .int .i64 t645, .int .i64 t646, .slice Ao21 t647.length co21] 24 (0, 0)) (by (with_reducible repeat (first | refine blk_drewN ?_ _ | refine blk_drew ?_ | refine blk_alloc ?_ _)); refine blk_put (cs := #[.int .i64 t642, .int .i64 t643, .int .i64 t644, .int .i64 t645, .int .i64 t646, .slice none 0 0]) ?_ 5 _ rfl; (with_reducible repeat (first | refine blk_drewN ?_ _ | refine blk_drew ?_ | refine blk_alloc ?_ _)); refine blk_put (cs := #[.int .i64 t642, .int .i64 t643, .int .i64 t644, .int .i64 t645, .int .i64 0, .slice none 0 0]) ?_ 4 _ rfl; (with_reducible repeat (first | refine blk_drewN ?_ _ | refine blk_drew ?_ | refine blk_alloc ?_ _)); refine blk_put (cs := #[.int .i64 t642, .int .i64 t643, .int .i64 t644, .int .i64 0, .int .i64 0, .slice none 0 0]) ?_ 3 _ rfl; (with_reducible repeat (first | refine blk_drewN ?_ _ | refine blk_drew ?_ | refine blk_alloc ?_ _)); refine blk_put (cs := #[.int .i64 t642, .int .i64 t643, .int .i64 0, .int .i64 0, .int .i64 0, .slice none 0 0]) ?_ 2 _ rfl; (with_reducible repeat (first | refine blk_drewN ?_ _ | refine blk_drew ?_ | refine blk_alloc ?_ _)); refine blk_put (cs := #[.int .i64 t642, .int .i64 0, .int .i64 0, .int .i64 0, .int .i64 0, .slice none 0 0]) ?_ 1 _ rfl; (with_reducible repeat (first | refine blk_drewN ?_ _ | refine blk_drew ?_ | refine blk_alloc ?_ _)); refine blk_put (cs := #[.int .i64 0, .int .i64 0, .int .i64 0, .int .i64 0, .int .i64 0, .slice none 0 0]) ?_ 0 _ rfl; (with_reducible repeat (first | refine blk_drewN ?_ _ | refine blk_drew ?_ | refine blk_alloc ?_ _)); exact BK651.out) hb); have n4_ := Aside0.mk (below_step (by repeat (first | (with_reducible first | exact HB.out | apply below_alloc | apply pw_below_drewN | apply below_drew1 | refine below_set ?_ GE639.out | refine below_set ?_ GE651.out) | exact HB.out)) hb); clear HO649; clear BK639; clear BK651; clear HB; have HO649 := n0_; have HO660 := n1_; have BK639 := n2_; have BK651 := n3_; have HB := n4_; clear n0_ n1_ n2_ n3_ n4_; (try clear hb); (try clear hb2); (try clear hk); (try clear hi); (try clear ho0)) | ((with_reducible refine gate_dst (N := 11) rfl ?_); (try (refine gate_guard (by rfl) ?_; dsimp only)); refine box_event ?hg (N := 11) ?hd (cs := #[.int .i64 0, .int .i64 0, .int .i64 0, .int .i64 0, .int .i64 0, .slice none 0 0]) (t := 24) ?hr ?_; (case hd => rfl); (case hg => rfl); (case hr => first | (go_simp; done) | (go_simp; rfl)); intro gb662 hg w24 hbox hb; have n0_ := Aside0.mk (Kd.Q_below (by (with_reducible repeat (first | apply Kd.Q_alloc | apply Kd.Q_drewN | apply Kd.Q_drew)); exact HO649.out) hb); have n1_ := Aside0.mk (Kd.R_below (by (with_reducible repeat (first | apply Kd.R_alloc | apply Kd.R_drewN | apply Kd.R_drew)); exact HO660.out) hb); have n2_ := Aside0.mk (blk_below (g := gb639) (o := .cells #[.int .i64 a1_0, .int .i64 a1_1, .int .i64 a1_2, .int .i64 a1_3, .int .i64 a1_4, .slice A1_5 l1_5.length c1_5] 24 (0, 0)) (by (with_reducible repeat (first | refine blk_drewN ?_ _ | refine blk_drew ?_ | refine blk_alloc ?_ _)); exact BK639.out) hb); have n3_ := Aside0.mk (blk_below (g := gb651) (o := .cells #[.int .i64 t642, .int .i64 t643, .int .i64 t644, .int .i64 t645, .int .i64 t646, .slice Ao21 t647.length co21] 24 (0, 0)) (by (with_reducible repeat (first | refine blk_drewN ?_ _ | refine blk_drew ?_ | refine blk_alloc ?_ _)); exact BK651.out) hb); have n4_ := Aside0.mk (below_step (by repeat (first | (with_reducible first | exact HB.out | apply below_alloc | apply pw_below_drewN | apply below_drew1 | refine below_set ?_ GE639.out | refine below_set ?_ GE651.out) | exact HB.out)) hb); have n5_ := Aside0.mk (hbox); have n6_ := Aside0.mk ((by rw [hg]; exact (below_size (by repeat (first | (with_reducible first | exact HB.out | apply below_alloc | apply pw_below_drewN | apply below_drew1 | refine below_set ?_ GE639.out | refine below_set ?_ GE651.out) | exact HB.out))) : w.heap.size ≤ gb662)); have n7_ := Aside0.mk ((by rw [hg]; exact (below_size (by repeat (first | (with_reducible first | exact HB.out | apply below_alloc | apply pw_below_drewN | apply below_drew1 | refine below_set ?_ GE639.out | refine below_set ?_ GE651.out) | exact HB.out))) : w.heap.size ≤ gb662)); have n8_ := Aside0.mk ((by rw [hg]; exact Nat.ne_of_lt (blk_lt (g := gb639) (o := .cells #[.int .i64 a1_0, .int .i64 a1_1, .int .i64 a1_2, .int .i64 a1_3, .int .i64 a1_4, .slice A1_5 l1_5.length c1_5] 24 (0, 0)) (by (with_reducible repeat (first | refine blk_drewN ?_ _ | refine blk_drew ?_ | refine blk_alloc ?_ _)); exact BK639.out)) : gb639 ≠ gb662)); have n9_ := Aside0.mk ((by rw [hg]; exact Nat.ne_of_gt (blk_lt (g := gb639) (o := .cells #[.int .i64 a1_0, .int .i64 a1_1, .int .i64 a1_2, .int .i64 a1_3, .int .i64 a1_4, .slice A1_5 l1_5.length c1_5] 24 (0, 0)) (by (with_reducible repeat (first | refine blk_drewN ?_ _ | refine blk_drew ?_ | refine blk_alloc ?_ _)); exact BK639.out)) : gb662 ≠ gb639)); have n10_ := Aside0.mk ((by rw [hg]; exact Nat.ne_of_lt (blk_lt (g := gb651) (o := .cells #[.int .i64 t642, .int .i64 t643, .int .i64 t644, .int .i64 t645, .int .i64 t646, .slice Ao21 t647.length co21] 24 (0, 0)) (by (with_reducible repeat (first | refine blk_drewN ?_ _ | refine blk_drew ?_ | refine blk_alloc ?_ _)); exact BK651.out)) : gb651 ≠ gb662)); have n11_ := Aside0.mk ((by rw [hg]; exact Nat.ne_of_gt (blk_lt (g := gb651) (o := .cells #[.int .i64 t642, .int .i64 t643, .int .i64 t644, .int .i64 t645, .int .i64 t646, .slice Ao21 t647.length co21] 24 (0, 0)) (by (with_reducible repeat (first | refine blk_drewN ?_ _ | refine blk_drew ?_ | refine blk_alloc ?_ _)); exact BK651.out)) : gb662 ≠ gb651)); clear HO649; clear HO660; clear BK639; clear BK651; clear HB; have HO649 := n0_; have HO660 := n1_; have BK639 := n2_; have BK651 := n3_; have HB := n4_; have BK662 := n5_; have GW662 := n6_; have GE662 := n7_; have NB639_662 := n8_; have NB662_639 := n9_; have NB651_662 := n10_; have NB662_651 := n11_; clear n0_ n1_ n2_ n3_ n4_ n5_ n6_ n7_ n8_ n9_ n10_ n11_; clear hb hbox hg; have hnb25 := NB662_639.out; have hnc25 := NB639_662.out; have hnb26 := NB662_651.out; have hnc26 := NB651_662.out; have hcz27_0 : w24.cell? ⟨gb662, 0, none⟩ = some (.int .i64 0) := (blk_cell BK662.out 0).trans rfl; have hcz27_1 : w24.cell? ⟨gb662, 1, none⟩ = some (.int .i64 0) := (blk_cell BK662.out 1).trans rfl; have hcz27_2 : w24.cell? ⟨gb662, 2, none⟩ = some (.int .i64 0) := (blk_cell BK662.out 2).trans rfl; have hcz27_3 : w24.cell? ⟨gb662, 3, none⟩ = some (.int .i64 0) := (blk_cell BK662.out 3).trans rfl; have hcz27_4 : w24.cell? ⟨gb662, 4, none⟩ = some (.int .i64 0) := (blk_cell BK662.out 4).trans rfl; have hcz27_5 : w24.cell? ⟨gb662, 5, none⟩ = some (.slice none 0 0) := (blk_cell BK662.out 5).trans rfl; have hfz27_0 := blk_frozen BK662.out 0; have hfz27_1 := blk_frozen BK662.out 1; have hfz27_2 := blk_frozen BK662.out 2; have hfz27_3 := blk_frozen BK662.out 3; have hfz27_4 := blk_frozen BK662.out 4; have hfz27_5 := blk_frozen BK662.out 5; obtain ⟨Ao28, co28, eo28⟩ := Kd.R_slice HO660.out; subst eo28))
     (try simp only [Act.put, List.setIfInBounds_toArray, List.set_cons_zero, List.set_cons_succ])
     go_cut [48] (fun v48 wc => ∃ (kq : Nat) (x48_14 : Bool), v48 = .bool x48_14 ∧ Aside0 (skifflaw18_TickIdle.j1 kq a0 t641 t652 x48_14 a1_0 a1_1 a1_2 a1_3 a1_4 l1_5 t642 t643 t644 t645 t646 t647 t653 t654 t655 t656 t657 t658 = some r) ∧ Aside0 (kq ≤ kj5) ∧ Aside0 (Kd.Q k40 40 wc w.heap.size (fun k_ => some k_ ≠ ((.slice Ao28 t658.length co28) : Value).ownBlock) (.slice Ao21 t647.length co21) t647) ∧ Aside0 (Kd.Q k40 40 wc w.heap.size (fun k_ => some k_ ≠ ((.slice Ao21 t647.length co21) : Value).ownBlock) (.slice Ao28 t658.length co28) t658) ∧ Aside0 (wc.heap[gb639]? = some (.cells #[.int .i64 a1_0, .int .i64 a1_1, .int .i64 a1_2, .int .i64 a1_3, .int .i64 a1_4, (.slice A1_5 l1_5.length c1_5)] 24 (0, 0))) ∧ Aside0 (wc.heap[gb651]? = some (.cells #[.int .i64 t642, .int .i64 t643, .int .i64 t644, .int .i64 t645, .int .i64 t646, (.slice Ao21 t647.length co21)] 24 (0, 0))) ∧ Aside0 (wc.heap[gb662]? = some (.cells #[.int .i64 t653, .int .i64 t654, .int .i64 t655, .int .i64 t656, .int .i64 t657, (.slice Ao28 t658.length co28)] 24 (0, 0))) ∧ Aside0 (Below w.heap.size w wc))
     case first =>
      have H := HC15.out
      clear HC15
      replace H := Option.bind_eq_some_iff.mp H
      obtain ⟨t663, A290, H⟩ := H
      replace H : (if t663 = 0 then ((skifflaw0_Num.f t661).bind fun t664 => (skifflaw18_TickIdle.j1 kj5 a0 t641 t652 (t664 != 0) a1_0 a1_1 a1_2 a1_3 a1_4 l1_5 t642 t643 t644 t645 t646 t647 t653 t654 t655 t656 t657 t658)) else (skifflaw18_TickIdle.j1 kj5 a0 t641 t652 true a1_0 a1_1 a1_2 a1_3 a1_4 l1_5 t642 t643 t644 t645 t646 t647 t653 t654 t655 t656 t657 t658)) = some r := H
      have A29 := Aside0.mk A290
      clear A290
      by_cases c30 : t663 = 0
      ·rw [if_pos c30] at H
       have c30b0 : (t663 == 0) = true := beq_iff_eq.mpr c30
       have c30b1 : (t663 != 0) = false := bne_eq_false_iff_eq.mpr c30
       clear c30
       (first | rw [c30b0] | rw [c30b1] | (simp only [i64_w, i32_w]; rw [c30b0]) | skip)
       replace H := Option.bind_eq_some_iff.mp H
       obtain ⟨t664, A310, H⟩ := H
       replace H : (skifflaw18_TickIdle.j1 kj5 a0 t641 t652 (t664 != 0) a1_0 a1_1 a1_2 a1_3 a1_4 l1_5 t642 t643 t644 t645 t646 t647 t653 t654 t655 t656 t657 t658) = some r := H
       have A31 := Aside0.mk A310
       clear A310
       have H' := Aside0.mk H
       clear H
       go_wp2_with (first | ((with_reducible refine gate_callee (f := 15) rfl ?_); refine goesL_ (some 42) rfl rfl Try.func15 (by kernel_rfl) rfl #[.int .i64 t650] rfl (by (try simp only [List.map_toArray, List.map_cons, List.map_nil]); first | done | rfl | (simp only [List.length_drop, List.length_take]; rfl)) ?_; (with_reducible refine (skifflaw0_Num.calls t650 t663 _ A29.out).mono ?_); rintro e w' ⟨rfl, ⟨nd, rfl⟩⟩; refine ⟨_, rfl, ?_⟩) | (go_at_call 15; (with_reducible refine (skifflaw0_Num.calls t661 t664 _ A31.out).mono ?_); rintro e w' ⟨rfl, ⟨nd, rfl⟩⟩))
       go_meet
       case rel => exact ⟨_, ((t664 != 0)), (by first | rfl | (simp; done) | (simp [*]; done)), H', ⟨by have := HJ5.out; first | omega | exact Nat.le_refl _⟩, ⟨by (with_reducible repeat (first | apply Kd.Q_alloc | apply Kd.Q_drewN | apply Kd.Q_drew)); exact Kd.Q_mono (Kd.Q_far (p := ⟨gb662, 5, none⟩) (Kd.Q_far (p := ⟨gb662, 4, none⟩) (Kd.Q_far (p := ⟨gb662, 3, none⟩) (Kd.Q_far (p := ⟨gb662, 2, none⟩) (Kd.Q_far (p := ⟨gb662, 1, none⟩) (Kd.Q_far (p := ⟨gb662, 0, none⟩) (Kd.Q_types HO649.out BK662.out (by decide)) (fun _ hk => hk.2) (.int .i64 t653)) (fun _ hk => hk.2) (.int .i64 t654)) (fun _ hk => hk.2) (.int .i64 t655)) (fun _ hk => hk.2) (.int .i64 t656)) (fun _ hk => hk.2) (.int .i64 t657)) (fun _ hk => hk.2) (.slice Ao28 t658.length co28)) (fun _ hk => hk.1.2)⟩, ⟨Kd.Q_of_R (by (with_reducible repeat (first | apply Kd.R_alloc | apply Kd.R_drewN | apply Kd.R_drew)); exact Kd.R_mono (Kd.R_far (p := ⟨gb662, 5, none⟩) (Kd.R_far (p := ⟨gb662, 4, none⟩) (Kd.R_far (p := ⟨gb662, 3, none⟩) (Kd.R_far (p := ⟨gb662, 2, none⟩) (Kd.R_far (p := ⟨gb662, 1, none⟩) (Kd.R_far (p := ⟨gb662, 0, none⟩) (Kd.R_types HO660.out BK662.out (by decide)) (fun _ hk => hk.2) (.int .i64 t653)) (fun _ hk => hk.2) (.int .i64 t654)) (fun _ hk => hk.2) (.int .i64 t655)) (fun _ hk => hk.2) (.int .i64 t656)) (fun _ hk => hk.2) (.int .i64 t657)) (fun _ hk => hk.2) (.slice Ao28 t658.length co28)) (fun _ hk => hk.1.2))⟩, ⟨by (with_reducible repeat (first | refine blk_drewN ?_ _ | refine blk_drew ?_ | refine blk_alloc ?_ _)); refine blk_far ?_ NB639_662.out _; (with_reducible repeat (first | refine blk_drewN ?_ _ | refine blk_drew ?_ | refine blk_alloc ?_ _)); refine blk_far ?_ NB639_662.out _; (with_reducible repeat (first | refine blk_drewN ?_ _ | refine blk_drew ?_ | refine blk_alloc ?_ _)); refine blk_far ?_ NB639_662.out _; (with_reducible repeat (first | refine blk_drewN ?_ _ | refine blk_drew ?_ | refine blk_alloc ?_ _)); refine blk_far ?_ NB639_662.out _; (with_reducible repeat (first | refine blk_drewN ?_ _ | refine blk_drew ?_ | refine blk_alloc ?_ _)); refine blk_far ?_ NB639_662.out _; (with_reducible repeat (first | refine blk_drewN ?_ _ | refine blk_drew ?_ | refine blk_alloc ?_ _)); refine blk_far ?_ NB639_662.out _; (with_reducible repeat (first | refine blk_drewN ?_ _ | refine blk_drew ?_ | refine blk_alloc ?_ _)); exact BK639.out⟩, ⟨by (with_reducible repeat (first | refine blk_drewN ?_ _ | refine blk_drew ?_ | refine blk_alloc ?_ _)); refine blk_far ?_ NB651_662.out _; (with_reducible repeat (first | refine blk_drewN ?_ _ | refine blk_drew ?_ | refine blk_alloc ?_ _)); refine blk_far ?_ NB651_662.out _; (with_reducible repeat (first | refine blk_drewN ?_ _ | refine blk_drew ?_ | refine blk_alloc ?_ _)); refine blk_far ?_ NB651_662.out _; (with_reducible repeat (first | refine blk_drewN ?_ _ | refine blk_drew ?_ | refine blk_alloc ?_ _)); refine blk_far ?_ NB651_662.out _; (with_reducible repeat (first | refine blk_drewN ?_ _ | refine blk_drew ?_ | refine blk_alloc ?_ _)); refine blk_far ?_ NB651_662.out _; (with_reducible repeat (first | refine blk_drewN ?_ _ | refine blk_drew ?_ | refine blk_alloc ?_ _)); refine blk_far ?_ NB651_662.out _; (with_reducible repeat (first | refine blk_drewN ?_ _ | refine blk_drew ?_ | refine blk_alloc ?_ _)); exact BK651.out⟩, ⟨by (with_reducible repeat (first | refine blk_drewN ?_ _ | refine blk_drew ?_ | refine blk_alloc ?_ _)); refine blk_put (cs := #[.int .i64 t653, .int .i64 t654, .int .i64 t655, .int .i64 t656, .int .i64 t657, .slice none 0 0]) ?_ 5 _ rfl; (with_reducible repeat (first | refine blk_drewN ?_ _ | refine blk_drew ?_ | refine blk_alloc ?_ _)); refine blk_put (cs := #[.int .i64 t653, .int .i64 t654, .int .i64 t655, .int .i64 t656, .int .i64 0, .slice none 0 0]) ?_ 4 _ rfl; (with_reducible repeat (first | refine blk_drewN ?_ _ | refine blk_drew ?_ | refine blk_alloc ?_ _)); refine blk_put (cs := #[.int .i64 t653, .int .i64 t654, .int .i64 t655, .int .i64 0, .int .i64 0, .slice none 0 0]) ?_ 3 _ rfl; (with_reducible repeat (first | refine blk_drewN ?_ _ | refine blk_drew ?_ | refine blk_alloc ?_ _)); refine blk_put (cs := #[.int .i64 t653, .int .i64 t654, .int .i64 0, .int .i64 0, .int .i64 0, .slice none 0 0]) ?_ 2 _ rfl; (with_reducible repeat (first | refine blk_drewN ?_ _ | refine blk_drew ?_ | refine blk_alloc ?_ _)); refine blk_put (cs := #[.int .i64 t653, .int .i64 0, .int .i64 0, .int .i64 0, .int .i64 0, .slice none 0 0]) ?_ 1 _ rfl; (with_reducible repeat (first | refine blk_drewN ?_ _ | refine blk_drew ?_ | refine blk_alloc ?_ _)); refine blk_put (cs := #[.int .i64 0, .int .i64 0, .int .i64 0, .int .i64 0, .int .i64 0, .slice none 0 0]) ?_ 0 _ rfl; (with_reducible repeat (first | refine blk_drewN ?_ _ | refine blk_drew ?_ | refine blk_alloc ?_ _)); exact BK662.out⟩, ⟨by repeat (first | (with_reducible first | exact HB.out | apply below_alloc | apply pw_below_drewN | apply below_drew1 | refine below_set ?_ GE639.out | refine below_set ?_ GE651.out | refine below_set ?_ GE662.out) | exact HB.out)⟩⟩
      ·rw [if_neg c30] at H
       have c30b0 : (t663 == 0) = false := beq_eq_false_iff_ne.mpr c30
       have c30b1 : (t663 != 0) = true := bne_iff_ne.mpr c30
       (first | rw [c30b0] | rw [c30b1] | (simp only [i64_w, i32_w]; rw [c30b0]) | skip)
       have H' := Aside0.mk H
       clear H
       go_wp2_with (first | ((with_reducible refine gate_callee (f := 15) rfl ?_); refine goesL_ (some 42) rfl rfl Try.func15 (by kernel_rfl) rfl #[.int .i64 t650] rfl (by (try simp only [List.map_toArray, List.map_cons, List.map_nil]); first | done | rfl | (simp only [List.length_drop, List.length_take]; rfl)) ?_; (with_reducible refine (skifflaw0_Num.calls t650 t663 _ A29.out).mono ?_); rintro e w' ⟨rfl, ⟨nd, rfl⟩⟩; refine ⟨_, rfl, ?_⟩))
       go_meet
       case rel => exact ⟨_, (true), (by first | rfl | (simp; done) | (simp [*]; done)), H', ⟨by have := HJ5.out; first | omega | exact Nat.le_refl _⟩, ⟨by (with_reducible repeat (first | apply Kd.Q_alloc | apply Kd.Q_drewN | apply Kd.Q_drew)); exact Kd.Q_mono (Kd.Q_far (p := ⟨gb662, 5, none⟩) (Kd.Q_far (p := ⟨gb662, 4, none⟩) (Kd.Q_far (p := ⟨gb662, 3, none⟩) (Kd.Q_far (p := ⟨gb662, 2, none⟩) (Kd.Q_far (p := ⟨gb662, 1, none⟩) (Kd.Q_far (p := ⟨gb662, 0, none⟩) (Kd.Q_types HO649.out BK662.out (by decide)) (fun _ hk => hk.2) (.int .i64 t653)) (fun _ hk => hk.2) (.int .i64 t654)) (fun _ hk => hk.2) (.int .i64 t655)) (fun _ hk => hk.2) (.int .i64 t656)) (fun _ hk => hk.2) (.int .i64 t657)) (fun _ hk => hk.2) (.slice Ao28 t658.length co28)) (fun _ hk => hk.1.2)⟩, ⟨Kd.Q_of_R (by (with_reducible repeat (first | apply Kd.R_alloc | apply Kd.R_drewN | apply Kd.R_drew)); exact Kd.R_mono (Kd.R_far (p := ⟨gb662, 5, none⟩) (Kd.R_far (p := ⟨gb662, 4, none⟩) (Kd.R_far (p := ⟨gb662, 3, none⟩) (Kd.R_far (p := ⟨gb662, 2, none⟩) (Kd.R_far (p := ⟨gb662, 1, none⟩) (Kd.R_far (p := ⟨gb662, 0, none⟩) (Kd.R_types HO660.out BK662.out (by decide)) (fun _ hk => hk.2) (.int .i64 t653)) (fun _ hk => hk.2) (.int .i64 t654)) (fun _ hk => hk.2) (.int .i64 t655)) (fun _ hk => hk.2) (.int .i64 t656)) (fun _ hk => hk.2) (.int .i64 t657)) (fun _ hk => hk.2) (.slice Ao28 t658.length co28)) (fun _ hk => hk.1.2))⟩, ⟨by (with_reducible repeat (first | refine blk_drewN ?_ _ | refine blk_drew ?_ | refine blk_alloc ?_ _)); refine blk_far ?_ NB639_662.out _; (with_reducible repeat (first | refine blk_drewN ?_ _ | refine blk_drew ?_ | refine blk_alloc ?_ _)); refine blk_far ?_ NB639_662.out _; (with_reducible repeat (first | refine blk_drewN ?_ _ | refine blk_drew ?_ | refine blk_alloc ?_ _)); refine blk_far ?_ NB639_662.out _; (with_reducible repeat (first | refine blk_drewN ?_ _ | refine blk_drew ?_ | refine blk_alloc ?_ _)); refine blk_far ?_ NB639_662.out _; (with_reducible repeat (first | refine blk_drewN ?_ _ | refine blk_drew ?_ | refine blk_alloc ?_ _)); refine blk_far ?_ NB639_662.out _; (with_reducible repeat (first | refine blk_drewN ?_ _ | refine blk_drew ?_ | refine blk_alloc ?_ _)); refine blk_far ?_ NB639_662.out _; (with_reducible repeat (first | refine blk_drewN ?_ _ | refine blk_drew ?_ | refine blk_alloc ?_ _)); exact BK639.out⟩, ⟨by (with_reducible repeat (first | refine blk_drewN ?_ _ | refine blk_drew ?_ | refine blk_alloc ?_ _)); refine blk_far ?_ NB651_662.out _; (with_reducible repeat (first | refine blk_drewN ?_ _ | refine blk_drew ?_ | refine blk_alloc ?_ _)); refine blk_far ?_ NB651_662.out _; (with_reducible repeat (first | refine blk_drewN ?_ _ | refine blk_drew ?_ | refine blk_alloc ?_ _)); refine blk_far ?_ NB651_662.out _; (with_reducible repeat (first | refine blk_drewN ?_ _ | refine blk_drew ?_ | refine blk_alloc ?_ _)); refine blk_far ?_ NB651_662.out _; (with_reducible repeat (first | refine blk_drewN ?_ _ | refine blk_drew ?_ | refine blk_alloc ?_ _)); refine blk_far ?_ NB651_662.out _; (with_reducible repeat (first | refine blk_drewN ?_ _ | refine blk_drew ?_ | refine blk_alloc ?_ _)); refine blk_far ?_ NB651_662.out _; (with_reducible repeat (first | refine blk_drewN ?_ _ | refine blk_drew ?_ | refine blk_alloc ?_ _)); exact BK651.out⟩, ⟨by (with_reducible repeat (first | refine blk_drewN ?_ _ | refine blk_drew ?_ | refine blk_alloc ?_ _)); refine blk_put (cs := #[.int .i64 t653, .int .i64 t654, .int .i64 t655, .int .i64 t656, .int .i64 t657, .slice none 0 0]) ?_ 5 _ rfl; (with_reducible repeat (first | refine blk_drewN ?_ _ | refine blk_drew ?_ | refine blk_alloc ?_ _)); refine blk_put (cs := #[.int .i64 t653, .int .i64 t654, .int .i64 t655, .int .i64 t656, .int .i64 0, .slice none 0 0]) ?_ 4 _ rfl; (with_reducible repeat (first | refine blk_drewN ?_ _ | refine blk_drew ?_ | refine blk_alloc ?_ _)); refine blk_put (cs := #[.int .i64 t653, .int .i64 t654, .int .i64 t655, .int .i64 0, .int .i64 0, .slice none 0 0]) ?_ 3 _ rfl; (with_reducible repeat (first | refine blk_drewN ?_ _ | refine blk_drew ?_ | refine blk_alloc ?_ _)); refine blk_put (cs := #[.int .i64 t653, .int .i64 t654, .int .i64 0, .int .i64 0, .int .i64 0, .slice none 0 0]) ?_ 2 _ rfl; (with_reducible repeat (first | refine blk_drewN ?_ _ | refine blk_drew ?_ | refine blk_alloc ?_ _)); refine blk_put (cs := #[.int .i64 t653, .int .i64 0, .int .i64 0, .int .i64 0, .int .i64 0, .slice none 0 0]) ?_ 1 _ rfl; (with_reducible repeat (first | refine blk_drewN ?_ _ | refine blk_drew ?_ | refine blk_alloc ?_ _)); refine blk_put (cs := #[.int .i64 0, .int .i64 0, .int .i64 0, .int .i64 0, .int .i64 0, .slice none 0 0]) ?_ 0 _ rfl; (with_reducible repeat (first | refine blk_drewN ?_ _ | refine blk_drew ?_ | refine blk_alloc ?_ _)); exact BK662.out⟩, ⟨by repeat (first | (with_reducible first | exact HB.out | apply below_alloc | apply pw_below_drewN | apply below_drew1 | refine below_set ?_ GE639.out | refine below_set ?_ GE651.out | refine below_set ?_ GE662.out) | exact HB.out)⟩⟩
     case rest =>
      clear HC15
      try clear c1
      try clear c2
      try clear p2
      try clear c3
      try clear c5
      try clear c6
      try clear p6
      try clear c9
      try clear c9b0
      try clear c9b1
      try clear c10
      try clear c12
      try clear c15
      try clear c17
      try clear c19
      try clear c25
      try clear c26
      try clear c30
      try clear c30b0
      try clear c30b1
      try clear hcz10_0
      try clear hcz10_1
      try clear hcz10_2
      try clear hcz10_3
      try clear hcz10_4
      try clear hcz10_5
      try clear hcz11_0
      try clear hcz11_1
      try clear hcz11_2
      try clear hcz11_3
      try clear hcz11_4
      try clear hcz11_5
      try clear hcz16_0
      try clear hcz16_1
      try clear hcz16_2
      try clear hcz16_3
      try clear hcz16_4
      try clear hcz16_5
      try clear hcz20_0
      try clear hcz20_1
      try clear hcz20_2
      try clear hcz20_3
      try clear hcz20_4
      try clear hcz20_5
      try clear hcz22_0
      try clear hcz22_1
      try clear hcz22_2
      try clear hcz22_3
      try clear hcz22_4
      try clear hcz22_5
      try clear hcz27_0
      try clear hcz27_1
      try clear hcz27_2
      try clear hcz27_3
      try clear hcz27_4
      try clear hcz27_5
      try clear hfz10_0
      try clear hfz10_1
      try clear hfz10_2
      try clear hfz10_3
      try clear hfz10_4
      try clear hfz10_5
      try clear hfz11_0
      try clear hfz11_1
      try clear hfz11_2
      try clear hfz11_3
      try clear hfz11_4
      try clear hfz11_5
      try clear hfz16_0
      try clear hfz16_1
      try clear hfz16_2
      try clear hfz16_3
      try clear hfz16_4
      try clear hfz16_5
      try clear hfz20_0
      try clear hfz20_1
      try clear hfz20_2
      try clear hfz20_3
      try clear hfz20_4
      try clear hfz20_5
      try clear hfz22_0
      try clear hfz22_1
      try clear hfz22_2
      try clear hfz22_3
      try clear hfz22_4
      try clear hfz22_5
      try clear hfz27_0
      try clear hfz27_1
      try clear hfz27_2
      try clear hfz27_3
      try clear hfz27_4
      try clear hfz27_5
      try clear p2
      obtain ⟨kq, x48_14, rfl, HA, HJ14, HO_652005, HO_663005, BK639, BK651, BK662, HB⟩ := hcut
      cases kq with
      | zero => exact absurd HA.out (by simp [skifflaw18_TickIdle.j1])
      | succ kj14 =>
       have H := HA.out
       clear HA
       simp only [skifflaw18_TickIdle.j1] at H
       by_cases c32 : x48_14 = true
       ·subst c32
        have H1 : (if t641.toList = ([] : List UInt8) then (if t652.toList = ([] : List UInt8) then ((skifflaw18_sent.f kj14).bind fun bt665 => (some ((bt665.2.2.2.2.2.length : Int) == 11))) else (none)) else (none)) = some r := by rw [if_pos rfl] at H; exact H
        clear H
        have H := H1
        clear H1
        by_cases c33 : t641.toList = ([] : List UInt8)
        ·rw [if_pos c33] at H
         have c33b0 : (t641.toList == ([] : List UInt8)) = true := beq_iff_eq.mpr c33
         have c33b1 : (t641.toList != ([] : List UInt8)) = false := bne_eq_false_iff_eq.mpr c33
         clear c33
         by_cases c34 : t652.toList = ([] : List UInt8)
         ·rw [if_pos c34] at H
          have c34b0 : (t652.toList == ([] : List UInt8)) = true := beq_iff_eq.mpr c34
          have c34b1 : (t652.toList != ([] : List UInt8)) = false := bne_eq_false_iff_eq.mpr c34
          clear c34
          replace H := Option.bind_eq_some_iff.mp H
          obtain ⟨⟨t665, t666, t667, t668, t669, t670⟩, A350, H⟩ := H
          replace H : (some ((t670.length : Int) == 11)) = some r := H
          have A35 := Aside0.mk A350
          clear A350
          obtain rfl := Option.some.inj H
          go_wp2_with (first | (go_at_call 21; (with_reducible refine (skifflaw18_sent.calls kj14  t665 t666 t667 t668 t669 t670 _ A35.out).mono ?_); rintro e w36 ⟨v671, rfl, ho0, hb⟩; have n0_ := Aside0.mk (Kd.Q_elder' (by (with_reducible repeat (first | apply Kd.Q_alloc | apply Kd.Q_drewN | apply Kd.Q_drew)); exact HO_652005.out) (Kd.R_base ho0) hb); have n1_ := Aside0.mk (Kd.Q_elder' (by (with_reducible repeat (first | apply Kd.Q_alloc | apply Kd.Q_drewN | apply Kd.Q_drew)); exact HO_663005.out) (Kd.R_base ho0) hb); have n2_ := Aside0.mk (Kd.R_lower (Kd.R_new' (Kd.R_new' ho0 (Kd.Q_lt (by (with_reducible repeat (first | apply Kd.Q_alloc | apply Kd.Q_drewN | apply Kd.Q_drew)); exact HO_652005.out))) (Kd.Q_lt (by (with_reducible repeat (first | apply Kd.Q_alloc | apply Kd.Q_drewN | apply Kd.Q_drew)); exact HO_663005.out))) (below_size (by repeat (first | (with_reducible first | exact HB.out | apply below_alloc | apply pw_below_drewN | apply below_drew1 | refine below_set ?_ GE639.out | refine below_set ?_ GE651.out | refine below_set ?_ GE662.out) | exact HB.out)))); have n3_ := Aside0.mk (blk_below (g := gb639) (o := .cells #[.int .i64 a1_0, .int .i64 a1_1, .int .i64 a1_2, .int .i64 a1_3, .int .i64 a1_4, .slice A1_5 l1_5.length c1_5] 24 (0, 0)) (by (with_reducible repeat (first | refine blk_drewN ?_ _ | refine blk_drew ?_ | refine blk_alloc ?_ _)); exact BK639.out) hb); have n4_ := Aside0.mk (blk_below (g := gb651) (o := .cells #[.int .i64 t642, .int .i64 t643, .int .i64 t644, .int .i64 t645, .int .i64 t646, .slice Ao21 t647.length co21] 24 (0, 0)) (by (with_reducible repeat (first | refine blk_drewN ?_ _ | refine blk_drew ?_ | refine blk_alloc ?_ _)); exact BK651.out) hb); have n5_ := Aside0.mk (blk_below (g := gb662) (o := .cells #[.int .i64 t653, .int .i64 t654, .int .i64 t655, .int .i64 t656, .int .i64 t657, .slice Ao28 t658.length co28] 24 (0, 0)) (by (with_reducible repeat (first | refine blk_drewN ?_ _ | refine blk_drew ?_ | refine blk_alloc ?_ _)); exact BK662.out) hb); have n6_ := Aside0.mk (below_step (by repeat (first | (with_reducible first | exact HB.out | apply below_alloc | apply pw_below_drewN | apply below_drew1 | refine below_set ?_ GE639.out | refine below_set ?_ GE651.out | refine below_set ?_ GE662.out) | exact HB.out)) hb); clear HO_652005; clear HO_663005; clear BK639; clear BK651; clear BK662; clear HB; have HO_652005 := n0_; have HO_663005 := n1_; have HO672 := n2_; have BK639 := n3_; have BK651 := n4_; have BK662 := n5_; have HB := n6_; clear n0_ n1_ n2_ n3_ n4_ n5_ n6_; (try clear hb); (try clear hb2); (try clear hk); (try clear hi); (try clear ho0); obtain ⟨Ao37, co37, eo37⟩ := Kd.R_slice HO672.out; subst eo37))
          go_ret
          exact ⟨by first | rfl | (simp [errW_none, errW_some] <;> rfl) | (simp [*, errW_none, errW_some] <;> rfl), by repeat (first | (with_reducible first | exact HB.out | apply below_alloc | apply pw_below_drewN | apply below_drew1 | refine below_set ?_ GE639.out | refine below_set ?_ GE651.out | refine below_set ?_ GE662.out) | exact HB.out)⟩
         ·rw [if_neg c34] at H
          exact absurd H (by simp)
        ·rw [if_neg c33] at H
         exact absurd H (by simp)
       ·replace c32 := Bool.eq_false_iff.mpr c32
        subst c32
        have H1 : (if t641.toList = a0.toList then ((skifflaw0_SameDevice.f kj14 t642 t643 t644 t645 t646 t647 a1_0 a1_1 a1_2 a1_3 a1_4 l1_5).bind fun t673 => (if t673 = true then (if t652.toList = a0.toList then ((skifflaw0_SameDevice.f kj14 t653 t654 t655 t656 t657 t658 0 0 0 0 0 ([] : List (S40))).bind fun t674 => (some t674)) else (none)) else (none))) else (none)) = some r := by rw [if_neg (show ¬ (false = true) by decide)] at H; exact H
        clear H
        have H := H1
        clear H1
        by_cases c38 : t641.toList = a0.toList
        ·rw [if_pos c38] at H
         have c38b0 : (t641.toList == a0.toList) = true := beq_iff_eq.mpr c38
         have c38b1 : (t641.toList != a0.toList) = false := bne_eq_false_iff_eq.mpr c38
         clear c38
         replace H := Option.bind_eq_some_iff.mp H
         obtain ⟨t673, A390, H⟩ := H
         replace H : (if t673 = true then (if t652.toList = a0.toList then ((skifflaw0_SameDevice.f kj14 t653 t654 t655 t656 t657 t658 0 0 0 0 0 ([] : List (S40))).bind fun t674 => (some t674)) else (none)) else (none)) = some r := H
         have A39 := Aside0.mk A390
         clear A390
         by_cases c40 : t673 = true
         ·subst c40
          have H1 : (if t652.toList = a0.toList then ((skifflaw0_SameDevice.f kj14 t653 t654 t655 t656 t657 t658 0 0 0 0 0 ([] : List (S40))).bind fun t674 => (some t674)) else (none)) = some r := by rw [if_pos rfl] at H; exact H
          clear H
          have H := H1
          clear H1
          by_cases c41 : t652.toList = a0.toList
          ·rw [if_pos c41] at H
           have c41b0 : (t652.toList == a0.toList) = true := beq_iff_eq.mpr c41
           have c41b1 : (t652.toList != a0.toList) = false := bne_eq_false_iff_eq.mpr c41
           clear c41
           replace H := Option.bind_eq_some_iff.mp H
           obtain ⟨t674, A420, H⟩ := H
           replace H : (some t674) = some r := H
           have A42 := Aside0.mk A420
           clear A420
           obtain rfl := Option.some.inj H
           have hnb43 := NB651_639.out
           have hnc43 := NB639_651.out
           have hnb44 := NB651_662.out
           have hnc44 := NB662_651.out
           have hcz45_0 : wc.cell? ⟨gb651, 0, none⟩ = some (.int .i64 t642) := (blk_cell BK651.out 0).trans rfl
           have hcz45_1 : wc.cell? ⟨gb651, 1, none⟩ = some (.int .i64 t643) := (blk_cell BK651.out 1).trans rfl
           have hcz45_2 : wc.cell? ⟨gb651, 2, none⟩ = some (.int .i64 t644) := (blk_cell BK651.out 2).trans rfl
           have hcz45_3 : wc.cell? ⟨gb651, 3, none⟩ = some (.int .i64 t645) := (blk_cell BK651.out 3).trans rfl
           have hcz45_4 : wc.cell? ⟨gb651, 4, none⟩ = some (.int .i64 t646) := (blk_cell BK651.out 4).trans rfl
           have hcz45_5 : wc.cell? ⟨gb651, 5, none⟩ = some (.slice Ao21 t647.length co21) := (blk_cell BK651.out 5).trans rfl
           have hfz45_0 := blk_frozen BK651.out 0
           have hfz45_1 := blk_frozen BK651.out 1
           have hfz45_2 := blk_frozen BK651.out 2
           have hfz45_3 := blk_frozen BK651.out 3
           have hfz45_4 := blk_frozen BK651.out 4
           have hfz45_5 := blk_frozen BK651.out 5
           have hnb46 := NB639_662.out
           have hnc46 := NB662_639.out
           have hcz47_0 : wc.cell? ⟨gb639, 0, none⟩ = some (.int .i64 a1_0) := (blk_cell BK639.out 0).trans rfl
           have hcz47_1 : wc.cell? ⟨gb639, 1, none⟩ = some (.int .i64 a1_1) := (blk_cell BK639.out 1).trans rfl
           have hcz47_2 : wc.cell? ⟨gb639, 2, none⟩ = some (.int .i64 a1_2) := (blk_cell BK639.out 2).trans rfl
           have hcz47_3 : wc.cell? ⟨gb639, 3, none⟩ = some (.int .i64 a1_3) := (blk_cell BK639.out 3).trans rfl
           have hcz47_4 : wc.cell? ⟨gb639, 4, none⟩ = some (.int .i64 a1_4) := (blk_cell BK639.out 4).trans rfl
           have hcz47_5 : wc.cell? ⟨gb639, 5, none⟩ = some (.slice A1_5 l1_5.length c1_5) := (blk_cell BK639.out 5).trans rfl
           have hfz47_0 := blk_frozen BK639.out 0
           have hfz47_1 := blk_frozen BK639.out 1
           have hfz47_2 := blk_frozen BK639.out 2
           have hfz47_3 := blk_frozen BK639.out 3
           have hfz47_4 := blk_frozen BK639.out 4
           have hfz47_5 := blk_frozen BK639.out 5
           go_wp2_with (first | (go_at_call 14; (with_reducible refine (skifflaw0_SameDevice.calls kj14 t642 t643 t644 t645 t646 _ _ t647 a1_0 a1_1 a1_2 a1_3 a1_4 _ _ l1_5 true _ ?side1 ?side2 ?side3 ?side4 A39.out).mono ?_); (case side1 => repeat (first | exact (Kd.Q_reads' HO_652005.out).2.2 | (with_reducible refine Kd.C_alloc ?_ _) | (with_reducible refine Kd.C_drewN ?_ _) | (with_reducible refine Kd.C_drew ?_))); (case side2 => exact (Kd.Q_reads' HO_652005.out).2.1); (case side3 => repeat (first | exact (Kd.C_below HR1_5.out HB.out) | (with_reducible refine Kd.C_alloc ?_ _) | (with_reducible refine Kd.C_drewN ?_ _) | (with_reducible refine Kd.C_drew ?_))); (case side4 => exact HC1_5.out); rintro e w48 ⟨rfl, hb⟩; have n0_ := Aside0.mk (Kd.Q_below (by (with_reducible repeat (first | apply Kd.Q_alloc | apply Kd.Q_drewN | apply Kd.Q_drew)); exact HO_652005.out) hb); have n1_ := Aside0.mk (Kd.Q_below (by (with_reducible repeat (first | apply Kd.Q_alloc | apply Kd.Q_drewN | apply Kd.Q_drew)); exact HO_663005.out) hb); have n2_ := Aside0.mk (blk_below (g := gb639) (o := .cells #[.int .i64 a1_0, .int .i64 a1_1, .int .i64 a1_2, .int .i64 a1_3, .int .i64 a1_4, .slice A1_5 l1_5.length c1_5] 24 (0, 0)) (by (with_reducible repeat (first | refine blk_drewN ?_ _ | refine blk_drew ?_ | refine blk_alloc ?_ _)); exact BK639.out) hb); have n3_ := Aside0.mk (blk_below (g := gb651) (o := .cells #[.int .i64 t642, .int .i64 t643, .int .i64 t644, .int .i64 t645, .int .i64 t646, .slice Ao21 t647.length co21] 24 (0, 0)) (by (with_reducible repeat (first | refine blk_drewN ?_ _ | refine blk_drew ?_ | refine blk_alloc ?_ _)); exact BK651.out) hb); have n4_ := Aside0.mk (blk_below (g := gb662) (o := .cells #[.int .i64 t653, .int .i64 t654, .int .i64 t655, .int .i64 t656, .int .i64 t657, .slice Ao28 t658.length co28] 24 (0, 0)) (by (with_reducible repeat (first | refine blk_drewN ?_ _ | refine blk_drew ?_ | refine blk_alloc ?_ _)); exact BK662.out) hb); have n5_ := Aside0.mk (below_step (by repeat (first | (with_reducible first | exact HB.out | apply below_alloc | apply pw_below_drewN | apply below_drew1 | refine below_set ?_ GE639.out | refine below_set ?_ GE651.out | refine below_set ?_ GE662.out) | exact HB.out)) hb); clear HO_652005; clear HO_663005; clear BK639; clear BK651; clear BK662; clear HB; have HO_652005 := n0_; have HO_663005 := n1_; have BK639 := n2_; have BK651 := n3_; have BK662 := n4_; have HB := n5_; clear n0_ n1_ n2_ n3_ n4_ n5_; (try clear hb); (try clear hb2); (try clear hk); (try clear hi); have hcz49_0 : w48.cell? ⟨gb662, 0, none⟩ = some (.int .i64 t653) := (blk_cell BK662.out 0).trans rfl; have hcz49_1 : w48.cell? ⟨gb662, 1, none⟩ = some (.int .i64 t654) := (blk_cell BK662.out 1).trans rfl; have hcz49_2 : w48.cell? ⟨gb662, 2, none⟩ = some (.int .i64 t655) := (blk_cell BK662.out 2).trans rfl; have hcz49_3 : w48.cell? ⟨gb662, 3, none⟩ = some (.int .i64 t656) := (blk_cell BK662.out 3).trans rfl; have hcz49_4 : w48.cell? ⟨gb662, 4, none⟩ = some (.int .i64 t657) := (blk_cell BK662.out 4).trans rfl; have hcz49_5 : w48.cell? ⟨gb662, 5, none⟩ = some (.slice Ao28 t658.length co28) := (blk_cell BK662.out 5).trans rfl; have hfz49_0 := blk_frozen BK662.out 0; have hfz49_1 := blk_frozen BK662.out 1; have hfz49_2 := blk_frozen BK662.out 2; have hfz49_3 := blk_frozen BK662.out 3; have hfz49_4 := blk_frozen BK662.out 4; have hfz49_5 := blk_frozen BK662.out 5) | (go_at_call 14; (refine (skifflaw0_SameDevice.calls kj14 t653 t654 t655 t656 t657 _ _ t658 0 0 0 0 0 _ _ ([] : List (S40)) t674 _ ?side1 ?side2 ?side3 ?side4 A42.out).mono ?_); (case side1 => repeat (first | exact (Kd.Q_reads' HO_663005.out).2.2 | (with_reducible refine Kd.C_alloc ?_ _) | (with_reducible refine Kd.C_drewN ?_ _) | (with_reducible refine Kd.C_drew ?_))); (case side2 => exact (Kd.Q_reads' HO_663005.out).2.1); (case side3 => exact Kd.C_nil _ _); (case side4 => exact Nat.le_refl _); rintro e w50 ⟨rfl, hb⟩; have n0_ := Aside0.mk (Kd.Q_below (by (with_reducible repeat (first | apply Kd.Q_alloc | apply Kd.Q_drewN | apply Kd.Q_drew)); exact HO_652005.out) hb); have n1_ := Aside0.mk (Kd.Q_below (by (with_reducible repeat (first | apply Kd.Q_alloc | apply Kd.Q_drewN | apply Kd.Q_drew)); exact HO_663005.out) hb); have n2_ := Aside0.mk (blk_below (g := gb639) (o := .cells #[.int .i64 a1_0, .int .i64 a1_1, .int .i64 a1_2, .int .i64 a1_3, .int .i64 a1_4, .slice A1_5 l1_5.length c1_5] 24 (0, 0)) (by (with_reducible repeat (first | refine blk_drewN ?_ _ | refine blk_drew ?_ | refine blk_alloc ?_ _)); exact BK639.out) hb); have n3_ := Aside0.mk (blk_below (g := gb651) (o := .cells #[.int .i64 t642, .int .i64 t643, .int .i64 t644, .int .i64 t645, .int .i64 t646, .slice Ao21 t647.length co21] 24 (0, 0)) (by (with_reducible repeat (first | refine blk_drewN ?_ _ | refine blk_drew ?_ | refine blk_alloc ?_ _)); exact BK651.out) hb); have n4_ := Aside0.mk (blk_below (g := gb662) (o := .cells #[.int .i64 t653, .int .i64 t654, .int .i64 t655, .int .i64 t656, .int .i64 t657, .slice Ao28 t658.length co28] 24 (0, 0)) (by (with_reducible repeat (first | refine blk_drewN ?_ _ | refine blk_drew ?_ | refine blk_alloc ?_ _)); exact BK662.out) hb); have n5_ := Aside0.mk (below_step (by repeat (first | (with_reducible first | exact HB.out | apply below_alloc | apply pw_below_drewN | apply below_drew1 | refine below_set ?_ GE639.out | refine below_set ?_ GE651.out | refine below_set ?_ GE662.out) | exact HB.out)) hb); clear HO_652005; clear HO_663005; clear BK639; clear BK651; clear BK662; clear HB; have HO_652005 := n0_; have HO_663005 := n1_; have BK639 := n2_; have BK651 := n3_; have BK662 := n4_; have HB := n5_; clear n0_ n1_ n2_ n3_ n4_ n5_; (try clear hb); (try clear hb2); (try clear hk); (try clear hi)))
           go_ret
           exact ⟨by first | rfl | (simp [errW_none, errW_some] <;> rfl) | (simp [*, errW_none, errW_some] <;> rfl), by repeat (first | (with_reducible first | exact HB.out | apply below_alloc | apply pw_below_drewN | apply below_drew1 | refine below_set ?_ GE639.out | refine below_set ?_ GE651.out | refine below_set ?_ GE662.out) | exact HB.out)⟩
          ·rw [if_neg c41] at H
           exact absurd H (by simp)
         ·replace c40 := Bool.eq_false_iff.mpr c40
          subst c40
          have H1 : (none) = some r := by rw [if_neg (show ¬ (false = true) by decide)] at H; exact H
          clear H
          have H := H1
          clear H1
          exact absurd H (by simp)
        ·rw [if_neg c38] at H
         exact absurd H (by simp)
 ·replace c5 := Bool.eq_false_iff.mpr c5
  subst c5
  have H1 : (none) = some r := by rw [if_neg (show ¬ (false = true) by decide)] at H; exact H
  clear H
  have H := H1
  clear H1
  exact absurd H (by simp)

end Go.Proofs.Ytgoeooghoojdgaa.P
