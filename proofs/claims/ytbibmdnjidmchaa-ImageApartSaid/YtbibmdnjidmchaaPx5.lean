-- written by wip/prt.py of this repo, by the kit's print, over contracts that are proved here by hand
import Derived.Test.YtbibmdnjidmchaaPx0
import Derived.Test.YtbibmdnjidmchaaPx1
import Derived.Test.YtbibmdnjidmchaaPx2
import Derived.Test.YtbibmdnjidmchaaPx3
import Derived.Test.YtbibmdnjidmchaaPx4
namespace Go.Proofs.Ytbibmdnjidmchaa.P
open Go.RowKit Go.Proofs.YtbibmdnjidmchaaW.PrintWords Go.Proofs.YtbibmdnjidmchaaW.PrintLast Go.Proofs.YtbibmdnjidmchaaW.PrintMore
attribute [local go_sem] max2_int min2_int max_two min_two max_three min_three max_four min_four   -- for this text's walks alone
set_option linter.unusedVariables false
set_option linter.unusedSimpArgs false

/-! ### skifflaw6_held: function 17 -/
mutual
def skifflaw6_held.l0 : Nat → ByteArray → List (S62) → Int → Option (ByteArray)
 | 0, _, _, _ => none
 | k + 1, x1, x2, x4 => if x4 < (x2.length : Int) then (if 0 ≤ x4 then ((skiffref1_Do.f k x1 ((rd_T62 x2 x4).f0) ((rd_T62 x2 x4).f1) ((rd_T62 x2 x4).f2)).bind fun bt218 => (skifflaw6_held.l0 k bt218.1 x2 (wrap64 (x4 + 1)))) else (none)) else ((skiffref1_RecordOf.f k x1 0 12).bind fun bt220 => ((skiffref1_Append.f k x1 bt220.1 bt220.2.1 bt220.2.2.1 bt220.2.2.2.1).bind fun bt226 => (skifflaw6_held.l1 k x1 bt226.1 0)))
def skifflaw6_held.l1 : Nat → ByteArray → List (S62) → Int → Option (ByteArray)
 | 0, _, _, _ => none
 | k + 1, x1, x2, x7 => if x7 < (x2.length : Int) then (if 0 ≤ x7 then ((skiffref1_Do.f k x1 ((rd_T62 x2 x7).f0) ((rd_T62 x2 x7).f1) ((rd_T62 x2 x7).f2)).bind fun bt231 => (skifflaw6_held.l1 k bt231.1 x2 (wrap64 (x7 + 1)))) else (none)) else (some x1)
end
def skifflaw6_held.f (k : Nat)  : Option (ByteArray) := (skiffref1_Blank.f).bind fun t212 => ((skiffref1_Words.f k 192 (⟨#[97, 98, 97, 98, 97, 98, 97, 98, 97, 98, 97, 98]⟩ : ByteArray)).bind fun bt213 => (skifflaw6_held.l0 k t212 bt213.1 0))
theorem skifflaw6_held.mono_l : ∀ k, (∀ y0 y1 y2, LeO (skifflaw6_held.l0 k y0 y1 y2) (skifflaw6_held.l0 (k + 1) y0 y1 y2)) ∧ (∀ y0 y1 y2, LeO (skifflaw6_held.l1 k y0 y1 y2) (skifflaw6_held.l1 (k + 1) y0 y1 y2))
 | 0 => ⟨fun _ _ _ r h => by simp [skifflaw6_held.l0] at h, fun _ _ _ r h => by simp [skifflaw6_held.l1] at h⟩
 | k + 1 => by
  obtain ⟨ih0, ih1⟩ := skifflaw6_held.mono_l k
  refine ⟨?_, ?_⟩
  ·intro y0 y1 y2
   unfold skifflaw6_held.l0
   repeat' first
   | (with_reducible exact ih0 _ _ _)
   | (with_reducible exact ih1 _ _ _)
   | (with_reducible exact skiffref1_Append.mono _ _ _ _ _ _)
   | (with_reducible exact skiffref1_Do.mono _ _ _ _ _)
   | (with_reducible exact skiffref1_RecordOf.mono _ _ _ _)
   | (with_reducible exact skiffref1_Words.mono _ _ _)
   | (with_reducible exact LeO.refl _)
   | (with_reducible exact LeO.none _)
   | (with_reducible refine LeO.ite ?_ ?_)
   | (with_reducible refine LeO.bind ?_ (fun _ => ?_))
   | exact ih0 _ _ _
   | exact ih1 _ _ _
   | exact skiffref1_Append.mono _ _ _ _ _ _
   | exact skiffref1_Do.mono _ _ _ _ _
   | exact skiffref1_RecordOf.mono _ _ _ _
   | exact skiffref1_Words.mono _ _ _
   | exact LeO.none _
   | refine LeO.ite ?_ ?_
   | refine LeO.bind ?_ (fun _ => ?_)
  ·intro y0 y1 y2
   unfold skifflaw6_held.l1
   repeat' first
   | (with_reducible exact ih0 _ _ _)
   | (with_reducible exact ih1 _ _ _)
   | (with_reducible exact skiffref1_Append.mono _ _ _ _ _ _)
   | (with_reducible exact skiffref1_Do.mono _ _ _ _ _)
   | (with_reducible exact skiffref1_RecordOf.mono _ _ _ _)
   | (with_reducible exact skiffref1_Words.mono _ _ _)
   | (with_reducible exact LeO.refl _)
   | (with_reducible exact LeO.none _)
   | (with_reducible refine LeO.ite ?_ ?_)
   | (with_reducible refine LeO.bind ?_ (fun _ => ?_))
   | exact ih0 _ _ _
   | exact ih1 _ _ _
   | exact skiffref1_Append.mono _ _ _ _ _ _
   | exact skiffref1_Do.mono _ _ _ _ _
   | exact skiffref1_RecordOf.mono _ _ _ _
   | exact skiffref1_Words.mono _ _ _
   | exact LeO.none _
   | refine LeO.ite ?_ ?_
   | refine LeO.bind ?_ (fun _ => ?_)
theorem skifflaw6_held.mono : ∀ k, LeO (skifflaw6_held.f k ) (skifflaw6_held.f (k + 1) ) := by
 intro  k
 obtain ⟨ih0, ih1⟩ := skifflaw6_held.mono_l k
 unfold skifflaw6_held.f
 repeat' first
   | (with_reducible exact ih0 _ _ _)
   | (with_reducible exact ih1 _ _ _)
   | (with_reducible exact skiffref1_Append.mono _ _ _ _ _ _)
   | (with_reducible exact skiffref1_Do.mono _ _ _ _ _)
   | (with_reducible exact skiffref1_RecordOf.mono _ _ _ _)
   | (with_reducible exact skiffref1_Words.mono _ _ _)
   | (with_reducible exact LeO.refl _)
   | (with_reducible exact LeO.none _)
   | (with_reducible refine LeO.ite ?_ ?_)
   | (with_reducible refine LeO.bind ?_ (fun _ => ?_))
   | exact ih0 _ _ _
   | exact ih1 _ _ _
   | exact skiffref1_Append.mono _ _ _ _ _ _
   | exact skiffref1_Do.mono _ _ _ _ _
   | exact skiffref1_RecordOf.mono _ _ _ _
   | exact skiffref1_Words.mono _ _ _
   | exact LeO.none _
   | refine LeO.ite ?_ ?_
   | refine LeO.bind ?_ (fun _ => ?_)
set_option maxHeartbeats 8000000 in
set_option maxRecDepth 100000 in
theorem skifflaw6_held.calls (k : Nat)  (r : ByteArray) (w : World) (h : skifflaw6_held.f k  = some r) :
  Calls Try.prog 17 #[] w fun e w' => e = .returned (.string r) ∧ Below w.heap.size w w' := by
 have hu62 := Try.underlying62
 have hu23 := Try.underlying23
 have HB := Aside0.mk (Below.refl w.heap.size w)
 have H : ((skiffref1_Blank.f).bind fun t212 => ((skiffref1_Words.f k 192 (⟨#[97, 98, 97, 98, 97, 98, 97, 98, 97, 98, 97, 98]⟩ : ByteArray)).bind fun bt213 => (skifflaw6_held.l0 k t212 bt213.1 0))) = some r := h
 clear h
 replace H := Option.bind_eq_some_iff.mp H
 obtain ⟨t212, A10, H⟩ := H
 replace H : ((skiffref1_Words.f k 192 (⟨#[97, 98, 97, 98, 97, 98, 97, 98, 97, 98, 97, 98]⟩ : ByteArray)).bind fun bt213 => (skifflaw6_held.l0 k t212 bt213.1 0)) = some r := H
 have A1 := Aside0.mk A10
 clear A10
 replace H := Option.bind_eq_some_iff.mp H
 obtain ⟨⟨t213, t214⟩, A20, H⟩ := H
 replace H : (skifflaw6_held.l0 k t212 t213 0) = some r := H
 have A2 := Aside0.mk A20
 clear A20
 have H' := Aside0.mk H
 clear H
 go_enter Try.func17, Try.ntmps17
 go_wp2_with (first | ((with_reducible refine gate_callee (f := 15) rfl ?_); refine goesL_ (some 8) rfl rfl Try.func15 (by kernel_rfl) rfl #[] rfl (by (try simp only [List.map_toArray, List.map_cons, List.map_nil]); first | done | rfl | (simp only [List.length_drop, List.length_take]; rfl)) ?_; (with_reducible refine (skiffref1_Blank.calls  t212 _ A1.out).mono ?_); rintro e w3 ⟨rfl, hb⟩; refine ⟨_, rfl, ?_⟩; have n0_ := Aside0.mk (below_step (by repeat (first | (with_reducible first | exact HB.out | apply below_alloc | apply pw_below_drewN | apply below_drew1) | exact HB.out)) hb); clear HB; have HB := n0_; clear n0_; (try clear hb); (try clear hb2); (try clear hk); (try clear hi)) | ((with_reducible refine gate_callee (f := 29) rfl ?_); refine goesL_ (some 10) rfl rfl Try.func29 (by kernel_rfl) rfl #[.int .i64 192, .string (⟨#[97, 98, 97, 98, 97, 98, 97, 98, 97, 98, 97, 98]⟩ : ByteArray)] rfl (by (try simp only [List.map_toArray, List.map_cons, List.map_nil]); first | done | rfl | (simp only [List.length_drop, List.length_take]; rfl)) ?_; (with_reducible refine (skiffref1_Words.calls k 192 (⟨#[97, 98, 97, 98, 97, 98, 97, 98, 97, 98, 97, 98]⟩ : ByteArray) t213 t214 _ A2.out).mono ?_); rintro e w4 ⟨v215, rfl, ho0, hb⟩; refine ⟨_, rfl, ?_⟩; have n0_ := Aside0.mk (Kd.R_lower ho0 (below_size (by repeat (first | (with_reducible first | exact HB.out | apply below_alloc | apply pw_below_drewN | apply below_drew1) | exact HB.out)))); have n1_ := Aside0.mk (below_step (by repeat (first | (with_reducible first | exact HB.out | apply below_alloc | apply pw_below_drewN | apply below_drew1) | exact HB.out)) hb); clear HB; have HO216 := n0_; have HB := n1_; clear n0_ n1_; (try clear hb); (try clear hb2); (try clear hk); (try clear hi); (try clear ho0)))
 go_loopg [1, 4] k (fun kq v1 v4 w' => ∃ (x1_1 : ByteArray) (x4_1 : Int), v1 = .string x1_1 ∧ v4 = .int .i64 x4_1 ∧ Aside0 (skifflaw6_held.l0 kq x1_1 t213 x4_1 = some r) ∧ Aside0 (kq ≤ k) ∧ Aside0 (Kd.R k62 62 w' w.heap.size (fun _ => True) v215 t213) ∧ Aside0 (Below w.heap.size w w'))
 case atStart => exact ⟨(t212), (0), (by first | rfl | (simp; done) | (simp [*]; done)), (by first | rfl | (simp; done) | (simp [*]; done)), H', ⟨Nat.le_refl _⟩, ⟨by (with_reducible repeat (first | apply Kd.R_alloc | apply Kd.R_drewN | apply Kd.R_drew)); exact HO216.out⟩, ⟨by repeat (first | (with_reducible first | exact HB.out | apply below_alloc | apply pw_below_drewN | apply below_drew1) | exact HB.out)⟩⟩
 case round =>
  clear H'
  try clear c1
  try clear c2
  try clear p2
  obtain ⟨x1_1, x4_1, rfl, rfl, HA, HK1, HO_2, HB⟩ := hrel
  cases gk with
  | zero => exact absurd HA.out (by simp [skifflaw6_held.l0])
  | succ k1 =>
   have H := HA.out
   clear HA
   simp only [skifflaw6_held.l0] at H
   by_cases c5 : x4_1 < (t213.length : Int)
   ·rw [if_pos c5] at H
    have c5b0 : decide (x4_1 < (t213.length : Int)) = true := decide_eq_true c5
    clear c5
    by_cases c6 : 0 ≤ x4_1
    ·rw [if_pos c6] at H
     have c6b0 : decide (0 ≤ x4_1) = true := decide_eq_true c6
     clear c6
     replace H := Option.bind_eq_some_iff.mp H
     obtain ⟨⟨t218, t219⟩, A70, H⟩ := H
     replace H : (skifflaw6_held.l0 k1 t218 t213 (wrap64 (x4_1 + 1))) = some r := H
     have A7 := Aside0.mk A70
     clear A70
     have H' := Aside0.mk H
     clear H
     obtain ⟨Ao8, co8, eo8⟩ := Kd.R_slice HO_2.out
     subst eo8
     have p217 : 0 ≤ (x4_1 : Int) := of_decide_eq_true (by first | (with_reducible assumption) | assumption)
     have q217 : x4_1 < (t213.length : Int) := of_decide_eq_true (by first | (with_reducible assumption) | assumption)
     obtain ⟨ad217, e217, hx217_0, hx217_1, hx217_2⟩ := at_T62 (Kd.R_reads' HO_2.out).2.2 x4_1 p217 q217
     cases e217
     replace p217 := eq_true p217
     replace q217 := eq_true q217
     go_wp2_with (first | ((with_reducible refine gate_callee (f := 30) rfl ?_); refine goesL_ (some 25) rfl rfl Try.func30 (by kernel_rfl) rfl #[.string x1_1, .agg #[.bool ((rd_T62 t213 x4_1).f0), .int .i64 ((rd_T62 t213 x4_1).f1), .string ((rd_T62 t213 x4_1).f2)]] rfl (by (try simp only [List.map_toArray, List.map_cons, List.map_nil]); first | done | rfl | (simp only [List.length_drop, List.length_take]; rfl)) ?_; (with_reducible refine (skiffref1_Do.calls k1 x1_1 ((rd_T62 t213 x4_1).f0) ((rd_T62 t213 x4_1).f1) ((rd_T62 t213 x4_1).f2) t218 t219 _ A7.out).mono ?_); rintro e w9 ⟨rfl, hb⟩; refine ⟨_, rfl, ?_⟩; have n0_ := Aside0.mk (Kd.R_below (by (with_reducible repeat (first | apply Kd.R_alloc | apply Kd.R_drewN | apply Kd.R_drew)); exact HO_2.out) hb); have n1_ := Aside0.mk (below_step (by repeat (first | (with_reducible first | exact HB.out | apply below_alloc | apply pw_below_drewN | apply below_drew1) | exact HB.out)) hb); clear HO_2; clear HB; have HO_2 := n0_; have HB := n1_; clear n0_ n1_; (try clear hb); (try clear hb2); (try clear hk); (try clear hi)))
     go_roundg k1
     case measure => have := HK1.out; omega
     case rel => exact ⟨(t218), (wrap64 (x4_1 + 1)), (by first | rfl | (simp; done) | (simp [*]; done)), (by first | rfl | (simp; done) | (simp [*]; done)), H', ⟨by have := HK1.out; omega⟩, ⟨by (with_reducible repeat (first | apply Kd.R_alloc | apply Kd.R_drewN | apply Kd.R_drew)); exact HO_2.out⟩, ⟨by repeat (first | (with_reducible first | exact HB.out | apply below_alloc | apply pw_below_drewN | apply below_drew1) | exact HB.out)⟩⟩
    ·rw [if_neg c6] at H
     exact absurd H (by simp)
   ·rw [if_neg c5] at H
    have c5b0 : decide (x4_1 < (t213.length : Int)) = false := decide_eq_false c5
    clear c5
    replace H := Option.bind_eq_some_iff.mp H
    obtain ⟨⟨t220, t221, t222, t223, t224⟩, A100, H⟩ := H
    replace H : ((skiffref1_Append.f k1 x1_1 t220 t221 t222 t223).bind fun bt226 => (skifflaw6_held.l1 k1 x1_1 bt226.1 0)) = some r := H
    have A10 := Aside0.mk A100
    clear A100
    replace H := Option.bind_eq_some_iff.mp H
    obtain ⟨⟨t226, t229⟩, A110, H⟩ := H
    replace H : (skifflaw6_held.l1 k1 x1_1 t226 0) = some r := H
    have A11 := Aside0.mk A110
    clear A110
    have H' := Aside0.mk H
    clear H
    obtain ⟨Ao12, co12, eo12⟩ := Kd.R_slice HO_2.out
    subst eo12
    go_wp2_with (first | ((with_reducible refine gate_callee (f := 27) rfl ?_); refine goesL_ (some 30) rfl rfl Try.func27 (by kernel_rfl) rfl #[.string x1_1, .int .i64 0, .int .i64 12] rfl (by (try simp only [List.map_toArray, List.map_cons, List.map_nil]); first | done | rfl | (simp only [List.length_drop, List.length_take]; rfl)) ?_; (with_reducible refine (skiffref1_RecordOf.calls k1 x1_1 0 12 t220 t221 t222 t223 t224 _ A10.out).mono ?_); rintro e w13 ⟨rfl, hb⟩; refine ⟨_, rfl, ?_⟩; have n0_ := Aside0.mk (Kd.R_below (by (with_reducible repeat (first | apply Kd.R_alloc | apply Kd.R_drewN | apply Kd.R_drew)); exact HO_2.out) hb); have n1_ := Aside0.mk (below_step (by repeat (first | (with_reducible first | exact HB.out | apply below_alloc | apply pw_below_drewN | apply below_drew1) | exact HB.out)) hb); clear HO_2; clear HB; have HO_2 := n0_; have HB := n1_; clear n0_ n1_; (try clear hb); (try clear hb2); (try clear hk); (try clear hi)) | ((with_reducible refine gate_dst (N := 5) rfl ?_); refine box_event ?hg (N := 5) ?hd (cs := #[.int .i64 0, .int .i64 0, .int .i64 0, .int .i64 0]) (t := 23) ?hr ?_; (case hd => rfl); (case hg => rfl); (case hr => first | (go_simp; done) | (go_simp; rfl)); intro gb225 hg w14 hbox hb; have n0_ := Aside0.mk (Kd.R_below (by (with_reducible repeat (first | apply Kd.R_alloc | apply Kd.R_drewN | apply Kd.R_drew)); exact HO_2.out) hb); have n1_ := Aside0.mk (below_step (by repeat (first | (with_reducible first | exact HB.out | apply below_alloc | apply pw_below_drewN | apply below_drew1) | exact HB.out)) hb); have n2_ := Aside0.mk (hbox); have n3_ := Aside0.mk ((by rw [hg]; exact (below_size (by repeat (first | (with_reducible first | exact HB.out | apply below_alloc | apply pw_below_drewN | apply below_drew1) | exact HB.out))) : w.heap.size ≤ gb225)); have n4_ := Aside0.mk ((by rw [hg]; exact (below_size (by repeat (first | (with_reducible first | exact HB.out | apply below_alloc | apply pw_below_drewN | apply below_drew1) | exact HB.out))) : w.heap.size ≤ gb225)); clear HO_2; clear HB; have HO_2 := n0_; have HB := n1_; have BK225 := n2_; have GW225 := n3_; have GE225 := n4_; clear n0_ n1_ n2_ n3_ n4_; clear hb hbox hg; have hcz15_0 : w14.cell? ⟨gb225, 0, none⟩ = some (.int .i64 0) := (blk_cell BK225.out 0).trans rfl; have hcz15_1 : w14.cell? ⟨gb225, 1, none⟩ = some (.int .i64 0) := (blk_cell BK225.out 1).trans rfl; have hcz15_2 : w14.cell? ⟨gb225, 2, none⟩ = some (.int .i64 0) := (blk_cell BK225.out 2).trans rfl; have hcz15_3 : w14.cell? ⟨gb225, 3, none⟩ = some (.int .i64 0) := (blk_cell BK225.out 3).trans rfl; have hfz15_0 := blk_frozen BK225.out 0; have hfz15_1 := blk_frozen BK225.out 1; have hfz15_2 := blk_frozen BK225.out 2; have hfz15_3 := blk_frozen BK225.out 3) | ((with_reducible refine gate_callee (f := 31) rfl ?_); refine goesL_ (some 36) rfl rfl Try.func31 (by kernel_rfl) rfl #[.string x1_1, .agg #[.int .i64 t220, .int .i64 t221, .int .i64 t222, .int .i64 t223]] rfl (by (try simp only [List.map_toArray, List.map_cons, List.map_nil]); first | done | rfl | (simp only [List.length_drop, List.length_take]; rfl)) ?_; (with_reducible refine (skiffref1_Append.calls k1 x1_1 t220 t221 t222 t223 t226 t229 _ A11.out).mono ?_); rintro e w16 ⟨v227, rfl, ho0, hb⟩; refine ⟨_, rfl, ?_⟩; have n0_ := Aside0.mk (Kd.R_elder' (by (with_reducible repeat (first | apply Kd.R_alloc | apply Kd.R_drewN | apply Kd.R_drew)); exact (Kd.R_mono (Kd.R_far (p := ⟨gb225, 3, none⟩) (Kd.R_far (p := ⟨gb225, 2, none⟩) (Kd.R_far (p := ⟨gb225, 1, none⟩) (Kd.R_far (p := ⟨gb225, 0, none⟩) (Kd.R_types HO_2.out BK225.out (by decide)) (fun _ hk => hk.2) (.int .i64 t220)) (fun _ hk => hk.2) (.int .i64 t221)) (fun _ hk => hk.2) (.int .i64 t222)) (fun _ hk => hk.2) (.int .i64 t223)) (fun _ h_ => h_.1))) (Kd.R_base ho0) hb); have n1_ := Aside0.mk (Kd.R_lower (Kd.R_new' ho0 (Kd.R_lt (by (with_reducible repeat (first | apply Kd.R_alloc | apply Kd.R_drewN | apply Kd.R_drew)); exact (Kd.R_mono (Kd.R_far (p := ⟨gb225, 3, none⟩) (Kd.R_far (p := ⟨gb225, 2, none⟩) (Kd.R_far (p := ⟨gb225, 1, none⟩) (Kd.R_far (p := ⟨gb225, 0, none⟩) (Kd.R_types HO_2.out BK225.out (by decide)) (fun _ hk => hk.2) (.int .i64 t220)) (fun _ hk => hk.2) (.int .i64 t221)) (fun _ hk => hk.2) (.int .i64 t222)) (fun _ hk => hk.2) (.int .i64 t223)) (fun _ h_ => h_.1))))) (below_size (by repeat (first | (with_reducible first | exact HB.out | apply below_alloc | apply pw_below_drewN | apply below_drew1 | refine below_set ?_ GE225.out) | exact HB.out)))); have n2_ := Aside0.mk (blk_below (g := gb225) (o := .cells #[.int .i64 t220, .int .i64 t221, .int .i64 t222, .int .i64 t223] 23 (0, 0)) (by (with_reducible repeat (first | refine blk_drewN ?_ _ | refine blk_drew ?_ | refine blk_alloc ?_ _)); refine blk_put (cs := #[.int .i64 t220, .int .i64 t221, .int .i64 t222, .int .i64 0]) ?_ 3 _ rfl; (with_reducible repeat (first | refine blk_drewN ?_ _ | refine blk_drew ?_ | refine blk_alloc ?_ _)); refine blk_put (cs := #[.int .i64 t220, .int .i64 t221, .int .i64 0, .int .i64 0]) ?_ 2 _ rfl; (with_reducible repeat (first | refine blk_drewN ?_ _ | refine blk_drew ?_ | refine blk_alloc ?_ _)); refine blk_put (cs := #[.int .i64 t220, .int .i64 0, .int .i64 0, .int .i64 0]) ?_ 1 _ rfl; (with_reducible repeat (first | refine blk_drewN ?_ _ | refine blk_drew ?_ | refine blk_alloc ?_ _)); refine blk_put (cs := #[.int .i64 0, .int .i64 0, .int .i64 0, .int .i64 0]) ?_ 0 _ rfl; (with_reducible repeat (first | refine blk_drewN ?_ _ | refine blk_drew ?_ | refine blk_alloc ?_ _)); exact BK225.out) hb); have n3_ := Aside0.mk (below_step (by repeat (first | (with_reducible first | exact HB.out | apply below_alloc | apply pw_below_drewN | apply below_drew1 | refine below_set ?_ GE225.out) | exact HB.out)) hb); clear HO_2; clear BK225; clear HB; have HO_2 := n0_; have HO228 := n1_; have BK225 := n2_; have HB := n3_; clear n0_ n1_ n2_ n3_; (try clear hb); (try clear hb2); (try clear hk); (try clear hi); (try clear ho0)))
    go_loopg [1, 7] k1 (fun kq v1 v7 w' => ∃ (x1_2 : ByteArray) (x7_2 : Int), v1 = .string x1_2 ∧ v7 = .int .i64 x7_2 ∧ Aside0 (skifflaw6_held.l1 kq x1_2 t226 x7_2 = some r) ∧ Aside0 (kq ≤ k1) ∧ Aside0 (Kd.R k62 62 w' w.heap.size (fun _ => True) v227 t226) ∧ Aside0 (w'.heap[gb225]? = some (.cells #[.int .i64 t220, .int .i64 t221, .int .i64 t222, .int .i64 t223] 23 (0, 0))) ∧ Aside0 (Below w.heap.size w w'))
    case atStart => exact ⟨(x1_1), (0), (by first | rfl | (simp; done) | (simp [*]; done)), (by first | rfl | (simp; done) | (simp [*]; done)), H', ⟨Nat.le_refl _⟩, ⟨by (with_reducible repeat (first | apply Kd.R_alloc | apply Kd.R_drewN | apply Kd.R_drew)); exact Kd.R_mono HO228.out (fun _ hk => trivial)⟩, ⟨by (with_reducible repeat (first | refine blk_drewN ?_ _ | refine blk_drew ?_ | refine blk_alloc ?_ _)); exact BK225.out⟩, ⟨by repeat (first | (with_reducible first | exact HB.out | apply below_alloc | apply pw_below_drewN | apply below_drew1 | refine below_set ?_ GE225.out) | exact HB.out)⟩⟩
    case round =>
     clear H'
     try clear c1
     try clear c2
     try clear p2
     try clear q2
     try clear hx2
     try clear c3
     try clear c5
     try clear c5b0
     try clear c6
     try clear c6b0
     try clear p6
     try clear c15
     try clear hcz15_0
     try clear hcz15_1
     try clear hcz15_2
     try clear hcz15_3
     try clear hfz15_0
     try clear hfz15_1
     try clear hfz15_2
     try clear hfz15_3
     try clear hx217_0
     try clear hx217_1
     try clear hx217_2
     try clear p2
     try clear p217
     try clear q217
     obtain ⟨x1_2, x7_2, rfl, rfl, HA, HK2, HO_2, BK225, HB⟩ := hrel
     cases gk with
     | zero => exact absurd HA.out (by simp [skifflaw6_held.l1])
     | succ k2 =>
      have H := HA.out
      clear HA
      simp only [skifflaw6_held.l1] at H
      by_cases c17 : x7_2 < (t226.length : Int)
      ·rw [if_pos c17] at H
       have c17b0 : decide (x7_2 < (t226.length : Int)) = true := decide_eq_true c17
       clear c17
       by_cases c18 : 0 ≤ x7_2
       ·rw [if_pos c18] at H
        have c18b0 : decide (0 ≤ x7_2) = true := decide_eq_true c18
        clear c18
        replace H := Option.bind_eq_some_iff.mp H
        obtain ⟨⟨t231, t232⟩, A190, H⟩ := H
        replace H : (skifflaw6_held.l1 k2 t231 t226 (wrap64 (x7_2 + 1))) = some r := H
        have A19 := Aside0.mk A190
        clear A190
        have H' := Aside0.mk H
        clear H
        obtain ⟨Ao20, co20, eo20⟩ := Kd.R_slice HO_2.out
        subst eo20
        have p230 : 0 ≤ (x7_2 : Int) := of_decide_eq_true (by first | (with_reducible assumption) | assumption)
        have q230 : x7_2 < (t226.length : Int) := of_decide_eq_true (by first | (with_reducible assumption) | assumption)
        obtain ⟨ad230, e230, hx230_0, hx230_1, hx230_2⟩ := at_T62 (Kd.R_reads' HO_2.out).2.2 x7_2 p230 q230
        cases e230
        replace p230 := eq_true p230
        replace q230 := eq_true q230
        go_wp2_with (first | ((with_reducible refine gate_callee (f := 30) rfl ?_); refine goesL_ (some 51) rfl rfl Try.func30 (by kernel_rfl) rfl #[.string x1_2, .agg #[.bool ((rd_T62 t226 x7_2).f0), .int .i64 ((rd_T62 t226 x7_2).f1), .string ((rd_T62 t226 x7_2).f2)]] rfl (by (try simp only [List.map_toArray, List.map_cons, List.map_nil]); first | done | rfl | (simp only [List.length_drop, List.length_take]; rfl)) ?_; (with_reducible refine (skiffref1_Do.calls k2 x1_2 ((rd_T62 t226 x7_2).f0) ((rd_T62 t226 x7_2).f1) ((rd_T62 t226 x7_2).f2) t231 t232 _ A19.out).mono ?_); rintro e w21 ⟨rfl, hb⟩; refine ⟨_, rfl, ?_⟩; have n0_ := Aside0.mk (Kd.R_below (by (with_reducible repeat (first | apply Kd.R_alloc | apply Kd.R_drewN | apply Kd.R_drew)); exact HO_2.out) hb); have n1_ := Aside0.mk (blk_below (g := gb225) (o := .cells #[.int .i64 t220, .int .i64 t221, .int .i64 t222, .int .i64 t223] 23 (0, 0)) (by (with_reducible repeat (first | refine blk_drewN ?_ _ | refine blk_drew ?_ | refine blk_alloc ?_ _)); exact BK225.out) hb); have n2_ := Aside0.mk (below_step (by repeat (first | (with_reducible first | exact HB.out | apply below_alloc | apply pw_below_drewN | apply below_drew1 | refine below_set ?_ GE225.out) | exact HB.out)) hb); clear HO_2; clear BK225; clear HB; have HO_2 := n0_; have BK225 := n1_; have HB := n2_; clear n0_ n1_ n2_; (try clear hb); (try clear hb2); (try clear hk); (try clear hi)))
        go_roundg k2
        case measure => have := HK1.out; have := HK2.out; omega
        case rel => exact ⟨(t231), (wrap64 (x7_2 + 1)), (by first | rfl | (simp; done) | (simp [*]; done)), (by first | rfl | (simp; done) | (simp [*]; done)), H', ⟨by have := HK1.out; have := HK2.out; omega⟩, ⟨by (with_reducible repeat (first | apply Kd.R_alloc | apply Kd.R_drewN | apply Kd.R_drew)); exact HO_2.out⟩, ⟨by (with_reducible repeat (first | refine blk_drewN ?_ _ | refine blk_drew ?_ | refine blk_alloc ?_ _)); exact BK225.out⟩, ⟨by repeat (first | (with_reducible first | exact HB.out | apply below_alloc | apply pw_below_drewN | apply below_drew1 | refine below_set ?_ GE225.out) | exact HB.out)⟩⟩
       ·rw [if_neg c18] at H
        exact absurd H (by simp)
      ·rw [if_neg c17] at H
       have c17b0 : decide (x7_2 < (t226.length : Int)) = false := decide_eq_false c17
       clear c17
       obtain rfl := Option.some.inj H
       obtain ⟨Ao22, co22, eo22⟩ := Kd.R_slice HO_2.out
       subst eo22
       go_wp2
       go_ret
       exact ⟨by first | rfl | (simp [errW_none, errW_some] <;> rfl) | (simp [*, errW_none, errW_some] <;> rfl), by repeat (first | (with_reducible first | exact HB.out | apply below_alloc | apply pw_below_drewN | apply below_drew1 | refine below_set ?_ GE225.out) | exact HB.out)⟩

/-! ### skifflaw6_awake: function 14 -/
def skifflaw6_awake.f (k : Nat)  : Option (Bool) := (skifflaw6_held.f k).bind fun t233 => ((skiffref1_RecordOf.f k t233 0 12).bind fun bt234 => ((image_Base.f 1).bind fun bt240 => ((skifflaw6_held.f k).bind fun t242 => ((image_Of.f t242 bt234.1 bt234.2.1 bt234.2.2.1 bt234.2.2.2.1).bind fun bt243 => ((skifflaw6_held.f k).bind fun t245 => ((image_Good.f t245 bt234.1 bt234.2.1 bt234.2.2.1 bt234.2.2.2.1).bind fun bt246 => ((skifflaw6_held.f k).bind fun t248 => ((image_Good.f t248 bt234.1 bt234.2.1 bt234.2.2.1 (Go.bits .xor .i64 bt234.2.2.2.1 1)).bind fun bt249 => ((image_Base.f 2).bind fun bt251 => (if bt240.1 = 480 then ((skifflaw0_Num.f bt240.2).bind fun t253 => (if t253 = 0 then (if bt243.1.toList = ([97, 98, 97, 98, 97, 98, 97, 98, 97, 98, 97, 98] : List UInt8) then ((skifflaw0_Num.f bt243.2).bind fun t254 => (if t254 = 0 then (if bt246.1 = true then ((skifflaw0_Num.f bt246.2).bind fun t255 => (if t255 = 0 then (if bt249.1 = true then (none) else ((skifflaw0_Num.f bt249.2).bind fun t256 => (if t256 = 0 then ((skifflaw0_Num.f bt251.2).bind fun t257 => (some (t257 == 600))) else (none)))) else (none))) else (none)) else (none))) else (none)) else (none))) else (none)))))))))))
theorem skifflaw6_awake.mono : ∀ k, LeO (skifflaw6_awake.f k ) (skifflaw6_awake.f (k + 1) ) := by
 intro  k
 unfold skifflaw6_awake.f
 repeat' first
   | (with_reducible exact skifflaw6_held.mono _)
   | (with_reducible exact skiffref1_RecordOf.mono _ _ _ _)
   | (with_reducible exact LeO.refl _)
   | (with_reducible exact LeO.none _)
   | (with_reducible refine LeO.ite ?_ ?_)
   | (with_reducible refine LeO.bind ?_ (fun _ => ?_))
   | exact skifflaw6_held.mono _
   | exact skiffref1_RecordOf.mono _ _ _ _
   | exact LeO.none _
   | refine LeO.ite ?_ ?_
   | refine LeO.bind ?_ (fun _ => ?_)
def skifflaw6_awake.T3 : Bool × List (List Nat × List Nat) := (true, [([], []), ([], []), ([0, 1, 0], [0, 1]), ([2], [2]), ([3], [3]), ([3], [3]), ([4, 2, 0, 1, 2, 3, 4], [4]), ([5, 6, 0, 1, 2, 3, 4, 5, 6], [5])])
def skifflaw6_awake.B3 : List Nat := [0, 0, 3, 7, 15, 15, 31, 127]
theorem skifflaw6_awake.tab3 : rtab .any (opsOf Try.f14 3) = skifflaw6_awake.T3 := by kernel_rfl
theorem skifflaw6_awake.bits3 : waitsOk skifflaw6_awake.T3.2 skifflaw6_awake.B3 = true := by kernel_rfl
def skifflaw6_awake.T4 : Bool × List (List Nat × List Nat) := (true, [([], []), ([], []), ([0, 1, 0], [0, 1]), ([2], [2]), ([3], [3]), ([3], [3]), ([4, 2, 0, 1, 2, 3, 4], [4]), ([5, 6, 0, 1, 2, 3, 4, 5, 6], [5])])
def skifflaw6_awake.B4 : List Nat := [0, 0, 3, 7, 15, 15, 31, 127]
theorem skifflaw6_awake.tab4 : rtab .any (opsOf Try.f14 4) = skifflaw6_awake.T4 := by kernel_rfl
theorem skifflaw6_awake.bits4 : waitsOk skifflaw6_awake.T4.2 skifflaw6_awake.B4 = true := by kernel_rfl
def skifflaw6_awake.T6 : Bool × List (List Nat × List Nat) := (true, [([], []), ([], []), ([0, 1, 0], [0, 1]), ([2], [2]), ([3], [3]), ([3], [3]), ([4, 2, 0, 1, 2, 3, 4], [4]), ([5, 6, 0, 1, 2, 3, 4, 5, 6], [5])])
def skifflaw6_awake.B6 : List Nat := [0, 0, 3, 7, 15, 15, 31, 127]
theorem skifflaw6_awake.tab6 : rtab .any (opsOf Try.f14 6) = skifflaw6_awake.T6 := by kernel_rfl
theorem skifflaw6_awake.bits6 : waitsOk skifflaw6_awake.T6.2 skifflaw6_awake.B6 = true := by kernel_rfl
set_option maxHeartbeats 8000000 in
set_option maxRecDepth 100000 in
theorem skifflaw6_awake.calls (k : Nat)  (r : Bool) (w : World) (h : skifflaw6_awake.f k  = some r) :
  Calls Try.prog 14 #[] w fun e w' => e = .returned (.bool r) ∧ Below w.heap.size w w' := by
 have hu23 := Try.underlying23
 have HB := Aside0.mk (Below.refl w.heap.size w)
 have H : ((skifflaw6_held.f k).bind fun t233 => ((skiffref1_RecordOf.f k t233 0 12).bind fun bt234 => ((image_Base.f 1).bind fun bt240 => ((skifflaw6_held.f k).bind fun t242 => ((image_Of.f t242 bt234.1 bt234.2.1 bt234.2.2.1 bt234.2.2.2.1).bind fun bt243 => ((skifflaw6_held.f k).bind fun t245 => ((image_Good.f t245 bt234.1 bt234.2.1 bt234.2.2.1 bt234.2.2.2.1).bind fun bt246 => ((skifflaw6_held.f k).bind fun t248 => ((image_Good.f t248 bt234.1 bt234.2.1 bt234.2.2.1 (Go.bits .xor .i64 bt234.2.2.2.1 1)).bind fun bt249 => ((image_Base.f 2).bind fun bt251 => (if bt240.1 = 480 then ((skifflaw0_Num.f bt240.2).bind fun t253 => (if t253 = 0 then (if bt243.1.toList = ([97, 98, 97, 98, 97, 98, 97, 98, 97, 98, 97, 98] : List UInt8) then ((skifflaw0_Num.f bt243.2).bind fun t254 => (if t254 = 0 then (if bt246.1 = true then ((skifflaw0_Num.f bt246.2).bind fun t255 => (if t255 = 0 then (if bt249.1 = true then (none) else ((skifflaw0_Num.f bt249.2).bind fun t256 => (if t256 = 0 then ((skifflaw0_Num.f bt251.2).bind fun t257 => (some (t257 == 600))) else (none)))) else (none))) else (none)) else (none))) else (none)) else (none))) else (none)))))))))))) = some r := h
 clear h
 replace H := Option.bind_eq_some_iff.mp H
 obtain ⟨t233, A10, H⟩ := H
 replace H : ((skiffref1_RecordOf.f k t233 0 12).bind fun bt234 => ((image_Base.f 1).bind fun bt240 => ((skifflaw6_held.f k).bind fun t242 => ((image_Of.f t242 bt234.1 bt234.2.1 bt234.2.2.1 bt234.2.2.2.1).bind fun bt243 => ((skifflaw6_held.f k).bind fun t245 => ((image_Good.f t245 bt234.1 bt234.2.1 bt234.2.2.1 bt234.2.2.2.1).bind fun bt246 => ((skifflaw6_held.f k).bind fun t248 => ((image_Good.f t248 bt234.1 bt234.2.1 bt234.2.2.1 (Go.bits .xor .i64 bt234.2.2.2.1 1)).bind fun bt249 => ((image_Base.f 2).bind fun bt251 => (if bt240.1 = 480 then ((skifflaw0_Num.f bt240.2).bind fun t253 => (if t253 = 0 then (if bt243.1.toList = ([97, 98, 97, 98, 97, 98, 97, 98, 97, 98, 97, 98] : List UInt8) then ((skifflaw0_Num.f bt243.2).bind fun t254 => (if t254 = 0 then (if bt246.1 = true then ((skifflaw0_Num.f bt246.2).bind fun t255 => (if t255 = 0 then (if bt249.1 = true then (none) else ((skifflaw0_Num.f bt249.2).bind fun t256 => (if t256 = 0 then ((skifflaw0_Num.f bt251.2).bind fun t257 => (some (t257 == 600))) else (none)))) else (none))) else (none)) else (none))) else (none)) else (none))) else (none))))))))))) = some r := H
 have A1 := Aside0.mk A10
 clear A10
 replace H := Option.bind_eq_some_iff.mp H
 obtain ⟨⟨t234, t235, t236, t237, t238⟩, A20, H⟩ := H
 replace H : ((image_Base.f 1).bind fun bt240 => ((skifflaw6_held.f k).bind fun t242 => ((image_Of.f t242 t234 t235 t236 t237).bind fun bt243 => ((skifflaw6_held.f k).bind fun t245 => ((image_Good.f t245 t234 t235 t236 t237).bind fun bt246 => ((skifflaw6_held.f k).bind fun t248 => ((image_Good.f t248 t234 t235 t236 (Go.bits .xor .i64 t237 1)).bind fun bt249 => ((image_Base.f 2).bind fun bt251 => (if bt240.1 = 480 then ((skifflaw0_Num.f bt240.2).bind fun t253 => (if t253 = 0 then (if bt243.1.toList = ([97, 98, 97, 98, 97, 98, 97, 98, 97, 98, 97, 98] : List UInt8) then ((skifflaw0_Num.f bt243.2).bind fun t254 => (if t254 = 0 then (if bt246.1 = true then ((skifflaw0_Num.f bt246.2).bind fun t255 => (if t255 = 0 then (if bt249.1 = true then (none) else ((skifflaw0_Num.f bt249.2).bind fun t256 => (if t256 = 0 then ((skifflaw0_Num.f bt251.2).bind fun t257 => (some (t257 == 600))) else (none)))) else (none))) else (none)) else (none))) else (none)) else (none))) else (none)))))))))) = some r := H
 have A2 := Aside0.mk A20
 clear A20
 replace H := Option.bind_eq_some_iff.mp H
 obtain ⟨⟨t240, t241⟩, A30, H⟩ := H
 replace H : ((skifflaw6_held.f k).bind fun t242 => ((image_Of.f t242 t234 t235 t236 t237).bind fun bt243 => ((skifflaw6_held.f k).bind fun t245 => ((image_Good.f t245 t234 t235 t236 t237).bind fun bt246 => ((skifflaw6_held.f k).bind fun t248 => ((image_Good.f t248 t234 t235 t236 (Go.bits .xor .i64 t237 1)).bind fun bt249 => ((image_Base.f 2).bind fun bt251 => (if t240 = 480 then ((skifflaw0_Num.f t241).bind fun t253 => (if t253 = 0 then (if bt243.1.toList = ([97, 98, 97, 98, 97, 98, 97, 98, 97, 98, 97, 98] : List UInt8) then ((skifflaw0_Num.f bt243.2).bind fun t254 => (if t254 = 0 then (if bt246.1 = true then ((skifflaw0_Num.f bt246.2).bind fun t255 => (if t255 = 0 then (if bt249.1 = true then (none) else ((skifflaw0_Num.f bt249.2).bind fun t256 => (if t256 = 0 then ((skifflaw0_Num.f bt251.2).bind fun t257 => (some (t257 == 600))) else (none)))) else (none))) else (none)) else (none))) else (none)) else (none))) else (none))))))))) = some r := H
 have A3 := Aside0.mk A30
 clear A30
 replace H := Option.bind_eq_some_iff.mp H
 obtain ⟨t242, A40, H⟩ := H
 replace H : ((image_Of.f t242 t234 t235 t236 t237).bind fun bt243 => ((skifflaw6_held.f k).bind fun t245 => ((image_Good.f t245 t234 t235 t236 t237).bind fun bt246 => ((skifflaw6_held.f k).bind fun t248 => ((image_Good.f t248 t234 t235 t236 (Go.bits .xor .i64 t237 1)).bind fun bt249 => ((image_Base.f 2).bind fun bt251 => (if t240 = 480 then ((skifflaw0_Num.f t241).bind fun t253 => (if t253 = 0 then (if bt243.1.toList = ([97, 98, 97, 98, 97, 98, 97, 98, 97, 98, 97, 98] : List UInt8) then ((skifflaw0_Num.f bt243.2).bind fun t254 => (if t254 = 0 then (if bt246.1 = true then ((skifflaw0_Num.f bt246.2).bind fun t255 => (if t255 = 0 then (if bt249.1 = true then (none) else ((skifflaw0_Num.f bt249.2).bind fun t256 => (if t256 = 0 then ((skifflaw0_Num.f bt251.2).bind fun t257 => (some (t257 == 600))) else (none)))) else (none))) else (none)) else (none))) else (none)) else (none))) else (none)))))))) = some r := H
 have A4 := Aside0.mk A40
 clear A40
 replace H := Option.bind_eq_some_iff.mp H
 obtain ⟨⟨t243, t244⟩, A50, H⟩ := H
 replace H : ((skifflaw6_held.f k).bind fun t245 => ((image_Good.f t245 t234 t235 t236 t237).bind fun bt246 => ((skifflaw6_held.f k).bind fun t248 => ((image_Good.f t248 t234 t235 t236 (Go.bits .xor .i64 t237 1)).bind fun bt249 => ((image_Base.f 2).bind fun bt251 => (if t240 = 480 then ((skifflaw0_Num.f t241).bind fun t253 => (if t253 = 0 then (if t243.toList = ([97, 98, 97, 98, 97, 98, 97, 98, 97, 98, 97, 98] : List UInt8) then ((skifflaw0_Num.f t244).bind fun t254 => (if t254 = 0 then (if bt246.1 = true then ((skifflaw0_Num.f bt246.2).bind fun t255 => (if t255 = 0 then (if bt249.1 = true then (none) else ((skifflaw0_Num.f bt249.2).bind fun t256 => (if t256 = 0 then ((skifflaw0_Num.f bt251.2).bind fun t257 => (some (t257 == 600))) else (none)))) else (none))) else (none)) else (none))) else (none)) else (none))) else (none))))))) = some r := H
 have A5 := Aside0.mk A50
 clear A50
 replace H := Option.bind_eq_some_iff.mp H
 obtain ⟨t245, A60, H⟩ := H
 replace H : ((image_Good.f t245 t234 t235 t236 t237).bind fun bt246 => ((skifflaw6_held.f k).bind fun t248 => ((image_Good.f t248 t234 t235 t236 (Go.bits .xor .i64 t237 1)).bind fun bt249 => ((image_Base.f 2).bind fun bt251 => (if t240 = 480 then ((skifflaw0_Num.f t241).bind fun t253 => (if t253 = 0 then (if t243.toList = ([97, 98, 97, 98, 97, 98, 97, 98, 97, 98, 97, 98] : List UInt8) then ((skifflaw0_Num.f t244).bind fun t254 => (if t254 = 0 then (if bt246.1 = true then ((skifflaw0_Num.f bt246.2).bind fun t255 => (if t255 = 0 then (if bt249.1 = true then (none) else ((skifflaw0_Num.f bt249.2).bind fun t256 => (if t256 = 0 then ((skifflaw0_Num.f bt251.2).bind fun t257 => (some (t257 == 600))) else (none)))) else (none))) else (none)) else (none))) else (none)) else (none))) else (none)))))) = some r := H
 have A6 := Aside0.mk A60
 clear A60
 replace H := Option.bind_eq_some_iff.mp H
 obtain ⟨⟨t246, t247⟩, A70, H⟩ := H
 replace H : ((skifflaw6_held.f k).bind fun t248 => ((image_Good.f t248 t234 t235 t236 (Go.bits .xor .i64 t237 1)).bind fun bt249 => ((image_Base.f 2).bind fun bt251 => (if t240 = 480 then ((skifflaw0_Num.f t241).bind fun t253 => (if t253 = 0 then (if t243.toList = ([97, 98, 97, 98, 97, 98, 97, 98, 97, 98, 97, 98] : List UInt8) then ((skifflaw0_Num.f t244).bind fun t254 => (if t254 = 0 then (if t246 = true then ((skifflaw0_Num.f t247).bind fun t255 => (if t255 = 0 then (if bt249.1 = true then (none) else ((skifflaw0_Num.f bt249.2).bind fun t256 => (if t256 = 0 then ((skifflaw0_Num.f bt251.2).bind fun t257 => (some (t257 == 600))) else (none)))) else (none))) else (none)) else (none))) else (none)) else (none))) else (none))))) = some r := H
 have A7 := Aside0.mk A70
 clear A70
 replace H := Option.bind_eq_some_iff.mp H
 obtain ⟨t248, A80, H⟩ := H
 replace H : ((image_Good.f t248 t234 t235 t236 (Go.bits .xor .i64 t237 1)).bind fun bt249 => ((image_Base.f 2).bind fun bt251 => (if t240 = 480 then ((skifflaw0_Num.f t241).bind fun t253 => (if t253 = 0 then (if t243.toList = ([97, 98, 97, 98, 97, 98, 97, 98, 97, 98, 97, 98] : List UInt8) then ((skifflaw0_Num.f t244).bind fun t254 => (if t254 = 0 then (if t246 = true then ((skifflaw0_Num.f t247).bind fun t255 => (if t255 = 0 then (if bt249.1 = true then (none) else ((skifflaw0_Num.f bt249.2).bind fun t256 => (if t256 = 0 then ((skifflaw0_Num.f bt251.2).bind fun t257 => (some (t257 == 600))) else (none)))) else (none))) else (none)) else (none))) else (none)) else (none))) else (none)))) = some r := H
 have A8 := Aside0.mk A80
 clear A80
 replace H := Option.bind_eq_some_iff.mp H
 obtain ⟨⟨t249, t250⟩, A90, H⟩ := H
 replace H : ((image_Base.f 2).bind fun bt251 => (if t240 = 480 then ((skifflaw0_Num.f t241).bind fun t253 => (if t253 = 0 then (if t243.toList = ([97, 98, 97, 98, 97, 98, 97, 98, 97, 98, 97, 98] : List UInt8) then ((skifflaw0_Num.f t244).bind fun t254 => (if t254 = 0 then (if t246 = true then ((skifflaw0_Num.f t247).bind fun t255 => (if t255 = 0 then (if t249 = true then (none) else ((skifflaw0_Num.f t250).bind fun t256 => (if t256 = 0 then ((skifflaw0_Num.f bt251.2).bind fun t257 => (some (t257 == 600))) else (none)))) else (none))) else (none)) else (none))) else (none)) else (none))) else (none))) = some r := H
 have A9 := Aside0.mk A90
 clear A90
 replace H := Option.bind_eq_some_iff.mp H
 obtain ⟨⟨t251, t252⟩, A100, H⟩ := H
 replace H : (if t240 = 480 then ((skifflaw0_Num.f t241).bind fun t253 => (if t253 = 0 then (if t243.toList = ([97, 98, 97, 98, 97, 98, 97, 98, 97, 98, 97, 98] : List UInt8) then ((skifflaw0_Num.f t244).bind fun t254 => (if t254 = 0 then (if t246 = true then ((skifflaw0_Num.f t247).bind fun t255 => (if t255 = 0 then (if t249 = true then (none) else ((skifflaw0_Num.f t250).bind fun t256 => (if t256 = 0 then ((skifflaw0_Num.f t252).bind fun t257 => (some (t257 == 600))) else (none)))) else (none))) else (none)) else (none))) else (none)) else (none))) else (none)) = some r := H
 have A10 := Aside0.mk A100
 clear A100
 by_cases c11 : t240 = 480
 ·rw [if_pos c11] at H
  have c11b0 : (t240 == 480) = true := beq_iff_eq.mpr c11
  have c11b1 : (t240 != 480) = false := bne_eq_false_iff_eq.mpr c11
  clear c11
  replace H := Option.bind_eq_some_iff.mp H
  obtain ⟨t253, A120, H⟩ := H
  replace H : (if t253 = 0 then (if t243.toList = ([97, 98, 97, 98, 97, 98, 97, 98, 97, 98, 97, 98] : List UInt8) then ((skifflaw0_Num.f t244).bind fun t254 => (if t254 = 0 then (if t246 = true then ((skifflaw0_Num.f t247).bind fun t255 => (if t255 = 0 then (if t249 = true then (none) else ((skifflaw0_Num.f t250).bind fun t256 => (if t256 = 0 then ((skifflaw0_Num.f t252).bind fun t257 => (some (t257 == 600))) else (none)))) else (none))) else (none)) else (none))) else (none)) else (none)) = some r := H
  have A12 := Aside0.mk A120
  clear A120
  by_cases c13 : t253 = 0
  ·rw [if_pos c13] at H
   have c13b0 : (t253 == 0) = true := beq_iff_eq.mpr c13
   have c13b1 : (t253 != 0) = false := bne_eq_false_iff_eq.mpr c13
   clear c13
   by_cases c14 : t243.toList = ([97, 98, 97, 98, 97, 98, 97, 98, 97, 98, 97, 98] : List UInt8)
   ·rw [if_pos c14] at H
    have c14b0 : (t243.toList == ([97, 98, 97, 98, 97, 98, 97, 98, 97, 98, 97, 98] : List UInt8)) = true := beq_iff_eq.mpr c14
    have c14b1 : (t243.toList != ([97, 98, 97, 98, 97, 98, 97, 98, 97, 98, 97, 98] : List UInt8)) = false := bne_eq_false_iff_eq.mpr c14
    clear c14
    replace H := Option.bind_eq_some_iff.mp H
    obtain ⟨t254, A150, H⟩ := H
    replace H : (if t254 = 0 then (if t246 = true then ((skifflaw0_Num.f t247).bind fun t255 => (if t255 = 0 then (if t249 = true then (none) else ((skifflaw0_Num.f t250).bind fun t256 => (if t256 = 0 then ((skifflaw0_Num.f t252).bind fun t257 => (some (t257 == 600))) else (none)))) else (none))) else (none)) else (none)) = some r := H
    have A15 := Aside0.mk A150
    clear A150
    by_cases c16 : t254 = 0
    ·rw [if_pos c16] at H
     have c16b0 : (t254 == 0) = true := beq_iff_eq.mpr c16
     have c16b1 : (t254 != 0) = false := bne_eq_false_iff_eq.mpr c16
     clear c16
     by_cases c17 : t246 = true
     ·subst c17
      have H1 : ((skifflaw0_Num.f t247).bind fun t255 => (if t255 = 0 then (if t249 = true then (none) else ((skifflaw0_Num.f t250).bind fun t256 => (if t256 = 0 then ((skifflaw0_Num.f t252).bind fun t257 => (some (t257 == 600))) else (none)))) else (none))) = some r := by rw [if_pos rfl] at H; exact H
      clear H
      have H := H1
      clear H1
      replace H := Option.bind_eq_some_iff.mp H
      obtain ⟨t255, A180, H⟩ := H
      replace H : (if t255 = 0 then (if t249 = true then (none) else ((skifflaw0_Num.f t250).bind fun t256 => (if t256 = 0 then ((skifflaw0_Num.f t252).bind fun t257 => (some (t257 == 600))) else (none)))) else (none)) = some r := H
      have A18 := Aside0.mk A180
      clear A180
      by_cases c19 : t255 = 0
      ·rw [if_pos c19] at H
       have c19b0 : (t255 == 0) = true := beq_iff_eq.mpr c19
       have c19b1 : (t255 != 0) = false := bne_eq_false_iff_eq.mpr c19
       clear c19
       by_cases c20 : t249 = true
       ·subst c20
        have H1 : (none) = some r := by rw [if_pos rfl] at H; exact H
        clear H
        have H := H1
        clear H1
        exact absurd H (by simp)
       ·replace c20 := Bool.eq_false_iff.mpr c20
        subst c20
        have H1 : ((skifflaw0_Num.f t250).bind fun t256 => (if t256 = 0 then ((skifflaw0_Num.f t252).bind fun t257 => (some (t257 == 600))) else (none))) = some r := by rw [if_neg (show ¬ (false = true) by decide)] at H; exact H
        clear H
        have H := H1
        clear H1
        replace H := Option.bind_eq_some_iff.mp H
        obtain ⟨t256, A210, H⟩ := H
        replace H : (if t256 = 0 then ((skifflaw0_Num.f t252).bind fun t257 => (some (t257 == 600))) else (none)) = some r := H
        have A21 := Aside0.mk A210
        clear A210
        by_cases c22 : t256 = 0
        ·rw [if_pos c22] at H
         have c22b0 : (t256 == 0) = true := beq_iff_eq.mpr c22
         have c22b1 : (t256 != 0) = false := bne_eq_false_iff_eq.mpr c22
         clear c22
         replace H := Option.bind_eq_some_iff.mp H
         obtain ⟨t257, A230, H⟩ := H
         replace H : (some (t257 == 600)) = some r := H
         have A23 := Aside0.mk A230
         clear A230
         obtain rfl := Option.some.inj H
         go_enter Try.func14, Try.ntmps14
         try go_wp2_with (first | ((with_reducible refine gate_callee (f := 17) rfl ?_); refine goesL_ (some 14) rfl rfl Try.func17 (by kernel_rfl) rfl #[] rfl (by (try simp only [List.map_toArray, List.map_cons, List.map_nil]); first | done | rfl | (simp only [List.length_drop, List.length_take]; rfl)) ?_; (with_reducible refine (skifflaw6_held.calls k  t233 _ A1.out).mono ?_); rintro e w24 ⟨rfl, hb⟩; refine ⟨_, rfl, ?_⟩; have n0_ := Aside0.mk (below_step (by repeat (first | (with_reducible first | exact HB.out | apply below_alloc | apply pw_below_drewN | apply below_drew1) | exact HB.out)) hb); clear HB; have HB := n0_; clear n0_; (try clear hb); (try clear hb2); (try clear hk); (try clear hi)) | ((with_reducible refine gate_callee (f := 27) rfl ?_); refine goesL_ (some 15) rfl rfl Try.func27 (by kernel_rfl) rfl #[.string t233, .int .i64 0, .int .i64 12] rfl (by (try simp only [List.map_toArray, List.map_cons, List.map_nil]); first | done | rfl | (simp only [List.length_drop, List.length_take]; rfl)) ?_; (with_reducible refine (skiffref1_RecordOf.calls k t233 0 12 t234 t235 t236 t237 t238 _ A2.out).mono ?_); rintro e w25 ⟨rfl, hb⟩; refine ⟨_, rfl, ?_⟩; have n0_ := Aside0.mk (below_step (by repeat (first | (with_reducible first | exact HB.out | apply below_alloc | apply pw_below_drewN | apply below_drew1) | exact HB.out)) hb); clear HB; have HB := n0_; clear n0_; (try clear hb); (try clear hb2); (try clear hk); (try clear hi)) | ((with_reducible refine gate_dst (N := 1) rfl ?_); refine box_event ?hg (N := 1) ?hd (cs := #[.int .i64 0, .int .i64 0, .int .i64 0, .int .i64 0]) (t := 23) ?hr ?_; (case hd => rfl); (case hg => rfl); (case hr => first | (go_simp; done) | (go_simp; rfl)); intro gb239 hg w26 hbox hb; have n0_ := Aside0.mk (below_step (by repeat (first | (with_reducible first | exact HB.out | apply below_alloc | apply pw_below_drewN | apply below_drew1) | exact HB.out)) hb); have n1_ := Aside0.mk (hbox); have n2_ := Aside0.mk ((by rw [hg]; exact (below_size (by repeat (first | (with_reducible first | exact HB.out | apply below_alloc | apply pw_below_drewN | apply below_drew1) | exact HB.out))) : w.heap.size ≤ gb239)); have n3_ := Aside0.mk ((by rw [hg]; exact (below_size (by repeat (first | (with_reducible first | exact HB.out | apply below_alloc | apply pw_below_drewN | apply below_drew1) | exact HB.out))) : w.heap.size ≤ gb239)); clear HB; have HB := n0_; have BK239 := n1_; have GW239 := n2_; have GE239 := n3_; clear n0_ n1_ n2_ n3_; clear hb hbox hg; have hcz27_0 : w26.cell? ⟨gb239, 0, none⟩ = some (.int .i64 0) := (blk_cell BK239.out 0).trans rfl; have hcz27_1 : w26.cell? ⟨gb239, 1, none⟩ = some (.int .i64 0) := (blk_cell BK239.out 1).trans rfl; have hcz27_2 : w26.cell? ⟨gb239, 2, none⟩ = some (.int .i64 0) := (blk_cell BK239.out 2).trans rfl; have hcz27_3 : w26.cell? ⟨gb239, 3, none⟩ = some (.int .i64 0) := (blk_cell BK239.out 3).trans rfl; have hfz27_0 := blk_frozen BK239.out 0; have hfz27_1 := blk_frozen BK239.out 1; have hfz27_2 := blk_frozen BK239.out 2; have hfz27_3 := blk_frozen BK239.out 3) | ((with_reducible refine gate_callee (f := 7) rfl ?_); refine goesL_ (some 19) rfl rfl Try.func7 (by kernel_rfl) rfl #[.int .i64 1] rfl (by (try simp only [List.map_toArray, List.map_cons, List.map_nil]); first | done | rfl | (simp only [List.length_drop, List.length_take]; rfl)) ?_; (with_reducible refine (image_Base.calls 1 t240 t241 _ A3.out).mono ?_); rintro e w' ⟨rfl, ⟨nd, rfl⟩⟩; refine ⟨_, rfl, ?_⟩))
         have n0_ : Aside0 (((((w26.setCell ⟨gb239, 0, none⟩ (.int .i64 t234)).setCell ⟨gb239, 1, none⟩ (.int .i64 t235)).setCell ⟨gb239, 2, none⟩ (.int .i64 t236)).setCell ⟨gb239, 3, none⟩ (.int .i64 t237)).heap[gb239]? = some (.cells #[.int .i64 t234, .int .i64 t235, .int .i64 t236, .int .i64 t237] 23 (0, 0))) := ⟨by (with_reducible repeat (first | refine blk_drewN ?_ _ | refine blk_drew ?_ | refine blk_alloc ?_ _)); refine blk_put (cs := #[.int .i64 t234, .int .i64 t235, .int .i64 t236, .int .i64 0]) ?_ 3 _ rfl; (with_reducible repeat (first | refine blk_drewN ?_ _ | refine blk_drew ?_ | refine blk_alloc ?_ _)); refine blk_put (cs := #[.int .i64 t234, .int .i64 t235, .int .i64 0, .int .i64 0]) ?_ 2 _ rfl; (with_reducible repeat (first | refine blk_drewN ?_ _ | refine blk_drew ?_ | refine blk_alloc ?_ _)); refine blk_put (cs := #[.int .i64 t234, .int .i64 0, .int .i64 0, .int .i64 0]) ?_ 1 _ rfl; (with_reducible repeat (first | refine blk_drewN ?_ _ | refine blk_drew ?_ | refine blk_alloc ?_ _)); refine blk_put (cs := #[.int .i64 0, .int .i64 0, .int .i64 0, .int .i64 0]) ?_ 0 _ rfl; (with_reducible repeat (first | refine blk_drewN ?_ _ | refine blk_drew ?_ | refine blk_alloc ?_ _)); exact BK239.out⟩
         have n1_ : Aside0 (Below w.heap.size w ((((w26.setCell ⟨gb239, 0, none⟩ (.int .i64 t234)).setCell ⟨gb239, 1, none⟩ (.int .i64 t235)).setCell ⟨gb239, 2, none⟩ (.int .i64 t236)).setCell ⟨gb239, 3, none⟩ (.int .i64 t237))) := ⟨by repeat (first | (with_reducible first | exact HB.out | apply below_alloc | apply pw_below_drewN | apply below_drew1 | refine below_set ?_ GE239.out) | exact HB.out)⟩
         (try clear BK239)
         (try clear HB)
         generalize ((((w26.setCell ⟨gb239, 0, none⟩ (.int .i64 t234)).setCell ⟨gb239, 1, none⟩ (.int .i64 t235)).setCell ⟨gb239, 2, none⟩ (.int .i64 t236)).setCell ⟨gb239, 3, none⟩ (.int .i64 t237)) = w28 at n0_ n1_ ⊢
         have BK239 := n0_
         have HB := n1_
         clear n0_ n1_
         (try (rw [drewN_self w28]; generalize hq_ : World.drewN w28 _ = w28; have n0_ : Aside0 (w28.heap[gb239]? = some (.cells #[.int .i64 t234, .int .i64 t235, .int .i64 t236, .int .i64 t237] 23 (0, 0))) := ⟨by rw [← hq_]; exact (by (with_reducible repeat (first | refine blk_drewN ?_ _ | refine blk_drew ?_ | refine blk_alloc ?_ _)); exact BK239.out)⟩; have n1_ : Aside0 (Below w.heap.size w w28) := ⟨by rw [← hq_]; exact (by repeat (first | (with_reducible first | exact HB.out | apply below_alloc | apply pw_below_drewN | apply below_drew1 | refine below_set ?_ GE239.out) | exact HB.out))⟩; clear BK239 HB hq_; have BK239 := n0_; have HB := n1_; clear n0_ n1_))
         have n0_ := Aside0.mk (blk_drew BK239.out)
         have n1_ := Aside0.mk (below_drew1 HB.out)
         clear BK239
         clear HB
         have BK239 := n0_
         have HB := n1_
         clear n0_ n1_
         refine start_ (n := 8) (S := fun w' => w'.cell? ⟨gb239, 0, none⟩ = some (.int .i64 t234) ∧ w'.cell? ⟨gb239, 1, none⟩ = some (.int .i64 t235) ∧ w'.cell? ⟨gb239, 2, none⟩ = some (.int .i64 t236) ∧ w'.cell? ⟨gb239, 3, none⟩ = some (.int .i64 t237)) (ds := []) #[false, false, false, false, false, false, false, false] (by kernel_rfl) rfl rfl ⟨(blk_cell BK239.out 0).trans rfl, (blk_cell BK239.out 1).trans rfl, (blk_cell BK239.out 2).trans rfl, (blk_cell BK239.out 3).trans rfl⟩ (fun hHeld => ?_); refine with_tabW skifflaw6_awake.tab3 skifflaw6_awake.bits3 (fun HT_ HW_ => ?_)
         generalize w28.drew = w29 at BK239 HB hHeld ⊢
         refine take_ (i := 1) (N := some 24) (v := ?_) (a' := ?_) #[false, true, false, false, false, false, false, false] rfl rfl (take_ofW HT_.out HW_.out (by kernel_rfl)) (fun _ _ _ h => h) (Or.inl ⟨by rfl, ?_⟩) hHeld ?_ ?_
         rotate_left
         ·rintro w' ⟨s0, s1, s2, s3⟩
          go_simp
          with_reducible rfl
         rotate_left
         ·simp only [Act.put, List.setIfInBounds_toArray, List.set_cons_zero, List.set_cons_succ, i64_w, i32_w]
          rfl
         refine one_ (i := 0) (N := some 23) #[true, true, false, false, false, false, false, false] rfl rfl (one_of HT_.out (by kernel_rfl)) (by decide) (fun K hK => ?_)
         refine goes_ Try.func17 (by kernel_rfl) rfl #[] (by rfl) rfl rfl (by (try simp only [List.map_toArray, List.map_cons, List.map_nil]); first | done | rfl | (simp only [List.length_drop, List.length_take]; rfl)) ?_
         with_reducible refine (skifflaw6_held.calls k  t242 _ A4.out).mono ?_
         rintro e w30 ⟨rfl, hb⟩
         refine ⟨_, rfl, ?_⟩
         have n0_ := Aside0.mk (blk_below (g := gb239) (o := .cells #[.int .i64 t234, .int .i64 t235, .int .i64 t236, .int .i64 t237] 23 (0, 0)) (by (with_reducible repeat (first | refine blk_drewN ?_ _ | refine blk_drew ?_ | refine blk_alloc ?_ _)); exact BK239.out) hb)
         have n1_ := Aside0.mk (below_step (by repeat (first | (with_reducible first | exact HB.out | apply below_alloc | apply pw_below_drewN | apply below_drew1 | refine below_set ?_ GE239.out) | exact HB.out)) hb)
         clear BK239
         clear HB
         have BK239 := n0_
         have HB := n1_
         clear n0_ n1_
         (try clear hb)
         (try clear hb2)
         (try clear hk)
         (try clear hi)
         refine hK.out _ _ ⟨(blk_cell BK239.out 0).trans rfl, (blk_cell BK239.out 1).trans rfl, (blk_cell BK239.out 2).trans rfl, (blk_cell BK239.out 3).trans rfl⟩ (fun hHeld => ?_)
         clear hK K
         refine norm_ (a' := ?_) ?_ ?_
         rotate_left
         ·show Act.put _ (some 23) _ = _
          simp only [Act.put, List.setIfInBounds_toArray, List.set_cons_zero, List.set_cons_succ, i64_w, i32_w]
          rfl
         refine one_ (i := 2) (N := some 25) #[true, true, true, false, false, false, false, false] rfl rfl (one_of HT_.out (by kernel_rfl)) (by decide) (fun K hK => ?_)
         refine goes_ Try.func9 (by kernel_rfl) rfl #[.string t242, .agg #[.int .i64 t234, .int .i64 t235, .int .i64 t236, .int .i64 t237]] (by rfl) rfl rfl (by (try simp only [List.map_toArray, List.map_cons, List.map_nil]); first | done | rfl | (simp only [List.length_drop, List.length_take]; rfl)) ?_
         with_reducible refine (image_Of.calls t242 t234 t235 t236 t237 t243 t244 _ A5.out).mono ?_
         rintro e w31 ⟨rfl, hb⟩
         refine ⟨_, rfl, ?_⟩
         have n0_ := Aside0.mk (blk_below (g := gb239) (o := .cells #[.int .i64 t234, .int .i64 t235, .int .i64 t236, .int .i64 t237] 23 (0, 0)) (by (with_reducible repeat (first | refine blk_drewN ?_ _ | refine blk_drew ?_ | refine blk_alloc ?_ _)); exact BK239.out) hb)
         have n1_ := Aside0.mk (below_step (by repeat (first | (with_reducible first | exact HB.out | apply below_alloc | apply pw_below_drewN | apply below_drew1 | refine below_set ?_ GE239.out) | exact HB.out)) hb)
         clear BK239
         clear HB
         have BK239 := n0_
         have HB := n1_
         clear n0_ n1_
         (try clear hb)
         (try clear hb2)
         (try clear hk)
         (try clear hi)
         refine hK.out _ _ ⟨(blk_cell BK239.out 0).trans rfl, (blk_cell BK239.out 1).trans rfl, (blk_cell BK239.out 2).trans rfl, (blk_cell BK239.out 3).trans rfl⟩ (fun hHeld => ?_)
         clear hK K
         refine norm_ (a' := ?_) ?_ ?_
         rotate_left
         ·show Act.put _ (some 25) _ = _
          simp only [Act.put, List.setIfInBounds_toArray, List.set_cons_zero, List.set_cons_succ, i64_w, i32_w]
          rfl
         refine pure_ (i := 3) (N := some 22) (v := ?_) (a' := ?_) #[true, true, true, true, false, false, false, false] rfl rfl (any_of HT_.out (by kernel_rfl)) (fun _ _ _ h => h) (Or.inl ⟨by rfl, ?_⟩) ?_ ?_
         rotate_left
         ·intro w'
          go_simp
          with_reducible rfl
         rotate_left
         ·simp only [Act.put, List.setIfInBounds_toArray, List.set_cons_zero, List.set_cons_succ, i64_w, i32_w]
          rfl
         refine pure_ (i := 4) (N := some 26) (v := ?_) (a' := ?_) #[true, true, true, true, true, false, false, false] rfl rfl (any_of HT_.out (by kernel_rfl)) (fun _ _ _ h => h) (Or.inl ⟨by rfl, ?_⟩) ?_ ?_
         rotate_left
         ·intro w'
          go_simp
          with_reducible rfl
         rotate_left
         ·simp only [Act.put, List.setIfInBounds_toArray, List.set_cons_zero, List.set_cons_succ, i64_w, i32_w]
          rfl
         refine pure_ (i := 5) (N := some 27) (v := ?_) (a' := ?_) #[true, true, true, true, true, true, false, false] rfl rfl (any_of HT_.out (by kernel_rfl)) (fun _ _ _ h => h) (Or.inl ⟨by rfl, ?_⟩) ?_ ?_
         rotate_left
         ·intro w'
          go_simp
          with_reducible rfl
         rotate_left
         ·simp only [Act.put, List.setIfInBounds_toArray, List.set_cons_zero, List.set_cons_succ, i64_w, i32_w]
          rfl
         refine pure_ (i := 6) (N := some 5) (v := ?_) (a' := ?_) #[true, true, true, true, true, true, true, false] rfl rfl (any_of HT_.out (by kernel_rfl)) (fun _ _ _ h => h) (Or.inl ⟨by rfl, ?_⟩) ?_ ?_
         rotate_left
         ·intro w'
          go_simp
          with_reducible rfl
         rotate_left
         ·simp only [Act.put, List.setIfInBounds_toArray, List.set_cons_zero, List.set_cons_succ, i64_w, i32_w]
          rfl
         refine pure_ (i := 7) (N := some 6) (v := ?_) (a' := ?_) #[true, true, true, true, true, true, true, true] rfl rfl (any_of HT_.out (by kernel_rfl)) (fun _ _ _ h => h) (Or.inl ⟨by rfl, ?_⟩) ?_ ?_
         rotate_left
         ·intro w'
          go_simp
          with_reducible rfl
         rotate_left
         ·simp only [Act.put, List.setIfInBounds_toArray, List.set_cons_zero, List.set_cons_succ, i64_w, i32_w]
          rfl
         refine done_ (done_of HT_.out (by kernel_rfl)) ?_
         try go_wp2
         have n0_ := Aside0.mk (blk_drew BK239.out)
         have n1_ := Aside0.mk (below_drew1 HB.out)
         clear BK239
         clear HB
         have BK239 := n0_
         have HB := n1_
         clear n0_ n1_
         refine start_ (n := 8) (S := fun w' => w'.cell? ⟨gb239, 0, none⟩ = some (.int .i64 t234) ∧ w'.cell? ⟨gb239, 1, none⟩ = some (.int .i64 t235) ∧ w'.cell? ⟨gb239, 2, none⟩ = some (.int .i64 t236) ∧ w'.cell? ⟨gb239, 3, none⟩ = some (.int .i64 t237)) (ds := []) #[false, false, false, false, false, false, false, false] (by kernel_rfl) rfl rfl ⟨(blk_cell BK239.out 0).trans rfl, (blk_cell BK239.out 1).trans rfl, (blk_cell BK239.out 2).trans rfl, (blk_cell BK239.out 3).trans rfl⟩ (fun hHeld => ?_); refine with_tabW skifflaw6_awake.tab4 skifflaw6_awake.bits4 (fun HT_ HW_ => ?_)
         generalize w31.drew = w32 at BK239 HB hHeld ⊢
         refine take_ (i := 1) (N := some 30) (v := ?_) (a' := ?_) #[false, true, false, false, false, false, false, false] rfl rfl (take_ofW HT_.out HW_.out (by kernel_rfl)) (fun _ _ _ h => h) (Or.inl ⟨by rfl, ?_⟩) hHeld ?_ ?_
         rotate_left
         ·rintro w' ⟨s0, s1, s2, s3⟩
          go_simp
          with_reducible rfl
         rotate_left
         ·simp only [Act.put, List.setIfInBounds_toArray, List.set_cons_zero, List.set_cons_succ, i64_w, i32_w]
          rfl
         refine one_ (i := 0) (N := some 29) #[true, true, false, false, false, false, false, false] rfl rfl (one_of HT_.out (by kernel_rfl)) (by decide) (fun K hK => ?_)
         refine goes_ Try.func17 (by kernel_rfl) rfl #[] (by rfl) rfl rfl (by (try simp only [List.map_toArray, List.map_cons, List.map_nil]); first | done | rfl | (simp only [List.length_drop, List.length_take]; rfl)) ?_
         with_reducible refine (skifflaw6_held.calls k  t245 _ A6.out).mono ?_
         rintro e w33 ⟨rfl, hb⟩
         refine ⟨_, rfl, ?_⟩
         have n0_ := Aside0.mk (blk_below (g := gb239) (o := .cells #[.int .i64 t234, .int .i64 t235, .int .i64 t236, .int .i64 t237] 23 (0, 0)) (by (with_reducible repeat (first | refine blk_drewN ?_ _ | refine blk_drew ?_ | refine blk_alloc ?_ _)); exact BK239.out) hb)
         have n1_ := Aside0.mk (below_step (by repeat (first | (with_reducible first | exact HB.out | apply below_alloc | apply pw_below_drewN | apply below_drew1 | refine below_set ?_ GE239.out) | exact HB.out)) hb)
         clear BK239
         clear HB
         have BK239 := n0_
         have HB := n1_
         clear n0_ n1_
         (try clear hb)
         (try clear hb2)
         (try clear hk)
         (try clear hi)
         refine hK.out _ _ ⟨(blk_cell BK239.out 0).trans rfl, (blk_cell BK239.out 1).trans rfl, (blk_cell BK239.out 2).trans rfl, (blk_cell BK239.out 3).trans rfl⟩ (fun hHeld => ?_)
         clear hK K
         refine norm_ (a' := ?_) ?_ ?_
         rotate_left
         ·show Act.put _ (some 29) _ = _
          simp only [Act.put, List.setIfInBounds_toArray, List.set_cons_zero, List.set_cons_succ, i64_w, i32_w]
          rfl
         refine one_ (i := 2) (N := some 31) #[true, true, true, false, false, false, false, false] rfl rfl (one_of HT_.out (by kernel_rfl)) (by decide) (fun K hK => ?_)
         refine goes_ Try.func11 (by kernel_rfl) rfl #[.string t245, .agg #[.int .i64 t234, .int .i64 t235, .int .i64 t236, .int .i64 t237]] (by rfl) rfl rfl (by (try simp only [List.map_toArray, List.map_cons, List.map_nil]); first | done | rfl | (simp only [List.length_drop, List.length_take]; rfl)) ?_
         with_reducible refine (image_Good.calls t245 t234 t235 t236 t237 true t247 _ A7.out).mono ?_
         rintro e w34 ⟨rfl, hb⟩
         refine ⟨_, rfl, ?_⟩
         have n0_ := Aside0.mk (blk_below (g := gb239) (o := .cells #[.int .i64 t234, .int .i64 t235, .int .i64 t236, .int .i64 t237] 23 (0, 0)) (by (with_reducible repeat (first | refine blk_drewN ?_ _ | refine blk_drew ?_ | refine blk_alloc ?_ _)); exact BK239.out) hb)
         have n1_ := Aside0.mk (below_step (by repeat (first | (with_reducible first | exact HB.out | apply below_alloc | apply pw_below_drewN | apply below_drew1 | refine below_set ?_ GE239.out) | exact HB.out)) hb)
         clear BK239
         clear HB
         have BK239 := n0_
         have HB := n1_
         clear n0_ n1_
         (try clear hb)
         (try clear hb2)
         (try clear hk)
         (try clear hi)
         refine hK.out _ _ ⟨(blk_cell BK239.out 0).trans rfl, (blk_cell BK239.out 1).trans rfl, (blk_cell BK239.out 2).trans rfl, (blk_cell BK239.out 3).trans rfl⟩ (fun hHeld => ?_)
         clear hK K
         refine norm_ (a' := ?_) ?_ ?_
         rotate_left
         ·show Act.put _ (some 31) _ = _
          simp only [Act.put, List.setIfInBounds_toArray, List.set_cons_zero, List.set_cons_succ, i64_w, i32_w]
          rfl
         refine pure_ (i := 3) (N := some 28) (v := ?_) (a' := ?_) #[true, true, true, true, false, false, false, false] rfl rfl (any_of HT_.out (by kernel_rfl)) (fun _ _ _ h => h) (Or.inl ⟨by rfl, ?_⟩) ?_ ?_
         rotate_left
         ·intro w'
          go_simp
          with_reducible rfl
         rotate_left
         ·simp only [Act.put, List.setIfInBounds_toArray, List.set_cons_zero, List.set_cons_succ, i64_w, i32_w]
          rfl
         refine pure_ (i := 4) (N := some 32) (v := ?_) (a' := ?_) #[true, true, true, true, true, false, false, false] rfl rfl (any_of HT_.out (by kernel_rfl)) (fun _ _ _ h => h) (Or.inl ⟨by rfl, ?_⟩) ?_ ?_
         rotate_left
         ·intro w'
          go_simp
          with_reducible rfl
         rotate_left
         ·simp only [Act.put, List.setIfInBounds_toArray, List.set_cons_zero, List.set_cons_succ, i64_w, i32_w]
          rfl
         refine pure_ (i := 5) (N := some 33) (v := ?_) (a' := ?_) #[true, true, true, true, true, true, false, false] rfl rfl (any_of HT_.out (by kernel_rfl)) (fun _ _ _ h => h) (Or.inl ⟨by rfl, ?_⟩) ?_ ?_
         rotate_left
         ·intro w'
          go_simp
          with_reducible rfl
         rotate_left
         ·simp only [Act.put, List.setIfInBounds_toArray, List.set_cons_zero, List.set_cons_succ, i64_w, i32_w]
          rfl
         refine pure_ (i := 6) (N := some 7) (v := ?_) (a' := ?_) #[true, true, true, true, true, true, true, false] rfl rfl (any_of HT_.out (by kernel_rfl)) (fun _ _ _ h => h) (Or.inl ⟨by rfl, ?_⟩) ?_ ?_
         rotate_left
         ·intro w'
          go_simp
          with_reducible rfl
         rotate_left
         ·simp only [Act.put, List.setIfInBounds_toArray, List.set_cons_zero, List.set_cons_succ, i64_w, i32_w]
          rfl
         refine pure_ (i := 7) (N := some 8) (v := ?_) (a' := ?_) #[true, true, true, true, true, true, true, true] rfl rfl (any_of HT_.out (by kernel_rfl)) (fun _ _ _ h => h) (Or.inl ⟨by rfl, ?_⟩) ?_ ?_
         rotate_left
         ·intro w'
          go_simp
          with_reducible rfl
         rotate_left
         ·simp only [Act.put, List.setIfInBounds_toArray, List.set_cons_zero, List.set_cons_succ, i64_w, i32_w]
          rfl
         refine done_ (done_of HT_.out (by kernel_rfl)) ?_
         have hcz35_0 : w34.cell? ⟨gb239, 0, none⟩ = some (.int .i64 t234) := (blk_cell BK239.out 0).trans rfl
         have hcz35_1 : w34.cell? ⟨gb239, 1, none⟩ = some (.int .i64 t235) := (blk_cell BK239.out 1).trans rfl
         have hcz35_2 : w34.cell? ⟨gb239, 2, none⟩ = some (.int .i64 t236) := (blk_cell BK239.out 2).trans rfl
         have hcz35_3 : w34.cell? ⟨gb239, 3, none⟩ = some (.int .i64 t237) := (blk_cell BK239.out 3).trans rfl
         have hfz35_0 := blk_frozen BK239.out 0
         have hfz35_1 := blk_frozen BK239.out 1
         have hfz35_2 := blk_frozen BK239.out 2
         have hfz35_3 := blk_frozen BK239.out 3
         try go_wp2
         have n0_ : Aside0 ((w34.setCell ⟨gb239, 3, none⟩ (.int .i64 (Go.bits .xor .i64 t237 1))).heap[gb239]? = some (.cells #[.int .i64 t234, .int .i64 t235, .int .i64 t236, .int .i64 (Go.bits .xor .i64 t237 1)] 23 (0, 0))) := ⟨by (with_reducible repeat (first | refine blk_drewN ?_ _ | refine blk_drew ?_ | refine blk_alloc ?_ _)); refine blk_put (cs := #[.int .i64 t234, .int .i64 t235, .int .i64 t236, .int .i64 t237]) ?_ 3 _ rfl; (with_reducible repeat (first | refine blk_drewN ?_ _ | refine blk_drew ?_ | refine blk_alloc ?_ _)); exact BK239.out⟩
         have n1_ : Aside0 (Below w.heap.size w (w34.setCell ⟨gb239, 3, none⟩ (.int .i64 (Go.bits .xor .i64 t237 1)))) := ⟨by repeat (first | (with_reducible first | exact HB.out | apply below_alloc | apply pw_below_drewN | apply below_drew1 | refine below_set ?_ GE239.out) | exact HB.out)⟩
         (try clear BK239)
         (try clear HB)
         generalize (w34.setCell ⟨gb239, 3, none⟩ (.int .i64 (Go.bits .xor .i64 t237 1))) = w36 at n0_ n1_ ⊢
         have BK239 := n0_
         have HB := n1_
         clear n0_ n1_
         have n0_ := Aside0.mk (blk_drew BK239.out)
         have n1_ := Aside0.mk (below_drew1 HB.out)
         clear BK239
         clear HB
         have BK239 := n0_
         have HB := n1_
         clear n0_ n1_
         refine start_ (n := 8) (S := fun w' => w'.cell? ⟨gb239, 0, none⟩ = some (.int .i64 t234) ∧ w'.cell? ⟨gb239, 1, none⟩ = some (.int .i64 t235) ∧ w'.cell? ⟨gb239, 2, none⟩ = some (.int .i64 t236) ∧ w'.cell? ⟨gb239, 3, none⟩ = some (.int .i64 (Go.bits .xor .i64 t237 1))) (ds := []) #[false, false, false, false, false, false, false, false] (by kernel_rfl) rfl rfl ⟨(blk_cell BK239.out 0).trans rfl, (blk_cell BK239.out 1).trans rfl, (blk_cell BK239.out 2).trans rfl, (blk_cell BK239.out 3).trans rfl⟩ (fun hHeld => ?_); refine with_tabW skifflaw6_awake.tab6 skifflaw6_awake.bits6 (fun HT_ HW_ => ?_)
         generalize w36.drew = w37 at BK239 HB hHeld ⊢
         refine take_ (i := 1) (N := some 40) (v := ?_) (a' := ?_) #[false, true, false, false, false, false, false, false] rfl rfl (take_ofW HT_.out HW_.out (by kernel_rfl)) (fun _ _ _ h => h) (Or.inl ⟨by rfl, ?_⟩) hHeld ?_ ?_
         rotate_left
         ·rintro w' ⟨s0, s1, s2, s3⟩
          go_simp
          with_reducible rfl
         rotate_left
         ·simp only [Act.put, List.setIfInBounds_toArray, List.set_cons_zero, List.set_cons_succ, i64_w, i32_w]
          rfl
         refine one_ (i := 0) (N := some 39) #[true, true, false, false, false, false, false, false] rfl rfl (one_of HT_.out (by kernel_rfl)) (by decide) (fun K hK => ?_)
         refine goes_ Try.func17 (by kernel_rfl) rfl #[] (by rfl) rfl rfl (by (try simp only [List.map_toArray, List.map_cons, List.map_nil]); first | done | rfl | (simp only [List.length_drop, List.length_take]; rfl)) ?_
         with_reducible refine (skifflaw6_held.calls k  t248 _ A8.out).mono ?_
         rintro e w38 ⟨rfl, hb⟩
         refine ⟨_, rfl, ?_⟩
         have n0_ := Aside0.mk (blk_below (g := gb239) (o := .cells #[.int .i64 t234, .int .i64 t235, .int .i64 t236, .int .i64 (Go.bits .xor .i64 t237 1)] 23 (0, 0)) (by (with_reducible repeat (first | refine blk_drewN ?_ _ | refine blk_drew ?_ | refine blk_alloc ?_ _)); exact BK239.out) hb)
         have n1_ := Aside0.mk (below_step (by repeat (first | (with_reducible first | exact HB.out | apply below_alloc | apply pw_below_drewN | apply below_drew1 | refine below_set ?_ GE239.out) | exact HB.out)) hb)
         clear BK239
         clear HB
         have BK239 := n0_
         have HB := n1_
         clear n0_ n1_
         (try clear hb)
         (try clear hb2)
         (try clear hk)
         (try clear hi)
         refine hK.out _ _ ⟨(blk_cell BK239.out 0).trans rfl, (blk_cell BK239.out 1).trans rfl, (blk_cell BK239.out 2).trans rfl, (blk_cell BK239.out 3).trans rfl⟩ (fun hHeld => ?_)
         clear hK K
         refine norm_ (a' := ?_) ?_ ?_
         rotate_left
         ·show Act.put _ (some 39) _ = _
          simp only [Act.put, List.setIfInBounds_toArray, List.set_cons_zero, List.set_cons_succ, i64_w, i32_w]
          rfl
         refine one_ (i := 2) (N := some 41) #[true, true, true, false, false, false, false, false] rfl rfl (one_of HT_.out (by kernel_rfl)) (by decide) (fun K hK => ?_)
         refine goes_ Try.func11 (by kernel_rfl) rfl #[.string t248, .agg #[.int .i64 t234, .int .i64 t235, .int .i64 t236, .int .i64 (Go.bits .xor .i64 t237 1)]] (by rfl) rfl rfl (by (try simp only [List.map_toArray, List.map_cons, List.map_nil]); first | done | rfl | (simp only [List.length_drop, List.length_take]; rfl)) ?_
         with_reducible refine (image_Good.calls t248 t234 t235 t236 (Go.bits .xor .i64 t237 1) false t250 _ A9.out).mono ?_
         rintro e w39 ⟨rfl, hb⟩
         refine ⟨_, rfl, ?_⟩
         have n0_ := Aside0.mk (blk_below (g := gb239) (o := .cells #[.int .i64 t234, .int .i64 t235, .int .i64 t236, .int .i64 (Go.bits .xor .i64 t237 1)] 23 (0, 0)) (by (with_reducible repeat (first | refine blk_drewN ?_ _ | refine blk_drew ?_ | refine blk_alloc ?_ _)); exact BK239.out) hb)
         have n1_ := Aside0.mk (below_step (by repeat (first | (with_reducible first | exact HB.out | apply below_alloc | apply pw_below_drewN | apply below_drew1 | refine below_set ?_ GE239.out) | exact HB.out)) hb)
         clear BK239
         clear HB
         have BK239 := n0_
         have HB := n1_
         clear n0_ n1_
         (try clear hb)
         (try clear hb2)
         (try clear hk)
         (try clear hi)
         refine hK.out _ _ ⟨(blk_cell BK239.out 0).trans rfl, (blk_cell BK239.out 1).trans rfl, (blk_cell BK239.out 2).trans rfl, (blk_cell BK239.out 3).trans rfl⟩ (fun hHeld => ?_)
         clear hK K
         refine norm_ (a' := ?_) ?_ ?_
         rotate_left
         ·show Act.put _ (some 41) _ = _
          simp only [Act.put, List.setIfInBounds_toArray, List.set_cons_zero, List.set_cons_succ, i64_w, i32_w]
          rfl
         refine pure_ (i := 3) (N := some 38) (v := ?_) (a' := ?_) #[true, true, true, true, false, false, false, false] rfl rfl (any_of HT_.out (by kernel_rfl)) (fun _ _ _ h => h) (Or.inl ⟨by rfl, ?_⟩) ?_ ?_
         rotate_left
         ·intro w'
          go_simp
          with_reducible rfl
         rotate_left
         ·simp only [Act.put, List.setIfInBounds_toArray, List.set_cons_zero, List.set_cons_succ, i64_w, i32_w]
          rfl
         refine pure_ (i := 4) (N := some 42) (v := ?_) (a' := ?_) #[true, true, true, true, true, false, false, false] rfl rfl (any_of HT_.out (by kernel_rfl)) (fun _ _ _ h => h) (Or.inl ⟨by rfl, ?_⟩) ?_ ?_
         rotate_left
         ·intro w'
          go_simp
          with_reducible rfl
         rotate_left
         ·simp only [Act.put, List.setIfInBounds_toArray, List.set_cons_zero, List.set_cons_succ, i64_w, i32_w]
          rfl
         refine pure_ (i := 5) (N := some 43) (v := ?_) (a' := ?_) #[true, true, true, true, true, true, false, false] rfl rfl (any_of HT_.out (by kernel_rfl)) (fun _ _ _ h => h) (Or.inl ⟨by rfl, ?_⟩) ?_ ?_
         rotate_left
         ·intro w'
          go_simp
          with_reducible rfl
         rotate_left
         ·simp only [Act.put, List.setIfInBounds_toArray, List.set_cons_zero, List.set_cons_succ, i64_w, i32_w]
          rfl
         refine pure_ (i := 6) (N := some 9) (v := ?_) (a' := ?_) #[true, true, true, true, true, true, true, false] rfl rfl (any_of HT_.out (by kernel_rfl)) (fun _ _ _ h => h) (Or.inl ⟨by rfl, ?_⟩) ?_ ?_
         rotate_left
         ·intro w'
          go_simp
          with_reducible rfl
         rotate_left
         ·simp only [Act.put, List.setIfInBounds_toArray, List.set_cons_zero, List.set_cons_succ, i64_w, i32_w]
          rfl
         refine pure_ (i := 7) (N := some 10) (v := ?_) (a' := ?_) #[true, true, true, true, true, true, true, true] rfl rfl (any_of HT_.out (by kernel_rfl)) (fun _ _ _ h => h) (Or.inl ⟨by rfl, ?_⟩) ?_ ?_
         rotate_left
         ·intro w'
          go_simp
          with_reducible rfl
         rotate_left
         ·simp only [Act.put, List.setIfInBounds_toArray, List.set_cons_zero, List.set_cons_succ, i64_w, i32_w]
          rfl
         refine done_ (done_of HT_.out (by kernel_rfl)) ?_
         try go_wp2_with (first | ((with_reducible refine gate_callee (f := 7) rfl ?_); refine goesL_ (some 45) rfl rfl Try.func7 (by kernel_rfl) rfl #[.int .i64 2] rfl (by (try simp only [List.map_toArray, List.map_cons, List.map_nil]); first | done | rfl | (simp only [List.length_drop, List.length_take]; rfl)) ?_; (with_reducible refine (image_Base.calls 2 t251 t252 _ A10.out).mono ?_); rintro e w' ⟨rfl, ⟨nd, rfl⟩⟩; refine ⟨_, rfl, ?_⟩) | (go_at_call 13; (with_reducible refine (skifflaw0_Num.calls t241 t253 _ A12.out).mono ?_); rintro e w' ⟨rfl, ⟨nd, rfl⟩⟩) | (go_at_call 13; (with_reducible refine (skifflaw0_Num.calls t244 t254 _ A15.out).mono ?_); rintro e w' ⟨rfl, ⟨nd, rfl⟩⟩) | (go_at_call 13; (with_reducible refine (skifflaw0_Num.calls t247 t255 _ A18.out).mono ?_); rintro e w' ⟨rfl, ⟨nd, rfl⟩⟩) | (go_at_call 13; (with_reducible refine (skifflaw0_Num.calls t250 t256 _ A21.out).mono ?_); rintro e w' ⟨rfl, ⟨nd, rfl⟩⟩) | (go_at_call 13; (with_reducible refine (skifflaw0_Num.calls t252 t257 _ A23.out).mono ?_); rintro e w' ⟨rfl, ⟨nd, rfl⟩⟩))
         go_ret
         exact ⟨by first | rfl | (simp [errW_none, errW_some] <;> rfl) | (simp [*, errW_none, errW_some] <;> rfl), by repeat (first | (with_reducible first | exact HB.out | apply below_alloc | apply pw_below_drewN | apply below_drew1 | refine below_set ?_ GE239.out) | exact HB.out)⟩
        ·rw [if_neg c22] at H
         exact absurd H (by simp)
      ·rw [if_neg c19] at H
       exact absurd H (by simp)
     ·replace c17 := Bool.eq_false_iff.mpr c17
      subst c17
      have H1 : (none) = some r := by rw [if_neg (show ¬ (false = true) by decide)] at H; exact H
      clear H
      have H := H1
      clear H1
      exact absurd H (by simp)
    ·rw [if_neg c16] at H
     exact absurd H (by simp)
   ·rw [if_neg c14] at H
    exact absurd H (by simp)
  ·rw [if_neg c13] at H
   exact absurd H (by simp)
 ·rw [if_neg c11] at H
  exact absurd H (by simp)

/-! ### skifflaw6_Images: function 3 -/
def skifflaw6_Images.f (k : Nat) (a0 : ByteArray) (a1_0 : Int) (a1_1 : Int) (a1_2 : Int) (a1_3 : Int) (a2 : Int) : Option (Bool) := (image_Base.f a2).bind fun bt259 => ((skiffref1_Base.f a2).bind fun bt261 => ((image_Of.f a0 a1_0 a1_1 a1_2 a1_3).bind fun bt263 => ((skiffref1_ImageOf.f a0 a1_0 a1_1 a1_2 a1_3).bind fun bt265 => ((image_Good.f a0 a1_0 a1_1 a1_2 a1_3).bind fun bt267 => ((skiffref1_Good.f a0 a1_0 a1_1 a1_2 a1_3).bind fun bt269 => (if bt259.1 = bt261.1 then ((skifflaw0_Num.f bt259.2).bind fun t271 => (if t271 = bt261.2 then (if bt263.1.toList = bt265.1.toList then ((skifflaw0_Num.f bt263.2).bind fun t272 => (if t272 = bt265.2 then (if (bt267.1 == bt269.1) = true then ((skifflaw0_Num.f bt267.2).bind fun t273 => (if t273 = bt269.2 then ((skifflaw6_awake.f k).bind fun t274 => (some t274)) else (none))) else (none)) else (none))) else (none)) else (none))) else (none)))))))
theorem skifflaw6_Images.mono : ∀ a0 a1 a2 a3 a4 a5 k, LeO (skifflaw6_Images.f k a0 a1 a2 a3 a4 a5) (skifflaw6_Images.f (k + 1) a0 a1 a2 a3 a4 a5) := by
 intro a0 a1 a2 a3 a4 a5 k
 unfold skifflaw6_Images.f
 repeat' first
   | (with_reducible exact skifflaw6_awake.mono _)
   | (with_reducible exact LeO.refl _)
   | (with_reducible exact LeO.none _)
   | (with_reducible refine LeO.ite ?_ ?_)
   | (with_reducible refine LeO.bind ?_ (fun _ => ?_))
   | exact skifflaw6_awake.mono _
   | exact LeO.none _
   | refine LeO.ite ?_ ?_
   | refine LeO.bind ?_ (fun _ => ?_)
set_option maxHeartbeats 8000000 in
set_option maxRecDepth 100000 in
theorem skifflaw6_Images.calls (k : Nat) (a0 : ByteArray) (a1_0 : Int) (a1_1 : Int) (a1_2 : Int) (a1_3 : Int) (a2 : Int) (r : Bool) (w : World) (h : skifflaw6_Images.f k a0 a1_0 a1_1 a1_2 a1_3 a2 = some r) :
  Calls Try.prog 3 #[.string a0, .agg #[.int .i64 a1_0, .int .i64 a1_1, .int .i64 a1_2, .int .i64 a1_3], .int .i64 a2] w fun e w' => e = .returned (.bool r) ∧ Below w.heap.size w w' := by
 have hu23 := Try.underlying23
 have HB := Aside0.mk (Below.refl w.heap.size w)
 have H : ((image_Base.f a2).bind fun bt259 => ((skiffref1_Base.f a2).bind fun bt261 => ((image_Of.f a0 a1_0 a1_1 a1_2 a1_3).bind fun bt263 => ((skiffref1_ImageOf.f a0 a1_0 a1_1 a1_2 a1_3).bind fun bt265 => ((image_Good.f a0 a1_0 a1_1 a1_2 a1_3).bind fun bt267 => ((skiffref1_Good.f a0 a1_0 a1_1 a1_2 a1_3).bind fun bt269 => (if bt259.1 = bt261.1 then ((skifflaw0_Num.f bt259.2).bind fun t271 => (if t271 = bt261.2 then (if bt263.1.toList = bt265.1.toList then ((skifflaw0_Num.f bt263.2).bind fun t272 => (if t272 = bt265.2 then (if (bt267.1 == bt269.1) = true then ((skifflaw0_Num.f bt267.2).bind fun t273 => (if t273 = bt269.2 then ((skifflaw6_awake.f k).bind fun t274 => (some t274)) else (none))) else (none)) else (none))) else (none)) else (none))) else (none)))))))) = some r := h
 clear h
 replace H := Option.bind_eq_some_iff.mp H
 obtain ⟨⟨t259, t260⟩, A40, H⟩ := H
 replace H : ((skiffref1_Base.f a2).bind fun bt261 => ((image_Of.f a0 a1_0 a1_1 a1_2 a1_3).bind fun bt263 => ((skiffref1_ImageOf.f a0 a1_0 a1_1 a1_2 a1_3).bind fun bt265 => ((image_Good.f a0 a1_0 a1_1 a1_2 a1_3).bind fun bt267 => ((skiffref1_Good.f a0 a1_0 a1_1 a1_2 a1_3).bind fun bt269 => (if t259 = bt261.1 then ((skifflaw0_Num.f t260).bind fun t271 => (if t271 = bt261.2 then (if bt263.1.toList = bt265.1.toList then ((skifflaw0_Num.f bt263.2).bind fun t272 => (if t272 = bt265.2 then (if (bt267.1 == bt269.1) = true then ((skifflaw0_Num.f bt267.2).bind fun t273 => (if t273 = bt269.2 then ((skifflaw6_awake.f k).bind fun t274 => (some t274)) else (none))) else (none)) else (none))) else (none)) else (none))) else (none))))))) = some r := H
 have A4 := Aside0.mk A40
 clear A40
 replace H := Option.bind_eq_some_iff.mp H
 obtain ⟨⟨t261, t262⟩, A50, H⟩ := H
 replace H : ((image_Of.f a0 a1_0 a1_1 a1_2 a1_3).bind fun bt263 => ((skiffref1_ImageOf.f a0 a1_0 a1_1 a1_2 a1_3).bind fun bt265 => ((image_Good.f a0 a1_0 a1_1 a1_2 a1_3).bind fun bt267 => ((skiffref1_Good.f a0 a1_0 a1_1 a1_2 a1_3).bind fun bt269 => (if t259 = t261 then ((skifflaw0_Num.f t260).bind fun t271 => (if t271 = t262 then (if bt263.1.toList = bt265.1.toList then ((skifflaw0_Num.f bt263.2).bind fun t272 => (if t272 = bt265.2 then (if (bt267.1 == bt269.1) = true then ((skifflaw0_Num.f bt267.2).bind fun t273 => (if t273 = bt269.2 then ((skifflaw6_awake.f k).bind fun t274 => (some t274)) else (none))) else (none)) else (none))) else (none)) else (none))) else (none)))))) = some r := H
 have A5 := Aside0.mk A50
 clear A50
 replace H := Option.bind_eq_some_iff.mp H
 obtain ⟨⟨t263, t264⟩, A60, H⟩ := H
 replace H : ((skiffref1_ImageOf.f a0 a1_0 a1_1 a1_2 a1_3).bind fun bt265 => ((image_Good.f a0 a1_0 a1_1 a1_2 a1_3).bind fun bt267 => ((skiffref1_Good.f a0 a1_0 a1_1 a1_2 a1_3).bind fun bt269 => (if t259 = t261 then ((skifflaw0_Num.f t260).bind fun t271 => (if t271 = t262 then (if t263.toList = bt265.1.toList then ((skifflaw0_Num.f t264).bind fun t272 => (if t272 = bt265.2 then (if (bt267.1 == bt269.1) = true then ((skifflaw0_Num.f bt267.2).bind fun t273 => (if t273 = bt269.2 then ((skifflaw6_awake.f k).bind fun t274 => (some t274)) else (none))) else (none)) else (none))) else (none)) else (none))) else (none))))) = some r := H
 have A6 := Aside0.mk A60
 clear A60
 replace H := Option.bind_eq_some_iff.mp H
 obtain ⟨⟨t265, t266⟩, A70, H⟩ := H
 replace H : ((image_Good.f a0 a1_0 a1_1 a1_2 a1_3).bind fun bt267 => ((skiffref1_Good.f a0 a1_0 a1_1 a1_2 a1_3).bind fun bt269 => (if t259 = t261 then ((skifflaw0_Num.f t260).bind fun t271 => (if t271 = t262 then (if t263.toList = t265.toList then ((skifflaw0_Num.f t264).bind fun t272 => (if t272 = t266 then (if (bt267.1 == bt269.1) = true then ((skifflaw0_Num.f bt267.2).bind fun t273 => (if t273 = bt269.2 then ((skifflaw6_awake.f k).bind fun t274 => (some t274)) else (none))) else (none)) else (none))) else (none)) else (none))) else (none)))) = some r := H
 have A7 := Aside0.mk A70
 clear A70
 replace H := Option.bind_eq_some_iff.mp H
 obtain ⟨⟨t267, t268⟩, A80, H⟩ := H
 replace H : ((skiffref1_Good.f a0 a1_0 a1_1 a1_2 a1_3).bind fun bt269 => (if t259 = t261 then ((skifflaw0_Num.f t260).bind fun t271 => (if t271 = t262 then (if t263.toList = t265.toList then ((skifflaw0_Num.f t264).bind fun t272 => (if t272 = t266 then (if (t267 == bt269.1) = true then ((skifflaw0_Num.f t268).bind fun t273 => (if t273 = bt269.2 then ((skifflaw6_awake.f k).bind fun t274 => (some t274)) else (none))) else (none)) else (none))) else (none)) else (none))) else (none))) = some r := H
 have A8 := Aside0.mk A80
 clear A80
 replace H := Option.bind_eq_some_iff.mp H
 obtain ⟨⟨t269, t270⟩, A90, H⟩ := H
 replace H : (if t259 = t261 then ((skifflaw0_Num.f t260).bind fun t271 => (if t271 = t262 then (if t263.toList = t265.toList then ((skifflaw0_Num.f t264).bind fun t272 => (if t272 = t266 then (if (t267 == t269) = true then ((skifflaw0_Num.f t268).bind fun t273 => (if t273 = t270 then ((skifflaw6_awake.f k).bind fun t274 => (some t274)) else (none))) else (none)) else (none))) else (none)) else (none))) else (none)) = some r := H
 have A9 := Aside0.mk A90
 clear A90
 by_cases c10 : t259 = t261
 ·rw [if_pos c10] at H
  have c10b0 : (t259 == t261) = true := beq_iff_eq.mpr c10
  have c10b1 : (t259 != t261) = false := bne_eq_false_iff_eq.mpr c10
  clear c10
  replace H := Option.bind_eq_some_iff.mp H
  obtain ⟨t271, A110, H⟩ := H
  replace H : (if t271 = t262 then (if t263.toList = t265.toList then ((skifflaw0_Num.f t264).bind fun t272 => (if t272 = t266 then (if (t267 == t269) = true then ((skifflaw0_Num.f t268).bind fun t273 => (if t273 = t270 then ((skifflaw6_awake.f k).bind fun t274 => (some t274)) else (none))) else (none)) else (none))) else (none)) else (none)) = some r := H
  have A11 := Aside0.mk A110
  clear A110
  by_cases c12 : t271 = t262
  ·rw [if_pos c12] at H
   have c12b0 : (t271 == t262) = true := beq_iff_eq.mpr c12
   have c12b1 : (t271 != t262) = false := bne_eq_false_iff_eq.mpr c12
   clear c12
   by_cases c13 : t263.toList = t265.toList
   ·rw [if_pos c13] at H
    have c13b0 : (t263.toList == t265.toList) = true := beq_iff_eq.mpr c13
    have c13b1 : (t263.toList != t265.toList) = false := bne_eq_false_iff_eq.mpr c13
    clear c13
    replace H := Option.bind_eq_some_iff.mp H
    obtain ⟨t272, A140, H⟩ := H
    replace H : (if t272 = t266 then (if (t267 == t269) = true then ((skifflaw0_Num.f t268).bind fun t273 => (if t273 = t270 then ((skifflaw6_awake.f k).bind fun t274 => (some t274)) else (none))) else (none)) else (none)) = some r := H
    have A14 := Aside0.mk A140
    clear A140
    by_cases c15 : t272 = t266
    ·rw [if_pos c15] at H
     have c15b0 : (t272 == t266) = true := beq_iff_eq.mpr c15
     have c15b1 : (t272 != t266) = false := bne_eq_false_iff_eq.mpr c15
     clear c15
     by_cases c16 : (t267 == t269) = true
     ·rw [if_pos c16] at H
      have c16b0 : (t267 == t269) = true := c16
      (try (have c16b1 : decide (t267 = t269) = true := by simpa using c16))
      (try (have c16b2 : (t267 == t269) = true := by simpa using c16))
      clear c16
      replace H := Option.bind_eq_some_iff.mp H
      obtain ⟨t273, A170, H⟩ := H
      replace H : (if t273 = t270 then ((skifflaw6_awake.f k).bind fun t274 => (some t274)) else (none)) = some r := H
      have A17 := Aside0.mk A170
      clear A170
      by_cases c18 : t273 = t270
      ·rw [if_pos c18] at H
       have c18b0 : (t273 == t270) = true := beq_iff_eq.mpr c18
       have c18b1 : (t273 != t270) = false := bne_eq_false_iff_eq.mpr c18
       clear c18
       replace H := Option.bind_eq_some_iff.mp H
       obtain ⟨t274, A190, H⟩ := H
       replace H : (some t274) = some r := H
       have A19 := Aside0.mk A190
       clear A190
       obtain rfl := Option.some.inj H
       go_enter Try.func3, Try.ntmps3
       go_wp2_with (first | ((with_reducible refine gate_dst (N := 4) rfl ?_); refine box_event ?hg (N := 4) ?hd (cs := #[.int .i64 a1_0, .int .i64 a1_1, .int .i64 a1_2, .int .i64 a1_3]) (t := 23) ?hr ?_; (case hd => rfl); (case hg => rfl); (case hr => first | (go_simp; done) | (go_simp; rfl)); intro gb258 hg w20 hbox hb; have n0_ := Aside0.mk (below_step (by repeat (first | (with_reducible first | exact HB.out | apply below_alloc | apply pw_below_drewN | apply below_drew1) | exact HB.out)) hb); have n1_ := Aside0.mk (hbox); have n2_ := Aside0.mk ((by rw [hg]; exact (below_size (by repeat (first | (with_reducible first | exact HB.out | apply below_alloc | apply pw_below_drewN | apply below_drew1) | exact HB.out))) : w.heap.size ≤ gb258)); have n3_ := Aside0.mk ((by rw [hg]; exact (below_size (by repeat (first | (with_reducible first | exact HB.out | apply below_alloc | apply pw_below_drewN | apply below_drew1) | exact HB.out))) : w.heap.size ≤ gb258)); clear HB; have HB := n0_; have BK258 := n1_; have GW258 := n2_; have GE258 := n3_; clear n0_ n1_ n2_ n3_; clear hb hbox hg) | ((with_reducible refine gate_callee (f := 7) rfl ?_); refine goesL_ (some 21) rfl rfl Try.func7 (by kernel_rfl) rfl #[.int .i64 a2] rfl (by (try simp only [List.map_toArray, List.map_cons, List.map_nil]); first | done | rfl | (simp only [List.length_drop, List.length_take]; rfl)) ?_; (with_reducible refine (image_Base.calls a2 t259 t260 _ A4.out).mono ?_); rintro e w' ⟨rfl, ⟨nd, rfl⟩⟩; refine ⟨_, rfl, ?_⟩) | ((with_reducible refine gate_callee (f := 8) rfl ?_); refine goesL_ (some 26) rfl rfl Try.func8 (by kernel_rfl) rfl #[.int .i64 a2] rfl (by (try simp only [List.map_toArray, List.map_cons, List.map_nil]); first | done | rfl | (simp only [List.length_drop, List.length_take]; rfl)) ?_; (with_reducible refine (skiffref1_Base.calls a2 t261 t262 _ A5.out).mono ?_); rintro e w' ⟨rfl, ⟨nd, rfl⟩⟩; refine ⟨_, rfl, ?_⟩; have hcz21_0 : w20.cell? ⟨gb258, 0, none⟩ = some (.int .i64 a1_0) := (blk_cell BK258.out 0).trans rfl; have hcz21_1 : w20.cell? ⟨gb258, 1, none⟩ = some (.int .i64 a1_1) := (blk_cell BK258.out 1).trans rfl; have hcz21_2 : w20.cell? ⟨gb258, 2, none⟩ = some (.int .i64 a1_2) := (blk_cell BK258.out 2).trans rfl; have hcz21_3 : w20.cell? ⟨gb258, 3, none⟩ = some (.int .i64 a1_3) := (blk_cell BK258.out 3).trans rfl; have hfz21_0 := blk_frozen BK258.out 0; have hfz21_1 := blk_frozen BK258.out 1; have hfz21_2 := blk_frozen BK258.out 2; have hfz21_3 := blk_frozen BK258.out 3) | ((with_reducible refine gate_callee (f := 9) rfl ?_); refine goesL_ (some 32) rfl rfl Try.func9 (by kernel_rfl) rfl #[.string a0, .agg #[.int .i64 a1_0, .int .i64 a1_1, .int .i64 a1_2, .int .i64 a1_3]] rfl (by (try simp only [List.map_toArray, List.map_cons, List.map_nil]); first | done | rfl | (simp only [List.length_drop, List.length_take]; rfl)) ?_; (with_reducible refine (image_Of.calls a0 a1_0 a1_1 a1_2 a1_3 t263 t264 _ A6.out).mono ?_); rintro e w22 ⟨rfl, hb⟩; refine ⟨_, rfl, ?_⟩; have n0_ := Aside0.mk (blk_below (g := gb258) (o := .cells #[.int .i64 a1_0, .int .i64 a1_1, .int .i64 a1_2, .int .i64 a1_3] 23 (0, 0)) (by (with_reducible repeat (first | refine blk_drewN ?_ _ | refine blk_drew ?_ | refine blk_alloc ?_ _)); exact BK258.out) hb); have n1_ := Aside0.mk (below_step (by repeat (first | (with_reducible first | exact HB.out | apply below_alloc | apply pw_below_drewN | apply below_drew1 | refine below_set ?_ GE258.out) | exact HB.out)) hb); clear BK258; clear HB; have BK258 := n0_; have HB := n1_; clear n0_ n1_; (try clear hb); (try clear hb2); (try clear hk); (try clear hi); have hcz23_0 : w22.cell? ⟨gb258, 0, none⟩ = some (.int .i64 a1_0) := (blk_cell BK258.out 0).trans rfl; have hcz23_1 : w22.cell? ⟨gb258, 1, none⟩ = some (.int .i64 a1_1) := (blk_cell BK258.out 1).trans rfl; have hcz23_2 : w22.cell? ⟨gb258, 2, none⟩ = some (.int .i64 a1_2) := (blk_cell BK258.out 2).trans rfl; have hcz23_3 : w22.cell? ⟨gb258, 3, none⟩ = some (.int .i64 a1_3) := (blk_cell BK258.out 3).trans rfl; have hfz23_0 := blk_frozen BK258.out 0; have hfz23_1 := blk_frozen BK258.out 1; have hfz23_2 := blk_frozen BK258.out 2; have hfz23_3 := blk_frozen BK258.out 3) | ((with_reducible refine gate_callee (f := 10) rfl ?_); refine goesL_ (some 38) rfl rfl Try.func10 (by kernel_rfl) rfl #[.string a0, .agg #[.int .i64 a1_0, .int .i64 a1_1, .int .i64 a1_2, .int .i64 a1_3]] rfl (by (try simp only [List.map_toArray, List.map_cons, List.map_nil]); first | done | rfl | (simp only [List.length_drop, List.length_take]; rfl)) ?_; (with_reducible refine (skiffref1_ImageOf.calls a0 a1_0 a1_1 a1_2 a1_3 t265 t266 _ A7.out).mono ?_); rintro e w24 ⟨rfl, hb⟩; refine ⟨_, rfl, ?_⟩; have n0_ := Aside0.mk (blk_below (g := gb258) (o := .cells #[.int .i64 a1_0, .int .i64 a1_1, .int .i64 a1_2, .int .i64 a1_3] 23 (0, 0)) (by (with_reducible repeat (first | refine blk_drewN ?_ _ | refine blk_drew ?_ | refine blk_alloc ?_ _)); exact BK258.out) hb); have n1_ := Aside0.mk (below_step (by repeat (first | (with_reducible first | exact HB.out | apply below_alloc | apply pw_below_drewN | apply below_drew1 | refine below_set ?_ GE258.out) | exact HB.out)) hb); clear BK258; clear HB; have BK258 := n0_; have HB := n1_; clear n0_ n1_; (try clear hb); (try clear hb2); (try clear hk); (try clear hi); have hcz25_0 : w24.cell? ⟨gb258, 0, none⟩ = some (.int .i64 a1_0) := (blk_cell BK258.out 0).trans rfl; have hcz25_1 : w24.cell? ⟨gb258, 1, none⟩ = some (.int .i64 a1_1) := (blk_cell BK258.out 1).trans rfl; have hcz25_2 : w24.cell? ⟨gb258, 2, none⟩ = some (.int .i64 a1_2) := (blk_cell BK258.out 2).trans rfl; have hcz25_3 : w24.cell? ⟨gb258, 3, none⟩ = some (.int .i64 a1_3) := (blk_cell BK258.out 3).trans rfl; have hfz25_0 := blk_frozen BK258.out 0; have hfz25_1 := blk_frozen BK258.out 1; have hfz25_2 := blk_frozen BK258.out 2; have hfz25_3 := blk_frozen BK258.out 3) | ((with_reducible refine gate_callee (f := 11) rfl ?_); refine goesL_ (some 44) rfl rfl Try.func11 (by kernel_rfl) rfl #[.string a0, .agg #[.int .i64 a1_0, .int .i64 a1_1, .int .i64 a1_2, .int .i64 a1_3]] rfl (by (try simp only [List.map_toArray, List.map_cons, List.map_nil]); first | done | rfl | (simp only [List.length_drop, List.length_take]; rfl)) ?_; (with_reducible refine (image_Good.calls a0 a1_0 a1_1 a1_2 a1_3 t267 t268 _ A8.out).mono ?_); rintro e w26 ⟨rfl, hb⟩; refine ⟨_, rfl, ?_⟩; have n0_ := Aside0.mk (blk_below (g := gb258) (o := .cells #[.int .i64 a1_0, .int .i64 a1_1, .int .i64 a1_2, .int .i64 a1_3] 23 (0, 0)) (by (with_reducible repeat (first | refine blk_drewN ?_ _ | refine blk_drew ?_ | refine blk_alloc ?_ _)); exact BK258.out) hb); have n1_ := Aside0.mk (below_step (by repeat (first | (with_reducible first | exact HB.out | apply below_alloc | apply pw_below_drewN | apply below_drew1 | refine below_set ?_ GE258.out) | exact HB.out)) hb); clear BK258; clear HB; have BK258 := n0_; have HB := n1_; clear n0_ n1_; (try clear hb); (try clear hb2); (try clear hk); (try clear hi); have hcz27_0 : w26.cell? ⟨gb258, 0, none⟩ = some (.int .i64 a1_0) := (blk_cell BK258.out 0).trans rfl; have hcz27_1 : w26.cell? ⟨gb258, 1, none⟩ = some (.int .i64 a1_1) := (blk_cell BK258.out 1).trans rfl; have hcz27_2 : w26.cell? ⟨gb258, 2, none⟩ = some (.int .i64 a1_2) := (blk_cell BK258.out 2).trans rfl; have hcz27_3 : w26.cell? ⟨gb258, 3, none⟩ = some (.int .i64 a1_3) := (blk_cell BK258.out 3).trans rfl; have hfz27_0 := blk_frozen BK258.out 0; have hfz27_1 := blk_frozen BK258.out 1; have hfz27_2 := blk_frozen BK258.out 2; have hfz27_3 := blk_frozen BK258.out 3) | ((with_reducible refine gate_callee (f := 12) rfl ?_); refine goesL_ (some 50) rfl rfl Try.func12 (by kernel_rfl) rfl #[.string a0, .agg #[.int .i64 a1_0, .int .i64 a1_1, .int .i64 a1_2, .int .i64 a1_3]] rfl (by (try simp only [List.map_toArray, List.map_cons, List.map_nil]); first | done | rfl | (simp only [List.length_drop, List.length_take]; rfl)) ?_; (with_reducible refine (skiffref1_Good.calls a0 a1_0 a1_1 a1_2 a1_3 t269 t270 _ A9.out).mono ?_); rintro e w28 ⟨rfl, hb⟩; refine ⟨_, rfl, ?_⟩; have n0_ := Aside0.mk (blk_below (g := gb258) (o := .cells #[.int .i64 a1_0, .int .i64 a1_1, .int .i64 a1_2, .int .i64 a1_3] 23 (0, 0)) (by (with_reducible repeat (first | refine blk_drewN ?_ _ | refine blk_drew ?_ | refine blk_alloc ?_ _)); exact BK258.out) hb); have n1_ := Aside0.mk (below_step (by repeat (first | (with_reducible first | exact HB.out | apply below_alloc | apply pw_below_drewN | apply below_drew1 | refine below_set ?_ GE258.out) | exact HB.out)) hb); clear BK258; clear HB; have BK258 := n0_; have HB := n1_; clear n0_ n1_; (try clear hb); (try clear hb2); (try clear hk); (try clear hi)) | (go_at_call 13; (with_reducible refine (skifflaw0_Num.calls t260 t271 _ A11.out).mono ?_); rintro e w' ⟨rfl, ⟨nd, rfl⟩⟩) | (go_at_call 13; (with_reducible refine (skifflaw0_Num.calls t264 t272 _ A14.out).mono ?_); rintro e w' ⟨rfl, ⟨nd, rfl⟩⟩) | (go_at_call 13; (with_reducible refine (skifflaw0_Num.calls t268 t273 _ A17.out).mono ?_); rintro e w' ⟨rfl, ⟨nd, rfl⟩⟩) | (go_at_call 14; (with_reducible refine (skifflaw6_awake.calls k  t274 _ A19.out).mono ?_); rintro e w29 ⟨rfl, hb⟩; have n0_ := Aside0.mk (blk_below (g := gb258) (o := .cells #[.int .i64 a1_0, .int .i64 a1_1, .int .i64 a1_2, .int .i64 a1_3] 23 (0, 0)) (by (with_reducible repeat (first | refine blk_drewN ?_ _ | refine blk_drew ?_ | refine blk_alloc ?_ _)); exact BK258.out) hb); have n1_ := Aside0.mk (below_step (by repeat (first | (with_reducible first | exact HB.out | apply below_alloc | apply pw_below_drewN | apply below_drew1 | refine below_set ?_ GE258.out) | exact HB.out)) hb); clear BK258; clear HB; have BK258 := n0_; have HB := n1_; clear n0_ n1_; (try clear hb); (try clear hb2); (try clear hk); (try clear hi)))
       go_ret
       exact ⟨by first | rfl | (simp [errW_none, errW_some] <;> rfl) | (simp [*, errW_none, errW_some] <;> rfl), by repeat (first | (with_reducible first | exact HB.out | apply below_alloc | apply pw_below_drewN | apply below_drew1 | refine below_set ?_ GE258.out) | exact HB.out)⟩
      ·rw [if_neg c18] at H
       exact absurd H (by simp)
     ·rw [if_neg c16] at H
      exact absurd H (by simp)
    ·rw [if_neg c15] at H
     exact absurd H (by simp)
   ·rw [if_neg c13] at H
    exact absurd H (by simp)
  ·rw [if_neg c12] at H
   exact absurd H (by simp)
 ·rw [if_neg c10] at H
  exact absurd H (by simp)

end Go.Proofs.Ytbibmdnjidmchaa.P
