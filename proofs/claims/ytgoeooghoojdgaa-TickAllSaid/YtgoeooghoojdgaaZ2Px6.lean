-- written by wip/prt.py of this repo, by the kit's print, over contracts that are proved here by hand
import Derived.Test.YtgoeooghoojdgaaZ2Cz
import Derived.Test.YtgoeooghoojdgaaZ2GivTick
import Derived.Test.YtgoeooghoojdgaaZ2Px0
import Derived.Test.YtgoeooghoojdgaaZ2Px1
import Derived.Test.YtgoeooghoojdgaaZ2Px2
import Derived.Test.YtgoeooghoojdgaaZ2Px3
import Derived.Test.YtgoeooghoojdgaaZ2Px4
import Derived.Test.YtgoeooghoojdgaaZ2Px5
namespace Go.Proofs.Ytgoeooghoojdgaa.P
open Go.RowKit Go.Proofs.YtgoeooghoojdgaaW.PrintWords Go.Proofs.YtgoeooghoojdgaaW.PrintLast Go.Proofs.YtgoeooghoojdgaaW.PrintMore
attribute [local go_sem] max2_int min2_int max_two min_two max_three min_three max_four min_four   -- for this text's walks alone
set_option linter.unusedVariables false
set_option linter.unusedSimpArgs false

attribute [local go_sem high] eqA40

/-! ### tick_Cut: function 12 -/
mutual
def tick_Cut.j0 : Nat → ByteArray → Int → Bool → Int → Int → Int → Int → Int → List (S40) → Option (ByteArray × Int × Int × Int × Int × Int × (List (S40)) × Int)
 | 0, _, _, _, _, _, _, _, _, _ => none
 | k + 1, x0, x2, x24, x239000, x239001, x239002, x239003, x239004, x239005 => if x24 = true then (some ((⟨#[]⟩ : ByteArray), 0, 0, 0, 0, 0, ([] : List (S40)), 1800)) else ((tick_Works.f x239000 x239001 x239002 x239003 x239004 x239005).bind fun t242 => (if t242 = true then (tick_Cut.j1 k x0 x2 (decide ((x239005.length : Int) > 0)) x239000 x239001 x239002 x239003 x239004 x239005) else (tick_Cut.j1 k x0 x2 false x239000 x239001 x239002 x239003 x239004 x239005)))
def tick_Cut.j1 : Nat → ByteArray → Int → Bool → Int → Int → Int → Int → Int → List (S40) → Option (ByteArray × Int × Int × Int × Int × Int × (List (S40)) × Int)
 | 0, _, _, _, _, _, _, _, _, _ => none
 | k + 1, x0, x2, x32, x239000, x239001, x239002, x239003, x239004, x239005 => if x32 = true then (if 0 < (x239005.length : Int) then ((ops_Cut.f k x0 ((rd_T40 x239005 0).f0) ((rd_T40 x239005 0).f1) ((rd_T40 x239005 0).f2) x2).bind fun bt244 => ((device_New.f).bind fun bt246 => (some (bt244.1, bt246.1, bt246.2.1, bt246.2.2.1, bt246.2.2.2.1, bt246.2.2.2.2.1, bt246.2.2.2.2.2, 0)))) else (none)) else ((device_New.f).bind fun bt254 => (some (x0, bt254.1, bt254.2.1, bt254.2.2.1, bt254.2.2.2.1, bt254.2.2.2.2.1, bt254.2.2.2.2.2, 0)))
end
def tick_Cut.f (k : Nat) (a0 : ByteArray) (a1_0 : Int) (a1_1 : Int) (a1_2 : Int) (a1_3 : Int) (a1_4 : Int) (l1_5 : List (S40)) (a2 : Int) : Option (ByteArray × Int × Int × Int × Int × Int × (List (S40)) × Int) := (nor_May.f a0).bind fun t240 => (if t240 = true then ((device_May.f a1_0 a1_1 a1_2 a1_3 a1_4 l1_5).bind fun t241 => (if t241 = true then (if a2 < 0 then (tick_Cut.j0 k a0 a2 true a1_0 a1_1 a1_2 a1_3 a1_4 l1_5) else (tick_Cut.j0 k a0 a2 (decide (a2 > 96)) a1_0 a1_1 a1_2 a1_3 a1_4 l1_5)) else (tick_Cut.j0 k a0 a2 true a1_0 a1_1 a1_2 a1_3 a1_4 l1_5))) else (tick_Cut.j0 k a0 a2 true a1_0 a1_1 a1_2 a1_3 a1_4 l1_5))
theorem tick_Cut.mono_l : ∀ k, (∀ y0 y1 y2 y3 y4 y5 y6 y7 y8, LeO (tick_Cut.j0 k y0 y1 y2 y3 y4 y5 y6 y7 y8) (tick_Cut.j0 (k + 1) y0 y1 y2 y3 y4 y5 y6 y7 y8)) ∧ (∀ y0 y1 y2 y3 y4 y5 y6 y7 y8, LeO (tick_Cut.j1 k y0 y1 y2 y3 y4 y5 y6 y7 y8) (tick_Cut.j1 (k + 1) y0 y1 y2 y3 y4 y5 y6 y7 y8))
 | 0 => ⟨fun _ _ _ _ _ _ _ _ _ r h => by simp [tick_Cut.j0] at h, fun _ _ _ _ _ _ _ _ _ r h => by simp [tick_Cut.j1] at h⟩
 | k + 1 => by
  obtain ⟨ih0, ih1⟩ := tick_Cut.mono_l k
  refine ⟨?_, ?_⟩
  ·intro y0 y1 y2 y3 y4 y5 y6 y7 y8
   unfold tick_Cut.j0
   repeat' first
   | (with_reducible exact ih0 _ _ _ _ _ _ _ _ _)
   | (with_reducible exact ih1 _ _ _ _ _ _ _ _ _)
   | (with_reducible exact ops_Cut.mono _ _ _ _ _ _)
   | (with_reducible exact LeO.refl _)
   | (with_reducible exact LeO.none _)
   | (with_reducible refine LeO.ite ?_ ?_)
   | (with_reducible refine LeO.bind ?_ (fun _ => ?_))
   | exact ih0 _ _ _ _ _ _ _ _ _
   | exact ih1 _ _ _ _ _ _ _ _ _
   | exact ops_Cut.mono _ _ _ _ _ _
   | exact LeO.none _
   | refine LeO.ite ?_ ?_
   | refine LeO.bind ?_ (fun _ => ?_)
  ·intro y0 y1 y2 y3 y4 y5 y6 y7 y8
   unfold tick_Cut.j1
   repeat' first
   | (with_reducible exact ih0 _ _ _ _ _ _ _ _ _)
   | (with_reducible exact ih1 _ _ _ _ _ _ _ _ _)
   | (with_reducible exact ops_Cut.mono _ _ _ _ _ _)
   | (with_reducible exact LeO.refl _)
   | (with_reducible exact LeO.none _)
   | (with_reducible refine LeO.ite ?_ ?_)
   | (with_reducible refine LeO.bind ?_ (fun _ => ?_))
   | exact ih0 _ _ _ _ _ _ _ _ _
   | exact ih1 _ _ _ _ _ _ _ _ _
   | exact ops_Cut.mono _ _ _ _ _ _
   | exact LeO.none _
   | refine LeO.ite ?_ ?_
   | refine LeO.bind ?_ (fun _ => ?_)
theorem tick_Cut.mono : ∀ a0 a1 a2 a3 a4 a5 a6 a7 k, LeO (tick_Cut.f k a0 a1 a2 a3 a4 a5 a6 a7) (tick_Cut.f (k + 1) a0 a1 a2 a3 a4 a5 a6 a7) := by
 intro a0 a1 a2 a3 a4 a5 a6 a7 k
 obtain ⟨ih0, ih1⟩ := tick_Cut.mono_l k
 unfold tick_Cut.f
 repeat' first
   | (with_reducible exact ih0 _ _ _ _ _ _ _ _ _)
   | (with_reducible exact ih1 _ _ _ _ _ _ _ _ _)
   | (with_reducible exact ops_Cut.mono _ _ _ _ _ _)
   | (with_reducible exact LeO.refl _)
   | (with_reducible exact LeO.none _)
   | (with_reducible refine LeO.ite ?_ ?_)
   | (with_reducible refine LeO.bind ?_ (fun _ => ?_))
   | exact ih0 _ _ _ _ _ _ _ _ _
   | exact ih1 _ _ _ _ _ _ _ _ _
   | exact ops_Cut.mono _ _ _ _ _ _
   | exact LeO.none _
   | refine LeO.ite ?_ ?_
   | refine LeO.bind ?_ (fun _ => ?_)
set_option maxHeartbeats 8000000 in
set_option maxRecDepth 100000 in
theorem tick_Cut.calls (k : Nat) (a0 : ByteArray) (a1_0 : Int) (a1_1 : Int) (a1_2 : Int) (a1_3 : Int) (a1_4 : Int) (A1_5 : Option Addr) (c1_5 : Nat) (l1_5 : List (S40)) (a2 : Int) (r1 : ByteArray) (r2 : Int) (r3 : Int) (r4 : Int) (r5 : Int) (r6 : Int) (r7 : List (S40)) (r8 : Int) (w : World) (hr1_5 : Kd.C k40 w A1_5 l1_5.length l1_5) (hc1_5 : l1_5.length ≤ c1_5) (h : tick_Cut.f k a0 a1_0 a1_1 a1_2 a1_3 a1_4 l1_5 a2 = some (r1, r2, r3, r4, r5, r6, r7, r8)) :
  Calls Try.prog 12 #[.string a0, .agg #[.int .i64 a1_0, .int .i64 a1_1, .int .i64 a1_2, .int .i64 a1_3, .int .i64 a1_4, .slice A1_5 l1_5.length c1_5], .int .i64 a2] w fun e w' => ∃ v6_ : Value, e = .returned (.tuple #[.string r1, .agg #[.int .i64 r2, .int .i64 r3, .int .i64 r4, .int .i64 r5, .int .i64 r6, v6_], .int .i64 r8]) ∧ Kd.R k40 40 w' w.heap.size (fun _ => True) v6_ r7 ∧ Below w.heap.size w w' := by
 have hu24 := Try.underlying24
 have hu40 := Try.underlying40
 have HR1_5 := Aside0.mk hr1_5
 have HC1_5 := Aside0.mk hc1_5
 clear hr1_5 hc1_5
 have HB := Aside0.mk (Below.refl w.heap.size w)
 have H : ((nor_May.f a0).bind fun t240 => (if t240 = true then ((device_May.f a1_0 a1_1 a1_2 a1_3 a1_4 l1_5).bind fun t241 => (if t241 = true then (if a2 < 0 then (tick_Cut.j0 k a0 a2 true a1_0 a1_1 a1_2 a1_3 a1_4 l1_5) else (tick_Cut.j0 k a0 a2 (decide (a2 > 96)) a1_0 a1_1 a1_2 a1_3 a1_4 l1_5)) else (tick_Cut.j0 k a0 a2 true a1_0 a1_1 a1_2 a1_3 a1_4 l1_5))) else (tick_Cut.j0 k a0 a2 true a1_0 a1_1 a1_2 a1_3 a1_4 l1_5))) = some (r1, r2, r3, r4, r5, r6, r7, r8) := h
 clear h
 have HC4 := Aside0.mk H
 clear H
 go_enter Try.func12, Try.ntmps12
 go_upto_region 1 with (first | ((with_reducible refine gate_dst (N := 4) rfl ?_); (try (refine gate_guard (by rfl) ?_; dsimp only)); refine box_event ?hg (N := 4) ?hd (cs := #[.int .i64 a1_0, .int .i64 a1_1, .int .i64 a1_2, .int .i64 a1_3, .int .i64 a1_4, .slice A1_5 l1_5.length c1_5]) (t := 24) ?hr ?_; (case hd => rfl); (case hg => rfl); (case hr => first | (go_simp; done) | (go_simp; rfl)); intro gb238 hg w5 hbox hb; have n0_ := Aside0.mk (below_step (kb HB.out) hb); have n1_ := Aside0.mk (hbox); have n2_ := Aside0.mk ((kz hg (below_size (kb HB.out)) : w.heap.size ≤ gb238)); have n3_ := Aside0.mk ((kz hg (below_size (kb HB.out)) : w.heap.size ≤ gb238)); clear HB; have HB := n0_; have BK238 := n1_; have GW238 := n2_; have GE238 := n3_; clear n0_ n1_ n2_ n3_; clear hb hbox hg) | ((with_reducible refine gate_dst (N := 7) rfl ?_); (try (refine gate_guard (by rfl) ?_; dsimp only)); refine box_event ?hg (N := 7) ?hd (cs := #[.int .i64 0, .int .i64 0, .int .i64 0, .int .i64 0, .int .i64 0, .slice none 0 0]) (t := 24) ?hr ?_; (case hd => rfl); (case hg => rfl); (case hr => first | (go_simp; done) | (go_simp; rfl)); intro gb239 hg w6 hbox hb; have n0_ := Aside0.mk (kL BK238.out hb); have n1_ := Aside0.mk (below_step (kb1 HB.out GE238.out) hb); have n2_ := Aside0.mk (hbox); have n3_ := Aside0.mk ((kz hg (below_size (kb1 HB.out GE238.out)) : w.heap.size ≤ gb239)); have n4_ := Aside0.mk ((kz hg (below_size (kb1 HB.out GE238.out)) : w.heap.size ≤ gb239)); have n5_ := Aside0.mk ((kN hg BK238.out : gb238 ≠ gb239)); have n6_ := Aside0.mk (((kN hg BK238.out).symm : gb239 ≠ gb238)); clear BK238; clear HB; have BK238 := n0_; have HB := n1_; have BK239 := n2_; have GW239 := n3_; have GE239 := n4_; have NB238_239 := n5_; have NB239_238 := n6_; clear n0_ n1_ n2_ n3_ n4_ n5_ n6_; clear hb hbox hg))
 (try simp only [Act.put, List.setIfInBounds_toArray, List.set_cons_zero, List.set_cons_succ])
 go_cut [24] (fun v24 wc => ∃ (kq : Nat) (x24_3 : Bool), v24 = .bool x24_3 ∧ Aside0 (tick_Cut.j0 kq a0 a2 x24_3 a1_0 a1_1 a1_2 a1_3 a1_4 l1_5 = some (r1, r2, r3, r4, r5, r6, r7, r8)) ∧ Aside0 (kq ≤ k) ∧ Aside0 (wc.heap[gb238]? = some (.cells #[.int .i64 a1_0, .int .i64 a1_1, .int .i64 a1_2, .int .i64 a1_3, .int .i64 a1_4, (.slice A1_5 l1_5.length c1_5)] 24 (0, 0))) ∧ Aside0 (wc.heap[gb239]? = some (.cells #[.int .i64 0, .int .i64 0, .int .i64 0, .int .i64 0, .int .i64 0, (.slice none 0 0)] 24 (0, 0))) ∧ Aside0 (Below w.heap.size w wc))
 case first =>
  have H := HC4.out
  clear HC4
  replace H := Option.bind_eq_some_iff.mp H
  obtain ⟨t240, A70, H⟩ := H
  replace H : (if t240 = true then ((device_May.f a1_0 a1_1 a1_2 a1_3 a1_4 l1_5).bind fun t241 => (if t241 = true then (if a2 < 0 then (tick_Cut.j0 k a0 a2 true a1_0 a1_1 a1_2 a1_3 a1_4 l1_5) else (tick_Cut.j0 k a0 a2 (decide (a2 > 96)) a1_0 a1_1 a1_2 a1_3 a1_4 l1_5)) else (tick_Cut.j0 k a0 a2 true a1_0 a1_1 a1_2 a1_3 a1_4 l1_5))) else (tick_Cut.j0 k a0 a2 true a1_0 a1_1 a1_2 a1_3 a1_4 l1_5)) = some (r1, r2, r3, r4, r5, r6, r7, r8) := H
  have A7 := Aside0.mk A70
  clear A70
  by_cases c8 : t240 = true
  case neg =>
   replace c8 := Bool.eq_false_iff.mpr c8
   subst c8
   have H1 : (tick_Cut.j0 k a0 a2 true a1_0 a1_1 a1_2 a1_3 a1_4 l1_5) = some (r1, r2, r3, r4, r5, r6, r7, r8) := by rw [if_neg (show ¬ (false = true) by decide)] at H; exact H
   clear H; have H := H1; clear H1
   have H' := Aside0.mk H
   clear H
   go_wp2_with (first | ((with_reducible refine gate_callee (f := 25) rfl ?_); refine goesL_ (some 10) rfl rfl Try.func25 (by kernel_rfl) rfl #[.string a0] rfl ka ?_; (with_reducible refine (nor_May.calls a0 false _ A7.out).mono ?_); rintro e w' ⟨rfl, ⟨nd, rfl⟩⟩; refine ⟨_, rfl, ?_⟩))
   go_meet
   case rel => exact ⟨_, (true), (by first | rfl | (simp; done) | (simp [*]; done)), H', ⟨by first | omega | exact Nat.le_refl _⟩, ⟨kB BK238.out⟩, ⟨kB BK239.out⟩, ⟨kb2 HB.out GE238.out GE239.out⟩⟩
  subst c8
  have H1 : ((device_May.f a1_0 a1_1 a1_2 a1_3 a1_4 l1_5).bind fun t241 => (if t241 = true then (if a2 < 0 then (tick_Cut.j0 k a0 a2 true a1_0 a1_1 a1_2 a1_3 a1_4 l1_5) else (tick_Cut.j0 k a0 a2 (decide (a2 > 96)) a1_0 a1_1 a1_2 a1_3 a1_4 l1_5)) else (tick_Cut.j0 k a0 a2 true a1_0 a1_1 a1_2 a1_3 a1_4 l1_5))) = some (r1, r2, r3, r4, r5, r6, r7, r8) := by rw [if_pos rfl] at H; exact H
  clear H; have H := H1; clear H1
  replace H := Option.bind_eq_some_iff.mp H
  obtain ⟨t241, A90, H⟩ := H
  replace H : (if t241 = true then (if a2 < 0 then (tick_Cut.j0 k a0 a2 true a1_0 a1_1 a1_2 a1_3 a1_4 l1_5) else (tick_Cut.j0 k a0 a2 (decide (a2 > 96)) a1_0 a1_1 a1_2 a1_3 a1_4 l1_5)) else (tick_Cut.j0 k a0 a2 true a1_0 a1_1 a1_2 a1_3 a1_4 l1_5)) = some (r1, r2, r3, r4, r5, r6, r7, r8) := H
  have A9 := Aside0.mk A90
  clear A90
  by_cases c10 : t241 = true
  case neg =>
   replace c10 := Bool.eq_false_iff.mpr c10
   subst c10
   have H1 : (tick_Cut.j0 k a0 a2 true a1_0 a1_1 a1_2 a1_3 a1_4 l1_5) = some (r1, r2, r3, r4, r5, r6, r7, r8) := by rw [if_neg (show ¬ (false = true) by decide)] at H; exact H
   clear H; have H := H1; clear H1
   have H' := Aside0.mk H
   clear H
   go_wp2_with (first | ((with_reducible refine gate_callee (f := 25) rfl ?_); refine goesL_ (some 10) rfl rfl Try.func25 (by kernel_rfl) rfl #[.string a0] rfl ka ?_; (with_reducible refine (nor_May.calls a0 true _ A7.out).mono ?_); rintro e w' ⟨rfl, ⟨nd, rfl⟩⟩; refine ⟨_, rfl, ?_⟩; have hnb18 := NB238_239.out; have hnc18 := NB239_238.out; obtain ⟨hcz19_0, hcz19_1, hcz19_2, hcz19_3, hcz19_4, hcz19_5⟩ := kc6 BK238.out; obtain ⟨hfz19_0, hfz19_1, hfz19_2, hfz19_3, hfz19_4, hfz19_5⟩ := kf6 BK238.out) | (go_at_call 26; (with_reducible refine (device_May.calls a1_0 a1_1 a1_2 a1_3 a1_4 _ _ l1_5 false _ ?side1 ?side2 A9.out).mono ?_); (case side1 => repeat (first | exact (Kd.C_below HR1_5.out (kb2 HB.out GE238.out GE239.out)) | (with_reducible refine Kd.C_alloc ?_ _) | (with_reducible refine Kd.C_drewN ?_ _) | (with_reducible refine Kd.C_drew ?_))); (case side2 => exact HC1_5.out); rintro e w20 ⟨rfl, hb⟩; have n0_ := Aside0.mk (kL BK238.out hb); have n1_ := Aside0.mk (kL BK239.out hb); have n2_ := Aside0.mk (below_step (kb2 HB.out GE238.out GE239.out) hb); clear BK238; clear BK239; clear HB; have BK238 := n0_; have BK239 := n1_; have HB := n2_; clear n0_ n1_ n2_; (try clear hb); (try clear hb2); (try clear hk); (try clear hi)))
   go_meet
   case rel => exact ⟨_, (true), (by first | rfl | (simp; done) | (simp [*]; done)), H', ⟨by first | omega | exact Nat.le_refl _⟩, ⟨kB BK238.out⟩, ⟨kB BK239.out⟩, ⟨kb2 HB.out GE238.out GE239.out⟩⟩
  subst c10
  have H1 : (if a2 < 0 then (tick_Cut.j0 k a0 a2 true a1_0 a1_1 a1_2 a1_3 a1_4 l1_5) else (tick_Cut.j0 k a0 a2 (decide (a2 > 96)) a1_0 a1_1 a1_2 a1_3 a1_4 l1_5)) = some (r1, r2, r3, r4, r5, r6, r7, r8) := by rw [if_pos rfl] at H; exact H
  clear H; have H := H1; clear H1
  by_cases c11 : a2 < 0
  case neg =>
   rw [if_neg c11] at H
   have c11b0 : decide (a2 < 0) = false := decide_eq_false c11
   clear c11
   (first | rw [c11b0] | rw [c11b1] | (simp only [i64_w, i32_w]; rw [c11b0]) | skip)
   have H' := Aside0.mk H
   clear H
   go_wp2_with (first | ((with_reducible refine gate_callee (f := 25) rfl ?_); refine goesL_ (some 10) rfl rfl Try.func25 (by kernel_rfl) rfl #[.string a0] rfl ka ?_; (with_reducible refine (nor_May.calls a0 true _ A7.out).mono ?_); rintro e w' ⟨rfl, ⟨nd, rfl⟩⟩; refine ⟨_, rfl, ?_⟩; have hnb15 := NB238_239.out; have hnc15 := NB239_238.out; obtain ⟨hcz16_0, hcz16_1, hcz16_2, hcz16_3, hcz16_4, hcz16_5⟩ := kc6 BK238.out; obtain ⟨hfz16_0, hfz16_1, hfz16_2, hfz16_3, hfz16_4, hfz16_5⟩ := kf6 BK238.out) | (go_at_call 26; (with_reducible refine (device_May.calls a1_0 a1_1 a1_2 a1_3 a1_4 _ _ l1_5 true _ ?side1 ?side2 A9.out).mono ?_); (case side1 => repeat (first | exact (Kd.C_below HR1_5.out (kb2 HB.out GE238.out GE239.out)) | (with_reducible refine Kd.C_alloc ?_ _) | (with_reducible refine Kd.C_drewN ?_ _) | (with_reducible refine Kd.C_drew ?_))); (case side2 => exact HC1_5.out); rintro e w17 ⟨rfl, hb⟩; have n0_ := Aside0.mk (kL BK238.out hb); have n1_ := Aside0.mk (kL BK239.out hb); have n2_ := Aside0.mk (below_step (kb2 HB.out GE238.out GE239.out) hb); clear BK238; clear BK239; clear HB; have BK238 := n0_; have BK239 := n1_; have HB := n2_; clear n0_ n1_ n2_; (try clear hb); (try clear hb2); (try clear hk); (try clear hi)))
   go_meet
   case rel => exact ⟨_, (decide (a2 > 96)), (by first | rfl | (simp; done) | (simp [*]; done)), H', ⟨by first | omega | exact Nat.le_refl _⟩, ⟨kB BK238.out⟩, ⟨kB BK239.out⟩, ⟨kb2 HB.out GE238.out GE239.out⟩⟩
  rw [if_pos c11] at H
  have c11b0 : decide (a2 < 0) = true := decide_eq_true c11
  clear c11
  (first | rw [c11b0] | rw [c11b1] | (simp only [i64_w, i32_w]; rw [c11b0]) | skip)
  have H' := Aside0.mk H
  clear H
  go_wp2_with (first | ((with_reducible refine gate_callee (f := 25) rfl ?_); refine goesL_ (some 10) rfl rfl Try.func25 (by kernel_rfl) rfl #[.string a0] rfl ka ?_; (with_reducible refine (nor_May.calls a0 true _ A7.out).mono ?_); rintro e w' ⟨rfl, ⟨nd, rfl⟩⟩; refine ⟨_, rfl, ?_⟩; have hnb12 := NB238_239.out; have hnc12 := NB239_238.out; obtain ⟨hcz13_0, hcz13_1, hcz13_2, hcz13_3, hcz13_4, hcz13_5⟩ := kc6 BK238.out; obtain ⟨hfz13_0, hfz13_1, hfz13_2, hfz13_3, hfz13_4, hfz13_5⟩ := kf6 BK238.out) | (go_at_call 26; (with_reducible refine (device_May.calls a1_0 a1_1 a1_2 a1_3 a1_4 _ _ l1_5 true _ ?side1 ?side2 A9.out).mono ?_); (case side1 => repeat (first | exact (Kd.C_below HR1_5.out (kb2 HB.out GE238.out GE239.out)) | (with_reducible refine Kd.C_alloc ?_ _) | (with_reducible refine Kd.C_drewN ?_ _) | (with_reducible refine Kd.C_drew ?_))); (case side2 => exact HC1_5.out); rintro e w14 ⟨rfl, hb⟩; have n0_ := Aside0.mk (kL BK238.out hb); have n1_ := Aside0.mk (kL BK239.out hb); have n2_ := Aside0.mk (below_step (kb2 HB.out GE238.out GE239.out) hb); clear BK238; clear BK239; clear HB; have BK238 := n0_; have BK239 := n1_; have HB := n2_; clear n0_ n1_ n2_; (try clear hb); (try clear hb2); (try clear hk); (try clear hi)))
  go_meet
  case rel => exact ⟨_, (true), (by first | rfl | (simp; done) | (simp [*]; done)), H', ⟨by first | omega | exact Nat.le_refl _⟩, ⟨kB BK238.out⟩, ⟨kB BK239.out⟩, ⟨kb2 HB.out GE238.out GE239.out⟩⟩
 case rest =>
  clear HC4
  try clear c1; try clear c2; try clear p2; try clear c8; try clear c10; try clear c11; try clear c11b0; try clear c12; try clear c15; try clear c18; try clear hcz13_0; try clear hcz13_1; try clear hcz13_2; try clear hcz13_3; try clear hcz13_4; try clear hcz13_5; try clear hcz16_0; try clear hcz16_1; try clear hcz16_2; try clear hcz16_3; try clear hcz16_4; try clear hcz16_5; try clear hcz19_0; try clear hcz19_1; try clear hcz19_2; try clear hcz19_3; try clear hcz19_4; try clear hcz19_5; try clear hfz13_0; try clear hfz13_1; try clear hfz13_2; try clear hfz13_3; try clear hfz13_4; try clear hfz13_5; try clear hfz16_0; try clear hfz16_1; try clear hfz16_2; try clear hfz16_3; try clear hfz16_4; try clear hfz16_5; try clear hfz19_0; try clear hfz19_1; try clear hfz19_2; try clear hfz19_3; try clear hfz19_4; try clear hfz19_5
  obtain ⟨kq, x24_3, rfl, HA, HJ3, BK238, BK239, HB⟩ := hcut
  cases kq with
  | zero => exact absurd HA.out (by simp [tick_Cut.j0])
  | succ kj3 =>
   have H := HA.out
   clear HA
   simp only [tick_Cut.j0] at H
   by_cases c21 : x24_3 = true
   ·subst c21
    have H1 : (some ((⟨#[]⟩ : ByteArray), 0, 0, 0, 0, 0, ([] : List (S40)), 1800)) = some (r1, r2, r3, r4, r5, r6, r7, r8) := by rw [if_pos rfl] at H; exact H
    clear H; have H := H1; clear H1
    simp only [Option.some.injEq, Prod.mk.injEq] at H
    obtain ⟨rfl, rfl, rfl, rfl, rfl, rfl, rfl, rfl⟩ := H
    have hnb22 := NB239_238.out
    have hnc22 := NB238_239.out
    obtain ⟨hcz23_0, hcz23_1, hcz23_2, hcz23_3, hcz23_4, hcz23_5⟩ := kc6 BK239.out
    obtain ⟨hfz23_0, hfz23_1, hfz23_2, hfz23_3, hfz23_4, hfz23_5⟩ := kf6 BK239.out
    go_wp2
    refine bodyPost_ret (results_list (rs := [.tmp 6, .cell 7 24, .tmp 8]) rfl (by simp) (.tmp (.cell gb239 24 #[.int .i64 0, .int .i64 0, .int .i64 0, .int .i64 0, .int .i64 0, .slice none 0 0] (0, 0) _ rfl (kP6 BK239.out) Try.underlying24 rfl (by kernel_rfl) (.tmp .nil)))) rfl ?_
    exact ⟨_, by first | rfl | (simp [errW_none, errW_some] <;> rfl) | (simp [*, errW_none, errW_some] <;> rfl), by first | exact Kd.R_nil _ _ _ _ _ | exact Kd.N_nil _ _ _ _ _ | exact Kd.V_nil _ _ _ _ _ | exact Kd.Q_nil _ _ _ _ _ | exact Kd.S_nil _ _ _ _ _, kb2 HB.out GE238.out GE239.out⟩
   ·replace c21 := Bool.eq_false_iff.mpr c21
    subst c21
    have H1 : ((tick_Works.f a1_0 a1_1 a1_2 a1_3 a1_4 l1_5).bind fun t242 => (if t242 = true then (tick_Cut.j1 kj3 a0 a2 (decide ((l1_5.length : Int) > 0)) a1_0 a1_1 a1_2 a1_3 a1_4 l1_5) else (tick_Cut.j1 kj3 a0 a2 false a1_0 a1_1 a1_2 a1_3 a1_4 l1_5))) = some (r1, r2, r3, r4, r5, r6, r7, r8) := by rw [if_neg (show ¬ (false = true) by decide)] at H; exact H
    clear H; have H := H1; clear H1
    have HC24 := Aside0.mk H
    clear H
    have hnb25 := NB238_239.out
    have hnc25 := NB239_238.out
    obtain ⟨hcz26_0, hcz26_1, hcz26_2, hcz26_3, hcz26_4, hcz26_5⟩ := kc6 BK238.out
    obtain ⟨hfz26_0, hfz26_1, hfz26_2, hfz26_3, hfz26_4, hfz26_5⟩ := kf6 BK238.out
    go_upto_region 3 with (fail)
    go_cut [32] (fun v32 wc => ∃ (kq : Nat) (x32_23 : Bool), v32 = .bool x32_23 ∧ Aside0 (tick_Cut.j1 kq a0 a2 x32_23 a1_0 a1_1 a1_2 a1_3 a1_4 l1_5 = some (r1, r2, r3, r4, r5, r6, r7, r8)) ∧ Aside0 (kq ≤ kj3) ∧ Aside0 (wc.heap[gb238]? = some (.cells #[.int .i64 a1_0, .int .i64 a1_1, .int .i64 a1_2, .int .i64 a1_3, .int .i64 a1_4, (.slice A1_5 l1_5.length c1_5)] 24 (0, 0))) ∧ Aside0 (wc.heap[gb239]? = some (.cells #[.int .i64 0, .int .i64 0, .int .i64 0, .int .i64 0, .int .i64 0, (.slice none 0 0)] 24 (0, 0))) ∧ Aside0 (Below w.heap.size w wc))
    case first =>
     have H := HC24.out
     clear HC24
     replace H := Option.bind_eq_some_iff.mp H
     obtain ⟨t242, A270, H⟩ := H
     replace H : (if t242 = true then (tick_Cut.j1 kj3 a0 a2 (decide ((l1_5.length : Int) > 0)) a1_0 a1_1 a1_2 a1_3 a1_4 l1_5) else (tick_Cut.j1 kj3 a0 a2 false a1_0 a1_1 a1_2 a1_3 a1_4 l1_5)) = some (r1, r2, r3, r4, r5, r6, r7, r8) := H
     have A27 := Aside0.mk A270
     clear A270
     by_cases c28 : t242 = true
     case neg =>
      replace c28 := Bool.eq_false_iff.mpr c28
      subst c28
      have H1 : (tick_Cut.j1 kj3 a0 a2 false a1_0 a1_1 a1_2 a1_3 a1_4 l1_5) = some (r1, r2, r3, r4, r5, r6, r7, r8) := by rw [if_neg (show ¬ (false = true) by decide)] at H; exact H
      clear H; have H := H1; clear H1
      have H' := Aside0.mk H
      clear H
      go_wp2_with (first | ((with_reducible refine gate_callee (f := 28) rfl ?_); refine goesL_ (some 26) rfl rfl Try.func28 (by kernel_rfl) rfl #[.pointer (some ⟨gb238, 0, none⟩)] rfl ka ?_; (refine (tick_Works.ptr a1_0 a1_1 a1_2 a1_3 a1_4 l1_5 false gb238 (cs := #[.int .i64 a1_0, .int .i64 a1_1, .int .i64 a1_2, .int .i64 a1_3, .int .i64 a1_4, .slice A1_5 l1_5.length c1_5]) (t := 24) _ ?hcell rfl A27.out).mono ?_); (case hcell => exact (kB BK238.out)); rintro e w32 ⟨rfl, hb⟩; refine ⟨_, rfl, ?_⟩; have n0_ := Aside0.mk (kL BK238.out hb); have n1_ := Aside0.mk (kL BK239.out hb); have n2_ := Aside0.mk (below_step (kb2 HB.out GE238.out GE239.out) hb); clear BK238; clear BK239; clear HB; have BK238 := n0_; have BK239 := n1_; have HB := n2_; clear n0_ n1_ n2_; (try clear hb); (try clear hb2); (try clear hk); (try clear hi)))
      go_meet
      case rel => exact ⟨_, (false), (by first | rfl | (simp; done) | (simp [*]; done)), H', ⟨by have := HJ3.out; first | omega | exact Nat.le_refl _⟩, ⟨kB BK238.out⟩, ⟨kB BK239.out⟩, ⟨kb2 HB.out GE238.out GE239.out⟩⟩
     subst c28
     have H1 : (tick_Cut.j1 kj3 a0 a2 (decide ((l1_5.length : Int) > 0)) a1_0 a1_1 a1_2 a1_3 a1_4 l1_5) = some (r1, r2, r3, r4, r5, r6, r7, r8) := by rw [if_pos rfl] at H; exact H
     clear H; have H := H1; clear H1
     have H' := Aside0.mk H
     clear H
     go_wp2_with (first | ((with_reducible refine gate_callee (f := 28) rfl ?_); refine goesL_ (some 26) rfl rfl Try.func28 (by kernel_rfl) rfl #[.pointer (some ⟨gb238, 0, none⟩)] rfl ka ?_; (refine (tick_Works.ptr a1_0 a1_1 a1_2 a1_3 a1_4 l1_5 true gb238 (cs := #[.int .i64 a1_0, .int .i64 a1_1, .int .i64 a1_2, .int .i64 a1_3, .int .i64 a1_4, .slice A1_5 l1_5.length c1_5]) (t := 24) _ ?hcell rfl A27.out).mono ?_); (case hcell => exact (kB BK238.out)); rintro e w29 ⟨rfl, hb⟩; refine ⟨_, rfl, ?_⟩; have n0_ := Aside0.mk (kL BK238.out hb); have n1_ := Aside0.mk (kL BK239.out hb); have n2_ := Aside0.mk (below_step (kb2 HB.out GE238.out GE239.out) hb); clear BK238; clear BK239; clear HB; have BK238 := n0_; have BK239 := n1_; have HB := n2_; clear n0_ n1_ n2_; (try clear hb); (try clear hb2); (try clear hk); (try clear hi); have hnb30 := NB238_239.out; have hnc30 := NB239_238.out; obtain ⟨hcz31_0, hcz31_1, hcz31_2, hcz31_3, hcz31_4, hcz31_5⟩ := kc6 BK238.out; obtain ⟨hfz31_0, hfz31_1, hfz31_2, hfz31_3, hfz31_4, hfz31_5⟩ := kf6 BK238.out))
     go_meet
     case rel => exact ⟨_, (decide ((l1_5.length : Int) > 0)), (by first | rfl | (simp; done) | (simp [*]; done)), H', ⟨by have := HJ3.out; first | omega | exact Nat.le_refl _⟩, ⟨kB BK238.out⟩, ⟨kB BK239.out⟩, ⟨kb2 HB.out GE238.out GE239.out⟩⟩
    case rest =>
     clear HC24
     try clear c1; try clear c2; try clear p2; try clear c3; try clear c8; try clear c10; try clear c11; try clear c11b0; try clear c12; try clear c15; try clear c18; try clear c21; try clear c22; try clear c25; try clear c28; try clear c30; try clear hcz13_0; try clear hcz13_1; try clear hcz13_2; try clear hcz13_3; try clear hcz13_4; try clear hcz13_5; try clear hcz16_0; try clear hcz16_1; try clear hcz16_2; try clear hcz16_3; try clear hcz16_4; try clear hcz16_5; try clear hcz19_0; try clear hcz19_1; try clear hcz19_2; try clear hcz19_3; try clear hcz19_4; try clear hcz19_5; try clear hcz23_0; try clear hcz23_1; try clear hcz23_2; try clear hcz23_3; try clear hcz23_4; try clear hcz23_5; try clear hcz26_0; try clear hcz26_1; try clear hcz26_2; try clear hcz26_3; try clear hcz26_4; try clear hcz26_5; try clear hcz31_0; try clear hcz31_1; try clear hcz31_2; try clear hcz31_3; try clear hcz31_4; try clear hcz31_5; try clear hfz13_0; try clear hfz13_1; try clear hfz13_2; try clear hfz13_3; try clear hfz13_4; try clear hfz13_5; try clear hfz16_0; try clear hfz16_1; try clear hfz16_2; try clear hfz16_3; try clear hfz16_4; try clear hfz16_5; try clear hfz19_0; try clear hfz19_1; try clear hfz19_2; try clear hfz19_3; try clear hfz19_4; try clear hfz19_5; try clear hfz23_0; try clear hfz23_1; try clear hfz23_2; try clear hfz23_3; try clear hfz23_4; try clear hfz23_5; try clear hfz26_0; try clear hfz26_1; try clear hfz26_2; try clear hfz26_3; try clear hfz26_4; try clear hfz26_5; try clear hfz31_0; try clear hfz31_1; try clear hfz31_2; try clear hfz31_3; try clear hfz31_4; try clear hfz31_5; try clear p2
     obtain ⟨kq, x32_23, rfl, HA, HJ23, BK238, BK239, HB⟩ := hcut
     cases kq with
     | zero => exact absurd HA.out (by simp [tick_Cut.j1])
     | succ kj23 =>
      have H := HA.out
      clear HA
      simp only [tick_Cut.j1] at H
      by_cases c33 : x32_23 = true
      ·subst c33
       have H1 : (if 0 < (l1_5.length : Int) then ((ops_Cut.f kj23 a0 ((rd_T40 l1_5 0).f0) ((rd_T40 l1_5 0).f1) ((rd_T40 l1_5 0).f2) a2).bind fun bt244 => ((device_New.f).bind fun bt246 => (some (bt244.1, bt246.1, bt246.2.1, bt246.2.2.1, bt246.2.2.2.1, bt246.2.2.2.2.1, bt246.2.2.2.2.2, 0)))) else (none)) = some (r1, r2, r3, r4, r5, r6, r7, r8) := by rw [if_pos rfl] at H; exact H
       clear H; have H := H1; clear H1
       by_cases c34 : 0 < (l1_5.length : Int)
       case neg =>
        rw [if_neg c34] at H
        exact absurd H (by simp)
       rw [if_pos c34] at H
       have c34b0 : decide (0 < (l1_5.length : Int)) = true := decide_eq_true c34
       have c34b1 : decide (0 < l1_5.length) = true := decide_eq_true (by omega)
       clear c34
       replace H := Option.bind_eq_some_iff.mp H
       obtain ⟨⟨t244, t245⟩, A350, H⟩ := H
       replace H : ((device_New.f).bind fun bt246 => (some (t244, bt246.1, bt246.2.1, bt246.2.2.1, bt246.2.2.2.1, bt246.2.2.2.2.1, bt246.2.2.2.2.2, 0))) = some (r1, r2, r3, r4, r5, r6, r7, r8) := H
       have A35 := Aside0.mk A350
       clear A350
       replace H := Option.bind_eq_some_iff.mp H
       obtain ⟨⟨t246, t247, t248, t249, t250, t251⟩, A360, H⟩ := H
       replace H : (some (t244, t246, t247, t248, t249, t250, t251, 0)) = some (r1, r2, r3, r4, r5, r6, r7, r8) := H
       have A36 := Aside0.mk A360
       clear A360
       simp only [Option.some.injEq, Prod.mk.injEq] at H
       obtain ⟨rfl, rfl, rfl, rfl, rfl, rfl, rfl, rfl⟩ := H
       have hnb37 := NB238_239.out
       have hnc37 := NB239_238.out
       obtain ⟨hcz38_0, hcz38_1, hcz38_2, hcz38_3, hcz38_4, hcz38_5⟩ := kc6 BK238.out
       obtain ⟨hfz38_0, hfz38_1, hfz38_2, hfz38_3, hfz38_4, hfz38_5⟩ := kf6 BK238.out
       have p243 : 0 ≤ (0 : Int) := (by omega)
       have q243 : 0 < (l1_5.length : Int) := of_decide_eq_true (by first | (with_reducible assumption) | assumption)
       obtain ⟨ad243, e243, hx243_0, hx243_1, hx243_2⟩ := at_T40 HR1_5.out 0 p243 q243
       cases e243
       have qi243 : (0 < l1_5.length) = True := eq_true (by omega)
       (try rw [show ((0 : Int)).toNat = 0 from rfl] at hx243_0)
       (try rw [show 0 * 3 = 0 from rfl] at hx243_0)
       (try rw [Addr.add_zero'] at hx243_0)
       (try rw [show ((0 : Int)).toNat = 0 from rfl] at hx243_1)
       (try rw [show 0 * 3 = 0 from rfl] at hx243_1)
       (try rw [Addr.add_zero'] at hx243_1)
       (try rw [show ((0 : Int)).toNat = 0 from rfl] at hx243_2)
       (try rw [show 0 * 3 = 0 from rfl] at hx243_2)
       (try rw [Addr.add_zero'] at hx243_2)
       replace hx243_0 := (HB.out.cell (World.block_lt_of_cell? w _ hx243_0)).trans hx243_0
       replace hx243_1 := (HB.out.cell (World.block_lt_of_cell? w _ hx243_1)).trans hx243_1
       replace hx243_2 := (HB.out.cell (World.block_lt_of_cell? w _ hx243_2)).trans hx243_2
       replace p243 := eq_true p243
       replace q243 := eq_true q243
       go_wp2_with (first | ((with_reducible refine gate_callee (f := 35) rfl ?_); refine goesL_ (some 40) rfl rfl Try.func35 (by kernel_rfl) rfl #[.string a0, .agg #[.bool ((rd_T40 l1_5 0).f0), .int .i64 ((rd_T40 l1_5 0).f1), .string ((rd_T40 l1_5 0).f2)], .int .i64 a2] rfl ka ?_; (with_reducible refine (ops_Cut.calls kj23 a0 ((rd_T40 l1_5 0).f0) ((rd_T40 l1_5 0).f1) ((rd_T40 l1_5 0).f2) a2 t244 t245 _ A35.out).mono ?_); rintro e w39 ⟨rfl, hb⟩; refine ⟨_, rfl, ?_⟩; have n0_ := Aside0.mk (kL BK238.out hb); have n1_ := Aside0.mk (kL BK239.out hb); have n2_ := Aside0.mk (below_step (kb2 HB.out GE238.out GE239.out) hb); clear BK238; clear BK239; clear HB; have BK238 := n0_; have BK239 := n1_; have HB := n2_; clear n0_ n1_ n2_; (try clear hb); (try clear hb2); (try clear hk); (try clear hi)) | ((with_reducible refine gate_callee (f := 30) rfl ?_); refine goesL_ (some 44) rfl rfl Try.func30 (by kernel_rfl) rfl #[] rfl ka ?_; (with_reducible refine (device_New.calls  t246 t247 t248 t249 t250 t251 _ A36.out).mono ?_); rintro e w40 ⟨v252, rfl, ho0, hb⟩; refine ⟨_, rfl, ?_⟩; have n0_ := Aside0.mk (Kd.R_lower ho0 (below_size (kb2 HB.out GE238.out GE239.out))); have n1_ := Aside0.mk (kL BK238.out hb); have n2_ := Aside0.mk (kL BK239.out hb); have n3_ := Aside0.mk (below_step (kb2 HB.out GE238.out GE239.out) hb); clear BK238; clear BK239; clear HB; have HO253 := n0_; have BK238 := n1_; have BK239 := n2_; have HB := n3_; clear n0_ n1_ n2_ n3_; (try clear hb); (try clear hb2); (try clear hk); (try clear hi); (try clear ho0); obtain ⟨hcz41_0, hcz41_1, hcz41_2, hcz41_3, hcz41_4, hcz41_5⟩ := kc6 BK239.out; obtain ⟨hfz41_0, hfz41_1, hfz41_2, hfz41_3, hfz41_4, hfz41_5⟩ := kf6 BK239.out; obtain ⟨Ao42, co42, eo42⟩ := Kd.R_slice HO253.out; subst eo42))
       refine bodyPost_ret (results_list (rs := [.tmp 6, .cell 7 24, .tmp 8]) rfl (by simp) (.tmp (.cell gb239 24 #[.int .i64 t246, .int .i64 t247, .int .i64 t248, .int .i64 t249, .int .i64 t250, .slice Ao42 t251.length co42] (0, 0) _ rfl (kP6 BK239.out) Try.underlying24 rfl (by kernel_rfl) (.tmp .nil)))) rfl ?_
       exact ⟨_, by first | rfl | (simp [errW_none, errW_some] <;> rfl) | (simp [*, errW_none, errW_some] <;> rfl), by (with_reducible repeat (first | apply Kd.R_alloc | apply Kd.R_drewN | apply Kd.R_drew)); exact Kd.R_mono (Kd.R_far (p := ⟨gb239, 5, none⟩) (Kd.R_far (p := ⟨gb239, 4, none⟩) (Kd.R_far (p := ⟨gb239, 3, none⟩) (Kd.R_far (p := ⟨gb239, 2, none⟩) (Kd.R_far (p := ⟨gb239, 1, none⟩) (Kd.R_far (p := ⟨gb239, 0, none⟩) (Kd.R_types HO253.out BK239.out (by decide)) (fun _ hk => hk.2) (.int .i64 t246)) (fun _ hk => hk.2) (.int .i64 t247)) (fun _ hk => hk.2) (.int .i64 t248)) (fun _ hk => hk.2) (.int .i64 t249)) (fun _ hk => hk.2) (.int .i64 t250)) (fun _ hk => hk.2) (.slice Ao42 t251.length co42)) (fun _ hk => trivial), kb2 HB.out GE238.out GE239.out⟩
      ·replace c33 := Bool.eq_false_iff.mpr c33
       subst c33
       have H1 : ((device_New.f).bind fun bt254 => (some (a0, bt254.1, bt254.2.1, bt254.2.2.1, bt254.2.2.2.1, bt254.2.2.2.2.1, bt254.2.2.2.2.2, 0))) = some (r1, r2, r3, r4, r5, r6, r7, r8) := by rw [if_neg (show ¬ (false = true) by decide)] at H; exact H
       clear H; have H := H1; clear H1
       replace H := Option.bind_eq_some_iff.mp H
       obtain ⟨⟨t254, t255, t256, t257, t258, t259⟩, A430, H⟩ := H
       replace H : (some (a0, t254, t255, t256, t257, t258, t259, 0)) = some (r1, r2, r3, r4, r5, r6, r7, r8) := H
       have A43 := Aside0.mk A430
       clear A430
       simp only [Option.some.injEq, Prod.mk.injEq] at H
       obtain ⟨rfl, rfl, rfl, rfl, rfl, rfl, rfl, rfl⟩ := H
       go_wp2_with (first | ((with_reducible refine gate_callee (f := 30) rfl ?_); refine goesL_ (some 44) rfl rfl Try.func30 (by kernel_rfl) rfl #[] rfl ka ?_; (with_reducible refine (device_New.calls  t254 t255 t256 t257 t258 t259 _ A43.out).mono ?_); rintro e w44 ⟨v260, rfl, ho0, hb⟩; refine ⟨_, rfl, ?_⟩; have n0_ := Aside0.mk (Kd.R_lower ho0 (below_size (kb2 HB.out GE238.out GE239.out))); have n1_ := Aside0.mk (kL BK238.out hb); have n2_ := Aside0.mk (kL BK239.out hb); have n3_ := Aside0.mk (below_step (kb2 HB.out GE238.out GE239.out) hb); clear BK238; clear BK239; clear HB; have HO261 := n0_; have BK238 := n1_; have BK239 := n2_; have HB := n3_; clear n0_ n1_ n2_ n3_; (try clear hb); (try clear hb2); (try clear hk); (try clear hi); (try clear ho0); have hnb45 := NB239_238.out; have hnc45 := NB238_239.out; obtain ⟨hcz46_0, hcz46_1, hcz46_2, hcz46_3, hcz46_4, hcz46_5⟩ := kc6 BK239.out; obtain ⟨hfz46_0, hfz46_1, hfz46_2, hfz46_3, hfz46_4, hfz46_5⟩ := kf6 BK239.out; obtain ⟨Ao47, co47, eo47⟩ := Kd.R_slice HO261.out; subst eo47))
       refine bodyPost_ret (results_list (rs := [.tmp 6, .cell 7 24, .tmp 8]) rfl (by simp) (.tmp (.cell gb239 24 #[.int .i64 t254, .int .i64 t255, .int .i64 t256, .int .i64 t257, .int .i64 t258, .slice Ao47 t259.length co47] (0, 0) _ rfl (kP6 BK239.out) Try.underlying24 rfl (by kernel_rfl) (.tmp .nil)))) rfl ?_
       exact ⟨_, by first | rfl | (simp [errW_none, errW_some] <;> rfl) | (simp [*, errW_none, errW_some] <;> rfl), by (with_reducible repeat (first | apply Kd.R_alloc | apply Kd.R_drewN | apply Kd.R_drew)); exact Kd.R_mono (Kd.R_far (p := ⟨gb239, 5, none⟩) (Kd.R_far (p := ⟨gb239, 4, none⟩) (Kd.R_far (p := ⟨gb239, 3, none⟩) (Kd.R_far (p := ⟨gb239, 2, none⟩) (Kd.R_far (p := ⟨gb239, 1, none⟩) (Kd.R_far (p := ⟨gb239, 0, none⟩) (Kd.R_types HO261.out BK239.out (by decide)) (fun _ hk => hk.2) (.int .i64 t254)) (fun _ hk => hk.2) (.int .i64 t255)) (fun _ hk => hk.2) (.int .i64 t256)) (fun _ hk => hk.2) (.int .i64 t257)) (fun _ hk => hk.2) (.int .i64 t258)) (fun _ hk => hk.2) (.slice Ao47 t259.length co47)) (fun _ hk => trivial), kb2 HB.out GE238.out GE239.out⟩

/-! ### skiffref16_CutDevice: function 13 -/

/-! ### skifflaw0_SameOps: function 38 -/
def skifflaw0_SameOps.l0 : Nat → List (S40) → List (S40) → Int → Option (Bool)
 | 0, _, _, _ => none
 | k + 1, x0, x1, x5 => if x5 < (x0.length : Int) then (if 0 ≤ x5 then (if x5 < (x1.length : Int) then (if (!(((rd_T40 x0 x5).f0) == ((rd_T40 x1 x5).f0)) || (!(((rd_T40 x0 x5).f1) == ((rd_T40 x1 x5).f1)) || (!((((rd_T40 x0 x5).f2).toList) == (((rd_T40 x1 x5).f2).toList))))) = true then (some false) else (skifflaw0_SameOps.l0 k x0 x1 (wrap64 (x5 + 1)))) else (none)) else (none)) else (some true)
def skifflaw0_SameOps.f (k : Nat) (l0 : List (S40)) (l1 : List (S40)) : Option (Bool) := if (l0.length : Int) = (l1.length : Int) then (skifflaw0_SameOps.l0 k l0 l1 0) else (some false)
theorem skifflaw0_SameOps.mono_l : ∀ k, (∀ y0 y1 y2, LeO (skifflaw0_SameOps.l0 k y0 y1 y2) (skifflaw0_SameOps.l0 (k + 1) y0 y1 y2))
 | 0 => fun _ _ _ r h => by simp [skifflaw0_SameOps.l0] at h
 | k + 1 => by
  have ih0 := skifflaw0_SameOps.mono_l k
  ·intro y0 y1 y2
   unfold skifflaw0_SameOps.l0
   repeat' first
   | (with_reducible exact ih0 _ _ _)
   | (with_reducible exact LeO.refl _)
   | (with_reducible exact LeO.none _)
   | (with_reducible refine LeO.ite ?_ ?_)
   | (with_reducible refine LeO.bind ?_ (fun _ => ?_))
   | exact ih0 _ _ _
   | exact LeO.none _
   | refine LeO.ite ?_ ?_
   | refine LeO.bind ?_ (fun _ => ?_)
theorem skifflaw0_SameOps.mono : ∀ a0 a1 k, LeO (skifflaw0_SameOps.f k a0 a1) (skifflaw0_SameOps.f (k + 1) a0 a1) := by
 intro a0 a1 k
 have ih0 := skifflaw0_SameOps.mono_l k
 unfold skifflaw0_SameOps.f
 repeat' first
   | (with_reducible exact ih0 _ _ _)
   | (with_reducible exact LeO.refl _)
   | (with_reducible exact LeO.none _)
   | (with_reducible refine LeO.ite ?_ ?_)
   | (with_reducible refine LeO.bind ?_ (fun _ => ?_))
   | exact ih0 _ _ _
   | exact LeO.none _
   | refine LeO.ite ?_ ?_
   | refine LeO.bind ?_ (fun _ => ?_)
set_option maxHeartbeats 8000000 in
set_option maxRecDepth 100000 in
theorem skifflaw0_SameOps.calls (k : Nat) (A0 : Option Addr) (c0 : Nat) (l0 : List (S40)) (A1 : Option Addr) (c1 : Nat) (l1 : List (S40)) (r : Bool) (w : World) (hr0 : Kd.C k40 w A0 l0.length l0) (hc0 : l0.length ≤ c0) (hr1 : Kd.C k40 w A1 l1.length l1) (hc1 : l1.length ≤ c1) (h : skifflaw0_SameOps.f k l0 l1 = some r) :
  Calls Try.prog 38 #[.slice A0 l0.length c0, .slice A1 l1.length c1] w fun e w' => e = .returned (.bool r) ∧ Drawn0 w w' := by
 have hu40 := Try.underlying40
 have HR0 := Aside0.mk hr0
 have HC0 := Aside0.mk hc0
 clear hr0 hc0
 have HR1 := Aside0.mk hr1
 have HC1 := Aside0.mk hc1
 clear hr1 hc1
 have H : (if (l0.length : Int) = (l1.length : Int) then (skifflaw0_SameOps.l0 k l0 l1 0) else (some false)) = some r := h
 clear h
 by_cases c3 : (l0.length : Int) = (l1.length : Int)
 case neg =>
  rw [if_neg c3] at H
  have c3b0 : ((l0.length : Int) == (l1.length : Int)) = false := beq_eq_false_iff_ne.mpr c3
  have c3b1 : ((l0.length : Int) != (l1.length : Int)) = true := bne_iff_ne.mpr c3
  have c3b2 : (l0.length == l1.length) = false := by first | simpa using c3 | (simp at c3 ⊢; omega)
  obtain rfl := Option.some.inj H
  go_enter Try.func38, Try.ntmps38
  go_wp2
  repeat (go_quiet (fail); try go_wp2)
  go_ret
  exact ⟨by first | rfl | (simp; done) | (simp [*]; done), by repeat (first | exact Drawn0.refl _ | apply Drawn0.step)⟩
 rw [if_pos c3] at H
 have c3b0 : ((l0.length : Int) == (l1.length : Int)) = true := beq_iff_eq.mpr c3
 have c3b1 : ((l0.length : Int) != (l1.length : Int)) = false := bne_eq_false_iff_eq.mpr c3
 have c3b2 : (l0.length == l1.length) = true := by first | simpa using c3 | (simp at c3 ⊢; omega)
 clear c3
 have H' := Aside0.mk H
 clear H
 go_enter Try.func38, Try.ntmps38
 go_wp2
 repeat (go_quiet (fail); try go_wp2)
 go_loopg [5] k (fun kq v5 w' => ∃ (x5_1 : Int), v5 = .int .i64 x5_1 ∧ Aside0 (skifflaw0_SameOps.l0 kq l0 l1 x5_1 = some r) ∧ Aside0 (kq ≤ k) ∧ Drawn0 w w')
 case atStart => exact ⟨(0), (by first | rfl | (simp; done) | (simp [*]; done)), H', ⟨Nat.le_refl _⟩, by repeat (first | exact Drawn0.refl _ | apply Drawn0.step)⟩
 case round =>
  clear H'
  try clear c1; try clear p2; try clear c3; try clear c3b0; try clear c3b1; try clear c3b2
  obtain ⟨x5_1, rfl, HA, HK1, ⟨m1, rfl⟩⟩ := hrel
  cases gk with
  | zero => exact absurd HA.out (by simp [skifflaw0_SameOps.l0])
  | succ k1 =>
   have H := HA.out
   clear HA
   simp only [skifflaw0_SameOps.l0] at H
   by_cases c4 : x5_1 < (l0.length : Int)
   case neg =>
    rw [if_neg c4] at H
    have c4b0 : decide (x5_1 < (l0.length : Int)) = false := decide_eq_false c4
    clear c4
    obtain rfl := Option.some.inj H
    go_wp2
    repeat (go_quiet (fail); try go_wp2)
    go_ret
    exact ⟨by first | rfl | (simp; done) | (simp [*]; done), by repeat (first | exact Drawn0.refl _ | apply Drawn0.step)⟩
   rw [if_pos c4] at H
   have c4b0 : decide (x5_1 < (l0.length : Int)) = true := decide_eq_true c4
   clear c4
   by_cases c5 : 0 ≤ x5_1
   case neg =>
    rw [if_neg c5] at H
    exact absurd H (by simp)
   rw [if_pos c5] at H
   have c5b0 : decide (0 ≤ x5_1) = true := decide_eq_true c5
   clear c5
   by_cases c6 : x5_1 < (l1.length : Int)
   case neg =>
    rw [if_neg c6] at H
    exact absurd H (by simp)
   rw [if_pos c6] at H
   have c6b0 : decide (x5_1 < (l1.length : Int)) = true := decide_eq_true c6
   clear c6
   by_cases c7 : (!(((rd_T40 l0 x5_1).f0) == ((rd_T40 l1 x5_1).f0)) || (!(((rd_T40 l0 x5_1).f1) == ((rd_T40 l1 x5_1).f1)) || (!((((rd_T40 l0 x5_1).f2).toList) == (((rd_T40 l1 x5_1).f2).toList))))) = true
   ·rw [if_pos c7] at H
    have c7b0 : (!(((rd_T40 l0 x5_1).f0) == ((rd_T40 l1 x5_1).f0)) || (!(((rd_T40 l0 x5_1).f1) == ((rd_T40 l1 x5_1).f1)) || (!((((rd_T40 l0 x5_1).f2).toList) == (((rd_T40 l1 x5_1).f2).toList))))) = true := c7
    clear c7
    obtain rfl := Option.some.inj H
    have p286 : 0 ≤ (x5_1 : Int) := of_decide_eq_true (by first | (with_reducible assumption) | assumption)
    have q286 : x5_1 < (l0.length : Int) := of_decide_eq_true (by first | (with_reducible assumption) | assumption)
    obtain ⟨ad286, e286, hx286_0, hx286_1, hx286_2⟩ := at_T40 HR0.out x5_1 p286 q286
    cases e286
    replace p286 := eq_true p286
    replace q286 := eq_true q286
    have p287 : 0 ≤ (x5_1 : Int) := of_decide_eq_true (by first | (with_reducible assumption) | assumption)
    have q287 : x5_1 < (l1.length : Int) := of_decide_eq_true (by first | (with_reducible assumption) | assumption)
    obtain ⟨ad287, e287, hx287_0, hx287_1, hx287_2⟩ := at_T40 HR1.out x5_1 p287 q287
    cases e287
    replace p287 := eq_true p287
    replace q287 := eq_true q287
    go_wp2
    repeat (go_quiet (fail); try go_wp2)
    go_ret
    exact ⟨by first | rfl | (simp; done) | (simp [*]; done), by repeat (first | exact Drawn0.refl _ | apply Drawn0.step)⟩
   ·rw [if_neg c7] at H
    have c7b0 : (!(((rd_T40 l0 x5_1).f0) == ((rd_T40 l1 x5_1).f0)) || (!(((rd_T40 l0 x5_1).f1) == ((rd_T40 l1 x5_1).f1)) || (!((((rd_T40 l0 x5_1).f2).toList) == (((rd_T40 l1 x5_1).f2).toList))))) = false := by simpa using c7
    clear c7
    have H' := Aside0.mk H
    clear H
    have p286 : 0 ≤ (x5_1 : Int) := of_decide_eq_true (by first | (with_reducible assumption) | assumption)
    have q286 : x5_1 < (l0.length : Int) := of_decide_eq_true (by first | (with_reducible assumption) | assumption)
    obtain ⟨ad286, e286, hx286_0, hx286_1, hx286_2⟩ := at_T40 HR0.out x5_1 p286 q286
    cases e286
    replace p286 := eq_true p286
    replace q286 := eq_true q286
    have p287 : 0 ≤ (x5_1 : Int) := of_decide_eq_true (by first | (with_reducible assumption) | assumption)
    have q287 : x5_1 < (l1.length : Int) := of_decide_eq_true (by first | (with_reducible assumption) | assumption)
    obtain ⟨ad287, e287, hx287_0, hx287_1, hx287_2⟩ := at_T40 HR1.out x5_1 p287 q287
    cases e287
    replace p287 := eq_true p287
    replace q287 := eq_true q287
    go_wp2
    repeat (go_quiet (fail); try go_wp2)
    go_roundg k1
    case measure => have := HK1.out; omega
    case rel => exact ⟨(wrap64 (x5_1 + 1)), (by first | rfl | (simp; done) | (simp [*]; done)), H', ⟨by have := HK1.out; omega⟩, by repeat (first | exact Drawn0.refl _ | apply Drawn0.step)⟩

/-! ### skifflaw0_SameDevice: function 14 -/
def skifflaw0_SameDevice.f (k : Nat) (a0_0 : Int) (a0_1 : Int) (a0_2 : Int) (a0_3 : Int) (a0_4 : Int) (l0_5 : List (S40)) (a1_0 : Int) (a1_1 : Int) (a1_2 : Int) (a1_3 : Int) (a1_4 : Int) (l1_5 : List (S40)) : Option (Bool) := if a0_0 = a1_0 then (if a0_1 = a1_1 then (if a0_2 = a1_2 then (if a0_3 = a1_3 then (if a0_4 = a1_4 then ((skifflaw0_SameOps.f k l0_5 l1_5).bind fun t290 => (some t290)) else (some false)) else (some false)) else (some false)) else (some false)) else (some false)
theorem skifflaw0_SameDevice.mono : ∀ a0 a1 a2 a3 a4 a5 a6 a7 a8 a9 a10 a11 k, LeO (skifflaw0_SameDevice.f k a0 a1 a2 a3 a4 a5 a6 a7 a8 a9 a10 a11) (skifflaw0_SameDevice.f (k + 1) a0 a1 a2 a3 a4 a5 a6 a7 a8 a9 a10 a11) := by
 intro a0 a1 a2 a3 a4 a5 a6 a7 a8 a9 a10 a11 k
 unfold skifflaw0_SameDevice.f
 repeat' first
   | (with_reducible exact skifflaw0_SameOps.mono _ _ _)
   | (with_reducible exact LeO.refl _)
   | (with_reducible exact LeO.none _)
   | (with_reducible refine LeO.ite ?_ ?_)
   | (with_reducible refine LeO.bind ?_ (fun _ => ?_))
   | exact skifflaw0_SameOps.mono _ _ _
   | exact LeO.none _
   | refine LeO.ite ?_ ?_
   | refine LeO.bind ?_ (fun _ => ?_)
set_option maxHeartbeats 8000000 in
set_option maxRecDepth 100000 in
theorem skifflaw0_SameDevice.calls (k : Nat) (a0_0 : Int) (a0_1 : Int) (a0_2 : Int) (a0_3 : Int) (a0_4 : Int) (A0_5 : Option Addr) (c0_5 : Nat) (l0_5 : List (S40)) (a1_0 : Int) (a1_1 : Int) (a1_2 : Int) (a1_3 : Int) (a1_4 : Int) (A1_5 : Option Addr) (c1_5 : Nat) (l1_5 : List (S40)) (r : Bool) (w : World) (hr0_5 : Kd.C k40 w A0_5 l0_5.length l0_5) (hc0_5 : l0_5.length ≤ c0_5) (hr1_5 : Kd.C k40 w A1_5 l1_5.length l1_5) (hc1_5 : l1_5.length ≤ c1_5) (h : skifflaw0_SameDevice.f k a0_0 a0_1 a0_2 a0_3 a0_4 l0_5 a1_0 a1_1 a1_2 a1_3 a1_4 l1_5 = some r) :
  Calls Try.prog 14 #[.agg #[.int .i64 a0_0, .int .i64 a0_1, .int .i64 a0_2, .int .i64 a0_3, .int .i64 a0_4, .slice A0_5 l0_5.length c0_5], .agg #[.int .i64 a1_0, .int .i64 a1_1, .int .i64 a1_2, .int .i64 a1_3, .int .i64 a1_4, .slice A1_5 l1_5.length c1_5]] w fun e w' => e = .returned (.bool r) ∧ Below w.heap.size w w' := by
 have hu24 := Try.underlying24
 have HR0_5 := Aside0.mk hr0_5
 have HC0_5 := Aside0.mk hc0_5
 clear hr0_5 hc0_5
 have HR1_5 := Aside0.mk hr1_5
 have HC1_5 := Aside0.mk hc1_5
 clear hr1_5 hc1_5
 have HB := Aside0.mk (Below.refl w.heap.size w)
 have H : (if a0_0 = a1_0 then (if a0_1 = a1_1 then (if a0_2 = a1_2 then (if a0_3 = a1_3 then (if a0_4 = a1_4 then ((skifflaw0_SameOps.f k l0_5 l1_5).bind fun t290 => (some t290)) else (some false)) else (some false)) else (some false)) else (some false)) else (some false)) = some r := h
 clear h
 by_cases c3 : a0_0 = a1_0
 case neg =>
  rw [if_neg c3] at H
  have c3b0 : (a0_0 == a1_0) = false := beq_eq_false_iff_ne.mpr c3
  have c3b1 : (a0_0 != a1_0) = true := bne_iff_ne.mpr c3
  obtain rfl := Option.some.inj H
  go_enter Try.func14, Try.ntmps14
  go_wp2_with (first | ((with_reducible refine gate_dst (N := 2) rfl ?_); refine box_event ?hg (N := 2) ?hd (cs := #[.int .i64 a0_0, .int .i64 a0_1, .int .i64 a0_2, .int .i64 a0_3, .int .i64 a0_4, .slice A0_5 l0_5.length c0_5]) (t := 24) ?hr ?_; (case hd => rfl); (case hg => rfl); (case hr => first | (go_simp; done) | (go_simp; rfl)); intro gb288 hg w34 hbox hb; have n0_ := Aside0.mk (below_step (kb HB.out) hb); have n1_ := Aside0.mk (hbox); have n2_ := Aside0.mk ((kz hg (below_size (kb HB.out)) : w.heap.size ≤ gb288)); have n3_ := Aside0.mk ((kz hg (below_size (kb HB.out)) : w.heap.size ≤ gb288)); clear HB; have HB := n0_; have BK288 := n1_; have GW288 := n2_; have GE288 := n3_; clear n0_ n1_ n2_ n3_; clear hb hbox hg) | ((with_reducible refine gate_dst (N := 3) rfl ?_); refine box_event ?hg (N := 3) ?hd (cs := #[.int .i64 a1_0, .int .i64 a1_1, .int .i64 a1_2, .int .i64 a1_3, .int .i64 a1_4, .slice A1_5 l1_5.length c1_5]) (t := 24) ?hr ?_; (case hd => rfl); (case hg => rfl); (case hr => first | (go_simp; done) | (go_simp; rfl)); intro gb289 hg w35 hbox hb; have n0_ := Aside0.mk (kL BK288.out hb); have n1_ := Aside0.mk (below_step (kb1 HB.out GE288.out) hb); have n2_ := Aside0.mk (hbox); have n3_ := Aside0.mk ((kz hg (below_size (kb1 HB.out GE288.out)) : w.heap.size ≤ gb289)); have n4_ := Aside0.mk ((kz hg (below_size (kb1 HB.out GE288.out)) : w.heap.size ≤ gb289)); have n5_ := Aside0.mk ((kN hg BK288.out : gb288 ≠ gb289)); have n6_ := Aside0.mk (((kN hg BK288.out).symm : gb289 ≠ gb288)); clear BK288; clear HB; have BK288 := n0_; have HB := n1_; have BK289 := n2_; have GW289 := n3_; have GE289 := n4_; have NB288_289 := n5_; have NB289_288 := n6_; clear n0_ n1_ n2_ n3_ n4_ n5_ n6_; clear hb hbox hg; have hnb36 := NB288_289.out; have hnc36 := NB289_288.out; obtain ⟨hcz37_0, hcz37_1, hcz37_2, hcz37_3, hcz37_4, hcz37_5⟩ := kc6 BK288.out; obtain ⟨hfz37_0, hfz37_1, hfz37_2, hfz37_3, hfz37_4, hfz37_5⟩ := kf6 BK288.out; obtain ⟨hcz38_0, hcz38_1, hcz38_2, hcz38_3, hcz38_4, hcz38_5⟩ := kc6 BK289.out; obtain ⟨hfz38_0, hfz38_1, hfz38_2, hfz38_3, hfz38_4, hfz38_5⟩ := kf6 BK289.out))
  go_ret
  exact ⟨by first | rfl | (simp [errW_none, errW_some] <;> rfl) | (simp [*, errW_none, errW_some] <;> rfl), kb2 HB.out GE288.out GE289.out⟩
 rw [if_pos c3] at H
 have c3b0 : (a0_0 == a1_0) = true := beq_iff_eq.mpr c3
 have c3b1 : (a0_0 != a1_0) = false := bne_eq_false_iff_eq.mpr c3
 clear c3
 by_cases c4 : a0_1 = a1_1
 case neg =>
  rw [if_neg c4] at H
  have c4b0 : (a0_1 == a1_1) = false := beq_eq_false_iff_ne.mpr c4
  have c4b1 : (a0_1 != a1_1) = true := bne_iff_ne.mpr c4
  obtain rfl := Option.some.inj H
  go_enter Try.func14, Try.ntmps14
  go_wp2_with (first | ((with_reducible refine gate_dst (N := 2) rfl ?_); refine box_event ?hg (N := 2) ?hd (cs := #[.int .i64 a0_0, .int .i64 a0_1, .int .i64 a0_2, .int .i64 a0_3, .int .i64 a0_4, .slice A0_5 l0_5.length c0_5]) (t := 24) ?hr ?_; (case hd => rfl); (case hg => rfl); (case hr => first | (go_simp; done) | (go_simp; rfl)); intro gb288 hg w29 hbox hb; have n0_ := Aside0.mk (below_step (kb HB.out) hb); have n1_ := Aside0.mk (hbox); have n2_ := Aside0.mk ((kz hg (below_size (kb HB.out)) : w.heap.size ≤ gb288)); have n3_ := Aside0.mk ((kz hg (below_size (kb HB.out)) : w.heap.size ≤ gb288)); clear HB; have HB := n0_; have BK288 := n1_; have GW288 := n2_; have GE288 := n3_; clear n0_ n1_ n2_ n3_; clear hb hbox hg) | ((with_reducible refine gate_dst (N := 3) rfl ?_); refine box_event ?hg (N := 3) ?hd (cs := #[.int .i64 a1_0, .int .i64 a1_1, .int .i64 a1_2, .int .i64 a1_3, .int .i64 a1_4, .slice A1_5 l1_5.length c1_5]) (t := 24) ?hr ?_; (case hd => rfl); (case hg => rfl); (case hr => first | (go_simp; done) | (go_simp; rfl)); intro gb289 hg w30 hbox hb; have n0_ := Aside0.mk (kL BK288.out hb); have n1_ := Aside0.mk (below_step (kb1 HB.out GE288.out) hb); have n2_ := Aside0.mk (hbox); have n3_ := Aside0.mk ((kz hg (below_size (kb1 HB.out GE288.out)) : w.heap.size ≤ gb289)); have n4_ := Aside0.mk ((kz hg (below_size (kb1 HB.out GE288.out)) : w.heap.size ≤ gb289)); have n5_ := Aside0.mk ((kN hg BK288.out : gb288 ≠ gb289)); have n6_ := Aside0.mk (((kN hg BK288.out).symm : gb289 ≠ gb288)); clear BK288; clear HB; have BK288 := n0_; have HB := n1_; have BK289 := n2_; have GW289 := n3_; have GE289 := n4_; have NB288_289 := n5_; have NB289_288 := n6_; clear n0_ n1_ n2_ n3_ n4_ n5_ n6_; clear hb hbox hg; have hnb31 := NB288_289.out; have hnc31 := NB289_288.out; obtain ⟨hcz32_0, hcz32_1, hcz32_2, hcz32_3, hcz32_4, hcz32_5⟩ := kc6 BK288.out; obtain ⟨hfz32_0, hfz32_1, hfz32_2, hfz32_3, hfz32_4, hfz32_5⟩ := kf6 BK288.out; obtain ⟨hcz33_0, hcz33_1, hcz33_2, hcz33_3, hcz33_4, hcz33_5⟩ := kc6 BK289.out; obtain ⟨hfz33_0, hfz33_1, hfz33_2, hfz33_3, hfz33_4, hfz33_5⟩ := kf6 BK289.out))
  go_ret
  exact ⟨by first | rfl | (simp [errW_none, errW_some] <;> rfl) | (simp [*, errW_none, errW_some] <;> rfl), kb2 HB.out GE288.out GE289.out⟩
 rw [if_pos c4] at H
 have c4b0 : (a0_1 == a1_1) = true := beq_iff_eq.mpr c4
 have c4b1 : (a0_1 != a1_1) = false := bne_eq_false_iff_eq.mpr c4
 clear c4
 by_cases c5 : a0_2 = a1_2
 case neg =>
  rw [if_neg c5] at H
  have c5b0 : (a0_2 == a1_2) = false := beq_eq_false_iff_ne.mpr c5
  have c5b1 : (a0_2 != a1_2) = true := bne_iff_ne.mpr c5
  obtain rfl := Option.some.inj H
  go_enter Try.func14, Try.ntmps14
  go_wp2_with (first | ((with_reducible refine gate_dst (N := 2) rfl ?_); refine box_event ?hg (N := 2) ?hd (cs := #[.int .i64 a0_0, .int .i64 a0_1, .int .i64 a0_2, .int .i64 a0_3, .int .i64 a0_4, .slice A0_5 l0_5.length c0_5]) (t := 24) ?hr ?_; (case hd => rfl); (case hg => rfl); (case hr => first | (go_simp; done) | (go_simp; rfl)); intro gb288 hg w24 hbox hb; have n0_ := Aside0.mk (below_step (kb HB.out) hb); have n1_ := Aside0.mk (hbox); have n2_ := Aside0.mk ((kz hg (below_size (kb HB.out)) : w.heap.size ≤ gb288)); have n3_ := Aside0.mk ((kz hg (below_size (kb HB.out)) : w.heap.size ≤ gb288)); clear HB; have HB := n0_; have BK288 := n1_; have GW288 := n2_; have GE288 := n3_; clear n0_ n1_ n2_ n3_; clear hb hbox hg) | ((with_reducible refine gate_dst (N := 3) rfl ?_); refine box_event ?hg (N := 3) ?hd (cs := #[.int .i64 a1_0, .int .i64 a1_1, .int .i64 a1_2, .int .i64 a1_3, .int .i64 a1_4, .slice A1_5 l1_5.length c1_5]) (t := 24) ?hr ?_; (case hd => rfl); (case hg => rfl); (case hr => first | (go_simp; done) | (go_simp; rfl)); intro gb289 hg w25 hbox hb; have n0_ := Aside0.mk (kL BK288.out hb); have n1_ := Aside0.mk (below_step (kb1 HB.out GE288.out) hb); have n2_ := Aside0.mk (hbox); have n3_ := Aside0.mk ((kz hg (below_size (kb1 HB.out GE288.out)) : w.heap.size ≤ gb289)); have n4_ := Aside0.mk ((kz hg (below_size (kb1 HB.out GE288.out)) : w.heap.size ≤ gb289)); have n5_ := Aside0.mk ((kN hg BK288.out : gb288 ≠ gb289)); have n6_ := Aside0.mk (((kN hg BK288.out).symm : gb289 ≠ gb288)); clear BK288; clear HB; have BK288 := n0_; have HB := n1_; have BK289 := n2_; have GW289 := n3_; have GE289 := n4_; have NB288_289 := n5_; have NB289_288 := n6_; clear n0_ n1_ n2_ n3_ n4_ n5_ n6_; clear hb hbox hg; have hnb26 := NB288_289.out; have hnc26 := NB289_288.out; obtain ⟨hcz27_0, hcz27_1, hcz27_2, hcz27_3, hcz27_4, hcz27_5⟩ := kc6 BK288.out; obtain ⟨hfz27_0, hfz27_1, hfz27_2, hfz27_3, hfz27_4, hfz27_5⟩ := kf6 BK288.out; obtain ⟨hcz28_0, hcz28_1, hcz28_2, hcz28_3, hcz28_4, hcz28_5⟩ := kc6 BK289.out; obtain ⟨hfz28_0, hfz28_1, hfz28_2, hfz28_3, hfz28_4, hfz28_5⟩ := kf6 BK289.out))
  go_ret
  exact ⟨by first | rfl | (simp [errW_none, errW_some] <;> rfl) | (simp [*, errW_none, errW_some] <;> rfl), kb2 HB.out GE288.out GE289.out⟩
 rw [if_pos c5] at H
 have c5b0 : (a0_2 == a1_2) = true := beq_iff_eq.mpr c5
 have c5b1 : (a0_2 != a1_2) = false := bne_eq_false_iff_eq.mpr c5
 clear c5
 by_cases c6 : a0_3 = a1_3
 case neg =>
  rw [if_neg c6] at H
  have c6b0 : (a0_3 == a1_3) = false := beq_eq_false_iff_ne.mpr c6
  have c6b1 : (a0_3 != a1_3) = true := bne_iff_ne.mpr c6
  obtain rfl := Option.some.inj H
  go_enter Try.func14, Try.ntmps14
  go_wp2_with (first | ((with_reducible refine gate_dst (N := 2) rfl ?_); refine box_event ?hg (N := 2) ?hd (cs := #[.int .i64 a0_0, .int .i64 a0_1, .int .i64 a0_2, .int .i64 a0_3, .int .i64 a0_4, .slice A0_5 l0_5.length c0_5]) (t := 24) ?hr ?_; (case hd => rfl); (case hg => rfl); (case hr => first | (go_simp; done) | (go_simp; rfl)); intro gb288 hg w19 hbox hb; have n0_ := Aside0.mk (below_step (kb HB.out) hb); have n1_ := Aside0.mk (hbox); have n2_ := Aside0.mk ((kz hg (below_size (kb HB.out)) : w.heap.size ≤ gb288)); have n3_ := Aside0.mk ((kz hg (below_size (kb HB.out)) : w.heap.size ≤ gb288)); clear HB; have HB := n0_; have BK288 := n1_; have GW288 := n2_; have GE288 := n3_; clear n0_ n1_ n2_ n3_; clear hb hbox hg) | ((with_reducible refine gate_dst (N := 3) rfl ?_); refine box_event ?hg (N := 3) ?hd (cs := #[.int .i64 a1_0, .int .i64 a1_1, .int .i64 a1_2, .int .i64 a1_3, .int .i64 a1_4, .slice A1_5 l1_5.length c1_5]) (t := 24) ?hr ?_; (case hd => rfl); (case hg => rfl); (case hr => first | (go_simp; done) | (go_simp; rfl)); intro gb289 hg w20 hbox hb; have n0_ := Aside0.mk (kL BK288.out hb); have n1_ := Aside0.mk (below_step (kb1 HB.out GE288.out) hb); have n2_ := Aside0.mk (hbox); have n3_ := Aside0.mk ((kz hg (below_size (kb1 HB.out GE288.out)) : w.heap.size ≤ gb289)); have n4_ := Aside0.mk ((kz hg (below_size (kb1 HB.out GE288.out)) : w.heap.size ≤ gb289)); have n5_ := Aside0.mk ((kN hg BK288.out : gb288 ≠ gb289)); have n6_ := Aside0.mk (((kN hg BK288.out).symm : gb289 ≠ gb288)); clear BK288; clear HB; have BK288 := n0_; have HB := n1_; have BK289 := n2_; have GW289 := n3_; have GE289 := n4_; have NB288_289 := n5_; have NB289_288 := n6_; clear n0_ n1_ n2_ n3_ n4_ n5_ n6_; clear hb hbox hg; have hnb21 := NB288_289.out; have hnc21 := NB289_288.out; obtain ⟨hcz22_0, hcz22_1, hcz22_2, hcz22_3, hcz22_4, hcz22_5⟩ := kc6 BK288.out; obtain ⟨hfz22_0, hfz22_1, hfz22_2, hfz22_3, hfz22_4, hfz22_5⟩ := kf6 BK288.out; obtain ⟨hcz23_0, hcz23_1, hcz23_2, hcz23_3, hcz23_4, hcz23_5⟩ := kc6 BK289.out; obtain ⟨hfz23_0, hfz23_1, hfz23_2, hfz23_3, hfz23_4, hfz23_5⟩ := kf6 BK289.out))
  go_ret
  exact ⟨by first | rfl | (simp [errW_none, errW_some] <;> rfl) | (simp [*, errW_none, errW_some] <;> rfl), kb2 HB.out GE288.out GE289.out⟩
 rw [if_pos c6] at H
 have c6b0 : (a0_3 == a1_3) = true := beq_iff_eq.mpr c6
 have c6b1 : (a0_3 != a1_3) = false := bne_eq_false_iff_eq.mpr c6
 clear c6
 by_cases c7 : a0_4 = a1_4
 case neg =>
  rw [if_neg c7] at H
  have c7b0 : (a0_4 == a1_4) = false := beq_eq_false_iff_ne.mpr c7
  have c7b1 : (a0_4 != a1_4) = true := bne_iff_ne.mpr c7
  obtain rfl := Option.some.inj H
  go_enter Try.func14, Try.ntmps14
  go_wp2_with (first | ((with_reducible refine gate_dst (N := 2) rfl ?_); refine box_event ?hg (N := 2) ?hd (cs := #[.int .i64 a0_0, .int .i64 a0_1, .int .i64 a0_2, .int .i64 a0_3, .int .i64 a0_4, .slice A0_5 l0_5.length c0_5]) (t := 24) ?hr ?_; (case hd => rfl); (case hg => rfl); (case hr => first | (go_simp; done) | (go_simp; rfl)); intro gb288 hg w14 hbox hb; have n0_ := Aside0.mk (below_step (kb HB.out) hb); have n1_ := Aside0.mk (hbox); have n2_ := Aside0.mk ((kz hg (below_size (kb HB.out)) : w.heap.size ≤ gb288)); have n3_ := Aside0.mk ((kz hg (below_size (kb HB.out)) : w.heap.size ≤ gb288)); clear HB; have HB := n0_; have BK288 := n1_; have GW288 := n2_; have GE288 := n3_; clear n0_ n1_ n2_ n3_; clear hb hbox hg) | ((with_reducible refine gate_dst (N := 3) rfl ?_); refine box_event ?hg (N := 3) ?hd (cs := #[.int .i64 a1_0, .int .i64 a1_1, .int .i64 a1_2, .int .i64 a1_3, .int .i64 a1_4, .slice A1_5 l1_5.length c1_5]) (t := 24) ?hr ?_; (case hd => rfl); (case hg => rfl); (case hr => first | (go_simp; done) | (go_simp; rfl)); intro gb289 hg w15 hbox hb; have n0_ := Aside0.mk (kL BK288.out hb); have n1_ := Aside0.mk (below_step (kb1 HB.out GE288.out) hb); have n2_ := Aside0.mk (hbox); have n3_ := Aside0.mk ((kz hg (below_size (kb1 HB.out GE288.out)) : w.heap.size ≤ gb289)); have n4_ := Aside0.mk ((kz hg (below_size (kb1 HB.out GE288.out)) : w.heap.size ≤ gb289)); have n5_ := Aside0.mk ((kN hg BK288.out : gb288 ≠ gb289)); have n6_ := Aside0.mk (((kN hg BK288.out).symm : gb289 ≠ gb288)); clear BK288; clear HB; have BK288 := n0_; have HB := n1_; have BK289 := n2_; have GW289 := n3_; have GE289 := n4_; have NB288_289 := n5_; have NB289_288 := n6_; clear n0_ n1_ n2_ n3_ n4_ n5_ n6_; clear hb hbox hg; have hnb16 := NB288_289.out; have hnc16 := NB289_288.out; obtain ⟨hcz17_0, hcz17_1, hcz17_2, hcz17_3, hcz17_4, hcz17_5⟩ := kc6 BK288.out; obtain ⟨hfz17_0, hfz17_1, hfz17_2, hfz17_3, hfz17_4, hfz17_5⟩ := kf6 BK288.out; obtain ⟨hcz18_0, hcz18_1, hcz18_2, hcz18_3, hcz18_4, hcz18_5⟩ := kc6 BK289.out; obtain ⟨hfz18_0, hfz18_1, hfz18_2, hfz18_3, hfz18_4, hfz18_5⟩ := kf6 BK289.out))
  go_ret
  exact ⟨by first | rfl | (simp [errW_none, errW_some] <;> rfl) | (simp [*, errW_none, errW_some] <;> rfl), kb2 HB.out GE288.out GE289.out⟩
 rw [if_pos c7] at H
 have c7b0 : (a0_4 == a1_4) = true := beq_iff_eq.mpr c7
 have c7b1 : (a0_4 != a1_4) = false := bne_eq_false_iff_eq.mpr c7
 clear c7
 replace H := Option.bind_eq_some_iff.mp H
 obtain ⟨t290, A80, H⟩ := H
 replace H : (some t290) = some r := H
 have A8 := Aside0.mk A80
 clear A80
 obtain rfl := Option.some.inj H
 go_enter Try.func14, Try.ntmps14
 go_wp2_with (first | ((with_reducible refine gate_dst (N := 2) rfl ?_); refine box_event ?hg (N := 2) ?hd (cs := #[.int .i64 a0_0, .int .i64 a0_1, .int .i64 a0_2, .int .i64 a0_3, .int .i64 a0_4, .slice A0_5 l0_5.length c0_5]) (t := 24) ?hr ?_; (case hd => rfl); (case hg => rfl); (case hr => first | (go_simp; done) | (go_simp; rfl)); intro gb288 hg w9 hbox hb; have n0_ := Aside0.mk (below_step (kb HB.out) hb); have n1_ := Aside0.mk (hbox); have n2_ := Aside0.mk ((kz hg (below_size (kb HB.out)) : w.heap.size ≤ gb288)); have n3_ := Aside0.mk ((kz hg (below_size (kb HB.out)) : w.heap.size ≤ gb288)); clear HB; have HB := n0_; have BK288 := n1_; have GW288 := n2_; have GE288 := n3_; clear n0_ n1_ n2_ n3_; clear hb hbox hg) | ((with_reducible refine gate_dst (N := 3) rfl ?_); refine box_event ?hg (N := 3) ?hd (cs := #[.int .i64 a1_0, .int .i64 a1_1, .int .i64 a1_2, .int .i64 a1_3, .int .i64 a1_4, .slice A1_5 l1_5.length c1_5]) (t := 24) ?hr ?_; (case hd => rfl); (case hg => rfl); (case hr => first | (go_simp; done) | (go_simp; rfl)); intro gb289 hg w10 hbox hb; have n0_ := Aside0.mk (kL BK288.out hb); have n1_ := Aside0.mk (below_step (kb1 HB.out GE288.out) hb); have n2_ := Aside0.mk (hbox); have n3_ := Aside0.mk ((kz hg (below_size (kb1 HB.out GE288.out)) : w.heap.size ≤ gb289)); have n4_ := Aside0.mk ((kz hg (below_size (kb1 HB.out GE288.out)) : w.heap.size ≤ gb289)); have n5_ := Aside0.mk ((kN hg BK288.out : gb288 ≠ gb289)); have n6_ := Aside0.mk (((kN hg BK288.out).symm : gb289 ≠ gb288)); clear BK288; clear HB; have BK288 := n0_; have HB := n1_; have BK289 := n2_; have GW289 := n3_; have GE289 := n4_; have NB288_289 := n5_; have NB289_288 := n6_; clear n0_ n1_ n2_ n3_ n4_ n5_ n6_; clear hb hbox hg; have hnb11 := NB288_289.out; have hnc11 := NB289_288.out; obtain ⟨hcz12_0, hcz12_1, hcz12_2, hcz12_3, hcz12_4, hcz12_5⟩ := kc6 BK288.out; obtain ⟨hfz12_0, hfz12_1, hfz12_2, hfz12_3, hfz12_4, hfz12_5⟩ := kf6 BK288.out; obtain ⟨hcz13_0, hcz13_1, hcz13_2, hcz13_3, hcz13_4, hcz13_5⟩ := kc6 BK289.out; obtain ⟨hfz13_0, hfz13_1, hfz13_2, hfz13_3, hfz13_4, hfz13_5⟩ := kf6 BK289.out) | (go_at_call 38; (with_reducible refine (skifflaw0_SameOps.calls k _ _ l0_5 _ _ l1_5 t290 _ ?side1 ?side2 ?side3 ?side4 A8.out).mono ?_); (case side1 => exact kC (Kd.C_below HR0_5.out HB.out)); (case side2 => exact HC0_5.out); (case side3 => exact kC (Kd.C_below HR1_5.out HB.out)); (case side4 => exact HC1_5.out); rintro e w' ⟨rfl, ⟨nd, rfl⟩⟩))
 go_ret
 exact ⟨by first | rfl | (simp [errW_none, errW_some] <;> rfl) | (simp [*, errW_none, errW_some] <;> rfl), kb2 HB.out GE288.out GE289.out⟩

end Go.Proofs.Ytgoeooghoojdgaa.P
