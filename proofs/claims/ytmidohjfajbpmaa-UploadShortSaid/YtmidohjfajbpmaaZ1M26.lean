/- Texts of this claim, laid together. -/
import Derived.Test.YtmidohjfajbpmaaZ1Cz
import Derived.Test.YtmidohjfajbpmaaZ1M22
import Derived.Test.YtmidohjfajbpmaaZ1M23
import Derived.Test.YtmidohjfajbpmaaZ1M25
import Derived.Test.YtmidohjfajbpmaaZ1Px5
section
namespace Go.Proofs.Ytmidohjfajbpmaa.P
open Go.RowKit Go.Proofs.YtmidohjfajbpmaaW.PrintWords Go.Proofs.YtmidohjfajbpmaaW.PrintLast Go.Proofs.YtmidohjfajbpmaaW.PrintMore
attribute [local go_sem] max2_int min2_int max_two min_two max_three min_three max_four min_four   -- for this text's walks alone
set_option linter.unusedVariables false
set_option linter.unusedSimpArgs false

/-! ### device_Copy: function 27 -/
def device_Copy.f (a0_0 : Int) (a0_1 : Int) (a0_2 : Int) (a0_3 : Int) (a0_4 : Int) (l0_5 : List (S68)) : Option (Int × Int × Int × Int × Int × (List (S68))) := (slices_Clone_Op.f l0_5).bind fun t166 => (some (a0_0, a0_1, a0_2, a0_3, a0_4, t166))
set_option maxHeartbeats 8000000 in
set_option maxRecDepth 100000 in
theorem device_Copy.calls (a0_0 : Int) (a0_1 : Int) (a0_2 : Int) (a0_3 : Int) (a0_4 : Int) (A0_5 : Option Addr) (c0_5 : Nat) (l0_5 : List (S68)) (r1 : Int) (r2 : Int) (r3 : Int) (r4 : Int) (r5 : Int) (r6 : List (S68)) (w : World) (hr0_5 : Kd.C k68 w A0_5 l0_5.length l0_5) (hc0_5 : l0_5.length ≤ c0_5) (h : device_Copy.f a0_0 a0_1 a0_2 a0_3 a0_4 l0_5 = some (r1, r2, r3, r4, r5, r6)) :
  Calls Try.prog 27 #[.agg #[.int .i64 a0_0, .int .i64 a0_1, .int .i64 a0_2, .int .i64 a0_3, .int .i64 a0_4, .slice A0_5 l0_5.length c0_5]] w fun e w' => ∃ v5_ : Value, e = .returned (.agg #[.int .i64 r1, .int .i64 r2, .int .i64 r3, .int .i64 r4, .int .i64 r5, v5_]) ∧ Kd.R k68 68 w' w.heap.size (fun _ => True) v5_ r6 ∧ Below w.heap.size w w' := by
 have hu24 := Try.underlying24
 have HR0_5 := Aside0.mk hr0_5
 have HC0_5 := Aside0.mk hc0_5
 clear hr0_5 hc0_5
 have HB := Aside0.mk (Below.refl w.heap.size w)
 have H : ((slices_Clone_Op.f l0_5).bind fun t166 => (some (a0_0, a0_1, a0_2, a0_3, a0_4, t166))) = some (r1, r2, r3, r4, r5, r6) := h
 clear h
 replace H := Option.bind_eq_some_iff.mp H
 obtain ⟨t166, A20, H⟩ := H
 replace H : (some (a0_0, a0_1, a0_2, a0_3, a0_4, t166)) = some (r1, r2, r3, r4, r5, r6) := H
 have A2 := Aside0.mk A20
 clear A20
 simp only [Option.some.injEq, Prod.mk.injEq] at H
 obtain ⟨rfl, rfl, rfl, rfl, rfl, rfl⟩ := H
 go_enter Try.func27, Try.ntmps27
 go_wp2_with (first | ((with_reducible refine gate_dst (N := 1) rfl ?_); refine box_event ?hg (N := 1) ?hd (cs := #[.int .i64 a0_0, .int .i64 a0_1, .int .i64 a0_2, .int .i64 a0_3, .int .i64 a0_4, .slice A0_5 l0_5.length c0_5]) (t := 24) ?hr ?_; (case hd => rfl); (case hg => rfl); (case hr => first | (go_simp; done) | (go_simp; rfl)); intro gb164 hg w3 hbox hb; have n0_ := Aside0.mk (below_step (kb HB.out) hb); have n1_ := Aside0.mk (hbox); have n2_ := Aside0.mk ((kz hg (below_size (kb HB.out)) : w.heap.size ≤ gb164)); have n3_ := Aside0.mk ((kz hg (below_size (kb HB.out)) : w.heap.size ≤ gb164)); clear HB; have HB := n0_; have BK164 := n1_; have GW164 := n2_; have GE164 := n3_; clear n0_ n1_ n2_ n3_; clear hb hbox hg) | ((with_reducible refine gate_dst (N := 2) rfl ?_); refine box_event ?hg (N := 2) ?hd (cs := #[.int .i64 0, .int .i64 0, .int .i64 0, .int .i64 0, .int .i64 0, .slice none 0 0]) (t := 24) ?hr ?_; (case hd => rfl); (case hg => rfl); (case hr => first | (go_simp; done) | (go_simp; rfl)); intro gb165 hg w4 hbox hb; have n0_ := Aside0.mk (kL BK164.out hb); have n1_ := Aside0.mk (below_step (kb1 HB.out GE164.out) hb); have n2_ := Aside0.mk (hbox); have n3_ := Aside0.mk ((kz hg (below_size (kb1 HB.out GE164.out)) : w.heap.size ≤ gb165)); have n4_ := Aside0.mk ((kz hg (below_size (kb1 HB.out GE164.out)) : w.heap.size ≤ gb165)); have n5_ := Aside0.mk ((kN hg BK164.out : gb164 ≠ gb165)); have n6_ := Aside0.mk (((kN hg BK164.out).symm : gb165 ≠ gb164)); clear BK164; clear HB; have BK164 := n0_; have HB := n1_; have BK165 := n2_; have GW165 := n3_; have GE165 := n4_; have NB164_165 := n5_; have NB165_164 := n6_; clear n0_ n1_ n2_ n3_ n4_ n5_ n6_; clear hb hbox hg; have hnb5 := NB164_165.out; have hnc5 := NB165_164.out; obtain ⟨hcz6_0, hcz6_1, hcz6_2, hcz6_3, hcz6_4, hcz6_5⟩ := kc6 BK164.out; obtain ⟨hfz6_0, hfz6_1, hfz6_2, hfz6_3, hfz6_4, hfz6_5⟩ := kf6 BK164.out) | ((with_reducible refine gate_callee (f := 58) rfl ?_); refine goesL_ (some 5) rfl rfl Try.func58 (by kernel_rfl) rfl #[.slice A0_5 l0_5.length c0_5] rfl ka ?_; (with_reducible refine (slices_Clone_Op.calls _ _ l0_5 t166 _ ?side1 ?side2 A2.out).mono ?_); (case side1 => exact kC (Kd.C_below HR0_5.out HB.out)); (case side2 => exact HC0_5.out); rintro e w7 ⟨v167, rfl, ho0, hb⟩; refine ⟨_, rfl, ?_⟩; have n0_ := Aside0.mk (Kd.R_lower ho0 (below_size (kb2 HB.out GE164.out GE165.out))); have n1_ := Aside0.mk (kL BK164.out hb); have n2_ := Aside0.mk (kL BK165.out hb); have n3_ := Aside0.mk (below_step (kb2 HB.out GE164.out GE165.out) hb); clear BK164; clear BK165; clear HB; have HO168 := n0_; have BK164 := n1_; have BK165 := n2_; have HB := n3_; clear n0_ n1_ n2_ n3_; (try clear hb); (try clear hb2); (try clear hk); (try clear hi); (try clear ho0); obtain ⟨Ao8, co8, eo8⟩ := Kd.R_slice HO168.out; subst eo8; obtain ⟨hcz9_0, hcz9_1, hcz9_2, hcz9_3, hcz9_4, hcz9_5⟩ := kc6 BK164.out; obtain ⟨hfz9_0, hfz9_1, hfz9_2, hfz9_3, hfz9_4, hfz9_5⟩ := kf6 BK164.out; obtain ⟨hcz10_0, hcz10_1, hcz10_2, hcz10_3, hcz10_4, hcz10_5⟩ := kc6 BK165.out; obtain ⟨hfz10_0, hfz10_1, hfz10_2, hfz10_3, hfz10_4, hfz10_5⟩ := kf6 BK165.out))
 refine bodyPost_ret (results_cell_row rfl _ _ gb165 24 #[.int .i64 a0_0, .int .i64 a0_1, .int .i64 a0_2, .int .i64 a0_3, .int .i64 a0_4, .slice Ao8 t166.length co8] (0, 0) _ rfl (by (with_reducible repeat (first | refine blk_drewN ?_ _ | refine blk_drew ?_ | refine blk_alloc ?_ _)); refine blk_put (cs := #[.int .i64 a0_0, .int .i64 a0_1, .int .i64 a0_2, .int .i64 a0_3, .int .i64 a0_4, .slice none 0 0]) ?_ 5 _ rfl; (with_reducible repeat (first | refine blk_drewN ?_ _ | refine blk_drew ?_ | refine blk_alloc ?_ _)); refine blk_put (cs := #[.int .i64 a0_0, .int .i64 a0_1, .int .i64 a0_2, .int .i64 a0_3, .int .i64 0, .slice none 0 0]) ?_ 4 _ rfl; (with_reducible repeat (first | refine blk_drewN ?_ _ | refine blk_drew ?_ | refine blk_alloc ?_ _)); refine blk_put (cs := #[.int .i64 a0_0, .int .i64 a0_1, .int .i64 a0_2, .int .i64 0, .int .i64 0, .slice none 0 0]) ?_ 3 _ rfl; (with_reducible repeat (first | refine blk_drewN ?_ _ | refine blk_drew ?_ | refine blk_alloc ?_ _)); refine blk_put (cs := #[.int .i64 a0_0, .int .i64 a0_1, .int .i64 0, .int .i64 0, .int .i64 0, .slice none 0 0]) ?_ 2 _ rfl; (with_reducible repeat (first | refine blk_drewN ?_ _ | refine blk_drew ?_ | refine blk_alloc ?_ _)); refine blk_put (cs := #[.int .i64 a0_0, .int .i64 0, .int .i64 0, .int .i64 0, .int .i64 0, .slice none 0 0]) ?_ 1 _ rfl; (with_reducible repeat (first | refine blk_drewN ?_ _ | refine blk_drew ?_ | refine blk_alloc ?_ _)); refine blk_put (cs := #[.int .i64 0, .int .i64 0, .int .i64 0, .int .i64 0, .int .i64 0, .slice none 0 0]) ?_ 0 _ rfl; (with_reducible repeat (first | refine blk_drewN ?_ _ | refine blk_drew ?_ | refine blk_alloc ?_ _)); refine blk_far ?_ NB165_164.out _; (with_reducible repeat (first | refine blk_drewN ?_ _ | refine blk_drew ?_ | refine blk_alloc ?_ _)); exact BK165.out) Try.underlying24 rfl (by kernel_rfl)) rfl ?_
 exact ⟨_, by first | rfl | (simp [errW_none, errW_some] <;> rfl) | (simp [*, errW_none, errW_some] <;> rfl), by (with_reducible repeat (first | apply Kd.R_alloc | apply Kd.R_drewN | apply Kd.R_drew)); exact Kd.R_mono (Kd.R_far (p := ⟨gb165, 5, none⟩) (Kd.R_far (p := ⟨gb165, 4, none⟩) (Kd.R_far (p := ⟨gb165, 3, none⟩) (Kd.R_far (p := ⟨gb165, 2, none⟩) (Kd.R_far (p := ⟨gb165, 1, none⟩) (Kd.R_far (p := ⟨gb165, 0, none⟩) (Kd.R_far (p := ⟨gb164, 5, none⟩) (Kd.R_types (Kd.R_types HO168.out BK164.out (by decide)) BK165.out (by decide)) (fun _ hk => hk.1.2) (.slice Ao8 t166.length co8)) (fun _ hk => hk.2) (.int .i64 a0_0)) (fun _ hk => hk.2) (.int .i64 a0_1)) (fun _ hk => hk.2) (.int .i64 a0_2)) (fun _ hk => hk.2) (.int .i64 a0_3)) (fun _ hk => hk.2) (.int .i64 a0_4)) (fun _ hk => hk.2) (.slice Ao8 t166.length co8)) (fun _ hk => trivial), kb2 HB.out GE164.out GE165.out⟩

/-! ### upload_Give: function 10 -/
mutual
def upload_Give.j0 : Nat → ByteArray → Int → Int → Bool → Int → Int → Int → Int → Int → List (S68) → Option (Int × Int × Int × Int × Int × (List (S68)) × ByteArray × Int)
 | 0, _, _, _, _, _, _, _, _, _, _ => none
 | k + 1, x0, x2, x3, x43, x170000, x170001, x170002, x170003, x170004, x170005 => if x43 = true then (some (0, 0, 0, 0, 0, ([] : List (S68)), (⟨#[]⟩ : ByteArray), 2000)) else ((choose_Active.f x0).bind fun bt177 => (if bt177.2.2.2.2.2 = 0 then ((device_Copy.f x170000 x170001 x170002 x170003 x170004 x170005).bind fun bt192 => (if x170000 = 0 then (upload_Give.j1 k x0 x2 x3 bt177.1 bt177.2.1 bt177.2.2.1 bt177.2.2.2.1 bt177.2.2.2.2.1 bt192.1 bt192.2.1 0 bt192.2.2.2.1 bt192.2.2.2.2.1 bt192.2.2.2.2.2) else (upload_Give.j1 k x0 x2 x3 bt177.1 bt177.2.1 bt177.2.2.1 bt177.2.2.2.1 bt177.2.2.2.2.1 bt192.1 bt192.2.1 bt192.2.2.1 bt192.2.2.2.1 bt192.2.2.2.2.1 bt192.2.2.2.2.2))) else ((device_Failed.f 2).bind fun bt184 => (some (bt184.1, bt184.2.1, bt184.2.2.1, bt184.2.2.2.1, bt184.2.2.2.2.1, bt184.2.2.2.2.2, (⟨#[]⟩ : ByteArray), 0)))))
def upload_Give.j1 : Nat → ByteArray → Int → Int → Int → Int → Int → Int → Int → Int → Int → Int → Int → Int → List (S68) → Option (Int × Int × Int × Int × Int × (List (S68)) × ByteArray × Int)
 | 0, _, _, _, _, _, _, _, _, _, _, _, _, _, _ => none
 | k + 1, x0, x2, x3, x184000, x184001, x184002, x184003, x184004, x201000, x201001, x201002, x201003, x201004, x201005 => if x2 = x201002 then ((image_Of.f x0 x184001 x184002 x184003 x184004).bind fun bt209 => (if 0 ≤ (mn (wrap64 (32 * x201002)) (bt209.1.size : Int)) then (if (mn (wrap64 (32 * x201002)) (bt209.1.size : Int)) ≤ (bt209.1.size : Int) then (if 0 ≤ (mn x3 ((bt209.1.extract ((mn (wrap64 (32 * x201002)) (bt209.1.size : Int)) : Int).toNat bt209.1.size).size : Int)) then (if (mn x3 ((bt209.1.extract ((mn (wrap64 (32 * x201002)) (bt209.1.size : Int)) : Int).toNat bt209.1.size).size : Int)) ≤ ((bt209.1.extract ((mn (wrap64 (32 * x201002)) (bt209.1.size : Int)) : Int).toNat bt209.1.size).size : Int) then (if (((bt209.1.extract ((mn (wrap64 (32 * x201002)) (bt209.1.size : Int)) : Int).toNat bt209.1.size).extract 0 ((mn x3 ((bt209.1.extract ((mn (wrap64 (32 * x201002)) (bt209.1.size : Int)) : Int).toNat bt209.1.size).size : Int)) : Int).toNat).size : Int) < 32 then ((device_New.f).bind fun bt211 => (some (bt211.1, bt211.2.1, bt211.2.2.1, bt211.2.2.2.1, bt211.2.2.2.2.1, bt211.2.2.2.2.2, (bt209.1.extract ((mn (wrap64 (32 * x201002)) (bt209.1.size : Int)) : Int).toNat bt209.1.size).extract 0 ((mn x3 ((bt209.1.extract ((mn (wrap64 (32 * x201002)) (bt209.1.size : Int)) : Int).toNat bt209.1.size).size : Int)) : Int).toNat, 0))) else (some (6, x201001, mn (wrap64 (x201002 + 1)) 16, x201003, x201004, x201005, (bt209.1.extract ((mn (wrap64 (32 * x201002)) (bt209.1.size : Int)) : Int).toNat bt209.1.size).extract 0 ((mn x3 ((bt209.1.extract ((mn (wrap64 (32 * x201002)) (bt209.1.size : Int)) : Int).toNat bt209.1.size).size : Int)) : Int).toNat, 0))) else (none)) else (none)) else (none)) else (none))) else ((device_Failed.f 4).bind fun bt201 => (some (bt201.1, bt201.2.1, bt201.2.2.1, bt201.2.2.2.1, bt201.2.2.2.2.1, bt201.2.2.2.2.2, (⟨#[]⟩ : ByteArray), 0)))
end
def upload_Give.f (k : Nat) (a0 : ByteArray) (a1_0 : Int) (a1_1 : Int) (a1_2 : Int) (a1_3 : Int) (a1_4 : Int) (l1_5 : List (S68)) (a2 : Int) (a3 : Int) : Option (Int × Int × Int × Int × Int × (List (S68)) × ByteArray × Int) := (nor_May.f a0).bind fun t171 => (if t171 = true then ((device_May.f a1_0 a1_1 a1_2 a1_3 a1_4 l1_5).bind fun t172 => (if t172 = true then (if a1_0 = 0 then ((setup_Value.f a2).bind fun t173 => (if t173 = true then ((setup_Length.f a3).bind fun t174 => (upload_Give.j0 k a0 a2 a3 (!t174) a1_0 a1_1 a1_2 a1_3 a1_4 l1_5)) else (upload_Give.j0 k a0 a2 a3 true a1_0 a1_1 a1_2 a1_3 a1_4 l1_5))) else (if a1_0 = 6 then ((setup_Value.f a2).bind fun t175 => (if t175 = true then ((setup_Length.f a3).bind fun t176 => (upload_Give.j0 k a0 a2 a3 (!t176) a1_0 a1_1 a1_2 a1_3 a1_4 l1_5)) else (upload_Give.j0 k a0 a2 a3 true a1_0 a1_1 a1_2 a1_3 a1_4 l1_5))) else (upload_Give.j0 k a0 a2 a3 true a1_0 a1_1 a1_2 a1_3 a1_4 l1_5))) else (upload_Give.j0 k a0 a2 a3 true a1_0 a1_1 a1_2 a1_3 a1_4 l1_5))) else (upload_Give.j0 k a0 a2 a3 true a1_0 a1_1 a1_2 a1_3 a1_4 l1_5))
theorem upload_Give.mono_l : ∀ k, (∀ y0 y1 y2 y3 y4 y5 y6 y7 y8 y9, LeO (upload_Give.j0 k y0 y1 y2 y3 y4 y5 y6 y7 y8 y9) (upload_Give.j0 (k + 1) y0 y1 y2 y3 y4 y5 y6 y7 y8 y9)) ∧ (∀ y0 y1 y2 y3 y4 y5 y6 y7 y8 y9 y10 y11 y12 y13, LeO (upload_Give.j1 k y0 y1 y2 y3 y4 y5 y6 y7 y8 y9 y10 y11 y12 y13) (upload_Give.j1 (k + 1) y0 y1 y2 y3 y4 y5 y6 y7 y8 y9 y10 y11 y12 y13))
 | 0 => ⟨fun _ _ _ _ _ _ _ _ _ _ r h => by simp [upload_Give.j0] at h, fun _ _ _ _ _ _ _ _ _ _ _ _ _ _ r h => by simp [upload_Give.j1] at h⟩
 | k + 1 => by
  obtain ⟨ih0, ih1⟩ := upload_Give.mono_l k
  refine ⟨?_, ?_⟩
  ·intro y0 y1 y2 y3 y4 y5 y6 y7 y8 y9
   unfold upload_Give.j0
   repeat' first
   | (with_reducible exact ih0 _ _ _ _ _ _ _ _ _ _)
   | (with_reducible exact ih1 _ _ _ _ _ _ _ _ _ _ _ _ _ _)
   | (with_reducible exact LeO.refl _)
   | (with_reducible exact LeO.none _)
   | (with_reducible refine LeO.ite ?_ ?_)
   | (with_reducible refine LeO.bind ?_ (fun _ => ?_))
   | exact ih0 _ _ _ _ _ _ _ _ _ _
   | exact ih1 _ _ _ _ _ _ _ _ _ _ _ _ _ _
   | exact LeO.none _
   | refine LeO.ite ?_ ?_
   | refine LeO.bind ?_ (fun _ => ?_)
  ·intro y0 y1 y2 y3 y4 y5 y6 y7 y8 y9 y10 y11 y12 y13
   unfold upload_Give.j1
   repeat' first
   | (with_reducible exact ih0 _ _ _ _ _ _ _ _ _ _)
   | (with_reducible exact ih1 _ _ _ _ _ _ _ _ _ _ _ _ _ _)
   | (with_reducible exact LeO.refl _)
   | (with_reducible exact LeO.none _)
   | (with_reducible refine LeO.ite ?_ ?_)
   | (with_reducible refine LeO.bind ?_ (fun _ => ?_))
   | exact ih0 _ _ _ _ _ _ _ _ _ _
   | exact ih1 _ _ _ _ _ _ _ _ _ _ _ _ _ _
   | exact LeO.none _
   | refine LeO.ite ?_ ?_
   | refine LeO.bind ?_ (fun _ => ?_)
theorem upload_Give.mono : ∀ a0 a1 a2 a3 a4 a5 a6 a7 a8 k, LeO (upload_Give.f k a0 a1 a2 a3 a4 a5 a6 a7 a8) (upload_Give.f (k + 1) a0 a1 a2 a3 a4 a5 a6 a7 a8) := by
 intro a0 a1 a2 a3 a4 a5 a6 a7 a8 k
 obtain ⟨ih0, ih1⟩ := upload_Give.mono_l k
 unfold upload_Give.f
 repeat' first
   | (with_reducible exact ih0 _ _ _ _ _ _ _ _ _ _)
   | (with_reducible exact ih1 _ _ _ _ _ _ _ _ _ _ _ _ _ _)
   | (with_reducible exact LeO.refl _)
   | (with_reducible exact LeO.none _)
   | (with_reducible refine LeO.ite ?_ ?_)
   | (with_reducible refine LeO.bind ?_ (fun _ => ?_))
   | exact ih0 _ _ _ _ _ _ _ _ _ _
   | exact ih1 _ _ _ _ _ _ _ _ _ _ _ _ _ _
   | exact LeO.none _
   | refine LeO.ite ?_ ?_
   | refine LeO.bind ?_ (fun _ => ?_)
set_option maxHeartbeats 8000000 in
set_option maxRecDepth 100000 in
theorem upload_Give.calls (k : Nat) (a0 : ByteArray) (a1_0 : Int) (a1_1 : Int) (a1_2 : Int) (a1_3 : Int) (a1_4 : Int) (A1_5 : Option Addr) (c1_5 : Nat) (l1_5 : List (S68)) (a2 : Int) (a3 : Int) (r1 : Int) (r2 : Int) (r3 : Int) (r4 : Int) (r5 : Int) (r6 : List (S68)) (r7 : ByteArray) (r8 : Int) (w : World) (hr1_5 : Kd.C k68 w A1_5 l1_5.length l1_5) (hc1_5 : l1_5.length ≤ c1_5) (h : upload_Give.f k a0 a1_0 a1_1 a1_2 a1_3 a1_4 l1_5 a2 a3 = some (r1, r2, r3, r4, r5, r6, r7, r8)) :
  Calls Try.prog 10 #[.string a0, .agg #[.int .i64 a1_0, .int .i64 a1_1, .int .i64 a1_2, .int .i64 a1_3, .int .i64 a1_4, .slice A1_5 l1_5.length c1_5], .int .i64 a2, .int .i64 a3] w fun e w' => ∃ v5_ : Value, e = .returned (.tuple #[.agg #[.int .i64 r1, .int .i64 r2, .int .i64 r3, .int .i64 r4, .int .i64 r5, v5_], .string r7, .int .i64 r8]) ∧ Kd.R k68 68 w' w.heap.size (fun _ => True) v5_ r6 ∧ Below w.heap.size w w' := by
 have hu24 := Try.underlying24
 have hu43 := Try.underlying43
 have hu41 := Try.underlying41
 have HR1_5 := Aside0.mk hr1_5
 have HC1_5 := Aside0.mk hc1_5
 clear hr1_5 hc1_5
 have HB := Aside0.mk (Below.refl w.heap.size w)
 have H : ((nor_May.f a0).bind fun t171 => (if t171 = true then ((device_May.f a1_0 a1_1 a1_2 a1_3 a1_4 l1_5).bind fun t172 => (if t172 = true then (if a1_0 = 0 then ((setup_Value.f a2).bind fun t173 => (if t173 = true then ((setup_Length.f a3).bind fun t174 => (upload_Give.j0 k a0 a2 a3 (!t174) a1_0 a1_1 a1_2 a1_3 a1_4 l1_5)) else (upload_Give.j0 k a0 a2 a3 true a1_0 a1_1 a1_2 a1_3 a1_4 l1_5))) else (if a1_0 = 6 then ((setup_Value.f a2).bind fun t175 => (if t175 = true then ((setup_Length.f a3).bind fun t176 => (upload_Give.j0 k a0 a2 a3 (!t176) a1_0 a1_1 a1_2 a1_3 a1_4 l1_5)) else (upload_Give.j0 k a0 a2 a3 true a1_0 a1_1 a1_2 a1_3 a1_4 l1_5))) else (upload_Give.j0 k a0 a2 a3 true a1_0 a1_1 a1_2 a1_3 a1_4 l1_5))) else (upload_Give.j0 k a0 a2 a3 true a1_0 a1_1 a1_2 a1_3 a1_4 l1_5))) else (upload_Give.j0 k a0 a2 a3 true a1_0 a1_1 a1_2 a1_3 a1_4 l1_5))) = some (r1, r2, r3, r4, r5, r6, r7, r8) := h
 clear h
 have HC5 := Aside0.mk H
 clear H
 go_enter Try.func10, Try.ntmps10
 go_upto_region 1 with (first | ((with_reducible refine gate_dst (N := 5) rfl ?_); refine box_event ?hg (N := 5) ?hd (cs := #[.int .i64 a1_0, .int .i64 a1_1, .int .i64 a1_2, .int .i64 a1_3, .int .i64 a1_4, .slice A1_5 l1_5.length c1_5]) (t := 24) ?hr ?_; (case hd => rfl); (case hg => rfl); (case hr => first | (go_simp; done) | (go_simp; rfl)); intro gb169 hg w6 hbox hb; have n0_ := Aside0.mk (below_step (kb HB.out) hb); have n1_ := Aside0.mk (hbox); have n2_ := Aside0.mk ((kz hg (below_size (kb HB.out)) : w.heap.size ≤ gb169)); have n3_ := Aside0.mk ((kz hg (below_size (kb HB.out)) : w.heap.size ≤ gb169)); clear HB; have HB := n0_; have BK169 := n1_; have GW169 := n2_; have GE169 := n3_; clear n0_ n1_ n2_ n3_; clear hb hbox hg) | ((with_reducible refine gate_dst (N := 8) rfl ?_); refine box_event ?hg (N := 8) ?hd (cs := #[.int .i64 0, .int .i64 0, .int .i64 0, .int .i64 0, .int .i64 0, .slice none 0 0]) (t := 24) ?hr ?_; (case hd => rfl); (case hg => rfl); (case hr => first | (go_simp; done) | (go_simp; rfl)); intro gb170 hg w7 hbox hb; have n0_ := Aside0.mk (kL BK169.out hb); have n1_ := Aside0.mk (below_step (kb1 HB.out GE169.out) hb); have n2_ := Aside0.mk (hbox); have n3_ := Aside0.mk ((kz hg (below_size (kb1 HB.out GE169.out)) : w.heap.size ≤ gb170)); have n4_ := Aside0.mk ((kz hg (below_size (kb1 HB.out GE169.out)) : w.heap.size ≤ gb170)); have n5_ := Aside0.mk ((kN hg BK169.out : gb169 ≠ gb170)); have n6_ := Aside0.mk (((kN hg BK169.out).symm : gb170 ≠ gb169)); clear BK169; clear HB; have BK169 := n0_; have HB := n1_; have BK170 := n2_; have GW170 := n3_; have GE170 := n4_; have NB169_170 := n5_; have NB170_169 := n6_; clear n0_ n1_ n2_ n3_ n4_ n5_ n6_; clear hb hbox hg))
 (try simp only [Act.put, List.setIfInBounds_toArray, List.set_cons_zero, List.set_cons_succ])
 go_cut [43] (fun v43 wc => ∃ (kq : Nat) (x43_4 : Bool), v43 = .bool x43_4 ∧ Aside0 (upload_Give.j0 kq a0 a2 a3 x43_4 a1_0 a1_1 a1_2 a1_3 a1_4 l1_5 = some (r1, r2, r3, r4, r5, r6, r7, r8)) ∧ Aside0 (kq ≤ k) ∧ Aside0 (wc.heap[gb169]? = some (.cells #[.int .i64 a1_0, .int .i64 a1_1, .int .i64 a1_2, .int .i64 a1_3, .int .i64 a1_4, (.slice A1_5 l1_5.length c1_5)] 24 (0, 0))) ∧ Aside0 (wc.heap[gb170]? = some (.cells #[.int .i64 0, .int .i64 0, .int .i64 0, .int .i64 0, .int .i64 0, (.slice none 0 0)] 24 (0, 0))) ∧ Aside0 (Below w.heap.size w wc))
 case first =>
  have H := HC5.out
  clear HC5
  replace H := Option.bind_eq_some_iff.mp H
  obtain ⟨t171, A80, H⟩ := H
  replace H : (if t171 = true then ((device_May.f a1_0 a1_1 a1_2 a1_3 a1_4 l1_5).bind fun t172 => (if t172 = true then (if a1_0 = 0 then ((setup_Value.f a2).bind fun t173 => (if t173 = true then ((setup_Length.f a3).bind fun t174 => (upload_Give.j0 k a0 a2 a3 (!t174) a1_0 a1_1 a1_2 a1_3 a1_4 l1_5)) else (upload_Give.j0 k a0 a2 a3 true a1_0 a1_1 a1_2 a1_3 a1_4 l1_5))) else (if a1_0 = 6 then ((setup_Value.f a2).bind fun t175 => (if t175 = true then ((setup_Length.f a3).bind fun t176 => (upload_Give.j0 k a0 a2 a3 (!t176) a1_0 a1_1 a1_2 a1_3 a1_4 l1_5)) else (upload_Give.j0 k a0 a2 a3 true a1_0 a1_1 a1_2 a1_3 a1_4 l1_5))) else (upload_Give.j0 k a0 a2 a3 true a1_0 a1_1 a1_2 a1_3 a1_4 l1_5))) else (upload_Give.j0 k a0 a2 a3 true a1_0 a1_1 a1_2 a1_3 a1_4 l1_5))) else (upload_Give.j0 k a0 a2 a3 true a1_0 a1_1 a1_2 a1_3 a1_4 l1_5)) = some (r1, r2, r3, r4, r5, r6, r7, r8) := H
  have A8 := Aside0.mk A80
  clear A80
  by_cases c9 : t171 = true
  case neg =>
   replace c9 := Bool.eq_false_iff.mpr c9
   subst c9
   have H1 : (upload_Give.j0 k a0 a2 a3 true a1_0 a1_1 a1_2 a1_3 a1_4 l1_5) = some (r1, r2, r3, r4, r5, r6, r7, r8) := by rw [if_neg (show ¬ (false = true) by decide)] at H; exact H
   clear H; have H := H1; clear H1
   have H' := Aside0.mk H
   clear H
   go_wp2_with (first | ((with_reducible refine gate_callee (f := 21) rfl ?_); refine goesL_ (some 17) rfl rfl Try.func21 (by kernel_rfl) rfl #[.string a0] rfl ka ?_; (with_reducible refine (nor_May.calls a0 false _ A8.out).mono ?_); rintro e w' ⟨rfl, ⟨nd, rfl⟩⟩; refine ⟨_, rfl, ?_⟩))
   go_meet
   case rel => exact ⟨_, (true), (by first | rfl | (simp; done) | (simp [*]; done)), H', ⟨by first | omega | exact Nat.le_refl _⟩, ⟨kB BK169.out⟩, ⟨kB BK170.out⟩, ⟨kb2 HB.out GE169.out GE170.out⟩⟩
  subst c9
  have H1 : ((device_May.f a1_0 a1_1 a1_2 a1_3 a1_4 l1_5).bind fun t172 => (if t172 = true then (if a1_0 = 0 then ((setup_Value.f a2).bind fun t173 => (if t173 = true then ((setup_Length.f a3).bind fun t174 => (upload_Give.j0 k a0 a2 a3 (!t174) a1_0 a1_1 a1_2 a1_3 a1_4 l1_5)) else (upload_Give.j0 k a0 a2 a3 true a1_0 a1_1 a1_2 a1_3 a1_4 l1_5))) else (if a1_0 = 6 then ((setup_Value.f a2).bind fun t175 => (if t175 = true then ((setup_Length.f a3).bind fun t176 => (upload_Give.j0 k a0 a2 a3 (!t176) a1_0 a1_1 a1_2 a1_3 a1_4 l1_5)) else (upload_Give.j0 k a0 a2 a3 true a1_0 a1_1 a1_2 a1_3 a1_4 l1_5))) else (upload_Give.j0 k a0 a2 a3 true a1_0 a1_1 a1_2 a1_3 a1_4 l1_5))) else (upload_Give.j0 k a0 a2 a3 true a1_0 a1_1 a1_2 a1_3 a1_4 l1_5))) = some (r1, r2, r3, r4, r5, r6, r7, r8) := by rw [if_pos rfl] at H; exact H
  clear H; have H := H1; clear H1
  replace H := Option.bind_eq_some_iff.mp H
  obtain ⟨t172, A100, H⟩ := H
  replace H : (if t172 = true then (if a1_0 = 0 then ((setup_Value.f a2).bind fun t173 => (if t173 = true then ((setup_Length.f a3).bind fun t174 => (upload_Give.j0 k a0 a2 a3 (!t174) a1_0 a1_1 a1_2 a1_3 a1_4 l1_5)) else (upload_Give.j0 k a0 a2 a3 true a1_0 a1_1 a1_2 a1_3 a1_4 l1_5))) else (if a1_0 = 6 then ((setup_Value.f a2).bind fun t175 => (if t175 = true then ((setup_Length.f a3).bind fun t176 => (upload_Give.j0 k a0 a2 a3 (!t176) a1_0 a1_1 a1_2 a1_3 a1_4 l1_5)) else (upload_Give.j0 k a0 a2 a3 true a1_0 a1_1 a1_2 a1_3 a1_4 l1_5))) else (upload_Give.j0 k a0 a2 a3 true a1_0 a1_1 a1_2 a1_3 a1_4 l1_5))) else (upload_Give.j0 k a0 a2 a3 true a1_0 a1_1 a1_2 a1_3 a1_4 l1_5)) = some (r1, r2, r3, r4, r5, r6, r7, r8) := H
  have A10 := Aside0.mk A100
  clear A100
  by_cases c11 : t172 = true
  case neg =>
   replace c11 := Bool.eq_false_iff.mpr c11
   subst c11
   have H1 : (upload_Give.j0 k a0 a2 a3 true a1_0 a1_1 a1_2 a1_3 a1_4 l1_5) = some (r1, r2, r3, r4, r5, r6, r7, r8) := by rw [if_neg (show ¬ (false = true) by decide)] at H; exact H
   clear H; have H := H1; clear H1
   have H' := Aside0.mk H
   clear H
   go_wp2_with (first | ((with_reducible refine gate_callee (f := 21) rfl ?_); refine goesL_ (some 17) rfl rfl Try.func21 (by kernel_rfl) rfl #[.string a0] rfl ka ?_; (with_reducible refine (nor_May.calls a0 true _ A8.out).mono ?_); rintro e w' ⟨rfl, ⟨nd, rfl⟩⟩; refine ⟨_, rfl, ?_⟩; have hnb40 := NB169_170.out; have hnc40 := NB170_169.out; obtain ⟨hcz41_0, hcz41_1, hcz41_2, hcz41_3, hcz41_4, hcz41_5⟩ := kc6 BK169.out; obtain ⟨hfz41_0, hfz41_1, hfz41_2, hfz41_3, hfz41_4, hfz41_5⟩ := kf6 BK169.out) | (go_at_call 22; (with_reducible refine (device_May.calls a1_0 a1_1 a1_2 a1_3 a1_4 _ _ l1_5 false _ ?side1 ?side2 A10.out).mono ?_); (case side1 => repeat (first | exact (Kd.C_below HR1_5.out (kb2 HB.out GE169.out GE170.out)) | (with_reducible refine Kd.C_alloc ?_ _) | (with_reducible refine Kd.C_drewN ?_ _) | (with_reducible refine Kd.C_drew ?_))); (case side2 => exact HC1_5.out); rintro e w42 ⟨rfl, hb⟩; have n0_ := Aside0.mk (kL BK169.out hb); have n1_ := Aside0.mk (kL BK170.out hb); have n2_ := Aside0.mk (below_step (kb2 HB.out GE169.out GE170.out) hb); clear BK169; clear BK170; clear HB; have BK169 := n0_; have BK170 := n1_; have HB := n2_; clear n0_ n1_ n2_; (try clear hb); (try clear hb2); (try clear hk); (try clear hi)))
   go_meet
   case rel => exact ⟨_, (true), (by first | rfl | (simp; done) | (simp [*]; done)), H', ⟨by first | omega | exact Nat.le_refl _⟩, ⟨kB BK169.out⟩, ⟨kB BK170.out⟩, ⟨kb2 HB.out GE169.out GE170.out⟩⟩
  subst c11
  have H1 : (if a1_0 = 0 then ((setup_Value.f a2).bind fun t173 => (if t173 = true then ((setup_Length.f a3).bind fun t174 => (upload_Give.j0 k a0 a2 a3 (!t174) a1_0 a1_1 a1_2 a1_3 a1_4 l1_5)) else (upload_Give.j0 k a0 a2 a3 true a1_0 a1_1 a1_2 a1_3 a1_4 l1_5))) else (if a1_0 = 6 then ((setup_Value.f a2).bind fun t175 => (if t175 = true then ((setup_Length.f a3).bind fun t176 => (upload_Give.j0 k a0 a2 a3 (!t176) a1_0 a1_1 a1_2 a1_3 a1_4 l1_5)) else (upload_Give.j0 k a0 a2 a3 true a1_0 a1_1 a1_2 a1_3 a1_4 l1_5))) else (upload_Give.j0 k a0 a2 a3 true a1_0 a1_1 a1_2 a1_3 a1_4 l1_5))) = some (r1, r2, r3, r4, r5, r6, r7, r8) := by rw [if_pos rfl] at H; exact H
  clear H; have H := H1; clear H1
  by_cases c12 : a1_0 = 0
  ·rw [if_pos c12] at H
   have c12b0 : (a1_0 == 0) = true := beq_iff_eq.mpr c12
   have c12b1 : (a1_0 != 0) = false := bne_eq_false_iff_eq.mpr c12
   clear c12
   (first | rw [c12b0] | rw [c12b1] | (simp only [i64_w, i32_w]; rw [c12b0]) | skip)
   replace H := Option.bind_eq_some_iff.mp H
   obtain ⟨t173, A130, H⟩ := H
   replace H : (if t173 = true then ((setup_Length.f a3).bind fun t174 => (upload_Give.j0 k a0 a2 a3 (!t174) a1_0 a1_1 a1_2 a1_3 a1_4 l1_5)) else (upload_Give.j0 k a0 a2 a3 true a1_0 a1_1 a1_2 a1_3 a1_4 l1_5)) = some (r1, r2, r3, r4, r5, r6, r7, r8) := H
   have A13 := Aside0.mk A130
   clear A130
   by_cases c14 : t173 = true
   case neg =>
    replace c14 := Bool.eq_false_iff.mpr c14
    subst c14
    have H1 : (upload_Give.j0 k a0 a2 a3 true a1_0 a1_1 a1_2 a1_3 a1_4 l1_5) = some (r1, r2, r3, r4, r5, r6, r7, r8) := by rw [if_neg (show ¬ (false = true) by decide)] at H; exact H
    clear H; have H := H1; clear H1
    have H' := Aside0.mk H
    clear H
    go_wp2_with (first | ((with_reducible refine gate_callee (f := 21) rfl ?_); refine goesL_ (some 17) rfl rfl Try.func21 (by kernel_rfl) rfl #[.string a0] rfl ka ?_; (with_reducible refine (nor_May.calls a0 true _ A8.out).mono ?_); rintro e w' ⟨rfl, ⟨nd, rfl⟩⟩; refine ⟨_, rfl, ?_⟩; have hnb20 := NB169_170.out; have hnc20 := NB170_169.out; obtain ⟨hcz21_0, hcz21_1, hcz21_2, hcz21_3, hcz21_4, hcz21_5⟩ := kc6 BK169.out; obtain ⟨hfz21_0, hfz21_1, hfz21_2, hfz21_3, hfz21_4, hfz21_5⟩ := kf6 BK169.out) | (go_at_call 22; (with_reducible refine (device_May.calls a1_0 a1_1 a1_2 a1_3 a1_4 _ _ l1_5 true _ ?side1 ?side2 A10.out).mono ?_); (case side1 => repeat (first | exact (Kd.C_below HR1_5.out (kb2 HB.out GE169.out GE170.out)) | (with_reducible refine Kd.C_alloc ?_ _) | (with_reducible refine Kd.C_drewN ?_ _) | (with_reducible refine Kd.C_drew ?_))); (case side2 => exact HC1_5.out); rintro e w22 ⟨rfl, hb⟩; have n0_ := Aside0.mk (kL BK169.out hb); have n1_ := Aside0.mk (kL BK170.out hb); have n2_ := Aside0.mk (below_step (kb2 HB.out GE169.out GE170.out) hb); clear BK169; clear BK170; clear HB; have BK169 := n0_; have BK170 := n1_; have HB := n2_; clear n0_ n1_ n2_; (try clear hb); (try clear hb2); (try clear hk); (try clear hi); obtain ⟨hcz23_0, hcz23_1, hcz23_2, hcz23_3, hcz23_4, hcz23_5⟩ := kc6 BK169.out; obtain ⟨hfz23_0, hfz23_1, hfz23_2, hfz23_3, hfz23_4, hfz23_5⟩ := kf6 BK169.out) | (go_at_call 23; (with_reducible refine (setup_Value.calls a2 false _ A13.out).mono ?_); rintro e w' ⟨rfl, ⟨nd, rfl⟩⟩))
    go_meet
    case rel => exact ⟨_, (true), (by first | rfl | (simp; done) | (simp [*]; done)), H', ⟨by first | omega | exact Nat.le_refl _⟩, ⟨kB BK169.out⟩, ⟨kB BK170.out⟩, ⟨kb2 HB.out GE169.out GE170.out⟩⟩
   subst c14
   have H1 : ((setup_Length.f a3).bind fun t174 => (upload_Give.j0 k a0 a2 a3 (!t174) a1_0 a1_1 a1_2 a1_3 a1_4 l1_5)) = some (r1, r2, r3, r4, r5, r6, r7, r8) := by rw [if_pos rfl] at H; exact H
   clear H; have H := H1; clear H1
   replace H := Option.bind_eq_some_iff.mp H
   obtain ⟨t174, A150, H⟩ := H
   replace H : (upload_Give.j0 k a0 a2 a3 (!t174) a1_0 a1_1 a1_2 a1_3 a1_4 l1_5) = some (r1, r2, r3, r4, r5, r6, r7, r8) := H
   have A15 := Aside0.mk A150
   clear A150
   have H' := Aside0.mk H
   clear H
   go_wp2_with (first | ((with_reducible refine gate_callee (f := 21) rfl ?_); refine goesL_ (some 17) rfl rfl Try.func21 (by kernel_rfl) rfl #[.string a0] rfl ka ?_; (with_reducible refine (nor_May.calls a0 true _ A8.out).mono ?_); rintro e w' ⟨rfl, ⟨nd, rfl⟩⟩; refine ⟨_, rfl, ?_⟩; have hnb16 := NB169_170.out; have hnc16 := NB170_169.out; obtain ⟨hcz17_0, hcz17_1, hcz17_2, hcz17_3, hcz17_4, hcz17_5⟩ := kc6 BK169.out; obtain ⟨hfz17_0, hfz17_1, hfz17_2, hfz17_3, hfz17_4, hfz17_5⟩ := kf6 BK169.out) | (go_at_call 22; (with_reducible refine (device_May.calls a1_0 a1_1 a1_2 a1_3 a1_4 _ _ l1_5 true _ ?side1 ?side2 A10.out).mono ?_); (case side1 => repeat (first | exact (Kd.C_below HR1_5.out (kb2 HB.out GE169.out GE170.out)) | (with_reducible refine Kd.C_alloc ?_ _) | (with_reducible refine Kd.C_drewN ?_ _) | (with_reducible refine Kd.C_drew ?_))); (case side2 => exact HC1_5.out); rintro e w18 ⟨rfl, hb⟩; have n0_ := Aside0.mk (kL BK169.out hb); have n1_ := Aside0.mk (kL BK170.out hb); have n2_ := Aside0.mk (below_step (kb2 HB.out GE169.out GE170.out) hb); clear BK169; clear BK170; clear HB; have BK169 := n0_; have BK170 := n1_; have HB := n2_; clear n0_ n1_ n2_; (try clear hb); (try clear hb2); (try clear hk); (try clear hi); obtain ⟨hcz19_0, hcz19_1, hcz19_2, hcz19_3, hcz19_4, hcz19_5⟩ := kc6 BK169.out; obtain ⟨hfz19_0, hfz19_1, hfz19_2, hfz19_3, hfz19_4, hfz19_5⟩ := kf6 BK169.out) | (go_at_call 23; (with_reducible refine (setup_Value.calls a2 true _ A13.out).mono ?_); rintro e w' ⟨rfl, ⟨nd, rfl⟩⟩) | (go_at_call 24; (with_reducible refine (setup_Length.calls a3 t174 _ A15.out).mono ?_); rintro e w' ⟨rfl, ⟨nd, rfl⟩⟩))
   go_meet
   case rel => exact ⟨_, (!t174), (by first | rfl | (simp; done) | (simp [*]; done)), H', ⟨by first | omega | exact Nat.le_refl _⟩, ⟨kB BK169.out⟩, ⟨kB BK170.out⟩, ⟨kb2 HB.out GE169.out GE170.out⟩⟩
  ·rw [if_neg c12] at H
   have c12b0 : (a1_0 == 0) = false := beq_eq_false_iff_ne.mpr c12
   have c12b1 : (a1_0 != 0) = true := bne_iff_ne.mpr c12
   (first | rw [c12b0] | rw [c12b1] | (simp only [i64_w, i32_w]; rw [c12b0]) | skip)
   by_cases c24 : a1_0 = 6
   case neg =>
    rw [if_neg c24] at H
    have c24b0 : (a1_0 == 6) = false := beq_eq_false_iff_ne.mpr c24
    have c24b1 : (a1_0 != 6) = true := bne_iff_ne.mpr c24
    have H' := Aside0.mk H
    clear H
    go_wp2_with (first | ((with_reducible refine gate_callee (f := 21) rfl ?_); refine goesL_ (some 17) rfl rfl Try.func21 (by kernel_rfl) rfl #[.string a0] rfl ka ?_; (with_reducible refine (nor_May.calls a0 true _ A8.out).mono ?_); rintro e w' ⟨rfl, ⟨nd, rfl⟩⟩; refine ⟨_, rfl, ?_⟩; have hnb36 := NB169_170.out; have hnc36 := NB170_169.out; obtain ⟨hcz37_0, hcz37_1, hcz37_2, hcz37_3, hcz37_4, hcz37_5⟩ := kc6 BK169.out; obtain ⟨hfz37_0, hfz37_1, hfz37_2, hfz37_3, hfz37_4, hfz37_5⟩ := kf6 BK169.out) | (go_at_call 22; (with_reducible refine (device_May.calls a1_0 a1_1 a1_2 a1_3 a1_4 _ _ l1_5 true _ ?side1 ?side2 A10.out).mono ?_); (case side1 => repeat (first | exact (Kd.C_below HR1_5.out (kb2 HB.out GE169.out GE170.out)) | (with_reducible refine Kd.C_alloc ?_ _) | (with_reducible refine Kd.C_drewN ?_ _) | (with_reducible refine Kd.C_drew ?_))); (case side2 => exact HC1_5.out); rintro e w38 ⟨rfl, hb⟩; have n0_ := Aside0.mk (kL BK169.out hb); have n1_ := Aside0.mk (kL BK170.out hb); have n2_ := Aside0.mk (below_step (kb2 HB.out GE169.out GE170.out) hb); clear BK169; clear BK170; clear HB; have BK169 := n0_; have BK170 := n1_; have HB := n2_; clear n0_ n1_ n2_; (try clear hb); (try clear hb2); (try clear hk); (try clear hi); obtain ⟨hcz39_0, hcz39_1, hcz39_2, hcz39_3, hcz39_4, hcz39_5⟩ := kc6 BK169.out; obtain ⟨hfz39_0, hfz39_1, hfz39_2, hfz39_3, hfz39_4, hfz39_5⟩ := kf6 BK169.out))
    go_meet
    case rel => exact ⟨_, (true), (by first | rfl | (simp; done) | (simp [*]; done)), H', ⟨by first | omega | exact Nat.le_refl _⟩, ⟨kB BK169.out⟩, ⟨kB BK170.out⟩, ⟨kb2 HB.out GE169.out GE170.out⟩⟩
   rw [if_pos c24] at H
   have c24b0 : (a1_0 == 6) = true := beq_iff_eq.mpr c24
   have c24b1 : (a1_0 != 6) = false := bne_eq_false_iff_eq.mpr c24
   clear c24
   replace H := Option.bind_eq_some_iff.mp H
   obtain ⟨t175, A250, H⟩ := H
   replace H : (if t175 = true then ((setup_Length.f a3).bind fun t176 => (upload_Give.j0 k a0 a2 a3 (!t176) a1_0 a1_1 a1_2 a1_3 a1_4 l1_5)) else (upload_Give.j0 k a0 a2 a3 true a1_0 a1_1 a1_2 a1_3 a1_4 l1_5)) = some (r1, r2, r3, r4, r5, r6, r7, r8) := H
   have A25 := Aside0.mk A250
   clear A250
   by_cases c26 : t175 = true
   case neg =>
    replace c26 := Bool.eq_false_iff.mpr c26
    subst c26
    have H1 : (upload_Give.j0 k a0 a2 a3 true a1_0 a1_1 a1_2 a1_3 a1_4 l1_5) = some (r1, r2, r3, r4, r5, r6, r7, r8) := by rw [if_neg (show ¬ (false = true) by decide)] at H; exact H
    clear H; have H := H1; clear H1
    have H' := Aside0.mk H
    clear H
    go_wp2_with (first | ((with_reducible refine gate_callee (f := 21) rfl ?_); refine goesL_ (some 17) rfl rfl Try.func21 (by kernel_rfl) rfl #[.string a0] rfl ka ?_; (with_reducible refine (nor_May.calls a0 true _ A8.out).mono ?_); rintro e w' ⟨rfl, ⟨nd, rfl⟩⟩; refine ⟨_, rfl, ?_⟩; have hnb32 := NB169_170.out; have hnc32 := NB170_169.out; obtain ⟨hcz33_0, hcz33_1, hcz33_2, hcz33_3, hcz33_4, hcz33_5⟩ := kc6 BK169.out; obtain ⟨hfz33_0, hfz33_1, hfz33_2, hfz33_3, hfz33_4, hfz33_5⟩ := kf6 BK169.out) | (go_at_call 22; (with_reducible refine (device_May.calls a1_0 a1_1 a1_2 a1_3 a1_4 _ _ l1_5 true _ ?side1 ?side2 A10.out).mono ?_); (case side1 => repeat (first | exact (Kd.C_below HR1_5.out (kb2 HB.out GE169.out GE170.out)) | (with_reducible refine Kd.C_alloc ?_ _) | (with_reducible refine Kd.C_drewN ?_ _) | (with_reducible refine Kd.C_drew ?_))); (case side2 => exact HC1_5.out); rintro e w34 ⟨rfl, hb⟩; have n0_ := Aside0.mk (kL BK169.out hb); have n1_ := Aside0.mk (kL BK170.out hb); have n2_ := Aside0.mk (below_step (kb2 HB.out GE169.out GE170.out) hb); clear BK169; clear BK170; clear HB; have BK169 := n0_; have BK170 := n1_; have HB := n2_; clear n0_ n1_ n2_; (try clear hb); (try clear hb2); (try clear hk); (try clear hi); obtain ⟨hcz35_0, hcz35_1, hcz35_2, hcz35_3, hcz35_4, hcz35_5⟩ := kc6 BK169.out; obtain ⟨hfz35_0, hfz35_1, hfz35_2, hfz35_3, hfz35_4, hfz35_5⟩ := kf6 BK169.out) | (go_at_call 23; (with_reducible refine (setup_Value.calls a2 false _ A25.out).mono ?_); rintro e w' ⟨rfl, ⟨nd, rfl⟩⟩))
    go_meet
    case rel => exact ⟨_, (true), (by first | rfl | (simp; done) | (simp [*]; done)), H', ⟨by first | omega | exact Nat.le_refl _⟩, ⟨kB BK169.out⟩, ⟨kB BK170.out⟩, ⟨kb2 HB.out GE169.out GE170.out⟩⟩
   subst c26
   have H1 : ((setup_Length.f a3).bind fun t176 => (upload_Give.j0 k a0 a2 a3 (!t176) a1_0 a1_1 a1_2 a1_3 a1_4 l1_5)) = some (r1, r2, r3, r4, r5, r6, r7, r8) := by rw [if_pos rfl] at H; exact H
   clear H; have H := H1; clear H1
   replace H := Option.bind_eq_some_iff.mp H
   obtain ⟨t176, A270, H⟩ := H
   replace H : (upload_Give.j0 k a0 a2 a3 (!t176) a1_0 a1_1 a1_2 a1_3 a1_4 l1_5) = some (r1, r2, r3, r4, r5, r6, r7, r8) := H
   have A27 := Aside0.mk A270
   clear A270
   have H' := Aside0.mk H
   clear H
   go_wp2_with (first | ((with_reducible refine gate_callee (f := 21) rfl ?_); refine goesL_ (some 17) rfl rfl Try.func21 (by kernel_rfl) rfl #[.string a0] rfl ka ?_; (with_reducible refine (nor_May.calls a0 true _ A8.out).mono ?_); rintro e w' ⟨rfl, ⟨nd, rfl⟩⟩; refine ⟨_, rfl, ?_⟩; have hnb28 := NB169_170.out; have hnc28 := NB170_169.out; obtain ⟨hcz29_0, hcz29_1, hcz29_2, hcz29_3, hcz29_4, hcz29_5⟩ := kc6 BK169.out; obtain ⟨hfz29_0, hfz29_1, hfz29_2, hfz29_3, hfz29_4, hfz29_5⟩ := kf6 BK169.out) | (go_at_call 22; (with_reducible refine (device_May.calls a1_0 a1_1 a1_2 a1_3 a1_4 _ _ l1_5 true _ ?side1 ?side2 A10.out).mono ?_); (case side1 => repeat (first | exact (Kd.C_below HR1_5.out (kb2 HB.out GE169.out GE170.out)) | (with_reducible refine Kd.C_alloc ?_ _) | (with_reducible refine Kd.C_drewN ?_ _) | (with_reducible refine Kd.C_drew ?_))); (case side2 => exact HC1_5.out); rintro e w30 ⟨rfl, hb⟩; have n0_ := Aside0.mk (kL BK169.out hb); have n1_ := Aside0.mk (kL BK170.out hb); have n2_ := Aside0.mk (below_step (kb2 HB.out GE169.out GE170.out) hb); clear BK169; clear BK170; clear HB; have BK169 := n0_; have BK170 := n1_; have HB := n2_; clear n0_ n1_ n2_; (try clear hb); (try clear hb2); (try clear hk); (try clear hi); obtain ⟨hcz31_0, hcz31_1, hcz31_2, hcz31_3, hcz31_4, hcz31_5⟩ := kc6 BK169.out; obtain ⟨hfz31_0, hfz31_1, hfz31_2, hfz31_3, hfz31_4, hfz31_5⟩ := kf6 BK169.out) | (go_at_call 23; (with_reducible refine (setup_Value.calls a2 true _ A25.out).mono ?_); rintro e w' ⟨rfl, ⟨nd, rfl⟩⟩) | (go_at_call 24; (with_reducible refine (setup_Length.calls a3 t176 _ A27.out).mono ?_); rintro e w' ⟨rfl, ⟨nd, rfl⟩⟩))
   go_meet
   case rel => exact ⟨_, (!t176), (by first | rfl | (simp; done) | (simp [*]; done)), H', ⟨by first | omega | exact Nat.le_refl _⟩, ⟨kB BK169.out⟩, ⟨kB BK170.out⟩, ⟨kb2 HB.out GE169.out GE170.out⟩⟩
 case rest =>
  clear HC5
  try clear c1; try clear c2; try clear p2; try clear c3; try clear c4; try clear c9; try clear c10; try clear c11; try clear c12; try clear c12b0; try clear c12b1; try clear c14; try clear c16; try clear c20; try clear c21; try clear c24; try clear c24b0; try clear c24b1; try clear c26; try clear c28; try clear c32; try clear c36; try clear c40; try clear hcz17_0; try clear hcz17_1; try clear hcz17_2; try clear hcz17_3; try clear hcz17_4; try clear hcz17_5; try clear hcz19_0; try clear hcz19_1; try clear hcz19_2; try clear hcz19_3; try clear hcz19_4; try clear hcz19_5; try clear hcz21_0; try clear hcz21_1; try clear hcz21_2; try clear hcz21_3; try clear hcz21_4; try clear hcz21_5; try clear hcz23_0; try clear hcz23_1; try clear hcz23_2; try clear hcz23_3; try clear hcz23_4; try clear hcz23_5; try clear hcz29_0; try clear hcz29_1; try clear hcz29_2; try clear hcz29_3; try clear hcz29_4; try clear hcz29_5; try clear hcz31_0; try clear hcz31_1; try clear hcz31_2; try clear hcz31_3; try clear hcz31_4; try clear hcz31_5; try clear hcz33_0; try clear hcz33_1; try clear hcz33_2; try clear hcz33_3; try clear hcz33_4; try clear hcz33_5; try clear hcz35_0; try clear hcz35_1; try clear hcz35_2; try clear hcz35_3; try clear hcz35_4; try clear hcz35_5; try clear hcz37_0; try clear hcz37_1; try clear hcz37_2; try clear hcz37_3; try clear hcz37_4; try clear hcz37_5; try clear hcz39_0; try clear hcz39_1; try clear hcz39_2; try clear hcz39_3; try clear hcz39_4; try clear hcz39_5; try clear hcz41_0; try clear hcz41_1; try clear hcz41_2; try clear hcz41_3; try clear hcz41_4; try clear hcz41_5; try clear hfz17_0; try clear hfz17_1; try clear hfz17_2; try clear hfz17_3; try clear hfz17_4; try clear hfz17_5; try clear hfz19_0; try clear hfz19_1; try clear hfz19_2; try clear hfz19_3; try clear hfz19_4; try clear hfz19_5; try clear hfz21_0; try clear hfz21_1; try clear hfz21_2; try clear hfz21_3; try clear hfz21_4; try clear hfz21_5; try clear hfz23_0; try clear hfz23_1; try clear hfz23_2; try clear hfz23_3; try clear hfz23_4; try clear hfz23_5; try clear hfz29_0; try clear hfz29_1; try clear hfz29_2; try clear hfz29_3; try clear hfz29_4; try clear hfz29_5; try clear hfz31_0; try clear hfz31_1; try clear hfz31_2; try clear hfz31_3; try clear hfz31_4; try clear hfz31_5; try clear hfz33_0; try clear hfz33_1; try clear hfz33_2; try clear hfz33_3; try clear hfz33_4; try clear hfz33_5; try clear hfz35_0; try clear hfz35_1; try clear hfz35_2; try clear hfz35_3; try clear hfz35_4; try clear hfz35_5; try clear hfz37_0; try clear hfz37_1; try clear hfz37_2; try clear hfz37_3; try clear hfz37_4; try clear hfz37_5; try clear hfz39_0; try clear hfz39_1; try clear hfz39_2; try clear hfz39_3; try clear hfz39_4; try clear hfz39_5; try clear hfz41_0; try clear hfz41_1; try clear hfz41_2; try clear hfz41_3; try clear hfz41_4; try clear hfz41_5
  obtain ⟨kq, x43_4, rfl, HA, HJ4, BK169, BK170, HB⟩ := hcut
  cases kq with
  | zero => exact absurd HA.out (by simp [upload_Give.j0])
  | succ kj4 =>
   have H := HA.out
   clear HA
   simp only [upload_Give.j0] at H
   by_cases c43 : x43_4 = true
   ·subst c43
    have H1 : (some (0, 0, 0, 0, 0, ([] : List (S68)), (⟨#[]⟩ : ByteArray), 2000)) = some (r1, r2, r3, r4, r5, r6, r7, r8) := by rw [if_pos rfl] at H; exact H
    clear H; have H := H1; clear H1
    simp only [Option.some.injEq, Prod.mk.injEq] at H
    obtain ⟨rfl, rfl, rfl, rfl, rfl, rfl, rfl, rfl⟩ := H
    have hnb44 := NB170_169.out
    have hnc44 := NB169_170.out
    obtain ⟨hcz45_0, hcz45_1, hcz45_2, hcz45_3, hcz45_4, hcz45_5⟩ := kc6 BK170.out
    obtain ⟨hfz45_0, hfz45_1, hfz45_2, hfz45_3, hfz45_4, hfz45_5⟩ := kf6 BK170.out
    go_wp2
    refine bodyPost_ret (results_ctt rfl _ _ gb170 24 #[.int .i64 0, .int .i64 0, .int .i64 0, .int .i64 0, .int .i64 0, .slice none 0 0] (0, 0) _ rfl (kP6 BK170.out) Try.underlying24 rfl (by kernel_rfl)) rfl ?_
    exact ⟨_, by first | rfl | (simp [errW_none, errW_some] <;> rfl) | (simp [*, errW_none, errW_some] <;> rfl), by first | exact Kd.R_nil _ _ _ _ _ | exact Kd.N_nil _ _ _ _ _ | exact Kd.V_nil _ _ _ _ _ | exact Kd.Q_nil _ _ _ _ _ | exact Kd.S_nil _ _ _ _ _, kb2 HB.out GE169.out GE170.out⟩
   ·replace c43 := Bool.eq_false_iff.mpr c43
    subst c43
    have H1 : ((choose_Active.f a0).bind fun bt177 => (if bt177.2.2.2.2.2 = 0 then ((device_Copy.f a1_0 a1_1 a1_2 a1_3 a1_4 l1_5).bind fun bt192 => (if a1_0 = 0 then (upload_Give.j1 kj4 a0 a2 a3 bt177.1 bt177.2.1 bt177.2.2.1 bt177.2.2.2.1 bt177.2.2.2.2.1 bt192.1 bt192.2.1 0 bt192.2.2.2.1 bt192.2.2.2.2.1 bt192.2.2.2.2.2) else (upload_Give.j1 kj4 a0 a2 a3 bt177.1 bt177.2.1 bt177.2.2.1 bt177.2.2.2.1 bt177.2.2.2.2.1 bt192.1 bt192.2.1 bt192.2.2.1 bt192.2.2.2.1 bt192.2.2.2.2.1 bt192.2.2.2.2.2))) else ((device_Failed.f 2).bind fun bt184 => (some (bt184.1, bt184.2.1, bt184.2.2.1, bt184.2.2.2.1, bt184.2.2.2.2.1, bt184.2.2.2.2.2, (⟨#[]⟩ : ByteArray), 0))))) = some (r1, r2, r3, r4, r5, r6, r7, r8) := by rw [if_neg (show ¬ (false = true) by decide)] at H; exact H
    clear H; have H := H1; clear H1
    replace H := Option.bind_eq_some_iff.mp H
    obtain ⟨⟨t177, t178, t179, t180, t181, t182⟩, A460, H⟩ := H
    replace H : (if t182 = 0 then ((device_Copy.f a1_0 a1_1 a1_2 a1_3 a1_4 l1_5).bind fun bt192 => (if a1_0 = 0 then (upload_Give.j1 kj4 a0 a2 a3 t177 t178 t179 t180 t181 bt192.1 bt192.2.1 0 bt192.2.2.2.1 bt192.2.2.2.2.1 bt192.2.2.2.2.2) else (upload_Give.j1 kj4 a0 a2 a3 t177 t178 t179 t180 t181 bt192.1 bt192.2.1 bt192.2.2.1 bt192.2.2.2.1 bt192.2.2.2.2.1 bt192.2.2.2.2.2))) else ((device_Failed.f 2).bind fun bt184 => (some (bt184.1, bt184.2.1, bt184.2.2.1, bt184.2.2.2.1, bt184.2.2.2.2.1, bt184.2.2.2.2.2, (⟨#[]⟩ : ByteArray), 0)))) = some (r1, r2, r3, r4, r5, r6, r7, r8) := H
    have A46 := Aside0.mk A460
    clear A460
    by_cases c47 : t182 = 0
    ·rw [if_pos c47] at H
     have c47b0 : (t182 == 0) = true := beq_iff_eq.mpr c47
     have c47b1 : (t182 != 0) = false := bne_eq_false_iff_eq.mpr c47
     clear c47
     replace H := Option.bind_eq_some_iff.mp H
     obtain ⟨⟨t192, t193, t194, t195, t196, t197⟩, A480, H⟩ := H
     replace H : (if a1_0 = 0 then (upload_Give.j1 kj4 a0 a2 a3 t177 t178 t179 t180 t181 t192 t193 0 t195 t196 t197) else (upload_Give.j1 kj4 a0 a2 a3 t177 t178 t179 t180 t181 t192 t193 t194 t195 t196 t197)) = some (r1, r2, r3, r4, r5, r6, r7, r8) := H
     have A48 := Aside0.mk A480
     clear A480
     have HC49 := Aside0.mk H
     clear H
     go_upto_if 57 with (first | ((with_reducible refine gate_callee (f := 25) rfl ?_); refine goesL_ (some 47) rfl rfl Try.func25 (by kernel_rfl) rfl #[.string a0] rfl ka ?_; (with_reducible refine (choose_Active.calls a0 t177 t178 t179 t180 t181 t182 _ A46.out).mono ?_); rintro e w50 ⟨rfl, hb⟩; refine ⟨_, rfl, ?_⟩; have n0_ := Aside0.mk (kL BK169.out hb); have n1_ := Aside0.mk (kL BK170.out hb); have n2_ := Aside0.mk (below_step (kb2 HB.out GE169.out GE170.out) hb); clear BK169; clear BK170; clear HB; have BK169 := n0_; have BK170 := n1_; have HB := n2_; clear n0_ n1_ n2_; (try clear hb); (try clear hb2); (try clear hk); (try clear hi)) | ((with_reducible refine gate_dst (N := 11) rfl ?_); refine box_event ?hg (N := 11) ?hd (cs := #[.int .i64 0, .int .i64 0, .int .i64 0, .int .i64 0, .int .i64 0]) (t := 43) ?hr ?_; (case hd => rfl); (case hg => rfl); (case hr => first | (go_simp; done) | (go_simp; rfl)); intro gb183 hg w51 hbox hb; have n0_ := Aside0.mk (kL BK169.out hb); have n1_ := Aside0.mk (kL BK170.out hb); have n2_ := Aside0.mk (below_step (kb2 HB.out GE169.out GE170.out) hb); have n3_ := Aside0.mk (hbox); have n4_ := Aside0.mk ((kz hg (below_size (kb2 HB.out GE169.out GE170.out)) : w.heap.size ≤ gb183)); have n5_ := Aside0.mk ((kz hg (below_size (kb2 HB.out GE169.out GE170.out)) : w.heap.size ≤ gb183)); have n6_ := Aside0.mk ((kN hg BK169.out : gb169 ≠ gb183)); have n7_ := Aside0.mk (((kN hg BK169.out).symm : gb183 ≠ gb169)); have n8_ := Aside0.mk ((kN hg BK170.out : gb170 ≠ gb183)); have n9_ := Aside0.mk (((kN hg BK170.out).symm : gb183 ≠ gb170)); clear BK169; clear BK170; clear HB; have BK169 := n0_; have BK170 := n1_; have HB := n2_; have BK183 := n3_; have GW183 := n4_; have GE183 := n5_; have NB169_183 := n6_; have NB183_169 := n7_; have NB170_183 := n8_; have NB183_170 := n9_; clear n0_ n1_ n2_ n3_ n4_ n5_ n6_ n7_ n8_ n9_; clear hb hbox hg; have hnb52 := NB183_169.out; have hnc52 := NB169_183.out; have hnb53 := NB183_170.out; have hnc53 := NB170_183.out; obtain ⟨hcz54_0, hcz54_1, hcz54_2, hcz54_3, hcz54_4⟩ := kc5 BK183.out; obtain ⟨hfz54_0, hfz54_1, hfz54_2, hfz54_3, hfz54_4⟩ := kf5 BK183.out; have hnb55 := NB169_170.out; have hnc55 := NB170_169.out; obtain ⟨hcz56_0, hcz56_1, hcz56_2, hcz56_3, hcz56_4, hcz56_5⟩ := kc6 BK169.out; obtain ⟨hfz56_0, hfz56_1, hfz56_2, hfz56_3, hfz56_4, hfz56_5⟩ := kf6 BK169.out) | ((with_reducible refine gate_callee (f := 27) rfl ?_); refine goesL_ (some 54) rfl rfl Try.func27 (by kernel_rfl) rfl #[.agg #[.int .i64 a1_0, .int .i64 a1_1, .int .i64 a1_2, .int .i64 a1_3, .int .i64 a1_4, .slice A1_5 l1_5.length c1_5]] rfl ka ?_; (with_reducible refine (device_Copy.calls a1_0 a1_1 a1_2 a1_3 a1_4 _ _ l1_5 t192 t193 t194 t195 t196 t197 _ ?side1 ?side2 A48.out).mono ?_); (case side1 => exact Kd.C_below HR1_5.out (kb3 HB.out GE169.out GE170.out GE183.out)); (case side2 => exact HC1_5.out); rintro e w57 ⟨v198, rfl, ho0, hb⟩; refine ⟨_, rfl, ?_⟩; have n0_ := Aside0.mk (Kd.R_lower ho0 (below_size (kb3 HB.out GE169.out GE170.out GE183.out))); have n1_ := Aside0.mk (blk_below (g := gb169) (o := .cells #[.int .i64 a1_0, .int .i64 a1_1, .int .i64 a1_2, .int .i64 a1_3, .int .i64 a1_4, .slice A1_5 l1_5.length c1_5] 24 (0, 0)) (kFa5 BK169.out NB169_183.out) hb); have n2_ := Aside0.mk (blk_below (g := gb170) (o := .cells #[.int .i64 0, .int .i64 0, .int .i64 0, .int .i64 0, .int .i64 0, .slice none 0 0] 24 (0, 0)) (kFa5 BK170.out NB170_183.out) hb); have n3_ := Aside0.mk (blk_below (g := gb183) (o := .cells #[.int .i64 t177, .int .i64 t178, .int .i64 t179, .int .i64 t180, .int .i64 t181] 43 (0, 0)) (kP5 BK183.out) hb); have n4_ := Aside0.mk (below_step (kb3 HB.out GE169.out GE170.out GE183.out) hb); clear BK169; clear BK170; clear BK183; clear HB; have HO199 := n0_; have BK169 := n1_; have BK170 := n2_; have BK183 := n3_; have HB := n4_; clear n0_ n1_ n2_ n3_ n4_; (try clear hb); (try clear hb2); (try clear hk); (try clear hi); (try clear ho0)) | ((with_reducible refine gate_dst (N := 13) rfl ?_); refine box_event ?hg (N := 13) ?hd (cs := #[.int .i64 0, .int .i64 0, .int .i64 0, .int .i64 0, .int .i64 0, .slice none 0 0]) (t := 24) ?hr ?_; (case hd => rfl); (case hg => rfl); (case hr => first | (go_simp; done) | (go_simp; rfl)); intro gb200 hg w58 hbox hb; have n0_ := Aside0.mk (Kd.R_below (kR HO199.out) hb); have n1_ := Aside0.mk (kL BK169.out hb); have n2_ := Aside0.mk (kL BK170.out hb); have n3_ := Aside0.mk (kL BK183.out hb); have n4_ := Aside0.mk (below_step (kb3 HB.out GE169.out GE170.out GE183.out) hb); have n5_ := Aside0.mk (hbox); have n6_ := Aside0.mk ((kz hg (below_size (kb3 HB.out GE169.out GE170.out GE183.out)) : w.heap.size ≤ gb200)); have n7_ := Aside0.mk ((kz hg (below_size (kb3 HB.out GE169.out GE170.out GE183.out)) : w.heap.size ≤ gb200)); have n8_ := Aside0.mk ((kN hg BK169.out : gb169 ≠ gb200)); have n9_ := Aside0.mk (((kN hg BK169.out).symm : gb200 ≠ gb169)); have n10_ := Aside0.mk ((kN hg BK170.out : gb170 ≠ gb200)); have n11_ := Aside0.mk (((kN hg BK170.out).symm : gb200 ≠ gb170)); have n12_ := Aside0.mk ((kN hg BK183.out : gb183 ≠ gb200)); have n13_ := Aside0.mk (((kN hg BK183.out).symm : gb200 ≠ gb183)); clear HO199; clear BK169; clear BK170; clear BK183; clear HB; have HO199 := n0_; have BK169 := n1_; have BK170 := n2_; have BK183 := n3_; have HB := n4_; have BK200 := n5_; have GW200 := n6_; have GE200 := n7_; have NB169_200 := n8_; have NB200_169 := n9_; have NB170_200 := n10_; have NB200_170 := n11_; have NB183_200 := n12_; have NB200_183 := n13_; clear n0_ n1_ n2_ n3_ n4_ n5_ n6_ n7_ n8_ n9_ n10_ n11_ n12_ n13_; clear hb hbox hg; have hnb59 := NB200_169.out; have hnc59 := NB169_200.out; have hnb60 := NB200_170.out; have hnc60 := NB170_200.out; have hnb61 := NB200_183.out; have hnc61 := NB183_200.out; obtain ⟨hcz62_0, hcz62_1, hcz62_2, hcz62_3, hcz62_4, hcz62_5⟩ := kc6 BK200.out; obtain ⟨hfz62_0, hfz62_1, hfz62_2, hfz62_3, hfz62_4, hfz62_5⟩ := kf6 BK200.out; obtain ⟨Ao63, co63, eo63⟩ := Kd.R_slice HO199.out; subst eo63; obtain ⟨hcz64_0, hcz64_1, hcz64_2, hcz64_3, hcz64_4, hcz64_5⟩ := kc6 BK169.out; obtain ⟨hfz64_0, hfz64_1, hfz64_2, hfz64_3, hfz64_4, hfz64_5⟩ := kf6 BK169.out))
     (try simp only [Act.put, List.setIfInBounds_toArray, List.set_cons_zero, List.set_cons_succ])
     go_cut [] (fun wc => ∃ (kq : Nat) (x201002_48 : Int), Aside0 (upload_Give.j1 kq a0 a2 a3 t177 t178 t179 t180 t181 t192 t193 x201002_48 t195 t196 t197 = some (r1, r2, r3, r4, r5, r6, r7, r8)) ∧ Aside0 (kq ≤ kj4) ∧ Aside0 (Kd.R k68 68 wc w.heap.size (fun _ => True) (.slice Ao63 t197.length co63) t197) ∧ Aside0 (wc.heap[gb169]? = some (.cells #[.int .i64 a1_0, .int .i64 a1_1, .int .i64 a1_2, .int .i64 a1_3, .int .i64 a1_4, (.slice A1_5 l1_5.length c1_5)] 24 (0, 0))) ∧ Aside0 (wc.heap[gb170]? = some (.cells #[.int .i64 0, .int .i64 0, .int .i64 0, .int .i64 0, .int .i64 0, (.slice none 0 0)] 24 (0, 0))) ∧ Aside0 (wc.heap[gb183]? = some (.cells #[.int .i64 t177, .int .i64 t178, .int .i64 t179, .int .i64 t180, .int .i64 t181] 43 (0, 0))) ∧ Aside0 (wc.heap[gb200]? = some (.cells #[.int .i64 t192, .int .i64 t193, .int .i64 x201002_48, .int .i64 t195, .int .i64 t196, (.slice Ao63 t197.length co63)] 24 (0, 0))) ∧ Aside0 (Below w.heap.size w wc))
     case first =>
      have H := HC49.out
      clear HC49
      by_cases c65 : a1_0 = 0
      case neg =>
       rw [if_neg c65] at H
       have c65b0 : (a1_0 == 0) = false := beq_eq_false_iff_ne.mpr c65
       have c65b1 : (a1_0 != 0) = true := bne_iff_ne.mpr c65
       (first | rw [c65b0] | rw [c65b1] | (simp only [i64_w, i32_w]; rw [c65b0]) | skip)
       have H' := Aside0.mk H
       clear H
       go_wp2
       go_meet
       case rel => exact ⟨_, (t194), H', ⟨by have := HJ4.out; first | omega | exact Nat.le_refl _⟩, ⟨by (with_reducible repeat (first | apply Kd.R_alloc | apply Kd.R_drewN | apply Kd.R_drew)); exact Kd.R_mono (Kd.R_far (p := ⟨gb200, 5, none⟩) (Kd.R_far (p := ⟨gb200, 4, none⟩) (Kd.R_far (p := ⟨gb200, 3, none⟩) (Kd.R_far (p := ⟨gb200, 2, none⟩) (Kd.R_far (p := ⟨gb200, 1, none⟩) (Kd.R_far (p := ⟨gb200, 0, none⟩) (Kd.R_types HO199.out BK200.out (by decide)) (fun _ hk => hk.2) (.int .i64 t192)) (fun _ hk => hk.2) (.int .i64 t193)) (fun _ hk => hk.2) (.int .i64 t194)) (fun _ hk => hk.2) (.int .i64 t195)) (fun _ hk => hk.2) (.int .i64 t196)) (fun _ hk => hk.2) (.slice Ao63 t197.length co63)) (fun _ hk => trivial)⟩, ⟨kFa6 BK169.out NB169_200.out⟩, ⟨kFa6 BK170.out NB170_200.out⟩, ⟨kFa6 BK183.out NB183_200.out⟩, ⟨kP6 BK200.out⟩, ⟨kb4 HB.out GE169.out GE170.out GE183.out GE200.out⟩⟩
      rw [if_pos c65] at H
      have c65b0 : (a1_0 == 0) = true := beq_iff_eq.mpr c65
      have c65b1 : (a1_0 != 0) = false := bne_eq_false_iff_eq.mpr c65
      clear c65
      (first | rw [c65b0] | rw [c65b1] | (simp only [i64_w, i32_w]; rw [c65b0]) | skip)
      have H' := Aside0.mk H
      clear H
      have hnb66 := NB200_169.out
      have hnc66 := NB169_200.out
      have hnb67 := NB200_170.out
      have hnc67 := NB170_200.out
      have hnb68 := NB200_183.out
      have hnc68 := NB183_200.out
      obtain ⟨hcz69_0, hcz69_1, hcz69_2, hcz69_3, hcz69_4, hcz69_5⟩ := kc6 BK200.out
      obtain ⟨hfz69_0, hfz69_1, hfz69_2, hfz69_3, hfz69_4, hfz69_5⟩ := kf6 BK200.out
      go_wp2
      go_meet
      case rel => exact ⟨_, (0), H', ⟨by have := HJ4.out; first | omega | exact Nat.le_refl _⟩, ⟨by (with_reducible repeat (first | apply Kd.R_alloc | apply Kd.R_drewN | apply Kd.R_drew)); exact Kd.R_mono (Kd.R_far (p := ⟨gb200, 2, none⟩) (Kd.R_far (p := ⟨gb200, 5, none⟩) (Kd.R_far (p := ⟨gb200, 4, none⟩) (Kd.R_far (p := ⟨gb200, 3, none⟩) (Kd.R_far (p := ⟨gb200, 2, none⟩) (Kd.R_far (p := ⟨gb200, 1, none⟩) (Kd.R_far (p := ⟨gb200, 0, none⟩) (Kd.R_types HO199.out BK200.out (by decide)) (fun _ hk => hk.2) (.int .i64 t192)) (fun _ hk => hk.2) (.int .i64 t193)) (fun _ hk => hk.2) (.int .i64 t194)) (fun _ hk => hk.2) (.int .i64 t195)) (fun _ hk => hk.2) (.int .i64 t196)) (fun _ hk => hk.2) (.slice Ao63 t197.length co63)) (fun _ hk => hk.2) (.int .i64 0)) (fun _ hk => trivial)⟩, ⟨kFa7 BK169.out NB169_200.out⟩, ⟨kFa7 BK170.out NB170_200.out⟩, ⟨kFa7 BK183.out NB183_200.out⟩, ⟨by (with_reducible repeat (first | refine blk_drewN ?_ _ | refine blk_drew ?_ | refine blk_alloc ?_ _)); refine blk_put (cs := #[.int .i64 t192, .int .i64 t193, .int .i64 t194, .int .i64 t195, .int .i64 t196, .slice Ao63 t197.length co63]) ?_ 2 _ rfl; (with_reducible repeat (first | refine blk_drewN ?_ _ | refine blk_drew ?_ | refine blk_alloc ?_ _)); refine blk_put (cs := #[.int .i64 t192, .int .i64 t193, .int .i64 t194, .int .i64 t195, .int .i64 t196, .slice none 0 0]) ?_ 5 _ rfl; (with_reducible repeat (first | refine blk_drewN ?_ _ | refine blk_drew ?_ | refine blk_alloc ?_ _)); refine blk_put (cs := #[.int .i64 t192, .int .i64 t193, .int .i64 t194, .int .i64 t195, .int .i64 0, .slice none 0 0]) ?_ 4 _ rfl; (with_reducible repeat (first | refine blk_drewN ?_ _ | refine blk_drew ?_ | refine blk_alloc ?_ _)); refine blk_put (cs := #[.int .i64 t192, .int .i64 t193, .int .i64 t194, .int .i64 0, .int .i64 0, .slice none 0 0]) ?_ 3 _ rfl; (with_reducible repeat (first | refine blk_drewN ?_ _ | refine blk_drew ?_ | refine blk_alloc ?_ _)); refine blk_put (cs := #[.int .i64 t192, .int .i64 t193, .int .i64 0, .int .i64 0, .int .i64 0, .slice none 0 0]) ?_ 2 _ rfl; (with_reducible repeat (first | refine blk_drewN ?_ _ | refine blk_drew ?_ | refine blk_alloc ?_ _)); refine blk_put (cs := #[.int .i64 t192, .int .i64 0, .int .i64 0, .int .i64 0, .int .i64 0, .slice none 0 0]) ?_ 1 _ rfl; (with_reducible repeat (first | refine blk_drewN ?_ _ | refine blk_drew ?_ | refine blk_alloc ?_ _)); refine blk_put (cs := #[.int .i64 0, .int .i64 0, .int .i64 0, .int .i64 0, .int .i64 0, .slice none 0 0]) ?_ 0 _ rfl; (with_reducible repeat (first | refine blk_drewN ?_ _ | refine blk_drew ?_ | refine blk_alloc ?_ _)); exact BK200.out⟩, ⟨kb4 HB.out GE169.out GE170.out GE183.out GE200.out⟩⟩
     case rest =>
      clear HC49
      try clear c1; try clear c2; try clear p2; try clear c3; try clear c4; try clear c5; try clear c6; try clear c9; try clear c10; try clear c11; try clear c12; try clear c12b0; try clear c12b1; try clear c14; try clear c16; try clear c20; try clear c21; try clear c24; try clear c24b0; try clear c24b1; try clear c25; try clear c26; try clear c27; try clear c28; try clear c32; try clear c36; try clear c40; try clear c43; try clear c44; try clear c47; try clear c47b0; try clear c47b1; try clear c52; try clear c53; try clear c55; try clear c59; try clear c60; try clear c61; try clear c65; try clear c65b0; try clear c65b1; try clear c66; try clear c67; try clear c68; try clear hcz17_0; try clear hcz17_1; try clear hcz17_2; try clear hcz17_3; try clear hcz17_4; try clear hcz17_5; try clear hcz19_0; try clear hcz19_1; try clear hcz19_2; try clear hcz19_3; try clear hcz19_4; try clear hcz19_5; try clear hcz21_0; try clear hcz21_1; try clear hcz21_2; try clear hcz21_3; try clear hcz21_4; try clear hcz21_5; try clear hcz23_0; try clear hcz23_1; try clear hcz23_2; try clear hcz23_3; try clear hcz23_4; try clear hcz23_5; try clear hcz29_0; try clear hcz29_1; try clear hcz29_2; try clear hcz29_3; try clear hcz29_4; try clear hcz29_5; try clear hcz31_0; try clear hcz31_1; try clear hcz31_2; try clear hcz31_3; try clear hcz31_4; try clear hcz31_5; try clear hcz33_0; try clear hcz33_1; try clear hcz33_2; try clear hcz33_3; try clear hcz33_4; try clear hcz33_5; try clear hcz35_0; try clear hcz35_1; try clear hcz35_2; try clear hcz35_3; try clear hcz35_4; try clear hcz35_5; try clear hcz37_0; try clear hcz37_1; try clear hcz37_2; try clear hcz37_3; try clear hcz37_4; try clear hcz37_5; try clear hcz39_0; try clear hcz39_1; try clear hcz39_2; try clear hcz39_3; try clear hcz39_4; try clear hcz39_5; try clear hcz41_0; try clear hcz41_1; try clear hcz41_2; try clear hcz41_3; try clear hcz41_4; try clear hcz41_5; try clear hcz45_0; try clear hcz45_1; try clear hcz45_2; try clear hcz45_3; try clear hcz45_4; try clear hcz45_5; try clear hcz54_0; try clear hcz54_1; try clear hcz54_2; try clear hcz54_3; try clear hcz54_4; try clear hcz56_0; try clear hcz56_1; try clear hcz56_2; try clear hcz56_3; try clear hcz56_4; try clear hcz56_5; try clear hcz62_0; try clear hcz62_1; try clear hcz62_2; try clear hcz62_3; try clear hcz62_4; try clear hcz62_5; try clear hcz64_0; try clear hcz64_1; try clear hcz64_2; try clear hcz64_3; try clear hcz64_4; try clear hcz64_5; try clear hcz69_0; try clear hcz69_1; try clear hcz69_2; try clear hcz69_3; try clear hcz69_4; try clear hcz69_5; try clear hfz17_0; try clear hfz17_1; try clear hfz17_2; try clear hfz17_3; try clear hfz17_4; try clear hfz17_5; try clear hfz19_0; try clear hfz19_1; try clear hfz19_2; try clear hfz19_3; try clear hfz19_4; try clear hfz19_5; try clear hfz21_0; try clear hfz21_1; try clear hfz21_2; try clear hfz21_3; try clear hfz21_4; try clear hfz21_5; try clear hfz23_0; try clear hfz23_1; try clear hfz23_2; try clear hfz23_3; try clear hfz23_4; try clear hfz23_5; try clear hfz29_0; try clear hfz29_1; try clear hfz29_2; try clear hfz29_3; try clear hfz29_4; try clear hfz29_5; try clear hfz31_0; try clear hfz31_1; try clear hfz31_2; try clear hfz31_3; try clear hfz31_4; try clear hfz31_5; try clear hfz33_0; try clear hfz33_1; try clear hfz33_2; try clear hfz33_3; try clear hfz33_4; try clear hfz33_5; try clear hfz35_0; try clear hfz35_1; try clear hfz35_2; try clear hfz35_3; try clear hfz35_4; try clear hfz35_5; try clear hfz37_0; try clear hfz37_1; try clear hfz37_2; try clear hfz37_3; try clear hfz37_4; try clear hfz37_5; try clear hfz39_0; try clear hfz39_1; try clear hfz39_2; try clear hfz39_3; try clear hfz39_4; try clear hfz39_5; try clear hfz41_0; try clear hfz41_1; try clear hfz41_2; try clear hfz41_3; try clear hfz41_4; try clear hfz41_5; try clear hfz45_0; try clear hfz45_1; try clear hfz45_2; try clear hfz45_3; try clear hfz45_4; try clear hfz45_5; try clear hfz54_0; try clear hfz54_1; try clear hfz54_2; try clear hfz54_3; try clear hfz54_4; try clear hfz56_0; try clear hfz56_1; try clear hfz56_2; try clear hfz56_3; try clear hfz56_4; try clear hfz56_5; try clear hfz62_0; try clear hfz62_1; try clear hfz62_2; try clear hfz62_3; try clear hfz62_4; try clear hfz62_5; try clear hfz64_0; try clear hfz64_1; try clear hfz64_2; try clear hfz64_3; try clear hfz64_4; try clear hfz64_5; try clear hfz69_0; try clear hfz69_1; try clear hfz69_2; try clear hfz69_3; try clear hfz69_4; try clear hfz69_5; try clear p2
      obtain ⟨kq, x201002_48, HA, HJ48, HO_201005, BK169, BK170, BK183, BK200, HB⟩ := hcut
      cases kq with
      | zero => exact absurd HA.out (by simp [upload_Give.j1])
      | succ kj48 =>
       have H := HA.out
       clear HA
       simp only [upload_Give.j1] at H
       by_cases c70 : a2 = x201002_48
       ·rw [if_pos c70] at H
        have c70b0 : (a2 == x201002_48) = true := beq_iff_eq.mpr c70
        have c70b1 : (a2 != x201002_48) = false := bne_eq_false_iff_eq.mpr c70
        clear c70
        replace H := Option.bind_eq_some_iff.mp H
        obtain ⟨⟨t209, t210⟩, A710, H⟩ := H
        replace H : (if 0 ≤ (mn (wrap64 (32 * x201002_48)) (t209.size : Int)) then (if (mn (wrap64 (32 * x201002_48)) (t209.size : Int)) ≤ (t209.size : Int) then (if 0 ≤ (mn a3 ((t209.extract ((mn (wrap64 (32 * x201002_48)) (t209.size : Int)) : Int).toNat t209.size).size : Int)) then (if (mn a3 ((t209.extract ((mn (wrap64 (32 * x201002_48)) (t209.size : Int)) : Int).toNat t209.size).size : Int)) ≤ ((t209.extract ((mn (wrap64 (32 * x201002_48)) (t209.size : Int)) : Int).toNat t209.size).size : Int) then (if (((t209.extract ((mn (wrap64 (32 * x201002_48)) (t209.size : Int)) : Int).toNat t209.size).extract 0 ((mn a3 ((t209.extract ((mn (wrap64 (32 * x201002_48)) (t209.size : Int)) : Int).toNat t209.size).size : Int)) : Int).toNat).size : Int) < 32 then ((device_New.f).bind fun bt211 => (some (bt211.1, bt211.2.1, bt211.2.2.1, bt211.2.2.2.1, bt211.2.2.2.2.1, bt211.2.2.2.2.2, (t209.extract ((mn (wrap64 (32 * x201002_48)) (t209.size : Int)) : Int).toNat t209.size).extract 0 ((mn a3 ((t209.extract ((mn (wrap64 (32 * x201002_48)) (t209.size : Int)) : Int).toNat t209.size).size : Int)) : Int).toNat, 0))) else (some (6, t193, mn (wrap64 (x201002_48 + 1)) 16, t195, t196, t197, (t209.extract ((mn (wrap64 (32 * x201002_48)) (t209.size : Int)) : Int).toNat t209.size).extract 0 ((mn a3 ((t209.extract ((mn (wrap64 (32 * x201002_48)) (t209.size : Int)) : Int).toNat t209.size).size : Int)) : Int).toNat, 0))) else (none)) else (none)) else (none)) else (none)) = some (r1, r2, r3, r4, r5, r6, r7, r8) := H
        have A71 := Aside0.mk A710
        clear A710
        obtain ⟨ji72, hji72⟩ : ∃ j_ : Int, (mn (wrap64 (32 * x201002_48)) (t209.size : Int)) = j_ := ⟨_, rfl⟩
        replace H : (if 0 ≤ (ji72) then (if (ji72) ≤ (t209.size : Int) then (if 0 ≤ (mn a3 ((t209.extract ((ji72) : Int).toNat t209.size).size : Int)) then (if (mn a3 ((t209.extract ((ji72) : Int).toNat t209.size).size : Int)) ≤ ((t209.extract ((ji72) : Int).toNat t209.size).size : Int) then (if (((t209.extract ((ji72) : Int).toNat t209.size).extract 0 ((mn a3 ((t209.extract ((ji72) : Int).toNat t209.size).size : Int)) : Int).toNat).size : Int) < 32 then ((device_New.f).bind fun bt211 => (some (bt211.1, bt211.2.1, bt211.2.2.1, bt211.2.2.2.1, bt211.2.2.2.2.1, bt211.2.2.2.2.2, (t209.extract ((ji72) : Int).toNat t209.size).extract 0 ((mn a3 ((t209.extract ((ji72) : Int).toNat t209.size).size : Int)) : Int).toNat, 0))) else (some (6, t193, mn (wrap64 (x201002_48 + 1)) 16, t195, t196, t197, (t209.extract ((ji72) : Int).toNat t209.size).extract 0 ((mn a3 ((t209.extract ((ji72) : Int).toNat t209.size).size : Int)) : Int).toNat, 0))) else (none)) else (none)) else (none)) else (none)) = some (r1, r2, r3, r4, r5, r6, r7, r8) := by first | (rw [hji72] at H; exact H) | (simp only [hji72] at H ⊢; exact H)
        (try rw [hji72] at A71)
        have hji72_ : (if (t209.size : Int) < (wrap64 (32 * x201002_48)) then (t209.size : Int) else (wrap64 (32 * x201002_48))) = ji72 := hji72
        by_cases c73 : 0 ≤ (ji72)
        case neg =>
         rw [if_neg c73] at H
         exact absurd H (by simp)
        rw [if_pos c73] at H
        have c73b0 := eq_true c73
        have c73b1 : decide (0 ≤ (ji72)) = true := decide_eq_true c73
        clear c73
        by_cases c74 : (ji72) ≤ (t209.size : Int)
        case neg =>
         rw [if_neg c74] at H
         exact absurd H (by simp)
        rw [if_pos c74] at H
        have c74b0 := eq_true c74
        have c74b1 : decide ((ji72) ≤ (t209.size : Int)) = true := decide_eq_true c74
        clear c74
        obtain ⟨ji75, hji75⟩ : ∃ j_ : Int, (mn a3 ((t209.extract ((ji72) : Int).toNat t209.size).size : Int)) = j_ := ⟨_, rfl⟩
        replace H : (if 0 ≤ (ji75) then (if (ji75) ≤ ((t209.extract ((ji72) : Int).toNat t209.size).size : Int) then (if (((t209.extract ((ji72) : Int).toNat t209.size).extract 0 ((ji75) : Int).toNat).size : Int) < 32 then ((device_New.f).bind fun bt211 => (some (bt211.1, bt211.2.1, bt211.2.2.1, bt211.2.2.2.1, bt211.2.2.2.2.1, bt211.2.2.2.2.2, (t209.extract ((ji72) : Int).toNat t209.size).extract 0 ((ji75) : Int).toNat, 0))) else (some (6, t193, mn (wrap64 (x201002_48 + 1)) 16, t195, t196, t197, (t209.extract ((ji72) : Int).toNat t209.size).extract 0 ((ji75) : Int).toNat, 0))) else (none)) else (none)) = some (r1, r2, r3, r4, r5, r6, r7, r8) := by first | (rw [hji75] at H; exact H) | (simp only [hji75] at H ⊢; exact H)
        (try rw [hji75] at A71)
        have hji75_ : (if ((t209.extract ((ji72) : Int).toNat t209.size).size : Int) < a3 then ((t209.extract ((ji72) : Int).toNat t209.size).size : Int) else a3) = ji75 := hji75
        by_cases c76 : 0 ≤ (ji75)
        case neg =>
         rw [if_neg c76] at H
         exact absurd H (by simp)
        rw [if_pos c76] at H
        have c76b0 := eq_true c76
        have c76b1 : decide (0 ≤ (ji75)) = true := decide_eq_true c76
        clear c76
        by_cases c77 : (ji75) ≤ ((t209.extract ((ji72) : Int).toNat t209.size).size : Int)
        case neg =>
         rw [if_neg c77] at H
         exact absurd H (by simp)
        rw [if_pos c77] at H
        have c77b0 := eq_true c77
        have c77b1 : decide ((ji75) ≤ ((t209.extract ((ji72) : Int).toNat t209.size).size : Int)) = true := decide_eq_true c77
        clear c77
        by_cases c78 : (((t209.extract ((ji72) : Int).toNat t209.size).extract 0 ((ji75) : Int).toNat).size : Int) < 32
        ·rw [if_pos c78] at H
         have c78b0 : decide ((((t209.extract ((ji72) : Int).toNat t209.size).extract 0 ((ji75) : Int).toNat).size : Int) < 32) = true := decide_eq_true c78
         have c78b1 : decide (((t209.extract ((ji72) : Int).toNat t209.size).extract 0 ((ji75) : Int).toNat).size < 32) = true := decide_eq_true (by omega)
         clear c78
         replace H := Option.bind_eq_some_iff.mp H
         obtain ⟨⟨t211, t212, t213, t214, t215, t216⟩, A790, H⟩ := H
         replace H : (some (t211, t212, t213, t214, t215, t216, (t209.extract ((ji72) : Int).toNat t209.size).extract 0 ((ji75) : Int).toNat, 0)) = some (r1, r2, r3, r4, r5, r6, r7, r8) := H
         have A79 := Aside0.mk A790
         clear A790
         simp only [Option.some.injEq, Prod.mk.injEq] at H
         obtain ⟨rfl, rfl, rfl, rfl, rfl, rfl, rfl, rfl⟩ := H
         have hnb80 := NB200_169.out
         have hnc80 := NB169_200.out
         have hnb81 := NB200_170.out
         have hnc81 := NB170_200.out
         have hnb82 := NB200_183.out
         have hnc82 := NB183_200.out
         obtain ⟨hcz83_0, hcz83_1, hcz83_2, hcz83_3, hcz83_4, hcz83_5⟩ := kc6 BK200.out
         obtain ⟨hfz83_0, hfz83_1, hfz83_2, hfz83_3, hfz83_4, hfz83_5⟩ := kf6 BK200.out
         have hnb84 := NB183_169.out
         have hnc84 := NB169_183.out
         have hnb85 := NB183_170.out
         have hnc85 := NB170_183.out
         obtain ⟨hcz86_0, hcz86_1, hcz86_2, hcz86_3, hcz86_4⟩ := kc5 BK183.out
         obtain ⟨hfz86_0, hfz86_1, hfz86_2, hfz86_3, hfz86_4⟩ := kf5 BK183.out
         go_upto_region 13 with (first | ((with_reducible refine gate_callee (f := 28) rfl ?_); refine goesL_ (some 68) rfl rfl Try.func28 (by kernel_rfl) rfl #[.string a0, .agg #[.int .i64 t178, .int .i64 t179, .int .i64 t180, .int .i64 t181]] rfl ka ?_; (with_reducible refine (image_Of.calls a0 t178 t179 t180 t181 t209 t210 _ A71.out).mono ?_); rintro e w87 ⟨rfl, hb⟩; refine ⟨_, rfl, ?_⟩; have n0_ := Aside0.mk (Kd.R_below (kR HO_201005.out) hb); have n1_ := Aside0.mk (kL BK169.out hb); have n2_ := Aside0.mk (kL BK170.out hb); have n3_ := Aside0.mk (kL BK183.out hb); have n4_ := Aside0.mk (kL BK200.out hb); have n5_ := Aside0.mk (below_step (kb4 HB.out GE169.out GE170.out GE183.out GE200.out) hb); clear HO_201005; clear BK169; clear BK170; clear BK183; clear BK200; clear HB; have HO_201005 := n0_; have BK169 := n1_; have BK170 := n2_; have BK183 := n3_; have BK200 := n4_; have HB := n5_; clear n0_ n1_ n2_ n3_ n4_ n5_; (try clear hb); (try clear hb2); (try clear hk); (try clear hi); obtain ⟨hcz88_0, hcz88_1, hcz88_2, hcz88_3, hcz88_4, hcz88_5⟩ := kc6 BK200.out; obtain ⟨hfz88_0, hfz88_1, hfz88_2, hfz88_3, hfz88_4, hfz88_5⟩ := kf6 BK200.out) | ((with_reducible refine gate_callee (f := 29) rfl ?_); refine goesL_ (some 88) rfl rfl Try.func29 (by kernel_rfl) rfl #[] rfl ka ?_; (with_reducible refine (device_New.calls  t211 t212 t213 t214 t215 t216 _ A79.out).mono ?_); rintro e w89 ⟨v217, rfl, ho0, hb⟩; refine ⟨_, rfl, ?_⟩; have n0_ := Aside0.mk (Kd.R_elder' (kR HO_201005.out) (Kd.R_base ho0) hb); have n1_ := Aside0.mk (Kd.R_lower (Kd.R_new' ho0 (Kd.R_lt (kR HO_201005.out))) (below_size (kb4 HB.out GE169.out GE170.out GE183.out GE200.out))); have n2_ := Aside0.mk (kL BK169.out hb); have n3_ := Aside0.mk (kL BK170.out hb); have n4_ := Aside0.mk (kL BK183.out hb); have n5_ := Aside0.mk (kL BK200.out hb); have n6_ := Aside0.mk (below_step (kb4 HB.out GE169.out GE170.out GE183.out GE200.out) hb); clear HO_201005; clear BK169; clear BK170; clear BK183; clear BK200; clear HB; have HO_201005 := n0_; have HO218 := n1_; have BK169 := n2_; have BK170 := n3_; have BK183 := n4_; have BK200 := n5_; have HB := n6_; clear n0_ n1_ n2_ n3_ n4_ n5_ n6_; (try clear hb); (try clear hb2); (try clear hk); (try clear hi); (try clear ho0); have hnb90 := NB170_169.out; have hnc90 := NB169_170.out; obtain ⟨hcz91_0, hcz91_1, hcz91_2, hcz91_3, hcz91_4, hcz91_5⟩ := kc6 BK170.out; obtain ⟨hfz91_0, hfz91_1, hfz91_2, hfz91_3, hfz91_4, hfz91_5⟩ := kf6 BK170.out; obtain ⟨Ao92, co92, eo92⟩ := Kd.R_slice HO218.out; subst eo92))
         (try simp only [Act.put, List.setIfInBounds_toArray, List.set_cons_zero, List.set_cons_succ])
         obtain ⟨sx, hsx⟩ : ∃ z_, z_ = t209.extract ((ji72) : Int).toNat t209.size := ⟨_, rfl⟩
         try rw [← hsx] at hji75
         try rw [← hsx] at hji75_
         try rw [← hsx] at c76b0
         try rw [← hsx] at c76b1
         try rw [← hsx] at c77b0
         try rw [← hsx] at c77b1
         try rw [← hsx] at c78b0
         try rw [← hsx] at c78b1
         (try clear H)
         try rw [← hsx]
         try simp only [← hsx]
         have HSX := Aside0.mk hsx
         clear hsx
         go_upto_region 14 with (fail)
         (try simp only [Act.put, List.setIfInBounds_toArray, List.set_cons_zero, List.set_cons_succ])
         obtain ⟨sy, hsy⟩ : ∃ z_, z_ = sx.extract 0 ((ji75) : Int).toNat := ⟨_, rfl⟩
         try rw [← hsy] at c78b0
         try rw [← hsy] at c78b1
         try rw [← hsy]
         have HSY := Aside0.mk hsy
         clear hsy
         go_wp2_with (first | ((with_reducible refine gate_callee (f := 28) rfl ?_); refine goesL_ (some 68) rfl rfl Try.func28 (by kernel_rfl) rfl #[.string a0, .agg #[.int .i64 t178, .int .i64 t179, .int .i64 t180, .int .i64 t181]] rfl ka ?_; (with_reducible refine (image_Of.calls a0 t178 t179 t180 t181 t209 t210 _ A71.out).mono ?_); rintro e w87 ⟨rfl, hb⟩; refine ⟨_, rfl, ?_⟩; have n0_ := Aside0.mk (Kd.R_below (kR HO_201005.out) hb); have n1_ := Aside0.mk (kL BK169.out hb); have n2_ := Aside0.mk (kL BK170.out hb); have n3_ := Aside0.mk (kL BK183.out hb); have n4_ := Aside0.mk (kL BK200.out hb); have n5_ := Aside0.mk (below_step (kb4 HB.out GE169.out GE170.out GE183.out GE200.out) hb); clear HO_201005; clear BK169; clear BK170; clear BK183; clear BK200; clear HB; have HO_201005 := n0_; have BK169 := n1_; have BK170 := n2_; have BK183 := n3_; have BK200 := n4_; have HB := n5_; clear n0_ n1_ n2_ n3_ n4_ n5_; (try clear hb); (try clear hb2); (try clear hk); (try clear hi); obtain ⟨hcz88_0, hcz88_1, hcz88_2, hcz88_3, hcz88_4, hcz88_5⟩ := kc6 BK200.out; obtain ⟨hfz88_0, hfz88_1, hfz88_2, hfz88_3, hfz88_4, hfz88_5⟩ := kf6 BK200.out) | ((with_reducible refine gate_callee (f := 29) rfl ?_); refine goesL_ (some 88) rfl rfl Try.func29 (by kernel_rfl) rfl #[] rfl ka ?_; (with_reducible refine (device_New.calls  t211 t212 t213 t214 t215 t216 _ A79.out).mono ?_); rintro e w89 ⟨v217, rfl, ho0, hb⟩; refine ⟨_, rfl, ?_⟩; have n0_ := Aside0.mk (Kd.R_elder' (kR HO_201005.out) (Kd.R_base ho0) hb); have n1_ := Aside0.mk (Kd.R_lower (Kd.R_new' ho0 (Kd.R_lt (kR HO_201005.out))) (below_size (kb4 HB.out GE169.out GE170.out GE183.out GE200.out))); have n2_ := Aside0.mk (kL BK169.out hb); have n3_ := Aside0.mk (kL BK170.out hb); have n4_ := Aside0.mk (kL BK183.out hb); have n5_ := Aside0.mk (kL BK200.out hb); have n6_ := Aside0.mk (below_step (kb4 HB.out GE169.out GE170.out GE183.out GE200.out) hb); clear HO_201005; clear BK169; clear BK170; clear BK183; clear BK200; clear HB; have HO_201005 := n0_; have HO218 := n1_; have BK169 := n2_; have BK170 := n3_; have BK183 := n4_; have BK200 := n5_; have HB := n6_; clear n0_ n1_ n2_ n3_ n4_ n5_ n6_; (try clear hb); (try clear hb2); (try clear hk); (try clear hi); (try clear ho0); have hnb90 := NB170_169.out; have hnc90 := NB169_170.out; obtain ⟨hcz91_0, hcz91_1, hcz91_2, hcz91_3, hcz91_4, hcz91_5⟩ := kc6 BK170.out; obtain ⟨hfz91_0, hfz91_1, hfz91_2, hfz91_3, hfz91_4, hfz91_5⟩ := kf6 BK170.out; obtain ⟨Ao92, co92, eo92⟩ := Kd.R_slice HO218.out; subst eo92))
         have hsy := HSY.out
         clear HSY
         subst hsy
         have hsx := HSX.out
         clear HSX
         subst hsx
         refine bodyPost_ret (results_ctt rfl _ _ gb170 24 #[.int .i64 t211, .int .i64 t212, .int .i64 t213, .int .i64 t214, .int .i64 t215, .slice Ao92 t216.length co92] (0, 0) _ rfl (kP6 BK170.out) Try.underlying24 rfl (by kernel_rfl)) rfl ?_
         exact ⟨_, by first | rfl | (simp [errW_none, errW_some] <;> rfl) | (simp only [← hji72, ← hji75]; first | rfl | (simp [errW_none, errW_some] <;> rfl)) | (simp [*, errW_none, errW_some] <;> rfl), by (with_reducible repeat (first | apply Kd.R_alloc | apply Kd.R_drewN | apply Kd.R_drew)); exact Kd.R_mono (Kd.R_far (p := ⟨gb170, 5, none⟩) (Kd.R_far (p := ⟨gb170, 4, none⟩) (Kd.R_far (p := ⟨gb170, 3, none⟩) (Kd.R_far (p := ⟨gb170, 2, none⟩) (Kd.R_far (p := ⟨gb170, 1, none⟩) (Kd.R_far (p := ⟨gb170, 0, none⟩) (Kd.R_types HO218.out BK170.out (by decide)) (fun _ hk => hk.2) (.int .i64 t211)) (fun _ hk => hk.2) (.int .i64 t212)) (fun _ hk => hk.2) (.int .i64 t213)) (fun _ hk => hk.2) (.int .i64 t214)) (fun _ hk => hk.2) (.int .i64 t215)) (fun _ hk => hk.2) (.slice Ao92 t216.length co92)) (fun _ hk => trivial), kb4 HB.out GE169.out GE170.out GE183.out GE200.out⟩
        ·rw [if_neg c78] at H
         have c78b0 : decide ((((t209.extract ((ji72) : Int).toNat t209.size).extract 0 ((ji75) : Int).toNat).size : Int) < 32) = false := decide_eq_false c78
         have c78b1 : decide (((t209.extract ((ji72) : Int).toNat t209.size).extract 0 ((ji75) : Int).toNat).size < 32) = false := decide_eq_false (by omega)
         clear c78
         obtain ⟨ji93, hji93⟩ : ∃ j_ : Int, (mn (wrap64 (x201002_48 + 1)) 16) = j_ := ⟨_, rfl⟩
         replace H : (some (6, t193, ji93, t195, t196, t197, (t209.extract ((ji72) : Int).toNat t209.size).extract 0 ((ji75) : Int).toNat, 0)) = some (r1, r2, r3, r4, r5, r6, r7, r8) := by first | (rw [hji93] at H; exact H) | (simp only [hji93] at H ⊢; exact H)
         (try rw [hji93] at A71)
         have hji93_ : (if 16 < (wrap64 (x201002_48 + 1)) then 16 else (wrap64 (x201002_48 + 1))) = ji93 := hji93
         simp only [Option.some.injEq, Prod.mk.injEq] at H
         obtain ⟨rfl, rfl, rfl, rfl, rfl, rfl, rfl, rfl⟩ := H
         have hnb94 := NB200_169.out
         have hnc94 := NB169_200.out
         have hnb95 := NB200_170.out
         have hnc95 := NB170_200.out
         have hnb96 := NB200_183.out
         have hnc96 := NB183_200.out
         obtain ⟨hcz97_0, hcz97_1, hcz97_2, hcz97_3, hcz97_4, hcz97_5⟩ := kc6 BK200.out
         obtain ⟨hfz97_0, hfz97_1, hfz97_2, hfz97_3, hfz97_4, hfz97_5⟩ := kf6 BK200.out
         have hnb98 := NB183_169.out
         have hnc98 := NB169_183.out
         have hnb99 := NB183_170.out
         have hnc99 := NB170_183.out
         obtain ⟨hcz100_0, hcz100_1, hcz100_2, hcz100_3, hcz100_4⟩ := kc5 BK183.out
         obtain ⟨hfz100_0, hfz100_1, hfz100_2, hfz100_3, hfz100_4⟩ := kf5 BK183.out
         go_upto_region 13 with (first | ((with_reducible refine gate_callee (f := 28) rfl ?_); refine goesL_ (some 68) rfl rfl Try.func28 (by kernel_rfl) rfl #[.string a0, .agg #[.int .i64 t178, .int .i64 t179, .int .i64 t180, .int .i64 t181]] rfl ka ?_; (with_reducible refine (image_Of.calls a0 t178 t179 t180 t181 t209 t210 _ A71.out).mono ?_); rintro e w101 ⟨rfl, hb⟩; refine ⟨_, rfl, ?_⟩; have n0_ := Aside0.mk (Kd.R_below (kR HO_201005.out) hb); have n1_ := Aside0.mk (kL BK169.out hb); have n2_ := Aside0.mk (kL BK170.out hb); have n3_ := Aside0.mk (kL BK183.out hb); have n4_ := Aside0.mk (kL BK200.out hb); have n5_ := Aside0.mk (below_step (kb4 HB.out GE169.out GE170.out GE183.out GE200.out) hb); clear HO_201005; clear BK169; clear BK170; clear BK183; clear BK200; clear HB; have HO_201005 := n0_; have BK169 := n1_; have BK170 := n2_; have BK183 := n3_; have BK200 := n4_; have HB := n5_; clear n0_ n1_ n2_ n3_ n4_ n5_; (try clear hb); (try clear hb2); (try clear hk); (try clear hi); obtain ⟨hcz102_0, hcz102_1, hcz102_2, hcz102_3, hcz102_4, hcz102_5⟩ := kc6 BK200.out; obtain ⟨hfz102_0, hfz102_1, hfz102_2, hfz102_3, hfz102_4, hfz102_5⟩ := kf6 BK200.out; have hnb103 := NB170_169.out; have hnc103 := NB169_170.out; obtain ⟨hcz104_0, hcz104_1, hcz104_2, hcz104_3, hcz104_4, hcz104_5⟩ := kc6 BK170.out; obtain ⟨hfz104_0, hfz104_1, hfz104_2, hfz104_3, hfz104_4, hfz104_5⟩ := kf6 BK170.out))
         (try simp only [Act.put, List.setIfInBounds_toArray, List.set_cons_zero, List.set_cons_succ])
         obtain ⟨sx, hsx⟩ : ∃ z_, z_ = t209.extract ((ji72) : Int).toNat t209.size := ⟨_, rfl⟩
         try rw [← hsx] at hji75
         try rw [← hsx] at hji75_
         try rw [← hsx] at c76b0
         try rw [← hsx] at c76b1
         try rw [← hsx] at c77b0
         try rw [← hsx] at c77b1
         try rw [← hsx] at c78b0
         try rw [← hsx] at c78b1
         (try clear H)
         try rw [← hsx]
         try simp only [← hsx]
         have HSX := Aside0.mk hsx
         clear hsx
         go_upto_region 14 with (fail)
         (try simp only [Act.put, List.setIfInBounds_toArray, List.set_cons_zero, List.set_cons_succ])
         obtain ⟨sy, hsy⟩ : ∃ z_, z_ = sx.extract 0 ((ji75) : Int).toNat := ⟨_, rfl⟩
         try rw [← hsy] at c78b0
         try rw [← hsy] at c78b1
         try rw [← hsy]
         have HSY := Aside0.mk hsy
         clear hsy
         go_wp2_with (first | ((with_reducible refine gate_callee (f := 28) rfl ?_); refine goesL_ (some 68) rfl rfl Try.func28 (by kernel_rfl) rfl #[.string a0, .agg #[.int .i64 t178, .int .i64 t179, .int .i64 t180, .int .i64 t181]] rfl ka ?_; (with_reducible refine (image_Of.calls a0 t178 t179 t180 t181 t209 t210 _ A71.out).mono ?_); rintro e w101 ⟨rfl, hb⟩; refine ⟨_, rfl, ?_⟩; have n0_ := Aside0.mk (Kd.R_below (kR HO_201005.out) hb); have n1_ := Aside0.mk (kL BK169.out hb); have n2_ := Aside0.mk (kL BK170.out hb); have n3_ := Aside0.mk (kL BK183.out hb); have n4_ := Aside0.mk (kL BK200.out hb); have n5_ := Aside0.mk (below_step (kb4 HB.out GE169.out GE170.out GE183.out GE200.out) hb); clear HO_201005; clear BK169; clear BK170; clear BK183; clear BK200; clear HB; have HO_201005 := n0_; have BK169 := n1_; have BK170 := n2_; have BK183 := n3_; have BK200 := n4_; have HB := n5_; clear n0_ n1_ n2_ n3_ n4_ n5_; (try clear hb); (try clear hb2); (try clear hk); (try clear hi); obtain ⟨hcz102_0, hcz102_1, hcz102_2, hcz102_3, hcz102_4, hcz102_5⟩ := kc6 BK200.out; obtain ⟨hfz102_0, hfz102_1, hfz102_2, hfz102_3, hfz102_4, hfz102_5⟩ := kf6 BK200.out; have hnb103 := NB170_169.out; have hnc103 := NB169_170.out; obtain ⟨hcz104_0, hcz104_1, hcz104_2, hcz104_3, hcz104_4, hcz104_5⟩ := kc6 BK170.out; obtain ⟨hfz104_0, hfz104_1, hfz104_2, hfz104_3, hfz104_4, hfz104_5⟩ := kf6 BK170.out))
         have hsy := HSY.out
         clear HSY
         subst hsy
         have hsx := HSX.out
         clear HSX
         subst hsx
         refine bodyPost_ret (results_ctt rfl _ _ gb170 24 #[.int .i64 6, .int .i64 t193, .int .i64 ji93, .int .i64 t195, .int .i64 t196, .slice Ao63 t197.length co63] (0, 0) _ rfl (by (with_reducible repeat (first | refine blk_drewN ?_ _ | refine blk_drew ?_ | refine blk_alloc ?_ _)); refine blk_put (cs := #[.int .i64 6, .int .i64 t193, .int .i64 ji93, .int .i64 t195, .int .i64 t196, .slice none 0 0]) ?_ 5 _ rfl; (with_reducible repeat (first | refine blk_drewN ?_ _ | refine blk_drew ?_ | refine blk_alloc ?_ _)); refine blk_put (cs := #[.int .i64 6, .int .i64 t193, .int .i64 ji93, .int .i64 t195, .int .i64 0, .slice none 0 0]) ?_ 4 _ rfl; (with_reducible repeat (first | refine blk_drewN ?_ _ | refine blk_drew ?_ | refine blk_alloc ?_ _)); refine blk_put (cs := #[.int .i64 6, .int .i64 t193, .int .i64 ji93, .int .i64 0, .int .i64 0, .slice none 0 0]) ?_ 3 _ rfl; (with_reducible repeat (first | refine blk_drewN ?_ _ | refine blk_drew ?_ | refine blk_alloc ?_ _)); refine blk_put (cs := #[.int .i64 6, .int .i64 t193, .int .i64 0, .int .i64 0, .int .i64 0, .slice none 0 0]) ?_ 2 _ rfl; (with_reducible repeat (first | refine blk_drewN ?_ _ | refine blk_drew ?_ | refine blk_alloc ?_ _)); refine blk_put (cs := #[.int .i64 6, .int .i64 0, .int .i64 0, .int .i64 0, .int .i64 0, .slice none 0 0]) ?_ 1 _ rfl; (with_reducible repeat (first | refine blk_drewN ?_ _ | refine blk_drew ?_ | refine blk_alloc ?_ _)); refine blk_put (cs := #[.int .i64 0, .int .i64 0, .int .i64 0, .int .i64 0, .int .i64 0, .slice none 0 0]) ?_ 0 _ rfl; (with_reducible repeat (first | refine blk_drewN ?_ _ | refine blk_drew ?_ | refine blk_alloc ?_ _)); refine blk_far ?_ NB170_200.out _; (with_reducible repeat (first | refine blk_drewN ?_ _ | refine blk_drew ?_ | refine blk_alloc ?_ _)); refine blk_far ?_ NB170_200.out _; (with_reducible repeat (first | refine blk_drewN ?_ _ | refine blk_drew ?_ | refine blk_alloc ?_ _)); exact BK170.out) Try.underlying24 rfl (by kernel_rfl)) rfl ?_
         exact ⟨_, by first | rfl | (simp [errW_none, errW_some] <;> rfl) | (simp only [← hji72, ← hji75, ← hji93]; first | rfl | (simp [errW_none, errW_some] <;> rfl)) | (simp [*, errW_none, errW_some] <;> rfl), by (with_reducible repeat (first | apply Kd.R_alloc | apply Kd.R_drewN | apply Kd.R_drew)); exact Kd.R_mono (Kd.R_far (p := ⟨gb170, 5, none⟩) (Kd.R_far (p := ⟨gb170, 4, none⟩) (Kd.R_far (p := ⟨gb170, 3, none⟩) (Kd.R_far (p := ⟨gb170, 2, none⟩) (Kd.R_far (p := ⟨gb170, 1, none⟩) (Kd.R_far (p := ⟨gb170, 0, none⟩) (Kd.R_far (p := ⟨gb200, 2, none⟩) (Kd.R_far (p := ⟨gb200, 0, none⟩) (Kd.R_types (Kd.R_types HO_201005.out BK200.out (by decide)) BK170.out (by decide)) (fun _ hk => hk.1.2) (.int .i64 6)) (fun _ hk => hk.1.2) (.int .i64 ji93)) (fun _ hk => hk.2) (.int .i64 6)) (fun _ hk => hk.2) (.int .i64 t193)) (fun _ hk => hk.2) (.int .i64 ji93)) (fun _ hk => hk.2) (.int .i64 t195)) (fun _ hk => hk.2) (.int .i64 t196)) (fun _ hk => hk.2) (.slice Ao63 t197.length co63)) (fun _ hk => trivial), kb4 HB.out GE169.out GE170.out GE183.out GE200.out⟩
       ·rw [if_neg c70] at H
        have c70b0 : (a2 == x201002_48) = false := beq_eq_false_iff_ne.mpr c70
        have c70b1 : (a2 != x201002_48) = true := bne_iff_ne.mpr c70
        replace H := Option.bind_eq_some_iff.mp H
        obtain ⟨⟨t201, t202, t203, t204, t205, t206⟩, A1050, H⟩ := H
        replace H : (some (t201, t202, t203, t204, t205, t206, (⟨#[]⟩ : ByteArray), 0)) = some (r1, r2, r3, r4, r5, r6, r7, r8) := H
        have A105 := Aside0.mk A1050
        clear A1050
        simp only [Option.some.injEq, Prod.mk.injEq] at H
        obtain ⟨rfl, rfl, rfl, rfl, rfl, rfl, rfl, rfl⟩ := H
        have hnb106 := NB200_169.out
        have hnc106 := NB169_200.out
        have hnb107 := NB200_170.out
        have hnc107 := NB170_200.out
        have hnb108 := NB200_183.out
        have hnc108 := NB183_200.out
        obtain ⟨hcz109_0, hcz109_1, hcz109_2, hcz109_3, hcz109_4, hcz109_5⟩ := kc6 BK200.out
        obtain ⟨hfz109_0, hfz109_1, hfz109_2, hfz109_3, hfz109_4, hfz109_5⟩ := kf6 BK200.out
        go_wp2_with (first | ((with_reducible refine gate_callee (f := 26) rfl ?_); refine goesL_ (some 63) rfl rfl Try.func26 (by kernel_rfl) rfl #[.int .i64 4] rfl ka ?_; (with_reducible refine (device_Failed.calls 4 t201 t202 t203 t204 t205 t206 _ A105.out).mono ?_); rintro e w110 ⟨v207, rfl, ho0, hb⟩; refine ⟨_, rfl, ?_⟩; have n0_ := Aside0.mk (Kd.R_elder' (kR HO_201005.out) (Kd.R_base ho0) hb); have n1_ := Aside0.mk (Kd.R_lower (Kd.R_new' ho0 (Kd.R_lt (kR HO_201005.out))) (below_size (kb4 HB.out GE169.out GE170.out GE183.out GE200.out))); have n2_ := Aside0.mk (kL BK169.out hb); have n3_ := Aside0.mk (kL BK170.out hb); have n4_ := Aside0.mk (kL BK183.out hb); have n5_ := Aside0.mk (kL BK200.out hb); have n6_ := Aside0.mk (below_step (kb4 HB.out GE169.out GE170.out GE183.out GE200.out) hb); clear HO_201005; clear BK169; clear BK170; clear BK183; clear BK200; clear HB; have HO_201005 := n0_; have HO208 := n1_; have BK169 := n2_; have BK170 := n3_; have BK183 := n4_; have BK200 := n5_; have HB := n6_; clear n0_ n1_ n2_ n3_ n4_ n5_ n6_; (try clear hb); (try clear hb2); (try clear hk); (try clear hi); (try clear ho0); have hnb111 := NB170_169.out; have hnc111 := NB169_170.out; have hnb112 := NB170_183.out; have hnc112 := NB183_170.out; obtain ⟨hcz113_0, hcz113_1, hcz113_2, hcz113_3, hcz113_4, hcz113_5⟩ := kc6 BK170.out; obtain ⟨hfz113_0, hfz113_1, hfz113_2, hfz113_3, hfz113_4, hfz113_5⟩ := kf6 BK170.out; obtain ⟨Ao114, co114, eo114⟩ := Kd.R_slice HO208.out; subst eo114))
        refine bodyPost_ret (results_ctt rfl _ _ gb170 24 #[.int .i64 t201, .int .i64 t202, .int .i64 t203, .int .i64 t204, .int .i64 t205, .slice Ao114 t206.length co114] (0, 0) _ rfl (kP6 BK170.out) Try.underlying24 rfl (by kernel_rfl)) rfl ?_
        exact ⟨_, by first | rfl | (simp [errW_none, errW_some] <;> rfl) | (simp [*, errW_none, errW_some] <;> rfl), by (with_reducible repeat (first | apply Kd.R_alloc | apply Kd.R_drewN | apply Kd.R_drew)); exact Kd.R_mono (Kd.R_far (p := ⟨gb170, 5, none⟩) (Kd.R_far (p := ⟨gb170, 4, none⟩) (Kd.R_far (p := ⟨gb170, 3, none⟩) (Kd.R_far (p := ⟨gb170, 2, none⟩) (Kd.R_far (p := ⟨gb170, 1, none⟩) (Kd.R_far (p := ⟨gb170, 0, none⟩) (Kd.R_types HO208.out BK170.out (by decide)) (fun _ hk => hk.2) (.int .i64 t201)) (fun _ hk => hk.2) (.int .i64 t202)) (fun _ hk => hk.2) (.int .i64 t203)) (fun _ hk => hk.2) (.int .i64 t204)) (fun _ hk => hk.2) (.int .i64 t205)) (fun _ hk => hk.2) (.slice Ao114 t206.length co114)) (fun _ hk => trivial), kb4 HB.out GE169.out GE170.out GE183.out GE200.out⟩
    ·rw [if_neg c47] at H
     have c47b0 : (t182 == 0) = false := beq_eq_false_iff_ne.mpr c47
     have c47b1 : (t182 != 0) = true := bne_iff_ne.mpr c47
     replace H := Option.bind_eq_some_iff.mp H
     obtain ⟨⟨t184, t185, t186, t187, t188, t189⟩, A1150, H⟩ := H
     replace H : (some (t184, t185, t186, t187, t188, t189, (⟨#[]⟩ : ByteArray), 0)) = some (r1, r2, r3, r4, r5, r6, r7, r8) := H
     have A115 := Aside0.mk A1150
     clear A1150
     simp only [Option.some.injEq, Prod.mk.injEq] at H
     obtain ⟨rfl, rfl, rfl, rfl, rfl, rfl, rfl, rfl⟩ := H
     go_wp2_with (first | ((with_reducible refine gate_callee (f := 25) rfl ?_); refine goesL_ (some 47) rfl rfl Try.func25 (by kernel_rfl) rfl #[.string a0] rfl ka ?_; (with_reducible refine (choose_Active.calls a0 t177 t178 t179 t180 t181 t182 _ A46.out).mono ?_); rintro e w116 ⟨rfl, hb⟩; refine ⟨_, rfl, ?_⟩; have n0_ := Aside0.mk (kL BK169.out hb); have n1_ := Aside0.mk (kL BK170.out hb); have n2_ := Aside0.mk (below_step (kb2 HB.out GE169.out GE170.out) hb); clear BK169; clear BK170; clear HB; have BK169 := n0_; have BK170 := n1_; have HB := n2_; clear n0_ n1_ n2_; (try clear hb); (try clear hb2); (try clear hk); (try clear hi)) | ((with_reducible refine gate_dst (N := 11) rfl ?_); refine box_event ?hg (N := 11) ?hd (cs := #[.int .i64 0, .int .i64 0, .int .i64 0, .int .i64 0, .int .i64 0]) (t := 43) ?hr ?_; (case hd => rfl); (case hg => rfl); (case hr => first | (go_simp; done) | (go_simp; rfl)); intro gb183 hg w117 hbox hb; have n0_ := Aside0.mk (kL BK169.out hb); have n1_ := Aside0.mk (kL BK170.out hb); have n2_ := Aside0.mk (below_step (kb2 HB.out GE169.out GE170.out) hb); have n3_ := Aside0.mk (hbox); have n4_ := Aside0.mk ((kz hg (below_size (kb2 HB.out GE169.out GE170.out)) : w.heap.size ≤ gb183)); have n5_ := Aside0.mk ((kz hg (below_size (kb2 HB.out GE169.out GE170.out)) : w.heap.size ≤ gb183)); have n6_ := Aside0.mk ((kN hg BK169.out : gb169 ≠ gb183)); have n7_ := Aside0.mk (((kN hg BK169.out).symm : gb183 ≠ gb169)); have n8_ := Aside0.mk ((kN hg BK170.out : gb170 ≠ gb183)); have n9_ := Aside0.mk (((kN hg BK170.out).symm : gb183 ≠ gb170)); clear BK169; clear BK170; clear HB; have BK169 := n0_; have BK170 := n1_; have HB := n2_; have BK183 := n3_; have GW183 := n4_; have GE183 := n5_; have NB169_183 := n6_; have NB183_169 := n7_; have NB170_183 := n8_; have NB183_170 := n9_; clear n0_ n1_ n2_ n3_ n4_ n5_ n6_ n7_ n8_ n9_; clear hb hbox hg; have hnb118 := NB183_169.out; have hnc118 := NB169_183.out; have hnb119 := NB183_170.out; have hnc119 := NB170_183.out; obtain ⟨hcz120_0, hcz120_1, hcz120_2, hcz120_3, hcz120_4⟩ := kc5 BK183.out; obtain ⟨hfz120_0, hfz120_1, hfz120_2, hfz120_3, hfz120_4⟩ := kf5 BK183.out) | ((with_reducible refine gate_callee (f := 26) rfl ?_); refine goesL_ (some 52) rfl rfl Try.func26 (by kernel_rfl) rfl #[.int .i64 2] rfl ka ?_; (with_reducible refine (device_Failed.calls 2 t184 t185 t186 t187 t188 t189 _ A115.out).mono ?_); rintro e w121 ⟨v190, rfl, ho0, hb⟩; refine ⟨_, rfl, ?_⟩; have n0_ := Aside0.mk (Kd.R_lower ho0 (below_size (kb3 HB.out GE169.out GE170.out GE183.out))); have n1_ := Aside0.mk (blk_below (g := gb169) (o := .cells #[.int .i64 a1_0, .int .i64 a1_1, .int .i64 a1_2, .int .i64 a1_3, .int .i64 a1_4, .slice A1_5 l1_5.length c1_5] 24 (0, 0)) (kFa5 BK169.out NB169_183.out) hb); have n2_ := Aside0.mk (blk_below (g := gb170) (o := .cells #[.int .i64 0, .int .i64 0, .int .i64 0, .int .i64 0, .int .i64 0, .slice none 0 0] 24 (0, 0)) (kFa5 BK170.out NB170_183.out) hb); have n3_ := Aside0.mk (blk_below (g := gb183) (o := .cells #[.int .i64 t177, .int .i64 t178, .int .i64 t179, .int .i64 t180, .int .i64 t181] 43 (0, 0)) (kP5 BK183.out) hb); have n4_ := Aside0.mk (below_step (kb3 HB.out GE169.out GE170.out GE183.out) hb); clear BK169; clear BK170; clear BK183; clear HB; have HO191 := n0_; have BK169 := n1_; have BK170 := n2_; have BK183 := n3_; have HB := n4_; clear n0_ n1_ n2_ n3_ n4_; (try clear hb); (try clear hb2); (try clear hk); (try clear hi); (try clear ho0); have hnb122 := NB170_169.out; have hnc122 := NB169_170.out; obtain ⟨hcz123_0, hcz123_1, hcz123_2, hcz123_3, hcz123_4, hcz123_5⟩ := kc6 BK170.out; obtain ⟨hfz123_0, hfz123_1, hfz123_2, hfz123_3, hfz123_4, hfz123_5⟩ := kf6 BK170.out; obtain ⟨Ao124, co124, eo124⟩ := Kd.R_slice HO191.out; subst eo124))
     refine bodyPost_ret (results_ctt rfl _ _ gb170 24 #[.int .i64 t184, .int .i64 t185, .int .i64 t186, .int .i64 t187, .int .i64 t188, .slice Ao124 t189.length co124] (0, 0) _ rfl (kP6 BK170.out) Try.underlying24 rfl (by kernel_rfl)) rfl ?_
     exact ⟨_, by first | rfl | (simp [errW_none, errW_some] <;> rfl) | (simp [*, errW_none, errW_some] <;> rfl), by (with_reducible repeat (first | apply Kd.R_alloc | apply Kd.R_drewN | apply Kd.R_drew)); exact Kd.R_mono (Kd.R_far (p := ⟨gb170, 5, none⟩) (Kd.R_far (p := ⟨gb170, 4, none⟩) (Kd.R_far (p := ⟨gb170, 3, none⟩) (Kd.R_far (p := ⟨gb170, 2, none⟩) (Kd.R_far (p := ⟨gb170, 1, none⟩) (Kd.R_far (p := ⟨gb170, 0, none⟩) (Kd.R_types HO191.out BK170.out (by decide)) (fun _ hk => hk.2) (.int .i64 t184)) (fun _ hk => hk.2) (.int .i64 t185)) (fun _ hk => hk.2) (.int .i64 t186)) (fun _ hk => hk.2) (.int .i64 t187)) (fun _ hk => hk.2) (.int .i64 t188)) (fun _ hk => hk.2) (.slice Ao124 t189.length co124)) (fun _ hk => trivial), kb3 HB.out GE169.out GE170.out GE183.out⟩

/-! ### skiffref1_FlashMay: function 43 -/
def skiffref1_FlashMay.f (a0 : ByteArray) : Option (Bool) := some ((a0.size : Int) == 768)
set_option maxHeartbeats 8000000 in
set_option maxRecDepth 100000 in
theorem skiffref1_FlashMay.calls (a0 : ByteArray) (r : Bool) (w : World) (h : skiffref1_FlashMay.f a0 = some r) :
  Calls Try.prog 43 #[.string a0] w fun e w' => e = .returned (.bool r) ∧ Drawn0 w w' := by
 have H : (some ((a0.size : Int) == 768)) = some r := h
 clear h
 obtain rfl := Option.some.inj H
 go_enter Try.func43, Try.ntmps43
 go_wp2
 go_ret
 exact ⟨by first | rfl | (simp; done) | (simp [*]; done), by repeat (first | exact Drawn0.refl _ | apply Drawn0.step)⟩

/-! ### skiffref1_GetEntry: function 68 -/
def skiffref1_GetEntry.f (a0 : ByteArray) : Option (Int × Int × Int × Int × Int) := some (Skiff.getTup (Skiff.bl a0))
theorem skiffref1_GetEntry.calls (a0 : ByteArray) (r1 : Int) (r2 : Int) (r3 : Int) (r4 : Int) (r5 : Int) (w : World) (h : skiffref1_GetEntry.f a0 = some (r1, r2, r3, r4, r5)) :
  Calls Try.prog 68 #[.string a0] w fun e w' => e = .returned (.tuple #[.agg #[.int .i64 r1, .int .i64 r2, .int .i64 r3, .int .i64 r4], .int .i64 r5]) ∧ Below w.heap.size w w' :=
 Go.Proofs.Ytmidohjfajbpmaa.g_skiffref1_GetEntry a0 r1 r2 r3 r4 r5 w h

/-! ### skiffref1_Scan: function 41 -/
mutual
def skiffref1_Scan.l0 : Nat → ByteArray → List (S43) → Int → Option ((List (S43)) × Int)
 | 0, _, _, _ => none
 | k + 1, x0, x4, x5 => if x5 < 2 then (skiffref1_Scan.l1 k x0 x4 x5 (wrap64 (x5 * 96))) else (some (x4, 0))
def skiffref1_Scan.l1 : Nat → ByteArray → List (S43) → Int → Int → Option ((List (S43)) × Int)
 | 0, _, _, _, _ => none
 | k + 1, x0, x4, x5, x6 => if (wrap64 (x6 + 24)) ≤ (wrap64 ((wrap64 (x5 + 1)) * 96)) then (if 0 ≤ x6 then (if x6 ≤ (wrap64 (x6 + 24)) then (if (wrap64 (x6 + 24)) ≤ (x0.size : Int) then ((skiffref1_GetEntry.f (x0.extract (x6 : Int).toNat ((wrap64 (x6 + 24)) : Int).toNat)).bind fun bt220 => (if bt220.2.2.2.2 = 0 then (if x4.length < 3518437208883 then (skiffref1_Scan.l1 k x0 (x4 ++ [(⟨x6, (⟨bt220.1, bt220.2.1, bt220.2.2.1, bt220.2.2.2.1⟩ : S41)⟩ : S43)]) x5 (wrap64 (x6 + 24))) else (none)) else (skiffref1_Scan.l1 k x0 x4 x5 (wrap64 (x6 + 24))))) else (none)) else (none)) else (none)) else (skiffref1_Scan.l0 k x0 x4 (wrap64 (x5 + 1)))
end
def skiffref1_Scan.f (k : Nat) (a0 : ByteArray) : Option ((List (S43)) × Int) := (skiffref1_FlashMay.f a0).bind fun t219 => (if t219 = true then (skiffref1_Scan.l0 k a0 ([] : List (S43)) 0) else (some (([] : List (S43)), 500)))
theorem skiffref1_Scan.mono_l : ∀ k, (∀ y0 y1 y2, LeO (skiffref1_Scan.l0 k y0 y1 y2) (skiffref1_Scan.l0 (k + 1) y0 y1 y2)) ∧ (∀ y0 y1 y2 y3, LeO (skiffref1_Scan.l1 k y0 y1 y2 y3) (skiffref1_Scan.l1 (k + 1) y0 y1 y2 y3))
 | 0 => ⟨fun _ _ _ r h => by simp [skiffref1_Scan.l0] at h, fun _ _ _ _ r h => by simp [skiffref1_Scan.l1] at h⟩
 | k + 1 => by
  obtain ⟨ih0, ih1⟩ := skiffref1_Scan.mono_l k
  refine ⟨?_, ?_⟩
  ·intro y0 y1 y2
   unfold skiffref1_Scan.l0
   repeat' first
   | (with_reducible exact ih0 _ _ _)
   | (with_reducible exact ih1 _ _ _ _)
   | (with_reducible exact LeO.refl _)
   | (with_reducible exact LeO.none _)
   | (with_reducible refine LeO.ite ?_ ?_)
   | (with_reducible refine LeO.bind ?_ (fun _ => ?_))
   | exact ih0 _ _ _
   | exact ih1 _ _ _ _
   | exact LeO.none _
   | refine LeO.ite ?_ ?_
   | refine LeO.bind ?_ (fun _ => ?_)
  ·intro y0 y1 y2 y3
   unfold skiffref1_Scan.l1
   repeat' first
   | (with_reducible exact ih0 _ _ _)
   | (with_reducible exact ih1 _ _ _ _)
   | (with_reducible exact LeO.refl _)
   | (with_reducible exact LeO.none _)
   | (with_reducible refine LeO.ite ?_ ?_)
   | (with_reducible refine LeO.bind ?_ (fun _ => ?_))
   | exact ih0 _ _ _
   | exact ih1 _ _ _ _
   | exact LeO.none _
   | refine LeO.ite ?_ ?_
   | refine LeO.bind ?_ (fun _ => ?_)
theorem skiffref1_Scan.mono : ∀ a0 k, LeO (skiffref1_Scan.f k a0) (skiffref1_Scan.f (k + 1) a0) := by
 intro a0 k
 obtain ⟨ih0, ih1⟩ := skiffref1_Scan.mono_l k
 unfold skiffref1_Scan.f
 repeat' first
   | (with_reducible exact ih0 _ _ _)
   | (with_reducible exact ih1 _ _ _ _)
   | (with_reducible exact LeO.refl _)
   | (with_reducible exact LeO.none _)
   | (with_reducible refine LeO.ite ?_ ?_)
   | (with_reducible refine LeO.bind ?_ (fun _ => ?_))
   | exact ih0 _ _ _
   | exact ih1 _ _ _ _
   | exact LeO.none _
   | refine LeO.ite ?_ ?_
   | refine LeO.bind ?_ (fun _ => ?_)
set_option maxHeartbeats 8000000 in
set_option maxRecDepth 100000 in
theorem skiffref1_Scan.calls (k : Nat) (a0 : ByteArray) (r1 : List (S43)) (r2 : Int) (w : World) (h : skiffref1_Scan.f k a0 = some (r1, r2)) :
  Calls Try.prog 41 #[.string a0] w fun e w' => ∃ v0_ : Value, e = .returned (.tuple #[v0_, .int .i64 r2]) ∧ Kd.R k43 43 w' w.heap.size (fun _ => True) v0_ r1 ∧ Below w.heap.size w w' := by
 have hu41 := Try.underlying41
 have hu43 := Try.underlying43
 have HB := Aside0.mk (Below.refl w.heap.size w)
 have H : ((skiffref1_FlashMay.f a0).bind fun t219 => (if t219 = true then (skiffref1_Scan.l0 k a0 ([] : List (S43)) 0) else (some (([] : List (S43)), 500)))) = some (r1, r2) := h
 clear h
 replace H := Option.bind_eq_some_iff.mp H
 obtain ⟨t219, A20, H⟩ := H
 replace H : (if t219 = true then (skiffref1_Scan.l0 k a0 ([] : List (S43)) 0) else (some (([] : List (S43)), 500))) = some (r1, r2) := H
 have A2 := Aside0.mk A20
 clear A20
 by_cases c3 : t219 = true
 ·subst c3
  have H1 : (skiffref1_Scan.l0 k a0 ([] : List (S43)) 0) = some (r1, r2) := by rw [if_pos rfl] at H; exact H
  clear H; have H := H1; clear H1
  have H' := Aside0.mk H
  clear H
  go_enter Try.func41, Try.ntmps41
  go_wp2_with (first | ((with_reducible refine gate_callee (f := 43) rfl ?_); refine goesL_ (some 10) rfl rfl Try.func43 (by kernel_rfl) rfl #[.string a0] rfl ka ?_; (with_reducible refine (skiffref1_FlashMay.calls a0 true _ A2.out).mono ?_); rintro e w' ⟨rfl, ⟨nd, rfl⟩⟩; refine ⟨_, rfl, ?_⟩))
  go_loopg [4, 5] k (fun kq v4 v5 w' => ∃ (x4_1 : List (S43)) (x5_1 : Int), v5 = .int .i64 x5_1 ∧ Aside0 (skiffref1_Scan.l0 kq a0 x4_1 x5_1 = some (r1, r2)) ∧ Aside0 (kq ≤ k) ∧ Aside0 (Kd.R k43 43 w' w.heap.size (fun _ => True) v4 x4_1) ∧ Aside0 (Below w.heap.size w w'))
  case atStart => exact ⟨(([] : List (S43))), (0), (by first | rfl | (simp; done) | (simp [*]; done)), H', ⟨Nat.le_refl _⟩, ⟨by first | exact Kd.R_nil _ _ _ _ _ | exact Kd.N_nil _ _ _ _ _ | exact Kd.V_nil _ _ _ _ _ | exact Kd.Q_nil _ _ _ _ _ | exact Kd.S_nil _ _ _ _ _⟩, ⟨kb HB.out⟩⟩
  case round =>
   clear H'
   try clear p2; try clear c3
   obtain ⟨x4_1, x5_1, rfl, HA, HK1, HO_4, HB⟩ := hrel
   cases gk with
   | zero => exact absurd HA.out (by simp [skiffref1_Scan.l0])
   | succ k1 =>
    have H := HA.out
    clear HA
    simp only [skiffref1_Scan.l0] at H
    by_cases c4 : x5_1 < 2
    case neg =>
     rw [if_neg c4] at H
     have c4b0 : decide (x5_1 < 2) = false := decide_eq_false c4
     clear c4
     simp only [Option.some.injEq, Prod.mk.injEq] at H
     obtain ⟨rfl, rfl⟩ := H
     go_wp2
     go_ret2
     exact ⟨_, by first | rfl | (simp [errW_none, errW_some] <;> rfl) | (simp [*, errW_none, errW_some] <;> rfl), kR HO_4.out, kb HB.out⟩
    rw [if_pos c4] at H
    have c4b0 : decide (x5_1 < 2) = true := decide_eq_true c4
    clear c4
    have H' := Aside0.mk H
    clear H
    go_wp2
    go_loopg [4, 6] k1 (fun kq v4 v6 w' => ∃ (x4_2 : List (S43)) (x6_2 : Int), v6 = .int .i64 x6_2 ∧ Aside0 (skiffref1_Scan.l1 kq a0 x4_2 x5_1 x6_2 = some (r1, r2)) ∧ Aside0 (kq ≤ k1) ∧ Aside0 (Kd.R k43 43 w' w.heap.size (fun _ => True) v4 x4_2) ∧ Aside0 (Below w.heap.size w w'))
    case atStart => exact ⟨(x4_1), (wrap64 (x5_1 * 96)), (by first | rfl | (simp; done) | (simp [*]; done)), H', ⟨Nat.le_refl _⟩, ⟨kR HO_4.out⟩, ⟨kb HB.out⟩⟩
    case round =>
     clear H'
     try clear p2; try clear c3; try clear c4; try clear c4b0; try clear p2
     obtain ⟨x4_2, x6_2, rfl, HA, HK2, HO_4, HB⟩ := hrel
     cases gk with
     | zero => exact absurd HA.out (by simp [skiffref1_Scan.l1])
     | succ k2 =>
      have H := HA.out
      clear HA
      simp only [skiffref1_Scan.l1] at H
      by_cases c5 : (wrap64 (x6_2 + 24)) ≤ (wrap64 ((wrap64 (x5_1 + 1)) * 96))
      case neg =>
       rw [if_neg c5] at H
       have c5b0 : decide ((wrap64 (x6_2 + 24)) ≤ (wrap64 ((wrap64 (x5_1 + 1)) * 96))) = false := decide_eq_false c5
       clear c5
       have H' := Aside0.mk H
       clear H
       go_wp2
       go_roundg k2
       case measure => have := HK1.out; have := HK2.out; omega
       case rel => exact ⟨(x4_2), (wrap64 (x5_1 + 1)), (by first | rfl | (simp; done) | (simp [*]; done)), H', ⟨by have := HK1.out; have := HK2.out; omega⟩, ⟨kR HO_4.out⟩, ⟨kb HB.out⟩⟩
      rw [if_pos c5] at H
      have c5b0 : decide ((wrap64 (x6_2 + 24)) ≤ (wrap64 ((wrap64 (x5_1 + 1)) * 96))) = true := decide_eq_true c5
      clear c5
      by_cases c6 : 0 ≤ x6_2
      case neg =>
       rw [if_neg c6] at H
       exact absurd H (by simp)
      rw [if_pos c6] at H
      have c6b0 := eq_true c6
      have c6b1 : decide (0 ≤ x6_2) = true := decide_eq_true c6
      clear c6
      by_cases c7 : x6_2 ≤ (wrap64 (x6_2 + 24))
      case neg =>
       rw [if_neg c7] at H
       exact absurd H (by simp)
      rw [if_pos c7] at H
      have c7b0 := eq_true c7
      have c7b1 : decide (x6_2 ≤ (wrap64 (x6_2 + 24))) = true := decide_eq_true c7
      by_cases c8 : (wrap64 (x6_2 + 24)) ≤ (a0.size : Int)
      case neg =>
       rw [if_neg c8] at H
       exact absurd H (by simp)
      rw [if_pos c8] at H
      have c8b0 := eq_true c8
      have c8b1 : decide ((wrap64 (x6_2 + 24)) ≤ (a0.size : Int)) = true := decide_eq_true c8
      replace H := Option.bind_eq_some_iff.mp H
      obtain ⟨⟨t220, t221, t222, t223, t224⟩, A90, H⟩ := H
      replace H : (if t224 = 0 then (if x4_2.length < 3518437208883 then (skiffref1_Scan.l1 k2 a0 (x4_2 ++ [(⟨x6_2, (⟨t220, t221, t222, t223⟩ : S41)⟩ : S43)]) x5_1 (wrap64 (x6_2 + 24))) else (none)) else (skiffref1_Scan.l1 k2 a0 x4_2 x5_1 (wrap64 (x6_2 + 24)))) = some (r1, r2) := H
      have A9 := Aside0.mk A90
      clear A90
      by_cases c10 : t224 = 0
      case neg =>
       rw [if_neg c10] at H
       have c10b0 : (t224 == 0) = false := beq_eq_false_iff_ne.mpr c10
       have c10b1 : (t224 != 0) = true := bne_iff_ne.mpr c10
       have H' := Aside0.mk H
       clear H
       go_wp2_with (first | ((with_reducible refine gate_callee (f := 68) rfl ?_); refine goesL_ (some 32) rfl rfl Try.func68 (by kernel_rfl) rfl #[.string (a0.extract (x6_2 : Int).toNat ((wrap64 (x6_2 + 24)) : Int).toNat)] rfl ka ?_; (with_reducible refine (skiffref1_GetEntry.calls (a0.extract (x6_2 : Int).toNat ((wrap64 (x6_2 + 24)) : Int).toNat) t220 t221 t222 t223 t224 _ A9.out).mono ?_); rintro e w16 ⟨rfl, hb⟩; refine ⟨_, rfl, ?_⟩; have n0_ := Aside0.mk (Kd.R_below (kR HO_4.out) hb); have n1_ := Aside0.mk (below_step (kb HB.out) hb); clear HO_4; clear HB; have HO_4 := n0_; have HB := n1_; clear n0_ n1_; (try clear hb); (try clear hb2); (try clear hk); (try clear hi)) | ((with_reducible refine gate_dst (N := 7) rfl ?_); refine box_event ?hg (N := 7) ?hd (cs := #[.int .i64 0, .int .i64 0, .int .i64 0, .int .i64 0]) (t := 41) ?hr ?_; (case hd => rfl); (case hg => rfl); (case hr => first | (go_simp; done) | (go_simp; rfl)); intro gb225 hg w17 hbox hb; have n0_ := Aside0.mk (Kd.R_below (kR HO_4.out) hb); have n1_ := Aside0.mk (below_step (kb HB.out) hb); have n2_ := Aside0.mk (hbox); have n3_ := Aside0.mk ((kz hg (below_size (kb HB.out)) : w.heap.size ≤ gb225)); have n4_ := Aside0.mk ((kz hg (below_size (kb HB.out)) : w.heap.size ≤ gb225)); clear HO_4; clear HB; have HO_4 := n0_; have HB := n1_; have BK225 := n2_; have GW225 := n3_; have GE225 := n4_; clear n0_ n1_ n2_ n3_ n4_; clear hb hbox hg; obtain ⟨hcz18_0, hcz18_1, hcz18_2, hcz18_3⟩ := kc4 BK225.out; obtain ⟨hfz18_0, hfz18_1, hfz18_2, hfz18_3⟩ := kf4 BK225.out))
       go_roundg k2
       case measure => have := HK1.out; have := HK2.out; omega
       case rel => exact ⟨(x4_2), (wrap64 (x6_2 + 24)), (by first | rfl | (simp; done) | (simp [*]; done)), H', ⟨by have := HK1.out; have := HK2.out; omega⟩, ⟨by (with_reducible repeat (first | apply Kd.R_alloc | apply Kd.R_drewN | apply Kd.R_drew)); exact Kd.R_mono (Kd.R_far (p := ⟨gb225, 3, none⟩) (Kd.R_far (p := ⟨gb225, 2, none⟩) (Kd.R_far (p := ⟨gb225, 1, none⟩) (Kd.R_far (p := ⟨gb225, 0, none⟩) (Kd.R_types HO_4.out BK225.out (by decide)) (fun _ hk => hk.2) (.int .i64 t220)) (fun _ hk => hk.2) (.int .i64 t221)) (fun _ hk => hk.2) (.int .i64 t222)) (fun _ hk => hk.2) (.int .i64 t223)) (fun _ hk => trivial)⟩, ⟨kb1 HB.out GE225.out⟩⟩
      rw [if_pos c10] at H
      have c10b0 : (t224 == 0) = true := beq_iff_eq.mpr c10
      have c10b1 : (t224 != 0) = false := bne_eq_false_iff_eq.mpr c10
      clear c10
      by_cases c11 : x4_2.length < 3518437208883
      case neg =>
       rw [if_neg c11] at H
       exact absurd H (by simp)
      rw [if_pos c11] at H
      have LMc11 := Aside0.mk c11
      clear c11
      obtain ⟨y226, hy226⟩ : ∃ y_ : List (S43), y_ = (x4_2 ++ [(⟨x6_2, (⟨t220, t221, t222, t223⟩ : S41)⟩ : S43)]) := ⟨_, rfl⟩
      replace H : (skiffref1_Scan.l1 k2 a0 y226 x5_1 (wrap64 (x6_2 + 24))) = some (r1, r2) := by first | (rw [hy226]; with_reducible exact H) | (have H2_ := (Option.bind_some _ _).symm.trans H; rw [hy226]; with_reducible exact H2_) | (have H2_ := (Option.bind_some _ _).symm.trans H; with_reducible exact H2_) | with_reducible exact H | (rw [hy226]; exact H) | exact H
      have Ny226 := Aside0.mk hy226
      clear hy226
      have H' := Aside0.mk H
      clear H
      go_wp2_with (first | ((with_reducible refine gate_callee (f := 68) rfl ?_); refine goesL_ (some 32) rfl rfl Try.func68 (by kernel_rfl) rfl #[.string (a0.extract (x6_2 : Int).toNat ((wrap64 (x6_2 + 24)) : Int).toNat)] rfl ka ?_; (with_reducible refine (skiffref1_GetEntry.calls (a0.extract (x6_2 : Int).toNat ((wrap64 (x6_2 + 24)) : Int).toNat) t220 t221 t222 t223 t224 _ A9.out).mono ?_); rintro e w12 ⟨rfl, hb⟩; refine ⟨_, rfl, ?_⟩; have n0_ := Aside0.mk (Kd.R_below (kR HO_4.out) hb); have n1_ := Aside0.mk (below_step (kb HB.out) hb); clear HO_4; clear HB; have HO_4 := n0_; have HB := n1_; clear n0_ n1_; (try clear hb); (try clear hb2); (try clear hk); (try clear hi)) | ((with_reducible refine gate_dst (N := 7) rfl ?_); refine box_event ?hg (N := 7) ?hd (cs := #[.int .i64 0, .int .i64 0, .int .i64 0, .int .i64 0]) (t := 41) ?hr ?_; (case hd => rfl); (case hg => rfl); (case hr => first | (go_simp; done) | (go_simp; rfl)); intro gb225 hg w13 hbox hb; have n0_ := Aside0.mk (Kd.R_below (kR HO_4.out) hb); have n1_ := Aside0.mk (below_step (kb HB.out) hb); have n2_ := Aside0.mk (hbox); have n3_ := Aside0.mk ((kz hg (below_size (kb HB.out)) : w.heap.size ≤ gb225)); have n4_ := Aside0.mk ((kz hg (below_size (kb HB.out)) : w.heap.size ≤ gb225)); clear HO_4; clear HB; have HO_4 := n0_; have HB := n1_; have BK225 := n2_; have GW225 := n3_; have GE225 := n4_; clear n0_ n1_ n2_ n3_ n4_; clear hb hbox hg; obtain ⟨hcz14_0, hcz14_1, hcz14_2, hcz14_3⟩ := kc4 BK225.out; obtain ⟨hfz14_0, hfz14_1, hfz14_2, hfz14_3⟩ := kf4 BK225.out) | ((with_reducible refine gate_builtin (b := .append) (xs := #[.tmp 37, .tmp 41]) rfl ?_); at_builtin; refine Kd.R_append k43 (w0 := w) w.heap.size rfl (.tmp 37) (.tmp 41) 72 43 (.agg #[(.int .i64 0), (.int .i64 0), (.int .i64 0), (.int .i64 0), (.int .i64 0)]) 40 rfl Try.underlying72 info43 rfl (by decide) (by omega) u4 x4_2 (⟨x6_2, (⟨t220, t221, t222, t223⟩ : S41)⟩ : S43) [.int .i64 x6_2, .int .i64 t220, .int .i64 t221, .int .i64 t222, .int .i64 t223] (fun _ => True) (fun _ => False) rfl (by first | (go_simp; done) | (go_simp; rfl)) ?aP (fun _ hk => hk.elim) ?aF ?aO ?aB ?aS ?aL ?_; (case aP => exact k43_mkM _ _ _ (⟨x6_2, (⟨t220, t221, t222, t223⟩ : S41)⟩ : S43)); (case aB => exact (kb1 HB.out GE225.out)); (case aF => exact (fun _ _ => trivial)); (case aO => exact (by (with_reducible repeat (first | apply Kd.R_alloc | apply Kd.R_drewN | apply Kd.R_drew)); exact Kd.R_mono (Kd.R_far (p := ⟨gb225, 3, none⟩) (Kd.R_far (p := ⟨gb225, 2, none⟩) (Kd.R_far (p := ⟨gb225, 1, none⟩) (Kd.R_far (p := ⟨gb225, 0, none⟩) (Kd.R_types HO_4.out BK225.out (by decide)) (fun _ hk => hk.2) (.int .i64 t220)) (fun _ hk => hk.2) (.int .i64 t221)) (fun _ hk => hk.2) (.int .i64 t222)) (fun _ hk => hk.2) (.int .i64 t223)) (fun _ hk => trivial))); (case aS => exact (below_size (kb1 HB.out GE225.out))); (case aL => have := LMc11.out; omega); intro v227 w15 ho hb hg hat; rw [← Ny226.out] at ho; have n0_ := Aside0.mk (blk_grown (g := gb225) (o := .cells #[.int .i64 t220, .int .i64 t221, .int .i64 t222, .int .i64 t223] 41 (0, 0)) (kP4 BK225.out) hg (Kd.R_ne HO_4.out BK225.out (by decide))); have n1_ := Aside0.mk (hb); have n2_ := Aside0.mk (ho); clear BK225; clear HB; clear HO_4; have BK225 := n0_; have HB := n1_; have HO228 := n2_; clear n0_ n1_ n2_; clear ho hb hg hat))
      go_roundg k2
      case measure => have := HK1.out; have := HK2.out; omega
      case rel => exact ⟨(y226), (wrap64 (x6_2 + 24)), (by first | rfl | (simp; done) | (simp [*]; done)), H', ⟨by have := HK1.out; have := HK2.out; omega⟩, ⟨kR HO228.out⟩, ⟨kb1 HB.out GE225.out⟩⟩
 ·replace c3 := Bool.eq_false_iff.mpr c3
  subst c3
  have H1 : (some (([] : List (S43)), 500)) = some (r1, r2) := by rw [if_neg (show ¬ (false = true) by decide)] at H; exact H
  clear H; have H := H1; clear H1
  simp only [Option.some.injEq, Prod.mk.injEq] at H
  obtain ⟨rfl, rfl⟩ := H
  go_enter Try.func41, Try.ntmps41
  go_wp2_with (first | ((with_reducible refine gate_callee (f := 43) rfl ?_); refine goesL_ (some 10) rfl rfl Try.func43 (by kernel_rfl) rfl #[.string a0] rfl ka ?_; (with_reducible refine (skiffref1_FlashMay.calls a0 false _ A2.out).mono ?_); rintro e w' ⟨rfl, ⟨nd, rfl⟩⟩; refine ⟨_, rfl, ?_⟩))
  go_ret2
  exact ⟨_, by first | rfl | (simp [errW_none, errW_some] <;> rfl) | (simp [*, errW_none, errW_some] <;> rfl), by first | exact Kd.R_nil _ _ _ _ _ | exact Kd.N_nil _ _ _ _ _ | exact Kd.V_nil _ _ _ _ _ | exact Kd.Q_nil _ _ _ _ _ | exact Kd.S_nil _ _ _ _ _, kb HB.out⟩

/-! ### skiffref1_upTo: function 45 -/
def skiffref1_upTo.f (a0 : Int) (a1 : Int) (a2 : Int) : Option (Bool) := if a0 ≥ a1 then (some (decide (a0 ≤ a2))) else (some false)
set_option maxHeartbeats 8000000 in
set_option maxRecDepth 100000 in
theorem skiffref1_upTo.calls (a0 : Int) (a1 : Int) (a2 : Int) (r : Bool) (w : World) (h : skiffref1_upTo.f a0 a1 a2 = some r) :
  Calls Try.prog 45 #[.int .i64 a0, .int .i64 a1, .int .i64 a2] w fun e w' => e = .returned (.bool r) ∧ Drawn0 w w' := by
 have H : (if a0 ≥ a1 then (some (decide (a0 ≤ a2))) else (some false)) = some r := h
 clear h
 by_cases c4 : a0 ≥ a1
 case neg =>
  rw [if_neg c4] at H
  have c4b0 : decide (a1 ≤ a0) = false := decide_eq_false c4
  clear c4
  obtain rfl := Option.some.inj H
  go_enter Try.func45, Try.ntmps45
  go_wp2
  go_ret
  exact ⟨by first | rfl | (simp; done) | (simp [*]; done), by repeat (first | exact Drawn0.refl _ | apply Drawn0.step)⟩
 rw [if_pos c4] at H
 have c4b0 : decide (a1 ≤ a0) = true := decide_eq_true c4
 clear c4
 obtain rfl := Option.some.inj H
 go_enter Try.func45, Try.ntmps45
 go_wp2
 go_ret
 exact ⟨by first | rfl | (simp; done) | (simp [*]; done), by repeat (first | exact Drawn0.refl _ | apply Drawn0.step)⟩

/-! ### skiffref1_Base: function 20 -/
def skiffref1_Base.f (a0 : Int) : Option (Int × Int) := (skiffref1_upTo.f a0 0 1).bind fun t229 => (if t229 = true then (some (wrap64 ((wrap64 (2 + (wrap64 (3 * a0)))) * 96), 0)) else (some (0, 600)))
set_option maxHeartbeats 8000000 in
set_option maxRecDepth 100000 in
theorem skiffref1_Base.calls (a0 : Int) (r1 : Int) (r2 : Int) (w : World) (h : skiffref1_Base.f a0 = some (r1, r2)) :
  Calls Try.prog 20 #[.int .i64 a0] w fun e w' => e = .returned (.tuple #[.int .i64 r1, .int .i64 r2]) ∧ Drawn0 w w' := by
 have H : ((skiffref1_upTo.f a0 0 1).bind fun t229 => (if t229 = true then (some (wrap64 ((wrap64 (2 + (wrap64 (3 * a0)))) * 96), 0)) else (some (0, 600)))) = some (r1, r2) := h
 clear h
 replace H := Option.bind_eq_some_iff.mp H
 obtain ⟨t229, A20, H⟩ := H
 replace H : (if t229 = true then (some (wrap64 ((wrap64 (2 + (wrap64 (3 * a0)))) * 96), 0)) else (some (0, 600))) = some (r1, r2) := H
 have A2 := Aside0.mk A20
 clear A20
 by_cases c3 : t229 = true
 ·subst c3
  have H1 : (some (wrap64 ((wrap64 (2 + (wrap64 (3 * a0)))) * 96), 0)) = some (r1, r2) := by rw [if_pos rfl] at H; exact H
  clear H; have H := H1; clear H1
  simp only [Option.some.injEq, Prod.mk.injEq] at H
  obtain ⟨rfl, rfl⟩ := H
  go_enter Try.func20, Try.ntmps20
  go_wp2_with (first | ((with_reducible refine gate_callee (f := 45) rfl ?_); refine goesL_ (some 5) rfl rfl Try.func45 (by kernel_rfl) rfl #[.int .i64 a0, .int .i64 0, .int .i64 1] rfl ka ?_; (with_reducible refine (skiffref1_upTo.calls a0 0 1 true _ A2.out).mono ?_); rintro e w' ⟨rfl, ⟨nd, rfl⟩⟩; refine ⟨_, rfl, ?_⟩))
  go_ret2
  exact ⟨by first | rfl | (simp; done) | (simp [*]; done), by repeat (first | exact Drawn0.refl _ | apply Drawn0.step)⟩
 ·replace c3 := Bool.eq_false_iff.mpr c3
  subst c3
  have H1 : (some (0, 600)) = some (r1, r2) := by rw [if_neg (show ¬ (false = true) by decide)] at H; exact H
  clear H; have H := H1; clear H1
  simp only [Option.some.injEq, Prod.mk.injEq] at H
  obtain ⟨rfl, rfl⟩ := H
  go_enter Try.func20, Try.ntmps20
  go_wp2_with (first | ((with_reducible refine gate_callee (f := 45) rfl ?_); refine goesL_ (some 5) rfl rfl Try.func45 (by kernel_rfl) rfl #[.int .i64 a0, .int .i64 0, .int .i64 1] rfl ka ?_; (with_reducible refine (skiffref1_upTo.calls a0 0 1 false _ A2.out).mono ?_); rintro e w' ⟨rfl, ⟨nd, rfl⟩⟩; refine ⟨_, rfl, ?_⟩))
  go_ret2
  exact ⟨by first | rfl | (simp; done) | (simp [*]; done), by repeat (first | exact Drawn0.refl _ | apply Drawn0.step)⟩

/-! ### skiffref1_RecordMay: function 44 -/
def skiffref1_RecordMay.f (a0_0 : Int) (a0_1 : Int) (a0_2 : Int) (a0_3 : Int) : Option (Bool) := some (Skiff.recMay ⟨a0_0, a0_1, a0_2, a0_3⟩)
theorem skiffref1_RecordMay.calls (a0_0 : Int) (a0_1 : Int) (a0_2 : Int) (a0_3 : Int) (r : Bool) (w : World) (h : skiffref1_RecordMay.f a0_0 a0_1 a0_2 a0_3 = some r) :
  Calls Try.prog 44 #[.agg #[.int .i64 a0_0, .int .i64 a0_1, .int .i64 a0_2, .int .i64 a0_3]] w fun e w' => e = .returned (.bool r) ∧ Below w.heap.size w w' :=
 Go.Proofs.Ytmidohjfajbpmaa.g_skiffref1_RecordMay a0_0 a0_1 a0_2 a0_3 r w h

/-! ### skiffref1_ImageOf: function 18 -/
def skiffref1_ImageOf.f (a0 : ByteArray) (a1_0 : Int) (a1_1 : Int) (a1_2 : Int) (a1_3 : Int) : Option (ByteArray × Int) := (skiffref1_FlashMay.f a0).bind fun t231 => (if t231 = true then ((skiffref1_RecordMay.f a1_0 a1_1 a1_2 a1_3).bind fun t232 => (if t232 = true then ((skiffref1_Base.f a1_1).bind fun bt233 => (if 0 ≤ bt233.1 then (if bt233.1 ≤ (wrap64 (bt233.1 + a1_2)) then (if (wrap64 (bt233.1 + a1_2)) ≤ (a0.size : Int) then (some (a0.extract (bt233.1 : Int).toNat ((wrap64 (bt233.1 + a1_2)) : Int).toNat, 0)) else (none)) else (none)) else (none))) else (some ((⟨#[]⟩ : ByteArray), 600)))) else (some ((⟨#[]⟩ : ByteArray), 600)))
set_option maxHeartbeats 8000000 in
set_option maxRecDepth 100000 in
theorem skiffref1_ImageOf.calls (a0 : ByteArray) (a1_0 : Int) (a1_1 : Int) (a1_2 : Int) (a1_3 : Int) (r1 : ByteArray) (r2 : Int) (w : World) (h : skiffref1_ImageOf.f a0 a1_0 a1_1 a1_2 a1_3 = some (r1, r2)) :
  Calls Try.prog 18 #[.string a0, .agg #[.int .i64 a1_0, .int .i64 a1_1, .int .i64 a1_2, .int .i64 a1_3]] w fun e w' => e = .returned (.tuple #[.string r1, .int .i64 r2]) ∧ Below w.heap.size w w' := by
 have hu41 := Try.underlying41
 have HB := Aside0.mk (Below.refl w.heap.size w)
 have H : ((skiffref1_FlashMay.f a0).bind fun t231 => (if t231 = true then ((skiffref1_RecordMay.f a1_0 a1_1 a1_2 a1_3).bind fun t232 => (if t232 = true then ((skiffref1_Base.f a1_1).bind fun bt233 => (if 0 ≤ bt233.1 then (if bt233.1 ≤ (wrap64 (bt233.1 + a1_2)) then (if (wrap64 (bt233.1 + a1_2)) ≤ (a0.size : Int) then (some (a0.extract (bt233.1 : Int).toNat ((wrap64 (bt233.1 + a1_2)) : Int).toNat, 0)) else (none)) else (none)) else (none))) else (some ((⟨#[]⟩ : ByteArray), 600)))) else (some ((⟨#[]⟩ : ByteArray), 600)))) = some (r1, r2) := h
 clear h
 replace H := Option.bind_eq_some_iff.mp H
 obtain ⟨t231, A30, H⟩ := H
 replace H : (if t231 = true then ((skiffref1_RecordMay.f a1_0 a1_1 a1_2 a1_3).bind fun t232 => (if t232 = true then ((skiffref1_Base.f a1_1).bind fun bt233 => (if 0 ≤ bt233.1 then (if bt233.1 ≤ (wrap64 (bt233.1 + a1_2)) then (if (wrap64 (bt233.1 + a1_2)) ≤ (a0.size : Int) then (some (a0.extract (bt233.1 : Int).toNat ((wrap64 (bt233.1 + a1_2)) : Int).toNat, 0)) else (none)) else (none)) else (none))) else (some ((⟨#[]⟩ : ByteArray), 600)))) else (some ((⟨#[]⟩ : ByteArray), 600))) = some (r1, r2) := H
 have A3 := Aside0.mk A30
 clear A30
 by_cases c4 : t231 = true
 ·subst c4
  have H1 : ((skiffref1_RecordMay.f a1_0 a1_1 a1_2 a1_3).bind fun t232 => (if t232 = true then ((skiffref1_Base.f a1_1).bind fun bt233 => (if 0 ≤ bt233.1 then (if bt233.1 ≤ (wrap64 (bt233.1 + a1_2)) then (if (wrap64 (bt233.1 + a1_2)) ≤ (a0.size : Int) then (some (a0.extract (bt233.1 : Int).toNat ((wrap64 (bt233.1 + a1_2)) : Int).toNat, 0)) else (none)) else (none)) else (none))) else (some ((⟨#[]⟩ : ByteArray), 600)))) = some (r1, r2) := by rw [if_pos rfl] at H; exact H
  clear H; have H := H1; clear H1
  replace H := Option.bind_eq_some_iff.mp H
  obtain ⟨t232, A50, H⟩ := H
  replace H : (if t232 = true then ((skiffref1_Base.f a1_1).bind fun bt233 => (if 0 ≤ bt233.1 then (if bt233.1 ≤ (wrap64 (bt233.1 + a1_2)) then (if (wrap64 (bt233.1 + a1_2)) ≤ (a0.size : Int) then (some (a0.extract (bt233.1 : Int).toNat ((wrap64 (bt233.1 + a1_2)) : Int).toNat, 0)) else (none)) else (none)) else (none))) else (some ((⟨#[]⟩ : ByteArray), 600))) = some (r1, r2) := H
  have A5 := Aside0.mk A50
  clear A50
  by_cases c6 : t232 = true
  ·subst c6
   have H1 : ((skiffref1_Base.f a1_1).bind fun bt233 => (if 0 ≤ bt233.1 then (if bt233.1 ≤ (wrap64 (bt233.1 + a1_2)) then (if (wrap64 (bt233.1 + a1_2)) ≤ (a0.size : Int) then (some (a0.extract (bt233.1 : Int).toNat ((wrap64 (bt233.1 + a1_2)) : Int).toNat, 0)) else (none)) else (none)) else (none))) = some (r1, r2) := by rw [if_pos rfl] at H; exact H
   clear H; have H := H1; clear H1
   replace H := Option.bind_eq_some_iff.mp H
   obtain ⟨⟨t233, t234⟩, A70, H⟩ := H
   replace H : (if 0 ≤ t233 then (if t233 ≤ (wrap64 (t233 + a1_2)) then (if (wrap64 (t233 + a1_2)) ≤ (a0.size : Int) then (some (a0.extract (t233 : Int).toNat ((wrap64 (t233 + a1_2)) : Int).toNat, 0)) else (none)) else (none)) else (none)) = some (r1, r2) := H
   have A7 := Aside0.mk A70
   clear A70
   by_cases c8 : 0 ≤ t233
   case neg =>
    rw [if_neg c8] at H
    exact absurd H (by simp)
   rw [if_pos c8] at H
   have c8b0 := eq_true c8
   have c8b1 : decide (0 ≤ t233) = true := decide_eq_true c8
   clear c8
   by_cases c9 : t233 ≤ (wrap64 (t233 + a1_2))
   case neg =>
    rw [if_neg c9] at H
    exact absurd H (by simp)
   rw [if_pos c9] at H
   have c9b0 := eq_true c9
   have c9b1 : decide (t233 ≤ (wrap64 (t233 + a1_2))) = true := decide_eq_true c9
   by_cases c10 : (wrap64 (t233 + a1_2)) ≤ (a0.size : Int)
   case neg =>
    rw [if_neg c10] at H
    exact absurd H (by simp)
   rw [if_pos c10] at H
   have c10b0 := eq_true c10
   have c10b1 : decide ((wrap64 (t233 + a1_2)) ≤ (a0.size : Int)) = true := decide_eq_true c10
   simp only [Option.some.injEq, Prod.mk.injEq] at H
   obtain ⟨rfl, rfl⟩ := H
   go_enter Try.func18, Try.ntmps18
   go_wp2_with (first | ((with_reducible refine gate_dst (N := 3) rfl ?_); refine box_event ?hg (N := 3) ?hd (cs := #[.int .i64 a1_0, .int .i64 a1_1, .int .i64 a1_2, .int .i64 a1_3]) (t := 41) ?hr ?_; (case hd => rfl); (case hg => rfl); (case hr => first | (go_simp; done) | (go_simp; rfl)); intro gb230 hg w11 hbox hb; have n0_ := Aside0.mk (below_step (kb HB.out) hb); have n1_ := Aside0.mk (hbox); have n2_ := Aside0.mk ((kz hg (below_size (kb HB.out)) : w.heap.size ≤ gb230)); have n3_ := Aside0.mk ((kz hg (below_size (kb HB.out)) : w.heap.size ≤ gb230)); clear HB; have HB := n0_; have BK230 := n1_; have GW230 := n2_; have GE230 := n3_; clear n0_ n1_ n2_ n3_; clear hb hbox hg) | ((with_reducible refine gate_callee (f := 43) rfl ?_); refine goesL_ (some 9) rfl rfl Try.func43 (by kernel_rfl) rfl #[.string a0] rfl ka ?_; (with_reducible refine (skiffref1_FlashMay.calls a0 true _ A3.out).mono ?_); rintro e w' ⟨rfl, ⟨nd, rfl⟩⟩; refine ⟨_, rfl, ?_⟩; obtain ⟨hcz12_0, hcz12_1, hcz12_2, hcz12_3⟩ := kc4 BK230.out; obtain ⟨hfz12_0, hfz12_1, hfz12_2, hfz12_3⟩ := kf4 BK230.out) | (go_at_call 44; (with_reducible refine (skiffref1_RecordMay.calls a1_0 a1_1 a1_2 a1_3 true _ A5.out).mono ?_); rintro e w13 ⟨rfl, hb⟩; have n0_ := Aside0.mk (kL BK230.out hb); have n1_ := Aside0.mk (below_step (kb1 HB.out GE230.out) hb); clear BK230; clear HB; have BK230 := n0_; have HB := n1_; clear n0_ n1_; (try clear hb); (try clear hb2); (try clear hk); (try clear hi); obtain ⟨hcz14_0, hcz14_1, hcz14_2, hcz14_3⟩ := kc4 BK230.out; obtain ⟨hfz14_0, hfz14_1, hfz14_2, hfz14_3⟩ := kf4 BK230.out) | ((with_reducible refine gate_callee (f := 20) rfl ?_); refine goesL_ (some 19) rfl rfl Try.func20 (by kernel_rfl) rfl #[.int .i64 a1_1] rfl ka ?_; (with_reducible refine (skiffref1_Base.calls a1_1 t233 t234 _ A7.out).mono ?_); rintro e w' ⟨rfl, ⟨nd, rfl⟩⟩; refine ⟨_, rfl, ?_⟩))
   go_ret2
   exact ⟨by first | rfl | (simp [errW_none, errW_some] <;> rfl) | (simp [*, errW_none, errW_some] <;> rfl), kb1 HB.out GE230.out⟩
  ·replace c6 := Bool.eq_false_iff.mpr c6
   subst c6
   have H1 : (some ((⟨#[]⟩ : ByteArray), 600)) = some (r1, r2) := by rw [if_neg (show ¬ (false = true) by decide)] at H; exact H
   clear H; have H := H1; clear H1
   simp only [Option.some.injEq, Prod.mk.injEq] at H
   obtain ⟨rfl, rfl⟩ := H
   go_enter Try.func18, Try.ntmps18
   go_wp2_with (first | ((with_reducible refine gate_dst (N := 3) rfl ?_); refine box_event ?hg (N := 3) ?hd (cs := #[.int .i64 a1_0, .int .i64 a1_1, .int .i64 a1_2, .int .i64 a1_3]) (t := 41) ?hr ?_; (case hd => rfl); (case hg => rfl); (case hr => first | (go_simp; done) | (go_simp; rfl)); intro gb230 hg w15 hbox hb; have n0_ := Aside0.mk (below_step (kb HB.out) hb); have n1_ := Aside0.mk (hbox); have n2_ := Aside0.mk ((kz hg (below_size (kb HB.out)) : w.heap.size ≤ gb230)); have n3_ := Aside0.mk ((kz hg (below_size (kb HB.out)) : w.heap.size ≤ gb230)); clear HB; have HB := n0_; have BK230 := n1_; have GW230 := n2_; have GE230 := n3_; clear n0_ n1_ n2_ n3_; clear hb hbox hg) | ((with_reducible refine gate_callee (f := 43) rfl ?_); refine goesL_ (some 9) rfl rfl Try.func43 (by kernel_rfl) rfl #[.string a0] rfl ka ?_; (with_reducible refine (skiffref1_FlashMay.calls a0 true _ A3.out).mono ?_); rintro e w' ⟨rfl, ⟨nd, rfl⟩⟩; refine ⟨_, rfl, ?_⟩; obtain ⟨hcz16_0, hcz16_1, hcz16_2, hcz16_3⟩ := kc4 BK230.out; obtain ⟨hfz16_0, hfz16_1, hfz16_2, hfz16_3⟩ := kf4 BK230.out) | (go_at_call 44; (with_reducible refine (skiffref1_RecordMay.calls a1_0 a1_1 a1_2 a1_3 false _ A5.out).mono ?_); rintro e w17 ⟨rfl, hb⟩; have n0_ := Aside0.mk (kL BK230.out hb); have n1_ := Aside0.mk (below_step (kb1 HB.out GE230.out) hb); clear BK230; clear HB; have BK230 := n0_; have HB := n1_; clear n0_ n1_; (try clear hb); (try clear hb2); (try clear hk); (try clear hi)))
   go_ret2
   exact ⟨by first | rfl | (simp [errW_none, errW_some] <;> rfl) | (simp [*, errW_none, errW_some] <;> rfl), kb1 HB.out GE230.out⟩
 ·replace c4 := Bool.eq_false_iff.mpr c4
  subst c4
  have H1 : (some ((⟨#[]⟩ : ByteArray), 600)) = some (r1, r2) := by rw [if_neg (show ¬ (false = true) by decide)] at H; exact H
  clear H; have H := H1; clear H1
  simp only [Option.some.injEq, Prod.mk.injEq] at H
  obtain ⟨rfl, rfl⟩ := H
  go_enter Try.func18, Try.ntmps18
  go_wp2_with (first | ((with_reducible refine gate_dst (N := 3) rfl ?_); refine box_event ?hg (N := 3) ?hd (cs := #[.int .i64 a1_0, .int .i64 a1_1, .int .i64 a1_2, .int .i64 a1_3]) (t := 41) ?hr ?_; (case hd => rfl); (case hg => rfl); (case hr => first | (go_simp; done) | (go_simp; rfl)); intro gb230 hg w18 hbox hb; have n0_ := Aside0.mk (below_step (kb HB.out) hb); have n1_ := Aside0.mk (hbox); have n2_ := Aside0.mk ((kz hg (below_size (kb HB.out)) : w.heap.size ≤ gb230)); have n3_ := Aside0.mk ((kz hg (below_size (kb HB.out)) : w.heap.size ≤ gb230)); clear HB; have HB := n0_; have BK230 := n1_; have GW230 := n2_; have GE230 := n3_; clear n0_ n1_ n2_ n3_; clear hb hbox hg) | ((with_reducible refine gate_callee (f := 43) rfl ?_); refine goesL_ (some 9) rfl rfl Try.func43 (by kernel_rfl) rfl #[.string a0] rfl ka ?_; (with_reducible refine (skiffref1_FlashMay.calls a0 false _ A3.out).mono ?_); rintro e w' ⟨rfl, ⟨nd, rfl⟩⟩; refine ⟨_, rfl, ?_⟩))
  go_ret2
  exact ⟨by first | rfl | (simp [errW_none, errW_some] <;> rfl) | (simp [*, errW_none, errW_some] <;> rfl), kb1 HB.out GE230.out⟩

/-! ### skiffref1_Crc: function 65 -/
def skiffref1_Crc.f (a0 : ByteArray) : Option (Int) := Skiff.sums a0
theorem skiffref1_Crc.calls (a0 : ByteArray) (r : Int) (w : World) (h : skiffref1_Crc.f a0 = some r) :
  Calls Try.prog 65 #[.string a0] w fun e w' => e = .returned (.int .i64 r) ∧ Below w.heap.size w w' :=
 Go.Proofs.Ytmidohjfajbpmaa.g_skiffref1_Crc a0 r w h

/-! ### skiffref1_Good: function 42 -/
def skiffref1_Good.f (a0 : ByteArray) (a1_0 : Int) (a1_1 : Int) (a1_2 : Int) (a1_3 : Int) : Option (Bool × Int) := (skiffref1_ImageOf.f a0 a1_0 a1_1 a1_2 a1_3).bind fun bt236 => (if bt236.2 = 0 then ((skiffref1_Crc.f bt236.1).bind fun t238 => (some ((t238 == a1_3), bt236.2))) else (some (false, bt236.2)))
def skiffref1_Good.T2 : Bool × List (List Nat × List Nat) := (true, [([], []), ([0], [0]), ([1], [1]), ([2], [2]), ([3, 2, 2], [2, 3]), ([2], [2]), ([5, 2], [2, 5]), ([4, 6, 2], [2, 4, 6]), ([2, 7], [2, 7]), ([], []), ([8, 4, 0, 1, 2, 3, 4, 5, 6, 7, 8], [8]), ([9, 10, 0, 1, 2, 3, 4, 5, 6, 7, 8, 9, 10], [9])])
def skiffref1_Good.B2 : List Nat := [0, 1, 3, 7, 15, 7, 39, 127, 255, 0, 511, 2047]
theorem skiffref1_Good.tab2 : rtab .any (opsOf Try.f42 2) = skiffref1_Good.T2 := by kernel_rfl
theorem skiffref1_Good.bits2 : waitsOk skiffref1_Good.T2.2 skiffref1_Good.B2 = true := by kernel_rfl
set_option maxHeartbeats 8000000 in
set_option maxRecDepth 100000 in
theorem skiffref1_Good.calls (a0 : ByteArray) (a1_0 : Int) (a1_1 : Int) (a1_2 : Int) (a1_3 : Int) (r1 : Bool) (r2 : Int) (w : World) (h : skiffref1_Good.f a0 a1_0 a1_1 a1_2 a1_3 = some (r1, r2)) :
  Calls Try.prog 42 #[.string a0, .agg #[.int .i64 a1_0, .int .i64 a1_1, .int .i64 a1_2, .int .i64 a1_3]] w fun e w' => e = .returned (.tuple #[.bool r1, .int .i64 r2]) ∧ Below w.heap.size w w' := by
 have hu41 := Try.underlying41
 have HB := Aside0.mk (Below.refl w.heap.size w)
 have H : ((skiffref1_ImageOf.f a0 a1_0 a1_1 a1_2 a1_3).bind fun bt236 => (if bt236.2 = 0 then ((skiffref1_Crc.f bt236.1).bind fun t238 => (some ((t238 == a1_3), bt236.2))) else (some (false, bt236.2)))) = some (r1, r2) := h
 clear h
 replace H := Option.bind_eq_some_iff.mp H
 obtain ⟨⟨t236, t237⟩, A30, H⟩ := H
 replace H : (if t237 = 0 then ((skiffref1_Crc.f t236).bind fun t238 => (some ((t238 == a1_3), t237))) else (some (false, t237))) = some (r1, r2) := H
 have A3 := Aside0.mk A30
 clear A30
 by_cases c4 : t237 = 0
 ·rw [if_pos c4] at H
  have c4b0 : (t237 == 0) = true := beq_iff_eq.mpr c4
  have c4b1 : (t237 != 0) = false := bne_eq_false_iff_eq.mpr c4
  clear c4
  replace H := Option.bind_eq_some_iff.mp H
  obtain ⟨t238, A50, H⟩ := H
  replace H : (some ((t238 == a1_3), t237)) = some (r1, r2) := H
  have A5 := Aside0.mk A50
  clear A50
  simp only [Option.some.injEq, Prod.mk.injEq] at H
  obtain ⟨rfl, rfl⟩ := H
  go_enter Try.func42, Try.ntmps42
  try go_wp2_with (first | ((with_reducible refine gate_dst (N := 3) rfl ?_); refine box_event ?hg (N := 3) ?hd (cs := #[.int .i64 a1_0, .int .i64 a1_1, .int .i64 a1_2, .int .i64 a1_3]) (t := 41) ?hr ?_; (case hd => rfl); (case hg => rfl); (case hr => first | (go_simp; done) | (go_simp; rfl)); intro gb235 hg w6 hbox hb; have n0_ := Aside0.mk (below_step (kb HB.out) hb); have n1_ := Aside0.mk (hbox); have n2_ := Aside0.mk ((kz hg (below_size (kb HB.out)) : w.heap.size ≤ gb235)); have n3_ := Aside0.mk ((kz hg (below_size (kb HB.out)) : w.heap.size ≤ gb235)); clear HB; have HB := n0_; have BK235 := n1_; have GW235 := n2_; have GE235 := n3_; clear n0_ n1_ n2_ n3_; clear hb hbox hg; obtain ⟨hcz7_0, hcz7_1, hcz7_2, hcz7_3⟩ := kc4 BK235.out; obtain ⟨hfz7_0, hfz7_1, hfz7_2, hfz7_3⟩ := kf4 BK235.out) | ((with_reducible refine gate_callee (f := 18) rfl ?_); refine goesL_ (some 11) rfl rfl Try.func18 (by kernel_rfl) rfl #[.string a0, .agg #[.int .i64 a1_0, .int .i64 a1_1, .int .i64 a1_2, .int .i64 a1_3]] rfl ka ?_; (with_reducible refine (skiffref1_ImageOf.calls a0 a1_0 a1_1 a1_2 a1_3 t236 t237 _ A3.out).mono ?_); rintro e w8 ⟨rfl, hb⟩; refine ⟨_, rfl, ?_⟩; have n0_ := Aside0.mk (kL BK235.out hb); have n1_ := Aside0.mk (below_step (kb1 HB.out GE235.out) hb); clear BK235; clear HB; have BK235 := n0_; have HB := n1_; clear n0_ n1_; (try clear hb); (try clear hb2); (try clear hk); (try clear hi)))
  have n0_ := Aside0.mk (blk_drew BK235.out)
  have n1_ := Aside0.mk (below_drew1 HB.out)
  clear BK235 HB; have BK235 := n0_; have HB := n1_; clear n0_ n1_
  refine start_ (n := 12) (S := fun w' => w'.cell? ⟨gb235, 0, none⟩ = some (.int .i64 a1_0) ∧ w'.cell? ⟨gb235, 1, none⟩ = some (.int .i64 a1_1) ∧ w'.cell? ⟨gb235, 2, none⟩ = some (.int .i64 a1_2) ∧ w'.cell? ⟨gb235, 3, none⟩ = some (.int .i64 a1_3)) (ds := []) #[false, false, false, false, false, false, false, false, false, false, false, false] (by kernel_rfl) rfl rfl ⟨(blk_cell BK235.out 0).trans rfl, (blk_cell BK235.out 1).trans rfl, (blk_cell BK235.out 2).trans rfl, (blk_cell BK235.out 3).trans rfl⟩ (fun hHeld => ?_); refine with_tabW skiffref1_Good.tab2 skiffref1_Good.bits2 (fun HT_ HW_ => ?_)
  generalize w8.drew = w9 at BK235 HB hHeld ⊢
  refine pure_ (i := 0) (N := some 14) (v := ?_) (a' := ?_) #[true, false, false, false, false, false, false, false, false, false, false, false] rfl rfl (any_of HT_.out (by kernel_rfl)) (fun _ _ _ h => h) (Or.inl ⟨by rfl, ?_⟩) ?_ ?_
  rotate_left
  ·intro w'
   go_simp
   with_reducible rfl
  rotate_left
  ·simp only [Act.put, List.setIfInBounds_toArray, List.set_cons_zero, List.set_cons_succ, i64_w, i32_w]
   rfl
  refine pure_ (i := 1) (N := some 15) (v := ?_) (a' := ?_) #[true, true, false, false, false, false, false, false, false, false, false, false] rfl rfl (any_of HT_.out (by kernel_rfl)) (fun _ _ _ h => h) (Or.inl ⟨by rfl, ?_⟩) ?_ ?_
  rotate_left
  ·intro w'
   go_simp
   with_reducible rfl
  rotate_left
  ·simp only [Act.put, List.setIfInBounds_toArray, List.set_cons_zero, List.set_cons_succ, i64_w, i32_w]
   rfl
  refine pure_ (i := 2) (N := some 16) (v := ?_) (a' := ?_) #[true, true, true, false, false, false, false, false, false, false, false, false] rfl rfl (any_of HT_.out (by kernel_rfl)) (fun _ _ _ h => h) (Or.inl ⟨by rfl, ?_⟩) ?_ ?_
  rotate_left
  ·intro w'
   go_simp
   with_reducible rfl
  rotate_left
  ·simp only [Act.put, List.setIfInBounds_toArray, List.set_cons_zero, List.set_cons_succ, i64_w, i32_w]
   rfl
  refine pure_ (i := 3) (N := some 17) (v := ?_) (a' := ?_) #[true, true, true, true, false, false, false, false, false, false, false, false] rfl rfl (any_of HT_.out (by kernel_rfl)) (fun _ _ _ h => h) (Or.inl ⟨by rfl, ?_⟩) ?_ ?_
  rotate_left
  ·intro w'
   go_simp
   with_reducible rfl
  rotate_left
  ·simp only [Act.put, List.setIfInBounds_toArray, List.set_cons_zero, List.set_cons_succ, i64_w, i32_w]
   rfl
  refine pure_ (i := 5) (N := some 19) (v := ?_) (a' := ?_) #[true, true, true, true, false, true, false, false, false, false, false, false] rfl rfl (any_of HT_.out (by kernel_rfl)) (fun _ _ _ h => h) (Or.inl ⟨by rfl, ?_⟩) ?_ ?_
  rotate_left
  ·intro w'
   go_simp
   with_reducible rfl
  rotate_left
  ·simp only [Act.put, List.setIfInBounds_toArray, List.set_cons_zero, List.set_cons_succ, i64_w, i32_w]
   rfl
  refine pure_ (i := 9) (N := some 23) (v := ?_) (a' := ?_) #[true, true, true, true, false, true, false, false, false, true, false, false] rfl rfl (any_of HT_.out (by kernel_rfl)) (fun _ _ _ h => h) (Or.inl ⟨by rfl, ?_⟩) ?_ ?_
  rotate_left
  ·intro w'
   go_simp
   with_reducible rfl
  rotate_left
  ·simp only [Act.put, List.setIfInBounds_toArray, List.set_cons_zero, List.set_cons_succ, i64_w, i32_w]
   rfl
  refine take_ (i := 6) (N := some 20) (v := ?_) (a' := ?_) #[true, true, true, true, false, true, true, false, false, true, false, false] rfl rfl (take_ofW HT_.out HW_.out (by kernel_rfl)) (fun _ _ _ h => h) (Or.inl ⟨by rfl, ?_⟩) hHeld ?_ ?_
  rotate_left
  ·rintro w' ⟨s0, s1, s2, s3⟩
   go_simp
   with_reducible rfl
  rotate_left
  ·simp only [Act.put, List.setIfInBounds_toArray, List.set_cons_zero, List.set_cons_succ, i64_w, i32_w]
   rfl
  refine one_ (i := 4) (N := some 18) #[true, true, true, true, true, true, true, false, false, true, false, false] rfl rfl (one_of HT_.out (by kernel_rfl)) (by decide) (fun K hK => ?_)
  refine goes_ Try.func65 (by kernel_rfl) rfl #[.string t236] (by rfl) rfl rfl ka ?_
  with_reducible refine (skiffref1_Crc.calls t236 t238 _ A5.out).mono ?_
  rintro e w10 ⟨rfl, hb⟩
  refine ⟨_, rfl, ?_⟩
  have n0_ := Aside0.mk (kL BK235.out hb)
  have n1_ := Aside0.mk (below_step (kb1 HB.out GE235.out) hb)
  clear BK235 HB; have BK235 := n0_; have HB := n1_; clear n0_ n1_
  (try clear hb)
  (try clear hb2)
  (try clear hk)
  (try clear hi)
  refine hK.out _ _ ⟨(blk_cell BK235.out 0).trans rfl, (blk_cell BK235.out 1).trans rfl, (blk_cell BK235.out 2).trans rfl, (blk_cell BK235.out 3).trans rfl⟩ (fun hHeld => ?_)
  clear hK K
  refine norm_ (a' := ?_) ?_ ?_
  rotate_left
  ·show Act.put _ (some 18) _ = _
   simp only [Act.put, List.setIfInBounds_toArray, List.set_cons_zero, List.set_cons_succ, i64_w, i32_w]
   rfl
  refine pure_ (i := 7) (N := some 21) (v := ?_) (a' := ?_) #[true, true, true, true, true, true, true, true, false, true, false, false] rfl rfl (any_of HT_.out (by kernel_rfl)) (fun _ _ _ h => h) (Or.inl ⟨by rfl, ?_⟩) ?_ ?_
  rotate_left
  ·intro w'
   go_simp
   with_reducible rfl
  rotate_left
  ·simp only [Act.put, List.setIfInBounds_toArray, List.set_cons_zero, List.set_cons_succ, i64_w, i32_w]
   rfl
  refine pure_ (i := 8) (N := some 22) (v := ?_) (a' := ?_) #[true, true, true, true, true, true, true, true, true, true, false, false] rfl rfl (any_of HT_.out (by kernel_rfl)) (fun _ _ _ h => h) (Or.inl ⟨by rfl, ?_⟩) ?_ ?_
  rotate_left
  ·intro w'
   go_simp
   with_reducible rfl
  rotate_left
  ·simp only [Act.put, List.setIfInBounds_toArray, List.set_cons_zero, List.set_cons_succ, i64_w, i32_w]
   rfl
  refine pure_ (i := 10) (N := some 4) (v := ?_) (a' := ?_) #[true, true, true, true, true, true, true, true, true, true, true, false] rfl rfl (any_of HT_.out (by kernel_rfl)) (fun _ _ _ h => h) (Or.inl ⟨by rfl, ?_⟩) ?_ ?_
  rotate_left
  ·intro w'
   go_simp
   with_reducible rfl
  rotate_left
  ·simp only [Act.put, List.setIfInBounds_toArray, List.set_cons_zero, List.set_cons_succ, i64_w, i32_w]
   rfl
  refine pure_ (i := 11) (N := some 5) (v := ?_) (a' := ?_) #[true, true, true, true, true, true, true, true, true, true, true, true] rfl rfl (any_of HT_.out (by kernel_rfl)) (fun _ _ _ h => h) (Or.inl ⟨by rfl, ?_⟩) ?_ ?_
  rotate_left
  ·intro w'
   go_simp
   with_reducible rfl
  rotate_left
  ·simp only [Act.put, List.setIfInBounds_toArray, List.set_cons_zero, List.set_cons_succ, i64_w, i32_w]
   rfl
  refine done_ (done_of HT_.out (by kernel_rfl)) ?_
  try go_wp2
  go_ret2
  exact ⟨by first | rfl | (simp [errW_none, errW_some] <;> rfl) | (simp [*, errW_none, errW_some] <;> rfl), kb1 HB.out GE235.out⟩
 ·rw [if_neg c4] at H
  have c4b0 : (t237 == 0) = false := beq_eq_false_iff_ne.mpr c4
  have c4b1 : (t237 != 0) = true := bne_iff_ne.mpr c4
  simp only [Option.some.injEq, Prod.mk.injEq] at H
  obtain ⟨rfl, rfl⟩ := H
  go_enter Try.func42, Try.ntmps42
  try go_wp2_with (first | ((with_reducible refine gate_dst (N := 3) rfl ?_); refine box_event ?hg (N := 3) ?hd (cs := #[.int .i64 a1_0, .int .i64 a1_1, .int .i64 a1_2, .int .i64 a1_3]) (t := 41) ?hr ?_; (case hd => rfl); (case hg => rfl); (case hr => first | (go_simp; done) | (go_simp; rfl)); intro gb235 hg w11 hbox hb; have n0_ := Aside0.mk (below_step (kb HB.out) hb); have n1_ := Aside0.mk (hbox); have n2_ := Aside0.mk ((kz hg (below_size (kb HB.out)) : w.heap.size ≤ gb235)); have n3_ := Aside0.mk ((kz hg (below_size (kb HB.out)) : w.heap.size ≤ gb235)); clear HB; have HB := n0_; have BK235 := n1_; have GW235 := n2_; have GE235 := n3_; clear n0_ n1_ n2_ n3_; clear hb hbox hg; obtain ⟨hcz12_0, hcz12_1, hcz12_2, hcz12_3⟩ := kc4 BK235.out; obtain ⟨hfz12_0, hfz12_1, hfz12_2, hfz12_3⟩ := kf4 BK235.out) | ((with_reducible refine gate_callee (f := 18) rfl ?_); refine goesL_ (some 11) rfl rfl Try.func18 (by kernel_rfl) rfl #[.string a0, .agg #[.int .i64 a1_0, .int .i64 a1_1, .int .i64 a1_2, .int .i64 a1_3]] rfl ka ?_; (with_reducible refine (skiffref1_ImageOf.calls a0 a1_0 a1_1 a1_2 a1_3 t236 t237 _ A3.out).mono ?_); rintro e w13 ⟨rfl, hb⟩; refine ⟨_, rfl, ?_⟩; have n0_ := Aside0.mk (kL BK235.out hb); have n1_ := Aside0.mk (below_step (kb1 HB.out GE235.out) hb); clear BK235; clear HB; have BK235 := n0_; have HB := n1_; clear n0_ n1_; (try clear hb); (try clear hb2); (try clear hk); (try clear hi)))
  have n0_ := Aside0.mk (blk_drew BK235.out)
  have n1_ := Aside0.mk (below_drew1 HB.out)
  clear BK235 HB; have BK235 := n0_; have HB := n1_; clear n0_ n1_
  refine start_ (n := 12) (S := fun w' => True) (ds := []) #[false, false, false, false, false, false, false, false, false, false, false, false] (by kernel_rfl) rfl rfl trivial (fun hHeld => ?_); refine with_tabW skiffref1_Good.tab2 skiffref1_Good.bits2 (fun HT_ HW_ => ?_)
  generalize w13.drew = w14 at BK235 HB hHeld ⊢
  refine pure_ (i := 0) (N := some 14) (v := ?_) (a' := ?_) #[true, false, false, false, false, false, false, false, false, false, false, false] rfl rfl (any_of HT_.out (by kernel_rfl)) (fun _ _ _ h => h) (Or.inl ⟨by rfl, ?_⟩) ?_ ?_
  rotate_left
  ·intro w'
   go_simp
   with_reducible rfl
  rotate_left
  ·simp only [Act.put, List.setIfInBounds_toArray, List.set_cons_zero, List.set_cons_succ, i64_w, i32_w]
   rfl
  refine pure_ (i := 1) (N := some 15) (v := ?_) (a' := ?_) #[true, true, false, false, false, false, false, false, false, false, false, false] rfl rfl (any_of HT_.out (by kernel_rfl)) (fun _ _ _ h => h) (Or.inl ⟨by rfl, ?_⟩) ?_ ?_
  rotate_left
  ·intro w'
   go_simp
   with_reducible rfl
  rotate_left
  ·simp only [Act.put, List.setIfInBounds_toArray, List.set_cons_zero, List.set_cons_succ, i64_w, i32_w]
   rfl
  refine pure_ (i := 2) (N := some 16) (v := ?_) (a' := ?_) #[true, true, true, false, false, false, false, false, false, false, false, false] rfl rfl (any_of HT_.out (by kernel_rfl)) (fun _ _ _ h => h) (Or.inl ⟨by rfl, ?_⟩) ?_ ?_
  rotate_left
  ·intro w'
   go_simp
   with_reducible rfl
  rotate_left
  ·simp only [Act.put, List.setIfInBounds_toArray, List.set_cons_zero, List.set_cons_succ, i64_w, i32_w]
   rfl
  refine pure_ (i := 3) (N := some 17) (v := undef) (a' := ?_) #[true, true, true, true, false, false, false, false, false, false, false, false] rfl rfl (any_of HT_.out (by kernel_rfl)) (fun _ _ _ h => h) (Or.inr ⟨by rfl, rfl⟩) ?_ ?_
  rotate_left
  ·simp only [Act.put, List.setIfInBounds_toArray, List.set_cons_zero, List.set_cons_succ, i64_w, i32_w]
   rfl
  refine pure_ (i := 4) (N := some 18) (v := undef) (a' := ?_) #[true, true, true, true, true, false, false, false, false, false, false, false] rfl rfl (any_of HT_.out (by kernel_rfl)) (fun _ _ _ h => h) (Or.inr ⟨by rfl, rfl⟩) ?_ ?_
  rotate_left
  ·simp only [Act.put, List.setIfInBounds_toArray, List.set_cons_zero, List.set_cons_succ, i64_w, i32_w]
   rfl
  refine pure_ (i := 5) (N := some 19) (v := undef) (a' := ?_) #[true, true, true, true, true, true, false, false, false, false, false, false] rfl rfl (any_of HT_.out (by kernel_rfl)) (fun _ _ _ h => h) (Or.inr ⟨by rfl, rfl⟩) ?_ ?_
  rotate_left
  ·simp only [Act.put, List.setIfInBounds_toArray, List.set_cons_zero, List.set_cons_succ, i64_w, i32_w]
   rfl
  refine pure_ (i := 6) (N := some 20) (v := undef) (a' := ?_) #[true, true, true, true, true, true, true, false, false, false, false, false] rfl rfl (any_of HT_.out (by kernel_rfl)) (fun _ _ _ h => h) (Or.inr ⟨by rfl, rfl⟩) ?_ ?_
  rotate_left
  ·simp only [Act.put, List.setIfInBounds_toArray, List.set_cons_zero, List.set_cons_succ, i64_w, i32_w]
   rfl
  refine pure_ (i := 7) (N := some 21) (v := undef) (a' := ?_) #[true, true, true, true, true, true, true, true, false, false, false, false] rfl rfl (any_of HT_.out (by kernel_rfl)) (fun _ _ _ h => h) (Or.inr ⟨by rfl, rfl⟩) ?_ ?_
  rotate_left
  ·simp only [Act.put, List.setIfInBounds_toArray, List.set_cons_zero, List.set_cons_succ, i64_w, i32_w]
   rfl
  refine pure_ (i := 8) (N := some 22) (v := ?_) (a' := ?_) #[true, true, true, true, true, true, true, true, true, false, false, false] rfl rfl (any_of HT_.out (by kernel_rfl)) (fun _ _ _ h => h) (Or.inl ⟨by rfl, ?_⟩) ?_ ?_
  rotate_left
  ·intro w'
   go_simp
   with_reducible rfl
  rotate_left
  ·simp only [Act.put, List.setIfInBounds_toArray, List.set_cons_zero, List.set_cons_succ, i64_w, i32_w]
   rfl
  refine pure_ (i := 9) (N := some 23) (v := ?_) (a' := ?_) #[true, true, true, true, true, true, true, true, true, true, false, false] rfl rfl (any_of HT_.out (by kernel_rfl)) (fun _ _ _ h => h) (Or.inl ⟨by rfl, ?_⟩) ?_ ?_
  rotate_left
  ·intro w'
   go_simp
   with_reducible rfl
  rotate_left
  ·simp only [Act.put, List.setIfInBounds_toArray, List.set_cons_zero, List.set_cons_succ, i64_w, i32_w]
   rfl
  refine pure_ (i := 10) (N := some 4) (v := ?_) (a' := ?_) #[true, true, true, true, true, true, true, true, true, true, true, false] rfl rfl (any_of HT_.out (by kernel_rfl)) (fun _ _ _ h => h) (Or.inl ⟨by rfl, ?_⟩) ?_ ?_
  rotate_left
  ·intro w'
   go_simp
   with_reducible rfl
  rotate_left
  ·simp only [Act.put, List.setIfInBounds_toArray, List.set_cons_zero, List.set_cons_succ, i64_w, i32_w]
   rfl
  refine pure_ (i := 11) (N := some 5) (v := ?_) (a' := ?_) #[true, true, true, true, true, true, true, true, true, true, true, true] rfl rfl (any_of HT_.out (by kernel_rfl)) (fun _ _ _ h => h) (Or.inl ⟨by rfl, ?_⟩) ?_ ?_
  rotate_left
  ·intro w'
   go_simp
   with_reducible rfl
  rotate_left
  ·simp only [Act.put, List.setIfInBounds_toArray, List.set_cons_zero, List.set_cons_succ, i64_w, i32_w]
   rfl
  refine done_ (done_of HT_.out (by kernel_rfl)) ?_
  try go_wp2
  go_ret2
  exact ⟨by first | rfl | (simp [errW_none, errW_some] <;> rfl) | (simp [*, errW_none, errW_some] <;> rfl), kb1 HB.out GE235.out⟩

/-! ### skiffref1_Active: function 17 -/
def skiffref1_Active.l0 : Nat → ByteArray → List (S43) → Int → Int → Option (Int × Int × Int × Int × Int × Int)
 | 0, _, _, _, _ => none
 | k + 1, x0, x4, x6, x7 => if x7 < (x4.length : Int) then (if 0 ≤ x7 then ((skiffref1_Good.f x0 ((rd_T43 x4 x7).f1.f0) ((rd_T43 x4 x7).f1.f1) ((rd_T43 x4 x7).f1.f2) ((rd_T43 x4 x7).f1.f3)).bind fun bt245 => (if bt245.1 = true then (if x6 < 0 then (skiffref1_Active.l0 k x0 x4 x7 (wrap64 (x7 + 1))) else (if 0 ≤ x6 then (if x6 < (x4.length : Int) then (if ((rd_T43 x4 x7).f1.f0) ≥ ((rd_T43 x4 x6).f1.f0) then (skiffref1_Active.l0 k x0 x4 x7 (wrap64 (x7 + 1))) else (skiffref1_Active.l0 k x0 x4 x6 (wrap64 (x7 + 1)))) else (none)) else (none))) else (skiffref1_Active.l0 k x0 x4 x6 (wrap64 (x7 + 1))))) else (none)) else (if x6 < 0 then (some (0, 0, 0, 0, 0, 701)) else (if 0 ≤ x6 then (if x6 < (x4.length : Int) then (some ((rd_T43 x4 x6).f0, (rd_T43 x4 x6).f1.f0, (rd_T43 x4 x6).f1.f1, (rd_T43 x4 x6).f1.f2, (rd_T43 x4 x6).f1.f3, 0)) else (none)) else (none)))
def skiffref1_Active.f (k : Nat) (a0 : ByteArray) : Option (Int × Int × Int × Int × Int × Int) := (skiffref1_Scan.f k a0).bind fun bt240 => (if bt240.2 = 0 then (skiffref1_Active.l0 k a0 bt240.1 (-1) 0) else (some (0, 0, 0, 0, 0, 700)))
theorem skiffref1_Active.mono_l : ∀ k, (∀ y0 y1 y2 y3, LeO (skiffref1_Active.l0 k y0 y1 y2 y3) (skiffref1_Active.l0 (k + 1) y0 y1 y2 y3))
 | 0 => fun _ _ _ _ r h => by simp [skiffref1_Active.l0] at h
 | k + 1 => by
  have ih0 := skiffref1_Active.mono_l k
  ·intro y0 y1 y2 y3
   unfold skiffref1_Active.l0
   repeat' first
   | (with_reducible exact ih0 _ _ _ _)
   | (with_reducible exact skiffref1_Scan.mono _ _)
   | (with_reducible exact LeO.refl _)
   | (with_reducible exact LeO.none _)
   | (with_reducible refine LeO.ite ?_ ?_)
   | (with_reducible refine LeO.bind ?_ (fun _ => ?_))
   | exact ih0 _ _ _ _
   | exact skiffref1_Scan.mono _ _
   | exact LeO.none _
   | refine LeO.ite ?_ ?_
   | refine LeO.bind ?_ (fun _ => ?_)
theorem skiffref1_Active.mono : ∀ a0 k, LeO (skiffref1_Active.f k a0) (skiffref1_Active.f (k + 1) a0) := by
 intro a0 k
 have ih0 := skiffref1_Active.mono_l k
 unfold skiffref1_Active.f
 repeat' first
   | (with_reducible exact ih0 _ _ _ _)
   | (with_reducible exact skiffref1_Scan.mono _ _)
   | (with_reducible exact LeO.refl _)
   | (with_reducible exact LeO.none _)
   | (with_reducible refine LeO.ite ?_ ?_)
   | (with_reducible refine LeO.bind ?_ (fun _ => ?_))
   | exact ih0 _ _ _ _
   | exact skiffref1_Scan.mono _ _
   | exact LeO.none _
   | refine LeO.ite ?_ ?_
   | refine LeO.bind ?_ (fun _ => ?_)
set_option maxHeartbeats 8000000 in
set_option maxRecDepth 100000 in
theorem skiffref1_Active.calls (k : Nat) (a0 : ByteArray) (r1 : Int) (r2 : Int) (r3 : Int) (r4 : Int) (r5 : Int) (r6 : Int) (w : World) (h : skiffref1_Active.f k a0 = some (r1, r2, r3, r4, r5, r6)) :
  Calls Try.prog 17 #[.string a0] w fun e w' => e = .returned (.tuple #[.agg #[.int .i64 r1, .int .i64 r2, .int .i64 r3, .int .i64 r4, .int .i64 r5], .int .i64 r6]) ∧ Below w.heap.size w w' := by
 have hu43 := Try.underlying43
 have hu41 := Try.underlying41
 have HB := Aside0.mk (Below.refl w.heap.size w)
 have H : ((skiffref1_Scan.f k a0).bind fun bt240 => (if bt240.2 = 0 then (skiffref1_Active.l0 k a0 bt240.1 (-1) 0) else (some (0, 0, 0, 0, 0, 700)))) = some (r1, r2, r3, r4, r5, r6) := h
 clear h
 replace H := Option.bind_eq_some_iff.mp H
 obtain ⟨⟨t240, t241⟩, A20, H⟩ := H
 replace H : (if t241 = 0 then (skiffref1_Active.l0 k a0 t240 (-1) 0) else (some (0, 0, 0, 0, 0, 700))) = some (r1, r2, r3, r4, r5, r6) := H
 have A2 := Aside0.mk A20
 clear A20
 by_cases c3 : t241 = 0
 case neg =>
  rw [if_neg c3] at H
  have c3b0 : (t241 == 0) = false := beq_eq_false_iff_ne.mpr c3
  have c3b1 : (t241 != 0) = true := bne_iff_ne.mpr c3
  simp only [Option.some.injEq, Prod.mk.injEq] at H
  obtain ⟨rfl, rfl, rfl, rfl, rfl, rfl⟩ := H
  go_enter Try.func17, Try.ntmps17
  go_wp2_with (first | ((with_reducible refine gate_dst (N := 2) rfl ?_); refine box_event ?hg (N := 2) ?hd (cs := #[.int .i64 0, .int .i64 0, .int .i64 0, .int .i64 0, .int .i64 0]) (t := 43) ?hr ?_; (case hd => rfl); (case hg => rfl); (case hr => first | (go_simp; done) | (go_simp; rfl)); intro gb239 hg w29 hbox hb; have n0_ := Aside0.mk (below_step (kb HB.out) hb); have n1_ := Aside0.mk (hbox); have n2_ := Aside0.mk ((kz hg (below_size (kb HB.out)) : w.heap.size ≤ gb239)); have n3_ := Aside0.mk ((kz hg (below_size (kb HB.out)) : w.heap.size ≤ gb239)); clear HB; have HB := n0_; have BK239 := n1_; have GW239 := n2_; have GE239 := n3_; clear n0_ n1_ n2_ n3_; clear hb hbox hg) | (go_at_call 41; (with_reducible refine (skiffref1_Scan.calls k a0 t240 t241 _ A2.out).mono ?_); rintro e w30 ⟨v242, rfl, ho0, hb⟩; have n0_ := Aside0.mk (Kd.R_lower (Kd.R_newB ho0 (g := gb239) (o := .cells #[.int .i64 0, .int .i64 0, .int .i64 0, .int .i64 0, .int .i64 0] 43 (0, 0)) (kB BK239.out)) (below_size (kb1 HB.out GE239.out))); have n1_ := Aside0.mk (kL BK239.out hb); have n2_ := Aside0.mk (below_step (kb1 HB.out GE239.out) hb); clear BK239; clear HB; have HO243 := n0_; have BK239 := n1_; have HB := n2_; clear n0_ n1_ n2_; (try clear hb); (try clear hb2); (try clear hk); (try clear hi); (try clear ho0); obtain ⟨hcz31_0, hcz31_1, hcz31_2, hcz31_3, hcz31_4⟩ := kc5 BK239.out; obtain ⟨hfz31_0, hfz31_1, hfz31_2, hfz31_3, hfz31_4⟩ := kf5 BK239.out))
  repeat (go_quiet (first | ((with_reducible refine gate_dst (N := 2) rfl ?_); refine box_event ?hg (N := 2) ?hd (cs := #[.int .i64 0, .int .i64 0, .int .i64 0, .int .i64 0, .int .i64 0]) (t := 43) ?hr ?_; (case hd => rfl); (case hg => rfl); (case hr => first | (go_simp; done) | (go_simp; rfl)); intro gb239 hg w29 hbox hb; have n0_ := Aside0.mk (below_step (kb HB.out) hb); have n1_ := Aside0.mk (hbox); have n2_ := Aside0.mk ((kz hg (below_size (kb HB.out)) : w.heap.size ≤ gb239)); have n3_ := Aside0.mk ((kz hg (below_size (kb HB.out)) : w.heap.size ≤ gb239)); clear HB; have HB := n0_; have BK239 := n1_; have GW239 := n2_; have GE239 := n3_; clear n0_ n1_ n2_ n3_; clear hb hbox hg) | (go_at_call 41; (with_reducible refine (skiffref1_Scan.calls k a0 t240 t241 _ A2.out).mono ?_); rintro e w30 ⟨v242, rfl, ho0, hb⟩; have n0_ := Aside0.mk (Kd.R_lower (Kd.R_newB ho0 (g := gb239) (o := .cells #[.int .i64 0, .int .i64 0, .int .i64 0, .int .i64 0, .int .i64 0] 43 (0, 0)) (kB BK239.out)) (below_size (kb1 HB.out GE239.out))); have n1_ := Aside0.mk (kL BK239.out hb); have n2_ := Aside0.mk (below_step (kb1 HB.out GE239.out) hb); clear BK239; clear HB; have HO243 := n0_; have BK239 := n1_; have HB := n2_; clear n0_ n1_ n2_; (try clear hb); (try clear hb2); (try clear hk); (try clear hi); (try clear ho0); obtain ⟨hcz31_0, hcz31_1, hcz31_2, hcz31_3, hcz31_4⟩ := kc5 BK239.out; obtain ⟨hfz31_0, hfz31_1, hfz31_2, hfz31_3, hfz31_4⟩ := kf5 BK239.out)); try go_wp2_with (first | ((with_reducible refine gate_dst (N := 2) rfl ?_); refine box_event ?hg (N := 2) ?hd (cs := #[.int .i64 0, .int .i64 0, .int .i64 0, .int .i64 0, .int .i64 0]) (t := 43) ?hr ?_; (case hd => rfl); (case hg => rfl); (case hr => first | (go_simp; done) | (go_simp; rfl)); intro gb239 hg w29 hbox hb; have n0_ := Aside0.mk (below_step (kb HB.out) hb); have n1_ := Aside0.mk (hbox); have n2_ := Aside0.mk ((kz hg (below_size (kb HB.out)) : w.heap.size ≤ gb239)); have n3_ := Aside0.mk ((kz hg (below_size (kb HB.out)) : w.heap.size ≤ gb239)); clear HB; have HB := n0_; have BK239 := n1_; have GW239 := n2_; have GE239 := n3_; clear n0_ n1_ n2_ n3_; clear hb hbox hg) | (go_at_call 41; (with_reducible refine (skiffref1_Scan.calls k a0 t240 t241 _ A2.out).mono ?_); rintro e w30 ⟨v242, rfl, ho0, hb⟩; have n0_ := Aside0.mk (Kd.R_lower (Kd.R_newB ho0 (g := gb239) (o := .cells #[.int .i64 0, .int .i64 0, .int .i64 0, .int .i64 0, .int .i64 0] 43 (0, 0)) (kB BK239.out)) (below_size (kb1 HB.out GE239.out))); have n1_ := Aside0.mk (kL BK239.out hb); have n2_ := Aside0.mk (below_step (kb1 HB.out GE239.out) hb); clear BK239; clear HB; have HO243 := n0_; have BK239 := n1_; have HB := n2_; clear n0_ n1_ n2_; (try clear hb); (try clear hb2); (try clear hk); (try clear hi); (try clear ho0); obtain ⟨hcz31_0, hcz31_1, hcz31_2, hcz31_3, hcz31_4⟩ := kc5 BK239.out; obtain ⟨hfz31_0, hfz31_1, hfz31_2, hfz31_3, hfz31_4⟩ := kf5 BK239.out)))
  refine bodyPost_ret (results_ct rfl _ _ gb239 43 #[.int .i64 0, .int .i64 0, .int .i64 0, .int .i64 0, .int .i64 0] (0, 0) _ rfl (kP5 BK239.out) Try.underlying43 rfl (by kernel_rfl)) rfl ?_
  exact ⟨by first | rfl | (simp [errW_none, errW_some] <;> rfl) | (simp [*, errW_none, errW_some] <;> rfl), kb1 HB.out GE239.out⟩
 rw [if_pos c3] at H
 have c3b0 : (t241 == 0) = true := beq_iff_eq.mpr c3
 have c3b1 : (t241 != 0) = false := bne_eq_false_iff_eq.mpr c3
 clear c3
 have H' := Aside0.mk H
 clear H
 go_enter Try.func17, Try.ntmps17
 go_wp2_with (first | ((with_reducible refine gate_dst (N := 2) rfl ?_); refine box_event ?hg (N := 2) ?hd (cs := #[.int .i64 0, .int .i64 0, .int .i64 0, .int .i64 0, .int .i64 0]) (t := 43) ?hr ?_; (case hd => rfl); (case hg => rfl); (case hr => first | (go_simp; done) | (go_simp; rfl)); intro gb239 hg w4 hbox hb; have n0_ := Aside0.mk (below_step (kb HB.out) hb); have n1_ := Aside0.mk (hbox); have n2_ := Aside0.mk ((kz hg (below_size (kb HB.out)) : w.heap.size ≤ gb239)); have n3_ := Aside0.mk ((kz hg (below_size (kb HB.out)) : w.heap.size ≤ gb239)); clear HB; have HB := n0_; have BK239 := n1_; have GW239 := n2_; have GE239 := n3_; clear n0_ n1_ n2_ n3_; clear hb hbox hg) | (go_at_call 41; (with_reducible refine (skiffref1_Scan.calls k a0 t240 t241 _ A2.out).mono ?_); rintro e w5 ⟨v242, rfl, ho0, hb⟩; have n0_ := Aside0.mk (Kd.R_lower (Kd.R_newB ho0 (g := gb239) (o := .cells #[.int .i64 0, .int .i64 0, .int .i64 0, .int .i64 0, .int .i64 0] 43 (0, 0)) (kB BK239.out)) (below_size (kb1 HB.out GE239.out))); have n1_ := Aside0.mk (kL BK239.out hb); have n2_ := Aside0.mk (below_step (kb1 HB.out GE239.out) hb); clear BK239; clear HB; have HO243 := n0_; have BK239 := n1_; have HB := n2_; clear n0_ n1_ n2_; (try clear hb); (try clear hb2); (try clear hk); (try clear hi); (try clear ho0)))
 repeat (go_quiet (first | ((with_reducible refine gate_dst (N := 2) rfl ?_); refine box_event ?hg (N := 2) ?hd (cs := #[.int .i64 0, .int .i64 0, .int .i64 0, .int .i64 0, .int .i64 0]) (t := 43) ?hr ?_; (case hd => rfl); (case hg => rfl); (case hr => first | (go_simp; done) | (go_simp; rfl)); intro gb239 hg w4 hbox hb; have n0_ := Aside0.mk (below_step (kb HB.out) hb); have n1_ := Aside0.mk (hbox); have n2_ := Aside0.mk ((kz hg (below_size (kb HB.out)) : w.heap.size ≤ gb239)); have n3_ := Aside0.mk ((kz hg (below_size (kb HB.out)) : w.heap.size ≤ gb239)); clear HB; have HB := n0_; have BK239 := n1_; have GW239 := n2_; have GE239 := n3_; clear n0_ n1_ n2_ n3_; clear hb hbox hg) | (go_at_call 41; (with_reducible refine (skiffref1_Scan.calls k a0 t240 t241 _ A2.out).mono ?_); rintro e w5 ⟨v242, rfl, ho0, hb⟩; have n0_ := Aside0.mk (Kd.R_lower (Kd.R_newB ho0 (g := gb239) (o := .cells #[.int .i64 0, .int .i64 0, .int .i64 0, .int .i64 0, .int .i64 0] 43 (0, 0)) (kB BK239.out)) (below_size (kb1 HB.out GE239.out))); have n1_ := Aside0.mk (kL BK239.out hb); have n2_ := Aside0.mk (below_step (kb1 HB.out GE239.out) hb); clear BK239; clear HB; have HO243 := n0_; have BK239 := n1_; have HB := n2_; clear n0_ n1_ n2_; (try clear hb); (try clear hb2); (try clear hk); (try clear hi); (try clear ho0))); try go_wp2_with (first | ((with_reducible refine gate_dst (N := 2) rfl ?_); refine box_event ?hg (N := 2) ?hd (cs := #[.int .i64 0, .int .i64 0, .int .i64 0, .int .i64 0, .int .i64 0]) (t := 43) ?hr ?_; (case hd => rfl); (case hg => rfl); (case hr => first | (go_simp; done) | (go_simp; rfl)); intro gb239 hg w4 hbox hb; have n0_ := Aside0.mk (below_step (kb HB.out) hb); have n1_ := Aside0.mk (hbox); have n2_ := Aside0.mk ((kz hg (below_size (kb HB.out)) : w.heap.size ≤ gb239)); have n3_ := Aside0.mk ((kz hg (below_size (kb HB.out)) : w.heap.size ≤ gb239)); clear HB; have HB := n0_; have BK239 := n1_; have GW239 := n2_; have GE239 := n3_; clear n0_ n1_ n2_ n3_; clear hb hbox hg) | (go_at_call 41; (with_reducible refine (skiffref1_Scan.calls k a0 t240 t241 _ A2.out).mono ?_); rintro e w5 ⟨v242, rfl, ho0, hb⟩; have n0_ := Aside0.mk (Kd.R_lower (Kd.R_newB ho0 (g := gb239) (o := .cells #[.int .i64 0, .int .i64 0, .int .i64 0, .int .i64 0, .int .i64 0] 43 (0, 0)) (kB BK239.out)) (below_size (kb1 HB.out GE239.out))); have n1_ := Aside0.mk (kL BK239.out hb); have n2_ := Aside0.mk (below_step (kb1 HB.out GE239.out) hb); clear BK239; clear HB; have HO243 := n0_; have BK239 := n1_; have HB := n2_; clear n0_ n1_ n2_; (try clear hb); (try clear hb2); (try clear hk); (try clear hi); (try clear ho0))))
 go_loopg [6, 7] k (fun kq v6 v7 w' => ∃ (x6_1 : Int) (x7_1 : Int), v6 = .int .i64 x6_1 ∧ v7 = .int .i64 x7_1 ∧ Aside0 (skiffref1_Active.l0 kq a0 t240 x6_1 x7_1 = some (r1, r2, r3, r4, r5, r6)) ∧ Aside0 (kq ≤ k) ∧ Aside0 (Kd.R k43 43 w' w.heap.size (fun k_ => k_ ≠ gb239) v242 t240) ∧ Aside0 (w'.heap[gb239]? = some (.cells #[.int .i64 0, .int .i64 0, .int .i64 0, .int .i64 0, .int .i64 0] 43 (0, 0))) ∧ Aside0 (Below w.heap.size w w'))
 case atStart => exact ⟨((-1)), (0), (by first | rfl | (simp; done) | (simp [*]; done)), (by first | rfl | (simp; done) | (simp [*]; done)), H', ⟨Nat.le_refl _⟩, ⟨by (with_reducible repeat (first | apply Kd.R_alloc | apply Kd.R_drewN | apply Kd.R_drew)); exact Kd.R_mono HO243.out (fun _ hk => hk.2)⟩, ⟨kB BK239.out⟩, ⟨kb1 HB.out GE239.out⟩⟩
 case round =>
  clear H'
  try clear c1; try clear p2; try clear c3; try clear c3b0; try clear c3b1
  obtain ⟨x6_1, x7_1, rfl, rfl, HA, HK1, HO_4, BK239, HB⟩ := hrel
  cases gk with
  | zero => exact absurd HA.out (by simp [skiffref1_Active.l0])
  | succ k1 =>
   have H := HA.out
   clear HA
   simp only [skiffref1_Active.l0] at H
   by_cases c6 : x7_1 < (t240.length : Int)
   ·rw [if_pos c6] at H
    have c6b0 : decide (x7_1 < (t240.length : Int)) = true := decide_eq_true c6
    clear c6
    by_cases c7 : 0 ≤ x7_1
    case neg =>
     rw [if_neg c7] at H
     exact absurd H (by simp)
    rw [if_pos c7] at H
    have c7b0 : decide (0 ≤ x7_1) = true := decide_eq_true c7
    clear c7
    replace H := Option.bind_eq_some_iff.mp H
    obtain ⟨⟨t245, t246⟩, A80, H⟩ := H
    replace H : (if t245 = true then (if x6_1 < 0 then (skiffref1_Active.l0 k1 a0 t240 x7_1 (wrap64 (x7_1 + 1))) else (if 0 ≤ x6_1 then (if x6_1 < (t240.length : Int) then (if ((rd_T43 t240 x7_1).f1.f0) ≥ ((rd_T43 t240 x6_1).f1.f0) then (skiffref1_Active.l0 k1 a0 t240 x7_1 (wrap64 (x7_1 + 1))) else (skiffref1_Active.l0 k1 a0 t240 x6_1 (wrap64 (x7_1 + 1)))) else (none)) else (none))) else (skiffref1_Active.l0 k1 a0 t240 x6_1 (wrap64 (x7_1 + 1)))) = some (r1, r2, r3, r4, r5, r6) := H
    have A8 := Aside0.mk A80
    clear A80
    by_cases c9 : t245 = true
    ·subst c9
     have H1 : (if x6_1 < 0 then (skiffref1_Active.l0 k1 a0 t240 x7_1 (wrap64 (x7_1 + 1))) else (if 0 ≤ x6_1 then (if x6_1 < (t240.length : Int) then (if ((rd_T43 t240 x7_1).f1.f0) ≥ ((rd_T43 t240 x6_1).f1.f0) then (skiffref1_Active.l0 k1 a0 t240 x7_1 (wrap64 (x7_1 + 1))) else (skiffref1_Active.l0 k1 a0 t240 x6_1 (wrap64 (x7_1 + 1)))) else (none)) else (none))) = some (r1, r2, r3, r4, r5, r6) := by rw [if_pos rfl] at H; exact H
     clear H; have H := H1; clear H1
     by_cases c10 : x6_1 < 0
     ·rw [if_pos c10] at H
      have c10b0 : decide (x6_1 < 0) = true := decide_eq_true c10
      clear c10
      have H' := Aside0.mk H
      clear H
      obtain ⟨Ao11, co11, eo11⟩ := Kd.R_slice HO_4.out
      subst eo11
      have p244 : 0 ≤ (x7_1 : Int) := of_decide_eq_true (by first | (with_reducible assumption) | assumption)
      have q244 : x7_1 < (t240.length : Int) := of_decide_eq_true (by first | (with_reducible assumption) | assumption)
      obtain ⟨ad244, e244, hx244_0, hx244_1, hx244_2, hx244_3, hx244_4⟩ := at_T43 (Kd.R_reads' HO_4.out).2.2 x7_1 p244 q244
      cases e244
      replace p244 := eq_true p244
      replace q244 := eq_true q244
      go_wp2_with (first | (go_at_call 42; (with_reducible refine (skiffref1_Good.calls a0 ((rd_T43 t240 x7_1).f1.f0) ((rd_T43 t240 x7_1).f1.f1) ((rd_T43 t240 x7_1).f1.f2) ((rd_T43 t240 x7_1).f1.f3) true t246 _ A8.out).mono ?_); rintro e w12 ⟨rfl, hb⟩; have n0_ := Aside0.mk (Kd.R_below (kR HO_4.out) hb); have n1_ := Aside0.mk (kL BK239.out hb); have n2_ := Aside0.mk (below_step (kb1 HB.out GE239.out) hb); clear HO_4; clear BK239; clear HB; have HO_4 := n0_; have BK239 := n1_; have HB := n2_; clear n0_ n1_ n2_; (try clear hb); (try clear hb2); (try clear hk); (try clear hi)))
      repeat (go_quiet (first | (go_at_call 42; (with_reducible refine (skiffref1_Good.calls a0 ((rd_T43 t240 x7_1).f1.f0) ((rd_T43 t240 x7_1).f1.f1) ((rd_T43 t240 x7_1).f1.f2) ((rd_T43 t240 x7_1).f1.f3) true t246 _ A8.out).mono ?_); rintro e w12 ⟨rfl, hb⟩; have n0_ := Aside0.mk (Kd.R_below (kR HO_4.out) hb); have n1_ := Aside0.mk (kL BK239.out hb); have n2_ := Aside0.mk (below_step (kb1 HB.out GE239.out) hb); clear HO_4; clear BK239; clear HB; have HO_4 := n0_; have BK239 := n1_; have HB := n2_; clear n0_ n1_ n2_; (try clear hb); (try clear hb2); (try clear hk); (try clear hi))); try go_wp2_with (first | (go_at_call 42; (with_reducible refine (skiffref1_Good.calls a0 ((rd_T43 t240 x7_1).f1.f0) ((rd_T43 t240 x7_1).f1.f1) ((rd_T43 t240 x7_1).f1.f2) ((rd_T43 t240 x7_1).f1.f3) true t246 _ A8.out).mono ?_); rintro e w12 ⟨rfl, hb⟩; have n0_ := Aside0.mk (Kd.R_below (kR HO_4.out) hb); have n1_ := Aside0.mk (kL BK239.out hb); have n2_ := Aside0.mk (below_step (kb1 HB.out GE239.out) hb); clear HO_4; clear BK239; clear HB; have HO_4 := n0_; have BK239 := n1_; have HB := n2_; clear n0_ n1_ n2_; (try clear hb); (try clear hb2); (try clear hk); (try clear hi))))
      go_roundg k1
      case measure => have := HK1.out; omega
      case rel => exact ⟨(x7_1), (wrap64 (x7_1 + 1)), (by first | rfl | (simp; done) | (simp [*]; done)), (by first | rfl | (simp; done) | (simp [*]; done)), H', ⟨by have := HK1.out; omega⟩, ⟨kR HO_4.out⟩, ⟨kB BK239.out⟩, ⟨kb1 HB.out GE239.out⟩⟩
     ·rw [if_neg c10] at H
      have c10b0 : decide (x6_1 < 0) = false := decide_eq_false c10
      clear c10
      by_cases c13 : 0 ≤ x6_1
      case neg =>
       rw [if_neg c13] at H
       exact absurd H (by simp)
      rw [if_pos c13] at H
      have c13b0 : decide (0 ≤ x6_1) = true := decide_eq_true c13
      clear c13
      by_cases c14 : x6_1 < (t240.length : Int)
      case neg =>
       rw [if_neg c14] at H
       exact absurd H (by simp)
      rw [if_pos c14] at H
      have c14b0 : decide (x6_1 < (t240.length : Int)) = true := decide_eq_true c14
      clear c14
      by_cases c15 : ((rd_T43 t240 x7_1).f1.f0) ≥ ((rd_T43 t240 x6_1).f1.f0)
      ·rw [if_pos c15] at H
       have c15b0 : decide (((rd_T43 t240 x6_1).f1.f0) ≤ ((rd_T43 t240 x7_1).f1.f0)) = true := decide_eq_true c15
       clear c15
       have H' := Aside0.mk H
       clear H
       obtain ⟨Ao16, co16, eo16⟩ := Kd.R_slice HO_4.out
       subst eo16
       have p244 : 0 ≤ (x7_1 : Int) := of_decide_eq_true (by first | (with_reducible assumption) | assumption)
       have q244 : x7_1 < (t240.length : Int) := of_decide_eq_true (by first | (with_reducible assumption) | assumption)
       obtain ⟨ad244, e244, hx244_0, hx244_1, hx244_2, hx244_3, hx244_4⟩ := at_T43 (Kd.R_reads' HO_4.out).2.2 x7_1 p244 q244
       cases e244
       replace p244 := eq_true p244
       replace q244 := eq_true q244
       go_wp2_with (first | (go_at_call 42; (with_reducible refine (skiffref1_Good.calls a0 ((rd_T43 t240 x7_1).f1.f0) ((rd_T43 t240 x7_1).f1.f1) ((rd_T43 t240 x7_1).f1.f2) ((rd_T43 t240 x7_1).f1.f3) true t246 _ A8.out).mono ?_); rintro e w17 ⟨rfl, hb⟩; have n0_ := Aside0.mk (Kd.R_below (kR HO_4.out) hb); have n1_ := Aside0.mk (kL BK239.out hb); have n2_ := Aside0.mk (below_step (kb1 HB.out GE239.out) hb); clear HO_4; clear BK239; clear HB; have HO_4 := n0_; have BK239 := n1_; have HB := n2_; clear n0_ n1_ n2_; (try clear hb); (try clear hb2); (try clear hk); (try clear hi); have p247 : 0 ≤ (x7_1 : Int) := of_decide_eq_true (by first | (with_reducible assumption) | assumption); have q247 : x7_1 < (t240.length : Int) := of_decide_eq_true (by first | (with_reducible assumption) | assumption); obtain ⟨ad247, e247, hx247_0, hx247_1, hx247_2, hx247_3, hx247_4⟩ := at_T43 (Kd.R_reads' HO_4.out).2.2 x7_1 p247 q247; obtain rfl : ad244 = ad247 := (by injection e247); replace p247 := eq_true p247; replace q247 := eq_true q247; have p248 : 0 ≤ (x6_1 : Int) := of_decide_eq_true (by first | (with_reducible assumption) | assumption); have q248 : x6_1 < (t240.length : Int) := of_decide_eq_true (by first | (with_reducible assumption) | assumption); obtain ⟨ad248, e248, hx248_0, hx248_1, hx248_2, hx248_3, hx248_4⟩ := at_T43 (Kd.R_reads' HO_4.out).2.2 x6_1 p248 q248; obtain rfl : ad244 = ad248 := (by injection e248); replace p248 := eq_true p248; replace q248 := eq_true q248))
       repeat (go_quiet (first | (go_at_call 42; (with_reducible refine (skiffref1_Good.calls a0 ((rd_T43 t240 x7_1).f1.f0) ((rd_T43 t240 x7_1).f1.f1) ((rd_T43 t240 x7_1).f1.f2) ((rd_T43 t240 x7_1).f1.f3) true t246 _ A8.out).mono ?_); rintro e w17 ⟨rfl, hb⟩; have n0_ := Aside0.mk (Kd.R_below (kR HO_4.out) hb); have n1_ := Aside0.mk (kL BK239.out hb); have n2_ := Aside0.mk (below_step (kb1 HB.out GE239.out) hb); clear HO_4; clear BK239; clear HB; have HO_4 := n0_; have BK239 := n1_; have HB := n2_; clear n0_ n1_ n2_; (try clear hb); (try clear hb2); (try clear hk); (try clear hi); have p247 : 0 ≤ (x7_1 : Int) := of_decide_eq_true (by first | (with_reducible assumption) | assumption); have q247 : x7_1 < (t240.length : Int) := of_decide_eq_true (by first | (with_reducible assumption) | assumption); obtain ⟨ad247, e247, hx247_0, hx247_1, hx247_2, hx247_3, hx247_4⟩ := at_T43 (Kd.R_reads' HO_4.out).2.2 x7_1 p247 q247; obtain rfl : ad244 = ad247 := (by injection e247); replace p247 := eq_true p247; replace q247 := eq_true q247; have p248 : 0 ≤ (x6_1 : Int) := of_decide_eq_true (by first | (with_reducible assumption) | assumption); have q248 : x6_1 < (t240.length : Int) := of_decide_eq_true (by first | (with_reducible assumption) | assumption); obtain ⟨ad248, e248, hx248_0, hx248_1, hx248_2, hx248_3, hx248_4⟩ := at_T43 (Kd.R_reads' HO_4.out).2.2 x6_1 p248 q248; obtain rfl : ad244 = ad248 := (by injection e248); replace p248 := eq_true p248; replace q248 := eq_true q248)); try go_wp2_with (first | (go_at_call 42; (with_reducible refine (skiffref1_Good.calls a0 ((rd_T43 t240 x7_1).f1.f0) ((rd_T43 t240 x7_1).f1.f1) ((rd_T43 t240 x7_1).f1.f2) ((rd_T43 t240 x7_1).f1.f3) true t246 _ A8.out).mono ?_); rintro e w17 ⟨rfl, hb⟩; have n0_ := Aside0.mk (Kd.R_below (kR HO_4.out) hb); have n1_ := Aside0.mk (kL BK239.out hb); have n2_ := Aside0.mk (below_step (kb1 HB.out GE239.out) hb); clear HO_4; clear BK239; clear HB; have HO_4 := n0_; have BK239 := n1_; have HB := n2_; clear n0_ n1_ n2_; (try clear hb); (try clear hb2); (try clear hk); (try clear hi); have p247 : 0 ≤ (x7_1 : Int) := of_decide_eq_true (by first | (with_reducible assumption) | assumption); have q247 : x7_1 < (t240.length : Int) := of_decide_eq_true (by first | (with_reducible assumption) | assumption); obtain ⟨ad247, e247, hx247_0, hx247_1, hx247_2, hx247_3, hx247_4⟩ := at_T43 (Kd.R_reads' HO_4.out).2.2 x7_1 p247 q247; obtain rfl : ad244 = ad247 := (by injection e247); replace p247 := eq_true p247; replace q247 := eq_true q247; have p248 : 0 ≤ (x6_1 : Int) := of_decide_eq_true (by first | (with_reducible assumption) | assumption); have q248 : x6_1 < (t240.length : Int) := of_decide_eq_true (by first | (with_reducible assumption) | assumption); obtain ⟨ad248, e248, hx248_0, hx248_1, hx248_2, hx248_3, hx248_4⟩ := at_T43 (Kd.R_reads' HO_4.out).2.2 x6_1 p248 q248; obtain rfl : ad244 = ad248 := (by injection e248); replace p248 := eq_true p248; replace q248 := eq_true q248)))
       go_roundg k1
       case measure => have := HK1.out; omega
       case rel => exact ⟨(x7_1), (wrap64 (x7_1 + 1)), (by first | rfl | (simp; done) | (simp [*]; done)), (by first | rfl | (simp; done) | (simp [*]; done)), H', ⟨by have := HK1.out; omega⟩, ⟨kR HO_4.out⟩, ⟨kB BK239.out⟩, ⟨kb1 HB.out GE239.out⟩⟩
      ·rw [if_neg c15] at H
       have c15b0 : decide (((rd_T43 t240 x6_1).f1.f0) ≤ ((rd_T43 t240 x7_1).f1.f0)) = false := decide_eq_false c15
       clear c15
       have H' := Aside0.mk H
       clear H
       obtain ⟨Ao18, co18, eo18⟩ := Kd.R_slice HO_4.out
       subst eo18
       have p244 : 0 ≤ (x7_1 : Int) := of_decide_eq_true (by first | (with_reducible assumption) | assumption)
       have q244 : x7_1 < (t240.length : Int) := of_decide_eq_true (by first | (with_reducible assumption) | assumption)
       obtain ⟨ad244, e244, hx244_0, hx244_1, hx244_2, hx244_3, hx244_4⟩ := at_T43 (Kd.R_reads' HO_4.out).2.2 x7_1 p244 q244
       cases e244
       replace p244 := eq_true p244
       replace q244 := eq_true q244
       go_wp2_with (first | (go_at_call 42; (with_reducible refine (skiffref1_Good.calls a0 ((rd_T43 t240 x7_1).f1.f0) ((rd_T43 t240 x7_1).f1.f1) ((rd_T43 t240 x7_1).f1.f2) ((rd_T43 t240 x7_1).f1.f3) true t246 _ A8.out).mono ?_); rintro e w19 ⟨rfl, hb⟩; have n0_ := Aside0.mk (Kd.R_below (kR HO_4.out) hb); have n1_ := Aside0.mk (kL BK239.out hb); have n2_ := Aside0.mk (below_step (kb1 HB.out GE239.out) hb); clear HO_4; clear BK239; clear HB; have HO_4 := n0_; have BK239 := n1_; have HB := n2_; clear n0_ n1_ n2_; (try clear hb); (try clear hb2); (try clear hk); (try clear hi); have p247 : 0 ≤ (x7_1 : Int) := of_decide_eq_true (by first | (with_reducible assumption) | assumption); have q247 : x7_1 < (t240.length : Int) := of_decide_eq_true (by first | (with_reducible assumption) | assumption); obtain ⟨ad247, e247, hx247_0, hx247_1, hx247_2, hx247_3, hx247_4⟩ := at_T43 (Kd.R_reads' HO_4.out).2.2 x7_1 p247 q247; obtain rfl : ad244 = ad247 := (by injection e247); replace p247 := eq_true p247; replace q247 := eq_true q247; have p248 : 0 ≤ (x6_1 : Int) := of_decide_eq_true (by first | (with_reducible assumption) | assumption); have q248 : x6_1 < (t240.length : Int) := of_decide_eq_true (by first | (with_reducible assumption) | assumption); obtain ⟨ad248, e248, hx248_0, hx248_1, hx248_2, hx248_3, hx248_4⟩ := at_T43 (Kd.R_reads' HO_4.out).2.2 x6_1 p248 q248; obtain rfl : ad244 = ad248 := (by injection e248); replace p248 := eq_true p248; replace q248 := eq_true q248))
       repeat (go_quiet (first | (go_at_call 42; (with_reducible refine (skiffref1_Good.calls a0 ((rd_T43 t240 x7_1).f1.f0) ((rd_T43 t240 x7_1).f1.f1) ((rd_T43 t240 x7_1).f1.f2) ((rd_T43 t240 x7_1).f1.f3) true t246 _ A8.out).mono ?_); rintro e w19 ⟨rfl, hb⟩; have n0_ := Aside0.mk (Kd.R_below (kR HO_4.out) hb); have n1_ := Aside0.mk (kL BK239.out hb); have n2_ := Aside0.mk (below_step (kb1 HB.out GE239.out) hb); clear HO_4; clear BK239; clear HB; have HO_4 := n0_; have BK239 := n1_; have HB := n2_; clear n0_ n1_ n2_; (try clear hb); (try clear hb2); (try clear hk); (try clear hi); have p247 : 0 ≤ (x7_1 : Int) := of_decide_eq_true (by first | (with_reducible assumption) | assumption); have q247 : x7_1 < (t240.length : Int) := of_decide_eq_true (by first | (with_reducible assumption) | assumption); obtain ⟨ad247, e247, hx247_0, hx247_1, hx247_2, hx247_3, hx247_4⟩ := at_T43 (Kd.R_reads' HO_4.out).2.2 x7_1 p247 q247; obtain rfl : ad244 = ad247 := (by injection e247); replace p247 := eq_true p247; replace q247 := eq_true q247; have p248 : 0 ≤ (x6_1 : Int) := of_decide_eq_true (by first | (with_reducible assumption) | assumption); have q248 : x6_1 < (t240.length : Int) := of_decide_eq_true (by first | (with_reducible assumption) | assumption); obtain ⟨ad248, e248, hx248_0, hx248_1, hx248_2, hx248_3, hx248_4⟩ := at_T43 (Kd.R_reads' HO_4.out).2.2 x6_1 p248 q248; obtain rfl : ad244 = ad248 := (by injection e248); replace p248 := eq_true p248; replace q248 := eq_true q248)); try go_wp2_with (first | (go_at_call 42; (with_reducible refine (skiffref1_Good.calls a0 ((rd_T43 t240 x7_1).f1.f0) ((rd_T43 t240 x7_1).f1.f1) ((rd_T43 t240 x7_1).f1.f2) ((rd_T43 t240 x7_1).f1.f3) true t246 _ A8.out).mono ?_); rintro e w19 ⟨rfl, hb⟩; have n0_ := Aside0.mk (Kd.R_below (kR HO_4.out) hb); have n1_ := Aside0.mk (kL BK239.out hb); have n2_ := Aside0.mk (below_step (kb1 HB.out GE239.out) hb); clear HO_4; clear BK239; clear HB; have HO_4 := n0_; have BK239 := n1_; have HB := n2_; clear n0_ n1_ n2_; (try clear hb); (try clear hb2); (try clear hk); (try clear hi); have p247 : 0 ≤ (x7_1 : Int) := of_decide_eq_true (by first | (with_reducible assumption) | assumption); have q247 : x7_1 < (t240.length : Int) := of_decide_eq_true (by first | (with_reducible assumption) | assumption); obtain ⟨ad247, e247, hx247_0, hx247_1, hx247_2, hx247_3, hx247_4⟩ := at_T43 (Kd.R_reads' HO_4.out).2.2 x7_1 p247 q247; obtain rfl : ad244 = ad247 := (by injection e247); replace p247 := eq_true p247; replace q247 := eq_true q247; have p248 : 0 ≤ (x6_1 : Int) := of_decide_eq_true (by first | (with_reducible assumption) | assumption); have q248 : x6_1 < (t240.length : Int) := of_decide_eq_true (by first | (with_reducible assumption) | assumption); obtain ⟨ad248, e248, hx248_0, hx248_1, hx248_2, hx248_3, hx248_4⟩ := at_T43 (Kd.R_reads' HO_4.out).2.2 x6_1 p248 q248; obtain rfl : ad244 = ad248 := (by injection e248); replace p248 := eq_true p248; replace q248 := eq_true q248)))
       go_roundg k1
       case measure => have := HK1.out; omega
       case rel => exact ⟨(x6_1), (wrap64 (x7_1 + 1)), (by first | rfl | (simp; done) | (simp [*]; done)), (by first | rfl | (simp; done) | (simp [*]; done)), H', ⟨by have := HK1.out; omega⟩, ⟨kR HO_4.out⟩, ⟨kB BK239.out⟩, ⟨kb1 HB.out GE239.out⟩⟩
    ·replace c9 := Bool.eq_false_iff.mpr c9
     subst c9
     have H1 : (skiffref1_Active.l0 k1 a0 t240 x6_1 (wrap64 (x7_1 + 1))) = some (r1, r2, r3, r4, r5, r6) := by rw [if_neg (show ¬ (false = true) by decide)] at H; exact H
     clear H; have H := H1; clear H1
     have H' := Aside0.mk H
     clear H
     obtain ⟨Ao20, co20, eo20⟩ := Kd.R_slice HO_4.out
     subst eo20
     have p244 : 0 ≤ (x7_1 : Int) := of_decide_eq_true (by first | (with_reducible assumption) | assumption)
     have q244 : x7_1 < (t240.length : Int) := of_decide_eq_true (by first | (with_reducible assumption) | assumption)
     obtain ⟨ad244, e244, hx244_0, hx244_1, hx244_2, hx244_3, hx244_4⟩ := at_T43 (Kd.R_reads' HO_4.out).2.2 x7_1 p244 q244
     cases e244
     replace p244 := eq_true p244
     replace q244 := eq_true q244
     go_wp2_with (first | (go_at_call 42; (with_reducible refine (skiffref1_Good.calls a0 ((rd_T43 t240 x7_1).f1.f0) ((rd_T43 t240 x7_1).f1.f1) ((rd_T43 t240 x7_1).f1.f2) ((rd_T43 t240 x7_1).f1.f3) false t246 _ A8.out).mono ?_); rintro e w21 ⟨rfl, hb⟩; have n0_ := Aside0.mk (Kd.R_below (kR HO_4.out) hb); have n1_ := Aside0.mk (kL BK239.out hb); have n2_ := Aside0.mk (below_step (kb1 HB.out GE239.out) hb); clear HO_4; clear BK239; clear HB; have HO_4 := n0_; have BK239 := n1_; have HB := n2_; clear n0_ n1_ n2_; (try clear hb); (try clear hb2); (try clear hk); (try clear hi)))
     repeat (go_quiet (first | (go_at_call 42; (with_reducible refine (skiffref1_Good.calls a0 ((rd_T43 t240 x7_1).f1.f0) ((rd_T43 t240 x7_1).f1.f1) ((rd_T43 t240 x7_1).f1.f2) ((rd_T43 t240 x7_1).f1.f3) false t246 _ A8.out).mono ?_); rintro e w21 ⟨rfl, hb⟩; have n0_ := Aside0.mk (Kd.R_below (kR HO_4.out) hb); have n1_ := Aside0.mk (kL BK239.out hb); have n2_ := Aside0.mk (below_step (kb1 HB.out GE239.out) hb); clear HO_4; clear BK239; clear HB; have HO_4 := n0_; have BK239 := n1_; have HB := n2_; clear n0_ n1_ n2_; (try clear hb); (try clear hb2); (try clear hk); (try clear hi))); try go_wp2_with (first | (go_at_call 42; (with_reducible refine (skiffref1_Good.calls a0 ((rd_T43 t240 x7_1).f1.f0) ((rd_T43 t240 x7_1).f1.f1) ((rd_T43 t240 x7_1).f1.f2) ((rd_T43 t240 x7_1).f1.f3) false t246 _ A8.out).mono ?_); rintro e w21 ⟨rfl, hb⟩; have n0_ := Aside0.mk (Kd.R_below (kR HO_4.out) hb); have n1_ := Aside0.mk (kL BK239.out hb); have n2_ := Aside0.mk (below_step (kb1 HB.out GE239.out) hb); clear HO_4; clear BK239; clear HB; have HO_4 := n0_; have BK239 := n1_; have HB := n2_; clear n0_ n1_ n2_; (try clear hb); (try clear hb2); (try clear hk); (try clear hi))))
     go_roundg k1
     case measure => have := HK1.out; omega
     case rel => exact ⟨(x6_1), (wrap64 (x7_1 + 1)), (by first | rfl | (simp; done) | (simp [*]; done)), (by first | rfl | (simp; done) | (simp [*]; done)), H', ⟨by have := HK1.out; omega⟩, ⟨kR HO_4.out⟩, ⟨kB BK239.out⟩, ⟨kb1 HB.out GE239.out⟩⟩
   ·rw [if_neg c6] at H
    have c6b0 : decide (x7_1 < (t240.length : Int)) = false := decide_eq_false c6
    clear c6
    by_cases c22 : x6_1 < 0
    ·rw [if_pos c22] at H
     have c22b0 : decide (x6_1 < 0) = true := decide_eq_true c22
     clear c22
     simp only [Option.some.injEq, Prod.mk.injEq] at H
     obtain ⟨rfl, rfl, rfl, rfl, rfl, rfl⟩ := H
     obtain ⟨Ao23, co23, eo23⟩ := Kd.R_slice HO_4.out
     subst eo23
     obtain ⟨hcz24_0, hcz24_1, hcz24_2, hcz24_3, hcz24_4⟩ := kc5 BK239.out
     obtain ⟨hfz24_0, hfz24_1, hfz24_2, hfz24_3, hfz24_4⟩ := kf5 BK239.out
     go_wp2
     repeat (go_quiet (fail); try go_wp2)
     refine bodyPost_ret (results_ct rfl _ _ gb239 43 #[.int .i64 0, .int .i64 0, .int .i64 0, .int .i64 0, .int .i64 0] (0, 0) _ rfl (kP5 BK239.out) Try.underlying43 rfl (by kernel_rfl)) rfl ?_
     exact ⟨by first | rfl | (simp [errW_none, errW_some] <;> rfl) | (simp [*, errW_none, errW_some] <;> rfl), kb1 HB.out GE239.out⟩
    ·rw [if_neg c22] at H
     have c22b0 : decide (x6_1 < 0) = false := decide_eq_false c22
     clear c22
     by_cases c25 : 0 ≤ x6_1
     case neg =>
      rw [if_neg c25] at H
      exact absurd H (by simp)
     rw [if_pos c25] at H
     have c25b0 : decide (0 ≤ x6_1) = true := decide_eq_true c25
     clear c25
     by_cases c26 : x6_1 < (t240.length : Int)
     case neg =>
      rw [if_neg c26] at H
      exact absurd H (by simp)
     rw [if_pos c26] at H
     have c26b0 : decide (x6_1 < (t240.length : Int)) = true := decide_eq_true c26
     clear c26
     simp only [Option.some.injEq, Prod.mk.injEq] at H
     obtain ⟨rfl, rfl, rfl, rfl, rfl, rfl⟩ := H
     obtain ⟨Ao27, co27, eo27⟩ := Kd.R_slice HO_4.out
     subst eo27
     have p249 : 0 ≤ (x6_1 : Int) := of_decide_eq_true (by first | (with_reducible assumption) | assumption)
     have q249 : x6_1 < (t240.length : Int) := of_decide_eq_true (by first | (with_reducible assumption) | assumption)
     obtain ⟨ad249, e249, hx249_0, hx249_1, hx249_2, hx249_3, hx249_4⟩ := at_T43 (Kd.R_reads' HO_4.out).2.2 x6_1 p249 q249
     cases e249
     replace p249 := eq_true p249
     replace q249 := eq_true q249
     obtain ⟨hcz28_0, hcz28_1, hcz28_2, hcz28_3, hcz28_4⟩ := kc5 BK239.out
     obtain ⟨hfz28_0, hfz28_1, hfz28_2, hfz28_3, hfz28_4⟩ := kf5 BK239.out
     go_wp2
     repeat (go_quiet (fail); try go_wp2)
     refine bodyPost_ret (results_ct rfl _ _ gb239 43 #[.int .i64 ((rd_T43 t240 x6_1).f0), .int .i64 ((rd_T43 t240 x6_1).f1.f0), .int .i64 ((rd_T43 t240 x6_1).f1.f1), .int .i64 ((rd_T43 t240 x6_1).f1.f2), .int .i64 ((rd_T43 t240 x6_1).f1.f3)] (0, 0) _ rfl (kP5 BK239.out) Try.underlying43 rfl (by kernel_rfl)) rfl ?_
     exact ⟨by first | rfl | (simp [errW_none, errW_some] <;> rfl) | (simp [*, errW_none, errW_some] <;> rfl), kb1 HB.out GE239.out⟩

/-! ### skiffref16_NewDevice: function 19 -/
def skiffref16_NewDevice.f  : Option (Int × Int × Int × Int × Int × (List (S68))) := some (0, 0, 0, 0, 0, ([] : List (S68)))
set_option maxHeartbeats 8000000 in
set_option maxRecDepth 100000 in
theorem skiffref16_NewDevice.calls  (r1 : Int) (r2 : Int) (r3 : Int) (r4 : Int) (r5 : Int) (r6 : List (S68)) (w : World) (h : skiffref16_NewDevice.f  = some (r1, r2, r3, r4, r5, r6)) :
  Calls Try.prog 19 #[] w fun e w' => ∃ v5_ : Value, e = .returned (.agg #[.int .i64 r1, .int .i64 r2, .int .i64 r3, .int .i64 r4, .int .i64 r5, v5_]) ∧ Kd.R k68 68 w' w.heap.size (fun _ => True) v5_ r6 ∧ Below w.heap.size w w' := by
 have hu24 := Try.underlying24
 have HB := Aside0.mk (Below.refl w.heap.size w)
 have H : (some (0, 0, 0, 0, 0, ([] : List (S68)))) = some (r1, r2, r3, r4, r5, r6) := h
 clear h
 simp only [Option.some.injEq, Prod.mk.injEq] at H
 obtain ⟨rfl, rfl, rfl, rfl, rfl, rfl⟩ := H
 go_enter Try.func19, Try.ntmps19
 go_wp2_with (first | ((with_reducible refine gate_dst (N := 0) rfl ?_); refine box_event ?hg (N := 0) ?hd (cs := #[.int .i64 0, .int .i64 0, .int .i64 0, .int .i64 0, .int .i64 0, .slice none 0 0]) (t := 24) ?hr ?_; (case hd => rfl); (case hg => rfl); (case hr => first | (go_simp; done) | (go_simp; rfl)); intro gb250 hg w1 hbox hb; have n0_ := Aside0.mk (below_step (kb HB.out) hb); have n1_ := Aside0.mk (hbox); have n2_ := Aside0.mk ((kz hg (below_size (kb HB.out)) : w.heap.size ≤ gb250)); have n3_ := Aside0.mk ((kz hg (below_size (kb HB.out)) : w.heap.size ≤ gb250)); clear HB; have HB := n0_; have BK250 := n1_; have GW250 := n2_; have GE250 := n3_; clear n0_ n1_ n2_ n3_; clear hb hbox hg; obtain ⟨hcz2_0, hcz2_1, hcz2_2, hcz2_3, hcz2_4, hcz2_5⟩ := kc6 BK250.out; obtain ⟨hfz2_0, hfz2_1, hfz2_2, hfz2_3, hfz2_4, hfz2_5⟩ := kf6 BK250.out))
 refine bodyPost_ret (results_cell_row rfl _ _ gb250 24 #[.int .i64 0, .int .i64 0, .int .i64 0, .int .i64 0, .int .i64 0, .slice none 0 0] (0, 0) _ rfl (kP6 BK250.out) Try.underlying24 rfl (by kernel_rfl)) rfl ?_
 exact ⟨_, by first | rfl | (simp [errW_none, errW_some] <;> rfl) | (simp [*, errW_none, errW_some] <;> rfl), by first | exact Kd.R_nil _ _ _ _ _ | exact Kd.N_nil _ _ _ _ _ | exact Kd.V_nil _ _ _ _ _ | exact Kd.Q_nil _ _ _ _ _ | exact Kd.S_nil _ _ _ _ _, kb1 HB.out GE250.out⟩

/-! ### skiffref16_upTo: function 31 -/
def skiffref16_upTo.f (a0 : Int) (a1 : Int) (a2 : Int) : Option (Bool) := if a0 ≥ a1 then (some (decide (a0 ≤ a2))) else (some false)

/-! ### skiffref1_wordAt: function 89 -/
def skiffref1_wordAt.f (a0 : Int) : Option (Bool) := (skiffref1_upTo.f a0 0 764).bind fun t251 => (if t251 = true then (some ((Int.tmod a0 4) == 0)) else (some false))
set_option maxHeartbeats 8000000 in
set_option maxRecDepth 100000 in
theorem skiffref1_wordAt.calls (a0 : Int) (r : Bool) (w : World) (h : skiffref1_wordAt.f a0 = some r) :
  Calls Try.prog 89 #[.int .i64 a0] w fun e w' => e = .returned (.bool r) ∧ Drawn0 w w' := by
 have H : ((skiffref1_upTo.f a0 0 764).bind fun t251 => (if t251 = true then (some ((Int.tmod a0 4) == 0)) else (some false))) = some r := h
 clear h
 replace H := Option.bind_eq_some_iff.mp H
 obtain ⟨t251, A20, H⟩ := H
 replace H : (if t251 = true then (some ((Int.tmod a0 4) == 0)) else (some false)) = some r := H
 have A2 := Aside0.mk A20
 clear A20
 by_cases c3 : t251 = true
 case neg =>
  replace c3 := Bool.eq_false_iff.mpr c3
  subst c3
  have H1 : (some false) = some r := by rw [if_neg (show ¬ (false = true) by decide)] at H; exact H
  clear H; have H := H1; clear H1
  obtain rfl := Option.some.inj H
  go_enter Try.func89, Try.ntmps89
  go_wp2_with (first | ((with_reducible refine gate_callee (f := 45) rfl ?_); refine goesL_ (some 4) rfl rfl Try.func45 (by kernel_rfl) rfl #[.int .i64 a0, .int .i64 0, .int .i64 764] rfl ka ?_; (with_reducible refine (skiffref1_upTo.calls a0 0 764 false _ A2.out).mono ?_); rintro e w' ⟨rfl, ⟨nd, rfl⟩⟩; refine ⟨_, rfl, ?_⟩))
  go_ret
  exact ⟨by first | rfl | (simp; done) | (simp [*]; done), by repeat (first | exact Drawn0.refl _ | apply Drawn0.step)⟩
 subst c3
 have H1 : (some ((Int.tmod a0 4) == 0)) = some r := by rw [if_pos rfl] at H; exact H
 clear H; have H := H1; clear H1
 obtain rfl := Option.some.inj H
 go_enter Try.func89, Try.ntmps89
 go_wp2_with (first | ((with_reducible refine gate_callee (f := 45) rfl ?_); refine goesL_ (some 4) rfl rfl Try.func45 (by kernel_rfl) rfl #[.int .i64 a0, .int .i64 0, .int .i64 764] rfl ka ?_; (with_reducible refine (skiffref1_upTo.calls a0 0 764 true _ A2.out).mono ?_); rintro e w' ⟨rfl, ⟨nd, rfl⟩⟩; refine ⟨_, rfl, ?_⟩))
 go_ret
 exact ⟨by first | rfl | (simp; done) | (simp [*]; done), by repeat (first | exact Drawn0.refl _ | apply Drawn0.step)⟩

end Go.Proofs.Ytmidohjfajbpmaa.P
end
section
set_option linter.unusedVariables false
set_option linter.unusedSimpArgs false
set_option maxHeartbeats 4000000
namespace Skiff
def baseOf (s : Int) : Int × Int := if within s 0 1 = true then (192 + 288 * s, 0) else (0, 600)
def imageMay (f : ByteArray) (r : Rec) : Bool := decide (f.size = 768) && recMay r
def image (f : ByteArray) (r : Rec) : ByteArray := f.extract (192 + 288 * r.slot.toNat) (192 + 288 * r.slot.toNat + r.size.toNat)
def imagePair (f : ByteArray) (r : Rec) : ByteArray × Int := if imageMay f r = true then (image f r, 0) else (⟨#[]⟩, 600)
def goodB (f : ByteArray) (r : Rec) : Bool := ((crcSum (bl (image f r)) : Nat) : Int) == r.sum
def goodPair (f : ByteArray) (r : Rec) : Bool × Int := if imageMay f r = true then (goodB f r, 0) else (false, 600)
theorem image_size {f : ByteArray} {r : Rec} (h : imageMay f r = true) : (image f r).size = r.size.toNat := by
  obtain ⟨h1, h2⟩ := Bool.and_eq_true_iff.1 h
  have h1 := of_decide_eq_true h1
  have h2 := recMay_iff.1 h2
  unfold image
  rw [ByteArray.size_extract, h1]
  omega
end Skiff
namespace Go.Proofs.Ytmidohjfajbpmaa
open Go.RowKit Skiff

theorem upTo_f (x a b : Int) : P.skiffref1_upTo.f x a b = some (within x a b) := by
  unfold P.skiffref1_upTo.f within
  by_cases h : a ≤ x
  · rw [if_pos h, decide_eq_true h]; rfl
  · rw [if_neg h, decide_eq_false h]; rfl
theorem in_f (x a b : Int) : P.entry_in.f x a b = some (within x a b) := by
  unfold P.entry_in.f within
  by_cases h : a ≤ x
  · rw [if_pos h, decide_eq_true h]; rfl
  · rw [if_neg h, decide_eq_false h]; rfl
theorem slot_f (x : Int) : P.entry_Slot.f x = some (within x 0 1) := by unfold P.entry_Slot.f; rw [in_f]; rfl
theorem may_f (f : ByteArray) : P.nor_May.f f = some (decide (f.size = 768)) := by
  unfold P.nor_May.f
  congr 1
  rw [Bool.eq_iff_iff]; simp; omega
theorem flashMay_f (f : ByteArray) : P.skiffref1_FlashMay.f f = some (decide (f.size = 768)) := by
  unfold P.skiffref1_FlashMay.f
  congr 1
  rw [Bool.eq_iff_iff]; simp; omega
theorem rbase_f (s : Int) : P.skiffref1_Base.f s = some (baseOf s) := by
  unfold P.skiffref1_Base.f baseOf
  rw [upTo_f]
  simp only [Option.bind_some]
  cases h : within s 0 1
  · rfl
  · have h := Skiff.within_iff.1 h
    simp only [if_true]
    congr 2
    simp only [wrap64]
    omega
theorem base_f (s : Int) : P.image_Base.f s = some (baseOf s) := by
  unfold P.image_Base.f P.image_Sector.f P.journal_Begin.f baseOf
  rw [slot_f]
  simp only [Option.bind_some]
  cases h : within s 0 1
  · rfl
  · have h := Skiff.within_iff.1 h
    simp only [if_true]
    congr 2
    simp only [wrap64]
    omega
theorem of_f (f : ByteArray) (r : Rec) : P.image_Of.f f r.seq r.slot r.size r.sum = some (imagePair f r) := by
  unfold P.image_Of.f P.entry_May.f imagePair imageMay
  rw [may_f, base_f]
  simp only [Option.bind_some]
  by_cases h1 : f.size = 768
  · rw [decide_eq_true h1]
    cases h2 : recMay r
    · rfl
    · have h3 := recMay_iff.1 h2
      have hb : baseOf r.slot = (192 + 288 * r.slot, 0) := by unfold baseOf; rw [if_pos (Skiff.within_iff.2 h3.2.1)]
      have hw : wrap64 (192 + 288 * r.slot + r.size) = 192 + 288 * r.slot + r.size := by simp only [wrap64]; omega
      simp only [if_true, hb, hw, Bool.and_self]
      rw [if_pos (by omega), if_pos (by omega), if_pos (by omega)]
      unfold image
      rw [show (192 + 288 * r.slot).toNat = 192 + 288 * r.slot.toNat by omega, show (192 + 288 * r.slot + r.size).toNat = 192 + 288 * r.slot.toNat + r.size.toNat by omega]
  · rw [decide_eq_false h1]; rfl
theorem rof_f (f : ByteArray) (r : Rec) : P.skiffref1_ImageOf.f f r.seq r.slot r.size r.sum = some (imagePair f r) := by
  unfold P.skiffref1_ImageOf.f P.skiffref1_RecordMay.f imagePair imageMay
  rw [flashMay_f, rbase_f]
  simp only [Option.bind_some]
  by_cases h1 : f.size = 768
  · rw [decide_eq_true h1]
    cases h2 : recMay r
    · rfl
    · have h3 := recMay_iff.1 h2
      have hb : baseOf r.slot = (192 + 288 * r.slot, 0) := by unfold baseOf; rw [if_pos (Skiff.within_iff.2 h3.2.1)]
      have hw : wrap64 (192 + 288 * r.slot + r.size) = 192 + 288 * r.slot + r.size := by simp only [wrap64]; omega
      simp only [if_true, hb, hw, Bool.and_self]
      rw [if_pos (by omega), if_pos (by omega), if_pos (by omega)]
      unfold image
      rw [show (192 + 288 * r.slot).toNat = 192 + 288 * r.slot.toNat by omega, show (192 + 288 * r.slot + r.size).toNat = 192 + 288 * r.slot.toNat + r.size.toNat by omega]
  · rw [decide_eq_false h1]; rfl
theorem good_f (f : ByteArray) (r : Rec) : P.image_Good.f f r.seq r.slot r.size r.sum = some (goodPair f r) := by
  unfold P.image_Good.f P.crc_Sum.f goodPair
  rw [of_f]
  simp only [Option.bind_some]
  unfold imagePair
  cases h : imageMay f r
  · rfl
  · simp only [if_true]
    unfold sums
    have hs := image_size h
    have hr := recMay_iff.1 (Bool.and_eq_true_iff.1 h).2
    rw [if_pos (by omega)]; rfl
theorem rgood_f (f : ByteArray) (r : Rec) : P.skiffref1_Good.f f r.seq r.slot r.size r.sum = some (goodPair f r) := by
  unfold P.skiffref1_Good.f P.skiffref1_Crc.f goodPair
  rw [rof_f]
  simp only [Option.bind_some]
  unfold imagePair
  cases h : imageMay f r
  · rfl
  · simp only [if_true]
    unfold sums
    have hs := image_size h
    have hr := recMay_iff.1 (Bool.and_eq_true_iff.1 h).2
    rw [if_pos (by omega)]; rfl
end Go.Proofs.Ytmidohjfajbpmaa
end
section
namespace Go.Proofs.Ytmidohjfajbpmaa.P
open Go.RowKit Go.Proofs.YtmidohjfajbpmaaW.PrintWords Go.Proofs.YtmidohjfajbpmaaW.PrintLast Go.Proofs.YtmidohjfajbpmaaW.PrintMore
attribute [local go_sem] max2_int min2_int max_two min_two max_three min_three max_four min_four   -- for this text's walks alone
set_option linter.unusedVariables false
set_option linter.unusedSimpArgs false

theorem eqA68 (d : Nat) (w : World) (x0 y0 : Bool) (x1 y1 : Int) (x2 y2 : ByteArray) :
  (Op.equalIn (d + 2) 68 (.agg #[.bool x0, .int .i64 x1, .string x2]) (.agg #[.bool y0, .int .i64 y1, .string y2])).run Try.prog w = .ok (x0 == y0 && (x1 == y1 && (x2.toList == y2.toList))) w := by
 refine eqA_of Try.underlying68 (by kernel_rfl) ?_
 refine eqf_cons (by rfl) (by go_simp; rfl) (by go_simp; rfl) (by go_simp) ?_
 refine eqf_cons (by rfl) (by go_simp; rfl) (by go_simp; rfl) (by go_simp) ?_
 exact eqf_last (by rfl) (by go_simp; rfl) (by go_simp; rfl) (by go_simp)
end Go.Proofs.Ytmidohjfajbpmaa.P
end
