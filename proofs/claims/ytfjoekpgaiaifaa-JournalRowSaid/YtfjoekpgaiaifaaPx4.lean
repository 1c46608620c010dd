-- written by wip/prt.py of this repo, by the kit's print, over contracts that are proved here by hand
import Derived.Test.YtfjoekpgaiaifaaPx0
import Derived.Test.YtfjoekpgaiaifaaPx2
import Derived.Test.YtfjoekpgaiaifaaPx3
namespace Go.Proofs.Ytfjoekpgaiaifaa.P
open Go.RowKit Go.Proofs.YtfjoekpgaiaifaaW.PrintWords Go.Proofs.YtfjoekpgaiaifaaW.PrintLast Go.Proofs.YtfjoekpgaiaifaaW.PrintMore
attribute [local go_sem] max2_int min2_int max_two min_two max_three min_three max_four min_four   -- for this text's walks alone
set_option linter.unusedVariables false
set_option linter.unusedSimpArgs false

/-! ### skifflaw5_Journals: function 3 -/
def skifflaw5_Journals.j0 : Nat → List (S44) → Bool → Option (Bool)
 | 0, _, _ => none
 | k + 1, x5, x64 => if x64 = true then (none) else ((skifflaw0_SpoilPlaces.f k x5).bind fun t280 => ((skifflaw5_awake.f k).bind fun t281 => (some t281)))
def skifflaw5_Journals.f (k : Nat) (a0 : ByteArray) (a1 : Int) : Option (Bool) := (journal_Scan.f k a0).bind fun bt263 => ((skiffref1_Scan.f k a0).bind fun bt267 => ((journal_Free.f k a0 a1).bind fun bt271 => ((skiffref1_FreePlace.f k a0 a1).bind fun bt274 => ((skifflaw0_SamePlaces.f k bt263.1 bt267.1).bind fun t277 => (if t277 = true then ((skifflaw0_Num.f bt263.2).bind fun t278 => (if t278 = bt267.2 then (if bt271.1 = bt274.1 then (if (bt271.2.1 != bt274.2.1) = true then (skifflaw5_Journals.j0 k bt263.1 true) else ((skifflaw0_Num.f bt271.2.2).bind fun t279 => (skifflaw5_Journals.j0 k bt263.1 (t279 != bt274.2.2)))) else (skifflaw5_Journals.j0 k bt263.1 true)) else (skifflaw5_Journals.j0 k bt263.1 true))) else (skifflaw5_Journals.j0 k bt263.1 true))))))
theorem skifflaw5_Journals.mono_l : ∀ k, (∀ y0 y1, LeO (skifflaw5_Journals.j0 k y0 y1) (skifflaw5_Journals.j0 (k + 1) y0 y1))
 | 0 => fun _ _ r h => by simp [skifflaw5_Journals.j0] at h
 | k + 1 => by
  have ih0 := skifflaw5_Journals.mono_l k
  ·intro y0 y1
   unfold skifflaw5_Journals.j0
   repeat' first
   | (with_reducible exact ih0 _ _)
   | (with_reducible exact journal_Free.mono _ _ _)
   | (with_reducible exact journal_Scan.mono _ _)
   | (with_reducible exact skifflaw0_SamePlaces.mono _ _ _)
   | (with_reducible exact skifflaw0_SpoilPlaces.mono _ _)
   | (with_reducible exact skifflaw5_awake.mono _)
   | (with_reducible exact skiffref1_FreePlace.mono _ _ _)
   | (with_reducible exact skiffref1_Scan.mono _ _)
   | (with_reducible exact LeO.refl _)
   | (with_reducible exact LeO.none _)
   | (with_reducible refine LeO.ite ?_ ?_)
   | (with_reducible refine LeO.bind ?_ (fun _ => ?_))
   | exact ih0 _ _
   | exact journal_Free.mono _ _ _
   | exact journal_Scan.mono _ _
   | exact skifflaw0_SamePlaces.mono _ _ _
   | exact skifflaw0_SpoilPlaces.mono _ _
   | exact skifflaw5_awake.mono _
   | exact skiffref1_FreePlace.mono _ _ _
   | exact skiffref1_Scan.mono _ _
   | exact LeO.none _
   | refine LeO.ite ?_ ?_
   | refine LeO.bind ?_ (fun _ => ?_)
theorem skifflaw5_Journals.mono : ∀ a0 a1 k, LeO (skifflaw5_Journals.f k a0 a1) (skifflaw5_Journals.f (k + 1) a0 a1) := by
 intro a0 a1 k
 have ih0 := skifflaw5_Journals.mono_l k
 unfold skifflaw5_Journals.f
 repeat' first
   | (with_reducible exact ih0 _ _)
   | (with_reducible exact journal_Free.mono _ _ _)
   | (with_reducible exact journal_Scan.mono _ _)
   | (with_reducible exact skifflaw0_SamePlaces.mono _ _ _)
   | (with_reducible exact skifflaw0_SpoilPlaces.mono _ _)
   | (with_reducible exact skifflaw5_awake.mono _)
   | (with_reducible exact skiffref1_FreePlace.mono _ _ _)
   | (with_reducible exact skiffref1_Scan.mono _ _)
   | (with_reducible exact LeO.refl _)
   | (with_reducible exact LeO.none _)
   | (with_reducible refine LeO.ite ?_ ?_)
   | (with_reducible refine LeO.bind ?_ (fun _ => ?_))
   | exact ih0 _ _
   | exact journal_Free.mono _ _ _
   | exact journal_Scan.mono _ _
   | exact skifflaw0_SamePlaces.mono _ _ _
   | exact skifflaw0_SpoilPlaces.mono _ _
   | exact skifflaw5_awake.mono _
   | exact skiffref1_FreePlace.mono _ _ _
   | exact skiffref1_Scan.mono _ _
   | exact LeO.none _
   | refine LeO.ite ?_ ?_
   | refine LeO.bind ?_ (fun _ => ?_)
set_option maxHeartbeats 8000000 in
set_option maxRecDepth 100000 in
theorem skifflaw5_Journals.calls (k : Nat) (a0 : ByteArray) (a1 : Int) (r : Bool) (w : World) (h : skifflaw5_Journals.f k a0 a1 = some r) :
  Calls Try.prog 3 #[.string a0, .int .i64 a1] w fun e w' => e = .returned (.bool r) ∧ Below w.heap.size w w' := by
 have HB := Aside0.mk (Below.refl w.heap.size w)
 have H : ((journal_Scan.f k a0).bind fun bt263 => ((skiffref1_Scan.f k a0).bind fun bt267 => ((journal_Free.f k a0 a1).bind fun bt271 => ((skiffref1_FreePlace.f k a0 a1).bind fun bt274 => ((skifflaw0_SamePlaces.f k bt263.1 bt267.1).bind fun t277 => (if t277 = true then ((skifflaw0_Num.f bt263.2).bind fun t278 => (if t278 = bt267.2 then (if bt271.1 = bt274.1 then (if (bt271.2.1 != bt274.2.1) = true then (skifflaw5_Journals.j0 k bt263.1 true) else ((skifflaw0_Num.f bt271.2.2).bind fun t279 => (skifflaw5_Journals.j0 k bt263.1 (t279 != bt274.2.2)))) else (skifflaw5_Journals.j0 k bt263.1 true)) else (skifflaw5_Journals.j0 k bt263.1 true))) else (skifflaw5_Journals.j0 k bt263.1 true))))))) = some r := h
 clear h
 replace H := Option.bind_eq_some_iff.mp H
 obtain ⟨⟨t263, t264⟩, A30, H⟩ := H
 replace H : ((skiffref1_Scan.f k a0).bind fun bt267 => ((journal_Free.f k a0 a1).bind fun bt271 => ((skiffref1_FreePlace.f k a0 a1).bind fun bt274 => ((skifflaw0_SamePlaces.f k t263 bt267.1).bind fun t277 => (if t277 = true then ((skifflaw0_Num.f t264).bind fun t278 => (if t278 = bt267.2 then (if bt271.1 = bt274.1 then (if (bt271.2.1 != bt274.2.1) = true then (skifflaw5_Journals.j0 k t263 true) else ((skifflaw0_Num.f bt271.2.2).bind fun t279 => (skifflaw5_Journals.j0 k t263 (t279 != bt274.2.2)))) else (skifflaw5_Journals.j0 k t263 true)) else (skifflaw5_Journals.j0 k t263 true))) else (skifflaw5_Journals.j0 k t263 true)))))) = some r := H
 have A3 := Aside0.mk A30
 clear A30
 replace H := Option.bind_eq_some_iff.mp H
 obtain ⟨⟨t267, t268⟩, A40, H⟩ := H
 replace H : ((journal_Free.f k a0 a1).bind fun bt271 => ((skiffref1_FreePlace.f k a0 a1).bind fun bt274 => ((skifflaw0_SamePlaces.f k t263 t267).bind fun t277 => (if t277 = true then ((skifflaw0_Num.f t264).bind fun t278 => (if t278 = t268 then (if bt271.1 = bt274.1 then (if (bt271.2.1 != bt274.2.1) = true then (skifflaw5_Journals.j0 k t263 true) else ((skifflaw0_Num.f bt271.2.2).bind fun t279 => (skifflaw5_Journals.j0 k t263 (t279 != bt274.2.2)))) else (skifflaw5_Journals.j0 k t263 true)) else (skifflaw5_Journals.j0 k t263 true))) else (skifflaw5_Journals.j0 k t263 true))))) = some r := H
 have A4 := Aside0.mk A40
 clear A40
 replace H := Option.bind_eq_some_iff.mp H
 obtain ⟨⟨t271, t272, t273⟩, A50, H⟩ := H
 replace H : ((skiffref1_FreePlace.f k a0 a1).bind fun bt274 => ((skifflaw0_SamePlaces.f k t263 t267).bind fun t277 => (if t277 = true then ((skifflaw0_Num.f t264).bind fun t278 => (if t278 = t268 then (if t271 = bt274.1 then (if (t272 != bt274.2.1) = true then (skifflaw5_Journals.j0 k t263 true) else ((skifflaw0_Num.f t273).bind fun t279 => (skifflaw5_Journals.j0 k t263 (t279 != bt274.2.2)))) else (skifflaw5_Journals.j0 k t263 true)) else (skifflaw5_Journals.j0 k t263 true))) else (skifflaw5_Journals.j0 k t263 true)))) = some r := H
 have A5 := Aside0.mk A50
 clear A50
 replace H := Option.bind_eq_some_iff.mp H
 obtain ⟨⟨t274, t275, t276⟩, A60, H⟩ := H
 replace H : ((skifflaw0_SamePlaces.f k t263 t267).bind fun t277 => (if t277 = true then ((skifflaw0_Num.f t264).bind fun t278 => (if t278 = t268 then (if t271 = t274 then (if (t272 != t275) = true then (skifflaw5_Journals.j0 k t263 true) else ((skifflaw0_Num.f t273).bind fun t279 => (skifflaw5_Journals.j0 k t263 (t279 != t276)))) else (skifflaw5_Journals.j0 k t263 true)) else (skifflaw5_Journals.j0 k t263 true))) else (skifflaw5_Journals.j0 k t263 true))) = some r := H
 have A6 := Aside0.mk A60
 clear A60
 have HC7 := Aside0.mk H
 clear H
 go_enter Try.func3, Try.ntmps3
 go_upto_region 5 with (first | ((with_reducible refine gate_callee (f := 8) rfl ?_); refine goesL_ (some 17) rfl rfl Try.func8 (by kernel_rfl) rfl #[.string a0] rfl (by (try simp only [List.map_toArray, List.map_cons, List.map_nil]); first | done | rfl | (simp only [List.length_drop, List.length_take]; rfl)) ?_; (with_reducible refine (journal_Scan.calls k a0 t263 t264 _ A3.out).mono ?_); rintro e w8 ⟨v265, rfl, ho0, hb⟩; refine ⟨_, rfl, ?_⟩; have n0_ := Aside0.mk (Kd.R_lower ho0 (below_size (by repeat (first | (with_reducible first | exact HB.out | apply below_alloc | apply pw_below_drewN | apply below_drew1) | exact HB.out)))); have n1_ := Aside0.mk (below_step (by repeat (first | (with_reducible first | exact HB.out | apply below_alloc | apply pw_below_drewN | apply below_drew1) | exact HB.out)) hb); clear HB; have HO266 := n0_; have HB := n1_; clear n0_ n1_; (try clear hb); (try clear hb2); (try clear hk); (try clear hi); (try clear ho0)) | ((with_reducible refine gate_callee (f := 9) rfl ?_); refine goesL_ (some 22) rfl rfl Try.func9 (by kernel_rfl) rfl #[.string a0] rfl (by (try simp only [List.map_toArray, List.map_cons, List.map_nil]); first | done | rfl | (simp only [List.length_drop, List.length_take]; rfl)) ?_; (with_reducible refine (skiffref1_Scan.calls k a0 t267 t268 _ A4.out).mono ?_); rintro e w9 ⟨v269, rfl, ho0, hb⟩; refine ⟨_, rfl, ?_⟩; have n0_ := Aside0.mk (Kd.R_elder' (by (with_reducible repeat (first | apply Kd.R_alloc | apply Kd.R_drewN | apply Kd.R_drew)); exact HO266.out) (Kd.R_base ho0) hb); have n1_ := Aside0.mk (Kd.R_lower (Kd.R_new' ho0 (Kd.R_lt (by (with_reducible repeat (first | apply Kd.R_alloc | apply Kd.R_drewN | apply Kd.R_drew)); exact HO266.out))) (below_size (by repeat (first | (with_reducible first | exact HB.out | apply below_alloc | apply pw_below_drewN | apply below_drew1) | exact HB.out)))); have n2_ := Aside0.mk (below_step (by repeat (first | (with_reducible first | exact HB.out | apply below_alloc | apply pw_below_drewN | apply below_drew1) | exact HB.out)) hb); clear HO266; clear HB; have HO266 := n0_; have HO270 := n1_; have HB := n2_; clear n0_ n1_ n2_; (try clear hb); (try clear hb2); (try clear hk); (try clear hi); (try clear ho0)) | ((with_reducible refine gate_callee (f := 10) rfl ?_); refine goesL_ (some 28) rfl rfl Try.func10 (by kernel_rfl) rfl #[.string a0, .int .i64 a1] rfl (by (try simp only [List.map_toArray, List.map_cons, List.map_nil]); first | done | rfl | (simp only [List.length_drop, List.length_take]; rfl)) ?_; (with_reducible refine (journal_Free.calls k a0 a1 t271 t272 t273 _ A5.out).mono ?_); rintro e w10 ⟨rfl, hb⟩; refine ⟨_, rfl, ?_⟩; have n0_ := Aside0.mk (Kd.R_below (by (with_reducible repeat (first | apply Kd.R_alloc | apply Kd.R_drewN | apply Kd.R_drew)); exact HO266.out) hb); have n1_ := Aside0.mk (Kd.R_below (by (with_reducible repeat (first | apply Kd.R_alloc | apply Kd.R_drewN | apply Kd.R_drew)); exact HO270.out) hb); have n2_ := Aside0.mk (below_step (by repeat (first | (with_reducible first | exact HB.out | apply below_alloc | apply pw_below_drewN | apply below_drew1) | exact HB.out)) hb); clear HO266; clear HO270; clear HB; have HO266 := n0_; have HO270 := n1_; have HB := n2_; clear n0_ n1_ n2_; (try clear hb); (try clear hb2); (try clear hk); (try clear hi)) | ((with_reducible refine gate_callee (f := 11) rfl ?_); refine goesL_ (some 35) rfl rfl Try.func11 (by kernel_rfl) rfl #[.string a0, .int .i64 a1] rfl (by (try simp only [List.map_toArray, List.map_cons, List.map_nil]); first | done | rfl | (simp only [List.length_drop, List.length_take]; rfl)) ?_; (with_reducible refine (skiffref1_FreePlace.calls k a0 a1 t274 t275 t276 _ A6.out).mono ?_); rintro e w11 ⟨rfl, hb⟩; refine ⟨_, rfl, ?_⟩; have n0_ := Aside0.mk (Kd.R_below (by (with_reducible repeat (first | apply Kd.R_alloc | apply Kd.R_drewN | apply Kd.R_drew)); exact HO266.out) hb); have n1_ := Aside0.mk (Kd.R_below (by (with_reducible repeat (first | apply Kd.R_alloc | apply Kd.R_drewN | apply Kd.R_drew)); exact HO270.out) hb); have n2_ := Aside0.mk (below_step (by repeat (first | (with_reducible first | exact HB.out | apply below_alloc | apply pw_below_drewN | apply below_drew1) | exact HB.out)) hb); clear HO266; clear HO270; clear HB; have HO266 := n0_; have HO270 := n1_; have HB := n2_; clear n0_ n1_ n2_; (try clear hb); (try clear hb2); (try clear hk); (try clear hi)))
 (try simp only [Act.put, List.setIfInBounds_toArray, List.set_cons_zero, List.set_cons_succ])
 go_cut [64] (fun v64 wc => ∃ (kq : Nat) (x64_6 : Bool), v64 = .bool x64_6 ∧ Aside0 (skifflaw5_Journals.j0 kq t263 x64_6 = some r) ∧ Aside0 (kq ≤ k) ∧ Aside0 (Kd.R k44 44 wc w.heap.size (fun _ => True) v265 t263) ∧ Aside0 (Below w.heap.size w wc))
 case first =>
  have H := HC7.out
  clear HC7
  replace H := Option.bind_eq_some_iff.mp H
  obtain ⟨t277, A120, H⟩ := H
  replace H : (if t277 = true then ((skifflaw0_Num.f t264).bind fun t278 => (if t278 = t268 then (if t271 = t274 then (if (t272 != t275) = true then (skifflaw5_Journals.j0 k t263 true) else ((skifflaw0_Num.f t273).bind fun t279 => (skifflaw5_Journals.j0 k t263 (t279 != t276)))) else (skifflaw5_Journals.j0 k t263 true)) else (skifflaw5_Journals.j0 k t263 true))) else (skifflaw5_Journals.j0 k t263 true)) = some r := H
  have A12 := Aside0.mk A120
  clear A120
  by_cases c13 : t277 = true
  ·subst c13
   have H1 : ((skifflaw0_Num.f t264).bind fun t278 => (if t278 = t268 then (if t271 = t274 then (if (t272 != t275) = true then (skifflaw5_Journals.j0 k t263 true) else ((skifflaw0_Num.f t273).bind fun t279 => (skifflaw5_Journals.j0 k t263 (t279 != t276)))) else (skifflaw5_Journals.j0 k t263 true)) else (skifflaw5_Journals.j0 k t263 true))) = some r := by rw [if_pos rfl] at H; exact H
   clear H
   have H := H1
   clear H1
   replace H := Option.bind_eq_some_iff.mp H
   obtain ⟨t278, A140, H⟩ := H
   replace H : (if t278 = t268 then (if t271 = t274 then (if (t272 != t275) = true then (skifflaw5_Journals.j0 k t263 true) else ((skifflaw0_Num.f t273).bind fun t279 => (skifflaw5_Journals.j0 k t263 (t279 != t276)))) else (skifflaw5_Journals.j0 k t263 true)) else (skifflaw5_Journals.j0 k t263 true)) = some r := H
   have A14 := Aside0.mk A140
   clear A140
   by_cases c15 : t278 = t268
   ·rw [if_pos c15] at H
    have c15b0 : (t278 == t268) = true := beq_iff_eq.mpr c15
    have c15b1 : (t278 != t268) = false := bne_eq_false_iff_eq.mpr c15
    clear c15
    (first | rw [c15b0] | (simp only [i64_w, i32_w]; rw [c15b0]) | skip)
    by_cases c16 : t271 = t274
    ·rw [if_pos c16] at H
     have c16b0 : (t271 == t274) = true := beq_iff_eq.mpr c16
     have c16b1 : (t271 != t274) = false := bne_eq_false_iff_eq.mpr c16
     clear c16
     by_cases c17 : (t272 != t275) = true
     ·rw [if_pos c17] at H
      have c17b0 : (t272 != t275) = true := c17
      (try (have c17b1 : decide (t272 = t275) = false := by simpa using c17))
      (try (have c17b2 : (t272 == t275) = false := by simpa using c17))
      (try (have c17b3 : ¬ (t272 = t275) := by simpa using c17))
      clear c17
      have H' := Aside0.mk H
      clear H
      obtain ⟨Ao18, co18, eo18⟩ := Kd.R_slice HO266.out
      subst eo18
      obtain ⟨Ao19, co19, eo19⟩ := Kd.R_slice HO270.out
      subst eo19
      go_wp2_with (first | ((with_reducible refine gate_callee (f := 12) rfl ?_); refine goesL_ (some 41) rfl rfl Try.func12 (by kernel_rfl) rfl #[.slice Ao18 t263.length co18, .slice Ao19 t267.length co19] rfl (by (try simp only [List.map_toArray, List.map_cons, List.map_nil]); first | done | rfl | (simp only [List.length_drop, List.length_take]; rfl)) ?_; (with_reducible refine (skifflaw0_SamePlaces.calls k _ _ t263 _ _ t267 true _ ?side1 ?side2 ?side3 ?side4 A12.out).mono ?_); (case side1 => repeat (first | exact (Kd.R_reads' HO266.out).2.2 | (with_reducible refine Kd.C_alloc ?_ _) | (with_reducible refine Kd.C_drewN ?_ _) | (with_reducible refine Kd.C_drew ?_))); (case side2 => exact (Kd.R_reads' HO266.out).2.1); (case side3 => repeat (first | exact (Kd.R_reads' HO270.out).2.2 | (with_reducible refine Kd.C_alloc ?_ _) | (with_reducible refine Kd.C_drewN ?_ _) | (with_reducible refine Kd.C_drew ?_))); (case side4 => exact (Kd.R_reads' HO270.out).2.1); rintro e w' ⟨rfl, ⟨nd, rfl⟩⟩; refine ⟨_, rfl, ?_⟩) | (go_at_call 13; (with_reducible refine (skifflaw0_Num.calls t264 t278 _ A14.out).mono ?_); rintro e w' ⟨rfl, ⟨nd, rfl⟩⟩))
      go_meet
      case rel => exact ⟨_, (true), (by first | rfl | (simp; done) | (simp [*]; done)), H', ⟨by first | omega | exact Nat.le_refl _⟩, ⟨by (with_reducible repeat (first | apply Kd.R_alloc | apply Kd.R_drewN | apply Kd.R_drew)); exact Kd.R_mono HO266.out (fun _ hk => trivial)⟩, ⟨by repeat (first | (with_reducible first | exact HB.out | apply below_alloc | apply pw_below_drewN | apply below_drew1) | exact HB.out)⟩⟩
     ·rw [if_neg c17] at H
      have c17b0 : (t272 != t275) = false := by simpa using c17
      (try (have c17b1 : decide (t272 = t275) = true := by simpa using c17))
      (try (have c17b2 : (t272 == t275) = true := by simpa using c17))
      clear c17
      replace H := Option.bind_eq_some_iff.mp H
      obtain ⟨t279, A200, H⟩ := H
      replace H : (skifflaw5_Journals.j0 k t263 (t279 != t276)) = some r := H
      have A20 := Aside0.mk A200
      clear A200
      have H' := Aside0.mk H
      clear H
      obtain ⟨Ao21, co21, eo21⟩ := Kd.R_slice HO266.out
      subst eo21
      obtain ⟨Ao22, co22, eo22⟩ := Kd.R_slice HO270.out
      subst eo22
      go_wp2_with (first | ((with_reducible refine gate_callee (f := 12) rfl ?_); refine goesL_ (some 41) rfl rfl Try.func12 (by kernel_rfl) rfl #[.slice Ao21 t263.length co21, .slice Ao22 t267.length co22] rfl (by (try simp only [List.map_toArray, List.map_cons, List.map_nil]); first | done | rfl | (simp only [List.length_drop, List.length_take]; rfl)) ?_; (with_reducible refine (skifflaw0_SamePlaces.calls k _ _ t263 _ _ t267 true _ ?side1 ?side2 ?side3 ?side4 A12.out).mono ?_); (case side1 => repeat (first | exact (Kd.R_reads' HO266.out).2.2 | (with_reducible refine Kd.C_alloc ?_ _) | (with_reducible refine Kd.C_drewN ?_ _) | (with_reducible refine Kd.C_drew ?_))); (case side2 => exact (Kd.R_reads' HO266.out).2.1); (case side3 => repeat (first | exact (Kd.R_reads' HO270.out).2.2 | (with_reducible refine Kd.C_alloc ?_ _) | (with_reducible refine Kd.C_drewN ?_ _) | (with_reducible refine Kd.C_drew ?_))); (case side4 => exact (Kd.R_reads' HO270.out).2.1); rintro e w' ⟨rfl, ⟨nd, rfl⟩⟩; refine ⟨_, rfl, ?_⟩) | (go_at_call 13; (with_reducible refine (skifflaw0_Num.calls t264 t278 _ A14.out).mono ?_); rintro e w' ⟨rfl, ⟨nd, rfl⟩⟩) | (go_at_call 13; (with_reducible refine (skifflaw0_Num.calls t273 t279 _ A20.out).mono ?_); rintro e w' ⟨rfl, ⟨nd, rfl⟩⟩))
      go_meet
      case rel => exact ⟨_, ((t279 != t276)), (by first | rfl | (simp; done) | (simp [*]; done)), H', ⟨by first | omega | exact Nat.le_refl _⟩, ⟨by (with_reducible repeat (first | apply Kd.R_alloc | apply Kd.R_drewN | apply Kd.R_drew)); exact Kd.R_mono HO266.out (fun _ hk => trivial)⟩, ⟨by repeat (first | (with_reducible first | exact HB.out | apply below_alloc | apply pw_below_drewN | apply below_drew1) | exact HB.out)⟩⟩
    ·rw [if_neg c16] at H
     have c16b0 : (t271 == t274) = false := beq_eq_false_iff_ne.mpr c16
     have c16b1 : (t271 != t274) = true := bne_iff_ne.mpr c16
     have H' := Aside0.mk H
     clear H
     obtain ⟨Ao23, co23, eo23⟩ := Kd.R_slice HO266.out
     subst eo23
     obtain ⟨Ao24, co24, eo24⟩ := Kd.R_slice HO270.out
     subst eo24
     go_wp2_with (first | ((with_reducible refine gate_callee (f := 12) rfl ?_); refine goesL_ (some 41) rfl rfl Try.func12 (by kernel_rfl) rfl #[.slice Ao23 t263.length co23, .slice Ao24 t267.length co24] rfl (by (try simp only [List.map_toArray, List.map_cons, List.map_nil]); first | done | rfl | (simp only [List.length_drop, List.length_take]; rfl)) ?_; (with_reducible refine (skifflaw0_SamePlaces.calls k _ _ t263 _ _ t267 true _ ?side1 ?side2 ?side3 ?side4 A12.out).mono ?_); (case side1 => repeat (first | exact (Kd.R_reads' HO266.out).2.2 | (with_reducible refine Kd.C_alloc ?_ _) | (with_reducible refine Kd.C_drewN ?_ _) | (with_reducible refine Kd.C_drew ?_))); (case side2 => exact (Kd.R_reads' HO266.out).2.1); (case side3 => repeat (first | exact (Kd.R_reads' HO270.out).2.2 | (with_reducible refine Kd.C_alloc ?_ _) | (with_reducible refine Kd.C_drewN ?_ _) | (with_reducible refine Kd.C_drew ?_))); (case side4 => exact (Kd.R_reads' HO270.out).2.1); rintro e w' ⟨rfl, ⟨nd, rfl⟩⟩; refine ⟨_, rfl, ?_⟩) | (go_at_call 13; (with_reducible refine (skifflaw0_Num.calls t264 t278 _ A14.out).mono ?_); rintro e w' ⟨rfl, ⟨nd, rfl⟩⟩))
     go_meet
     case rel => exact ⟨_, (true), (by first | rfl | (simp; done) | (simp [*]; done)), H', ⟨by first | omega | exact Nat.le_refl _⟩, ⟨by (with_reducible repeat (first | apply Kd.R_alloc | apply Kd.R_drewN | apply Kd.R_drew)); exact Kd.R_mono HO266.out (fun _ hk => trivial)⟩, ⟨by repeat (first | (with_reducible first | exact HB.out | apply below_alloc | apply pw_below_drewN | apply below_drew1) | exact HB.out)⟩⟩
   ·rw [if_neg c15] at H
    have c15b0 : (t278 == t268) = false := beq_eq_false_iff_ne.mpr c15
    have c15b1 : (t278 != t268) = true := bne_iff_ne.mpr c15
    (first | rw [c15b0] | (simp only [i64_w, i32_w]; rw [c15b0]) | skip)
    have H' := Aside0.mk H
    clear H
    obtain ⟨Ao25, co25, eo25⟩ := Kd.R_slice HO266.out
    subst eo25
    obtain ⟨Ao26, co26, eo26⟩ := Kd.R_slice HO270.out
    subst eo26
    go_wp2_with (first | ((with_reducible refine gate_callee (f := 12) rfl ?_); refine goesL_ (some 41) rfl rfl Try.func12 (by kernel_rfl) rfl #[.slice Ao25 t263.length co25, .slice Ao26 t267.length co26] rfl (by (try simp only [List.map_toArray, List.map_cons, List.map_nil]); first | done | rfl | (simp only [List.length_drop, List.length_take]; rfl)) ?_; (with_reducible refine (skifflaw0_SamePlaces.calls k _ _ t263 _ _ t267 true _ ?side1 ?side2 ?side3 ?side4 A12.out).mono ?_); (case side1 => repeat (first | exact (Kd.R_reads' HO266.out).2.2 | (with_reducible refine Kd.C_alloc ?_ _) | (with_reducible refine Kd.C_drewN ?_ _) | (with_reducible refine Kd.C_drew ?_))); (case side2 => exact (Kd.R_reads' HO266.out).2.1); (case side3 => repeat (first | exact (Kd.R_reads' HO270.out).2.2 | (with_reducible refine Kd.C_alloc ?_ _) | (with_reducible refine Kd.C_drewN ?_ _) | (with_reducible refine Kd.C_drew ?_))); (case side4 => exact (Kd.R_reads' HO270.out).2.1); rintro e w' ⟨rfl, ⟨nd, rfl⟩⟩; refine ⟨_, rfl, ?_⟩) | (go_at_call 13; (with_reducible refine (skifflaw0_Num.calls t264 t278 _ A14.out).mono ?_); rintro e w' ⟨rfl, ⟨nd, rfl⟩⟩))
    go_meet
    case rel => exact ⟨_, (true), (by first | rfl | (simp; done) | (simp [*]; done)), H', ⟨by first | omega | exact Nat.le_refl _⟩, ⟨by (with_reducible repeat (first | apply Kd.R_alloc | apply Kd.R_drewN | apply Kd.R_drew)); exact Kd.R_mono HO266.out (fun _ hk => trivial)⟩, ⟨by repeat (first | (with_reducible first | exact HB.out | apply below_alloc | apply pw_below_drewN | apply below_drew1) | exact HB.out)⟩⟩
  ·replace c13 := Bool.eq_false_iff.mpr c13
   subst c13
   have H1 : (skifflaw5_Journals.j0 k t263 true) = some r := by rw [if_neg (show ¬ (false = true) by decide)] at H; exact H
   clear H
   have H := H1
   clear H1
   have H' := Aside0.mk H
   clear H
   obtain ⟨Ao27, co27, eo27⟩ := Kd.R_slice HO266.out
   subst eo27
   obtain ⟨Ao28, co28, eo28⟩ := Kd.R_slice HO270.out
   subst eo28
   go_wp2_with (first | ((with_reducible refine gate_callee (f := 12) rfl ?_); refine goesL_ (some 41) rfl rfl Try.func12 (by kernel_rfl) rfl #[.slice Ao27 t263.length co27, .slice Ao28 t267.length co28] rfl (by (try simp only [List.map_toArray, List.map_cons, List.map_nil]); first | done | rfl | (simp only [List.length_drop, List.length_take]; rfl)) ?_; (with_reducible refine (skifflaw0_SamePlaces.calls k _ _ t263 _ _ t267 false _ ?side1 ?side2 ?side3 ?side4 A12.out).mono ?_); (case side1 => repeat (first | exact (Kd.R_reads' HO266.out).2.2 | (with_reducible refine Kd.C_alloc ?_ _) | (with_reducible refine Kd.C_drewN ?_ _) | (with_reducible refine Kd.C_drew ?_))); (case side2 => exact (Kd.R_reads' HO266.out).2.1); (case side3 => repeat (first | exact (Kd.R_reads' HO270.out).2.2 | (with_reducible refine Kd.C_alloc ?_ _) | (with_reducible refine Kd.C_drewN ?_ _) | (with_reducible refine Kd.C_drew ?_))); (case side4 => exact (Kd.R_reads' HO270.out).2.1); rintro e w' ⟨rfl, ⟨nd, rfl⟩⟩; refine ⟨_, rfl, ?_⟩))
   go_meet
   case rel => exact ⟨_, (true), (by first | rfl | (simp; done) | (simp [*]; done)), H', ⟨by first | omega | exact Nat.le_refl _⟩, ⟨by (with_reducible repeat (first | apply Kd.R_alloc | apply Kd.R_drewN | apply Kd.R_drew)); exact Kd.R_mono HO266.out (fun _ hk => trivial)⟩, ⟨by repeat (first | (with_reducible first | exact HB.out | apply below_alloc | apply pw_below_drewN | apply below_drew1) | exact HB.out)⟩⟩
 case rest =>
  clear HC7
  try clear c1
  try clear p2
  try clear c3
  try clear c8
  try clear c9
  try clear c10
  try clear c11
  try clear c12
  try clear c13
  try clear c15
  try clear c15b0
  try clear c15b1
  try clear c16
  try clear c16b0
  try clear c16b1
  try clear c17
  try clear c17b0
  try clear c17b1
  try clear c17b2
  obtain ⟨kq, x64_6, rfl, HA, HJ6, HO_5, HB⟩ := hcut
  cases kq with
  | zero => exact absurd HA.out (by simp [skifflaw5_Journals.j0])
  | succ kj6 =>
   have H := HA.out
   clear HA
   simp only [skifflaw5_Journals.j0] at H
   by_cases c29 : x64_6 = true
   ·subst c29
    have H1 : (none) = some r := by rw [if_pos rfl] at H; exact H
    clear H
    have H := H1
    clear H1
    exact absurd H (by simp)
   ·replace c29 := Bool.eq_false_iff.mpr c29
    subst c29
    have H1 : ((skifflaw0_SpoilPlaces.f kj6 t263).bind fun t280 => ((skifflaw5_awake.f kj6).bind fun t281 => (some t281))) = some r := by rw [if_neg (show ¬ (false = true) by decide)] at H; exact H
    clear H
    have H := H1
    clear H1
    replace H := Option.bind_eq_some_iff.mp H
    obtain ⟨t280, A300, H⟩ := H
    replace H : ((skifflaw5_awake.f kj6).bind fun t281 => (some t281)) = some r := H
    have A30 := Aside0.mk A300
    clear A300
    replace H := Option.bind_eq_some_iff.mp H
    obtain ⟨t281, A310, H⟩ := H
    replace H : (some t281) = some r := H
    have A31 := Aside0.mk A310
    clear A310
    obtain rfl := Option.some.inj H
    obtain ⟨Ao32, co32, eo32⟩ := Kd.R_slice HO_5.out
    subst eo32
    go_wp2_with (first | ((with_reducible refine gate_callee (f := 14) rfl ?_); refine goesL_ (some 66) rfl rfl Try.func14 (by kernel_rfl) rfl #[.slice Ao32 t263.length co32] rfl (by (try simp only [List.map_toArray, List.map_cons, List.map_nil]); first | done | rfl | (simp only [List.length_drop, List.length_take]; rfl)) ?_; (with_reducible refine (skifflaw0_SpoilPlaces.calls kj6 (fun k_ => some k_ = (.slice Ao32 t263.length co32 : Value).ownBlock) (.slice Ao32 t263.length co32) t263 t280 w _ ?side1 ?side2 A30.out).mono ?_); (case side1 => repeat (first | (with_reducible first | exact HB.out | apply below_alloc | apply pw_below_drewN | apply below_drew1) | exact HB.out)); (case side2 => exact Kd.R_tight rfl HO_5.out); rintro e w33 ⟨rfl, hy0, hb, hkp⟩; refine ⟨_, rfl, ?_⟩; have n0_ := Aside0.mk (Kd.R_reok rfl hy0 (fun k_ e_ => HO_5.out.1 k_ e_)); have n1_ := Aside0.mk (hb); clear HO_5; clear HB; have HO_5 := n0_; have HB := n1_; clear n0_ n1_; (try clear hb); (try clear hkp); (try clear hy0)) | ((with_reducible refine gate_callee (f := 15) rfl ?_); refine goesL_ (some 67) rfl rfl Try.func15 (by kernel_rfl) rfl #[] rfl (by (try simp only [List.map_toArray, List.map_cons, List.map_nil]); first | done | rfl | (simp only [List.length_drop, List.length_take]; rfl)) ?_; (with_reducible refine (skifflaw5_awake.calls kj6  t281 _ A31.out).mono ?_); rintro e w34 ⟨rfl, hb⟩; refine ⟨_, rfl, ?_⟩; have n0_ := Aside0.mk (Kd.R_below (by (with_reducible repeat (first | apply Kd.R_alloc | apply Kd.R_drewN | apply Kd.R_drew)); exact HO_5.out) hb); have n1_ := Aside0.mk (below_step (by repeat (first | (with_reducible first | exact HB.out | apply below_alloc | apply pw_below_drewN | apply below_drew1) | exact HB.out)) hb); clear HO_5; clear HB; have HO_5 := n0_; have HB := n1_; clear n0_ n1_; (try clear hb); (try clear hb2); (try clear hk); (try clear hi)))
    go_ret
    exact ⟨by first | rfl | (simp [errW_none, errW_some] <;> rfl) | (simp [*, errW_none, errW_some] <;> rfl), by repeat (first | (with_reducible first | exact HB.out | apply below_alloc | apply pw_below_drewN | apply below_drew1) | exact HB.out)⟩

/-- THE ONE PURE STATEMENT of skifflaw5_Journals: yours. -/
def skifflaw5_Journals.Pure : Prop := ∀ (a0 : ByteArray) (a1 : Int), a0.size ≤ 140737488351232 → (Lit.int .i64 a1).wf = true → ∃ k, skifflaw5_Journals.f k a0 a1 = some true
theorem skifflaw5_Journals.walk (P : skifflaw5_Journals.Pure) (a0 : ByteArray) (a1 : Int) (w : World) (w0 : a0.size ≤ 140737488351232) (w1 : (Lit.int .i64 a1).wf = true) :
  Calls Try.prog 3 #[.string a0, .int .i64 a1] w fun e w' => e = .returned (.bool true) ∧ Below w.heap.size w w' := by
 obtain ⟨k, h⟩ := P a0 a1 w0 w1
 refine (skifflaw5_Journals.calls k a0 a1 true w h).mono ?_
 rintro e w' ⟨rfl, hd⟩
 exact ⟨rfl, hd⟩

end Go.Proofs.Ytfjoekpgaiaifaa.P
