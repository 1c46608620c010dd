-- written by wip/prt.py of this repo, by the kit's print, over contracts that are proved here by hand
import Derived.Test.YtfjoekpgaiaifaaPx0
import Derived.Test.YtfjoekpgaiaifaaPx2
import Derived.Test.YtfjoekpgaiaifaaPx3
import Derived.Test.YtfjoekpgaiaifaaPx8
namespace Go.Proofs.Ytfjoekpgaiaifaa.P
open Go.RowKit Go.Proofs.YtfjoekpgaiaifaaW.PrintWords Go.Proofs.YtfjoekpgaiaifaaW.PrintLast Go.Proofs.YtfjoekpgaiaifaaW.PrintMore
attribute [local go_sem] max2_int min2_int max_two min_two max_three min_three max_four min_four   -- for this text's walks alone
set_option linter.unusedVariables false
set_option linter.unusedSimpArgs false

/-! ### skifflaw5_JournalErased: function 7 -/
def skifflaw5_JournalErased.l0 : Nat → Int → List (S44) → Int → List (S44) → Int → Int → Bool → Int → List (S44) → Int → Option (Bool)
 | 0, _, _, _, _, _, _, _, _, _, _ => none
 | k + 1, x5, x8, x9, x10, x11, x12, x13, x14, x15, x16 => if x16 < (x8.length : Int) then (if 0 ≤ x16 then (if (wrap64 (Int.tdiv ((rd_T44 x8 x16).f0) 96)) = x5 then (skifflaw5_JournalErased.l0 k x5 x8 x9 x10 x11 x12 x13 x14 x15 (wrap64 (x16 + 1))) else (if x15.length < 3518437208883 then (skifflaw5_JournalErased.l0 k x5 x8 x9 x10 x11 x12 x13 x14 (x15 ++ [(⟨(rd_T44 x8 x16).f0, (⟨(rd_T44 x8 x16).f1.f0, (rd_T44 x8 x16).f1.f1, (rd_T44 x8 x16).f1.f2, (rd_T44 x8 x16).f1.f3⟩ : S38)⟩ : S44)]) (wrap64 (x16 + 1))) else (none))) else (none)) else ((skifflaw0_Num.f x9).bind fun t361 => (if t361 = 0 then ((skifflaw0_Num.f x11).bind fun t362 => (if t362 = 0 then ((skifflaw0_SamePlaces.f k x10 x15).bind fun t363 => (if t363 = true then (if x12 = (wrap64 (96 * x5)) then (if x13 = true then ((skifflaw0_Num.f x14).bind fun t364 => (if t364 = 0 then ((skifflaw5_held.f k).bind fun t365 => (some ((t365.size : Int) == 768))) else (none))) else (none)) else (none)) else (none))) else (none))) else (none)))
def skifflaw5_JournalErased.f (k : Nat) (a0 : ByteArray) (a1 : Int) : Option (Bool) := (skifflaw5_awake.f k).bind fun t342 => (if t342 = true then ((skiffref1_Erase.f a0 (Go.bits .and .i64 a1 1)).bind fun bt343 => (if bt343.2 = 0 then ((journal_Scan.f k a0).bind fun bt345 => ((journal_Scan.f k bt343.1).bind fun bt349 => ((journal_Free.f k bt343.1 (Go.bits .and .i64 a1 1)).bind fun bt353 => (skifflaw5_JournalErased.l0 k (Go.bits .and .i64 a1 1) bt345.1 bt345.2 bt349.1 bt349.2 bt353.1 bt353.2.1 bt353.2.2 ([] : List (S44)) 0)))) else (some true))) else (none))
theorem skifflaw5_JournalErased.mono_l : ∀ k, (∀ y0 y1 y2 y3 y4 y5 y6 y7 y8 y9, LeO (skifflaw5_JournalErased.l0 k y0 y1 y2 y3 y4 y5 y6 y7 y8 y9) (skifflaw5_JournalErased.l0 (k + 1) y0 y1 y2 y3 y4 y5 y6 y7 y8 y9))
 | 0 => fun _ _ _ _ _ _ _ _ _ _ r h => by simp [skifflaw5_JournalErased.l0] at h
 | k + 1 => by
  have ih0 := skifflaw5_JournalErased.mono_l k
  ·intro y0 y1 y2 y3 y4 y5 y6 y7 y8 y9
   unfold skifflaw5_JournalErased.l0
   repeat' first
   | (with_reducible exact ih0 _ _ _ _ _ _ _ _ _ _)
   | (with_reducible exact journal_Free.mono _ _ _)
   | (with_reducible exact journal_Scan.mono _ _)
   | (with_reducible exact skifflaw0_SamePlaces.mono _ _ _)
   | (with_reducible exact skifflaw5_awake.mono _)
   | (with_reducible exact skifflaw5_held.mono _)
   | (with_reducible exact LeO.refl _)
   | (with_reducible exact LeO.none _)
   | (with_reducible refine LeO.ite ?_ ?_)
   | (with_reducible refine LeO.bind ?_ (fun _ => ?_))
   | exact ih0 _ _ _ _ _ _ _ _ _ _
   | exact journal_Free.mono _ _ _
   | exact journal_Scan.mono _ _
   | exact skifflaw0_SamePlaces.mono _ _ _
   | exact skifflaw5_awake.mono _
   | exact skifflaw5_held.mono _
   | exact LeO.none _
   | refine LeO.ite ?_ ?_
   | refine LeO.bind ?_ (fun _ => ?_)
theorem skifflaw5_JournalErased.mono : ∀ a0 a1 k, LeO (skifflaw5_JournalErased.f k a0 a1) (skifflaw5_JournalErased.f (k + 1) a0 a1) := by
 intro a0 a1 k
 have ih0 := skifflaw5_JournalErased.mono_l k
 unfold skifflaw5_JournalErased.f
 repeat' first
   | (with_reducible exact ih0 _ _ _ _ _ _ _ _ _ _)
   | (with_reducible exact journal_Free.mono _ _ _)
   | (with_reducible exact journal_Scan.mono _ _)
   | (with_reducible exact skifflaw0_SamePlaces.mono _ _ _)
   | (with_reducible exact skifflaw5_awake.mono _)
   | (with_reducible exact skifflaw5_held.mono _)
   | (with_reducible exact LeO.refl _)
   | (with_reducible exact LeO.none _)
   | (with_reducible refine LeO.ite ?_ ?_)
   | (with_reducible refine LeO.bind ?_ (fun _ => ?_))
   | exact ih0 _ _ _ _ _ _ _ _ _ _
   | exact journal_Free.mono _ _ _
   | exact journal_Scan.mono _ _
   | exact skifflaw0_SamePlaces.mono _ _ _
   | exact skifflaw5_awake.mono _
   | exact skifflaw5_held.mono _
   | exact LeO.none _
   | refine LeO.ite ?_ ?_
   | refine LeO.bind ?_ (fun _ => ?_)
set_option maxHeartbeats 8000000 in
set_option maxRecDepth 100000 in
theorem skifflaw5_JournalErased.calls (k : Nat) (a0 : ByteArray) (a1 : Int) (r : Bool) (w : World) (h : skifflaw5_JournalErased.f k a0 a1 = some r) :
  Calls Try.prog 7 #[.string a0, .int .i64 a1] w fun e w' => e = .returned (.bool r) ∧ Below w.heap.size w w' := by
 have hu44 := Try.underlying44
 have HB := Aside0.mk (Below.refl w.heap.size w)
 have H : ((skifflaw5_awake.f k).bind fun t342 => (if t342 = true then ((skiffref1_Erase.f a0 (Go.bits .and .i64 a1 1)).bind fun bt343 => (if bt343.2 = 0 then ((journal_Scan.f k a0).bind fun bt345 => ((journal_Scan.f k bt343.1).bind fun bt349 => ((journal_Free.f k bt343.1 (Go.bits .and .i64 a1 1)).bind fun bt353 => (skifflaw5_JournalErased.l0 k (Go.bits .and .i64 a1 1) bt345.1 bt345.2 bt349.1 bt349.2 bt353.1 bt353.2.1 bt353.2.2 ([] : List (S44)) 0)))) else (some true))) else (none))) = some r := h
 clear h
 replace H := Option.bind_eq_some_iff.mp H
 obtain ⟨t342, A30, H⟩ := H
 replace H : (if t342 = true then ((skiffref1_Erase.f a0 (Go.bits .and .i64 a1 1)).bind fun bt343 => (if bt343.2 = 0 then ((journal_Scan.f k a0).bind fun bt345 => ((journal_Scan.f k bt343.1).bind fun bt349 => ((journal_Free.f k bt343.1 (Go.bits .and .i64 a1 1)).bind fun bt353 => (skifflaw5_JournalErased.l0 k (Go.bits .and .i64 a1 1) bt345.1 bt345.2 bt349.1 bt349.2 bt353.1 bt353.2.1 bt353.2.2 ([] : List (S44)) 0)))) else (some true))) else (none)) = some r := H
 have A3 := Aside0.mk A30
 clear A30
 by_cases c4 : t342 = true
 ·subst c4
  have H1 : ((skiffref1_Erase.f a0 (Go.bits .and .i64 a1 1)).bind fun bt343 => (if bt343.2 = 0 then ((journal_Scan.f k a0).bind fun bt345 => ((journal_Scan.f k bt343.1).bind fun bt349 => ((journal_Free.f k bt343.1 (Go.bits .and .i64 a1 1)).bind fun bt353 => (skifflaw5_JournalErased.l0 k (Go.bits .and .i64 a1 1) bt345.1 bt345.2 bt349.1 bt349.2 bt353.1 bt353.2.1 bt353.2.2 ([] : List (S44)) 0)))) else (some true))) = some r := by rw [if_pos rfl] at H; exact H
  clear H
  have H := H1
  clear H1
  replace H := Option.bind_eq_some_iff.mp H
  obtain ⟨⟨t343, t344⟩, A50, H⟩ := H
  replace H : (if t344 = 0 then ((journal_Scan.f k a0).bind fun bt345 => ((journal_Scan.f k t343).bind fun bt349 => ((journal_Free.f k t343 (Go.bits .and .i64 a1 1)).bind fun bt353 => (skifflaw5_JournalErased.l0 k (Go.bits .and .i64 a1 1) bt345.1 bt345.2 bt349.1 bt349.2 bt353.1 bt353.2.1 bt353.2.2 ([] : List (S44)) 0)))) else (some true)) = some r := H
  have A5 := Aside0.mk A50
  clear A50
  by_cases c6 : t344 = 0
  ·rw [if_pos c6] at H
   have c6b0 : (t344 == 0) = true := beq_iff_eq.mpr c6
   have c6b1 : (t344 != 0) = false := bne_eq_false_iff_eq.mpr c6
   clear c6
   replace H := Option.bind_eq_some_iff.mp H
   obtain ⟨⟨t345, t346⟩, A70, H⟩ := H
   replace H : ((journal_Scan.f k t343).bind fun bt349 => ((journal_Free.f k t343 (Go.bits .and .i64 a1 1)).bind fun bt353 => (skifflaw5_JournalErased.l0 k (Go.bits .and .i64 a1 1) t345 t346 bt349.1 bt349.2 bt353.1 bt353.2.1 bt353.2.2 ([] : List (S44)) 0))) = some r := H
   have A7 := Aside0.mk A70
   clear A70
   replace H := Option.bind_eq_some_iff.mp H
   obtain ⟨⟨t349, t350⟩, A80, H⟩ := H
   replace H : ((journal_Free.f k t343 (Go.bits .and .i64 a1 1)).bind fun bt353 => (skifflaw5_JournalErased.l0 k (Go.bits .and .i64 a1 1) t345 t346 t349 t350 bt353.1 bt353.2.1 bt353.2.2 ([] : List (S44)) 0)) = some r := H
   have A8 := Aside0.mk A80
   clear A80
   replace H := Option.bind_eq_some_iff.mp H
   obtain ⟨⟨t353, t354, t355⟩, A90, H⟩ := H
   replace H : (skifflaw5_JournalErased.l0 k (Go.bits .and .i64 a1 1) t345 t346 t349 t350 t353 t354 t355 ([] : List (S44)) 0) = some r := H
   have A9 := Aside0.mk A90
   clear A90
   have H' := Aside0.mk H
   clear H
   go_enter Try.func7, Try.ntmps7
   go_wp2_with (first | ((with_reducible refine gate_callee (f := 15) rfl ?_); refine goesL_ (some 17) rfl rfl Try.func15 (by kernel_rfl) rfl #[] rfl (by (try simp only [List.map_toArray, List.map_cons, List.map_nil]); first | done | rfl | (simp only [List.length_drop, List.length_take]; rfl)) ?_; (with_reducible refine (skifflaw5_awake.calls k  true _ A3.out).mono ?_); rintro e w10 ⟨rfl, hb⟩; refine ⟨_, rfl, ?_⟩; have n0_ := Aside0.mk (below_step (by repeat (first | (with_reducible first | exact HB.out | apply below_alloc | apply pw_below_drewN | apply below_drew1) | exact HB.out)) hb); clear HB; have HB := n0_; clear n0_; (try clear hb); (try clear hb2); (try clear hk); (try clear hi)) | ((with_reducible refine gate_callee (f := 18) rfl ?_); refine goesL_ (some 24) rfl rfl Try.func18 (by kernel_rfl) rfl #[.string a0, .int .i64 (Go.bits .and .i64 a1 1)] rfl (by (try simp only [List.map_toArray, List.map_cons, List.map_nil]); first | done | rfl | (simp only [List.length_drop, List.length_take]; rfl)) ?_; (with_reducible refine (skiffref1_Erase.calls a0 (Go.bits .and .i64 a1 1) t343 t344 _ A5.out).mono ?_); rintro e w11 ⟨rfl, hb⟩; refine ⟨_, rfl, ?_⟩; have n0_ := Aside0.mk (below_step (by repeat (first | (with_reducible first | exact HB.out | apply below_alloc | apply pw_below_drewN | apply below_drew1) | exact HB.out)) hb); clear HB; have HB := n0_; clear n0_; (try clear hb); (try clear hb2); (try clear hk); (try clear hi)) | ((with_reducible refine gate_callee (f := 8) rfl ?_); refine goesL_ (some 31) rfl rfl Try.func8 (by kernel_rfl) rfl #[.string a0] rfl (by (try simp only [List.map_toArray, List.map_cons, List.map_nil]); first | done | rfl | (simp only [List.length_drop, List.length_take]; rfl)) ?_; (with_reducible refine (journal_Scan.calls k a0 t345 t346 _ A7.out).mono ?_); rintro e w12 ⟨v347, rfl, ho0, hb⟩; refine ⟨_, rfl, ?_⟩; have n0_ := Aside0.mk (Kd.R_lower ho0 (below_size (by repeat (first | (with_reducible first | exact HB.out | apply below_alloc | apply pw_below_drewN | apply below_drew1) | exact HB.out)))); have n1_ := Aside0.mk (below_step (by repeat (first | (with_reducible first | exact HB.out | apply below_alloc | apply pw_below_drewN | apply below_drew1) | exact HB.out)) hb); clear HB; have HO348 := n0_; have HB := n1_; clear n0_ n1_; (try clear hb); (try clear hb2); (try clear hk); (try clear hi); (try clear ho0)) | ((with_reducible refine gate_callee (f := 8) rfl ?_); refine goesL_ (some 36) rfl rfl Try.func8 (by kernel_rfl) rfl #[.string t343] rfl (by (try simp only [List.map_toArray, List.map_cons, List.map_nil]); first | done | rfl | (simp only [List.length_drop, List.length_take]; rfl)) ?_; (with_reducible refine (journal_Scan.calls k t343 t349 t350 _ A8.out).mono ?_); rintro e w13 ⟨v351, rfl, ho0, hb⟩; refine ⟨_, rfl, ?_⟩; have n0_ := Aside0.mk (Kd.R_elder' (by (with_reducible repeat (first | apply Kd.R_alloc | apply Kd.R_drewN | apply Kd.R_drew)); exact HO348.out) (Kd.R_base ho0) hb); have n1_ := Aside0.mk (Kd.R_lower (Kd.R_new' ho0 (Kd.R_lt (by (with_reducible repeat (first | apply Kd.R_alloc | apply Kd.R_drewN | apply Kd.R_drew)); exact HO348.out))) (below_size (by repeat (first | (with_reducible first | exact HB.out | apply below_alloc | apply pw_below_drewN | apply below_drew1) | exact HB.out)))); have n2_ := Aside0.mk (below_step (by repeat (first | (with_reducible first | exact HB.out | apply below_alloc | apply pw_below_drewN | apply below_drew1) | exact HB.out)) hb); clear HO348; clear HB; have HO348 := n0_; have HO352 := n1_; have HB := n2_; clear n0_ n1_ n2_; (try clear hb); (try clear hb2); (try clear hk); (try clear hi); (try clear ho0)) | ((with_reducible refine gate_callee (f := 10) rfl ?_); refine goesL_ (some 42) rfl rfl Try.func10 (by kernel_rfl) rfl #[.string t343, .int .i64 (Go.bits .and .i64 a1 1)] rfl (by (try simp only [List.map_toArray, List.map_cons, List.map_nil]); first | done | rfl | (simp only [List.length_drop, List.length_take]; rfl)) ?_; (with_reducible refine (journal_Free.calls k t343 (Go.bits .and .i64 a1 1) t353 t354 t355 _ A9.out).mono ?_); rintro e w14 ⟨rfl, hb⟩; refine ⟨_, rfl, ?_⟩; have n0_ := Aside0.mk (Kd.R_below (by (with_reducible repeat (first | apply Kd.R_alloc | apply Kd.R_drewN | apply Kd.R_drew)); exact HO348.out) hb); have n1_ := Aside0.mk (Kd.R_below (by (with_reducible repeat (first | apply Kd.R_alloc | apply Kd.R_drewN | apply Kd.R_drew)); exact HO352.out) hb); have n2_ := Aside0.mk (below_step (by repeat (first | (with_reducible first | exact HB.out | apply below_alloc | apply pw_below_drewN | apply below_drew1) | exact HB.out)) hb); clear HO348; clear HO352; clear HB; have HO348 := n0_; have HO352 := n1_; have HB := n2_; clear n0_ n1_ n2_; (try clear hb); (try clear hb2); (try clear hk); (try clear hi)))
   go_loopg [15, 16] k (fun kq v15 v16 w' => ∃ (x15_1 : List (S44)) (x16_1 : Int), v16 = .int .i64 x16_1 ∧ Aside0 (skifflaw5_JournalErased.l0 kq (Go.bits .and .i64 a1 1) t345 t346 t349 t350 t353 t354 t355 x15_1 x16_1 = some r) ∧ Aside0 (kq ≤ k) ∧ Aside0 (Kd.R k44 44 w' w.heap.size (fun k_ => some k_ ≠ (v351 : Value).ownBlock ∧ some k_ ≠ (v15 : Value).ownBlock) v347 t345) ∧ Aside0 (Kd.R k44 44 w' w.heap.size (fun k_ => some k_ ≠ (v347 : Value).ownBlock ∧ some k_ ≠ (v15 : Value).ownBlock) v351 t349) ∧ Aside0 (Kd.R k44 44 w' w.heap.size (fun k_ => some k_ ≠ (v347 : Value).ownBlock ∧ some k_ ≠ (v351 : Value).ownBlock) v15 x15_1) ∧ Aside0 (Below w.heap.size w w'))
   case atStart => exact ⟨(([] : List (S44))), (0), (by first | rfl | (simp; done) | (simp [*]; done)), H', ⟨Nat.le_refl _⟩, ⟨by (with_reducible repeat (first | apply Kd.R_alloc | apply Kd.R_drewN | apply Kd.R_drew)); exact Kd.R_mono HO348.out (fun _ hk => ⟨hk.2, (by simp [Value.ownBlock])⟩)⟩, ⟨by (with_reducible repeat (first | apply Kd.R_alloc | apply Kd.R_drewN | apply Kd.R_drew)); exact Kd.R_mono HO352.out (fun _ hk => ⟨hk.2, (by simp [Value.ownBlock])⟩)⟩, ⟨by first | exact Kd.R_nil _ _ _ _ _ | exact Kd.N_nil _ _ _ _ _ | exact Kd.V_nil _ _ _ _ _ | exact Kd.Q_nil _ _ _ _ _ | exact Kd.S_nil _ _ _ _ _⟩, ⟨by repeat (first | (with_reducible first | exact HB.out | apply below_alloc | apply pw_below_drewN | apply below_drew1) | exact HB.out)⟩⟩
   case round =>
    clear H'
    try clear c1
    try clear p2
    try clear c4
    try clear c6
    try clear c6b0
    try clear c6b1
    try clear c7
    try clear c8
    try clear c10
    obtain ⟨x15_1, x16_1, rfl, HA, HK1, HO_8, HO_10, HO_15, HB⟩ := hrel
    cases gk with
    | zero => exact absurd HA.out (by simp [skifflaw5_JournalErased.l0])
    | succ k1 =>
     have H := HA.out
     clear HA
     simp only [skifflaw5_JournalErased.l0] at H
     by_cases c15 : x16_1 < (t345.length : Int)
     ·rw [if_pos c15] at H
      have c15b0 : decide (x16_1 < (t345.length : Int)) = true := decide_eq_true c15
      clear c15
      by_cases c16 : 0 ≤ x16_1
      ·rw [if_pos c16] at H
       have c16b0 : decide (0 ≤ x16_1) = true := decide_eq_true c16
       clear c16
       by_cases c17 : (wrap64 (Int.tdiv ((rd_T44 t345 x16_1).f0) 96)) = (Go.bits .and .i64 a1 1)
       ·rw [if_pos c17] at H
        have c17b0 : ((wrap64 (Int.tdiv ((rd_T44 t345 x16_1).f0) 96)) == (Go.bits .and .i64 a1 1)) = true := beq_iff_eq.mpr c17
        have c17b1 : ((wrap64 (Int.tdiv ((rd_T44 t345 x16_1).f0) 96)) != (Go.bits .and .i64 a1 1)) = false := bne_eq_false_iff_eq.mpr c17
        clear c17
        have H' := Aside0.mk H
        clear H
        obtain ⟨Ao18, co18, eo18⟩ := Kd.R_slice HO_8.out
        subst eo18
        have p356 : 0 ≤ (x16_1 : Int) := of_decide_eq_true (by first | (with_reducible assumption) | assumption)
        have q356 : x16_1 < (t345.length : Int) := of_decide_eq_true (by first | (with_reducible assumption) | assumption)
        obtain ⟨ad356, e356, hx356_0, hx356_1, hx356_2, hx356_3, hx356_4⟩ := at_T44 (Kd.R_reads' HO_8.out).2.2 x16_1 p356 q356
        cases e356
        replace p356 := eq_true p356
        replace q356 := eq_true q356
        go_wp2
        go_roundg k1
        case measure => have := HK1.out; omega
        case rel => exact ⟨(x15_1), (wrap64 (x16_1 + 1)), (by first | rfl | (simp; done) | (simp [*]; done)), H', ⟨by have := HK1.out; omega⟩, ⟨by (with_reducible repeat (first | apply Kd.R_alloc | apply Kd.R_drewN | apply Kd.R_drew)); exact HO_8.out⟩, ⟨by (with_reducible repeat (first | apply Kd.R_alloc | apply Kd.R_drewN | apply Kd.R_drew)); exact HO_10.out⟩, ⟨by (with_reducible repeat (first | apply Kd.R_alloc | apply Kd.R_drewN | apply Kd.R_drew)); exact HO_15.out⟩, ⟨by repeat (first | (with_reducible first | exact HB.out | apply below_alloc | apply pw_below_drewN | apply below_drew1) | exact HB.out)⟩⟩
       ·rw [if_neg c17] at H
        have c17b0 : ((wrap64 (Int.tdiv ((rd_T44 t345 x16_1).f0) 96)) == (Go.bits .and .i64 a1 1)) = false := beq_eq_false_iff_ne.mpr c17
        have c17b1 : ((wrap64 (Int.tdiv ((rd_T44 t345 x16_1).f0) 96)) != (Go.bits .and .i64 a1 1)) = true := bne_iff_ne.mpr c17
        by_cases c19 : x15_1.length < 3518437208883
        ·rw [if_pos c19] at H
         have LMc19 := Aside0.mk c19
         clear c19
         obtain ⟨y358, hy358⟩ : ∃ y_ : List (S44), y_ = (x15_1 ++ [(⟨(rd_T44 t345 x16_1).f0, (⟨(rd_T44 t345 x16_1).f1.f0, (rd_T44 t345 x16_1).f1.f1, (rd_T44 t345 x16_1).f1.f2, (rd_T44 t345 x16_1).f1.f3⟩ : S38)⟩ : S44)]) := ⟨_, rfl⟩
         replace H : (skifflaw5_JournalErased.l0 k1 (Go.bits .and .i64 a1 1) t345 t346 t349 t350 t353 t354 t355 y358 (wrap64 (x16_1 + 1))) = some r := by first | (rw [hy358]; with_reducible exact H) | (have H2_ := (Option.bind_some _ _).symm.trans H; rw [hy358]; with_reducible exact H2_) | (have H2_ := (Option.bind_some _ _).symm.trans H; with_reducible exact H2_) | with_reducible exact H | (rw [hy358]; exact H) | exact H
         have Ny358 := Aside0.mk hy358
         clear hy358
         have H' := Aside0.mk H
         clear H
         obtain ⟨Ao20, co20, eo20⟩ := Kd.R_slice HO_8.out
         subst eo20
         have p356 : 0 ≤ (x16_1 : Int) := of_decide_eq_true (by first | (with_reducible assumption) | assumption)
         have q356 : x16_1 < (t345.length : Int) := of_decide_eq_true (by first | (with_reducible assumption) | assumption)
         obtain ⟨ad356, e356, hx356_0, hx356_1, hx356_2, hx356_3, hx356_4⟩ := at_T44 (Kd.R_reads' HO_8.out).2.2 x16_1 p356 q356
         cases e356
         replace p356 := eq_true p356
         replace q356 := eq_true q356
         have p357 : 0 ≤ (x16_1 : Int) := of_decide_eq_true (by first | (with_reducible assumption) | assumption)
         have q357 : x16_1 < (t345.length : Int) := of_decide_eq_true (by first | (with_reducible assumption) | assumption)
         obtain ⟨ad357, e357, hx357_0, hx357_1, hx357_2, hx357_3, hx357_4⟩ := at_T44 (Kd.R_reads' HO_8.out).2.2 x16_1 p357 q357
         obtain rfl : ad356 = ad357 := (by injection e357)
         replace p357 := eq_true p357
         replace q357 := eq_true q357
         go_wp2_with (first | ((with_reducible refine gate_builtin (b := .append) (xs := #[.tmp 60, .tmp 65]) rfl ?_); (try (refine gate_guard (by rfl) ?_; dsimp only)); at_builtin; refine Kd.R_append k44 (w0 := w) w.heap.size rfl (.tmp 60) (.tmp 65) 22 44 (.agg #[(.int .i64 0), (.int .i64 0), (.int .i64 0), (.int .i64 0), (.int .i64 0)]) 40 rfl Try.underlying22 info44 rfl (by decide) (by omega) u15 x15_1 (⟨(rd_T44 t345 x16_1).f0, (⟨(rd_T44 t345 x16_1).f1.f0, (rd_T44 t345 x16_1).f1.f1, (rd_T44 t345 x16_1).f1.f2, (rd_T44 t345 x16_1).f1.f3⟩ : S38)⟩ : S44) [.int .i64 ((rd_T44 t345 x16_1).f0), .int .i64 ((rd_T44 t345 x16_1).f1.f0), .int .i64 ((rd_T44 t345 x16_1).f1.f1), .int .i64 ((rd_T44 t345 x16_1).f1.f2), .int .i64 ((rd_T44 t345 x16_1).f1.f3)] (fun k_ => some k_ ≠ (.slice (some ad356) t345.length co20 : Value).ownBlock ∧ some k_ ≠ (v351 : Value).ownBlock) (fun _ => False) rfl rfl ?aP (fun _ hk => hk.elim) ?aF ?aO ?aB ?aS ?aL ?_; (case aP => exact k44_mkM _ _ _ (⟨(rd_T44 t345 x16_1).f0, (⟨(rd_T44 t345 x16_1).f1.f0, (rd_T44 t345 x16_1).f1.f1, (rd_T44 t345 x16_1).f1.f2, (rd_T44 t345 x16_1).f1.f3⟩ : S38)⟩ : S44)); (case aB => exact (by repeat (first | (with_reducible first | exact HB.out | apply below_alloc | apply pw_below_drewN | apply below_drew1) | exact HB.out))); (case aF => exact (fun k_ hk => ⟨Kd.fresh' (Kd.R_lt (by (with_reducible repeat (first | apply Kd.R_alloc | apply Kd.R_drewN | apply Kd.R_drew)); exact HO_8.out)) k_ hk, Kd.fresh' (Kd.R_lt (by (with_reducible repeat (first | apply Kd.R_alloc | apply Kd.R_drewN | apply Kd.R_drew)); exact HO_10.out)) k_ hk⟩)); (case aO => exact (by (with_reducible repeat (first | apply Kd.R_alloc | apply Kd.R_drewN | apply Kd.R_drew)); exact HO_15.out)); (case aS => exact (below_size (by repeat (first | (with_reducible first | exact HB.out | apply below_alloc | apply pw_below_drewN | apply below_drew1) | exact HB.out)))); (case aL => have := LMc19.out; omega); intro v359 w21 ho hb hg hat; rw [← Ny358.out] at ho; have n0_ := Aside0.mk (Kd.R_after (ok := (fun k_ => some k_ ≠ (v351 : Value).ownBlock)) (by (with_reducible repeat (first | apply Kd.R_alloc | apply Kd.R_drewN | apply Kd.R_drew)); exact HO_8.out) hg hat); have n1_ := Aside0.mk (Kd.R_after (ok := (fun k_ => some k_ ≠ (.slice (some ad356) t345.length co20 : Value).ownBlock)) (by (with_reducible repeat (first | apply Kd.R_alloc | apply Kd.R_drewN | apply Kd.R_drew)); exact HO_10.out) hg hat); have n2_ := Aside0.mk (hb); have n3_ := Aside0.mk (ho); clear HO_8; clear HO_10; clear HB; clear HO_15; have HO_8 := n0_; have HO_10 := n1_; have HB := n2_; have HO360 := n3_; clear n0_ n1_ n2_ n3_; clear ho hb hg hat))
         go_roundg k1
         case measure => have := HK1.out; omega
         case rel => exact ⟨(y358), (wrap64 (x16_1 + 1)), (by first | rfl | (simp; done) | (simp [*]; done)), H', ⟨by have := HK1.out; omega⟩, ⟨by (with_reducible repeat (first | apply Kd.R_alloc | apply Kd.R_drewN | apply Kd.R_drew)); exact HO_8.out⟩, ⟨by (with_reducible repeat (first | apply Kd.R_alloc | apply Kd.R_drewN | apply Kd.R_drew)); exact HO_10.out⟩, ⟨by (with_reducible repeat (first | apply Kd.R_alloc | apply Kd.R_drewN | apply Kd.R_drew)); exact HO360.out⟩, ⟨by repeat (first | (with_reducible first | exact HB.out | apply below_alloc | apply pw_below_drewN | apply below_drew1) | exact HB.out)⟩⟩
        ·rw [if_neg c19] at H
         exact absurd H (by simp)
      ·rw [if_neg c16] at H
       exact absurd H (by simp)
     ·rw [if_neg c15] at H
      have c15b0 : decide (x16_1 < (t345.length : Int)) = false := decide_eq_false c15
      clear c15
      replace H := Option.bind_eq_some_iff.mp H
      obtain ⟨t361, A220, H⟩ := H
      replace H : (if t361 = 0 then ((skifflaw0_Num.f t350).bind fun t362 => (if t362 = 0 then ((skifflaw0_SamePlaces.f k1 t349 x15_1).bind fun t363 => (if t363 = true then (if t353 = (wrap64 (96 * (Go.bits .and .i64 a1 1))) then (if t354 = true then ((skifflaw0_Num.f t355).bind fun t364 => (if t364 = 0 then ((skifflaw5_held.f k1).bind fun t365 => (some ((t365.size : Int) == 768))) else (none))) else (none)) else (none)) else (none))) else (none))) else (none)) = some r := H
      have A22 := Aside0.mk A220
      clear A220
      by_cases c23 : t361 = 0
      ·rw [if_pos c23] at H
       have c23b0 : (t361 == 0) = true := beq_iff_eq.mpr c23
       have c23b1 : (t361 != 0) = false := bne_eq_false_iff_eq.mpr c23
       clear c23
       replace H := Option.bind_eq_some_iff.mp H
       obtain ⟨t362, A240, H⟩ := H
       replace H : (if t362 = 0 then ((skifflaw0_SamePlaces.f k1 t349 x15_1).bind fun t363 => (if t363 = true then (if t353 = (wrap64 (96 * (Go.bits .and .i64 a1 1))) then (if t354 = true then ((skifflaw0_Num.f t355).bind fun t364 => (if t364 = 0 then ((skifflaw5_held.f k1).bind fun t365 => (some ((t365.size : Int) == 768))) else (none))) else (none)) else (none)) else (none))) else (none)) = some r := H
       have A24 := Aside0.mk A240
       clear A240
       by_cases c25 : t362 = 0
       ·rw [if_pos c25] at H
        have c25b0 : (t362 == 0) = true := beq_iff_eq.mpr c25
        have c25b1 : (t362 != 0) = false := bne_eq_false_iff_eq.mpr c25
        clear c25
        replace H := Option.bind_eq_some_iff.mp H
        obtain ⟨t363, A260, H⟩ := H
        replace H : (if t363 = true then (if t353 = (wrap64 (96 * (Go.bits .and .i64 a1 1))) then (if t354 = true then ((skifflaw0_Num.f t355).bind fun t364 => (if t364 = 0 then ((skifflaw5_held.f k1).bind fun t365 => (some ((t365.size : Int) == 768))) else (none))) else (none)) else (none)) else (none)) = some r := H
        have A26 := Aside0.mk A260
        clear A260
        by_cases c27 : t363 = true
        ·subst c27
         have H1 : (if t353 = (wrap64 (96 * (Go.bits .and .i64 a1 1))) then (if t354 = true then ((skifflaw0_Num.f t355).bind fun t364 => (if t364 = 0 then ((skifflaw5_held.f k1).bind fun t365 => (some ((t365.size : Int) == 768))) else (none))) else (none)) else (none)) = some r := by rw [if_pos rfl] at H; exact H
         clear H
         have H := H1
         clear H1
         by_cases c28 : t353 = (wrap64 (96 * (Go.bits .and .i64 a1 1)))
         ·rw [if_pos c28] at H
          have c28b0 : (t353 == (wrap64 (96 * (Go.bits .and .i64 a1 1)))) = true := beq_iff_eq.mpr c28
          have c28b1 : (t353 != (wrap64 (96 * (Go.bits .and .i64 a1 1)))) = false := bne_eq_false_iff_eq.mpr c28
          clear c28
          by_cases c29 : t354 = true
          ·subst c29
           have H1 : ((skifflaw0_Num.f t355).bind fun t364 => (if t364 = 0 then ((skifflaw5_held.f k1).bind fun t365 => (some ((t365.size : Int) == 768))) else (none))) = some r := by rw [if_pos rfl] at H; exact H
           clear H
           have H := H1
           clear H1
           replace H := Option.bind_eq_some_iff.mp H
           obtain ⟨t364, A300, H⟩ := H
           replace H : (if t364 = 0 then ((skifflaw5_held.f k1).bind fun t365 => (some ((t365.size : Int) == 768))) else (none)) = some r := H
           have A30 := Aside0.mk A300
           clear A300
           by_cases c31 : t364 = 0
           ·rw [if_pos c31] at H
            have c31b0 : (t364 == 0) = true := beq_iff_eq.mpr c31
            have c31b1 : (t364 != 0) = false := bne_eq_false_iff_eq.mpr c31
            clear c31
            replace H := Option.bind_eq_some_iff.mp H
            obtain ⟨t365, A320, H⟩ := H
            replace H : (some ((t365.size : Int) == 768)) = some r := H
            have A32 := Aside0.mk A320
            clear A320
            obtain rfl := Option.some.inj H
            obtain ⟨Ao33, co33, eo33⟩ := Kd.R_slice HO_8.out
            subst eo33
            go_wp2_with (first | ((with_reducible refine gate_callee (f := 13) rfl ?_); refine goesL_ (some 68) rfl rfl Try.func13 (by kernel_rfl) rfl #[.int .i64 t346] rfl (by (try simp only [List.map_toArray, List.map_cons, List.map_nil]); first | done | rfl | (simp only [List.length_drop, List.length_take]; rfl)) ?_; (with_reducible refine (skifflaw0_Num.calls t346 t361 _ A22.out).mono ?_); rintro e w' ⟨rfl, ⟨nd, rfl⟩⟩; refine ⟨_, rfl, ?_⟩) | (go_at_call 13; (with_reducible refine (skifflaw0_Num.calls t350 t362 _ A24.out).mono ?_); rintro e w' ⟨rfl, ⟨nd, rfl⟩⟩; obtain ⟨Ao34, co34, eo34⟩ := Kd.R_slice HO_10.out; subst eo34; obtain ⟨Ao35, co35, eo35⟩ := Kd.R_slice HO_15.out; subst eo35) | (go_at_call 12; (with_reducible refine (skifflaw0_SamePlaces.calls k1 _ _ t349 _ _ x15_1 true _ ?side1 ?side2 ?side3 ?side4 A26.out).mono ?_); (case side1 => repeat (first | exact (Kd.R_reads' HO_10.out).2.2 | (with_reducible refine Kd.C_alloc ?_ _) | (with_reducible refine Kd.C_drewN ?_ _) | (with_reducible refine Kd.C_drew ?_))); (case side2 => exact (Kd.R_reads' HO_10.out).2.1); (case side3 => repeat (first | exact (Kd.R_reads' HO_15.out).2.2 | (with_reducible refine Kd.C_alloc ?_ _) | (with_reducible refine Kd.C_drewN ?_ _) | (with_reducible refine Kd.C_drew ?_))); (case side4 => exact (Kd.R_reads' HO_15.out).2.1); rintro e w' ⟨rfl, ⟨nd, rfl⟩⟩) | (go_at_call 13; (with_reducible refine (skifflaw0_Num.calls t355 t364 _ A30.out).mono ?_); rintro e w' ⟨rfl, ⟨nd, rfl⟩⟩) | (go_at_call 19; (with_reducible refine (skifflaw5_held.calls k1  t365 _ A32.out).mono ?_); rintro e w36 ⟨rfl, hb⟩; have n0_ := Aside0.mk (Kd.R_below (by (with_reducible repeat (first | apply Kd.R_alloc | apply Kd.R_drewN | apply Kd.R_drew)); exact HO_8.out) hb); have n1_ := Aside0.mk (Kd.R_below (by (with_reducible repeat (first | apply Kd.R_alloc | apply Kd.R_drewN | apply Kd.R_drew)); exact HO_10.out) hb); have n2_ := Aside0.mk (Kd.R_below (by (with_reducible repeat (first | apply Kd.R_alloc | apply Kd.R_drewN | apply Kd.R_drew)); exact HO_15.out) hb); have n3_ := Aside0.mk (below_step (by repeat (first | (with_reducible first | exact HB.out | apply below_alloc | apply pw_below_drewN | apply below_drew1) | exact HB.out)) hb); clear HO_8; clear HO_10; clear HO_15; clear HB; have HO_8 := n0_; have HO_10 := n1_; have HO_15 := n2_; have HB := n3_; clear n0_ n1_ n2_ n3_; (try clear hb); (try clear hb2); (try clear hk); (try clear hi)))
            go_ret
            exact ⟨by first | rfl | (simp [errW_none, errW_some] <;> rfl) | (simp [*, errW_none, errW_some] <;> rfl), by repeat (first | (with_reducible first | exact HB.out | apply below_alloc | apply pw_below_drewN | apply below_drew1) | exact HB.out)⟩
           ·rw [if_neg c31] at H
            exact absurd H (by simp)
          ·replace c29 := Bool.eq_false_iff.mpr c29
           subst c29
           have H1 : (none) = some r := by rw [if_neg (show ¬ (false = true) by decide)] at H; exact H
           clear H
           have H := H1
           clear H1
           exact absurd H (by simp)
         ·rw [if_neg c28] at H
          exact absurd H (by simp)
        ·replace c27 := Bool.eq_false_iff.mpr c27
         subst c27
         have H1 : (none) = some r := by rw [if_neg (show ¬ (false = true) by decide)] at H; exact H
         clear H
         have H := H1
         clear H1
         exact absurd H (by simp)
       ·rw [if_neg c25] at H
        exact absurd H (by simp)
      ·rw [if_neg c23] at H
       exact absurd H (by simp)
  ·rw [if_neg c6] at H
   have c6b0 : (t344 == 0) = false := beq_eq_false_iff_ne.mpr c6
   have c6b1 : (t344 != 0) = true := bne_iff_ne.mpr c6
   obtain rfl := Option.some.inj H
   go_enter Try.func7, Try.ntmps7
   go_wp2_with (first | ((with_reducible refine gate_callee (f := 15) rfl ?_); refine goesL_ (some 17) rfl rfl Try.func15 (by kernel_rfl) rfl #[] rfl (by (try simp only [List.map_toArray, List.map_cons, List.map_nil]); first | done | rfl | (simp only [List.length_drop, List.length_take]; rfl)) ?_; (with_reducible refine (skifflaw5_awake.calls k  true _ A3.out).mono ?_); rintro e w37 ⟨rfl, hb⟩; refine ⟨_, rfl, ?_⟩; have n0_ := Aside0.mk (below_step (by repeat (first | (with_reducible first | exact HB.out | apply below_alloc | apply pw_below_drewN | apply below_drew1) | exact HB.out)) hb); clear HB; have HB := n0_; clear n0_; (try clear hb); (try clear hb2); (try clear hk); (try clear hi)) | ((with_reducible refine gate_callee (f := 18) rfl ?_); refine goesL_ (some 24) rfl rfl Try.func18 (by kernel_rfl) rfl #[.string a0, .int .i64 (Go.bits .and .i64 a1 1)] rfl (by (try simp only [List.map_toArray, List.map_cons, List.map_nil]); first | done | rfl | (simp only [List.length_drop, List.length_take]; rfl)) ?_; (with_reducible refine (skiffref1_Erase.calls a0 (Go.bits .and .i64 a1 1) t343 t344 _ A5.out).mono ?_); rintro e w38 ⟨rfl, hb⟩; refine ⟨_, rfl, ?_⟩; have n0_ := Aside0.mk (below_step (by repeat (first | (with_reducible first | exact HB.out | apply below_alloc | apply pw_below_drewN | apply below_drew1) | exact HB.out)) hb); clear HB; have HB := n0_; clear n0_; (try clear hb); (try clear hb2); (try clear hk); (try clear hi)))
   go_ret
   exact ⟨by first | rfl | (simp [errW_none, errW_some] <;> rfl) | (simp [*, errW_none, errW_some] <;> rfl), by repeat (first | (with_reducible first | exact HB.out | apply below_alloc | apply pw_below_drewN | apply below_drew1) | exact HB.out)⟩
 ·replace c4 := Bool.eq_false_iff.mpr c4
  subst c4
  have H1 : (none) = some r := by rw [if_neg (show ¬ (false = true) by decide)] at H; exact H
  clear H
  have H := H1
  clear H1
  exact absurd H (by simp)

/-- THE ONE PURE STATEMENT of skifflaw5_JournalErased: yours. -/
def skifflaw5_JournalErased.Pure : Prop := ∀ (a0 : ByteArray) (a1 : Int), a0.size ≤ 140737488351232 → (Lit.int .i64 a1).wf = true → ∃ k, skifflaw5_JournalErased.f k a0 a1 = some true
theorem skifflaw5_JournalErased.walk (P : skifflaw5_JournalErased.Pure) (a0 : ByteArray) (a1 : Int) (w : World) (w0 : a0.size ≤ 140737488351232) (w1 : (Lit.int .i64 a1).wf = true) :
  Calls Try.prog 7 #[.string a0, .int .i64 a1] w fun e w' => e = .returned (.bool true) ∧ Below w.heap.size w w' := by
 obtain ⟨k, h⟩ := P a0 a1 w0 w1
 refine (skifflaw5_JournalErased.calls k a0 a1 true w h).mono ?_
 rintro e w' ⟨rfl, hd⟩
 exact ⟨rfl, hd⟩

end Go.Proofs.Ytfjoekpgaiaifaa.P
