-- written by wip/prt.py of this repo, by the kit's print, over contracts that are proved here by hand
import Derived.Test.YtkkabmoahmaniaaPx0
import Derived.Test.YtkkabmoahmaniaaPx2
namespace Go.Proofs.Ytkkabmoahmaniaa.P
open Go.RowKit Go.Proofs.YtkkabmoahmaniaaW.PrintWords Go.Proofs.YtkkabmoahmaniaaW.PrintLast Go.Proofs.YtkkabmoahmaniaaW.PrintMore
attribute [local go_sem] max2_int min2_int max_two min_two max_three min_three max_four min_four   -- for this text's walks alone
set_option linter.unusedVariables false
set_option linter.unusedSimpArgs false

/-! ### skifflaw3_OpsMany: function 7 -/
mutual
def skifflaw3_OpsMany.l0 : Nat → Int → ByteArray → List (S23) → ByteArray → Int → Option (Bool)
 | 0, _, _, _, _, _ => none
 | k + 1, x0, x1, x5, x7, x8 => if x8 < (x5.length : Int) then (if 0 ≤ x8 then (if (rd_T23 x5 x8).f0 = true then (none) else (if ((rd_T23 x5 x8).f1) = (wrap64 (x0 + (wrap64 (4 * x8)))) then (if (((rd_T23 x5 x8).f2).size : Int) = 4 then ((ops_May.f ((rd_T23 x5 x8).f0) ((rd_T23 x5 x8).f1) ((rd_T23 x5 x8).f2)).bind fun t287 => (if t287 = true then (if x7.size + ((rd_T23 x5 x8).f2).size ≤ 9223372036854775807 then (skifflaw3_OpsMany.l0 k x0 x1 x5 (x7 ++ ((rd_T23 x5 x8).f2)) (wrap64 (x8 + 1))) else (none)) else (none))) else (none)) else (none))) else (none)) else (if (x7.size : Int) < (x1.size : Int) then (skifflaw3_OpsMany.j1 k x1 x7 true) else (if (x7.size : Int) ≥ (wrap64 ((x1.size : Int) + 4)) then (skifflaw3_OpsMany.j1 k x1 x7 true) else (if 0 ≤ (x1.size : Int) then (if (x1.size : Int) ≤ (x7.size : Int) then (skifflaw3_OpsMany.j1 k x1 x7 ((x7.extract 0 ((x1.size : Int) : Int).toNat).toList != x1.toList)) else (none)) else (none))))
def skifflaw3_OpsMany.j1 : Nat → ByteArray → ByteArray → Bool → Option (Bool)
 | 0, _, _, _ => none
 | k + 1, x1, x7, x91 => if x91 = true then (none) else (skifflaw3_OpsMany.l1 k x7 (x1.size : Int))
def skifflaw3_OpsMany.l1 : Nat → ByteArray → Int → Option (Bool)
 | 0, _, _ => none
 | k + 1, x7, x9 => if x9 < (x7.size : Int) then (if 0 ≤ x9 then (if (bt x7 x9) = 255 then (skifflaw3_OpsMany.l1 k x7 (wrap64 (x9 + 1))) else (none)) else (none)) else (some true)
end
def skifflaw3_OpsMany.f (k : Nat) (a0 : Int) (a1 : ByteArray) : Option (Bool) := (skifflaw3_awake.f k).bind fun t277 => (if t277 = true then ((ops_Words.f k a0 a1).bind fun bt278 => ((skifflaw0_Num.f bt278.2).bind fun t282 => (if t282 = 0 then (skifflaw3_OpsMany.l0 k a0 a1 bt278.1 (⟨#[]⟩ : ByteArray) 0) else (some ((bt278.1.length : Int) == 0))))) else (none))
theorem skifflaw3_OpsMany.mono_l : ∀ k, (∀ y0 y1 y2 y3 y4, LeO (skifflaw3_OpsMany.l0 k y0 y1 y2 y3 y4) (skifflaw3_OpsMany.l0 (k + 1) y0 y1 y2 y3 y4)) ∧ (∀ y0 y1 y2, LeO (skifflaw3_OpsMany.j1 k y0 y1 y2) (skifflaw3_OpsMany.j1 (k + 1) y0 y1 y2)) ∧ (∀ y0 y1, LeO (skifflaw3_OpsMany.l1 k y0 y1) (skifflaw3_OpsMany.l1 (k + 1) y0 y1))
 | 0 => ⟨fun _ _ _ _ _ r h => by simp [skifflaw3_OpsMany.l0] at h, fun _ _ _ r h => by simp [skifflaw3_OpsMany.j1] at h, fun _ _ r h => by simp [skifflaw3_OpsMany.l1] at h⟩
 | k + 1 => by
  obtain ⟨ih0, ih1, ih2⟩ := skifflaw3_OpsMany.mono_l k
  refine ⟨?_, ?_, ?_⟩
  ·intro y0 y1 y2 y3 y4
   unfold skifflaw3_OpsMany.l0
   repeat' first
   | (with_reducible exact ih0 _ _ _ _ _)
   | (with_reducible exact ih1 _ _ _)
   | (with_reducible exact ih2 _ _)
   | (with_reducible exact ops_Words.mono _ _ _)
   | (with_reducible exact skifflaw3_awake.mono _)
   | (with_reducible exact LeO.refl _)
   | (with_reducible exact LeO.none _)
   | (with_reducible refine LeO.ite ?_ ?_)
   | (with_reducible refine LeO.bind ?_ (fun _ => ?_))
   | exact ih0 _ _ _ _ _
   | exact ih1 _ _ _
   | exact ih2 _ _
   | exact ops_Words.mono _ _ _
   | exact skifflaw3_awake.mono _
   | exact LeO.none _
   | refine LeO.ite ?_ ?_
   | refine LeO.bind ?_ (fun _ => ?_)
  ·intro y0 y1 y2
   unfold skifflaw3_OpsMany.j1
   repeat' first
   | (with_reducible exact ih0 _ _ _ _ _)
   | (with_reducible exact ih1 _ _ _)
   | (with_reducible exact ih2 _ _)
   | (with_reducible exact ops_Words.mono _ _ _)
   | (with_reducible exact skifflaw3_awake.mono _)
   | (with_reducible exact LeO.refl _)
   | (with_reducible exact LeO.none _)
   | (with_reducible refine LeO.ite ?_ ?_)
   | (with_reducible refine LeO.bind ?_ (fun _ => ?_))
   | exact ih0 _ _ _ _ _
   | exact ih1 _ _ _
   | exact ih2 _ _
   | exact ops_Words.mono _ _ _
   | exact skifflaw3_awake.mono _
   | exact LeO.none _
   | refine LeO.ite ?_ ?_
   | refine LeO.bind ?_ (fun _ => ?_)
  ·intro y0 y1
   unfold skifflaw3_OpsMany.l1
   repeat' first
   | (with_reducible exact ih0 _ _ _ _ _)
   | (with_reducible exact ih1 _ _ _)
   | (with_reducible exact ih2 _ _)
   | (with_reducible exact ops_Words.mono _ _ _)
   | (with_reducible exact skifflaw3_awake.mono _)
   | (with_reducible exact LeO.refl _)
   | (with_reducible exact LeO.none _)
   | (with_reducible refine LeO.ite ?_ ?_)
   | (with_reducible refine LeO.bind ?_ (fun _ => ?_))
   | exact ih0 _ _ _ _ _
   | exact ih1 _ _ _
   | exact ih2 _ _
   | exact ops_Words.mono _ _ _
   | exact skifflaw3_awake.mono _
   | exact LeO.none _
   | refine LeO.ite ?_ ?_
   | refine LeO.bind ?_ (fun _ => ?_)
theorem skifflaw3_OpsMany.mono : ∀ a0 a1 k, LeO (skifflaw3_OpsMany.f k a0 a1) (skifflaw3_OpsMany.f (k + 1) a0 a1) := by
 intro a0 a1 k
 obtain ⟨ih0, ih1, ih2⟩ := skifflaw3_OpsMany.mono_l k
 unfold skifflaw3_OpsMany.f
 repeat' first
   | (with_reducible exact ih0 _ _ _ _ _)
   | (with_reducible exact ih1 _ _ _)
   | (with_reducible exact ih2 _ _)
   | (with_reducible exact ops_Words.mono _ _ _)
   | (with_reducible exact skifflaw3_awake.mono _)
   | (with_reducible exact LeO.refl _)
   | (with_reducible exact LeO.none _)
   | (with_reducible refine LeO.ite ?_ ?_)
   | (with_reducible refine LeO.bind ?_ (fun _ => ?_))
   | exact ih0 _ _ _ _ _
   | exact ih1 _ _ _
   | exact ih2 _ _
   | exact ops_Words.mono _ _ _
   | exact skifflaw3_awake.mono _
   | exact LeO.none _
   | refine LeO.ite ?_ ?_
   | refine LeO.bind ?_ (fun _ => ?_)
set_option maxHeartbeats 8000000 in
set_option maxRecDepth 100000 in
theorem skifflaw3_OpsMany.calls (k : Nat) (a0 : Int) (a1 : ByteArray) (r : Bool) (w : World) (h : skifflaw3_OpsMany.f k a0 a1 = some r) :
  Calls Try.prog 7 #[.int .i64 a0, .string a1] w fun e w' => e = .returned (.bool r) ∧ Below w.heap.size w w' := by
 have hu23 := Try.underlying23
 have HB := Aside0.mk (Below.refl w.heap.size w)
 have H : ((skifflaw3_awake.f k).bind fun t277 => (if t277 = true then ((ops_Words.f k a0 a1).bind fun bt278 => ((skifflaw0_Num.f bt278.2).bind fun t282 => (if t282 = 0 then (skifflaw3_OpsMany.l0 k a0 a1 bt278.1 (⟨#[]⟩ : ByteArray) 0) else (some ((bt278.1.length : Int) == 0))))) else (none))) = some r := h
 clear h
 replace H := Option.bind_eq_some_iff.mp H
 obtain ⟨t277, A30, H⟩ := H
 replace H : (if t277 = true then ((ops_Words.f k a0 a1).bind fun bt278 => ((skifflaw0_Num.f bt278.2).bind fun t282 => (if t282 = 0 then (skifflaw3_OpsMany.l0 k a0 a1 bt278.1 (⟨#[]⟩ : ByteArray) 0) else (some ((bt278.1.length : Int) == 0))))) else (none)) = some r := H
 have A3 := Aside0.mk A30
 clear A30
 by_cases c4 : t277 = true
 ·subst c4
  have H1 : ((ops_Words.f k a0 a1).bind fun bt278 => ((skifflaw0_Num.f bt278.2).bind fun t282 => (if t282 = 0 then (skifflaw3_OpsMany.l0 k a0 a1 bt278.1 (⟨#[]⟩ : ByteArray) 0) else (some ((bt278.1.length : Int) == 0))))) = some r := by rw [if_pos rfl] at H; exact H
  clear H
  have H := H1
  clear H1
  replace H := Option.bind_eq_some_iff.mp H
  obtain ⟨⟨t278, t279⟩, A50, H⟩ := H
  replace H : ((skifflaw0_Num.f t279).bind fun t282 => (if t282 = 0 then (skifflaw3_OpsMany.l0 k a0 a1 t278 (⟨#[]⟩ : ByteArray) 0) else (some ((t278.length : Int) == 0)))) = some r := H
  have A5 := Aside0.mk A50
  clear A50
  replace H := Option.bind_eq_some_iff.mp H
  obtain ⟨t282, A60, H⟩ := H
  replace H : (if t282 = 0 then (skifflaw3_OpsMany.l0 k a0 a1 t278 (⟨#[]⟩ : ByteArray) 0) else (some ((t278.length : Int) == 0))) = some r := H
  have A6 := Aside0.mk A60
  clear A60
  by_cases c7 : t282 = 0
  ·rw [if_pos c7] at H
   have c7b0 : (t282 == 0) = true := beq_iff_eq.mpr c7
   have c7b1 : (t282 != 0) = false := bne_eq_false_iff_eq.mpr c7
   clear c7
   have H' := Aside0.mk H
   clear H
   go_enter Try.func7, Try.ntmps7
   go_wp2_with (first | ((with_reducible refine gate_callee (f := 20) rfl ?_); refine goesL_ (some 10) rfl rfl Try.func20 (by kernel_rfl) rfl #[] rfl (by (try simp only [List.map_toArray, List.map_cons, List.map_nil]); first | done | rfl | (simp only [List.length_drop, List.length_take]; rfl)) ?_; (with_reducible refine (skifflaw3_awake.calls k  true _ A3.out).mono ?_); rintro e w8 ⟨rfl, hb⟩; refine ⟨_, rfl, ?_⟩; have n0_ := Aside0.mk (below_step (by repeat (first | (with_reducible first | exact HB.out | apply below_alloc | apply pw_below_drewN | apply below_drew1) | exact HB.out)) hb); clear HB; have HB := n0_; clear n0_; (try clear hb); (try clear hb2); (try clear hk); (try clear hi)) | ((with_reducible refine gate_callee (f := 9) rfl ?_); refine goesL_ (some 15) rfl rfl Try.func9 (by kernel_rfl) rfl #[.int .i64 a0, .string a1] rfl (by (try simp only [List.map_toArray, List.map_cons, List.map_nil]); first | done | rfl | (simp only [List.length_drop, List.length_take]; rfl)) ?_; (with_reducible refine (ops_Words.calls k a0 a1 t278 t279 _ A5.out).mono ?_); rintro e w9 ⟨v280, rfl, ho0, hb⟩; refine ⟨_, rfl, ?_⟩; have n0_ := Aside0.mk (Kd.R_lower ho0 (below_size (by repeat (first | (with_reducible first | exact HB.out | apply below_alloc | apply pw_below_drewN | apply below_drew1) | exact HB.out)))); have n1_ := Aside0.mk (below_step (by repeat (first | (with_reducible first | exact HB.out | apply below_alloc | apply pw_below_drewN | apply below_drew1) | exact HB.out)) hb); clear HB; have HO281 := n0_; have HB := n1_; clear n0_ n1_; (try clear hb); (try clear hb2); (try clear hk); (try clear hi); (try clear ho0)) | ((with_reducible refine gate_callee (f := 17) rfl ?_); refine goesL_ (some 19) rfl rfl Try.func17 (by kernel_rfl) rfl #[.int .i64 t279] rfl (by (try simp only [List.map_toArray, List.map_cons, List.map_nil]); first | done | rfl | (simp only [List.length_drop, List.length_take]; rfl)) ?_; (with_reducible refine (skifflaw0_Num.calls t279 t282 _ A6.out).mono ?_); rintro e w' ⟨rfl, ⟨nd, rfl⟩⟩; refine ⟨_, rfl, ?_⟩))
   go_loopg [7, 8] k (fun kq v7 v8 w' => ∃ (x7_1 : ByteArray) (x8_1 : Int), v7 = .string x7_1 ∧ v8 = .int .i64 x8_1 ∧ Aside0 (skifflaw3_OpsMany.l0 kq a0 a1 t278 x7_1 x8_1 = some r) ∧ Aside0 (kq ≤ k) ∧ Aside0 (Kd.R k23 23 w' w.heap.size (fun _ => True) v280 t278) ∧ Aside0 (Below w.heap.size w w'))
   case atStart => exact ⟨((⟨#[]⟩ : ByteArray)), (0), (by first | rfl | (simp; done) | (simp [*]; done)), (by first | rfl | (simp; done) | (simp [*]; done)), H', ⟨Nat.le_refl _⟩, ⟨by (with_reducible repeat (first | apply Kd.R_alloc | apply Kd.R_drewN | apply Kd.R_drew)); exact HO281.out⟩, ⟨by repeat (first | (with_reducible first | exact HB.out | apply below_alloc | apply pw_below_drewN | apply below_drew1) | exact HB.out)⟩⟩
   case round =>
    clear H'
    try clear c1
    try clear c2
    try clear p2
    try clear c4
    try clear c7
    try clear c7b0
    try clear c7b1
    try clear c9
    obtain ⟨x7_1, x8_1, rfl, rfl, HA, HK1, HO_5, HB⟩ := hrel
    cases gk with
    | zero => exact absurd HA.out (by simp [skifflaw3_OpsMany.l0])
    | succ k1 =>
     have H := HA.out
     clear HA
     simp only [skifflaw3_OpsMany.l0] at H
     by_cases c10 : x8_1 < (t278.length : Int)
     ·rw [if_pos c10] at H
      have c10b0 : decide (x8_1 < (t278.length : Int)) = true := decide_eq_true c10
      clear c10
      by_cases c11 : 0 ≤ x8_1
      ·rw [if_pos c11] at H
       have c11b0 : decide (0 ≤ x8_1) = true := decide_eq_true c11
       clear c11
       obtain ⟨bq12, hbq12⟩ : ∃ b_ : Bool, b_ = ((rd_T23 t278 x8_1).f0) := ⟨_, rfl⟩
       replace H : (if bq12 = true then (none) else (if ((rd_T23 t278 x8_1).f1) = (wrap64 (a0 + (wrap64 (4 * x8_1)))) then (if (((rd_T23 t278 x8_1).f2).size : Int) = 4 then ((ops_May.f (bq12) ((rd_T23 t278 x8_1).f1) ((rd_T23 t278 x8_1).f2)).bind fun t287 => (if t287 = true then (if x7_1.size + ((rd_T23 t278 x8_1).f2).size ≤ 9223372036854775807 then (skifflaw3_OpsMany.l0 k1 a0 a1 t278 (x7_1 ++ ((rd_T23 t278 x8_1).f2)) (wrap64 (x8_1 + 1))) else (none)) else (none))) else (none)) else (none))) = some r := by rw [← hbq12] at H; exact H
       have Nbq12 := Aside0.mk hbq12
       clear hbq12
       by_cases c13 : bq12 = true
       ·subst c13
        have H1 : (none) = some r := by rw [if_pos rfl] at H; exact H
        clear H
        have H := H1
        clear H1
        exact absurd H (by simp)
       ·replace c13 := Bool.eq_false_iff.mpr c13
        subst c13
        have H1 : (if ((rd_T23 t278 x8_1).f1) = (wrap64 (a0 + (wrap64 (4 * x8_1)))) then (if (((rd_T23 t278 x8_1).f2).size : Int) = 4 then ((ops_May.f (false) ((rd_T23 t278 x8_1).f1) ((rd_T23 t278 x8_1).f2)).bind fun t287 => (if t287 = true then (if x7_1.size + ((rd_T23 t278 x8_1).f2).size ≤ 9223372036854775807 then (skifflaw3_OpsMany.l0 k1 a0 a1 t278 (x7_1 ++ ((rd_T23 t278 x8_1).f2)) (wrap64 (x8_1 + 1))) else (none)) else (none))) else (none)) else (none)) = some r := by rw [if_neg (show ¬ (false = true) by decide)] at H; exact H
        clear H
        have H := H1
        clear H1
        by_cases c14 : ((rd_T23 t278 x8_1).f1) = (wrap64 (a0 + (wrap64 (4 * x8_1))))
        ·rw [if_pos c14] at H
         have c14b0 : (((rd_T23 t278 x8_1).f1) == (wrap64 (a0 + (wrap64 (4 * x8_1))))) = true := beq_iff_eq.mpr c14
         have c14b1 : (((rd_T23 t278 x8_1).f1) != (wrap64 (a0 + (wrap64 (4 * x8_1))))) = false := bne_eq_false_iff_eq.mpr c14
         clear c14
         by_cases c15 : (((rd_T23 t278 x8_1).f2).size : Int) = 4
         ·rw [if_pos c15] at H
          have c15b0 : ((((rd_T23 t278 x8_1).f2).size : Int) == 4) = true := beq_iff_eq.mpr c15
          have c15b1 : ((((rd_T23 t278 x8_1).f2).size : Int) != 4) = false := bne_eq_false_iff_eq.mpr c15
          clear c15
          replace H := Option.bind_eq_some_iff.mp H
          obtain ⟨t287, A160, H⟩ := H
          replace H : (if t287 = true then (if x7_1.size + ((rd_T23 t278 x8_1).f2).size ≤ 9223372036854775807 then (skifflaw3_OpsMany.l0 k1 a0 a1 t278 (x7_1 ++ ((rd_T23 t278 x8_1).f2)) (wrap64 (x8_1 + 1))) else (none)) else (none)) = some r := H
          have A16 := Aside0.mk A160
          clear A160
          by_cases c17 : t287 = true
          ·subst c17
           have H1 : (if x7_1.size + ((rd_T23 t278 x8_1).f2).size ≤ 9223372036854775807 then (skifflaw3_OpsMany.l0 k1 a0 a1 t278 (x7_1 ++ ((rd_T23 t278 x8_1).f2)) (wrap64 (x8_1 + 1))) else (none)) = some r := by rw [if_pos rfl] at H; exact H
           clear H
           have H := H1
           clear H1
           by_cases c18 : x7_1.size + ((rd_T23 t278 x8_1).f2).size ≤ 9223372036854775807
           ·rw [if_pos c18] at H
            have c18b0 := eq_true c18
            have c18b1 : decide (x7_1.size + ((rd_T23 t278 x8_1).f2).size ≤ 9223372036854775807) = true := decide_eq_true c18
            try have c18b2 : (9223372036854775807 < x7_1.size + ((rd_T23 t278 x8_1).f2).size) = False := eq_false (Nat.not_lt.2 c18)
            have H' := Aside0.mk H
            clear H
            obtain ⟨Ao19, co19, eo19⟩ := Kd.R_slice HO_5.out
            subst eo19
            have p283 : 0 ≤ (x8_1 : Int) := of_decide_eq_true (by first | (with_reducible assumption) | assumption)
            have q283 : x8_1 < (t278.length : Int) := of_decide_eq_true (by first | (with_reducible assumption) | assumption)
            obtain ⟨ad283, e283, hx283_0, hx283_1, hx283_2⟩ := at_T23 (Kd.R_reads' HO_5.out).2.2 x8_1 p283 q283
            (try rw [← Nbq12.out] at hx283_0)
            cases e283
            replace p283 := eq_true p283
            replace q283 := eq_true q283
            have p284 : 0 ≤ (x8_1 : Int) := of_decide_eq_true (by first | (with_reducible assumption) | assumption)
            have q284 : x8_1 < (t278.length : Int) := of_decide_eq_true (by first | (with_reducible assumption) | assumption)
            obtain ⟨ad284, e284, hx284_0, hx284_1, hx284_2⟩ := at_T23 (Kd.R_reads' HO_5.out).2.2 x8_1 p284 q284
            (try rw [← Nbq12.out] at hx284_0)
            obtain rfl : ad283 = ad284 := (by injection e284)
            replace p284 := eq_true p284
            replace q284 := eq_true q284
            have p285 : 0 ≤ (x8_1 : Int) := of_decide_eq_true (by first | (with_reducible assumption) | assumption)
            have q285 : x8_1 < (t278.length : Int) := of_decide_eq_true (by first | (with_reducible assumption) | assumption)
            obtain ⟨ad285, e285, hx285_0, hx285_1, hx285_2⟩ := at_T23 (Kd.R_reads' HO_5.out).2.2 x8_1 p285 q285
            (try rw [← Nbq12.out] at hx285_0)
            obtain rfl : ad283 = ad285 := (by injection e285)
            replace p285 := eq_true p285
            replace q285 := eq_true q285
            have p286 : 0 ≤ (x8_1 : Int) := of_decide_eq_true (by first | (with_reducible assumption) | assumption)
            have q286 : x8_1 < (t278.length : Int) := of_decide_eq_true (by first | (with_reducible assumption) | assumption)
            obtain ⟨ad286, e286, hx286_0, hx286_1, hx286_2⟩ := at_T23 (Kd.R_reads' HO_5.out).2.2 x8_1 p286 q286
            (try rw [← Nbq12.out] at hx286_0)
            obtain rfl : ad283 = ad286 := (by injection e286)
            replace p286 := eq_true p286
            replace q286 := eq_true q286
            go_wp2_with (first | (go_at_call 18; (with_reducible refine (ops_May.calls false ((rd_T23 t278 x8_1).f1) ((rd_T23 t278 x8_1).f2) true _ A16.out).mono ?_); rintro e w20 ⟨rfl, hb⟩; have n0_ := Aside0.mk (Kd.R_below (by (with_reducible repeat (first | apply Kd.R_alloc | apply Kd.R_drewN | apply Kd.R_drew)); exact HO_5.out) hb); have n1_ := Aside0.mk (below_step (by repeat (first | (with_reducible first | exact HB.out | apply below_alloc | apply pw_below_drewN | apply below_drew1) | exact HB.out)) hb); clear HO_5; clear HB; have HO_5 := n0_; have HB := n1_; clear n0_ n1_; (try clear hb); (try clear hb2); (try clear hk); (try clear hi); have p288 : 0 ≤ (x8_1 : Int) := of_decide_eq_true (by first | (with_reducible assumption) | assumption); have q288 : x8_1 < (t278.length : Int) := of_decide_eq_true (by first | (with_reducible assumption) | assumption); obtain ⟨ad288, e288, hx288_0, hx288_1, hx288_2⟩ := at_T23 (Kd.R_reads' HO_5.out).2.2 x8_1 p288 q288; (try rw [← Nbq12.out] at hx288_0); obtain rfl : ad283 = ad288 := (by injection e288); replace p288 := eq_true p288; replace q288 := eq_true q288))
            go_roundg k1
            case measure => have := HK1.out; omega
            case rel => exact ⟨(x7_1 ++ ((rd_T23 t278 x8_1).f2)), (wrap64 (x8_1 + 1)), (by first | rfl | (simp; done) | (simp [*]; done)), (by first | rfl | (simp; done) | (simp [*]; done)), H', ⟨by have := HK1.out; omega⟩, ⟨by (with_reducible repeat (first | apply Kd.R_alloc | apply Kd.R_drewN | apply Kd.R_drew)); exact HO_5.out⟩, ⟨by repeat (first | (with_reducible first | exact HB.out | apply below_alloc | apply pw_below_drewN | apply below_drew1) | exact HB.out)⟩⟩
           ·rw [if_neg c18] at H
            exact absurd H (by simp)
          ·replace c17 := Bool.eq_false_iff.mpr c17
           subst c17
           have H1 : (none) = some r := by rw [if_neg (show ¬ (false = true) by decide)] at H; exact H
           clear H
           have H := H1
           clear H1
           exact absurd H (by simp)
         ·rw [if_neg c15] at H
          exact absurd H (by simp)
        ·rw [if_neg c14] at H
         exact absurd H (by simp)
      ·rw [if_neg c11] at H
       exact absurd H (by simp)
     ·rw [if_neg c10] at H
      have c10b0 : decide (x8_1 < (t278.length : Int)) = false := decide_eq_false c10
      clear c10
      have HC21 := Aside0.mk H
      clear H
      obtain ⟨Ao22, co22, eo22⟩ := Kd.R_slice HO_5.out
      subst eo22
      go_upto_region 13 with (fail)
      go_cut [91] (fun v91 wc => ∃ (kq : Nat) (x91_20 : Bool), v91 = .bool x91_20 ∧ Aside0 (skifflaw3_OpsMany.j1 kq a1 x7_1 x91_20 = some r) ∧ Aside0 (kq ≤ k1) ∧ Aside0 (Below w.heap.size w wc))
      case first =>
       have H := HC21.out
       clear HC21
       by_cases c23 : (x7_1.size : Int) < (a1.size : Int)
       ·rw [if_pos c23] at H
        have c23b0 : decide ((x7_1.size : Int) < (a1.size : Int)) = true := decide_eq_true c23
        have c23b1 : decide (x7_1.size < a1.size) = true := decide_eq_true (Int.ofNat_lt.mp c23)
        clear c23
        (first | rw [c23b0] | (simp only [i64_w, i32_w]; rw [c23b0]) | skip)
        have H' := Aside0.mk H
        clear H
        go_wp2
        go_meet
        case rel => exact ⟨_, (true), (by first | rfl | (simp; done) | (simp [*]; done)), H', ⟨by have := HK1.out; first | omega | exact Nat.le_refl _⟩, ⟨by repeat (first | (with_reducible first | exact HB.out | apply below_alloc | apply pw_below_drewN | apply below_drew1) | exact HB.out)⟩⟩
       ·rw [if_neg c23] at H
        have c23b0 : decide ((x7_1.size : Int) < (a1.size : Int)) = false := decide_eq_false c23
        have c23b1 : decide (x7_1.size < a1.size) = false := decide_eq_false (fun h => c23 (Int.ofNat_lt.mpr h))
        clear c23
        (first | rw [c23b0] | (simp only [i64_w, i32_w]; rw [c23b0]) | skip)
        by_cases c24 : (x7_1.size : Int) ≥ (wrap64 ((a1.size : Int) + 4))
        ·rw [if_pos c24] at H
         have c24b0 : decide ((wrap64 ((a1.size : Int) + 4)) ≤ (x7_1.size : Int)) = true := decide_eq_true c24
         clear c24
         have H' := Aside0.mk H
         clear H
         go_wp2
         go_meet
         case rel => exact ⟨_, (true), (by first | rfl | (simp; done) | (simp [*]; done)), H', ⟨by have := HK1.out; first | omega | exact Nat.le_refl _⟩, ⟨by repeat (first | (with_reducible first | exact HB.out | apply below_alloc | apply pw_below_drewN | apply below_drew1) | exact HB.out)⟩⟩
        ·rw [if_neg c24] at H
         have c24b0 : decide ((wrap64 ((a1.size : Int) + 4)) ≤ (x7_1.size : Int)) = false := decide_eq_false c24
         clear c24
         by_cases c25 : 0 ≤ (a1.size : Int)
         ·rw [if_pos c25] at H
          have c25b0 := eq_true c25
          have c25b1 : decide (0 ≤ (a1.size : Int)) = true := decide_eq_true c25
          clear c25
          by_cases c26 : (a1.size : Int) ≤ (x7_1.size : Int)
          ·rw [if_pos c26] at H
           have c26b0 := eq_true c26
           have c26b1 : decide ((a1.size : Int) ≤ (x7_1.size : Int)) = true := decide_eq_true c26
           clear c26
           have H' := Aside0.mk H
           clear H
           go_wp2
           go_meet
           case rel => exact ⟨_, (((x7_1.extract 0 ((a1.size : Int) : Int).toNat).toList != a1.toList)), (by first | rfl | (simp; done) | (simp [*]; done)), H', ⟨by have := HK1.out; first | omega | exact Nat.le_refl _⟩, ⟨by repeat (first | (with_reducible first | exact HB.out | apply below_alloc | apply pw_below_drewN | apply below_drew1) | exact HB.out)⟩⟩
          ·rw [if_neg c26] at H
           exact absurd H (by simp)
         ·rw [if_neg c25] at H
          exact absurd H (by simp)
      case rest =>
       clear HC21
       try clear c1
       try clear q1
       try clear c2
       try clear p2
       try clear q2
       try clear hx2
       try clear c4
       try clear p6
       try clear c7
       try clear c7b0
       try clear c7b1
       try clear c9
       try clear c10
       try clear c10b0
       try clear c11
       try clear c11b0
       try clear q12
       try clear c13
       try clear c14
       try clear c14b0
       try clear c14b1
       try clear c15
       try clear c15b0
       try clear c15b1
       try clear c17
       try clear c18
       try clear c18b0
       try clear c18b1
       try clear c18b2
       try clear c20
       try clear c23
       try clear c23b0
       try clear c23b1
       try clear c24
       try clear c24b0
       try clear c25
       try clear c25b0
       try clear c25b1
       try clear c26
       try clear c26b0
       try clear c26b1
       try clear hx283_0
       try clear hx283_1
       try clear hx283_2
       try clear hx284_0
       try clear hx284_1
       try clear hx284_2
       try clear hx285_0
       try clear hx285_1
       try clear hx285_2
       try clear hx286_0
       try clear hx286_1
       try clear hx286_2
       try clear hx288_0
       try clear hx288_1
       try clear hx288_2
       try clear p2
       try clear p283
       try clear p284
       try clear p285
       try clear p286
       try clear p288
       try clear q283
       try clear q284
       try clear q285
       try clear q286
       try clear q288
       obtain ⟨kq, x91_20, rfl, HA, HJ20, HB⟩ := hcut
       cases kq with
       | zero => exact absurd HA.out (by simp [skifflaw3_OpsMany.j1])
       | succ kj20 =>
        have H := HA.out
        clear HA
        simp only [skifflaw3_OpsMany.j1] at H
        by_cases c27 : x91_20 = true
        ·subst c27
         have H1 : (none) = some r := by rw [if_pos rfl] at H; exact H
         clear H
         have H := H1
         clear H1
         exact absurd H (by simp)
        ·replace c27 := Bool.eq_false_iff.mpr c27
         subst c27
         have H1 : (skifflaw3_OpsMany.l1 kj20 x7_1 (a1.size : Int)) = some r := by rw [if_neg (show ¬ (false = true) by decide)] at H; exact H
         clear H
         have H := H1
         clear H1
         have H' := Aside0.mk H
         clear H
         go_wp2
         go_loopg [9] kj20 (fun kq v9 w' => ∃ (x9_3 : Int), v9 = .int .i64 x9_3 ∧ Aside0 (skifflaw3_OpsMany.l1 kq x7_1 x9_3 = some r) ∧ Aside0 (kq ≤ kj20) ∧ Aside0 (Below w.heap.size w w'))
         case atStart => exact ⟨((a1.size : Int)), (by first | rfl | (simp; done) | (simp [*]; done)), H', ⟨Nat.le_refl _⟩, ⟨by repeat (first | (with_reducible first | exact HB.out | apply below_alloc | apply pw_below_drewN | apply below_drew1) | exact HB.out)⟩⟩
         case round =>
          clear H'
          try clear c1
          try clear q1
          try clear c2
          try clear p2
          try clear q2
          try clear hx2
          try clear c4
          try clear p6
          try clear c7
          try clear c7b0
          try clear c7b1
          try clear c9
          try clear c10
          try clear c10b0
          try clear c11
          try clear c11b0
          try clear q12
          try clear c13
          try clear c14
          try clear c14b0
          try clear c14b1
          try clear c15
          try clear c15b0
          try clear c15b1
          try clear c17
          try clear c18
          try clear c18b0
          try clear c18b1
          try clear c18b2
          try clear c20
          try clear c23
          try clear c23b0
          try clear c23b1
          try clear c24
          try clear c24b0
          try clear c25
          try clear c25b0
          try clear c25b1
          try clear c26
          try clear c26b0
          try clear c26b1
          try clear c27
          try clear hx283_0
          try clear hx283_1
          try clear hx283_2
          try clear hx284_0
          try clear hx284_1
          try clear hx284_2
          try clear hx285_0
          try clear hx285_1
          try clear hx285_2
          try clear hx286_0
          try clear hx286_1
          try clear hx286_2
          try clear hx288_0
          try clear hx288_1
          try clear hx288_2
          try clear p2
          try clear p283
          try clear p284
          try clear p285
          try clear p286
          try clear p288
          try clear p6
          try clear q1
          try clear q12
          try clear q2
          try clear q283
          try clear q284
          try clear q285
          try clear q286
          try clear q288
          obtain ⟨x9_3, rfl, HA, HK3, HB⟩ := hrel
          cases gk with
          | zero => exact absurd HA.out (by simp [skifflaw3_OpsMany.l1])
          | succ k3 =>
           have H := HA.out
           clear HA
           simp only [skifflaw3_OpsMany.l1] at H
           by_cases c28 : x9_3 < (x7_1.size : Int)
           ·rw [if_pos c28] at H
            have c28b0 : decide (x9_3 < (x7_1.size : Int)) = true := decide_eq_true c28
            clear c28
            by_cases c29 : 0 ≤ x9_3
            ·rw [if_pos c29] at H
             have c29b0 : decide (0 ≤ x9_3) = true := decide_eq_true c29
             clear c29
             by_cases c31 : (bt x7_1 x9_3) = 255
             ·rw [if_pos c31] at H
              have c31b0 : ((bt x7_1 x9_3) == 255) = true := beq_iff_eq.mpr c31
              have c31b1 : ((bt x7_1 x9_3) != 255) = false := bne_eq_false_iff_eq.mpr c31
              clear c31
              have H' := Aside0.mk H
              clear H
              have p30 : 0 ≤ (x9_3 : Int) := of_decide_eq_true (by first | (with_reducible assumption) | assumption)
              have q30 : x9_3 < (x7_1.size : Int) := of_decide_eq_true (by first | (with_reducible assumption) | assumption)
              have hx30 := bt_at x7_1 x9_3
              replace p30 := eq_true p30
              replace q30 := eq_true q30
              go_wp2
              go_roundg k3
              case measure => have := HK1.out; have := HJ20.out; have := HK3.out; omega
              case rel => exact ⟨(wrap64 (x9_3 + 1)), (by first | rfl | (simp; done) | (simp [*]; done)), H', ⟨by have := HK1.out; have := HJ20.out; have := HK3.out; omega⟩, ⟨by repeat (first | (with_reducible first | exact HB.out | apply below_alloc | apply pw_below_drewN | apply below_drew1) | exact HB.out)⟩⟩
             ·rw [if_neg c31] at H
              exact absurd H (by simp)
            ·rw [if_neg c29] at H
             exact absurd H (by simp)
           ·rw [if_neg c28] at H
            have c28b0 : decide (x9_3 < (x7_1.size : Int)) = false := decide_eq_false c28
            clear c28
            obtain rfl := Option.some.inj H
            go_wp2
            go_ret
            exact ⟨by first | rfl | (simp [errW_none, errW_some] <;> rfl) | (simp [*, errW_none, errW_some] <;> rfl), by repeat (first | (with_reducible first | exact HB.out | apply below_alloc | apply pw_below_drewN | apply below_drew1) | exact HB.out)⟩
  ·rw [if_neg c7] at H
   have c7b0 : (t282 == 0) = false := beq_eq_false_iff_ne.mpr c7
   have c7b1 : (t282 != 0) = true := bne_iff_ne.mpr c7
   obtain rfl := Option.some.inj H
   go_enter Try.func7, Try.ntmps7
   go_wp2_with (first | ((with_reducible refine gate_callee (f := 20) rfl ?_); refine goesL_ (some 10) rfl rfl Try.func20 (by kernel_rfl) rfl #[] rfl (by (try simp only [List.map_toArray, List.map_cons, List.map_nil]); first | done | rfl | (simp only [List.length_drop, List.length_take]; rfl)) ?_; (with_reducible refine (skifflaw3_awake.calls k  true _ A3.out).mono ?_); rintro e w32 ⟨rfl, hb⟩; refine ⟨_, rfl, ?_⟩; have n0_ := Aside0.mk (below_step (by repeat (first | (with_reducible first | exact HB.out | apply below_alloc | apply pw_below_drewN | apply below_drew1) | exact HB.out)) hb); clear HB; have HB := n0_; clear n0_; (try clear hb); (try clear hb2); (try clear hk); (try clear hi)) | ((with_reducible refine gate_callee (f := 9) rfl ?_); refine goesL_ (some 15) rfl rfl Try.func9 (by kernel_rfl) rfl #[.int .i64 a0, .string a1] rfl (by (try simp only [List.map_toArray, List.map_cons, List.map_nil]); first | done | rfl | (simp only [List.length_drop, List.length_take]; rfl)) ?_; (with_reducible refine (ops_Words.calls k a0 a1 t278 t279 _ A5.out).mono ?_); rintro e w33 ⟨v280, rfl, ho0, hb⟩; refine ⟨_, rfl, ?_⟩; have n0_ := Aside0.mk (Kd.R_lower ho0 (below_size (by repeat (first | (with_reducible first | exact HB.out | apply below_alloc | apply pw_below_drewN | apply below_drew1) | exact HB.out)))); have n1_ := Aside0.mk (below_step (by repeat (first | (with_reducible first | exact HB.out | apply below_alloc | apply pw_below_drewN | apply below_drew1) | exact HB.out)) hb); clear HB; have HO281 := n0_; have HB := n1_; clear n0_ n1_; (try clear hb); (try clear hb2); (try clear hk); (try clear hi); (try clear ho0)) | ((with_reducible refine gate_callee (f := 17) rfl ?_); refine goesL_ (some 19) rfl rfl Try.func17 (by kernel_rfl) rfl #[.int .i64 t279] rfl (by (try simp only [List.map_toArray, List.map_cons, List.map_nil]); first | done | rfl | (simp only [List.length_drop, List.length_take]; rfl)) ?_; (with_reducible refine (skifflaw0_Num.calls t279 t282 _ A6.out).mono ?_); rintro e w' ⟨rfl, ⟨nd, rfl⟩⟩; refine ⟨_, rfl, ?_⟩; obtain ⟨Ao34, co34, eo34⟩ := Kd.R_slice HO281.out; subst eo34))
   go_ret
   exact ⟨by first | rfl | (simp [errW_none, errW_some] <;> rfl) | (simp [*, errW_none, errW_some] <;> rfl), by repeat (first | (with_reducible first | exact HB.out | apply below_alloc | apply pw_below_drewN | apply below_drew1) | exact HB.out)⟩
 ·replace c4 := Bool.eq_false_iff.mpr c4
  subst c4
  have H1 : (none) = some r := by rw [if_neg (show ¬ (false = true) by decide)] at H; exact H
  clear H
  have H := H1
  clear H1
  exact absurd H (by simp)

/-- THE ONE PURE STATEMENT of skifflaw3_OpsMany: yours. -/
def skifflaw3_OpsMany.Pure : Prop := ∀ (a0 : Int) (a1 : ByteArray), (Lit.int .i64 a0).wf = true → a1.size ≤ 140737488351232 → ∃ k, skifflaw3_OpsMany.f k a0 a1 = some true
theorem skifflaw3_OpsMany.walk (P : skifflaw3_OpsMany.Pure) (a0 : Int) (a1 : ByteArray) (w : World) (w0 : (Lit.int .i64 a0).wf = true) (w1 : a1.size ≤ 140737488351232) :
  Calls Try.prog 7 #[.int .i64 a0, .string a1] w fun e w' => e = .returned (.bool true) ∧ Below w.heap.size w w' := by
 obtain ⟨k, h⟩ := P a0 a1 w0 w1
 refine (skifflaw3_OpsMany.calls k a0 a1 true w h).mono ?_
 rintro e w' ⟨rfl, hd⟩
 exact ⟨rfl, hd⟩

end Go.Proofs.Ytkkabmoahmaniaa.P
