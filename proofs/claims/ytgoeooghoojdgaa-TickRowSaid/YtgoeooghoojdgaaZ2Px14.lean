-- written by wip/prt.py of this repo, by the kit's print, over contracts that are proved here by hand
import Derived.Test.YtgoeooghoojdgaaZ2Cz
import Derived.Test.YtgoeooghoojdgaaZ2Px0
import Derived.Test.YtgoeooghoojdgaaZ2Px5
import Derived.Test.YtgoeooghoojdgaaZ2Px6
import Derived.Test.YtgoeooghoojdgaaZ2Px7
import Derived.Test.YtgoeooghoojdgaaZ2Px8
namespace Go.Proofs.Ytgoeooghoojdgaa.P
open Go.RowKit Go.Proofs.YtgoeooghoojdgaaW.PrintWords Go.Proofs.YtgoeooghoojdgaaW.PrintLast Go.Proofs.YtgoeooghoojdgaaW.PrintMore
attribute [local go_sem] max2_int min2_int max_two min_two max_three min_three max_four min_four   -- for this text's walks alone
set_option linter.unusedVariables false
set_option linter.unusedSimpArgs false

/-! ### skifflaw18_TickRow: function 8 -/
mutual
def skifflaw18_TickRow.j0 : Nat → ByteArray → Int → Int → List (S40) → List (S40) → Bool → Option (Bool)
 | 0, _, _, _, _, _, _ => none
 | k + 1, x0, x1, x2, x7, x9, x42 => if x42 = true then (some true) else ((some (([] : List (S40)) : List (S40))).bind fun y726 => (if y726.length + x7.length < 4398046511104 then ((some (y726 ++ x7 : List (S40))).bind fun y729 => (if y729.length + x9.length < 4398046511104 then ((some (y729 ++ x9 : List (S40))).bind fun y732 => (if (IntKind.u64.wrap ((y732.length : Int))) = 0 then (none) else ((skiffref1_Blank.f).bind fun t735 => (skifflaw18_TickRow.l0 k x0 x2 y732 (wrap64 (Int.tmod (IntKind.u64.wrap (x1)) (IntKind.u64.wrap ((y732.length : Int))))) t735 0 2 0 0 0 0 y732)))) else (none))) else (none)))
def skifflaw18_TickRow.l0 : Nat → ByteArray → Int → List (S40) → Int → ByteArray → Int → Int → Int → Int → Int → Int → List (S40) → Option (Bool)
 | 0, _, _, _, _, _, _, _, _, _, _, _, _ => none
 | k + 1, x0, x2, x11, x12, x13, x15, x737000, x737001, x737002, x737003, x737004, x737005 => if x15 < x12 then ((tick_Step.f k x13 x737000 x737001 x737002 x737003 x737004 x737005).bind fun bt737 => ((skifflaw0_Num.f bt737.2.2.2.2.2.2.2).bind fun t748 => (if t748 = 0 then (skifflaw18_TickRow.l0 k x0 x2 x11 x12 bt737.1 (wrap64 (x15 + 1)) bt737.2.1 bt737.2.2.1 bt737.2.2.2.1 bt737.2.2.2.2.1 bt737.2.2.2.2.2.1 bt737.2.2.2.2.2.2.1) else (none)))) else ((tick_Cut.f k x13 x737000 x737001 x737002 x737003 x737004 x737005 (wrap64 (Int.tmod (IntKind.u64.wrap (x2)) 97))).bind fun bt749 => (skifflaw18_TickRow.l1 k x0 x11 bt749.1 bt749.2.2.2.2.2.2.2 0 2 0 0 0 0 x11))
def skifflaw18_TickRow.l1 : Nat → ByteArray → List (S40) → ByteArray → Int → Int → Int → Int → Int → Int → Int → List (S40) → Option (Bool)
 | 0, _, _, _, _, _, _, _, _, _, _, _ => none
 | k + 1, x0, x11, x13, x20, x21, x737000, x737001, x737002, x737003, x737004, x737005 => if x21 < (x11.length : Int) then ((tick_Step.f k x13 x737000 x737001 x737002 x737003 x737004 x737005).bind fun bt760 => ((skifflaw0_Num.f bt760.2.2.2.2.2.2.2).bind fun t771 => (if t771 = 0 then (skifflaw18_TickRow.l1 k x0 x11 bt760.1 x20 (wrap64 (x21 + 1)) bt760.2.1 bt760.2.2.1 bt760.2.2.2.1 bt760.2.2.2.2.1 bt760.2.2.2.2.2.1 bt760.2.2.2.2.2.2.1) else (none)))) else ((skifflaw0_Num.f x20).bind fun t772 => (if t772 = 0 then (if (x13.size : Int) = 768 then (if 192 ≤ (wrap64 (192 + (x0.size : Int))) then (if (wrap64 (192 + (x0.size : Int))) ≤ (x13.size : Int) then (if (x13.extract 192 ((wrap64 (192 + (x0.size : Int))) : Int).toNat).toList = x0.toList then (if 0 ≤ 192 then (if 192 ≤ (x13.size : Int) then ((skiffref1_Blank.f).bind fun t773 => (if 192 ≤ (t773.size : Int) then (if (x13.extract 0 192).toList = (t773.extract 0 192).toList then (if 0 ≤ (wrap64 (192 + (x0.size : Int))) then ((skiffref1_Blank.f).bind fun t774 => (if (wrap64 (192 + (x0.size : Int))) ≤ (t774.size : Int) then (if (x13.extract ((wrap64 (192 + (x0.size : Int))) : Int).toNat x13.size).toList = (t774.extract ((wrap64 (192 + (x0.size : Int))) : Int).toNat t774.size).toList then (if x737000 = 1 then ((skifflaw18_sent.f k).bind fun bt775 => (some ((bt775.2.2.2.2.2.length : Int) == 11))) else (none)) else (none)) else (none))) else (none)) else (none)) else (none))) else (none)) else (none)) else (none)) else (none)) else (none)) else (none)) else (none)))
end
def skifflaw18_TickRow.f (k : Nat) (a0 : ByteArray) (a1 : Int) (a2 : Int) : Option (Bool) := (skifflaw18_awake.f k).bind fun t717 => (if t717 = true then ((skiffref1_Erases.f k 0).bind fun bt718 => ((skiffref1_Words.f k 192 a0).bind fun bt722 => (if bt722.2 = 0 then (skifflaw18_TickRow.j0 k a0 a1 a2 bt718.1 bt722.1 (decide ((a0.size : Int) > 288))) else (skifflaw18_TickRow.j0 k a0 a1 a2 bt718.1 bt722.1 true)))) else (none))
def skifflaw18_TickRow.T30 : Bool × List (List Nat × List Nat) := (true, [([], []), ([0], [0]), ([1], [1]), ([2, 1], [2]), ([3], [3]), ([4, 3], [3, 4]), ([5, 3], [3, 5]), ([3, 6], [3, 6]), ([7, 3], [7]), ([8], [8]), ([8], [8]), ([10, 8], [8, 10]), ([11, 8], [8, 11]), ([9, 12, 8], [8, 9, 12]), ([8], [8]), ([13, 14, 8], [8, 13, 14]), ([8, 15], [8, 15]), ([16, 8], [16]), ([17], [17]), ([18, 17], [17, 18]), ([17, 17], [17]), ([20, 17], [17, 20]), ([19, 21, 17], [17, 19, 21]), ([17, 22], [17, 22]), ([23, 20], [23]), ([24], [24]), ([24], [24]), ([26, 24], [24, 26]), ([27, 24], [24, 27]), ([25, 28, 24], [24, 25, 28]), ([24, 24], [24]), ([24], [24]), ([31, 24], [24, 31]), ([32, 24], [24, 32]), ([30, 33, 24], [24, 30, 33]), ([29, 34, 24], [24, 29, 34]), ([24, 35], [24, 35]), ([36, 30], [36]), ([37], [37]), ([38, 37], [37, 38]), ([39, 37], [37, 39]), ([37, 40], [37, 40]), ([41, 37], [41]), ([42, 42], [42]), ([43, 42], [42, 43]), ([44, 42], [42, 44]), ([45, 42], [42, 45]), ([42, 46], [42, 46]), ([47, 43, 0, 1, 2, 3, 4, 5, 6, 7, 8, 9, 10, 11, 12, 13, 14, 15, 16, 17, 18, 19, 20, 21, 22, 23, 24, 25, 26, 27, 28, 29, 30, 31, 32, 33, 34, 35, 36, 37, 38, 39, 40, 41, 42, 43, 44, 45, 46, 47], [47])])
def skifflaw18_TickRow.B30 : List Nat := [0, 1, 3, 7, 15, 31, 63, 127, 255, 511, 511, 1535, 3583, 8191, 511, 32767, 65535, 131071, 262143, 524287, 262143, 1310719, 4194303, 8388607, 16777215, 33554431, 33554431, 100663295, 234881023, 536870911, 33554431, 33554431, 2181038079, 6476005375, 16139681791, 34359738367, 68719476735, 137438953471, 274877906943, 549755813887, 1099511627775, 2199023255551, 4398046511103, 8796093022207, 17592186044415, 35184372088831, 70368744177663, 140737488355327, 281474976710655]
theorem skifflaw18_TickRow.tab30 : rtab .any (opsOf Try.f8 30) = skifflaw18_TickRow.T30 := by kernel_rfl
theorem skifflaw18_TickRow.bits30 : waitsOk skifflaw18_TickRow.T30.2 skifflaw18_TickRow.B30 = true := by kernel_rfl
set_option maxHeartbeats 80000000 in
set_option maxRecDepth 100000 in
theorem skifflaw18_TickRow.calls (k : Nat) (a0 : ByteArray) (a1 : Int) (a2 : Int) (r : Bool) (w : World) (h : skifflaw18_TickRow.f k a0 a1 a2 = some r) :
  Calls Try.prog 8 #[.string a0, .int .i64 a1, .int .i64 a2] w fun e w' => e = .returned (.bool r) ∧ Below w.heap.size w w' := by
 have hu24 := Try.underlying24
 have hfld : ∀ (w : World) (a0 a1 a2 a3 a4 : Int) (v : Value), (Instr.field 24 (.agg #[.int .i64 a0, .int .i64 a1, .int .i64 a2, .int .i64 a3, .int .i64 a4, v]) 5).run Try.prog w = .ok v w := by intro w a0 a1 a2 a3 a4 v; kernel_rfl
 have HB := Aside0.mk (Below.refl w.heap.size w)
 have H : ((skifflaw18_awake.f k).bind fun t717 => (if t717 = true then ((skiffref1_Erases.f k 0).bind fun bt718 => ((skiffref1_Words.f k 192 a0).bind fun bt722 => (if bt722.2 = 0 then (skifflaw18_TickRow.j0 k a0 a1 a2 bt718.1 bt722.1 (decide ((a0.size : Int) > 288))) else (skifflaw18_TickRow.j0 k a0 a1 a2 bt718.1 bt722.1 true)))) else (none))) = some r := h
 clear h
 replace H := Option.bind_eq_some_iff.mp H
 obtain ⟨t717, A40, H⟩ := H
 replace H : (if t717 = true then ((skiffref1_Erases.f k 0).bind fun bt718 => ((skiffref1_Words.f k 192 a0).bind fun bt722 => (if bt722.2 = 0 then (skifflaw18_TickRow.j0 k a0 a1 a2 bt718.1 bt722.1 (decide ((a0.size : Int) > 288))) else (skifflaw18_TickRow.j0 k a0 a1 a2 bt718.1 bt722.1 true)))) else (none)) = some r := H
 have A4 := Aside0.mk A40
 clear A40
 by_cases c5 : t717 = true
 case neg =>
  replace c5 := Bool.eq_false_iff.mpr c5
  subst c5
  have H1 : (none) = some r := by rw [if_neg (show ¬ (false = true) by decide)] at H; exact H
  clear H; have H := H1; clear H1
  exact absurd H (by simp)
 subst c5
 have H1 : ((skiffref1_Erases.f k 0).bind fun bt718 => ((skiffref1_Words.f k 192 a0).bind fun bt722 => (if bt722.2 = 0 then (skifflaw18_TickRow.j0 k a0 a1 a2 bt718.1 bt722.1 (decide ((a0.size : Int) > 288))) else (skifflaw18_TickRow.j0 k a0 a1 a2 bt718.1 bt722.1 true)))) = some r := by rw [if_pos rfl] at H; exact H
 clear H; have H := H1; clear H1
 replace H := Option.bind_eq_some_iff.mp H
 obtain ⟨⟨t718, t719⟩, A60, H⟩ := H
 replace H : ((skiffref1_Words.f k 192 a0).bind fun bt722 => (if bt722.2 = 0 then (skifflaw18_TickRow.j0 k a0 a1 a2 t718 bt722.1 (decide ((a0.size : Int) > 288))) else (skifflaw18_TickRow.j0 k a0 a1 a2 t718 bt722.1 true))) = some r := H
 have A6 := Aside0.mk A60
 clear A60
 replace H := Option.bind_eq_some_iff.mp H
 obtain ⟨⟨t722, t723⟩, A70, H⟩ := H
 replace H : (if t723 = 0 then (skifflaw18_TickRow.j0 k a0 a1 a2 t718 t722 (decide ((a0.size : Int) > 288))) else (skifflaw18_TickRow.j0 k a0 a1 a2 t718 t722 true)) = some r := H
 have A7 := Aside0.mk A70
 clear A70
 have HC8 := Aside0.mk H
 clear H
 go_enter Try.func8, Try.ntmps8
 go_upto_region 5 with (first | ((with_reducible refine gate_callee (f := 17) rfl ?_); refine goesL_ (some 25) rfl rfl Try.func17 (by kernel_rfl) rfl #[] rfl ka ?_; (with_reducible refine (skifflaw18_awake.calls k  true _ A4.out).mono ?_); rintro e w9 ⟨rfl, hb⟩; refine ⟨_, rfl, ?_⟩; have n0_ := Aside0.mk (below_step (kb HB.out) hb); clear HB; have HB := n0_; clear n0_; (try clear hb); (try clear hb2); (try clear hk); (try clear hi)) | ((with_reducible refine gate_callee (f := 24) rfl ?_); refine goesL_ (some 28) rfl rfl Try.func24 (by kernel_rfl) rfl #[.int .i64 0] rfl ka ?_; (with_reducible refine (skiffref1_Erases.calls k 0 t718 t719 _ A6.out).mono ?_); rintro e w10 ⟨v720, rfl, ho0, hb⟩; refine ⟨_, rfl, ?_⟩; have n0_ := Aside0.mk (Kd.R_lower ho0 (below_size (kb HB.out))); have n1_ := Aside0.mk (below_step (kb HB.out) hb); clear HB; have HO721 := n0_; have HB := n1_; clear n0_ n1_; (try clear hb); (try clear hb2); (try clear hk); (try clear hi); (try clear ho0)) | ((with_reducible refine gate_callee (f := 19) rfl ?_); refine goesL_ (some 33) rfl rfl Try.func19 (by kernel_rfl) rfl #[.int .i64 192, .string a0] rfl ka ?_; (with_reducible refine (skiffref1_Words.calls k 192 a0 t722 t723 _ A7.out).mono ?_); rintro e w11 ⟨v724, rfl, ho0, hb⟩; refine ⟨_, rfl, ?_⟩; have n0_ := Aside0.mk (Kd.R_elder' (kR HO721.out) (Kd.R_base ho0) hb); have n1_ := Aside0.mk (Kd.R_lower (Kd.R_new' ho0 (Kd.R_lt (kR HO721.out))) (below_size (kb HB.out))); have n2_ := Aside0.mk (below_step (kb HB.out) hb); clear HO721; clear HB; have HO721 := n0_; have HO725 := n1_; have HB := n2_; clear n0_ n1_ n2_; (try clear hb); (try clear hb2); (try clear hk); (try clear hi); (try clear ho0)))
 (try simp only [Act.put, List.setIfInBounds_toArray, List.set_cons_zero, List.set_cons_succ])
 go_cut [42] (fun v42 wc => ∃ (kq : Nat) (x42_7 : Bool), v42 = .bool x42_7 ∧ Aside0 (skifflaw18_TickRow.j0 kq a0 a1 a2 t718 t722 x42_7 = some r) ∧ Aside0 (kq ≤ k) ∧ Aside0 (Kd.R k40 40 wc w.heap.size (fun _ => True) v720 t718) ∧ Aside0 (Kd.R k40 40 wc w.heap.size (fun _ => True) v724 t722) ∧ Aside0 (Below w.heap.size w wc))
 case first =>
  have H := HC8.out
  clear HC8
  by_cases c12 : t723 = 0
  case neg =>
   rw [if_neg c12] at H
   have c12b0 : (t723 == 0) = false := beq_eq_false_iff_ne.mpr c12
   have c12b1 : (t723 != 0) = true := bne_iff_ne.mpr c12
   (first | rw [c12b0] | rw [c12b1] | (simp only [i64_w, i32_w]; rw [c12b0]) | skip)
   have H' := Aside0.mk H
   clear H
   go_wp2
   go_meet
   case rel => exact ⟨_, (true), (by first | rfl | (simp; done) | (simp [*]; done)), H', ⟨by first | omega | exact Nat.le_refl _⟩, ⟨by (with_reducible repeat (first | apply Kd.R_alloc | apply Kd.R_drewN | apply Kd.R_drew)); exact Kd.R_mono HO721.out (fun _ hk => trivial)⟩, ⟨by (with_reducible repeat (first | apply Kd.R_alloc | apply Kd.R_drewN | apply Kd.R_drew)); exact Kd.R_mono HO725.out (fun _ hk => trivial)⟩, ⟨kb HB.out⟩⟩
  rw [if_pos c12] at H
  have c12b0 : (t723 == 0) = true := beq_iff_eq.mpr c12
  have c12b1 : (t723 != 0) = false := bne_eq_false_iff_eq.mpr c12
  clear c12
  (first | rw [c12b0] | rw [c12b1] | (simp only [i64_w, i32_w]; rw [c12b0]) | skip)
  have H' := Aside0.mk H
  clear H
  go_wp2
  go_meet
  case rel => exact ⟨_, (decide ((a0.size : Int) > 288)), (by first | rfl | (simp; done) | (simp [*]; done)), H', ⟨by first | omega | exact Nat.le_refl _⟩, ⟨by (with_reducible repeat (first | apply Kd.R_alloc | apply Kd.R_drewN | apply Kd.R_drew)); exact Kd.R_mono HO721.out (fun _ hk => trivial)⟩, ⟨by (with_reducible repeat (first | apply Kd.R_alloc | apply Kd.R_drewN | apply Kd.R_drew)); exact Kd.R_mono HO725.out (fun _ hk => trivial)⟩, ⟨kb HB.out⟩⟩
 case rest =>
  clear HC8
  try clear c1; try clear c2; try clear p2; try clear c5; try clear c8; try clear c12; try clear c12b0; try clear c12b1
  obtain ⟨kq, x42_7, rfl, HA, HJ7, HO_7, HO_9, HB⟩ := hcut
  cases kq with
  | zero => exact absurd HA.out (by simp [skifflaw18_TickRow.j0])
  | succ kj7 =>
   have H := HA.out
   clear HA
   simp only [skifflaw18_TickRow.j0] at H
   by_cases c13 : x42_7 = true
   ·subst c13
    have H1 : (some true) = some r := by rw [if_pos rfl] at H; exact H
    clear H; have H := H1; clear H1
    obtain rfl := Option.some.inj H
    go_wp2
    go_ret
    exact ⟨by first | rfl | (simp [errW_none, errW_some] <;> rfl) | (simp [*, errW_none, errW_some] <;> rfl), kb HB.out⟩
   ·replace c13 := Bool.eq_false_iff.mpr c13
    subst c13
    have H1 : ((some (([] : List (S40)) : List (S40))).bind fun y726 => (if y726.length + t718.length < 4398046511104 then ((some (y726 ++ t718 : List (S40))).bind fun y729 => (if y729.length + t722.length < 4398046511104 then ((some (y729 ++ t722 : List (S40))).bind fun y732 => (if (IntKind.u64.wrap ((y732.length : Int))) = 0 then (none) else ((skiffref1_Blank.f).bind fun t735 => (skifflaw18_TickRow.l0 kj7 a0 a2 y732 (wrap64 (Int.tmod (IntKind.u64.wrap (a1)) (IntKind.u64.wrap ((y732.length : Int))))) t735 0 2 0 0 0 0 y732)))) else (none))) else (none))) = some r := by rw [if_neg (show ¬ (false = true) by decide)] at H; exact H
    clear H; have H := H1; clear H1
    obtain ⟨y726, hy726⟩ : ∃ y_ : List (S40), y_ = (([] : List (S40))) := ⟨_, rfl⟩
    replace H : (if y726.length + t718.length < 4398046511104 then ((some (y726 ++ t718 : List (S40))).bind fun y729 => (if y729.length + t722.length < 4398046511104 then ((some (y729 ++ t722 : List (S40))).bind fun y732 => (if (IntKind.u64.wrap ((y732.length : Int))) = 0 then (none) else ((skiffref1_Blank.f).bind fun t735 => (skifflaw18_TickRow.l0 kj7 a0 a2 y732 (wrap64 (Int.tmod (IntKind.u64.wrap (a1)) (IntKind.u64.wrap ((y732.length : Int))))) t735 0 2 0 0 0 0 y732)))) else (none))) else (none)) = some r := by first | (rw [hy726]; with_reducible exact H) | (have H2_ := (Option.bind_some _ _).symm.trans H; rw [hy726]; with_reducible exact H2_) | (have H2_ := (Option.bind_some _ _).symm.trans H; with_reducible exact H2_) | with_reducible exact H | (rw [hy726]; exact H) | exact H
    have Ny726 := Aside0.mk hy726
    clear hy726
    by_cases c14 : y726.length + t718.length < 4398046511104
    case neg =>
     rw [if_neg c14] at H
     exact absurd H (by simp)
    rw [if_pos c14] at H
    have LMc14 := Aside0.mk c14
    clear c14
    obtain ⟨y729, hy729⟩ : ∃ y_ : List (S40), y_ = (y726 ++ t718) := ⟨_, rfl⟩
    replace H : (if y729.length + t722.length < 4398046511104 then ((some (y729 ++ t722 : List (S40))).bind fun y732 => (if (IntKind.u64.wrap ((y732.length : Int))) = 0 then (none) else ((skiffref1_Blank.f).bind fun t735 => (skifflaw18_TickRow.l0 kj7 a0 a2 y732 (wrap64 (Int.tmod (IntKind.u64.wrap (a1)) (IntKind.u64.wrap ((y732.length : Int))))) t735 0 2 0 0 0 0 y732)))) else (none)) = some r := by first | (rw [hy729]; with_reducible exact H) | (have H2_ := (Option.bind_some _ _).symm.trans H; rw [hy729]; with_reducible exact H2_) | (have H2_ := (Option.bind_some _ _).symm.trans H; with_reducible exact H2_) | with_reducible exact H | (rw [hy729]; exact H) | exact H
    have Ny729 := Aside0.mk hy729
    clear hy729
    by_cases c15 : y729.length + t722.length < 4398046511104
    case neg =>
     rw [if_neg c15] at H
     exact absurd H (by simp)
    rw [if_pos c15] at H
    have LMc15 := Aside0.mk c15
    clear c15
    obtain ⟨y732, hy732⟩ : ∃ y_ : List (S40), y_ = (y729 ++ t722) := ⟨_, rfl⟩
    replace H : (if (IntKind.u64.wrap ((y732.length : Int))) = 0 then (none) else ((skiffref1_Blank.f).bind fun t735 => (skifflaw18_TickRow.l0 kj7 a0 a2 y732 (wrap64 (Int.tmod (IntKind.u64.wrap (a1)) (IntKind.u64.wrap ((y732.length : Int))))) t735 0 2 0 0 0 0 y732))) = some r := by first | (rw [hy732]; with_reducible exact H) | (have H2_ := (Option.bind_some _ _).symm.trans H; rw [hy732]; with_reducible exact H2_) | (have H2_ := (Option.bind_some _ _).symm.trans H; with_reducible exact H2_) | with_reducible exact H | (rw [hy732]; exact H) | exact H
    have Ny732 := Aside0.mk hy732
    clear hy732
    by_cases c16 : (IntKind.u64.wrap ((y732.length : Int))) = 0
    ·rw [if_pos c16] at H
     exact absurd H (by simp)
    ·rw [if_neg c16] at H
     have c16b0 : ((IntKind.u64.wrap ((y732.length : Int))) == 0) = false := beq_eq_false_iff_ne.mpr c16
     have c16b1 : ((IntKind.u64.wrap ((y732.length : Int))) != 0) = true := bne_iff_ne.mpr c16
     replace H := Option.bind_eq_some_iff.mp H
     obtain ⟨t735, A170, H⟩ := H
     replace H : (skifflaw18_TickRow.l0 kj7 a0 a2 y732 (wrap64 (Int.tmod (IntKind.u64.wrap (a1)) (IntKind.u64.wrap ((y732.length : Int))))) t735 0 2 0 0 0 0 y732) = some r := H
     have A17 := Aside0.mk A170
     clear A170
     have H' := Aside0.mk H
     clear H
     go_wp2_with (first | ((with_reducible refine gate_dst (N := 43) rfl ?_); (try (refine gate_guard (by rfl) ?_; dsimp only)); refine Kd.R_lit k40 _ 40 ?hg (N := 43) ?hd (xs := ([] : List (S40))) (inner := []) (ok := fun _ => True) (okp := fun _ => True) ?hr ?hp (fun _ hk => hk) trivial (Below.refl _ _) (Nat.le_refl _) (by simp) ?_; (case hd => rfl); (case hg => rfl); (case hr => first | (go_simp; done) | (go_simp; rfl)); (case hp => exact (Reps.none _ _)); intro v727 w18 ho19 hb hg_ hnew_; clear hg_ hnew_; (first | rw [← Ny726.out] at ho19 | (simp only [Int.reduceToNat] at ho19; rw [← Ny726.out] at ho19)); have n0_ := Aside0.mk (Kd.R_elder' (kR HO_7.out) (Kd.R_base ho19) hb); have n1_ := Aside0.mk (Kd.R_elder' (kR HO_9.out) (Kd.R_base ho19) hb); have n2_ := Aside0.mk (Kd.R_lower (Kd.R_new' (Kd.R_new' ho19 (Kd.R_lt (kR HO_7.out))) (Kd.R_lt (kR HO_9.out))) (below_size (kb HB.out))); have n3_ := Aside0.mk (below_step (kb HB.out) hb); clear HO_7; clear HO_9; clear HB; have HO_7 := n0_; have HO_9 := n1_; have HO728 := n2_; have HB := n3_; clear n0_ n1_ n2_ n3_; clear hb ho19; obtain ⟨Ao21, co21, eo21⟩ := Kd.R_slice HO_7.out; subst eo21) | ((with_reducible refine gate_builtin (b := .append) (xs := #[.tmp 43, .tmp 44]) rfl ?_); (try (refine gate_guard (by rfl) ?_; dsimp only)); at_builtin; refine Kd.R_append_rows k40 (w0 := w) w.heap.size rfl (.tmp 43) (.tmp 44) 22 40 (.agg #[(.bool false), (.int .i64 0), (.string ⟨#[]⟩)]) 32 rfl Try.underlying22 info40 rfl (by decide) (by omega) v727 y726 t718 _ _ _ (fun k_ => some k_ ≠ (.slice Ao21 t718.length co21 : Value).ownBlock ∧ some k_ ≠ (v724 : Value).ownBlock) (fun _ => False) rfl rfl ?aO ?aR (fun _ _ h => h) (fun _ h => h.elim) ?aF ?aB ?aS ?aL ?_; (case aR => repeat (first | exact (Kd.R_reads' HO_7.out).2.2 | (with_reducible refine Kd.C_alloc ?_ _) | (with_reducible refine Kd.C_drewN ?_ _) | (with_reducible refine Kd.C_drew ?_))); (case aB => exact (kb HB.out)); (case aF => exact (fun k_ hk => ⟨Kd.fresh' (Kd.R_lt (kR HO_7.out)) k_ hk, Kd.fresh' (Kd.R_lt (kR HO_9.out)) k_ hk⟩)); (case aO => exact (by (with_reducible repeat (first | apply Kd.R_alloc | apply Kd.R_drewN | apply Kd.R_drew)); exact Kd.R_mono HO728.out (fun _ hk => ⟨hk.1.2, hk.2⟩))); (case aS => exact (below_size (kb HB.out))); (case aL => have := LMc14.out; omega); intro v730 w20 ho hb hg hat; rw [← Ny729.out] at ho; have n0_ := Aside0.mk (Kd.R_after (ok := (fun _ => True)) (kR HO_7.out) hg hat); have n1_ := Aside0.mk (Kd.R_after (ok := (fun _ => True)) (kR HO_9.out) hg hat); have n2_ := Aside0.mk (hb); have n3_ := Aside0.mk (ho); clear HO_7; clear HO_9; clear HB; clear HO728; have HO_7 := n0_; have HO_9 := n1_; have HB := n2_; have HO731 := n3_; clear n0_ n1_ n2_ n3_; clear ho hb hg hat; obtain ⟨Ao23, co23, eo23⟩ := Kd.R_slice HO_9.out; subst eo23) | ((with_reducible refine gate_builtin (b := .append) (xs := #[.tmp 46, .tmp 47]) rfl ?_); (try (refine gate_guard (by rfl) ?_; dsimp only)); at_builtin; refine Kd.R_append_rows k40 (w0 := w) w.heap.size rfl (.tmp 46) (.tmp 47) 22 40 (.agg #[(.bool false), (.int .i64 0), (.string ⟨#[]⟩)]) 32 rfl Try.underlying22 info40 rfl (by decide) (by omega) v730 y729 t722 _ _ _ (fun k_ => some k_ ≠ (.slice Ao21 t718.length co21 : Value).ownBlock ∧ some k_ ≠ (.slice Ao23 t722.length co23 : Value).ownBlock) (fun _ => False) rfl rfl ?aO ?aR (fun _ _ h => h) (fun _ h => h.elim) ?aF ?aB ?aS ?aL ?_; (case aR => repeat (first | exact (Kd.R_reads' HO_9.out).2.2 | (with_reducible refine Kd.C_alloc ?_ _) | (with_reducible refine Kd.C_drewN ?_ _) | (with_reducible refine Kd.C_drew ?_))); (case aB => exact (kb HB.out)); (case aF => exact (fun k_ hk => ⟨Kd.fresh' (Kd.R_lt (kR HO_7.out)) k_ hk, Kd.fresh' (Kd.R_lt (kR HO_9.out)) k_ hk⟩)); (case aO => exact (kR HO731.out)); (case aS => exact (below_size (kb HB.out))); (case aL => have := LMc15.out; omega); intro v733 w22 ho hb hg hat; rw [← Ny732.out] at ho; have n0_ := Aside0.mk (Kd.R_after (ok := (fun _ => True)) (kR HO_7.out) hg hat); have n1_ := Aside0.mk (Kd.R_after (ok := (fun _ => True)) (kR HO_9.out) hg hat); have n2_ := Aside0.mk (hb); have n3_ := Aside0.mk (ho); clear HO_7; clear HO_9; clear HB; clear HO731; have HO_7 := n0_; have HO_9 := n1_; have HB := n2_; have HO734 := n3_; clear n0_ n1_ n2_ n3_; clear ho hb hg hat; obtain ⟨Ao24, co24, eo24⟩ := Kd.R_slice HO734.out; subst eo24) | ((with_reducible refine gate_callee (f := 18) rfl ?_); refine goesL_ (some 56) rfl rfl Try.func18 (by kernel_rfl) rfl #[] rfl ka ?_; (with_reducible refine (skiffref1_Blank.calls  t735 _ A17.out).mono ?_); rintro e w25 ⟨rfl, hb⟩; refine ⟨_, rfl, ?_⟩; have n0_ := Aside0.mk (Kd.R_below (kR HO_7.out) hb); have n1_ := Aside0.mk (Kd.R_below (kR HO_9.out) hb); have n2_ := Aside0.mk (Kd.R_below (kR HO734.out) hb); have n3_ := Aside0.mk (below_step (kb HB.out) hb); clear HO_7; clear HO_9; clear HO734; clear HB; have HO_7 := n0_; have HO_9 := n1_; have HO734 := n2_; have HB := n3_; clear n0_ n1_ n2_ n3_; (try clear hb); (try clear hb2); (try clear hk); (try clear hi)) | ((with_reducible refine gate_dst (N := 14) rfl ?_); (try (refine gate_guard (by rfl) ?_; dsimp only)); refine box_event ?hg (N := 14) ?hd (cs := #[.int .i64 0, .int .i64 0, .int .i64 0, .int .i64 0, .int .i64 0, .slice none 0 0]) (t := 24) ?hr ?_; (case hd => rfl); (case hg => rfl); (case hr => first | (go_simp; done) | (go_simp; rfl)); intro gb736 hg w26 hbox hb; have n0_ := Aside0.mk (Kd.R_below (kR HO_7.out) hb); have n1_ := Aside0.mk (Kd.R_below (kR HO_9.out) hb); have n2_ := Aside0.mk (Kd.R_below (kR HO734.out) hb); have n3_ := Aside0.mk (below_step (kb HB.out) hb); have n4_ := Aside0.mk (hbox); have n5_ := Aside0.mk ((kz hg (below_size (kb HB.out)) : w.heap.size ≤ gb736)); have n6_ := Aside0.mk ((kz hg (below_size (kb HB.out)) : w.heap.size ≤ gb736)); clear HO_7; clear HO_9; clear HO734; clear HB; have HO_7 := n0_; have HO_9 := n1_; have HO734 := n2_; have HB := n3_; have BK736 := n4_; have GW736 := n5_; have GE736 := n6_; clear n0_ n1_ n2_ n3_ n4_ n5_ n6_; clear hb hbox hg; obtain ⟨hcz27_0, hcz27_1, hcz27_2, hcz27_3, hcz27_4, hcz27_5⟩ := kc6 BK736.out; obtain ⟨hfz27_0, hfz27_1, hfz27_2, hfz27_3, hfz27_4, hfz27_5⟩ := kf6 BK736.out))
     go_loopg [13, 15] kj7 (fun kq v13 v15 w' => ∃ (x13_2 : ByteArray) (x15_2 : Int) (x737000_2 : Int) (x737001_2 : Int) (x737002_2 : Int) (x737003_2 : Int) (x737004_2 : Int) (x737005_2 : List (S40)) (u737005 : Value), v13 = .string x13_2 ∧ v15 = .int .i64 x15_2 ∧ Aside0 (skifflaw18_TickRow.l0 kq a0 a2 y732 (wrap64 (Int.tmod (IntKind.u64.wrap (a1)) (IntKind.u64.wrap ((y732.length : Int))))) x13_2 x15_2 x737000_2 x737001_2 x737002_2 x737003_2 x737004_2 x737005_2 = some r) ∧ Aside0 (kq ≤ kj7) ∧ Aside0 (Kd.R k40 40 w' w.heap.size (fun _ => True) (.slice Ao24 y732.length co24) y732) ∧ Aside0 (Kd.Q k40 40 w' w.heap.size (fun _ => True) u737005 x737005_2) ∧ Aside0 (w'.heap[gb736]? = some (.cells #[.int .i64 x737000_2, .int .i64 x737001_2, .int .i64 x737002_2, .int .i64 x737003_2, .int .i64 x737004_2, u737005] 24 (0, 0))) ∧ Aside0 (Below w.heap.size w w'))
     case atStart => exact ⟨(t735), (0), (2), (0), (0), (0), (0), (y732), (.slice Ao24 y732.length co24), (by first | rfl | (simp; done) | (simp [*]; done)), (by first | rfl | (simp; done) | (simp [*]; done)), H', ⟨Nat.le_refl _⟩, ⟨by (with_reducible repeat (first | apply Kd.R_alloc | apply Kd.R_drewN | apply Kd.R_drew)); exact Kd.R_mono (Kd.R_far (p := ⟨gb736, 5, none⟩) (Kd.R_far (p := ⟨gb736, 4, none⟩) (Kd.R_far (p := ⟨gb736, 3, none⟩) (Kd.R_far (p := ⟨gb736, 2, none⟩) (Kd.R_far (p := ⟨gb736, 1, none⟩) (Kd.R_far (p := ⟨gb736, 0, none⟩) (Kd.R_types HO734.out BK736.out (by decide)) (fun _ hk => hk.2) (.int .i64 2)) (fun _ hk => hk.2) (.int .i64 0)) (fun _ hk => hk.2) (.int .i64 0)) (fun _ hk => hk.2) (.int .i64 0)) (fun _ hk => hk.2) (.int .i64 0)) (fun _ hk => hk.2) (.slice Ao24 y732.length co24)) (fun _ hk => trivial)⟩, ⟨Kd.Q_of_R (by (with_reducible repeat (first | apply Kd.R_alloc | apply Kd.R_drewN | apply Kd.R_drew)); exact Kd.R_mono (Kd.R_far (p := ⟨gb736, 5, none⟩) (Kd.R_far (p := ⟨gb736, 4, none⟩) (Kd.R_far (p := ⟨gb736, 3, none⟩) (Kd.R_far (p := ⟨gb736, 2, none⟩) (Kd.R_far (p := ⟨gb736, 1, none⟩) (Kd.R_far (p := ⟨gb736, 0, none⟩) (Kd.R_types HO734.out BK736.out (by decide)) (fun _ hk => hk.2) (.int .i64 2)) (fun _ hk => hk.2) (.int .i64 0)) (fun _ hk => hk.2) (.int .i64 0)) (fun _ hk => hk.2) (.int .i64 0)) (fun _ hk => hk.2) (.int .i64 0)) (fun _ hk => hk.2) (.slice Ao24 y732.length co24)) (fun _ hk => trivial))⟩, ⟨kP6 BK736.out⟩, ⟨kb1 HB.out GE736.out⟩⟩
     case round =>
      clear H'
      try clear c1; try clear c2; try clear p2; try clear c5; try clear p6; try clear c8; try clear c12; try clear c12b0; try clear c12b1; try clear c13; try clear c14; try clear c15; try clear c16; try clear c16b0; try clear c16b1; try clear c17; try clear c18; try clear c19; try clear c24; try clear hcz27_0; try clear hcz27_1; try clear hcz27_2; try clear hcz27_3; try clear hcz27_4; try clear hcz27_5; try clear hfz27_0; try clear hfz27_1; try clear hfz27_2; try clear hfz27_3; try clear hfz27_4; try clear hfz27_5; try clear p2
      (try clear HO_11); (try clear HO_737005); (try clear BK736); obtain ⟨x13_2, x15_2, x737000_2, x737001_2, x737002_2, x737003_2, x737004_2, x737005_2, u737005, rfl, rfl, HA, HK2, HO_11, HO_737005, BK736, HB⟩ := hrel
      cases gk with
      | zero => exact absurd HA.out (by simp [skifflaw18_TickRow.l0])
      | succ k2 =>
       have H := HA.out
       clear HA
       simp only [skifflaw18_TickRow.l0] at H
       by_cases c28 : x15_2 < (wrap64 (Int.tmod (IntKind.u64.wrap (a1)) (IntKind.u64.wrap ((y732.length : Int)))))
       ·rw [if_pos c28] at H
        have c28b0 : decide (x15_2 < (wrap64 (Int.tmod (IntKind.u64.wrap (a1)) (IntKind.u64.wrap ((y732.length : Int)))))) = true := decide_eq_true c28
        clear c28
        replace H := Option.bind_eq_some_iff.mp H
        obtain ⟨⟨t737, t738, t739, t740, t741, t742, t743, t746⟩, A290, H⟩ := H
        replace H : ((skifflaw0_Num.f t746).bind fun t748 => (if t748 = 0 then (skifflaw18_TickRow.l0 k2 a0 a2 y732 (wrap64 (Int.tmod (IntKind.u64.wrap (a1)) (IntKind.u64.wrap ((y732.length : Int))))) t737 (wrap64 (x15_2 + 1)) t738 t739 t740 t741 t742 t743) else (none))) = some r := H
        have A29 := Aside0.mk A290
        clear A290
        replace H := Option.bind_eq_some_iff.mp H
        obtain ⟨t748, A300, H⟩ := H
        replace H : (if t748 = 0 then (skifflaw18_TickRow.l0 k2 a0 a2 y732 (wrap64 (Int.tmod (IntKind.u64.wrap (a1)) (IntKind.u64.wrap ((y732.length : Int))))) t737 (wrap64 (x15_2 + 1)) t738 t739 t740 t741 t742 t743) else (none)) = some r := H
        have A30 := Aside0.mk A300
        clear A300
        by_cases c31 : t748 = 0
        case neg =>
         rw [if_neg c31] at H
         exact absurd H (by simp)
        rw [if_pos c31] at H
        have c31b0 : (t748 == 0) = true := beq_iff_eq.mpr c31
        have c31b1 : (t748 != 0) = false := bne_eq_false_iff_eq.mpr c31
        clear c31
        have H' := Aside0.mk H
        clear H
        obtain ⟨hcz32_0, hcz32_1, hcz32_2, hcz32_3, hcz32_4, hcz32_5⟩ := kc6 BK736.out
        obtain ⟨hfz32_0, hfz32_1, hfz32_2, hfz32_3, hfz32_4, hfz32_5⟩ := kf6 BK736.out
        obtain ⟨Ao33, co33, eo33, _⟩ := Kd.Q_slice HO_737005.out
        subst eo33
        go_wp2_with (first | ((with_reducible refine gate_callee (f := 10) rfl ?_); refine goesL_ (some 67) rfl rfl Try.func10 (by kernel_rfl) rfl #[.string x13_2, .agg #[.int .i64 x737000_2, .int .i64 x737001_2, .int .i64 x737002_2, .int .i64 x737003_2, .int .i64 x737004_2, .slice Ao33 x737005_2.length co33]] rfl ka ?_; (with_reducible refine (tick_Step.calls k2 x13_2 x737000_2 x737001_2 x737002_2 x737003_2 x737004_2 _ _ x737005_2 t737 t738 t739 t740 t741 t742 t743 t746 _ ?side1 ?side2 A29.out).mono ?_); (case side1 => repeat (first | exact (Kd.Q_reads' HO_737005.out).2.2 | (with_reducible refine Kd.C_alloc ?_ _) | (with_reducible refine Kd.C_drewN ?_ _) | (with_reducible refine Kd.C_drew ?_))); (case side2 => exact (Kd.Q_reads' HO_737005.out).2.1); rintro e w34 ⟨v744, rfl, ho0, hb⟩; refine ⟨_, rfl, ?_⟩; have n0_ := Aside0.mk (Kd.R_elder' (kR HO_11.out) (Kd.Q_base ho0) hb); have n1_ := Aside0.mk (Kd.Q_elder' (kQ HO_737005.out) (Kd.Q_base ho0) hb); have n2_ := Aside0.mk (Kd.Q_lower (Kd.Q_new' (Kd.Q_new' ho0 (Kd.R_lt (kR HO_11.out))) (Kd.Q_lt (kQ HO_737005.out))) (below_size (kb1 HB.out GE736.out))); have n3_ := Aside0.mk (kL BK736.out hb); have n4_ := Aside0.mk (below_step (kb1 HB.out GE736.out) hb); clear HO_11; clear HO_737005; clear BK736; clear HB; have HO_11 := n0_; have HO_737005 := n1_; have HO745 := n2_; have BK736 := n3_; have HB := n4_; clear n0_ n1_ n2_ n3_ n4_; (try clear hb); (try clear hb2); (try clear hk); (try clear hi); (try clear ho0)) | ((with_reducible refine gate_dst (N := 17) rfl ?_); (try (refine gate_guard (by rfl) ?_; dsimp only)); refine box_event ?hg (N := 17) ?hd (cs := #[.int .i64 0, .int .i64 0, .int .i64 0, .int .i64 0, .int .i64 0, .slice none 0 0]) (t := 24) ?hr ?_; (case hd => rfl); (case hg => rfl); (case hr => first | (go_simp; done) | (go_simp; rfl)); intro gb747 hg w35 hbox hb; have n0_ := Aside0.mk (Kd.R_below (kR HO_11.out) hb); have n1_ := Aside0.mk (Kd.Q_below (kQ HO_737005.out) hb); have n2_ := Aside0.mk (Kd.Q_below (kQ HO745.out) hb); have n3_ := Aside0.mk (kL BK736.out hb); have n4_ := Aside0.mk (below_step (kb1 HB.out GE736.out) hb); have n5_ := Aside0.mk (hbox); have n6_ := Aside0.mk ((kz hg (below_size (kb1 HB.out GE736.out)) : w.heap.size ≤ gb747)); have n7_ := Aside0.mk ((kz hg (below_size (kb1 HB.out GE736.out)) : w.heap.size ≤ gb747)); have n8_ := Aside0.mk ((kN hg BK736.out : gb736 ≠ gb747)); have n9_ := Aside0.mk (((kN hg BK736.out).symm : gb747 ≠ gb736)); clear HO_11; clear HO_737005; clear HO745; clear BK736; clear HB; have HO_11 := n0_; have HO_737005 := n1_; have HO745 := n2_; have BK736 := n3_; have HB := n4_; have BK747 := n5_; have GW747 := n6_; have GE747 := n7_; have NB736_747 := n8_; have NB747_736 := n9_; clear n0_ n1_ n2_ n3_ n4_ n5_ n6_ n7_ n8_ n9_; clear hb hbox hg; have hnb36 := NB747_736.out; have hnc36 := NB736_747.out; obtain ⟨hcz37_0, hcz37_1, hcz37_2, hcz37_3, hcz37_4, hcz37_5⟩ := kc6 BK747.out; obtain ⟨hfz37_0, hfz37_1, hfz37_2, hfz37_3, hfz37_4, hfz37_5⟩ := kf6 BK747.out; obtain ⟨Ao38, co38, eo38, _⟩ := Kd.Q_slice HO745.out; subst eo38) | ((with_reducible refine gate_callee (f := 15) rfl ?_); refine goesL_ (some 72) rfl rfl Try.func15 (by kernel_rfl) rfl #[.int .i64 t746] rfl ka ?_; (with_reducible refine (skifflaw0_Num.calls t746 t748 _ A30.out).mono ?_); rintro e w' ⟨rfl, ⟨nd, rfl⟩⟩; refine ⟨_, rfl, ?_⟩; obtain ⟨hcz39_0, hcz39_1, hcz39_2, hcz39_3, hcz39_4, hcz39_5⟩ := kc6 BK736.out; obtain ⟨hfz39_0, hfz39_1, hfz39_2, hfz39_3, hfz39_4, hfz39_5⟩ := kf6 BK736.out))
        go_roundg k2
        case measure => have := HJ7.out; have := HK2.out; omega
        case rel => exact ⟨(t737), (wrap64 (x15_2 + 1)), (t738), (t739), (t740), (t741), (t742), (t743), (.slice Ao38 t743.length co38), (by first | rfl | (simp; done) | (simp [*]; done)), (by first | rfl | (simp; done) | (simp [*]; done)), H', ⟨by have := HJ7.out; have := HK2.out; omega⟩, ⟨by (with_reducible repeat (first | apply Kd.R_alloc | apply Kd.R_drewN | apply Kd.R_drew)); exact Kd.R_mono (Kd.R_far (p := ⟨gb736, 5, none⟩) (Kd.R_far (p := ⟨gb736, 4, none⟩) (Kd.R_far (p := ⟨gb736, 3, none⟩) (Kd.R_far (p := ⟨gb736, 2, none⟩) (Kd.R_far (p := ⟨gb736, 1, none⟩) (Kd.R_far (p := ⟨gb736, 0, none⟩) (Kd.R_drewN (Kd.R_far (p := ⟨gb747, 5, none⟩) (Kd.R_far (p := ⟨gb747, 4, none⟩) (Kd.R_far (p := ⟨gb747, 3, none⟩) (Kd.R_far (p := ⟨gb747, 2, none⟩) (Kd.R_far (p := ⟨gb747, 1, none⟩) (Kd.R_far (p := ⟨gb747, 0, none⟩) (Kd.R_types (Kd.R_types HO_11.out BK747.out (by decide)) BK736.out (by decide)) (fun _ hk => hk.1.2) (.int .i64 t738)) (fun _ hk => hk.1.2) (.int .i64 t739)) (fun _ hk => hk.1.2) (.int .i64 t740)) (fun _ hk => hk.1.2) (.int .i64 t741)) (fun _ hk => hk.1.2) (.int .i64 t742)) (fun _ hk => hk.1.2) (.slice Ao38 t743.length co38)) _) (fun _ hk => hk.2) (.int .i64 t738)) (fun _ hk => hk.2) (.int .i64 t739)) (fun _ hk => hk.2) (.int .i64 t740)) (fun _ hk => hk.2) (.int .i64 t741)) (fun _ hk => hk.2) (.int .i64 t742)) (fun _ hk => hk.2) (.slice Ao38 t743.length co38)) (fun _ hk => trivial)⟩, ⟨by (with_reducible repeat (first | apply Kd.Q_alloc | apply Kd.Q_drewN | apply Kd.Q_drew)); exact Kd.Q_mono (Kd.Q_far (p := ⟨gb736, 5, none⟩) (Kd.Q_far (p := ⟨gb736, 4, none⟩) (Kd.Q_far (p := ⟨gb736, 3, none⟩) (Kd.Q_far (p := ⟨gb736, 2, none⟩) (Kd.Q_far (p := ⟨gb736, 1, none⟩) (Kd.Q_far (p := ⟨gb736, 0, none⟩) (Kd.Q_drewN (Kd.Q_far (p := ⟨gb747, 5, none⟩) (Kd.Q_far (p := ⟨gb747, 4, none⟩) (Kd.Q_far (p := ⟨gb747, 3, none⟩) (Kd.Q_far (p := ⟨gb747, 2, none⟩) (Kd.Q_far (p := ⟨gb747, 1, none⟩) (Kd.Q_far (p := ⟨gb747, 0, none⟩) (Kd.Q_types (Kd.Q_types HO745.out BK747.out (by decide)) BK736.out (by decide)) (fun _ hk => hk.1.2) (.int .i64 t738)) (fun _ hk => hk.1.2) (.int .i64 t739)) (fun _ hk => hk.1.2) (.int .i64 t740)) (fun _ hk => hk.1.2) (.int .i64 t741)) (fun _ hk => hk.1.2) (.int .i64 t742)) (fun _ hk => hk.1.2) (.slice Ao38 t743.length co38)) _) (fun _ hk => hk.2) (.int .i64 t738)) (fun _ hk => hk.2) (.int .i64 t739)) (fun _ hk => hk.2) (.int .i64 t740)) (fun _ hk => hk.2) (.int .i64 t741)) (fun _ hk => hk.2) (.int .i64 t742)) (fun _ hk => hk.2) (.slice Ao38 t743.length co38)) (fun _ hk => trivial)⟩, ⟨by (with_reducible repeat (first | refine blk_drewN ?_ _ | refine blk_drew ?_ | refine blk_alloc ?_ _)); refine blk_put (cs := #[.int .i64 t738, .int .i64 t739, .int .i64 t740, .int .i64 t741, .int .i64 t742, .slice Ao33 x737005_2.length co33]) ?_ 5 _ rfl; (with_reducible repeat (first | refine blk_drewN ?_ _ | refine blk_drew ?_ | refine blk_alloc ?_ _)); refine blk_put (cs := #[.int .i64 t738, .int .i64 t739, .int .i64 t740, .int .i64 t741, .int .i64 x737004_2, .slice Ao33 x737005_2.length co33]) ?_ 4 _ rfl; (with_reducible repeat (first | refine blk_drewN ?_ _ | refine blk_drew ?_ | refine blk_alloc ?_ _)); refine blk_put (cs := #[.int .i64 t738, .int .i64 t739, .int .i64 t740, .int .i64 x737003_2, .int .i64 x737004_2, .slice Ao33 x737005_2.length co33]) ?_ 3 _ rfl; (with_reducible repeat (first | refine blk_drewN ?_ _ | refine blk_drew ?_ | refine blk_alloc ?_ _)); refine blk_put (cs := #[.int .i64 t738, .int .i64 t739, .int .i64 x737002_2, .int .i64 x737003_2, .int .i64 x737004_2, .slice Ao33 x737005_2.length co33]) ?_ 2 _ rfl; (with_reducible repeat (first | refine blk_drewN ?_ _ | refine blk_drew ?_ | refine blk_alloc ?_ _)); refine blk_put (cs := #[.int .i64 t738, .int .i64 x737001_2, .int .i64 x737002_2, .int .i64 x737003_2, .int .i64 x737004_2, .slice Ao33 x737005_2.length co33]) ?_ 1 _ rfl; (with_reducible repeat (first | refine blk_drewN ?_ _ | refine blk_drew ?_ | refine blk_alloc ?_ _)); refine blk_put (cs := #[.int .i64 x737000_2, .int .i64 x737001_2, .int .i64 x737002_2, .int .i64 x737003_2, .int .i64 x737004_2, .slice Ao33 x737005_2.length co33]) ?_ 0 _ rfl; (with_reducible repeat (first | refine blk_drewN ?_ _ | refine blk_drew ?_ | refine blk_alloc ?_ _)); refine blk_far ?_ NB736_747.out _; (with_reducible repeat (first | refine blk_drewN ?_ _ | refine blk_drew ?_ | refine blk_alloc ?_ _)); refine blk_far ?_ NB736_747.out _; (with_reducible repeat (first | refine blk_drewN ?_ _ | refine blk_drew ?_ | refine blk_alloc ?_ _)); refine blk_far ?_ NB736_747.out _; (with_reducible repeat (first | refine blk_drewN ?_ _ | refine blk_drew ?_ | refine blk_alloc ?_ _)); refine blk_far ?_ NB736_747.out _; (with_reducible repeat (first | refine blk_drewN ?_ _ | refine blk_drew ?_ | refine blk_alloc ?_ _)); refine blk_far ?_ NB736_747.out _; (with_reducible repeat (first | refine blk_drewN ?_ _ | refine blk_drew ?_ | refine blk_alloc ?_ _)); refine blk_far ?_ NB736_747.out _; (with_reducible repeat (first | refine blk_drewN ?_ _ | refine blk_drew ?_ | refine blk_alloc ?_ _)); exact BK736.out⟩, ⟨kb2 HB.out GE736.out GE747.out⟩⟩
       ·rw [if_neg c28] at H
        have c28b0 : decide (x15_2 < (wrap64 (Int.tmod (IntKind.u64.wrap (a1)) (IntKind.u64.wrap ((y732.length : Int)))))) = false := decide_eq_false c28
        clear c28
        replace H := Option.bind_eq_some_iff.mp H
        obtain ⟨⟨t749, t750, t751, t752, t753, t754, t755, t758⟩, A400, H⟩ := H
        replace H : (skifflaw18_TickRow.l1 k2 a0 y732 t749 t758 0 2 0 0 0 0 y732) = some r := H
        have A40 := Aside0.mk A400
        clear A400
        have H' := Aside0.mk H
        clear H
        obtain ⟨hcz41_0, hcz41_1, hcz41_2, hcz41_3, hcz41_4, hcz41_5⟩ := kc6 BK736.out
        obtain ⟨hfz41_0, hfz41_1, hfz41_2, hfz41_3, hfz41_4, hfz41_5⟩ := kf6 BK736.out
        obtain ⟨Ao42, co42, eo42, _⟩ := Kd.Q_slice HO_737005.out
        subst eo42
        go_wp2_with (first | ((with_reducible refine gate_callee (f := 12) rfl ?_); refine goesL_ (some 83) rfl rfl Try.func12 (by kernel_rfl) rfl #[.string x13_2, .agg #[.int .i64 x737000_2, .int .i64 x737001_2, .int .i64 x737002_2, .int .i64 x737003_2, .int .i64 x737004_2, .slice Ao42 x737005_2.length co42], .int .i64 (wrap64 (Int.tmod (IntKind.u64.wrap (a2)) 97))] rfl ka ?_; (with_reducible refine (tick_Cut.calls k2 x13_2 x737000_2 x737001_2 x737002_2 x737003_2 x737004_2 _ _ x737005_2 (wrap64 (Int.tmod (IntKind.u64.wrap (a2)) 97)) t749 t750 t751 t752 t753 t754 t755 t758 _ ?side1 ?side2 A40.out).mono ?_); (case side1 => repeat (first | exact (Kd.Q_reads' HO_737005.out).2.2 | (with_reducible refine Kd.C_alloc ?_ _) | (with_reducible refine Kd.C_drewN ?_ _) | (with_reducible refine Kd.C_drew ?_))); (case side2 => exact (Kd.Q_reads' HO_737005.out).2.1); rintro e w43 ⟨v756, rfl, ho0, hb⟩; refine ⟨_, rfl, ?_⟩; have n0_ := Aside0.mk (Kd.R_elder' (kR HO_11.out) (Kd.R_base ho0) hb); have n1_ := Aside0.mk (Kd.Q_elder' (kQ HO_737005.out) (Kd.R_base ho0) hb); have n2_ := Aside0.mk (Kd.R_lower (Kd.R_new' (Kd.R_new' ho0 (Kd.R_lt (kR HO_11.out))) (Kd.Q_lt (kQ HO_737005.out))) (below_size (kb1 HB.out GE736.out))); have n3_ := Aside0.mk (kL BK736.out hb); have n4_ := Aside0.mk (below_step (kb1 HB.out GE736.out) hb); clear HO_11; clear HO_737005; clear BK736; clear HB; have HO_11 := n0_; have HO_737005 := n1_; have HO757 := n2_; have BK736 := n3_; have HB := n4_; clear n0_ n1_ n2_ n3_ n4_; (try clear hb); (try clear hb2); (try clear hk); (try clear hi); (try clear ho0)) | ((with_reducible refine gate_dst (N := 19) rfl ?_); (try (refine gate_guard (by rfl) ?_; dsimp only)); refine box_event ?hg (N := 19) ?hd (cs := #[.int .i64 0, .int .i64 0, .int .i64 0, .int .i64 0, .int .i64 0, .slice none 0 0]) (t := 24) ?hr ?_; (case hd => rfl); (case hg => rfl); (case hr => first | (go_simp; done) | (go_simp; rfl)); intro gb759 hg w44 hbox hb; have n0_ := Aside0.mk (Kd.R_below (kR HO_11.out) hb); have n1_ := Aside0.mk (Kd.Q_below (kQ HO_737005.out) hb); have n2_ := Aside0.mk (Kd.R_below (kR HO757.out) hb); have n3_ := Aside0.mk (kL BK736.out hb); have n4_ := Aside0.mk (below_step (kb1 HB.out GE736.out) hb); have n5_ := Aside0.mk (hbox); have n6_ := Aside0.mk ((kz hg (below_size (kb1 HB.out GE736.out)) : w.heap.size ≤ gb759)); have n7_ := Aside0.mk ((kz hg (below_size (kb1 HB.out GE736.out)) : w.heap.size ≤ gb759)); have n8_ := Aside0.mk ((kN hg BK736.out : gb736 ≠ gb759)); have n9_ := Aside0.mk (((kN hg BK736.out).symm : gb759 ≠ gb736)); clear HO_11; clear HO_737005; clear HO757; clear BK736; clear HB; have HO_11 := n0_; have HO_737005 := n1_; have HO757 := n2_; have BK736 := n3_; have HB := n4_; have BK759 := n5_; have GW759 := n6_; have GE759 := n7_; have NB736_759 := n8_; have NB759_736 := n9_; clear n0_ n1_ n2_ n3_ n4_ n5_ n6_ n7_ n8_ n9_; clear hb hbox hg; have hnb45 := NB759_736.out; have hnc45 := NB736_759.out; obtain ⟨hcz46_0, hcz46_1, hcz46_2, hcz46_3, hcz46_4, hcz46_5⟩ := kc6 BK759.out; obtain ⟨hfz46_0, hfz46_1, hfz46_2, hfz46_3, hfz46_4, hfz46_5⟩ := kf6 BK759.out; obtain ⟨Ao47, co47, eo47⟩ := Kd.R_slice HO757.out; subst eo47; obtain ⟨hcz48_0, hcz48_1, hcz48_2, hcz48_3, hcz48_4, hcz48_5⟩ := kc6 BK736.out; obtain ⟨hfz48_0, hfz48_1, hfz48_2, hfz48_3, hfz48_4, hfz48_5⟩ := kf6 BK736.out))
        go_loopg [13, 21] k2 (fun kq v13 v21 w' => ∃ (x13_3 : ByteArray) (x21_3 : Int) (x737000_3 : Int) (x737001_3 : Int) (x737002_3 : Int) (x737003_3 : Int) (x737004_3 : Int) (x737005_3 : List (S40)) (u737005 : Value), v13 = .string x13_3 ∧ v21 = .int .i64 x21_3 ∧ Aside0 (skifflaw18_TickRow.l1 kq a0 y732 x13_3 t758 x21_3 x737000_3 x737001_3 x737002_3 x737003_3 x737004_3 x737005_3 = some r) ∧ Aside0 (kq ≤ k2) ∧ Aside0 (Kd.R k40 40 w' w.heap.size (fun _ => True) (.slice Ao24 y732.length co24) y732) ∧ Aside0 (Kd.Q k40 40 w' w.heap.size (fun _ => True) u737005 x737005_3) ∧ Aside0 (Kd.Q k40 40 w' w.heap.size (fun _ => True) (.slice Ao47 t755.length co47) t755) ∧ Aside0 (w'.heap[gb736]? = some (.cells #[.int .i64 x737000_3, .int .i64 x737001_3, .int .i64 x737002_3, .int .i64 x737003_3, .int .i64 x737004_3, u737005] 24 (0, 0))) ∧ Aside0 (w'.heap[gb759]? = some (.cells #[.int .i64 t750, .int .i64 t751, .int .i64 t752, .int .i64 t753, .int .i64 t754, (.slice Ao47 t755.length co47)] 24 (0, 0))) ∧ Aside0 (Below w.heap.size w w'))
        case atStart => exact ⟨(t749), (0), (2), (0), (0), (0), (0), (y732), (.slice Ao24 y732.length co24), (by first | rfl | (simp; done) | (simp [*]; done)), (by first | rfl | (simp; done) | (simp [*]; done)), H', ⟨Nat.le_refl _⟩, ⟨by (with_reducible repeat (first | apply Kd.R_alloc | apply Kd.R_drewN | apply Kd.R_drew)); exact Kd.R_mono (Kd.R_far (p := ⟨gb736, 5, none⟩) (Kd.R_far (p := ⟨gb736, 4, none⟩) (Kd.R_far (p := ⟨gb736, 3, none⟩) (Kd.R_far (p := ⟨gb736, 2, none⟩) (Kd.R_far (p := ⟨gb736, 1, none⟩) (Kd.R_far (p := ⟨gb736, 0, none⟩) (Kd.R_far (p := ⟨gb759, 5, none⟩) (Kd.R_far (p := ⟨gb759, 4, none⟩) (Kd.R_far (p := ⟨gb759, 3, none⟩) (Kd.R_far (p := ⟨gb759, 2, none⟩) (Kd.R_far (p := ⟨gb759, 1, none⟩) (Kd.R_far (p := ⟨gb759, 0, none⟩) (Kd.R_types (Kd.R_types HO_11.out BK759.out (by decide)) BK736.out (by decide)) (fun _ hk => hk.1.2) (.int .i64 t750)) (fun _ hk => hk.1.2) (.int .i64 t751)) (fun _ hk => hk.1.2) (.int .i64 t752)) (fun _ hk => hk.1.2) (.int .i64 t753)) (fun _ hk => hk.1.2) (.int .i64 t754)) (fun _ hk => hk.1.2) (.slice Ao47 t755.length co47)) (fun _ hk => hk.2) (.int .i64 2)) (fun _ hk => hk.2) (.int .i64 0)) (fun _ hk => hk.2) (.int .i64 0)) (fun _ hk => hk.2) (.int .i64 0)) (fun _ hk => hk.2) (.int .i64 0)) (fun _ hk => hk.2) (.slice Ao24 y732.length co24)) (fun _ hk => trivial)⟩, ⟨Kd.Q_of_R (by (with_reducible repeat (first | apply Kd.R_alloc | apply Kd.R_drewN | apply Kd.R_drew)); exact Kd.R_mono (Kd.R_far (p := ⟨gb736, 5, none⟩) (Kd.R_far (p := ⟨gb736, 4, none⟩) (Kd.R_far (p := ⟨gb736, 3, none⟩) (Kd.R_far (p := ⟨gb736, 2, none⟩) (Kd.R_far (p := ⟨gb736, 1, none⟩) (Kd.R_far (p := ⟨gb736, 0, none⟩) (Kd.R_far (p := ⟨gb759, 5, none⟩) (Kd.R_far (p := ⟨gb759, 4, none⟩) (Kd.R_far (p := ⟨gb759, 3, none⟩) (Kd.R_far (p := ⟨gb759, 2, none⟩) (Kd.R_far (p := ⟨gb759, 1, none⟩) (Kd.R_far (p := ⟨gb759, 0, none⟩) (Kd.R_types (Kd.R_types HO_11.out BK759.out (by decide)) BK736.out (by decide)) (fun _ hk => hk.1.2) (.int .i64 t750)) (fun _ hk => hk.1.2) (.int .i64 t751)) (fun _ hk => hk.1.2) (.int .i64 t752)) (fun _ hk => hk.1.2) (.int .i64 t753)) (fun _ hk => hk.1.2) (.int .i64 t754)) (fun _ hk => hk.1.2) (.slice Ao47 t755.length co47)) (fun _ hk => hk.2) (.int .i64 2)) (fun _ hk => hk.2) (.int .i64 0)) (fun _ hk => hk.2) (.int .i64 0)) (fun _ hk => hk.2) (.int .i64 0)) (fun _ hk => hk.2) (.int .i64 0)) (fun _ hk => hk.2) (.slice Ao24 y732.length co24)) (fun _ hk => trivial))⟩, ⟨Kd.Q_of_R (by (with_reducible repeat (first | apply Kd.R_alloc | apply Kd.R_drewN | apply Kd.R_drew)); exact Kd.R_mono (Kd.R_far (p := ⟨gb736, 5, none⟩) (Kd.R_far (p := ⟨gb736, 4, none⟩) (Kd.R_far (p := ⟨gb736, 3, none⟩) (Kd.R_far (p := ⟨gb736, 2, none⟩) (Kd.R_far (p := ⟨gb736, 1, none⟩) (Kd.R_far (p := ⟨gb736, 0, none⟩) (Kd.R_far (p := ⟨gb759, 5, none⟩) (Kd.R_far (p := ⟨gb759, 4, none⟩) (Kd.R_far (p := ⟨gb759, 3, none⟩) (Kd.R_far (p := ⟨gb759, 2, none⟩) (Kd.R_far (p := ⟨gb759, 1, none⟩) (Kd.R_far (p := ⟨gb759, 0, none⟩) (Kd.R_types (Kd.R_types HO757.out BK759.out (by decide)) BK736.out (by decide)) (fun _ hk => hk.1.2) (.int .i64 t750)) (fun _ hk => hk.1.2) (.int .i64 t751)) (fun _ hk => hk.1.2) (.int .i64 t752)) (fun _ hk => hk.1.2) (.int .i64 t753)) (fun _ hk => hk.1.2) (.int .i64 t754)) (fun _ hk => hk.1.2) (.slice Ao47 t755.length co47)) (fun _ hk => hk.2) (.int .i64 2)) (fun _ hk => hk.2) (.int .i64 0)) (fun _ hk => hk.2) (.int .i64 0)) (fun _ hk => hk.2) (.int .i64 0)) (fun _ hk => hk.2) (.int .i64 0)) (fun _ hk => hk.2) (.slice Ao24 y732.length co24)) (fun _ hk => trivial))⟩, ⟨by (with_reducible repeat (first | refine blk_drewN ?_ _ | refine blk_drew ?_ | refine blk_alloc ?_ _)); refine blk_put (cs := #[.int .i64 2, .int .i64 0, .int .i64 0, .int .i64 0, .int .i64 0, .slice Ao42 x737005_2.length co42]) ?_ 5 _ rfl; (with_reducible repeat (first | refine blk_drewN ?_ _ | refine blk_drew ?_ | refine blk_alloc ?_ _)); refine blk_put (cs := #[.int .i64 2, .int .i64 0, .int .i64 0, .int .i64 0, .int .i64 x737004_2, .slice Ao42 x737005_2.length co42]) ?_ 4 _ rfl; (with_reducible repeat (first | refine blk_drewN ?_ _ | refine blk_drew ?_ | refine blk_alloc ?_ _)); refine blk_put (cs := #[.int .i64 2, .int .i64 0, .int .i64 0, .int .i64 x737003_2, .int .i64 x737004_2, .slice Ao42 x737005_2.length co42]) ?_ 3 _ rfl; (with_reducible repeat (first | refine blk_drewN ?_ _ | refine blk_drew ?_ | refine blk_alloc ?_ _)); refine blk_put (cs := #[.int .i64 2, .int .i64 0, .int .i64 x737002_2, .int .i64 x737003_2, .int .i64 x737004_2, .slice Ao42 x737005_2.length co42]) ?_ 2 _ rfl; (with_reducible repeat (first | refine blk_drewN ?_ _ | refine blk_drew ?_ | refine blk_alloc ?_ _)); refine blk_put (cs := #[.int .i64 2, .int .i64 x737001_2, .int .i64 x737002_2, .int .i64 x737003_2, .int .i64 x737004_2, .slice Ao42 x737005_2.length co42]) ?_ 1 _ rfl; (with_reducible repeat (first | refine blk_drewN ?_ _ | refine blk_drew ?_ | refine blk_alloc ?_ _)); refine blk_put (cs := #[.int .i64 x737000_2, .int .i64 x737001_2, .int .i64 x737002_2, .int .i64 x737003_2, .int .i64 x737004_2, .slice Ao42 x737005_2.length co42]) ?_ 0 _ rfl; (with_reducible repeat (first | refine blk_drewN ?_ _ | refine blk_drew ?_ | refine blk_alloc ?_ _)); refine blk_far ?_ NB736_759.out _; (with_reducible repeat (first | refine blk_drewN ?_ _ | refine blk_drew ?_ | refine blk_alloc ?_ _)); refine blk_far ?_ NB736_759.out _; (with_reducible repeat (first | refine blk_drewN ?_ _ | refine blk_drew ?_ | refine blk_alloc ?_ _)); refine blk_far ?_ NB736_759.out _; (with_reducible repeat (first | refine blk_drewN ?_ _ | refine blk_drew ?_ | refine blk_alloc ?_ _)); refine blk_far ?_ NB736_759.out _; (with_reducible repeat (first | refine blk_drewN ?_ _ | refine blk_drew ?_ | refine blk_alloc ?_ _)); refine blk_far ?_ NB736_759.out _; (with_reducible repeat (first | refine blk_drewN ?_ _ | refine blk_drew ?_ | refine blk_alloc ?_ _)); refine blk_far ?_ NB736_759.out _; (with_reducible repeat (first | refine blk_drewN ?_ _ | refine blk_drew ?_ | refine blk_alloc ?_ _)); exact BK736.out⟩, ⟨by (with_reducible repeat (first | refine blk_drewN ?_ _ | refine blk_drew ?_ | refine blk_alloc ?_ _)); refine blk_far ?_ NB759_736.out _; (with_reducible repeat (first | refine blk_drewN ?_ _ | refine blk_drew ?_ | refine blk_alloc ?_ _)); refine blk_far ?_ NB759_736.out _; (with_reducible repeat (first | refine blk_drewN ?_ _ | refine blk_drew ?_ | refine blk_alloc ?_ _)); refine blk_far ?_ NB759_736.out _; (with_reducible repeat (first | refine blk_drewN ?_ _ | refine blk_drew ?_ | refine blk_alloc ?_ _)); refine blk_far ?_ NB759_736.out _; (with_reducible repeat (first | refine blk_drewN ?_ _ | refine blk_drew ?_ | refine blk_alloc ?_ _)); refine blk_far ?_ NB759_736.out _; (with_reducible repeat (first | refine blk_drewN ?_ _ | refine blk_drew ?_ | refine blk_alloc ?_ _)); refine blk_far ?_ NB759_736.out _; (with_reducible repeat (first | refine blk_drewN ?_ _ | refine blk_drew ?_ | refine blk_alloc ?_ _)); refine blk_put (cs := #[.int .i64 t750, .int .i64 t751, .int .i64 t752, .int .i64 t753, .int .i64 t754, .slice none 0 0]) ?_ 5 _ rfl; (with_reducible repeat (first | refine blk_drewN ?_ _ | refine blk_drew ?_ | refine blk_alloc ?_ _)); refine blk_put (cs := #[.int .i64 t750, .int .i64 t751, .int .i64 t752, .int .i64 t753, .int .i64 0, .slice none 0 0]) ?_ 4 _ rfl; (with_reducible repeat (first | refine blk_drewN ?_ _ | refine blk_drew ?_ | refine blk_alloc ?_ _)); refine blk_put (cs := #[.int .i64 t750, .int .i64 t751, .int .i64 t752, .int .i64 0, .int .i64 0, .slice none 0 0]) ?_ 3 _ rfl; (with_reducible repeat (first | refine blk_drewN ?_ _ | refine blk_drew ?_ | refine blk_alloc ?_ _)); refine blk_put (cs := #[.int .i64 t750, .int .i64 t751, .int .i64 0, .int .i64 0, .int .i64 0, .slice none 0 0]) ?_ 2 _ rfl; (with_reducible repeat (first | refine blk_drewN ?_ _ | refine blk_drew ?_ | refine blk_alloc ?_ _)); refine blk_put (cs := #[.int .i64 t750, .int .i64 0, .int .i64 0, .int .i64 0, .int .i64 0, .slice none 0 0]) ?_ 1 _ rfl; (with_reducible repeat (first | refine blk_drewN ?_ _ | refine blk_drew ?_ | refine blk_alloc ?_ _)); refine blk_put (cs := #[.int .i64 0, .int .i64 0, .int .i64 0, .int .i64 0, .int .i64 0, .slice none 0 0]) ?_ 0 _ rfl; (with_reducible repeat (first | refine blk_drewN ?_ _ | refine blk_drew ?_ | refine blk_alloc ?_ _)); exact BK759.out⟩, ⟨kb2 HB.out GE736.out GE759.out⟩⟩
        case round =>
         clear H'
         try clear c1; try clear c2; try clear p2; try clear c3; try clear c4; try clear c5; try clear p6; try clear c8; try clear c10; try clear c12; try clear c12b0; try clear c12b1; try clear c13; try clear c14; try clear c15; try clear c16; try clear c16b0; try clear c16b1; try clear c17; try clear c18; try clear c19; try clear c24; try clear c28; try clear c28b0; try clear c31; try clear c31b0; try clear c31b1; try clear c36; try clear c45; try clear hcz27_0; try clear hcz27_1; try clear hcz27_2; try clear hcz27_3; try clear hcz27_4; try clear hcz27_5; try clear hcz32_0; try clear hcz32_1; try clear hcz32_2; try clear hcz32_3; try clear hcz32_4; try clear hcz32_5; try clear hcz37_0; try clear hcz37_1; try clear hcz37_2; try clear hcz37_3; try clear hcz37_4; try clear hcz37_5; try clear hcz39_0; try clear hcz39_1; try clear hcz39_2; try clear hcz39_3; try clear hcz39_4; try clear hcz39_5; try clear hcz41_0; try clear hcz41_1; try clear hcz41_2; try clear hcz41_3; try clear hcz41_4; try clear hcz41_5; try clear hcz46_0; try clear hcz46_1; try clear hcz46_2; try clear hcz46_3; try clear hcz46_4; try clear hcz46_5; try clear hcz48_0; try clear hcz48_1; try clear hcz48_2; try clear hcz48_3; try clear hcz48_4; try clear hcz48_5; try clear hfz27_0; try clear hfz27_1; try clear hfz27_2; try clear hfz27_3; try clear hfz27_4; try clear hfz27_5; try clear hfz32_0; try clear hfz32_1; try clear hfz32_2; try clear hfz32_3; try clear hfz32_4; try clear hfz32_5; try clear hfz37_0; try clear hfz37_1; try clear hfz37_2; try clear hfz37_3; try clear hfz37_4; try clear hfz37_5; try clear hfz39_0; try clear hfz39_1; try clear hfz39_2; try clear hfz39_3; try clear hfz39_4; try clear hfz39_5; try clear hfz41_0; try clear hfz41_1; try clear hfz41_2; try clear hfz41_3; try clear hfz41_4; try clear hfz41_5; try clear hfz46_0; try clear hfz46_1; try clear hfz46_2; try clear hfz46_3; try clear hfz46_4; try clear hfz46_5; try clear hfz48_0; try clear hfz48_1; try clear hfz48_2; try clear hfz48_3; try clear hfz48_4; try clear hfz48_5; try clear p2; try clear p6
         (try clear HO_11); (try clear HO_737005); (try clear HO_760005); (try clear BK736); (try clear BK759); obtain ⟨x13_3, x21_3, x737000_3, x737001_3, x737002_3, x737003_3, x737004_3, x737005_3, u737005, rfl, rfl, HA, HK3, HO_11, HO_737005, HO_760005, BK736, BK759, HB⟩ := hrel
         cases gk with
         | zero => exact absurd HA.out (by simp [skifflaw18_TickRow.l1])
         | succ k3 =>
          have H := HA.out
          clear HA
          simp only [skifflaw18_TickRow.l1] at H
          by_cases c49 : x21_3 < (y732.length : Int)
          ·rw [if_pos c49] at H
           have c49b0 : decide (x21_3 < (y732.length : Int)) = true := decide_eq_true c49
           clear c49
           replace H := Option.bind_eq_some_iff.mp H
           obtain ⟨⟨t760, t761, t762, t763, t764, t765, t766, t769⟩, A500, H⟩ := H
           replace H : ((skifflaw0_Num.f t769).bind fun t771 => (if t771 = 0 then (skifflaw18_TickRow.l1 k3 a0 y732 t760 t758 (wrap64 (x21_3 + 1)) t761 t762 t763 t764 t765 t766) else (none))) = some r := H
           have A50 := Aside0.mk A500
           clear A500
           replace H := Option.bind_eq_some_iff.mp H
           obtain ⟨t771, A510, H⟩ := H
           replace H : (if t771 = 0 then (skifflaw18_TickRow.l1 k3 a0 y732 t760 t758 (wrap64 (x21_3 + 1)) t761 t762 t763 t764 t765 t766) else (none)) = some r := H
           have A51 := Aside0.mk A510
           clear A510
           by_cases c52 : t771 = 0
           case neg =>
            rw [if_neg c52] at H
            exact absurd H (by simp)
           rw [if_pos c52] at H
           have c52b0 : (t771 == 0) = true := beq_iff_eq.mpr c52
           have c52b1 : (t771 != 0) = false := bne_eq_false_iff_eq.mpr c52
           clear c52
           have H' := Aside0.mk H
           clear H
           have hnb53 := NB736_759.out
           have hnc53 := NB759_736.out
           obtain ⟨hcz54_0, hcz54_1, hcz54_2, hcz54_3, hcz54_4, hcz54_5⟩ := kc6 BK736.out
           obtain ⟨hfz54_0, hfz54_1, hfz54_2, hfz54_3, hfz54_4, hfz54_5⟩ := kf6 BK736.out
           obtain ⟨Ao55, co55, eo55, _⟩ := Kd.Q_slice HO_737005.out
           subst eo55
           go_wp2_with (first | ((with_reducible refine gate_callee (f := 10) rfl ?_); refine goesL_ (some 98) rfl rfl Try.func10 (by kernel_rfl) rfl #[.string x13_3, .agg #[.int .i64 x737000_3, .int .i64 x737001_3, .int .i64 x737002_3, .int .i64 x737003_3, .int .i64 x737004_3, .slice Ao55 x737005_3.length co55]] rfl ka ?_; (with_reducible refine (tick_Step.calls k3 x13_3 x737000_3 x737001_3 x737002_3 x737003_3 x737004_3 _ _ x737005_3 t760 t761 t762 t763 t764 t765 t766 t769 _ ?side1 ?side2 A50.out).mono ?_); (case side1 => repeat (first | exact (Kd.Q_reads' HO_737005.out).2.2 | (with_reducible refine Kd.C_alloc ?_ _) | (with_reducible refine Kd.C_drewN ?_ _) | (with_reducible refine Kd.C_drew ?_))); (case side2 => exact (Kd.Q_reads' HO_737005.out).2.1); rintro e w56 ⟨v767, rfl, ho0, hb⟩; refine ⟨_, rfl, ?_⟩; have n0_ := Aside0.mk (Kd.R_elder' (kR HO_11.out) (Kd.Q_base ho0) hb); have n1_ := Aside0.mk (Kd.Q_elder' (kQ HO_737005.out) (Kd.Q_base ho0) hb); have n2_ := Aside0.mk (Kd.Q_elder' (kQ HO_760005.out) (Kd.Q_base ho0) hb); have n3_ := Aside0.mk (Kd.Q_lower (Kd.Q_new' (Kd.Q_new' (Kd.Q_new' ho0 (Kd.R_lt (kR HO_11.out))) (Kd.Q_lt (kQ HO_737005.out))) (Kd.Q_lt (kQ HO_760005.out))) (below_size (kb2 HB.out GE736.out GE759.out))); have n4_ := Aside0.mk (kL BK736.out hb); have n5_ := Aside0.mk (kL BK759.out hb); have n6_ := Aside0.mk (below_step (kb2 HB.out GE736.out GE759.out) hb); clear HO_11; clear HO_737005; clear HO_760005; clear BK736; clear BK759; clear HB; have HO_11 := n0_; have HO_737005 := n1_; have HO_760005 := n2_; have HO768 := n3_; have BK736 := n4_; have BK759 := n5_; have HB := n6_; clear n0_ n1_ n2_ n3_ n4_ n5_ n6_; (try clear hb); (try clear hb2); (try clear hk); (try clear hi); (try clear ho0)) | ((with_reducible refine gate_dst (N := 23) rfl ?_); (try (refine gate_guard (by rfl) ?_; dsimp only)); refine box_event ?hg (N := 23) ?hd (cs := #[.int .i64 0, .int .i64 0, .int .i64 0, .int .i64 0, .int .i64 0, .slice none 0 0]) (t := 24) ?hr ?_; (case hd => rfl); (case hg => rfl); (case hr => first | (go_simp; done) | (go_simp; rfl)); intro gb770 hg w57 hbox hb; have n0_ := Aside0.mk (Kd.R_below (kR HO_11.out) hb); have n1_ := Aside0.mk (Kd.Q_below (kQ HO_737005.out) hb); have n2_ := Aside0.mk (Kd.Q_below (kQ HO_760005.out) hb); have n3_ := Aside0.mk (Kd.Q_below (kQ HO768.out) hb); have n4_ := Aside0.mk (kL BK736.out hb); have n5_ := Aside0.mk (kL BK759.out hb); have n6_ := Aside0.mk (below_step (kb2 HB.out GE736.out GE759.out) hb); have n7_ := Aside0.mk (hbox); have n8_ := Aside0.mk ((kz hg (below_size (kb2 HB.out GE736.out GE759.out)) : w.heap.size ≤ gb770)); have n9_ := Aside0.mk ((kz hg (below_size (kb2 HB.out GE736.out GE759.out)) : w.heap.size ≤ gb770)); have n10_ := Aside0.mk ((kN hg BK736.out : gb736 ≠ gb770)); have n11_ := Aside0.mk (((kN hg BK736.out).symm : gb770 ≠ gb736)); have n12_ := Aside0.mk ((kN hg BK759.out : gb759 ≠ gb770)); have n13_ := Aside0.mk (((kN hg BK759.out).symm : gb770 ≠ gb759)); clear HO_11; clear HO_737005; clear HO_760005; clear HO768; clear BK736; clear BK759; clear HB; have HO_11 := n0_; have HO_737005 := n1_; have HO_760005 := n2_; have HO768 := n3_; have BK736 := n4_; have BK759 := n5_; have HB := n6_; have BK770 := n7_; have GW770 := n8_; have GE770 := n9_; have NB736_770 := n10_; have NB770_736 := n11_; have NB759_770 := n12_; have NB770_759 := n13_; clear n0_ n1_ n2_ n3_ n4_ n5_ n6_ n7_ n8_ n9_ n10_ n11_ n12_ n13_; clear hb hbox hg; have hnb58 := NB770_736.out; have hnc58 := NB736_770.out; have hnb59 := NB770_759.out; have hnc59 := NB759_770.out; obtain ⟨hcz60_0, hcz60_1, hcz60_2, hcz60_3, hcz60_4, hcz60_5⟩ := kc6 BK770.out; obtain ⟨hfz60_0, hfz60_1, hfz60_2, hfz60_3, hfz60_4, hfz60_5⟩ := kf6 BK770.out; obtain ⟨Ao61, co61, eo61, _⟩ := Kd.Q_slice HO768.out; subst eo61) | ((with_reducible refine gate_callee (f := 15) rfl ?_); refine goesL_ (some 103) rfl rfl Try.func15 (by kernel_rfl) rfl #[.int .i64 t769] rfl ka ?_; (with_reducible refine (skifflaw0_Num.calls t769 t771 _ A51.out).mono ?_); rintro e w' ⟨rfl, ⟨nd, rfl⟩⟩; refine ⟨_, rfl, ?_⟩; obtain ⟨hcz62_0, hcz62_1, hcz62_2, hcz62_3, hcz62_4, hcz62_5⟩ := kc6 BK736.out; obtain ⟨hfz62_0, hfz62_1, hfz62_2, hfz62_3, hfz62_4, hfz62_5⟩ := kf6 BK736.out))
           go_roundg k3
           case measure => have := HJ7.out; have := HK2.out; have := HK3.out; omega
           case rel => exact ⟨(t760), (wrap64 (x21_3 + 1)), (t761), (t762), (t763), (t764), (t765), (t766), (.slice Ao61 t766.length co61), (by first | rfl | (simp; done) | (simp [*]; done)), (by first | rfl | (simp; done) | (simp [*]; done)), H', ⟨by have := HJ7.out; have := HK2.out; have := HK3.out; omega⟩, ⟨by (with_reducible repeat (first | apply Kd.R_alloc | apply Kd.R_drewN | apply Kd.R_drew)); exact Kd.R_mono (Kd.R_far (p := ⟨gb736, 5, none⟩) (Kd.R_far (p := ⟨gb736, 4, none⟩) (Kd.R_far (p := ⟨gb736, 3, none⟩) (Kd.R_far (p := ⟨gb736, 2, none⟩) (Kd.R_far (p := ⟨gb736, 1, none⟩) (Kd.R_far (p := ⟨gb736, 0, none⟩) (Kd.R_drewN (Kd.R_far (p := ⟨gb770, 5, none⟩) (Kd.R_far (p := ⟨gb770, 4, none⟩) (Kd.R_far (p := ⟨gb770, 3, none⟩) (Kd.R_far (p := ⟨gb770, 2, none⟩) (Kd.R_far (p := ⟨gb770, 1, none⟩) (Kd.R_far (p := ⟨gb770, 0, none⟩) (Kd.R_types (Kd.R_types HO_11.out BK770.out (by decide)) BK736.out (by decide)) (fun _ hk => hk.1.2) (.int .i64 t761)) (fun _ hk => hk.1.2) (.int .i64 t762)) (fun _ hk => hk.1.2) (.int .i64 t763)) (fun _ hk => hk.1.2) (.int .i64 t764)) (fun _ hk => hk.1.2) (.int .i64 t765)) (fun _ hk => hk.1.2) (.slice Ao61 t766.length co61)) _) (fun _ hk => hk.2) (.int .i64 t761)) (fun _ hk => hk.2) (.int .i64 t762)) (fun _ hk => hk.2) (.int .i64 t763)) (fun _ hk => hk.2) (.int .i64 t764)) (fun _ hk => hk.2) (.int .i64 t765)) (fun _ hk => hk.2) (.slice Ao61 t766.length co61)) (fun _ hk => trivial)⟩, ⟨by (with_reducible repeat (first | apply Kd.Q_alloc | apply Kd.Q_drewN | apply Kd.Q_drew)); exact Kd.Q_mono (Kd.Q_far (p := ⟨gb736, 5, none⟩) (Kd.Q_far (p := ⟨gb736, 4, none⟩) (Kd.Q_far (p := ⟨gb736, 3, none⟩) (Kd.Q_far (p := ⟨gb736, 2, none⟩) (Kd.Q_far (p := ⟨gb736, 1, none⟩) (Kd.Q_far (p := ⟨gb736, 0, none⟩) (Kd.Q_drewN (Kd.Q_far (p := ⟨gb770, 5, none⟩) (Kd.Q_far (p := ⟨gb770, 4, none⟩) (Kd.Q_far (p := ⟨gb770, 3, none⟩) (Kd.Q_far (p := ⟨gb770, 2, none⟩) (Kd.Q_far (p := ⟨gb770, 1, none⟩) (Kd.Q_far (p := ⟨gb770, 0, none⟩) (Kd.Q_types (Kd.Q_types HO768.out BK770.out (by decide)) BK736.out (by decide)) (fun _ hk => hk.1.2) (.int .i64 t761)) (fun _ hk => hk.1.2) (.int .i64 t762)) (fun _ hk => hk.1.2) (.int .i64 t763)) (fun _ hk => hk.1.2) (.int .i64 t764)) (fun _ hk => hk.1.2) (.int .i64 t765)) (fun _ hk => hk.1.2) (.slice Ao61 t766.length co61)) _) (fun _ hk => hk.2) (.int .i64 t761)) (fun _ hk => hk.2) (.int .i64 t762)) (fun _ hk => hk.2) (.int .i64 t763)) (fun _ hk => hk.2) (.int .i64 t764)) (fun _ hk => hk.2) (.int .i64 t765)) (fun _ hk => hk.2) (.slice Ao61 t766.length co61)) (fun _ hk => trivial)⟩, ⟨by (with_reducible repeat (first | apply Kd.Q_alloc | apply Kd.Q_drewN | apply Kd.Q_drew)); exact Kd.Q_mono (Kd.Q_far (p := ⟨gb736, 5, none⟩) (Kd.Q_far (p := ⟨gb736, 4, none⟩) (Kd.Q_far (p := ⟨gb736, 3, none⟩) (Kd.Q_far (p := ⟨gb736, 2, none⟩) (Kd.Q_far (p := ⟨gb736, 1, none⟩) (Kd.Q_far (p := ⟨gb736, 0, none⟩) (Kd.Q_drewN (Kd.Q_far (p := ⟨gb770, 5, none⟩) (Kd.Q_far (p := ⟨gb770, 4, none⟩) (Kd.Q_far (p := ⟨gb770, 3, none⟩) (Kd.Q_far (p := ⟨gb770, 2, none⟩) (Kd.Q_far (p := ⟨gb770, 1, none⟩) (Kd.Q_far (p := ⟨gb770, 0, none⟩) (Kd.Q_types (Kd.Q_types HO_760005.out BK770.out (by decide)) BK736.out (by decide)) (fun _ hk => hk.1.2) (.int .i64 t761)) (fun _ hk => hk.1.2) (.int .i64 t762)) (fun _ hk => hk.1.2) (.int .i64 t763)) (fun _ hk => hk.1.2) (.int .i64 t764)) (fun _ hk => hk.1.2) (.int .i64 t765)) (fun _ hk => hk.1.2) (.slice Ao61 t766.length co61)) _) (fun _ hk => hk.2) (.int .i64 t761)) (fun _ hk => hk.2) (.int .i64 t762)) (fun _ hk => hk.2) (.int .i64 t763)) (fun _ hk => hk.2) (.int .i64 t764)) (fun _ hk => hk.2) (.int .i64 t765)) (fun _ hk => hk.2) (.slice Ao61 t766.length co61)) (fun _ hk => trivial)⟩, ⟨by (with_reducible repeat (first | refine blk_drewN ?_ _ | refine blk_drew ?_ | refine blk_alloc ?_ _)); refine blk_put (cs := #[.int .i64 t761, .int .i64 t762, .int .i64 t763, .int .i64 t764, .int .i64 t765, .slice Ao55 x737005_3.length co55]) ?_ 5 _ rfl; (with_reducible repeat (first | refine blk_drewN ?_ _ | refine blk_drew ?_ | refine blk_alloc ?_ _)); refine blk_put (cs := #[.int .i64 t761, .int .i64 t762, .int .i64 t763, .int .i64 t764, .int .i64 x737004_3, .slice Ao55 x737005_3.length co55]) ?_ 4 _ rfl; (with_reducible repeat (first | refine blk_drewN ?_ _ | refine blk_drew ?_ | refine blk_alloc ?_ _)); refine blk_put (cs := #[.int .i64 t761, .int .i64 t762, .int .i64 t763, .int .i64 x737003_3, .int .i64 x737004_3, .slice Ao55 x737005_3.length co55]) ?_ 3 _ rfl; (with_reducible repeat (first | refine blk_drewN ?_ _ | refine blk_drew ?_ | refine blk_alloc ?_ _)); refine blk_put (cs := #[.int .i64 t761, .int .i64 t762, .int .i64 x737002_3, .int .i64 x737003_3, .int .i64 x737004_3, .slice Ao55 x737005_3.length co55]) ?_ 2 _ rfl; (with_reducible repeat (first | refine blk_drewN ?_ _ | refine blk_drew ?_ | refine blk_alloc ?_ _)); refine blk_put (cs := #[.int .i64 t761, .int .i64 x737001_3, .int .i64 x737002_3, .int .i64 x737003_3, .int .i64 x737004_3, .slice Ao55 x737005_3.length co55]) ?_ 1 _ rfl; (with_reducible repeat (first | refine blk_drewN ?_ _ | refine blk_drew ?_ | refine blk_alloc ?_ _)); refine blk_put (cs := #[.int .i64 x737000_3, .int .i64 x737001_3, .int .i64 x737002_3, .int .i64 x737003_3, .int .i64 x737004_3, .slice Ao55 x737005_3.length co55]) ?_ 0 _ rfl; (with_reducible repeat (first | refine blk_drewN ?_ _ | refine blk_drew ?_ | refine blk_alloc ?_ _)); refine blk_far ?_ NB736_770.out _; (with_reducible repeat (first | refine blk_drewN ?_ _ | refine blk_drew ?_ | refine blk_alloc ?_ _)); refine blk_far ?_ NB736_770.out _; (with_reducible repeat (first | refine blk_drewN ?_ _ | refine blk_drew ?_ | refine blk_alloc ?_ _)); refine blk_far ?_ NB736_770.out _; (with_reducible repeat (first | refine blk_drewN ?_ _ | refine blk_drew ?_ | refine blk_alloc ?_ _)); refine blk_far ?_ NB736_770.out _; (with_reducible repeat (first | refine blk_drewN ?_ _ | refine blk_drew ?_ | refine blk_alloc ?_ _)); refine blk_far ?_ NB736_770.out _; (with_reducible repeat (first | refine blk_drewN ?_ _ | refine blk_drew ?_ | refine blk_alloc ?_ _)); refine blk_far ?_ NB736_770.out _; (with_reducible repeat (first | refine blk_drewN ?_ _ | refine blk_drew ?_ | refine blk_alloc ?_ _)); exact BK736.out⟩, ⟨kFa6b6 BK759.out NB759_736.out NB759_770.out⟩, ⟨kb3 HB.out GE736.out GE759.out GE770.out⟩⟩
          ·rw [if_neg c49] at H
           have c49b0 : decide (x21_3 < (y732.length : Int)) = false := decide_eq_false c49
           clear c49
           replace H := Option.bind_eq_some_iff.mp H
           obtain ⟨t772, A630, H⟩ := H
           replace H : (if t772 = 0 then (if (x13_3.size : Int) = 768 then (if 192 ≤ (wrap64 (192 + (a0.size : Int))) then (if (wrap64 (192 + (a0.size : Int))) ≤ (x13_3.size : Int) then (if (x13_3.extract 192 ((wrap64 (192 + (a0.size : Int))) : Int).toNat).toList = a0.toList then (if 0 ≤ 192 then (if 192 ≤ (x13_3.size : Int) then ((skiffref1_Blank.f).bind fun t773 => (if 192 ≤ (t773.size : Int) then (if (x13_3.extract 0 192).toList = (t773.extract 0 192).toList then (if 0 ≤ (wrap64 (192 + (a0.size : Int))) then ((skiffref1_Blank.f).bind fun t774 => (if (wrap64 (192 + (a0.size : Int))) ≤ (t774.size : Int) then (if (x13_3.extract ((wrap64 (192 + (a0.size : Int))) : Int).toNat x13_3.size).toList = (t774.extract ((wrap64 (192 + (a0.size : Int))) : Int).toNat t774.size).toList then (if x737000_3 = 1 then ((skifflaw18_sent.f k3).bind fun bt775 => (some ((bt775.2.2.2.2.2.length : Int) == 11))) else (none)) else (none)) else (none))) else (none)) else (none)) else (none))) else (none)) else (none)) else (none)) else (none)) else (none)) else (none)) else (none)) = some r := H
           have A63 := Aside0.mk A630
           clear A630
           by_cases c64 : t772 = 0
           case neg =>
            rw [if_neg c64] at H
            exact absurd H (by simp)
           rw [if_pos c64] at H
           have c64b0 : (t772 == 0) = true := beq_iff_eq.mpr c64
           have c64b1 : (t772 != 0) = false := bne_eq_false_iff_eq.mpr c64
           clear c64
           by_cases c65 : (x13_3.size : Int) = 768
           case neg =>
            rw [if_neg c65] at H
            exact absurd H (by simp)
           rw [if_pos c65] at H
           have c65b0 : ((x13_3.size : Int) == 768) = true := beq_iff_eq.mpr c65
           have c65b1 : ((x13_3.size : Int) != 768) = false := bne_eq_false_iff_eq.mpr c65
           clear c65
           by_cases c66 : 192 ≤ (wrap64 (192 + (a0.size : Int)))
           case neg =>
            rw [if_neg c66] at H
            exact absurd H (by simp)
           rw [if_pos c66] at H
           have c66b0 := eq_true c66
           have c66b1 : decide (192 ≤ (wrap64 (192 + (a0.size : Int)))) = true := decide_eq_true c66
           by_cases c67 : (wrap64 (192 + (a0.size : Int))) ≤ (x13_3.size : Int)
           case neg =>
            rw [if_neg c67] at H
            exact absurd H (by simp)
           rw [if_pos c67] at H
           have c67b0 := eq_true c67
           have c67b1 : decide ((wrap64 (192 + (a0.size : Int))) ≤ (x13_3.size : Int)) = true := decide_eq_true c67
           by_cases c68 : (x13_3.extract 192 ((wrap64 (192 + (a0.size : Int))) : Int).toNat).toList = a0.toList
           case neg =>
            rw [if_neg c68] at H
            exact absurd H (by simp)
           rw [if_pos c68] at H
           have c68b0 : ((x13_3.extract 192 ((wrap64 (192 + (a0.size : Int))) : Int).toNat).toList == a0.toList) = true := beq_iff_eq.mpr c68
           have c68b1 : ((x13_3.extract 192 ((wrap64 (192 + (a0.size : Int))) : Int).toNat).toList != a0.toList) = false := bne_eq_false_iff_eq.mpr c68
           clear c68
           by_cases c69 : 0 ≤ 192
           case neg =>
            rw [if_neg c69] at H
            exact absurd H (by simp)
           rw [if_pos c69] at H
           have c69b0 := eq_true c69
           have c69b1 : decide (0 ≤ 192) = true := decide_eq_true c69
           clear c69
           by_cases c70 : 192 ≤ (x13_3.size : Int)
           case neg =>
            rw [if_neg c70] at H
            exact absurd H (by simp)
           rw [if_pos c70] at H
           have c70b0 := eq_true c70
           have c70b1 : decide (192 ≤ (x13_3.size : Int)) = true := decide_eq_true c70
           clear c70
           replace H := Option.bind_eq_some_iff.mp H
           obtain ⟨t773, A710, H⟩ := H
           replace H : (if 192 ≤ (t773.size : Int) then (if (x13_3.extract 0 192).toList = (t773.extract 0 192).toList then (if 0 ≤ (wrap64 (192 + (a0.size : Int))) then ((skiffref1_Blank.f).bind fun t774 => (if (wrap64 (192 + (a0.size : Int))) ≤ (t774.size : Int) then (if (x13_3.extract ((wrap64 (192 + (a0.size : Int))) : Int).toNat x13_3.size).toList = (t774.extract ((wrap64 (192 + (a0.size : Int))) : Int).toNat t774.size).toList then (if x737000_3 = 1 then ((skifflaw18_sent.f k3).bind fun bt775 => (some ((bt775.2.2.2.2.2.length : Int) == 11))) else (none)) else (none)) else (none))) else (none)) else (none)) else (none)) = some r := H
           have A71 := Aside0.mk A710
           clear A710
           have c72b0 := eq_true (of_decide_eq_true (by first | (with_reducible assumption) | assumption) : 0 ≤ 192)
           by_cases c73 : 192 ≤ (t773.size : Int)
           case neg =>
            rw [if_neg c73] at H
            exact absurd H (by simp)
           rw [if_pos c73] at H
           have c73b0 := eq_true c73
           have c73b1 : decide (192 ≤ (t773.size : Int)) = true := decide_eq_true c73
           clear c73
           by_cases c74 : (x13_3.extract 0 192).toList = (t773.extract 0 192).toList
           case neg =>
            rw [if_neg c74] at H
            exact absurd H (by simp)
           rw [if_pos c74] at H
           have c74b0 : ((x13_3.extract 0 192).toList == (t773.extract 0 192).toList) = true := beq_iff_eq.mpr c74
           have c74b1 : ((x13_3.extract 0 192).toList != (t773.extract 0 192).toList) = false := bne_eq_false_iff_eq.mpr c74
           clear c74
           obtain ⟨ji75, hji75⟩ : ∃ j_ : Int, (wrap64 (192 + (a0.size : Int))) = j_ := ⟨_, rfl⟩
           replace H : (if 0 ≤ (ji75) then ((skiffref1_Blank.f).bind fun t774 => (if (ji75) ≤ (t774.size : Int) then (if (x13_3.extract ((ji75) : Int).toNat x13_3.size).toList = (t774.extract ((ji75) : Int).toNat t774.size).toList then (if x737000_3 = 1 then ((skifflaw18_sent.f k3).bind fun bt775 => (some ((bt775.2.2.2.2.2.length : Int) == 11))) else (none)) else (none)) else (none))) else (none)) = some r := by first | (rw [hji75] at H; exact H) | (simp only [hji75] at H ⊢; exact H)
           (try rw [hji75] at c66b0)
           (try rw [hji75] at c66b1)
           (try rw [hji75] at c66)
           (try rw [hji75] at c67b0)
           (try rw [hji75] at c67b1)
           (try rw [hji75] at c67)
           (try rw [hji75] at c68b0)
           (try rw [hji75] at c68b1)
           (try rw [hji75] at A63)
           (try rw [hji75] at A71)
           have hji75w : (IntKind.i64.wrap (192 + (a0.size : Int))) = ji75 := (i64_w _).trans hji75
           by_cases c76 : 0 ≤ (ji75)
           case neg =>
            rw [if_neg c76] at H
            exact absurd H (by simp)
           rw [if_pos c76] at H
           have c76b0 := eq_true c76
           have c76b1 : decide (0 ≤ (ji75)) = true := decide_eq_true c76
           clear c76
           have c77b0 := eq_true (of_decide_eq_true (by first | (with_reducible assumption) | assumption) : (ji75) ≤ (x13_3.size : Int))
           replace H := Option.bind_eq_some_iff.mp H
           obtain ⟨t774, A780, H⟩ := H
           replace H : (if (ji75) ≤ (t774.size : Int) then (if (x13_3.extract ((ji75) : Int).toNat x13_3.size).toList = (t774.extract ((ji75) : Int).toNat t774.size).toList then (if x737000_3 = 1 then ((skifflaw18_sent.f k3).bind fun bt775 => (some ((bt775.2.2.2.2.2.length : Int) == 11))) else (none)) else (none)) else (none)) = some r := H
           have A78 := Aside0.mk A780
           clear A780
           have c79b0 := eq_true (of_decide_eq_true (by first | (with_reducible assumption) | assumption) : 0 ≤ (ji75))
           by_cases c80 : (ji75) ≤ (t774.size : Int)
           case neg =>
            rw [if_neg c80] at H
            exact absurd H (by simp)
           rw [if_pos c80] at H
           have c80b0 := eq_true c80
           have c80b1 : decide ((ji75) ≤ (t774.size : Int)) = true := decide_eq_true c80
           clear c80
           by_cases c81 : (x13_3.extract ((ji75) : Int).toNat x13_3.size).toList = (t774.extract ((ji75) : Int).toNat t774.size).toList
           case neg =>
            rw [if_neg c81] at H
            exact absurd H (by simp)
           rw [if_pos c81] at H
           have c81b0 : ((x13_3.extract ((ji75) : Int).toNat x13_3.size).toList == (t774.extract ((ji75) : Int).toNat t774.size).toList) = true := beq_iff_eq.mpr c81
           have c81b1 : ((x13_3.extract ((ji75) : Int).toNat x13_3.size).toList != (t774.extract ((ji75) : Int).toNat t774.size).toList) = false := bne_eq_false_iff_eq.mpr c81
           clear c81
           by_cases c82 : x737000_3 = 1
           case neg =>
            rw [if_neg c82] at H
            exact absurd H (by simp)
           rw [if_pos c82] at H
           have c82b0 : (x737000_3 == 1) = true := beq_iff_eq.mpr c82
           have c82b1 : (x737000_3 != 1) = false := bne_eq_false_iff_eq.mpr c82
           clear c82
           replace H := Option.bind_eq_some_iff.mp H
           obtain ⟨⟨t775, t776, t777, t778, t779, t780⟩, A830, H⟩ := H
           replace H : (some ((t780.length : Int) == 11)) = some r := H
           have A83 := Aside0.mk A830
           clear A830
           obtain rfl := Option.some.inj H
           try go_wp2
           have n0_ := Aside0.mk (Kd.R_drew HO_11.out)
           have n1_ := Aside0.mk (Kd.Q_drew HO_737005.out)
           have n2_ := Aside0.mk (Kd.Q_drew HO_760005.out)
           have n3_ := Aside0.mk (blk_drew BK736.out)
           have n4_ := Aside0.mk (blk_drew BK759.out)
           have n5_ := Aside0.mk (below_drew1 HB.out)
           clear HO_11 HO_737005 HO_760005 BK736 BK759 HB; have HO_11 := n0_; have HO_737005 := n1_; have HO_760005 := n2_; have BK736 := n3_; have BK759 := n4_; have HB := n5_; clear n0_ n1_ n2_ n3_ n4_ n5_
           refine start_ (n := 49) (S := fun w' => w'.cell? ⟨gb736, 0, none⟩ = some (.int .i64 x737000_3) ∧ w'.cell? ⟨gb736, 1, none⟩ = some (.int .i64 x737001_3) ∧ w'.cell? ⟨gb736, 2, none⟩ = some (.int .i64 x737002_3) ∧ w'.cell? ⟨gb736, 3, none⟩ = some (.int .i64 x737003_3) ∧ w'.cell? ⟨gb736, 4, none⟩ = some (.int .i64 x737004_3) ∧ w'.cell? ⟨gb736, 5, none⟩ = some (u737005)) (ds := []) #[false, false, false, false, false, false, false, false, false, false, false, false, false, false, false, false, false, false, false, false, false, false, false, false, false, false, false, false, false, false, false, false, false, false, false, false, false, false, false, false, false, false, false, false, false, false, false, false, false] (by kernel_rfl) rfl rfl ⟨(blk_cell BK736.out 0).trans rfl, (blk_cell BK736.out 1).trans rfl, (blk_cell BK736.out 2).trans rfl, (blk_cell BK736.out 3).trans rfl, (blk_cell BK736.out 4).trans rfl, (blk_cell BK736.out 5).trans rfl⟩ (fun hHeld => ?_); refine with_tabW skifflaw18_TickRow.tab30 skifflaw18_TickRow.bits30 (fun HT_ HW_ => ?_)
           generalize wr.drew = w84 at HO_11 HO_737005 HO_760005 BK736 BK759 HB hHeld ⊢
           refine pure_ (i := 0) (N := some 107) (v := ?_) (a' := ?_) #[true, false, false, false, false, false, false, false, false, false, false, false, false, false, false, false, false, false, false, false, false, false, false, false, false, false, false, false, false, false, false, false, false, false, false, false, false, false, false, false, false, false, false, false, false, false, false, false, false] rfl rfl (any_of HT_.out (by kernel_rfl)) (fun _ _ _ h => h) (Or.inl ⟨by rfl, ?_⟩) ?_ ?_
           rotate_left
           ·intro w'
            go_simp
            with_reducible rfl
           rotate_left
           ·simp only [Act.put, List.setIfInBounds_toArray, List.set_cons_zero, List.set_cons_succ, i64_w, i32_w]
            rfl
           refine one_ (i := 1) (N := some 108) #[true, true, false, false, false, false, false, false, false, false, false, false, false, false, false, false, false, false, false, false, false, false, false, false, false, false, false, false, false, false, false, false, false, false, false, false, false, false, false, false, false, false, false, false, false, false, false, false, false] rfl rfl (one_of HT_.out (by kernel_rfl)) (by decide) (fun K hK => ?_)
           refine goes_ Try.func15 (by kernel_rfl) rfl #[.int .i64 t758] (by rfl) rfl rfl ka ?_
           with_reducible refine (skifflaw0_Num.calls t758 t772 _ A63.out).mono ?_
           rintro e w' ⟨rfl, ⟨nd, rfl⟩⟩
           refine ⟨_, rfl, ?_⟩
           refine hK.out _ _ ⟨(blk_cell BK736.out 0).trans rfl, (blk_cell BK736.out 1).trans rfl, (blk_cell BK736.out 2).trans rfl, (blk_cell BK736.out 3).trans rfl, (blk_cell BK736.out 4).trans rfl, (blk_cell BK736.out 5).trans rfl⟩ (fun hHeld => ?_)
           clear hK K
           refine norm_ (a' := ?_) ?_ ?_
           rotate_left
           ·show Act.put _ (some 108) _ = _
            simp only [Act.put, List.setIfInBounds_toArray, List.set_cons_zero, List.set_cons_succ, i64_w, i32_w]
            rfl
           refine pure_ (i := 2) (N := some 109) (v := ?_) (a' := ?_) #[true, true, true, false, false, false, false, false, false, false, false, false, false, false, false, false, false, false, false, false, false, false, false, false, false, false, false, false, false, false, false, false, false, false, false, false, false, false, false, false, false, false, false, false, false, false, false, false, false] rfl rfl (any_of HT_.out (by kernel_rfl)) (fun _ _ _ h => h) (Or.inl ⟨by rfl, ?_⟩) ?_ ?_
           rotate_left
           ·intro w'
            go_simp
            with_reducible rfl
           rotate_left
           ·simp only [Act.put, List.setIfInBounds_toArray, List.set_cons_zero, List.set_cons_succ, i64_w, i32_w]
            rfl
           refine pure_ (i := 3) (N := some 110) (v := ?_) (a' := ?_) #[true, true, true, true, false, false, false, false, false, false, false, false, false, false, false, false, false, false, false, false, false, false, false, false, false, false, false, false, false, false, false, false, false, false, false, false, false, false, false, false, false, false, false, false, false, false, false, false, false] rfl rfl (any_of HT_.out (by kernel_rfl)) (fun _ _ _ h => h) (Or.inl ⟨by rfl, ?_⟩) ?_ ?_
           rotate_left
           ·intro w'
            go_simp
            with_reducible rfl
           rotate_left
           ·simp only [Act.put, List.setIfInBounds_toArray, List.set_cons_zero, List.set_cons_succ, i64_w, i32_w]
            rfl
           refine pure_ (i := 4) (N := some 111) (v := ?_) (a' := ?_) #[true, true, true, true, true, false, false, false, false, false, false, false, false, false, false, false, false, false, false, false, false, false, false, false, false, false, false, false, false, false, false, false, false, false, false, false, false, false, false, false, false, false, false, false, false, false, false, false, false] rfl rfl (any_of HT_.out (by kernel_rfl)) (fun _ _ _ h => h) (Or.inl ⟨by rfl, ?_⟩) ?_ ?_
           rotate_left
           ·intro w'
            go_simp
            with_reducible rfl
           rotate_left
           ·simp only [Act.put, List.setIfInBounds_toArray, List.set_cons_zero, List.set_cons_succ, i64_w, i32_w]
            rfl
           refine pure_ (i := 5) (N := some 112) (v := ?_) (a' := ?_) #[true, true, true, true, true, true, false, false, false, false, false, false, false, false, false, false, false, false, false, false, false, false, false, false, false, false, false, false, false, false, false, false, false, false, false, false, false, false, false, false, false, false, false, false, false, false, false, false, false] rfl rfl (any_of HT_.out (by kernel_rfl)) (fun _ _ _ h => h) (Or.inl ⟨by rfl, ?_⟩) ?_ ?_
           rotate_left
           ·intro w'
            go_simp
            with_reducible rfl
           rotate_left
           ·simp only [Act.put, List.setIfInBounds_toArray, List.set_cons_zero, List.set_cons_succ, i64_w, i32_w]
            rfl
           refine pure_ (i := 6) (N := some 113) (v := ?_) (a' := ?_) #[true, true, true, true, true, true, true, false, false, false, false, false, false, false, false, false, false, false, false, false, false, false, false, false, false, false, false, false, false, false, false, false, false, false, false, false, false, false, false, false, false, false, false, false, false, false, false, false, false] rfl rfl (any_of HT_.out (by kernel_rfl)) (fun _ _ _ h => h) (Or.inl ⟨by rfl, ?_⟩) ?_ ?_
           rotate_left
           ·intro w'
            go_simp
            with_reducible rfl
           rotate_left
           ·simp only [Act.put, List.setIfInBounds_toArray, List.set_cons_zero, List.set_cons_succ, i64_w, i32_w]
            rfl
           refine pure_ (i := 7) (N := some 114) (v := ?_) (a' := ?_) #[true, true, true, true, true, true, true, true, false, false, false, false, false, false, false, false, false, false, false, false, false, false, false, false, false, false, false, false, false, false, false, false, false, false, false, false, false, false, false, false, false, false, false, false, false, false, false, false, false] rfl rfl (any_of HT_.out (by kernel_rfl)) (fun _ _ _ h => h) (Or.inl ⟨by rfl, ?_⟩) ?_ ?_
           rotate_left
           ·intro w'
            go_simp
            with_reducible rfl
           rotate_left
           ·simp only [Act.put, List.setIfInBounds_toArray, List.set_cons_zero, List.set_cons_succ, i64_w, i32_w]
            rfl
           refine pure_ (i := 8) (N := some 115) (v := ?_) (a' := ?_) #[true, true, true, true, true, true, true, true, true, false, false, false, false, false, false, false, false, false, false, false, false, false, false, false, false, false, false, false, false, false, false, false, false, false, false, false, false, false, false, false, false, false, false, false, false, false, false, false, false] rfl rfl (any_of HT_.out (by kernel_rfl)) (fun _ _ _ h => h) (Or.inl ⟨by rfl, ?_⟩) ?_ ?_
           rotate_left
           ·intro w'
            go_simp
            with_reducible rfl
           rotate_left
           ·simp only [Act.put, List.setIfInBounds_toArray, List.set_cons_zero, List.set_cons_succ, i64_w, i32_w]
            rfl
           refine pure_ (i := 9) (N := some 116) (v := ?_) (a' := ?_) #[true, true, true, true, true, true, true, true, true, true, false, false, false, false, false, false, false, false, false, false, false, false, false, false, false, false, false, false, false, false, false, false, false, false, false, false, false, false, false, false, false, false, false, false, false, false, false, false, false] rfl rfl (any_of HT_.out (by kernel_rfl)) (fun _ _ _ h => h) (Or.inl ⟨by rfl, ?_⟩) ?_ ?_
           rotate_left
           ·intro w'
            go_simp
            with_reducible rfl
           rotate_left
           ·simp only [Act.put, List.setIfInBounds_toArray, List.set_cons_zero, List.set_cons_succ, i64_w, i32_w]
            rfl
           refine pure_ (i := 10) (N := some 117) (v := ?_) (a' := ?_) #[true, true, true, true, true, true, true, true, true, true, true, false, false, false, false, false, false, false, false, false, false, false, false, false, false, false, false, false, false, false, false, false, false, false, false, false, false, false, false, false, false, false, false, false, false, false, false, false, false] rfl rfl (any_of HT_.out (by kernel_rfl)) (fun _ _ _ h => h) (Or.inl ⟨by rfl, ?_⟩) ?_ ?_
           rotate_left
           ·intro w'
            go_simp
            with_reducible rfl
           rotate_left
           ·simp only [Act.put, List.setIfInBounds_toArray, List.set_cons_zero, List.set_cons_succ, i64_w, i32_w]
            rfl
           refine pure_ (i := 11) (N := some 118) (v := ?_) (a' := ?_) #[true, true, true, true, true, true, true, true, true, true, true, true, false, false, false, false, false, false, false, false, false, false, false, false, false, false, false, false, false, false, false, false, false, false, false, false, false, false, false, false, false, false, false, false, false, false, false, false, false] rfl rfl (any_of HT_.out (by kernel_rfl)) (fun _ _ _ h => h) (Or.inl ⟨by rfl, ?_⟩) ?_ ?_
           rotate_left
           ·intro w'
            go_simp
            with_reducible rfl
           rotate_left
           ·simp only [Act.put, List.setIfInBounds_toArray, List.set_cons_zero, List.set_cons_succ, i64_w, i32_w]
            rfl
           refine pure_ (i := 12) (N := some 119) (v := ?_) (a' := ?_) #[true, true, true, true, true, true, true, true, true, true, true, true, true, false, false, false, false, false, false, false, false, false, false, false, false, false, false, false, false, false, false, false, false, false, false, false, false, false, false, false, false, false, false, false, false, false, false, false, false] rfl rfl (any_of HT_.out (by kernel_rfl)) (fun _ _ _ h => h) (Or.inl ⟨by rfl, ?_⟩) ?_ ?_
           rotate_left
           ·intro w'
            go_simp
            with_reducible rfl
           rotate_left
           ·simp only [Act.put, List.setIfInBounds_toArray, List.set_cons_zero, List.set_cons_succ, i64_w, i32_w]
            rfl
           refine pure_ (i := 13) (N := some 120) (v := ?_) (a' := ?_) #[true, true, true, true, true, true, true, true, true, true, true, true, true, true, false, false, false, false, false, false, false, false, false, false, false, false, false, false, false, false, false, false, false, false, false, false, false, false, false, false, false, false, false, false, false, false, false, false, false] rfl rfl (any_of HT_.out (by kernel_rfl)) (fun _ _ _ h => h) (Or.inl ⟨by rfl, ?_⟩) ?_ ?_
           rotate_left
           ·intro w'
            go_simp
            with_reducible rfl
           rotate_left
           ·simp only [Act.put, List.setIfInBounds_toArray, List.set_cons_zero, List.set_cons_succ, i64_w, i32_w]
            rfl
           refine pure_ (i := 14) (N := some 121) (v := ?_) (a' := ?_) #[true, true, true, true, true, true, true, true, true, true, true, true, true, true, true, false, false, false, false, false, false, false, false, false, false, false, false, false, false, false, false, false, false, false, false, false, false, false, false, false, false, false, false, false, false, false, false, false, false] rfl rfl (any_of HT_.out (by kernel_rfl)) (fun _ _ _ h => h) (Or.inl ⟨by rfl, ?_⟩) ?_ ?_
           rotate_left
           ·intro w'
            go_simp
            with_reducible rfl
           rotate_left
           ·simp only [Act.put, List.setIfInBounds_toArray, List.set_cons_zero, List.set_cons_succ, i64_w, i32_w]
            rfl
           refine pure_ (i := 15) (N := some 122) (v := ?_) (a' := ?_) #[true, true, true, true, true, true, true, true, true, true, true, true, true, true, true, true, false, false, false, false, false, false, false, false, false, false, false, false, false, false, false, false, false, false, false, false, false, false, false, false, false, false, false, false, false, false, false, false, false] rfl rfl (any_of HT_.out (by kernel_rfl)) (fun _ _ _ h => h) (Or.inl ⟨by rfl, ?_⟩) ?_ ?_
           rotate_left
           ·intro w'
            go_simp
            with_reducible rfl
           rotate_left
           ·simp only [Act.put, List.setIfInBounds_toArray, List.set_cons_zero, List.set_cons_succ, i64_w, i32_w]
            rfl
           refine pure_ (i := 16) (N := some 123) (v := ?_) (a' := ?_) #[true, true, true, true, true, true, true, true, true, true, true, true, true, true, true, true, true, false, false, false, false, false, false, false, false, false, false, false, false, false, false, false, false, false, false, false, false, false, false, false, false, false, false, false, false, false, false, false, false] rfl rfl (any_of HT_.out (by kernel_rfl)) (fun _ _ _ h => h) (Or.inl ⟨by rfl, ?_⟩) ?_ ?_
           rotate_left
           ·intro w'
            go_simp
            with_reducible rfl
           rotate_left
           ·simp only [Act.put, List.setIfInBounds_toArray, List.set_cons_zero, List.set_cons_succ, i64_w, i32_w]
            rfl
           refine pure_ (i := 17) (N := some 124) (v := ?_) (a' := ?_) #[true, true, true, true, true, true, true, true, true, true, true, true, true, true, true, true, true, true, false, false, false, false, false, false, false, false, false, false, false, false, false, false, false, false, false, false, false, false, false, false, false, false, false, false, false, false, false, false, false] rfl rfl (any_of HT_.out (by kernel_rfl)) (fun _ _ _ h => h) (Or.inl ⟨by rfl, ?_⟩) ?_ ?_
           rotate_left
           ·intro w'
            go_simp
            with_reducible rfl
           rotate_left
           ·simp only [Act.put, List.setIfInBounds_toArray, List.set_cons_zero, List.set_cons_succ, i64_w, i32_w]
            rfl
           refine pure_ (i := 18) (N := some 125) (v := ?_) (a' := ?_) #[true, true, true, true, true, true, true, true, true, true, true, true, true, true, true, true, true, true, true, false, false, false, false, false, false, false, false, false, false, false, false, false, false, false, false, false, false, false, false, false, false, false, false, false, false, false, false, false, false] rfl rfl (any_of HT_.out (by kernel_rfl)) (fun _ _ _ h => h) (Or.inl ⟨by rfl, ?_⟩) ?_ ?_
           rotate_left
           ·intro w'
            go_simp
            with_reducible rfl
           rotate_left
           ·simp only [Act.put, List.setIfInBounds_toArray, List.set_cons_zero, List.set_cons_succ, i64_w, i32_w]
            rfl
           refine pure_ (i := 19) (N := some 126) (v := ?_) (a' := ?_) #[true, true, true, true, true, true, true, true, true, true, true, true, true, true, true, true, true, true, true, true, false, false, false, false, false, false, false, false, false, false, false, false, false, false, false, false, false, false, false, false, false, false, false, false, false, false, false, false, false] rfl rfl (any_of HT_.out (by kernel_rfl)) (fun _ _ _ h => h) (Or.inl ⟨by rfl, ?_⟩) ?_ ?_
           rotate_left
           ·intro w'
            go_simp
            with_reducible rfl
           rotate_left
           ·simp only [Act.put, List.setIfInBounds_toArray, List.set_cons_zero, List.set_cons_succ, i64_w, i32_w]
            rfl
           refine one_ (i := 20) (N := some 127) #[true, true, true, true, true, true, true, true, true, true, true, true, true, true, true, true, true, true, true, true, true, false, false, false, false, false, false, false, false, false, false, false, false, false, false, false, false, false, false, false, false, false, false, false, false, false, false, false, false] rfl rfl (one_of HT_.out (by kernel_rfl)) (by decide) (fun K hK => ?_)
           refine goes_ Try.func18 (by kernel_rfl) rfl #[] (by rfl) rfl rfl ka ?_
           with_reducible refine (skiffref1_Blank.calls  t773 _ A71.out).mono ?_
           rintro e w85 ⟨rfl, hb⟩
           refine ⟨_, rfl, ?_⟩
           have n0_ := Aside0.mk (Kd.R_below (kR HO_11.out) hb)
           have n1_ := Aside0.mk (Kd.Q_below (kQ HO_737005.out) hb)
           have n2_ := Aside0.mk (Kd.Q_below (kQ HO_760005.out) hb)
           have n3_ := Aside0.mk (kL BK736.out hb)
           have n4_ := Aside0.mk (kL BK759.out hb)
           have n5_ := Aside0.mk (below_step (kb2 HB.out GE736.out GE759.out) hb)
           clear HO_11 HO_737005 HO_760005 BK736 BK759 HB; have HO_11 := n0_; have HO_737005 := n1_; have HO_760005 := n2_; have BK736 := n3_; have BK759 := n4_; have HB := n5_; clear n0_ n1_ n2_ n3_ n4_ n5_
           (try clear hb)
           (try clear hb2)
           (try clear hk)
           (try clear hi)
           refine hK.out _ _ ⟨(blk_cell BK736.out 0).trans rfl, (blk_cell BK736.out 1).trans rfl, (blk_cell BK736.out 2).trans rfl, (blk_cell BK736.out 3).trans rfl, (blk_cell BK736.out 4).trans rfl, (blk_cell BK736.out 5).trans rfl⟩ (fun hHeld => ?_)
           clear hK K
           refine norm_ (a' := ?_) ?_ ?_
           rotate_left
           ·show Act.put _ (some 127) _ = _
            simp only [Act.put, List.setIfInBounds_toArray, List.set_cons_zero, List.set_cons_succ, i64_w, i32_w]
            rfl
           refine pure_ (i := 21) (N := some 128) (v := ?_) (a' := ?_) #[true, true, true, true, true, true, true, true, true, true, true, true, true, true, true, true, true, true, true, true, true, true, false, false, false, false, false, false, false, false, false, false, false, false, false, false, false, false, false, false, false, false, false, false, false, false, false, false, false] rfl rfl (any_of HT_.out (by kernel_rfl)) (fun _ _ _ h => h) (Or.inl ⟨by rfl, ?_⟩) ?_ ?_
           rotate_left
           ·intro w'
            go_simp
            with_reducible rfl
           rotate_left
           ·simp only [Act.put, List.setIfInBounds_toArray, List.set_cons_zero, List.set_cons_succ, i64_w, i32_w]
            rfl
           refine pure_ (i := 22) (N := some 129) (v := ?_) (a' := ?_) #[true, true, true, true, true, true, true, true, true, true, true, true, true, true, true, true, true, true, true, true, true, true, true, false, false, false, false, false, false, false, false, false, false, false, false, false, false, false, false, false, false, false, false, false, false, false, false, false, false] rfl rfl (any_of HT_.out (by kernel_rfl)) (fun _ _ _ h => h) (Or.inl ⟨by rfl, ?_⟩) ?_ ?_
           rotate_left
           ·intro w'
            go_simp
            with_reducible rfl
           rotate_left
           ·simp only [Act.put, List.setIfInBounds_toArray, List.set_cons_zero, List.set_cons_succ, i64_w, i32_w]
            rfl
           refine pure_ (i := 23) (N := some 130) (v := ?_) (a' := ?_) #[true, true, true, true, true, true, true, true, true, true, true, true, true, true, true, true, true, true, true, true, true, true, true, true, false, false, false, false, false, false, false, false, false, false, false, false, false, false, false, false, false, false, false, false, false, false, false, false, false] rfl rfl (any_of HT_.out (by kernel_rfl)) (fun _ _ _ h => h) (Or.inl ⟨by rfl, ?_⟩) ?_ ?_
           rotate_left
           ·intro w'
            go_simp
            with_reducible rfl
           rotate_left
           ·simp only [Act.put, List.setIfInBounds_toArray, List.set_cons_zero, List.set_cons_succ, i64_w, i32_w]
            rfl
           refine pure_ (i := 24) (N := some 131) (v := ?_) (a' := ?_) #[true, true, true, true, true, true, true, true, true, true, true, true, true, true, true, true, true, true, true, true, true, true, true, true, true, false, false, false, false, false, false, false, false, false, false, false, false, false, false, false, false, false, false, false, false, false, false, false, false] rfl rfl (any_of HT_.out (by kernel_rfl)) (fun _ _ _ h => h) (Or.inl ⟨by rfl, ?_⟩) ?_ ?_
           rotate_left
           ·intro w'
            go_simp
            with_reducible rfl
           rotate_left
           ·simp only [Act.put, List.setIfInBounds_toArray, List.set_cons_zero, List.set_cons_succ, i64_w, i32_w]
            rfl
           refine pure_ (i := 25) (N := some 132) (v := ?_) (a' := ?_) #[true, true, true, true, true, true, true, true, true, true, true, true, true, true, true, true, true, true, true, true, true, true, true, true, true, true, false, false, false, false, false, false, false, false, false, false, false, false, false, false, false, false, false, false, false, false, false, false, false] rfl rfl (any_of HT_.out (by kernel_rfl)) (fun _ _ _ h => h) (Or.inl ⟨by rfl, ?_⟩) ?_ ?_
           rotate_left
           ·intro w'
            go_simp
            with_reducible rfl
           rotate_left
           ·simp only [Act.put, List.setIfInBounds_toArray, List.set_cons_zero, List.set_cons_succ, i64_w, i32_w]
            rfl
           refine pure_ (i := 26) (N := some 133) (v := ?_) (a' := ?_) #[true, true, true, true, true, true, true, true, true, true, true, true, true, true, true, true, true, true, true, true, true, true, true, true, true, true, true, false, false, false, false, false, false, false, false, false, false, false, false, false, false, false, false, false, false, false, false, false, false] rfl rfl (any_of HT_.out (by kernel_rfl)) (fun _ _ _ h => h) (Or.inl ⟨by rfl, ?_⟩) ?_ ?_
           rotate_left
           ·intro w'
            go_simp
            with_reducible rfl
           rotate_left
           ·simp only [Act.put, List.setIfInBounds_toArray, List.set_cons_zero, List.set_cons_succ, i64_w, i32_w]
            rfl
           refine pure_ (i := 27) (N := some 134) (v := ?_) (a' := ?_) #[true, true, true, true, true, true, true, true, true, true, true, true, true, true, true, true, true, true, true, true, true, true, true, true, true, true, true, true, false, false, false, false, false, false, false, false, false, false, false, false, false, false, false, false, false, false, false, false, false] rfl rfl (any_of HT_.out (by kernel_rfl)) (fun _ _ _ h => h) (Or.inl ⟨by rfl, ?_⟩) ?_ ?_
           rotate_left
           ·intro w'
            go_simp
            with_reducible rfl
           rotate_left
           ·simp only [Act.put, List.setIfInBounds_toArray, List.set_cons_zero, List.set_cons_succ, i64_w, i32_w]
            rfl
           refine pure_ (i := 28) (N := some 135) (v := ?_) (a' := ?_) #[true, true, true, true, true, true, true, true, true, true, true, true, true, true, true, true, true, true, true, true, true, true, true, true, true, true, true, true, true, false, false, false, false, false, false, false, false, false, false, false, false, false, false, false, false, false, false, false, false] rfl rfl (any_of HT_.out (by kernel_rfl)) (fun _ _ _ h => h) (Or.inl ⟨by rfl, ?_⟩) ?_ ?_
           rotate_left
           ·intro w'
            go_simp
            with_reducible rfl
           rotate_left
           ·simp only [Act.put, List.setIfInBounds_toArray, List.set_cons_zero, List.set_cons_succ, i64_w, i32_w]
            rfl
           refine pure_ (i := 29) (N := some 136) (v := ?_) (a' := ?_) #[true, true, true, true, true, true, true, true, true, true, true, true, true, true, true, true, true, true, true, true, true, true, true, true, true, true, true, true, true, true, false, false, false, false, false, false, false, false, false, false, false, false, false, false, false, false, false, false, false] rfl rfl (any_of HT_.out (by kernel_rfl)) (fun _ _ _ h => h) (Or.inl ⟨by rfl, ?_⟩) ?_ ?_
           rotate_left
           ·intro w'
            go_simp
            with_reducible rfl
           rotate_left
           ·simp only [Act.put, List.setIfInBounds_toArray, List.set_cons_zero, List.set_cons_succ, i64_w, i32_w]
            rfl
           refine pure_ (i := 31) (N := some 138) (v := ?_) (a' := ?_) #[true, true, true, true, true, true, true, true, true, true, true, true, true, true, true, true, true, true, true, true, true, true, true, true, true, true, true, true, true, true, false, true, false, false, false, false, false, false, false, false, false, false, false, false, false, false, false, false, false] rfl rfl (any_of HT_.out (by kernel_rfl)) (fun _ _ _ h => h) (Or.inl ⟨by rfl, ?_⟩) ?_ ?_
           rotate_left
           ·intro w'
            go_simp
            with_reducible rfl
           rotate_left
           ·simp only [Act.put, List.setIfInBounds_toArray, List.set_cons_zero, List.set_cons_succ, i64_w, i32_w]
            rfl
           refine pure_ (i := 32) (N := some 139) (v := ?_) (a' := ?_) #[true, true, true, true, true, true, true, true, true, true, true, true, true, true, true, true, true, true, true, true, true, true, true, true, true, true, true, true, true, true, false, true, true, false, false, false, false, false, false, false, false, false, false, false, false, false, false, false, false] rfl rfl (any_of HT_.out (by kernel_rfl)) (fun _ _ _ h => h) (Or.inl ⟨by rfl, ?_⟩) ?_ ?_
           rotate_left
           ·intro w'
            go_simp
            with_reducible rfl
           rotate_left
           ·simp only [Act.put, List.setIfInBounds_toArray, List.set_cons_zero, List.set_cons_succ, i64_w, i32_w]
            rfl
           refine pure_ (i := 33) (N := some 140) (v := ?_) (a' := ?_) #[true, true, true, true, true, true, true, true, true, true, true, true, true, true, true, true, true, true, true, true, true, true, true, true, true, true, true, true, true, true, false, true, true, true, false, false, false, false, false, false, false, false, false, false, false, false, false, false, false] rfl rfl (any_of HT_.out (by kernel_rfl)) (fun _ _ _ h => h) (Or.inl ⟨by rfl, ?_⟩) ?_ ?_
           rotate_left
           ·intro w'
            go_simp
            with_reducible rfl
           rotate_left
           ·simp only [Act.put, List.setIfInBounds_toArray, List.set_cons_zero, List.set_cons_succ, i64_w, i32_w]
            rfl
           refine one_ (i := 30) (N := some 137) #[true, true, true, true, true, true, true, true, true, true, true, true, true, true, true, true, true, true, true, true, true, true, true, true, true, true, true, true, true, true, true, true, true, true, false, false, false, false, false, false, false, false, false, false, false, false, false, false, false] rfl rfl (one_of HT_.out (by kernel_rfl)) (by decide) (fun K hK => ?_)
           refine goes_ Try.func18 (by kernel_rfl) rfl #[] (by rfl) rfl rfl ka ?_
           with_reducible refine (skiffref1_Blank.calls  t774 _ A78.out).mono ?_
           rintro e w86 ⟨rfl, hb⟩
           refine ⟨_, rfl, ?_⟩
           have n0_ := Aside0.mk (Kd.R_below (kR HO_11.out) hb)
           have n1_ := Aside0.mk (Kd.Q_below (kQ HO_737005.out) hb)
           have n2_ := Aside0.mk (Kd.Q_below (kQ HO_760005.out) hb)
           have n3_ := Aside0.mk (kL BK736.out hb)
           have n4_ := Aside0.mk (kL BK759.out hb)
           have n5_ := Aside0.mk (below_step (kb2 HB.out GE736.out GE759.out) hb)
           clear HO_11 HO_737005 HO_760005 BK736 BK759 HB; have HO_11 := n0_; have HO_737005 := n1_; have HO_760005 := n2_; have BK736 := n3_; have BK759 := n4_; have HB := n5_; clear n0_ n1_ n2_ n3_ n4_ n5_
           (try clear hb)
           (try clear hb2)
           (try clear hk)
           (try clear hi)
           refine hK.out _ _ ⟨(blk_cell BK736.out 0).trans rfl, (blk_cell BK736.out 1).trans rfl, (blk_cell BK736.out 2).trans rfl, (blk_cell BK736.out 3).trans rfl, (blk_cell BK736.out 4).trans rfl, (blk_cell BK736.out 5).trans rfl⟩ (fun hHeld => ?_)
           clear hK K
           refine norm_ (a' := ?_) ?_ ?_
           rotate_left
           ·show Act.put _ (some 137) _ = _
            simp only [Act.put, List.setIfInBounds_toArray, List.set_cons_zero, List.set_cons_succ, i64_w, i32_w]
            rfl
           refine pure_ (i := 34) (N := some 141) (v := ?_) (a' := ?_) #[true, true, true, true, true, true, true, true, true, true, true, true, true, true, true, true, true, true, true, true, true, true, true, true, true, true, true, true, true, true, true, true, true, true, true, false, false, false, false, false, false, false, false, false, false, false, false, false, false] rfl rfl (any_of HT_.out (by kernel_rfl)) (fun _ _ _ h => h) (Or.inl ⟨by rfl, ?_⟩) ?_ ?_
           rotate_left
           ·intro w'
            go_simp
            with_reducible rfl
           rotate_left
           ·simp only [Act.put, List.setIfInBounds_toArray, List.set_cons_zero, List.set_cons_succ, i64_w, i32_w]
            rfl
           refine pure_ (i := 35) (N := some 142) (v := ?_) (a' := ?_) #[true, true, true, true, true, true, true, true, true, true, true, true, true, true, true, true, true, true, true, true, true, true, true, true, true, true, true, true, true, true, true, true, true, true, true, true, false, false, false, false, false, false, false, false, false, false, false, false, false] rfl rfl (any_of HT_.out (by kernel_rfl)) (fun _ _ _ h => h) (Or.inl ⟨by rfl, ?_⟩) ?_ ?_
           rotate_left
           ·intro w'
            go_simp
            with_reducible rfl
           rotate_left
           ·simp only [Act.put, List.setIfInBounds_toArray, List.set_cons_zero, List.set_cons_succ, i64_w, i32_w]
            rfl
           refine pure_ (i := 36) (N := some 143) (v := ?_) (a' := ?_) #[true, true, true, true, true, true, true, true, true, true, true, true, true, true, true, true, true, true, true, true, true, true, true, true, true, true, true, true, true, true, true, true, true, true, true, true, true, false, false, false, false, false, false, false, false, false, false, false, false] rfl rfl (any_of HT_.out (by kernel_rfl)) (fun _ _ _ h => h) (Or.inl ⟨by rfl, ?_⟩) ?_ ?_
           rotate_left
           ·intro w'
            go_simp
            with_reducible rfl
           rotate_left
           ·simp only [Act.put, List.setIfInBounds_toArray, List.set_cons_zero, List.set_cons_succ, i64_w, i32_w]
            rfl
           refine pure_ (i := 37) (N := some 144) (v := ?_) (a' := ?_) #[true, true, true, true, true, true, true, true, true, true, true, true, true, true, true, true, true, true, true, true, true, true, true, true, true, true, true, true, true, true, true, true, true, true, true, true, true, true, false, false, false, false, false, false, false, false, false, false, false] rfl rfl (any_of HT_.out (by kernel_rfl)) (fun _ _ _ h => h) (Or.inl ⟨by rfl, ?_⟩) ?_ ?_
           rotate_left
           ·intro w'
            go_simp
            with_reducible rfl
           rotate_left
           ·simp only [Act.put, List.setIfInBounds_toArray, List.set_cons_zero, List.set_cons_succ, i64_w, i32_w]
            rfl
           refine pure_ (i := 38) (N := some 145) (v := ?_) (a' := ?_) #[true, true, true, true, true, true, true, true, true, true, true, true, true, true, true, true, true, true, true, true, true, true, true, true, true, true, true, true, true, true, true, true, true, true, true, true, true, true, true, false, false, false, false, false, false, false, false, false, false] rfl rfl (any_of HT_.out (by kernel_rfl)) (fun _ _ _ h => h) (Or.inl ⟨by rfl, ?_⟩) ?_ ?_
           rotate_left
           ·intro w'
            go_simp
            with_reducible rfl
           rotate_left
           ·simp only [Act.put, List.setIfInBounds_toArray, List.set_cons_zero, List.set_cons_succ, i64_w, i32_w]
            rfl
           refine take_ (i := 39) (N := some 146) (v := ?_) (a' := ?_) #[true, true, true, true, true, true, true, true, true, true, true, true, true, true, true, true, true, true, true, true, true, true, true, true, true, true, true, true, true, true, true, true, true, true, true, true, true, true, true, true, false, false, false, false, false, false, false, false, false] rfl rfl (take_ofW HT_.out HW_.out (by kernel_rfl)) (fun _ _ _ h => h) (Or.inl ⟨by rfl, ?_⟩) hHeld ?_ ?_
           rotate_left
           ·rintro w' ⟨s0, s1, s2, s3, s4, s5⟩
            go_simp
            with_reducible rfl
           rotate_left
           ·simp only [Act.put, List.setIfInBounds_toArray, List.set_cons_zero, List.set_cons_succ, i64_w, i32_w]
            rfl
           refine pure_ (i := 40) (N := some 147) (v := ?_) (a' := ?_) #[true, true, true, true, true, true, true, true, true, true, true, true, true, true, true, true, true, true, true, true, true, true, true, true, true, true, true, true, true, true, true, true, true, true, true, true, true, true, true, true, true, false, false, false, false, false, false, false, false] rfl rfl (any_of HT_.out (by kernel_rfl)) (fun _ _ _ h => h) (Or.inl ⟨by rfl, ?_⟩) ?_ ?_
           rotate_left
           ·intro w'
            go_simp
            with_reducible rfl
           rotate_left
           ·simp only [Act.put, List.setIfInBounds_toArray, List.set_cons_zero, List.set_cons_succ, i64_w, i32_w]
            rfl
           refine pure_ (i := 41) (N := some 148) (v := ?_) (a' := ?_) #[true, true, true, true, true, true, true, true, true, true, true, true, true, true, true, true, true, true, true, true, true, true, true, true, true, true, true, true, true, true, true, true, true, true, true, true, true, true, true, true, true, true, false, false, false, false, false, false, false] rfl rfl (any_of HT_.out (by kernel_rfl)) (fun _ _ _ h => h) (Or.inl ⟨by rfl, ?_⟩) ?_ ?_
           rotate_left
           ·intro w'
            go_simp
            with_reducible rfl
           rotate_left
           ·simp only [Act.put, List.setIfInBounds_toArray, List.set_cons_zero, List.set_cons_succ, i64_w, i32_w]
            rfl
           refine pure_ (i := 42) (N := some 149) (v := ?_) (a' := ?_) #[true, true, true, true, true, true, true, true, true, true, true, true, true, true, true, true, true, true, true, true, true, true, true, true, true, true, true, true, true, true, true, true, true, true, true, true, true, true, true, true, true, true, true, false, false, false, false, false, false] rfl rfl (any_of HT_.out (by kernel_rfl)) (fun _ _ _ h => h) (Or.inl ⟨by rfl, ?_⟩) ?_ ?_
           rotate_left
           ·intro w'
            go_simp
            with_reducible rfl
           rotate_left
           ·simp only [Act.put, List.setIfInBounds_toArray, List.set_cons_zero, List.set_cons_succ, i64_w, i32_w]
            rfl
           refine one_ (i := 43) (N := some 150) #[true, true, true, true, true, true, true, true, true, true, true, true, true, true, true, true, true, true, true, true, true, true, true, true, true, true, true, true, true, true, true, true, true, true, true, true, true, true, true, true, true, true, true, true, false, false, false, false, false] rfl rfl (one_of HT_.out (by kernel_rfl)) (by decide) (fun K hK => ?_)
           refine goes_ Try.func21 (by kernel_rfl) rfl #[] (by rfl) rfl rfl ka ?_
           with_reducible refine (skifflaw18_sent.calls k3  t775 t776 t777 t778 t779 t780 _ A83.out).mono ?_
           rintro e w87 ⟨v781, rfl, ho0, hb⟩
           refine ⟨_, rfl, ?_⟩
           have n0_ := Aside0.mk (Kd.R_elder' (kR HO_11.out) (Kd.R_base ho0) hb)
           have n1_ := Aside0.mk (Kd.Q_elder' (kQ HO_737005.out) (Kd.R_base ho0) hb)
           have n2_ := Aside0.mk (Kd.Q_elder' (kQ HO_760005.out) (Kd.R_base ho0) hb)
           have n3_ := Aside0.mk (Kd.R_lower (Kd.R_new' (Kd.R_new' (Kd.R_new' ho0 (Kd.R_lt (kR HO_11.out))) (Kd.Q_lt (kQ HO_737005.out))) (Kd.Q_lt (kQ HO_760005.out))) (below_size (kb2 HB.out GE736.out GE759.out)))
           have n4_ := Aside0.mk (kL BK736.out hb)
           have n5_ := Aside0.mk (kL BK759.out hb)
           have n6_ := Aside0.mk (below_step (kb2 HB.out GE736.out GE759.out) hb)
           clear HO_11 HO_737005 HO_760005 BK736 BK759 HB; have HO_11 := n0_; have HO_737005 := n1_; have HO_760005 := n2_; have HO782 := n3_; have BK736 := n4_; have BK759 := n5_; have HB := n6_; clear n0_ n1_ n2_ n3_ n4_ n5_ n6_
           (try clear hb)
           (try clear hb2)
           (try clear hk)
           (try clear hi)
           (try clear ho0)
           obtain ⟨Ao88, co88, eo88⟩ := Kd.R_slice HO782.out
           (first | subst eo88 | (injection eo88 with f1_ f2_ f3_; have f4_ := f1_.symm; have f5_ := f3_.symm; clear f1_ f2_ f3_; subst f4_; subst f5_))
           refine hK.out _ _ ⟨(blk_cell BK736.out 0).trans rfl, (blk_cell BK736.out 1).trans rfl, (blk_cell BK736.out 2).trans rfl, (blk_cell BK736.out 3).trans rfl, (blk_cell BK736.out 4).trans rfl, (blk_cell BK736.out 5).trans rfl⟩ (fun hHeld => ?_)
           clear hK K
           refine norm_ (a' := ?_) ?_ ?_
           rotate_left
           ·show Act.put _ (some 150) _ = _
            simp only [Act.put, List.setIfInBounds_toArray, List.set_cons_zero, List.set_cons_succ, i64_w, i32_w]
            rfl
           refine pure_ (i := 44) (N := some 151) (v := ?_) (a' := ?_) #[true, true, true, true, true, true, true, true, true, true, true, true, true, true, true, true, true, true, true, true, true, true, true, true, true, true, true, true, true, true, true, true, true, true, true, true, true, true, true, true, true, true, true, true, true, false, false, false, false] rfl rfl (any_of HT_.out (by kernel_rfl)) (fun _ _ _ h => h) (Or.inl ⟨by rfl, ?_⟩) ?_ ?_
           rotate_left
           ·intro w'
            go_simp
            with_reducible rfl
           rotate_left
           ·simp only [Act.put, List.setIfInBounds_toArray, List.set_cons_zero, List.set_cons_succ, i64_w, i32_w]
            rfl
           refine pure_ (i := 45) (N := some 152) (v := ?_) (a' := ?_) #[true, true, true, true, true, true, true, true, true, true, true, true, true, true, true, true, true, true, true, true, true, true, true, true, true, true, true, true, true, true, true, true, true, true, true, true, true, true, true, true, true, true, true, true, true, true, false, false, false] rfl rfl (any_of HT_.out (by kernel_rfl)) (fun _ _ _ h => h) (Or.inl ⟨by rfl, ?_⟩) ?_ ?_
           rotate_left
           ·intro w'
            go_simp
            with_reducible rfl
           rotate_left
           ·simp only [Act.put, List.setIfInBounds_toArray, List.set_cons_zero, List.set_cons_succ, i64_w, i32_w]
            rfl
           refine pure_ (i := 46) (N := some 153) (v := ?_) (a' := ?_) #[true, true, true, true, true, true, true, true, true, true, true, true, true, true, true, true, true, true, true, true, true, true, true, true, true, true, true, true, true, true, true, true, true, true, true, true, true, true, true, true, true, true, true, true, true, true, true, false, false] rfl rfl (any_of HT_.out (by kernel_rfl)) (fun _ _ _ h => h) (Or.inl ⟨by rfl, ?_⟩) ?_ ?_
           rotate_left
           ·intro w'
            go_simp
            with_reducible rfl
           rotate_left
           ·simp only [Act.put, List.setIfInBounds_toArray, List.set_cons_zero, List.set_cons_succ, i64_w, i32_w]
            rfl
           refine pure_ (i := 47) (N := some 154) (v := ?_) (a' := ?_) #[true, true, true, true, true, true, true, true, true, true, true, true, true, true, true, true, true, true, true, true, true, true, true, true, true, true, true, true, true, true, true, true, true, true, true, true, true, true, true, true, true, true, true, true, true, true, true, true, false] rfl rfl (any_of HT_.out (by kernel_rfl)) (fun _ _ _ h => h) (Or.inl ⟨by rfl, ?_⟩) ?_ ?_
           rotate_left
           ·intro w'
            go_simp
            with_reducible rfl
           rotate_left
           ·simp only [Act.put, List.setIfInBounds_toArray, List.set_cons_zero, List.set_cons_succ, i64_w, i32_w]
            rfl
           refine pure_ (i := 48) (N := some 6) (v := ?_) (a' := ?_) #[true, true, true, true, true, true, true, true, true, true, true, true, true, true, true, true, true, true, true, true, true, true, true, true, true, true, true, true, true, true, true, true, true, true, true, true, true, true, true, true, true, true, true, true, true, true, true, true, true] rfl rfl (any_of HT_.out (by kernel_rfl)) (fun _ _ _ h => h) (Or.inl ⟨by rfl, ?_⟩) ?_ ?_
           rotate_left
           ·intro w'
            go_simp
            with_reducible rfl
           rotate_left
           ·simp only [Act.put, List.setIfInBounds_toArray, List.set_cons_zero, List.set_cons_succ, i64_w, i32_w]
            rfl
           refine done_ (done_of HT_.out (by kernel_rfl)) ?_
           try go_wp2
           go_ret
           exact ⟨by first | rfl | (simp [errW_none, errW_some] <;> rfl) | (simp only [← hji75]; first | rfl | (simp [errW_none, errW_some] <;> rfl)) | (simp [*, errW_none, errW_some] <;> rfl), kb2 HB.out GE736.out GE759.out⟩

end Go.Proofs.Ytgoeooghoojdgaa.P
