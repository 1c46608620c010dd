-- written by wip/prt.py of this repo, by the kit's print, over contracts that are proved here by hand
import Derived.Test.YtgoeooghoojdgaaZ2Cz
import Derived.Test.YtgoeooghoojdgaaZ2Px0
import Derived.Test.YtgoeooghoojdgaaZ2Px5
import Derived.Test.YtgoeooghoojdgaaZ2Px6
import Derived.Test.YtgoeooghoojdgaaZ2Px7
import Derived.Test.YtgoeooghoojdgaaZ2Px8
namespace Go.Proofs.Ytgoeooghoojdgaa.P
open Go.RowKit Go.Proofs.YtgoeooghoojdgaaW.PrintWords Go.Proofs.YtgoeooghoojdgaaW.PrintLast Go.Proofs.YtgoeooghoojdgaaW.PrintMore
attribute [local go_sem] max2_int min2_int max_two min_two max_three min_three max_four min_four   -- for this text's walks alone
set_option linter.unusedVariables false
set_option linter.unusedSimpArgs false

/-! ### skifflaw18_TickAll: function 5 -/
mutual
def skifflaw18_TickAll.j0 : Nat → ByteArray → Bool → List (S40) → Bool → Option (Bool)
 | 0, _, _, _, _ => none
 | k + 1, x0, x1, x9, x37 => if x37 = true then (some true) else (if x1 = true then (skifflaw18_TickAll.j1 k x0 x1 x9 5 0 0 5 0 x9) else (skifflaw18_TickAll.j1 k x0 x1 x9 2 0 0 5 0 x9))
def skifflaw18_TickAll.j1 : Nat → ByteArray → Bool → List (S40) → Int → Int → Int → Int → Int → List (S40) → Option (Bool)
 | 0, _, _, _, _, _, _, _, _, _ => none
 | k + 1, x0, x1, x9, x626000, x626001, x626002, x626003, x626004, x626005 => skifflaw18_TickAll.l0 k x0 x1 x9 x0 0 x626000 x626001 x626002 x626003 x626004 x626005
def skifflaw18_TickAll.l0 : Nat → ByteArray → Bool → List (S40) → ByteArray → Int → Int → Int → Int → Int → Int → List (S40) → Option (Bool)
 | 0, _, _, _, _, _, _, _, _, _, _, _ => none
 | k + 1, x0, x1, x9, x12, x13, x626000, x626001, x626002, x626003, x626004, x626005 => if x13 < (x9.length : Int) then (if 0 ≤ x13 then ((skiffref1_Do.f k x12 ((rd_T40 x9 x13).f0) ((rd_T40 x9 x13).f1) ((rd_T40 x9 x13).f2)).bind fun bt627 => ((tick_Step.f k x0 x626000 x626001 x626002 x626003 x626004 x626005).bind fun bt629 => ((skifflaw0_Num.f bt629.2.2.2.2.2.2.2).bind fun t640 => (if t640 = 0 then (if bt629.1.toList = bt627.1.toList then (skifflaw18_TickAll.j3 k x1 x9 bt627.1 x13 bt629.1 ((bt629.2.2.2.2.2.2.1.length : Int) != (wrap64 ((wrap64 ((x9.length : Int) - 1)) - x13))) x626000 x626001 x626002 x626003 x626004 x626005 bt629.2.1 bt629.2.2.1 bt629.2.2.2.1 bt629.2.2.2.2.1 bt629.2.2.2.2.2.1 bt629.2.2.2.2.2.2.1) else (none)) else (none))))) else (none)) else (if x1 = true then ((skifflaw0_SameDevice.f k x626000 x626001 x626002 x626003 x626004 x626005 0 0 0 0 0 ([] : List (S40))).bind fun t641 => (some t641)) else ((skifflaw0_SameDevice.f k x626000 x626001 x626002 x626003 x626004 x626005 1 0 0 5 0 ([] : List (S40))).bind fun t642 => (some t642)))
def skifflaw18_TickAll.j3 : Nat → Bool → List (S40) → ByteArray → Int → ByteArray → Bool → Int → Int → Int → Int → Int → List (S40) → Int → Int → Int → Int → Int → List (S40) → Option (Bool)
 | 0, _, _, _, _, _, _, _, _, _, _, _, _, _, _, _, _, _, _ => none
 | k + 1, x1, x9, x12, x13, x14, x83, x626000, x626001, x626002, x626003, x626004, x626005, x640000, x640001, x640002, x640003, x640004, x640005 => if x83 = true then (none) else (if x13 < (wrap64 ((x9.length : Int) - 1)) then (if x640000 = x626000 then (if x640003 = 5 then (skifflaw18_TickAll.l0 k x14 x1 x9 x12 (wrap64 (x13 + 1)) x640000 x640001 x640002 x640003 x640004 x640005) else (none)) else (none)) else (skifflaw18_TickAll.l0 k x14 x1 x9 x12 (wrap64 (x13 + 1)) x640000 x640001 x640002 x640003 x640004 x640005))
end
def skifflaw18_TickAll.f (k : Nat) (a0 : ByteArray) (a1 : Bool) (a2 : Int) (a3 : ByteArray) : Option (Bool) := (skifflaw18_awake.f k).bind fun t620 => (if t620 = true then ((skiffref1_Words.f k (Go.bits .and .i64 a2 1020) a3).bind fun bt621 => (if bt621.2 = 0 then (if (a0.size : Int) = 768 then (skifflaw18_TickAll.j0 k a0 a1 bt621.1 ((bt621.1.length : Int) == 0)) else (skifflaw18_TickAll.j0 k a0 a1 bt621.1 true)) else (skifflaw18_TickAll.j0 k a0 a1 bt621.1 true))) else (none))
set_option maxHeartbeats 8000000 in
set_option maxRecDepth 100000 in
theorem skifflaw18_TickAll.calls (k : Nat) (a0 : ByteArray) (a1 : Bool) (a2 : Int) (a3 : ByteArray) (r : Bool) (w : World) (h : skifflaw18_TickAll.f k a0 a1 a2 a3 = some r) :
  Calls Try.prog 5 #[.string a0, .bool a1, .int .i64 a2, .string a3] w fun e w' => e = .returned (.bool r) ∧ Below w.heap.size w w' := by
 have hu24 := Try.underlying24
 have hfld : ∀ (w : World) (a0 a1 a2 a3 a4 : Int) (v : Value), (Instr.field 24 (.agg #[.int .i64 a0, .int .i64 a1, .int .i64 a2, .int .i64 a3, .int .i64 a4, v]) 5).run Try.prog w = .ok v w := by intro w a0 a1 a2 a3 a4 v; kernel_rfl
 have hu40 := Try.underlying40
 have HB := Aside0.mk (Below.refl w.heap.size w)
 have H : ((skifflaw18_awake.f k).bind fun t620 => (if t620 = true then ((skiffref1_Words.f k (Go.bits .and .i64 a2 1020) a3).bind fun bt621 => (if bt621.2 = 0 then (if (a0.size : Int) = 768 then (skifflaw18_TickAll.j0 k a0 a1 bt621.1 ((bt621.1.length : Int) == 0)) else (skifflaw18_TickAll.j0 k a0 a1 bt621.1 true)) else (skifflaw18_TickAll.j0 k a0 a1 bt621.1 true))) else (none))) = some r := h
 clear h
 replace H := Option.bind_eq_some_iff.mp H
 obtain ⟨t620, A50, H⟩ := H
 replace H : (if t620 = true then ((skiffref1_Words.f k (Go.bits .and .i64 a2 1020) a3).bind fun bt621 => (if bt621.2 = 0 then (if (a0.size : Int) = 768 then (skifflaw18_TickAll.j0 k a0 a1 bt621.1 ((bt621.1.length : Int) == 0)) else (skifflaw18_TickAll.j0 k a0 a1 bt621.1 true)) else (skifflaw18_TickAll.j0 k a0 a1 bt621.1 true))) else (none)) = some r := H
 have A5 := Aside0.mk A50
 clear A50
 by_cases c6 : t620 = true
 case neg =>
  replace c6 := Bool.eq_false_iff.mpr c6
  subst c6
  have H1 : (none) = some r := by rw [if_neg (show ¬ (false = true) by decide)] at H; exact H
  clear H; have H := H1; clear H1
  exact absurd H (by simp)
 subst c6
 have H1 : ((skiffref1_Words.f k (Go.bits .and .i64 a2 1020) a3).bind fun bt621 => (if bt621.2 = 0 then (if (a0.size : Int) = 768 then (skifflaw18_TickAll.j0 k a0 a1 bt621.1 ((bt621.1.length : Int) == 0)) else (skifflaw18_TickAll.j0 k a0 a1 bt621.1 true)) else (skifflaw18_TickAll.j0 k a0 a1 bt621.1 true))) = some r := by rw [if_pos rfl] at H; exact H
 clear H; have H := H1; clear H1
 replace H := Option.bind_eq_some_iff.mp H
 obtain ⟨⟨t621, t622⟩, A70, H⟩ := H
 replace H : (if t622 = 0 then (if (a0.size : Int) = 768 then (skifflaw18_TickAll.j0 k a0 a1 t621 ((t621.length : Int) == 0)) else (skifflaw18_TickAll.j0 k a0 a1 t621 true)) else (skifflaw18_TickAll.j0 k a0 a1 t621 true)) = some r := H
 have A7 := Aside0.mk A70
 clear A70
 have HC8 := Aside0.mk H
 clear H
 go_enter Try.func5, Try.ntmps5
 go_upto_region 4 with (first | ((with_reducible refine gate_callee (f := 17) rfl ?_); refine goesL_ (some 17) rfl rfl Try.func17 (by kernel_rfl) rfl #[] rfl ka ?_; (with_reducible refine (skifflaw18_awake.calls k  true _ A5.out).mono ?_); rintro e w9 ⟨rfl, hb⟩; refine ⟨_, rfl, ?_⟩; have n0_ := Aside0.mk (below_step (kb HB.out) hb); clear HB; have HB := n0_; clear n0_; (try clear hb); (try clear hb2); (try clear hk); (try clear hi)) | ((with_reducible refine gate_callee (f := 19) rfl ?_); refine goesL_ (some 23) rfl rfl Try.func19 (by kernel_rfl) rfl #[.int .i64 (Go.bits .and .i64 a2 1020), .string a3] rfl ka ?_; (with_reducible refine (skiffref1_Words.calls k (Go.bits .and .i64 a2 1020) a3 t621 t622 _ A7.out).mono ?_); rintro e w10 ⟨v623, rfl, ho0, hb⟩; refine ⟨_, rfl, ?_⟩; have n0_ := Aside0.mk (Kd.R_lower ho0 (below_size (kb HB.out))); have n1_ := Aside0.mk (below_step (kb HB.out) hb); clear HB; have HO624 := n0_; have HB := n1_; clear n0_ n1_; (try clear hb); (try clear hb2); (try clear hk); (try clear hi); (try clear ho0)))
 (try simp only [Act.put, List.setIfInBounds_toArray, List.set_cons_zero, List.set_cons_succ])
 go_cut [37] (fun v37 wc => ∃ (kq : Nat) (x37_7 : Bool), v37 = .bool x37_7 ∧ Aside0 (skifflaw18_TickAll.j0 kq a0 a1 t621 x37_7 = some r) ∧ Aside0 (kq ≤ k) ∧ Aside0 (Kd.R k40 40 wc w.heap.size (fun _ => True) v623 t621) ∧ Aside0 (Below w.heap.size w wc))
 case first =>
  have H := HC8.out
  clear HC8
  by_cases c11 : t622 = 0
  case neg =>
   rw [if_neg c11] at H
   have c11b0 : (t622 == 0) = false := beq_eq_false_iff_ne.mpr c11
   have c11b1 : (t622 != 0) = true := bne_iff_ne.mpr c11
   (first | rw [c11b0] | rw [c11b1] | (simp only [i64_w, i32_w]; rw [c11b0]) | skip)
   have H' := Aside0.mk H
   clear H
   go_wp2
   go_meet
   case rel => exact ⟨_, (true), (by first | rfl | (simp; done) | (simp [*]; done)), H', ⟨by first | omega | exact Nat.le_refl _⟩, ⟨kR HO624.out⟩, ⟨kb HB.out⟩⟩
  rw [if_pos c11] at H
  have c11b0 : (t622 == 0) = true := beq_iff_eq.mpr c11
  have c11b1 : (t622 != 0) = false := bne_eq_false_iff_eq.mpr c11
  clear c11
  (first | rw [c11b0] | rw [c11b1] | (simp only [i64_w, i32_w]; rw [c11b0]) | skip)
  by_cases c12 : (a0.size : Int) = 768
  case neg =>
   rw [if_neg c12] at H
   have c12b0 : ((a0.size : Int) == 768) = false := beq_eq_false_iff_ne.mpr c12
   have c12b1 : ((a0.size : Int) != 768) = true := bne_iff_ne.mpr c12
   have H' := Aside0.mk H
   clear H
   go_wp2
   go_meet
   case rel => exact ⟨_, (true), (by first | rfl | (simp; done) | (simp [*]; done)), H', ⟨by first | omega | exact Nat.le_refl _⟩, ⟨kR HO624.out⟩, ⟨kb HB.out⟩⟩
  rw [if_pos c12] at H
  have c12b0 : ((a0.size : Int) == 768) = true := beq_iff_eq.mpr c12
  have c12b1 : ((a0.size : Int) != 768) = false := bne_eq_false_iff_eq.mpr c12
  clear c12
  have H' := Aside0.mk H
  clear H
  obtain ⟨Ao13, co13, eo13⟩ := Kd.R_slice HO624.out
  subst eo13
  go_wp2
  go_meet
  case rel => exact ⟨_, (((t621.length : Int) == 0)), (by first | rfl | (simp; done) | (simp [*]; done)), H', ⟨by first | omega | exact Nat.le_refl _⟩, ⟨kR HO624.out⟩, ⟨kb HB.out⟩⟩
 case rest =>
  clear HC8
  try clear c1; try clear p2; try clear c5; try clear c6; try clear c11; try clear c11b0; try clear c11b1; try clear c12; try clear c12b0; try clear c12b1
  obtain ⟨kq, x37_7, rfl, HA, HJ7, HO_9, HB⟩ := hcut
  cases kq with
  | zero => exact absurd HA.out (by simp [skifflaw18_TickAll.j0])
  | succ kj7 =>
   have H := HA.out
   clear HA
   simp only [skifflaw18_TickAll.j0] at H
   by_cases c14 : x37_7 = true
   ·subst c14
    have H1 : (some true) = some r := by rw [if_pos rfl] at H; exact H
    clear H; have H := H1; clear H1
    obtain rfl := Option.some.inj H
    go_wp2
    go_ret
    exact ⟨by first | rfl | (simp [errW_none, errW_some] <;> rfl) | (simp [*, errW_none, errW_some] <;> rfl), kb HB.out⟩
   ·replace c14 := Bool.eq_false_iff.mpr c14
    subst c14
    have H1 : (if a1 = true then (skifflaw18_TickAll.j1 kj7 a0 a1 t621 5 0 0 5 0 t621) else (skifflaw18_TickAll.j1 kj7 a0 a1 t621 2 0 0 5 0 t621)) = some r := by rw [if_neg (show ¬ (false = true) by decide)] at H; exact H
    clear H; have H := H1; clear H1
    have HC15 := Aside0.mk H
    clear H
    obtain ⟨Ao16, co16, eo16⟩ := Kd.R_slice HO_9.out
    subst eo16
    go_upto_if 40 with (first | ((with_reducible refine gate_dst (N := 11) rfl ?_); (try (refine gate_guard (by rfl) ?_; dsimp only)); refine box_event ?hg (N := 11) ?hd (cs := #[.int .i64 0, .int .i64 0, .int .i64 0, .int .i64 0, .int .i64 0, .slice none 0 0]) (t := 24) ?hr ?_; (case hd => rfl); (case hg => rfl); (case hr => first | (go_simp; done) | (go_simp; rfl)); intro gb625 hg w17 hbox hb; have n0_ := Aside0.mk (Kd.R_below (kR HO_9.out) hb); have n1_ := Aside0.mk (below_step (kb HB.out) hb); have n2_ := Aside0.mk (hbox); have n3_ := Aside0.mk ((kz hg (below_size (kb HB.out)) : w.heap.size ≤ gb625)); have n4_ := Aside0.mk ((kz hg (below_size (kb HB.out)) : w.heap.size ≤ gb625)); clear HO_9; clear HB; have HO_9 := n0_; have HB := n1_; have BK625 := n2_; have GW625 := n3_; have GE625 := n4_; clear n0_ n1_ n2_ n3_ n4_; clear hb hbox hg; obtain ⟨hcz18_0, hcz18_1, hcz18_2, hcz18_3, hcz18_4, hcz18_5⟩ := kc6 BK625.out; obtain ⟨hfz18_0, hfz18_1, hfz18_2, hfz18_3, hfz18_4, hfz18_5⟩ := kf6 BK625.out))
    (try simp only [Act.put, List.setIfInBounds_toArray, List.set_cons_zero, List.set_cons_succ])
    go_cut [] (fun wc => ∃ (kq : Nat) (x626000_14 : Int), Aside0 (skifflaw18_TickAll.j1 kq a0 a1 t621 x626000_14 0 0 5 0 t621 = some r) ∧ Aside0 (kq ≤ kj7) ∧ Aside0 (Kd.R k40 40 wc w.heap.size (fun _ => True) (.slice Ao16 t621.length co16) t621) ∧ Aside0 (Kd.Q k40 40 wc w.heap.size (fun _ => True) (.slice Ao16 t621.length co16) t621) ∧ Aside0 (wc.heap[gb625]? = some (.cells #[.int .i64 x626000_14, .int .i64 0, .int .i64 0, .int .i64 5, .int .i64 0, (.slice Ao16 t621.length co16)] 24 (0, 0))) ∧ Aside0 (Below w.heap.size w wc))
    case first =>
     have H := HC15.out
     clear HC15
     by_cases c19 : a1 = true
     case neg =>
      replace c19 := Bool.eq_false_iff.mpr c19
      subst c19
      have H1 : (skifflaw18_TickAll.j1 kj7 a0 false t621 2 0 0 5 0 t621) = some r := by rw [if_neg (show ¬ (false = true) by decide)] at H; exact H
      clear H; have H := H1; clear H1
      have H' := Aside0.mk H
      clear H
      go_wp2
      go_meet
      case rel => exact ⟨_, (2), H', ⟨by have := HJ7.out; first | omega | exact Nat.le_refl _⟩, ⟨by (with_reducible repeat (first | apply Kd.R_alloc | apply Kd.R_drewN | apply Kd.R_drew)); exact Kd.R_mono (Kd.R_far (p := ⟨gb625, 5, none⟩) (Kd.R_far (p := ⟨gb625, 4, none⟩) (Kd.R_far (p := ⟨gb625, 3, none⟩) (Kd.R_far (p := ⟨gb625, 2, none⟩) (Kd.R_far (p := ⟨gb625, 1, none⟩) (Kd.R_far (p := ⟨gb625, 0, none⟩) (Kd.R_types HO_9.out BK625.out (by decide)) (fun _ hk => hk.2) (.int .i64 2)) (fun _ hk => hk.2) (.int .i64 0)) (fun _ hk => hk.2) (.int .i64 0)) (fun _ hk => hk.2) (.int .i64 5)) (fun _ hk => hk.2) (.int .i64 0)) (fun _ hk => hk.2) (.slice Ao16 t621.length co16)) (fun _ hk => trivial)⟩, ⟨Kd.Q_of_R (by (with_reducible repeat (first | apply Kd.R_alloc | apply Kd.R_drewN | apply Kd.R_drew)); exact Kd.R_mono (Kd.R_far (p := ⟨gb625, 5, none⟩) (Kd.R_far (p := ⟨gb625, 4, none⟩) (Kd.R_far (p := ⟨gb625, 3, none⟩) (Kd.R_far (p := ⟨gb625, 2, none⟩) (Kd.R_far (p := ⟨gb625, 1, none⟩) (Kd.R_far (p := ⟨gb625, 0, none⟩) (Kd.R_types HO_9.out BK625.out (by decide)) (fun _ hk => hk.2) (.int .i64 2)) (fun _ hk => hk.2) (.int .i64 0)) (fun _ hk => hk.2) (.int .i64 0)) (fun _ hk => hk.2) (.int .i64 5)) (fun _ hk => hk.2) (.int .i64 0)) (fun _ hk => hk.2) (.slice Ao16 t621.length co16)) (fun _ hk => trivial))⟩, ⟨kP6 BK625.out⟩, ⟨kb1 HB.out GE625.out⟩⟩
     subst c19
     have H1 : (skifflaw18_TickAll.j1 kj7 a0 true t621 5 0 0 5 0 t621) = some r := by rw [if_pos rfl] at H; exact H
     clear H; have H := H1; clear H1
     have H' := Aside0.mk H
     clear H
     obtain ⟨hcz20_0, hcz20_1, hcz20_2, hcz20_3, hcz20_4, hcz20_5⟩ := kc6 BK625.out
     obtain ⟨hfz20_0, hfz20_1, hfz20_2, hfz20_3, hfz20_4, hfz20_5⟩ := kf6 BK625.out
     go_wp2
     go_meet
     case rel => exact ⟨_, (5), H', ⟨by have := HJ7.out; first | omega | exact Nat.le_refl _⟩, ⟨by (with_reducible repeat (first | apply Kd.R_alloc | apply Kd.R_drewN | apply Kd.R_drew)); exact Kd.R_mono (Kd.R_far (p := ⟨gb625, 0, none⟩) (Kd.R_far (p := ⟨gb625, 5, none⟩) (Kd.R_far (p := ⟨gb625, 4, none⟩) (Kd.R_far (p := ⟨gb625, 3, none⟩) (Kd.R_far (p := ⟨gb625, 2, none⟩) (Kd.R_far (p := ⟨gb625, 1, none⟩) (Kd.R_far (p := ⟨gb625, 0, none⟩) (Kd.R_types HO_9.out BK625.out (by decide)) (fun _ hk => hk.2) (.int .i64 2)) (fun _ hk => hk.2) (.int .i64 0)) (fun _ hk => hk.2) (.int .i64 0)) (fun _ hk => hk.2) (.int .i64 5)) (fun _ hk => hk.2) (.int .i64 0)) (fun _ hk => hk.2) (.slice Ao16 t621.length co16)) (fun _ hk => hk.2) (.int .i64 5)) (fun _ hk => trivial)⟩, ⟨Kd.Q_of_R (by (with_reducible repeat (first | apply Kd.R_alloc | apply Kd.R_drewN | apply Kd.R_drew)); exact Kd.R_mono (Kd.R_far (p := ⟨gb625, 0, none⟩) (Kd.R_far (p := ⟨gb625, 5, none⟩) (Kd.R_far (p := ⟨gb625, 4, none⟩) (Kd.R_far (p := ⟨gb625, 3, none⟩) (Kd.R_far (p := ⟨gb625, 2, none⟩) (Kd.R_far (p := ⟨gb625, 1, none⟩) (Kd.R_far (p := ⟨gb625, 0, none⟩) (Kd.R_types HO_9.out BK625.out (by decide)) (fun _ hk => hk.2) (.int .i64 2)) (fun _ hk => hk.2) (.int .i64 0)) (fun _ hk => hk.2) (.int .i64 0)) (fun _ hk => hk.2) (.int .i64 5)) (fun _ hk => hk.2) (.int .i64 0)) (fun _ hk => hk.2) (.slice Ao16 t621.length co16)) (fun _ hk => hk.2) (.int .i64 5)) (fun _ hk => trivial))⟩, ⟨by (with_reducible repeat (first | refine blk_drewN ?_ _ | refine blk_drew ?_ | refine blk_alloc ?_ _)); refine blk_put (cs := #[.int .i64 2, .int .i64 0, .int .i64 0, .int .i64 5, .int .i64 0, .slice Ao16 t621.length co16]) ?_ 0 _ rfl; (with_reducible repeat (first | refine blk_drewN ?_ _ | refine blk_drew ?_ | refine blk_alloc ?_ _)); refine blk_put (cs := #[.int .i64 2, .int .i64 0, .int .i64 0, .int .i64 5, .int .i64 0, .slice none 0 0]) ?_ 5 _ rfl; (with_reducible repeat (first | refine blk_drewN ?_ _ | refine blk_drew ?_ | refine blk_alloc ?_ _)); refine blk_put (cs := #[.int .i64 2, .int .i64 0, .int .i64 0, .int .i64 5, .int .i64 0, .slice none 0 0]) ?_ 4 _ rfl; (with_reducible repeat (first | refine blk_drewN ?_ _ | refine blk_drew ?_ | refine blk_alloc ?_ _)); refine blk_put (cs := #[.int .i64 2, .int .i64 0, .int .i64 0, .int .i64 0, .int .i64 0, .slice none 0 0]) ?_ 3 _ rfl; (with_reducible repeat (first | refine blk_drewN ?_ _ | refine blk_drew ?_ | refine blk_alloc ?_ _)); refine blk_put (cs := #[.int .i64 2, .int .i64 0, .int .i64 0, .int .i64 0, .int .i64 0, .slice none 0 0]) ?_ 2 _ rfl; (with_reducible repeat (first | refine blk_drewN ?_ _ | refine blk_drew ?_ | refine blk_alloc ?_ _)); refine blk_put (cs := #[.int .i64 2, .int .i64 0, .int .i64 0, .int .i64 0, .int .i64 0, .slice none 0 0]) ?_ 1 _ rfl; (with_reducible repeat (first | refine blk_drewN ?_ _ | refine blk_drew ?_ | refine blk_alloc ?_ _)); refine blk_put (cs := #[.int .i64 0, .int .i64 0, .int .i64 0, .int .i64 0, .int .i64 0, .slice none 0 0]) ?_ 0 _ rfl; (with_reducible repeat (first | refine blk_drewN ?_ _ | refine blk_drew ?_ | refine blk_alloc ?_ _)); exact BK625.out⟩, ⟨kb1 HB.out GE625.out⟩⟩
    case rest =>
     clear HC15
     try clear c1; try clear p2; try clear c5; try clear c6; try clear c11; try clear c11b0; try clear c11b1; try clear c12; try clear c12b0; try clear c12b1; try clear c14; try clear c17; try clear c19; try clear hcz18_0; try clear hcz18_1; try clear hcz18_2; try clear hcz18_3; try clear hcz18_4; try clear hcz18_5; try clear hcz20_0; try clear hcz20_1; try clear hcz20_2; try clear hcz20_3; try clear hcz20_4; try clear hcz20_5; try clear hfz18_0; try clear hfz18_1; try clear hfz18_2; try clear hfz18_3; try clear hfz18_4; try clear hfz18_5; try clear hfz20_0; try clear hfz20_1; try clear hfz20_2; try clear hfz20_3; try clear hfz20_4; try clear hfz20_5; try clear p2
     obtain ⟨kq, x626000_14, HA, HJ14, HO_9, HO_626005, BK625, HB⟩ := hcut
     cases kq with
     | zero => exact absurd HA.out (by simp [skifflaw18_TickAll.j1])
     | succ kj14 =>
      have H := HA.out
      clear HA
      simp only [skifflaw18_TickAll.j1] at H
      have H' := Aside0.mk H
      clear H
      go_wp2
      go_loopg [0, 12, 13] kj14 (fun kq v0 v12 v13 w' => ∃ (x0_3 : ByteArray) (x12_3 : ByteArray) (x13_3 : Int) (x626000_3 : Int) (x626001_3 : Int) (x626002_3 : Int) (x626003_3 : Int) (x626004_3 : Int) (x626005_3 : List (S40)) (u626005 : Value), v0 = .string x0_3 ∧ v12 = .string x12_3 ∧ v13 = .int .i64 x13_3 ∧ Aside0 (skifflaw18_TickAll.l0 kq x0_3 a1 t621 x12_3 x13_3 x626000_3 x626001_3 x626002_3 x626003_3 x626004_3 x626005_3 = some r) ∧ Aside0 (kq ≤ kj14) ∧ Aside0 (Kd.R k40 40 w' w.heap.size (fun _ => True) (.slice Ao16 t621.length co16) t621) ∧ Aside0 (Kd.Q k40 40 w' w.heap.size (fun _ => True) u626005 x626005_3) ∧ Aside0 (w'.heap[gb625]? = some (.cells #[.int .i64 x626000_3, .int .i64 x626001_3, .int .i64 x626002_3, .int .i64 x626003_3, .int .i64 x626004_3, u626005] 24 (0, 0))) ∧ Aside0 (Below w.heap.size w w'))
      case atStart => exact ⟨(a0), (a0), (0), (x626000_14), (0), (0), (5), (0), (t621), (.slice Ao16 t621.length co16), (by first | rfl | (simp; done) | (simp [*]; done)), (by first | rfl | (simp; done) | (simp [*]; done)), (by first | rfl | (simp; done) | (simp [*]; done)), H', ⟨Nat.le_refl _⟩, ⟨kR HO_9.out⟩, ⟨kQ HO_626005.out⟩, ⟨kB BK625.out⟩, ⟨kb1 HB.out GE625.out⟩⟩
      case round =>
       clear H'
       try clear c1; try clear p2; try clear c5; try clear c6; try clear c11; try clear c11b0; try clear c11b1; try clear c12; try clear c12b0; try clear c12b1; try clear c14; try clear c17; try clear c19; try clear hcz18_0; try clear hcz18_1; try clear hcz18_2; try clear hcz18_3; try clear hcz18_4; try clear hcz18_5; try clear hcz20_0; try clear hcz20_1; try clear hcz20_2; try clear hcz20_3; try clear hcz20_4; try clear hcz20_5; try clear hfz18_0; try clear hfz18_1; try clear hfz18_2; try clear hfz18_3; try clear hfz18_4; try clear hfz18_5; try clear hfz20_0; try clear hfz20_1; try clear hfz20_2; try clear hfz20_3; try clear hfz20_4; try clear hfz20_5; try clear p2
       (try clear HO_9); (try clear HO_626005); (try clear BK625); obtain ⟨x0_3, x12_3, x13_3, x626000_3, x626001_3, x626002_3, x626003_3, x626004_3, x626005_3, u626005, rfl, rfl, rfl, HA, HK3, HO_9, HO_626005, BK625, HB⟩ := hrel
       cases gk with
       | zero => exact absurd HA.out (by simp [skifflaw18_TickAll.l0])
       | succ k3 =>
        have H := HA.out
        clear HA
        simp only [skifflaw18_TickAll.l0] at H
        by_cases c21 : x13_3 < (t621.length : Int)
        ·rw [if_pos c21] at H
         have c21b0 : decide (x13_3 < (t621.length : Int)) = true := decide_eq_true c21
         clear c21
         by_cases c22 : 0 ≤ x13_3
         case neg =>
          rw [if_neg c22] at H
          exact absurd H (by simp)
         rw [if_pos c22] at H
         have c22b0 : decide (0 ≤ x13_3) = true := decide_eq_true c22
         clear c22
         replace H := Option.bind_eq_some_iff.mp H
         obtain ⟨⟨t627, t628⟩, A230, H⟩ := H
         replace H : ((tick_Step.f k3 x0_3 x626000_3 x626001_3 x626002_3 x626003_3 x626004_3 x626005_3).bind fun bt629 => ((skifflaw0_Num.f bt629.2.2.2.2.2.2.2).bind fun t640 => (if t640 = 0 then (if bt629.1.toList = t627.toList then (skifflaw18_TickAll.j3 k3 a1 t621 t627 x13_3 bt629.1 ((bt629.2.2.2.2.2.2.1.length : Int) != (wrap64 ((wrap64 ((t621.length : Int) - 1)) - x13_3))) x626000_3 x626001_3 x626002_3 x626003_3 x626004_3 x626005_3 bt629.2.1 bt629.2.2.1 bt629.2.2.2.1 bt629.2.2.2.2.1 bt629.2.2.2.2.2.1 bt629.2.2.2.2.2.2.1) else (none)) else (none)))) = some r := H
         have A23 := Aside0.mk A230
         clear A230
         replace H := Option.bind_eq_some_iff.mp H
         obtain ⟨⟨t629, t630, t631, t632, t633, t634, t635, t638⟩, A240, H⟩ := H
         replace H : ((skifflaw0_Num.f t638).bind fun t640 => (if t640 = 0 then (if t629.toList = t627.toList then (skifflaw18_TickAll.j3 k3 a1 t621 t627 x13_3 t629 ((t635.length : Int) != (wrap64 ((wrap64 ((t621.length : Int) - 1)) - x13_3))) x626000_3 x626001_3 x626002_3 x626003_3 x626004_3 x626005_3 t630 t631 t632 t633 t634 t635) else (none)) else (none))) = some r := H
         have A24 := Aside0.mk A240
         clear A240
         have HC25 := Aside0.mk H
         clear H
         have p626 : 0 ≤ (x13_3 : Int) := of_decide_eq_true (by first | (with_reducible assumption) | assumption)
         have q626 : x13_3 < (t621.length : Int) := of_decide_eq_true (by first | (with_reducible assumption) | assumption)
         obtain ⟨ad626, e626, hx626_0, hx626_1, hx626_2⟩ := at_T40 (Kd.R_reads' HO_9.out).2.2 x13_3 p626 q626
         cases e626
         replace p626 := eq_true p626
         replace q626 := eq_true q626
         go_upto_region 15 with (first | ((with_reducible refine gate_callee (f := 20) rfl ?_); refine goesL_ (some 55) rfl rfl Try.func20 (by kernel_rfl) rfl #[.string x12_3, .agg #[.bool ((rd_T40 t621 x13_3).f0), .int .i64 ((rd_T40 t621 x13_3).f1), .string ((rd_T40 t621 x13_3).f2)]] rfl ka ?_; (with_reducible refine (skiffref1_Do.calls k3 x12_3 ((rd_T40 t621 x13_3).f0) ((rd_T40 t621 x13_3).f1) ((rd_T40 t621 x13_3).f2) t627 t628 _ A23.out).mono ?_); rintro e w26 ⟨rfl, hb⟩; refine ⟨_, rfl, ?_⟩; have n0_ := Aside0.mk (Kd.R_below (kR HO_9.out) hb); have n1_ := Aside0.mk (Kd.Q_below (kQ HO_626005.out) hb); have n2_ := Aside0.mk (kL BK625.out hb); have n3_ := Aside0.mk (below_step (kb1 HB.out GE625.out) hb); clear HO_9; clear HO_626005; clear BK625; clear HB; have HO_9 := n0_; have HO_626005 := n1_; have BK625 := n2_; have HB := n3_; clear n0_ n1_ n2_ n3_; (try clear hb); (try clear hb2); (try clear hk); (try clear hi); obtain ⟨hcz27_0, hcz27_1, hcz27_2, hcz27_3, hcz27_4, hcz27_5⟩ := kc6 BK625.out; obtain ⟨hfz27_0, hfz27_1, hfz27_2, hfz27_3, hfz27_4, hfz27_5⟩ := kf6 BK625.out; obtain ⟨Ao28, co28, eo28, _⟩ := Kd.Q_slice HO_626005.out; subst eo28) | ((with_reducible refine gate_callee (f := 10) rfl ?_); refine goesL_ (some 61) rfl rfl Try.func10 (by kernel_rfl) rfl #[.string x0_3, .agg #[.int .i64 x626000_3, .int .i64 x626001_3, .int .i64 x626002_3, .int .i64 x626003_3, .int .i64 x626004_3, .slice Ao28 x626005_3.length co28]] rfl ka ?_; (with_reducible refine (tick_Step.calls k3 x0_3 x626000_3 x626001_3 x626002_3 x626003_3 x626004_3 _ _ x626005_3 t629 t630 t631 t632 t633 t634 t635 t638 _ ?side1 ?side2 A24.out).mono ?_); (case side1 => repeat (first | exact (Kd.Q_reads' HO_626005.out).2.2 | (with_reducible refine Kd.C_alloc ?_ _) | (with_reducible refine Kd.C_drewN ?_ _) | (with_reducible refine Kd.C_drew ?_))); (case side2 => exact (Kd.Q_reads' HO_626005.out).2.1); rintro e w29 ⟨v636, rfl, ho0, hb⟩; refine ⟨_, rfl, ?_⟩; have n0_ := Aside0.mk (Kd.R_elder' (kR HO_9.out) (Kd.Q_base ho0) hb); have n1_ := Aside0.mk (Kd.Q_elder' (kQ HO_626005.out) (Kd.Q_base ho0) hb); have n2_ := Aside0.mk (Kd.Q_lower (Kd.Q_new' (Kd.Q_new' ho0 (Kd.R_lt (kR HO_9.out))) (Kd.Q_lt (kQ HO_626005.out))) (below_size (kb1 HB.out GE625.out))); have n3_ := Aside0.mk (kL BK625.out hb); have n4_ := Aside0.mk (below_step (kb1 HB.out GE625.out) hb); clear HO_9; clear HO_626005; clear BK625; clear HB; have HO_9 := n0_; have HO_626005 := n1_; have HO637 := n2_; have BK625 := n3_; have HB := n4_; clear n0_ n1_ n2_ n3_ n4_; (try clear hb); (try clear hb2); (try clear hk); (try clear hi); (try clear ho0)) | ((with_reducible refine gate_dst (N := 15) rfl ?_); (try (refine gate_guard (by rfl) ?_; dsimp only)); refine box_event ?hg (N := 15) ?hd (cs := #[.int .i64 0, .int .i64 0, .int .i64 0, .int .i64 0, .int .i64 0, .slice none 0 0]) (t := 24) ?hr ?_; (case hd => rfl); (case hg => rfl); (case hr => first | (go_simp; done) | (go_simp; rfl)); intro gb639 hg w30 hbox hb; have n0_ := Aside0.mk (Kd.R_below (kR HO_9.out) hb); have n1_ := Aside0.mk (Kd.Q_below (kQ HO_626005.out) hb); have n2_ := Aside0.mk (Kd.Q_below (kQ HO637.out) hb); have n3_ := Aside0.mk (kL BK625.out hb); have n4_ := Aside0.mk (below_step (kb1 HB.out GE625.out) hb); have n5_ := Aside0.mk (hbox); have n6_ := Aside0.mk ((kz hg (below_size (kb1 HB.out GE625.out)) : w.heap.size ≤ gb639)); have n7_ := Aside0.mk ((kz hg (below_size (kb1 HB.out GE625.out)) : w.heap.size ≤ gb639)); have n8_ := Aside0.mk ((kN hg BK625.out : gb625 ≠ gb639)); have n9_ := Aside0.mk (((kN hg BK625.out).symm : gb639 ≠ gb625)); clear HO_9; clear HO_626005; clear HO637; clear BK625; clear HB; have HO_9 := n0_; have HO_626005 := n1_; have HO637 := n2_; have BK625 := n3_; have HB := n4_; have BK639 := n5_; have GW639 := n6_; have GE639 := n7_; have NB625_639 := n8_; have NB639_625 := n9_; clear n0_ n1_ n2_ n3_ n4_ n5_ n6_ n7_ n8_ n9_; clear hb hbox hg; have hnb31 := NB639_625.out; have hnc31 := NB625_639.out; obtain ⟨hcz32_0, hcz32_1, hcz32_2, hcz32_3, hcz32_4, hcz32_5⟩ := kc6 BK639.out; obtain ⟨hfz32_0, hfz32_1, hfz32_2, hfz32_3, hfz32_4, hfz32_5⟩ := kf6 BK639.out; obtain ⟨Ao33, co33, eo33, _⟩ := Kd.Q_slice HO637.out; subst eo33))
         (try simp only [Act.put, List.setIfInBounds_toArray, List.set_cons_zero, List.set_cons_succ])
         go_cut [83] (fun v83 wc => ∃ (kq : Nat) (x83_24 : Bool), v83 = .bool x83_24 ∧ Aside0 (skifflaw18_TickAll.j3 kq a1 t621 t627 x13_3 t629 x83_24 x626000_3 x626001_3 x626002_3 x626003_3 x626004_3 x626005_3 t630 t631 t632 t633 t634 t635 = some r) ∧ Aside0 (kq ≤ k3) ∧ Aside0 (Kd.R k40 40 wc w.heap.size (fun _ => True) (.slice (some ad626) t621.length co16) t621) ∧ Aside0 (Kd.Q k40 40 wc w.heap.size (fun _ => True) (.slice Ao28 x626005_3.length co28) x626005_3) ∧ Aside0 (Kd.Q k40 40 wc w.heap.size (fun _ => True) (.slice Ao33 t635.length co33) t635) ∧ Aside0 (wc.heap[gb625]? = some (.cells #[.int .i64 x626000_3, .int .i64 x626001_3, .int .i64 x626002_3, .int .i64 x626003_3, .int .i64 x626004_3, (.slice Ao28 x626005_3.length co28)] 24 (0, 0))) ∧ Aside0 (wc.heap[gb639]? = some (.cells #[.int .i64 t630, .int .i64 t631, .int .i64 t632, .int .i64 t633, .int .i64 t634, (.slice Ao33 t635.length co33)] 24 (0, 0))) ∧ Aside0 (Below w.heap.size w wc))
         case first =>
          have H := HC25.out
          clear HC25
          replace H := Option.bind_eq_some_iff.mp H
          obtain ⟨t640, A340, H⟩ := H
          replace H : (if t640 = 0 then (if t629.toList = t627.toList then (skifflaw18_TickAll.j3 k3 a1 t621 t627 x13_3 t629 ((t635.length : Int) != (wrap64 ((wrap64 ((t621.length : Int) - 1)) - x13_3))) x626000_3 x626001_3 x626002_3 x626003_3 x626004_3 x626005_3 t630 t631 t632 t633 t634 t635) else (none)) else (none)) = some r := H
          have A34 := Aside0.mk A340
          clear A340
          by_cases c35 : t640 = 0
          case neg =>
           rw [if_neg c35] at H
           exact absurd H (by simp)
          rw [if_pos c35] at H
          have c35b0 : (t640 == 0) = true := beq_iff_eq.mpr c35
          have c35b1 : (t640 != 0) = false := bne_eq_false_iff_eq.mpr c35
          clear c35
          (first | rw [c35b0] | rw [c35b1] | (simp only [i64_w, i32_w]; rw [c35b0]) | skip)
          by_cases c36 : t629.toList = t627.toList
          case neg =>
           rw [if_neg c36] at H
           exact absurd H (by simp)
          rw [if_pos c36] at H
          have c36b0 : (t629.toList == t627.toList) = true := beq_iff_eq.mpr c36
          have c36b1 : (t629.toList != t627.toList) = false := bne_eq_false_iff_eq.mpr c36
          clear c36
          have H' := Aside0.mk H
          clear H
          go_wp2_with (first | ((with_reducible refine gate_callee (f := 15) rfl ?_); refine goesL_ (some 66) rfl rfl Try.func15 (by kernel_rfl) rfl #[.int .i64 t638] rfl ka ?_; (with_reducible refine (skifflaw0_Num.calls t638 t640 _ A34.out).mono ?_); rintro e w' ⟨rfl, ⟨nd, rfl⟩⟩; refine ⟨_, rfl, ?_⟩; have hnb37 := NB639_625.out; have hnc37 := NB625_639.out; obtain ⟨hcz38_0, hcz38_1, hcz38_2, hcz38_3, hcz38_4, hcz38_5⟩ := kc6 BK639.out; obtain ⟨hfz38_0, hfz38_1, hfz38_2, hfz38_3, hfz38_4, hfz38_5⟩ := kf6 BK639.out))
          go_meet
          case rel => exact ⟨_, (((t635.length : Int) != (wrap64 ((wrap64 ((t621.length : Int) - 1)) - x13_3)))), (by first | rfl | (simp; done) | (simp [*]; done)), H', ⟨by have := HJ7.out; have := HJ14.out; have := HK3.out; first | omega | exact Nat.le_refl _⟩, ⟨by (with_reducible repeat (first | apply Kd.R_alloc | apply Kd.R_drewN | apply Kd.R_drew)); exact Kd.R_mono (Kd.R_far (p := ⟨gb639, 5, none⟩) (Kd.R_far (p := ⟨gb639, 4, none⟩) (Kd.R_far (p := ⟨gb639, 3, none⟩) (Kd.R_far (p := ⟨gb639, 2, none⟩) (Kd.R_far (p := ⟨gb639, 1, none⟩) (Kd.R_far (p := ⟨gb639, 0, none⟩) (Kd.R_types HO_9.out BK639.out (by decide)) (fun _ hk => hk.2) (.int .i64 t630)) (fun _ hk => hk.2) (.int .i64 t631)) (fun _ hk => hk.2) (.int .i64 t632)) (fun _ hk => hk.2) (.int .i64 t633)) (fun _ hk => hk.2) (.int .i64 t634)) (fun _ hk => hk.2) (.slice Ao33 t635.length co33)) (fun _ hk => trivial)⟩, ⟨by (with_reducible repeat (first | apply Kd.Q_alloc | apply Kd.Q_drewN | apply Kd.Q_drew)); exact Kd.Q_mono (Kd.Q_far (p := ⟨gb639, 5, none⟩) (Kd.Q_far (p := ⟨gb639, 4, none⟩) (Kd.Q_far (p := ⟨gb639, 3, none⟩) (Kd.Q_far (p := ⟨gb639, 2, none⟩) (Kd.Q_far (p := ⟨gb639, 1, none⟩) (Kd.Q_far (p := ⟨gb639, 0, none⟩) (Kd.Q_types HO_626005.out BK639.out (by decide)) (fun _ hk => hk.2) (.int .i64 t630)) (fun _ hk => hk.2) (.int .i64 t631)) (fun _ hk => hk.2) (.int .i64 t632)) (fun _ hk => hk.2) (.int .i64 t633)) (fun _ hk => hk.2) (.int .i64 t634)) (fun _ hk => hk.2) (.slice Ao33 t635.length co33)) (fun _ hk => trivial)⟩, ⟨by (with_reducible repeat (first | apply Kd.Q_alloc | apply Kd.Q_drewN | apply Kd.Q_drew)); exact Kd.Q_mono (Kd.Q_far (p := ⟨gb639, 5, none⟩) (Kd.Q_far (p := ⟨gb639, 4, none⟩) (Kd.Q_far (p := ⟨gb639, 3, none⟩) (Kd.Q_far (p := ⟨gb639, 2, none⟩) (Kd.Q_far (p := ⟨gb639, 1, none⟩) (Kd.Q_far (p := ⟨gb639, 0, none⟩) (Kd.Q_types HO637.out BK639.out (by decide)) (fun _ hk => hk.2) (.int .i64 t630)) (fun _ hk => hk.2) (.int .i64 t631)) (fun _ hk => hk.2) (.int .i64 t632)) (fun _ hk => hk.2) (.int .i64 t633)) (fun _ hk => hk.2) (.int .i64 t634)) (fun _ hk => hk.2) (.slice Ao33 t635.length co33)) (fun _ hk => trivial)⟩, ⟨kFa6 BK625.out NB625_639.out⟩, ⟨kP6 BK639.out⟩, ⟨kb2 HB.out GE625.out GE639.out⟩⟩
         case rest =>
          clear HC25
          try clear c1; try clear c2; try clear p2; try clear c3; try clear c5; try clear c6; try clear p6; try clear q6; try clear hx6; try clear c10; try clear c11; try clear c11b0; try clear c11b1; try clear c12; try clear c12b0; try clear c12b1; try clear c14; try clear c15; try clear c17; try clear c19; try clear c20; try clear c21; try clear c21b0; try clear c22; try clear c22b0; try clear c31; try clear c35; try clear c35b0; try clear c35b1; try clear c36; try clear c36b0; try clear c36b1; try clear c37; try clear hcz18_0; try clear hcz18_1; try clear hcz18_2; try clear hcz18_3; try clear hcz18_4; try clear hcz18_5; try clear hcz20_0; try clear hcz20_1; try clear hcz20_2; try clear hcz20_3; try clear hcz20_4; try clear hcz20_5; try clear hcz27_0; try clear hcz27_1; try clear hcz27_2; try clear hcz27_3; try clear hcz27_4; try clear hcz27_5; try clear hcz32_0; try clear hcz32_1; try clear hcz32_2; try clear hcz32_3; try clear hcz32_4; try clear hcz32_5; try clear hcz38_0; try clear hcz38_1; try clear hcz38_2; try clear hcz38_3; try clear hcz38_4; try clear hcz38_5; try clear hfz18_0; try clear hfz18_1; try clear hfz18_2; try clear hfz18_3; try clear hfz18_4; try clear hfz18_5; try clear hfz20_0; try clear hfz20_1; try clear hfz20_2; try clear hfz20_3; try clear hfz20_4; try clear hfz20_5; try clear hfz27_0; try clear hfz27_1; try clear hfz27_2; try clear hfz27_3; try clear hfz27_4; try clear hfz27_5; try clear hfz32_0; try clear hfz32_1; try clear hfz32_2; try clear hfz32_3; try clear hfz32_4; try clear hfz32_5; try clear hfz38_0; try clear hfz38_1; try clear hfz38_2; try clear hfz38_3; try clear hfz38_4; try clear hfz38_5; try clear hx626_0; try clear hx626_1; try clear hx626_2; try clear p2; try clear p626; try clear q626
          obtain ⟨kq, x83_24, rfl, HA, HJ24, HO_9, HO_626005, HO_640005, BK625, BK639, HB⟩ := hcut
          cases kq with
          | zero => exact absurd HA.out (by simp [skifflaw18_TickAll.j3])
          | succ kj24 =>
           have H := HA.out
           clear HA
           simp only [skifflaw18_TickAll.j3] at H
           by_cases c39 : x83_24 = true
           ·subst c39
            have H1 : (none) = some r := by rw [if_pos rfl] at H; exact H
            clear H; have H := H1; clear H1
            exact absurd H (by simp)
           ·replace c39 := Bool.eq_false_iff.mpr c39
            subst c39
            have H1 : (if x13_3 < (wrap64 ((t621.length : Int) - 1)) then (if t630 = x626000_3 then (if t633 = 5 then (skifflaw18_TickAll.l0 kj24 t629 a1 t621 t627 (wrap64 (x13_3 + 1)) t630 t631 t632 t633 t634 t635) else (none)) else (none)) else (skifflaw18_TickAll.l0 kj24 t629 a1 t621 t627 (wrap64 (x13_3 + 1)) t630 t631 t632 t633 t634 t635)) = some r := by rw [if_neg (show ¬ (false = true) by decide)] at H; exact H
            clear H; have H := H1; clear H1
            by_cases c40 : x13_3 < (wrap64 ((t621.length : Int) - 1))
            ·rw [if_pos c40] at H
             have c40b0 : decide (x13_3 < (wrap64 ((t621.length : Int) - 1))) = true := decide_eq_true c40
             clear c40
             by_cases c41 : t630 = x626000_3
             case neg =>
              rw [if_neg c41] at H
              exact absurd H (by simp)
             rw [if_pos c41] at H
             have c41b0 : (t630 == x626000_3) = true := beq_iff_eq.mpr c41
             have c41b1 : (t630 != x626000_3) = false := bne_eq_false_iff_eq.mpr c41
             clear c41
             by_cases c42 : t633 = 5
             case neg =>
              rw [if_neg c42] at H
              exact absurd H (by simp)
             rw [if_pos c42] at H
             have c42b0 : (t633 == 5) = true := beq_iff_eq.mpr c42
             have c42b1 : (t633 != 5) = false := bne_eq_false_iff_eq.mpr c42
             clear c42
             have H' := Aside0.mk H
             clear H
             have hnb43 := NB639_625.out
             have hnc43 := NB625_639.out
             obtain ⟨hcz44_0, hcz44_1, hcz44_2, hcz44_3, hcz44_4, hcz44_5⟩ := kc6 BK639.out
             obtain ⟨hfz44_0, hfz44_1, hfz44_2, hfz44_3, hfz44_4, hfz44_5⟩ := kf6 BK639.out
             obtain ⟨hcz45_0, hcz45_1, hcz45_2, hcz45_3, hcz45_4, hcz45_5⟩ := kc6 BK625.out
             obtain ⟨hfz45_0, hfz45_1, hfz45_2, hfz45_3, hfz45_4, hfz45_5⟩ := kf6 BK625.out
             go_wp2
             go_roundg kj24
             case measure => have := HJ7.out; have := HJ14.out; have := HK3.out; have := HJ24.out; omega
             case rel => exact ⟨(t629), (t627), (wrap64 (x13_3 + 1)), (t630), (t631), (t632), (t633), (t634), (t635), (.slice Ao33 t635.length co33), (by first | rfl | (simp; done) | (simp [*]; done)), (by first | rfl | (simp; done) | (simp [*]; done)), (by first | rfl | (simp; done) | (simp [*]; done)), H', ⟨by have := HJ7.out; have := HJ14.out; have := HK3.out; have := HJ24.out; omega⟩, ⟨by (with_reducible repeat (first | apply Kd.R_alloc | apply Kd.R_drewN | apply Kd.R_drew)); exact Kd.R_mono (Kd.R_far (p := ⟨gb625, 5, none⟩) (Kd.R_far (p := ⟨gb625, 4, none⟩) (Kd.R_far (p := ⟨gb625, 3, none⟩) (Kd.R_far (p := ⟨gb625, 2, none⟩) (Kd.R_far (p := ⟨gb625, 1, none⟩) (Kd.R_far (p := ⟨gb625, 0, none⟩) (Kd.R_types HO_9.out BK625.out (by decide)) (fun _ hk => hk.2) (.int .i64 t630)) (fun _ hk => hk.2) (.int .i64 t631)) (fun _ hk => hk.2) (.int .i64 t632)) (fun _ hk => hk.2) (.int .i64 t633)) (fun _ hk => hk.2) (.int .i64 t634)) (fun _ hk => hk.2) (.slice Ao33 t635.length co33)) (fun _ hk => trivial)⟩, ⟨by (with_reducible repeat (first | apply Kd.Q_alloc | apply Kd.Q_drewN | apply Kd.Q_drew)); exact Kd.Q_mono (Kd.Q_far (p := ⟨gb625, 5, none⟩) (Kd.Q_far (p := ⟨gb625, 4, none⟩) (Kd.Q_far (p := ⟨gb625, 3, none⟩) (Kd.Q_far (p := ⟨gb625, 2, none⟩) (Kd.Q_far (p := ⟨gb625, 1, none⟩) (Kd.Q_far (p := ⟨gb625, 0, none⟩) (Kd.Q_types HO_640005.out BK625.out (by decide)) (fun _ hk => hk.2) (.int .i64 t630)) (fun _ hk => hk.2) (.int .i64 t631)) (fun _ hk => hk.2) (.int .i64 t632)) (fun _ hk => hk.2) (.int .i64 t633)) (fun _ hk => hk.2) (.int .i64 t634)) (fun _ hk => hk.2) (.slice Ao33 t635.length co33)) (fun _ hk => trivial)⟩, ⟨kP6 BK625.out⟩, ⟨kb2 HB.out GE625.out GE639.out⟩⟩
            ·rw [if_neg c40] at H
             have c40b0 : decide (x13_3 < (wrap64 ((t621.length : Int) - 1))) = false := decide_eq_false c40
             clear c40
             have H' := Aside0.mk H
             clear H
             have hnb46 := NB639_625.out
             have hnc46 := NB625_639.out
             obtain ⟨hcz47_0, hcz47_1, hcz47_2, hcz47_3, hcz47_4, hcz47_5⟩ := kc6 BK639.out
             obtain ⟨hfz47_0, hfz47_1, hfz47_2, hfz47_3, hfz47_4, hfz47_5⟩ := kf6 BK639.out
             obtain ⟨hcz48_0, hcz48_1, hcz48_2, hcz48_3, hcz48_4, hcz48_5⟩ := kc6 BK625.out
             obtain ⟨hfz48_0, hfz48_1, hfz48_2, hfz48_3, hfz48_4, hfz48_5⟩ := kf6 BK625.out
             go_wp2
             go_roundg kj24
             case measure => have := HJ7.out; have := HJ14.out; have := HK3.out; have := HJ24.out; omega
             case rel => exact ⟨(t629), (t627), (wrap64 (x13_3 + 1)), (t630), (t631), (t632), (t633), (t634), (t635), (.slice Ao33 t635.length co33), (by first | rfl | (simp; done) | (simp [*]; done)), (by first | rfl | (simp; done) | (simp [*]; done)), (by first | rfl | (simp; done) | (simp [*]; done)), H', ⟨by have := HJ7.out; have := HJ14.out; have := HK3.out; have := HJ24.out; omega⟩, ⟨by (with_reducible repeat (first | apply Kd.R_alloc | apply Kd.R_drewN | apply Kd.R_drew)); exact Kd.R_mono (Kd.R_far (p := ⟨gb625, 5, none⟩) (Kd.R_far (p := ⟨gb625, 4, none⟩) (Kd.R_far (p := ⟨gb625, 3, none⟩) (Kd.R_far (p := ⟨gb625, 2, none⟩) (Kd.R_far (p := ⟨gb625, 1, none⟩) (Kd.R_far (p := ⟨gb625, 0, none⟩) (Kd.R_types HO_9.out BK625.out (by decide)) (fun _ hk => hk.2) (.int .i64 t630)) (fun _ hk => hk.2) (.int .i64 t631)) (fun _ hk => hk.2) (.int .i64 t632)) (fun _ hk => hk.2) (.int .i64 t633)) (fun _ hk => hk.2) (.int .i64 t634)) (fun _ hk => hk.2) (.slice Ao33 t635.length co33)) (fun _ hk => trivial)⟩, ⟨by (with_reducible repeat (first | apply Kd.Q_alloc | apply Kd.Q_drewN | apply Kd.Q_drew)); exact Kd.Q_mono (Kd.Q_far (p := ⟨gb625, 5, none⟩) (Kd.Q_far (p := ⟨gb625, 4, none⟩) (Kd.Q_far (p := ⟨gb625, 3, none⟩) (Kd.Q_far (p := ⟨gb625, 2, none⟩) (Kd.Q_far (p := ⟨gb625, 1, none⟩) (Kd.Q_far (p := ⟨gb625, 0, none⟩) (Kd.Q_types HO_640005.out BK625.out (by decide)) (fun _ hk => hk.2) (.int .i64 t630)) (fun _ hk => hk.2) (.int .i64 t631)) (fun _ hk => hk.2) (.int .i64 t632)) (fun _ hk => hk.2) (.int .i64 t633)) (fun _ hk => hk.2) (.int .i64 t634)) (fun _ hk => hk.2) (.slice Ao33 t635.length co33)) (fun _ hk => trivial)⟩, ⟨kP6 BK625.out⟩, ⟨kb2 HB.out GE625.out GE639.out⟩⟩
        ·rw [if_neg c21] at H
         have c21b0 : decide (x13_3 < (t621.length : Int)) = false := decide_eq_false c21
         clear c21
         by_cases c49 : a1 = true
         ·subst c49
          have H1 : ((skifflaw0_SameDevice.f k3 x626000_3 x626001_3 x626002_3 x626003_3 x626004_3 x626005_3 0 0 0 0 0 ([] : List (S40))).bind fun t641 => (some t641)) = some r := by rw [if_pos rfl] at H; exact H
          clear H; have H := H1; clear H1
          replace H := Option.bind_eq_some_iff.mp H
          obtain ⟨t641, A500, H⟩ := H
          replace H : (some t641) = some r := H
          have A50 := Aside0.mk A500
          clear A500
          obtain rfl := Option.some.inj H
          obtain ⟨hcz51_0, hcz51_1, hcz51_2, hcz51_3, hcz51_4, hcz51_5⟩ := kc6 BK625.out
          obtain ⟨hfz51_0, hfz51_1, hfz51_2, hfz51_3, hfz51_4, hfz51_5⟩ := kf6 BK625.out
          obtain ⟨Ao52, co52, eo52, _⟩ := Kd.Q_slice HO_626005.out
          subst eo52
          go_wp2_with (first | ((with_reducible refine gate_callee (f := 14) rfl ?_); refine goesL_ (some 106) rfl rfl Try.func14 (by kernel_rfl) rfl #[.agg #[.int .i64 x626000_3, .int .i64 x626001_3, .int .i64 x626002_3, .int .i64 x626003_3, .int .i64 x626004_3, .slice Ao52 x626005_3.length co52], .agg #[.int .i64 0, .int .i64 0, .int .i64 0, .int .i64 0, .int .i64 0, .slice none 0 0]] rfl ka ?_; (refine (skifflaw0_SameDevice.calls k3 x626000_3 x626001_3 x626002_3 x626003_3 x626004_3 _ _ x626005_3 0 0 0 0 0 _ _ ([] : List (S40)) t641 _ ?side1 ?side2 ?side3 ?side4 A50.out).mono ?_); (case side1 => repeat (first | exact (Kd.Q_reads' HO_626005.out).2.2 | (with_reducible refine Kd.C_alloc ?_ _) | (with_reducible refine Kd.C_drewN ?_ _) | (with_reducible refine Kd.C_drew ?_))); (case side2 => exact (Kd.Q_reads' HO_626005.out).2.1); (case side3 => exact Kd.C_nil _ _); (case side4 => exact Nat.le_refl _); rintro e w53 ⟨rfl, hb⟩; refine ⟨_, rfl, ?_⟩; have n0_ := Aside0.mk (Kd.R_below (kR HO_9.out) hb); have n1_ := Aside0.mk (Kd.Q_below (kQ HO_626005.out) hb); have n2_ := Aside0.mk (kL BK625.out hb); have n3_ := Aside0.mk (below_step (kb1 HB.out GE625.out) hb); clear HO_9; clear HO_626005; clear BK625; clear HB; have HO_9 := n0_; have HO_626005 := n1_; have BK625 := n2_; have HB := n3_; clear n0_ n1_ n2_ n3_; (try clear hb); (try clear hb2); (try clear hk); (try clear hi)))
          go_ret
          exact ⟨by first | rfl | (simp [errW_none, errW_some] <;> rfl) | (simp [*, errW_none, errW_some] <;> rfl), kb1 HB.out GE625.out⟩
         ·replace c49 := Bool.eq_false_iff.mpr c49
          subst c49
          have H1 : ((skifflaw0_SameDevice.f k3 x626000_3 x626001_3 x626002_3 x626003_3 x626004_3 x626005_3 1 0 0 5 0 ([] : List (S40))).bind fun t642 => (some t642)) = some r := by rw [if_neg (show ¬ (false = true) by decide)] at H; exact H
          clear H; have H := H1; clear H1
          replace H := Option.bind_eq_some_iff.mp H
          obtain ⟨t642, A540, H⟩ := H
          replace H : (some t642) = some r := H
          have A54 := Aside0.mk A540
          clear A540
          obtain rfl := Option.some.inj H
          obtain ⟨hcz55_0, hcz55_1, hcz55_2, hcz55_3, hcz55_4, hcz55_5⟩ := kc6 BK625.out
          obtain ⟨hfz55_0, hfz55_1, hfz55_2, hfz55_3, hfz55_4, hfz55_5⟩ := kf6 BK625.out
          obtain ⟨Ao56, co56, eo56, _⟩ := Kd.Q_slice HO_626005.out
          subst eo56
          go_wp2_with (first | ((with_reducible refine gate_callee (f := 14) rfl ?_); refine goesL_ (some 109) rfl rfl Try.func14 (by kernel_rfl) rfl #[.agg #[.int .i64 x626000_3, .int .i64 x626001_3, .int .i64 x626002_3, .int .i64 x626003_3, .int .i64 x626004_3, .slice Ao56 x626005_3.length co56], .agg #[.int .i64 1, .int .i64 0, .int .i64 0, .int .i64 5, .int .i64 0, .slice none 0 0]] rfl ka ?_; (refine (skifflaw0_SameDevice.calls k3 x626000_3 x626001_3 x626002_3 x626003_3 x626004_3 _ _ x626005_3 1 0 0 5 0 _ _ ([] : List (S40)) t642 _ ?side1 ?side2 ?side3 ?side4 A54.out).mono ?_); (case side1 => repeat (first | exact (Kd.Q_reads' HO_626005.out).2.2 | (with_reducible refine Kd.C_alloc ?_ _) | (with_reducible refine Kd.C_drewN ?_ _) | (with_reducible refine Kd.C_drew ?_))); (case side2 => exact (Kd.Q_reads' HO_626005.out).2.1); (case side3 => exact Kd.C_nil _ _); (case side4 => exact Nat.le_refl _); rintro e w57 ⟨rfl, hb⟩; refine ⟨_, rfl, ?_⟩; have n0_ := Aside0.mk (Kd.R_below (kR HO_9.out) hb); have n1_ := Aside0.mk (Kd.Q_below (kQ HO_626005.out) hb); have n2_ := Aside0.mk (kL BK625.out hb); have n3_ := Aside0.mk (below_step (kb1 HB.out GE625.out) hb); clear HO_9; clear HO_626005; clear BK625; clear HB; have HO_9 := n0_; have HO_626005 := n1_; have BK625 := n2_; have HB := n3_; clear n0_ n1_ n2_ n3_; (try clear hb); (try clear hb2); (try clear hk); (try clear hi)))
          go_ret
          exact ⟨by first | rfl | (simp [errW_none, errW_some] <;> rfl) | (simp [*, errW_none, errW_some] <;> rfl), kb1 HB.out GE625.out⟩

end Go.Proofs.Ytgoeooghoojdgaa.P
