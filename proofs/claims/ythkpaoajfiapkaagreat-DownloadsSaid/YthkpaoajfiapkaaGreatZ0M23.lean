/- Texts of this claim, laid together. -/
import Derived.ChangeAlike
import Derived.RegionTactic
import Derived.Test.YthkpaoajfiapkaaGreatZ0Cz
import Derived.Test.YthkpaoajfiapkaaGreatZ0M22
import Derived.Test.YthkpaoajfiapkaaGreatZ0WGuard
section
namespace Go.Proofs.YthkpaoajfiapkaaGreat.P
open Go.RowKit Go.Proofs.YthkpaoajfiapkaaGreatW.PrintWords Go.Proofs.YthkpaoajfiapkaaGreatW.PrintLast Go.Proofs.YthkpaoajfiapkaaGreatW.PrintMore
attribute [local go_sem] max2_int min2_int max_two min_two max_three min_three max_four min_four   -- for this text's walks alone
set_option linter.unusedVariables false
set_option linter.unusedSimpArgs false

/-! ### device_Copy: function 46 -/
def device_Copy.f (a0_0 : Int) (a0_1 : Int) (a0_2 : Int) (a0_3 : Int) (a0_4 : Int) (l0_5 : List (S41)) : Option (Int × Int × Int × Int × Int × (List (S41))) := (slices_Clone_Op.f l0_5).bind fun t135 => (some (a0_0, a0_1, a0_2, a0_3, a0_4, t135))
set_option maxHeartbeats 8000000 in
set_option maxRecDepth 100000 in
theorem device_Copy.calls (a0_0 : Int) (a0_1 : Int) (a0_2 : Int) (a0_3 : Int) (a0_4 : Int) (A0_5 : Option Addr) (c0_5 : Nat) (l0_5 : List (S41)) (r1 : Int) (r2 : Int) (r3 : Int) (r4 : Int) (r5 : Int) (r6 : List (S41)) (w : World) (hr0_5 : Kd.C k41 w A0_5 l0_5.length l0_5) (hc0_5 : l0_5.length ≤ c0_5) (h : device_Copy.f a0_0 a0_1 a0_2 a0_3 a0_4 l0_5 = some (r1, r2, r3, r4, r5, r6)) :
  Calls Tryz.prog 46 #[.agg #[.int .i64 a0_0, .int .i64 a0_1, .int .i64 a0_2, .int .i64 a0_3, .int .i64 a0_4, .slice A0_5 l0_5.length c0_5]] w fun e w' => ∃ v5_ : Value, e = .returned (.agg #[.int .i64 r1, .int .i64 r2, .int .i64 r3, .int .i64 r4, .int .i64 r5, v5_]) ∧ Kd.R k41 41 w' w.heap.size (fun _ => True) v5_ r6 ∧ Below w.heap.size w w' := by
 have hu24 := Tryz.underlying24
 have HR0_5 := Aside0.mk hr0_5
 have HC0_5 := Aside0.mk hc0_5
 clear hr0_5 hc0_5
 have HB := Aside0.mk (Below.refl w.heap.size w)
 have H : ((slices_Clone_Op.f l0_5).bind fun t135 => (some (a0_0, a0_1, a0_2, a0_3, a0_4, t135))) = some (r1, r2, r3, r4, r5, r6) := h
 clear h
 replace H := Option.bind_eq_some_iff.mp H
 obtain ⟨t135, A20, H⟩ := H
 replace H : (some (a0_0, a0_1, a0_2, a0_3, a0_4, t135)) = some (r1, r2, r3, r4, r5, r6) := H
 have A2 := Aside0.mk A20
 clear A20
 simp only [Option.some.injEq, Prod.mk.injEq] at H
 obtain ⟨rfl, rfl, rfl, rfl, rfl, rfl⟩ := H
 go_enter Tryz.func46, Tryz.ntmps46
 go_wp2_with (first | ((with_reducible refine gate_dst (N := 1) rfl ?_); refine box_event ?hg (N := 1) ?hd (cs := #[.int .i64 a0_0, .int .i64 a0_1, .int .i64 a0_2, .int .i64 a0_3, .int .i64 a0_4, .slice A0_5 l0_5.length c0_5]) (t := 24) ?hr ?_; (case hd => rfl); (case hg => rfl); (case hr => first | (go_simp; done) | (go_simp; rfl)); intro gb133 hg w3 hbox hb; have n0_ := Aside0.mk (below_step (kb HB.out) hb); have n1_ := Aside0.mk (hbox); have n2_ := Aside0.mk ((kz hg (below_size (kb HB.out)) : w.heap.size ≤ gb133)); have n3_ := Aside0.mk ((kz hg (below_size (kb HB.out)) : w.heap.size ≤ gb133)); clear HB; have HB := n0_; have BK133 := n1_; have GW133 := n2_; have GE133 := n3_; clear n0_ n1_ n2_ n3_; clear hb hbox hg) | ((with_reducible refine gate_dst (N := 2) rfl ?_); refine box_event ?hg (N := 2) ?hd (cs := #[.int .i64 0, .int .i64 0, .int .i64 0, .int .i64 0, .int .i64 0, .slice none 0 0]) (t := 24) ?hr ?_; (case hd => rfl); (case hg => rfl); (case hr => first | (go_simp; done) | (go_simp; rfl)); intro gb134 hg w4 hbox hb; have n0_ := Aside0.mk (kL BK133.out hb); have n1_ := Aside0.mk (below_step (kb1 HB.out GE133.out) hb); have n2_ := Aside0.mk (hbox); have n3_ := Aside0.mk ((kz hg (below_size (kb1 HB.out GE133.out)) : w.heap.size ≤ gb134)); have n4_ := Aside0.mk ((kz hg (below_size (kb1 HB.out GE133.out)) : w.heap.size ≤ gb134)); have n5_ := Aside0.mk ((kN hg BK133.out : gb133 ≠ gb134)); have n6_ := Aside0.mk (((kN hg BK133.out).symm : gb134 ≠ gb133)); clear BK133; clear HB; have BK133 := n0_; have HB := n1_; have BK134 := n2_; have GW134 := n3_; have GE134 := n4_; have NB133_134 := n5_; have NB134_133 := n6_; clear n0_ n1_ n2_ n3_ n4_ n5_ n6_; clear hb hbox hg; have hnb5 := NB133_134.out; have hnc5 := NB134_133.out; obtain ⟨hcz6_0, hcz6_1, hcz6_2, hcz6_3, hcz6_4, hcz6_5⟩ := kc6 BK133.out; obtain ⟨hfz6_0, hfz6_1, hfz6_2, hfz6_3, hfz6_4, hfz6_5⟩ := kf6 BK133.out) | ((with_reducible refine gate_callee (f := 62) rfl ?_); refine goesL_ (some 5) rfl rfl Tryz.func62 (by kernel_rfl) rfl #[.slice A0_5 l0_5.length c0_5] rfl ka ?_; (with_reducible refine (slices_Clone_Op.calls _ _ l0_5 t135 _ ?side1 ?side2 A2.out).mono ?_); (case side1 => exact kC (Kd.C_below HR0_5.out HB.out)); (case side2 => exact HC0_5.out); rintro e w7 ⟨v136, rfl, ho0, hb⟩; refine ⟨_, rfl, ?_⟩; have n0_ := Aside0.mk (Kd.R_lower ho0 (below_size (kb2 HB.out GE133.out GE134.out))); have n1_ := Aside0.mk (kL BK133.out hb); have n2_ := Aside0.mk (kL BK134.out hb); have n3_ := Aside0.mk (below_step (kb2 HB.out GE133.out GE134.out) hb); clear BK133; clear BK134; clear HB; have HO137 := n0_; have BK133 := n1_; have BK134 := n2_; have HB := n3_; clear n0_ n1_ n2_ n3_; (try clear hb); (try clear hb2); (try clear hk); (try clear hi); (try clear ho0); obtain ⟨Ao8, co8, eo8⟩ := Kd.R_slice HO137.out; subst eo8; obtain ⟨hcz9_0, hcz9_1, hcz9_2, hcz9_3, hcz9_4, hcz9_5⟩ := kc6 BK133.out; obtain ⟨hfz9_0, hfz9_1, hfz9_2, hfz9_3, hfz9_4, hfz9_5⟩ := kf6 BK133.out; obtain ⟨hcz10_0, hcz10_1, hcz10_2, hcz10_3, hcz10_4, hcz10_5⟩ := kc6 BK134.out; obtain ⟨hfz10_0, hfz10_1, hfz10_2, hfz10_3, hfz10_4, hfz10_5⟩ := kf6 BK134.out))
 refine bodyPost_ret (results_cell_row rfl _ _ gb134 24 #[.int .i64 a0_0, .int .i64 a0_1, .int .i64 a0_2, .int .i64 a0_3, .int .i64 a0_4, .slice Ao8 t135.length co8] (0, 0) _ rfl (by (with_reducible repeat (first | refine blk_drewN ?_ _ | refine blk_drew ?_ | refine blk_alloc ?_ _)); refine blk_put (cs := #[.int .i64 a0_0, .int .i64 a0_1, .int .i64 a0_2, .int .i64 a0_3, .int .i64 a0_4, .slice none 0 0]) ?_ 5 _ rfl; (with_reducible repeat (first | refine blk_drewN ?_ _ | refine blk_drew ?_ | refine blk_alloc ?_ _)); refine blk_put (cs := #[.int .i64 a0_0, .int .i64 a0_1, .int .i64 a0_2, .int .i64 a0_3, .int .i64 0, .slice none 0 0]) ?_ 4 _ rfl; (with_reducible repeat (first | refine blk_drewN ?_ _ | refine blk_drew ?_ | refine blk_alloc ?_ _)); refine blk_put (cs := #[.int .i64 a0_0, .int .i64 a0_1, .int .i64 a0_2, .int .i64 0, .int .i64 0, .slice none 0 0]) ?_ 3 _ rfl; (with_reducible repeat (first | refine blk_drewN ?_ _ | refine blk_drew ?_ | refine blk_alloc ?_ _)); refine blk_put (cs := #[.int .i64 a0_0, .int .i64 a0_1, .int .i64 0, .int .i64 0, .int .i64 0, .slice none 0 0]) ?_ 2 _ rfl; (with_reducible repeat (first | refine blk_drewN ?_ _ | refine blk_drew ?_ | refine blk_alloc ?_ _)); refine blk_put (cs := #[.int .i64 a0_0, .int .i64 0, .int .i64 0, .int .i64 0, .int .i64 0, .slice none 0 0]) ?_ 1 _ rfl; (with_reducible repeat (first | refine blk_drewN ?_ _ | refine blk_drew ?_ | refine blk_alloc ?_ _)); refine blk_put (cs := #[.int .i64 0, .int .i64 0, .int .i64 0, .int .i64 0, .int .i64 0, .slice none 0 0]) ?_ 0 _ rfl; (with_reducible repeat (first | refine blk_drewN ?_ _ | refine blk_drew ?_ | refine blk_alloc ?_ _)); refine blk_far ?_ NB134_133.out _; (with_reducible repeat (first | refine blk_drewN ?_ _ | refine blk_drew ?_ | refine blk_alloc ?_ _)); exact BK134.out) Tryz.underlying24 rfl (by kernel_rfl)) rfl ?_
 exact ⟨_, by first | rfl | (simp [errW_none, errW_some] <;> rfl) | (simp [*, errW_none, errW_some] <;> rfl), by (with_reducible repeat (first | apply Kd.R_alloc | apply Kd.R_drewN | apply Kd.R_drew)); exact Kd.R_mono (Kd.R_far (p := ⟨gb134, 5, none⟩) (Kd.R_far (p := ⟨gb134, 4, none⟩) (Kd.R_far (p := ⟨gb134, 3, none⟩) (Kd.R_far (p := ⟨gb134, 2, none⟩) (Kd.R_far (p := ⟨gb134, 1, none⟩) (Kd.R_far (p := ⟨gb134, 0, none⟩) (Kd.R_far (p := ⟨gb133, 5, none⟩) (Kd.R_types (Kd.R_types HO137.out BK133.out (by decide)) BK134.out (by decide)) (fun _ hk => hk.1.2) (.slice Ao8 t135.length co8)) (fun _ hk => hk.2) (.int .i64 a0_0)) (fun _ hk => hk.2) (.int .i64 a0_1)) (fun _ hk => hk.2) (.int .i64 a0_2)) (fun _ hk => hk.2) (.int .i64 a0_3)) (fun _ hk => hk.2) (.int .i64 a0_4)) (fun _ hk => hk.2) (.slice Ao8 t135.length co8)) (fun _ hk => trivial), kb2 HB.out GE133.out GE134.out⟩

/-! ### entry_Get: function 83 -/
def entry_Get.f (a0 : ByteArray) : Option (Int × Int × Int × Int × Int) := some (Skiff.getTup (Skiff.bl a0))
theorem entry_Get.calls (a0 : ByteArray) (r1 : Int) (r2 : Int) (r3 : Int) (r4 : Int) (r5 : Int) (w : World) (h : entry_Get.f a0 = some (r1, r2, r3, r4, r5)) :
  Calls Tryz.prog 83 #[.string a0] w fun e w' => e = .returned (.tuple #[.agg #[.int .i64 r1, .int .i64 r2, .int .i64 r3, .int .i64 r4], .int .i64 r5]) ∧ Below w.heap.size w w' :=
 Go.Proofs.YthkpaoajfiapkaaGreat.g_entry_Get a0 r1 r2 r3 r4 r5 w h

/-! ### journal_at: function 84 -/
def journal_at.f (a0 : ByteArray) (a1 : Int) : Option (ByteArray) := if 0 ≤ a1 then (if a1 ≤ (wrap64 (a1 + 24)) then (if (wrap64 (a1 + 24)) ≤ (a0.size : Int) then (some (a0.extract (a1 : Int).toNat ((wrap64 (a1 + 24)) : Int).toNat)) else (none)) else (none)) else (none)
set_option maxHeartbeats 8000000 in
set_option maxRecDepth 100000 in
theorem journal_at.calls (a0 : ByteArray) (a1 : Int) (r : ByteArray) (w : World) (h : journal_at.f a0 a1 = some r) :
  Calls Tryz.prog 84 #[.string a0, .int .i64 a1] w fun e w' => e = .returned (.string r) ∧ Drawn0 w w' := by
 have H : (if 0 ≤ a1 then (if a1 ≤ (wrap64 (a1 + 24)) then (if (wrap64 (a1 + 24)) ≤ (a0.size : Int) then (some (a0.extract (a1 : Int).toNat ((wrap64 (a1 + 24)) : Int).toNat)) else (none)) else (none)) else (none)) = some r := h
 clear h
 by_cases c3 : 0 ≤ a1
 case neg =>
  rw [if_neg c3] at H
  exact absurd H (by simp)
 rw [if_pos c3] at H
 have c3b0 := eq_true c3
 have c3b1 : decide (0 ≤ a1) = true := decide_eq_true c3
 clear c3
 by_cases c4 : a1 ≤ (wrap64 (a1 + 24))
 case neg =>
  rw [if_neg c4] at H
  exact absurd H (by simp)
 rw [if_pos c4] at H
 have c4b0 := eq_true c4
 have c4b1 : decide (a1 ≤ (wrap64 (a1 + 24))) = true := decide_eq_true c4
 by_cases c5 : (wrap64 (a1 + 24)) ≤ (a0.size : Int)
 case neg =>
  rw [if_neg c5] at H
  exact absurd H (by simp)
 rw [if_pos c5] at H
 have c5b0 := eq_true c5
 have c5b1 : decide ((wrap64 (a1 + 24)) ≤ (a0.size : Int)) = true := decide_eq_true c5
 obtain rfl := Option.some.inj H
 go_enter Tryz.func84, Tryz.ntmps84
 go_wp2
 go_ret
 exact ⟨by first | rfl | (simp; done) | (simp [*]; done), by repeat (first | exact Drawn0.refl _ | apply Drawn0.step)⟩

/-! ### journal_Scan: function 74 -/
def journal_Scan.l0 : Nat → ByteArray → List (S68) → Int → Option ((List (S68)) × Int)
 | 0, _, _, _ => none
 | k + 1, x0, x4, x12 => if x12 < 8 then ((journal_at.f x0 (wrap64 (x12 * 24))).bind fun t139 => ((entry_Get.f t139).bind fun bt140 => (if bt140.2.2.2.2 = 0 then (if x4.length < 3518437208883 then (journal_Scan.l0 k x0 (x4 ++ [(⟨wrap64 (x12 * 24), (⟨bt140.1, bt140.2.1, bt140.2.2.1, bt140.2.2.2.1⟩ : S66)⟩ : S68)]) (wrap64 (x12 + 1))) else (none)) else (journal_Scan.l0 k x0 x4 (wrap64 (x12 + 1)))))) else (some (x4, 0))
def journal_Scan.f (k : Nat) (a0 : ByteArray) : Option ((List (S68)) × Int) := (nor_May.f a0).bind fun t138 => (if t138 = true then (journal_Scan.l0 k a0 ([] : List (S68)) 0) else (some (([] : List (S68)), 500)))
set_option maxHeartbeats 8000000 in
set_option maxRecDepth 100000 in
theorem journal_Scan.calls (k : Nat) (a0 : ByteArray) (r1 : List (S68)) (r2 : Int) (w : World) (h : journal_Scan.f k a0 = some (r1, r2)) :
  Calls Tryz.prog 74 #[.string a0] w fun e w' => ∃ v0_ : Value, e = .returned (.tuple #[v0_, .int .i64 r2]) ∧ Kd.R k68 68 w' w.heap.size (fun _ => True) v0_ r1 ∧ Below w.heap.size w w' := by
 have hu66 := Tryz.underlying66
 have hu68 := Tryz.underlying68
 have HB := Aside0.mk (Below.refl w.heap.size w)
 have H : ((nor_May.f a0).bind fun t138 => (if t138 = true then (journal_Scan.l0 k a0 ([] : List (S68)) 0) else (some (([] : List (S68)), 500)))) = some (r1, r2) := h
 clear h
 replace H := Option.bind_eq_some_iff.mp H
 obtain ⟨t138, A20, H⟩ := H
 replace H : (if t138 = true then (journal_Scan.l0 k a0 ([] : List (S68)) 0) else (some (([] : List (S68)), 500))) = some (r1, r2) := H
 have A2 := Aside0.mk A20
 clear A20
 by_cases c3 : t138 = true
 ·subst c3
  have H1 : (journal_Scan.l0 k a0 ([] : List (S68)) 0) = some (r1, r2) := by rw [if_pos rfl] at H; exact H
  clear H; have H := H1; clear H1
  have H' := Aside0.mk H
  clear H
  go_enter Tryz.func74, Tryz.ntmps74
  go_wp2_with (first | ((with_reducible refine gate_callee (f := 19) rfl ?_); refine goesL_ (some 10) rfl rfl Tryz.func19 (by kernel_rfl) rfl #[.string a0] rfl ka ?_; (with_reducible refine (nor_May.calls a0 true _ A2.out).mono ?_); rintro e w' ⟨rfl, ⟨nd, rfl⟩⟩; refine ⟨_, rfl, ?_⟩))
  go_loopg [4, 12] k (fun kq v4 v12 w' => ∃ (x4_1 : List (S68)) (x12_1 : Int), v12 = .int .i64 x12_1 ∧ Aside0 (journal_Scan.l0 kq a0 x4_1 x12_1 = some (r1, r2)) ∧ Aside0 (kq ≤ k) ∧ Aside0 (Kd.R k68 68 w' w.heap.size (fun _ => True) v4 x4_1) ∧ Aside0 (Below w.heap.size w w'))
  case atStart => exact ⟨(([] : List (S68))), (0), (by first | rfl | (simp; done) | (simp [*]; done)), H', ⟨Nat.le_refl _⟩, ⟨by first | exact Kd.R_nil _ _ _ _ _ | exact Kd.N_nil _ _ _ _ _ | exact Kd.V_nil _ _ _ _ _ | exact Kd.Q_nil _ _ _ _ _ | exact Kd.S_nil _ _ _ _ _⟩, ⟨kb HB.out⟩⟩
  case round =>
   clear H'
   try clear c1; try clear p2; try clear c3
   obtain ⟨x4_1, x12_1, rfl, HA, HK1, HO_4, HB⟩ := hrel
   cases gk with
   | zero => exact absurd HA.out (by simp [journal_Scan.l0])
   | succ k1 =>
    have H := HA.out
    clear HA
    simp only [journal_Scan.l0] at H
    by_cases c4 : x12_1 < 8
    case neg =>
     rw [if_neg c4] at H
     have c4b0 : decide (x12_1 < 8) = false := decide_eq_false c4
     clear c4
     simp only [Option.some.injEq, Prod.mk.injEq] at H
     obtain ⟨rfl, rfl⟩ := H
     go_wp2
     go_ret2
     exact ⟨_, by first | rfl | (simp [errW_none, errW_some] <;> rfl) | (simp [*, errW_none, errW_some] <;> rfl), kR HO_4.out, kb HB.out⟩
    rw [if_pos c4] at H
    have c4b0 : decide (x12_1 < 8) = true := decide_eq_true c4
    clear c4
    replace H := Option.bind_eq_some_iff.mp H
    obtain ⟨t139, A50, H⟩ := H
    replace H : ((entry_Get.f t139).bind fun bt140 => (if bt140.2.2.2.2 = 0 then (if x4_1.length < 3518437208883 then (journal_Scan.l0 k1 a0 (x4_1 ++ [(⟨wrap64 (x12_1 * 24), (⟨bt140.1, bt140.2.1, bt140.2.2.1, bt140.2.2.2.1⟩ : S66)⟩ : S68)]) (wrap64 (x12_1 + 1))) else (none)) else (journal_Scan.l0 k1 a0 x4_1 (wrap64 (x12_1 + 1))))) = some (r1, r2) := H
    have A5 := Aside0.mk A50
    clear A50
    replace H := Option.bind_eq_some_iff.mp H
    obtain ⟨⟨t140, t141, t142, t143, t144⟩, A60, H⟩ := H
    replace H : (if t144 = 0 then (if x4_1.length < 3518437208883 then (journal_Scan.l0 k1 a0 (x4_1 ++ [(⟨wrap64 (x12_1 * 24), (⟨t140, t141, t142, t143⟩ : S66)⟩ : S68)]) (wrap64 (x12_1 + 1))) else (none)) else (journal_Scan.l0 k1 a0 x4_1 (wrap64 (x12_1 + 1)))) = some (r1, r2) := H
    have A6 := Aside0.mk A60
    clear A60
    by_cases c7 : t144 = 0
    case neg =>
     rw [if_neg c7] at H
     have c7b0 : (t144 == 0) = false := beq_eq_false_iff_ne.mpr c7
     have c7b1 : (t144 != 0) = true := bne_iff_ne.mpr c7
     have H' := Aside0.mk H
     clear H
     go_wp2_with (first | ((with_reducible refine gate_callee (f := 84) rfl ?_); refine goesL_ (some 20) rfl rfl Tryz.func84 (by kernel_rfl) rfl #[.string a0, .int .i64 (wrap64 (x12_1 * 24))] rfl ka ?_; (with_reducible refine (journal_at.calls a0 (wrap64 (x12_1 * 24)) t139 _ A5.out).mono ?_); rintro e w' ⟨rfl, ⟨nd, rfl⟩⟩; refine ⟨_, rfl, ?_⟩; (try (rw [drewN_self wr]; generalize hq_ : World.drewN wr _ = wr; have n0_ : Aside0 (Kd.R k68 68 wr w.heap.size (fun _ => True) u4 x4_1) := ⟨by rw [← hq_]; exact (kR HO_4.out)⟩; have n1_ : Aside0 (Below w.heap.size w wr) := ⟨by rw [← hq_]; exact (kb HB.out)⟩; clear HO_4 HB hq_; have HO_4 := n0_; have HB := n1_; clear n0_ n1_))) | ((with_reducible refine gate_callee (f := 83) rfl ?_); refine goesL_ (some 21) rfl rfl Tryz.func83 (by kernel_rfl) rfl #[.string t139] rfl ka ?_; (with_reducible refine (entry_Get.calls t139 t140 t141 t142 t143 t144 _ A6.out).mono ?_); rintro e w13 ⟨rfl, hb⟩; refine ⟨_, rfl, ?_⟩; have n0_ := Aside0.mk (Kd.R_below (kR HO_4.out) hb); have n1_ := Aside0.mk (below_step (kb HB.out) hb); clear HO_4; clear HB; have HO_4 := n0_; have HB := n1_; clear n0_ n1_; (try clear hb); (try clear hb2); (try clear hk); (try clear hi)) | ((with_reducible refine gate_dst (N := 7) rfl ?_); refine box_event ?hg (N := 7) ?hd (cs := #[.int .i64 0, .int .i64 0, .int .i64 0, .int .i64 0]) (t := 66) ?hr ?_; (case hd => rfl); (case hg => rfl); (case hr => first | (go_simp; done) | (go_simp; rfl)); intro gb145 hg w14 hbox hb; have n0_ := Aside0.mk (Kd.R_below (kR HO_4.out) hb); have n1_ := Aside0.mk (below_step (kb HB.out) hb); have n2_ := Aside0.mk (hbox); have n3_ := Aside0.mk ((kz hg (below_size (kb HB.out)) : w.heap.size ≤ gb145)); have n4_ := Aside0.mk ((kz hg (below_size (kb HB.out)) : w.heap.size ≤ gb145)); clear HO_4; clear HB; have HO_4 := n0_; have HB := n1_; have BK145 := n2_; have GW145 := n3_; have GE145 := n4_; clear n0_ n1_ n2_ n3_ n4_; clear hb hbox hg; obtain ⟨hcz15_0, hcz15_1, hcz15_2, hcz15_3⟩ := kc4 BK145.out; obtain ⟨hfz15_0, hfz15_1, hfz15_2, hfz15_3⟩ := kf4 BK145.out))
     go_roundg k1
     case measure => have := HK1.out; omega
     case rel => exact ⟨(x4_1), (wrap64 (x12_1 + 1)), (by first | rfl | (simp; done) | (simp [*]; done)), H', ⟨by have := HK1.out; omega⟩, ⟨by (with_reducible repeat (first | apply Kd.R_alloc | apply Kd.R_drewN | apply Kd.R_drew)); exact Kd.R_mono (Kd.R_far (p := ⟨gb145, 3, none⟩) (Kd.R_far (p := ⟨gb145, 2, none⟩) (Kd.R_far (p := ⟨gb145, 1, none⟩) (Kd.R_far (p := ⟨gb145, 0, none⟩) (Kd.R_types HO_4.out BK145.out (by decide)) (fun _ hk => hk.2) (.int .i64 t140)) (fun _ hk => hk.2) (.int .i64 t141)) (fun _ hk => hk.2) (.int .i64 t142)) (fun _ hk => hk.2) (.int .i64 t143)) (fun _ hk => trivial)⟩, ⟨kb1 HB.out GE145.out⟩⟩
    rw [if_pos c7] at H
    have c7b0 : (t144 == 0) = true := beq_iff_eq.mpr c7
    have c7b1 : (t144 != 0) = false := bne_eq_false_iff_eq.mpr c7
    clear c7
    by_cases c8 : x4_1.length < 3518437208883
    case neg =>
     rw [if_neg c8] at H
     exact absurd H (by simp)
    rw [if_pos c8] at H
    have LMc8 := Aside0.mk c8
    clear c8
    obtain ⟨y146, hy146⟩ : ∃ y_ : List (S68), y_ = (x4_1 ++ [(⟨wrap64 (x12_1 * 24), (⟨t140, t141, t142, t143⟩ : S66)⟩ : S68)]) := ⟨_, rfl⟩
    replace H : (journal_Scan.l0 k1 a0 y146 (wrap64 (x12_1 + 1))) = some (r1, r2) := by first | (rw [hy146]; with_reducible exact H) | (have H2_ := (Option.bind_some _ _).symm.trans H; rw [hy146]; with_reducible exact H2_) | (have H2_ := (Option.bind_some _ _).symm.trans H; with_reducible exact H2_) | with_reducible exact H | (rw [hy146]; exact H) | exact H
    have Ny146 := Aside0.mk hy146
    clear hy146
    have H' := Aside0.mk H
    clear H
    go_wp2_with (first | ((with_reducible refine gate_callee (f := 84) rfl ?_); refine goesL_ (some 20) rfl rfl Tryz.func84 (by kernel_rfl) rfl #[.string a0, .int .i64 (wrap64 (x12_1 * 24))] rfl ka ?_; (with_reducible refine (journal_at.calls a0 (wrap64 (x12_1 * 24)) t139 _ A5.out).mono ?_); rintro e w' ⟨rfl, ⟨nd, rfl⟩⟩; refine ⟨_, rfl, ?_⟩; (try (rw [drewN_self wr]; generalize hq_ : World.drewN wr _ = wr; have n0_ : Aside0 (Kd.R k68 68 wr w.heap.size (fun _ => True) u4 x4_1) := ⟨by rw [← hq_]; exact (kR HO_4.out)⟩; have n1_ : Aside0 (Below w.heap.size w wr) := ⟨by rw [← hq_]; exact (kb HB.out)⟩; clear HO_4 HB hq_; have HO_4 := n0_; have HB := n1_; clear n0_ n1_))) | ((with_reducible refine gate_callee (f := 83) rfl ?_); refine goesL_ (some 21) rfl rfl Tryz.func83 (by kernel_rfl) rfl #[.string t139] rfl ka ?_; (with_reducible refine (entry_Get.calls t139 t140 t141 t142 t143 t144 _ A6.out).mono ?_); rintro e w9 ⟨rfl, hb⟩; refine ⟨_, rfl, ?_⟩; have n0_ := Aside0.mk (Kd.R_below (kR HO_4.out) hb); have n1_ := Aside0.mk (below_step (kb HB.out) hb); clear HO_4; clear HB; have HO_4 := n0_; have HB := n1_; clear n0_ n1_; (try clear hb); (try clear hb2); (try clear hk); (try clear hi)) | ((with_reducible refine gate_dst (N := 7) rfl ?_); refine box_event ?hg (N := 7) ?hd (cs := #[.int .i64 0, .int .i64 0, .int .i64 0, .int .i64 0]) (t := 66) ?hr ?_; (case hd => rfl); (case hg => rfl); (case hr => first | (go_simp; done) | (go_simp; rfl)); intro gb145 hg w10 hbox hb; have n0_ := Aside0.mk (Kd.R_below (kR HO_4.out) hb); have n1_ := Aside0.mk (below_step (kb HB.out) hb); have n2_ := Aside0.mk (hbox); have n3_ := Aside0.mk ((kz hg (below_size (kb HB.out)) : w.heap.size ≤ gb145)); have n4_ := Aside0.mk ((kz hg (below_size (kb HB.out)) : w.heap.size ≤ gb145)); clear HO_4; clear HB; have HO_4 := n0_; have HB := n1_; have BK145 := n2_; have GW145 := n3_; have GE145 := n4_; clear n0_ n1_ n2_ n3_ n4_; clear hb hbox hg; obtain ⟨hcz11_0, hcz11_1, hcz11_2, hcz11_3⟩ := kc4 BK145.out; obtain ⟨hfz11_0, hfz11_1, hfz11_2, hfz11_3⟩ := kf4 BK145.out) | ((with_reducible refine gate_builtin (b := .append) (xs := #[.tmp 26, .tmp 30]) rfl ?_); at_builtin; refine Kd.R_append k68 (w0 := w) w.heap.size rfl (.tmp 26) (.tmp 30) 81 68 (.agg #[(.int .i64 0), (.int .i64 0), (.int .i64 0), (.int .i64 0), (.int .i64 0)]) 40 rfl Tryz.underlying81 info68 rfl (by decide) (by omega) u4 x4_1 (⟨wrap64 (x12_1 * 24), (⟨t140, t141, t142, t143⟩ : S66)⟩ : S68) [.int .i64 (wrap64 (x12_1 * 24)), .int .i64 t140, .int .i64 t141, .int .i64 t142, .int .i64 t143] (fun _ => True) (fun _ => False) rfl (by first | (go_simp; done) | (go_simp; rfl)) ?aP (fun _ hk => hk.elim) ?aF ?aO ?aB ?aS ?aL ?_; (case aP => exact k68_mkM _ _ _ (⟨wrap64 (x12_1 * 24), (⟨t140, t141, t142, t143⟩ : S66)⟩ : S68)); (case aB => exact (kb1 HB.out GE145.out)); (case aF => exact (fun _ _ => trivial)); (case aO => exact (by (with_reducible repeat (first | apply Kd.R_alloc | apply Kd.R_drewN | apply Kd.R_drew)); exact Kd.R_mono (Kd.R_far (p := ⟨gb145, 3, none⟩) (Kd.R_far (p := ⟨gb145, 2, none⟩) (Kd.R_far (p := ⟨gb145, 1, none⟩) (Kd.R_far (p := ⟨gb145, 0, none⟩) (Kd.R_types HO_4.out BK145.out (by decide)) (fun _ hk => hk.2) (.int .i64 t140)) (fun _ hk => hk.2) (.int .i64 t141)) (fun _ hk => hk.2) (.int .i64 t142)) (fun _ hk => hk.2) (.int .i64 t143)) (fun _ hk => trivial))); (case aS => exact (below_size (kb1 HB.out GE145.out))); (case aL => have := LMc8.out; omega); intro v147 w12 ho hb hg hat; rw [← Ny146.out] at ho; have n0_ := Aside0.mk (blk_grown (g := gb145) (o := .cells #[.int .i64 t140, .int .i64 t141, .int .i64 t142, .int .i64 t143] 66 (0, 0)) (kP4 BK145.out) hg (Kd.R_ne HO_4.out BK145.out (by decide))); have n1_ := Aside0.mk (hb); have n2_ := Aside0.mk (ho); clear BK145; clear HB; clear HO_4; have BK145 := n0_; have HB := n1_; have HO148 := n2_; clear n0_ n1_ n2_; clear ho hb hg hat))
    go_roundg k1
    case measure => have := HK1.out; omega
    case rel => exact ⟨(y146), (wrap64 (x12_1 + 1)), (by first | rfl | (simp; done) | (simp [*]; done)), H', ⟨by have := HK1.out; omega⟩, ⟨kR HO148.out⟩, ⟨kb1 HB.out GE145.out⟩⟩
 ·replace c3 := Bool.eq_false_iff.mpr c3
  subst c3
  have H1 : (some (([] : List (S68)), 500)) = some (r1, r2) := by rw [if_neg (show ¬ (false = true) by decide)] at H; exact H
  clear H; have H := H1; clear H1
  simp only [Option.some.injEq, Prod.mk.injEq] at H
  obtain ⟨rfl, rfl⟩ := H
  go_enter Tryz.func74, Tryz.ntmps74
  go_wp2_with (first | ((with_reducible refine gate_callee (f := 19) rfl ?_); refine goesL_ (some 10) rfl rfl Tryz.func19 (by kernel_rfl) rfl #[.string a0] rfl ka ?_; (with_reducible refine (nor_May.calls a0 false _ A2.out).mono ?_); rintro e w' ⟨rfl, ⟨nd, rfl⟩⟩; refine ⟨_, rfl, ?_⟩))
  go_ret2
  exact ⟨_, by first | rfl | (simp [errW_none, errW_some] <;> rfl) | (simp [*, errW_none, errW_some] <;> rfl), by first | exact Kd.R_nil _ _ _ _ _ | exact Kd.N_nil _ _ _ _ _ | exact Kd.V_nil _ _ _ _ _ | exact Kd.Q_nil _ _ _ _ _ | exact Kd.S_nil _ _ _ _ _, kb HB.out⟩

/-! ### choose_queue_Len: function 76 -/
def choose_queue_Len.f (l0 : List (S68)) : Option (Int) := some (l0.length : Int)
set_option maxHeartbeats 8000000 in
set_option maxRecDepth 100000 in
theorem choose_queue_Len.calls (A0 : Option Addr) (c0 : Nat) (l0 : List (S68)) (r : Int) (w : World) (hr0 : Kd.C k68 w A0 l0.length l0) (hc0 : l0.length ≤ c0) (h : choose_queue_Len.f l0 = some r) :
  Calls Tryz.prog 76 #[.slice A0 l0.length c0] w fun e w' => e = .returned (.int .i64 r) ∧ Drawn0 w w' := by
 have HR0 := Aside0.mk hr0
 have HC0 := Aside0.mk hc0
 clear hr0 hc0
 have H : (some (l0.length : Int)) = some r := h
 clear h
 obtain rfl := Option.some.inj H
 go_enter Tryz.func76, Tryz.ntmps76
 go_wp2
 go_ret
 exact ⟨by first | rfl | (simp; done) | (simp [*]; done), by repeat (first | exact Drawn0.refl _ | apply Drawn0.step)⟩

/-! ### journal_Begin: function 64 -/
def journal_Begin.f (a0 : Int) : Option (Int) := some (wrap64 (a0 * 96))
set_option maxHeartbeats 8000000 in
set_option maxRecDepth 100000 in
theorem journal_Begin.calls (a0 : Int) (r : Int) (w : World) (h : journal_Begin.f a0 = some r) :
  Calls Tryz.prog 64 #[.int .i64 a0] w fun e w' => e = .returned (.int .i64 r) ∧ Drawn0 w w' := by
 have H : (some (wrap64 (a0 * 96))) = some r := h
 clear h
 obtain rfl := Option.some.inj H
 go_enter Tryz.func64, Tryz.ntmps64
 go_wp2
 go_ret
 exact ⟨by first | rfl | (simp; done) | (simp [*]; done), by repeat (first | exact Drawn0.refl _ | apply Drawn0.step)⟩

/-! ### image_Sector: function 65 -/
def image_Sector.f (a0 : Int) : Option (Int) := some (wrap64 (2 + (wrap64 (3 * a0))))
set_option maxHeartbeats 8000000 in
set_option maxRecDepth 100000 in
theorem image_Sector.calls (a0 : Int) (r : Int) (w : World) (h : image_Sector.f a0 = some r) :
  Calls Tryz.prog 65 #[.int .i64 a0] w fun e w' => e = .returned (.int .i64 r) ∧ Drawn0 w w' := by
 have H : (some (wrap64 (2 + (wrap64 (3 * a0))))) = some r := h
 clear h
 obtain rfl := Option.some.inj H
 go_enter Tryz.func65, Tryz.ntmps65
 go_wp2
 go_ret
 exact ⟨by first | rfl | (simp; done) | (simp [*]; done), by repeat (first | exact Drawn0.refl _ | apply Drawn0.step)⟩

/-! ### image_Base: function 66 -/
def image_Base.f (a0 : Int) : Option (Int × Int) := (entry_Slot.f a0).bind fun t149 => (if t149 = true then ((image_Sector.f a0).bind fun t150 => ((journal_Begin.f t150).bind fun t151 => (some (t151, 0)))) else (some (0, 600)))
set_option maxHeartbeats 8000000 in
set_option maxRecDepth 100000 in
theorem image_Base.calls (a0 : Int) (r1 : Int) (r2 : Int) (w : World) (h : image_Base.f a0 = some (r1, r2)) :
  Calls Tryz.prog 66 #[.int .i64 a0] w fun e w' => e = .returned (.tuple #[.int .i64 r1, .int .i64 r2]) ∧ Drawn0 w w' := by
 have H : ((entry_Slot.f a0).bind fun t149 => (if t149 = true then ((image_Sector.f a0).bind fun t150 => ((journal_Begin.f t150).bind fun t151 => (some (t151, 0)))) else (some (0, 600)))) = some (r1, r2) := h
 clear h
 replace H := Option.bind_eq_some_iff.mp H
 obtain ⟨t149, A20, H⟩ := H
 replace H : (if t149 = true then ((image_Sector.f a0).bind fun t150 => ((journal_Begin.f t150).bind fun t151 => (some (t151, 0)))) else (some (0, 600))) = some (r1, r2) := H
 have A2 := Aside0.mk A20
 clear A20
 by_cases c3 : t149 = true
 ·subst c3
  have H1 : ((image_Sector.f a0).bind fun t150 => ((journal_Begin.f t150).bind fun t151 => (some (t151, 0)))) = some (r1, r2) := by rw [if_pos rfl] at H; exact H
  clear H; have H := H1; clear H1
  replace H := Option.bind_eq_some_iff.mp H
  obtain ⟨t150, A40, H⟩ := H
  replace H : ((journal_Begin.f t150).bind fun t151 => (some (t151, 0))) = some (r1, r2) := H
  have A4 := Aside0.mk A40
  clear A40
  replace H := Option.bind_eq_some_iff.mp H
  obtain ⟨t151, A50, H⟩ := H
  replace H : (some (t151, 0)) = some (r1, r2) := H
  have A5 := Aside0.mk A50
  clear A50
  simp only [Option.some.injEq, Prod.mk.injEq] at H
  obtain ⟨rfl, rfl⟩ := H
  go_enter Tryz.func66, Tryz.ntmps66
  go_wp2_with (first | ((with_reducible refine gate_callee (f := 43) rfl ?_); refine goesL_ (some 5) rfl rfl Tryz.func43 (by kernel_rfl) rfl #[.int .i64 a0] rfl ka ?_; (with_reducible refine (entry_Slot.calls a0 true _ A2.out).mono ?_); rintro e w' ⟨rfl, ⟨nd, rfl⟩⟩; refine ⟨_, rfl, ?_⟩) | ((with_reducible refine gate_callee (f := 65) rfl ?_); refine goesL_ (some 8) rfl rfl Tryz.func65 (by kernel_rfl) rfl #[.int .i64 a0] rfl ka ?_; (with_reducible refine (image_Sector.calls a0 t150 _ A4.out).mono ?_); rintro e w' ⟨rfl, ⟨nd, rfl⟩⟩; refine ⟨_, rfl, ?_⟩) | ((with_reducible refine gate_callee (f := 64) rfl ?_); refine goesL_ (some 9) rfl rfl Tryz.func64 (by kernel_rfl) rfl #[.int .i64 t150] rfl ka ?_; (with_reducible refine (journal_Begin.calls t150 t151 _ A5.out).mono ?_); rintro e w' ⟨rfl, ⟨nd, rfl⟩⟩; refine ⟨_, rfl, ?_⟩))
  go_ret2
  exact ⟨by first | rfl | (simp; done) | (simp [*]; done), by repeat (first | exact Drawn0.refl _ | apply Drawn0.step)⟩
 ·replace c3 := Bool.eq_false_iff.mpr c3
  subst c3
  have H1 : (some (0, 600)) = some (r1, r2) := by rw [if_neg (show ¬ (false = true) by decide)] at H; exact H
  clear H; have H := H1; clear H1
  simp only [Option.some.injEq, Prod.mk.injEq] at H
  obtain ⟨rfl, rfl⟩ := H
  go_enter Tryz.func66, Tryz.ntmps66
  go_wp2_with (first | ((with_reducible refine gate_callee (f := 43) rfl ?_); refine goesL_ (some 5) rfl rfl Tryz.func43 (by kernel_rfl) rfl #[.int .i64 a0] rfl ka ?_; (with_reducible refine (entry_Slot.calls a0 false _ A2.out).mono ?_); rintro e w' ⟨rfl, ⟨nd, rfl⟩⟩; refine ⟨_, rfl, ?_⟩))
  go_ret2
  exact ⟨by first | rfl | (simp; done) | (simp [*]; done), by repeat (first | exact Drawn0.refl _ | apply Drawn0.step)⟩

/-! ### entry_May: function 97 -/
def entry_May.f (a0_0 : Int) (a0_1 : Int) (a0_2 : Int) (a0_3 : Int) : Option (Bool) := some (Skiff.recMay ⟨a0_0, a0_1, a0_2, a0_3⟩)
theorem entry_May.calls (a0_0 : Int) (a0_1 : Int) (a0_2 : Int) (a0_3 : Int) (r : Bool) (w : World) (h : entry_May.f a0_0 a0_1 a0_2 a0_3 = some r) :
  Calls Tryz.prog 97 #[.agg #[.int .i64 a0_0, .int .i64 a0_1, .int .i64 a0_2, .int .i64 a0_3]] w fun e w' => e = .returned (.bool r) ∧ Below w.heap.size w w' :=
 Go.Proofs.YthkpaoajfiapkaaGreat.g_entry_May a0_0 a0_1 a0_2 a0_3 r w h

/-! ### image_Of: function 86 -/
def image_Of.f (a0 : ByteArray) (a1_0 : Int) (a1_1 : Int) (a1_2 : Int) (a1_3 : Int) : Option (ByteArray × Int) := (nor_May.f a0).bind fun t153 => (if t153 = true then ((entry_May.f a1_0 a1_1 a1_2 a1_3).bind fun t154 => (if t154 = true then ((image_Base.f a1_1).bind fun bt155 => (if 0 ≤ bt155.1 then (if bt155.1 ≤ (wrap64 (bt155.1 + a1_2)) then (if (wrap64 (bt155.1 + a1_2)) ≤ (a0.size : Int) then (some (a0.extract (bt155.1 : Int).toNat ((wrap64 (bt155.1 + a1_2)) : Int).toNat, 0)) else (none)) else (none)) else (none))) else (some ((⟨#[]⟩ : ByteArray), 600)))) else (some ((⟨#[]⟩ : ByteArray), 600)))
set_option maxHeartbeats 8000000 in
set_option maxRecDepth 100000 in
theorem image_Of.calls (a0 : ByteArray) (a1_0 : Int) (a1_1 : Int) (a1_2 : Int) (a1_3 : Int) (r1 : ByteArray) (r2 : Int) (w : World) (h : image_Of.f a0 a1_0 a1_1 a1_2 a1_3 = some (r1, r2)) :
  Calls Tryz.prog 86 #[.string a0, .agg #[.int .i64 a1_0, .int .i64 a1_1, .int .i64 a1_2, .int .i64 a1_3]] w fun e w' => e = .returned (.tuple #[.string r1, .int .i64 r2]) ∧ Below w.heap.size w w' := by
 have hu66 := Tryz.underlying66
 have HB := Aside0.mk (Below.refl w.heap.size w)
 have H : ((nor_May.f a0).bind fun t153 => (if t153 = true then ((entry_May.f a1_0 a1_1 a1_2 a1_3).bind fun t154 => (if t154 = true then ((image_Base.f a1_1).bind fun bt155 => (if 0 ≤ bt155.1 then (if bt155.1 ≤ (wrap64 (bt155.1 + a1_2)) then (if (wrap64 (bt155.1 + a1_2)) ≤ (a0.size : Int) then (some (a0.extract (bt155.1 : Int).toNat ((wrap64 (bt155.1 + a1_2)) : Int).toNat, 0)) else (none)) else (none)) else (none))) else (some ((⟨#[]⟩ : ByteArray), 600)))) else (some ((⟨#[]⟩ : ByteArray), 600)))) = some (r1, r2) := h
 clear h
 replace H := Option.bind_eq_some_iff.mp H
 obtain ⟨t153, A30, H⟩ := H
 replace H : (if t153 = true then ((entry_May.f a1_0 a1_1 a1_2 a1_3).bind fun t154 => (if t154 = true then ((image_Base.f a1_1).bind fun bt155 => (if 0 ≤ bt155.1 then (if bt155.1 ≤ (wrap64 (bt155.1 + a1_2)) then (if (wrap64 (bt155.1 + a1_2)) ≤ (a0.size : Int) then (some (a0.extract (bt155.1 : Int).toNat ((wrap64 (bt155.1 + a1_2)) : Int).toNat, 0)) else (none)) else (none)) else (none))) else (some ((⟨#[]⟩ : ByteArray), 600)))) else (some ((⟨#[]⟩ : ByteArray), 600))) = some (r1, r2) := H
 have A3 := Aside0.mk A30
 clear A30
 by_cases c4 : t153 = true
 ·subst c4
  have H1 : ((entry_May.f a1_0 a1_1 a1_2 a1_3).bind fun t154 => (if t154 = true then ((image_Base.f a1_1).bind fun bt155 => (if 0 ≤ bt155.1 then (if bt155.1 ≤ (wrap64 (bt155.1 + a1_2)) then (if (wrap64 (bt155.1 + a1_2)) ≤ (a0.size : Int) then (some (a0.extract (bt155.1 : Int).toNat ((wrap64 (bt155.1 + a1_2)) : Int).toNat, 0)) else (none)) else (none)) else (none))) else (some ((⟨#[]⟩ : ByteArray), 600)))) = some (r1, r2) := by rw [if_pos rfl] at H; exact H
  clear H; have H := H1; clear H1
  replace H := Option.bind_eq_some_iff.mp H
  obtain ⟨t154, A50, H⟩ := H
  replace H : (if t154 = true then ((image_Base.f a1_1).bind fun bt155 => (if 0 ≤ bt155.1 then (if bt155.1 ≤ (wrap64 (bt155.1 + a1_2)) then (if (wrap64 (bt155.1 + a1_2)) ≤ (a0.size : Int) then (some (a0.extract (bt155.1 : Int).toNat ((wrap64 (bt155.1 + a1_2)) : Int).toNat, 0)) else (none)) else (none)) else (none))) else (some ((⟨#[]⟩ : ByteArray), 600))) = some (r1, r2) := H
  have A5 := Aside0.mk A50
  clear A50
  by_cases c6 : t154 = true
  ·subst c6
   have H1 : ((image_Base.f a1_1).bind fun bt155 => (if 0 ≤ bt155.1 then (if bt155.1 ≤ (wrap64 (bt155.1 + a1_2)) then (if (wrap64 (bt155.1 + a1_2)) ≤ (a0.size : Int) then (some (a0.extract (bt155.1 : Int).toNat ((wrap64 (bt155.1 + a1_2)) : Int).toNat, 0)) else (none)) else (none)) else (none))) = some (r1, r2) := by rw [if_pos rfl] at H; exact H
   clear H; have H := H1; clear H1
   replace H := Option.bind_eq_some_iff.mp H
   obtain ⟨⟨t155, t156⟩, A70, H⟩ := H
   replace H : (if 0 ≤ t155 then (if t155 ≤ (wrap64 (t155 + a1_2)) then (if (wrap64 (t155 + a1_2)) ≤ (a0.size : Int) then (some (a0.extract (t155 : Int).toNat ((wrap64 (t155 + a1_2)) : Int).toNat, 0)) else (none)) else (none)) else (none)) = some (r1, r2) := H
   have A7 := Aside0.mk A70
   clear A70
   by_cases c8 : 0 ≤ t155
   case neg =>
    rw [if_neg c8] at H
    exact absurd H (by simp)
   rw [if_pos c8] at H
   have c8b0 := eq_true c8
   have c8b1 : decide (0 ≤ t155) = true := decide_eq_true c8
   clear c8
   by_cases c9 : t155 ≤ (wrap64 (t155 + a1_2))
   case neg =>
    rw [if_neg c9] at H
    exact absurd H (by simp)
   rw [if_pos c9] at H
   have c9b0 := eq_true c9
   have c9b1 : decide (t155 ≤ (wrap64 (t155 + a1_2))) = true := decide_eq_true c9
   by_cases c10 : (wrap64 (t155 + a1_2)) ≤ (a0.size : Int)
   case neg =>
    rw [if_neg c10] at H
    exact absurd H (by simp)
   rw [if_pos c10] at H
   have c10b0 := eq_true c10
   have c10b1 : decide ((wrap64 (t155 + a1_2)) ≤ (a0.size : Int)) = true := decide_eq_true c10
   simp only [Option.some.injEq, Prod.mk.injEq] at H
   obtain ⟨rfl, rfl⟩ := H
   go_enter Tryz.func86, Tryz.ntmps86
   go_wp2_with (first | ((with_reducible refine gate_dst (N := 3) rfl ?_); refine box_event ?hg (N := 3) ?hd (cs := #[.int .i64 a1_0, .int .i64 a1_1, .int .i64 a1_2, .int .i64 a1_3]) (t := 66) ?hr ?_; (case hd => rfl); (case hg => rfl); (case hr => first | (go_simp; done) | (go_simp; rfl)); intro gb152 hg w11 hbox hb; have n0_ := Aside0.mk (below_step (kb HB.out) hb); have n1_ := Aside0.mk (hbox); have n2_ := Aside0.mk ((kz hg (below_size (kb HB.out)) : w.heap.size ≤ gb152)); have n3_ := Aside0.mk ((kz hg (below_size (kb HB.out)) : w.heap.size ≤ gb152)); clear HB; have HB := n0_; have BK152 := n1_; have GW152 := n2_; have GE152 := n3_; clear n0_ n1_ n2_ n3_; clear hb hbox hg) | ((with_reducible refine gate_callee (f := 19) rfl ?_); refine goesL_ (some 9) rfl rfl Tryz.func19 (by kernel_rfl) rfl #[.string a0] rfl ka ?_; (with_reducible refine (nor_May.calls a0 true _ A3.out).mono ?_); rintro e w' ⟨rfl, ⟨nd, rfl⟩⟩; refine ⟨_, rfl, ?_⟩; obtain ⟨hcz12_0, hcz12_1, hcz12_2, hcz12_3⟩ := kc4 BK152.out; obtain ⟨hfz12_0, hfz12_1, hfz12_2, hfz12_3⟩ := kf4 BK152.out) | (go_at_call 97; (with_reducible refine (entry_May.calls a1_0 a1_1 a1_2 a1_3 true _ A5.out).mono ?_); rintro e w13 ⟨rfl, hb⟩; have n0_ := Aside0.mk (kL BK152.out hb); have n1_ := Aside0.mk (below_step (kb1 HB.out GE152.out) hb); clear BK152; clear HB; have BK152 := n0_; have HB := n1_; clear n0_ n1_; (try clear hb); (try clear hb2); (try clear hk); (try clear hi); obtain ⟨hcz14_0, hcz14_1, hcz14_2, hcz14_3⟩ := kc4 BK152.out; obtain ⟨hfz14_0, hfz14_1, hfz14_2, hfz14_3⟩ := kf4 BK152.out) | ((with_reducible refine gate_callee (f := 66) rfl ?_); refine goesL_ (some 19) rfl rfl Tryz.func66 (by kernel_rfl) rfl #[.int .i64 a1_1] rfl ka ?_; (with_reducible refine (image_Base.calls a1_1 t155 t156 _ A7.out).mono ?_); rintro e w' ⟨rfl, ⟨nd, rfl⟩⟩; refine ⟨_, rfl, ?_⟩))
   go_ret2
   exact ⟨by first | rfl | (simp [errW_none, errW_some] <;> rfl) | (simp [*, errW_none, errW_some] <;> rfl), kb1 HB.out GE152.out⟩
  ·replace c6 := Bool.eq_false_iff.mpr c6
   subst c6
   have H1 : (some ((⟨#[]⟩ : ByteArray), 600)) = some (r1, r2) := by rw [if_neg (show ¬ (false = true) by decide)] at H; exact H
   clear H; have H := H1; clear H1
   simp only [Option.some.injEq, Prod.mk.injEq] at H
   obtain ⟨rfl, rfl⟩ := H
   go_enter Tryz.func86, Tryz.ntmps86
   go_wp2_with (first | ((with_reducible refine gate_dst (N := 3) rfl ?_); refine box_event ?hg (N := 3) ?hd (cs := #[.int .i64 a1_0, .int .i64 a1_1, .int .i64 a1_2, .int .i64 a1_3]) (t := 66) ?hr ?_; (case hd => rfl); (case hg => rfl); (case hr => first | (go_simp; done) | (go_simp; rfl)); intro gb152 hg w15 hbox hb; have n0_ := Aside0.mk (below_step (kb HB.out) hb); have n1_ := Aside0.mk (hbox); have n2_ := Aside0.mk ((kz hg (below_size (kb HB.out)) : w.heap.size ≤ gb152)); have n3_ := Aside0.mk ((kz hg (below_size (kb HB.out)) : w.heap.size ≤ gb152)); clear HB; have HB := n0_; have BK152 := n1_; have GW152 := n2_; have GE152 := n3_; clear n0_ n1_ n2_ n3_; clear hb hbox hg) | ((with_reducible refine gate_callee (f := 19) rfl ?_); refine goesL_ (some 9) rfl rfl Tryz.func19 (by kernel_rfl) rfl #[.string a0] rfl ka ?_; (with_reducible refine (nor_May.calls a0 true _ A3.out).mono ?_); rintro e w' ⟨rfl, ⟨nd, rfl⟩⟩; refine ⟨_, rfl, ?_⟩; obtain ⟨hcz16_0, hcz16_1, hcz16_2, hcz16_3⟩ := kc4 BK152.out; obtain ⟨hfz16_0, hfz16_1, hfz16_2, hfz16_3⟩ := kf4 BK152.out) | (go_at_call 97; (with_reducible refine (entry_May.calls a1_0 a1_1 a1_2 a1_3 false _ A5.out).mono ?_); rintro e w17 ⟨rfl, hb⟩; have n0_ := Aside0.mk (kL BK152.out hb); have n1_ := Aside0.mk (below_step (kb1 HB.out GE152.out) hb); clear BK152; clear HB; have BK152 := n0_; have HB := n1_; clear n0_ n1_; (try clear hb); (try clear hb2); (try clear hk); (try clear hi)))
   go_ret2
   exact ⟨by first | rfl | (simp [errW_none, errW_some] <;> rfl) | (simp [*, errW_none, errW_some] <;> rfl), kb1 HB.out GE152.out⟩
 ·replace c4 := Bool.eq_false_iff.mpr c4
  subst c4
  have H1 : (some ((⟨#[]⟩ : ByteArray), 600)) = some (r1, r2) := by rw [if_neg (show ¬ (false = true) by decide)] at H; exact H
  clear H; have H := H1; clear H1
  simp only [Option.some.injEq, Prod.mk.injEq] at H
  obtain ⟨rfl, rfl⟩ := H
  go_enter Tryz.func86, Tryz.ntmps86
  go_wp2_with (first | ((with_reducible refine gate_dst (N := 3) rfl ?_); refine box_event ?hg (N := 3) ?hd (cs := #[.int .i64 a1_0, .int .i64 a1_1, .int .i64 a1_2, .int .i64 a1_3]) (t := 66) ?hr ?_; (case hd => rfl); (case hg => rfl); (case hr => first | (go_simp; done) | (go_simp; rfl)); intro gb152 hg w18 hbox hb; have n0_ := Aside0.mk (below_step (kb HB.out) hb); have n1_ := Aside0.mk (hbox); have n2_ := Aside0.mk ((kz hg (below_size (kb HB.out)) : w.heap.size ≤ gb152)); have n3_ := Aside0.mk ((kz hg (below_size (kb HB.out)) : w.heap.size ≤ gb152)); clear HB; have HB := n0_; have BK152 := n1_; have GW152 := n2_; have GE152 := n3_; clear n0_ n1_ n2_ n3_; clear hb hbox hg) | ((with_reducible refine gate_callee (f := 19) rfl ?_); refine goesL_ (some 9) rfl rfl Tryz.func19 (by kernel_rfl) rfl #[.string a0] rfl ka ?_; (with_reducible refine (nor_May.calls a0 false _ A3.out).mono ?_); rintro e w' ⟨rfl, ⟨nd, rfl⟩⟩; refine ⟨_, rfl, ?_⟩))
  go_ret2
  exact ⟨by first | rfl | (simp [errW_none, errW_some] <;> rfl) | (simp [*, errW_none, errW_some] <;> rfl), kb1 HB.out GE152.out⟩

/-! ### crc_Sum: function 87 -/
def crc_Sum.f (a0 : ByteArray) : Option (Int) := Skiff.sums a0
theorem crc_Sum.calls (a0 : ByteArray) (r : Int) (w : World) (h : crc_Sum.f a0 = some r) :
  Calls Tryz.prog 87 #[.string a0] w fun e w' => e = .returned (.int .i64 r) ∧ Below w.heap.size w w' :=
 Go.Proofs.YthkpaoajfiapkaaGreat.g_crc_Sum a0 r w h

/-! ### image_Good: function 78 -/
def image_Good.f (a0 : ByteArray) (a1_0 : Int) (a1_1 : Int) (a1_2 : Int) (a1_3 : Int) : Option (Bool × Int) := (image_Of.f a0 a1_0 a1_1 a1_2 a1_3).bind fun bt158 => (if bt158.2 = 0 then ((crc_Sum.f bt158.1).bind fun t160 => (some ((t160 == a1_3), bt158.2))) else (some (false, bt158.2)))
def image_Good.T2 : Bool × List (List Nat × List Nat) := (true, [([], []), ([0], [0]), ([1], [1]), ([2], [2]), ([3, 2, 2], [2, 3]), ([2], [2]), ([5, 2], [2, 5]), ([4, 6, 2], [2, 4, 6]), ([2, 7], [2, 7]), ([], []), ([8, 4, 0, 1, 2, 3, 4, 5, 6, 7, 8], [8]), ([9, 10, 0, 1, 2, 3, 4, 5, 6, 7, 8, 9, 10], [9])])
def image_Good.B2 : List Nat := [0, 1, 3, 7, 15, 7, 39, 127, 255, 0, 511, 2047]
theorem image_Good.tab2 : rtab .any (opsOf Tryz.f78 2) = image_Good.T2 := by kernel_rfl
theorem image_Good.bits2 : waitsOk image_Good.T2.2 image_Good.B2 = true := by kernel_rfl
set_option maxHeartbeats 8000000 in
set_option maxRecDepth 100000 in
theorem image_Good.calls (a0 : ByteArray) (a1_0 : Int) (a1_1 : Int) (a1_2 : Int) (a1_3 : Int) (r1 : Bool) (r2 : Int) (w : World) (h : image_Good.f a0 a1_0 a1_1 a1_2 a1_3 = some (r1, r2)) :
  Calls Tryz.prog 78 #[.string a0, .agg #[.int .i64 a1_0, .int .i64 a1_1, .int .i64 a1_2, .int .i64 a1_3]] w fun e w' => e = .returned (.tuple #[.bool r1, .int .i64 r2]) ∧ Below w.heap.size w w' := by
 have hu66 := Tryz.underlying66
 have HB := Aside0.mk (Below.refl w.heap.size w)
 have H : ((image_Of.f a0 a1_0 a1_1 a1_2 a1_3).bind fun bt158 => (if bt158.2 = 0 then ((crc_Sum.f bt158.1).bind fun t160 => (some ((t160 == a1_3), bt158.2))) else (some (false, bt158.2)))) = some (r1, r2) := h
 clear h
 replace H := Option.bind_eq_some_iff.mp H
 obtain ⟨⟨t158, t159⟩, A30, H⟩ := H
 replace H : (if t159 = 0 then ((crc_Sum.f t158).bind fun t160 => (some ((t160 == a1_3), t159))) else (some (false, t159))) = some (r1, r2) := H
 have A3 := Aside0.mk A30
 clear A30
 by_cases c4 : t159 = 0
 ·rw [if_pos c4] at H
  have c4b0 : (t159 == 0) = true := beq_iff_eq.mpr c4
  have c4b1 : (t159 != 0) = false := bne_eq_false_iff_eq.mpr c4
  clear c4
  replace H := Option.bind_eq_some_iff.mp H
  obtain ⟨t160, A50, H⟩ := H
  replace H : (some ((t160 == a1_3), t159)) = some (r1, r2) := H
  have A5 := Aside0.mk A50
  clear A50
  simp only [Option.some.injEq, Prod.mk.injEq] at H
  obtain ⟨rfl, rfl⟩ := H
  go_enter Tryz.func78, Tryz.ntmps78
  try go_wp2_with (first | ((with_reducible refine gate_dst (N := 3) rfl ?_); refine box_event ?hg (N := 3) ?hd (cs := #[.int .i64 a1_0, .int .i64 a1_1, .int .i64 a1_2, .int .i64 a1_3]) (t := 66) ?hr ?_; (case hd => rfl); (case hg => rfl); (case hr => first | (go_simp; done) | (go_simp; rfl)); intro gb157 hg w6 hbox hb; have n0_ := Aside0.mk (below_step (kb HB.out) hb); have n1_ := Aside0.mk (hbox); have n2_ := Aside0.mk ((kz hg (below_size (kb HB.out)) : w.heap.size ≤ gb157)); have n3_ := Aside0.mk ((kz hg (below_size (kb HB.out)) : w.heap.size ≤ gb157)); clear HB; have HB := n0_; have BK157 := n1_; have GW157 := n2_; have GE157 := n3_; clear n0_ n1_ n2_ n3_; clear hb hbox hg; obtain ⟨hcz7_0, hcz7_1, hcz7_2, hcz7_3⟩ := kc4 BK157.out; obtain ⟨hfz7_0, hfz7_1, hfz7_2, hfz7_3⟩ := kf4 BK157.out) | ((with_reducible refine gate_callee (f := 86) rfl ?_); refine goesL_ (some 11) rfl rfl Tryz.func86 (by kernel_rfl) rfl #[.string a0, .agg #[.int .i64 a1_0, .int .i64 a1_1, .int .i64 a1_2, .int .i64 a1_3]] rfl ka ?_; (with_reducible refine (image_Of.calls a0 a1_0 a1_1 a1_2 a1_3 t158 t159 _ A3.out).mono ?_); rintro e w8 ⟨rfl, hb⟩; refine ⟨_, rfl, ?_⟩; have n0_ := Aside0.mk (kL BK157.out hb); have n1_ := Aside0.mk (below_step (kb1 HB.out GE157.out) hb); clear BK157; clear HB; have BK157 := n0_; have HB := n1_; clear n0_ n1_; (try clear hb); (try clear hb2); (try clear hk); (try clear hi)))
  have n0_ := Aside0.mk (blk_drew BK157.out)
  have n1_ := Aside0.mk (below_drew1 HB.out)
  clear BK157 HB; have BK157 := n0_; have HB := n1_; clear n0_ n1_
  refine start_ (n := 12) (S := fun w' => w'.cell? ⟨gb157, 0, none⟩ = some (.int .i64 a1_0) ∧ w'.cell? ⟨gb157, 1, none⟩ = some (.int .i64 a1_1) ∧ w'.cell? ⟨gb157, 2, none⟩ = some (.int .i64 a1_2) ∧ w'.cell? ⟨gb157, 3, none⟩ = some (.int .i64 a1_3)) (ds := []) #[false, false, false, false, false, false, false, false, false, false, false, false] (by kernel_rfl) rfl rfl ⟨(blk_cell BK157.out 0).trans rfl, (blk_cell BK157.out 1).trans rfl, (blk_cell BK157.out 2).trans rfl, (blk_cell BK157.out 3).trans rfl⟩ (fun hHeld => ?_); refine with_tabW image_Good.tab2 image_Good.bits2 (fun HT_ HW_ => ?_)
  generalize w8.drew = w9 at BK157 HB hHeld ⊢
  refine pure_ (i := 0) (N := some 14) (v := ?_) (a' := ?_) #[true, false, false, false, false, false, false, false, false, false, false, false] rfl rfl (any_of HT_.out (by kernel_rfl)) (fun _ _ _ h => h) (Or.inl ⟨by rfl, ?_⟩) ?_ ?_
  rotate_left
  ·intro w'
   go_simp
   with_reducible rfl
  rotate_left
  ·simp only [Act.put, List.setIfInBounds_toArray, List.set_cons_zero, List.set_cons_succ, i64_w, i32_w]
   rfl
  refine pure_ (i := 1) (N := some 15) (v := ?_) (a' := ?_) #[true, true, false, false, false, false, false, false, false, false, false, false] rfl rfl (any_of HT_.out (by kernel_rfl)) (fun _ _ _ h => h) (Or.inl ⟨by rfl, ?_⟩) ?_ ?_
  rotate_left
  ·intro w'
   go_simp
   with_reducible rfl
  rotate_left
  ·simp only [Act.put, List.setIfInBounds_toArray, List.set_cons_zero, List.set_cons_succ, i64_w, i32_w]
   rfl
  refine pure_ (i := 2) (N := some 16) (v := ?_) (a' := ?_) #[true, true, true, false, false, false, false, false, false, false, false, false] rfl rfl (any_of HT_.out (by kernel_rfl)) (fun _ _ _ h => h) (Or.inl ⟨by rfl, ?_⟩) ?_ ?_
  rotate_left
  ·intro w'
   go_simp
   with_reducible rfl
  rotate_left
  ·simp only [Act.put, List.setIfInBounds_toArray, List.set_cons_zero, List.set_cons_succ, i64_w, i32_w]
   rfl
  refine pure_ (i := 3) (N := some 17) (v := ?_) (a' := ?_) #[true, true, true, true, false, false, false, false, false, false, false, false] rfl rfl (any_of HT_.out (by kernel_rfl)) (fun _ _ _ h => h) (Or.inl ⟨by rfl, ?_⟩) ?_ ?_
  rotate_left
  ·intro w'
   go_simp
   with_reducible rfl
  rotate_left
  ·simp only [Act.put, List.setIfInBounds_toArray, List.set_cons_zero, List.set_cons_succ, i64_w, i32_w]
   rfl
  refine pure_ (i := 5) (N := some 19) (v := ?_) (a' := ?_) #[true, true, true, true, false, true, false, false, false, false, false, false] rfl rfl (any_of HT_.out (by kernel_rfl)) (fun _ _ _ h => h) (Or.inl ⟨by rfl, ?_⟩) ?_ ?_
  rotate_left
  ·intro w'
   go_simp
   with_reducible rfl
  rotate_left
  ·simp only [Act.put, List.setIfInBounds_toArray, List.set_cons_zero, List.set_cons_succ, i64_w, i32_w]
   rfl
  refine pure_ (i := 9) (N := some 23) (v := ?_) (a' := ?_) #[true, true, true, true, false, true, false, false, false, true, false, false] rfl rfl (any_of HT_.out (by kernel_rfl)) (fun _ _ _ h => h) (Or.inl ⟨by rfl, ?_⟩) ?_ ?_
  rotate_left
  ·intro w'
   go_simp
   with_reducible rfl
  rotate_left
  ·simp only [Act.put, List.setIfInBounds_toArray, List.set_cons_zero, List.set_cons_succ, i64_w, i32_w]
   rfl
  refine take_ (i := 6) (N := some 20) (v := ?_) (a' := ?_) #[true, true, true, true, false, true, true, false, false, true, false, false] rfl rfl (take_ofW HT_.out HW_.out (by kernel_rfl)) (fun _ _ _ h => h) (Or.inl ⟨by rfl, ?_⟩) hHeld ?_ ?_
  rotate_left
  ·rintro w' ⟨s0, s1, s2, s3⟩
   go_simp
   with_reducible rfl
  rotate_left
  ·simp only [Act.put, List.setIfInBounds_toArray, List.set_cons_zero, List.set_cons_succ, i64_w, i32_w]
   rfl
  refine one_ (i := 4) (N := some 18) #[true, true, true, true, true, true, true, false, false, true, false, false] rfl rfl (one_of HT_.out (by kernel_rfl)) (by decide) (fun K hK => ?_)
  refine goes_ Tryz.func87 (by kernel_rfl) rfl #[.string t158] (by rfl) rfl rfl ka ?_
  with_reducible refine (crc_Sum.calls t158 t160 _ A5.out).mono ?_
  rintro e w10 ⟨rfl, hb⟩
  refine ⟨_, rfl, ?_⟩
  have n0_ := Aside0.mk (kL BK157.out hb)
  have n1_ := Aside0.mk (below_step (kb1 HB.out GE157.out) hb)
  clear BK157 HB; have BK157 := n0_; have HB := n1_; clear n0_ n1_
  (try clear hb)
  (try clear hb2)
  (try clear hk)
  (try clear hi)
  refine hK.out _ _ ⟨(blk_cell BK157.out 0).trans rfl, (blk_cell BK157.out 1).trans rfl, (blk_cell BK157.out 2).trans rfl, (blk_cell BK157.out 3).trans rfl⟩ (fun hHeld => ?_)
  clear hK K
  refine norm_ (a' := ?_) ?_ ?_
  rotate_left
  ·show Act.put _ (some 18) _ = _
   simp only [Act.put, List.setIfInBounds_toArray, List.set_cons_zero, List.set_cons_succ, i64_w, i32_w]
   rfl
  refine pure_ (i := 7) (N := some 21) (v := ?_) (a' := ?_) #[true, true, true, true, true, true, true, true, false, true, false, false] rfl rfl (any_of HT_.out (by kernel_rfl)) (fun _ _ _ h => h) (Or.inl ⟨by rfl, ?_⟩) ?_ ?_
  rotate_left
  ·intro w'
   go_simp
   with_reducible rfl
  rotate_left
  ·simp only [Act.put, List.setIfInBounds_toArray, List.set_cons_zero, List.set_cons_succ, i64_w, i32_w]
   rfl
  refine pure_ (i := 8) (N := some 22) (v := ?_) (a' := ?_) #[true, true, true, true, true, true, true, true, true, true, false, false] rfl rfl (any_of HT_.out (by kernel_rfl)) (fun _ _ _ h => h) (Or.inl ⟨by rfl, ?_⟩) ?_ ?_
  rotate_left
  ·intro w'
   go_simp
   with_reducible rfl
  rotate_left
  ·simp only [Act.put, List.setIfInBounds_toArray, List.set_cons_zero, List.set_cons_succ, i64_w, i32_w]
   rfl
  refine pure_ (i := 10) (N := some 4) (v := ?_) (a' := ?_) #[true, true, true, true, true, true, true, true, true, true, true, false] rfl rfl (any_of HT_.out (by kernel_rfl)) (fun _ _ _ h => h) (Or.inl ⟨by rfl, ?_⟩) ?_ ?_
  rotate_left
  ·intro w'
   go_simp
   with_reducible rfl
  rotate_left
  ·simp only [Act.put, List.setIfInBounds_toArray, List.set_cons_zero, List.set_cons_succ, i64_w, i32_w]
   rfl
  refine pure_ (i := 11) (N := some 5) (v := ?_) (a' := ?_) #[true, true, true, true, true, true, true, true, true, true, true, true] rfl rfl (any_of HT_.out (by kernel_rfl)) (fun _ _ _ h => h) (Or.inl ⟨by rfl, ?_⟩) ?_ ?_
  rotate_left
  ·intro w'
   go_simp
   with_reducible rfl
  rotate_left
  ·simp only [Act.put, List.setIfInBounds_toArray, List.set_cons_zero, List.set_cons_succ, i64_w, i32_w]
   rfl
  refine done_ (done_of HT_.out (by kernel_rfl)) ?_
  try go_wp2
  go_ret2
  exact ⟨by first | rfl | (simp [errW_none, errW_some] <;> rfl) | (simp [*, errW_none, errW_some] <;> rfl), kb1 HB.out GE157.out⟩
 ·rw [if_neg c4] at H
  have c4b0 : (t159 == 0) = false := beq_eq_false_iff_ne.mpr c4
  have c4b1 : (t159 != 0) = true := bne_iff_ne.mpr c4
  simp only [Option.some.injEq, Prod.mk.injEq] at H
  obtain ⟨rfl, rfl⟩ := H
  go_enter Tryz.func78, Tryz.ntmps78
  try go_wp2_with (first | ((with_reducible refine gate_dst (N := 3) rfl ?_); refine box_event ?hg (N := 3) ?hd (cs := #[.int .i64 a1_0, .int .i64 a1_1, .int .i64 a1_2, .int .i64 a1_3]) (t := 66) ?hr ?_; (case hd => rfl); (case hg => rfl); (case hr => first | (go_simp; done) | (go_simp; rfl)); intro gb157 hg w11 hbox hb; have n0_ := Aside0.mk (below_step (kb HB.out) hb); have n1_ := Aside0.mk (hbox); have n2_ := Aside0.mk ((kz hg (below_size (kb HB.out)) : w.heap.size ≤ gb157)); have n3_ := Aside0.mk ((kz hg (below_size (kb HB.out)) : w.heap.size ≤ gb157)); clear HB; have HB := n0_; have BK157 := n1_; have GW157 := n2_; have GE157 := n3_; clear n0_ n1_ n2_ n3_; clear hb hbox hg; obtain ⟨hcz12_0, hcz12_1, hcz12_2, hcz12_3⟩ := kc4 BK157.out; obtain ⟨hfz12_0, hfz12_1, hfz12_2, hfz12_3⟩ := kf4 BK157.out) | ((with_reducible refine gate_callee (f := 86) rfl ?_); refine goesL_ (some 11) rfl rfl Tryz.func86 (by kernel_rfl) rfl #[.string a0, .agg #[.int .i64 a1_0, .int .i64 a1_1, .int .i64 a1_2, .int .i64 a1_3]] rfl ka ?_; (with_reducible refine (image_Of.calls a0 a1_0 a1_1 a1_2 a1_3 t158 t159 _ A3.out).mono ?_); rintro e w13 ⟨rfl, hb⟩; refine ⟨_, rfl, ?_⟩; have n0_ := Aside0.mk (kL BK157.out hb); have n1_ := Aside0.mk (below_step (kb1 HB.out GE157.out) hb); clear BK157; clear HB; have BK157 := n0_; have HB := n1_; clear n0_ n1_; (try clear hb); (try clear hb2); (try clear hk); (try clear hi)))
  have n0_ := Aside0.mk (blk_drew BK157.out)
  have n1_ := Aside0.mk (below_drew1 HB.out)
  clear BK157 HB; have BK157 := n0_; have HB := n1_; clear n0_ n1_
  refine start_ (n := 12) (S := fun w' => True) (ds := []) #[false, false, false, false, false, false, false, false, false, false, false, false] (by kernel_rfl) rfl rfl trivial (fun hHeld => ?_); refine with_tabW image_Good.tab2 image_Good.bits2 (fun HT_ HW_ => ?_)
  generalize w13.drew = w14 at BK157 HB hHeld ⊢
  refine pure_ (i := 0) (N := some 14) (v := ?_) (a' := ?_) #[true, false, false, false, false, false, false, false, false, false, false, false] rfl rfl (any_of HT_.out (by kernel_rfl)) (fun _ _ _ h => h) (Or.inl ⟨by rfl, ?_⟩) ?_ ?_
  rotate_left
  ·intro w'
   go_simp
   with_reducible rfl
  rotate_left
  ·simp only [Act.put, List.setIfInBounds_toArray, List.set_cons_zero, List.set_cons_succ, i64_w, i32_w]
   rfl
  refine pure_ (i := 1) (N := some 15) (v := ?_) (a' := ?_) #[true, true, false, false, false, false, false, false, false, false, false, false] rfl rfl (any_of HT_.out (by kernel_rfl)) (fun _ _ _ h => h) (Or.inl ⟨by rfl, ?_⟩) ?_ ?_
  rotate_left
  ·intro w'
   go_simp
   with_reducible rfl
  rotate_left
  ·simp only [Act.put, List.setIfInBounds_toArray, List.set_cons_zero, List.set_cons_succ, i64_w, i32_w]
   rfl
  refine pure_ (i := 2) (N := some 16) (v := ?_) (a' := ?_) #[true, true, true, false, false, false, false, false, false, false, false, false] rfl rfl (any_of HT_.out (by kernel_rfl)) (fun _ _ _ h => h) (Or.inl ⟨by rfl, ?_⟩) ?_ ?_
  rotate_left
  ·intro w'
   go_simp
   with_reducible rfl
  rotate_left
  ·simp only [Act.put, List.setIfInBounds_toArray, List.set_cons_zero, List.set_cons_succ, i64_w, i32_w]
   rfl
  refine pure_ (i := 3) (N := some 17) (v := undef) (a' := ?_) #[true, true, true, true, false, false, false, false, false, false, false, false] rfl rfl (any_of HT_.out (by kernel_rfl)) (fun _ _ _ h => h) (Or.inr ⟨by rfl, rfl⟩) ?_ ?_
  rotate_left
  ·simp only [Act.put, List.setIfInBounds_toArray, List.set_cons_zero, List.set_cons_succ, i64_w, i32_w]
   rfl
  refine pure_ (i := 4) (N := some 18) (v := undef) (a' := ?_) #[true, true, true, true, true, false, false, false, false, false, false, false] rfl rfl (any_of HT_.out (by kernel_rfl)) (fun _ _ _ h => h) (Or.inr ⟨by rfl, rfl⟩) ?_ ?_
  rotate_left
  ·simp only [Act.put, List.setIfInBounds_toArray, List.set_cons_zero, List.set_cons_succ, i64_w, i32_w]
   rfl
  refine pure_ (i := 5) (N := some 19) (v := undef) (a' := ?_) #[true, true, true, true, true, true, false, false, false, false, false, false] rfl rfl (any_of HT_.out (by kernel_rfl)) (fun _ _ _ h => h) (Or.inr ⟨by rfl, rfl⟩) ?_ ?_
  rotate_left
  ·simp only [Act.put, List.setIfInBounds_toArray, List.set_cons_zero, List.set_cons_succ, i64_w, i32_w]
   rfl
  refine pure_ (i := 6) (N := some 20) (v := undef) (a' := ?_) #[true, true, true, true, true, true, true, false, false, false, false, false] rfl rfl (any_of HT_.out (by kernel_rfl)) (fun _ _ _ h => h) (Or.inr ⟨by rfl, rfl⟩) ?_ ?_
  rotate_left
  ·simp only [Act.put, List.setIfInBounds_toArray, List.set_cons_zero, List.set_cons_succ, i64_w, i32_w]
   rfl
  refine pure_ (i := 7) (N := some 21) (v := undef) (a' := ?_) #[true, true, true, true, true, true, true, true, false, false, false, false] rfl rfl (any_of HT_.out (by kernel_rfl)) (fun _ _ _ h => h) (Or.inr ⟨by rfl, rfl⟩) ?_ ?_
  rotate_left
  ·simp only [Act.put, List.setIfInBounds_toArray, List.set_cons_zero, List.set_cons_succ, i64_w, i32_w]
   rfl
  refine pure_ (i := 8) (N := some 22) (v := ?_) (a' := ?_) #[true, true, true, true, true, true, true, true, true, false, false, false] rfl rfl (any_of HT_.out (by kernel_rfl)) (fun _ _ _ h => h) (Or.inl ⟨by rfl, ?_⟩) ?_ ?_
  rotate_left
  ·intro w'
   go_simp
   with_reducible rfl
  rotate_left
  ·simp only [Act.put, List.setIfInBounds_toArray, List.set_cons_zero, List.set_cons_succ, i64_w, i32_w]
   rfl
  refine pure_ (i := 9) (N := some 23) (v := ?_) (a' := ?_) #[true, true, true, true, true, true, true, true, true, true, false, false] rfl rfl (any_of HT_.out (by kernel_rfl)) (fun _ _ _ h => h) (Or.inl ⟨by rfl, ?_⟩) ?_ ?_
  rotate_left
  ·intro w'
   go_simp
   with_reducible rfl
  rotate_left
  ·simp only [Act.put, List.setIfInBounds_toArray, List.set_cons_zero, List.set_cons_succ, i64_w, i32_w]
   rfl
  refine pure_ (i := 10) (N := some 4) (v := ?_) (a' := ?_) #[true, true, true, true, true, true, true, true, true, true, true, false] rfl rfl (any_of HT_.out (by kernel_rfl)) (fun _ _ _ h => h) (Or.inl ⟨by rfl, ?_⟩) ?_ ?_
  rotate_left
  ·intro w'
   go_simp
   with_reducible rfl
  rotate_left
  ·simp only [Act.put, List.setIfInBounds_toArray, List.set_cons_zero, List.set_cons_succ, i64_w, i32_w]
   rfl
  refine pure_ (i := 11) (N := some 5) (v := ?_) (a' := ?_) #[true, true, true, true, true, true, true, true, true, true, true, true] rfl rfl (any_of HT_.out (by kernel_rfl)) (fun _ _ _ h => h) (Or.inl ⟨by rfl, ?_⟩) ?_ ?_
  rotate_left
  ·intro w'
   go_simp
   with_reducible rfl
  rotate_left
  ·simp only [Act.put, List.setIfInBounds_toArray, List.set_cons_zero, List.set_cons_succ, i64_w, i32_w]
   rfl
  refine done_ (done_of HT_.out (by kernel_rfl)) ?_
  try go_wp2
  go_ret2
  exact ⟨by first | rfl | (simp [errW_none, errW_some] <;> rfl) | (simp [*, errW_none, errW_some] <;> rfl), kb1 HB.out GE157.out⟩

-- its contract: by hand
/-! ### choose_queue_Less: function 123 -/
def choose_queue_Less.f (l0 : List (S68)) (a1 : Int) (a2 : Int) : Option (Bool) := if 0 ≤ a1 then (if a1 < (l0.length : Int) then (if 0 ≤ a2 then (if a2 < (l0.length : Int) then (if ((rd_T68 l0 a1).f1.f0) = ((rd_T68 l0 a2).f1.f0) then (some (decide (((rd_T68 l0 a1).f0) > ((rd_T68 l0 a2).f0)))) else (some (decide (((rd_T68 l0 a1).f1.f0) > ((rd_T68 l0 a2).f1.f0))))) else (none)) else (none)) else (none)) else (none)

end Go.Proofs.YthkpaoajfiapkaaGreat.P
end
section
set_option linter.unusedVariables false
set_option linter.unusedSimpArgs false
set_option maxHeartbeats 4000000
namespace Go.Proofs.YthkpaoajfiapkaaGreat
open Go.RowKit

set_option maxRecDepth 100000 in
theorem que_less (n : Nat) (g : Nat) (v : Value) (w : World) (h : w.cell? ⟨g, 0, none⟩ = some v) : Sem.run Tryz.prog (method (n + 1) 101 (.pointer (some ⟨g, 0, none⟩)) "Less") w = .ok (123, v) w := by
  obtain ⟨T, s, e1, e2⟩ : ∃ (T : TypeInfo) (s : TypeId), Sem.run Tryz.prog (typeInfo 101) w = .ok T w ∧ T.methods.find? (·.name == "Less") = some ⟨"Less", s, #[], some (123, false)⟩ := ⟨_, _, rfl, rfl⟩
  rw [method]
  have ssa : ∀ x y : String, Builtin.ssaWrapNilChk_ #[101] 101 #[.pointer (some ⟨g, 0, none⟩), strVal x, strVal y] = pure (.pointer (some ⟨g, 0, none⟩)) := fun _ _ => rfl
  simp [go_sem, e1, e2, follow, receiverAt, Place.get, ssa, h]
set_option maxRecDepth 100000 in
theorem que_swap (n : Nat) (g : Nat) (v : Value) (w : World) (h : w.cell? ⟨g, 0, none⟩ = some v) : Sem.run Tryz.prog (method (n + 1) 101 (.pointer (some ⟨g, 0, none⟩)) "Swap") w = .ok (124, v) w := by
  obtain ⟨T, s, e1, e2⟩ : ∃ (T : TypeInfo) (s : TypeId), Sem.run Tryz.prog (typeInfo 101) w = .ok T w ∧ T.methods.find? (·.name == "Swap") = some ⟨"Swap", s, #[], some (124, false)⟩ := ⟨_, _, rfl, rfl⟩
  rw [method]
  have ssa : ∀ x y : String, Builtin.ssaWrapNilChk_ #[101] 101 #[.pointer (some ⟨g, 0, none⟩), strVal x, strVal y] = pure (.pointer (some ⟨g, 0, none⟩)) := fun _ _ => rfl
  simp [go_sem, e1, e2, follow, receiverAt, Place.get, ssa, h]
set_option maxRecDepth 100000 in
theorem que_len (n : Nat) (g : Nat) (v : Value) (w : World) (h : w.cell? ⟨g, 0, none⟩ = some v) : Sem.run Tryz.prog (method (n + 1) 101 (.pointer (some ⟨g, 0, none⟩)) "Len") w = .ok (76, v) w := by
  obtain ⟨T, s, e1, e2⟩ : ∃ (T : TypeInfo) (s : TypeId), Sem.run Tryz.prog (typeInfo 101) w = .ok T w ∧ T.methods.find? (·.name == "Len") = some ⟨"Len", s, #[], some (76, false)⟩ := ⟨_, _, rfl, rfl⟩
  rw [method]
  have ssa : ∀ x y : String, Builtin.ssaWrapNilChk_ #[101] 101 #[.pointer (some ⟨g, 0, none⟩), strVal x, strVal y] = pure (.pointer (some ⟨g, 0, none⟩)) := fun _ _ => rfl
  simp [go_sem, e1, e2, follow, receiverAt, Place.get, ssa, h]
set_option maxRecDepth 100000 in
theorem que_pop (n : Nat) (g : Nat) (w : World) : Sem.run Tryz.prog (method (n + 1) 101 (.pointer (some ⟨g, 0, none⟩)) "Pop") w = .ok (125, .pointer (some ⟨g, 0, none⟩)) w := by
  obtain ⟨T, s, e1, e2⟩ : ∃ (T : TypeInfo) (s : TypeId), Sem.run Tryz.prog (typeInfo 101) w = .ok T w ∧ T.methods.find? (·.name == "Pop") = some ⟨"Pop", s, #[], some (125, true)⟩ := ⟨_, _, rfl, rfl⟩
  rw [method]
  simp [go_sem, e1, e2, follow, receiverAt, Place.get]

end Go.Proofs.YthkpaoajfiapkaaGreat
end
section
set_option linter.unusedVariables false
set_option linter.unusedSimpArgs false
set_option maxHeartbeats 4000000
namespace Go.Proofs.YthkpaoajfiapkaaGreat.Hp
variable {α : Type} (z : α) (K : α → Int)

def swp (l : List α) (i j : Nat) : List α := (l.set i (l.getD j z)).set j (l.getD i z)
theorem swp_length (l : List α) (i j : Nat) : (swp z l i j).length = l.length := by unfold swp; rw [List.length_set, List.length_set]
theorem swp_at (l : List α) (i j k : Nat) (hi : i < l.length) (hj : j < l.length) : (swp z l i j).getD k z = if k = j then l.getD i z else if k = i then l.getD j z else l.getD k z := by
  unfold swp
  rw [List.getD_eq_getElem?_getD, List.getElem?_set]
  by_cases h : j = k
  · subst h; rw [if_pos rfl, if_pos rfl, if_pos (by rw [List.length_set]; exact hj)]; rfl
  · rw [if_neg h, if_neg (fun e => h e.symm), List.getElem?_set]
    by_cases h2 : i = k
    · subst h2; rw [if_pos rfl, if_pos rfl, if_pos hi]; rfl
    · rw [if_neg h2, if_neg (fun e => h2 e.symm), List.getD_eq_getElem?_getD]
theorem swp_perm (l : List α) (i j : Nat) (hi : i < l.length) (hj : j < l.length) : (swp z l i j).Perm l := by
  have h := Array.swap_perm (xs := l.toArray) (i := i) (j := j) (by simpa using hi) (by simpa using hj)
  rw [Array.perm_iff_toList_perm, Array.toList_swap] at h
  simp only [List.getElem_toArray] at h
  unfold swp
  rw [List.getD_eq_getElem?_getD, List.getD_eq_getElem?_getD, List.getElem?_eq_getElem hi, List.getElem?_eq_getElem hj]
  exact h

/-- The greater child. -/
def child (n i : Nat) (l : List α) : Nat := if 2 * i + 2 < n ∧ K (l.getD (2 * i + 2) z) > K (l.getD (2 * i + 1) z) then 2 * i + 2 else 2 * i + 1
def down (n : Nat) : Nat → Nat → List α → List α
  | 0, _, l => l
  | f + 1, i, l => if n ≤ 2 * i + 1 then l else if K (l.getD (child z K n i l) z) > K (l.getD i z) then down n f (child z K n i l) (swp z l i (child z K n i l)) else l
theorem child_le (n i : Nat) (l : List α) (h : ¬ n ≤ 2 * i + 1) : child z K n i l < n ∧ (child z K n i l = 2 * i + 1 ∨ child z K n i l = 2 * i + 2) := by
  unfold child
  split <;> omega
theorem child_max (n i : Nat) (l : List α) (c : Nat) (hc : c = 2 * i + 1 ∨ c = 2 * i + 2) (hn : c < n) : K (l.getD c z) ≤ K (l.getD (child z K n i l) z) := by
  unfold child
  split
  · rename_i h
    rcases hc with rfl | rfl <;> omega
  · rename_i h
    rcases hc with rfl | rfl
    · omega
    · by_cases h2 : K (l.getD (2 * i + 2) z) > K (l.getD (2 * i + 1) z)
      · exact absurd ⟨hn, h2⟩ h
      · omega
theorem down_length (n : Nat) : ∀ f i (l : List α), (down z K n f i l).length = l.length
  | 0, _, _ => rfl
  | f + 1, i, l => by
    rw [down]
    split
    · rfl
    split
    · rw [down_length n f, swp_length]
    · rfl
theorem down_perm (n : Nat) : ∀ f i (l : List α), n ≤ l.length → i < n → (down z K n f i l).Perm l
  | 0, _, l, _, _ => List.Perm.refl l
  | f + 1, i, l, h, hi => by
    rw [down]
    split
    · exact List.Perm.refl l
    rename_i h1
    have hc := child_le z K n i l h1
    split
    · exact (down_perm n f _ _ (by rw [swp_length]; exact h) hc.1).trans (swp_perm z l i _ (by omega) (by omega))
    · exact List.Perm.refl l
theorem down_out (n : Nat) : ∀ f i (l : List α) k, n ≤ l.length → i < n → n ≤ k → (down z K n f i l).getD k z = l.getD k z
  | 0, _, _, _, _, _, _ => rfl
  | f + 1, i, l, k, h, hi, hk => by
    rw [down]
    split
    · rfl
    rename_i h1
    have hc := child_le z K n i l h1
    split
    · rw [down_out n f _ _ k (by rw [swp_length]; exact h) hc.1 hk, swp_at z l i _ k (by omega) (by omega), if_neg (by omega), if_neg (by omega)]
    · rfl
/-- No child is greater. -/
def At (l : List α) (n k : Nat) : Prop := ∀ c, (c = 2 * k + 1 ∨ c = 2 * k + 2) → c < n → K (l.getD c z) ≤ K (l.getD k z)
theorem down_heap (n lo : Nat) : ∀ f i (l : List α), n ≤ l.length → i < n → lo ≤ i → n ≤ i + f → (∀ k, lo ≤ k → k ≠ i → At z K l n k) →
    (∀ p, lo ≤ p → (i = 2 * p + 1 ∨ i = 2 * p + 2) → ∀ c, (c = 2 * i + 1 ∨ c = 2 * i + 2) → c < n → K (l.getD c z) ≤ K (l.getD p z)) → ∀ k, lo ≤ k → At z K (down z K n f i l) n k
  | 0, i, l, _, hi, _, hf, _, _, _, _ => by omega
  | f + 1, i, l, h, hi, hlo, hf, h1, h2, k, hk => by
    rw [down]
    by_cases hc : n ≤ 2 * i + 1
    · rw [if_pos hc]
      by_cases hki : k = i
      · subst hki; intro c hcc hcn; omega
      · exact h1 k hk hki
    rw [if_neg hc]
    have hch := child_le z K n i l hc
    have hmx := child_max z K n i l
    generalize child z K n i l = j at hch hmx
    by_cases hg : K (l.getD j z) > K (l.getD i z)
    · rw [if_pos hg]
      have hs := fun k => swp_at z l i j k (by omega) (by omega)
      refine down_heap n lo f j (swp z l i j) (by rw [swp_length]; exact h) hch.1 (by omega) (by omega) ?_ ?_ k hk
      · intro k hk hkj c hcc hcn
        rw [hs c, hs k, if_neg hkj]
        by_cases hki : k = i
        · rw [if_pos hki]
          subst hki
          by_cases hcj : c = j
          · rw [if_pos hcj]; omega
          · rw [if_neg hcj, if_neg (by omega)]
            exact hmx c hcc hcn
        · rw [if_neg hki, if_neg (by omega)]
          by_cases hci : c = i
          · rw [if_pos hci]
            subst hci
            exact h2 k hk hcc j hch.2 hch.1
          · rw [if_neg hci]
            exact h1 k hk hki c hcc hcn
      · intro p hp hpj c hcc hcn
        have : p = i := by omega
        subst this
        rw [hs c, hs p, if_neg (by omega), if_neg (by omega), if_neg (by omega), if_pos rfl]
        exact h1 j (by omega) (by omega) c hcc hcn
    · rw [if_neg hg]
      by_cases hki : k = i
      · subst hki
        intro c hcc hcn
        have := hmx c hcc hcn
        omega
      · exact h1 k hk hki
theorem down_stop (n f i : Nat) (l : List α) (h : n ≤ 2 * i + 1) : down z K n f i l = l := by
  cases f with
  | zero => rfl
  | succ f => rw [down, if_pos h]
theorem down_go (n f i : Nat) (l : List α) (j : Nat) (h : ¬ n ≤ 2 * i + 1) (hj : child z K n i l = j) (hg : K (l.getD j z) > K (l.getD i z)) : down z K n (f + 1) i l = down z K n f j (swp z l i j) := by
  rw [down, if_neg h, hj, if_pos hg]
theorem down_halt (n f i : Nat) (l : List α) (j : Nat) (h : ¬ n ≤ 2 * i + 1) (hj : child z K n i l = j) (hg : ¬ K (l.getD j z) > K (l.getD i z)) : down z K n (f + 1) i l = l := by
  rw [down, if_neg h, hj, if_neg hg]
theorem child_right (n i : Nat) (l : List α) (h : 2 * i + 2 < n) (hg : decide (K (l.getD (2 * i + 2) z) > K (l.getD (2 * i + 1) z)) = true) : child z K n i l = 2 * i + 2 := if_pos ⟨h, of_decide_eq_true hg⟩
theorem child_left (n i : Nat) (l : List α) (hg : 2 * i + 2 < n → decide (K (l.getD (2 * i + 2) z) > K (l.getD (2 * i + 1) z)) = false) : child z K n i l = 2 * i + 1 := if_neg fun h => of_decide_eq_false (hg h.1) h.2
/-- heap.Init: the places below i are still to do. -/
def init (n : Nat) : Nat → List α → List α
  | 0, l => l
  | i + 1, l => init n i (down z K n n i l)
theorem init_length (n : Nat) : ∀ i (l : List α), (init z K n i l).length = l.length
  | 0, _ => rfl
  | i + 1, l => by rw [init, init_length n i, down_length]
theorem init_perm (n : Nat) : ∀ i (l : List α), n ≤ l.length → i ≤ n → (init z K n i l).Perm l
  | 0, l, _, _ => List.Perm.refl l
  | i + 1, l, h, hi => by rw [init]; exact (init_perm n i _ (by rw [down_length]; exact h) (by omega)).trans (down_perm z K n n i l h (by omega))
theorem init_heap (n : Nat) : ∀ i (l : List α), n ≤ l.length → i ≤ n → (∀ k, i ≤ k → At z K l n k) → ∀ k, At z K (init z K n i l) n k
  | 0, _, _, _, h, k => h k (Nat.zero_le _)
  | i + 1, l, h, hi, h1, k => by
    rw [init]
    exact init_heap n i _ (by rw [down_length]; exact h) (by omega) (fun k hk => down_heap z K n i n i l h (by omega) (Nat.le_refl _) (by omega) (fun k hk hki => h1 k (by omega)) (fun p hp hpi => by omega) k hk) k
theorem root_max (l : List α) (n : Nat) (h : ∀ k, At z K l n k) (c : Nat) : c < n → K (l.getD c z) ≤ K (l.getD 0 z) := by
  induction c using Nat.strongRecOn with
  | ind c ih =>
    intro hc
    by_cases h0 : c = 0
    · rw [h0]; omega
    have h1 := h ((c - 1) / 2) c (by omega) hc
    have h2 := ih ((c - 1) / 2) (by omega) (by omega)
    omega
/-- heap.Pop: what is left, behind it what is handed back. -/
def popped (l : List α) : List α := down z K (l.length - 1) (l.length - 1) 0 (swp z l 0 (l.length - 1))
def rest (l : List α) : List α := (popped z K l).take (l.length - 1)
theorem popped_length (l : List α) : (popped z K l).length = l.length := by unfold popped; rw [down_length, swp_length]
theorem rest_length (l : List α) : (rest z K l).length = l.length - 1 := by unfold rest; rw [List.length_take, popped_length]; omega
theorem pop_facts (l : List α) (hl : l ≠ []) (h : ∀ k, At z K l l.length k) : (popped z K l).getD (l.length - 1) z = l.getD 0 z ∧ l.Perm (l.getD 0 z :: rest z K l) ∧ ∀ k, At z K (rest z K l) (rest z K l).length k := by
  have h0 : 0 < l.length := List.length_pos_iff.2 hl
  by_cases h1 : l.length = 1
  · obtain ⟨x, rfl⟩ := List.length_eq_one_iff.1 h1
    refine ⟨rfl, List.Perm.refl _, fun k c hc hn => ?_⟩
    rw [rest_length] at hn
    simp at hn
  have hs := fun k => swp_at z l 0 (l.length - 1) k (by omega) (by omega)
  have e1 : (popped z K l).getD (l.length - 1) z = l.getD 0 z := by
    unfold popped
    rw [down_out z K _ _ _ _ _ (by rw [swp_length]; omega) (by omega) (Nat.le_refl _), hs, if_pos rfl]
  have e2 : ∀ k, At z K (popped z K l) (l.length - 1) k := fun k => by
    unfold popped
    refine down_heap z K (l.length - 1) 0 (l.length - 1) 0 _ (by rw [swp_length]; omega) (by omega) (Nat.le_refl _) (by omega) (fun k _ hk c hc hn => ?_) (fun p _ hp => by omega) k (Nat.zero_le _)
    rw [hs, hs, if_neg (by omega), if_neg (by omega), if_neg (by omega), if_neg (by omega)]
    exact h k c hc (by omega)
  refine ⟨e1, ?_, fun k c hc hn => ?_⟩
  · have p1 : (popped z K l).Perm l := by
      unfold popped
      exact (down_perm z K _ _ _ _ (by rw [swp_length]; omega) (by omega)).trans (swp_perm z l 0 _ h0 (by omega))
    have e3 : popped z K l = rest z K l ++ [l.getD 0 z] := by
      have hp := popped_length z K l
      have hlt : l.length - 1 < (popped z K l).length := by omega
      rw [← e1]
      unfold rest
      rw [List.getD_eq_getElem?_getD, List.getElem?_eq_getElem hlt, Option.getD_some, List.take_append_getElem, List.take_of_length_le (by omega)]
    rw [e3] at p1
    exact p1.symm.trans (List.perm_append_singleton _ _)
  · rw [rest_length] at hn
    have e4 : ∀ c, c < l.length - 1 → (rest z K l).getD c z = (popped z K l).getD c z := fun c hc => by
      unfold rest
      rw [List.getD_eq_getElem?_getD, List.getElem?_take, if_pos hc, List.getD_eq_getElem?_getD]
    rw [e4 c hn, e4 k (by omega)]
    exact e2 k c hc hn
theorem popped_last (l : List α) (hl : l ≠ []) : (popped z K l).getD (l.length - 1) z = l.getD 0 z := by
  have h0 : 0 < l.length := List.length_pos_iff.2 hl
  have hs := fun k => swp_at z l 0 (l.length - 1) k (by omega) (by omega)
  unfold popped
  by_cases h1 : l.length = 1
  · rw [h1]
    show (swp z l 0 0).getD 0 z = l.getD 0 z
    have h2 := hs 0
    rw [h1] at h2
    rw [h2, if_pos rfl]
  · rw [down_out z K _ _ _ _ _ (by rw [swp_length]; omega) (by omega) (Nat.le_refl _), hs, if_pos rfl]
theorem rest_sub (l : List α) (hl : l ≠ []) : ∀ x, x ∈ rest z K l → x ∈ l := by
  have h0 : 0 < l.length := List.length_pos_iff.2 hl
  intro x hx
  have h1 : x ∈ popped z K l := List.mem_of_mem_take hx
  have hp : (popped z K l).Perm l := by
    unfold popped
    by_cases h2 : l.length = 1
    · rw [h2]; exact swp_perm z l 0 0 h0 h0
    · exact (down_perm z K _ _ _ _ (by rw [swp_length]; omega) (by omega)).trans (swp_perm z l 0 _ h0 (by omega))
  exact hp.mem_iff.1 h1
/-- The first one that is good. -/
def pick (good : α → Bool) : Nat → List α → Option α
  | 0, _ => none
  | f + 1, l => if l.length = 0 then none else if good (l.getD 0 z) then some (l.getD 0 z) else pick good f (rest z K l)
/-- The greatest good one. -/
def Best (good : α → Bool) (l : List α) : Option α → Prop
  | none => ∀ x ∈ l, good x = false
  | some p => p ∈ l ∧ good p = true ∧ ∀ x ∈ l, good x = true → K x ≤ K p
theorem pick_best (good : α → Bool) : ∀ f (l : List α), l.length ≤ f → (∀ k, At z K l l.length k) → Best K good l (pick z K good f l)
  | 0, l, hf, _ => by
    have : l = [] := List.length_eq_zero_iff.1 (by omega)
    subst this
    intro x hx; cases hx
  | f + 1, l, hf, h => by
    rw [pick]
    by_cases h0 : l.length = 0
    · rw [if_pos h0]
      have : l = [] := List.length_eq_zero_iff.1 h0
      subst this
      intro x hx; cases hx
    rw [if_neg h0]
    have hl : l ≠ [] := fun e => h0 (by rw [e]; rfl)
    obtain ⟨_, hp, hr⟩ := pop_facts z K l hl h
    have hm : l.getD 0 z ∈ l := hp.mem_iff.2 (List.mem_cons_self ..)
    by_cases hg : good (l.getD 0 z) = true
    · rw [if_pos hg]
      refine ⟨hm, hg, fun x hx _ => ?_⟩
      obtain ⟨c, hc, rfl⟩ := List.getElem_of_mem hx
      have := root_max z K l l.length h c hc
      rw [List.getD_eq_getElem?_getD, List.getElem?_eq_getElem hc] at this
      exact this
    · rw [if_neg hg]
      have ih := pick_best good f (rest z K l) (by rw [rest_length]; omega) hr
      generalize pick z K good f (rest z K l) = o at ih
      have back : ∀ x, x ∈ l → good x = true → x ∈ rest z K l := fun x hx hgx => by
        rcases List.mem_cons.1 (hp.mem_iff.1 hx) with rfl | h
        · exact absurd hgx hg
        · exact h
      cases o with
      | none =>
        intro x hx
        cases hgx : good x
        · rfl
        · have := ih x (back x hx hgx); rw [hgx] at this; exact this
      | some p => exact ⟨hp.mem_iff.2 (List.mem_cons_of_mem _ ih.1), ih.2.1, fun x hx hgx => ih.2.2 x (back x hx hgx) hgx⟩

end Go.Proofs.YthkpaoajfiapkaaGreat.Hp
end
section
set_option linter.unusedVariables false
set_option linter.unusedSimpArgs false
set_option maxHeartbeats 4000000
namespace Go.Proofs.YthkpaoajfiapkaaGreat
open Go.RowKit Skiff Go.Proofs.YthkpaoajfiapkaaGreatW.PrintWords

abbrev Plc := P.S68
def slotAt (f : ByteArray) (i : Nat) : Option Rec := Skiff.get (bl (f.extract (24 * i) (24 * i + 24)))
def mkPl (i : Nat) (r : Rec) : Plc := ⟨24 * (i : Int), ⟨r.seq, r.slot, r.size, r.sum⟩⟩
def pls (f : ByteArray) (i : Nat) : List Plc := ((slotAt f i).map (mkPl i)).toList
def scanTo (f : ByteArray) : Nat → List Plc
  | 0 => []
  | n + 1 => scanTo f n ++ pls f n
theorem scanTo_len (f : ByteArray) : ∀ n, (scanTo f n).length ≤ n
  | 0 => Nat.le_refl _
  | n + 1 => by
    have := scanTo_len f n
    rw [scanTo, List.length_append]
    have : (pls f n).length ≤ 1 := by unfold pls; cases slotAt f n <;> simp
    omega
theorem scanTo_mem {f : ByteArray} {p : Plc} : ∀ {n}, p ∈ scanTo f n → ∃ i r, i < n ∧ slotAt f i = some r ∧ p = mkPl i r
  | 0, h => by simp [scanTo] at h
  | n + 1, h => by
    rw [scanTo, List.mem_append] at h
    rcases h with h | h
    · obtain ⟨i, r, h1, h2⟩ := scanTo_mem h
      exact ⟨i, r, by omega, h2⟩
    · unfold pls at h
      cases hs : slotAt f n with
      | none => rw [hs] at h; simp at h
      | some r => rw [hs] at h; simp at h; exact ⟨n, r, by omega, hs, h⟩
theorem scanTo_asc (f : ByteArray) : ∀ n, (scanTo f n).Pairwise (fun p q => p.f0 < q.f0)
  | 0 => List.Pairwise.nil
  | n + 1 => by
    rw [scanTo, List.pairwise_append]
    refine ⟨scanTo_asc f n, ?_, fun p hp q hq => ?_⟩
    · unfold pls; cases slotAt f n <;> simp
    · obtain ⟨i, r, hi, _, rfl⟩ := scanTo_mem hp
      unfold pls at hq
      cases hs : slotAt f n with
      | none => rw [hs] at hq; simp at hq
      | some r2 =>
        rw [hs] at hq
        simp at hq
        subst hq
        show 24 * (i : Int) < 24 * (n : Int)
        omega
theorem scanTo_at {f : ByteArray} {p : Plc} {n : Nat} (h : p ∈ scanTo f n) : 0 ≤ p.f0 ∧ p.f0 < 24 * (n : Int) := by
  obtain ⟨i, r, hi, _, rfl⟩ := scanTo_mem h
  show 0 ≤ 24 * (i : Int) ∧ 24 * (i : Int) < 24 * (n : Int)
  omega
theorem slotAt_may {f : ByteArray} {i : Nat} {r : Rec} (h : slotAt f i = some r) : recMay r = true := (get_some h).1

theorem getTup_some {l : List UInt8} {r : Rec} (h : Skiff.get l = some r) : getTup l = (r.seq, r.slot, r.size, r.sum, 0) := by unfold getTup; rw [h]
theorem getTup_none {l : List UInt8} (h : Skiff.get l = none) : getTup l = (0, 0, 0, 0, 400) := by unfold getTup; rw [h]

theorem nmay_f (f : ByteArray) : P.nor_May.f f = some (decide (f.size = 768)) := by
  unfold P.nor_May.f
  congr 1
  rw [Bool.eq_iff_iff]; simp; omega
theorem at_f (f : ByteArray) (hf : f.size = 768) (i : Nat) (hi : i < 8) : P.journal_at.f f (24 * (i : Int)) = some (f.extract (24 * i) (24 * i + 24)) := by
  unfold P.journal_at.f
  have e : wrap64 (24 * (i : Int) + 24) = 24 * (i : Int) + 24 := by simp only [wrap64]; omega
  rw [e, if_pos (by omega), if_pos (by omega), if_pos (by omega)]
  rw [show (24 * (i : Int)).toNat = 24 * i by omega, show (24 * (i : Int) + 24).toNat = 24 * i + 24 by omega]
theorem scan_l0 (f : ByteArray) (hf : f.size = 768) (d : Nat) : ∀ (k i : Nat), i + d = 8 → d < k → P.journal_Scan.l0 k f (scanTo f i) (i : Int) = some (scanTo f 8, 0) := by
  induction d with
  | zero =>
    intro k i h1 h2
    obtain ⟨k, rfl⟩ : ∃ m, k = m + 1 := ⟨k - 1, by omega⟩
    obtain rfl : i = 8 := by omega
    simp only [P.journal_Scan.l0]
    rw [if_neg (by omega)]
  | succ d ih =>
    intro k i h1 h2
    obtain ⟨k, rfl⟩ : ∃ m, k = m + 1 := ⟨k - 1, by omega⟩
    have hr := ih k (i + 1) (by omega) (by omega)
    have hl := scanTo_len f i
    have e1 : wrap64 ((i : Int) * 24) = 24 * (i : Int) := by simp only [wrap64]; omega
    have e2 : wrap64 ((i : Int) + 1) = ((i + 1 : Nat) : Int) := by simp only [wrap64]; omega
    simp only [P.journal_Scan.l0, P.entry_Get.f]
    rw [if_pos (by omega), e1, at_f f hf i (by omega), e2]
    simp only [Option.bind_some]
    cases hs : slotAt f i with
    | none =>
      rw [getTup_none hs]
      simp only
      rw [if_neg (by omega)]
      rw [scanTo, pls, hs] at hr
      simpa using hr
    | some r =>
      rw [getTup_some hs]
      simp only [if_true]
      rw [if_pos (by omega)]
      rw [scanTo, pls, hs] at hr
      exact hr
theorem scan_f (f : ByteArray) (k : Nat) (hk : 8 < k) : P.journal_Scan.f k f = some (if f.size = 768 then (scanTo f 8, 0) else ([], 500)) := by
  unfold P.journal_Scan.f
  rw [nmay_f]
  simp only [Option.bind_some]
  by_cases h : f.size = 768
  · rw [decide_eq_true h, if_pos h, if_pos rfl]
    exact scan_l0 f h 8 k 0 (by omega) hk
  · rw [decide_eq_false h, if_neg h]; rfl

end Go.Proofs.YthkpaoajfiapkaaGreat
end
section
namespace Go.Proofs.YthkpaoajfiapkaaGreat.P
open Go.RowKit Go.Proofs.YthkpaoajfiapkaaGreatW.PrintWords Go.Proofs.YthkpaoajfiapkaaGreatW.PrintLast Go.Proofs.YthkpaoajfiapkaaGreatW.PrintMore
attribute [local go_sem] max2_int min2_int max_two min_two max_three min_three max_four min_four   -- for this text's walks alone
set_option linter.unusedVariables false
set_option linter.unusedSimpArgs false

/-! ### choose_queue_Swap: function 124 -/
def choose_queue_Swap.f (l0 : List (S68)) (a1 : Int) (a2 : Int) : Option ((List (S68))) := if 0 ≤ a2 then (if a2 < (l0.length : Int) then (if 0 ≤ a1 then (if a1 < (l0.length : Int) then (some ((l0.set (a1 : Int).toNat (⟨(rd_T68 l0 a2).f0, (⟨(rd_T68 l0 a2).f1.f0, (rd_T68 l0 a2).f1.f1, (rd_T68 l0 a2).f1.f2, (rd_T68 l0 a2).f1.f3⟩ : S66)⟩ : S68)).set (a2 : Int).toNat (⟨(rd_T68 l0 a1).f0, (⟨(rd_T68 l0 a1).f1.f0, (rd_T68 l0 a1).f1.f1, (rd_T68 l0 a1).f1.f2, (rd_T68 l0 a1).f1.f3⟩ : S66)⟩ : S68))) else (none)) else (none)) else (none)) else (none)
def choose_queue_Swap.T0 : Bool × List (List Nat × List Nat) := (true, [([], []), ([], []), ([], []), ([], []), ([], []), ([], []), ([4, 5], [4, 5]), ([6], [6]), ([], []), ([], []), ([8, 9], [8, 9]), ([10], [10]), ([0, 1, 0, 1, 4, 5, 6, 7, 11], [0, 1]), ([12, 7, 0, 1, 4, 5, 6, 7, 11], [7, 12]), ([2, 3, 0, 1, 2, 3, 4, 5, 6, 7, 8, 9, 10, 11, 12, 13], [2, 3]), ([14, 11, 13, 0, 1, 2, 3, 4, 5, 6, 7, 8, 9, 10, 11, 12, 13], [11, 14])])
def choose_queue_Swap.B0 : List Nat := [0, 0, 0, 0, 0, 0, 48, 112, 0, 0, 768, 1792, 4083, 8179, 16383, 32767]
theorem choose_queue_Swap.tab0 : rtab .any (opsOf Tryz.f124 0) = choose_queue_Swap.T0 := by kernel_rfl
theorem choose_queue_Swap.bits0 : waitsOk choose_queue_Swap.T0.2 choose_queue_Swap.B0 = true := by kernel_rfl
set_option maxHeartbeats 8000000 in
set_option maxRecDepth 100000 in
theorem choose_queue_Swap.calls (P0_ : Nat → Prop) (u9000_ : Value) (l0 : List (S68)) (a1 : Int) (a2 : Int) (r : List (S68)) (w0 w : World) (hB : Below w0.heap.size w0 w) (ho0 : Kd.R k68 68 w w0.heap.size P0_ u9000_ l0) (h : choose_queue_Swap.f l0 a1 a2 = some r) :
  Calls Tryz.prog 124 #[u9000_, .int .i64 a1, .int .i64 a2] w fun e w' => e = .returned (.tuple #[]) ∧ Kd.R k68 68 w' w0.heap.size (fun k_ => (P0_ k_ ∨ w.heap.size ≤ k_)) u9000_ r ∧ Below w0.heap.size w0 w' ∧ Kept w w' (fun k_ => P0_ k_) := by
 have hu68 := Tryz.underlying68
 have HO0 := Aside0.mk (show Kd.R k68 68 w w0.heap.size (fun k_ => (P0_ k_ ∨ w.heap.size ≤ k_)) u9000_ l0 from Kd.R_mono ho0 (fun k_ hk => (.inl hk)))
 have HK := Aside0.mk (Kept.refl w (fun k_ => P0_ k_))
 have HW0 := Aside0.mk hB.size
 have HB := Aside0.mk hB
 clear hB
 have H : (if 0 ≤ a2 then (if a2 < (l0.length : Int) then (if 0 ≤ a1 then (if a1 < (l0.length : Int) then (some ((l0.set (a1 : Int).toNat (⟨(rd_T68 l0 a2).f0, (⟨(rd_T68 l0 a2).f1.f0, (rd_T68 l0 a2).f1.f1, (rd_T68 l0 a2).f1.f2, (rd_T68 l0 a2).f1.f3⟩ : S66)⟩ : S68)).set (a2 : Int).toNat (⟨(rd_T68 l0 a1).f0, (⟨(rd_T68 l0 a1).f1.f0, (rd_T68 l0 a1).f1.f1, (rd_T68 l0 a1).f1.f2, (rd_T68 l0 a1).f1.f3⟩ : S66)⟩ : S68))) else (none)) else (none)) else (none)) else (none)) = some r := h
 clear h
 by_cases c4 : 0 ≤ a2
 case neg =>
  rw [if_neg c4] at H
  exact absurd H (by simp)
 rw [if_pos c4] at H
 have c4b0 : decide (0 ≤ a2) = true := decide_eq_true c4
 clear c4
 by_cases c5 : a2 < (l0.length : Int)
 case neg =>
  rw [if_neg c5] at H
  exact absurd H (by simp)
 rw [if_pos c5] at H
 have c5b0 : decide (a2 < (l0.length : Int)) = true := decide_eq_true c5
 clear c5
 by_cases c6 : 0 ≤ a1
 case neg =>
  rw [if_neg c6] at H
  exact absurd H (by simp)
 rw [if_pos c6] at H
 have c6b0 : decide (0 ≤ a1) = true := decide_eq_true c6
 clear c6
 by_cases c7 : a1 < (l0.length : Int)
 case neg =>
  rw [if_neg c7] at H
  exact absurd H (by simp)
 rw [if_pos c7] at H
 have c7b0 : decide (a1 < (l0.length : Int)) = true := decide_eq_true c7
 clear c7
 obtain ⟨y163, hy163⟩ : ∃ y_ : List (S68), y_ = (l0.set (a1 : Int).toNat (⟨(rd_T68 l0 a2).f0, (⟨(rd_T68 l0 a2).f1.f0, (rd_T68 l0 a2).f1.f1, (rd_T68 l0 a2).f1.f2, (rd_T68 l0 a2).f1.f3⟩ : S66)⟩ : S68)) := ⟨_, rfl⟩
 replace H : (some (y163.set (a2 : Int).toNat (⟨(rd_T68 l0 a1).f0, (⟨(rd_T68 l0 a1).f1.f0, (rd_T68 l0 a1).f1.f1, (rd_T68 l0 a1).f1.f2, (rd_T68 l0 a1).f1.f3⟩ : S66)⟩ : S68))) = some r := by first | (rw [hy163]; with_reducible exact H) | (have H2_ := (Option.bind_some _ _).symm.trans H; rw [hy163]; with_reducible exact H2_) | (have H2_ := (Option.bind_some _ _).symm.trans H; with_reducible exact H2_) | with_reducible exact H | (rw [hy163]; exact H) | exact H
 have Ny163 := Aside0.mk hy163
 clear hy163
 obtain ⟨y164, hy164⟩ : ∃ y_ : List (S68), y_ = (y163.set (a2 : Int).toNat (⟨(rd_T68 l0 a1).f0, (⟨(rd_T68 l0 a1).f1.f0, (rd_T68 l0 a1).f1.f1, (rd_T68 l0 a1).f1.f2, (rd_T68 l0 a1).f1.f3⟩ : S66)⟩ : S68)) := ⟨_, rfl⟩
 replace H : (some y164) = some r := by first | (rw [hy164]; with_reducible exact H) | (have H2_ := (Option.bind_some _ _).symm.trans H; rw [hy164]; with_reducible exact H2_) | (have H2_ := (Option.bind_some _ _).symm.trans H; with_reducible exact H2_) | with_reducible exact H | (rw [hy164]; exact H) | exact H
 have Ny164 := Aside0.mk hy164
 clear hy164
 obtain rfl := Option.some.inj H
 go_enter Tryz.func124, Tryz.ntmps124
 try go_wp2
 have n0_ := Aside0.mk (Kd.R_drew HO0.out)
 have n1_ := Aside0.mk (Kept.drew HK.out)
 have n2_ := Aside0.mk (below_drew1 HB.out)
 clear HO0 HK HB; have HO0 := n0_; have HK := n1_; have HB := n2_; clear n0_ n1_ n2_
 obtain ⟨Ao11, co11, eo11⟩ := Kd.R_slice HO0.out
 (first | subst eo11 | (injection eo11 with f1_ f2_ f3_; have f4_ := f1_.symm; have f5_ := f3_.symm; clear f1_ f2_ f3_; subst f4_; subst f5_))
 have p161 : 0 ≤ (a2 : Int) := of_decide_eq_true (by first | (with_reducible assumption) | assumption)
 have q161 : a2 < (l0.length : Int) := of_decide_eq_true (by first | (with_reducible assumption) | assumption)
 obtain ⟨ad161, e161, hx161_0, hx161_1, hx161_2, hx161_3, hx161_4⟩ := at_T68 (Kd.R_reads' HO0.out).2.2 a2 p161 q161
 cases e161
 replace p161 := eq_true p161
 replace q161 := eq_true q161
 have p162 : 0 ≤ (a1 : Int) := of_decide_eq_true (by first | (with_reducible assumption) | assumption)
 have q162 : a1 < (l0.length : Int) := of_decide_eq_true (by first | (with_reducible assumption) | assumption)
 obtain ⟨ad162, e162, hx162_0, hx162_1, hx162_2, hx162_3, hx162_4⟩ := at_T68 (Kd.R_reads' HO0.out).2.2 a1 p162 q162
 obtain rfl : ad161 = ad162 := (by injection e162)
 replace p162 := eq_true p162
 replace q162 := eq_true q162
 have p8 : 0 ≤ (a1 : Int) := of_decide_eq_true (by first | (with_reducible assumption) | assumption)
 have q8 : (a1 : Int) < ((l0.length : Int) : Int) := of_decide_eq_true (by first | (with_reducible assumption) | assumption)
 obtain ⟨go8, co8, eo8, gb8, gl8, cl8, HG8⟩ := Kd.R_form HO0.out (by omega)
 (first | cases eo8 | (injection eo8 with ea_ en_ ec_; (first | subst ea_ | (injection ea_ with ea_; subst ea_)); subst ec_; clear en_))
 have GB8 := Aside0.mk gb8
 have GG8 := Aside0.mk HG8
 clear gb8 gl8 HG8
 have HMgo8 := Aside0.mk (show (P0_ go8 ∨ w.heap.size ≤ go8) from (HO0.out.1 _ rfl))
 (first | simp only [add_plain] at hx161_0 | skip)
 (first | simp only [add_plain] at hx161_1 | skip)
 (first | simp only [add_plain] at hx161_2 | skip)
 (first | simp only [add_plain] at hx161_3 | skip)
 (first | simp only [add_plain] at hx161_4 | skip)
 (first | simp only [add_plain] at hx162_0 | skip)
 (first | simp only [add_plain] at hx162_1 | skip)
 (first | simp only [add_plain] at hx162_2 | skip)
 (first | simp only [add_plain] at hx162_3 | skip)
 (first | simp only [add_plain] at hx162_4 | skip)
 obtain ⟨ce8, hcl8, hM8, hcc8, hfr8⟩ := Kd.R_elem HO0.out z68 (a1 : Int) p8 q8
 obtain rfl := k68_openM hM8
 have hx8_0 : World.cell? _ ⟨go8, (a1 : Int).toNat * 5, none⟩ = some (.int .i64 ((rd_T68 l0 a1).f0)) := hcc8 0 _ rfl
 have hx8_1 : World.cell? _ ⟨go8, (a1 : Int).toNat * 5 + 1, none⟩ = some (.int .i64 ((rd_T68 l0 a1).f1.f0)) := hcc8 1 _ rfl
 have hx8_2 : World.cell? _ ⟨go8, (a1 : Int).toNat * 5 + 2, none⟩ = some (.int .i64 ((rd_T68 l0 a1).f1.f1)) := hcc8 2 _ rfl
 have hx8_3 : World.cell? _ ⟨go8, (a1 : Int).toNat * 5 + 3, none⟩ = some (.int .i64 ((rd_T68 l0 a1).f1.f2)) := hcc8 3 _ rfl
 have hx8_4 : World.cell? _ ⟨go8, (a1 : Int).toNat * 5 + 4, none⟩ = some (.int .i64 ((rd_T68 l0 a1).f1.f3)) := hcc8 4 _ rfl
 have hf8_0 : World.frozen? _ ⟨go8, (a1 : Int).toNat * 5, none⟩ = false := hfr8 0
 have hf8_1 : World.frozen? _ ⟨go8, (a1 : Int).toNat * 5 + 1, none⟩ = false := hfr8 1
 have hf8_2 : World.frozen? _ ⟨go8, (a1 : Int).toNat * 5 + 2, none⟩ = false := hfr8 2
 have hf8_3 : World.frozen? _ ⟨go8, (a1 : Int).toNat * 5 + 3, none⟩ = false := hfr8 3
 have hf8_4 : World.frozen? _ ⟨go8, (a1 : Int).toNat * 5 + 4, none⟩ = false := hfr8 4
 clear hcl8 hcc8 hfr8 hM8
 replace p8 := eq_true p8
 replace q8 := eq_true q8
 obtain ⟨ce12, hcl12, hM12, hcc12, hfr12⟩ := Kd.R_elem HO0.out z68 (a1 : Int) (of_decide_eq_true (by first | (with_reducible assumption) | assumption)) (by have h_ : (a1 : Int) < ((l0.length : Int) : Int) := of_decide_eq_true (by first | (with_reducible assumption) | assumption); first | exact h_ | (have e_ := (Kd.R_reads' HO0.out).1; omega) | simpa using h_)
 obtain rfl := k68_openM hM12
 have HP12 := (Kd.R_seg HO0.out (a1 : Int) (of_decide_eq_true (by first | (with_reducible assumption) | assumption)) (by have h_ : (a1 : Int) < ((l0.length : Int) : Int) := of_decide_eq_true (by first | (with_reducible assumption) | assumption); first | exact h_ | (have e_ := (Kd.R_reads' HO0.out).1; omega) | simpa using h_) (seg := [.int .i64 ((rd_T68 l0 a2).f0), .int .i64 ((rd_T68 l0 a2).f1.f0), .int .i64 ((rd_T68 l0 a2).f1.f1), .int .i64 ((rd_T68 l0 a2).f1.f2), .int .i64 ((rd_T68 l0 a2).f1.f3)]) (j := 0) hcl12 hcc12 (show 5 ≤ 5 from by decide) (x' := (⟨(rd_T68 l0 a2).f0, (⟨(rd_T68 l0 a2).f1.f0, (rd_T68 l0 a2).f1.f1, (rd_T68 l0 a2).f1.f2, (rd_T68 l0 a2).f1.f3⟩ : S66)⟩ : S68)) (k68_mkM _ _ _ (⟨(rd_T68 l0 a2).f0, (⟨(rd_T68 l0 a2).f1.f0, (rd_T68 l0 a2).f1.f1, (rd_T68 l0 a2).f1.f2, (rd_T68 l0 a2).f1.f3⟩ : S66)⟩ : S68) ) (fun _ hk => hk)).1
 rw [← Ny163.out] at HP12
 have HQ12 := Aside0.mk HP12
 clear hcl12 hcc12 hfr12 hM12 HP12
 have p9 : 0 ≤ (a2 : Int) := of_decide_eq_true (by first | (with_reducible assumption) | assumption)
 have q9 : (a2 : Int) < ((l0.length : Int) : Int) := of_decide_eq_true (by first | (with_reducible assumption) | assumption)
 obtain ⟨ce9, hcl9, hM9, hcc9, hfr9⟩ := Kd.R_elem HQ12.out z68 (a2 : Int) p9 q9
 obtain rfl := k68_openM hM9
 have hx9_0 : World.cell? _ ⟨go8, (a2 : Int).toNat * 5, none⟩ = some (.int .i64 ((rd_T68 y163 a2).f0)) := hcc9 0 _ rfl
 have hx9_1 : World.cell? _ ⟨go8, (a2 : Int).toNat * 5 + 1, none⟩ = some (.int .i64 ((rd_T68 y163 a2).f1.f0)) := hcc9 1 _ rfl
 have hx9_2 : World.cell? _ ⟨go8, (a2 : Int).toNat * 5 + 2, none⟩ = some (.int .i64 ((rd_T68 y163 a2).f1.f1)) := hcc9 2 _ rfl
 have hx9_3 : World.cell? _ ⟨go8, (a2 : Int).toNat * 5 + 3, none⟩ = some (.int .i64 ((rd_T68 y163 a2).f1.f2)) := hcc9 3 _ rfl
 have hx9_4 : World.cell? _ ⟨go8, (a2 : Int).toNat * 5 + 4, none⟩ = some (.int .i64 ((rd_T68 y163 a2).f1.f3)) := hcc9 4 _ rfl
 have hf9_0 : World.frozen? _ ⟨go8, (a2 : Int).toNat * 5, none⟩ = false := hfr9 0
 have hf9_1 : World.frozen? _ ⟨go8, (a2 : Int).toNat * 5 + 1, none⟩ = false := hfr9 1
 have hf9_2 : World.frozen? _ ⟨go8, (a2 : Int).toNat * 5 + 2, none⟩ = false := hfr9 2
 have hf9_3 : World.frozen? _ ⟨go8, (a2 : Int).toNat * 5 + 3, none⟩ = false := hfr9 3
 have hf9_4 : World.frozen? _ ⟨go8, (a2 : Int).toNat * 5 + 4, none⟩ = false := hfr9 4
 clear hcl9 hcc9 hfr9 hM9
 replace p9 := eq_true p9
 replace q9 := eq_true q9
 obtain ⟨ce13, hcl13, hM13, hcc13, hfr13⟩ := Kd.R_elem HQ12.out z68 (a2 : Int) (of_decide_eq_true (by first | (with_reducible assumption) | assumption)) (by have h_ : (a2 : Int) < ((l0.length : Int) : Int) := of_decide_eq_true (by first | (with_reducible assumption) | assumption); first | exact h_ | (have e_ := (Kd.R_reads' HO0.out).1; omega) | simpa using h_)
 obtain rfl := k68_openM hM13
 have HP13 := (Kd.R_seg HQ12.out (a2 : Int) (of_decide_eq_true (by first | (with_reducible assumption) | assumption)) (by have h_ : (a2 : Int) < ((l0.length : Int) : Int) := of_decide_eq_true (by first | (with_reducible assumption) | assumption); first | exact h_ | (have e_ := (Kd.R_reads' HO0.out).1; omega) | simpa using h_) (seg := [.int .i64 ((rd_T68 l0 a1).f0), .int .i64 ((rd_T68 l0 a1).f1.f0), .int .i64 ((rd_T68 l0 a1).f1.f1), .int .i64 ((rd_T68 l0 a1).f1.f2), .int .i64 ((rd_T68 l0 a1).f1.f3)]) (j := 0) hcl13 hcc13 (show 5 ≤ 5 from by decide) (x' := (⟨(rd_T68 l0 a1).f0, (⟨(rd_T68 l0 a1).f1.f0, (rd_T68 l0 a1).f1.f1, (rd_T68 l0 a1).f1.f2, (rd_T68 l0 a1).f1.f3⟩ : S66)⟩ : S68)) (k68_mkM _ _ _ (⟨(rd_T68 l0 a1).f0, (⟨(rd_T68 l0 a1).f1.f0, (rd_T68 l0 a1).f1.f1, (rd_T68 l0 a1).f1.f2, (rd_T68 l0 a1).f1.f3⟩ : S66)⟩ : S68) ) (fun _ hk => hk)).1
 rw [← Ny164.out] at HP13
 have HQ13 := Aside0.mk HP13
 clear hcl13 hcc13 hfr13 hM13 HP13
 refine start_ (n := 16) (S := fun w' => w'.cell? ⟨go8, ((a2).toNat * 5), none⟩ = some (.int .i64 ((rd_T68 l0 a2).f0)) ∧ w'.cell? ⟨go8, ((a2).toNat * 5) + 1, none⟩ = some (.int .i64 ((rd_T68 l0 a2).f1.f0)) ∧ w'.cell? ⟨go8, ((a2).toNat * 5) + 2, none⟩ = some (.int .i64 ((rd_T68 l0 a2).f1.f1)) ∧ w'.cell? ⟨go8, ((a2).toNat * 5) + 3, none⟩ = some (.int .i64 ((rd_T68 l0 a2).f1.f2)) ∧ w'.cell? ⟨go8, ((a2).toNat * 5) + 4, none⟩ = some (.int .i64 ((rd_T68 l0 a2).f1.f3)) ∧ w'.cell? ⟨go8, ((a1).toNat * 5), none⟩ = some (.int .i64 ((rd_T68 l0 a1).f0)) ∧ w'.cell? ⟨go8, ((a1).toNat * 5) + 1, none⟩ = some (.int .i64 ((rd_T68 l0 a1).f1.f0)) ∧ w'.cell? ⟨go8, ((a1).toNat * 5) + 2, none⟩ = some (.int .i64 ((rd_T68 l0 a1).f1.f1)) ∧ w'.cell? ⟨go8, ((a1).toNat * 5) + 3, none⟩ = some (.int .i64 ((rd_T68 l0 a1).f1.f2)) ∧ w'.cell? ⟨go8, ((a1).toNat * 5) + 4, none⟩ = some (.int .i64 ((rd_T68 l0 a1).f1.f3))) (ds := [13, 15]) #[false, false, false, false, false, false, false, false, false, false, false, false, false, false, false, false] (by kernel_rfl) rfl rfl ⟨hx161_0, hx161_1, hx161_2, hx161_3, hx161_4, hx162_0, hx162_1, hx162_2, hx162_3, hx162_4⟩ (fun hHeld => ?_); refine with_tabW choose_queue_Swap.tab0 choose_queue_Swap.bits0 (fun HT_ HW_ => ?_)
 generalize w.drew = w10 at HO0 HK HB GG8 HQ12 HQ13 hf8_0 hf8_1 hf8_2 hf8_3 hf8_4 hf9_0 hf9_1 hf9_2 hf9_3 hf9_4 hx161_0 hx161_1 hx161_2 hx161_3 hx161_4 hx162_0 hx162_1 hx162_2 hx162_3 hx162_4 hx8_0 hx8_1 hx8_2 hx8_3 hx8_4 hx9_0 hx9_1 hx9_2 hx9_3 hx9_4 hHeld ⊢
 refine pure_ (i := 0) (N := some 6) (v := ?_) (a' := ?_) #[true, false, false, false, false, false, false, false, false, false, false, false, false, false, false, false] rfl rfl (any_of HT_.out (by kernel_rfl)) (fun _ _ _ h => h) (Or.inl ⟨by rfl, ?_⟩) ?_ ?_
 rotate_left
 ·intro w'
  go_simp
  with_reducible rfl
 rotate_left
 ·simp only [Act.put, List.setIfInBounds_toArray, List.set_cons_zero, List.set_cons_succ, i64_w, i32_w]
  rfl
 refine pure_ (i := 1) (N := some 7) (v := ?_) (a' := ?_) #[true, true, false, false, false, false, false, false, false, false, false, false, false, false, false, false] rfl rfl (any_of HT_.out (by kernel_rfl)) (fun _ _ _ h => h) (Or.inl ⟨by rfl, ?_⟩) ?_ ?_
 rotate_left
 ·intro w'
  go_simp
  with_reducible rfl
 rotate_left
 ·simp only [Act.put, List.setIfInBounds_toArray, List.set_cons_zero, List.set_cons_succ, i64_w, i32_w]
  rfl
 refine pure_ (i := 2) (N := some 8) (v := ?_) (a' := ?_) #[true, true, true, false, false, false, false, false, false, false, false, false, false, false, false, false] rfl rfl (any_of HT_.out (by kernel_rfl)) (fun _ _ _ h => h) (Or.inl ⟨by rfl, ?_⟩) ?_ ?_
 rotate_left
 ·intro w'
  go_simp
  with_reducible rfl
 rotate_left
 ·simp only [Act.put, List.setIfInBounds_toArray, List.set_cons_zero, List.set_cons_succ, i64_w, i32_w]
  rfl
 refine pure_ (i := 3) (N := some 9) (v := ?_) (a' := ?_) #[true, true, true, true, false, false, false, false, false, false, false, false, false, false, false, false] rfl rfl (any_of HT_.out (by kernel_rfl)) (fun _ _ _ h => h) (Or.inl ⟨by rfl, ?_⟩) ?_ ?_
 rotate_left
 ·intro w'
  go_simp
  with_reducible rfl
 rotate_left
 ·simp only [Act.put, List.setIfInBounds_toArray, List.set_cons_zero, List.set_cons_succ, i64_w, i32_w]
  rfl
 refine pure_ (i := 4) (N := some 10) (v := ?_) (a' := ?_) #[true, true, true, true, true, false, false, false, false, false, false, false, false, false, false, false] rfl rfl (any_of HT_.out (by kernel_rfl)) (fun _ _ _ h => h) (Or.inl ⟨by rfl, ?_⟩) ?_ ?_
 rotate_left
 ·intro w'
  go_simp
  with_reducible rfl
 rotate_left
 ·simp only [Act.put, List.setIfInBounds_toArray, List.set_cons_zero, List.set_cons_succ, i64_w, i32_w]
  rfl
 refine pure_ (i := 5) (N := some 11) (v := ?_) (a' := ?_) #[true, true, true, true, true, true, false, false, false, false, false, false, false, false, false, false] rfl rfl (any_of HT_.out (by kernel_rfl)) (fun _ _ _ h => h) (Or.inl ⟨by rfl, ?_⟩) ?_ ?_
 rotate_left
 ·intro w'
  go_simp
  with_reducible rfl
 rotate_left
 ·simp only [Act.put, List.setIfInBounds_toArray, List.set_cons_zero, List.set_cons_succ, i64_w, i32_w]
  rfl
 refine pure_ (i := 6) (N := some 12) (v := ?_) (a' := ?_) #[true, true, true, true, true, true, true, false, false, false, false, false, false, false, false, false] rfl rfl (any_of HT_.out (by kernel_rfl)) (fun _ _ _ h => h) (Or.inl ⟨by rfl, ?_⟩) ?_ ?_
 rotate_left
 ·intro w'
  go_simp
  with_reducible rfl
 rotate_left
 ·simp only [Act.put, List.setIfInBounds_toArray, List.set_cons_zero, List.set_cons_succ, i64_w, i32_w]
  rfl
 refine pure_ (i := 8) (N := some 14) (v := ?_) (a' := ?_) #[true, true, true, true, true, true, true, false, true, false, false, false, false, false, false, false] rfl rfl (any_of HT_.out (by kernel_rfl)) (fun _ _ _ h => h) (Or.inl ⟨by rfl, ?_⟩) ?_ ?_
 rotate_left
 ·intro w'
  go_simp
  with_reducible rfl
 rotate_left
 ·simp only [Act.put, List.setIfInBounds_toArray, List.set_cons_zero, List.set_cons_succ, i64_w, i32_w]
  rfl
 refine pure_ (i := 9) (N := some 15) (v := ?_) (a' := ?_) #[true, true, true, true, true, true, true, false, true, true, false, false, false, false, false, false] rfl rfl (any_of HT_.out (by kernel_rfl)) (fun _ _ _ h => h) (Or.inl ⟨by rfl, ?_⟩) ?_ ?_
 rotate_left
 ·intro w'
  go_simp
  with_reducible rfl
 rotate_left
 ·simp only [Act.put, List.setIfInBounds_toArray, List.set_cons_zero, List.set_cons_succ, i64_w, i32_w]
  rfl
 refine pure_ (i := 10) (N := some 16) (v := ?_) (a' := ?_) #[true, true, true, true, true, true, true, false, true, true, true, false, false, false, false, false] rfl rfl (any_of HT_.out (by kernel_rfl)) (fun _ _ _ h => h) (Or.inl ⟨by rfl, ?_⟩) ?_ ?_
 rotate_left
 ·intro w'
  go_simp
  with_reducible rfl
 rotate_left
 ·simp only [Act.put, List.setIfInBounds_toArray, List.set_cons_zero, List.set_cons_succ, i64_w, i32_w]
  rfl
 refine take_ (i := 7) (N := some 13) (v := ?_) (a' := ?_) #[true, true, true, true, true, true, true, true, true, true, true, false, false, false, false, false] rfl rfl (take_ofW HT_.out HW_.out (by kernel_rfl)) (fun _ _ _ h => h) (Or.inl ⟨by rfl, ?_⟩) hHeld ?_ ?_
 rotate_left
 ·rintro w' ⟨s0, s1, s2, s3, s4, s5, s6, s7, s8, s9⟩
  go_simp
  with_reducible rfl
 rotate_left
 ·simp only [Act.put, List.setIfInBounds_toArray, List.set_cons_zero, List.set_cons_succ, i64_w, i32_w]
  rfl
 refine take_ (i := 11) (N := some 17) (v := ?_) (a' := ?_) #[true, true, true, true, true, true, true, true, true, true, true, true, false, false, false, false] rfl rfl (take_ofW HT_.out HW_.out (by kernel_rfl)) (fun _ _ _ h => h) (Or.inl ⟨by rfl, ?_⟩) hHeld ?_ ?_
 rotate_left
 ·rintro w' ⟨s0, s1, s2, s3, s4, s5, s6, s7, s8, s9⟩
  go_simp
  with_reducible rfl
 rotate_left
 ·simp only [Act.put, List.setIfInBounds_toArray, List.set_cons_zero, List.set_cons_succ, i64_w, i32_w]
  rfl
 refine pure_ (i := 12) (N := some 18) (v := ?_) (a' := ?_) #[true, true, true, true, true, true, true, true, true, true, true, true, true, false, false, false] rfl rfl (any_of HT_.out (by kernel_rfl)) (fun _ _ _ h => h) (Or.inl ⟨by rfl, ?_⟩) ?_ ?_
 rotate_left
 ·intro w'
  go_simp
  with_reducible rfl
 rotate_left
 ·simp only [Act.put, List.setIfInBounds_toArray, List.set_cons_zero, List.set_cons_succ, i64_w, i32_w]
  rfl
 refine last_ (i := 13) (N := none) #[true, true, true, true, true, true, true, true, true, true, true, true, true, true, false, false] rfl rfl (one_of HT_.out (by kernel_rfl)) (by decide) (fun K hK => ?_)
 refine skip_ (w1 := ?_) (by rfl) rfl ?_ ?_
 rotate_left
 ·go_simp
  rfl
 refine hK.out _ _ ?_
 clear hK K
 refine pure_ (i := 14) (N := some 19) (v := ?_) (a' := ?_) #[true, true, true, true, true, true, true, true, true, true, true, true, true, true, true, false] rfl rfl (any_of HT_.out (by kernel_rfl)) (fun _ _ _ h => h) (Or.inl ⟨by rfl, ?_⟩) ?_ ?_
 rotate_left
 ·intro w'
  go_simp
  with_reducible rfl
 rotate_left
 ·simp only [Act.put, List.setIfInBounds_toArray, List.set_cons_zero, List.set_cons_succ, i64_w, i32_w]
  rfl
 have HBq := Aside0.mk (show Below w0.heap.size w0 (World.setCell (World.setCell (World.setCell (World.setCell (World.setCell w10 ⟨go8, (a1 : Int).toNat * 5, none⟩ (Value.int .i64 ((rd_T68 l0 a2).f0))) ⟨go8, (a1 : Int).toNat * 5 + 1, none⟩ (Value.int .i64 ((rd_T68 l0 a2).f1.f0))) ⟨go8, (a1 : Int).toNat * 5 + 2, none⟩ (Value.int .i64 ((rd_T68 l0 a2).f1.f1))) ⟨go8, (a1 : Int).toNat * 5 + 3, none⟩ (Value.int .i64 ((rd_T68 l0 a2).f1.f2))) ⟨go8, (a1 : Int).toNat * 5 + 4, none⟩ (Value.int .i64 ((rd_T68 l0 a2).f1.f3))) from (below_set (below_set (below_set (below_set (below_set HB.out GB8.out) GB8.out) GB8.out) GB8.out) GB8.out))
 have HKq := Aside0.mk (show Kept w (World.setCell (World.setCell (World.setCell (World.setCell (World.setCell w10 ⟨go8, (a1 : Int).toNat * 5, none⟩ (Value.int .i64 ((rd_T68 l0 a2).f0))) ⟨go8, (a1 : Int).toNat * 5 + 1, none⟩ (Value.int .i64 ((rd_T68 l0 a2).f1.f0))) ⟨go8, (a1 : Int).toNat * 5 + 2, none⟩ (Value.int .i64 ((rd_T68 l0 a2).f1.f1))) ⟨go8, (a1 : Int).toNat * 5 + 3, none⟩ (Value.int .i64 ((rd_T68 l0 a2).f1.f2))) ⟨go8, (a1 : Int).toNat * 5 + 4, none⟩ (Value.int .i64 ((rd_T68 l0 a2).f1.f3))) (fun k_ => P0_ k_) from (Kept.setCell (Kept.setCell (Kept.setCell (Kept.setCell (Kept.setCell HK.out HMgo8.out _) HMgo8.out _) HMgo8.out _) HMgo8.out _) HMgo8.out _))
 have HQq := Aside0.mk (show Kd.R k68 68 (World.setCell (World.setCell (World.setCell (World.setCell (World.setCell (World.setCell (World.setCell (World.setCell (World.setCell (World.setCell w10 ⟨go8, (a1 : Int).toNat * 5, none⟩ (Value.int .i64 ((rd_T68 l0 a2).f0))) ⟨go8, (a1 : Int).toNat * 5 + 1, none⟩ (Value.int .i64 ((rd_T68 l0 a2).f1.f0))) ⟨go8, (a1 : Int).toNat * 5 + 2, none⟩ (Value.int .i64 ((rd_T68 l0 a2).f1.f1))) ⟨go8, (a1 : Int).toNat * 5 + 3, none⟩ (Value.int .i64 ((rd_T68 l0 a2).f1.f2))) ⟨go8, (a1 : Int).toNat * 5 + 4, none⟩ (Value.int .i64 ((rd_T68 l0 a2).f1.f3))) ⟨go8, (a2 : Int).toNat * 5, none⟩ (Value.int .i64 ((rd_T68 l0 a1).f0))) ⟨go8, (a2 : Int).toNat * 5 + 1, none⟩ (Value.int .i64 ((rd_T68 l0 a1).f1.f0))) ⟨go8, (a2 : Int).toNat * 5 + 2, none⟩ (Value.int .i64 ((rd_T68 l0 a1).f1.f1))) ⟨go8, (a2 : Int).toNat * 5 + 3, none⟩ (Value.int .i64 ((rd_T68 l0 a1).f1.f2))) ⟨go8, (a2 : Int).toNat * 5 + 4, none⟩ (Value.int .i64 ((rd_T68 l0 a1).f1.f3))) _ _ _ _ from HQ13.out)
 have hxq0 := (show ∃ u_, World.cell? (World.setCell (World.setCell (World.setCell (World.setCell (World.setCell w10 ⟨go8, (a1 : Int).toNat * 5, none⟩ (Value.int .i64 ((rd_T68 l0 a2).f0))) ⟨go8, (a1 : Int).toNat * 5 + 1, none⟩ (Value.int .i64 ((rd_T68 l0 a2).f1.f0))) ⟨go8, (a1 : Int).toNat * 5 + 2, none⟩ (Value.int .i64 ((rd_T68 l0 a2).f1.f1))) ⟨go8, (a1 : Int).toNat * 5 + 3, none⟩ (Value.int .i64 ((rd_T68 l0 a2).f1.f2))) ⟨go8, (a1 : Int).toNat * 5 + 4, none⟩ (Value.int .i64 ((rd_T68 l0 a2).f1.f3))) ⟨go8, (a2 : Int).toNat * 5, none⟩ = some u_ from ⟨_, hx9_0⟩)
 have hfq0 := (show World.frozen? (World.setCell (World.setCell (World.setCell (World.setCell (World.setCell w10 ⟨go8, (a1 : Int).toNat * 5, none⟩ (Value.int .i64 ((rd_T68 l0 a2).f0))) ⟨go8, (a1 : Int).toNat * 5 + 1, none⟩ (Value.int .i64 ((rd_T68 l0 a2).f1.f0))) ⟨go8, (a1 : Int).toNat * 5 + 2, none⟩ (Value.int .i64 ((rd_T68 l0 a2).f1.f1))) ⟨go8, (a1 : Int).toNat * 5 + 3, none⟩ (Value.int .i64 ((rd_T68 l0 a2).f1.f2))) ⟨go8, (a1 : Int).toNat * 5 + 4, none⟩ (Value.int .i64 ((rd_T68 l0 a2).f1.f3))) ⟨go8, (a2 : Int).toNat * 5, none⟩ = false from hf9_0)
 have hxq1 := (show ∃ u_, World.cell? (World.setCell (World.setCell (World.setCell (World.setCell (World.setCell w10 ⟨go8, (a1 : Int).toNat * 5, none⟩ (Value.int .i64 ((rd_T68 l0 a2).f0))) ⟨go8, (a1 : Int).toNat * 5 + 1, none⟩ (Value.int .i64 ((rd_T68 l0 a2).f1.f0))) ⟨go8, (a1 : Int).toNat * 5 + 2, none⟩ (Value.int .i64 ((rd_T68 l0 a2).f1.f1))) ⟨go8, (a1 : Int).toNat * 5 + 3, none⟩ (Value.int .i64 ((rd_T68 l0 a2).f1.f2))) ⟨go8, (a1 : Int).toNat * 5 + 4, none⟩ (Value.int .i64 ((rd_T68 l0 a2).f1.f3))) ⟨go8, (a2 : Int).toNat * 5 + 1, none⟩ = some u_ from ⟨_, hx9_1⟩)
 have hfq1 := (show World.frozen? (World.setCell (World.setCell (World.setCell (World.setCell (World.setCell w10 ⟨go8, (a1 : Int).toNat * 5, none⟩ (Value.int .i64 ((rd_T68 l0 a2).f0))) ⟨go8, (a1 : Int).toNat * 5 + 1, none⟩ (Value.int .i64 ((rd_T68 l0 a2).f1.f0))) ⟨go8, (a1 : Int).toNat * 5 + 2, none⟩ (Value.int .i64 ((rd_T68 l0 a2).f1.f1))) ⟨go8, (a1 : Int).toNat * 5 + 3, none⟩ (Value.int .i64 ((rd_T68 l0 a2).f1.f2))) ⟨go8, (a1 : Int).toNat * 5 + 4, none⟩ (Value.int .i64 ((rd_T68 l0 a2).f1.f3))) ⟨go8, (a2 : Int).toNat * 5 + 1, none⟩ = false from hf9_1)
 have hxq2 := (show ∃ u_, World.cell? (World.setCell (World.setCell (World.setCell (World.setCell (World.setCell w10 ⟨go8, (a1 : Int).toNat * 5, none⟩ (Value.int .i64 ((rd_T68 l0 a2).f0))) ⟨go8, (a1 : Int).toNat * 5 + 1, none⟩ (Value.int .i64 ((rd_T68 l0 a2).f1.f0))) ⟨go8, (a1 : Int).toNat * 5 + 2, none⟩ (Value.int .i64 ((rd_T68 l0 a2).f1.f1))) ⟨go8, (a1 : Int).toNat * 5 + 3, none⟩ (Value.int .i64 ((rd_T68 l0 a2).f1.f2))) ⟨go8, (a1 : Int).toNat * 5 + 4, none⟩ (Value.int .i64 ((rd_T68 l0 a2).f1.f3))) ⟨go8, (a2 : Int).toNat * 5 + 2, none⟩ = some u_ from ⟨_, hx9_2⟩)
 have hfq2 := (show World.frozen? (World.setCell (World.setCell (World.setCell (World.setCell (World.setCell w10 ⟨go8, (a1 : Int).toNat * 5, none⟩ (Value.int .i64 ((rd_T68 l0 a2).f0))) ⟨go8, (a1 : Int).toNat * 5 + 1, none⟩ (Value.int .i64 ((rd_T68 l0 a2).f1.f0))) ⟨go8, (a1 : Int).toNat * 5 + 2, none⟩ (Value.int .i64 ((rd_T68 l0 a2).f1.f1))) ⟨go8, (a1 : Int).toNat * 5 + 3, none⟩ (Value.int .i64 ((rd_T68 l0 a2).f1.f2))) ⟨go8, (a1 : Int).toNat * 5 + 4, none⟩ (Value.int .i64 ((rd_T68 l0 a2).f1.f3))) ⟨go8, (a2 : Int).toNat * 5 + 2, none⟩ = false from hf9_2)
 have hxq3 := (show ∃ u_, World.cell? (World.setCell (World.setCell (World.setCell (World.setCell (World.setCell w10 ⟨go8, (a1 : Int).toNat * 5, none⟩ (Value.int .i64 ((rd_T68 l0 a2).f0))) ⟨go8, (a1 : Int).toNat * 5 + 1, none⟩ (Value.int .i64 ((rd_T68 l0 a2).f1.f0))) ⟨go8, (a1 : Int).toNat * 5 + 2, none⟩ (Value.int .i64 ((rd_T68 l0 a2).f1.f1))) ⟨go8, (a1 : Int).toNat * 5 + 3, none⟩ (Value.int .i64 ((rd_T68 l0 a2).f1.f2))) ⟨go8, (a1 : Int).toNat * 5 + 4, none⟩ (Value.int .i64 ((rd_T68 l0 a2).f1.f3))) ⟨go8, (a2 : Int).toNat * 5 + 3, none⟩ = some u_ from ⟨_, hx9_3⟩)
 have hfq3 := (show World.frozen? (World.setCell (World.setCell (World.setCell (World.setCell (World.setCell w10 ⟨go8, (a1 : Int).toNat * 5, none⟩ (Value.int .i64 ((rd_T68 l0 a2).f0))) ⟨go8, (a1 : Int).toNat * 5 + 1, none⟩ (Value.int .i64 ((rd_T68 l0 a2).f1.f0))) ⟨go8, (a1 : Int).toNat * 5 + 2, none⟩ (Value.int .i64 ((rd_T68 l0 a2).f1.f1))) ⟨go8, (a1 : Int).toNat * 5 + 3, none⟩ (Value.int .i64 ((rd_T68 l0 a2).f1.f2))) ⟨go8, (a1 : Int).toNat * 5 + 4, none⟩ (Value.int .i64 ((rd_T68 l0 a2).f1.f3))) ⟨go8, (a2 : Int).toNat * 5 + 3, none⟩ = false from hf9_3)
 have hxq4 := (show ∃ u_, World.cell? (World.setCell (World.setCell (World.setCell (World.setCell (World.setCell w10 ⟨go8, (a1 : Int).toNat * 5, none⟩ (Value.int .i64 ((rd_T68 l0 a2).f0))) ⟨go8, (a1 : Int).toNat * 5 + 1, none⟩ (Value.int .i64 ((rd_T68 l0 a2).f1.f0))) ⟨go8, (a1 : Int).toNat * 5 + 2, none⟩ (Value.int .i64 ((rd_T68 l0 a2).f1.f1))) ⟨go8, (a1 : Int).toNat * 5 + 3, none⟩ (Value.int .i64 ((rd_T68 l0 a2).f1.f2))) ⟨go8, (a1 : Int).toNat * 5 + 4, none⟩ (Value.int .i64 ((rd_T68 l0 a2).f1.f3))) ⟨go8, (a2 : Int).toNat * 5 + 4, none⟩ = some u_ from ⟨_, hx9_4⟩)
 have hfq4 := (show World.frozen? (World.setCell (World.setCell (World.setCell (World.setCell (World.setCell w10 ⟨go8, (a1 : Int).toNat * 5, none⟩ (Value.int .i64 ((rd_T68 l0 a2).f0))) ⟨go8, (a1 : Int).toNat * 5 + 1, none⟩ (Value.int .i64 ((rd_T68 l0 a2).f1.f0))) ⟨go8, (a1 : Int).toNat * 5 + 2, none⟩ (Value.int .i64 ((rd_T68 l0 a2).f1.f1))) ⟨go8, (a1 : Int).toNat * 5 + 3, none⟩ (Value.int .i64 ((rd_T68 l0 a2).f1.f2))) ⟨go8, (a1 : Int).toNat * 5 + 4, none⟩ (Value.int .i64 ((rd_T68 l0 a2).f1.f3))) ⟨go8, (a2 : Int).toNat * 5 + 4, none⟩ = false from hf9_4)
 clear HB HK HQ13 HQ12 HO0
 generalize (World.setCell (World.setCell (World.setCell (World.setCell (World.setCell w10 ⟨go8, (a1 : Int).toNat * 5, none⟩ (Value.int .i64 ((rd_T68 l0 a2).f0))) ⟨go8, (a1 : Int).toNat * 5 + 1, none⟩ (Value.int .i64 ((rd_T68 l0 a2).f1.f0))) ⟨go8, (a1 : Int).toNat * 5 + 2, none⟩ (Value.int .i64 ((rd_T68 l0 a2).f1.f1))) ⟨go8, (a1 : Int).toNat * 5 + 3, none⟩ (Value.int .i64 ((rd_T68 l0 a2).f1.f2))) ⟨go8, (a1 : Int).toNat * 5 + 4, none⟩ (Value.int .i64 ((rd_T68 l0 a2).f1.f3))) = w13 at HBq HKq HQq hxq0 hfq0 hxq1 hfq1 hxq2 hfq2 hxq3 hfq3 hxq4 hfq4 ⊢
 obtain ⟨uq0, hxq0⟩ := hxq0
 obtain ⟨uq1, hxq1⟩ := hxq1
 obtain ⟨uq2, hxq2⟩ := hxq2
 obtain ⟨uq3, hxq3⟩ := hxq3
 obtain ⟨uq4, hxq4⟩ := hxq4
 have HB := HBq
 have HK := HKq
 have HQ13 := HQq
 refine last_ (i := 15) (N := none) #[true, true, true, true, true, true, true, true, true, true, true, true, true, true, true, true] rfl rfl (one_of HT_.out (by kernel_rfl)) (by decide) (fun K hK => ?_)
 refine skip_ (w1 := ?_) (by rfl) rfl ?_ ?_
 rotate_left
 ·go_simp
  rfl
 refine hK.out _ _ ?_
 clear hK K
 refine done_ (done_of HT_.out (by kernel_rfl)) ?_
 try go_wp2
 first | go_end0 | ((try simp only [Exit.inBlock, Exit.then]); refine bodyPost_ret (results_none rfl _ _ _) rfl ?_)
 exact ⟨by first | rfl | (simp [errW_none, errW_some] <;> rfl) | (simp [*, errW_none, errW_some] <;> rfl), kR HQ13.out, kb10 HB.out GB8.out GB8.out GB8.out GB8.out GB8.out GB8.out GB8.out GB8.out GB8.out GB8.out, by repeat (first | (with_reducible first | exact HK.out | apply Kept.alloc | apply Kept.drewN | apply Kept.drew | refine Kept.setCell ?_ HMgo8.out _ | refine Kept.setCell ?_ HMgo8.out _ | refine Kept.setCell ?_ HMgo8.out _ | refine Kept.setCell ?_ HMgo8.out _ | refine Kept.setCell ?_ HMgo8.out _ | refine Kept.setCell ?_ HMgo8.out _ | refine Kept.setCell ?_ HMgo8.out _ | refine Kept.setCell ?_ HMgo8.out _ | refine Kept.setCell ?_ HMgo8.out _ | refine Kept.setCell ?_ HMgo8.out _) | exact HK.out)⟩

-- its contract: by hand
/-! ### choose_Active: function 63 -/
def choose_Active.f (a0 : ByteArray) : Option (Int × Int × Int × Int × Int × Int) := (journal_Scan.f 300 a0).bind fun s => if s.2 = 0 then (s.1.foldlM (fun (b : Option S68) p => (image_Good.f a0 p.f1.f0 p.f1.f1 p.f1.f2 p.f1.f3).bind fun g => some (if g.1 && (b.all fun q => decide (q.f1.f0 ≤ p.f1.f0)) then some p else b)) none).bind fun b => some (match b with | none => (0, 0, 0, 0, 0, 701) | some p => (p.f0, p.f1.f0, p.f1.f1, p.f1.f2, p.f1.f3, 0)) else some (0, 0, 0, 0, 0, 700)

end Go.Proofs.YthkpaoajfiapkaaGreat.P
end
section
set_option linter.unusedVariables false
set_option linter.unusedSimpArgs false
set_option maxHeartbeats 4000000
namespace Go.Proofs.YthkpaoajfiapkaaGreat.P
open Go.RowKit Go.Proofs.YthkpaoajfiapkaaGreatW.PrintWords Go.Proofs.YthkpaoajfiapkaaGreatW.PrintLast Go.Proofs.YthkpaoajfiapkaaGreatW.PrintMore
abbrev PL := S68
def lessB (p q : PL) : Bool := if p.f1.f0 = q.f1.f0 then decide (p.f0 > q.f0) else decide (p.f1.f0 > q.f1.f0)
set_option maxRecDepth 100000 in
theorem less_calls (A0 : Option Addr) (c0 : Nat) (l0 : List PL) (a1 : Int) (a2 : Int) (w : World) (hr0 : Kd.C k68 w A0 l0.length l0) (p1 : 0 ≤ a1) (q1 : a1 < (l0.length : Int)) (p2 : 0 ≤ a2) (q2 : a2 < (l0.length : Int)) :
    Calls Tryz.prog 123 #[.slice A0 l0.length c0, .int .i64 a1, .int .i64 a2] w fun e w' => e = .returned (.bool (lessB (rd_T68 l0 a1) (rd_T68 l0 a2))) ∧ Below w.heap.size w w' := by
  have HG := Lib.hid (fun (p q : PL) (h : (p.f1.f0 == q.f1.f0) = true) => (by unfold lessB; rw [if_pos (beq_iff_eq.1 h)] : lessB p q = decide (p.f0 > q.f0)))
  have HL := Lib.hid (fun (p q : PL) (h : (p.f1.f0 == q.f1.f0) = false) => (by unfold lessB; rw [if_neg (beq_eq_false_iff_ne.1 h)] : lessB p q = decide (p.f1.f0 > q.f1.f0)))
  obtain ⟨ad, rfl, x0, x1, x2, x3, x4⟩ := at_T68 hr0 a1 p1 q1
  obtain ⟨ad', e2, z0, z1, z2, z3, z4⟩ := at_T68 hr0 a2 p2 q2
  obtain rfl := Option.some.inj e2
  clear hr0 e2
  have t1 : decide (0 ≤ a1) = true := decide_eq_true p1
  generalize rd_T68 l0 a1 = p at *
  generalize rd_T68 l0 a2 = q at *
  go_enter Tryz.func123, Tryz.ntmps123
  go_wp2
  go_region_held3 (fun w' => w'.cell? (ad.add (a1.toNat * 5)) = some (.int .i64 (p.f0)) ∧ w'.cell? ⟨(ad.add (a1.toNat * 5)).block, (ad.add (a1.toNat * 5)).off + 1, none⟩ = some (.int .i64 (p.f1.f0)) ∧ w'.cell? ⟨(ad.add (a1.toNat * 5)).block, (ad.add (a1.toNat * 5)).off + 2, none⟩ = some (.int .i64 (p.f1.f1)) ∧ w'.cell? ⟨(ad.add (a1.toNat * 5)).block, (ad.add (a1.toNat * 5)).off + 3, none⟩ = some (.int .i64 (p.f1.f2)) ∧ w'.cell? ⟨(ad.add (a1.toNat * 5)).block, (ad.add (a1.toNat * 5)).off + 4, none⟩ = some (.int .i64 (p.f1.f3)) ∧ w'.cell? (ad.add (a2.toNat * 5)) = some (.int .i64 (q.f0)) ∧ w'.cell? ⟨(ad.add (a2.toNat * 5)).block, (ad.add (a2.toNat * 5)).off + 1, none⟩ = some (.int .i64 (q.f1.f0)) ∧ w'.cell? ⟨(ad.add (a2.toNat * 5)).block, (ad.add (a2.toNat * 5)).off + 2, none⟩ = some (.int .i64 (q.f1.f1)) ∧ w'.cell? ⟨(ad.add (a2.toNat * 5)).block, (ad.add (a2.toNat * 5)).off + 3, none⟩ = some (.int .i64 (q.f1.f2)) ∧ w'.cell? ⟨(ad.add (a2.toNat * 5)).block, (ad.add (a2.toNat * 5)).off + 4, none⟩ = some (.int .i64 (q.f1.f3))) (first | go_keep | (go_split_ands; refine ⟨?_, ?_, ?_, ?_, ?_, ?_, ?_, ?_, ?_, ?_⟩ <;> (exact Ext.cell ‹_› ‹_›))) (fail)
  all_goals
    cases h : (p.f1.f0 == q.f1.f0)
    · have h2 : (p.f1.f0 != q.f1.f0) = true := by unfold bne; rw [h]; rfl
      have E := Lib.hid (HL.out p q h)
      clear HG HL
      go_wp2
      go_ret
      exact ⟨by rw [E.out]; rfl, ((Below.refl _ _).alloc (Nat.le_refl _) _).alloc (by simp) _ |>.drew⟩
    · have h2 : (p.f1.f0 != q.f1.f0) = false := by unfold bne; rw [h]; rfl
      have E := Lib.hid (HG.out p q h)
      clear HG HL
      go_wp2
      go_ret
      exact ⟨by rw [E.out]; rfl, ((Below.refl _ _).alloc (Nat.le_refl _) _).alloc (by simp) _ |>.drew⟩

theorem choose_queue_Less.calls (A0 : Option Addr) (c0 : Nat) (l0 : List PL) (a1 : Int) (a2 : Int) (r : Bool) (w : World) (hr0 : Kd.C k68 w A0 l0.length l0) (hc0 : l0.length ≤ c0) (h : choose_queue_Less.f l0 a1 a2 = some r) :
    Calls Tryz.prog 123 #[.slice A0 l0.length c0, .int .i64 a1, .int .i64 a2] w fun e w' => e = .returned (.bool r) ∧ Below w.heap.size w w' := by
  unfold choose_queue_Less.f at h
  by_cases p1 : 0 ≤ a1
  case neg => rw [if_neg p1] at h; cases h
  by_cases q1 : a1 < (l0.length : Int)
  case neg => rw [if_pos p1, if_neg q1] at h; cases h
  by_cases p2 : 0 ≤ a2
  case neg => rw [if_pos p1, if_pos q1, if_neg p2] at h; cases h
  by_cases q2 : a2 < (l0.length : Int)
  case neg => rw [if_pos p1, if_pos q1, if_pos p2, if_neg q2] at h; cases h
  rw [if_pos p1, if_pos q1, if_pos p2, if_pos q2] at h
  have e : lessB (rd_T68 l0 a1) (rd_T68 l0 a2) = r := by
    unfold lessB
    split at h
    · rename_i hh; rw [if_pos hh]; exact Option.some.inj h
    · rename_i hh; rw [if_neg hh]; exact Option.some.inj h
  rw [← e]
  exact less_calls A0 c0 l0 a1 a2 w hr0 p1 q1 p2 q2

end Go.Proofs.YthkpaoajfiapkaaGreat.P
end
section
set_option linter.unusedVariables false
set_option linter.unusedSimpArgs false
set_option maxHeartbeats 4000000
namespace Go.Proofs.YthkpaoajfiapkaaGreat
open Go.RowKit Go.Proofs.YthkpaoajfiapkaaGreatW.PrintWords Go.Proofs.YthkpaoajfiapkaaGreatW.PrintMore Go.Proofs.YthkpaoajfiapkaaGreatW.PrintLast

abbrev pz : Plc := P.z68
def pkey (p : Plc) : Int := p.f1.f0 * 1000 + p.f0
/-- The heap's state: a queue's variable g, its row. -/
structure StH (w0 : World) (g : Nat) (A : Option Addr) (c : Nat) (l : List Plc) (w : World) : Prop where
  below : Below w0.heap.size w0 w
  row : Kd.R P.k68 68 w w0.heap.size (fun k => some k = (Value.slice A l.length c).ownBlock) (.slice A l.length c) l
  box : w.heap[g]? = some (.cells #[.slice A l.length c] 99 (0, 0))
  mine : w0.heap.size ≤ g
  apart : some g ≠ (Value.slice A l.length c).ownBlock
theorem StH.cell {w0 g A c l w} (h : StH w0 g A c l w) : w.cell? ⟨g, 0, none⟩ = some (.slice A l.length c) := (blk_cell h.box 0).trans rfl
theorem StH.step {w0 g A c l w w'} (h : StH w0 g A c l w) (hb : Below w.heap.size w w') : StH w0 g A c l w' where
  below := h.below.trans (hb.mono h.below.size)
  row := Kd.R_below h.row hb
  box := blk_below h.box hb
  mine := h.mine
  apart := h.apart
/-- Places as a flash has them. -/
def Ats (l : List Plc) : Prop := ∀ p ∈ l, 0 ≤ p.f0 ∧ p.f0 < 192
theorem less_f (l : List Plc) (hl : Ats l) (i j : Nat) (hi : i < l.length) (hj : j < l.length) : P.choose_queue_Less.f l i j = some (decide (pkey (l.getD i pz) > pkey (l.getD j pz))) := by
  have mem : ∀ k (hk : k < l.length), l.getD k pz ∈ l := fun k hk => by rw [List.getD_eq_getElem?_getD, List.getElem?_eq_getElem hk]; exact List.getElem_mem hk
  have ri : P.rd_T68 l (i : Int) = l.getD i pz := rfl
  have rj : P.rd_T68 l (j : Int) = l.getD j pz := rfl
  have ai := hl _ (mem i hi)
  have aj := hl _ (mem j hj)
  unfold P.choose_queue_Less.f
  rw [if_pos (by omega), if_pos (by omega), if_pos (by omega), if_pos (by omega), ri, rj]
  generalize l.getD i pz = p at ai
  generalize l.getD j pz = q at aj
  unfold pkey
  by_cases h : p.f1.f0 = q.f1.f0
  · rw [if_pos h]
    congr 1
    rw [decide_eq_decide]
    omega
  · rw [if_neg h]
    congr 1
    rw [decide_eq_decide]
    omega
theorem hless_calls {w0 g A c l w} (h : StH w0 g A c l w) (hl : Ats l) (i j : Nat) (hi : i < l.length) (hj : j < l.length) :
    Calls Tryz.prog 123 #[.slice A l.length c, .int .i64 i, .int .i64 j] w fun e w' => e = .returned (.bool (decide (pkey (l.getD i pz) > pkey (l.getD j pz)))) ∧ StH w0 g A c l w' :=
  (P.choose_queue_Less.calls A c l i j _ w (Kd.R_reads' h.row).2.2 (Kd.R_reads' h.row).2.1 (less_f l hl i j hi hj)).mono fun e w' ⟨he, hb⟩ => ⟨he, h.step hb⟩
theorem swap_f (l : List Plc) (i j : Nat) (hi : i < l.length) (hj : j < l.length) : P.choose_queue_Swap.f l i j = some (Hp.swp pz l i j) := by
  unfold P.choose_queue_Swap.f
  rw [if_pos (by omega), if_pos (by omega), if_pos (by omega), if_pos (by omega)]; rfl
theorem hswap_calls {w0 g A c l w} (h : StH w0 g A c l w) (i j : Nat) (hi : i < l.length) (hj : j < l.length) :
    Calls Tryz.prog 124 #[.slice A l.length c, .int .i64 i, .int .i64 j] w fun e w' => e = .returned (.tuple #[]) ∧ StH w0 g A c (Hp.swp pz l i j) w' :=
  (P.choose_queue_Swap.calls _ _ l i j _ w0 w h.below h.row (swap_f l i j hi hj)).mono fun e w' ⟨he, hr, hb, hk⟩ => by
    have hlt : g < w.heap.size := by
      rcases Nat.lt_or_ge g w.heap.size with h1 | h1
      · exact h1
      · have := h.box; rw [Array.getElem?_eq_none h1] at this; cases this
    refine ⟨he, ⟨hb, ?_, ?_, h.mine, ?_⟩⟩
    · rw [Hp.swp_length]
      exact Kd.R_tight rfl hr
    · rw [Hp.swp_length, hk.2 g hlt (fun e => h.apart e)]
      exact h.box
    · rw [Hp.swp_length]; exact h.apart
theorem hlen_calls {w0 g A c l w} (h : StH w0 g A c l w) : Calls Tryz.prog 76 #[.slice A l.length c] w fun e w' => e = .returned (.int .i64 (l.length : Int)) ∧ StH w0 g A c l w' :=
  (P.choose_queue_Len.calls A c l _ w (Kd.R_reads' h.row).2.2 (Kd.R_reads' h.row).2.1 rfl).mono fun e w' ⟨he, hd⟩ => ⟨he, by
    obtain ⟨n, rfl⟩ := hd.out
    exact h.step (pw_below_drewN (Below.refl _ _) n)⟩

/-- A call of Less through the interface. -/
theorem inv_less {w0 g A c l} (i j : Nat) {ix jx : Int} {W : World} {ops : Array Oper} {rest : List Oper} {o : Oper} {a : Act} {Q : Exit → Act → World → Prop} (hg : o.guard = none) {r x y : Operand} {ts : Array TypeId}
    (hop : o.op = Op.call { callee := Callee.invoke r "Less", args := #[x, y], argTypes := ts }) (hr : a.eval r = .iface 101 (.pointer (some ⟨g, 0, none⟩))) (hx : a.eval x = .int .i64 ix) (hy : a.eval y = .int .i64 jx) (ei : ix = i) (ej : jx = j)
    (S : StH w0 g A c l W) (hl : Ats l) (hi : i < l.length) (hj : j < l.length) (hK : ∀ w', StH w0 g A c l w' → wpList Tryz.prog ops Q rest (a.put o.dst (.bool (decide (pkey (l.getD i pz) > pkey (l.getD j pz))))) w') : wpList Tryz.prog ops Q (o :: rest) a W := by
  subst ei ej
  refine wpList_plain hg fun K hK' => ?_
  have m0 := fun n => que_less n g _ W S.cell
  have eL : ∀ args w, (callFunc 123 args).run Tryz.prog w = .ok (.enter 123 args) w := enters_ Tryz.func123 (by kernel_rfl) rfl
  have hrun : (execOp a.eval o).run Tryz.prog W = .ok (.enter 123 #[.slice A l.length c, .int .i64 i, .int .i64 j]) W := by
    generalize a.eval = ρ at hr hx hy
    simp [execOp, hop, resolve, invoke, callMethod, go_sem, hr, hx, hy, m0, eL]
  unfold Oper.wp
  rw [hrun, Oper.upon_enter]
  refine (hless_calls S hl i j hi hj).mono ?_
  rintro e w' ⟨rfl, S'⟩
  exact hK' _ _ (hK _ S')
theorem inv_swap {w0 g A c l} (i j : Nat) {ix jx : Int} {W : World} {ops : Array Oper} {rest : List Oper} {o : Oper} {a : Act} {Q : Exit → Act → World → Prop} (hg : o.guard = none) {r x y : Operand} {ts : Array TypeId}
    (hop : o.op = Op.call { callee := Callee.invoke r "Swap", args := #[x, y], argTypes := ts }) (hr : a.eval r = .iface 101 (.pointer (some ⟨g, 0, none⟩))) (hx : a.eval x = .int .i64 ix) (hy : a.eval y = .int .i64 jx) (ei : ix = i) (ej : jx = j)
    (S : StH w0 g A c l W) (hi : i < l.length) (hj : j < l.length) (hK : ∀ w', StH w0 g A c (Hp.swp pz l i j) w' → wpList Tryz.prog ops Q rest (a.put o.dst (.tuple #[])) w') : wpList Tryz.prog ops Q (o :: rest) a W := by
  subst ei ej
  refine wpList_plain hg fun K hK' => ?_
  have m0 := fun n => que_swap n g _ W S.cell
  have eL : ∀ args w, (callFunc 124 args).run Tryz.prog w = .ok (.enter 124 args) w := enters_ Tryz.func124 (by kernel_rfl) rfl
  have hrun : (execOp a.eval o).run Tryz.prog W = .ok (.enter 124 #[.slice A l.length c, .int .i64 i, .int .i64 j]) W := by
    generalize a.eval = ρ at hr hx hy
    simp [execOp, hop, resolve, invoke, callMethod, go_sem, hr, hx, hy, m0, eL]
  unfold Oper.wp
  rw [hrun, Oper.upon_enter]
  refine (hswap_calls S i j hi hj).mono ?_
  rintro e w' ⟨rfl, S'⟩
  exact hK' _ _ (hK _ S')
theorem inv_len {w0 g A c l} {W : World} {ops : Array Oper} {rest : List Oper} {o : Oper} {a : Act} {Q : Exit → Act → World → Prop} (hg : o.guard = none) {r : Operand} {ts : Array TypeId}
    (hop : o.op = Op.call { callee := Callee.invoke r "Len", args := #[], argTypes := ts }) (hr : a.eval r = .iface 101 (.pointer (some ⟨g, 0, none⟩)))
    (S : StH w0 g A c l W) (hK : ∀ w', StH w0 g A c l w' → wpList Tryz.prog ops Q rest (a.put o.dst (.int .i64 (l.length : Int))) w') : wpList Tryz.prog ops Q (o :: rest) a W := by
  refine wpList_plain hg fun K hK' => ?_
  have m0 := fun n => que_len n g _ W S.cell
  have eL : ∀ args w, (callFunc 76 args).run Tryz.prog w = .ok (.enter 76 args) w := enters_ Tryz.func76 (by kernel_rfl) rfl
  have hrun : (execOp a.eval o).run Tryz.prog W = .ok (.enter 76 #[.slice A l.length c]) W := by
    generalize a.eval = ρ at hr
    simp [execOp, hop, resolve, invoke, callMethod, go_sem, hr, m0, eL]
  unfold Oper.wp
  rw [hrun, Oper.upon_enter]
  refine (hlen_calls S).mono ?_
  rintro e w' ⟨rfl, S'⟩
  exact hK' _ _ (hK _ S')

end Go.Proofs.YthkpaoajfiapkaaGreat
end
section
set_option linter.unusedVariables false
set_option linter.unusedSimpArgs false
set_option maxHeartbeats 4000000
namespace Go.Proofs.YthkpaoajfiapkaaGreat
open Go.RowKit Go.Proofs.YthkpaoajfiapkaaGreatW.PrintWords Go.Proofs.YthkpaoajfiapkaaGreatW.PrintMore Go.Proofs.YthkpaoajfiapkaaGreatW.PrintLast

def IsB (e : Ending) : Prop := ∃ b, e = .returned (.bool b)
theorem swp_ats (l : List Plc) (hl : Ats l) (i j : Nat) (hi : i < l.length) (hj : j < l.length) : Ats (Hp.swp pz l i j) := fun p hp => hl p ((Hp.swp_perm pz l i j hi hj).mem_iff.1 hp)
theorem hdown_calls {w0 g A c l w} (h : StH w0 g A c l w) (hl : Ats l) (hc : l.length < 4611686018427387904) (i n : Nat) (hi : i ≤ n) (hn : n ≤ l.length) :
    Calls Tryz.prog 85 #[.iface 101 (.pointer (some ⟨g, 0, none⟩)), .int .i64 i, .int .i64 n] w fun e w' => IsB e ∧ StH w0 g A c (Hp.down pz pkey n n i l) w' := by
  go_enter Tryz.func85, Tryz.ntmps85
  go_wp2
  go_loopg [7] n (fun kx s7 wr => ∃ (r : Nat) (lk : List Plc), s7 = .int .i64 r ∧ r ≤ n ∧ n ≤ r + kx ∧ lk.length = l.length ∧ Ats lk ∧ Aside (StH w0 g A c lk wr) ∧ Hid (Hp.down pz pkey n kx r lk = Hp.down pz pkey n n i l))
  case atStart => exact ⟨i, l, rfl, hi, by omega, rfl, hl, h, rfl⟩
  case round =>
    obtain ⟨r, lk, rfl, hr, hk, hll, hal, S, HE⟩ := hrel
    have hrn : r < 4611686018427387904 := by omega
    by_cases h1 : n ≤ 2 * r + 1
    · have h1z : (n : Int) ≤ 2 * (r : Int) + 1 := by omega
      have HE2 := HE.out
      rw [Hp.down_stop pz pkey n gk r lk h1] at HE2
      have HE3 := Lib.hid HE2
      clear HE HE2
      go_wp2
      go_ret
      exact ⟨⟨_, rfl⟩, by rw [← HE3.out]; exact S.out⟩
    have h1z : ¬ ((n : Int) ≤ 2 * (r : Int) + 1) := by omega
    obtain ⟨kx, rfl⟩ : ∃ k, gk = k + 1 := ⟨gk - 1, by omega⟩
    have HC := Lib.hid h1
    have h0z : ¬ (2 * (r : Int) + 1 < 0) := by omega
    by_cases h2 : 2 * r + 2 < n
    · have h2z : 2 * (r : Int) + 1 + 1 < (n : Int) := by omega
      cases hL : decide (pkey (lk.getD (2 * r + 2) pz) > pkey (lk.getD (2 * r + 1) pz)) with
      | true =>
        have HL := Lib.hid hL
        have HJ := Lib.hid (Hp.child_right pz pkey n r lk h2 hL)
        clear hL
        cases hG : decide (pkey (lk.getD (2 * r + 2) pz) > pkey (lk.getD r pz)) with
        | true =>
          have HG := Lib.hid hG
          have HE2 := Lib.hid ((Hp.down_go pz pkey n kx r lk _ HC.out HJ.out (of_decide_eq_true hG)).symm.trans HE.out)
          clear hG HE HJ HC
          go_wp2_with (first | ((with_reducible refine gate_dst (N := 32) rfl ?_); refine gate_guard (by rfl) ?_; refine inv_less (2 * r + 2) (2 * r + 1) rfl rfl rfl rfl rfl ?e1 ?e2 S.out hal (by omega) (by omega) ?_; (case e1 => omega); (case e2 => omega); intro w1 S1; rw [HL.out]; have T1 : Aside _ := S1; clear S S1; have S := T1; clear T1 HL) | ((with_reducible refine gate_dst (N := 38) rfl ?_); refine inv_less (2 * r + 2) r rfl rfl rfl rfl rfl ?e1 ?e2 S.out hal (by omega) (by omega) ?_; (case e1 => omega); (case e2 => omega); intro w2 S1; rw [HG.out]; have T1 : Aside _ := S1; clear S S1; have S := T1; clear T1 HG) | ((with_reducible refine gate_dst (N := 43) rfl ?_); refine inv_swap r (2 * r + 2) rfl rfl rfl rfl rfl ?e1 ?e2 S.out (by omega) (by omega) ?_; (case e1 => omega); (case e2 => omega); intro w3 S1; have T1 : Aside _ := S1; clear S S1; have S := T1; clear T1))
          go_roundg kx
          case measure => omega
          case rel => exact ⟨2 * r + 2, Hp.swp pz lk r (2 * r + 2), by first | rfl | (congr 1; omega), by omega, by omega, by rw [Hp.swp_length]; exact hll, swp_ats lk hal r (2 * r + 2) (by omega) (by omega), S, HE2⟩
        | false =>
          have HG := Lib.hid hG
          have HE2 := Lib.hid ((Hp.down_halt pz pkey n kx r lk _ HC.out HJ.out (of_decide_eq_false hG)).symm.trans HE.out)
          clear hG HE HJ HC
          go_wp2_with (first | ((with_reducible refine gate_dst (N := 32) rfl ?_); refine gate_guard (by rfl) ?_; refine inv_less (2 * r + 2) (2 * r + 1) rfl rfl rfl rfl rfl ?e1 ?e2 S.out hal (by omega) (by omega) ?_; (case e1 => omega); (case e2 => omega); intro w1 S1; rw [HL.out]; have T1 : Aside _ := S1; clear S S1; have S := T1; clear T1 HL) | ((with_reducible refine gate_dst (N := 38) rfl ?_); refine inv_less (2 * r + 2) r rfl rfl rfl rfl rfl ?e1 ?e2 S.out hal (by omega) (by omega) ?_; (case e1 => omega); (case e2 => omega); intro w2 S1; rw [HG.out]; have T1 : Aside _ := S1; clear S S1; have S := T1; clear T1 HG))
          go_ret
          exact ⟨⟨_, rfl⟩, by rw [← HE2.out]; exact S.out⟩
      | false =>
        have HL := Lib.hid hL
        have HJ := Lib.hid (Hp.child_left pz pkey n r lk (fun _ => hL))
        clear hL
        cases hG : decide (pkey (lk.getD (2 * r + 1) pz) > pkey (lk.getD r pz)) with
        | true =>
          have HG := Lib.hid hG
          have HE2 := Lib.hid ((Hp.down_go pz pkey n kx r lk _ HC.out HJ.out (of_decide_eq_true hG)).symm.trans HE.out)
          clear hG HE HJ HC
          go_wp2_with (first | ((with_reducible refine gate_dst (N := 32) rfl ?_); refine gate_guard (by rfl) ?_; refine inv_less (2 * r + 2) (2 * r + 1) rfl rfl rfl rfl rfl ?e1 ?e2 S.out hal (by omega) (by omega) ?_; (case e1 => omega); (case e2 => omega); intro w1 S1; rw [HL.out]; have T1 : Aside _ := S1; clear S S1; have S := T1; clear T1 HL) | ((with_reducible refine gate_dst (N := 38) rfl ?_); refine inv_less (2 * r + 1) r rfl rfl rfl rfl rfl ?e1 ?e2 S.out hal (by omega) (by omega) ?_; (case e1 => omega); (case e2 => omega); intro w2 S1; rw [HG.out]; have T1 : Aside _ := S1; clear S S1; have S := T1; clear T1 HG) | ((with_reducible refine gate_dst (N := 43) rfl ?_); refine inv_swap r (2 * r + 1) rfl rfl rfl rfl rfl ?e1 ?e2 S.out (by omega) (by omega) ?_; (case e1 => omega); (case e2 => omega); intro w3 S1; have T1 : Aside _ := S1; clear S S1; have S := T1; clear T1))
          go_roundg kx
          case measure => omega
          case rel => exact ⟨2 * r + 1, Hp.swp pz lk r (2 * r + 1), by first | rfl | (congr 1; omega), by omega, by omega, by rw [Hp.swp_length]; exact hll, swp_ats lk hal r (2 * r + 1) (by omega) (by omega), S, HE2⟩
        | false =>
          have HG := Lib.hid hG
          have HE2 := Lib.hid ((Hp.down_halt pz pkey n kx r lk _ HC.out HJ.out (of_decide_eq_false hG)).symm.trans HE.out)
          clear hG HE HJ HC
          go_wp2_with (first | ((with_reducible refine gate_dst (N := 32) rfl ?_); refine gate_guard (by rfl) ?_; refine inv_less (2 * r + 2) (2 * r + 1) rfl rfl rfl rfl rfl ?e1 ?e2 S.out hal (by omega) (by omega) ?_; (case e1 => omega); (case e2 => omega); intro w1 S1; rw [HL.out]; have T1 : Aside _ := S1; clear S S1; have S := T1; clear T1 HL) | ((with_reducible refine gate_dst (N := 38) rfl ?_); refine inv_less (2 * r + 1) r rfl rfl rfl rfl rfl ?e1 ?e2 S.out hal (by omega) (by omega) ?_; (case e1 => omega); (case e2 => omega); intro w2 S1; rw [HG.out]; have T1 : Aside _ := S1; clear S S1; have S := T1; clear T1 HG))
          go_ret
          exact ⟨⟨_, rfl⟩, by rw [← HE2.out]; exact S.out⟩
    · have h2z : ¬ (2 * (r : Int) + 1 + 1 < (n : Int)) := by omega
      have HJ := Lib.hid (Hp.child_left pz pkey n r lk (fun h => absurd h h2))
      cases hG : decide (pkey (lk.getD (2 * r + 1) pz) > pkey (lk.getD r pz)) with
      | true =>
        have HG := Lib.hid hG
        have HE2 := Lib.hid ((Hp.down_go pz pkey n kx r lk _ HC.out HJ.out (of_decide_eq_true hG)).symm.trans HE.out)
        clear hG HE HJ HC
        go_wp2_with (first | ((with_reducible refine gate_dst (N := 38) rfl ?_); refine inv_less (2 * r + 1) r rfl rfl rfl rfl rfl ?e1 ?e2 S.out hal (by omega) (by omega) ?_; (case e1 => omega); (case e2 => omega); intro w2 S1; rw [HG.out]; have T1 : Aside _ := S1; clear S S1; have S := T1; clear T1 HG) | ((with_reducible refine gate_dst (N := 43) rfl ?_); refine inv_swap r (2 * r + 1) rfl rfl rfl rfl rfl ?e1 ?e2 S.out (by omega) (by omega) ?_; (case e1 => omega); (case e2 => omega); intro w3 S1; have T1 : Aside _ := S1; clear S S1; have S := T1; clear T1))
        go_roundg kx
        case measure => omega
        case rel => exact ⟨2 * r + 1, Hp.swp pz lk r (2 * r + 1), by first | rfl | (congr 1; omega), by omega, by omega, by rw [Hp.swp_length]; exact hll, swp_ats lk hal r (2 * r + 1) (by omega) (by omega), S, HE2⟩
      | false =>
        have HG := Lib.hid hG
        have HE2 := Lib.hid ((Hp.down_halt pz pkey n kx r lk _ HC.out HJ.out (of_decide_eq_false hG)).symm.trans HE.out)
        clear hG HE HJ HC
        go_wp2_with (first | ((with_reducible refine gate_dst (N := 38) rfl ?_); refine inv_less (2 * r + 1) r rfl rfl rfl rfl rfl ?e1 ?e2 S.out hal (by omega) (by omega) ?_; (case e1 => omega); (case e2 => omega); intro w2 S1; rw [HG.out]; have T1 : Aside _ := S1; clear S S1; have S := T1; clear T1 HG))
        go_ret
        exact ⟨⟨_, rfl⟩, by rw [← HE2.out]; exact S.out⟩

end Go.Proofs.YthkpaoajfiapkaaGreat
end
section
set_option linter.unusedVariables false
set_option linter.unusedSimpArgs false
set_option maxHeartbeats 4000000
namespace Go.Proofs.YthkpaoajfiapkaaGreat
open Go.RowKit Go.Proofs.YthkpaoajfiapkaaGreatW.PrintWords Go.Proofs.YthkpaoajfiapkaaGreatW.PrintMore Go.Proofs.YthkpaoajfiapkaaGreatW.PrintLast

theorem down_ats (l : List Plc) (hl : Ats l) (n f i : Nat) (hn : n ≤ l.length) (hi : i < n) : Ats (Hp.down pz pkey n f i l) := fun p hp => hl p ((Hp.down_perm pz pkey n f i l hn hi).mem_iff.1 hp)
theorem hinit_calls {w0 g A c l w} (h : StH w0 g A c l w) (hl : Ats l) (hc : l.length < 4611686018427387904) :
    Calls Tryz.prog 75 #[.iface 101 (.pointer (some ⟨g, 0, none⟩))] w fun e w' => e = .returned (.tuple #[]) ∧ StH w0 g A c (Hp.init pz pkey l.length (l.length / 2) l) w' := by
  go_enter Tryz.func75, Tryz.ntmps75
  have S : Aside _ := h
  clear h
  go_wp2_with (first | ((with_reducible refine gate_dst (N := 5) rfl ?_); refine inv_len rfl rfl rfl S.out ?_; intro w1 S1; have T1 : Aside _ := S1; clear S S1; have S := T1; clear T1))
  go_loopg [3] (l.length / 2) (fun kx s3 wr => ∃ (lk : List Plc), s3 = .int .i64 ((kx : Int) - 1) ∧ kx ≤ l.length / 2 ∧ lk.length = l.length ∧ Ats lk ∧ Aside (StH w0 g A c lk wr) ∧ Hid (Hp.init pz pkey l.length kx lk = Hp.init pz pkey l.length (l.length / 2) l))
  case atStart => exact ⟨l, by congr 1, Nat.le_refl _, rfl, hl, S, rfl⟩
  case round =>
    obtain ⟨lk, rfl, hk, hll, hal, S, HE⟩ := hrel
    cases gk with
    | zero =>
      have HE3 := Lib.hid (show lk = _ from HE.out)
      clear HE
      go_wp2
      go_end0
      exact ⟨rfl, by rw [← HE3.out]; exact S.out⟩
    | succ kx =>
      have e1 : ((kx + 1 : Nat) : Int) - 1 = (kx : Int) := by omega
      rw [e1]
      clear e1
      have hz : (0 : Int) ≤ (kx : Int) := by omega
      have HE3 := Lib.hid (show Hp.init pz pkey l.length kx (Hp.down pz pkey l.length l.length kx lk) = _ from HE.out)
      clear HE
      go_wp2_with ((go_at_call 85); refine (hdown_calls S.out hal (by omega) kx l.length (by omega) (by omega)).mono ?_; rintro e w' ⟨⟨b, rfl⟩, S1⟩; have T1 : Aside _ := S1; clear S S1; have S := T1; clear T1)
      go_roundg kx
      case measure => omega
      case rel => exact ⟨Hp.down pz pkey l.length l.length kx lk, rfl, by omega, by rw [Hp.down_length]; exact hll, down_ats lk hal _ _ _ (by omega) (by omega), S, HE3⟩

end Go.Proofs.YthkpaoajfiapkaaGreat
end
section
set_option linter.unusedVariables false
set_option linter.unusedSimpArgs false
set_option maxHeartbeats 4000000
namespace Go.Proofs.YthkpaoajfiapkaaGreat
open Go.RowKit Go.Proofs.YthkpaoajfiapkaaGreatW.PrintWords Go.Proofs.YthkpaoajfiapkaaGreatW.PrintMore Go.Proofs.YthkpaoajfiapkaaGreatW.PrintLast

theorem own_len (A : Option Addr) (n m c : Nat) : (Value.slice A n c).ownBlock = (Value.slice A m c).ownBlock := by
  cases A with
  | none => rfl
  | some a => rfl
theorem StH.glt {w0 g A c l w} (h : StH w0 g A c l w) : g < w.heap.size := blk_lt h.box
theorem StH.olt {w0 g A c l w} (h : StH w0 g A c l w) (k : Nat) (hk : (Value.slice A l.length c).ownBlock = some k) : k < w.heap.size := by
  obtain ⟨h0, inner, ho, hr⟩ := h.row
  exact own_lt ho k hk
theorem StH.far {w0 g A c l w} (h : StH w0 g A c l w) {gb : Nat} (h1 : g ≠ gb) (h2 : some gb ≠ (Value.slice A l.length c).ownBlock) (h3 : w0.heap.size ≤ gb) (i : Nat) (u : Value) : StH w0 g A c l (w.setCell ⟨gb, i, none⟩ u) where
  below := below_set h.below h3
  row := Kd.R_far h.row (fun k hk e => h2 (by rw [← hk]; exact congrArg some e.symm)) u
  box := blk_far h.box h1 u
  mine := h.mine
  apart := h.apart
theorem StH.cut {w0 g A c l w} (h : StH w0 g A c l w) (m : Nat) (hm : m ≤ l.length) : StH w0 g A c (l.take m) (w.setCell ⟨g, 0, none⟩ (.slice A m c)) := by
  have hl : (l.take m).length = m := by rw [List.length_take]; omega
  refine ⟨below_set h.below h.mine, ?_, ?_, h.mine, ?_⟩
  · rw [hl]
    refine Kd.R_mono (Kd.R_far (Kd.R_take h.row hm) (fun k hk e => h.apart (by rw [← hk]; exact congrArg some e.symm)) _) (fun k hk => ?_)
    rw [hk]; exact own_len A _ _ c
  · rw [hl]; exact blk_set h.box 0 _
  · rw [hl, own_len A m l.length c]; exact h.apart
def pval (p : Plc) : Value := .agg #[.int .i64 p.f0, .int .i64 p.f1.f0, .int .i64 p.f1.f1, .int .i64 p.f1.f2, .int .i64 p.f1.f3]
theorem qpop_calls {w0 g A c l w} (h : StH w0 g A c l w) (hl : l ≠ []) (hc : l.length < 4611686018427387904) :
    Calls Tryz.prog 125 #[.pointer (some ⟨g, 0, none⟩)] w fun e w' => e = .returned (.iface 68 (pval (l.getD (l.length - 1) pz))) ∧ StH w0 g A c (l.take (l.length - 1)) w' := by
  obtain ⟨m, hm⟩ : ∃ m, l.length = m + 1 := ⟨l.length - 1, by have := List.length_pos_iff.2 hl; omega⟩
  have hpv : pval (l.getD (l.length - 1) pz) = .agg #[.int .i64 (P.rd_T68 l (m : Int)).f0, .int .i64 (P.rd_T68 l (m : Int)).f1.f0, .int .i64 (P.rd_T68 l (m : Int)).f1.f1, .int .i64 (P.rd_T68 l (m : Int)).f1.f2, .int .i64 (P.rd_T68 l (m : Int)).f1.f3] := by
    rw [hm]; rfl
  rw [hpv]
  clear hpv
  have S := Aside0.mk h
  obtain ⟨ad, e1, hx0, hx1, hx2, hx3, hx4⟩ := P.at_T68 (Kd.R_reads' h.row).2.2 (m : Int) (by omega) (by omega)
  subst e1
  have hg := h.cell
  rw [hm] at hg
  have hf : w.frozen? ⟨g, 0, none⟩ = false := blk_frozen h.box 0
  have hlc : l.length ≤ c := (Kd.R_reads' h.row).2.1
  rw [hm] at hlc
  have hmc : m ≤ c := by omega
  have hmc2 : (m : Int) ≤ (c : Int) := by omega
  clear h hlc
  have hc2 := hc
  rw [hm] at hc2
  have hmi : ((m : Int) < (m : Int) + 1) = True := eq_true (by omega)
  simp only [Int.toNat_natCast] at hx0 hx1 hx2 hx3 hx4
  generalize P.rd_T68 l (m : Int) = p at hx0 hx1 hx2 hx3 hx4 ⊢
  go_enter Tryz.func125, Tryz.ntmps125
  go_wp2_with (first | ((with_reducible refine gate_dst (N := 4) rfl ?_); refine box_event ?hg (N := 4) ?hd (cs := #[.int .i64 0, .int .i64 0, .int .i64 0, .int .i64 0, .int .i64 0]) (t := 68) ?hr ?_; (case hd => rfl); (case hg => rfl); (case hr => first | (go_simp; done) | (go_simp; rfl)); intro gb hgb W hbox hb; have S2 := Aside0.mk (S.out.step hb); have G1 := Aside0.mk (show g ≠ gb from fun e => absurd S.out.glt (by omega)); have G2 := Aside0.mk (show some gb ≠ (Value.slice (some ad) l.length c).ownBlock from fun e => absurd (S.out.olt gb e.symm) (by omega)); have G3 := Aside0.mk (show _ ≤ gb from by rw [hgb]; exact S.out.below.size); have BX := Aside0.mk hbox; clear hx0 hx1 hx2 hx3 hx4 hg hf hgb hb hbox; have hcz0 : W.cell? ⟨gb, 0, none⟩ = some (.int .i64 0) := (blk_cell BX.out 0).trans rfl; have hcz1 : W.cell? ⟨gb, 1, none⟩ = some (.int .i64 0) := (blk_cell BX.out 1).trans rfl; have hcz2 : W.cell? ⟨gb, 2, none⟩ = some (.int .i64 0) := (blk_cell BX.out 2).trans rfl; have hcz3 : W.cell? ⟨gb, 3, none⟩ = some (.int .i64 0) := (blk_cell BX.out 3).trans rfl; have hcz4 : W.cell? ⟨gb, 4, none⟩ = some (.int .i64 0) := (blk_cell BX.out 4).trans rfl; have hfz0 := blk_frozen BX.out 0; have hfz1 := blk_frozen BX.out 1; have hfz2 := blk_frozen BX.out 2; have hfz3 := blk_frozen BX.out 3; have hfz4 := blk_frozen BX.out 4) | ((with_reducible refine gate_dst (N := 19) rfl ?_); (have S3 := Aside0.mk (show StH w0 g (some ad) c l (World.setCell (World.setCell (World.setCell (World.setCell (World.setCell W ⟨gb, 0, none⟩ (Value.int IntKind.i64 p.f0)) ⟨gb, 1, none⟩ (Value.int IntKind.i64 p.f1.f0)) ⟨gb, 2, none⟩ (Value.int IntKind.i64 p.f1.f1)) ⟨gb, 3, none⟩ (Value.int IntKind.i64 p.f1.f2)) ⟨gb, 4, none⟩ (Value.int IntKind.i64 p.f1.f3)) from (((((S2.out.far G1.out G2.out G3.out 0 _).far G1.out G2.out G3.out 1 _).far G1.out G2.out G3.out 2 _).far G1.out G2.out G3.out 3 _).far G1.out G2.out G3.out 4 _))); (have BX3 := Aside0.mk (show (World.heap (World.setCell (World.setCell (World.setCell (World.setCell (World.setCell W ⟨gb, 0, none⟩ (Value.int IntKind.i64 p.f0)) ⟨gb, 1, none⟩ (Value.int IntKind.i64 p.f1.f0)) ⟨gb, 2, none⟩ (Value.int IntKind.i64 p.f1.f1)) ⟨gb, 3, none⟩ (Value.int IntKind.i64 p.f1.f2)) ⟨gb, 4, none⟩ (Value.int IntKind.i64 p.f1.f3)))[gb]? = some (.cells #[.int .i64 p.f0, .int .i64 p.f1.f0, .int .i64 p.f1.f1, .int .i64 p.f1.f2, .int .i64 p.f1.f3] 68 (0, 0)) from (blk_set (blk_set (blk_set (blk_set (blk_set BX.out 0 _) 1 _) 2 _) 3 _) 4 _))); clear hcz0 hcz1 hcz2 hcz3 hcz4 hfz0 hfz1 hfz2 hfz3 hfz4; (generalize (World.setCell (World.setCell (World.setCell (World.setCell (World.setCell W ⟨gb, 0, none⟩ (Value.int IntKind.i64 p.f0)) ⟨gb, 1, none⟩ (Value.int IntKind.i64 p.f1.f0)) ⟨gb, 2, none⟩ (Value.int IntKind.i64 p.f1.f1)) ⟨gb, 3, none⟩ (Value.int IntKind.i64 p.f1.f2)) ⟨gb, 4, none⟩ (Value.int IntKind.i64 p.f1.f3)) = W2 at S3 BX3 ⊢); (have hg2 : W2.cell? ⟨g, 0, none⟩ = some (.slice (some ad) (m + 1) c) := by (rw [← hm]); exact S3.out.cell); (have hf2 : W2.frozen? ⟨g, 0, none⟩ = false := blk_frozen S3.out.box 0)) | ((with_reducible refine gate_dst (N := 23) rfl ?_); have S4 := Aside0.mk (S3.out.cut m (by omega)); have BX4 := Aside0.mk (blk_far BX3.out (p := ⟨g, 0, none⟩) G1.out.symm (.slice (some ad) m c)); clear hg2 hf2; generalize (World.setCell W2 ⟨g, 0, none⟩ (.slice (some ad) m c)) = W3 at S4 BX4 ⊢; have hy0 : W3.cell? ⟨gb, 0, none⟩ = some (.int .i64 p.f0) := (blk_cell BX4.out 0).trans rfl; have hy1 : W3.cell? ⟨gb, 1, none⟩ = some (.int .i64 p.f1.f0) := (blk_cell BX4.out 1).trans rfl; have hy2 : W3.cell? ⟨gb, 2, none⟩ = some (.int .i64 p.f1.f1) := (blk_cell BX4.out 2).trans rfl; have hy3 : W3.cell? ⟨gb, 3, none⟩ = some (.int .i64 p.f1.f2) := (blk_cell BX4.out 3).trans rfl; have hy4 : W3.cell? ⟨gb, 4, none⟩ = some (.int .i64 p.f1.f3) := (blk_cell BX4.out 4).trans rfl))
  go_ret
  exact ⟨rfl, by rw [hm, Nat.add_sub_cancel]; exact S4.out⟩

theorem inv_pop {w0 g A c l} {W : World} {ops : Array Oper} {rest : List Oper} {o : Oper} {a : Act} {Q : Exit → Act → World → Prop} (hg : o.guard = none) {r : Operand} {ts : Array TypeId}
    (hop : o.op = Op.call { callee := Callee.invoke r "Pop", args := #[], argTypes := ts }) (hr : a.eval r = .iface 101 (.pointer (some ⟨g, 0, none⟩)))
    (S : StH w0 g A c l W) (hl : l ≠ []) (hc : l.length < 4611686018427387904) (v : Value) (hv : pval (l.getD (l.length - 1) pz) = v) (hK : ∀ w', StH w0 g A c (l.take (l.length - 1)) w' → wpList Tryz.prog ops Q rest (a.put o.dst (.iface 68 v)) w') : wpList Tryz.prog ops Q (o :: rest) a W := by
  subst hv
  refine wpList_plain hg fun K hK' => ?_
  have m0 := fun n => que_pop n g W
  have eL : ∀ args w, (callFunc 125 args).run Tryz.prog w = .ok (.enter 125 args) w := enters_ Tryz.func125 (by kernel_rfl) rfl
  have hrun : (execOp a.eval o).run Tryz.prog W = .ok (.enter 125 #[.pointer (some ⟨g, 0, none⟩)]) W := by
    generalize a.eval = ρ at hr
    simp [execOp, hop, resolve, invoke, callMethod, go_sem, hr, m0, eL]
  unfold Oper.wp
  rw [hrun, Oper.upon_enter]
  refine (qpop_calls S hl hc).mono ?_
  rintro e w' ⟨rfl, S'⟩
  exact hK' _ _ (hK _ S')
theorem hpop_calls {w0 g A c l w} (h : StH w0 g A c l w) (hal : Ats l) (hl : l ≠ []) (hc : l.length < 4611686018427387904) :
    Calls Tryz.prog 77 #[.iface 101 (.pointer (some ⟨g, 0, none⟩))] w fun e w' => e = .returned (.iface 68 (pval (l.getD 0 pz))) ∧ StH w0 g A c (Hp.rest pz pkey l) w' := by
  have hp : 0 < l.length := List.length_pos_iff.2 hl
  have he : pval (l.getD 0 pz) = pval ((Hp.popped pz pkey l).getD ((Hp.popped pz pkey l).length - 1) pz) := by rw [Hp.popped_length, Hp.popped_last pz pkey l hl]
  have hr : Hp.rest pz pkey l = (Hp.popped pz pkey l).take ((Hp.popped pz pkey l).length - 1) := by rw [Hp.popped_length]; rfl
  have hpl := Hp.popped_length pz pkey l
  have hpn : Hp.popped pz pkey l ≠ [] := fun e => by rw [e] at hpl; exact absurd hpl (by simp only [List.length_nil]; omega)
  rw [he, hr]
  obtain ⟨m, hm⟩ : ∃ m, l.length = m + 1 := ⟨l.length - 1, by omega⟩
  have S : Aside _ := h
  clear h he hr
  generalize hv : pval ((Hp.popped pz pkey l).getD ((Hp.popped pz pkey l).length - 1) pz) = v
  have HV := Lib.hid hv
  clear hv
  go_enter Tryz.func77, Tryz.ntmps77
  go_wp2_with (first | ((with_reducible refine gate_dst (N := 5) rfl ?_); refine inv_len rfl rfl rfl S.out ?_; intro w1 S1; have T1 : Aside _ := S1; clear S S1; have S := T1; clear T1) | ((with_reducible refine gate_dst (N := 9) rfl ?_); refine inv_swap 0 (l.length - 1) rfl rfl rfl rfl rfl ?e1 ?e2 S.out (by omega) (by omega) ?_; (case e1 => omega); (case e2 => omega); intro w3 S1; have T1 : Aside _ := S1; clear S S1; have S := T1; clear T1) | (go_at_call 85; refine (calls_of_args ?hargs ((hdown_calls S.out (swp_ats l hal 0 (l.length - 1) (by omega) (by omega)) (by rw [Hp.swp_length]; exact hc) 0 (l.length - 1) (by omega) (by rw [Hp.swp_length]; omega)).mono ?_)); (case hargs => rw [show l.length - 1 = m by omega]; rfl); rintro e w' ⟨⟨b, rfl⟩, S1⟩; have T1 : Aside (StH w0 g A c (Hp.popped pz pkey l) w') := S1; clear S S1; have S := T1; clear T1) | ((with_reducible refine gate_dst (N := 14) rfl ?_); refine inv_pop rfl rfl rfl S.out hpn (by omega) v HV.out ?_; intro w4 S1; have T1 : Aside _ := S1; clear S S1; have S := T1; clear T1))
  go_ret
  exact ⟨rfl, S.out⟩

end Go.Proofs.YthkpaoajfiapkaaGreat
end
section
set_option linter.unusedVariables false
set_option linter.unusedSimpArgs false
set_option maxHeartbeats 4000000
namespace Go.Proofs.YthkpaoajfiapkaaGreat

abbrev Asc (l : List Plc) : Prop := l.Pairwise (fun p q => p.f0 < q.f0)
def stepB (good : Plc → Bool) (b : Option Plc) (p : Plc) : Option Plc := if (good p && (b.all fun q => decide (q.f1.f0 ≤ p.f1.f0))) = true then some p else b
theorem step_best (good : Plc → Bool) (l : List Plc) (p : Plc) (b : Option Plc) (hl : Ats (l ++ [p])) (ha : Asc (l ++ [p])) (hb : Hp.Best pkey good l b) : Hp.Best pkey good (l ++ [p]) (stepB good b p) := by
  have hp := hl p (by simp)
  unfold stepB
  cases hg : good p with
  | false =>
    simp only [Bool.false_and, Bool.false_eq_true, if_false]
    cases b with
    | none =>
      intro x hx
      rcases List.mem_append.1 hx with h | h
      · exact hb x h
      · rw [List.mem_singleton.1 h]; exact hg
    | some q =>
      refine ⟨List.mem_append_left _ hb.1, hb.2.1, fun x hx hgx => ?_⟩
      rcases List.mem_append.1 hx with h | h
      · exact hb.2.2 x h hgx
      · rw [List.mem_singleton.1 h, hg] at hgx; cases hgx
  | true =>
    simp only [Bool.true_and]
    cases b with
    | none =>
      simp only [Option.all_none, if_true]
      refine ⟨by simp, hg, fun x hx hgx => ?_⟩
      rcases List.mem_append.1 hx with h | h
      · have := hb x h; rw [hgx] at this; cases this
      · rw [List.mem_singleton.1 h]; exact Int.le_refl _
    | some q =>
      have hq := hl q (List.mem_append_left _ hb.1)
      have hqp : q.f0 < p.f0 := (List.pairwise_append.1 ha).2.2 q hb.1 p (by simp)
      simp only [Option.all_some]
      by_cases hs : q.f1.f0 ≤ p.f1.f0
      · rw [if_pos (decide_eq_true hs)]
        have hk : pkey q ≤ pkey p := by unfold pkey; omega
        refine ⟨by simp, hg, fun x hx hgx => ?_⟩
        rcases List.mem_append.1 hx with h | h
        · exact Int.le_trans (hb.2.2 x h hgx) hk
        · rw [List.mem_singleton.1 h]; exact Int.le_refl _
      · rw [if_neg (fun h => hs (of_decide_eq_true h))]
        have hk : pkey p ≤ pkey q := by unfold pkey; omega
        refine ⟨List.mem_append_left _ hb.1, hb.2.1, fun x hx hgx => ?_⟩
        rcases List.mem_append.1 hx with h | h
        · exact hb.2.2 x h hgx
        · rw [List.mem_singleton.1 h]; exact hk
theorem fold_best (good : Plc → Bool) : ∀ (l2 l1 : List Plc) (b : Option Plc), Ats (l1 ++ l2) → Asc (l1 ++ l2) → Hp.Best pkey good l1 b → Hp.Best pkey good (l1 ++ l2) (l2.foldl (stepB good) b)
  | [], l1, b, _, _, hb => by rw [List.append_nil]; exact hb
  | p :: l2, l1, b, hl, ha, hb => by
    rw [List.append_cons] at hl ha ⊢
    rw [List.foldl_cons]
    exact fold_best good l2 (l1 ++ [p]) _ hl ha (step_best good l1 p b (fun x hx => hl x (List.mem_append_left _ hx)) (List.pairwise_append.1 ha).1 hb)
theorem asc_inj : ∀ {l : List Plc}, Asc l → ∀ {p q}, p ∈ l → q ∈ l → p.f0 = q.f0 → p = q
  | [], _, _, _, h, _, _ => by cases h
  | x :: l, ha, p, q, hp, hq, he => by
    have h1 := List.pairwise_cons.1 ha
    rcases List.mem_cons.1 hp with rfl | hp'
    · rcases List.mem_cons.1 hq with rfl | hq'
      · rfl
      · have := h1.1 q hq'; omega
    · rcases List.mem_cons.1 hq with rfl | hq'
      · have := h1.1 p hp'; omega
      · exact asc_inj h1.2 hp' hq' he
theorem best_unique {good : Plc → Bool} {l : List Plc} (hl : Ats l) (ha : Asc l) {o1 o2 : Option Plc} (h1 : Hp.Best pkey good l o1) (h2 : Hp.Best pkey good l o2) : o1 = o2 := by
  cases o1 with
  | none =>
    cases o2 with
    | none => rfl
    | some q => have := h1 q h2.1; rw [h2.2.1] at this; cases this
  | some p =>
    cases o2 with
    | none => have := h2 p h1.1; rw [h1.2.1] at this; cases this
    | some q =>
      have e1 := h1.2.2 q h2.1 h2.2.1
      have e2 := h2.2.2 p h1.1 h1.2.1
      have b1 := hl p h1.1
      have b2 := hl q h2.1
      rw [asc_inj ha h1.1 h2.1 (by unfold pkey at e1 e2; omega)]
theorem best_perm {good : Plc → Bool} {l l' : List Plc} (hp : l'.Perm l) {o : Option Plc} (h : Hp.Best pkey good l' o) : Hp.Best pkey good l o := by
  cases o with
  | none => exact fun x hx => h x (hp.mem_iff.2 hx)
  | some p => exact ⟨hp.mem_iff.1 h.1, h.2.1, fun x hx hg => h.2.2 x (hp.mem_iff.2 hx) hg⟩
theorem foldM_some (G : Plc → Option (Bool × Int)) : ∀ (l : List Plc) (b r : Option Plc), l.foldlM (fun (b : Option Plc) p => (G p).bind fun g => some (if g.1 && (b.all fun q => decide (q.f1.f0 ≤ p.f1.f0)) then some p else b)) b = some r →
    (∀ p ∈ l, ∃ g, G p = some g) ∧ r = l.foldl (stepB (fun p => ((G p).map (·.1)).getD false)) b
  | [], b, r, h => by
    rw [List.foldlM_nil] at h
    exact ⟨fun p hp => (by cases hp), (Option.some.inj h).symm⟩
  | p :: l, b, r, h => by
    rw [List.foldlM_cons] at h
    cases hg : G p with
    | none => rw [hg] at h; cases h
    | some g =>
      rw [hg] at h
      have := foldM_some G l _ r h
      refine ⟨fun q hq => ?_, ?_⟩
      · rcases List.mem_cons.1 hq with rfl | hq'
        · exact ⟨g, hg⟩
        · exact this.1 q hq'
      · rw [this.2, List.foldl_cons]
        congr 1
        unfold stepB
        show _ = if (((G p).map (·.1)).getD false && (b.all fun q => decide (q.f1.f0 ≤ p.f1.f0))) = true then some p else b
        rw [hg]
        rfl
theorem pick_fold (good : Plc → Bool) (l : List Plc) (hl : Ats l) (ha : Asc l) : Hp.pick pz pkey good l.length (Hp.init pz pkey l.length (l.length / 2) l) = l.foldl (stepB good) none := by
  have hlen := Hp.init_length pz pkey l.length (l.length / 2) l
  have hh := Hp.init_heap pz pkey l.length (l.length / 2) l (Nat.le_refl _) (by omega) (fun k hk c hc hn => by omega)
  refine best_unique hl ha (best_perm (Hp.init_perm pz pkey l.length (l.length / 2) l (Nat.le_refl _) (by omega)) (Hp.pick_best pz pkey good l.length _ (by omega) (by rw [hlen]; exact hh))) ?_
  exact fold_best good l [] none (by simpa using hl) (by simpa using ha) (fun x hx => by cases hx)
end Go.Proofs.YthkpaoajfiapkaaGreat
end
section
set_option linter.unusedVariables false
set_option linter.unusedSimpArgs false
set_option maxHeartbeats 4000000
namespace Go.Proofs.YthkpaoajfiapkaaGreat.P
open Go.RowKit Go.Proofs.YthkpaoajfiapkaaGreatW.PrintWords Go.Proofs.YthkpaoajfiapkaaGreatW.PrintMore Go.Proofs.YthkpaoajfiapkaaGreatW.PrintLast

/-- Is the place's image good? -/
def goodP (a0 : ByteArray) (p : Plc) : Bool := ((image_Good.f a0 p.f1.f0 p.f1.f1 p.f1.f2 p.f1.f3).map (·.1)).getD false
def actOut (b : Option Plc) : Int × Int × Int × Int × Int × Int := match b with | none => (0, 0, 0, 0, 0, 701) | some p => (p.f0, p.f1.f0, p.f1.f1, p.f1.f2, p.f1.f3, 0)
def actVal (b : Option Plc) : Value := match b with | none => .tuple #[.agg #[.int .i64 0, .int .i64 0, .int .i64 0, .int .i64 0, .int .i64 0], .int .i64 701] | some p => .tuple #[pval p, .int .i64 0]
theorem active_facts {a0 : ByteArray} {r : Int × Int × Int × Int × Int × Int} (h : choose_Active.f a0 = some r) :
    (journal_Scan.f 300 a0 = some ([], 500) ∧ r = (0, 0, 0, 0, 0, 700)) ∨ ∃ l : List Plc, journal_Scan.f 300 a0 = some (l, 0) ∧ l.length ≤ 8 ∧ Ats l ∧ (∀ p ∈ l, ∃ g, image_Good.f a0 p.f1.f0 p.f1.f1 p.f1.f2 p.f1.f3 = some g) ∧ r = actOut (Hp.pick pz pkey (goodP a0) l.length (Hp.init pz pkey l.length (l.length / 2) l)) := by
  unfold choose_Active.f at h
  rw [scan_f a0 300 (by omega)] at h ⊢
  by_cases hs : a0.size = 768
  · rw [if_pos hs] at h ⊢
    refine .inr ⟨scanTo a0 8, rfl, scanTo_len a0 8, fun p hp => by have := scanTo_at hp; omega, ?_⟩
    simp only [Option.bind_some, if_true] at h
    cases hf : (scanTo a0 8).foldlM (fun (b : Option Plc) p => (image_Good.f a0 p.f1.f0 p.f1.f1 p.f1.f2 p.f1.f3).bind fun g => some (if g.1 && (b.all fun q => decide (q.f1.f0 ≤ p.f1.f0)) then some p else b)) none with
    | none => rw [hf] at h; cases h
    | some b =>
      rw [hf] at h
      have := foldM_some (fun p => image_Good.f a0 p.f1.f0 p.f1.f1 p.f1.f2 p.f1.f3) _ _ _ hf
      refine ⟨this.1, ?_⟩
      rw [pick_fold (goodP a0) _ (fun p hp => by have := scanTo_at hp; omega) (scanTo_asc a0 8), show (scanTo a0 8).foldl (stepB (goodP a0)) none = b from this.2.symm]
      exact (Option.some.inj h).symm
  · rw [if_neg hs] at h ⊢
    exact .inl ⟨rfl, (Option.some.inj h).symm⟩

set_option maxHeartbeats 8000000 in
set_option maxRecDepth 100000 in
theorem choose_Active.calls (a0 : ByteArray) (r1 r2 r3 r4 r5 r6 : Int) (w : World) (h : choose_Active.f a0 = some (r1, r2, r3, r4, r5, r6)) :
    Calls Tryz.prog 63 #[.string a0] w fun e w' => e = .returned (.tuple #[.agg #[.int .i64 r1, .int .i64 r2, .int .i64 r3, .int .i64 r4, .int .i64 r5], .int .i64 r6]) ∧ Below w.heap.size w w' := by
  rcases active_facts h with ⟨hS, hr⟩ | ⟨l, hS, hl8, hal, hgd, hr⟩
  · simp only [Prod.mk.injEq] at hr
    obtain ⟨rfl, rfl, rfl, rfl, rfl, rfl⟩ := hr
    clear h
    have HS := Lib.hid hS
    have TK := Aside0.mk True.intro
    clear hS
    go_enter Tryz.func63, Tryz.ntmps63
    go_wp2_with (first | ((with_reducible refine gate_dst (N := 2) rfl ?_); refine box_event ?hg (N := 2) ?hd (cs := #[.int .i64 0, .int .i64 0, .int .i64 0, .int .i64 0, .int .i64 0]) (t := 68) ?hr ?_; (case hd => rfl); (case hg => rfl); (case hr => first | (go_simp; done) | (go_simp; rfl)); intro gb hgb w1 hbox hb; have GE := Aside0.mk (show w.heap.size ≤ gb from Nat.le_of_eq hgb.symm); have GL := Aside0.mk (blk_lt hbox); have BK := Aside0.mk hbox; have HB1 := Aside0.mk hb; clear hgb hb hbox) | (go_at_call 74; refine (journal_Scan.calls 300 a0 [] 500 w1 HS.out).mono ?_; rintro e w2 ⟨v0, rfl, ho0, hb⟩; have T1 := Aside0.mk (blk_below BK.out hb); have T2 := Aside0.mk (HB1.out.trans (hb.mono HB1.out.size)); clear BK HB1 ho0 hb; have BK := T1; have HB1 := T2; clear T1 T2) | ((with_reducible refine gate_store (p := 2) rfl ?_); clear TK; have hcz0 : w2.cell? ⟨gb, 0, none⟩ = some (.int .i64 0) := (blk_cell BK.out 0).trans rfl; have hcy0 : w2.frozen? ⟨gb, 0, none⟩ = false := blk_frozen BK.out 0; have hcz1 : w2.cell? ⟨gb, 1, none⟩ = some (.int .i64 0) := (blk_cell BK.out 1).trans rfl; have hcy1 : w2.frozen? ⟨gb, 1, none⟩ = false := blk_frozen BK.out 1; have hcz2 : w2.cell? ⟨gb, 2, none⟩ = some (.int .i64 0) := (blk_cell BK.out 2).trans rfl; have hcy2 : w2.frozen? ⟨gb, 2, none⟩ = false := blk_frozen BK.out 2; have hcz3 : w2.cell? ⟨gb, 3, none⟩ = some (.int .i64 0) := (blk_cell BK.out 3).trans rfl; have hcy3 : w2.frozen? ⟨gb, 3, none⟩ = false := blk_frozen BK.out 3; have hcz4 : w2.cell? ⟨gb, 4, none⟩ = some (.int .i64 0) := (blk_cell BK.out 4).trans rfl; have hcy4 : w2.frozen? ⟨gb, 4, none⟩ = false := blk_frozen BK.out 4))
    refine bodyPost_ret (results_ct rfl _ _ gb 68 #[.int .i64 0, .int .i64 0, .int .i64 0, .int .i64 0, .int .i64 0] (0, 0) _ rfl (by refine blk_put (cs := #[.int .i64 0, .int .i64 0, .int .i64 0, .int .i64 0, .int .i64 0]) ?_ 4 _ rfl; refine blk_put (cs := #[.int .i64 0, .int .i64 0, .int .i64 0, .int .i64 0, .int .i64 0]) ?_ 3 _ rfl; refine blk_put (cs := #[.int .i64 0, .int .i64 0, .int .i64 0, .int .i64 0, .int .i64 0]) ?_ 2 _ rfl; refine blk_put (cs := #[.int .i64 0, .int .i64 0, .int .i64 0, .int .i64 0, .int .i64 0]) ?_ 1 _ rfl; refine blk_put (cs := #[.int .i64 0, .int .i64 0, .int .i64 0, .int .i64 0, .int .i64 0]) ?_ 0 _ rfl; exact BK.out) Tryz.underlying68 rfl (by kernel_rfl)) rfl ?_
    exact ⟨rfl, by repeat (first | (with_reducible exact HB1.out) | refine below_set ?_ GE.out)⟩
  · have HS := Lib.hid hS
    generalize hb : Hp.pick pz pkey (goodP a0) l.length (Hp.init pz pkey l.length (l.length / 2) l) = b at hr
    have hv : Value.tuple #[.agg #[.int .i64 r1, .int .i64 r2, .int .i64 r3, .int .i64 r4, .int .i64 r5], .int .i64 r6] = actVal b := by
      cases b with
      | none => simp only [actOut, Prod.mk.injEq] at hr; obtain ⟨rfl, rfl, rfl, rfl, rfl, rfl⟩ := hr; rfl
      | some p => simp only [actOut, Prod.mk.injEq] at hr; obtain ⟨rfl, rfl, rfl, rfl, rfl, rfl⟩ := hr; rfl
    rw [hv]
    have HPB := Lib.hid hb
    have hu25 := Tryz.underlying68
    have hu23 := Tryz.underlying66
    have hta : ∀ (v : Value) (w : World), Sem.run Tryz.prog (Instr.typeAssert (.iface 68 v) 20 68 false) w = .ok v w := by intro v w; kernel_rfl
    have TK := Aside0.mk True.intro
    have HGD := Lib.hid hgd
    have TKb := Aside0.mk True.intro
    clear hS hr h hgd hv hb
    go_enter Tryz.func63, Tryz.ntmps63
    go_wp2_with (first | ((with_reducible refine gate_dst (N := 2) rfl ?_); refine box_event ?hg (N := 2) ?hd (cs := #[.int .i64 0, .int .i64 0, .int .i64 0, .int .i64 0, .int .i64 0]) (t := 68) ?hr ?_; (case hd => rfl); (case hg => rfl); (case hr => first | (go_simp; done) | (go_simp; rfl)); intro gb hgb w1 hbox hb; have GE := Aside0.mk (show w.heap.size ≤ gb from Nat.le_of_eq hgb.symm); have GL := Aside0.mk (blk_lt hbox); have BK := Aside0.mk hbox; have HB1 := Aside0.mk hb; clear hgb hb hbox) | (go_at_call 74; refine (journal_Scan.calls 300 a0 l 0 w1 HS.out).mono ?_; rintro e w2 ⟨v0, rfl, ho0, hb⟩; obtain ⟨A, c, rfl, hlc, hC⟩ := Kd.R_reads ho0; have RW := Aside0.mk ho0; have B2 := Aside0.mk hb; clear ho0 hb hlc hC) | ((with_reducible refine gate_dst (N := 6) rfl ?_); refine box_event ?hg (N := 6) ?hd (cs := #[.slice none 0 0]) (t := 99) ?hr ?_; (case hd => rfl); (case hg => rfl); (case hr => first | (go_simp; done) | (go_simp; rfl)); intro g hg w3 hbox hb; have RW3 := Aside0.mk (Kd.R_tight rfl (Kd.R_below RW.out hb)); have B3 := Aside0.mk (B2.out.trans (hb.mono B2.out.size)); have GM := Aside0.mk (show w1.heap.size ≤ g from by rw [hg]; exact B2.out.size); have GA := Aside0.mk (show some g ≠ (Value.slice A l.length c).ownBlock from fun e => by obtain ⟨_, inner, ho, _⟩ := RW.out; exact absurd (own_lt ho g e.symm) (by omega)); have BG := Aside0.mk hbox; clear hg hb hbox RW B2; have hgz : w3.cell? ⟨g, 0, none⟩ = some (.slice none 0 0) := (blk_cell BG.out 0).trans rfl; have hgy : w3.frozen? ⟨g, 0, none⟩ = false := blk_frozen BG.out 0) | (go_at_call 75; have S0 : Aside (StH w1 g A c l (World.setCell w3 ⟨g, 0, none⟩ (.slice A l.length c))) := (⟨below_set B3.out GM.out, Kd.R_mono (Kd.R_far RW3.out (fun k hk e => GA.out (by rw [← hk]; exact congrArg some e.symm)) _) (fun _ hk => hk), blk_set BG.out 0 _, GM.out, GA.out⟩ : StH w1 g A c l (World.setCell w3 ⟨g, 0, none⟩ (.slice A l.length c))); clear RW3 B3 GM GA BG hgz hgy; refine (hinit_calls S0.out hal (by omega)).mono ?_; rintro e w4 ⟨rfl, S1⟩; have S : Aside _ := S1; clear S0 S1))
    go_loopg [3] l.length (fun kx s3 wr => s3 = .int .i64 0 ∧ ∃ lk : List Plc, lk.length ≤ kx ∧ lk.length ≤ 8 ∧ Ats lk ∧ Aside (StH w1 g A c lk wr) ∧ Hid (∀ p ∈ lk, p ∈ l) ∧ Hid (Hp.pick pz pkey (goodP a0) kx lk = b))
    case atStart =>
      exact ⟨rfl, Hp.init pz pkey l.length (l.length / 2) l, by rw [Hp.init_length]; exact Nat.le_refl _, by rw [Hp.init_length]; exact hl8, fun p hp => hal p ((Hp.init_perm pz pkey l.length (l.length / 2) l (Nat.le_refl _) (by omega)).mem_iff.1 hp), S, fun p hp => (Hp.init_perm pz pkey l.length (l.length / 2) l (Nat.le_refl _) (by omega)).mem_iff.1 hp, HPB⟩
    case round =>
      obtain ⟨rfl, lk, hk, h8, hal, S, HM, HE⟩ := hrel
      have hgz := S.out.cell
      by_cases h0 : lk.length = 0
      · have HN := Lib.hid h0
        have HBN : Hid (b = none) := by
          rw [← HE.out]
          cases gk with
          | zero => exact rfl
          | succ k => exact (show Hp.pick pz pkey (goodP a0) (k + 1) lk = none from by rw [Hp.pick, if_pos h0])
        rw [h0] at hgz
        clear h0 hk h8 HE
        go_wp2_with (first | (go_at_call 76; refine calls_of_args ?ha ((hlen_calls S.out).mono ?_); (case ha => rw [HN.out]); rintro e w5 ⟨rfl, S1⟩; rw [HN.out]; clear hgz; have T1 : Aside _ := S1; clear S S1; have S := T1; clear T1) | ((with_reducible refine gate_dst (N := 36) rfl ?_); clear TK; have BK2 := Aside0.mk (blk_below BK.out S.out.below); have hcz0 : w5.cell? ⟨gb, 0, none⟩ = some (.int .i64 0) := (blk_cell BK2.out 0).trans rfl; have hcy0 : w5.frozen? ⟨gb, 0, none⟩ = false := blk_frozen BK2.out 0; have hcz1 : w5.cell? ⟨gb, 1, none⟩ = some (.int .i64 0) := (blk_cell BK2.out 1).trans rfl; have hcy1 : w5.frozen? ⟨gb, 1, none⟩ = false := blk_frozen BK2.out 1; have hcz2 : w5.cell? ⟨gb, 2, none⟩ = some (.int .i64 0) := (blk_cell BK2.out 2).trans rfl; have hcy2 : w5.frozen? ⟨gb, 2, none⟩ = false := blk_frozen BK2.out 2; have hcz3 : w5.cell? ⟨gb, 3, none⟩ = some (.int .i64 0) := (blk_cell BK2.out 3).trans rfl; have hcy3 : w5.frozen? ⟨gb, 3, none⟩ = false := blk_frozen BK2.out 3; have hcz4 : w5.cell? ⟨gb, 4, none⟩ = some (.int .i64 0) := (blk_cell BK2.out 4).trans rfl; have hcy4 : w5.frozen? ⟨gb, 4, none⟩ = false := blk_frozen BK2.out 4))
        refine bodyPost_ret (results_ct rfl _ _ gb 68 #[.int .i64 0, .int .i64 0, .int .i64 0, .int .i64 0, .int .i64 0] (0, 0) _ rfl (by refine blk_put (cs := #[.int .i64 0, .int .i64 0, .int .i64 0, .int .i64 0, .int .i64 0]) ?_ 4 _ rfl; refine blk_put (cs := #[.int .i64 0, .int .i64 0, .int .i64 0, .int .i64 0, .int .i64 0]) ?_ 3 _ rfl; refine blk_put (cs := #[.int .i64 0, .int .i64 0, .int .i64 0, .int .i64 0, .int .i64 0]) ?_ 2 _ rfl; refine blk_put (cs := #[.int .i64 0, .int .i64 0, .int .i64 0, .int .i64 0, .int .i64 0]) ?_ 1 _ rfl; refine blk_put (cs := #[.int .i64 0, .int .i64 0, .int .i64 0, .int .i64 0, .int .i64 0]) ?_ 0 _ rfl; exact BK2.out) Tryz.underlying68 rfl (by kernel_rfl)) rfl ?_
        exact ⟨by rw [HBN.out]; rfl, by repeat (first | (with_reducible exact (HB1.out.trans (S.out.below.mono HB1.out.size))) | refine below_set ?_ GE.out)⟩
      · obtain ⟨m, hm⟩ : ∃ m, lk.length = m + 1 := ⟨lk.length - 1, by omega⟩
        have hne : lk ≠ [] := fun e => h0 (by rw [e]; rfl)
        have hmem : lk.getD 0 pz ∈ lk := by rw [List.getD_eq_getElem?_getD, List.getElem?_eq_getElem (by omega)]; exact List.getElem_mem _
        obtain ⟨⟨gr, ge⟩, hg⟩ := HGD.out _ (HM.out _ hmem)
        obtain ⟨k, rfl⟩ : ∃ k, gk = k + 1 := ⟨gk - 1, by omega⟩
        have he := HE.out
        rw [Hp.pick, if_neg h0] at he
        have hgood : goodP a0 (lk.getD 0 pz) = gr := by unfold goodP; rw [hg]; rfl
        rw [hgood] at he
        have hsub : ∀ p ∈ Hp.rest pz pkey lk, p ∈ lk := Hp.rest_sub pz pkey lk hne
        generalize hp : lk.getD 0 pz = p at hg he
        have HP := Lib.hid hp
        have HN := Lib.hid hm
        have HG := Lib.hid hg
        have HNE := Lib.hid hne
        have HSB := Lib.hid hsub
        have hrl := Lib.hid (Hp.rest_length pz pkey lk)
        rw [hm] at hgz
        cases gr with
        | true =>
          have HBN : Hid (b = some p) := he.symm
          clear he hmem hg hgood hp h0 hk hm HE hne hsub
          go_wp2_with (first | (go_at_call 76; refine calls_of_args ?ha ((hlen_calls S.out).mono ?_); (case ha => rw [HN.out]); rintro e w5 ⟨rfl, S1⟩; rw [HN.out]; clear hgz; have T1 : Aside _ := S1; clear S S1; have S := T1; clear T1) | (go_at_call 77; refine (hpop_calls S.out hal HNE.out (by omega)).mono ?_; rintro e w6 ⟨rfl, S1⟩; rw [HP.out]; simp only [pval]; have T1 : Aside _ := S1; clear S S1; have S := T1; clear T1) | ((with_reducible refine gate_dst (N := 7) rfl ?_); refine box_event ?hg (N := 7) ?hd (cs := #[.int .i64 0, .int .i64 0, .int .i64 0, .int .i64 0, .int .i64 0]) (t := 68) ?hr ?_; (case hd => rfl); (case hg => rfl); (case hr => first | (go_simp; done) | (go_simp; rfl)); intro gp hgp W7 hbox hb; have G1 := Aside0.mk (show g ≠ gp from fun e => absurd S.out.glt (by omega)); have G2 := Aside0.mk (show some gp ≠ (Value.slice A (Hp.rest pz pkey lk).length c).ownBlock from fun e => absurd (S.out.olt gp e.symm) (by omega)); have G3 := Aside0.mk (show w1.heap.size ≤ gp from by rw [hgp]; exact S.out.below.size); have BX := Aside0.mk hbox; have S1 := S.out.step hb; clear hgp hb hbox; have T1 : Aside _ := S1; clear S S1; have S := T1; clear T1; have hpz0 : W7.cell? ⟨gp, 0, none⟩ = some (.int .i64 0) := (blk_cell BX.out 0).trans rfl; have hpy0 : W7.frozen? ⟨gp, 0, none⟩ = false := blk_frozen BX.out 0; have hpz1 : W7.cell? ⟨gp, 1, none⟩ = some (.int .i64 0) := (blk_cell BX.out 1).trans rfl; have hpy1 : W7.frozen? ⟨gp, 1, none⟩ = false := blk_frozen BX.out 1; have hpz2 : W7.cell? ⟨gp, 2, none⟩ = some (.int .i64 0) := (blk_cell BX.out 2).trans rfl; have hpy2 : W7.frozen? ⟨gp, 2, none⟩ = false := blk_frozen BX.out 2; have hpz3 : W7.cell? ⟨gp, 3, none⟩ = some (.int .i64 0) := (blk_cell BX.out 3).trans rfl; have hpy3 : W7.frozen? ⟨gp, 3, none⟩ = false := blk_frozen BX.out 3; have hpz4 : W7.cell? ⟨gp, 4, none⟩ = some (.int .i64 0) := (blk_cell BX.out 4).trans rfl; have hpy4 : W7.frozen? ⟨gp, 4, none⟩ = false := blk_frozen BX.out 4) | ((with_reducible refine gate_dst (N := 29) rfl ?_); clear TKb; have S3 := Aside0.mk (show StH w1 g A c (Hp.rest pz pkey lk) (World.setCell (World.setCell (World.setCell (World.setCell (World.setCell W7 ⟨gp, 0, none⟩ (Value.int IntKind.i64 p.f0)) ⟨gp, 1, none⟩ (Value.int IntKind.i64 p.f1.f0)) ⟨gp, 2, none⟩ (Value.int IntKind.i64 p.f1.f1)) ⟨gp, 3, none⟩ (Value.int IntKind.i64 p.f1.f2)) ⟨gp, 4, none⟩ (Value.int IntKind.i64 p.f1.f3)) from (((((S.out.far G1.out G2.out G3.out 0 _).far G1.out G2.out G3.out 1 _).far G1.out G2.out G3.out 2 _).far G1.out G2.out G3.out 3 _).far G1.out G2.out G3.out 4 _)); have BX3 := Aside0.mk (show (World.heap (World.setCell (World.setCell (World.setCell (World.setCell (World.setCell W7 ⟨gp, 0, none⟩ (Value.int IntKind.i64 p.f0)) ⟨gp, 1, none⟩ (Value.int IntKind.i64 p.f1.f0)) ⟨gp, 2, none⟩ (Value.int IntKind.i64 p.f1.f1)) ⟨gp, 3, none⟩ (Value.int IntKind.i64 p.f1.f2)) ⟨gp, 4, none⟩ (Value.int IntKind.i64 p.f1.f3)))[gp]? = some (.cells #[.int .i64 p.f0, .int .i64 p.f1.f0, .int .i64 p.f1.f1, .int .i64 p.f1.f2, .int .i64 p.f1.f3] 68 (0, 0)) from (by refine blk_put (cs := #[.int .i64 p.f0, .int .i64 p.f1.f0, .int .i64 p.f1.f1, .int .i64 p.f1.f2, .int .i64 0]) ?_ 4 _ rfl; refine blk_put (cs := #[.int .i64 p.f0, .int .i64 p.f1.f0, .int .i64 p.f1.f1, .int .i64 0, .int .i64 0]) ?_ 3 _ rfl; refine blk_put (cs := #[.int .i64 p.f0, .int .i64 p.f1.f0, .int .i64 0, .int .i64 0, .int .i64 0]) ?_ 2 _ rfl; refine blk_put (cs := #[.int .i64 p.f0, .int .i64 0, .int .i64 0, .int .i64 0, .int .i64 0]) ?_ 1 _ rfl; refine blk_put (cs := #[.int .i64 0, .int .i64 0, .int .i64 0, .int .i64 0, .int .i64 0]) ?_ 0 _ rfl; exact BX.out)); clear S BX hpz0 hpy0 hpz1 hpy1 hpz2 hpy2 hpz3 hpy3 hpz4 hpy4; generalize (World.setCell (World.setCell (World.setCell (World.setCell (World.setCell W7 ⟨gp, 0, none⟩ (Value.int IntKind.i64 p.f0)) ⟨gp, 1, none⟩ (Value.int IntKind.i64 p.f1.f0)) ⟨gp, 2, none⟩ (Value.int IntKind.i64 p.f1.f1)) ⟨gp, 3, none⟩ (Value.int IntKind.i64 p.f1.f2)) ⟨gp, 4, none⟩ (Value.int IntKind.i64 p.f1.f3)) = W8 at S3 BX3 ⊢; have S : Aside _ := S3.out; have hqz0 : W8.cell? ⟨gp, 0, none⟩ = some (.int .i64 p.f0) := (blk_cell BX3.out 0).trans rfl; have hqz1 : W8.cell? ⟨gp, 1, none⟩ = some (.int .i64 p.f1.f0) := (blk_cell BX3.out 1).trans rfl; have hqz2 : W8.cell? ⟨gp, 2, none⟩ = some (.int .i64 p.f1.f1) := (blk_cell BX3.out 2).trans rfl; have hqz3 : W8.cell? ⟨gp, 3, none⟩ = some (.int .i64 p.f1.f2) := (blk_cell BX3.out 3).trans rfl; have hqz4 : W8.cell? ⟨gp, 4, none⟩ = some (.int .i64 p.f1.f3) := (blk_cell BX3.out 4).trans rfl; clear S3) | (go_at_call 78; refine (image_Good.calls a0 p.f1.f0 p.f1.f1 p.f1.f2 p.f1.f3 true ge _ HG.out).mono ?_; rintro e w9 ⟨rfl, hb⟩; have S1 := S.out.step hb; have BX4 := Aside0.mk (blk_below BX3.out hb); clear hb BX3 hqz0 hqz1 hqz2 hqz3 hqz4; have T1 : Aside _ := S1; clear S S1; have S := T1; clear T1; have hrz0 : w9.cell? ⟨gp, 0, none⟩ = some (.int .i64 p.f0) := (blk_cell BX4.out 0).trans rfl; have hrz1 : w9.cell? ⟨gp, 1, none⟩ = some (.int .i64 p.f1.f0) := (blk_cell BX4.out 1).trans rfl; have hrz2 : w9.cell? ⟨gp, 2, none⟩ = some (.int .i64 p.f1.f1) := (blk_cell BX4.out 2).trans rfl; have hrz3 : w9.cell? ⟨gp, 3, none⟩ = some (.int .i64 p.f1.f2) := (blk_cell BX4.out 3).trans rfl; have hrz4 : w9.cell? ⟨gp, 4, none⟩ = some (.int .i64 p.f1.f3) := (blk_cell BX4.out 4).trans rfl; have BK2 := Aside0.mk (blk_below BK.out S.out.below); have hcz0 : w9.cell? ⟨gb, 0, none⟩ = some (.int .i64 0) := (blk_cell BK2.out 0).trans rfl; have hcy0 : w9.frozen? ⟨gb, 0, none⟩ = false := blk_frozen BK2.out 0; have hcz1 : w9.cell? ⟨gb, 1, none⟩ = some (.int .i64 0) := (blk_cell BK2.out 1).trans rfl; have hcy1 : w9.frozen? ⟨gb, 1, none⟩ = false := blk_frozen BK2.out 1; have hcz2 : w9.cell? ⟨gb, 2, none⟩ = some (.int .i64 0) := (blk_cell BK2.out 2).trans rfl; have hcy2 : w9.frozen? ⟨gb, 2, none⟩ = false := blk_frozen BK2.out 2; have hcz3 : w9.cell? ⟨gb, 3, none⟩ = some (.int .i64 0) := (blk_cell BK2.out 3).trans rfl; have hcy3 : w9.frozen? ⟨gb, 3, none⟩ = false := blk_frozen BK2.out 3; have hcz4 : w9.cell? ⟨gb, 4, none⟩ = some (.int .i64 0) := (blk_cell BK2.out 4).trans rfl; have hcy4 : w9.frozen? ⟨gb, 4, none⟩ = false := blk_frozen BK2.out 4))
          refine bodyPost_ret (results_ct rfl _ _ gb 68 #[.int .i64 p.f0, .int .i64 p.f1.f0, .int .i64 p.f1.f1, .int .i64 p.f1.f2, .int .i64 p.f1.f3] (0, 0) _ rfl (by refine blk_put (cs := #[.int .i64 p.f0, .int .i64 p.f1.f0, .int .i64 p.f1.f1, .int .i64 p.f1.f2, .int .i64 0]) ?_ 4 _ rfl; refine blk_put (cs := #[.int .i64 p.f0, .int .i64 p.f1.f0, .int .i64 p.f1.f1, .int .i64 0, .int .i64 0]) ?_ 3 _ rfl; refine blk_put (cs := #[.int .i64 p.f0, .int .i64 p.f1.f0, .int .i64 0, .int .i64 0, .int .i64 0]) ?_ 2 _ rfl; refine blk_put (cs := #[.int .i64 p.f0, .int .i64 0, .int .i64 0, .int .i64 0, .int .i64 0]) ?_ 1 _ rfl; refine blk_put (cs := #[.int .i64 0, .int .i64 0, .int .i64 0, .int .i64 0, .int .i64 0]) ?_ 0 _ rfl; exact BK2.out) Tryz.underlying68 rfl (by kernel_rfl)) rfl ?_
          exact ⟨by rw [HBN.out]; rfl, by repeat (first | (with_reducible exact (HB1.out.trans (S.out.below.mono HB1.out.size))) | refine below_set ?_ GE.out)⟩
        | false =>
          have HE2 : Hid (Hp.pick pz pkey (goodP a0) k (Hp.rest pz pkey lk) = b) := he
          clear he hmem hg hgood hp h0 hm HE hne hsub
          go_wp2_with (first | (go_at_call 76; refine calls_of_args ?ha ((hlen_calls S.out).mono ?_); (case ha => rw [HN.out]); rintro e w5 ⟨rfl, S1⟩; rw [HN.out]; clear hgz; have T1 : Aside _ := S1; clear S S1; have S := T1; clear T1) | (go_at_call 77; refine (hpop_calls S.out hal HNE.out (by omega)).mono ?_; rintro e w6 ⟨rfl, S1⟩; rw [HP.out]; simp only [pval]; have T1 : Aside _ := S1; clear S S1; have S := T1; clear T1) | ((with_reducible refine gate_dst (N := 7) rfl ?_); refine box_event ?hg (N := 7) ?hd (cs := #[.int .i64 0, .int .i64 0, .int .i64 0, .int .i64 0, .int .i64 0]) (t := 68) ?hr ?_; (case hd => rfl); (case hg => rfl); (case hr => first | (go_simp; done) | (go_simp; rfl)); intro gp hgp W7 hbox hb; have G1 := Aside0.mk (show g ≠ gp from fun e => absurd S.out.glt (by omega)); have G2 := Aside0.mk (show some gp ≠ (Value.slice A (Hp.rest pz pkey lk).length c).ownBlock from fun e => absurd (S.out.olt gp e.symm) (by omega)); have G3 := Aside0.mk (show w1.heap.size ≤ gp from by rw [hgp]; exact S.out.below.size); have BX := Aside0.mk hbox; have S1 := S.out.step hb; clear hgp hb hbox; have T1 : Aside _ := S1; clear S S1; have S := T1; clear T1; have hpz0 : W7.cell? ⟨gp, 0, none⟩ = some (.int .i64 0) := (blk_cell BX.out 0).trans rfl; have hpy0 : W7.frozen? ⟨gp, 0, none⟩ = false := blk_frozen BX.out 0; have hpz1 : W7.cell? ⟨gp, 1, none⟩ = some (.int .i64 0) := (blk_cell BX.out 1).trans rfl; have hpy1 : W7.frozen? ⟨gp, 1, none⟩ = false := blk_frozen BX.out 1; have hpz2 : W7.cell? ⟨gp, 2, none⟩ = some (.int .i64 0) := (blk_cell BX.out 2).trans rfl; have hpy2 : W7.frozen? ⟨gp, 2, none⟩ = false := blk_frozen BX.out 2; have hpz3 : W7.cell? ⟨gp, 3, none⟩ = some (.int .i64 0) := (blk_cell BX.out 3).trans rfl; have hpy3 : W7.frozen? ⟨gp, 3, none⟩ = false := blk_frozen BX.out 3; have hpz4 : W7.cell? ⟨gp, 4, none⟩ = some (.int .i64 0) := (blk_cell BX.out 4).trans rfl; have hpy4 : W7.frozen? ⟨gp, 4, none⟩ = false := blk_frozen BX.out 4) | ((with_reducible refine gate_dst (N := 29) rfl ?_); clear TKb; have S3 := Aside0.mk (show StH w1 g A c (Hp.rest pz pkey lk) (World.setCell (World.setCell (World.setCell (World.setCell (World.setCell W7 ⟨gp, 0, none⟩ (Value.int IntKind.i64 p.f0)) ⟨gp, 1, none⟩ (Value.int IntKind.i64 p.f1.f0)) ⟨gp, 2, none⟩ (Value.int IntKind.i64 p.f1.f1)) ⟨gp, 3, none⟩ (Value.int IntKind.i64 p.f1.f2)) ⟨gp, 4, none⟩ (Value.int IntKind.i64 p.f1.f3)) from (((((S.out.far G1.out G2.out G3.out 0 _).far G1.out G2.out G3.out 1 _).far G1.out G2.out G3.out 2 _).far G1.out G2.out G3.out 3 _).far G1.out G2.out G3.out 4 _)); have BX3 := Aside0.mk (show (World.heap (World.setCell (World.setCell (World.setCell (World.setCell (World.setCell W7 ⟨gp, 0, none⟩ (Value.int IntKind.i64 p.f0)) ⟨gp, 1, none⟩ (Value.int IntKind.i64 p.f1.f0)) ⟨gp, 2, none⟩ (Value.int IntKind.i64 p.f1.f1)) ⟨gp, 3, none⟩ (Value.int IntKind.i64 p.f1.f2)) ⟨gp, 4, none⟩ (Value.int IntKind.i64 p.f1.f3)))[gp]? = some (.cells #[.int .i64 p.f0, .int .i64 p.f1.f0, .int .i64 p.f1.f1, .int .i64 p.f1.f2, .int .i64 p.f1.f3] 68 (0, 0)) from (by refine blk_put (cs := #[.int .i64 p.f0, .int .i64 p.f1.f0, .int .i64 p.f1.f1, .int .i64 p.f1.f2, .int .i64 0]) ?_ 4 _ rfl; refine blk_put (cs := #[.int .i64 p.f0, .int .i64 p.f1.f0, .int .i64 p.f1.f1, .int .i64 0, .int .i64 0]) ?_ 3 _ rfl; refine blk_put (cs := #[.int .i64 p.f0, .int .i64 p.f1.f0, .int .i64 0, .int .i64 0, .int .i64 0]) ?_ 2 _ rfl; refine blk_put (cs := #[.int .i64 p.f0, .int .i64 0, .int .i64 0, .int .i64 0, .int .i64 0]) ?_ 1 _ rfl; refine blk_put (cs := #[.int .i64 0, .int .i64 0, .int .i64 0, .int .i64 0, .int .i64 0]) ?_ 0 _ rfl; exact BX.out)); clear S BX hpz0 hpy0 hpz1 hpy1 hpz2 hpy2 hpz3 hpy3 hpz4 hpy4; generalize (World.setCell (World.setCell (World.setCell (World.setCell (World.setCell W7 ⟨gp, 0, none⟩ (Value.int IntKind.i64 p.f0)) ⟨gp, 1, none⟩ (Value.int IntKind.i64 p.f1.f0)) ⟨gp, 2, none⟩ (Value.int IntKind.i64 p.f1.f1)) ⟨gp, 3, none⟩ (Value.int IntKind.i64 p.f1.f2)) ⟨gp, 4, none⟩ (Value.int IntKind.i64 p.f1.f3)) = W8 at S3 BX3 ⊢; have S : Aside _ := S3.out; have hqz0 : W8.cell? ⟨gp, 0, none⟩ = some (.int .i64 p.f0) := (blk_cell BX3.out 0).trans rfl; have hqz1 : W8.cell? ⟨gp, 1, none⟩ = some (.int .i64 p.f1.f0) := (blk_cell BX3.out 1).trans rfl; have hqz2 : W8.cell? ⟨gp, 2, none⟩ = some (.int .i64 p.f1.f1) := (blk_cell BX3.out 2).trans rfl; have hqz3 : W8.cell? ⟨gp, 3, none⟩ = some (.int .i64 p.f1.f2) := (blk_cell BX3.out 3).trans rfl; have hqz4 : W8.cell? ⟨gp, 4, none⟩ = some (.int .i64 p.f1.f3) := (blk_cell BX3.out 4).trans rfl; clear S3) | (go_at_call 78; refine (image_Good.calls a0 p.f1.f0 p.f1.f1 p.f1.f2 p.f1.f3 false ge _ HG.out).mono ?_; rintro e w9 ⟨rfl, hb⟩; have S1 := S.out.step hb; have BX4 := Aside0.mk (blk_below BX3.out hb); clear hb BX3 hqz0 hqz1 hqz2 hqz3 hqz4; have T1 : Aside _ := S1; clear S S1; have S := T1; clear T1; clear BX4))
          go_roundg k
          case measure => omega
          case rel => exact ⟨rfl, Hp.rest pz pkey lk, by rw [hrl.out]; omega, by rw [hrl.out]; omega, fun p hp => hal p (HSB.out p hp), S, fun p hp => HM.out p (HSB.out p hp), HE2⟩

end Go.Proofs.YthkpaoajfiapkaaGreat.P
end
