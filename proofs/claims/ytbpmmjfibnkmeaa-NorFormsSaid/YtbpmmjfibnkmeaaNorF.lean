/- NorForms. -/
import Derived.Test.YtbpmmjfibnkmeaaNorM
set_option linter.unusedVariables false
set_option linter.unusedSimpArgs false
set_option maxHeartbeats 4000000
namespace Go.Proofs.Ytbpmmjfibnkmeaa
open Go.RowKit Skiff

theorem mod_u64 (x : Int) (m : Nat) (h : 0 < m) (h2 : m < 1000) : ∃ k : Nat, (IntKind.u64.wrap x).tmod (m : Int) = (k : Int) ∧ k < m := by
  have h0 : 0 ≤ IntKind.u64.wrap x := by rw [IntKind.wrap_u64]; omega
  generalize IntKind.u64.wrap x = y at *
  rw [Int.tmod_eq_emod_of_nonneg h0]
  have p0 := Int.emod_nonneg y (by omega : (m : Int) ≠ 0)
  have p1 := Int.emod_lt_of_pos y (by omega : 0 < (m : Int))
  exact ⟨(y % m).toNat, by omega, by omega⟩
theorem torn_no_of {f w : List UInt8} {x n : Int} (h : ¬ (f.length = 768 ∧ (0 ≤ x ∧ x ≤ 764 ∧ x % 4 = 0) ∧ w.length = 4 ∧ 0 ≤ n ∧ n ≤ 32)) : torn f x w n = none := by
  unfold torn
  rw [if_neg (fun hm => h (tornMay_iff.1 hm))]
theorem worn_no_of {f : List UInt8} {x n : Int} (h : ¬ (f.length = 768 ∧ (0 ≤ x ∧ x ≤ 7) ∧ 0 ≤ n ∧ n ≤ 96)) : worn f x n = none := by
  unfold worn
  rw [if_neg (fun hm => h (wornMay_iff.1 hm))]

def Nones (F W : ByteArray) (A S : Int) : Prop := (∀ n, torn (bl F) A (bl W) n = none) ∧ ∀ n, worn (bl F) S n = none
set_option maxRecDepth 100000 in
theorem norForms_walk (which x : Int) (f0 : (Lit.int .i64 which).wf = true) (f1 : (Lit.int .i64 x).wf = true) (w : World) :
    Calls Try.prog 5 #[.int .i64 which, .int .i64 x] w fun e w' => e = .returned (.bool true) ∧ Ext w w' := by
  obtain ⟨a, ha, ha2⟩ : ∃ a : Nat, bits .and .i64 x 1023 = (a : Int) ∧ a < 1024 := and_mask x f1 10 (by omega)
  obtain ⟨b, hb, bs⟩ : ∃ b : Int, bits .and .i64 which 1 = b ∧ (b = 0 ∨ b = 1) := by
    obtain ⟨b, hb, hb2⟩ : ∃ a : Nat, bits .and .i64 which 1 = (a : Int) ∧ a < 2 := and_mask which f0 1 (by omega)
    exact ⟨b, hb, by omega⟩
  obtain ⟨d, hd, hd2⟩ : ∃ a : Nat, bits .and .i64 x 1 = (a : Int) ∧ a < 2 := and_mask x f1 1 (by omega)
  obtain ⟨c, hc, hc2⟩ : ∃ k : Nat, (IntKind.u64.wrap which).tmod 9 = (k : Int) ∧ k < 9 := mod_u64 which 9 (by omega) (by omega)
  have Q1 := Lib.hid (fun w => ntorn_no (f := mk flash0) (x := 8) (s := ⟨#[97, 98, 99, 100]⟩) (n := -(1 + (a : Int))) (torn_no_of (by omega)) w)
  have Q2 := Lib.hid (fun w => ntorn_no (f := mk flash0) (x := 8) (s := ⟨#[97, 98, 99, 100]⟩) (n := 32 + (1 + (a : Int))) (torn_no_of (by omega)) w)
  have Q3 := Lib.hid (fun w => nworn_no (f := mk flash0) (x := 1) (n := -(1 + (a : Int))) (worn_no_of (by omega)) w)
  have Q4 := Lib.hid (fun w => nworn_no (f := mk flash0) (x := 1) (n := 96 + (1 + (a : Int))) (worn_no_of (by omega)) w)
  have y1 : IntKind.i64.wrap (-(1 + (a : Int))) = -(1 + (a : Int)) := wrap_i64_fit _ (by omega) (by omega)
  have y2 : IntKind.i64.wrap (32 + (1 + (a : Int))) = 32 + (1 + (a : Int)) := wrap_i64_fit _ (by omega) (by omega)
  have y3 : IntKind.i64.wrap (96 + (1 + (a : Int))) = 96 + (1 + (a : Int)) := wrap_i64_fit _ (by omega) (by omega)
  have PB := Lib.hid (fun w => rblank_calls w)
  have hfl : (mk flash0).size = 768 := by rw [mk_size, flash0_length]
  have hn : ∀ (F W : ByteArray) (A S : Int), ¬ ((bl F).length = 768 ∧ (0 ≤ A ∧ A ≤ 764 ∧ A % 4 = 0) ∧ (bl W).length = 4) → ¬ ((bl F).length = 768 ∧ (0 ≤ S ∧ S ≤ 7)) → Nones F W A S := fun F W A S h1 h2 =>
    ⟨fun n => torn_no_of (fun h => h1 ⟨h.1, h.2.1, h.2.2.1⟩), fun n => worn_no_of (fun h => h2 ⟨h.1, h.2.1⟩)⟩
  have HN := Lib.hid hn
  clear hn
  generalize mk flash0 = F at *
  go_enter Try.func5, Try.ntmps5
  go_wp2_with fail
  refine (awake2_calls _).mono ?_
  rintro e w1 ⟨rfl, B1⟩
  go_wp2_with fail
  refine (PB.out _).mono ?_
  rintro e w2 ⟨rfl, B2⟩
  go_upto_block 0 with fail
  go_cut [6, 7, 8, 10] (fun s6 s7 s8 s10 wx => ∃ (F W : ByteArray) (A S : Int), s6 = .string F ∧ s7 = .int .i64 A ∧ s8 = .string W ∧ s10 = .int .i64 S ∧ Nones F W A S ∧ Ext w wx)
  case first =>
    have cs : c = 0 ∨ c = 1 ∨ c = 2 ∨ c = 3 ∨ c = 4 ∨ c = 5 ∨ c = 6 ∨ 7 ≤ c := by omega
    rcases cs with rfl | rfl | rfl | rfl | rfl | rfl | rfl | h7
    · go_wp2_with fail; go_meet
      exact ⟨_, _, _, _, rfl, rfl, rfl, rfl, HN.out _ _ _ _ (by rw [bl_length, ByteArray.size_extract, hfl]; omega) (by rw [bl_length, ByteArray.size_extract, hfl]; omega), (by repeat (first | (with_reducible exact Ext.refl _) | (with_reducible assumption) | (with_reducible refine Ext.drewN ?_ _) | (with_reducible refine Ext.drew ?_) | (with_reducible refine Ext.alloc ?_ _) | (with_reducible refine Ext.setCell ?_ (by first | exact Nat.le_refl _ | (simp <;> omega)) _) | (with_reducible refine Ext.trans ?_ (by with_reducible assumption))))⟩
    · go_wp2_with fail; go_meet
      exact ⟨_, _, _, _, rfl, rfl, rfl, rfl, HN.out _ _ _ _ (by rw [bl_length, ByteArray.size_append, hfl]; intro h; exact absurd h.1 (by decide)) (by rw [bl_length, ByteArray.size_append, hfl]; intro h; exact absurd h.1 (by decide)), (by repeat (first | (with_reducible exact Ext.refl _) | (with_reducible assumption) | (with_reducible refine Ext.drewN ?_ _) | (with_reducible refine Ext.drew ?_) | (with_reducible refine Ext.alloc ?_ _) | (with_reducible refine Ext.setCell ?_ (by first | exact Nat.le_refl _ | (simp <;> omega)) _) | (with_reducible refine Ext.trans ?_ (by with_reducible assumption))))⟩
    · go_wp2_with fail; go_meet
      exact ⟨_, _, _, _, rfl, rfl, rfl, rfl, HN.out _ _ _ _ (by omega) (by omega), (by repeat (first | (with_reducible exact Ext.refl _) | (with_reducible assumption) | (with_reducible refine Ext.drewN ?_ _) | (with_reducible refine Ext.drew ?_) | (with_reducible refine Ext.alloc ?_ _) | (with_reducible refine Ext.setCell ?_ (by first | exact Nat.le_refl _ | (simp <;> omega)) _) | (with_reducible refine Ext.trans ?_ (by with_reducible assumption))))⟩
    · go_wp2_with fail; go_meet
      exact ⟨_, _, _, _, rfl, rfl, rfl, rfl, HN.out _ _ _ _ (by omega) (by omega), (by repeat (first | (with_reducible exact Ext.refl _) | (with_reducible assumption) | (with_reducible refine Ext.drewN ?_ _) | (with_reducible refine Ext.drew ?_) | (with_reducible refine Ext.alloc ?_ _) | (with_reducible refine Ext.setCell ?_ (by first | exact Nat.le_refl _ | (simp <;> omega)) _) | (with_reducible refine Ext.trans ?_ (by with_reducible assumption))))⟩
    · go_wp2_with fail; go_meet
      exact ⟨_, _, _, _, rfl, rfl, rfl, rfl, HN.out _ _ _ _ (by omega) (by omega), (by repeat (first | (with_reducible exact Ext.refl _) | (with_reducible assumption) | (with_reducible refine Ext.drewN ?_ _) | (with_reducible refine Ext.drew ?_) | (with_reducible refine Ext.alloc ?_ _) | (with_reducible refine Ext.setCell ?_ (by first | exact Nat.le_refl _ | (simp <;> omega)) _) | (with_reducible refine Ext.trans ?_ (by with_reducible assumption))))⟩
    · go_wp2_with fail; go_meet
      exact ⟨_, _, _, _, rfl, rfl, rfl, rfl, HN.out _ _ _ _ (by intro h; exact absurd h.2.2 (by decide)) (by omega), (by repeat (first | (with_reducible exact Ext.refl _) | (with_reducible assumption) | (with_reducible refine Ext.drewN ?_ _) | (with_reducible refine Ext.drew ?_) | (with_reducible refine Ext.alloc ?_ _) | (with_reducible refine Ext.setCell ?_ (by first | exact Nat.le_refl _ | (simp <;> omega)) _) | (with_reducible refine Ext.trans ?_ (by with_reducible assumption))))⟩
    · go_wp2_with fail; go_meet
      exact ⟨_, _, _, _, rfl, rfl, rfl, rfl, HN.out _ _ _ _ (by intro h; exact absurd h.2.2 (by decide)) (by omega), (by repeat (first | (with_reducible exact Ext.refl _) | (with_reducible assumption) | (with_reducible refine Ext.drewN ?_ _) | (with_reducible refine Ext.drew ?_) | (with_reducible refine Ext.alloc ?_ _) | (with_reducible refine Ext.setCell ?_ (by first | exact Nat.le_refl _ | (simp <;> omega)) _) | (with_reducible refine Ext.trans ?_ (by with_reducible assumption))))⟩
    · have k0 : ((c : Int) == 0) = false := beq_eq_false_iff_ne.2 (by omega)
      have k1 : ((c : Int) == 1) = false := beq_eq_false_iff_ne.2 (by omega)
      have k2 : ((c : Int) == 2) = false := beq_eq_false_iff_ne.2 (by omega)
      have k3 : ((c : Int) == 3) = false := beq_eq_false_iff_ne.2 (by omega)
      have k4 : ((c : Int) == 4) = false := beq_eq_false_iff_ne.2 (by omega)
      have k5 : ((c : Int) == 5) = false := beq_eq_false_iff_ne.2 (by omega)
      have k6 : ((c : Int) == 6) = false := beq_eq_false_iff_ne.2 (by omega)
      go_wp2_with fail; go_meet
      exact ⟨_, _, _, _, rfl, rfl, rfl, rfl, HN.out _ _ _ _ (by intro h; exact absurd h.1 (by decide)) (by intro h; exact absurd h.1 (by decide)), (by repeat (first | (with_reducible exact Ext.refl _) | (with_reducible assumption) | (with_reducible refine Ext.drewN ?_ _) | (with_reducible refine Ext.drew ?_) | (with_reducible refine Ext.alloc ?_ _) | (with_reducible refine Ext.setCell ?_ (by first | exact Nat.le_refl _ | (simp <;> omega)) _) | (with_reducible refine Ext.trans ?_ (by with_reducible assumption))))⟩
  case rest =>
  obtain ⟨F2, W, A, S, rfl, rfl, rfl, rfl, HNN, B2c⟩ := hcut
  have P1 := Lib.hid (fun w => nprog_no (HNN.1 32) w)
  have P2 := Lib.hid (fun w => ntorn_no (HNN.1 3) w)
  have P3 := Lib.hid (fun w => nerase_no (HNN.2 96) w)
  have P4 := Lib.hid (fun w => nworn_no (HNN.2 5) w)
  clear HNN
  go_wp2_with fail
  refine (P1.out _).mono ?_
  rintro e w3 ⟨rfl, B3⟩
  go_wp2_with fail
  refine (P2.out _).mono ?_
  rintro e w4 ⟨rfl, B4⟩
  go_wp2_with fail
  refine (P3.out _).mono ?_
  rintro e w5 ⟨rfl, B5⟩
  go_wp2_with fail
  refine (P4.out _).mono ?_
  rintro e w6 ⟨rfl, B6⟩
  go_wp2_with fail
  go_upto_region 30 with fail
  go_cut [20, 21] (fun s t wx => s = .string (mk []) ∧ t = .int .i64 200 ∧ Ext w wx)
  case first =>
    rcases bs with rfl | rfl
    all_goals
      go_region_with (first | (go_at_call 22; (with_reducible refine (PB.out _).mono ?_); rintro e w' ⟨rfl, B⟩; (try (have k0 := Ext.cell_newD _ 0 B rfl rfl; have k1 := Ext.cell_newD _ 1 B rfl rfl))) | (go_at_call 12; (first | (with_reducible refine (Q1.out _).mono ?_) | (with_reducible refine (Q2.out _).mono ?_)); rintro e w' ⟨rfl, B⟩))
      all_goals (go_wp2_with fail; go_meet; exact ⟨rfl, rfl, (by repeat (first | (with_reducible exact Ext.refl _) | (with_reducible assumption) | (with_reducible refine Ext.drewN ?_ _) | (with_reducible refine Ext.drew ?_) | (with_reducible refine Ext.alloc ?_ _) | (with_reducible refine Ext.setCell ?_ (by first | exact Nat.le_refl _ | (simp <;> omega)) _) | (with_reducible refine Ext.trans ?_ (by with_reducible assumption))))⟩)
  case rest =>
  obtain ⟨rfl, rfl, B7⟩ := hcut
  go_upto_region 31 with fail
  go_cut [22, 23] (fun s t wx => s = .string (mk []) ∧ t = .int .i64 200 ∧ Ext w wx)
  case first =>
    rcases bs with rfl | rfl
    all_goals
      go_region_with (first | (go_at_call 22; (with_reducible refine (PB.out _).mono ?_); rintro e w' ⟨rfl, B⟩; (try (have k0 := Ext.cell_newD _ 0 B rfl rfl; have k1 := Ext.cell_newD _ 1 B rfl rfl))) | (go_at_call 16; (first | (with_reducible refine (Q3.out _).mono ?_) | (with_reducible refine (Q4.out _).mono ?_)); rintro e w' ⟨rfl, B⟩))
      all_goals (go_wp2_with fail; go_meet; exact ⟨rfl, rfl, (by repeat (first | (with_reducible exact Ext.refl _) | (with_reducible assumption) | (with_reducible refine Ext.drewN ?_ _) | (with_reducible refine Ext.drew ?_) | (with_reducible refine Ext.alloc ?_ _) | (with_reducible refine Ext.setCell ?_ (by first | exact Nat.le_refl _ | (simp <;> omega)) _) | (with_reducible refine Ext.trans ?_ (by with_reducible assumption))))⟩)
  case rest =>
  obtain ⟨rfl, rfl, B8⟩ := hcut
  go_wp2_with fail
  refine (num0_calls _ _).mono ?_
  rintro e w1 ⟨rfl, rfl⟩
  go_wp2_with fail
  refine (num0_calls _ _).mono ?_
  rintro e w2 ⟨rfl, rfl⟩
  go_wp2_with fail
  refine (num0_calls _ _).mono ?_
  rintro e w3 ⟨rfl, rfl⟩
  go_wp2_with fail
  refine (num0_calls _ _).mono ?_
  rintro e w4 ⟨rfl, rfl⟩
  go_wp2_with fail
  refine (num0_calls _ _).mono ?_
  rintro e w5 ⟨rfl, rfl⟩
  go_wp2_with fail
  refine (num0_calls _ _).mono ?_
  rintro e w6 ⟨rfl, rfl⟩
  go_wp2
  go_ret
  exact ⟨rfl, (by repeat (first | (with_reducible exact Ext.refl _) | (with_reducible assumption) | (with_reducible refine Ext.drewN ?_ _) | (with_reducible refine Ext.drew ?_) | (with_reducible refine Ext.alloc ?_ _) | (with_reducible refine Ext.setCell ?_ (by first | exact Nat.le_refl _ | (simp <;> omega)) _) | (with_reducible refine Ext.trans ?_ (by with_reducible assumption))))⟩

end Go.Proofs.Ytbpmmjfibnkmeaa
