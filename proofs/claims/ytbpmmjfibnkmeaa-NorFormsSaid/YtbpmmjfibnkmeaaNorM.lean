/- NorTwice, NorBits, NorWorn. -/
import Derived.Test.YtbpmmjfibnkmeaaNorL
import Derived.Test.YtbpmmjfibnkmeaaNorP
set_option linter.unusedVariables false
set_option linter.unusedSimpArgs false
set_option maxHeartbeats 4000000
namespace Go.Proofs.Ytbpmmjfibnkmeaa
open Go.RowKit Skiff
attribute [local go_sem ↓ high] min_two_int min_three_int max_two_int

theorem torn_iff {f w l : List UInt8} {x n : Int} (h : torn f x w n = some l) : tornMay f x w n = true ∧ l = tornF f x.toNat w n.toNat := by
  unfold torn at h
  split at h
  · rename_i hm; exact ⟨hm, (Option.some.inj h).symm⟩
  · cases h
theorem tornMay_iff {f w : List UInt8} {x n : Int} : tornMay f x w n = true ↔ f.length = 768 ∧ (0 ≤ x ∧ x ≤ 764 ∧ x % 4 = 0) ∧ w.length = 4 ∧ 0 ≤ n ∧ n ≤ 32 := by
  simp [tornMay, wordAt, within, and_assoc]
theorem torn_again {f w l : List UInt8} {x n : Int} (h : tornMay f x w n = true) (hl : l.length = f.length) : torn l x w n = some (tornF l x.toNat w n.toNat) := by
  unfold torn
  rw [if_pos]
  rw [tornMay_iff] at h ⊢
  omega
theorem worn_iff {f l : List UInt8} {x n : Int} (h : worn f x n = some l) : wornMay f x n = true ∧ l = wornF f (96 * x.toNat) n.toNat := by
  unfold worn at h
  split at h
  · rename_i hm; exact ⟨hm, (Option.some.inj h).symm⟩
  · cases h
theorem wornMay_iff {f : List UInt8} {x n : Int} : wornMay f x n = true ↔ f.length = 768 ∧ (0 ≤ x ∧ x ≤ 7) ∧ 0 ≤ n ∧ n ≤ 96 := by
  simp [wornMay, within, and_assoc]

theorem nprog_no {f s : ByteArray} {x : Int} (h : torn (bl f) x (bl s) 32 = none) (w : World) :
    Calls Try.prog 10 #[.string f, .int .i64 x, .string s] w fun e w' => e = .returned (.tuple #[.string (mk []), .int .i64 200]) ∧ Ext w w' := by
  have H := nprogram_calls f s x w
  rw [h] at H
  exact H
theorem nprog_ok {f s : ByteArray} {x : Int} {l : List UInt8} (h : torn (bl f) x (bl s) 32 = some l) (w : World) :
    Calls Try.prog 10 #[.string f, .int .i64 x, .string s] w fun e w' => e = .returned (.tuple #[.string (mk l), .int .i64 0]) ∧ Ext w w' := by
  have H := nprogram_calls f s x w
  rw [h] at H
  exact H
theorem ntorn_no {f s : ByteArray} {x n : Int} (h : torn (bl f) x (bl s) n = none) (w : World) :
    Calls Try.prog 12 #[.string f, .int .i64 x, .string s, .int .i64 n] w fun e w' => e = .returned (.tuple #[.string (mk []), .int .i64 200]) ∧ Ext w w' := by
  have H := ntorn_calls f s x n w
  rw [h] at H
  exact H
theorem ntorn_ok {f s : ByteArray} {x n : Int} {l : List UInt8} (h : torn (bl f) x (bl s) n = some l) (w : World) :
    Calls Try.prog 12 #[.string f, .int .i64 x, .string s, .int .i64 n] w fun e w' => e = .returned (.tuple #[.string (mk l), .int .i64 0]) ∧ Ext w w' := by
  have H := ntorn_calls f s x n w
  rw [h] at H
  exact H
theorem nworn_no {f : ByteArray} {x n : Int} (h : worn (bl f) x n = none) (w : World) :
    Calls Try.prog 16 #[.string f, .int .i64 x, .int .i64 n] w fun e w' => e = .returned (.tuple #[.string (mk []), .int .i64 200]) ∧ Ext w w' := by
  have H := nworn_calls f x n w
  rw [h] at H
  exact H
theorem nworn_ok {f : ByteArray} {x n : Int} {l : List UInt8} (h : worn (bl f) x n = some l) (w : World) :
    Calls Try.prog 16 #[.string f, .int .i64 x, .int .i64 n] w fun e w' => e = .returned (.tuple #[.string (mk l), .int .i64 0]) ∧ Ext w w' := by
  have H := nworn_calls f x n w
  rw [h] at H
  exact H
theorem nerase_no {f : ByteArray} {x : Int} (h : worn (bl f) x 96 = none) (w : World) :
    Calls Try.prog 14 #[.string f, .int .i64 x] w fun e w' => e = .returned (.tuple #[.string (mk []), .int .i64 200]) ∧ Ext w w' := by
  have H := nerase_calls f x w
  rw [h] at H
  exact H
theorem nerase_ok {f : ByteArray} {x : Int} {l : List UInt8} (h : worn (bl f) x 96 = some l) (w : World) :
    Calls Try.prog 14 #[.string f, .int .i64 x] w fun e w' => e = .returned (.tuple #[.string (mk l), .int .i64 0]) ∧ Ext w w' := by
  have H := nerase_calls f x w
  rw [h] at H
  exact H

theorem norTwice_walk (f : ByteArray) (a b : Int) (v s : ByteArray) (hf : f.size ≤ 140737488351232) (f1 : (Lit.int .i64 a).wf = true) (f2 : (Lit.int .i64 b).wf = true) (hv : v.size ≤ 140737488351232) (hs : s.size ≤ 140737488351232) (w : World) :
    Calls Try.prog 7 #[.string f, .int .i64 a, .int .i64 b, .string v, .string s] w fun e w' => e = .returned (.bool true) ∧ Ext w w' := by
  cases h1 : torn (bl f) a (bl v) 32 with
  | none =>
    have P1 := Lib.hid (fun w => nprog_no h1 w)
    obtain ⟨X, E, h2, -⟩ := tornRes' (torn (bl f) b (bl s) 32)
    have P2 := Lib.hid (fun w => nprogram_calls f s b w)
    rw [h2] at P2
    clear h1 h2
    go_enter Try.func7, Try.ntmps7
    go_wp2_with fail
    refine (awake2_calls _).mono ?_
    rintro e w1 ⟨rfl, B1⟩
    go_wp2_with fail
    refine (P1.out _).mono ?_
    rintro e w2 ⟨rfl, B2⟩
    go_wp2_with fail
    refine (P2.out _).mono ?_
    rintro e w3 ⟨rfl, B3⟩
    go_wp2_with fail
    refine (num0_calls _ _).mono ?_
    rintro e w4 ⟨rfl, rfl⟩
    go_wp2
    go_ret
    exact ⟨rfl, (by repeat (first | (with_reducible exact Ext.refl _) | (with_reducible assumption) | (with_reducible refine Ext.drewN ?_ _) | (with_reducible refine Ext.drew ?_) | (with_reducible refine Ext.alloc ?_ _) | (with_reducible refine Ext.setCell ?_ (by first | exact Nat.le_refl _ | (simp <;> omega)) _) | (with_reducible refine Ext.trans ?_ (by with_reducible assumption))))⟩
  | some l1 =>
  have P1 := Lib.hid (fun w => nprog_ok h1 w)
  cases h2 : torn (bl f) b (bl s) 32 with
  | none =>
    have P2 := Lib.hid (fun w => nprog_no h2 w)
    clear h1 h2
    go_enter Try.func7, Try.ntmps7
    go_wp2_with fail
    refine (awake2_calls _).mono ?_
    rintro e w5 ⟨rfl, B5⟩
    go_wp2_with fail
    refine (P1.out _).mono ?_
    rintro e w6 ⟨rfl, B6⟩
    go_wp2_with fail
    refine (P2.out _).mono ?_
    rintro e w7 ⟨rfl, B7⟩
    go_wp2_with fail
    refine (num0_calls _ _).mono ?_
    rintro e w8 ⟨rfl, rfl⟩
    go_wp2_with fail
    refine (num0_calls _ _).mono ?_
    rintro e w9 ⟨rfl, rfl⟩
    go_wp2
    go_ret
    exact ⟨rfl, (by repeat (first | (with_reducible exact Ext.refl _) | (with_reducible assumption) | (with_reducible refine Ext.drewN ?_ _) | (with_reducible refine Ext.drew ?_) | (with_reducible refine Ext.alloc ?_ _) | (with_reducible refine Ext.setCell ?_ (by first | exact Nat.le_refl _ | (simp <;> omega)) _) | (with_reducible refine Ext.trans ?_ (by with_reducible assumption))))⟩
  | some l2 =>
  have P2 := Lib.hid (fun w => nprog_ok h2 w)
  obtain ⟨m1, e1⟩ := torn_iff h1
  obtain ⟨m2, e2⟩ := torn_iff h2
  have q1 := tornMay_iff.1 m1
  have q2 := tornMay_iff.1 m2
  have h3 : torn (bl (mk l1)) b (bl s) 32 = some (tornF l1 b.toNat (bl s) 32) := by
    rw [bl_mk]; exact torn_again m2 (by rw [e1, tornF_length _ _ _ _ (by omega)])
  have h4 : torn (bl (mk l2)) a (bl v) 32 = some (tornF l2 a.toNat (bl v) 32) := by
    rw [bl_mk]; exact torn_again m1 (by rw [e2, tornF_length _ _ _ _ (by omega)])
  have he : tornF l1 b.toNat (bl s) 32 = tornF l2 a.toNat (bl v) 32 := by
    rw [e1, e2]; exact tornF_swap _ _ _ _ _ (by omega) (by omega) q1.2.2.1 q2.2.2.1
  rw [he] at h3
  have P3 := Lib.hid (fun w => nprog_ok h3 w)
  have P4 := Lib.hid (fun w => nprog_ok h4 w)
  generalize mk (tornF l2 a.toNat (bl v) 32) = Z at P3 P4
  generalize mk l1 = X at P1 P3
  generalize mk l2 = Y at P2 P4
  clear h1 h2 h3 h4 m1 m2 e1 e2 q1 q2 he
  go_enter Try.func7, Try.ntmps7
  go_wp2_with fail
  refine (awake2_calls _).mono ?_
  rintro e w10 ⟨rfl, B10⟩
  go_wp2_with fail
  refine (P1.out _).mono ?_
  rintro e w11 ⟨rfl, B11⟩
  go_wp2_with fail
  refine (P2.out _).mono ?_
  rintro e w12 ⟨rfl, B12⟩
  go_wp2_with fail
  refine (num0_calls _ _).mono ?_
  rintro e w13 ⟨rfl, rfl⟩
  go_wp2_with fail
  refine (num0_calls _ _).mono ?_
  rintro e w14 ⟨rfl, rfl⟩
  go_wp2_with fail
  refine (P3.out _).mono ?_
  rintro e w15 ⟨rfl, B15⟩
  go_wp2_with fail
  refine (P4.out _).mono ?_
  rintro e w16 ⟨rfl, B16⟩
  go_wp2_with fail
  refine (num0_calls _ _).mono ?_
  rintro e w17 ⟨rfl, rfl⟩
  go_wp2_with fail
  refine (num0_calls _ _).mono ?_
  rintro e w18 ⟨rfl, rfl⟩
  go_wp2
  go_ret
  exact ⟨rfl, (by repeat (first | (with_reducible exact Ext.refl _) | (with_reducible assumption) | (with_reducible refine Ext.drewN ?_ _) | (with_reducible refine Ext.drew ?_) | (with_reducible refine Ext.alloc ?_ _) | (with_reducible refine Ext.setCell ?_ (by first | exact Nat.le_refl _ | (simp <;> omega)) _) | (with_reducible refine Ext.trans ?_ (by with_reducible assumption))))⟩

theorem torn_none_iff {f w : List UInt8} {x n : Int} (h : torn f x w n = none) : tornMay f x w n = false := by
  unfold torn at h
  split at h
  · cases h
  · rename_i hm; simpa using hm
theorem tornMay_any {f w : List UInt8} {x : Int} {n m : Int} (hn : 0 ≤ n ∧ n ≤ 32) (hm : 0 ≤ m ∧ m ≤ 32) : tornMay f x w n = tornMay f x w m := by
  unfold tornMay
  rw [show within n 0 32 = true from Skiff.within_iff.2 hn, show within m 0 32 = true from Skiff.within_iff.2 hm]

theorem norBits_walk (f : ByteArray) (x : Int) (s : ByteArray) (a b : Int) (hf : f.size ≤ 140737488351232) (f1 : (Lit.int .i64 x).wf = true) (hs : s.size ≤ 140737488351232) (f2 : (Lit.int .i64 a).wf = true) (f3 : (Lit.int .i64 b).wf = true) (w : World) :
    Calls Try.prog 8 #[.string f, .int .i64 x, .string s, .int .i64 a, .int .i64 b] w fun e w' => e = .returned (.bool true) ∧ Ext w w' := by
  obtain ⟨i, hi, hi2⟩ : ∃ k : Nat, wrap64 ((IntKind.u64.wrap a).tmod 33) = (k : Int) ∧ k < 33 := mod_nat a 33 (by omega) (by omega)
  obtain ⟨j, hj, hj2⟩ : ∃ k : Nat, wrap64 ((IntKind.u64.wrap b).tmod 33) = (k : Int) ∧ k < 33 := mod_nat b 33 (by omega) (by omega)
  have hmk : (mk []).toList = [] := by decide +kernel
  cases hm : tornMay (bl f) x (bl s) 32 with
  | false =>
    have h1 : torn (bl f) x (bl s) i = none := by unfold torn; rw [tornMay_any (m := 32) (by omega) (by omega), hm]; rfl
    have h2 : torn (bl f) x (bl s) j = none := by unfold torn; rw [tornMay_any (m := 32) (by omega) (by omega), hm]; rfl
    have P1 := Lib.hid (fun w => ntorn_no h1 w)
    have P2 := Lib.hid (fun w => ntorn_no h2 w)
    clear h1 h2 hm
    go_enter Try.func8, Try.ntmps8
    go_wp2_with fail
    refine (awake2_calls _).mono ?_
    rintro e w1 ⟨rfl, B1⟩
    go_wp2_with fail
    refine (P1.out _).mono ?_
    rintro e w2 ⟨rfl, B2⟩
    go_wp2_with fail
    refine (P2.out _).mono ?_
    rintro e w3 ⟨rfl, B3⟩
    go_wp2_with fail
    refine (num0_calls _ _).mono ?_
    rintro e w4 ⟨rfl, rfl⟩
    go_wp2
    go_ret
    exact ⟨rfl, (by repeat (first | (with_reducible exact Ext.refl _) | (with_reducible assumption) | (with_reducible refine Ext.drewN ?_ _) | (with_reducible refine Ext.drew ?_) | (with_reducible refine Ext.alloc ?_ _) | (with_reducible refine Ext.setCell ?_ (by first | exact Nat.le_refl _ | (simp <;> omega)) _) | (with_reducible refine Ext.trans ?_ (by with_reducible assumption))))⟩
  | true =>
  have q := tornMay_iff.1 hm
  obtain ⟨n, rfl⟩ := Int.eq_ofNat_of_zero_le q.2.1.1
  have lf : n + 4 ≤ (bl f).length := by omega
  have T : ∀ (g : List UInt8) (c : Nat), g.length = 768 → c ≤ 32 → torn g n (bl s) c = some (tornF g n (bl s) c) := fun g c hg hc => by
    unfold torn
    rw [if_pos (tornMay_iff.2 ⟨hg, q.2.1, q.2.2.1, by omega⟩)]
    rfl
  have l1 : (tornF (bl f) n (bl s) i).length = 768 := by rw [tornF_length _ _ _ _ lf]; exact q.1
  have P1 := Lib.hid (fun w => ntorn_ok (T (bl f) i q.1 (by omega)) w)
  have P2 := Lib.hid (fun w => ntorn_ok (T (bl f) j q.1 (by omega)) w)
  have h3 : torn (bl (mk (tornF (bl f) n (bl s) i))) n (bl s) j = some (tornF (bl f) n (bl s) (max i j)) := by
    rw [bl_mk, T _ j l1 (by omega), tornF_tornF _ _ _ _ _ lf q.2.2.1]
  have P3 := Lib.hid (fun w => ntorn_ok h3 w)
  have P4 := Lib.hid (fun w => nprog_ok (T (bl f) 32 q.1 (by omega)) w)
  clear h3 T hm
  by_cases hij : i ≤ j
  · have t1 : decide ((i : Int) ≤ j) = true := decide_eq_true (by omega)
    have t2 : decide (i ≤ j) = true := decide_eq_true hij
    rw [Nat.max_eq_right hij] at P3
    by_cases h32 : j < 32
    · have t3 : decide ((j : Int) < 32) = true := decide_eq_true (by omega)
      generalize mk (tornF (bl f) n (bl s) i) = X at *
      generalize mk (tornF (bl f) n (bl s) j) = Y at *
      generalize mk (tornF (bl f) n (bl s) 32) = Z at *
      clear q l1 lf
      go_enter Try.func8, Try.ntmps8
      go_wp2_with fail
      refine (awake2_calls _).mono ?_
      rintro e w5 ⟨rfl, B5⟩
      go_wp2_with fail
      refine (P1.out _).mono ?_
      rintro e w6 ⟨rfl, B6⟩
      go_wp2_with fail
      refine (P2.out _).mono ?_
      rintro e w7 ⟨rfl, B7⟩
      go_wp2_with fail
      refine (num0_calls _ _).mono ?_
      rintro e w8 ⟨rfl, rfl⟩
      go_wp2_with fail
      refine (num0_calls _ _).mono ?_
      rintro e w9 ⟨rfl, rfl⟩
      go_wp2_with fail
      refine (P3.out _).mono ?_
      rintro e w10 ⟨rfl, B10⟩
      go_wp2_with fail
      refine (P4.out _).mono ?_
      rintro e w11 ⟨rfl, B11⟩
      go_wp2_with fail
      refine (num0_calls _ _).mono ?_
      rintro e w12 ⟨rfl, rfl⟩
      go_wp2_with fail
      refine (num0_calls _ _).mono ?_
      rintro e w13 ⟨rfl, rfl⟩
      go_wp2
      go_ret
      exact ⟨rfl, (by repeat (first | (with_reducible exact Ext.refl _) | (with_reducible assumption) | (with_reducible refine Ext.drewN ?_ _) | (with_reducible refine Ext.drew ?_) | (with_reducible refine Ext.alloc ?_ _) | (with_reducible refine Ext.setCell ?_ (by first | exact Nat.le_refl _ | (simp <;> omega)) _) | (with_reducible refine Ext.trans ?_ (by with_reducible assumption))))⟩
    · obtain rfl : j = 32 := by omega
      generalize mk (tornF (bl f) n (bl s) i) = X at *
      generalize mk (tornF (bl f) n (bl s) 32) = Z at *
      clear q l1 lf
      go_enter Try.func8, Try.ntmps8
      go_wp2_with fail
      refine (awake2_calls _).mono ?_
      rintro e w14 ⟨rfl, B14⟩
      go_wp2_with fail
      refine (P1.out _).mono ?_
      rintro e w15 ⟨rfl, B15⟩
      go_wp2_with fail
      refine (P2.out _).mono ?_
      rintro e w16 ⟨rfl, B16⟩
      go_wp2_with fail
      refine (num0_calls _ _).mono ?_
      rintro e w17 ⟨rfl, rfl⟩
      go_wp2_with fail
      refine (num0_calls _ _).mono ?_
      rintro e w18 ⟨rfl, rfl⟩
      go_wp2_with fail
      refine (P3.out _).mono ?_
      rintro e w19 ⟨rfl, B19⟩
      go_wp2_with fail
      refine (P4.out _).mono ?_
      rintro e w20 ⟨rfl, B20⟩
      go_wp2_with fail
      refine (num0_calls _ _).mono ?_
      rintro e w21 ⟨rfl, rfl⟩
      go_wp2_with fail
      refine (num0_calls _ _).mono ?_
      rintro e w22 ⟨rfl, rfl⟩
      go_wp2
      go_ret
      exact ⟨rfl, (by repeat (first | (with_reducible exact Ext.refl _) | (with_reducible assumption) | (with_reducible refine Ext.drewN ?_ _) | (with_reducible refine Ext.drew ?_) | (with_reducible refine Ext.alloc ?_ _) | (with_reducible refine Ext.setCell ?_ (by first | exact Nat.le_refl _ | (simp <;> omega)) _) | (with_reducible refine Ext.trans ?_ (by with_reducible assumption))))⟩
  · have t1 : decide ((i : Int) ≤ j) = false := decide_eq_false (by omega)
    have t2 : decide (i ≤ j) = false := decide_eq_false hij
    rw [Nat.max_eq_left (by omega)] at P3
    generalize mk (tornF (bl f) n (bl s) i) = X at *
    generalize mk (tornF (bl f) n (bl s) j) = Y at *
    generalize mk (tornF (bl f) n (bl s) 32) = Z at *
    clear q l1 lf
    go_enter Try.func8, Try.ntmps8
    go_wp2_with fail
    refine (awake2_calls _).mono ?_
    rintro e w23 ⟨rfl, B23⟩
    go_wp2_with fail
    refine (P1.out _).mono ?_
    rintro e w24 ⟨rfl, B24⟩
    go_wp2_with fail
    refine (P2.out _).mono ?_
    rintro e w25 ⟨rfl, B25⟩
    go_wp2_with fail
    refine (num0_calls _ _).mono ?_
    rintro e w26 ⟨rfl, rfl⟩
    go_wp2_with fail
    refine (num0_calls _ _).mono ?_
    rintro e w27 ⟨rfl, rfl⟩
    go_wp2_with fail
    refine (P3.out _).mono ?_
    rintro e w28 ⟨rfl, B28⟩
    go_wp2_with fail
    refine (P4.out _).mono ?_
    rintro e w29 ⟨rfl, B29⟩
    go_wp2_with fail
    refine (num0_calls _ _).mono ?_
    rintro e w30 ⟨rfl, rfl⟩
    go_wp2_with fail
    refine (num0_calls _ _).mono ?_
    rintro e w31 ⟨rfl, rfl⟩
    go_wp2
    go_ret
    exact ⟨rfl, (by repeat (first | (with_reducible exact Ext.refl _) | (with_reducible assumption) | (with_reducible refine Ext.drewN ?_ _) | (with_reducible refine Ext.drew ?_) | (with_reducible refine Ext.alloc ?_ _) | (with_reducible refine Ext.setCell ?_ (by first | exact Nat.le_refl _ | (simp <;> omega)) _) | (with_reducible refine Ext.trans ?_ (by with_reducible assumption))))⟩

theorem norWorn_walk (f : ByteArray) (x a b : Int) (hf : f.size ≤ 140737488351232) (f1 : (Lit.int .i64 x).wf = true) (f2 : (Lit.int .i64 a).wf = true) (f3 : (Lit.int .i64 b).wf = true) (w : World) :
    Calls Try.prog 9 #[.string f, .int .i64 x, .int .i64 a, .int .i64 b] w fun e w' => e = .returned (.bool true) ∧ Ext w w' := by
  obtain ⟨i, hi, hi2⟩ : ∃ k : Nat, wrap64 ((IntKind.u64.wrap a).tmod 97) = (k : Int) ∧ k < 97 := mod_nat a 97 (by omega) (by omega)
  obtain ⟨j, hj, hj2⟩ : ∃ k : Nat, wrap64 ((IntKind.u64.wrap b).tmod 97) = (k : Int) ∧ k < 97 := mod_nat b 97 (by omega) (by omega)
  obtain ⟨n, hn, hn2⟩ : ∃ k : Nat, bits .and .i64 x 7 = (k : Int) ∧ k < 8 := and_mask x f1 3 (by omega)
  have hx : imax (i : Int) (j : Int) = ((max i j : Nat) : Int) := by rw [imax_eq]; omega
  have hmk : (mk []).toList = [] := by decide +kernel
  by_cases hs : f.size = 768
  · have lf : (bl f).length = 768 := by rw [bl_length, hs]
    have T : ∀ (g : List UInt8) (c : Nat), g.length = 768 → c ≤ 96 → worn g n c = some (wornF g (96 * n) c) := fun g c hg hc => by
      unfold worn
      rw [if_pos (wornMay_iff.2 ⟨hg, by omega, by omega⟩)]
      rfl
    have l1 : (wornF (bl f) (96 * n) i).length = 768 := by rw [wornF_length _ _ _ (by omega)]; exact lf
    have P1 := Lib.hid (fun w => nworn_ok (T (bl f) i lf (by omega)) w)
    have h2 : worn (bl (mk (wornF (bl f) (96 * n) i))) n j = some (wornF (bl f) (96 * n) (max i j)) := by
      rw [bl_mk, T _ j l1 (by omega), wornF_wornF _ _ _ _ (by omega) (by omega)]
    have P2 := Lib.hid (fun w => nworn_ok h2 w)
    have P3 := Lib.hid (fun w => nworn_ok (T (bl f) (max i j) lf (by omega)) w)
    generalize max i j = m at *
    generalize mk (wornF (bl f) (96 * n) i) = X at *
    generalize mk (wornF (bl f) (96 * n) m) = Y at *
    clear h2 T l1 lf
    go_enter Try.func9, Try.ntmps9
    go_wp2_with fail
    refine (awake2_calls _).mono ?_
    rintro e w1 ⟨rfl, B1⟩
    go_wp2_with fail
    refine (P1.out _).mono ?_
    rintro e w2 ⟨rfl, B2⟩
    go_wp2_with fail
    refine (P2.out _).mono ?_
    rintro e w3 ⟨rfl, B3⟩
    go_wp2_with fail
    refine (P3.out _).mono ?_
    rintro e w4 ⟨rfl, B4⟩
    go_wp2_with fail
    refine (num0_calls _ _).mono ?_
    rintro e w5 ⟨rfl, rfl⟩
    go_wp2_with fail
    refine (num0_calls _ _).mono ?_
    rintro e w6 ⟨rfl, rfl⟩
    go_wp2_with fail
    refine (num0_calls _ _).mono ?_
    rintro e w7 ⟨rfl, rfl⟩
    go_wp2
    go_ret
    exact ⟨rfl, (by repeat (first | (with_reducible exact Ext.refl _) | (with_reducible assumption) | (with_reducible refine Ext.drewN ?_ _) | (with_reducible refine Ext.drew ?_) | (with_reducible refine Ext.alloc ?_ _) | (with_reducible refine Ext.setCell ?_ (by first | exact Nat.le_refl _ | (simp <;> omega)) _) | (with_reducible refine Ext.trans ?_ (by with_reducible assumption))))⟩
  · have T : ∀ (c : Int), worn (bl f) n c = none := fun c => by
      unfold worn wornMay
      rw [bl_length, decide_eq_false hs]; rfl
    have T2 : ∀ (c : Int), worn (bl (mk [])) n c = none := fun c => by
      unfold worn wornMay
      rw [bl_mk]; rfl
    have P1 := Lib.hid (fun w => nworn_no (T i) w)
    have P2 := Lib.hid (fun w => nworn_no (T2 j) w)
    have P3 := Lib.hid (fun w => nworn_no (T (max i j : Nat)) w)
    generalize max i j = m at *
    clear T T2
    go_enter Try.func9, Try.ntmps9
    go_wp2_with fail
    refine (awake2_calls _).mono ?_
    rintro e w8 ⟨rfl, B8⟩
    go_wp2_with fail
    refine (P1.out _).mono ?_
    rintro e w9 ⟨rfl, B9⟩
    go_wp2_with fail
    refine (P2.out _).mono ?_
    rintro e w10 ⟨rfl, B10⟩
    go_wp2_with fail
    refine (P3.out _).mono ?_
    rintro e w11 ⟨rfl, B11⟩
    go_wp2_with fail
    refine (num0_calls _ _).mono ?_
    rintro e w12 ⟨rfl, rfl⟩
    go_wp2_with fail
    refine (num0_calls _ _).mono ?_
    rintro e w13 ⟨rfl, rfl⟩
    go_wp2
    go_ret
    exact ⟨rfl, (by repeat (first | (with_reducible exact Ext.refl _) | (with_reducible assumption) | (with_reducible refine Ext.drewN ?_ _) | (with_reducible refine Ext.drew ?_) | (with_reducible refine Ext.alloc ?_ _) | (with_reducible refine Ext.setCell ?_ (by first | exact Nat.le_refl _ | (simp <;> omega)) _) | (with_reducible refine Ext.trans ?_ (by with_reducible assumption))))⟩

end Go.Proofs.Ytbpmmjfibnkmeaa
