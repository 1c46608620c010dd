/- NorClears, NorErases. -/
import Derived.Test.YtbpmmjfibnkmeaaNorM
set_option linter.unusedVariables false
set_option linter.unusedSimpArgs false
set_option maxHeartbeats 4000000
namespace Go.Proofs.Ytbpmmjfibnkmeaa
open Go.RowKit Skiff

theorem u8_and_eq (a b : UInt8) : bits .and .u8 (a.toNat : Int) (b.toNat : Int) = ((a &&& b).toNat : Int) := by
  rw [u8_and_nat _ _ a.toNat_lt b.toNat_lt, UInt8.toNat_and]
theorem clears_bytes (x s : UInt8) (m : Nat) : x &&& (x &&& s) = x &&& s ∧ x &&& tornB x s m = tornB x s m ∧ tornB x s m &&& (x &&& s) = x &&& s := by
  refine ⟨by rw [← UInt8.and_assoc, UInt8.and_self], by unfold tornB; rw [← UInt8.and_assoc, UInt8.and_self], ?_⟩
  unfold tornB maskB
  rw [UInt8.and_comm x s, ← UInt8.and_assoc, UInt8.and_assoc x, or_and_back, UInt8.and_assoc, UInt8.and_comm s x, ← UInt8.and_assoc, UInt8.and_self]
theorem get_bl (f : ByteArray) (i : Nat) (h : i < f.size) : f[i] = (bl f).getD i 0 := by
  rw [List.getD_eq_getElem?_getD, List.getElem?_eq_getElem (by rw [bl_length]; exact h)]; rfl
theorem take_extract {f g : ByteArray} {n : Nat} (h : (bl f).take n = (bl g).take n) : f.extract 0 n = g.extract 0 n := bl_inj (by rw [bl_extract, bl_extract]; simpa using h)
theorem drop_extract {f g : ByteArray} {n m : Nat} (h : (bl f).drop n = (bl g).drop n) : f.extract n m = g.extract n m := bl_inj (by rw [bl_extract, bl_extract, h])
theorem tornF_take (f w : List UInt8) (a n : Nat) (h : a + 4 ≤ f.length) : (tornF f a w n).take a = f.take a := by
  unfold tornF
  rw [List.append_assoc, List.take_append_of_le_length (by simp; omega), List.take_take, Nat.min_self]
theorem tornF_drop (f w : List UInt8) (a n : Nat) (h : a + 4 ≤ f.length) : (tornF f a w n).drop (a + 4) = f.drop (a + 4) := by
  unfold tornF
  rw [List.drop_append, List.drop_of_length_le (by simp; omega), List.nil_append]
  rw [show a + 4 - (List.take a f ++ tornL (List.take 4 (List.drop a f)) w n).length = 0 by simp; omega]
  rfl

set_option maxRecDepth 100000 in
theorem norClears_walk (f : ByteArray) (x : Int) (s : ByteArray) (b : Int) (hf : f.size ≤ 140737488351232) (f1 : (Lit.int .i64 x).wf = true) (hs : s.size ≤ 140737488351232) (f2 : (Lit.int .i64 b).wf = true) (w : World) :
    Calls Try.prog 4 #[.string f, .int .i64 x, .string s, .int .i64 b] w fun e w' => e = .returned (.bool true) ∧ Ext w w' := by
  obtain ⟨i, hi, hi2⟩ : ∃ k : Nat, bits .and .i64 b 31 = (k : Int) ∧ k < 32 := and_mask b f2 5 (by omega)
  have hmk : (mk []).toList = [] := by decide +kernel
  cases hm : tornMay (bl f) x (bl s) 32 with
  | false =>
    have h1 : torn (bl f) x (bl s) i = none := by unfold torn; rw [tornMay_any (m := 32) (by omega) (by omega), hm]; rfl
    have h2 : torn (bl f) x (bl s) 32 = none := by unfold torn; rw [hm]; rfl
    have P1 := Lib.hid (fun w => nprog_no h2 w)
    have P2 := Lib.hid (fun w => ntorn_no h1 w)
    clear h1 h2 hm
    go_enter Try.func4, Try.ntmps4
    go_wp2_with fail
    refine (awake2_calls _).mono ?_
    rintro e w1 ⟨rfl, B1⟩
    go_wp2_with fail
    refine (P1.out _).mono ?_
    rintro e w2 ⟨rfl, B2⟩
    go_wp2_with fail
    refine (P2.out _).mono ?_
    rintro e w3 ⟨rfl, B3⟩
    go_wp2_with fail
    refine (num0_calls _ _).mono ?_
    rintro e w4 ⟨rfl, rfl⟩
    go_wp2
    go_ret
    exact ⟨rfl, (by repeat (first | (with_reducible exact Ext.refl _) | (with_reducible assumption) | (with_reducible refine Ext.drewN ?_ _) | (with_reducible refine Ext.drew ?_) | (with_reducible refine Ext.alloc ?_ _) | (with_reducible refine Ext.setCell ?_ (by first | exact Nat.le_refl _ | (simp <;> omega)) _) | (with_reducible refine Ext.trans ?_ (by with_reducible assumption))))⟩
  | true =>
  have q := tornMay_iff.1 hm
  obtain ⟨n, rfl⟩ := Int.eq_ofNat_of_zero_le q.2.1.1
  have lf : n + 4 ≤ (bl f).length := by omega
  have T : ∀ (g : List UInt8) (c : Nat), g.length = 768 → c ≤ 32 → torn g n (bl s) c = some (tornF g n (bl s) c) := fun g c hg hc => by
    unfold torn
    rw [if_pos (tornMay_iff.2 ⟨hg, q.2.1, q.2.2.1, by omega⟩)]
    rfl
  have l1 : (tornF (bl f) n (bl s) i).length = 768 := by rw [tornF_length _ _ _ _ lf]; exact q.1
  have l2 : (tornF (bl f) n (bl s) 32).length = 768 := by rw [tornF_length _ _ _ _ lf]; exact q.1
  have P1 := Lib.hid (fun w => nprog_ok (T (bl f) 32 q.1 (by omega)) w)
  have P2 := Lib.hid (fun w => ntorn_ok (T (bl f) i q.1 (by omega)) w)
  have h3 : torn (bl (mk (tornF (bl f) n (bl s) i))) n (bl s) 32 = some (tornF (bl f) n (bl s) 32) := by
    rw [bl_mk]
    have := T (tornF (bl f) n (bl s) i) 32 l1 (by omega)
    rw [tornF_tornF _ _ _ _ _ lf q.2.2.1, Nat.max_eq_right (by omega)] at this
    exact this
  have P3 := Lib.hid (fun w => nprog_ok h3 w)
  have sf : f.size = 768 := by rw [← bl_length]; exact q.1
  have sA : (mk (tornF (bl f) n (bl s) 32)).size = 768 := by rw [mk_size, l2]
  have sB : (mk (tornF (bl f) n (bl s) i)).size = 768 := by rw [mk_size, l1]
  have e1 : (mk (tornF (bl f) n (bl s) 32)).extract 0 n = f.extract 0 n := take_extract (by rw [bl_mk, tornF_take _ _ _ _ lf])
  have e2 : (mk (tornF (bl f) n (bl s) i)).extract 0 n = f.extract 0 n := take_extract (by rw [bl_mk, tornF_take _ _ _ _ lf])
  have e3 : (mk (tornF (bl f) n (bl s) 32)).extract (n + 4) 768 = f.extract (n + 4) 768 := drop_extract (by rw [bl_mk, tornF_drop _ _ _ _ lf])
  have e4 : (mk (tornF (bl f) n (bl s) i)).extract (n + 4) 768 = f.extract (n + 4) 768 := drop_extract (by rw [bl_mk, tornF_drop _ _ _ _ lf])
  have X : ∀ k, k < 4 → ∃ x y z : UInt8, (∀ h, f[n + k]'h = x) ∧ (∀ h, (mk (tornF (bl f) n (bl s) 32))[n + k]'h = y) ∧ (∀ h, (mk (tornF (bl f) n (bl s) i))[n + k]'h = z) ∧ x &&& y = y ∧ x &&& z = z ∧ z &&& y = y := by
    intro k hk
    obtain ⟨c1, c2, c3⟩ := clears_bytes ((bl f).getD (n + k) 0) ((bl s).getD k 0) (i - 8 * k)
    refine ⟨(bl f).getD (n + k) 0, (bl f).getD (n + k) 0 &&& (bl s).getD k 0, tornB ((bl f).getD (n + k) 0) ((bl s).getD k 0) (i - 8 * k), fun h => get_bl _ _ h, fun h => ?_, fun h => ?_, c1, c2, c3⟩
    · rw [get_bl, bl_mk, tornF_full _ _ _ _ lf q.2.2.1, if_pos (by omega), Nat.add_sub_cancel_left]
    · rw [get_bl, bl_mk, tornF_at _ _ _ _ _ lf q.2.2.1, if_pos (by omega), Nat.add_sub_cancel_left]
  clear T hm l1 l2 h3
  generalize mk (tornF (bl f) n (bl s) i) = B at *
  generalize mk (tornF (bl f) n (bl s) 32) = A at *
  have hn : n + 4 ≤ 768 := by omega
  clear q lf
  have HX := Lib.hid X
  clear X
  have t1 : decide ((n : Int) < 0) = false := decide_eq_false (by omega)
  have t2 : decide ((n : Int) > 764) = false := decide_eq_false (by omega)
  go_enter Try.func4, Try.ntmps4
  go_wp2_with fail
  refine (awake2_calls _).mono ?_
  rintro e w5 ⟨rfl, B5⟩
  go_wp2_with fail
  refine (P1.out _).mono ?_
  rintro e w6 ⟨rfl, B6⟩
  go_wp2_with fail
  refine (P2.out _).mono ?_
  rintro e w7 ⟨rfl, B7⟩
  go_wp2_with fail
  refine (num0_calls _ _).mono ?_
  rintro e w8 ⟨rfl, rfl⟩
  go_wp2_with fail
  refine (num0_calls _ _).mono ?_
  rintro e w9 ⟨rfl, rfl⟩
  go_wp2_with fail
  refine (P3.out _).mono ?_
  rintro e w10 ⟨rfl, B10⟩
  go_wp2
  go_loopw [15] (fun i wr => ∃ k : Nat, k ≤ 4 ∧ i = .int .i64 (k : Int) ∧ Ext w10 wr) (fun i _ => 4 - (intOf i).toNat)
  case atStart => exact ⟨0, by omega, rfl, Ext.refl _⟩
  case round =>
    obtain ⟨k, hk, rfl, hE⟩ := hrel
    by_cases hlt : k < 4
    · obtain ⟨bx, by_, bz, g1, g2, g3, c1, c2, c3⟩ := HX.out k hlt
      have r1 : (bits .and .u8 (bx.toNat : Int) (by_.toNat : Int) != (by_.toNat : Int)) = false := by rw [u8_and_eq, c1]; exact bne_self_eq_false' _
      have r2 : (bits .and .u8 (bx.toNat : Int) (bz.toNat : Int) != (bz.toNat : Int)) = false := by rw [u8_and_eq, c2]; exact bne_self_eq_false' _
      have r3 : (bits .and .u8 (bz.toNat : Int) (by_.toNat : Int) != (by_.toNat : Int)) = false := by rw [u8_and_eq, c3]; exact bne_self_eq_false' _
      clear c1 c2 c3
      have z0 : n + k < 768 := by omega
      have z1 : IntKind.i64.wrap ((n : Int) + (k : Int)) = (n : Int) + (k : Int) := wrap_i64_fit _ (by omega) (by omega)
      have z2 : 0 ≤ (n : Int) + (k : Int) ∧ (n : Int) + (k : Int) < 768 := by omega
      have z3 : ((n : Int) + (k : Int)).toNat = n + k := by omega
      go_wp2
      go_quiet (fail)
      go_wp2
      go_roundw
      case rel => exact ⟨k + 1, by omega, by go_num, (by repeat (first | (with_reducible exact Ext.refl _) | (with_reducible assumption) | (with_reducible refine Ext.drewN ?_ _) | (with_reducible refine Ext.drew ?_) | (with_reducible refine Ext.alloc ?_ _) | (with_reducible refine Ext.setCell ?_ (by first | exact Nat.le_refl _ | (simp <;> omega)) _) | (with_reducible refine Ext.trans ?_ (by with_reducible assumption))))⟩
      case measure => simp [intOf] <;> omega
    · obtain rfl : k = 4 := by omega
      have z0 : n + 4 ≤ 768 := by omega
      have z4 : (n : Int) ≤ 768 := by omega
      have z1 : IntKind.i64.wrap ((n : Int) + 4) = (n : Int) + 4 := wrap_i64_fit _ (by omega) (by omega)
      have z2 : 0 ≤ (n : Int) + 4 ∧ (n : Int) + 4 ≤ 768 := by omega
      have z3 : ((n : Int) + 4).toNat = n + 4 := by omega
      go_wp2
      go_quiet ((go_at_call 18; exact quietN (num0_calls _ _)))
      go_wp2
      go_ret
      exact ⟨rfl, (by repeat (first | (with_reducible exact Ext.refl _) | (with_reducible assumption) | (with_reducible refine Ext.drewN ?_ _) | (with_reducible refine Ext.drew ?_) | (with_reducible refine Ext.alloc ?_ _) | (with_reducible refine Ext.setCell ?_ (by first | exact Nat.le_refl _ | (simp <;> omega)) _) | (with_reducible refine Ext.trans ?_ (by with_reducible assumption))))⟩

set_option maxRecDepth 100000 in
theorem norErases_walk (f : ByteArray) (x b : Int) (hf : f.size ≤ 140737488351232) (f1 : (Lit.int .i64 x).wf = true) (f2 : (Lit.int .i64 b).wf = true) (w : World) :
    Calls Try.prog 6 #[.string f, .int .i64 x, .int .i64 b] w fun e w' => e = .returned (.bool true) ∧ Ext w w' := by
  obtain ⟨i, hi, hi2⟩ : ∃ k : Nat, wrap64 ((IntKind.u64.wrap b).tmod 97) = (k : Int) ∧ k < 97 := mod_nat b 97 (by omega) (by omega)
  obtain ⟨n, hn, hn2⟩ : ∃ k : Nat, bits .and .i64 x 7 = (k : Int) ∧ k < 8 := and_mask x f1 3 (by omega)
  have hmk : (mk []).toList = [] := by decide +kernel
  by_cases hs : f.size = 768
  case neg =>
    have T : ∀ (c : Int), worn (bl f) n c = none := fun c => by
      unfold worn wornMay
      rw [bl_length, decide_eq_false hs]; rfl
    have P1 := Lib.hid (fun w => nerase_no (T 96) w)
    have P2 := Lib.hid (fun w => nworn_no (T i) w)
    have P3 := Lib.hid (fun w => nmay_calls f w)
    rw [decide_eq_false hs] at P3
    clear T
    go_enter Try.func6, Try.ntmps6
    go_wp2_with fail
    refine (awake2_calls _).mono ?_
    rintro e w1 ⟨rfl, B1⟩
    go_wp2_with fail
    refine (P1.out _).mono ?_
    rintro e w2 ⟨rfl, B2⟩
    go_wp2_with fail
    refine (P2.out _).mono ?_
    rintro e w3 ⟨rfl, B3⟩
    go_wp2_with fail
    refine (num0_calls _ _).mono ?_
    rintro e w4 ⟨rfl, rfl⟩
    go_wp2_with fail
    refine (P3.out _).mono ?_
    rintro e w5 ⟨rfl, rfl⟩
    go_wp2
    go_ret
    exact ⟨rfl, (by repeat (first | (with_reducible exact Ext.refl _) | (with_reducible assumption) | (with_reducible refine Ext.drewN ?_ _) | (with_reducible refine Ext.drew ?_) | (with_reducible refine Ext.alloc ?_ _) | (with_reducible refine Ext.setCell ?_ (by first | exact Nat.le_refl _ | (simp <;> omega)) _) | (with_reducible refine Ext.trans ?_ (by with_reducible assumption))))⟩
  case pos =>
  have lf : (bl f).length = 768 := by rw [bl_length, hs]
  have T : ∀ (g : List UInt8) (c : Nat), g.length = 768 → c ≤ 96 → worn g n c = some (wornF g (96 * n) c) := fun g c hg hc => by
    unfold worn
    rw [if_pos (wornMay_iff.2 ⟨hg, by omega, by omega⟩)]
    rfl
  have l1 : (wornF (bl f) (96 * n) i).length = 768 := by rw [wornF_length _ _ _ (by omega)]; exact lf
  have l2 : (wornF (bl f) (96 * n) 96).length = 768 := by rw [wornF_length _ _ _ (by omega)]; exact lf
  have P1 := Lib.hid (fun w => nerase_ok (T (bl f) 96 lf (by omega)) w)
  have P2 := Lib.hid (fun w => nworn_ok (T (bl f) i lf (by omega)) w)
  have h3 : worn (bl (mk (wornF (bl f) (96 * n) i))) n 96 = some (wornF (bl f) (96 * n) 96) := by
    rw [bl_mk]
    have := T (wornF (bl f) (96 * n) i) 96 l1 (by omega)
    rw [wornF_wornF _ _ _ _ (by omega) (by omega), Nat.max_eq_right (by omega)] at this
    exact this
  have P3 := Lib.hid (fun w => nerase_ok h3 w)
  have sA : (mk (wornF (bl f) (96 * n) 96)).size = 768 := by rw [mk_size, l2]
  have sB : (mk (wornF (bl f) (96 * n) i)).size = 768 := by rw [mk_size, l1]
  have X : ∀ k, k < 768 → ∃ x y z : UInt8, (∀ h, f[k]'h = x) ∧ (∀ h, (mk (wornF (bl f) (96 * n) 96))[k]'h = y) ∧ (∀ h, (mk (wornF (bl f) (96 * n) i))[k]'h = z) ∧ y = (if 96 * n ≤ k ∧ k < 96 * n + 96 then 255 else x) ∧ z = (if 96 * n ≤ k ∧ k < 96 * n + i then 255 else x) := by
    intro k hk
    refine ⟨(bl f).getD k 0, _, _, fun h => get_bl _ _ h, fun h => ?_, fun h => ?_, rfl, rfl⟩
    · rw [get_bl, bl_mk, wornF_at _ _ _ _ (by omega)]
    · rw [get_bl, bl_mk, wornF_at _ _ _ _ (by omega)]
  clear T l1 l2 h3
  generalize mk (wornF (bl f) (96 * n) i) = B at *
  generalize mk (wornF (bl f) (96 * n) 96) = A at *
  clear lf
  have HX := Lib.hid X
  clear X
  go_enter Try.func6, Try.ntmps6
  go_wp2_with fail
  refine (awake2_calls _).mono ?_
  rintro e w6 ⟨rfl, B6⟩
  go_wp2_with fail
  refine (P1.out _).mono ?_
  rintro e w7 ⟨rfl, B7⟩
  go_wp2_with fail
  refine (P2.out _).mono ?_
  rintro e w8 ⟨rfl, B8⟩
  go_wp2_with fail
  refine (num0_calls _ _).mono ?_
  rintro e w9 ⟨rfl, rfl⟩
  go_wp2_with fail
  refine (num0_calls _ _).mono ?_
  rintro e w10 ⟨rfl, rfl⟩
  go_wp2_with fail
  refine (P3.out _).mono ?_
  rintro e w11 ⟨rfl, B11⟩
  go_wp2
  go_loopw [16] (fun i wr => ∃ k : Nat, k ≤ 768 ∧ i = .int .i64 (k : Int) ∧ Ext w11 wr) (fun i _ => 768 - (intOf i).toNat)
  case atStart => exact ⟨0, by omega, rfl, Ext.refl _⟩
  case round =>
    obtain ⟨k, hk, rfl, hE⟩ := hrel
    by_cases hlt : k < 768
    · obtain ⟨bx, by_, bz, g1, g2, g3, c2, c3⟩ := HX.out k hlt
      have z1 : IntKind.i64.wrap (96 * (n : Int) + 96) = 96 * (n : Int) + 96 := wrap_i64_fit _ (by omega) (by omega)
      have z2 : IntKind.i64.wrap (96 * (n : Int) + (i : Int)) = 96 * (n : Int) + (i : Int) := wrap_i64_fit _ (by omega) (by omega)
      by_cases d1 : 96 * n ≤ k
      · have q1 : decide ((k : Int) ≥ 96 * (n : Int)) = true := decide_eq_true (by omega)
        by_cases d2 : k < 96 * n + 96
        · have q2 : decide ((k : Int) < 96 * (n : Int) + 96) = true := decide_eq_true (by omega)
          rw [if_pos ⟨d1, d2⟩] at c2
          obtain rfl := c2
          by_cases d3 : k < 96 * n + i
          · have q3 : decide ((k : Int) < 96 * (n : Int) + (i : Int)) = true := decide_eq_true (by omega)
            have q4 : decide ((k : Int) ≥ 96 * (n : Int) + (i : Int)) = false := decide_eq_false (by omega)
            rw [if_pos ⟨d1, d3⟩] at c3
            obtain rfl := c3
            go_wp2
            go_quiet (fail)
            go_wp2
            go_roundw
            case rel => exact ⟨k + 1, by omega, by go_num, (by repeat (first | (with_reducible exact Ext.refl _) | (with_reducible assumption) | (with_reducible refine Ext.drewN ?_ _) | (with_reducible refine Ext.drew ?_) | (with_reducible refine Ext.alloc ?_ _) | (with_reducible refine Ext.setCell ?_ (by first | exact Nat.le_refl _ | (simp <;> omega)) _) | (with_reducible refine Ext.trans ?_ (by with_reducible assumption))))⟩
            case measure => simp [intOf] <;> omega
          · have q3 : decide ((k : Int) < 96 * (n : Int) + (i : Int)) = false := decide_eq_false (by omega)
            have q4 : decide ((k : Int) ≥ 96 * (n : Int) + (i : Int)) = true := decide_eq_true (by omega)
            rw [if_neg (by omega)] at c3
            obtain rfl := c3
            go_wp2
            go_quiet (fail)
            go_wp2
            go_roundw
            case rel => exact ⟨k + 1, by omega, by go_num, (by repeat (first | (with_reducible exact Ext.refl _) | (with_reducible assumption) | (with_reducible refine Ext.drewN ?_ _) | (with_reducible refine Ext.drew ?_) | (with_reducible refine Ext.alloc ?_ _) | (with_reducible refine Ext.setCell ?_ (by first | exact Nat.le_refl _ | (simp <;> omega)) _) | (with_reducible refine Ext.trans ?_ (by with_reducible assumption))))⟩
            case measure => simp [intOf] <;> omega
        · have q2 : decide ((k : Int) < 96 * (n : Int) + 96) = false := decide_eq_false (by omega)
          rw [if_neg (by omega)] at c2 c3
          obtain rfl := c2
          obtain rfl := c3
          go_wp2
          go_quiet (fail)
          go_wp2
          go_roundw
          case rel => exact ⟨k + 1, by omega, by go_num, (by repeat (first | (with_reducible exact Ext.refl _) | (with_reducible assumption) | (with_reducible refine Ext.drewN ?_ _) | (with_reducible refine Ext.drew ?_) | (with_reducible refine Ext.alloc ?_ _) | (with_reducible refine Ext.setCell ?_ (by first | exact Nat.le_refl _ | (simp <;> omega)) _) | (with_reducible refine Ext.trans ?_ (by with_reducible assumption))))⟩
          case measure => simp [intOf] <;> omega
      · have q1 : decide ((k : Int) ≥ 96 * (n : Int)) = false := decide_eq_false (by omega)
        rw [if_neg (by omega)] at c2 c3
        obtain rfl := c2
        obtain rfl := c3
        go_wp2
        go_quiet (fail)
        go_wp2
        go_roundw
        case rel => exact ⟨k + 1, by omega, by go_num, (by repeat (first | (with_reducible exact Ext.refl _) | (with_reducible assumption) | (with_reducible refine Ext.drewN ?_ _) | (with_reducible refine Ext.drew ?_) | (with_reducible refine Ext.alloc ?_ _) | (with_reducible refine Ext.setCell ?_ (by first | exact Nat.le_refl _ | (simp <;> omega)) _) | (with_reducible refine Ext.trans ?_ (by with_reducible assumption))))⟩
        case measure => simp [intOf] <;> omega
    · obtain rfl : k = 768 := by omega
      go_wp2
      go_ret
      exact ⟨rfl, (by repeat (first | (with_reducible exact Ext.refl _) | (with_reducible assumption) | (with_reducible refine Ext.drewN ?_ _) | (with_reducible refine Ext.drew ?_) | (with_reducible refine Ext.alloc ?_ _) | (with_reducible refine Ext.setCell ?_ (by first | exact Nat.le_refl _ | (simp <;> omega)) _) | (with_reducible refine Ext.trans ?_ (by with_reducible assumption))))⟩

end Go.Proofs.Ytbpmmjfibnkmeaa
