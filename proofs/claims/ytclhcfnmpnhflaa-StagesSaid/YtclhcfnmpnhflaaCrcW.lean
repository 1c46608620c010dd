
/- What the two sums of chapter 1 come to: both are the plain sum. -/
import Derived.Test.YtclhcfnmpnhflaaProg
import Derived.Test.YtclhcfnmpnhflaaCrc
import Derived.Test.YtclhcfnmpnhflaaBase
import Derived.WalkKit
import Derived.LoopTactic
import Derived.Below
import Derived.Outline
import Derived.Lib.Hide
import Derived.IntWalk
import Derived.Lib.ConvBytes
import Derived.WalkLawsBesides
import Derived.Laws.BitsAllLaws
set_option linter.unusedVariables false
set_option linter.unusedSimpArgs false
set_option maxHeartbeats 4000000
namespace Go.Proofs.Ytclhcfnmpnhflaa
open Go.RowKit

theorem crc_bit_pos {y : Nat} (h : y % 2 = 1) (hy : y < 4294967296) : (bits .and .u32 (y : Int) 1 != 0) = true := by
  have e : (1 : Int) = ((1 : Nat) : Int) := rfl
  rw [e, u32_and_nat y 1 hy (by decide), nat_mask1, h]; rfl
theorem crc_bit_neg {y : Nat} (h : y % 2 = 0) (hy : y < 4294967296) : (bits .and .u32 (y : Int) 1 != 0) = false := by
  have e : (1 : Int) = ((1 : Nat) : Int) := rfl
  rw [e, u32_and_nat y 1 hy (by decide), nat_mask1, h]; rfl
theorem crc_poly {y : Nat} (hy : y < 4294967296) : bits .xor .u32 ((y : Int) / 2) 3988292384 = (((y / 2) ^^^ 3988292384 : Nat) : Int) := by
  have e : ((y : Int) / 2) = ((y / 2 : Nat) : Int) := by omega
  have e2 : (3988292384 : Int) = ((3988292384 : Nat) : Int) := rfl
  rw [e, e2, u32_xor_nat _ _ (by omega) (by decide)]
theorem crc_half (y : Nat) : ((y : Int) / 2) = ((y / 2 : Nat) : Int) := by omega

theorem step_calls (a b : Nat) (w : World) (ha : a < 4294967296) (hb : b < 256) :
    Calls Try.prog 45 #[.int .u32 (a : Int), .int .u8 (b : Int)] w fun e w' => e = .returned (.int .u32 (Skiff.stepByte a b : Nat)) ∧ w = w' := by
  have hx : bits .xor .u32 (a : Int) (b : Int) = ((a ^^^ b : Nat) : Int) := u32_xor_nat a b ha (by omega)
  have hxl : a ^^^ b < 4294967296 := Nat.xor_lt_two_pow (n := 32) ha (by omega)
  have H0 : Hid (Skiff.stepByte a b = Skiff.stepN 8 (a ^^^ b)) := rfl
  have HX := Lib.hid hx
  clear hx
  go_enter Try.func45, Try.ntmps45
  go_wp2
  go_loop [0, 10] (fun x i => ∃ (k : Nat) (y : Nat), k ≤ 8 ∧ y < 4294967296 ∧ i = .int .i64 (k : Int) ∧ x = .int .u32 (y : Int) ∧ Hid (Skiff.stepByte a b = Skiff.stepN (8 - k) y)) (fun _ i => 8 - (intOf i).toNat)
  case atStart => exact ⟨0, a ^^^ b, by omega, hxl, rfl, by rw [HX.out], H0⟩
  case round =>
    obtain ⟨k, y, hk, hy, rfl, rfl, H⟩ := hrel
    by_cases hlt : k < 8
    · have hb8 : 8 - k = (8 - (k + 1)) + 1 := by omega
      have H2 : Hid (Skiff.stepByte a b = Skiff.stepN (8 - (k + 1)) (Skiff.stepBit y)) := by
        have := H.out; rw [hb8] at this; exact this
      have hl : Skiff.stepBit y < 4294967296 := Skiff.stepBit_lt hy
      clear H hb8
      rcases Nat.mod_two_eq_zero_or_one y with h2 | h2
      · have e : Skiff.stepBit y = y / 2 := by unfold Skiff.stepBit; rw [if_neg (by omega)]
        have hbit := crc_bit_neg h2 hy
        have hh := crc_half y
        rw [e] at H2 hl
        have HH := Lib.hid hh
        clear e h2 hh
        go_wp2
        go_round
        case rel => exact ⟨k + 1, y / 2, by omega, hl, by go_num, by rw [HH.out], H2⟩
        case measure => simp [intOf]; omega
      · have e : Skiff.stepBit y = (y / 2) ^^^ 3988292384 := by unfold Skiff.stepBit; rw [if_pos h2]
        have hbit := crc_bit_pos h2 hy
        have hh := crc_poly hy
        rw [e] at H2 hl
        have HH := Lib.hid hh
        clear e h2 hh
        go_wp2
        go_round
        case rel => exact ⟨k + 1, (y / 2) ^^^ 3988292384, by omega, hl, by go_num, by rw [HH.out], H2⟩
        case measure => simp [intOf]; omega
    · obtain rfl : k = 8 := by omega
      go_wp2
      go_ret
      have := H.out
      exact ⟨by rw [this]; rfl, rfl⟩

theorem crc_not {y : Nat} (hy : y < 4294967296) : bits .xor .u32 4294967295 (y : Int) = ((4294967295 - y : Nat) : Int) := by
  have e : (4294967295 : Int) = ((4294967295 : Nat) : Int) := rfl
  rw [e, u32_xor_nat _ _ (by decide) hy]
  congr 1
  have h := Nat.testBit_two_pow_sub_succ (n := 32) (x := y) hy
  apply Nat.eq_of_testBit_eq
  intro i
  have e1 : 4294967295 - y = 2 ^ 32 - (y + 1) := by omega
  rw [e1, h, Nat.testBit_xor]
  have e3 : (4294967295 : Nat) = 2 ^ 32 - 1 := by decide
  rw [e3, Nat.testBit_two_pow_sub_one]
  by_cases hi : i < 32
  · simp [hi]
  · rw [Nat.testBit_lt_two_pow (Nat.lt_of_lt_of_le hy (show (4294967296 : Nat) ≤ 2 ^ i from Nat.pow_le_pow_right (show 2 > 0 by decide) (show 32 ≤ i by omega)))]
    simp [hi]

theorem sum_calls (s : ByteArray) (w : World) (hs : s.size ≤ 4611686018427387904) :
    Calls Try.prog 31 #[.string s] w fun e w' => e = .returned (.int .i64 (Skiff.crcSum s.data.toList : Nat)) ∧ Ext w w' := by
  have kc := fun (w : World) => Lib.run_convert_string_bytes (P := Try.prog) w 9 56 5 s Try.underlying9 Try.underlying56 Try.underlying5
  go_enter Try.func31, Try.ntmps31
  go_wp2
  go_loop [3, 9] (fun x i => ∃ (k : Nat) (y : Nat), k ≤ s.size ∧ y < 4294967296 ∧ i = .int .i64 (k : Int) ∧ x = .int .u32 (y : Int) ∧ Hid (Skiff.crcState 4294967295 s.data.toList = Skiff.crcState y (s.data.toList.drop k))) (fun _ i => s.size - (intOf i).toNat)
  case atStart => exact ⟨0, 4294967295, by omega, by decide, rfl, rfl, rfl⟩
  case round =>
    obtain ⟨k, y, hk, hy, rfl, rfl, H⟩ := hrel
    by_cases hlt : k < s.size
    · have hl : s.data.toList.length = s.size := by simp
      have hd : s.data.toList.drop k = s.data.toList.getD k 0 :: s.data.toList.drop (k + 1) := by
        rw [List.drop_eq_getElem_cons (by omega), List.getD_eq_getElem?_getD, List.getElem?_eq_getElem (by omega)]; rfl
      have hcell := Lib.bytesWorld_cell w 5 s k hlt
      generalize s.data.toList.getD k 0 = c at hd hcell
      have H2 : Hid (Skiff.crcState 4294967295 s.data.toList = Skiff.crcState (Skiff.stepByte y c.toNat) (s.data.toList.drop (k + 1))) := by
        have := H.out; rw [hd] at this; exact this
      have hl2 : Skiff.stepByte y c.toNat < 4294967296 := Skiff.stepByte_lt hy c.toNat_lt
      have hc : c.toNat < 256 := c.toNat_lt
      clear H hd hl
      go_wp2_with (go_at_call 45; refine (step_calls y c.toNat _ hy hc).mono ?_; rintro e w' ⟨rfl, rfl⟩)
      go_round
      case rel => exact ⟨k + 1, _, by omega, hl2, by go_num, rfl, H2⟩
      case measure => simp [intOf]; omega
    · obtain rfl : k = s.size := by omega
      have hn := crc_not hy
      obtain ⟨z, hz, hzl⟩ : ∃ z : Nat, 4294967295 - y = z ∧ z < 4294967296 := ⟨_, rfl, by omega⟩
      rw [hz] at hn
      have hn2 : bits .xor .u32 IntKind.u32.max (y : Int) = (z : Int) := hn
      have HZ := Lib.hid hz
      clear hn
      clear hz
      go_wp2
      go_ret
      have h1 := H.out
      rw [List.drop_of_length_le (by simp)] at h1
      have h2 : Skiff.crcState y [] = y := rfl
      rw [h2] at h1
      refine ⟨?_, Ext.bytes w _ s⟩
      unfold Skiff.crcSum
      rw [h1, HZ.out]
      have hw : wrap64 (z : Int) = z := by unfold wrap64; omega
      show Ending.returned (.int .i64 (wrap64 (z : Int))) = _
      rw [hw]

theorem ref_crc_calls (s : ByteArray) (w : World) (hs : s.size ≤ 4611686018427387904) :
    Calls Try.prog 22 #[.string s] w fun e w' => e = .returned (.int .i64 (Skiff.crcSum s.data.toList : Nat)) ∧ w = w' := by
  go_enter Try.func22, Try.ntmps22
  go_wp2
  go_loop [3, 4] (fun x i => ∃ (k : Nat) (y : Nat), k ≤ s.size ∧ y < 4294967296 ∧ i = .int .i64 (k : Int) ∧ x = .int .u32 (y : Int) ∧ Hid (Skiff.crcState 4294967295 s.data.toList = Skiff.crcState y (s.data.toList.drop k))) (fun _ i => s.size - (intOf i).toNat)
  case atStart => exact ⟨0, 4294967295, by omega, by decide, rfl, rfl, rfl⟩
  case round =>
    obtain ⟨k, y, hk, hy, rfl, rfl, H⟩ := hrel
    by_cases hlt : k < s.size
    · have hl : s.data.toList.length = s.size := by simp
      have hd : s.data.toList.drop k = s[k] :: s.data.toList.drop (k + 1) := by
        rw [List.drop_eq_getElem_cons (by omega)]; rfl
      generalize hcc : s[k] = c at hd
      have H2 : Hid (Skiff.crcState 4294967295 s.data.toList = Skiff.crcState (Skiff.stepByte y c.toNat) (s.data.toList.drop (k + 1))) := by
        have := H.out; rw [hd] at this; exact this
      have hl2 : Skiff.stepByte y c.toNat < 4294967296 := Skiff.stepByte_lt hy c.toNat_lt
      have hc : c.toNat < 256 := c.toNat_lt
      clear H hd hl
      have hx : bits .xor .u32 (y : Int) (c.toNat : Int) = ((y ^^^ c.toNat : Nat) : Int) := u32_xor_nat y c.toNat hy (by omega)
      have hxl : y ^^^ c.toNat < 4294967296 := Nat.xor_lt_two_pow (n := 32) hy (by omega)
      have H0 : Hid (Skiff.stepByte y c.toNat = Skiff.stepN 8 (y ^^^ c.toNat)) := rfl
      have HX := Lib.hid hx
      have HC := Lib.hid hcc
      clear hx
      go_wp2
      go_loop [3, 5] (fun x i => ∃ (j : Nat) (z : Nat), j ≤ 8 ∧ z < 4294967296 ∧ i = .int .i64 (j : Int) ∧ x = .int .u32 (z : Int) ∧ Hid (Skiff.stepByte y c.toNat = Skiff.stepN (8 - j) z)) (fun _ i => 8 - (intOf i).toNat)
      case atStart => exact ⟨0, y ^^^ c.toNat, by omega, hxl, rfl, by rw [HX.out], H0⟩
      case round =>
        obtain ⟨j, z, hj, hz, rfl, rfl, G⟩ := hrel
        by_cases hjt : j < 8
        · have hb8 : 8 - j = (8 - (j + 1)) + 1 := by omega
          have G2 : Hid (Skiff.stepByte y c.toNat = Skiff.stepN (8 - (j + 1)) (Skiff.stepBit z)) := by
            have := G.out; rw [hb8] at this; exact this
          have hl : Skiff.stepBit z < 4294967296 := Skiff.stepBit_lt hz
          clear G hb8 hcc
          rcases Nat.mod_two_eq_zero_or_one z with h2 | h2
          · have e : Skiff.stepBit z = z / 2 := by unfold Skiff.stepBit; rw [if_neg (by omega)]
            have hbit : (bits .and .u32 (z : Int) 1 == 1) = false := by
              have e1 : (1 : Int) = ((1 : Nat) : Int) := rfl
              rw [e1, u32_and_nat z 1 hz (by decide), nat_mask1, h2]; rfl
            have hh := crc_half z
            rw [e] at G2 hl
            have HH := Lib.hid hh
            clear e h2 hh
            go_wp2
            go_round
            case rel => exact ⟨j + 1, z / 2, by omega, hl, by go_num, by rw [HH.out], G2⟩
            case measure => simp [intOf]; omega
          · have e : Skiff.stepBit z = (z / 2) ^^^ 3988292384 := by unfold Skiff.stepBit; rw [if_pos h2]
            have hbit : (bits .and .u32 (z : Int) 1 == 1) = true := by
              have e1 : (1 : Int) = ((1 : Nat) : Int) := rfl
              rw [e1, u32_and_nat z 1 hz (by decide), nat_mask1, h2]; rfl
            have hh := crc_poly hz
            rw [e] at G2 hl
            have HH := Lib.hid hh
            clear e h2 hh
            go_wp2
            go_round
            case rel => exact ⟨j + 1, (z / 2) ^^^ 3988292384, by omega, hl, by go_num, by rw [HH.out], G2⟩
            case measure => simp [intOf]; omega
        · obtain rfl : j = 8 := by omega
          clear hcc
          go_wp2
          go_round
          case rel => exact ⟨k + 1, z, by omega, hz, by go_num, rfl, by have h1 := H2.out; rw [G.out] at h1; exact h1⟩
          case measure => simp [intOf]; omega
    · obtain rfl : k = s.size := by omega
      have hn := crc_not hy
      obtain ⟨z, hz, hzl⟩ : ∃ z : Nat, 4294967295 - y = z ∧ z < 4294967296 := ⟨_, rfl, by omega⟩
      rw [hz] at hn
      have hn2 : bits .xor .u32 IntKind.u32.max (y : Int) = (z : Int) := hn
      have HZ := Lib.hid hz
      clear hn hz
      go_wp2
      go_ret
      have h1 := H.out
      rw [List.drop_of_length_le (by simp)] at h1
      have h2 : Skiff.crcState y [] = y := rfl
      rw [h2] at h1
      refine ⟨?_, rfl⟩
      unfold Skiff.crcSum
      rw [h1, HZ.out]
      have hw : wrap64 (z : Int) = z := by unfold wrap64; omega
      show Ending.returned (.int .i64 (wrap64 (z : Int))) = _
      rw [hw]

theorem num_calls (n : Int) (w : World) : Calls Try.prog 13 #[.int .i64 n] w fun e w' => e = .returned (.int .i64 n) ∧ w = w' := by
  go_enter Try.func13, Try.ntmps13
  go_wp2
  go_ret
  exact ⟨rfl, rfl⟩

end Go.Proofs.Ytclhcfnmpnhflaa
