
/- What the two sums of chapter 1 come to: both are the plain sum. -/
import Derived.Test.YtgoeooghoojdgaaProg
import Derived.Test.YtgoeooghoojdgaaZ2HandA
import Derived.WalkKit
import Derived.LoopTactic
import Derived.Below
import Derived.Outline
import Derived.Lib.Hide
import Derived.IntWalk
import Derived.Lib.ConvBytes
import Derived.WalkLawsBesides
import Derived.Laws.BitsAllLaws
set_option linter.unusedVariables false
set_option linter.unusedSimpArgs false
set_option maxHeartbeats 4000000
namespace Go.Proofs.Ytgoeooghoojdgaa
open Go.RowKit

theorem crc_poly {y : Nat} (hy : y < 4294967296) : bits .xor .u32 ((y : Int) / 2) 3988292384 = (((y / 2) ^^^ 3988292384 : Nat) : Int) := by
  have e : ((y : Int) / 2) = ((y / 2 : Nat) : Int) := by omega
  have e2 : (3988292384 : Int) = ((3988292384 : Nat) : Int) := rfl
  rw [e, e2, u32_xor_nat _ _ (by omega) (by decide)]
theorem crc_half (y : Nat) : ((y : Int) / 2) = ((y / 2 : Nat) : Int) := by omega

theorem crc_not {y : Nat} (hy : y < 4294967296) : bits .xor .u32 4294967295 (y : Int) = ((4294967295 - y : Nat) : Int) := by
  have e : (4294967295 : Int) = ((4294967295 : Nat) : Int) := rfl
  rw [e, u32_xor_nat _ _ (by decide) hy]
  congr 1
  have h := Nat.testBit_two_pow_sub_succ (n := 32) (x := y) hy
  apply Nat.eq_of_testBit_eq
  intro i
  have e1 : 4294967295 - y = 2 ^ 32 - (y + 1) := by omega
  rw [e1, h, Nat.testBit_xor]
  have e3 : (4294967295 : Nat) = 2 ^ 32 - 1 := by decide
  rw [e3, Nat.testBit_two_pow_sub_one]
  by_cases hi : i < 32
  · simp [hi]
  · rw [Nat.testBit_lt_two_pow (Nat.lt_of_lt_of_le hy (show (4294967296 : Nat) ≤ 2 ^ i from Nat.pow_le_pow_right (show 2 > 0 by decide) (show 32 ≤ i by omega)))]
    simp [hi]

theorem ref_crc_calls (s : ByteArray) (w : World) (hs : s.size ≤ 4611686018427387904) :
    Calls Try.prog 85 #[.string s] w fun e w' => e = .returned (.int .i64 (Skiff.crcSum s.data.toList : Nat)) ∧ w = w' := by
  go_enter Try.func85, Try.ntmps85
  go_wp2
  go_loop [3, 4] (fun x i => ∃ (k : Nat) (y : Nat), k ≤ s.size ∧ y < 4294967296 ∧ i = .int .i64 (k : Int) ∧ x = .int .u32 (y : Int) ∧ Hid (Skiff.crcState 4294967295 s.data.toList = Skiff.crcState y (s.data.toList.drop k))) (fun _ i => s.size - (intOf i).toNat)
  case atStart => exact ⟨0, 4294967295, by omega, by decide, rfl, rfl, rfl⟩
  case round =>
    obtain ⟨k, y, hk, hy, rfl, rfl, H⟩ := hrel
    by_cases hlt : k < s.size
    · have hl : s.data.toList.length = s.size := by simp
      have hd : s.data.toList.drop k = s[k] :: s.data.toList.drop (k + 1) := by
        rw [List.drop_eq_getElem_cons (by omega)]; rfl
      generalize hcc : s[k] = c at hd
      have H2 : Hid (Skiff.crcState 4294967295 s.data.toList = Skiff.crcState (Skiff.stepByte y c.toNat) (s.data.toList.drop (k + 1))) := by
        have := H.out; rw [hd] at this; exact this
      have hl2 : Skiff.stepByte y c.toNat < 4294967296 := Skiff.stepByte_lt hy c.toNat_lt
      have hc : c.toNat < 256 := c.toNat_lt
      clear H hd hl
      have hx : bits .xor .u32 (y : Int) (c.toNat : Int) = ((y ^^^ c.toNat : Nat) : Int) := u32_xor_nat y c.toNat hy (by omega)
      have hxl : y ^^^ c.toNat < 4294967296 := Nat.xor_lt_two_pow (n := 32) hy (by omega)
      have H0 : Hid (Skiff.stepByte y c.toNat = Skiff.stepN 8 (y ^^^ c.toNat)) := rfl
      have HX := Lib.hid hx
      have HC := Lib.hid hcc
      clear hx
      go_wp2
      go_loop [3, 5] (fun x i => ∃ (j : Nat) (z : Nat), j ≤ 8 ∧ z < 4294967296 ∧ i = .int .i64 (j : Int) ∧ x = .int .u32 (z : Int) ∧ Hid (Skiff.stepByte y c.toNat = Skiff.stepN (8 - j) z)) (fun _ i => 8 - (intOf i).toNat)
      case atStart => exact ⟨0, y ^^^ c.toNat, by omega, hxl, rfl, by rw [HX.out], H0⟩
      case round =>
        obtain ⟨j, z, hj, hz, rfl, rfl, G⟩ := hrel
        by_cases hjt : j < 8
        · have hb8 : 8 - j = (8 - (j + 1)) + 1 := by omega
          have G2 : Hid (Skiff.stepByte y c.toNat = Skiff.stepN (8 - (j + 1)) (Skiff.stepBit z)) := by
            have := G.out; rw [hb8] at this; exact this
          have hl : Skiff.stepBit z < 4294967296 := Skiff.stepBit_lt hz
          clear G hb8 hcc
          rcases Nat.mod_two_eq_zero_or_one z with h2 | h2
          · have e : Skiff.stepBit z = z / 2 := by unfold Skiff.stepBit; rw [if_neg (by omega)]
            have hbit : (bits .and .u32 (z : Int) 1 == 1) = false := by
              have e1 : (1 : Int) = ((1 : Nat) : Int) := rfl
              rw [e1, u32_and_nat z 1 hz (by decide), nat_mask1, h2]; rfl
            have hh := crc_half z
            rw [e] at G2 hl
            have HH := Lib.hid hh
            clear e h2 hh
            go_wp2
            go_round
            case rel => exact ⟨j + 1, z / 2, by omega, hl, by go_num, by rw [HH.out], G2⟩
            case measure => simp [intOf]; omega
          · have e : Skiff.stepBit z = (z / 2) ^^^ 3988292384 := by unfold Skiff.stepBit; rw [if_pos h2]
            have hbit : (bits .and .u32 (z : Int) 1 == 1) = true := by
              have e1 : (1 : Int) = ((1 : Nat) : Int) := rfl
              rw [e1, u32_and_nat z 1 hz (by decide), nat_mask1, h2]; rfl
            have hh := crc_poly hz
            rw [e] at G2 hl
            have HH := Lib.hid hh
            clear e h2 hh
            go_wp2
            go_round
            case rel => exact ⟨j + 1, (z / 2) ^^^ 3988292384, by omega, hl, by go_num, by rw [HH.out], G2⟩
            case measure => simp [intOf]; omega
        · obtain rfl : j = 8 := by omega
          clear hcc
          go_wp2
          go_round
          case rel => exact ⟨k + 1, z, by omega, hz, by go_num, rfl, by have h1 := H2.out; rw [G.out] at h1; exact h1⟩
          case measure => simp [intOf]; omega
    · obtain rfl : k = s.size := by omega
      have hn := crc_not hy
      obtain ⟨z, hz, hzl⟩ : ∃ z : Nat, 4294967295 - y = z ∧ z < 4294967296 := ⟨_, rfl, by omega⟩
      rw [hz] at hn
      have hn2 : bits .xor .u32 IntKind.u32.max (y : Int) = (z : Int) := hn
      have HZ := Lib.hid hz
      clear hn hz
      go_wp2
      go_ret
      have h1 := H.out
      rw [List.drop_of_length_le (by simp)] at h1
      have h2 : Skiff.crcState y [] = y := rfl
      rw [h2] at h1
      refine ⟨?_, rfl⟩
      unfold Skiff.crcSum
      rw [h1, HZ.out]
      have hw : wrap64 (z : Int) = z := by unfold wrap64; omega
      show Ending.returned (.int .i64 (wrap64 (z : Int))) = _
      rw [hw]

end Go.Proofs.Ytgoeooghoojdgaa
set_option linter.unusedVariables false
set_option linter.unusedSimpArgs false
set_option maxHeartbeats 4000000
namespace Skiff
def sums (s : ByteArray) : Option Int := if s.size ≤ 4611686018427387904 then some ((crcSum (bl s) : Nat) : Int) else none
end Skiff
namespace Go.Proofs.Ytgoeooghoojdgaa
open Go.RowKit Skiff

theorem g_skiffref1_Crc (a0 : ByteArray) (r : Int) (w : World) (h : sums a0 = some r) :
    Calls Try.prog 85 #[.string a0] w fun e w' => e = .returned (.int .i64 r) ∧ Below w.heap.size w w' := by
  unfold sums at h
  split at h
  · rename_i hs
    obtain rfl := Option.some.inj h
    refine (ref_crc_calls a0 w hs).mono ?_
    rintro e w' ⟨he, rfl⟩
    exact ⟨he, Below.refl _ _⟩
  · cases h

end Go.Proofs.Ytgoeooghoojdgaa
set_option linter.unusedVariables false
set_option linter.unusedSimpArgs false
set_option maxHeartbeats 4000000
namespace Go.Proofs.Ytgoeooghoojdgaa
open Go.RowKit Skiff

def recV (r : Rec) : Value := .agg #[.int .i64 r.seq, .int .i64 r.slot, .int .i64 r.size, .int .i64 r.sum]

theorem or_byte (n : Nat) (b : UInt8) (h : n < 2 ^ 48) : bits .or .i64 ((n : Int) * 256) (b.toNat : Int) = ((b.toNat + 256 * n : Nat) : Int) := by
  have hb := b.toNat_lt
  rw [bits_join .i64 62 (by decide) (fun m h0 h1 => IntWalk.i64_in m (by omega)) 8 ((n : Int) * 256) (b.toNat : Int) (by omega) (by omega) (by omega) (by omega) (by omega) (by omega)]
  omega

end Go.Proofs.Ytgoeooghoojdgaa
set_option linter.unusedVariables false
set_option linter.unusedSimpArgs false
set_option maxHeartbeats 4000000
namespace Go.Proofs.Ytgoeooghoojdgaa
open Go.RowKit Skiff

def getRes (l : List UInt8) : Value := match Skiff.get l with
  | some r => .tuple #[recV r, .int .i64 0]
  | none => .tuple #[recV Rec.zero, .int .i64 400]
theorem getRes_some {l : List UInt8} {r : Rec} (h : Skiff.get l = some r) : getRes l = .tuple #[recV r, .int .i64 0] := by unfold getRes; rw [h]
theorem getRes_none {l : List UInt8} (h : Skiff.get l = none) : getRes l = .tuple #[recV Rec.zero, .int .i64 400] := by unfold getRes; rw [h]

end Go.Proofs.Ytgoeooghoojdgaa
set_option linter.unusedVariables false
set_option linter.unusedSimpArgs false
set_option maxHeartbeats 4000000
namespace Go.Proofs.Ytgoeooghoojdgaa
open Go.RowKit Skiff

theorem recordMay_calls (r : Rec) (w : World) :
    Calls Try.prog 90 #[recV r] w fun e w' => e = .returned (.bool (recMay r)) ∧ Ext w w' := by
  unfold recV
  have hm : Hid (recMay r = (within r.seq 1 1048576 && within r.slot 0 1 && within r.size 1 288 && within r.sum 0 4294967295)) := rfl
  cases h1 : within r.seq 1 1048576
  · go_enter Try.func90, Try.ntmps90
    go_wp2_with fail
    refine (upTo_calls _ _ _ _).mono ?_
    rintro e w1 ⟨rfl, rfl⟩
    go_wp2
    go_ret
    exact ⟨by rw [hm.out, h1]; rfl, (by repeat (first | (with_reducible exact Ext.refl _) | (with_reducible assumption) | (with_reducible refine Ext.drewN ?_ _) | (with_reducible refine Ext.drew ?_) | (with_reducible refine Ext.alloc ?_ _) | (with_reducible refine Ext.setCell ?_ (by first | exact Nat.le_refl _ | (simp <;> omega)) _) | (with_reducible refine Ext.trans ?_ (by with_reducible assumption))))⟩
  cases h2 : within r.slot 0 1
  · go_enter Try.func90, Try.ntmps90
    go_wp2_with fail
    refine (upTo_calls _ _ _ _).mono ?_
    rintro e w2 ⟨rfl, rfl⟩
    go_wp2_with fail
    refine (upTo_calls _ _ _ _).mono ?_
    rintro e w3 ⟨rfl, rfl⟩
    go_wp2
    go_ret
    exact ⟨by rw [hm.out, h1, h2]; rfl, (by repeat (first | (with_reducible exact Ext.refl _) | (with_reducible assumption) | (with_reducible refine Ext.drewN ?_ _) | (with_reducible refine Ext.drew ?_) | (with_reducible refine Ext.alloc ?_ _) | (with_reducible refine Ext.setCell ?_ (by first | exact Nat.le_refl _ | (simp <;> omega)) _) | (with_reducible refine Ext.trans ?_ (by with_reducible assumption))))⟩
  cases h3 : within r.size 1 288
  · go_enter Try.func90, Try.ntmps90
    go_wp2_with fail
    refine (upTo_calls _ _ _ _).mono ?_
    rintro e w4 ⟨rfl, rfl⟩
    go_wp2_with fail
    refine (upTo_calls _ _ _ _).mono ?_
    rintro e w5 ⟨rfl, rfl⟩
    go_wp2_with fail
    refine (upTo_calls _ _ _ _).mono ?_
    rintro e w6 ⟨rfl, rfl⟩
    go_wp2
    go_ret
    exact ⟨by rw [hm.out, h1, h2, h3]; rfl, (by repeat (first | (with_reducible exact Ext.refl _) | (with_reducible assumption) | (with_reducible refine Ext.drewN ?_ _) | (with_reducible refine Ext.drew ?_) | (with_reducible refine Ext.alloc ?_ _) | (with_reducible refine Ext.setCell ?_ (by first | exact Nat.le_refl _ | (simp <;> omega)) _) | (with_reducible refine Ext.trans ?_ (by with_reducible assumption))))⟩
  · go_enter Try.func90, Try.ntmps90
    go_wp2_with fail
    refine (upTo_calls _ _ _ _).mono ?_
    rintro e w7 ⟨rfl, rfl⟩
    go_wp2_with fail
    refine (upTo_calls _ _ _ _).mono ?_
    rintro e w8 ⟨rfl, rfl⟩
    go_wp2_with fail
    refine (upTo_calls _ _ _ _).mono ?_
    rintro e w9 ⟨rfl, rfl⟩
    go_wp2_with fail
    refine (upTo_calls _ _ _ _).mono ?_
    rintro e w10 ⟨rfl, rfl⟩
    go_wp2
    go_ret
    exact ⟨by rw [hm.out, h1, h2, h3]; rfl, (by repeat (first | (with_reducible exact Ext.refl _) | (with_reducible assumption) | (with_reducible refine Ext.drewN ?_ _) | (with_reducible refine Ext.drew ?_) | (with_reducible refine Ext.alloc ?_ _) | (with_reducible refine Ext.setCell ?_ (by first | exact Nat.le_refl _ | (simp <;> omega)) _) | (with_reducible refine Ext.trans ?_ (by with_reducible assumption))))⟩

theorem rlow_calls (x : Int) (k : Nat) (hk : k ≤ 4) (w : World) :
    Calls Try.prog 91 #[.int .i64 x, .int .i64 (k : Int)] w fun e w' => e = .returned (.string (mk (low x k))) ∧ Ext w w' := by
  have hmk := fun w => made_u8 k (by omega) w
  go_enter Try.func91, Try.ntmps91
  go_wp2
  go_loopw [6] (fun i wr => ∃ j : Nat, j ≤ k ∧ i = .int .i64 (j : Int) ∧ RowB wr w.heap.size (low x j ++ List.replicate (k - j) 0) ∧ Ext w wr) (fun i _ => k - (intOf i).toNat)
  case atStart => exact ⟨0, by omega, rfl, RowB.made _ _ _, (Ext.refl _).alloc _⟩
  case round =>
    obtain ⟨j, hj, rfl, hR, hE⟩ := hrel
    have hll : (low x j ++ List.replicate (k - j) (0 : UInt8)).length = k := by simp; omega
    by_cases hlt : j < k
    · have hcell := hR.cellD (i := j) (by omega)
      have hfree := hR.free (i := j) (by omega)
      obtain ⟨m, hm⟩ : ∃ m, k - j = m + 1 := ⟨k - j - 1, by omega⟩
      have hm2 : k - (j + 1) = m := by omega
      have hpow : (2 : Int) ^ (8 * j) = 256 ^ j := by rw [Int.pow_mul]; rfl
      have hv := lowByte_toNat (x / 256 ^ j)
      rw [← hpow] at hv
      have HV := Lib.hid hv
      have HP := Lib.hid hpow
      have HM := Lib.hid hm
      have HM2 := Lib.hid hm2
      clear hv hpow hm hm2
      go_wp2
      go_roundw
      case rel => exact ⟨j + 1, by omega, by go_num, by have h1 := hR.set j (lowByte (x / 2 ^ (8 * j))); rw [HV.out, HM.out, HP.out, low_set] at h1; rw [HM2.out, HP.out]; exact h1, hE.setCell (Nat.le_refl _) _⟩
      case measure => simp [intOf] <;> omega
    · obtain rfl : j = k := by omega
      have hr := hR.string (P := Try.prog) 77 5 9 Try.underlying77 Try.underlying5 Try.underlying9 j
      have hfin : low x j ++ List.replicate (j - j) (0 : UInt8) = low x j := by simp
      rw [hll, hfin] at hr
      go_wp2
      go_ret
      exact ⟨rfl, hE⟩

theorem rlow4_calls (x : Int) (w : World) : Calls Try.prog 91 #[.int .i64 x, .int .i64 4] w fun e w' => e = .returned (.string (mk (low x 4))) ∧ Ext w w' := rlow_calls x 4 (by omega) w

theorem rlow2_calls (x : Int) (w : World) : Calls Try.prog 91 #[.int .i64 x, .int .i64 2] w fun e w' => e = .returned (.string (mk (low x 2))) ∧ Ext w w' := rlow_calls x 2 (by omega) w

theorem rlow1_calls (x : Int) (w : World) : Calls Try.prog 91 #[.int .i64 x, .int .i64 1] w fun e w' => e = .returned (.string (mk (low x 1))) ∧ Ext w w' := rlow_calls x 1 (by omega) w

theorem rof_calls (s : ByteArray) (hs : s.size ≤ 6) (w : World) :
    Calls Try.prog 88 #[.string s] w fun e w' => e = .returned (.int .i64 (num (bl s) : Nat)) ∧ w = w' := by
  have hl : (bl s).length = s.size := bl_length s
  go_enter Try.func88, Try.ntmps88
  go_wp2
  go_loop [3, 4] (fun o i => ∃ (j m : Nat), j ≤ s.size ∧ i = .int .i64 ((j : Int) - 1) ∧ o = .int .i64 (m : Int) ∧ Hid (m = num ((bl s).drop j))) (fun _ i => (intOf i + 1).toNat)
  case atStart => exact ⟨s.size, 0, by omega, by go_num, rfl, by show 0 = _; rw [List.drop_of_length_le (by omega)]; rfl⟩
  case round =>
    obtain ⟨j, m, hj, rfl, rfl, hm⟩ := hrel
    rcases j with _ | j
    · go_wp2
      go_ret
      exact ⟨by rw [hm.out]; rfl, rfl⟩
    · have hd : (bl s).drop j = s[j] :: (bl s).drop (j + 1) := by
        rw [List.drop_eq_getElem_cons (by omega)]; rfl
      have hlt : m < 2 ^ 48 := by
        have h1 := num_lt ((bl s).drop (j + 1))
        rw [← hm.out] at h1
        have h2 : 256 ^ ((bl s).drop (j + 1)).length ≤ 256 ^ 6 := Nat.pow_le_pow_right (by decide) (by simp; omega)
        omega
      have hor := or_byte m s[j] hlt
      have hb : s[j].toNat < 256 := s[j].toNat_lt
      have hm2 : Hid (s[j].toNat + 256 * m = num ((bl s).drop j)) := by
        show _ = _
        rw [hd, hm.out]; rfl
      have h0 : (0 : Int) ≤ ((j + 1 : Nat) : Int) - 1 := by omega
      clear hd hm
      go_wp2
      go_round
      case rel => exact ⟨j, _, by omega, by go_num, rfl, hm2⟩
      case measure => simp [intOf] <;> omega

theorem low_one (x : Int) (h0 : 0 ≤ x) (h1 : x ≤ 1) : low x 1 ++ low 0 1 = low x 2 := by
  have e : x / 256 = 0 := by omega
  simp [low, e]

theorem sub_byte (c : UInt8) : (255 - (c.toNat : Int)) = ((~~~ c).toNat : Int) := by
  have hc := c.toNat_lt
  rw [UInt8.toNat_not]
  simp only [UInt8.size]
  omega

theorem compl_take_succ (l : List UInt8) {j : Nat} (h : j < l.length) : compl (l.take (j + 1)) = compl (l.take j) ++ [~~~ l[j]] := by
  rw [List.take_succ_eq_append_getElem h]
  show List.map _ _ = List.map _ _ ++ _
  rw [List.map_append]; rfl

set_option maxRecDepth 20000 in
theorem rput_calls (r : Rec) (w : World) :
    Calls Try.prog 89 #[recV r] w fun e w' => e = .returned (if recMay r = true then .tuple #[.string (mk (put r)), .int .i64 0] else .tuple #[.string (mk []), .int .i64 400]) ∧ Ext w w' := by
  cases hm : recMay r
  · have M := Lib.hid (fun w => recordMay_calls r w)
    rw [hm] at M
    unfold recV at *
    go_enter Try.func89, Try.ntmps89
    go_wp2_with fail
    refine (M.out _).mono ?_
    rintro e w1 ⟨rfl, B1⟩
    go_wp2
    go_ret2
    exact ⟨rfl, (by repeat (first | (with_reducible exact Ext.refl _) | (with_reducible assumption) | (with_reducible refine Ext.drewN ?_ _) | (with_reducible refine Ext.drew ?_) | (with_reducible refine Ext.alloc ?_ _) | (with_reducible refine Ext.setCell ?_ (by first | exact Nat.le_refl _ | (simp <;> omega)) _) | (with_reducible refine Ext.trans ?_ (by with_reducible assumption))))⟩
  · have M := Lib.hid (fun w => recordMay_calls r w)
    rw [hm] at M
    obtain ⟨i0, hi, hz0, hz1, hz2⟩ := info_parts info_u8
    have hX : bl (mk (low r.seq 4) ++ mk (low r.slot 1) ++ mk (low 0 1) ++ mk (low r.size 2) ++ mk (low r.sum 4)) = half r := by
      have h := recMay_iff.1 hm
      simp only [bl_append, bl_mk, half, List.append_assoc]
      rw [← low_one r.slot (by omega) (by omega)]
      simp
    have kc := fun (w : World) => Lib.run_convert_string_bytes (P := Try.prog) w 9 77 5 (mk (low r.seq 4) ++ mk (low r.slot 1) ++ mk (low 0 1) ++ mk (low r.size 2) ++ mk (low r.sum 4)) Try.underlying9 Try.underlying77 Try.underlying5
    have HX := Lib.hid hX
    clear hX
    unfold recV at *
    go_enter Try.func89, Try.ntmps89
    go_wp2_with fail
    refine (M.out _).mono ?_
    rintro e w1 ⟨rfl, B1⟩
    have k0_w1 : w1.cell? ⟨w.heap.size, 0, none⟩ = some (.int .i64 r.seq) := Ext.cell B1 (by simp)
    have k1_w1 : w1.cell? ⟨w.heap.size, 1, none⟩ = some (.int .i64 r.slot) := Ext.cell B1 (by simp)
    have k2_w1 : w1.cell? ⟨w.heap.size, 2, none⟩ = some (.int .i64 r.size) := Ext.cell B1 (by simp)
    have k3_w1 : w1.cell? ⟨w.heap.size, 3, none⟩ = some (.int .i64 r.sum) := Ext.cell B1 (by simp)
    have f_w1 : ∀ i, w1.frozen? ⟨w.heap.size, i, none⟩ = false := fun i => Ext.free B1 (by first | (simp; done) | (simp; omega)) (by first | (simp; done) | (simp; omega))
    go_wp2
    refine wp_region_held_drew (S := fun w' => w'.cell? ⟨w.heap.size, 0, none⟩ = some (.int .i64 r.seq) ∧ w'.cell? ⟨w.heap.size, 1, none⟩ = some (.int .i64 r.slot) ∧ w'.cell? ⟨w.heap.size, 2, none⟩ = some (.int .i64 r.size) ∧ w'.cell? ⟨w.heap.size, 3, none⟩ = some (.int .i64 r.sum)) (by kernel_rfl) ?_ (fun hHeld => ?_)
    · go_keep
    refine wpAnyH_take (i := 0) (v := ?_) rfl (by kernel_rfl) (by kernel_rfl) (by kernel_rfl) (fun _ _ _ h => h) (Or.inl ⟨by rfl, ?_⟩) (by assumption) ?_
    rotate_left
    · (intro w hSw; (try dsimp only at hSw); go_simp; first | done | (with_reducible rfl))
    try simp only [Act.put, List.setIfInBounds_toArray, List.set_cons_zero, List.set_cons_succ]
    refine wpAnyH_take (i := 3) (v := ?_) rfl (by kernel_rfl) (by kernel_rfl) (by kernel_rfl) (fun _ _ _ h => h) (Or.inl ⟨by rfl, ?_⟩) (by assumption) ?_
    rotate_left
    · (intro w hSw; (try dsimp only at hSw); go_simp; first | done | (with_reducible rfl))
    try simp only [Act.put, List.setIfInBounds_toArray, List.set_cons_zero, List.set_cons_succ]
    refine wpAnyH_take (i := 9) (v := ?_) rfl (by kernel_rfl) (by kernel_rfl) (by kernel_rfl) (fun _ _ _ h => h) (Or.inl ⟨by rfl, ?_⟩) (by assumption) ?_
    rotate_left
    · (intro w hSw; (try dsimp only at hSw); go_simp; first | done | (with_reducible rfl))
    try simp only [Act.put, List.setIfInBounds_toArray, List.set_cons_zero, List.set_cons_succ]
    refine wpAnyH_take (i := 13) (v := ?_) rfl (by kernel_rfl) (by kernel_rfl) (by kernel_rfl) (fun _ _ _ h => h) (Or.inl ⟨by rfl, ?_⟩) (by assumption) ?_
    rotate_left
    · (intro w hSw; (try dsimp only at hSw); go_simp; first | done | (with_reducible rfl))
    try simp only [Act.put, List.setIfInBounds_toArray, List.set_cons_zero, List.set_cons_succ]
    refine wpAnyH_take (i := 1) (v := ?_) rfl (by kernel_rfl) (by kernel_rfl) (by kernel_rfl) (fun _ _ _ h => h) (Or.inl ⟨by rfl, ?_⟩) (by assumption) ?_
    rotate_left
    · (intro w hSw; (try dsimp only at hSw); go_simp; first | done | (with_reducible rfl))
    try simp only [Act.put, List.setIfInBounds_toArray, List.set_cons_zero, List.set_cons_succ]
    refine wpAnyH_take (i := 4) (v := ?_) rfl (by kernel_rfl) (by kernel_rfl) (by kernel_rfl) (fun _ _ _ h => h) (Or.inl ⟨by rfl, ?_⟩) (by assumption) ?_
    rotate_left
    · (intro w hSw; (try dsimp only at hSw); go_simp; first | done | (with_reducible rfl))
    try simp only [Act.put, List.setIfInBounds_toArray, List.set_cons_zero, List.set_cons_succ]
    refine wpAnyH_take (i := 10) (v := ?_) rfl (by kernel_rfl) (by kernel_rfl) (by kernel_rfl) (fun _ _ _ h => h) (Or.inl ⟨by rfl, ?_⟩) (by assumption) ?_
    rotate_left
    · (intro w hSw; (try dsimp only at hSw); go_simp; first | done | (with_reducible rfl))
    try simp only [Act.put, List.setIfInBounds_toArray, List.set_cons_zero, List.set_cons_succ]
    refine wpAnyH_take (i := 14) (v := ?_) rfl (by kernel_rfl) (by kernel_rfl) (by kernel_rfl) (fun _ _ _ h => h) (Or.inl ⟨by rfl, ?_⟩) (by assumption) ?_
    rotate_left
    · (intro w hSw; (try dsimp only at hSw); go_simp; first | done | (with_reducible rfl))
    try simp only [Act.put, List.setIfInBounds_toArray, List.set_cons_zero, List.set_cons_succ]
    refine wpAnyH_ready (rs := [2]) (by kernel_rfl) (by simp) ?_
    refine AllReadyH.cons rfl (fun K hK => ?_) AllReadyH.nil
    go_simp
    go_at_call 91
    refine (rlow4_calls _ _).mono ?_
    rintro e w2 ⟨rfl, B2⟩
    go_wp2_with fail
    refine hK.out _ _ ?_ (fun hHeld => ?_)
    · (go_split_ands; refine ⟨?_, ?_, ?_, ?_⟩ <;> exact Ext.cell B2 ‹_›)
    clear hK K
    try simp only [Act.put, List.setIfInBounds_toArray, List.set_cons_zero, List.set_cons_succ]
    refine wpAnyH_ready (rs := [5]) (by kernel_rfl) (by simp) ?_
    refine AllReadyH.cons rfl (fun K hK => ?_) AllReadyH.nil
    go_simp
    go_at_call 91
    refine (rlow1_calls _ _).mono ?_
    rintro e w3 ⟨rfl, B3⟩
    go_wp2_with fail
    refine hK.out _ _ ?_ (fun hHeld => ?_)
    · (go_split_ands; refine ⟨?_, ?_, ?_, ?_⟩ <;> exact Ext.cell B3 ‹_›)
    clear hK K
    try simp only [Act.put, List.setIfInBounds_toArray, List.set_cons_zero, List.set_cons_succ]
    refine wpAnyH_take (i := 6) (v := ?_) rfl (by kernel_rfl) (by kernel_rfl) (by kernel_rfl) (fun _ _ _ h => h) (Or.inl ⟨by rfl, ?_⟩) (by assumption) ?_
    rotate_left
    · (intro w hSw; (try dsimp only at hSw); go_simp; first | done | (with_reducible rfl))
    try simp only [Act.put, List.setIfInBounds_toArray, List.set_cons_zero, List.set_cons_succ]
    refine wpAnyH_ready (rs := [7]) (by kernel_rfl) (by simp) ?_
    refine AllReadyH.cons rfl (fun K hK => ?_) AllReadyH.nil
    go_simp
    go_at_call 91
    refine (rlow1_calls _ _).mono ?_
    rintro e w4 ⟨rfl, B4⟩
    go_wp2_with fail
    refine hK.out _ _ ?_ (fun hHeld => ?_)
    · (go_split_ands; refine ⟨?_, ?_, ?_, ?_⟩ <;> exact Ext.cell B4 ‹_›)
    clear hK K
    try simp only [Act.put, List.setIfInBounds_toArray, List.set_cons_zero, List.set_cons_succ]
    refine wpAnyH_take (i := 8) (v := ?_) rfl (by kernel_rfl) (by kernel_rfl) (by kernel_rfl) (fun _ _ _ h => h) (Or.inl ⟨by rfl, ?_⟩) (by assumption) ?_
    rotate_left
    · (intro w hSw; (try dsimp only at hSw); go_simp; first | done | (with_reducible rfl))
    try simp only [Act.put, List.setIfInBounds_toArray, List.set_cons_zero, List.set_cons_succ]
    refine wpAnyH_ready (rs := [11]) (by kernel_rfl) (by simp) ?_
    refine AllReadyH.cons rfl (fun K hK => ?_) AllReadyH.nil
    go_simp
    go_at_call 91
    refine (rlow2_calls _ _).mono ?_
    rintro e w5 ⟨rfl, B5⟩
    go_wp2_with fail
    refine hK.out _ _ ?_ (fun hHeld => ?_)
    · (go_split_ands; refine ⟨?_, ?_, ?_, ?_⟩ <;> exact Ext.cell B5 ‹_›)
    clear hK K
    try simp only [Act.put, List.setIfInBounds_toArray, List.set_cons_zero, List.set_cons_succ]
    refine wpAnyH_take (i := 12) (v := ?_) rfl (by kernel_rfl) (by kernel_rfl) (by kernel_rfl) (fun _ _ _ h => h) (Or.inl ⟨by rfl, ?_⟩) (by assumption) ?_
    rotate_left
    · (intro w hSw; (try dsimp only at hSw); go_simp; first | done | (with_reducible rfl))
    try simp only [Act.put, List.setIfInBounds_toArray, List.set_cons_zero, List.set_cons_succ]
    refine wpAnyH_ready (rs := [15]) (by kernel_rfl) (by simp) ?_
    refine AllReadyH.cons rfl (fun K hK => ?_) AllReadyH.nil
    go_simp
    go_at_call 91
    refine (rlow4_calls _ _).mono ?_
    rintro e w6 ⟨rfl, B6⟩
    go_wp2_with fail
    refine hK.out _ _ ?_ (fun hHeld => ?_)
    · (go_split_ands; refine ⟨?_, ?_, ?_, ?_⟩ <;> exact Ext.cell B6 ‹_›)
    clear hK K
    try simp only [Act.put, List.setIfInBounds_toArray, List.set_cons_zero, List.set_cons_succ]
    refine wpAnyH_take (i := 16) (v := ?_) rfl (by kernel_rfl) (by kernel_rfl) (by kernel_rfl) (fun _ _ _ h => h) (Or.inl ⟨by rfl, ?_⟩) (by assumption) ?_
    rotate_left
    · (intro w hSw; (try dsimp only at hSw); go_simp; first | done | (with_reducible rfl))
    try simp only [Act.put, List.setIfInBounds_toArray, List.set_cons_zero, List.set_cons_succ]
    refine wpAnyH_ready (rs := [17]) (by kernel_rfl) (by simp) ?_
    refine AllReadyH.cons rfl (fun K hK => ?_) AllReadyH.nil
    go_simp
    refine hK.out _ _ ?_ (fun hHeld => ?_)
    · (go_split_ands; refine ⟨?_, ?_, ?_, ?_⟩ <;> exact Ext.cell (Ext.bytes _ _ _) ‹_›)
    clear hK K
    try simp only [Act.put, List.setIfInBounds_toArray, List.set_cons_zero, List.set_cons_succ]
    refine wpAnyH_take (i := 18) (v := ?_) rfl (by kernel_rfl) (by kernel_rfl) (by kernel_rfl) (fun _ _ _ h => h) (Or.inl ⟨by rfl, ?_⟩) (by assumption) ?_
    rotate_left
    · (intro w hSw; (try dsimp only at hSw); go_simp; first | done | (with_reducible rfl))
    try simp only [Act.put, List.setIfInBounds_toArray, List.set_cons_zero, List.set_cons_succ]
    refine wpAnyH_done (by kernel_rfl) ?_ _
    go_wp2
    have hR0 := RowC.bytes w6 5 (mk (low r.seq 4) ++ mk (low r.slot 1) ++ mk (low 0 1) ++ mk (low r.size 2) ++ mk (low r.sum 4))
    have e12 : (mk (low r.seq 4) ++ mk (low r.slot 1) ++ mk (low 0 1) ++ mk (low r.size 2) ++ mk (low r.sum 4)).size = 12 := by simp
    rw [e12, show (mk (low r.seq 4) ++ mk (low r.slot 1) ++ mk (low 0 1) ++ mk (low r.size 2) ++ mk (low r.sum 4)).data.toList = half r from HX.out] at hR0
    have hE0 := Ext.bytes w6 5 (mk (low r.seq 4) ++ mk (low r.slot 1) ++ mk (low 0 1) ++ mk (low r.size 2) ++ mk (low r.sum 4))
    have hw6 : Ext w w6 := (by repeat (first | (with_reducible exact Ext.refl _) | (with_reducible assumption) | (with_reducible refine Ext.drewN ?_ _) | (with_reducible refine Ext.drew ?_) | (with_reducible refine Ext.alloc ?_ _) | (with_reducible refine Ext.setCell ?_ (by first | exact Nat.le_refl _ | (simp <;> omega)) _) | (with_reducible refine Ext.trans ?_ (by with_reducible assumption))))
    generalize Lib.bytesWorld w6 5 (mk (low r.seq 4) ++ mk (low r.slot 1) ++ mk (low 0 1) ++ mk (low r.size 2) ++ mk (low r.sum 4)) = W at *
    have hEW : Ext w W := hw6.trans hE0
    have hbase : w.heap.size ≤ w6.heap.size := hw6.size
    clear e12 hE0 kc M
    go_loopw [4, 5] (fun v i wr => ∃ (j g cap : Nat), j ≤ 12 ∧ i = .int .i64 (j : Int) ∧ v = .slice (some ⟨g, 0, none⟩) (12 + j) cap ∧ w.heap.size ≤ g ∧ RowC wr g cap (half r ++ compl ((half r).take j)) ∧ Ext w wr) (fun _ i _ => 12 - (intOf i).toNat)
    case atStart => exact ⟨0, w6.heap.size, _, by omega, rfl, rfl, hbase, by simpa [compl] using hR0, hEW⟩
    case round =>
      clear hR0 hEW
      obtain ⟨j, g, cap, hj, rfl, rfl, hg, hR, hE⟩ := hrel
      have hl : (half r).length = 12 := half_length r
      have hll : (half r ++ compl ((half r).take j)).length = 12 + j := by simp; omega
      by_cases hlt : j < 12
      · have hcell := hR.row.cellD (i := j) (by omega)
        have hat : (half r ++ compl ((half r).take j)).getD j 0 = (half r)[j] := by
          rw [List.getD_eq_getElem?_getD, List.getElem?_append_left (by omega), List.getElem?_eq_getElem (by omega)]; rfl
        rw [hat] at hcell
        have hnext : half r ++ compl ((half r).take j) ++ [~~~ (half r)[j]] = half r ++ compl ((half r).take (j + 1)) := by
          rw [List.append_assoc]; exact congrArg (half r ++ ·) (compl_take_succ (half r) (j := j) (by omega)).symm
        generalize (half r)[j] = c at hcell hnext
        have hsub : Hid ((255 - (c.toNat : Int)) = ((~~~ c).toNat : Int)) := sub_byte c
        have HN := Lib.hid hnext
        have hc := c.toNat_lt
        have hR' := hR.ext ((Ext.refl wr).alloc (.cells #[.int .u8 (255 - (c.toNat : Int))] 5))
        clear hat hnext
        go_wp2_with (at_builtin; refine wpList_append_rowc rfl (.tmp 31) (.tmp 37) 77 rfl w.heap.size 5 i0 Try.underlying77 hi hz0 hz1 hz2 g (12 + j) cap _ hll rfl hR' ⟨wr.heap.size, 0, none⟩ 1 (~~~ c) rfl ?c1 ?c2 ?c3 ?c4 ?_)
        case c1 => rw [u8v, ← hsub.out]; simp
        case c2 => omega
        case c3 => exact hg
        case c4 => have := hE.size; simp; omega
        intro g' cap' w7 hR7 hg7 hgrow
        rw [← List.append_assoc, HN.out] at hR7
        have hE7 : Ext w w7 := (hE.alloc _).grown hgrow (fun k hk => by cases hk; exact hg)
        clear hgrow hR hR'
        go_wp2
        go_roundw
        case rel => exact ⟨j + 1, g', cap', by omega, by go_num, rfl, hg7, hR7, hE7⟩
        case measure => simp [intOf] <;> omega
      · obtain rfl : j = 12 := by omega
        have hfin : half r ++ compl ((half r).take 12) = put r := by rw [List.take_of_length_le (by omega)]; rfl
        rw [hfin] at hR hll
        have hr := hR.row.string (P := Try.prog) 77 5 9 Try.underlying77 Try.underlying5 Try.underlying9 cap
        rw [put_length] at hr
        go_wp2
        go_ret2
        exact ⟨rfl, hE⟩

end Go.Proofs.Ytgoeooghoojdgaa
set_option linter.unusedVariables false
set_option linter.unusedSimpArgs false
set_option maxHeartbeats 4000000
namespace Go.Proofs.Ytgoeooghoojdgaa
open Go.RowKit Skiff

/-- What the reference reads. -/
def rtold (l : List UInt8) : Rec := ⟨num (l.take 4), ((l.getD 4 0).toNat : Nat), num ((l.drop 6).take 2), num ((l.drop 8).take 4)⟩
theorem rtold_get {l : List UInt8} {q : Rec} (h : Skiff.get l = some q) : rtold l = q := by
  have hm := (get_some h).1
  unfold Skiff.get at h
  split at h
  · rename_i hc
    obtain rfl := Option.some.inj h
    have hs := (recMay_iff.1 hm).2.1
    have hl := hc.1
    have e : (l.drop 4).take 2 = [l.getD 4 0, l.getD 5 0] := by
      rw [List.drop_eq_getElem_cons (by omega), List.drop_eq_getElem_cons (by omega)]
      rw [List.getD_eq_getElem?_getD, List.getD_eq_getElem?_getD, List.getElem?_eq_getElem (by omega), List.getElem?_eq_getElem (by omega)]; rfl
    have hv : (told l).slot = ((l.getD 4 0).toNat + 256 * ((l.getD 5 0).toNat + 0) : Nat) := by
      unfold told
      simp only
      rw [e]; rfl
    rw [hv] at hs
    unfold rtold
    have : (told l).slot = ((l.getD 4 0).toNat : Nat) := by rw [hv]; omega
    rw [← this]; rfl
  · cases h
theorem rget_of (l : List UInt8) : Skiff.get l = if recMay (rtold l) = true ∧ put (rtold l) = l then some (rtold l) else none := by
  cases h : Skiff.get l with
  | none => rw [if_neg]; intro hc; exact get_none h _ hc.1 hc.2
  | some q =>
    have e := rtold_get h
    have hq := get_some h
    rw [e, if_pos hq]

theorem rget_calls (s : ByteArray) (w : World) :
    Calls Try.prog 83 #[.string s] w fun e w' => e = .returned (getRes (bl s)) ∧ Ext w w' := by
  have hl : (bl s).length = s.size := bl_length s
  by_cases h24 : s.size = 24
  · have hn : ((s.size : Int) != 24) = false := by rw [h24]; rfl
    obtain ⟨r, hr⟩ : ∃ r, rtold (bl s) = r := ⟨_, rfl⟩
    have n1 : ((num (bl (s.extract 0 4)) : Nat) : Int) = r.seq := by rw [← hr, bl_extract]; rfl
    have n3 : ((num (bl (s.extract 6 8)) : Nat) : Int) = r.size := by rw [← hr, bl_extract]; rfl
    have n4 : ((num (bl (s.extract 8 12)) : Nat) : Int) = r.sum := by rw [← hr, bl_extract]; rfl
    have n2 : ((s[4].toNat : Nat) : Int) = r.slot := by
      rw [← hr]; unfold rtold
      simp only [List.getD_eq_getElem?_getD]
      rw [List.getElem?_eq_getElem (by omega)]; rfl
    have N1 := Lib.hid (fun w => rof_calls (s.extract 0 4) (by simp; omega) w)
    have N3 := Lib.hid (fun w => rof_calls (s.extract 6 8) (by simp; omega) w)
    have N4 := Lib.hid (fun w => rof_calls (s.extract 8 12) (by simp; omega) w)
    rw [n1] at N1
    rw [n3] at N3
    rw [n4] at N4
    have hb : s[4].toNat < 256 := s[4].toNat_lt
    have hj : 4 < s.size := by omega
    have N2 := Lib.hid (show IntKind.i64.wrap (s[4].toNat : Int) = r.slot by rw [← n2]; exact wrap_i64_fit _ (by omega) (by omega))
    have M := Lib.hid (fun w => rput_calls r w)
    unfold recV at M
    have HG : Hid (getRes (bl s) = if recMay r = true ∧ put r = bl s then .tuple #[recV r, .int .i64 0] else .tuple #[recV Rec.zero, .int .i64 400]) := by
      show _ = _
      unfold getRes
      rw [rget_of, hr]
      by_cases hc : recMay r = true ∧ put r = bl s
      · rw [if_pos hc, if_pos hc]
      · rw [if_neg hc, if_neg hc]
    clear n1 n2 n3 n4 hr
    go_enter Try.func83, Try.ntmps83
    go_wp2
    apply once
    case f =>
      intro key
      go_region_held3 (fun w1 => Ext (w.alloc (.cells #[.int .i64 0, .int .i64 0, .int .i64 0, .int .i64 0] 85)) w1) ( repeat (first | (with_reducible exact Ext.refl _) | (with_reducible refine Ext.drewN ?_ _) | (with_reducible refine Ext.drew ?_) | (with_reducible refine Ext.alloc ?_ _) | (with_reducible refine Ext.setCell ?_ (by first | exact Nat.le_refl _ | (simp <;> omega)) _) | (with_reducible refine Ext.trans ?_ (by with_reducible assumption)))) (first | (go_at_call 88; first | ((with_reducible refine (N1.out _).mono ?_); rintro e w2 ⟨rfl, rfl⟩) | ((with_reducible refine (N3.out _).mono ?_); rintro e w2 ⟨rfl, rfl⟩) | ((with_reducible refine (N4.out _).mono ?_); rintro e w2 ⟨rfl, rfl⟩)))
      all_goals (rw [N2.out]; exact key)
    case p =>
      generalize recMay r = b at *
      cases b
      · go_wp2_with fail
        refine (M.out _).mono ?_
        rintro e w2 ⟨rfl, B2⟩
        have k0_w2 : w2.cell? ⟨w.heap.size, 0, none⟩ = some (.int .i64 0) := Ext.cell B2 (by simp)
        have k1_w2 : w2.cell? ⟨w.heap.size, 1, none⟩ = some (.int .i64 0) := Ext.cell B2 (by simp)
        have k2_w2 : w2.cell? ⟨w.heap.size, 2, none⟩ = some (.int .i64 0) := Ext.cell B2 (by simp)
        have k3_w2 : w2.cell? ⟨w.heap.size, 3, none⟩ = some (.int .i64 0) := Ext.cell B2 (by simp)
        have f_w2 : ∀ i, w2.frozen? ⟨w.heap.size, i, none⟩ = false := fun i => Ext.free B2 (by first | (simp; done) | (simp; omega)) (by first | (simp; done) | (simp; omega))
        go_wp2
        refine bodyPost_ret (v := .tuple #[recV Rec.zero, .int .i64 400]) ?_ rfl ?_
        · simp [results, Try.results83, go_sem, recV, Rec.zero, k0_w2, k1_w2, k2_w2, k3_w2]
        · exact ⟨congrArg Ending.returned (HG.out.trans (by simp)).symm, (by repeat (first | (with_reducible exact Ext.refl _) | (with_reducible assumption) | (with_reducible refine Ext.drewN ?_ _) | (with_reducible refine Ext.drew ?_) | (with_reducible refine Ext.alloc ?_ _) | (with_reducible refine Ext.setCell ?_ (by first | exact Nat.le_refl _ | (simp <;> omega)) _) | (with_reducible refine Ext.trans ?_ (by with_reducible assumption))))⟩
      · by_cases hp : put r = bl s
        · have htest : (!(mk (put r)).toList == s.toList) = false := by rw [beq_bl, bl_mk]; simp [hp]
          have HP := Lib.hid hp
          clear hp
          go_wp2_with fail
          refine (M.out _).mono ?_
          rintro e w2 ⟨rfl, B2⟩
          have k0_w2 : w2.cell? ⟨w.heap.size, 0, none⟩ = some (.int .i64 0) := Ext.cell B2 (by simp)
          have k1_w2 : w2.cell? ⟨w.heap.size, 1, none⟩ = some (.int .i64 0) := Ext.cell B2 (by simp)
          have k2_w2 : w2.cell? ⟨w.heap.size, 2, none⟩ = some (.int .i64 0) := Ext.cell B2 (by simp)
          have k3_w2 : w2.cell? ⟨w.heap.size, 3, none⟩ = some (.int .i64 0) := Ext.cell B2 (by simp)
          have f_w2 : ∀ i, w2.frozen? ⟨w.heap.size, i, none⟩ = false := fun i => Ext.free B2 (by first | (simp; done) | (simp; omega)) (by first | (simp; done) | (simp; omega))
          have l0 : w2.cell? ⟨w.heap.size + 1, 0, none⟩ = some (.int .i64 r.seq) := Ext.cell B2 (by simp)
          have l1 : w2.cell? ⟨w.heap.size + 1, 1, none⟩ = some (.int .i64 r.slot) := Ext.cell B2 (by simp)
          have l2 : w2.cell? ⟨w.heap.size + 1, 2, none⟩ = some (.int .i64 r.size) := Ext.cell B2 (by simp)
          have l3 : w2.cell? ⟨w.heap.size + 1, 3, none⟩ = some (.int .i64 r.sum) := Ext.cell B2 (by simp)
          go_wp2
          refine bodyPost_ret (v := .tuple #[recV r, .int .i64 0]) ?_ rfl ?_
          · simp [results, Try.results83, go_sem, recV, k0_w2, k1_w2, k2_w2, k3_w2]
          · exact ⟨congrArg Ending.returned (HG.out.trans (if_pos ⟨(by first | rfl | trivial), HP.out⟩)).symm, (by repeat (first | (with_reducible exact Ext.refl _) | (with_reducible assumption) | (with_reducible refine Ext.drewN ?_ _) | (with_reducible refine Ext.drew ?_) | (with_reducible refine Ext.alloc ?_ _) | (with_reducible refine Ext.setCell ?_ (by first | exact Nat.le_refl _ | (simp <;> omega)) _) | (with_reducible refine Ext.trans ?_ (by with_reducible assumption))))⟩
        · have htest : (!(mk (put r)).toList == s.toList) = true := by rw [beq_bl, bl_mk]; simp [hp]
          have HP := Lib.hid hp
          clear hp
          go_wp2_with fail
          refine (M.out _).mono ?_
          rintro e w2 ⟨rfl, B2⟩
          have k0_w2 : w2.cell? ⟨w.heap.size, 0, none⟩ = some (.int .i64 0) := Ext.cell B2 (by simp)
          have k1_w2 : w2.cell? ⟨w.heap.size, 1, none⟩ = some (.int .i64 0) := Ext.cell B2 (by simp)
          have k2_w2 : w2.cell? ⟨w.heap.size, 2, none⟩ = some (.int .i64 0) := Ext.cell B2 (by simp)
          have k3_w2 : w2.cell? ⟨w.heap.size, 3, none⟩ = some (.int .i64 0) := Ext.cell B2 (by simp)
          have f_w2 : ∀ i, w2.frozen? ⟨w.heap.size, i, none⟩ = false := fun i => Ext.free B2 (by first | (simp; done) | (simp; omega)) (by first | (simp; done) | (simp; omega))
          go_wp2
          refine bodyPost_ret (v := .tuple #[recV Rec.zero, .int .i64 400]) ?_ rfl ?_
          · simp [results, Try.results83, go_sem, recV, Rec.zero, k0_w2, k1_w2, k2_w2, k3_w2]
          · exact ⟨congrArg Ending.returned (HG.out.trans (if_neg fun h => HP.out h.2)).symm, (by repeat (first | (with_reducible exact Ext.refl _) | (with_reducible assumption) | (with_reducible refine Ext.drewN ?_ _) | (with_reducible refine Ext.drew ?_) | (with_reducible refine Ext.alloc ?_ _) | (with_reducible refine Ext.setCell ?_ (by first | exact Nat.le_refl _ | (simp <;> omega)) _) | (with_reducible refine Ext.trans ?_ (by with_reducible assumption))))⟩
  · have hg : Skiff.get (bl s) = none := by
      unfold Skiff.get
      rw [if_neg]
      intro h
      exact h24 (by omega)
    have hn : ((s.size : Int) != 24) = true := by rw [bne_iff_ne]; omega
    have HG := Lib.hid (getRes_none hg)
    clear hg
    go_enter Try.func83, Try.ntmps83
    go_wp2
    refine bodyPost_ret (v := .tuple #[recV Rec.zero, .int .i64 400]) ?_ rfl ?_
    · simp [results, Try.results83, go_sem, recV, Rec.zero]
    · exact ⟨congrArg Ending.returned HG.out.symm, (by repeat (first | (with_reducible exact Ext.refl _) | (with_reducible assumption) | (with_reducible refine Ext.drewN ?_ _) | (with_reducible refine Ext.drew ?_) | (with_reducible refine Ext.alloc ?_ _) | (with_reducible refine Ext.setCell ?_ (by first | exact Nat.le_refl _ | (simp <;> omega)) _) | (with_reducible refine Ext.trans ?_ (by with_reducible assumption))))⟩

end Go.Proofs.Ytgoeooghoojdgaa
set_option linter.unusedVariables false
set_option linter.unusedSimpArgs false
set_option maxHeartbeats 4000000
namespace Skiff
def getTup (l : List UInt8) : Int × Int × Int × Int × Int := match get l with
  | some r => (r.seq, r.slot, r.size, r.sum, 0)
  | none => (0, 0, 0, 0, 400)
end Skiff
namespace Go.Proofs.Ytgoeooghoojdgaa
open Go.RowKit Skiff

theorem getTup_res {l : List UInt8} {r1 r2 r3 r4 r5 : Int} (h : some (getTup l) = some (r1, r2, r3, r4, r5)) : getRes l = .tuple #[.agg #[.int .i64 r1, .int .i64 r2, .int .i64 r3, .int .i64 r4], .int .i64 r5] := by
  have h := Option.some.inj h
  unfold getTup at h
  cases hg : Skiff.get l with
  | some r =>
    rw [getRes_some hg]
    rw [hg] at h
    simp only [Prod.mk.injEq] at h
    obtain ⟨rfl, rfl, rfl, rfl, rfl⟩ := h
    rfl
  | none =>
    rw [getRes_none hg]
    rw [hg] at h
    simp only [Prod.mk.injEq] at h
    obtain ⟨rfl, rfl, rfl, rfl, rfl⟩ := h
    rfl

theorem g_skiffref1_GetEntry (a0 : ByteArray) (r1 r2 r3 r4 r5 : Int) (w : World) (h : some (getTup (bl a0)) = some (r1, r2, r3, r4, r5)) :
    Calls Try.prog 83 #[.string a0] w fun e w' => e = .returned (.tuple #[.agg #[.int .i64 r1, .int .i64 r2, .int .i64 r3, .int .i64 r4], .int .i64 r5]) ∧ Below w.heap.size w w' :=
  (rget_calls a0 w).mono fun e w' ⟨he, hw⟩ => ⟨by rw [he, getTup_res h], hw⟩

theorem g_skiffref1_RecordMay (a0_0 a0_1 a0_2 a0_3 : Int) (r : Bool) (w : World) (h : some (recMay ⟨a0_0, a0_1, a0_2, a0_3⟩) = some r) :
    Calls Try.prog 90 #[.agg #[.int .i64 a0_0, .int .i64 a0_1, .int .i64 a0_2, .int .i64 a0_3]] w fun e w' => e = .returned (.bool r) ∧ Below w.heap.size w w' :=
  (recordMay_calls ⟨a0_0, a0_1, a0_2, a0_3⟩ w).mono fun e w' ⟨he, hw⟩ => ⟨by rw [he, Option.some.inj h], hw⟩

end Go.Proofs.Ytgoeooghoojdgaa
