/- Two statements over the sum that write bytes. -/
import Derived.Test.YtencjgchlchcoaaCrcL
import Derived.Deep.QuietTactic
import Derived.BigQuiet
import Derived.RegionTactic
import Derived.StillTailTactics
set_option linter.unusedVariables false
set_option linter.unusedSimpArgs false
namespace Go.Proofs.Ytencjgchlchcoaa
open Go.RowKit

theorem made_u8 (n : Nat) (h : n ≤ 140737488351232) (w : World) :
    (Instr.makeSlice 28 (.int .i64 (n : Int)) (.int .i64 (n : Int))).run Try.prog w = .ok (.slice (some ⟨w.heap.size, 0, none⟩) n n) (w.alloc (.cells (madeCells #[.int .u8 0] n) 5)) := by
  have hinfo : (Try.prog.info? 5).map (fun i => (i.zero, i.size, i.bytes)) = some (some (.int .u8 0), 1, 1) := by kernel_rfl
  obtain ⟨i0, hi, hz0, hz1, hz2⟩ := info_parts hinfo
  have hr := run_make (P := Try.prog) w 28 5 i0 _ Try.underlying28 hi hz0 .i64 .i64 (n : Int) (n : Int) (by omega) (by omega) (by rw [hz2]; omega) (by omega)
  rw [hz1] at hr
  simp only [Nat.mul_one, Int.toNat_natCast] at hr
  exact hr

/-- What the round writes. -/
def xorAt (s t u : ByteArray) (i : Nat) : UInt8 := s.data.toList.getD i 0 ^^^ t.data.toList.getD i 0 ^^^ u.data.toList.getD i 0
def xorTo (s t u : ByteArray) (k : Nat) : Nat → List UInt8
  | 0 => List.replicate k 0
  | i + 1 => (xorTo s t u k i).set i (xorAt s t u i)
theorem xorTo_len (s t u : ByteArray) (k : Nat) : ∀ i, (xorTo s t u k i).length = k
  | 0 => by simp [xorTo]
  | i + 1 => by simp [xorTo, xorTo_len s t u k i]
theorem xorTo_at (s t u : ByteArray) (k : Nat) : ∀ i j, j < k → (xorTo s t u k i)[j]? = some (if j < i then xorAt s t u j else 0)
  | 0, j, h => by simp [xorTo, h]
  | i + 1, j, h => by
    simp only [xorTo, List.getElem?_set, xorTo_at s t u k i j h, xorTo_len]
    by_cases e : i = j
    · subst e; simp [h]
    · by_cases hlt : j < i
      · simp [e, hlt, Nat.lt_succ_of_lt hlt]
      · have : ¬ j < i + 1 := by omega
        simp [e, hlt, this]
theorem xorTo_all (s t u : ByteArray) (k : Nat) (hs : k ≤ s.size) (ht : k ≤ t.size) (hu : k ≤ u.size) :
    xorTo s t u k k = List.zipWith (· ^^^ ·) (List.zipWith (· ^^^ ·) (s.data.toList.take k) (t.data.toList.take k)) (u.data.toList.take k) := by
  have ls : s.data.toList.length = s.size := by simp
  have lt : t.data.toList.length = t.size := by simp
  have lu : u.data.toList.length = u.size := by simp
  apply List.ext_getElem?
  intro j
  by_cases h : j < k
  · rw [xorTo_at s t u k k j h, if_pos h]
    simp only [List.getElem?_zipWith, List.getElem?_take, if_pos h]
    rw [List.getElem?_eq_getElem (by omega : j < s.data.toList.length), List.getElem?_eq_getElem (by omega : j < t.data.toList.length), List.getElem?_eq_getElem (by omega : j < u.data.toList.length)]
    simp only [xorAt, List.getD_eq_getElem?_getD]
    rw [List.getElem?_eq_getElem (by omega : j < s.data.toList.length), List.getElem?_eq_getElem (by omega : j < t.data.toList.length), List.getElem?_eq_getElem (by omega : j < u.data.toList.length)]
    rfl
  · rw [List.getElem?_eq_none (by rw [xorTo_len]; omega), List.getElem?_eq_none (by simp; omega)]

theorem i64_xor_nat (a b : Nat) (ha : a < 2 ^ 62) (hb : b < 2 ^ 62) : bits .xor .i64 (a : Int) (b : Int) = ((a ^^^ b : Nat) : Int) := by
  have ha' : a % 2 ^ 64 = a := Nat.mod_eq_of_lt (by omega)
  have hb' : b % 2 ^ 64 = b := Nat.mod_eq_of_lt (by omega)
  have hx : a ^^^ b < 2 ^ 62 := Nat.xor_lt_two_pow ha hb
  have e : (BitVec.ofNat 64 a ^^^ BitVec.ofNat 64 b).toNat = a ^^^ b := by
    rw [BitVec.toNat_xor, BitVec.toNat_ofNat, BitVec.toNat_ofNat, ha', hb']
  show IntKind.i64.wrap (((BitVec.ofInt 64 (a : Int)) ^^^ (BitVec.ofInt 64 (b : Int))).toNat : Int) = _
  rw [BitVec.ofInt_natCast, BitVec.ofInt_natCast, e]
  exact IntWalk.i64_in ((a ^^^ b : Nat) : Int) (by omega)

theorem turned_walk (s t u : ByteArray) (hs : s.size ≤ 140737488351232) (ht : t.size ≤ 140737488351232) (hu : u.size ≤ 140737488351232) (w : World) :
    Calls Try.prog 6 #[.string s, .string t, .string u] w fun e w' => e = .returned (.bool true) ∧ Ext w w' := by
  obtain ⟨k, hk, ks, kt, ku⟩ : ∃ k : Nat, imin (imin (s.size : Int) (t.size : Int)) (u.size : Int) = (k : Int) ∧ k ≤ s.size ∧ k ≤ t.size ∧ k ≤ u.size := by
    refine ⟨min (min s.size t.size) u.size, ?_, ?_, ?_, ?_⟩
    · rw [imin_eq, imin_eq]; omega
    all_goals omega
  have hmk := fun w => made_u8 k (by omega) w
  go_enter Try.func6, Try.ntmps6
  go_wp2_with fail
  refine (awake_calls _).mono ?_
  rintro e w1 ⟨rfl, B1⟩
  go_wp2_with fail
  go_loopw [9] (fun i wr => ∃ j : Nat, j ≤ k ∧ i = .int .i64 (j : Int) ∧ RowB wr w1.heap.size (xorTo s t u k j) ∧ Ext w1 wr) (fun i _ => k - (intOf i).toNat)
  case atStart => exact ⟨0, by omega, rfl, RowB.made _ _ _, (Ext.refl _).alloc _⟩
  case round =>
    obtain ⟨j, hj, rfl, hR, hE⟩ := hrel
    have hlen := xorTo_len s t u k j
    by_cases hlt : j < k
    · have hcell := hR.cell (i := j) (by omega)
      have hfree := hR.free (i := j) (by omega)
      have js : j < s.size := by omega
      have jt : j < t.size := by omega
      have ju : j < u.size := by omega
      have hx : bits .xor .u8 (bits .xor .u8 ((s[j].toNat : Nat) : Int) ((t[j].toNat : Nat) : Int)) ((u[j].toNat : Nat) : Int) = ((xorAt s t u j).toNat : Int) := by
        have e1 := s[j].toNat_lt
        have e2 := t[j].toNat_lt
        have e3 := u[j].toNat_lt
        rw [u8_xor_nat _ _ (by omega) (by omega), u8_xor_nat _ _ (Nat.xor_lt_two_pow (n := 8) (by omega) (by omega)) (by omega)]
        simp only [xorAt, UInt8.toNat_xor, List.getD_eq_getElem?_getD]
        rw [List.getElem?_eq_getElem (by simpa using js), List.getElem?_eq_getElem (by simpa using jt), List.getElem?_eq_getElem (by simpa using ju)]
        rfl
      go_wp2
      go_region
      go_wp2
      go_roundw
      case rel => exact ⟨j + 1, by omega, by go_num, (hR.set j (xorAt s t u j)).ext (Ext.refl _).drew, (hE.setCell (Nat.le_refl _) _).drew⟩
      case measure => simp [intOf]; omega
    · obtain rfl : j = k := by omega
      have hS : ∀ w', Ext wr w' → (convert 28 9 (.slice (some ⟨w1.heap.size, 0, none⟩) j j)).run Try.prog w' = .ok (.string ⟨(xorTo s t u j j).toArray⟩) w' := by
        intro w' h
        have := (hR.ext h).string 28 5 9 Try.underlying28 Try.underlying5 Try.underlying9 j
        rw [hlen] at this
        exact this
      have cut : ∀ x : ByteArray, j ≤ x.size → (x.extract 0 j).data.toList = x.data.toList.take j := by
        intro x hx
        simp
      have xs : (⟨(xorTo s t u j j).toArray⟩ : ByteArray).data.toList = xorTo s t u j j := by simp
      have hc := Skiff.crcSum_turned (s.data.toList.take j) (t.data.toList.take j) (u.data.toList.take j) (by simp; omega) (by simp; omega)
      rw [← xorTo_all s t u j ks kt ku] at hc
      have C1 := Lib.hid (fun w => sum_calls ⟨(xorTo s t u j j).toArray⟩ w (by show (xorTo s t u j j).toArray.size ≤ _; simp [hlen]; omega))
      have C2 := Lib.hid (fun w => sum_calls (s.extract 0 j) w (by simp; omega))
      have C3 := Lib.hid (fun w => sum_calls (t.extract 0 j) w (by simp; omega))
      have C4 := Lib.hid (fun w => sum_calls (u.extract 0 j) w (by simp; omega))
      rw [cut s ks] at C2
      rw [cut t kt] at C3
      rw [cut u ku] at C4
      rw [xs, hc] at C1
      have l2 := Skiff.crcSum_lt (s.data.toList.take j)
      have l3 := Skiff.crcSum_lt (t.data.toList.take j)
      have l4 := Skiff.crcSum_lt (u.data.toList.take j)
      generalize Skiff.crcSum (s.data.toList.take j) = a at *
      generalize Skiff.crcSum (t.data.toList.take j) = b at *
      generalize Skiff.crcSum (u.data.toList.take j) = c at *
      have hx1 := i64_xor_nat a b (by omega) (by omega)
      have hab : a ^^^ b < 2 ^ 32 := Nat.xor_lt_two_pow l2 l3
      have hx2 := i64_xor_nat (a ^^^ b) c (by omega) (by omega)
      rw [← hx1] at hx2
      have HX : Hid ((((a ^^^ b ^^^ c : Nat) : Int) == bits .xor .i64 (bits .xor .i64 (a : Int) (b : Int)) (c : Int)) = true) := by
        show _ = true
        rw [hx2]; simp
      clear hc xs cut hx1 hx2 hab
      generalize ((a ^^^ b ^^^ c : Nat) : Int) = z at *
      go_wp2
      go_region_held3 (fun w' => Ext wr w' ∧ (convert 28 9 (.slice (some ⟨w1.heap.size, 0, none⟩) j j)).run Try.prog w' = .ok (.string ⟨(xorTo s t u j j).toArray⟩) w')
        (first | ((refine (fun h => ⟨h, hS _ h⟩ : Ext wr _ → _) ?_); go_split_ands; exact (by repeat (first | exact Ext.refl _ | refine Ext.drewN ?_ _ | refine Ext.drew ?_ | refine Ext.alloc ?_ _ | refine Ext.trans ?_ (by assumption)))))
        (first | (go_at_call 8; refine (num_calls _ _).mono ?_; rintro e w' ⟨rfl, rfl⟩) | (go_at_call 9; first | ((with_reducible refine (C1.out _).mono ?_); rintro e w' ⟨rfl, B⟩) | ((with_reducible refine (C2.out _).mono ?_); rintro e w' ⟨rfl, B⟩) | ((with_reducible refine (C3.out _).mono ?_); rintro e w' ⟨rfl, B⟩) | ((with_reducible refine (C4.out _).mono ?_); rintro e w' ⟨rfl, B⟩)))
      go_wp2
      go_ret
      exact ⟨congrArg (fun b => Ending.returned (.bool b)) HX.out, (by repeat (first | exact Ext.refl _ | refine Ext.drewN ?_ _ | refine Ext.drew ?_ | refine Ext.alloc ?_ _ | refine Ext.trans ?_ (by assumption)))⟩

end Go.Proofs.Ytencjgchlchcoaa
