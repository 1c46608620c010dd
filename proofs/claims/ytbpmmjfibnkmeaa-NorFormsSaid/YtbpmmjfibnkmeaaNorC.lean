/- nor.Torn, Program. -/
import Derived.Test.YtbpmmjfibnkmeaaNorB
set_option linter.unusedVariables false
set_option linter.unusedSimpArgs false
set_option maxHeartbeats 4000000
namespace Go.Proofs.Ytbpmmjfibnkmeaa
open Go.RowKit Skiff

theorem and_byte (a b : UInt8) : bits .and .u8 (a.toNat : Int) (b.toNat : Int) = ((a &&& b).toNat : Int) := by
  have ha := a.toNat_lt
  have hb := b.toNat_lt
  have e : (BitVec.ofInt 8 (a.toNat : Int) &&& BitVec.ofInt 8 (b.toNat : Int)).toNat = (a &&& b).toNat := by
    rw [BitVec.toNat_and, BitVec.ofInt_natCast, BitVec.ofInt_natCast, BitVec.toNat_ofNat, BitVec.toNat_ofNat, Nat.mod_eq_of_lt (by omega), Nat.mod_eq_of_lt (by omega), UInt8.toNat_and]
  show IntKind.u8.wrap (((BitVec.ofInt 8 (a.toNat : Int)) &&& (BitVec.ofInt 8 (b.toNat : Int))).toNat : Int) = _
  rw [e]
  have hv := (a &&& b).toNat_lt
  generalize (a &&& b).toNat = v at hv ⊢
  simp [IntKind.wrap, IntKind.bits, IntKind.signed]
  omega

theorem take_set (T b : List UInt8) (c : Nat) (h1 : c < T.length) (h2 : c < b.length) : (T.take c ++ b.drop c).set c (T.getD c 0) = T.take (c + 1) ++ b.drop (c + 1) := by
  have hl : (T.take c).length = c := by simp; omega
  rw [List.set_append_right _ _ (by omega), hl, Nat.sub_self, List.drop_eq_getElem_cons h2, List.set_cons_zero, List.take_succ_eq_append_getElem h1, List.append_assoc, List.getD_eq_getElem?_getD, List.getElem?_eq_getElem h1]
  rfl

theorem ntorn_calls (f s : ByteArray) (x n : Int) (w : World) :
    Calls Try.prog 12 #[.string f, .int .i64 x, .string s, .int .i64 n] w fun e w' => e = .returned (tornRes (torn (bl f) x (bl s) n)) ∧ Ext w w' := by
  have C1 := Lib.hid (fun w => nmay_calls f w)
  have C2 := Lib.hid (fun w => begins_calls x w)
  by_cases h1 : f.size = 768
  case neg =>
    have HG : Hid (tornRes (torn (bl f) x (bl s) n) = .tuple #[.string (mk []), .int .i64 200]) := by
      show _ = _
      unfold torn tornMay
      rw [bl_length, decide_eq_false h1]; rfl
    rw [decide_eq_false h1] at C1
    clear h1
    go_enter Try.func12, Try.ntmps12
    go_wp2_with fail
    refine (C1.out _).mono ?_
    rintro e w1 ⟨rfl, rfl⟩
    go_wp2
    go_ret2
    exact ⟨congrArg Ending.returned HG.out.symm, (by repeat (first | (with_reducible exact Ext.refl _) | (with_reducible assumption) | (with_reducible refine Ext.drewN ?_ _) | (with_reducible refine Ext.drew ?_) | (with_reducible refine Ext.alloc ?_ _) | (with_reducible refine Ext.setCell ?_ (by first | exact Nat.le_refl _ | (simp <;> omega)) _) | (with_reducible refine Ext.trans ?_ (by with_reducible assumption))))⟩
  case pos =>
  cases h2 : wordAt x
  case false =>
    have HG : Hid (tornRes (torn (bl f) x (bl s) n) = .tuple #[.string (mk []), .int .i64 200]) := by
      show _ = _
      unfold torn tornMay
      rw [h2, Bool.and_false]; rfl
    rw [decide_eq_true h1] at C1
    rw [h2] at C2
    clear h1 h2
    go_enter Try.func12, Try.ntmps12
    go_wp2_with fail
    refine (C1.out _).mono ?_
    rintro e w2 ⟨rfl, rfl⟩
    go_wp2_with fail
    refine (C2.out _).mono ?_
    rintro e w3 ⟨rfl, rfl⟩
    go_wp2
    go_ret2
    exact ⟨congrArg Ending.returned HG.out.symm, (by repeat (first | (with_reducible exact Ext.refl _) | (with_reducible assumption) | (with_reducible refine Ext.drewN ?_ _) | (with_reducible refine Ext.drew ?_) | (with_reducible refine Ext.alloc ?_ _) | (with_reducible refine Ext.setCell ?_ (by first | exact Nat.le_refl _ | (simp <;> omega)) _) | (with_reducible refine Ext.trans ?_ (by with_reducible assumption))))⟩
  case true =>
  by_cases h3 : s.size = 4
  case neg =>
    have HG : Hid (tornRes (torn (bl f) x (bl s) n) = .tuple #[.string (mk []), .int .i64 200]) := by
      show _ = _
      unfold torn tornMay
      rw [bl_length s, decide_eq_false h3, Bool.and_false]; rfl
    have ht : ((s.size : Int) != 4) = true := by rw [bne_iff_ne]; omega
    rw [decide_eq_true h1] at C1
    rw [h2] at C2
    clear h1 h2
    go_enter Try.func12, Try.ntmps12
    go_wp2_with fail
    refine (C1.out _).mono ?_
    rintro e w4 ⟨rfl, rfl⟩
    go_wp2_with fail
    refine (C2.out _).mono ?_
    rintro e w5 ⟨rfl, rfl⟩
    go_wp2
    go_ret2
    exact ⟨congrArg Ending.returned HG.out.symm, (by repeat (first | (with_reducible exact Ext.refl _) | (with_reducible assumption) | (with_reducible refine Ext.drewN ?_ _) | (with_reducible refine Ext.drew ?_) | (with_reducible refine Ext.alloc ?_ _) | (with_reducible refine Ext.setCell ?_ (by first | exact Nat.le_refl _ | (simp <;> omega)) _) | (with_reducible refine Ext.trans ?_ (by with_reducible assumption))))⟩
  case pos =>
  have ht : ((s.size : Int) != 4) = false := by rw [h3]; rfl
  by_cases h4 : 0 ≤ n ∧ n ≤ 32
  case neg =>
    have HG : Hid (tornRes (torn (bl f) x (bl s) n) = .tuple #[.string (mk []), .int .i64 200]) := by
      show _ = _
      unfold torn tornMay
      rw [show within n 0 32 = false by cases h : within n 0 32; rfl; exact absurd (Skiff.within_iff.1 h) h4, Bool.and_false]; rfl
    rw [decide_eq_true h1] at C1
    rw [h2] at C2
    clear h1 h2
    by_cases h5 : n < 0
    · clear h4
      have t1 : decide (n < 0) = true := by simpa using h5
      go_enter Try.func12, Try.ntmps12
      go_wp2_with fail
      refine (C1.out _).mono ?_
      rintro e w6 ⟨rfl, rfl⟩
      go_wp2_with fail
      refine (C2.out _).mono ?_
      rintro e w7 ⟨rfl, rfl⟩
      go_wp2
      go_ret2
      exact ⟨congrArg Ending.returned HG.out.symm, (by repeat (first | (with_reducible exact Ext.refl _) | (with_reducible assumption) | (with_reducible refine Ext.drewN ?_ _) | (with_reducible refine Ext.drew ?_) | (with_reducible refine Ext.alloc ?_ _) | (with_reducible refine Ext.setCell ?_ (by first | exact Nat.le_refl _ | (simp <;> omega)) _) | (with_reducible refine Ext.trans ?_ (by with_reducible assumption))))⟩
    · have h6 : n > 32 := by omega
      clear h4
      have t1 : decide (n < 0) = false := by simpa using h5
      have t2 : decide (n > 32) = true := by simpa using h6
      go_enter Try.func12, Try.ntmps12
      go_wp2_with fail
      refine (C1.out _).mono ?_
      rintro e w8 ⟨rfl, rfl⟩
      go_wp2_with fail
      refine (C2.out _).mono ?_
      rintro e w9 ⟨rfl, rfl⟩
      go_wp2
      go_ret2
      exact ⟨congrArg Ending.returned HG.out.symm, (by repeat (first | (with_reducible exact Ext.refl _) | (with_reducible assumption) | (with_reducible refine Ext.drewN ?_ _) | (with_reducible refine Ext.drew ?_) | (with_reducible refine Ext.alloc ?_ _) | (with_reducible refine Ext.setCell ?_ (by first | exact Nat.le_refl _ | (simp <;> omega)) _) | (with_reducible refine Ext.trans ?_ (by with_reducible assumption))))⟩
  case pos =>
  obtain ⟨hn0, hn1⟩ := h4
  have hx := h2
  unfold wordAt at hx
  obtain ⟨hx0, hx1⟩ := Skiff.within_iff.1 (Bool.and_eq_true_iff.1 hx).1
  obtain ⟨k, rfl⟩ := Int.eq_ofNat_of_zero_le hn0
  obtain ⟨j, rfl⟩ := Int.eq_ofNat_of_zero_le hx0
  have HG : Hid (torn (bl f) j (bl s) k = some (tornF (bl f) j (bl s) k)) := by
    show _ = _
    unfold torn tornMay
    rw [bl_length, bl_length, decide_eq_true h1, h2, decide_eq_true h3, show within (k : Int) 0 32 = true from Skiff.within_iff.2 ⟨hn0, hn1⟩]
    rfl
  rw [decide_eq_true h1] at C1
  rw [h2] at C2
  clear hx h2
  have t1 : decide ((k : Int) < 0) = false := decide_eq_false (by omega)
  have t2 : decide ((k : Int) > 32) = false := decide_eq_false (by omega)
  have kc := fun (w : World) => Lib.run_convert_string_bytes (P := Try.prog) w 9 46 5 (f.extract j (j + 4)) Try.underlying9 Try.underlying46 Try.underlying5
  have hb0 : bl (f.extract j (j + 4)) = ((bl f).drop j).take 4 := by rw [bl_extract]; simp
  have hsz : (f.extract j (j + 4)).size = 4 := by simp; omega
  rw [hsz] at kc
  have HB := Lib.hid hb0
  clear hb0
  go_enter Try.func12, Try.ntmps12
  go_wp2_with fail
  refine (C1.out _).mono ?_
  rintro e w10 ⟨rfl, rfl⟩
  go_wp2_with fail
  refine (C2.out _).mono ?_
  rintro e w11 ⟨rfl, rfl⟩
  go_wp2
  have hR0 := RowB.bytes w 5 (f.extract j (j + 4))
  rw [show (f.extract j (j + 4)).data.toList = ((bl f).drop j).take 4 from HB.out] at hR0
  have hE0 := Ext.bytes w 5 (f.extract j (j + 4))
  have hbl : (((bl f).drop j).take 4).length = 4 := by simp; omega
  generalize ((bl f).drop j).take 4 = b0 at hR0 hbl HB
  go_loopw [41] (fun i wr => ∃ c : Nat, c ≤ 4 ∧ i = .int .i64 (c : Int) ∧ RowB wr w.heap.size ((tornL b0 (bl s) k).take c ++ b0.drop c) ∧ Ext w wr) (fun i _ => 4 - (intOf i).toNat)
  case atStart => exact ⟨0, by omega, rfl, by simpa using hR0, hE0⟩
  case round =>
    clear hR0 hE0
    obtain ⟨c, hc, rfl, hR, hE⟩ := hrel
    have hll : ((tornL b0 (bl s) k).take c ++ b0.drop c).length = 4 := by simp; omega
    by_cases hlt : c < 4
    · have hcell := hR.cellD (i := c) (by omega)
      have hfree := hR.free (i := c) (by omega)
      have hy : ((tornL b0 (bl s) k).take c ++ b0.drop c).getD c 0 = b0.getD c 0 := by
        have hl : ((tornL b0 (bl s) k).take c).length = c := by simp; omega
        rw [List.getD_eq_getElem?_getD, List.getElem?_append_right (by omega), hl, Nat.sub_self, List.getElem?_drop, Nat.add_zero, ← List.getD_eq_getElem?_getD]
      have hts := take_set (tornL b0 (bl s) k) b0 c (by simp; omega) (by omega)
      rw [tornL_at b0 (bl s) k c (by omega) (by rw [bl_length]; omega)] at hts
      unfold tornB at hts
      rw [hy] at hcell
      have g2 : c < s.size := by omega
      rw [show (bl s).getD c 0 = s[c] by rw [List.getD_eq_getElem?_getD, List.getElem?_eq_getElem (by rw [bl_length]; exact g2)]; rfl] at hts
      have M := Lib.hid (fun w => mask_calls s[c] ((k : Int) - 8 * (c : Int)) (by omega) (by omega) w)
      rw [show ((k : Int) - 8 * (c : Int)).toNat = k - 8 * c by omega] at M
      generalize b0.getD c 0 = y at hts hcell
      have hand := and_byte y (maskB s[c] (k - 8 * c))
      generalize maskB s[c] (k - 8 * c) = m at hts M hand
      generalize y &&& m = z at hts hand
      have HT := Lib.hid hts
      have e1 : IntKind.i64.wrap (8 * (c : Int)) = 8 * (c : Int) := wrap_i64_fit _ (by omega) (by omega)
      have e2 : IntKind.i64.wrap ((k : Int) - 8 * (c : Int)) = (k : Int) - 8 * (c : Int) := wrap_i64_fit _ (by omega) (by omega)
      have e3 : (c : Int) < 4 := by omega
      clear hts hy
      go_wp2
      go_region_law (first | (go_simp; go_at_call 25; (with_reducible refine (M.out _).mono ?_); rintro e w' ⟨rfl, rfl⟩))
      all_goals
        go_wp2
        go_roundw
        case rel => exact ⟨c + 1, by omega, by go_num, by rw [← HT.out]; exact (hR.set c z).ext ((Ext.refl _).drew), (hE.setCell (Nat.le_refl _) _).drew⟩
        case measure => simp [intOf] <;> omega
    · obtain rfl : c = 4 := by omega
      have hfin : (tornL b0 (bl s) k).take 4 ++ b0.drop 4 = tornL b0 (bl s) k := by
        rw [List.take_of_length_le (by simp; omega), List.drop_of_length_le (by omega), List.append_nil]
      rw [hfin] at hR hll
      have hS := hR.string (P := Try.prog) 46 5 9 Try.underlying46 Try.underlying5 Try.underlying9 (grownCap w 4 0 5)
      rw [hll] at hS
      have C5 := Lib.hid (fun w => with_calls f (mk (tornL b0 (bl s) k)) j h1 (by rw [mk_size, hll]; omega) w)
      have hput : putIn (bl f) j (bl (mk (tornL b0 (bl s) k))) = tornF (bl f) j (bl s) k := by
        have e1 : b0 = ((bl f).drop j).take 4 := by rw [← HB.out, bl_extract]; simp
        rw [bl_mk, putIn, hll, tornF, e1]
      rw [hput] at C5
      go_wp2_with fail
      refine (C5.out _).mono ?_
      rintro e w7 ⟨rfl, B7⟩
      go_wp2
      go_ret2
      exact ⟨congrArg Ending.returned (congrArg tornRes HG.out).symm, (by repeat (first | (with_reducible exact Ext.refl _) | (with_reducible assumption) | (with_reducible refine Ext.drewN ?_ _) | (with_reducible refine Ext.drew ?_) | (with_reducible refine Ext.alloc ?_ _) | (with_reducible refine Ext.setCell ?_ (by first | exact Nat.le_refl _ | (simp <;> omega)) _) | (with_reducible refine Ext.trans ?_ (by with_reducible assumption))))⟩

theorem nprogram_calls (f s : ByteArray) (x : Int) (w : World) :
    Calls Try.prog 10 #[.string f, .int .i64 x, .string s] w fun e w' => e = .returned (tornRes (torn (bl f) x (bl s) 32)) ∧ Ext w w' := by
  have C := Lib.hid (fun w => ntorn_calls f s x 32 w)
  cases h : torn (bl f) x (bl s) 32 with
  | none =>
    rw [h] at C
    unfold tornRes at C
    simp only at C
    go_enter Try.func10, Try.ntmps10
    go_wp2_with fail
    refine (C.out _).mono ?_
    rintro e w1 ⟨rfl, B1⟩
    go_wp2
    go_ret2
    exact ⟨rfl, (by repeat (first | (with_reducible exact Ext.refl _) | (with_reducible assumption) | (with_reducible refine Ext.drewN ?_ _) | (with_reducible refine Ext.drew ?_) | (with_reducible refine Ext.alloc ?_ _) | (with_reducible refine Ext.setCell ?_ (by first | exact Nat.le_refl _ | (simp <;> omega)) _) | (with_reducible refine Ext.trans ?_ (by with_reducible assumption))))⟩
  | some l =>
    rw [h] at C
    unfold tornRes at C
    simp only at C
    go_enter Try.func10, Try.ntmps10
    go_wp2_with fail
    refine (C.out _).mono ?_
    rintro e w2 ⟨rfl, B2⟩
    go_wp2
    go_ret2
    exact ⟨rfl, (by repeat (first | (with_reducible exact Ext.refl _) | (with_reducible assumption) | (with_reducible refine Ext.drewN ?_ _) | (with_reducible refine Ext.drew ?_) | (with_reducible refine Ext.alloc ?_ _) | (with_reducible refine Ext.setCell ?_ (by first | exact Nat.le_refl _ | (simp <;> omega)) _) | (with_reducible refine Ext.trans ?_ (by with_reducible assumption))))⟩

end Go.Proofs.Ytbpmmjfibnkmeaa
