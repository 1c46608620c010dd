/- nor.Torn, Program, Worn, Erase. -/
import Derived.Test.YtbpmmjfibnkmeaaNorA
set_option linter.unusedVariables false
set_option linter.unusedSimpArgs false
set_option maxHeartbeats 4000000
namespace Go.Proofs.Ytbpmmjfibnkmeaa
open Go.RowKit Skiff

theorem nworn_calls (f : ByteArray) (x n : Int) (w : World) :
    Calls Try.prog 16 #[.string f, .int .i64 x, .int .i64 n] w fun e w' => e = .returned (tornRes (worn (bl f) x n)) ∧ Ext w w' := by
  have C1 := Lib.hid (fun w => nmay_calls f w)
  have C2 := Lib.hid (fun w => sector_calls x w)
  by_cases h1 : f.size = 768
  case neg =>
    have HG : Hid (tornRes (worn (bl f) x n) = .tuple #[.string (mk []), .int .i64 200]) := by
      show _ = _
      unfold worn wornMay
      rw [bl_length, decide_eq_false h1]; rfl
    rw [decide_eq_false h1] at C1
    clear h1
    go_enter Try.func16, Try.ntmps16
    go_wp2_with fail
    refine (C1.out _).mono ?_
    rintro e w1 ⟨rfl, rfl⟩
    go_wp2
    go_ret2
    exact ⟨congrArg Ending.returned HG.out.symm, (by repeat (first | (with_reducible exact Ext.refl _) | (with_reducible assumption) | (with_reducible refine Ext.drewN ?_ _) | (with_reducible refine Ext.drew ?_) | (with_reducible refine Ext.alloc ?_ _) | (with_reducible refine Ext.setCell ?_ (by first | exact Nat.le_refl _ | (simp <;> omega)) _) | (with_reducible refine Ext.trans ?_ (by with_reducible assumption))))⟩
  case pos =>
  cases h2 : within x 0 7
  case false =>
    have HG : Hid (tornRes (worn (bl f) x n) = .tuple #[.string (mk []), .int .i64 200]) := by
      show _ = _
      unfold worn wornMay
      rw [h2, Bool.and_false]; rfl
    rw [decide_eq_true h1] at C1
    rw [h2] at C2
    clear h1 h2
    go_enter Try.func16, Try.ntmps16
    go_wp2_with fail
    refine (C1.out _).mono ?_
    rintro e w2 ⟨rfl, rfl⟩
    go_wp2_with fail
    refine (C2.out _).mono ?_
    rintro e w3 ⟨rfl, rfl⟩
    go_wp2
    go_ret2
    exact ⟨congrArg Ending.returned HG.out.symm, (by repeat (first | (with_reducible exact Ext.refl _) | (with_reducible assumption) | (with_reducible refine Ext.drewN ?_ _) | (with_reducible refine Ext.drew ?_) | (with_reducible refine Ext.alloc ?_ _) | (with_reducible refine Ext.setCell ?_ (by first | exact Nat.le_refl _ | (simp <;> omega)) _) | (with_reducible refine Ext.trans ?_ (by with_reducible assumption))))⟩
  case true =>
  by_cases h4 : 0 ≤ n ∧ n ≤ 96
  case neg =>
    have HG : Hid (tornRes (worn (bl f) x n) = .tuple #[.string (mk []), .int .i64 200]) := by
      show _ = _
      unfold worn wornMay
      rw [show within n 0 96 = false by cases h : within n 0 96; rfl; exact absurd (Skiff.within_iff.1 h) h4, Bool.and_false]; rfl
    rw [decide_eq_true h1] at C1
    rw [h2] at C2
    clear h1 h2
    by_cases h5 : n < 0
    · clear h4
      have t1 : decide (n < 0) = true := by simpa using h5
      go_enter Try.func16, Try.ntmps16
      go_wp2_with fail
      refine (C1.out _).mono ?_
      rintro e w4 ⟨rfl, rfl⟩
      go_wp2_with fail
      refine (C2.out _).mono ?_
      rintro e w5 ⟨rfl, rfl⟩
      go_wp2
      go_ret2
      exact ⟨congrArg Ending.returned HG.out.symm, (by repeat (first | (with_reducible exact Ext.refl _) | (with_reducible assumption) | (with_reducible refine Ext.drewN ?_ _) | (with_reducible refine Ext.drew ?_) | (with_reducible refine Ext.alloc ?_ _) | (with_reducible refine Ext.setCell ?_ (by first | exact Nat.le_refl _ | (simp <;> omega)) _) | (with_reducible refine Ext.trans ?_ (by with_reducible assumption))))⟩
    · have h6 : n > 96 := by omega
      clear h4
      have t1 : decide (n < 0) = false := by simpa using h5
      have t2 : decide (n > 96) = true := by simpa using h6
      go_enter Try.func16, Try.ntmps16
      go_wp2_with fail
      refine (C1.out _).mono ?_
      rintro e w6 ⟨rfl, rfl⟩
      go_wp2_with fail
      refine (C2.out _).mono ?_
      rintro e w7 ⟨rfl, rfl⟩
      go_wp2
      go_ret2
      exact ⟨congrArg Ending.returned HG.out.symm, (by repeat (first | (with_reducible exact Ext.refl _) | (with_reducible assumption) | (with_reducible refine Ext.drewN ?_ _) | (with_reducible refine Ext.drew ?_) | (with_reducible refine Ext.alloc ?_ _) | (with_reducible refine Ext.setCell ?_ (by first | exact Nat.le_refl _ | (simp <;> omega)) _) | (with_reducible refine Ext.trans ?_ (by with_reducible assumption))))⟩
  case pos =>
  obtain ⟨hn0, hn1⟩ := h4
  obtain ⟨hx0, hx1⟩ := Skiff.within_iff.1 h2
  obtain ⟨k, rfl⟩ := Int.eq_ofNat_of_zero_le hn0
  obtain ⟨j, rfl⟩ := Int.eq_ofNat_of_zero_le hx0
  have HG : Hid (worn (bl f) j k = some (putIn (bl f) (j * 96) (bl (mk (List.replicate k 255))))) := by
    show _ = _
    unfold worn wornMay putIn wornF
    rw [bl_length, decide_eq_true h1, h2, show within (k : Int) 0 96 = true from Skiff.within_iff.2 ⟨hn0, hn1⟩, bl_mk, List.length_replicate, Nat.mul_comm j 96]
    rfl
  rw [decide_eq_true h1] at C1
  rw [h2] at C2
  clear h2
  have C4 := Lib.hid (fun w => repeat_calls k (by omega) w)
  have hrs : (mk (List.replicate k 255)).size = k := by rw [mk_size, List.length_replicate]
  have C5 := Lib.hid (fun w => with_calls f (mk (List.replicate k 255)) (j * 96) h1 (by rw [hrs]; omega) w)
  rw [show ((j * 96 : Nat) : Int) = (j : Int) * 96 by omega] at C5
  generalize mk (List.replicate k 255) = R at *
  have t1 : decide ((k : Int) < 0) = false := decide_eq_false (by omega)
  have t2 : decide ((k : Int) > 96) = false := decide_eq_false (by omega)
  go_enter Try.func16, Try.ntmps16
  go_wp2_with fail
  refine (C1.out _).mono ?_
  rintro e w8 ⟨rfl, rfl⟩
  go_wp2_with fail
  refine (C2.out _).mono ?_
  rintro e w9 ⟨rfl, rfl⟩
  go_wp2_with fail
  refine (C4.out _).mono ?_
  rintro e w1 ⟨rfl, B1⟩
  go_wp2_with fail
  refine (C5.out _).mono ?_
  rintro e w2 ⟨rfl, B2⟩
  go_wp2
  go_ret2
  exact ⟨congrArg Ending.returned (congrArg tornRes HG.out).symm, (by repeat (first | (with_reducible exact Ext.refl _) | (with_reducible assumption) | (with_reducible refine Ext.drewN ?_ _) | (with_reducible refine Ext.drew ?_) | (with_reducible refine Ext.alloc ?_ _) | (with_reducible refine Ext.setCell ?_ (by first | exact Nat.le_refl _ | (simp <;> omega)) _) | (with_reducible refine Ext.trans ?_ (by with_reducible assumption))))⟩

theorem nerase_calls (f : ByteArray) (x : Int) (w : World) :
    Calls Try.prog 14 #[.string f, .int .i64 x] w fun e w' => e = .returned (tornRes (worn (bl f) x 96)) ∧ Ext w w' := by
  have C := Lib.hid (fun w => nworn_calls f x 96 w)
  cases h : worn (bl f) x 96 with
  | none =>
    rw [h] at C
    unfold tornRes at C
    simp only at C
    go_enter Try.func14, Try.ntmps14
    go_wp2_with fail
    refine (C.out _).mono ?_
    rintro e w1 ⟨rfl, B1⟩
    go_wp2
    go_ret2
    exact ⟨rfl, (by repeat (first | (with_reducible exact Ext.refl _) | (with_reducible assumption) | (with_reducible refine Ext.drewN ?_ _) | (with_reducible refine Ext.drew ?_) | (with_reducible refine Ext.alloc ?_ _) | (with_reducible refine Ext.setCell ?_ (by first | exact Nat.le_refl _ | (simp <;> omega)) _) | (with_reducible refine Ext.trans ?_ (by with_reducible assumption))))⟩
  | some l =>
    rw [h] at C
    unfold tornRes at C
    simp only at C
    go_enter Try.func14, Try.ntmps14
    go_wp2_with fail
    refine (C.out _).mono ?_
    rintro e w2 ⟨rfl, B2⟩
    go_wp2
    go_ret2
    exact ⟨rfl, (by repeat (first | (with_reducible exact Ext.refl _) | (with_reducible assumption) | (with_reducible refine Ext.drewN ?_ _) | (with_reducible refine Ext.drew ?_) | (with_reducible refine Ext.alloc ?_ _) | (with_reducible refine Ext.setCell ?_ (by first | exact Nat.le_refl _ | (simp <;> omega)) _) | (with_reducible refine Ext.trans ?_ (by with_reducible assumption))))⟩

end Go.Proofs.Ytbpmmjfibnkmeaa
