/- skifflaw2.awake. -/
import Derived.Test.YtbpmmjfibnkmeaaNorC
set_option linter.unusedVariables false
set_option linter.unusedSimpArgs false
set_option maxHeartbeats 4000000
namespace Go.Proofs.Ytbpmmjfibnkmeaa
open Go.RowKit Skiff

def wkW : List UInt8 := [15, 0, 255, 1]
def wkA : List UInt8 := tornF flash0 8 wkW 32
def wkB : List UInt8 := tornF flash0 8 wkW 12
def wkD : List UInt8 := wornF wkA 0 9

theorem wk_program (w : World) : Calls Try.prog 10 #[.string (mk flash0), .int .i64 8, .string ⟨#[15, 0, 255, 1]⟩] w fun e w' => e = .returned (.tuple #[.string (mk wkA), .int .i64 0]) ∧ Ext w w' := by
  have h := nprogram_calls (mk flash0) ⟨#[15, 0, 255, 1]⟩ 8 w
  rw [bl_mk, show torn flash0 8 (bl ⟨#[15, 0, 255, 1]⟩) 32 = some wkA by decide +kernel] at h
  exact h
theorem wk_torn (w : World) : Calls Try.prog 12 #[.string (mk flash0), .int .i64 8, .string ⟨#[15, 0, 255, 1]⟩, .int .i64 12] w fun e w' => e = .returned (.tuple #[.string (mk wkB), .int .i64 0]) ∧ Ext w w' := by
  have h := ntorn_calls (mk flash0) ⟨#[15, 0, 255, 1]⟩ 8 12 w
  rw [bl_mk, show torn flash0 8 (bl ⟨#[15, 0, 255, 1]⟩) 12 = some wkB by decide +kernel] at h
  exact h
theorem wk_erase (w : World) : Calls Try.prog 14 #[.string (mk wkA), .int .i64 0] w fun e w' => e = .returned (.tuple #[.string (mk flash0), .int .i64 0]) ∧ Ext w w' := by
  have h := nerase_calls (mk wkA) 0 w
  rw [bl_mk, show worn wkA 0 96 = some flash0 by decide +kernel] at h
  exact h
theorem wk_worn (w : World) : Calls Try.prog 16 #[.string (mk wkA), .int .i64 0, .int .i64 9] w fun e w' => e = .returned (.tuple #[.string (mk wkD), .int .i64 0]) ∧ Ext w w' := by
  have h := nworn_calls (mk wkA) 0 9 w
  rw [bl_mk, show worn wkA 0 9 = some wkD by decide +kernel] at h
  exact h
theorem wk_program0 (w : World) : Calls Try.prog 10 #[.string (mk flash0), .int .i64 6, .string ⟨#[97, 98, 99, 100]⟩] w fun e w' => e = .returned (.tuple #[.string (mk []), .int .i64 200]) ∧ Ext w w' := by
  have h := nprogram_calls (mk flash0) ⟨#[97, 98, 99, 100]⟩ 6 w
  rw [bl_mk, show torn flash0 6 (bl ⟨#[97, 98, 99, 100]⟩) 32 = none by decide +kernel] at h
  exact h
theorem wk_erase0 (w : World) : Calls Try.prog 14 #[.string (mk flash0), .int .i64 8] w fun e w' => e = .returned (.tuple #[.string (mk []), .int .i64 200]) ∧ Ext w w' := by
  have h := nerase_calls (mk flash0) 8 w
  rw [bl_mk, show worn flash0 8 96 = none by decide +kernel] at h
  exact h
theorem wk_may0 (w : World) : Calls Try.prog 19 #[.string ⟨#[]⟩] w fun e w' => e = .returned (.bool false) ∧ w = w' := nmay_calls ⟨#[]⟩ w
theorem wk_may (w : World) : Calls Try.prog 19 #[.string (mk flash0)] w fun e w' => e = .returned (.bool true) ∧ w = w' := by
  have h := nmay_calls (mk flash0) w
  rw [mk_size, flash0_length] at h
  exact h
theorem wk_cut (l v : List UInt8) (h : (l.drop 8).take 4 = v) : ((mk l).extract 8 12).toList = v := by
  rw [toList_bl, bl_extract, bl_mk]
  exact h

theorem awake2_calls (w : World) :
    Calls Try.prog 23 #[] w fun e w' => e = .returned (.bool true) ∧ Ext w w' := by
  have s0 : (mk flash0).size = 768 := by rw [mk_size, flash0_length]
  have s1 : (mk wkA).size = 768 := by rw [mk_size]; decide +kernel
  have s2 : (mk wkB).size = 768 := by rw [mk_size]; decide +kernel
  have s3 : (mk wkD).size = 768 := by rw [mk_size]; decide +kernel
  have x1 : ((mk wkA).extract 8 12).toList = [15, 0, 255, 1] := wk_cut wkA [15, 0, 255, 1] (by decide +kernel)
  have x2 : ((mk wkB).extract 8 12).toList = [15, 240, 255, 255] := wk_cut wkB [15, 240, 255, 255] (by decide +kernel)
  have x3 : ((mk wkD).extract 8 12).toList = [255, 0, 255, 1] := wk_cut wkD [255, 0, 255, 1] (by decide +kernel)
  have P1 := Lib.hid (fun w => blank_calls w)
  have P2 := Lib.hid (fun w => wk_program w)
  have P3 := Lib.hid (fun w => wk_torn w)
  have P4 := Lib.hid (fun w => wk_erase w)
  have P5 := Lib.hid (fun w => wk_worn w)
  have P6 := Lib.hid (fun w => wk_program0 w)
  have P7 := Lib.hid (fun w => wk_erase0 w)
  have P8 := Lib.hid (fun w => wk_may w)
  have P9 := Lib.hid (fun w => wk_may0 w)
  generalize mk flash0 = F0 at *
  generalize mk wkA = A at *
  generalize mk wkB = B at *
  generalize mk wkD = D at *
  go_enter Try.func23, Try.ntmps23
  go_wp2_with fail
  refine (P1.out _).mono ?_
  rintro e w1 ⟨rfl, B1⟩
  go_wp2_with fail
  refine (P2.out _).mono ?_
  rintro e w2 ⟨rfl, B2⟩
  go_wp2_with fail
  refine (P3.out _).mono ?_
  rintro e w3 ⟨rfl, B3⟩
  go_wp2_with fail
  refine (P4.out _).mono ?_
  rintro e w4 ⟨rfl, B4⟩
  go_wp2_with fail
  refine (P5.out _).mono ?_
  rintro e w5 ⟨rfl, B5⟩
  go_wp2_with fail
  refine (P6.out _).mono ?_
  rintro e w6 ⟨rfl, B6⟩
  go_wp2_with fail
  refine (P7.out _).mono ?_
  rintro e w7 ⟨rfl, B7⟩
  go_wp2_with fail
  refine (num0_calls _ _).mono ?_
  rintro e w8 ⟨rfl, rfl⟩
  go_wp2_with fail
  refine (num0_calls _ _).mono ?_
  rintro e w9 ⟨rfl, rfl⟩
  go_wp2_with fail
  refine (num0_calls _ _).mono ?_
  rintro e w10 ⟨rfl, rfl⟩
  go_wp2_with fail
  refine (num0_calls _ _).mono ?_
  rintro e w11 ⟨rfl, rfl⟩
  go_wp2_with fail
  refine (num0_calls _ _).mono ?_
  rintro e w12 ⟨rfl, rfl⟩
  go_wp2_with fail
  refine (num0_calls _ _).mono ?_
  rintro e w13 ⟨rfl, rfl⟩
  go_wp2_with fail
  refine (P8.out _).mono ?_
  rintro e w14 ⟨rfl, rfl⟩
  go_wp2_with fail
  refine (P9.out _).mono ?_
  rintro e w15 ⟨rfl, rfl⟩
  go_wp2
  go_ret
  exact ⟨rfl, (by repeat (first | (with_reducible exact Ext.refl _) | (with_reducible assumption) | (with_reducible refine Ext.drewN ?_ _) | (with_reducible refine Ext.drew ?_) | (with_reducible refine Ext.alloc ?_ _) | (with_reducible refine Ext.setCell ?_ (by first | exact Nat.le_refl _ | (simp <;> omega)) _) | (with_reducible refine Ext.trans ?_ (by with_reducible assumption))))⟩

end Go.Proofs.Ytbpmmjfibnkmeaa
