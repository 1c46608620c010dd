/- Laws of chapter 2. -/
import Derived.Test.YtbpmmjfibnkmeaaNorD
set_option linter.unusedVariables false
set_option linter.unusedSimpArgs false
set_option maxHeartbeats 4000000
namespace Go.Proofs.Ytbpmmjfibnkmeaa
open Go.RowKit Skiff

theorem tornRes' (o : Option (List UInt8)) : ∃ (X : ByteArray) (E : Int), tornRes o = .tuple #[.string X, .int .i64 E] ∧ ((∃ l, o = some l ∧ X = mk l ∧ E = 0) ∨ (o = none ∧ X = mk [] ∧ E = 200)) := by
  cases o with
  | none => exact ⟨_, _, rfl, Or.inr ⟨rfl, rfl, rfl⟩⟩
  | some l => exact ⟨_, _, rfl, Or.inl ⟨l, rfl, rfl, rfl⟩⟩

theorem nors_walk (f : ByteArray) (x : Int) (s : ByteArray) (n : Int) (hf : f.size ≤ 140737488351232) (f1 : (Lit.int .i64 x).wf = true) (hs : s.size ≤ 140737488351232) (f2 : (Lit.int .i64 n).wf = true) (w : World) :
    Calls Try.prog 3 #[.string f, .int .i64 x, .string s, .int .i64 n] w fun e w' => e = .returned (.bool true) ∧ Ext w w' := by
  have P1 := Lib.hid (fun w => nprogram_calls f s x w)
  have P2 := Lib.hid (fun w => rprogram_calls f s x w)
  have P3 := Lib.hid (fun w => ntorn_calls f s x n w)
  have P4 := Lib.hid (fun w => rtorn_calls f s x n w)
  have P5 := Lib.hid (fun w => nerase_calls f x w)
  have P6 := Lib.hid (fun w => rerase_calls f x w)
  have P7 := Lib.hid (fun w => nworn_calls f x n w)
  have P8 := Lib.hid (fun w => rworn_calls f x n w)
  have P9 := Lib.hid (fun w => nmay_calls f w)
  have P10 := Lib.hid (fun w => flashMay_calls f w)
  obtain ⟨X1, E1, h1, -⟩ := tornRes' (torn (bl f) x (bl s) 32)
  obtain ⟨X2, E2, h2, -⟩ := tornRes' (torn (bl f) x (bl s) n)
  obtain ⟨X3, E3, h3, -⟩ := tornRes' (worn (bl f) x 96)
  obtain ⟨X4, E4, h4, -⟩ := tornRes' (worn (bl f) x n)
  rw [h1] at P1 P2
  rw [h2] at P3 P4
  rw [h3] at P5 P6
  rw [h4] at P7 P8
  clear h1 h2 h3 h4
  generalize decide (f.size = 768) = m at P9 P10
  have P11 := Lib.hid (fun w => blank_calls w)
  have P12 := Lib.hid (fun w => rblank_calls w)
  generalize mk flash0 = F0 at *
  go_enter Try.func3, Try.ntmps3
  go_wp2_with fail
  refine (P1.out _).mono ?_
  rintro e w1 ⟨rfl, B1⟩
  go_wp2_with fail
  refine (P2.out _).mono ?_
  rintro e w2 ⟨rfl, B2⟩
  go_wp2_with fail
  refine (P3.out _).mono ?_
  rintro e w3 ⟨rfl, B3⟩
  go_wp2_with fail
  refine (P4.out _).mono ?_
  rintro e w4 ⟨rfl, B4⟩
  go_wp2_with fail
  refine (P5.out _).mono ?_
  rintro e w5 ⟨rfl, B5⟩
  go_wp2_with fail
  refine (P6.out _).mono ?_
  rintro e w6 ⟨rfl, B6⟩
  go_wp2_with fail
  refine (P7.out _).mono ?_
  rintro e w7 ⟨rfl, B7⟩
  go_wp2_with fail
  refine (P8.out _).mono ?_
  rintro e w8 ⟨rfl, B8⟩
  go_wp2_with fail
  refine (num0_calls _ _).mono ?_
  rintro e w9 ⟨rfl, rfl⟩
  go_wp2_with fail
  refine (num0_calls _ _).mono ?_
  rintro e w10 ⟨rfl, rfl⟩
  go_wp2_with fail
  refine (num0_calls _ _).mono ?_
  rintro e w11 ⟨rfl, rfl⟩
  go_wp2_with fail
  refine (num0_calls _ _).mono ?_
  rintro e w12 ⟨rfl, rfl⟩
  go_wp2_with fail
  refine (P9.out _).mono ?_
  rintro e w13 ⟨rfl, rfl⟩
  go_wp2_with fail
  refine (P10.out _).mono ?_
  rintro e w14 ⟨rfl, rfl⟩
  go_wp2_with fail
  refine (P11.out _).mono ?_
  rintro e w15 ⟨rfl, B15⟩
  go_wp2_with fail
  refine (P12.out _).mono ?_
  rintro e w16 ⟨rfl, B16⟩
  go_wp2_with fail
  refine (awake2_calls _).mono ?_
  rintro e w17 ⟨rfl, B17⟩
  go_wp2
  go_ret
  exact ⟨rfl, (by repeat (first | (with_reducible exact Ext.refl _) | (with_reducible assumption) | (with_reducible refine Ext.drewN ?_ _) | (with_reducible refine Ext.drew ?_) | (with_reducible refine Ext.alloc ?_ _) | (with_reducible refine Ext.setCell ?_ (by first | exact Nat.le_refl _ | (simp <;> omega)) _) | (with_reducible refine Ext.trans ?_ (by with_reducible assumption))))⟩

end Go.Proofs.Ytbpmmjfibnkmeaa
