-- written by wip/prt.py of this repo, by the kit's print, over contracts that are proved here by hand
import Derived.Test.YtdijecmpaoabbaaZ2GivHp
import Derived.Test.YtdijecmpaoabbaaZ2Px0
import Derived.Test.YtdijecmpaoabbaaZ2Px1
import Derived.Test.YtdijecmpaoabbaaZ2Px3
import Derived.Test.YtdijecmpaoabbaaZ2Px4
import Derived.Test.YtdijecmpaoabbaaZ2Px5
namespace Go.Proofs.Ytdijecmpaoabbaa.P
open Go.RowKit Go.Proofs.YtdijecmpaoabbaaW.PrintWords Go.Proofs.YtdijecmpaoabbaaW.PrintLast Go.Proofs.YtdijecmpaoabbaaW.PrintMore
attribute [local go_sem] max2_int min2_int max_two min_two max_three min_three max_four min_four   -- for this text's walks alone
set_option linter.unusedVariables false
set_option linter.unusedSimpArgs false

attribute [local go_sem high] eqA25
/-! ### skifflaw7_ChooseTable: function 5 -/
mutual
def skifflaw7_ChooseTable.j0 : Nat → Int → Int → Int → ByteArray → Int → Int → Int → Int → Int → Int → Int → Int → Option (Bool)
 | 0, _, _, _, _, _, _, _, _, _, _, _, _ => none
 | k + 1, x0, x7, x8, x9, x345000, x345001, x345002, x345003, x347000, x347001, x347002, x347003 => if (Go.bits .and .i64 x0 2) = 2 then (skifflaw7_ChooseTable.j1 k x0 x7 x8 x9 x345000 x345001 x345002 x345003 x347000 x347001 x347002 (Go.bits .xor .i64 x347003 1)) else (skifflaw7_ChooseTable.j1 k x0 x7 x8 x9 x345000 x345001 x345002 x345003 x347000 x347001 x347002 x347003)
def skifflaw7_ChooseTable.j1 : Nat → Int → Int → Int → ByteArray → Int → Int → Int → Int → Int → Int → Int → Int → Option (Bool)
 | 0, _, _, _, _, _, _, _, _, _, _, _, _ => none
 | k + 1, x0, x7, x8, x9, x345000, x345001, x345002, x345003, x347000, x347001, x347002, x347003 => (skiffref1_PutEntry.f x345000 x345001 x345002 x345003).bind fun bt347 => ((skiffref1_PutEntry.f x347000 x347001 x347002 x347003).bind fun bt349 => (if 24 ≤ 96 then (if 96 ≤ (x9.size : Int) then (if bt347.1.size + (x9.extract 24 96).size ≤ 9223372036854775807 then (if (bt347.1 ++ (x9.extract 24 96)).size + bt349.1.size ≤ 9223372036854775807 then (if 120 ≤ (x9.size : Int) then (if ((bt347.1 ++ (x9.extract 24 96)) ++ bt349.1).size + (x9.extract 120 x9.size).size ≤ 9223372036854775807 then ((choose_Active.f (((bt347.1 ++ (x9.extract 24 96)) ++ bt349.1) ++ (x9.extract 120 x9.size))).bind fun bt351 => ((choose_Other.f (((bt347.1 ++ (x9.extract 24 96)) ++ bt349.1) ++ (x9.extract 120 x9.size))).bind fun bt358 => (if (Go.bits .and .i64 x0 2) = 2 then (skifflaw7_ChooseTable.j2 k x0 bt351.2.2.2.2.2 bt358.1 bt358.2 0 true x345000 x345001 x345002 x345003 bt351.1 bt351.2.1 bt351.2.2.1 bt351.2.2.2.1 bt351.2.2.2.2.1 96 x347000 x347001 x347002 x347003) else (if (Go.bits .and .i64 x0 1) = 0 then (skifflaw7_ChooseTable.j2 k x0 bt351.2.2.2.2.2 bt358.1 bt358.2 0 (decide (x7 > x8)) x345000 x345001 x345002 x345003 bt351.1 bt351.2.1 bt351.2.2.1 bt351.2.2.2.1 bt351.2.2.2.2.1 96 x347000 x347001 x347002 x347003) else (skifflaw7_ChooseTable.j2 k x0 bt351.2.2.2.2.2 bt358.1 bt358.2 0 false x345000 x345001 x345002 x345003 bt351.1 bt351.2.1 bt351.2.2.1 bt351.2.2.2.1 bt351.2.2.2.2.1 96 x347000 x347001 x347002 x347003))))) else (none)) else (none)) else (none)) else (none)) else (none)) else (none)))
def skifflaw7_ChooseTable.j2 : Nat → Int → Int → Int → Int → Int → Bool → Int → Int → Int → Int → Int → Int → Int → Int → Int → Int → Int → Int → Int → Int → Option (Bool)
 | 0, _, _, _, _, _, _, _, _, _, _, _, _, _, _, _, _, _, _, _, _ => none
 | k + 1, x0, x17, x18, x19, x21, x104, x345000, x345001, x345002, x345003, x358000, x358001, x358002, x358003, x358004, x361000, x361001, x361002, x361003, x361004 => if x104 = true then (skifflaw7_ChooseTable.j3 k x0 x17 x18 x19 1 x358000 x358001 x358002 x358003 x358004 0 x345000 x345001 x345002 x345003) else (skifflaw7_ChooseTable.j3 k x0 x17 x18 x19 x21 x358000 x358001 x358002 x358003 x358004 x361000 x361001 x361002 x361003 x361004)
def skifflaw7_ChooseTable.j3 : Nat → Int → Int → Int → Int → Int → Int → Int → Int → Int → Int → Int → Int → Int → Int → Int → Option (Bool)
 | 0, _, _, _, _, _, _, _, _, _, _, _, _, _, _, _ => none
 | k + 1, x0, x17, x18, x19, x21, x358000, x358001, x358002, x358003, x358004, x361000, x361001, x361002, x361003, x361004 => if (Go.bits .and .i64 x0 3) = 3 then ((skifflaw0_Num.f x17).bind fun t361 => (if t361 = 701 then (if (x358000 == 0 && ((x358001 == 0 && (x358002 == 0 && (x358003 == 0 && (x358004 == 0)))))) = true then (if x18 = 0 then ((skifflaw0_Num.f x19).bind fun t362 => (some (t362 == 0))) else (none)) else (none)) else (none))) else ((skifflaw0_Num.f x17).bind fun t363 => (if t363 = 0 then (if (x358000 == x361000 && ((x358001 == x361001 && (x358002 == x361002 && (x358003 == x361003 && (x358004 == x361004)))))) = true then (if x18 = x21 then ((skifflaw0_Num.f x19).bind fun t364 => (some (t364 == 0))) else (none)) else (none)) else (none)))
end
def skifflaw7_ChooseTable.f (k : Nat) (a0 : Int) (a1 : Int) (a2 : Int) : Option (Bool) := (skifflaw7_awake.f k).bind fun t341 => (if t341 = true then ((skiffref1_Blank.f).bind fun t342 => (if 0 ≤ 192 then (if 192 ≤ (t342.size : Int) then (if (t342.extract 0 192).size + 5 ≤ 9223372036854775807 then (if 197 ≤ 480 then (if 480 ≤ (t342.size : Int) then (if ((t342.extract 0 192) ++ (⟨#[102, 105, 114, 115, 116]⟩ : ByteArray)).size + (t342.extract 197 480).size ≤ 9223372036854775807 then (if (((t342.extract 0 192) ++ (⟨#[102, 105, 114, 115, 116]⟩ : ByteArray)) ++ (t342.extract 197 480)).size + 6 ≤ 9223372036854775807 then (if 486 ≤ (t342.size : Int) then (if ((((t342.extract 0 192) ++ (⟨#[102, 105, 114, 115, 116]⟩ : ByteArray)) ++ (t342.extract 197 480)) ++ (⟨#[115, 101, 99, 111, 110, 100]⟩ : ByteArray)).size + (t342.extract 486 t342.size).size ≤ 9223372036854775807 then ((skiffref1_Crc.f (⟨#[102, 105, 114, 115, 116]⟩ : ByteArray)).bind fun t343 => ((skiffref1_Crc.f (⟨#[115, 101, 99, 111, 110, 100]⟩ : ByteArray)).bind fun t345 => (if (Go.bits .and .i64 a0 1) = 1 then (skifflaw7_ChooseTable.j0 k a0 (wrap64 (1 + (Go.bits .and .i64 a1 7))) (wrap64 (1 + (Go.bits .and .i64 a2 7))) (((((t342.extract 0 192) ++ (⟨#[102, 105, 114, 115, 116]⟩ : ByteArray)) ++ (t342.extract 197 480)) ++ (⟨#[115, 101, 99, 111, 110, 100]⟩ : ByteArray)) ++ (t342.extract 486 t342.size)) (wrap64 (1 + (Go.bits .and .i64 a1 7))) 0 5 (Go.bits .xor .i64 t343 1) (wrap64 (1 + (Go.bits .and .i64 a2 7))) 1 6 t345) else (skifflaw7_ChooseTable.j0 k a0 (wrap64 (1 + (Go.bits .and .i64 a1 7))) (wrap64 (1 + (Go.bits .and .i64 a2 7))) (((((t342.extract 0 192) ++ (⟨#[102, 105, 114, 115, 116]⟩ : ByteArray)) ++ (t342.extract 197 480)) ++ (⟨#[115, 101, 99, 111, 110, 100]⟩ : ByteArray)) ++ (t342.extract 486 t342.size)) (wrap64 (1 + (Go.bits .and .i64 a1 7))) 0 5 t343 (wrap64 (1 + (Go.bits .and .i64 a2 7))) 1 6 t345)))) else (none)) else (none)) else (none)) else (none)) else (none)) else (none)) else (none)) else (none)) else (none))) else (none))
theorem blank_768 {t : ByteArray} (h : skiffref1_Blank.f = some t) : t.size = 768 := by
 obtain rfl : Skiff.mk Skiff.flash0 = t := Option.some.inj h
 rw [Skiff.mk_size, Skiff.flash0_length]
set_option maxHeartbeats 80000000 in
set_option maxRecDepth 100000 in
theorem skifflaw7_ChooseTable.calls (k : Nat) (a0 : Int) (a1 : Int) (a2 : Int) (r : Bool) (w : World) (h : skifflaw7_ChooseTable.f k a0 a1 a2 = some r) :
  Calls Try.prog 5 #[.int .i64 a0, .int .i64 a1, .int .i64 a2] w fun e w' => e = .returned (.bool r) ∧ Below w.heap.size w w' := by
 have hu23 := Try.underlying23
 have hu25 := Try.underlying25
 have HB := Aside0.mk (Below.refl w.heap.size w)
 have H : ((skifflaw7_awake.f k).bind fun t341 => (if t341 = true then ((skiffref1_Blank.f).bind fun t342 => (if 0 ≤ 192 then (if 192 ≤ (t342.size : Int) then (if (t342.extract 0 192).size + 5 ≤ 9223372036854775807 then (if 197 ≤ 480 then (if 480 ≤ (t342.size : Int) then (if ((t342.extract 0 192) ++ (⟨#[102, 105, 114, 115, 116]⟩ : ByteArray)).size + (t342.extract 197 480).size ≤ 9223372036854775807 then (if (((t342.extract 0 192) ++ (⟨#[102, 105, 114, 115, 116]⟩ : ByteArray)) ++ (t342.extract 197 480)).size + 6 ≤ 9223372036854775807 then (if 486 ≤ (t342.size : Int) then (if ((((t342.extract 0 192) ++ (⟨#[102, 105, 114, 115, 116]⟩ : ByteArray)) ++ (t342.extract 197 480)) ++ (⟨#[115, 101, 99, 111, 110, 100]⟩ : ByteArray)).size + (t342.extract 486 t342.size).size ≤ 9223372036854775807 then ((skiffref1_Crc.f (⟨#[102, 105, 114, 115, 116]⟩ : ByteArray)).bind fun t343 => ((skiffref1_Crc.f (⟨#[115, 101, 99, 111, 110, 100]⟩ : ByteArray)).bind fun t345 => (if (Go.bits .and .i64 a0 1) = 1 then (skifflaw7_ChooseTable.j0 k a0 (wrap64 (1 + (Go.bits .and .i64 a1 7))) (wrap64 (1 + (Go.bits .and .i64 a2 7))) (((((t342.extract 0 192) ++ (⟨#[102, 105, 114, 115, 116]⟩ : ByteArray)) ++ (t342.extract 197 480)) ++ (⟨#[115, 101, 99, 111, 110, 100]⟩ : ByteArray)) ++ (t342.extract 486 t342.size)) (wrap64 (1 + (Go.bits .and .i64 a1 7))) 0 5 (Go.bits .xor .i64 t343 1) (wrap64 (1 + (Go.bits .and .i64 a2 7))) 1 6 t345) else (skifflaw7_ChooseTable.j0 k a0 (wrap64 (1 + (Go.bits .and .i64 a1 7))) (wrap64 (1 + (Go.bits .and .i64 a2 7))) (((((t342.extract 0 192) ++ (⟨#[102, 105, 114, 115, 116]⟩ : ByteArray)) ++ (t342.extract 197 480)) ++ (⟨#[115, 101, 99, 111, 110, 100]⟩ : ByteArray)) ++ (t342.extract 486 t342.size)) (wrap64 (1 + (Go.bits .and .i64 a1 7))) 0 5 t343 (wrap64 (1 + (Go.bits .and .i64 a2 7))) 1 6 t345)))) else (none)) else (none)) else (none)) else (none)) else (none)) else (none)) else (none)) else (none)) else (none))) else (none))) = some r := h
 clear h
 replace H := Option.bind_eq_some_iff.mp H
 obtain ⟨t341, A40, H⟩ := H
 replace H : (if t341 = true then ((skiffref1_Blank.f).bind fun t342 => (if 0 ≤ 192 then (if 192 ≤ (t342.size : Int) then (if (t342.extract 0 192).size + 5 ≤ 9223372036854775807 then (if 197 ≤ 480 then (if 480 ≤ (t342.size : Int) then (if ((t342.extract 0 192) ++ (⟨#[102, 105, 114, 115, 116]⟩ : ByteArray)).size + (t342.extract 197 480).size ≤ 9223372036854775807 then (if (((t342.extract 0 192) ++ (⟨#[102, 105, 114, 115, 116]⟩ : ByteArray)) ++ (t342.extract 197 480)).size + 6 ≤ 9223372036854775807 then (if 486 ≤ (t342.size : Int) then (if ((((t342.extract 0 192) ++ (⟨#[102, 105, 114, 115, 116]⟩ : ByteArray)) ++ (t342.extract 197 480)) ++ (⟨#[115, 101, 99, 111, 110, 100]⟩ : ByteArray)).size + (t342.extract 486 t342.size).size ≤ 9223372036854775807 then ((skiffref1_Crc.f (⟨#[102, 105, 114, 115, 116]⟩ : ByteArray)).bind fun t343 => ((skiffref1_Crc.f (⟨#[115, 101, 99, 111, 110, 100]⟩ : ByteArray)).bind fun t345 => (if (Go.bits .and .i64 a0 1) = 1 then (skifflaw7_ChooseTable.j0 k a0 (wrap64 (1 + (Go.bits .and .i64 a1 7))) (wrap64 (1 + (Go.bits .and .i64 a2 7))) (((((t342.extract 0 192) ++ (⟨#[102, 105, 114, 115, 116]⟩ : ByteArray)) ++ (t342.extract 197 480)) ++ (⟨#[115, 101, 99, 111, 110, 100]⟩ : ByteArray)) ++ (t342.extract 486 t342.size)) (wrap64 (1 + (Go.bits .and .i64 a1 7))) 0 5 (Go.bits .xor .i64 t343 1) (wrap64 (1 + (Go.bits .and .i64 a2 7))) 1 6 t345) else (skifflaw7_ChooseTable.j0 k a0 (wrap64 (1 + (Go.bits .and .i64 a1 7))) (wrap64 (1 + (Go.bits .and .i64 a2 7))) (((((t342.extract 0 192) ++ (⟨#[102, 105, 114, 115, 116]⟩ : ByteArray)) ++ (t342.extract 197 480)) ++ (⟨#[115, 101, 99, 111, 110, 100]⟩ : ByteArray)) ++ (t342.extract 486 t342.size)) (wrap64 (1 + (Go.bits .and .i64 a1 7))) 0 5 t343 (wrap64 (1 + (Go.bits .and .i64 a2 7))) 1 6 t345)))) else (none)) else (none)) else (none)) else (none)) else (none)) else (none)) else (none)) else (none)) else (none))) else (none)) = some r := H
 have A4 := Aside0.mk A40
 clear A40
 by_cases c5 : t341 = true
 case neg =>
  replace c5 := Bool.eq_false_iff.mpr c5
  subst c5
  have H1 : (none) = some r := by rw [if_neg (show ¬ (false = true) by decide)] at H; exact H
  clear H; have H := H1; clear H1
  exact absurd H (by simp)
 subst c5
 have H1 : ((skiffref1_Blank.f).bind fun t342 => (if 0 ≤ 192 then (if 192 ≤ (t342.size : Int) then (if (t342.extract 0 192).size + 5 ≤ 9223372036854775807 then (if 197 ≤ 480 then (if 480 ≤ (t342.size : Int) then (if ((t342.extract 0 192) ++ (⟨#[102, 105, 114, 115, 116]⟩ : ByteArray)).size + (t342.extract 197 480).size ≤ 9223372036854775807 then (if (((t342.extract 0 192) ++ (⟨#[102, 105, 114, 115, 116]⟩ : ByteArray)) ++ (t342.extract 197 480)).size + 6 ≤ 9223372036854775807 then (if 486 ≤ (t342.size : Int) then (if ((((t342.extract 0 192) ++ (⟨#[102, 105, 114, 115, 116]⟩ : ByteArray)) ++ (t342.extract 197 480)) ++ (⟨#[115, 101, 99, 111, 110, 100]⟩ : ByteArray)).size + (t342.extract 486 t342.size).size ≤ 9223372036854775807 then ((skiffref1_Crc.f (⟨#[102, 105, 114, 115, 116]⟩ : ByteArray)).bind fun t343 => ((skiffref1_Crc.f (⟨#[115, 101, 99, 111, 110, 100]⟩ : ByteArray)).bind fun t345 => (if (Go.bits .and .i64 a0 1) = 1 then (skifflaw7_ChooseTable.j0 k a0 (wrap64 (1 + (Go.bits .and .i64 a1 7))) (wrap64 (1 + (Go.bits .and .i64 a2 7))) (((((t342.extract 0 192) ++ (⟨#[102, 105, 114, 115, 116]⟩ : ByteArray)) ++ (t342.extract 197 480)) ++ (⟨#[115, 101, 99, 111, 110, 100]⟩ : ByteArray)) ++ (t342.extract 486 t342.size)) (wrap64 (1 + (Go.bits .and .i64 a1 7))) 0 5 (Go.bits .xor .i64 t343 1) (wrap64 (1 + (Go.bits .and .i64 a2 7))) 1 6 t345) else (skifflaw7_ChooseTable.j0 k a0 (wrap64 (1 + (Go.bits .and .i64 a1 7))) (wrap64 (1 + (Go.bits .and .i64 a2 7))) (((((t342.extract 0 192) ++ (⟨#[102, 105, 114, 115, 116]⟩ : ByteArray)) ++ (t342.extract 197 480)) ++ (⟨#[115, 101, 99, 111, 110, 100]⟩ : ByteArray)) ++ (t342.extract 486 t342.size)) (wrap64 (1 + (Go.bits .and .i64 a1 7))) 0 5 t343 (wrap64 (1 + (Go.bits .and .i64 a2 7))) 1 6 t345)))) else (none)) else (none)) else (none)) else (none)) else (none)) else (none)) else (none)) else (none)) else (none))) = some r := by rw [if_pos rfl] at H; exact H
 clear H; have H := H1; clear H1
 replace H := Option.bind_eq_some_iff.mp H
 obtain ⟨t342, A60, H⟩ := H
 replace H : (if 0 ≤ 192 then (if 192 ≤ (t342.size : Int) then (if (t342.extract 0 192).size + 5 ≤ 9223372036854775807 then (if 197 ≤ 480 then (if 480 ≤ (t342.size : Int) then (if ((t342.extract 0 192) ++ (⟨#[102, 105, 114, 115, 116]⟩ : ByteArray)).size + (t342.extract 197 480).size ≤ 9223372036854775807 then (if (((t342.extract 0 192) ++ (⟨#[102, 105, 114, 115, 116]⟩ : ByteArray)) ++ (t342.extract 197 480)).size + 6 ≤ 9223372036854775807 then (if 486 ≤ (t342.size : Int) then (if ((((t342.extract 0 192) ++ (⟨#[102, 105, 114, 115, 116]⟩ : ByteArray)) ++ (t342.extract 197 480)) ++ (⟨#[115, 101, 99, 111, 110, 100]⟩ : ByteArray)).size + (t342.extract 486 t342.size).size ≤ 9223372036854775807 then ((skiffref1_Crc.f (⟨#[102, 105, 114, 115, 116]⟩ : ByteArray)).bind fun t343 => ((skiffref1_Crc.f (⟨#[115, 101, 99, 111, 110, 100]⟩ : ByteArray)).bind fun t345 => (if (Go.bits .and .i64 a0 1) = 1 then (skifflaw7_ChooseTable.j0 k a0 (wrap64 (1 + (Go.bits .and .i64 a1 7))) (wrap64 (1 + (Go.bits .and .i64 a2 7))) (((((t342.extract 0 192) ++ (⟨#[102, 105, 114, 115, 116]⟩ : ByteArray)) ++ (t342.extract 197 480)) ++ (⟨#[115, 101, 99, 111, 110, 100]⟩ : ByteArray)) ++ (t342.extract 486 t342.size)) (wrap64 (1 + (Go.bits .and .i64 a1 7))) 0 5 (Go.bits .xor .i64 t343 1) (wrap64 (1 + (Go.bits .and .i64 a2 7))) 1 6 t345) else (skifflaw7_ChooseTable.j0 k a0 (wrap64 (1 + (Go.bits .and .i64 a1 7))) (wrap64 (1 + (Go.bits .and .i64 a2 7))) (((((t342.extract 0 192) ++ (⟨#[102, 105, 114, 115, 116]⟩ : ByteArray)) ++ (t342.extract 197 480)) ++ (⟨#[115, 101, 99, 111, 110, 100]⟩ : ByteArray)) ++ (t342.extract 486 t342.size)) (wrap64 (1 + (Go.bits .and .i64 a1 7))) 0 5 t343 (wrap64 (1 + (Go.bits .and .i64 a2 7))) 1 6 t345)))) else (none)) else (none)) else (none)) else (none)) else (none)) else (none)) else (none)) else (none)) else (none)) = some r := H
 have A6 := Aside0.mk A60
 clear A60
 have hts := blank_768 A6.out
 have hm1 : min 192 t342.size = 192 := by rw [hts]; rfl
 have hm2 : min 480 t342.size = 480 := by rw [hts]; rfl
 have hm3 : t342.size - 486 = 282 := by rw [hts]
 have hX0 : ((((((t342.extract 0 192) ++ (⟨#[102, 105, 114, 115, 116]⟩ : ByteArray)) ++ (t342.extract 197 480)) ++ (⟨#[115, 101, 99, 111, 110, 100]⟩ : ByteArray)) ++ (t342.extract 486 t342.size))).size = 768 := by simp only [ByteArray.size_append, ByteArray.size_extract, hts]; rfl
 have HX0 := Aside0.mk hX0
 clear hts hX0
 by_cases c7 : 0 ≤ 192
 case neg =>
  rw [if_neg c7] at H
  exact absurd H (by simp)
 rw [if_pos c7] at H
 have c7b0 := eq_true c7
 have c7b1 : decide (0 ≤ 192) = true := decide_eq_true c7
 clear c7
 by_cases c8 : 192 ≤ (t342.size : Int)
 case neg =>
  rw [if_neg c8] at H
  exact absurd H (by simp)
 rw [if_pos c8] at H
 have c8b0 := eq_true c8
 have c8b1 : decide (192 ≤ (t342.size : Int)) = true := decide_eq_true c8
 clear c8
 by_cases c9 : (t342.extract 0 192).size + 5 ≤ 9223372036854775807
 case neg =>
  rw [if_neg c9] at H
  exact absurd H (by simp)
 rw [if_pos c9] at H
 have c9b0 := eq_true c9
 have c9b1 : decide ((t342.extract 0 192).size + 5 ≤ 9223372036854775807) = true := decide_eq_true c9
 try have c9b2 : (9223372036854775807 < (t342.extract 0 192).size + 5) = False := eq_false (Nat.not_lt.2 c9)
 by_cases c10 : 197 ≤ 480
 case neg =>
  rw [if_neg c10] at H
  exact absurd H (by simp)
 rw [if_pos c10] at H
 have c10b0 := eq_true c10
 have c10b1 : decide (197 ≤ 480) = true := decide_eq_true c10
 clear c10
 by_cases c11 : 480 ≤ (t342.size : Int)
 case neg =>
  rw [if_neg c11] at H
  exact absurd H (by simp)
 rw [if_pos c11] at H
 have c11b0 := eq_true c11
 have c11b1 : decide (480 ≤ (t342.size : Int)) = true := decide_eq_true c11
 clear c11
 by_cases c12 : ((t342.extract 0 192) ++ (⟨#[102, 105, 114, 115, 116]⟩ : ByteArray)).size + (t342.extract 197 480).size ≤ 9223372036854775807
 case neg =>
  rw [if_neg c12] at H
  exact absurd H (by simp)
 rw [if_pos c12] at H
 have c12b0 := eq_true c12
 have c12b1 : decide (((t342.extract 0 192) ++ (⟨#[102, 105, 114, 115, 116]⟩ : ByteArray)).size + (t342.extract 197 480).size ≤ 9223372036854775807) = true := decide_eq_true c12
 try have c12b2 : (9223372036854775807 < ((t342.extract 0 192) ++ (⟨#[102, 105, 114, 115, 116]⟩ : ByteArray)).size + (t342.extract 197 480).size) = False := eq_false (Nat.not_lt.2 c12)
 by_cases c13 : (((t342.extract 0 192) ++ (⟨#[102, 105, 114, 115, 116]⟩ : ByteArray)) ++ (t342.extract 197 480)).size + 6 ≤ 9223372036854775807
 case neg =>
  rw [if_neg c13] at H
  exact absurd H (by simp)
 rw [if_pos c13] at H
 have c13b0 := eq_true c13
 have c13b1 : decide ((((t342.extract 0 192) ++ (⟨#[102, 105, 114, 115, 116]⟩ : ByteArray)) ++ (t342.extract 197 480)).size + 6 ≤ 9223372036854775807) = true := decide_eq_true c13
 try have c13b2 : (9223372036854775807 < (((t342.extract 0 192) ++ (⟨#[102, 105, 114, 115, 116]⟩ : ByteArray)) ++ (t342.extract 197 480)).size + 6) = False := eq_false (Nat.not_lt.2 c13)
 by_cases c14 : 486 ≤ (t342.size : Int)
 case neg =>
  rw [if_neg c14] at H
  exact absurd H (by simp)
 rw [if_pos c14] at H
 have c14b0 := eq_true c14
 have c14b1 : decide (486 ≤ (t342.size : Int)) = true := decide_eq_true c14
 clear c14
 by_cases c15 : ((((t342.extract 0 192) ++ (⟨#[102, 105, 114, 115, 116]⟩ : ByteArray)) ++ (t342.extract 197 480)) ++ (⟨#[115, 101, 99, 111, 110, 100]⟩ : ByteArray)).size + (t342.extract 486 t342.size).size ≤ 9223372036854775807
 case neg =>
  rw [if_neg c15] at H
  exact absurd H (by simp)
 rw [if_pos c15] at H
 have c15b0 := eq_true c15
 have c15b1 : decide (((((t342.extract 0 192) ++ (⟨#[102, 105, 114, 115, 116]⟩ : ByteArray)) ++ (t342.extract 197 480)) ++ (⟨#[115, 101, 99, 111, 110, 100]⟩ : ByteArray)).size + (t342.extract 486 t342.size).size ≤ 9223372036854775807) = true := decide_eq_true c15
 try have c15b2 : (9223372036854775807 < ((((t342.extract 0 192) ++ (⟨#[102, 105, 114, 115, 116]⟩ : ByteArray)) ++ (t342.extract 197 480)) ++ (⟨#[115, 101, 99, 111, 110, 100]⟩ : ByteArray)).size + (t342.extract 486 t342.size).size) = False := eq_false (Nat.not_lt.2 c15)
 replace H := Option.bind_eq_some_iff.mp H
 obtain ⟨t343, A160, H⟩ := H
 replace H : ((skiffref1_Crc.f (⟨#[115, 101, 99, 111, 110, 100]⟩ : ByteArray)).bind fun t345 => (if (Go.bits .and .i64 a0 1) = 1 then (skifflaw7_ChooseTable.j0 k a0 (wrap64 (1 + (Go.bits .and .i64 a1 7))) (wrap64 (1 + (Go.bits .and .i64 a2 7))) (((((t342.extract 0 192) ++ (⟨#[102, 105, 114, 115, 116]⟩ : ByteArray)) ++ (t342.extract 197 480)) ++ (⟨#[115, 101, 99, 111, 110, 100]⟩ : ByteArray)) ++ (t342.extract 486 t342.size)) (wrap64 (1 + (Go.bits .and .i64 a1 7))) 0 5 (Go.bits .xor .i64 t343 1) (wrap64 (1 + (Go.bits .and .i64 a2 7))) 1 6 t345) else (skifflaw7_ChooseTable.j0 k a0 (wrap64 (1 + (Go.bits .and .i64 a1 7))) (wrap64 (1 + (Go.bits .and .i64 a2 7))) (((((t342.extract 0 192) ++ (⟨#[102, 105, 114, 115, 116]⟩ : ByteArray)) ++ (t342.extract 197 480)) ++ (⟨#[115, 101, 99, 111, 110, 100]⟩ : ByteArray)) ++ (t342.extract 486 t342.size)) (wrap64 (1 + (Go.bits .and .i64 a1 7))) 0 5 t343 (wrap64 (1 + (Go.bits .and .i64 a2 7))) 1 6 t345))) = some r := H
 have A16 := Aside0.mk A160
 clear A160
 replace H := Option.bind_eq_some_iff.mp H
 obtain ⟨t345, A170, H⟩ := H
 replace H : (if (Go.bits .and .i64 a0 1) = 1 then (skifflaw7_ChooseTable.j0 k a0 (wrap64 (1 + (Go.bits .and .i64 a1 7))) (wrap64 (1 + (Go.bits .and .i64 a2 7))) (((((t342.extract 0 192) ++ (⟨#[102, 105, 114, 115, 116]⟩ : ByteArray)) ++ (t342.extract 197 480)) ++ (⟨#[115, 101, 99, 111, 110, 100]⟩ : ByteArray)) ++ (t342.extract 486 t342.size)) (wrap64 (1 + (Go.bits .and .i64 a1 7))) 0 5 (Go.bits .xor .i64 t343 1) (wrap64 (1 + (Go.bits .and .i64 a2 7))) 1 6 t345) else (skifflaw7_ChooseTable.j0 k a0 (wrap64 (1 + (Go.bits .and .i64 a1 7))) (wrap64 (1 + (Go.bits .and .i64 a2 7))) (((((t342.extract 0 192) ++ (⟨#[102, 105, 114, 115, 116]⟩ : ByteArray)) ++ (t342.extract 197 480)) ++ (⟨#[115, 101, 99, 111, 110, 100]⟩ : ByteArray)) ++ (t342.extract 486 t342.size)) (wrap64 (1 + (Go.bits .and .i64 a1 7))) 0 5 t343 (wrap64 (1 + (Go.bits .and .i64 a2 7))) 1 6 t345)) = some r := H
 have A17 := Aside0.mk A170
 clear A170
 have HC18 := Aside0.mk H
 clear H
 go_enter Try.func5, Try.ntmps5
 go_upto_if 49 with (first | (go_at_call 13; (with_reducible refine (skifflaw7_awake.calls k  true _ A4.out).mono ?_); rintro e w19 ⟨rfl, hb⟩; have n0_ := Aside0.mk (below_step (by repeat (first | (with_reducible first | exact HB.out | apply below_alloc | apply pw_below_drewN | apply below_drew1) | exact HB.out)) hb); clear HB; have HB := n0_; clear n0_; (try clear hb); (try clear hb2); (try clear hk); (try clear hi)) | (go_at_call 16; (with_reducible refine (skiffref1_Blank.calls  t342 _ A6.out).mono ?_); rintro e w20 ⟨rfl, hb⟩; have n0_ := Aside0.mk (below_step (by repeat (first | (with_reducible first | exact HB.out | apply below_alloc | apply pw_below_drewN | apply below_drew1) | exact HB.out)) hb); clear HB; have HB := n0_; clear n0_; (try clear hb); (try clear hb2); (try clear hk); (try clear hi)) | (go_at_call 17; (with_reducible refine (skiffref1_Crc.calls (⟨#[102, 105, 114, 115, 116]⟩ : ByteArray) t343 _ A16.out).mono ?_); rintro e w21 ⟨rfl, hb⟩; have n0_ := Aside0.mk (below_step (by repeat (first | (with_reducible first | exact HB.out | apply below_alloc | apply pw_below_drewN | apply below_drew1) | exact HB.out)) hb); clear HB; have HB := n0_; clear n0_; (try clear hb); (try clear hb2); (try clear hk); (try clear hi)) | ((with_reducible refine gate_dst (N := 10) rfl ?_); refine box_event ?hg (N := 10) ?hd (cs := #[.int .i64 0, .int .i64 0, .int .i64 0, .int .i64 0]) (t := 23) ?hr ?_; (case hd => rfl); (case hg => rfl); (case hr => first | (go_simp; done) | (go_simp; rfl)); intro gb344 hg w22 hbox hb; have n0_ := Aside0.mk (below_step (by repeat (first | (with_reducible first | exact HB.out | apply below_alloc | apply pw_below_drewN | apply below_drew1) | exact HB.out)) hb); have n1_ := Aside0.mk (hbox); have n2_ := Aside0.mk ((by rw [hg]; exact (below_size (by repeat (first | (with_reducible first | exact HB.out | apply below_alloc | apply pw_below_drewN | apply below_drew1) | exact HB.out))) : w.heap.size ≤ gb344)); have n3_ := Aside0.mk ((by rw [hg]; exact (below_size (by repeat (first | (with_reducible first | exact HB.out | apply below_alloc | apply pw_below_drewN | apply below_drew1) | exact HB.out))) : w.heap.size ≤ gb344)); clear HB; have HB := n0_; have BK344 := n1_; have GW344 := n2_; have GE344 := n3_; clear n0_ n1_ n2_ n3_; clear hb hbox hg; have hcz23_0 : w22.cell? ⟨gb344, 0, none⟩ = some (.int .i64 0) := (blk_cell BK344.out 0).trans rfl; have hcz23_1 : w22.cell? ⟨gb344, 1, none⟩ = some (.int .i64 0) := (blk_cell BK344.out 1).trans rfl; have hcz23_2 : w22.cell? ⟨gb344, 2, none⟩ = some (.int .i64 0) := (blk_cell BK344.out 2).trans rfl; have hcz23_3 : w22.cell? ⟨gb344, 3, none⟩ = some (.int .i64 0) := (blk_cell BK344.out 3).trans rfl; have hfz23_0 := blk_frozen BK344.out 0; have hfz23_1 := blk_frozen BK344.out 1; have hfz23_2 := blk_frozen BK344.out 2; have hfz23_3 := blk_frozen BK344.out 3) | (go_at_call 17; (with_reducible refine (skiffref1_Crc.calls (⟨#[115, 101, 99, 111, 110, 100]⟩ : ByteArray) t345 _ A17.out).mono ?_); rintro e w24 ⟨rfl, hb⟩; have n0_ := Aside0.mk (blk_below (g := gb344) (o := .cells #[.int .i64 (wrap64 (1 + (Go.bits .and .i64 a1 7))), .int .i64 0, .int .i64 5, .int .i64 t343] 23 (0, 0)) (by (with_reducible repeat (first | refine blk_drewN ?_ _ | refine blk_drew ?_ | refine blk_alloc ?_ _)); refine blk_put (cs := #[.int .i64 (wrap64 (1 + (Go.bits .and .i64 a1 7))), .int .i64 0, .int .i64 5, .int .i64 0]) ?_ 3 _ rfl; (with_reducible repeat (first | refine blk_drewN ?_ _ | refine blk_drew ?_ | refine blk_alloc ?_ _)); refine blk_put (cs := #[.int .i64 (wrap64 (1 + (Go.bits .and .i64 a1 7))), .int .i64 0, .int .i64 0, .int .i64 0]) ?_ 2 _ rfl; (with_reducible repeat (first | refine blk_drewN ?_ _ | refine blk_drew ?_ | refine blk_alloc ?_ _)); refine blk_put (cs := #[.int .i64 (wrap64 (1 + (Go.bits .and .i64 a1 7))), .int .i64 0, .int .i64 0, .int .i64 0]) ?_ 1 _ rfl; (with_reducible repeat (first | refine blk_drewN ?_ _ | refine blk_drew ?_ | refine blk_alloc ?_ _)); refine blk_put (cs := #[.int .i64 0, .int .i64 0, .int .i64 0, .int .i64 0]) ?_ 0 _ rfl; (with_reducible repeat (first | refine blk_drewN ?_ _ | refine blk_drew ?_ | refine blk_alloc ?_ _)); exact BK344.out) hb); have n1_ := Aside0.mk (below_step (by repeat (first | (with_reducible first | exact HB.out | apply below_alloc | apply pw_below_drewN | apply below_drew1 | refine below_set ?_ GE344.out) | exact HB.out)) hb); clear BK344; clear HB; have BK344 := n0_; have HB := n1_; clear n0_ n1_; (try clear hb); (try clear hb2); (try clear hk); (try clear hi)) | ((with_reducible refine gate_dst (N := 11) rfl ?_); refine box_event ?hg (N := 11) ?hd (cs := #[.int .i64 0, .int .i64 0, .int .i64 0, .int .i64 0]) (t := 23) ?hr ?_; (case hd => rfl); (case hg => rfl); (case hr => first | (go_simp; done) | (go_simp; rfl)); intro gb346 hg w25 hbox hb; have n0_ := Aside0.mk (blk_below (g := gb344) (o := .cells #[.int .i64 (wrap64 (1 + (Go.bits .and .i64 a1 7))), .int .i64 0, .int .i64 5, .int .i64 t343] 23 (0, 0)) (by (with_reducible repeat (first | refine blk_drewN ?_ _ | refine blk_drew ?_ | refine blk_alloc ?_ _)); exact BK344.out) hb); have n1_ := Aside0.mk (below_step (by repeat (first | (with_reducible first | exact HB.out | apply below_alloc | apply pw_below_drewN | apply below_drew1 | refine below_set ?_ GE344.out) | exact HB.out)) hb); have n2_ := Aside0.mk (hbox); have n3_ := Aside0.mk ((by rw [hg]; exact (below_size (by repeat (first | (with_reducible first | exact HB.out | apply below_alloc | apply pw_below_drewN | apply below_drew1 | refine below_set ?_ GE344.out) | exact HB.out))) : w.heap.size ≤ gb346)); have n4_ := Aside0.mk ((by rw [hg]; exact (below_size (by repeat (first | (with_reducible first | exact HB.out | apply below_alloc | apply pw_below_drewN | apply below_drew1 | refine below_set ?_ GE344.out) | exact HB.out))) : w.heap.size ≤ gb346)); have n5_ := Aside0.mk ((by rw [hg]; exact Nat.ne_of_lt (blk_lt (g := gb344) (o := .cells #[.int .i64 (wrap64 (1 + (Go.bits .and .i64 a1 7))), .int .i64 0, .int .i64 5, .int .i64 t343] 23 (0, 0)) (by (with_reducible repeat (first | refine blk_drewN ?_ _ | refine blk_drew ?_ | refine blk_alloc ?_ _)); exact BK344.out)) : gb344 ≠ gb346)); have n6_ := Aside0.mk ((by rw [hg]; exact Nat.ne_of_gt (blk_lt (g := gb344) (o := .cells #[.int .i64 (wrap64 (1 + (Go.bits .and .i64 a1 7))), .int .i64 0, .int .i64 5, .int .i64 t343] 23 (0, 0)) (by (with_reducible repeat (first | refine blk_drewN ?_ _ | refine blk_drew ?_ | refine blk_alloc ?_ _)); exact BK344.out)) : gb346 ≠ gb344)); clear BK344; clear HB; have BK344 := n0_; have HB := n1_; have BK346 := n2_; have GW346 := n3_; have GE346 := n4_; have NB344_346 := n5_; have NB346_344 := n6_; clear n0_ n1_ n2_ n3_ n4_ n5_ n6_; clear hb hbox hg; have hnb26 := NB346_344.out; have hnc26 := NB344_346.out; have hcz27_0 : w25.cell? ⟨gb346, 0, none⟩ = some (.int .i64 0) := (blk_cell BK346.out 0).trans rfl; have hcz27_1 : w25.cell? ⟨gb346, 1, none⟩ = some (.int .i64 0) := (blk_cell BK346.out 1).trans rfl; have hcz27_2 : w25.cell? ⟨gb346, 2, none⟩ = some (.int .i64 0) := (blk_cell BK346.out 2).trans rfl; have hcz27_3 : w25.cell? ⟨gb346, 3, none⟩ = some (.int .i64 0) := (blk_cell BK346.out 3).trans rfl; have hfz27_0 := blk_frozen BK346.out 0; have hfz27_1 := blk_frozen BK346.out 1; have hfz27_2 := blk_frozen BK346.out 2; have hfz27_3 := blk_frozen BK346.out 3))
 repeat (go_quiet (first | (go_at_call 13; (with_reducible refine (skifflaw7_awake.calls k  true _ A4.out).mono ?_); rintro e w19 ⟨rfl, hb⟩; have n0_ := Aside0.mk (below_step (by repeat (first | (with_reducible first | exact HB.out | apply below_alloc | apply pw_below_drewN | apply below_drew1) | exact HB.out)) hb); clear HB; have HB := n0_; clear n0_; (try clear hb); (try clear hb2); (try clear hk); (try clear hi)) | (go_at_call 16; (with_reducible refine (skiffref1_Blank.calls  t342 _ A6.out).mono ?_); rintro e w20 ⟨rfl, hb⟩; have n0_ := Aside0.mk (below_step (by repeat (first | (with_reducible first | exact HB.out | apply below_alloc | apply pw_below_drewN | apply below_drew1) | exact HB.out)) hb); clear HB; have HB := n0_; clear n0_; (try clear hb); (try clear hb2); (try clear hk); (try clear hi)) | (go_at_call 17; (with_reducible refine (skiffref1_Crc.calls (⟨#[102, 105, 114, 115, 116]⟩ : ByteArray) t343 _ A16.out).mono ?_); rintro e w21 ⟨rfl, hb⟩; have n0_ := Aside0.mk (below_step (by repeat (first | (with_reducible first | exact HB.out | apply below_alloc | apply pw_below_drewN | apply below_drew1) | exact HB.out)) hb); clear HB; have HB := n0_; clear n0_; (try clear hb); (try clear hb2); (try clear hk); (try clear hi)) | ((with_reducible refine gate_dst (N := 10) rfl ?_); refine box_event ?hg (N := 10) ?hd (cs := #[.int .i64 0, .int .i64 0, .int .i64 0, .int .i64 0]) (t := 23) ?hr ?_; (case hd => rfl); (case hg => rfl); (case hr => first | (go_simp; done) | (go_simp; rfl)); intro gb344 hg w22 hbox hb; have n0_ := Aside0.mk (below_step (by repeat (first | (with_reducible first | exact HB.out | apply below_alloc | apply pw_below_drewN | apply below_drew1) | exact HB.out)) hb); have n1_ := Aside0.mk (hbox); have n2_ := Aside0.mk ((by rw [hg]; exact (below_size (by repeat (first | (with_reducible first | exact HB.out | apply below_alloc | apply pw_below_drewN | apply below_drew1) | exact HB.out))) : w.heap.size ≤ gb344)); have n3_ := Aside0.mk ((by rw [hg]; exact (below_size (by repeat (first | (with_reducible first | exact HB.out | apply below_alloc | apply pw_below_drewN | apply below_drew1) | exact HB.out))) : w.heap.size ≤ gb344)); clear HB; have HB := n0_; have BK344 := n1_; have GW344 := n2_; have GE344 := n3_; clear n0_ n1_ n2_ n3_; clear hb hbox hg; have hcz23_0 : w22.cell? ⟨gb344, 0, none⟩ = some (.int .i64 0) := (blk_cell BK344.out 0).trans rfl; have hcz23_1 : w22.cell? ⟨gb344, 1, none⟩ = some (.int .i64 0) := (blk_cell BK344.out 1).trans rfl; have hcz23_2 : w22.cell? ⟨gb344, 2, none⟩ = some (.int .i64 0) := (blk_cell BK344.out 2).trans rfl; have hcz23_3 : w22.cell? ⟨gb344, 3, none⟩ = some (.int .i64 0) := (blk_cell BK344.out 3).trans rfl; have hfz23_0 := blk_frozen BK344.out 0; have hfz23_1 := blk_frozen BK344.out 1; have hfz23_2 := blk_frozen BK344.out 2; have hfz23_3 := blk_frozen BK344.out 3) | (go_at_call 17; (with_reducible refine (skiffref1_Crc.calls (⟨#[115, 101, 99, 111, 110, 100]⟩ : ByteArray) t345 _ A17.out).mono ?_); rintro e w24 ⟨rfl, hb⟩; have n0_ := Aside0.mk (blk_below (g := gb344) (o := .cells #[.int .i64 (wrap64 (1 + (Go.bits .and .i64 a1 7))), .int .i64 0, .int .i64 5, .int .i64 t343] 23 (0, 0)) (by (with_reducible repeat (first | refine blk_drewN ?_ _ | refine blk_drew ?_ | refine blk_alloc ?_ _)); refine blk_put (cs := #[.int .i64 (wrap64 (1 + (Go.bits .and .i64 a1 7))), .int .i64 0, .int .i64 5, .int .i64 0]) ?_ 3 _ rfl; (with_reducible repeat (first | refine blk_drewN ?_ _ | refine blk_drew ?_ | refine blk_alloc ?_ _)); refine blk_put (cs := #[.int .i64 (wrap64 (1 + (Go.bits .and .i64 a1 7))), .int .i64 0, .int .i64 0, .int .i64 0]) ?_ 2 _ rfl; (with_reducible repeat (first | refine blk_drewN ?_ _ | refine blk_drew ?_ | refine blk_alloc ?_ _)); refine blk_put (cs := #[.int .i64 (wrap64 (1 + (Go.bits .and .i64 a1 7))), .int .i64 0, .int .i64 0, .int .i64 0]) ?_ 1 _ rfl; (with_reducible repeat (first | refine blk_drewN ?_ _ | refine blk_drew ?_ | refine blk_alloc ?_ _)); refine blk_put (cs := #[.int .i64 0, .int .i64 0, .int .i64 0, .int .i64 0]) ?_ 0 _ rfl; (with_reducible repeat (first | refine blk_drewN ?_ _ | refine blk_drew ?_ | refine blk_alloc ?_ _)); exact BK344.out) hb); have n1_ := Aside0.mk (below_step (by repeat (first | (with_reducible first | exact HB.out | apply below_alloc | apply pw_below_drewN | apply below_drew1 | refine below_set ?_ GE344.out) | exact HB.out)) hb); clear BK344; clear HB; have BK344 := n0_; have HB := n1_; clear n0_ n1_; (try clear hb); (try clear hb2); (try clear hk); (try clear hi)) | ((with_reducible refine gate_dst (N := 11) rfl ?_); refine box_event ?hg (N := 11) ?hd (cs := #[.int .i64 0, .int .i64 0, .int .i64 0, .int .i64 0]) (t := 23) ?hr ?_; (case hd => rfl); (case hg => rfl); (case hr => first | (go_simp; done) | (go_simp; rfl)); intro gb346 hg w25 hbox hb; have n0_ := Aside0.mk (blk_below (g := gb344) (o := .cells #[.int .i64 (wrap64 (1 + (Go.bits .and .i64 a1 7))), .int .i64 0, .int .i64 5, .int .i64 t343] 23 (0, 0)) (by (with_reducible repeat (first | refine blk_drewN ?_ _ | refine blk_drew ?_ | refine blk_alloc ?_ _)); exact BK344.out) hb); have n1_ := Aside0.mk (below_step (by repeat (first | (with_reducible first | exact HB.out | apply below_alloc | apply pw_below_drewN | apply below_drew1 | refine below_set ?_ GE344.out) | exact HB.out)) hb); have n2_ := Aside0.mk (hbox); have n3_ := Aside0.mk ((by rw [hg]; exact (below_size (by repeat (first | (with_reducible first | exact HB.out | apply below_alloc | apply pw_below_drewN | apply below_drew1 | refine below_set ?_ GE344.out) | exact HB.out))) : w.heap.size ≤ gb346)); have n4_ := Aside0.mk ((by rw [hg]; exact (below_size (by repeat (first | (with_reducible first | exact HB.out | apply below_alloc | apply pw_below_drewN | apply below_drew1 | refine below_set ?_ GE344.out) | exact HB.out))) : w.heap.size ≤ gb346)); have n5_ := Aside0.mk ((by rw [hg]; exact Nat.ne_of_lt (blk_lt (g := gb344) (o := .cells #[.int .i64 (wrap64 (1 + (Go.bits .and .i64 a1 7))), .int .i64 0, .int .i64 5, .int .i64 t343] 23 (0, 0)) (by (with_reducible repeat (first | refine blk_drewN ?_ _ | refine blk_drew ?_ | refine blk_alloc ?_ _)); exact BK344.out)) : gb344 ≠ gb346)); have n6_ := Aside0.mk ((by rw [hg]; exact Nat.ne_of_gt (blk_lt (g := gb344) (o := .cells #[.int .i64 (wrap64 (1 + (Go.bits .and .i64 a1 7))), .int .i64 0, .int .i64 5, .int .i64 t343] 23 (0, 0)) (by (with_reducible repeat (first | refine blk_drewN ?_ _ | refine blk_drew ?_ | refine blk_alloc ?_ _)); exact BK344.out)) : gb346 ≠ gb344)); clear BK344; clear HB; have BK344 := n0_; have HB := n1_; have BK346 := n2_; have GW346 := n3_; have GE346 := n4_; have NB344_346 := n5_; have NB346_344 := n6_; clear n0_ n1_ n2_ n3_ n4_ n5_ n6_; clear hb hbox hg; have hnb26 := NB346_344.out; have hnc26 := NB344_346.out; have hcz27_0 : w25.cell? ⟨gb346, 0, none⟩ = some (.int .i64 0) := (blk_cell BK346.out 0).trans rfl; have hcz27_1 : w25.cell? ⟨gb346, 1, none⟩ = some (.int .i64 0) := (blk_cell BK346.out 1).trans rfl; have hcz27_2 : w25.cell? ⟨gb346, 2, none⟩ = some (.int .i64 0) := (blk_cell BK346.out 2).trans rfl; have hcz27_3 : w25.cell? ⟨gb346, 3, none⟩ = some (.int .i64 0) := (blk_cell BK346.out 3).trans rfl; have hfz27_0 := blk_frozen BK346.out 0; have hfz27_1 := blk_frozen BK346.out 1; have hfz27_2 := blk_frozen BK346.out 2; have hfz27_3 := blk_frozen BK346.out 3)); go_upto_if 49 with (first | (go_at_call 13; (with_reducible refine (skifflaw7_awake.calls k  true _ A4.out).mono ?_); rintro e w19 ⟨rfl, hb⟩; have n0_ := Aside0.mk (below_step (by repeat (first | (with_reducible first | exact HB.out | apply below_alloc | apply pw_below_drewN | apply below_drew1) | exact HB.out)) hb); clear HB; have HB := n0_; clear n0_; (try clear hb); (try clear hb2); (try clear hk); (try clear hi)) | (go_at_call 16; (with_reducible refine (skiffref1_Blank.calls  t342 _ A6.out).mono ?_); rintro e w20 ⟨rfl, hb⟩; have n0_ := Aside0.mk (below_step (by repeat (first | (with_reducible first | exact HB.out | apply below_alloc | apply pw_below_drewN | apply below_drew1) | exact HB.out)) hb); clear HB; have HB := n0_; clear n0_; (try clear hb); (try clear hb2); (try clear hk); (try clear hi)) | (go_at_call 17; (with_reducible refine (skiffref1_Crc.calls (⟨#[102, 105, 114, 115, 116]⟩ : ByteArray) t343 _ A16.out).mono ?_); rintro e w21 ⟨rfl, hb⟩; have n0_ := Aside0.mk (below_step (by repeat (first | (with_reducible first | exact HB.out | apply below_alloc | apply pw_below_drewN | apply below_drew1) | exact HB.out)) hb); clear HB; have HB := n0_; clear n0_; (try clear hb); (try clear hb2); (try clear hk); (try clear hi)) | ((with_reducible refine gate_dst (N := 10) rfl ?_); refine box_event ?hg (N := 10) ?hd (cs := #[.int .i64 0, .int .i64 0, .int .i64 0, .int .i64 0]) (t := 23) ?hr ?_; (case hd => rfl); (case hg => rfl); (case hr => first | (go_simp; done) | (go_simp; rfl)); intro gb344 hg w22 hbox hb; have n0_ := Aside0.mk (below_step (by repeat (first | (with_reducible first | exact HB.out | apply below_alloc | apply pw_below_drewN | apply below_drew1) | exact HB.out)) hb); have n1_ := Aside0.mk (hbox); have n2_ := Aside0.mk ((by rw [hg]; exact (below_size (by repeat (first | (with_reducible first | exact HB.out | apply below_alloc | apply pw_below_drewN | apply below_drew1) | exact HB.out))) : w.heap.size ≤ gb344)); have n3_ := Aside0.mk ((by rw [hg]; exact (below_size (by repeat (first | (with_reducible first | exact HB.out | apply below_alloc | apply pw_below_drewN | apply below_drew1) | exact HB.out))) : w.heap.size ≤ gb344)); clear HB; have HB := n0_; have BK344 := n1_; have GW344 := n2_; have GE344 := n3_; clear n0_ n1_ n2_ n3_; clear hb hbox hg; have hcz23_0 : w22.cell? ⟨gb344, 0, none⟩ = some (.int .i64 0) := (blk_cell BK344.out 0).trans rfl; have hcz23_1 : w22.cell? ⟨gb344, 1, none⟩ = some (.int .i64 0) := (blk_cell BK344.out 1).trans rfl; have hcz23_2 : w22.cell? ⟨gb344, 2, none⟩ = some (.int .i64 0) := (blk_cell BK344.out 2).trans rfl; have hcz23_3 : w22.cell? ⟨gb344, 3, none⟩ = some (.int .i64 0) := (blk_cell BK344.out 3).trans rfl; have hfz23_0 := blk_frozen BK344.out 0; have hfz23_1 := blk_frozen BK344.out 1; have hfz23_2 := blk_frozen BK344.out 2; have hfz23_3 := blk_frozen BK344.out 3) | (go_at_call 17; (with_reducible refine (skiffref1_Crc.calls (⟨#[115, 101, 99, 111, 110, 100]⟩ : ByteArray) t345 _ A17.out).mono ?_); rintro e w24 ⟨rfl, hb⟩; have n0_ := Aside0.mk (blk_below (g := gb344) (o := .cells #[.int .i64 (wrap64 (1 + (Go.bits .and .i64 a1 7))), .int .i64 0, .int .i64 5, .int .i64 t343] 23 (0, 0)) (by (with_reducible repeat (first | refine blk_drewN ?_ _ | refine blk_drew ?_ | refine blk_alloc ?_ _)); refine blk_put (cs := #[.int .i64 (wrap64 (1 + (Go.bits .and .i64 a1 7))), .int .i64 0, .int .i64 5, .int .i64 0]) ?_ 3 _ rfl; (with_reducible repeat (first | refine blk_drewN ?_ _ | refine blk_drew ?_ | refine blk_alloc ?_ _)); refine blk_put (cs := #[.int .i64 (wrap64 (1 + (Go.bits .and .i64 a1 7))), .int .i64 0, .int .i64 0, .int .i64 0]) ?_ 2 _ rfl; (with_reducible repeat (first | refine blk_drewN ?_ _ | refine blk_drew ?_ | refine blk_alloc ?_ _)); refine blk_put (cs := #[.int .i64 (wrap64 (1 + (Go.bits .and .i64 a1 7))), .int .i64 0, .int .i64 0, .int .i64 0]) ?_ 1 _ rfl; (with_reducible repeat (first | refine blk_drewN ?_ _ | refine blk_drew ?_ | refine blk_alloc ?_ _)); refine blk_put (cs := #[.int .i64 0, .int .i64 0, .int .i64 0, .int .i64 0]) ?_ 0 _ rfl; (with_reducible repeat (first | refine blk_drewN ?_ _ | refine blk_drew ?_ | refine blk_alloc ?_ _)); exact BK344.out) hb); have n1_ := Aside0.mk (below_step (by repeat (first | (with_reducible first | exact HB.out | apply below_alloc | apply pw_below_drewN | apply below_drew1 | refine below_set ?_ GE344.out) | exact HB.out)) hb); clear BK344; clear HB; have BK344 := n0_; have HB := n1_; clear n0_ n1_; (try clear hb); (try clear hb2); (try clear hk); (try clear hi)) | ((with_reducible refine gate_dst (N := 11) rfl ?_); refine box_event ?hg (N := 11) ?hd (cs := #[.int .i64 0, .int .i64 0, .int .i64 0, .int .i64 0]) (t := 23) ?hr ?_; (case hd => rfl); (case hg => rfl); (case hr => first | (go_simp; done) | (go_simp; rfl)); intro gb346 hg w25 hbox hb; have n0_ := Aside0.mk (blk_below (g := gb344) (o := .cells #[.int .i64 (wrap64 (1 + (Go.bits .and .i64 a1 7))), .int .i64 0, .int .i64 5, .int .i64 t343] 23 (0, 0)) (by (with_reducible repeat (first | refine blk_drewN ?_ _ | refine blk_drew ?_ | refine blk_alloc ?_ _)); exact BK344.out) hb); have n1_ := Aside0.mk (below_step (by repeat (first | (with_reducible first | exact HB.out | apply below_alloc | apply pw_below_drewN | apply below_drew1 | refine below_set ?_ GE344.out) | exact HB.out)) hb); have n2_ := Aside0.mk (hbox); have n3_ := Aside0.mk ((by rw [hg]; exact (below_size (by repeat (first | (with_reducible first | exact HB.out | apply below_alloc | apply pw_below_drewN | apply below_drew1 | refine below_set ?_ GE344.out) | exact HB.out))) : w.heap.size ≤ gb346)); have n4_ := Aside0.mk ((by rw [hg]; exact (below_size (by repeat (first | (with_reducible first | exact HB.out | apply below_alloc | apply pw_below_drewN | apply below_drew1 | refine below_set ?_ GE344.out) | exact HB.out))) : w.heap.size ≤ gb346)); have n5_ := Aside0.mk ((by rw [hg]; exact Nat.ne_of_lt (blk_lt (g := gb344) (o := .cells #[.int .i64 (wrap64 (1 + (Go.bits .and .i64 a1 7))), .int .i64 0, .int .i64 5, .int .i64 t343] 23 (0, 0)) (by (with_reducible repeat (first | refine blk_drewN ?_ _ | refine blk_drew ?_ | refine blk_alloc ?_ _)); exact BK344.out)) : gb344 ≠ gb346)); have n6_ := Aside0.mk ((by rw [hg]; exact Nat.ne_of_gt (blk_lt (g := gb344) (o := .cells #[.int .i64 (wrap64 (1 + (Go.bits .and .i64 a1 7))), .int .i64 0, .int .i64 5, .int .i64 t343] 23 (0, 0)) (by (with_reducible repeat (first | refine blk_drewN ?_ _ | refine blk_drew ?_ | refine blk_alloc ?_ _)); exact BK344.out)) : gb346 ≠ gb344)); clear BK344; clear HB; have BK344 := n0_; have HB := n1_; have BK346 := n2_; have GW346 := n3_; have GE346 := n4_; have NB344_346 := n5_; have NB346_344 := n6_; clear n0_ n1_ n2_ n3_ n4_ n5_ n6_; clear hb hbox hg; have hnb26 := NB346_344.out; have hnc26 := NB344_346.out; have hcz27_0 : w25.cell? ⟨gb346, 0, none⟩ = some (.int .i64 0) := (blk_cell BK346.out 0).trans rfl; have hcz27_1 : w25.cell? ⟨gb346, 1, none⟩ = some (.int .i64 0) := (blk_cell BK346.out 1).trans rfl; have hcz27_2 : w25.cell? ⟨gb346, 2, none⟩ = some (.int .i64 0) := (blk_cell BK346.out 2).trans rfl; have hcz27_3 : w25.cell? ⟨gb346, 3, none⟩ = some (.int .i64 0) := (blk_cell BK346.out 3).trans rfl; have hfz27_0 := blk_frozen BK346.out 0; have hfz27_1 := blk_frozen BK346.out 1; have hfz27_2 := blk_frozen BK346.out 2; have hfz27_3 := blk_frozen BK346.out 3)))
 (try simp only [Act.put, List.setIfInBounds_toArray, List.set_cons_zero, List.set_cons_succ])
 go_cut [] (fun wc => ∃ (kq : Nat) (x345003_17 : Int), Aside0 (skifflaw7_ChooseTable.j0 kq a0 (wrap64 (1 + (Go.bits .and .i64 a1 7))) (wrap64 (1 + (Go.bits .and .i64 a2 7))) (((((t342.extract 0 192) ++ (⟨#[102, 105, 114, 115, 116]⟩ : ByteArray)) ++ (t342.extract 197 480)) ++ (⟨#[115, 101, 99, 111, 110, 100]⟩ : ByteArray)) ++ (t342.extract 486 t342.size)) (wrap64 (1 + (Go.bits .and .i64 a1 7))) 0 5 x345003_17 (wrap64 (1 + (Go.bits .and .i64 a2 7))) 1 6 t345 = some r) ∧ Aside0 (kq ≤ k) ∧ Aside0 (wc.heap[gb344]? = some (.cells #[.int .i64 (wrap64 (1 + (Go.bits .and .i64 a1 7))), .int .i64 0, .int .i64 5, .int .i64 x345003_17] 23 (0, 0))) ∧ Aside0 (wc.heap[gb346]? = some (.cells #[.int .i64 (wrap64 (1 + (Go.bits .and .i64 a2 7))), .int .i64 1, .int .i64 6, .int .i64 t345] 23 (0, 0))) ∧ Aside0 (Below w.heap.size w wc))
 case first =>
  have H := HC18.out
  clear HC18
  by_cases c28 : (Go.bits .and .i64 a0 1) = 1
  case neg =>
   rw [if_neg c28] at H
   have c28b0 : ((Go.bits .and .i64 a0 1) == 1) = false := beq_eq_false_iff_ne.mpr c28
   have c28b1 : ((Go.bits .and .i64 a0 1) != 1) = true := bne_iff_ne.mpr c28
   (first | rw [c28b0] | rw [c28b1] | (simp only [i64_w, i32_w]; rw [c28b0]) | skip)
   have H' := Aside0.mk H
   clear H
   go_wp2
   repeat (go_quiet (fail); try go_wp2)
   go_meet
   case rel => exact ⟨_, (t343), H', ⟨by first | omega | exact Nat.le_refl _⟩, ⟨by (with_reducible repeat (first | refine blk_drewN ?_ _ | refine blk_drew ?_ | refine blk_alloc ?_ _)); refine blk_far ?_ NB344_346.out _; (with_reducible repeat (first | refine blk_drewN ?_ _ | refine blk_drew ?_ | refine blk_alloc ?_ _)); refine blk_far ?_ NB344_346.out _; (with_reducible repeat (first | refine blk_drewN ?_ _ | refine blk_drew ?_ | refine blk_alloc ?_ _)); refine blk_far ?_ NB344_346.out _; (with_reducible repeat (first | refine blk_drewN ?_ _ | refine blk_drew ?_ | refine blk_alloc ?_ _)); refine blk_far ?_ NB344_346.out _; (with_reducible repeat (first | refine blk_drewN ?_ _ | refine blk_drew ?_ | refine blk_alloc ?_ _)); exact BK344.out⟩, ⟨by (with_reducible repeat (first | refine blk_drewN ?_ _ | refine blk_drew ?_ | refine blk_alloc ?_ _)); refine blk_put (cs := #[.int .i64 (wrap64 (1 + (Go.bits .and .i64 a2 7))), .int .i64 1, .int .i64 6, .int .i64 0]) ?_ 3 _ rfl; (with_reducible repeat (first | refine blk_drewN ?_ _ | refine blk_drew ?_ | refine blk_alloc ?_ _)); refine blk_put (cs := #[.int .i64 (wrap64 (1 + (Go.bits .and .i64 a2 7))), .int .i64 1, .int .i64 0, .int .i64 0]) ?_ 2 _ rfl; (with_reducible repeat (first | refine blk_drewN ?_ _ | refine blk_drew ?_ | refine blk_alloc ?_ _)); refine blk_put (cs := #[.int .i64 (wrap64 (1 + (Go.bits .and .i64 a2 7))), .int .i64 0, .int .i64 0, .int .i64 0]) ?_ 1 _ rfl; (with_reducible repeat (first | refine blk_drewN ?_ _ | refine blk_drew ?_ | refine blk_alloc ?_ _)); refine blk_put (cs := #[.int .i64 0, .int .i64 0, .int .i64 0, .int .i64 0]) ?_ 0 _ rfl; (with_reducible repeat (first | refine blk_drewN ?_ _ | refine blk_drew ?_ | refine blk_alloc ?_ _)); exact BK346.out⟩, ⟨by repeat (first | (with_reducible first | exact HB.out | apply below_alloc | apply pw_below_drewN | apply below_drew1 | refine below_set ?_ GE344.out | refine below_set ?_ GE346.out) | exact HB.out)⟩⟩
  rw [if_pos c28] at H
  have c28b0 : ((Go.bits .and .i64 a0 1) == 1) = true := beq_iff_eq.mpr c28
  have c28b1 : ((Go.bits .and .i64 a0 1) != 1) = false := bne_eq_false_iff_eq.mpr c28
  clear c28
  (first | rw [c28b0] | rw [c28b1] | (simp only [i64_w, i32_w]; rw [c28b0]) | skip)
  have H' := Aside0.mk H
  clear H
  have hnb29 := NB344_346.out
  have hnc29 := NB346_344.out
  have hcz30_0 : w25.cell? ⟨gb344, 0, none⟩ = some (.int .i64 (wrap64 (1 + (Go.bits .and .i64 a1 7)))) := (blk_cell BK344.out 0).trans rfl
  have hcz30_1 : w25.cell? ⟨gb344, 1, none⟩ = some (.int .i64 0) := (blk_cell BK344.out 1).trans rfl
  have hcz30_2 : w25.cell? ⟨gb344, 2, none⟩ = some (.int .i64 5) := (blk_cell BK344.out 2).trans rfl
  have hcz30_3 : w25.cell? ⟨gb344, 3, none⟩ = some (.int .i64 t343) := (blk_cell BK344.out 3).trans rfl
  have hfz30_0 := blk_frozen BK344.out 0
  have hfz30_1 := blk_frozen BK344.out 1
  have hfz30_2 := blk_frozen BK344.out 2
  have hfz30_3 := blk_frozen BK344.out 3
  go_wp2
  repeat (go_quiet (fail); try go_wp2)
  go_meet
  case rel => exact ⟨_, (Go.bits .xor .i64 t343 1), H', ⟨by first | omega | exact Nat.le_refl _⟩, ⟨by (with_reducible repeat (first | refine blk_drewN ?_ _ | refine blk_drew ?_ | refine blk_alloc ?_ _)); refine blk_put (cs := #[.int .i64 (wrap64 (1 + (Go.bits .and .i64 a1 7))), .int .i64 0, .int .i64 5, .int .i64 t343]) ?_ 3 _ rfl; (with_reducible repeat (first | refine blk_drewN ?_ _ | refine blk_drew ?_ | refine blk_alloc ?_ _)); refine blk_far ?_ NB344_346.out _; (with_reducible repeat (first | refine blk_drewN ?_ _ | refine blk_drew ?_ | refine blk_alloc ?_ _)); refine blk_far ?_ NB344_346.out _; (with_reducible repeat (first | refine blk_drewN ?_ _ | refine blk_drew ?_ | refine blk_alloc ?_ _)); refine blk_far ?_ NB344_346.out _; (with_reducible repeat (first | refine blk_drewN ?_ _ | refine blk_drew ?_ | refine blk_alloc ?_ _)); refine blk_far ?_ NB344_346.out _; (with_reducible repeat (first | refine blk_drewN ?_ _ | refine blk_drew ?_ | refine blk_alloc ?_ _)); exact BK344.out⟩, ⟨by (with_reducible repeat (first | refine blk_drewN ?_ _ | refine blk_drew ?_ | refine blk_alloc ?_ _)); refine blk_far ?_ NB346_344.out _; (with_reducible repeat (first | refine blk_drewN ?_ _ | refine blk_drew ?_ | refine blk_alloc ?_ _)); refine blk_put (cs := #[.int .i64 (wrap64 (1 + (Go.bits .and .i64 a2 7))), .int .i64 1, .int .i64 6, .int .i64 0]) ?_ 3 _ rfl; (with_reducible repeat (first | refine blk_drewN ?_ _ | refine blk_drew ?_ | refine blk_alloc ?_ _)); refine blk_put (cs := #[.int .i64 (wrap64 (1 + (Go.bits .and .i64 a2 7))), .int .i64 1, .int .i64 0, .int .i64 0]) ?_ 2 _ rfl; (with_reducible repeat (first | refine blk_drewN ?_ _ | refine blk_drew ?_ | refine blk_alloc ?_ _)); refine blk_put (cs := #[.int .i64 (wrap64 (1 + (Go.bits .and .i64 a2 7))), .int .i64 0, .int .i64 0, .int .i64 0]) ?_ 1 _ rfl; (with_reducible repeat (first | refine blk_drewN ?_ _ | refine blk_drew ?_ | refine blk_alloc ?_ _)); refine blk_put (cs := #[.int .i64 0, .int .i64 0, .int .i64 0, .int .i64 0]) ?_ 0 _ rfl; (with_reducible repeat (first | refine blk_drewN ?_ _ | refine blk_drew ?_ | refine blk_alloc ?_ _)); exact BK346.out⟩, ⟨by repeat (first | (with_reducible first | exact HB.out | apply below_alloc | apply pw_below_drewN | apply below_drew1 | refine below_set ?_ GE344.out | refine below_set ?_ GE346.out) | exact HB.out)⟩⟩
 case rest =>
  clear HC18
  try clear c1
  try clear c2
  try clear p2
  try clear c5
  try clear p6
  try clear c7
  try clear c7b0
  try clear c7b1
  try clear c8
  try clear c8b0
  try clear c8b1
  try clear c9
  try clear c9b0
  try clear c9b1
  try clear c9b2
  try clear c10
  try clear c10b0
  try clear c10b1
  try clear c11
  try clear c11b0
  try clear c11b1
  try clear c12
  try clear c12b0
  try clear c12b1
  try clear c12b2
  try clear c13
  try clear c13b0
  try clear c13b1
  try clear c13b2
  try clear c14
  try clear c14b0
  try clear c14b1
  try clear c15
  try clear c15b0
  try clear c15b1
  try clear c15b2
  try clear c26
  try clear c28
  try clear c28b0
  try clear c28b1
  try clear c29
  try clear hcz23_0
  try clear hcz23_1
  try clear hcz23_2
  try clear hcz23_3
  try clear hcz27_0
  try clear hcz27_1
  try clear hcz27_2
  try clear hcz27_3
  try clear hcz30_0
  try clear hcz30_1
  try clear hcz30_2
  try clear hcz30_3
  try clear hfz23_0
  try clear hfz23_1
  try clear hfz23_2
  try clear hfz23_3
  try clear hfz27_0
  try clear hfz27_1
  try clear hfz27_2
  try clear hfz27_3
  try clear hfz30_0
  try clear hfz30_1
  try clear hfz30_2
  try clear hfz30_3
  obtain ⟨kq, x345003_17, HA, HJ17, BK344, BK346, HB⟩ := hcut
  have hX := HX0.out
  clear HX0
  generalize (((((t342.extract 0 192) ++ (⟨#[102, 105, 114, 115, 116]⟩ : ByteArray)) ++ (t342.extract 197 480)) ++ (⟨#[115, 101, 99, 111, 110, 100]⟩ : ByteArray)) ++ (t342.extract 486 t342.size)) = fx at hX HA ⊢
  have hm4 : min 96 fx.size = 96 := by rw [hX]; rfl
  have hm5 : fx.size - 120 = 648 := by rw [hX]
  have hm6 : min 120 fx.size = 120 := by rw [hX]; rfl
  have HX := Aside0.mk hX
  clear hX
  cases kq with
  | zero => exact absurd HA.out (by simp [skifflaw7_ChooseTable.j0])
  | succ kj17 =>
   have H := HA.out
   clear HA
   simp only [skifflaw7_ChooseTable.j0] at H
   have HC31 := Aside0.mk H
   clear H
   go_upto_if 56 with (fail)
   repeat (go_quiet (fail); go_upto_if 56 with (fail))
   go_cut [] (fun wc => ∃ (kq : Nat) (x347003_30 : Int), Aside0 (skifflaw7_ChooseTable.j1 kq a0 (wrap64 (1 + (Go.bits .and .i64 a1 7))) (wrap64 (1 + (Go.bits .and .i64 a2 7))) fx (wrap64 (1 + (Go.bits .and .i64 a1 7))) 0 5 x345003_17 (wrap64 (1 + (Go.bits .and .i64 a2 7))) 1 6 x347003_30 = some r) ∧ Aside0 (kq ≤ kj17) ∧ Aside0 (wc.heap[gb344]? = some (.cells #[.int .i64 (wrap64 (1 + (Go.bits .and .i64 a1 7))), .int .i64 0, .int .i64 5, .int .i64 x345003_17] 23 (0, 0))) ∧ Aside0 (wc.heap[gb346]? = some (.cells #[.int .i64 (wrap64 (1 + (Go.bits .and .i64 a2 7))), .int .i64 1, .int .i64 6, .int .i64 x347003_30] 23 (0, 0))) ∧ Aside0 (Below w.heap.size w wc))
   case first =>
    have H := HC31.out
    clear HC31
    by_cases c32 : (Go.bits .and .i64 a0 2) = 2
    case neg =>
     rw [if_neg c32] at H
     have c32b0 : ((Go.bits .and .i64 a0 2) == 2) = false := beq_eq_false_iff_ne.mpr c32
     have c32b1 : ((Go.bits .and .i64 a0 2) != 2) = true := bne_iff_ne.mpr c32
     (first | rw [c32b0] | rw [c32b1] | (simp only [i64_w, i32_w]; rw [c32b0]) | skip)
     have H' := Aside0.mk H
     clear H
     go_wp2
     repeat (go_quiet (fail); try go_wp2)
     go_meet
     case rel => exact ⟨_, (t345), H', ⟨by have := HJ17.out; first | omega | exact Nat.le_refl _⟩, ⟨by (with_reducible repeat (first | refine blk_drewN ?_ _ | refine blk_drew ?_ | refine blk_alloc ?_ _)); exact BK344.out⟩, ⟨by (with_reducible repeat (first | refine blk_drewN ?_ _ | refine blk_drew ?_ | refine blk_alloc ?_ _)); exact BK346.out⟩, ⟨by repeat (first | (with_reducible first | exact HB.out | apply below_alloc | apply pw_below_drewN | apply below_drew1 | refine below_set ?_ GE344.out | refine below_set ?_ GE346.out) | exact HB.out)⟩⟩
    rw [if_pos c32] at H
    have c32b0 : ((Go.bits .and .i64 a0 2) == 2) = true := beq_iff_eq.mpr c32
    have c32b1 : ((Go.bits .and .i64 a0 2) != 2) = false := bne_eq_false_iff_eq.mpr c32
    clear c32
    (first | rw [c32b0] | rw [c32b1] | (simp only [i64_w, i32_w]; rw [c32b0]) | skip)
    have H' := Aside0.mk H
    clear H
    have hnb33 := NB346_344.out
    have hnc33 := NB344_346.out
    have hcz34_0 : wc.cell? ⟨gb346, 0, none⟩ = some (.int .i64 (wrap64 (1 + (Go.bits .and .i64 a2 7)))) := (blk_cell BK346.out 0).trans rfl
    have hcz34_1 : wc.cell? ⟨gb346, 1, none⟩ = some (.int .i64 1) := (blk_cell BK346.out 1).trans rfl
    have hcz34_2 : wc.cell? ⟨gb346, 2, none⟩ = some (.int .i64 6) := (blk_cell BK346.out 2).trans rfl
    have hcz34_3 : wc.cell? ⟨gb346, 3, none⟩ = some (.int .i64 t345) := (blk_cell BK346.out 3).trans rfl
    have hfz34_0 := blk_frozen BK346.out 0
    have hfz34_1 := blk_frozen BK346.out 1
    have hfz34_2 := blk_frozen BK346.out 2
    have hfz34_3 := blk_frozen BK346.out 3
    go_wp2
    repeat (go_quiet (fail); try go_wp2)
    go_meet
    case rel => exact ⟨_, (Go.bits .xor .i64 t345 1), H', ⟨by have := HJ17.out; first | omega | exact Nat.le_refl _⟩, ⟨by (with_reducible repeat (first | refine blk_drewN ?_ _ | refine blk_drew ?_ | refine blk_alloc ?_ _)); refine blk_far ?_ NB344_346.out _; (with_reducible repeat (first | refine blk_drewN ?_ _ | refine blk_drew ?_ | refine blk_alloc ?_ _)); exact BK344.out⟩, ⟨by (with_reducible repeat (first | refine blk_drewN ?_ _ | refine blk_drew ?_ | refine blk_alloc ?_ _)); refine blk_put (cs := #[.int .i64 (wrap64 (1 + (Go.bits .and .i64 a2 7))), .int .i64 1, .int .i64 6, .int .i64 t345]) ?_ 3 _ rfl; (with_reducible repeat (first | refine blk_drewN ?_ _ | refine blk_drew ?_ | refine blk_alloc ?_ _)); exact BK346.out⟩, ⟨by repeat (first | (with_reducible first | exact HB.out | apply below_alloc | apply pw_below_drewN | apply below_drew1 | refine below_set ?_ GE344.out | refine below_set ?_ GE346.out) | exact HB.out)⟩⟩
   case rest =>
    clear HC31
    try clear c1
    try clear c2
    try clear p2
    try clear c3
    try clear c5
    try clear p6
    try clear c7
    try clear c7b0
    try clear c7b1
    try clear c8
    try clear c8b0
    try clear c8b1
    try clear c9
    try clear c9b0
    try clear c9b1
    try clear c9b2
    try clear c10
    try clear c10b0
    try clear c10b1
    try clear c11
    try clear c11b0
    try clear c11b1
    try clear c12
    try clear c12b0
    try clear c12b1
    try clear c12b2
    try clear c13
    try clear c13b0
    try clear c13b1
    try clear c13b2
    try clear c14
    try clear c14b0
    try clear c14b1
    try clear c15
    try clear c15b0
    try clear c15b1
    try clear c15b2
    try clear c26
    try clear c28
    try clear c28b0
    try clear c28b1
    try clear c29
    try clear c32
    try clear c32b0
    try clear c32b1
    try clear c33
    try clear hcz23_0
    try clear hcz23_1
    try clear hcz23_2
    try clear hcz23_3
    try clear hcz27_0
    try clear hcz27_1
    try clear hcz27_2
    try clear hcz27_3
    try clear hcz30_0
    try clear hcz30_1
    try clear hcz30_2
    try clear hcz30_3
    try clear hcz34_0
    try clear hcz34_1
    try clear hcz34_2
    try clear hcz34_3
    try clear hfz23_0
    try clear hfz23_1
    try clear hfz23_2
    try clear hfz23_3
    try clear hfz27_0
    try clear hfz27_1
    try clear hfz27_2
    try clear hfz27_3
    try clear hfz30_0
    try clear hfz30_1
    try clear hfz30_2
    try clear hfz30_3
    try clear hfz34_0
    try clear hfz34_1
    try clear hfz34_2
    try clear hfz34_3
    try clear p2
    try clear p6
    obtain ⟨kq, x347003_30, HA, HJ30, BK344, BK346, HB⟩ := hcut
    cases kq with
    | zero => exact absurd HA.out (by simp [skifflaw7_ChooseTable.j1])
    | succ kj30 =>
     have H := HA.out
     clear HA
     simp only [skifflaw7_ChooseTable.j1] at H
     replace H := Option.bind_eq_some_iff.mp H
     obtain ⟨⟨t347, t348⟩, A350, H⟩ := H
     replace H : ((skiffref1_PutEntry.f (wrap64 (1 + (Go.bits .and .i64 a2 7))) 1 6 x347003_30).bind fun bt349 => (if 24 ≤ 96 then (if 96 ≤ (fx.size : Int) then (if t347.size + (fx.extract 24 96).size ≤ 9223372036854775807 then (if (t347 ++ (fx.extract 24 96)).size + bt349.1.size ≤ 9223372036854775807 then (if 120 ≤ (fx.size : Int) then (if ((t347 ++ (fx.extract 24 96)) ++ bt349.1).size + (fx.extract 120 fx.size).size ≤ 9223372036854775807 then ((choose_Active.f (((t347 ++ (fx.extract 24 96)) ++ bt349.1) ++ (fx.extract 120 fx.size))).bind fun bt351 => ((choose_Other.f (((t347 ++ (fx.extract 24 96)) ++ bt349.1) ++ (fx.extract 120 fx.size))).bind fun bt358 => (if (Go.bits .and .i64 a0 2) = 2 then (skifflaw7_ChooseTable.j2 kj30 a0 bt351.2.2.2.2.2 bt358.1 bt358.2 0 true (wrap64 (1 + (Go.bits .and .i64 a1 7))) 0 5 x345003_17 bt351.1 bt351.2.1 bt351.2.2.1 bt351.2.2.2.1 bt351.2.2.2.2.1 96 (wrap64 (1 + (Go.bits .and .i64 a2 7))) 1 6 x347003_30) else (if (Go.bits .and .i64 a0 1) = 0 then (skifflaw7_ChooseTable.j2 kj30 a0 bt351.2.2.2.2.2 bt358.1 bt358.2 0 (decide ((wrap64 (1 + (Go.bits .and .i64 a1 7))) > (wrap64 (1 + (Go.bits .and .i64 a2 7))))) (wrap64 (1 + (Go.bits .and .i64 a1 7))) 0 5 x345003_17 bt351.1 bt351.2.1 bt351.2.2.1 bt351.2.2.2.1 bt351.2.2.2.2.1 96 (wrap64 (1 + (Go.bits .and .i64 a2 7))) 1 6 x347003_30) else (skifflaw7_ChooseTable.j2 kj30 a0 bt351.2.2.2.2.2 bt358.1 bt358.2 0 false (wrap64 (1 + (Go.bits .and .i64 a1 7))) 0 5 x345003_17 bt351.1 bt351.2.1 bt351.2.2.1 bt351.2.2.2.1 bt351.2.2.2.2.1 96 (wrap64 (1 + (Go.bits .and .i64 a2 7))) 1 6 x347003_30))))) else (none)) else (none)) else (none)) else (none)) else (none)) else (none))) = some r := H
     have A35 := Aside0.mk A350
     clear A350
     replace H := Option.bind_eq_some_iff.mp H
     obtain ⟨⟨t349, t350⟩, A360, H⟩ := H
     replace H : (if 24 ≤ 96 then (if 96 ≤ (fx.size : Int) then (if t347.size + (fx.extract 24 96).size ≤ 9223372036854775807 then (if (t347 ++ (fx.extract 24 96)).size + t349.size ≤ 9223372036854775807 then (if 120 ≤ (fx.size : Int) then (if ((t347 ++ (fx.extract 24 96)) ++ t349).size + (fx.extract 120 fx.size).size ≤ 9223372036854775807 then ((choose_Active.f (((t347 ++ (fx.extract 24 96)) ++ t349) ++ (fx.extract 120 fx.size))).bind fun bt351 => ((choose_Other.f (((t347 ++ (fx.extract 24 96)) ++ t349) ++ (fx.extract 120 fx.size))).bind fun bt358 => (if (Go.bits .and .i64 a0 2) = 2 then (skifflaw7_ChooseTable.j2 kj30 a0 bt351.2.2.2.2.2 bt358.1 bt358.2 0 true (wrap64 (1 + (Go.bits .and .i64 a1 7))) 0 5 x345003_17 bt351.1 bt351.2.1 bt351.2.2.1 bt351.2.2.2.1 bt351.2.2.2.2.1 96 (wrap64 (1 + (Go.bits .and .i64 a2 7))) 1 6 x347003_30) else (if (Go.bits .and .i64 a0 1) = 0 then (skifflaw7_ChooseTable.j2 kj30 a0 bt351.2.2.2.2.2 bt358.1 bt358.2 0 (decide ((wrap64 (1 + (Go.bits .and .i64 a1 7))) > (wrap64 (1 + (Go.bits .and .i64 a2 7))))) (wrap64 (1 + (Go.bits .and .i64 a1 7))) 0 5 x345003_17 bt351.1 bt351.2.1 bt351.2.2.1 bt351.2.2.2.1 bt351.2.2.2.2.1 96 (wrap64 (1 + (Go.bits .and .i64 a2 7))) 1 6 x347003_30) else (skifflaw7_ChooseTable.j2 kj30 a0 bt351.2.2.2.2.2 bt358.1 bt358.2 0 false (wrap64 (1 + (Go.bits .and .i64 a1 7))) 0 5 x345003_17 bt351.1 bt351.2.1 bt351.2.2.1 bt351.2.2.2.1 bt351.2.2.2.2.1 96 (wrap64 (1 + (Go.bits .and .i64 a2 7))) 1 6 x347003_30))))) else (none)) else (none)) else (none)) else (none)) else (none)) else (none)) = some r := H
     have A36 := Aside0.mk A360
     clear A360
     by_cases c37 : 24 ≤ 96
     case neg =>
      rw [if_neg c37] at H
      exact absurd H (by simp)
     rw [if_pos c37] at H
     have c37b0 := eq_true c37
     have c37b1 : decide (24 ≤ 96) = true := decide_eq_true c37
     clear c37
     by_cases c38 : 96 ≤ (fx.size : Int)
     case neg =>
      rw [if_neg c38] at H
      exact absurd H (by simp)
     rw [if_pos c38] at H
     have c38b0 := eq_true c38
     have c38b1 : decide (96 ≤ (fx.size : Int)) = true := decide_eq_true c38
     (try (have c38z0 : (96 ≤ ((((((t342.extract 0 192).size : Int) + ((⟨#[102, 105, 114, 115, 116]⟩ : ByteArray).size : Int)) + ((t342.extract 197 480).size : Int)) + ((⟨#[115, 101, 99, 111, 110, 100]⟩ : ByteArray).size : Int)) + ((t342.extract 486 t342.size).size : Int))) = True := eq_true (by first | simpa using c38 | (simp only [ByteArray.size_append, Int.natCast_add] at c38 ⊢; exact c38))))
     (try (have c38z1 : decide (96 ≤ ((((((t342.extract 0 192).size : Int) + ((⟨#[102, 105, 114, 115, 116]⟩ : ByteArray).size : Int)) + ((t342.extract 197 480).size : Int)) + ((⟨#[115, 101, 99, 111, 110, 100]⟩ : ByteArray).size : Int)) + ((t342.extract 486 t342.size).size : Int))) = true := decide_eq_true (by first | simpa using c38 | (simp only [ByteArray.size_append, Int.natCast_add] at c38 ⊢; exact c38))))
     by_cases c39 : t347.size + (fx.extract 24 96).size ≤ 9223372036854775807
     case neg =>
      rw [if_neg c39] at H
      exact absurd H (by simp)
     rw [if_pos c39] at H
     have c39b0 := eq_true c39
     have c39b1 : decide (t347.size + (fx.extract 24 96).size ≤ 9223372036854775807) = true := decide_eq_true c39
     try have c39b2 : (9223372036854775807 < t347.size + (fx.extract 24 96).size) = False := eq_false (Nat.not_lt.2 c39)
     have hq1 : (9223372036854775807 < t347.size + 72) = False := by rw [ByteArray.size_extract, HX.out] at c39; exact eq_false (by omega)
     by_cases c40 : (t347 ++ (fx.extract 24 96)).size + t349.size ≤ 9223372036854775807
     case neg =>
      rw [if_neg c40] at H
      exact absurd H (by simp)
     rw [if_pos c40] at H
     have c40b0 := eq_true c40
     have c40b1 : decide ((t347 ++ (fx.extract 24 96)).size + t349.size ≤ 9223372036854775807) = true := decide_eq_true c40
     try have c40b2 : (9223372036854775807 < (t347 ++ (fx.extract 24 96)).size + t349.size) = False := eq_false (Nat.not_lt.2 c40)
     have hq2 : (9223372036854775807 < t347.size + 72 + t349.size) = False := by rw [ByteArray.size_append, ByteArray.size_extract, HX.out] at c40; exact eq_false (by omega)
     by_cases c41 : 120 ≤ (fx.size : Int)
     case neg =>
      rw [if_neg c41] at H
      exact absurd H (by simp)
     rw [if_pos c41] at H
     have c41b0 := eq_true c41
     have c41b1 : decide (120 ≤ (fx.size : Int)) = true := decide_eq_true c41
     (try (have c41z0 : (120 ≤ ((((((t342.extract 0 192).size : Int) + ((⟨#[102, 105, 114, 115, 116]⟩ : ByteArray).size : Int)) + ((t342.extract 197 480).size : Int)) + ((⟨#[115, 101, 99, 111, 110, 100]⟩ : ByteArray).size : Int)) + ((t342.extract 486 t342.size).size : Int))) = True := eq_true (by first | simpa using c41 | (simp only [ByteArray.size_append, Int.natCast_add] at c41 ⊢; exact c41))))
     (try (have c41z1 : decide (120 ≤ ((((((t342.extract 0 192).size : Int) + ((⟨#[102, 105, 114, 115, 116]⟩ : ByteArray).size : Int)) + ((t342.extract 197 480).size : Int)) + ((⟨#[115, 101, 99, 111, 110, 100]⟩ : ByteArray).size : Int)) + ((t342.extract 486 t342.size).size : Int))) = true := decide_eq_true (by first | simpa using c41 | (simp only [ByteArray.size_append, Int.natCast_add] at c41 ⊢; exact c41))))
     by_cases c42 : ((t347 ++ (fx.extract 24 96)) ++ t349).size + (fx.extract 120 fx.size).size ≤ 9223372036854775807
     case neg =>
      rw [if_neg c42] at H
      exact absurd H (by simp)
     rw [if_pos c42] at H
     have c42b0 := eq_true c42
     have c42b1 : decide (((t347 ++ (fx.extract 24 96)) ++ t349).size + (fx.extract 120 fx.size).size ≤ 9223372036854775807) = true := decide_eq_true c42
     try have c42b2 : (9223372036854775807 < ((t347 ++ (fx.extract 24 96)) ++ t349).size + (fx.extract 120 fx.size).size) = False := eq_false (Nat.not_lt.2 c42)
     have hq3 : (9223372036854775807 < t347.size + 72 + t349.size + 648) = False := by rw [ByteArray.size_append, ByteArray.size_append, ByteArray.size_extract, ByteArray.size_extract, HX.out] at c42; exact eq_false (by omega)
     replace H := Option.bind_eq_some_iff.mp H
     obtain ⟨⟨t351, t352, t353, t354, t355, t356⟩, A430, H⟩ := H
     replace H : ((choose_Other.f (((t347 ++ (fx.extract 24 96)) ++ t349) ++ (fx.extract 120 fx.size))).bind fun bt358 => (if (Go.bits .and .i64 a0 2) = 2 then (skifflaw7_ChooseTable.j2 kj30 a0 t356 bt358.1 bt358.2 0 true (wrap64 (1 + (Go.bits .and .i64 a1 7))) 0 5 x345003_17 t351 t352 t353 t354 t355 96 (wrap64 (1 + (Go.bits .and .i64 a2 7))) 1 6 x347003_30) else (if (Go.bits .and .i64 a0 1) = 0 then (skifflaw7_ChooseTable.j2 kj30 a0 t356 bt358.1 bt358.2 0 (decide ((wrap64 (1 + (Go.bits .and .i64 a1 7))) > (wrap64 (1 + (Go.bits .and .i64 a2 7))))) (wrap64 (1 + (Go.bits .and .i64 a1 7))) 0 5 x345003_17 t351 t352 t353 t354 t355 96 (wrap64 (1 + (Go.bits .and .i64 a2 7))) 1 6 x347003_30) else (skifflaw7_ChooseTable.j2 kj30 a0 t356 bt358.1 bt358.2 0 false (wrap64 (1 + (Go.bits .and .i64 a1 7))) 0 5 x345003_17 t351 t352 t353 t354 t355 96 (wrap64 (1 + (Go.bits .and .i64 a2 7))) 1 6 x347003_30)))) = some r := H
     have A43 := Aside0.mk A430
     clear A430
     replace H := Option.bind_eq_some_iff.mp H
     obtain ⟨⟨t358, t359⟩, A440, H⟩ := H
     replace H : (if (Go.bits .and .i64 a0 2) = 2 then (skifflaw7_ChooseTable.j2 kj30 a0 t356 t358 t359 0 true (wrap64 (1 + (Go.bits .and .i64 a1 7))) 0 5 x345003_17 t351 t352 t353 t354 t355 96 (wrap64 (1 + (Go.bits .and .i64 a2 7))) 1 6 x347003_30) else (if (Go.bits .and .i64 a0 1) = 0 then (skifflaw7_ChooseTable.j2 kj30 a0 t356 t358 t359 0 (decide ((wrap64 (1 + (Go.bits .and .i64 a1 7))) > (wrap64 (1 + (Go.bits .and .i64 a2 7))))) (wrap64 (1 + (Go.bits .and .i64 a1 7))) 0 5 x345003_17 t351 t352 t353 t354 t355 96 (wrap64 (1 + (Go.bits .and .i64 a2 7))) 1 6 x347003_30) else (skifflaw7_ChooseTable.j2 kj30 a0 t356 t358 t359 0 false (wrap64 (1 + (Go.bits .and .i64 a1 7))) 0 5 x345003_17 t351 t352 t353 t354 t355 96 (wrap64 (1 + (Go.bits .and .i64 a2 7))) 1 6 x347003_30))) = some r := H
     have A44 := Aside0.mk A440
     clear A440
     have HC45 := Aside0.mk H
     clear H
     have hnb46 := NB344_346.out
     have hnc46 := NB346_344.out
     have hcz47_0 : wc.cell? ⟨gb344, 0, none⟩ = some (.int .i64 (wrap64 (1 + (Go.bits .and .i64 a1 7)))) := (blk_cell BK344.out 0).trans rfl
     have hcz47_1 : wc.cell? ⟨gb344, 1, none⟩ = some (.int .i64 0) := (blk_cell BK344.out 1).trans rfl
     have hcz47_2 : wc.cell? ⟨gb344, 2, none⟩ = some (.int .i64 5) := (blk_cell BK344.out 2).trans rfl
     have hcz47_3 : wc.cell? ⟨gb344, 3, none⟩ = some (.int .i64 x345003_17) := (blk_cell BK344.out 3).trans rfl
     have hfz47_0 := blk_frozen BK344.out 0
     have hfz47_1 := blk_frozen BK344.out 1
     have hfz47_2 := blk_frozen BK344.out 2
     have hfz47_3 := blk_frozen BK344.out 3
     go_upto_region 18 with (first | (go_at_call 18; (with_reducible refine (skiffref1_PutEntry.calls (wrap64 (1 + (Go.bits .and .i64 a1 7))) 0 5 x345003_17 t347 t348 _ A35.out).mono ?_); rintro e w48 ⟨rfl, hb⟩; have n0_ := Aside0.mk (blk_below (g := gb344) (o := .cells #[.int .i64 (wrap64 (1 + (Go.bits .and .i64 a1 7))), .int .i64 0, .int .i64 5, .int .i64 x345003_17] 23 (0, 0)) (by (with_reducible repeat (first | refine blk_drewN ?_ _ | refine blk_drew ?_ | refine blk_alloc ?_ _)); exact BK344.out) hb); have n1_ := Aside0.mk (blk_below (g := gb346) (o := .cells #[.int .i64 (wrap64 (1 + (Go.bits .and .i64 a2 7))), .int .i64 1, .int .i64 6, .int .i64 x347003_30] 23 (0, 0)) (by (with_reducible repeat (first | refine blk_drewN ?_ _ | refine blk_drew ?_ | refine blk_alloc ?_ _)); exact BK346.out) hb); have n2_ := Aside0.mk (below_step (by repeat (first | (with_reducible first | exact HB.out | apply below_alloc | apply pw_below_drewN | apply below_drew1 | refine below_set ?_ GE344.out | refine below_set ?_ GE346.out) | exact HB.out)) hb); clear BK344; clear BK346; clear HB; have BK344 := n0_; have BK346 := n1_; have HB := n2_; clear n0_ n1_ n2_; (try clear hb); (try clear hb2); (try clear hk); (try clear hi); have hcz49_0 : w48.cell? ⟨gb346, 0, none⟩ = some (.int .i64 (wrap64 (1 + (Go.bits .and .i64 a2 7)))) := (blk_cell BK346.out 0).trans rfl; have hcz49_1 : w48.cell? ⟨gb346, 1, none⟩ = some (.int .i64 1) := (blk_cell BK346.out 1).trans rfl; have hcz49_2 : w48.cell? ⟨gb346, 2, none⟩ = some (.int .i64 6) := (blk_cell BK346.out 2).trans rfl; have hcz49_3 : w48.cell? ⟨gb346, 3, none⟩ = some (.int .i64 x347003_30) := (blk_cell BK346.out 3).trans rfl; have hfz49_0 := blk_frozen BK346.out 0; have hfz49_1 := blk_frozen BK346.out 1; have hfz49_2 := blk_frozen BK346.out 2; have hfz49_3 := blk_frozen BK346.out 3) | (go_at_call 18; (with_reducible refine (skiffref1_PutEntry.calls (wrap64 (1 + (Go.bits .and .i64 a2 7))) 1 6 x347003_30 t349 t350 _ A36.out).mono ?_); rintro e w50 ⟨rfl, hb⟩; have n0_ := Aside0.mk (blk_below (g := gb344) (o := .cells #[.int .i64 (wrap64 (1 + (Go.bits .and .i64 a1 7))), .int .i64 0, .int .i64 5, .int .i64 x345003_17] 23 (0, 0)) (by (with_reducible repeat (first | refine blk_drewN ?_ _ | refine blk_drew ?_ | refine blk_alloc ?_ _)); exact BK344.out) hb); have n1_ := Aside0.mk (blk_below (g := gb346) (o := .cells #[.int .i64 (wrap64 (1 + (Go.bits .and .i64 a2 7))), .int .i64 1, .int .i64 6, .int .i64 x347003_30] 23 (0, 0)) (by (with_reducible repeat (first | refine blk_drewN ?_ _ | refine blk_drew ?_ | refine blk_alloc ?_ _)); exact BK346.out) hb); have n2_ := Aside0.mk (below_step (by repeat (first | (with_reducible first | exact HB.out | apply below_alloc | apply pw_below_drewN | apply below_drew1 | refine below_set ?_ GE344.out | refine below_set ?_ GE346.out) | exact HB.out)) hb); clear BK344; clear BK346; clear HB; have BK344 := n0_; have BK346 := n1_; have HB := n2_; clear n0_ n1_ n2_; (try clear hb); (try clear hb2); (try clear hk); (try clear hi)) | (go_at_call 8; (with_reducible refine (choose_Active.calls (((t347 ++ (fx.extract 24 96)) ++ t349) ++ (fx.extract 120 fx.size)) t351 t352 t353 t354 t355 t356 _ A43.out).mono ?_); rintro e w51 ⟨rfl, hb⟩; have n0_ := Aside0.mk (blk_below (g := gb344) (o := .cells #[.int .i64 (wrap64 (1 + (Go.bits .and .i64 a1 7))), .int .i64 0, .int .i64 5, .int .i64 x345003_17] 23 (0, 0)) (by (with_reducible repeat (first | refine blk_drewN ?_ _ | refine blk_drew ?_ | refine blk_alloc ?_ _)); exact BK344.out) hb); have n1_ := Aside0.mk (blk_below (g := gb346) (o := .cells #[.int .i64 (wrap64 (1 + (Go.bits .and .i64 a2 7))), .int .i64 1, .int .i64 6, .int .i64 x347003_30] 23 (0, 0)) (by (with_reducible repeat (first | refine blk_drewN ?_ _ | refine blk_drew ?_ | refine blk_alloc ?_ _)); exact BK346.out) hb); have n2_ := Aside0.mk (below_step (by repeat (first | (with_reducible first | exact HB.out | apply below_alloc | apply pw_below_drewN | apply below_drew1 | refine below_set ?_ GE344.out | refine below_set ?_ GE346.out) | exact HB.out)) hb); clear BK344; clear BK346; clear HB; have BK344 := n0_; have BK346 := n1_; have HB := n2_; clear n0_ n1_ n2_; (try clear hb); (try clear hb2); (try clear hk); (try clear hi)) | ((with_reducible refine gate_dst (N := 16) rfl ?_); refine box_event ?hg (N := 16) ?hd (cs := #[.int .i64 0, .int .i64 0, .int .i64 0, .int .i64 0, .int .i64 0]) (t := 25) ?hr ?_; (case hd => rfl); (case hg => rfl); (case hr => first | (go_simp; done) | (go_simp; rfl)); intro gb357 hg w52 hbox hb; have n0_ := Aside0.mk (blk_below (g := gb344) (o := .cells #[.int .i64 (wrap64 (1 + (Go.bits .and .i64 a1 7))), .int .i64 0, .int .i64 5, .int .i64 x345003_17] 23 (0, 0)) (by (with_reducible repeat (first | refine blk_drewN ?_ _ | refine blk_drew ?_ | refine blk_alloc ?_ _)); exact BK344.out) hb); have n1_ := Aside0.mk (blk_below (g := gb346) (o := .cells #[.int .i64 (wrap64 (1 + (Go.bits .and .i64 a2 7))), .int .i64 1, .int .i64 6, .int .i64 x347003_30] 23 (0, 0)) (by (with_reducible repeat (first | refine blk_drewN ?_ _ | refine blk_drew ?_ | refine blk_alloc ?_ _)); exact BK346.out) hb); have n2_ := Aside0.mk (below_step (by repeat (first | (with_reducible first | exact HB.out | apply below_alloc | apply pw_below_drewN | apply below_drew1 | refine below_set ?_ GE344.out | refine below_set ?_ GE346.out) | exact HB.out)) hb); have n3_ := Aside0.mk (hbox); have n4_ := Aside0.mk ((by rw [hg]; exact (below_size (by repeat (first | (with_reducible first | exact HB.out | apply below_alloc | apply pw_below_drewN | apply below_drew1 | refine below_set ?_ GE344.out | refine below_set ?_ GE346.out) | exact HB.out))) : w.heap.size ≤ gb357)); have n5_ := Aside0.mk ((by rw [hg]; exact (below_size (by repeat (first | (with_reducible first | exact HB.out | apply below_alloc | apply pw_below_drewN | apply below_drew1 | refine below_set ?_ GE344.out | refine below_set ?_ GE346.out) | exact HB.out))) : w.heap.size ≤ gb357)); have n6_ := Aside0.mk ((by rw [hg]; exact Nat.ne_of_lt (blk_lt (g := gb344) (o := .cells #[.int .i64 (wrap64 (1 + (Go.bits .and .i64 a1 7))), .int .i64 0, .int .i64 5, .int .i64 x345003_17] 23 (0, 0)) (by (with_reducible repeat (first | refine blk_drewN ?_ _ | refine blk_drew ?_ | refine blk_alloc ?_ _)); exact BK344.out)) : gb344 ≠ gb357)); have n7_ := Aside0.mk ((by rw [hg]; exact Nat.ne_of_gt (blk_lt (g := gb344) (o := .cells #[.int .i64 (wrap64 (1 + (Go.bits .and .i64 a1 7))), .int .i64 0, .int .i64 5, .int .i64 x345003_17] 23 (0, 0)) (by (with_reducible repeat (first | refine blk_drewN ?_ _ | refine blk_drew ?_ | refine blk_alloc ?_ _)); exact BK344.out)) : gb357 ≠ gb344)); have n8_ := Aside0.mk ((by rw [hg]; exact Nat.ne_of_lt (blk_lt (g := gb346) (o := .cells #[.int .i64 (wrap64 (1 + (Go.bits .and .i64 a2 7))), .int .i64 1, .int .i64 6, .int .i64 x347003_30] 23 (0, 0)) (by (with_reducible repeat (first | refine blk_drewN ?_ _ | refine blk_drew ?_ | refine blk_alloc ?_ _)); exact BK346.out)) : gb346 ≠ gb357)); have n9_ := Aside0.mk ((by rw [hg]; exact Nat.ne_of_gt (blk_lt (g := gb346) (o := .cells #[.int .i64 (wrap64 (1 + (Go.bits .and .i64 a2 7))), .int .i64 1, .int .i64 6, .int .i64 x347003_30] 23 (0, 0)) (by (with_reducible repeat (first | refine blk_drewN ?_ _ | refine blk_drew ?_ | refine blk_alloc ?_ _)); exact BK346.out)) : gb357 ≠ gb346)); clear BK344; clear BK346; clear HB; have BK344 := n0_; have BK346 := n1_; have HB := n2_; have BK357 := n3_; have GW357 := n4_; have GE357 := n5_; have NB344_357 := n6_; have NB357_344 := n7_; have NB346_357 := n8_; have NB357_346 := n9_; clear n0_ n1_ n2_ n3_ n4_ n5_ n6_ n7_ n8_ n9_; clear hb hbox hg; have hnb53 := NB357_344.out; have hnc53 := NB344_357.out; have hnb54 := NB357_346.out; have hnc54 := NB346_357.out; have hcz55_0 : w52.cell? ⟨gb357, 0, none⟩ = some (.int .i64 0) := (blk_cell BK357.out 0).trans rfl; have hcz55_1 : w52.cell? ⟨gb357, 1, none⟩ = some (.int .i64 0) := (blk_cell BK357.out 1).trans rfl; have hcz55_2 : w52.cell? ⟨gb357, 2, none⟩ = some (.int .i64 0) := (blk_cell BK357.out 2).trans rfl; have hcz55_3 : w52.cell? ⟨gb357, 3, none⟩ = some (.int .i64 0) := (blk_cell BK357.out 3).trans rfl; have hcz55_4 : w52.cell? ⟨gb357, 4, none⟩ = some (.int .i64 0) := (blk_cell BK357.out 4).trans rfl; have hfz55_0 := blk_frozen BK357.out 0; have hfz55_1 := blk_frozen BK357.out 1; have hfz55_2 := blk_frozen BK357.out 2; have hfz55_3 := blk_frozen BK357.out 3; have hfz55_4 := blk_frozen BK357.out 4) | (go_at_call 10; (with_reducible refine (choose_Other.calls (((t347 ++ (fx.extract 24 96)) ++ t349) ++ (fx.extract 120 fx.size)) t358 t359 _ A44.out).mono ?_); rintro e w56 ⟨rfl, hb⟩; have n0_ := Aside0.mk (blk_below (g := gb344) (o := .cells #[.int .i64 (wrap64 (1 + (Go.bits .and .i64 a1 7))), .int .i64 0, .int .i64 5, .int .i64 x345003_17] 23 (0, 0)) (by (with_reducible repeat (first | refine blk_drewN ?_ _ | refine blk_drew ?_ | refine blk_alloc ?_ _)); refine blk_far ?_ NB344_357.out _; (with_reducible repeat (first | refine blk_drewN ?_ _ | refine blk_drew ?_ | refine blk_alloc ?_ _)); refine blk_far ?_ NB344_357.out _; (with_reducible repeat (first | refine blk_drewN ?_ _ | refine blk_drew ?_ | refine blk_alloc ?_ _)); refine blk_far ?_ NB344_357.out _; (with_reducible repeat (first | refine blk_drewN ?_ _ | refine blk_drew ?_ | refine blk_alloc ?_ _)); refine blk_far ?_ NB344_357.out _; (with_reducible repeat (first | refine blk_drewN ?_ _ | refine blk_drew ?_ | refine blk_alloc ?_ _)); refine blk_far ?_ NB344_357.out _; (with_reducible repeat (first | refine blk_drewN ?_ _ | refine blk_drew ?_ | refine blk_alloc ?_ _)); exact BK344.out) hb); have n1_ := Aside0.mk (blk_below (g := gb346) (o := .cells #[.int .i64 (wrap64 (1 + (Go.bits .and .i64 a2 7))), .int .i64 1, .int .i64 6, .int .i64 x347003_30] 23 (0, 0)) (by (with_reducible repeat (first | refine blk_drewN ?_ _ | refine blk_drew ?_ | refine blk_alloc ?_ _)); refine blk_far ?_ NB346_357.out _; (with_reducible repeat (first | refine blk_drewN ?_ _ | refine blk_drew ?_ | refine blk_alloc ?_ _)); refine blk_far ?_ NB346_357.out _; (with_reducible repeat (first | refine blk_drewN ?_ _ | refine blk_drew ?_ | refine blk_alloc ?_ _)); refine blk_far ?_ NB346_357.out _; (with_reducible repeat (first | refine blk_drewN ?_ _ | refine blk_drew ?_ | refine blk_alloc ?_ _)); refine blk_far ?_ NB346_357.out _; (with_reducible repeat (first | refine blk_drewN ?_ _ | refine blk_drew ?_ | refine blk_alloc ?_ _)); refine blk_far ?_ NB346_357.out _; (with_reducible repeat (first | refine blk_drewN ?_ _ | refine blk_drew ?_ | refine blk_alloc ?_ _)); exact BK346.out) hb); have n2_ := Aside0.mk (blk_below (g := gb357) (o := .cells #[.int .i64 t351, .int .i64 t352, .int .i64 t353, .int .i64 t354, .int .i64 t355] 25 (0, 0)) (by (with_reducible repeat (first | refine blk_drewN ?_ _ | refine blk_drew ?_ | refine blk_alloc ?_ _)); refine blk_put (cs := #[.int .i64 t351, .int .i64 t352, .int .i64 t353, .int .i64 t354, .int .i64 0]) ?_ 4 _ rfl; (with_reducible repeat (first | refine blk_drewN ?_ _ | refine blk_drew ?_ | refine blk_alloc ?_ _)); refine blk_put (cs := #[.int .i64 t351, .int .i64 t352, .int .i64 t353, .int .i64 0, .int .i64 0]) ?_ 3 _ rfl; (with_reducible repeat (first | refine blk_drewN ?_ _ | refine blk_drew ?_ | refine blk_alloc ?_ _)); refine blk_put (cs := #[.int .i64 t351, .int .i64 t352, .int .i64 0, .int .i64 0, .int .i64 0]) ?_ 2 _ rfl; (with_reducible repeat (first | refine blk_drewN ?_ _ | refine blk_drew ?_ | refine blk_alloc ?_ _)); refine blk_put (cs := #[.int .i64 t351, .int .i64 0, .int .i64 0, .int .i64 0, .int .i64 0]) ?_ 1 _ rfl; (with_reducible repeat (first | refine blk_drewN ?_ _ | refine blk_drew ?_ | refine blk_alloc ?_ _)); refine blk_put (cs := #[.int .i64 0, .int .i64 0, .int .i64 0, .int .i64 0, .int .i64 0]) ?_ 0 _ rfl; (with_reducible repeat (first | refine blk_drewN ?_ _ | refine blk_drew ?_ | refine blk_alloc ?_ _)); exact BK357.out) hb); have n3_ := Aside0.mk (below_step (by repeat (first | (with_reducible first | exact HB.out | apply below_alloc | apply pw_below_drewN | apply below_drew1 | refine below_set ?_ GE344.out | refine below_set ?_ GE346.out | refine below_set ?_ GE357.out) | exact HB.out)) hb); clear BK344; clear BK346; clear BK357; clear HB; have BK344 := n0_; have BK346 := n1_; have BK357 := n2_; have HB := n3_; clear n0_ n1_ n2_ n3_; (try clear hb); (try clear hb2); (try clear hk); (try clear hi); have hcz57_0 : w56.cell? ⟨gb346, 0, none⟩ = some (.int .i64 (wrap64 (1 + (Go.bits .and .i64 a2 7)))) := (blk_cell BK346.out 0).trans rfl; have hcz57_1 : w56.cell? ⟨gb346, 1, none⟩ = some (.int .i64 1) := (blk_cell BK346.out 1).trans rfl; have hcz57_2 : w56.cell? ⟨gb346, 2, none⟩ = some (.int .i64 6) := (blk_cell BK346.out 2).trans rfl; have hcz57_3 : w56.cell? ⟨gb346, 3, none⟩ = some (.int .i64 x347003_30) := (blk_cell BK346.out 3).trans rfl; have hfz57_0 := blk_frozen BK346.out 0; have hfz57_1 := blk_frozen BK346.out 1; have hfz57_2 := blk_frozen BK346.out 2; have hfz57_3 := blk_frozen BK346.out 3) | ((with_reducible refine gate_dst (N := 20) rfl ?_); refine box_event ?hg (N := 20) ?hd (cs := #[.int .i64 0, .int .i64 0, .int .i64 0, .int .i64 0, .int .i64 0]) (t := 25) ?hr ?_; (case hd => rfl); (case hg => rfl); (case hr => first | (go_simp; done) | (go_simp; rfl)); intro gb360 hg w58 hbox hb; have n0_ := Aside0.mk (blk_below (g := gb344) (o := .cells #[.int .i64 (wrap64 (1 + (Go.bits .and .i64 a1 7))), .int .i64 0, .int .i64 5, .int .i64 x345003_17] 23 (0, 0)) (by (with_reducible repeat (first | refine blk_drewN ?_ _ | refine blk_drew ?_ | refine blk_alloc ?_ _)); exact BK344.out) hb); have n1_ := Aside0.mk (blk_below (g := gb346) (o := .cells #[.int .i64 (wrap64 (1 + (Go.bits .and .i64 a2 7))), .int .i64 1, .int .i64 6, .int .i64 x347003_30] 23 (0, 0)) (by (with_reducible repeat (first | refine blk_drewN ?_ _ | refine blk_drew ?_ | refine blk_alloc ?_ _)); exact BK346.out) hb); have n2_ := Aside0.mk (blk_below (g := gb357) (o := .cells #[.int .i64 t351, .int .i64 t352, .int .i64 t353, .int .i64 t354, .int .i64 t355] 25 (0, 0)) (by (with_reducible repeat (first | refine blk_drewN ?_ _ | refine blk_drew ?_ | refine blk_alloc ?_ _)); exact BK357.out) hb); have n3_ := Aside0.mk (below_step (by repeat (first | (with_reducible first | exact HB.out | apply below_alloc | apply pw_below_drewN | apply below_drew1 | refine below_set ?_ GE344.out | refine below_set ?_ GE346.out | refine below_set ?_ GE357.out) | exact HB.out)) hb); have n4_ := Aside0.mk (hbox); have n5_ := Aside0.mk ((by rw [hg]; exact (below_size (by repeat (first | (with_reducible first | exact HB.out | apply below_alloc | apply pw_below_drewN | apply below_drew1 | refine below_set ?_ GE344.out | refine below_set ?_ GE346.out | refine below_set ?_ GE357.out) | exact HB.out))) : w.heap.size ≤ gb360)); have n6_ := Aside0.mk ((by rw [hg]; exact (below_size (by repeat (first | (with_reducible first | exact HB.out | apply below_alloc | apply pw_below_drewN | apply below_drew1 | refine below_set ?_ GE344.out | refine below_set ?_ GE346.out | refine below_set ?_ GE357.out) | exact HB.out))) : w.heap.size ≤ gb360)); have n7_ := Aside0.mk ((by rw [hg]; exact Nat.ne_of_lt (blk_lt (g := gb344) (o := .cells #[.int .i64 (wrap64 (1 + (Go.bits .and .i64 a1 7))), .int .i64 0, .int .i64 5, .int .i64 x345003_17] 23 (0, 0)) (by (with_reducible repeat (first | refine blk_drewN ?_ _ | refine blk_drew ?_ | refine blk_alloc ?_ _)); exact BK344.out)) : gb344 ≠ gb360)); have n8_ := Aside0.mk ((by rw [hg]; exact Nat.ne_of_gt (blk_lt (g := gb344) (o := .cells #[.int .i64 (wrap64 (1 + (Go.bits .and .i64 a1 7))), .int .i64 0, .int .i64 5, .int .i64 x345003_17] 23 (0, 0)) (by (with_reducible repeat (first | refine blk_drewN ?_ _ | refine blk_drew ?_ | refine blk_alloc ?_ _)); exact BK344.out)) : gb360 ≠ gb344)); have n9_ := Aside0.mk ((by rw [hg]; exact Nat.ne_of_lt (blk_lt (g := gb346) (o := .cells #[.int .i64 (wrap64 (1 + (Go.bits .and .i64 a2 7))), .int .i64 1, .int .i64 6, .int .i64 x347003_30] 23 (0, 0)) (by (with_reducible repeat (first | refine blk_drewN ?_ _ | refine blk_drew ?_ | refine blk_alloc ?_ _)); exact BK346.out)) : gb346 ≠ gb360)); have n10_ := Aside0.mk ((by rw [hg]; exact Nat.ne_of_gt (blk_lt (g := gb346) (o := .cells #[.int .i64 (wrap64 (1 + (Go.bits .and .i64 a2 7))), .int .i64 1, .int .i64 6, .int .i64 x347003_30] 23 (0, 0)) (by (with_reducible repeat (first | refine blk_drewN ?_ _ | refine blk_drew ?_ | refine blk_alloc ?_ _)); exact BK346.out)) : gb360 ≠ gb346)); have n11_ := Aside0.mk ((by rw [hg]; exact Nat.ne_of_lt (blk_lt (g := gb357) (o := .cells #[.int .i64 t351, .int .i64 t352, .int .i64 t353, .int .i64 t354, .int .i64 t355] 25 (0, 0)) (by (with_reducible repeat (first | refine blk_drewN ?_ _ | refine blk_drew ?_ | refine blk_alloc ?_ _)); exact BK357.out)) : gb357 ≠ gb360)); have n12_ := Aside0.mk ((by rw [hg]; exact Nat.ne_of_gt (blk_lt (g := gb357) (o := .cells #[.int .i64 t351, .int .i64 t352, .int .i64 t353, .int .i64 t354, .int .i64 t355] 25 (0, 0)) (by (with_reducible repeat (first | refine blk_drewN ?_ _ | refine blk_drew ?_ | refine blk_alloc ?_ _)); exact BK357.out)) : gb360 ≠ gb357)); clear BK344; clear BK346; clear BK357; clear HB; have BK344 := n0_; have BK346 := n1_; have BK357 := n2_; have HB := n3_; have BK360 := n4_; have GW360 := n5_; have GE360 := n6_; have NB344_360 := n7_; have NB360_344 := n8_; have NB346_360 := n9_; have NB360_346 := n10_; have NB357_360 := n11_; have NB360_357 := n12_; clear n0_ n1_ n2_ n3_ n4_ n5_ n6_ n7_ n8_ n9_ n10_ n11_ n12_; clear hb hbox hg; have hnb59 := NB360_344.out; have hnc59 := NB344_360.out; have hnb60 := NB360_346.out; have hnc60 := NB346_360.out; have hnb61 := NB360_357.out; have hnc61 := NB357_360.out; have hcz62_0 : w58.cell? ⟨gb360, 0, none⟩ = some (.int .i64 0) := (blk_cell BK360.out 0).trans rfl; have hcz62_1 : w58.cell? ⟨gb360, 1, none⟩ = some (.int .i64 0) := (blk_cell BK360.out 1).trans rfl; have hcz62_2 : w58.cell? ⟨gb360, 2, none⟩ = some (.int .i64 0) := (blk_cell BK360.out 2).trans rfl; have hcz62_3 : w58.cell? ⟨gb360, 3, none⟩ = some (.int .i64 0) := (blk_cell BK360.out 3).trans rfl; have hcz62_4 : w58.cell? ⟨gb360, 4, none⟩ = some (.int .i64 0) := (blk_cell BK360.out 4).trans rfl; have hfz62_0 := blk_frozen BK360.out 0; have hfz62_1 := blk_frozen BK360.out 1; have hfz62_2 := blk_frozen BK360.out 2; have hfz62_3 := blk_frozen BK360.out 3; have hfz62_4 := blk_frozen BK360.out 4))
     repeat (go_quiet (first | (go_at_call 18; (with_reducible refine (skiffref1_PutEntry.calls (wrap64 (1 + (Go.bits .and .i64 a1 7))) 0 5 x345003_17 t347 t348 _ A35.out).mono ?_); rintro e w48 ⟨rfl, hb⟩; have n0_ := Aside0.mk (blk_below (g := gb344) (o := .cells #[.int .i64 (wrap64 (1 + (Go.bits .and .i64 a1 7))), .int .i64 0, .int .i64 5, .int .i64 x345003_17] 23 (0, 0)) (by (with_reducible repeat (first | refine blk_drewN ?_ _ | refine blk_drew ?_ | refine blk_alloc ?_ _)); exact BK344.out) hb); have n1_ := Aside0.mk (blk_below (g := gb346) (o := .cells #[.int .i64 (wrap64 (1 + (Go.bits .and .i64 a2 7))), .int .i64 1, .int .i64 6, .int .i64 x347003_30] 23 (0, 0)) (by (with_reducible repeat (first | refine blk_drewN ?_ _ | refine blk_drew ?_ | refine blk_alloc ?_ _)); exact BK346.out) hb); have n2_ := Aside0.mk (below_step (by repeat (first | (with_reducible first | exact HB.out | apply below_alloc | apply pw_below_drewN | apply below_drew1 | refine below_set ?_ GE344.out | refine below_set ?_ GE346.out) | exact HB.out)) hb); clear BK344; clear BK346; clear HB; have BK344 := n0_; have BK346 := n1_; have HB := n2_; clear n0_ n1_ n2_; (try clear hb); (try clear hb2); (try clear hk); (try clear hi); have hcz49_0 : w48.cell? ⟨gb346, 0, none⟩ = some (.int .i64 (wrap64 (1 + (Go.bits .and .i64 a2 7)))) := (blk_cell BK346.out 0).trans rfl; have hcz49_1 : w48.cell? ⟨gb346, 1, none⟩ = some (.int .i64 1) := (blk_cell BK346.out 1).trans rfl; have hcz49_2 : w48.cell? ⟨gb346, 2, none⟩ = some (.int .i64 6) := (blk_cell BK346.out 2).trans rfl; have hcz49_3 : w48.cell? ⟨gb346, 3, none⟩ = some (.int .i64 x347003_30) := (blk_cell BK346.out 3).trans rfl; have hfz49_0 := blk_frozen BK346.out 0; have hfz49_1 := blk_frozen BK346.out 1; have hfz49_2 := blk_frozen BK346.out 2; have hfz49_3 := blk_frozen BK346.out 3) | (go_at_call 18; (with_reducible refine (skiffref1_PutEntry.calls (wrap64 (1 + (Go.bits .and .i64 a2 7))) 1 6 x347003_30 t349 t350 _ A36.out).mono ?_); rintro e w50 ⟨rfl, hb⟩; have n0_ := Aside0.mk (blk_below (g := gb344) (o := .cells #[.int .i64 (wrap64 (1 + (Go.bits .and .i64 a1 7))), .int .i64 0, .int .i64 5, .int .i64 x345003_17] 23 (0, 0)) (by (with_reducible repeat (first | refine blk_drewN ?_ _ | refine blk_drew ?_ | refine blk_alloc ?_ _)); exact BK344.out) hb); have n1_ := Aside0.mk (blk_below (g := gb346) (o := .cells #[.int .i64 (wrap64 (1 + (Go.bits .and .i64 a2 7))), .int .i64 1, .int .i64 6, .int .i64 x347003_30] 23 (0, 0)) (by (with_reducible repeat (first | refine blk_drewN ?_ _ | refine blk_drew ?_ | refine blk_alloc ?_ _)); exact BK346.out) hb); have n2_ := Aside0.mk (below_step (by repeat (first | (with_reducible first | exact HB.out | apply below_alloc | apply pw_below_drewN | apply below_drew1 | refine below_set ?_ GE344.out | refine below_set ?_ GE346.out) | exact HB.out)) hb); clear BK344; clear BK346; clear HB; have BK344 := n0_; have BK346 := n1_; have HB := n2_; clear n0_ n1_ n2_; (try clear hb); (try clear hb2); (try clear hk); (try clear hi)) | (go_at_call 8; (with_reducible refine (choose_Active.calls (((t347 ++ (fx.extract 24 96)) ++ t349) ++ (fx.extract 120 fx.size)) t351 t352 t353 t354 t355 t356 _ A43.out).mono ?_); rintro e w51 ⟨rfl, hb⟩; have n0_ := Aside0.mk (blk_below (g := gb344) (o := .cells #[.int .i64 (wrap64 (1 + (Go.bits .and .i64 a1 7))), .int .i64 0, .int .i64 5, .int .i64 x345003_17] 23 (0, 0)) (by (with_reducible repeat (first | refine blk_drewN ?_ _ | refine blk_drew ?_ | refine blk_alloc ?_ _)); exact BK344.out) hb); have n1_ := Aside0.mk (blk_below (g := gb346) (o := .cells #[.int .i64 (wrap64 (1 + (Go.bits .and .i64 a2 7))), .int .i64 1, .int .i64 6, .int .i64 x347003_30] 23 (0, 0)) (by (with_reducible repeat (first | refine blk_drewN ?_ _ | refine blk_drew ?_ | refine blk_alloc ?_ _)); exact BK346.out) hb); have n2_ := Aside0.mk (below_step (by repeat (first | (with_reducible first | exact HB.out | apply below_alloc | apply pw_below_drewN | apply below_drew1 | refine below_set ?_ GE344.out | refine below_set ?_ GE346.out) | exact HB.out)) hb); clear BK344; clear BK346; clear HB; have BK344 := n0_; have BK346 := n1_; have HB := n2_; clear n0_ n1_ n2_; (try clear hb); (try clear hb2); (try clear hk); (try clear hi)) | ((with_reducible refine gate_dst (N := 16) rfl ?_); refine box_event ?hg (N := 16) ?hd (cs := #[.int .i64 0, .int .i64 0, .int .i64 0, .int .i64 0, .int .i64 0]) (t := 25) ?hr ?_; (case hd => rfl); (case hg => rfl); (case hr => first | (go_simp; done) | (go_simp; rfl)); intro gb357 hg w52 hbox hb; have n0_ := Aside0.mk (blk_below (g := gb344) (o := .cells #[.int .i64 (wrap64 (1 + (Go.bits .and .i64 a1 7))), .int .i64 0, .int .i64 5, .int .i64 x345003_17] 23 (0, 0)) (by (with_reducible repeat (first | refine blk_drewN ?_ _ | refine blk_drew ?_ | refine blk_alloc ?_ _)); exact BK344.out) hb); have n1_ := Aside0.mk (blk_below (g := gb346) (o := .cells #[.int .i64 (wrap64 (1 + (Go.bits .and .i64 a2 7))), .int .i64 1, .int .i64 6, .int .i64 x347003_30] 23 (0, 0)) (by (with_reducible repeat (first | refine blk_drewN ?_ _ | refine blk_drew ?_ | refine blk_alloc ?_ _)); exact BK346.out) hb); have n2_ := Aside0.mk (below_step (by repeat (first | (with_reducible first | exact HB.out | apply below_alloc | apply pw_below_drewN | apply below_drew1 | refine below_set ?_ GE344.out | refine below_set ?_ GE346.out) | exact HB.out)) hb); have n3_ := Aside0.mk (hbox); have n4_ := Aside0.mk ((by rw [hg]; exact (below_size (by repeat (first | (with_reducible first | exact HB.out | apply below_alloc | apply pw_below_drewN | apply below_drew1 | refine below_set ?_ GE344.out | refine below_set ?_ GE346.out) | exact HB.out))) : w.heap.size ≤ gb357)); have n5_ := Aside0.mk ((by rw [hg]; exact (below_size (by repeat (first | (with_reducible first | exact HB.out | apply below_alloc | apply pw_below_drewN | apply below_drew1 | refine below_set ?_ GE344.out | refine below_set ?_ GE346.out) | exact HB.out))) : w.heap.size ≤ gb357)); have n6_ := Aside0.mk ((by rw [hg]; exact Nat.ne_of_lt (blk_lt (g := gb344) (o := .cells #[.int .i64 (wrap64 (1 + (Go.bits .and .i64 a1 7))), .int .i64 0, .int .i64 5, .int .i64 x345003_17] 23 (0, 0)) (by (with_reducible repeat (first | refine blk_drewN ?_ _ | refine blk_drew ?_ | refine blk_alloc ?_ _)); exact BK344.out)) : gb344 ≠ gb357)); have n7_ := Aside0.mk ((by rw [hg]; exact Nat.ne_of_gt (blk_lt (g := gb344) (o := .cells #[.int .i64 (wrap64 (1 + (Go.bits .and .i64 a1 7))), .int .i64 0, .int .i64 5, .int .i64 x345003_17] 23 (0, 0)) (by (with_reducible repeat (first | refine blk_drewN ?_ _ | refine blk_drew ?_ | refine blk_alloc ?_ _)); exact BK344.out)) : gb357 ≠ gb344)); have n8_ := Aside0.mk ((by rw [hg]; exact Nat.ne_of_lt (blk_lt (g := gb346) (o := .cells #[.int .i64 (wrap64 (1 + (Go.bits .and .i64 a2 7))), .int .i64 1, .int .i64 6, .int .i64 x347003_30] 23 (0, 0)) (by (with_reducible repeat (first | refine blk_drewN ?_ _ | refine blk_drew ?_ | refine blk_alloc ?_ _)); exact BK346.out)) : gb346 ≠ gb357)); have n9_ := Aside0.mk ((by rw [hg]; exact Nat.ne_of_gt (blk_lt (g := gb346) (o := .cells #[.int .i64 (wrap64 (1 + (Go.bits .and .i64 a2 7))), .int .i64 1, .int .i64 6, .int .i64 x347003_30] 23 (0, 0)) (by (with_reducible repeat (first | refine blk_drewN ?_ _ | refine blk_drew ?_ | refine blk_alloc ?_ _)); exact BK346.out)) : gb357 ≠ gb346)); clear BK344; clear BK346; clear HB; have BK344 := n0_; have BK346 := n1_; have HB := n2_; have BK357 := n3_; have GW357 := n4_; have GE357 := n5_; have NB344_357 := n6_; have NB357_344 := n7_; have NB346_357 := n8_; have NB357_346 := n9_; clear n0_ n1_ n2_ n3_ n4_ n5_ n6_ n7_ n8_ n9_; clear hb hbox hg; have hnb53 := NB357_344.out; have hnc53 := NB344_357.out; have hnb54 := NB357_346.out; have hnc54 := NB346_357.out; have hcz55_0 : w52.cell? ⟨gb357, 0, none⟩ = some (.int .i64 0) := (blk_cell BK357.out 0).trans rfl; have hcz55_1 : w52.cell? ⟨gb357, 1, none⟩ = some (.int .i64 0) := (blk_cell BK357.out 1).trans rfl; have hcz55_2 : w52.cell? ⟨gb357, 2, none⟩ = some (.int .i64 0) := (blk_cell BK357.out 2).trans rfl; have hcz55_3 : w52.cell? ⟨gb357, 3, none⟩ = some (.int .i64 0) := (blk_cell BK357.out 3).trans rfl; have hcz55_4 : w52.cell? ⟨gb357, 4, none⟩ = some (.int .i64 0) := (blk_cell BK357.out 4).trans rfl; have hfz55_0 := blk_frozen BK357.out 0; have hfz55_1 := blk_frozen BK357.out 1; have hfz55_2 := blk_frozen BK357.out 2; have hfz55_3 := blk_frozen BK357.out 3; have hfz55_4 := blk_frozen BK357.out 4) | (go_at_call 10; (with_reducible refine (choose_Other.calls (((t347 ++ (fx.extract 24 96)) ++ t349) ++ (fx.extract 120 fx.size)) t358 t359 _ A44.out).mono ?_); rintro e w56 ⟨rfl, hb⟩; have n0_ := Aside0.mk (blk_below (g := gb344) (o := .cells #[.int .i64 (wrap64 (1 + (Go.bits .and .i64 a1 7))), .int .i64 0, .int .i64 5, .int .i64 x345003_17] 23 (0, 0)) (by (with_reducible repeat (first | refine blk_drewN ?_ _ | refine blk_drew ?_ | refine blk_alloc ?_ _)); refine blk_far ?_ NB344_357.out _; (with_reducible repeat (first | refine blk_drewN ?_ _ | refine blk_drew ?_ | refine blk_alloc ?_ _)); refine blk_far ?_ NB344_357.out _; (with_reducible repeat (first | refine blk_drewN ?_ _ | refine blk_drew ?_ | refine blk_alloc ?_ _)); refine blk_far ?_ NB344_357.out _; (with_reducible repeat (first | refine blk_drewN ?_ _ | refine blk_drew ?_ | refine blk_alloc ?_ _)); refine blk_far ?_ NB344_357.out _; (with_reducible repeat (first | refine blk_drewN ?_ _ | refine blk_drew ?_ | refine blk_alloc ?_ _)); refine blk_far ?_ NB344_357.out _; (with_reducible repeat (first | refine blk_drewN ?_ _ | refine blk_drew ?_ | refine blk_alloc ?_ _)); exact BK344.out) hb); have n1_ := Aside0.mk (blk_below (g := gb346) (o := .cells #[.int .i64 (wrap64 (1 + (Go.bits .and .i64 a2 7))), .int .i64 1, .int .i64 6, .int .i64 x347003_30] 23 (0, 0)) (by (with_reducible repeat (first | refine blk_drewN ?_ _ | refine blk_drew ?_ | refine blk_alloc ?_ _)); refine blk_far ?_ NB346_357.out _; (with_reducible repeat (first | refine blk_drewN ?_ _ | refine blk_drew ?_ | refine blk_alloc ?_ _)); refine blk_far ?_ NB346_357.out _; (with_reducible repeat (first | refine blk_drewN ?_ _ | refine blk_drew ?_ | refine blk_alloc ?_ _)); refine blk_far ?_ NB346_357.out _; (with_reducible repeat (first | refine blk_drewN ?_ _ | refine blk_drew ?_ | refine blk_alloc ?_ _)); refine blk_far ?_ NB346_357.out _; (with_reducible repeat (first | refine blk_drewN ?_ _ | refine blk_drew ?_ | refine blk_alloc ?_ _)); refine blk_far ?_ NB346_357.out _; (with_reducible repeat (first | refine blk_drewN ?_ _ | refine blk_drew ?_ | refine blk_alloc ?_ _)); exact BK346.out) hb); have n2_ := Aside0.mk (blk_below (g := gb357) (o := .cells #[.int .i64 t351, .int .i64 t352, .int .i64 t353, .int .i64 t354, .int .i64 t355] 25 (0, 0)) (by (with_reducible repeat (first | refine blk_drewN ?_ _ | refine blk_drew ?_ | refine blk_alloc ?_ _)); refine blk_put (cs := #[.int .i64 t351, .int .i64 t352, .int .i64 t353, .int .i64 t354, .int .i64 0]) ?_ 4 _ rfl; (with_reducible repeat (first | refine blk_drewN ?_ _ | refine blk_drew ?_ | refine blk_alloc ?_ _)); refine blk_put (cs := #[.int .i64 t351, .int .i64 t352, .int .i64 t353, .int .i64 0, .int .i64 0]) ?_ 3 _ rfl; (with_reducible repeat (first | refine blk_drewN ?_ _ | refine blk_drew ?_ | refine blk_alloc ?_ _)); refine blk_put (cs := #[.int .i64 t351, .int .i64 t352, .int .i64 0, .int .i64 0, .int .i64 0]) ?_ 2 _ rfl; (with_reducible repeat (first | refine blk_drewN ?_ _ | refine blk_drew ?_ | refine blk_alloc ?_ _)); refine blk_put (cs := #[.int .i64 t351, .int .i64 0, .int .i64 0, .int .i64 0, .int .i64 0]) ?_ 1 _ rfl; (with_reducible repeat (first | refine blk_drewN ?_ _ | refine blk_drew ?_ | refine blk_alloc ?_ _)); refine blk_put (cs := #[.int .i64 0, .int .i64 0, .int .i64 0, .int .i64 0, .int .i64 0]) ?_ 0 _ rfl; (with_reducible repeat (first | refine blk_drewN ?_ _ | refine blk_drew ?_ | refine blk_alloc ?_ _)); exact BK357.out) hb); have n3_ := Aside0.mk (below_step (by repeat (first | (with_reducible first | exact HB.out | apply below_alloc | apply pw_below_drewN | apply below_drew1 | refine below_set ?_ GE344.out | refine below_set ?_ GE346.out | refine below_set ?_ GE357.out) | exact HB.out)) hb); clear BK344; clear BK346; clear BK357; clear HB; have BK344 := n0_; have BK346 := n1_; have BK357 := n2_; have HB := n3_; clear n0_ n1_ n2_ n3_; (try clear hb); (try clear hb2); (try clear hk); (try clear hi); have hcz57_0 : w56.cell? ⟨gb346, 0, none⟩ = some (.int .i64 (wrap64 (1 + (Go.bits .and .i64 a2 7)))) := (blk_cell BK346.out 0).trans rfl; have hcz57_1 : w56.cell? ⟨gb346, 1, none⟩ = some (.int .i64 1) := (blk_cell BK346.out 1).trans rfl; have hcz57_2 : w56.cell? ⟨gb346, 2, none⟩ = some (.int .i64 6) := (blk_cell BK346.out 2).trans rfl; have hcz57_3 : w56.cell? ⟨gb346, 3, none⟩ = some (.int .i64 x347003_30) := (blk_cell BK346.out 3).trans rfl; have hfz57_0 := blk_frozen BK346.out 0; have hfz57_1 := blk_frozen BK346.out 1; have hfz57_2 := blk_frozen BK346.out 2; have hfz57_3 := blk_frozen BK346.out 3) | ((with_reducible refine gate_dst (N := 20) rfl ?_); refine box_event ?hg (N := 20) ?hd (cs := #[.int .i64 0, .int .i64 0, .int .i64 0, .int .i64 0, .int .i64 0]) (t := 25) ?hr ?_; (case hd => rfl); (case hg => rfl); (case hr => first | (go_simp; done) | (go_simp; rfl)); intro gb360 hg w58 hbox hb; have n0_ := Aside0.mk (blk_below (g := gb344) (o := .cells #[.int .i64 (wrap64 (1 + (Go.bits .and .i64 a1 7))), .int .i64 0, .int .i64 5, .int .i64 x345003_17] 23 (0, 0)) (by (with_reducible repeat (first | refine blk_drewN ?_ _ | refine blk_drew ?_ | refine blk_alloc ?_ _)); exact BK344.out) hb); have n1_ := Aside0.mk (blk_below (g := gb346) (o := .cells #[.int .i64 (wrap64 (1 + (Go.bits .and .i64 a2 7))), .int .i64 1, .int .i64 6, .int .i64 x347003_30] 23 (0, 0)) (by (with_reducible repeat (first | refine blk_drewN ?_ _ | refine blk_drew ?_ | refine blk_alloc ?_ _)); exact BK346.out) hb); have n2_ := Aside0.mk (blk_below (g := gb357) (o := .cells #[.int .i64 t351, .int .i64 t352, .int .i64 t353, .int .i64 t354, .int .i64 t355] 25 (0, 0)) (by (with_reducible repeat (first | refine blk_drewN ?_ _ | refine blk_drew ?_ | refine blk_alloc ?_ _)); exact BK357.out) hb); have n3_ := Aside0.mk (below_step (by repeat (first | (with_reducible first | exact HB.out | apply below_alloc | apply pw_below_drewN | apply below_drew1 | refine below_set ?_ GE344.out | refine below_set ?_ GE346.out | refine below_set ?_ GE357.out) | exact HB.out)) hb); have n4_ := Aside0.mk (hbox); have n5_ := Aside0.mk ((by rw [hg]; exact (below_size (by repeat (first | (with_reducible first | exact HB.out | apply below_alloc | apply pw_below_drewN | apply below_drew1 | refine below_set ?_ GE344.out | refine below_set ?_ GE346.out | refine below_set ?_ GE357.out) | exact HB.out))) : w.heap.size ≤ gb360)); have n6_ := Aside0.mk ((by rw [hg]; exact (below_size (by repeat (first | (with_reducible first | exact HB.out | apply below_alloc | apply pw_below_drewN | apply below_drew1 | refine below_set ?_ GE344.out | refine below_set ?_ GE346.out | refine below_set ?_ GE357.out) | exact HB.out))) : w.heap.size ≤ gb360)); have n7_ := Aside0.mk ((by rw [hg]; exact Nat.ne_of_lt (blk_lt (g := gb344) (o := .cells #[.int .i64 (wrap64 (1 + (Go.bits .and .i64 a1 7))), .int .i64 0, .int .i64 5, .int .i64 x345003_17] 23 (0, 0)) (by (with_reducible repeat (first | refine blk_drewN ?_ _ | refine blk_drew ?_ | refine blk_alloc ?_ _)); exact BK344.out)) : gb344 ≠ gb360)); have n8_ := Aside0.mk ((by rw [hg]; exact Nat.ne_of_gt (blk_lt (g := gb344) (o := .cells #[.int .i64 (wrap64 (1 + (Go.bits .and .i64 a1 7))), .int .i64 0, .int .i64 5, .int .i64 x345003_17] 23 (0, 0)) (by (with_reducible repeat (first | refine blk_drewN ?_ _ | refine blk_drew ?_ | refine blk_alloc ?_ _)); exact BK344.out)) : gb360 ≠ gb344)); have n9_ := Aside0.mk ((by rw [hg]; exact Nat.ne_of_lt (blk_lt (g := gb346) (o := .cells #[.int .i64 (wrap64 (1 + (Go.bits .and .i64 a2 7))), .int .i64 1, .int .i64 6, .int .i64 x347003_30] 23 (0, 0)) (by (with_reducible repeat (first | refine blk_drewN ?_ _ | refine blk_drew ?_ | refine blk_alloc ?_ _)); exact BK346.out)) : gb346 ≠ gb360)); have n10_ := Aside0.mk ((by rw [hg]; exact Nat.ne_of_gt (blk_lt (g := gb346) (o := .cells #[.int .i64 (wrap64 (1 + (Go.bits .and .i64 a2 7))), .int .i64 1, .int .i64 6, .int .i64 x347003_30] 23 (0, 0)) (by (with_reducible repeat (first | refine blk_drewN ?_ _ | refine blk_drew ?_ | refine blk_alloc ?_ _)); exact BK346.out)) : gb360 ≠ gb346)); have n11_ := Aside0.mk ((by rw [hg]; exact Nat.ne_of_lt (blk_lt (g := gb357) (o := .cells #[.int .i64 t351, .int .i64 t352, .int .i64 t353, .int .i64 t354, .int .i64 t355] 25 (0, 0)) (by (with_reducible repeat (first | refine blk_drewN ?_ _ | refine blk_drew ?_ | refine blk_alloc ?_ _)); exact BK357.out)) : gb357 ≠ gb360)); have n12_ := Aside0.mk ((by rw [hg]; exact Nat.ne_of_gt (blk_lt (g := gb357) (o := .cells #[.int .i64 t351, .int .i64 t352, .int .i64 t353, .int .i64 t354, .int .i64 t355] 25 (0, 0)) (by (with_reducible repeat (first | refine blk_drewN ?_ _ | refine blk_drew ?_ | refine blk_alloc ?_ _)); exact BK357.out)) : gb360 ≠ gb357)); clear BK344; clear BK346; clear BK357; clear HB; have BK344 := n0_; have BK346 := n1_; have BK357 := n2_; have HB := n3_; have BK360 := n4_; have GW360 := n5_; have GE360 := n6_; have NB344_360 := n7_; have NB360_344 := n8_; have NB346_360 := n9_; have NB360_346 := n10_; have NB357_360 := n11_; have NB360_357 := n12_; clear n0_ n1_ n2_ n3_ n4_ n5_ n6_ n7_ n8_ n9_ n10_ n11_ n12_; clear hb hbox hg; have hnb59 := NB360_344.out; have hnc59 := NB344_360.out; have hnb60 := NB360_346.out; have hnc60 := NB346_360.out; have hnb61 := NB360_357.out; have hnc61 := NB357_360.out; have hcz62_0 : w58.cell? ⟨gb360, 0, none⟩ = some (.int .i64 0) := (blk_cell BK360.out 0).trans rfl; have hcz62_1 : w58.cell? ⟨gb360, 1, none⟩ = some (.int .i64 0) := (blk_cell BK360.out 1).trans rfl; have hcz62_2 : w58.cell? ⟨gb360, 2, none⟩ = some (.int .i64 0) := (blk_cell BK360.out 2).trans rfl; have hcz62_3 : w58.cell? ⟨gb360, 3, none⟩ = some (.int .i64 0) := (blk_cell BK360.out 3).trans rfl; have hcz62_4 : w58.cell? ⟨gb360, 4, none⟩ = some (.int .i64 0) := (blk_cell BK360.out 4).trans rfl; have hfz62_0 := blk_frozen BK360.out 0; have hfz62_1 := blk_frozen BK360.out 1; have hfz62_2 := blk_frozen BK360.out 2; have hfz62_3 := blk_frozen BK360.out 3; have hfz62_4 := blk_frozen BK360.out 4)); go_upto_region 18 with (first | (go_at_call 18; (with_reducible refine (skiffref1_PutEntry.calls (wrap64 (1 + (Go.bits .and .i64 a1 7))) 0 5 x345003_17 t347 t348 _ A35.out).mono ?_); rintro e w48 ⟨rfl, hb⟩; have n0_ := Aside0.mk (blk_below (g := gb344) (o := .cells #[.int .i64 (wrap64 (1 + (Go.bits .and .i64 a1 7))), .int .i64 0, .int .i64 5, .int .i64 x345003_17] 23 (0, 0)) (by (with_reducible repeat (first | refine blk_drewN ?_ _ | refine blk_drew ?_ | refine blk_alloc ?_ _)); exact BK344.out) hb); have n1_ := Aside0.mk (blk_below (g := gb346) (o := .cells #[.int .i64 (wrap64 (1 + (Go.bits .and .i64 a2 7))), .int .i64 1, .int .i64 6, .int .i64 x347003_30] 23 (0, 0)) (by (with_reducible repeat (first | refine blk_drewN ?_ _ | refine blk_drew ?_ | refine blk_alloc ?_ _)); exact BK346.out) hb); have n2_ := Aside0.mk (below_step (by repeat (first | (with_reducible first | exact HB.out | apply below_alloc | apply pw_below_drewN | apply below_drew1 | refine below_set ?_ GE344.out | refine below_set ?_ GE346.out) | exact HB.out)) hb); clear BK344; clear BK346; clear HB; have BK344 := n0_; have BK346 := n1_; have HB := n2_; clear n0_ n1_ n2_; (try clear hb); (try clear hb2); (try clear hk); (try clear hi); have hcz49_0 : w48.cell? ⟨gb346, 0, none⟩ = some (.int .i64 (wrap64 (1 + (Go.bits .and .i64 a2 7)))) := (blk_cell BK346.out 0).trans rfl; have hcz49_1 : w48.cell? ⟨gb346, 1, none⟩ = some (.int .i64 1) := (blk_cell BK346.out 1).trans rfl; have hcz49_2 : w48.cell? ⟨gb346, 2, none⟩ = some (.int .i64 6) := (blk_cell BK346.out 2).trans rfl; have hcz49_3 : w48.cell? ⟨gb346, 3, none⟩ = some (.int .i64 x347003_30) := (blk_cell BK346.out 3).trans rfl; have hfz49_0 := blk_frozen BK346.out 0; have hfz49_1 := blk_frozen BK346.out 1; have hfz49_2 := blk_frozen BK346.out 2; have hfz49_3 := blk_frozen BK346.out 3) | (go_at_call 18; (with_reducible refine (skiffref1_PutEntry.calls (wrap64 (1 + (Go.bits .and .i64 a2 7))) 1 6 x347003_30 t349 t350 _ A36.out).mono ?_); rintro e w50 ⟨rfl, hb⟩; have n0_ := Aside0.mk (blk_below (g := gb344) (o := .cells #[.int .i64 (wrap64 (1 + (Go.bits .and .i64 a1 7))), .int .i64 0, .int .i64 5, .int .i64 x345003_17] 23 (0, 0)) (by (with_reducible repeat (first | refine blk_drewN ?_ _ | refine blk_drew ?_ | refine blk_alloc ?_ _)); exact BK344.out) hb); have n1_ := Aside0.mk (blk_below (g := gb346) (o := .cells #[.int .i64 (wrap64 (1 + (Go.bits .and .i64 a2 7))), .int .i64 1, .int .i64 6, .int .i64 x347003_30] 23 (0, 0)) (by (with_reducible repeat (first | refine blk_drewN ?_ _ | refine blk_drew ?_ | refine blk_alloc ?_ _)); exact BK346.out) hb); have n2_ := Aside0.mk (below_step (by repeat (first | (with_reducible first | exact HB.out | apply below_alloc | apply pw_below_drewN | apply below_drew1 | refine below_set ?_ GE344.out | refine below_set ?_ GE346.out) | exact HB.out)) hb); clear BK344; clear BK346; clear HB; have BK344 := n0_; have BK346 := n1_; have HB := n2_; clear n0_ n1_ n2_; (try clear hb); (try clear hb2); (try clear hk); (try clear hi)) | (go_at_call 8; (with_reducible refine (choose_Active.calls (((t347 ++ (fx.extract 24 96)) ++ t349) ++ (fx.extract 120 fx.size)) t351 t352 t353 t354 t355 t356 _ A43.out).mono ?_); rintro e w51 ⟨rfl, hb⟩; have n0_ := Aside0.mk (blk_below (g := gb344) (o := .cells #[.int .i64 (wrap64 (1 + (Go.bits .and .i64 a1 7))), .int .i64 0, .int .i64 5, .int .i64 x345003_17] 23 (0, 0)) (by (with_reducible repeat (first | refine blk_drewN ?_ _ | refine blk_drew ?_ | refine blk_alloc ?_ _)); exact BK344.out) hb); have n1_ := Aside0.mk (blk_below (g := gb346) (o := .cells #[.int .i64 (wrap64 (1 + (Go.bits .and .i64 a2 7))), .int .i64 1, .int .i64 6, .int .i64 x347003_30] 23 (0, 0)) (by (with_reducible repeat (first | refine blk_drewN ?_ _ | refine blk_drew ?_ | refine blk_alloc ?_ _)); exact BK346.out) hb); have n2_ := Aside0.mk (below_step (by repeat (first | (with_reducible first | exact HB.out | apply below_alloc | apply pw_below_drewN | apply below_drew1 | refine below_set ?_ GE344.out | refine below_set ?_ GE346.out) | exact HB.out)) hb); clear BK344; clear BK346; clear HB; have BK344 := n0_; have BK346 := n1_; have HB := n2_; clear n0_ n1_ n2_; (try clear hb); (try clear hb2); (try clear hk); (try clear hi)) | ((with_reducible refine gate_dst (N := 16) rfl ?_); refine box_event ?hg (N := 16) ?hd (cs := #[.int .i64 0, .int .i64 0, .int .i64 0, .int .i64 0, .int .i64 0]) (t := 25) ?hr ?_; (case hd => rfl); (case hg => rfl); (case hr => first | (go_simp; done) | (go_simp; rfl)); intro gb357 hg w52 hbox hb; have n0_ := Aside0.mk (blk_below (g := gb344) (o := .cells #[.int .i64 (wrap64 (1 + (Go.bits .and .i64 a1 7))), .int .i64 0, .int .i64 5, .int .i64 x345003_17] 23 (0, 0)) (by (with_reducible repeat (first | refine blk_drewN ?_ _ | refine blk_drew ?_ | refine blk_alloc ?_ _)); exact BK344.out) hb); have n1_ := Aside0.mk (blk_below (g := gb346) (o := .cells #[.int .i64 (wrap64 (1 + (Go.bits .and .i64 a2 7))), .int .i64 1, .int .i64 6, .int .i64 x347003_30] 23 (0, 0)) (by (with_reducible repeat (first | refine blk_drewN ?_ _ | refine blk_drew ?_ | refine blk_alloc ?_ _)); exact BK346.out) hb); have n2_ := Aside0.mk (below_step (by repeat (first | (with_reducible first | exact HB.out | apply below_alloc | apply pw_below_drewN | apply below_drew1 | refine below_set ?_ GE344.out | refine below_set ?_ GE346.out) | exact HB.out)) hb); have n3_ := Aside0.mk (hbox); have n4_ := Aside0.mk ((by rw [hg]; exact (below_size (by repeat (first | (with_reducible first | exact HB.out | apply below_alloc | apply pw_below_drewN | apply below_drew1 | refine below_set ?_ GE344.out | refine below_set ?_ GE346.out) | exact HB.out))) : w.heap.size ≤ gb357)); have n5_ := Aside0.mk ((by rw [hg]; exact (below_size (by repeat (first | (with_reducible first | exact HB.out | apply below_alloc | apply pw_below_drewN | apply below_drew1 | refine below_set ?_ GE344.out | refine below_set ?_ GE346.out) | exact HB.out))) : w.heap.size ≤ gb357)); have n6_ := Aside0.mk ((by rw [hg]; exact Nat.ne_of_lt (blk_lt (g := gb344) (o := .cells #[.int .i64 (wrap64 (1 + (Go.bits .and .i64 a1 7))), .int .i64 0, .int .i64 5, .int .i64 x345003_17] 23 (0, 0)) (by (with_reducible repeat (first | refine blk_drewN ?_ _ | refine blk_drew ?_ | refine blk_alloc ?_ _)); exact BK344.out)) : gb344 ≠ gb357)); have n7_ := Aside0.mk ((by rw [hg]; exact Nat.ne_of_gt (blk_lt (g := gb344) (o := .cells #[.int .i64 (wrap64 (1 + (Go.bits .and .i64 a1 7))), .int .i64 0, .int .i64 5, .int .i64 x345003_17] 23 (0, 0)) (by (with_reducible repeat (first | refine blk_drewN ?_ _ | refine blk_drew ?_ | refine blk_alloc ?_ _)); exact BK344.out)) : gb357 ≠ gb344)); have n8_ := Aside0.mk ((by rw [hg]; exact Nat.ne_of_lt (blk_lt (g := gb346) (o := .cells #[.int .i64 (wrap64 (1 + (Go.bits .and .i64 a2 7))), .int .i64 1, .int .i64 6, .int .i64 x347003_30] 23 (0, 0)) (by (with_reducible repeat (first | refine blk_drewN ?_ _ | refine blk_drew ?_ | refine blk_alloc ?_ _)); exact BK346.out)) : gb346 ≠ gb357)); have n9_ := Aside0.mk ((by rw [hg]; exact Nat.ne_of_gt (blk_lt (g := gb346) (o := .cells #[.int .i64 (wrap64 (1 + (Go.bits .and .i64 a2 7))), .int .i64 1, .int .i64 6, .int .i64 x347003_30] 23 (0, 0)) (by (with_reducible repeat (first | refine blk_drewN ?_ _ | refine blk_drew ?_ | refine blk_alloc ?_ _)); exact BK346.out)) : gb357 ≠ gb346)); clear BK344; clear BK346; clear HB; have BK344 := n0_; have BK346 := n1_; have HB := n2_; have BK357 := n3_; have GW357 := n4_; have GE357 := n5_; have NB344_357 := n6_; have NB357_344 := n7_; have NB346_357 := n8_; have NB357_346 := n9_; clear n0_ n1_ n2_ n3_ n4_ n5_ n6_ n7_ n8_ n9_; clear hb hbox hg; have hnb53 := NB357_344.out; have hnc53 := NB344_357.out; have hnb54 := NB357_346.out; have hnc54 := NB346_357.out; have hcz55_0 : w52.cell? ⟨gb357, 0, none⟩ = some (.int .i64 0) := (blk_cell BK357.out 0).trans rfl; have hcz55_1 : w52.cell? ⟨gb357, 1, none⟩ = some (.int .i64 0) := (blk_cell BK357.out 1).trans rfl; have hcz55_2 : w52.cell? ⟨gb357, 2, none⟩ = some (.int .i64 0) := (blk_cell BK357.out 2).trans rfl; have hcz55_3 : w52.cell? ⟨gb357, 3, none⟩ = some (.int .i64 0) := (blk_cell BK357.out 3).trans rfl; have hcz55_4 : w52.cell? ⟨gb357, 4, none⟩ = some (.int .i64 0) := (blk_cell BK357.out 4).trans rfl; have hfz55_0 := blk_frozen BK357.out 0; have hfz55_1 := blk_frozen BK357.out 1; have hfz55_2 := blk_frozen BK357.out 2; have hfz55_3 := blk_frozen BK357.out 3; have hfz55_4 := blk_frozen BK357.out 4) | (go_at_call 10; (with_reducible refine (choose_Other.calls (((t347 ++ (fx.extract 24 96)) ++ t349) ++ (fx.extract 120 fx.size)) t358 t359 _ A44.out).mono ?_); rintro e w56 ⟨rfl, hb⟩; have n0_ := Aside0.mk (blk_below (g := gb344) (o := .cells #[.int .i64 (wrap64 (1 + (Go.bits .and .i64 a1 7))), .int .i64 0, .int .i64 5, .int .i64 x345003_17] 23 (0, 0)) (by (with_reducible repeat (first | refine blk_drewN ?_ _ | refine blk_drew ?_ | refine blk_alloc ?_ _)); refine blk_far ?_ NB344_357.out _; (with_reducible repeat (first | refine blk_drewN ?_ _ | refine blk_drew ?_ | refine blk_alloc ?_ _)); refine blk_far ?_ NB344_357.out _; (with_reducible repeat (first | refine blk_drewN ?_ _ | refine blk_drew ?_ | refine blk_alloc ?_ _)); refine blk_far ?_ NB344_357.out _; (with_reducible repeat (first | refine blk_drewN ?_ _ | refine blk_drew ?_ | refine blk_alloc ?_ _)); refine blk_far ?_ NB344_357.out _; (with_reducible repeat (first | refine blk_drewN ?_ _ | refine blk_drew ?_ | refine blk_alloc ?_ _)); refine blk_far ?_ NB344_357.out _; (with_reducible repeat (first | refine blk_drewN ?_ _ | refine blk_drew ?_ | refine blk_alloc ?_ _)); exact BK344.out) hb); have n1_ := Aside0.mk (blk_below (g := gb346) (o := .cells #[.int .i64 (wrap64 (1 + (Go.bits .and .i64 a2 7))), .int .i64 1, .int .i64 6, .int .i64 x347003_30] 23 (0, 0)) (by (with_reducible repeat (first | refine blk_drewN ?_ _ | refine blk_drew ?_ | refine blk_alloc ?_ _)); refine blk_far ?_ NB346_357.out _; (with_reducible repeat (first | refine blk_drewN ?_ _ | refine blk_drew ?_ | refine blk_alloc ?_ _)); refine blk_far ?_ NB346_357.out _; (with_reducible repeat (first | refine blk_drewN ?_ _ | refine blk_drew ?_ | refine blk_alloc ?_ _)); refine blk_far ?_ NB346_357.out _; (with_reducible repeat (first | refine blk_drewN ?_ _ | refine blk_drew ?_ | refine blk_alloc ?_ _)); refine blk_far ?_ NB346_357.out _; (with_reducible repeat (first | refine blk_drewN ?_ _ | refine blk_drew ?_ | refine blk_alloc ?_ _)); refine blk_far ?_ NB346_357.out _; (with_reducible repeat (first | refine blk_drewN ?_ _ | refine blk_drew ?_ | refine blk_alloc ?_ _)); exact BK346.out) hb); have n2_ := Aside0.mk (blk_below (g := gb357) (o := .cells #[.int .i64 t351, .int .i64 t352, .int .i64 t353, .int .i64 t354, .int .i64 t355] 25 (0, 0)) (by (with_reducible repeat (first | refine blk_drewN ?_ _ | refine blk_drew ?_ | refine blk_alloc ?_ _)); refine blk_put (cs := #[.int .i64 t351, .int .i64 t352, .int .i64 t353, .int .i64 t354, .int .i64 0]) ?_ 4 _ rfl; (with_reducible repeat (first | refine blk_drewN ?_ _ | refine blk_drew ?_ | refine blk_alloc ?_ _)); refine blk_put (cs := #[.int .i64 t351, .int .i64 t352, .int .i64 t353, .int .i64 0, .int .i64 0]) ?_ 3 _ rfl; (with_reducible repeat (first | refine blk_drewN ?_ _ | refine blk_drew ?_ | refine blk_alloc ?_ _)); refine blk_put (cs := #[.int .i64 t351, .int .i64 t352, .int .i64 0, .int .i64 0, .int .i64 0]) ?_ 2 _ rfl; (with_reducible repeat (first | refine blk_drewN ?_ _ | refine blk_drew ?_ | refine blk_alloc ?_ _)); refine blk_put (cs := #[.int .i64 t351, .int .i64 0, .int .i64 0, .int .i64 0, .int .i64 0]) ?_ 1 _ rfl; (with_reducible repeat (first | refine blk_drewN ?_ _ | refine blk_drew ?_ | refine blk_alloc ?_ _)); refine blk_put (cs := #[.int .i64 0, .int .i64 0, .int .i64 0, .int .i64 0, .int .i64 0]) ?_ 0 _ rfl; (with_reducible repeat (first | refine blk_drewN ?_ _ | refine blk_drew ?_ | refine blk_alloc ?_ _)); exact BK357.out) hb); have n3_ := Aside0.mk (below_step (by repeat (first | (with_reducible first | exact HB.out | apply below_alloc | apply pw_below_drewN | apply below_drew1 | refine below_set ?_ GE344.out | refine below_set ?_ GE346.out | refine below_set ?_ GE357.out) | exact HB.out)) hb); clear BK344; clear BK346; clear BK357; clear HB; have BK344 := n0_; have BK346 := n1_; have BK357 := n2_; have HB := n3_; clear n0_ n1_ n2_ n3_; (try clear hb); (try clear hb2); (try clear hk); (try clear hi); have hcz57_0 : w56.cell? ⟨gb346, 0, none⟩ = some (.int .i64 (wrap64 (1 + (Go.bits .and .i64 a2 7)))) := (blk_cell BK346.out 0).trans rfl; have hcz57_1 : w56.cell? ⟨gb346, 1, none⟩ = some (.int .i64 1) := (blk_cell BK346.out 1).trans rfl; have hcz57_2 : w56.cell? ⟨gb346, 2, none⟩ = some (.int .i64 6) := (blk_cell BK346.out 2).trans rfl; have hcz57_3 : w56.cell? ⟨gb346, 3, none⟩ = some (.int .i64 x347003_30) := (blk_cell BK346.out 3).trans rfl; have hfz57_0 := blk_frozen BK346.out 0; have hfz57_1 := blk_frozen BK346.out 1; have hfz57_2 := blk_frozen BK346.out 2; have hfz57_3 := blk_frozen BK346.out 3) | ((with_reducible refine gate_dst (N := 20) rfl ?_); refine box_event ?hg (N := 20) ?hd (cs := #[.int .i64 0, .int .i64 0, .int .i64 0, .int .i64 0, .int .i64 0]) (t := 25) ?hr ?_; (case hd => rfl); (case hg => rfl); (case hr => first | (go_simp; done) | (go_simp; rfl)); intro gb360 hg w58 hbox hb; have n0_ := Aside0.mk (blk_below (g := gb344) (o := .cells #[.int .i64 (wrap64 (1 + (Go.bits .and .i64 a1 7))), .int .i64 0, .int .i64 5, .int .i64 x345003_17] 23 (0, 0)) (by (with_reducible repeat (first | refine blk_drewN ?_ _ | refine blk_drew ?_ | refine blk_alloc ?_ _)); exact BK344.out) hb); have n1_ := Aside0.mk (blk_below (g := gb346) (o := .cells #[.int .i64 (wrap64 (1 + (Go.bits .and .i64 a2 7))), .int .i64 1, .int .i64 6, .int .i64 x347003_30] 23 (0, 0)) (by (with_reducible repeat (first | refine blk_drewN ?_ _ | refine blk_drew ?_ | refine blk_alloc ?_ _)); exact BK346.out) hb); have n2_ := Aside0.mk (blk_below (g := gb357) (o := .cells #[.int .i64 t351, .int .i64 t352, .int .i64 t353, .int .i64 t354, .int .i64 t355] 25 (0, 0)) (by (with_reducible repeat (first | refine blk_drewN ?_ _ | refine blk_drew ?_ | refine blk_alloc ?_ _)); exact BK357.out) hb); have n3_ := Aside0.mk (below_step (by repeat (first | (with_reducible first | exact HB.out | apply below_alloc | apply pw_below_drewN | apply below_drew1 | refine below_set ?_ GE344.out | refine below_set ?_ GE346.out | refine below_set ?_ GE357.out) | exact HB.out)) hb); have n4_ := Aside0.mk (hbox); have n5_ := Aside0.mk ((by rw [hg]; exact (below_size (by repeat (first | (with_reducible first | exact HB.out | apply below_alloc | apply pw_below_drewN | apply below_drew1 | refine below_set ?_ GE344.out | refine below_set ?_ GE346.out | refine below_set ?_ GE357.out) | exact HB.out))) : w.heap.size ≤ gb360)); have n6_ := Aside0.mk ((by rw [hg]; exact (below_size (by repeat (first | (with_reducible first | exact HB.out | apply below_alloc | apply pw_below_drewN | apply below_drew1 | refine below_set ?_ GE344.out | refine below_set ?_ GE346.out | refine below_set ?_ GE357.out) | exact HB.out))) : w.heap.size ≤ gb360)); have n7_ := Aside0.mk ((by rw [hg]; exact Nat.ne_of_lt (blk_lt (g := gb344) (o := .cells #[.int .i64 (wrap64 (1 + (Go.bits .and .i64 a1 7))), .int .i64 0, .int .i64 5, .int .i64 x345003_17] 23 (0, 0)) (by (with_reducible repeat (first | refine blk_drewN ?_ _ | refine blk_drew ?_ | refine blk_alloc ?_ _)); exact BK344.out)) : gb344 ≠ gb360)); have n8_ := Aside0.mk ((by rw [hg]; exact Nat.ne_of_gt (blk_lt (g := gb344) (o := .cells #[.int .i64 (wrap64 (1 + (Go.bits .and .i64 a1 7))), .int .i64 0, .int .i64 5, .int .i64 x345003_17] 23 (0, 0)) (by (with_reducible repeat (first | refine blk_drewN ?_ _ | refine blk_drew ?_ | refine blk_alloc ?_ _)); exact BK344.out)) : gb360 ≠ gb344)); have n9_ := Aside0.mk ((by rw [hg]; exact Nat.ne_of_lt (blk_lt (g := gb346) (o := .cells #[.int .i64 (wrap64 (1 + (Go.bits .and .i64 a2 7))), .int .i64 1, .int .i64 6, .int .i64 x347003_30] 23 (0, 0)) (by (with_reducible repeat (first | refine blk_drewN ?_ _ | refine blk_drew ?_ | refine blk_alloc ?_ _)); exact BK346.out)) : gb346 ≠ gb360)); have n10_ := Aside0.mk ((by rw [hg]; exact Nat.ne_of_gt (blk_lt (g := gb346) (o := .cells #[.int .i64 (wrap64 (1 + (Go.bits .and .i64 a2 7))), .int .i64 1, .int .i64 6, .int .i64 x347003_30] 23 (0, 0)) (by (with_reducible repeat (first | refine blk_drewN ?_ _ | refine blk_drew ?_ | refine blk_alloc ?_ _)); exact BK346.out)) : gb360 ≠ gb346)); have n11_ := Aside0.mk ((by rw [hg]; exact Nat.ne_of_lt (blk_lt (g := gb357) (o := .cells #[.int .i64 t351, .int .i64 t352, .int .i64 t353, .int .i64 t354, .int .i64 t355] 25 (0, 0)) (by (with_reducible repeat (first | refine blk_drewN ?_ _ | refine blk_drew ?_ | refine blk_alloc ?_ _)); exact BK357.out)) : gb357 ≠ gb360)); have n12_ := Aside0.mk ((by rw [hg]; exact Nat.ne_of_gt (blk_lt (g := gb357) (o := .cells #[.int .i64 t351, .int .i64 t352, .int .i64 t353, .int .i64 t354, .int .i64 t355] 25 (0, 0)) (by (with_reducible repeat (first | refine blk_drewN ?_ _ | refine blk_drew ?_ | refine blk_alloc ?_ _)); exact BK357.out)) : gb360 ≠ gb357)); clear BK344; clear BK346; clear BK357; clear HB; have BK344 := n0_; have BK346 := n1_; have BK357 := n2_; have HB := n3_; have BK360 := n4_; have GW360 := n5_; have GE360 := n6_; have NB344_360 := n7_; have NB360_344 := n8_; have NB346_360 := n9_; have NB360_346 := n10_; have NB357_360 := n11_; have NB360_357 := n12_; clear n0_ n1_ n2_ n3_ n4_ n5_ n6_ n7_ n8_ n9_ n10_ n11_ n12_; clear hb hbox hg; have hnb59 := NB360_344.out; have hnc59 := NB344_360.out; have hnb60 := NB360_346.out; have hnc60 := NB346_360.out; have hnb61 := NB360_357.out; have hnc61 := NB357_360.out; have hcz62_0 : w58.cell? ⟨gb360, 0, none⟩ = some (.int .i64 0) := (blk_cell BK360.out 0).trans rfl; have hcz62_1 : w58.cell? ⟨gb360, 1, none⟩ = some (.int .i64 0) := (blk_cell BK360.out 1).trans rfl; have hcz62_2 : w58.cell? ⟨gb360, 2, none⟩ = some (.int .i64 0) := (blk_cell BK360.out 2).trans rfl; have hcz62_3 : w58.cell? ⟨gb360, 3, none⟩ = some (.int .i64 0) := (blk_cell BK360.out 3).trans rfl; have hcz62_4 : w58.cell? ⟨gb360, 4, none⟩ = some (.int .i64 0) := (blk_cell BK360.out 4).trans rfl; have hfz62_0 := blk_frozen BK360.out 0; have hfz62_1 := blk_frozen BK360.out 1; have hfz62_2 := blk_frozen BK360.out 2; have hfz62_3 := blk_frozen BK360.out 3; have hfz62_4 := blk_frozen BK360.out 4)))
     (try simp only [Act.put, List.setIfInBounds_toArray, List.set_cons_zero, List.set_cons_succ])
     go_cut [104] (fun v104 wc => ∃ (kq : Nat) (x104_44 : Bool), v104 = .bool x104_44 ∧ Aside0 (skifflaw7_ChooseTable.j2 kq a0 t356 t358 t359 0 x104_44 (wrap64 (1 + (Go.bits .and .i64 a1 7))) 0 5 x345003_17 t351 t352 t353 t354 t355 96 (wrap64 (1 + (Go.bits .and .i64 a2 7))) 1 6 x347003_30 = some r) ∧ Aside0 (kq ≤ kj30) ∧ Aside0 (wc.heap[gb344]? = some (.cells #[.int .i64 (wrap64 (1 + (Go.bits .and .i64 a1 7))), .int .i64 0, .int .i64 5, .int .i64 x345003_17] 23 (0, 0))) ∧ Aside0 (wc.heap[gb346]? = some (.cells #[.int .i64 (wrap64 (1 + (Go.bits .and .i64 a2 7))), .int .i64 1, .int .i64 6, .int .i64 x347003_30] 23 (0, 0))) ∧ Aside0 (wc.heap[gb357]? = some (.cells #[.int .i64 t351, .int .i64 t352, .int .i64 t353, .int .i64 t354, .int .i64 t355] 25 (0, 0))) ∧ Aside0 (wc.heap[gb360]? = some (.cells #[.int .i64 96, .int .i64 (wrap64 (1 + (Go.bits .and .i64 a2 7))), .int .i64 1, .int .i64 6, .int .i64 x347003_30] 25 (0, 0))) ∧ Aside0 (Below w.heap.size w wc))
     case first =>
      have H := HC45.out
      clear HC45
      by_cases c63 : (Go.bits .and .i64 a0 2) = 2
      ·rw [if_pos c63] at H
       have c63b0 : ((Go.bits .and .i64 a0 2) == 2) = true := beq_iff_eq.mpr c63
       have c63b1 : ((Go.bits .and .i64 a0 2) != 2) = false := bne_eq_false_iff_eq.mpr c63
       clear c63
       (first | rw [c63b0] | rw [c63b1] | (simp only [i64_w, i32_w]; rw [c63b0]) | skip)
       have H' := Aside0.mk H
       clear H
       go_wp2
       repeat (go_quiet (fail); try go_wp2)
       go_meet
       case rel => exact ⟨_, (true), (by first | rfl | (simp; done) | (simp [*]; done)), H', ⟨by have := HJ17.out; have := HJ30.out; first | omega | exact Nat.le_refl _⟩, ⟨by (with_reducible repeat (first | refine blk_drewN ?_ _ | refine blk_drew ?_ | refine blk_alloc ?_ _)); refine blk_far ?_ NB344_360.out _; (with_reducible repeat (first | refine blk_drewN ?_ _ | refine blk_drew ?_ | refine blk_alloc ?_ _)); refine blk_far ?_ NB344_360.out _; (with_reducible repeat (first | refine blk_drewN ?_ _ | refine blk_drew ?_ | refine blk_alloc ?_ _)); refine blk_far ?_ NB344_360.out _; (with_reducible repeat (first | refine blk_drewN ?_ _ | refine blk_drew ?_ | refine blk_alloc ?_ _)); refine blk_far ?_ NB344_360.out _; (with_reducible repeat (first | refine blk_drewN ?_ _ | refine blk_drew ?_ | refine blk_alloc ?_ _)); refine blk_far ?_ NB344_360.out _; (with_reducible repeat (first | refine blk_drewN ?_ _ | refine blk_drew ?_ | refine blk_alloc ?_ _)); exact BK344.out⟩, ⟨by (with_reducible repeat (first | refine blk_drewN ?_ _ | refine blk_drew ?_ | refine blk_alloc ?_ _)); refine blk_far ?_ NB346_360.out _; (with_reducible repeat (first | refine blk_drewN ?_ _ | refine blk_drew ?_ | refine blk_alloc ?_ _)); refine blk_far ?_ NB346_360.out _; (with_reducible repeat (first | refine blk_drewN ?_ _ | refine blk_drew ?_ | refine blk_alloc ?_ _)); refine blk_far ?_ NB346_360.out _; (with_reducible repeat (first | refine blk_drewN ?_ _ | refine blk_drew ?_ | refine blk_alloc ?_ _)); refine blk_far ?_ NB346_360.out _; (with_reducible repeat (first | refine blk_drewN ?_ _ | refine blk_drew ?_ | refine blk_alloc ?_ _)); refine blk_far ?_ NB346_360.out _; (with_reducible repeat (first | refine blk_drewN ?_ _ | refine blk_drew ?_ | refine blk_alloc ?_ _)); exact BK346.out⟩, ⟨by (with_reducible repeat (first | refine blk_drewN ?_ _ | refine blk_drew ?_ | refine blk_alloc ?_ _)); refine blk_far ?_ NB357_360.out _; (with_reducible repeat (first | refine blk_drewN ?_ _ | refine blk_drew ?_ | refine blk_alloc ?_ _)); refine blk_far ?_ NB357_360.out _; (with_reducible repeat (first | refine blk_drewN ?_ _ | refine blk_drew ?_ | refine blk_alloc ?_ _)); refine blk_far ?_ NB357_360.out _; (with_reducible repeat (first | refine blk_drewN ?_ _ | refine blk_drew ?_ | refine blk_alloc ?_ _)); refine blk_far ?_ NB357_360.out _; (with_reducible repeat (first | refine blk_drewN ?_ _ | refine blk_drew ?_ | refine blk_alloc ?_ _)); refine blk_far ?_ NB357_360.out _; (with_reducible repeat (first | refine blk_drewN ?_ _ | refine blk_drew ?_ | refine blk_alloc ?_ _)); exact BK357.out⟩, ⟨by (with_reducible repeat (first | refine blk_drewN ?_ _ | refine blk_drew ?_ | refine blk_alloc ?_ _)); refine blk_put (cs := #[.int .i64 96, .int .i64 (wrap64 (1 + (Go.bits .and .i64 a2 7))), .int .i64 1, .int .i64 6, .int .i64 0]) ?_ 4 _ rfl; (with_reducible repeat (first | refine blk_drewN ?_ _ | refine blk_drew ?_ | refine blk_alloc ?_ _)); refine blk_put (cs := #[.int .i64 96, .int .i64 (wrap64 (1 + (Go.bits .and .i64 a2 7))), .int .i64 1, .int .i64 0, .int .i64 0]) ?_ 3 _ rfl; (with_reducible repeat (first | refine blk_drewN ?_ _ | refine blk_drew ?_ | refine blk_alloc ?_ _)); refine blk_put (cs := #[.int .i64 96, .int .i64 (wrap64 (1 + (Go.bits .and .i64 a2 7))), .int .i64 0, .int .i64 0, .int .i64 0]) ?_ 2 _ rfl; (with_reducible repeat (first | refine blk_drewN ?_ _ | refine blk_drew ?_ | refine blk_alloc ?_ _)); refine blk_put (cs := #[.int .i64 96, .int .i64 0, .int .i64 0, .int .i64 0, .int .i64 0]) ?_ 1 _ rfl; (with_reducible repeat (first | refine blk_drewN ?_ _ | refine blk_drew ?_ | refine blk_alloc ?_ _)); refine blk_put (cs := #[.int .i64 0, .int .i64 0, .int .i64 0, .int .i64 0, .int .i64 0]) ?_ 0 _ rfl; (with_reducible repeat (first | refine blk_drewN ?_ _ | refine blk_drew ?_ | refine blk_alloc ?_ _)); exact BK360.out⟩, ⟨by repeat (first | (with_reducible first | exact HB.out | apply below_alloc | apply pw_below_drewN | apply below_drew1 | refine below_set ?_ GE344.out | refine below_set ?_ GE346.out | refine below_set ?_ GE357.out | refine below_set ?_ GE360.out) | exact HB.out)⟩⟩
      ·rw [if_neg c63] at H
       have c63b0 : ((Go.bits .and .i64 a0 2) == 2) = false := beq_eq_false_iff_ne.mpr c63
       have c63b1 : ((Go.bits .and .i64 a0 2) != 2) = true := bne_iff_ne.mpr c63
       (first | rw [c63b0] | rw [c63b1] | (simp only [i64_w, i32_w]; rw [c63b0]) | skip)
       by_cases c64 : (Go.bits .and .i64 a0 1) = 0
       case neg =>
        rw [if_neg c64] at H
        have c64b0 : ((Go.bits .and .i64 a0 1) == 0) = false := beq_eq_false_iff_ne.mpr c64
        have c64b1 : ((Go.bits .and .i64 a0 1) != 0) = true := bne_iff_ne.mpr c64
        have H' := Aside0.mk H
        clear H
        go_wp2
        repeat (go_quiet (fail); try go_wp2)
        go_meet
        case rel => exact ⟨_, (false), (by first | rfl | (simp; done) | (simp [*]; done)), H', ⟨by have := HJ17.out; have := HJ30.out; first | omega | exact Nat.le_refl _⟩, ⟨by (with_reducible repeat (first | refine blk_drewN ?_ _ | refine blk_drew ?_ | refine blk_alloc ?_ _)); refine blk_far ?_ NB344_360.out _; (with_reducible repeat (first | refine blk_drewN ?_ _ | refine blk_drew ?_ | refine blk_alloc ?_ _)); refine blk_far ?_ NB344_360.out _; (with_reducible repeat (first | refine blk_drewN ?_ _ | refine blk_drew ?_ | refine blk_alloc ?_ _)); refine blk_far ?_ NB344_360.out _; (with_reducible repeat (first | refine blk_drewN ?_ _ | refine blk_drew ?_ | refine blk_alloc ?_ _)); refine blk_far ?_ NB344_360.out _; (with_reducible repeat (first | refine blk_drewN ?_ _ | refine blk_drew ?_ | refine blk_alloc ?_ _)); refine blk_far ?_ NB344_360.out _; (with_reducible repeat (first | refine blk_drewN ?_ _ | refine blk_drew ?_ | refine blk_alloc ?_ _)); exact BK344.out⟩, ⟨by (with_reducible repeat (first | refine blk_drewN ?_ _ | refine blk_drew ?_ | refine blk_alloc ?_ _)); refine blk_far ?_ NB346_360.out _; (with_reducible repeat (first | refine blk_drewN ?_ _ | refine blk_drew ?_ | refine blk_alloc ?_ _)); refine blk_far ?_ NB346_360.out _; (with_reducible repeat (first | refine blk_drewN ?_ _ | refine blk_drew ?_ | refine blk_alloc ?_ _)); refine blk_far ?_ NB346_360.out _; (with_reducible repeat (first | refine blk_drewN ?_ _ | refine blk_drew ?_ | refine blk_alloc ?_ _)); refine blk_far ?_ NB346_360.out _; (with_reducible repeat (first | refine blk_drewN ?_ _ | refine blk_drew ?_ | refine blk_alloc ?_ _)); refine blk_far ?_ NB346_360.out _; (with_reducible repeat (first | refine blk_drewN ?_ _ | refine blk_drew ?_ | refine blk_alloc ?_ _)); exact BK346.out⟩, ⟨by (with_reducible repeat (first | refine blk_drewN ?_ _ | refine blk_drew ?_ | refine blk_alloc ?_ _)); refine blk_far ?_ NB357_360.out _; (with_reducible repeat (first | refine blk_drewN ?_ _ | refine blk_drew ?_ | refine blk_alloc ?_ _)); refine blk_far ?_ NB357_360.out _; (with_reducible repeat (first | refine blk_drewN ?_ _ | refine blk_drew ?_ | refine blk_alloc ?_ _)); refine blk_far ?_ NB357_360.out _; (with_reducible repeat (first | refine blk_drewN ?_ _ | refine blk_drew ?_ | refine blk_alloc ?_ _)); refine blk_far ?_ NB357_360.out _; (with_reducible repeat (first | refine blk_drewN ?_ _ | refine blk_drew ?_ | refine blk_alloc ?_ _)); refine blk_far ?_ NB357_360.out _; (with_reducible repeat (first | refine blk_drewN ?_ _ | refine blk_drew ?_ | refine blk_alloc ?_ _)); exact BK357.out⟩, ⟨by (with_reducible repeat (first | refine blk_drewN ?_ _ | refine blk_drew ?_ | refine blk_alloc ?_ _)); refine blk_put (cs := #[.int .i64 96, .int .i64 (wrap64 (1 + (Go.bits .and .i64 a2 7))), .int .i64 1, .int .i64 6, .int .i64 0]) ?_ 4 _ rfl; (with_reducible repeat (first | refine blk_drewN ?_ _ | refine blk_drew ?_ | refine blk_alloc ?_ _)); refine blk_put (cs := #[.int .i64 96, .int .i64 (wrap64 (1 + (Go.bits .and .i64 a2 7))), .int .i64 1, .int .i64 0, .int .i64 0]) ?_ 3 _ rfl; (with_reducible repeat (first | refine blk_drewN ?_ _ | refine blk_drew ?_ | refine blk_alloc ?_ _)); refine blk_put (cs := #[.int .i64 96, .int .i64 (wrap64 (1 + (Go.bits .and .i64 a2 7))), .int .i64 0, .int .i64 0, .int .i64 0]) ?_ 2 _ rfl; (with_reducible repeat (first | refine blk_drewN ?_ _ | refine blk_drew ?_ | refine blk_alloc ?_ _)); refine blk_put (cs := #[.int .i64 96, .int .i64 0, .int .i64 0, .int .i64 0, .int .i64 0]) ?_ 1 _ rfl; (with_reducible repeat (first | refine blk_drewN ?_ _ | refine blk_drew ?_ | refine blk_alloc ?_ _)); refine blk_put (cs := #[.int .i64 0, .int .i64 0, .int .i64 0, .int .i64 0, .int .i64 0]) ?_ 0 _ rfl; (with_reducible repeat (first | refine blk_drewN ?_ _ | refine blk_drew ?_ | refine blk_alloc ?_ _)); exact BK360.out⟩, ⟨by repeat (first | (with_reducible first | exact HB.out | apply below_alloc | apply pw_below_drewN | apply below_drew1 | refine below_set ?_ GE344.out | refine below_set ?_ GE346.out | refine below_set ?_ GE357.out | refine below_set ?_ GE360.out) | exact HB.out)⟩⟩
       rw [if_pos c64] at H
       have c64b0 : ((Go.bits .and .i64 a0 1) == 0) = true := beq_iff_eq.mpr c64
       have c64b1 : ((Go.bits .and .i64 a0 1) != 0) = false := bne_eq_false_iff_eq.mpr c64
       clear c64
       have H' := Aside0.mk H
       clear H
       go_wp2
       repeat (go_quiet (fail); try go_wp2)
       go_meet
       case rel => exact ⟨_, (decide ((wrap64 (1 + (Go.bits .and .i64 a1 7))) > (wrap64 (1 + (Go.bits .and .i64 a2 7))))), (by first | rfl | (simp; done) | (simp [*]; done)), H', ⟨by have := HJ17.out; have := HJ30.out; first | omega | exact Nat.le_refl _⟩, ⟨by (with_reducible repeat (first | refine blk_drewN ?_ _ | refine blk_drew ?_ | refine blk_alloc ?_ _)); refine blk_far ?_ NB344_360.out _; (with_reducible repeat (first | refine blk_drewN ?_ _ | refine blk_drew ?_ | refine blk_alloc ?_ _)); refine blk_far ?_ NB344_360.out _; (with_reducible repeat (first | refine blk_drewN ?_ _ | refine blk_drew ?_ | refine blk_alloc ?_ _)); refine blk_far ?_ NB344_360.out _; (with_reducible repeat (first | refine blk_drewN ?_ _ | refine blk_drew ?_ | refine blk_alloc ?_ _)); refine blk_far ?_ NB344_360.out _; (with_reducible repeat (first | refine blk_drewN ?_ _ | refine blk_drew ?_ | refine blk_alloc ?_ _)); refine blk_far ?_ NB344_360.out _; (with_reducible repeat (first | refine blk_drewN ?_ _ | refine blk_drew ?_ | refine blk_alloc ?_ _)); exact BK344.out⟩, ⟨by (with_reducible repeat (first | refine blk_drewN ?_ _ | refine blk_drew ?_ | refine blk_alloc ?_ _)); refine blk_far ?_ NB346_360.out _; (with_reducible repeat (first | refine blk_drewN ?_ _ | refine blk_drew ?_ | refine blk_alloc ?_ _)); refine blk_far ?_ NB346_360.out _; (with_reducible repeat (first | refine blk_drewN ?_ _ | refine blk_drew ?_ | refine blk_alloc ?_ _)); refine blk_far ?_ NB346_360.out _; (with_reducible repeat (first | refine blk_drewN ?_ _ | refine blk_drew ?_ | refine blk_alloc ?_ _)); refine blk_far ?_ NB346_360.out _; (with_reducible repeat (first | refine blk_drewN ?_ _ | refine blk_drew ?_ | refine blk_alloc ?_ _)); refine blk_far ?_ NB346_360.out _; (with_reducible repeat (first | refine blk_drewN ?_ _ | refine blk_drew ?_ | refine blk_alloc ?_ _)); exact BK346.out⟩, ⟨by (with_reducible repeat (first | refine blk_drewN ?_ _ | refine blk_drew ?_ | refine blk_alloc ?_ _)); refine blk_far ?_ NB357_360.out _; (with_reducible repeat (first | refine blk_drewN ?_ _ | refine blk_drew ?_ | refine blk_alloc ?_ _)); refine blk_far ?_ NB357_360.out _; (with_reducible repeat (first | refine blk_drewN ?_ _ | refine blk_drew ?_ | refine blk_alloc ?_ _)); refine blk_far ?_ NB357_360.out _; (with_reducible repeat (first | refine blk_drewN ?_ _ | refine blk_drew ?_ | refine blk_alloc ?_ _)); refine blk_far ?_ NB357_360.out _; (with_reducible repeat (first | refine blk_drewN ?_ _ | refine blk_drew ?_ | refine blk_alloc ?_ _)); refine blk_far ?_ NB357_360.out _; (with_reducible repeat (first | refine blk_drewN ?_ _ | refine blk_drew ?_ | refine blk_alloc ?_ _)); exact BK357.out⟩, ⟨by (with_reducible repeat (first | refine blk_drewN ?_ _ | refine blk_drew ?_ | refine blk_alloc ?_ _)); refine blk_put (cs := #[.int .i64 96, .int .i64 (wrap64 (1 + (Go.bits .and .i64 a2 7))), .int .i64 1, .int .i64 6, .int .i64 0]) ?_ 4 _ rfl; (with_reducible repeat (first | refine blk_drewN ?_ _ | refine blk_drew ?_ | refine blk_alloc ?_ _)); refine blk_put (cs := #[.int .i64 96, .int .i64 (wrap64 (1 + (Go.bits .and .i64 a2 7))), .int .i64 1, .int .i64 0, .int .i64 0]) ?_ 3 _ rfl; (with_reducible repeat (first | refine blk_drewN ?_ _ | refine blk_drew ?_ | refine blk_alloc ?_ _)); refine blk_put (cs := #[.int .i64 96, .int .i64 (wrap64 (1 + (Go.bits .and .i64 a2 7))), .int .i64 0, .int .i64 0, .int .i64 0]) ?_ 2 _ rfl; (with_reducible repeat (first | refine blk_drewN ?_ _ | refine blk_drew ?_ | refine blk_alloc ?_ _)); refine blk_put (cs := #[.int .i64 96, .int .i64 0, .int .i64 0, .int .i64 0, .int .i64 0]) ?_ 1 _ rfl; (with_reducible repeat (first | refine blk_drewN ?_ _ | refine blk_drew ?_ | refine blk_alloc ?_ _)); refine blk_put (cs := #[.int .i64 0, .int .i64 0, .int .i64 0, .int .i64 0, .int .i64 0]) ?_ 0 _ rfl; (with_reducible repeat (first | refine blk_drewN ?_ _ | refine blk_drew ?_ | refine blk_alloc ?_ _)); exact BK360.out⟩, ⟨by repeat (first | (with_reducible first | exact HB.out | apply below_alloc | apply pw_below_drewN | apply below_drew1 | refine below_set ?_ GE344.out | refine below_set ?_ GE346.out | refine below_set ?_ GE357.out | refine below_set ?_ GE360.out) | exact HB.out)⟩⟩
     case rest =>
      clear HC45
      try clear c1
      try clear c2
      try clear p2
      try clear c3
      try clear c4
      try clear c5
      try clear c6
      try clear p6
      try clear c7
      try clear c7b0
      try clear c7b1
      try clear c8
      try clear c8b0
      try clear c8b1
      try clear c9
      try clear c9b0
      try clear c9b1
      try clear c9b2
      try clear c10
      try clear c10b0
      try clear c10b1
      try clear c11
      try clear c11b0
      try clear c11b1
      try clear c12
      try clear c12b0
      try clear c12b1
      try clear c12b2
      try clear c13
      try clear c13b0
      try clear c13b1
      try clear c13b2
      try clear c14
      try clear c14b0
      try clear c14b1
      try clear c15
      try clear c15b0
      try clear c15b1
      try clear c15b2
      try clear c26
      try clear c28
      try clear c28b0
      try clear c28b1
      try clear c29
      try clear c32
      try clear c32b0
      try clear c32b1
      try clear c33
      try clear c37
      try clear c37b0
      try clear c37b1
      try clear c38
      try clear c38b0
      try clear c38b1
      try clear c39
      try clear c39b0
      try clear c39b1
      try clear c39b2
      try clear c40
      try clear c40b0
      try clear c40b1
      try clear c40b2
      try clear c41
      try clear c41b0
      try clear c41b1
      try clear c42
      try clear c42b0
      try clear c42b1
      try clear c42b2
      try clear c46
      try clear c53
      try clear c54
      try clear c59
      try clear c60
      try clear c61
      try clear c63
      try clear c63b0
      try clear c63b1
      try clear c64
      try clear c64b0
      try clear c64b1
      try clear p64
      try clear hcz23_0
      try clear hcz23_1
      try clear hcz23_2
      try clear hcz23_3
      try clear hcz27_0
      try clear hcz27_1
      try clear hcz27_2
      try clear hcz27_3
      try clear hcz30_0
      try clear hcz30_1
      try clear hcz30_2
      try clear hcz30_3
      try clear hcz34_0
      try clear hcz34_1
      try clear hcz34_2
      try clear hcz34_3
      try clear hcz47_0
      try clear hcz47_1
      try clear hcz47_2
      try clear hcz47_3
      try clear hcz49_0
      try clear hcz49_1
      try clear hcz49_2
      try clear hcz49_3
      try clear hcz55_0
      try clear hcz55_1
      try clear hcz55_2
      try clear hcz55_3
      try clear hcz55_4
      try clear hcz57_0
      try clear hcz57_1
      try clear hcz57_2
      try clear hcz57_3
      try clear hcz62_0
      try clear hcz62_1
      try clear hcz62_2
      try clear hcz62_3
      try clear hcz62_4
      try clear hfz23_0
      try clear hfz23_1
      try clear hfz23_2
      try clear hfz23_3
      try clear hfz27_0
      try clear hfz27_1
      try clear hfz27_2
      try clear hfz27_3
      try clear hfz30_0
      try clear hfz30_1
      try clear hfz30_2
      try clear hfz30_3
      try clear hfz34_0
      try clear hfz34_1
      try clear hfz34_2
      try clear hfz34_3
      try clear hfz47_0
      try clear hfz47_1
      try clear hfz47_2
      try clear hfz47_3
      try clear hfz49_0
      try clear hfz49_1
      try clear hfz49_2
      try clear hfz49_3
      try clear hfz55_0
      try clear hfz55_1
      try clear hfz55_2
      try clear hfz55_3
      try clear hfz55_4
      try clear hfz57_0
      try clear hfz57_1
      try clear hfz57_2
      try clear hfz57_3
      try clear hfz62_0
      try clear hfz62_1
      try clear hfz62_2
      try clear hfz62_3
      try clear hfz62_4
      try clear p2
      try clear p6
      obtain ⟨kq, x104_44, rfl, HA, HJ44, BK344, BK346, BK357, BK360, HB⟩ := hcut
      cases kq with
      | zero => exact absurd HA.out (by simp [skifflaw7_ChooseTable.j2])
      | succ kj44 =>
       have H := HA.out
       clear HA
       simp only [skifflaw7_ChooseTable.j2] at H
       have HC65 := Aside0.mk H
       clear H
       go_upto_if 104 with (fail)
       repeat (go_quiet (fail); go_upto_if 104 with (fail))
       go_cut [21] (fun v21 wc => ∃ (kq : Nat) (x21_64 : Int) (x361000_64 : Int) (x361001_64 : Int) (x361002_64 : Int) (x361003_64 : Int) (x361004_64 : Int), v21 = .int .i64 x21_64 ∧ Aside0 (skifflaw7_ChooseTable.j3 kq a0 t356 t358 t359 x21_64 t351 t352 t353 t354 t355 x361000_64 x361001_64 x361002_64 x361003_64 x361004_64 = some r) ∧ Aside0 (kq ≤ kj44) ∧ Aside0 (wc.heap[gb344]? = some (.cells #[.int .i64 (wrap64 (1 + (Go.bits .and .i64 a1 7))), .int .i64 0, .int .i64 5, .int .i64 x345003_17] 23 (0, 0))) ∧ Aside0 (wc.heap[gb346]? = some (.cells #[.int .i64 (wrap64 (1 + (Go.bits .and .i64 a2 7))), .int .i64 1, .int .i64 6, .int .i64 x347003_30] 23 (0, 0))) ∧ Aside0 (wc.heap[gb357]? = some (.cells #[.int .i64 t351, .int .i64 t352, .int .i64 t353, .int .i64 t354, .int .i64 t355] 25 (0, 0))) ∧ Aside0 (wc.heap[gb360]? = some (.cells #[.int .i64 x361000_64, .int .i64 x361001_64, .int .i64 x361002_64, .int .i64 x361003_64, .int .i64 x361004_64] 25 (0, 0))) ∧ Aside0 (Below w.heap.size w wc))
       case first =>
        have H := HC65.out
        clear HC65
        by_cases c66 : x104_44 = true
        ·subst c66
         have H1 : (skifflaw7_ChooseTable.j3 kj44 a0 t356 t358 t359 1 t351 t352 t353 t354 t355 0 (wrap64 (1 + (Go.bits .and .i64 a1 7))) 0 5 x345003_17) = some r := by rw [if_pos rfl] at H; exact H
         clear H; have H := H1; clear H1
         have H' := Aside0.mk H
         clear H
         have hnb67 := NB344_346.out
         have hnc67 := NB346_344.out
         have hnb68 := NB344_357.out
         have hnc68 := NB357_344.out
         have hnb69 := NB344_360.out
         have hnc69 := NB360_344.out
         have hcz70_0 : wc.cell? ⟨gb344, 0, none⟩ = some (.int .i64 (wrap64 (1 + (Go.bits .and .i64 a1 7)))) := (blk_cell BK344.out 0).trans rfl
         have hcz70_1 : wc.cell? ⟨gb344, 1, none⟩ = some (.int .i64 0) := (blk_cell BK344.out 1).trans rfl
         have hcz70_2 : wc.cell? ⟨gb344, 2, none⟩ = some (.int .i64 5) := (blk_cell BK344.out 2).trans rfl
         have hcz70_3 : wc.cell? ⟨gb344, 3, none⟩ = some (.int .i64 x345003_17) := (blk_cell BK344.out 3).trans rfl
         have hfz70_0 := blk_frozen BK344.out 0
         have hfz70_1 := blk_frozen BK344.out 1
         have hfz70_2 := blk_frozen BK344.out 2
         have hfz70_3 := blk_frozen BK344.out 3
         have hnb71 := NB360_346.out
         have hnc71 := NB346_360.out
         have hnb72 := NB360_357.out
         have hnc72 := NB357_360.out
         have hcz73_0 : wc.cell? ⟨gb360, 0, none⟩ = some (.int .i64 96) := (blk_cell BK360.out 0).trans rfl
         have hcz73_1 : wc.cell? ⟨gb360, 1, none⟩ = some (.int .i64 (wrap64 (1 + (Go.bits .and .i64 a2 7)))) := (blk_cell BK360.out 1).trans rfl
         have hcz73_2 : wc.cell? ⟨gb360, 2, none⟩ = some (.int .i64 1) := (blk_cell BK360.out 2).trans rfl
         have hcz73_3 : wc.cell? ⟨gb360, 3, none⟩ = some (.int .i64 6) := (blk_cell BK360.out 3).trans rfl
         have hcz73_4 : wc.cell? ⟨gb360, 4, none⟩ = some (.int .i64 x347003_30) := (blk_cell BK360.out 4).trans rfl
         have hfz73_0 := blk_frozen BK360.out 0
         have hfz73_1 := blk_frozen BK360.out 1
         have hfz73_2 := blk_frozen BK360.out 2
         have hfz73_3 := blk_frozen BK360.out 3
         have hfz73_4 := blk_frozen BK360.out 4
         go_wp2
         repeat (go_quiet (fail); try go_wp2)
         go_meet
         case rel => exact ⟨_, (1), (0), ((wrap64 (1 + (Go.bits .and .i64 a1 7)))), (0), (5), (x345003_17), (by first | rfl | (simp; done) | (simp [*]; done)), H', ⟨by have := HJ17.out; have := HJ30.out; have := HJ44.out; first | omega | exact Nat.le_refl _⟩, ⟨by (with_reducible repeat (first | refine blk_drewN ?_ _ | refine blk_drew ?_ | refine blk_alloc ?_ _)); refine blk_far ?_ NB344_360.out _; (with_reducible repeat (first | refine blk_drewN ?_ _ | refine blk_drew ?_ | refine blk_alloc ?_ _)); refine blk_far ?_ NB344_360.out _; (with_reducible repeat (first | refine blk_drewN ?_ _ | refine blk_drew ?_ | refine blk_alloc ?_ _)); refine blk_far ?_ NB344_360.out _; (with_reducible repeat (first | refine blk_drewN ?_ _ | refine blk_drew ?_ | refine blk_alloc ?_ _)); refine blk_far ?_ NB344_360.out _; (with_reducible repeat (first | refine blk_drewN ?_ _ | refine blk_drew ?_ | refine blk_alloc ?_ _)); refine blk_far ?_ NB344_360.out _; (with_reducible repeat (first | refine blk_drewN ?_ _ | refine blk_drew ?_ | refine blk_alloc ?_ _)); exact BK344.out⟩, ⟨by (with_reducible repeat (first | refine blk_drewN ?_ _ | refine blk_drew ?_ | refine blk_alloc ?_ _)); refine blk_far ?_ NB346_360.out _; (with_reducible repeat (first | refine blk_drewN ?_ _ | refine blk_drew ?_ | refine blk_alloc ?_ _)); refine blk_far ?_ NB346_360.out _; (with_reducible repeat (first | refine blk_drewN ?_ _ | refine blk_drew ?_ | refine blk_alloc ?_ _)); refine blk_far ?_ NB346_360.out _; (with_reducible repeat (first | refine blk_drewN ?_ _ | refine blk_drew ?_ | refine blk_alloc ?_ _)); refine blk_far ?_ NB346_360.out _; (with_reducible repeat (first | refine blk_drewN ?_ _ | refine blk_drew ?_ | refine blk_alloc ?_ _)); refine blk_far ?_ NB346_360.out _; (with_reducible repeat (first | refine blk_drewN ?_ _ | refine blk_drew ?_ | refine blk_alloc ?_ _)); exact BK346.out⟩, ⟨by (with_reducible repeat (first | refine blk_drewN ?_ _ | refine blk_drew ?_ | refine blk_alloc ?_ _)); refine blk_far ?_ NB357_360.out _; (with_reducible repeat (first | refine blk_drewN ?_ _ | refine blk_drew ?_ | refine blk_alloc ?_ _)); refine blk_far ?_ NB357_360.out _; (with_reducible repeat (first | refine blk_drewN ?_ _ | refine blk_drew ?_ | refine blk_alloc ?_ _)); refine blk_far ?_ NB357_360.out _; (with_reducible repeat (first | refine blk_drewN ?_ _ | refine blk_drew ?_ | refine blk_alloc ?_ _)); refine blk_far ?_ NB357_360.out _; (with_reducible repeat (first | refine blk_drewN ?_ _ | refine blk_drew ?_ | refine blk_alloc ?_ _)); refine blk_far ?_ NB357_360.out _; (with_reducible repeat (first | refine blk_drewN ?_ _ | refine blk_drew ?_ | refine blk_alloc ?_ _)); exact BK357.out⟩, ⟨by (with_reducible repeat (first | refine blk_drewN ?_ _ | refine blk_drew ?_ | refine blk_alloc ?_ _)); refine blk_put (cs := #[.int .i64 0, .int .i64 (wrap64 (1 + (Go.bits .and .i64 a1 7))), .int .i64 0, .int .i64 5, .int .i64 x347003_30]) ?_ 4 _ rfl; (with_reducible repeat (first | refine blk_drewN ?_ _ | refine blk_drew ?_ | refine blk_alloc ?_ _)); refine blk_put (cs := #[.int .i64 0, .int .i64 (wrap64 (1 + (Go.bits .and .i64 a1 7))), .int .i64 0, .int .i64 6, .int .i64 x347003_30]) ?_ 3 _ rfl; (with_reducible repeat (first | refine blk_drewN ?_ _ | refine blk_drew ?_ | refine blk_alloc ?_ _)); refine blk_put (cs := #[.int .i64 0, .int .i64 (wrap64 (1 + (Go.bits .and .i64 a1 7))), .int .i64 1, .int .i64 6, .int .i64 x347003_30]) ?_ 2 _ rfl; (with_reducible repeat (first | refine blk_drewN ?_ _ | refine blk_drew ?_ | refine blk_alloc ?_ _)); refine blk_put (cs := #[.int .i64 0, .int .i64 (wrap64 (1 + (Go.bits .and .i64 a2 7))), .int .i64 1, .int .i64 6, .int .i64 x347003_30]) ?_ 1 _ rfl; (with_reducible repeat (first | refine blk_drewN ?_ _ | refine blk_drew ?_ | refine blk_alloc ?_ _)); refine blk_put (cs := #[.int .i64 96, .int .i64 (wrap64 (1 + (Go.bits .and .i64 a2 7))), .int .i64 1, .int .i64 6, .int .i64 x347003_30]) ?_ 0 _ rfl; (with_reducible repeat (first | refine blk_drewN ?_ _ | refine blk_drew ?_ | refine blk_alloc ?_ _)); exact BK360.out⟩, ⟨by repeat (first | (with_reducible first | exact HB.out | apply below_alloc | apply pw_below_drewN | apply below_drew1 | refine below_set ?_ GE344.out | refine below_set ?_ GE346.out | refine below_set ?_ GE357.out | refine below_set ?_ GE360.out) | exact HB.out)⟩⟩
        ·replace c66 := Bool.eq_false_iff.mpr c66
         subst c66
         have H1 : (skifflaw7_ChooseTable.j3 kj44 a0 t356 t358 t359 0 t351 t352 t353 t354 t355 96 (wrap64 (1 + (Go.bits .and .i64 a2 7))) 1 6 x347003_30) = some r := by rw [if_neg (show ¬ (false = true) by decide)] at H; exact H
         clear H; have H := H1; clear H1
         have H' := Aside0.mk H
         clear H
         go_wp2
         repeat (go_quiet (fail); try go_wp2)
         go_meet
         case rel => exact ⟨_, (0), (96), ((wrap64 (1 + (Go.bits .and .i64 a2 7)))), (1), (6), (x347003_30), (by first | rfl | (simp; done) | (simp [*]; done)), H', ⟨by have := HJ17.out; have := HJ30.out; have := HJ44.out; first | omega | exact Nat.le_refl _⟩, ⟨by (with_reducible repeat (first | refine blk_drewN ?_ _ | refine blk_drew ?_ | refine blk_alloc ?_ _)); exact BK344.out⟩, ⟨by (with_reducible repeat (first | refine blk_drewN ?_ _ | refine blk_drew ?_ | refine blk_alloc ?_ _)); exact BK346.out⟩, ⟨by (with_reducible repeat (first | refine blk_drewN ?_ _ | refine blk_drew ?_ | refine blk_alloc ?_ _)); exact BK357.out⟩, ⟨by (with_reducible repeat (first | refine blk_drewN ?_ _ | refine blk_drew ?_ | refine blk_alloc ?_ _)); exact BK360.out⟩, ⟨by repeat (first | (with_reducible first | exact HB.out | apply below_alloc | apply pw_below_drewN | apply below_drew1 | refine below_set ?_ GE344.out | refine below_set ?_ GE346.out | refine below_set ?_ GE357.out | refine below_set ?_ GE360.out) | exact HB.out)⟩⟩
       case rest =>
        clear HC65
        try clear c1
        try clear c2
        try clear p2
        try clear c3
        try clear c4
        try clear c5
        try clear c6
        try clear p6
        try clear c7
        try clear c7b0
        try clear c7b1
        try clear c8
        try clear c8b0
        try clear c8b1
        try clear c9
        try clear c9b0
        try clear c9b1
        try clear c9b2
        try clear c10
        try clear c10b0
        try clear c10b1
        try clear c11
        try clear c11b0
        try clear c11b1
        try clear c12
        try clear c12b0
        try clear c12b1
        try clear c12b2
        try clear c13
        try clear c13b0
        try clear c13b1
        try clear c13b2
        try clear c14
        try clear c14b0
        try clear c14b1
        try clear c15
        try clear c15b0
        try clear c15b1
        try clear c15b2
        try clear c26
        try clear c28
        try clear c28b0
        try clear c28b1
        try clear c29
        try clear c32
        try clear c32b0
        try clear c32b1
        try clear c33
        try clear c37
        try clear c37b0
        try clear c37b1
        try clear c38
        try clear c38b0
        try clear c38b1
        try clear c39
        try clear c39b0
        try clear c39b1
        try clear c39b2
        try clear c40
        try clear c40b0
        try clear c40b1
        try clear c40b2
        try clear c41
        try clear c41b0
        try clear c41b1
        try clear c42
        try clear c42b0
        try clear c42b1
        try clear c42b2
        try clear c46
        try clear c53
        try clear c54
        try clear c59
        try clear c60
        try clear c61
        try clear c63
        try clear c63b0
        try clear c63b1
        try clear c64
        try clear c64b0
        try clear c64b1
        try clear p64
        try clear c66
        try clear c67
        try clear c68
        try clear c69
        try clear c71
        try clear c72
        try clear hcz23_0
        try clear hcz23_1
        try clear hcz23_2
        try clear hcz23_3
        try clear hcz27_0
        try clear hcz27_1
        try clear hcz27_2
        try clear hcz27_3
        try clear hcz30_0
        try clear hcz30_1
        try clear hcz30_2
        try clear hcz30_3
        try clear hcz34_0
        try clear hcz34_1
        try clear hcz34_2
        try clear hcz34_3
        try clear hcz47_0
        try clear hcz47_1
        try clear hcz47_2
        try clear hcz47_3
        try clear hcz49_0
        try clear hcz49_1
        try clear hcz49_2
        try clear hcz49_3
        try clear hcz55_0
        try clear hcz55_1
        try clear hcz55_2
        try clear hcz55_3
        try clear hcz55_4
        try clear hcz57_0
        try clear hcz57_1
        try clear hcz57_2
        try clear hcz57_3
        try clear hcz62_0
        try clear hcz62_1
        try clear hcz62_2
        try clear hcz62_3
        try clear hcz62_4
        try clear hcz70_0
        try clear hcz70_1
        try clear hcz70_2
        try clear hcz70_3
        try clear hcz73_0
        try clear hcz73_1
        try clear hcz73_2
        try clear hcz73_3
        try clear hcz73_4
        try clear hfz23_0
        try clear hfz23_1
        try clear hfz23_2
        try clear hfz23_3
        try clear hfz27_0
        try clear hfz27_1
        try clear hfz27_2
        try clear hfz27_3
        try clear hfz30_0
        try clear hfz30_1
        try clear hfz30_2
        try clear hfz30_3
        try clear hfz34_0
        try clear hfz34_1
        try clear hfz34_2
        try clear hfz34_3
        try clear hfz47_0
        try clear hfz47_1
        try clear hfz47_2
        try clear hfz47_3
        try clear hfz49_0
        try clear hfz49_1
        try clear hfz49_2
        try clear hfz49_3
        try clear hfz55_0
        try clear hfz55_1
        try clear hfz55_2
        try clear hfz55_3
        try clear hfz55_4
        try clear hfz57_0
        try clear hfz57_1
        try clear hfz57_2
        try clear hfz57_3
        try clear hfz62_0
        try clear hfz62_1
        try clear hfz62_2
        try clear hfz62_3
        try clear hfz62_4
        try clear hfz70_0
        try clear hfz70_1
        try clear hfz70_2
        try clear hfz70_3
        try clear hfz73_0
        try clear hfz73_1
        try clear hfz73_2
        try clear hfz73_3
        try clear hfz73_4
        try clear p2
        try clear p6
        try clear p64
        obtain ⟨kq, x21_64, x361000_64, x361001_64, x361002_64, x361003_64, x361004_64, rfl, HA, HJ64, BK344, BK346, BK357, BK360, HB⟩ := hcut
        cases kq with
        | zero => exact absurd HA.out (by simp [skifflaw7_ChooseTable.j3])
        | succ kj64 =>
         have H := HA.out
         clear HA
         simp only [skifflaw7_ChooseTable.j3] at H
         by_cases c74 : (Go.bits .and .i64 a0 3) = 3
         ·rw [if_pos c74] at H
          have c74b0 : ((Go.bits .and .i64 a0 3) == 3) = true := beq_iff_eq.mpr c74
          have c74b1 : ((Go.bits .and .i64 a0 3) != 3) = false := bne_eq_false_iff_eq.mpr c74
          clear c74
          replace H := Option.bind_eq_some_iff.mp H
          obtain ⟨t361, A750, H⟩ := H
          replace H : (if t361 = 701 then (if (t351 == 0 && ((t352 == 0 && (t353 == 0 && (t354 == 0 && (t355 == 0)))))) = true then (if t358 = 0 then ((skifflaw0_Num.f t359).bind fun t362 => (some (t362 == 0))) else (none)) else (none)) else (none)) = some r := H
          have A75 := Aside0.mk A750
          clear A750
          by_cases c76 : t361 = 701
          case neg =>
           rw [if_neg c76] at H
           exact absurd H (by simp)
          rw [if_pos c76] at H
          have c76b0 : (t361 == 701) = true := beq_iff_eq.mpr c76
          have c76b1 : (t361 != 701) = false := bne_eq_false_iff_eq.mpr c76
          clear c76
          by_cases c77 : (t351 == 0 && ((t352 == 0 && (t353 == 0 && (t354 == 0 && (t355 == 0)))))) = true
          case neg =>
           rw [if_neg c77] at H
           exact absurd H (by simp)
          rw [if_pos c77] at H
          have c77b0 : (t351 == 0 && ((t352 == 0 && (t353 == 0 && (t354 == 0 && (t355 == 0)))))) = true := c77
          (try (have c77b1 : decide (t351 = 0 && ((t352 == 0 && (t353 == 0 && (t354 == 0 && (t355 == 0)))))) = true := by simpa using c77))
          (try (have c77b2 : (t351 == 0 && ((t352 == 0 && (t353 == 0 && (t354 == 0 && (t355 == 0)))))) = true := by simpa using c77))
          clear c77
          by_cases c78 : t358 = 0
          case neg =>
           rw [if_neg c78] at H
           exact absurd H (by simp)
          rw [if_pos c78] at H
          have c78b0 : (t358 == 0) = true := beq_iff_eq.mpr c78
          have c78b1 : (t358 != 0) = false := bne_eq_false_iff_eq.mpr c78
          clear c78
          replace H := Option.bind_eq_some_iff.mp H
          obtain ⟨t362, A790, H⟩ := H
          replace H : (some (t362 == 0)) = some r := H
          have A79 := Aside0.mk A790
          clear A790
          obtain rfl := Option.some.inj H
          go_wp2_with (first | (go_at_call 12; (with_reducible refine (skifflaw0_Num.calls t356 t361 _ A75.out).mono ?_); rintro e w' ⟨rfl, ⟨nd, rfl⟩⟩; (try first | exact ⟨rfl, _, World.drewN_drewN _ _ _⟩ | exact ⟨rfl, _, Eq.trans (World.drewN_drewN _ _ _) (congrArg (World.drewN _) (Nat.add_assoc _ _ _))⟩); have hnb80 := NB357_344.out; have hnc80 := NB344_357.out; have hnb81 := NB357_346.out; have hnc81 := NB346_357.out; have hnb82 := NB357_360.out; have hnc82 := NB360_357.out; have hcz83_0 : wc.cell? ⟨gb357, 0, none⟩ = some (.int .i64 t351) := (blk_cell BK357.out 0).trans rfl; have hcz83_1 : wc.cell? ⟨gb357, 1, none⟩ = some (.int .i64 t352) := (blk_cell BK357.out 1).trans rfl; have hcz83_2 : wc.cell? ⟨gb357, 2, none⟩ = some (.int .i64 t353) := (blk_cell BK357.out 2).trans rfl; have hcz83_3 : wc.cell? ⟨gb357, 3, none⟩ = some (.int .i64 t354) := (blk_cell BK357.out 3).trans rfl; have hcz83_4 : wc.cell? ⟨gb357, 4, none⟩ = some (.int .i64 t355) := (blk_cell BK357.out 4).trans rfl; have hfz83_0 := blk_frozen BK357.out 0; have hfz83_1 := blk_frozen BK357.out 1; have hfz83_2 := blk_frozen BK357.out 2; have hfz83_3 := blk_frozen BK357.out 3; have hfz83_4 := blk_frozen BK357.out 4) | (go_at_call 12; (with_reducible refine (skifflaw0_Num.calls t359 t362 _ A79.out).mono ?_); rintro e w' ⟨rfl, ⟨nd, rfl⟩⟩; (try first | exact ⟨rfl, _, World.drewN_drewN _ _ _⟩ | exact ⟨rfl, _, Eq.trans (World.drewN_drewN _ _ _) (congrArg (World.drewN _) (Nat.add_assoc _ _ _))⟩)))
          repeat (go_quiet (first | (go_at_call 12; (with_reducible refine (skifflaw0_Num.calls t356 t361 _ A75.out).mono ?_); rintro e w' ⟨rfl, ⟨nd, rfl⟩⟩; (try first | exact ⟨rfl, _, World.drewN_drewN _ _ _⟩ | exact ⟨rfl, _, Eq.trans (World.drewN_drewN _ _ _) (congrArg (World.drewN _) (Nat.add_assoc _ _ _))⟩); have hnb80 := NB357_344.out; have hnc80 := NB344_357.out; have hnb81 := NB357_346.out; have hnc81 := NB346_357.out; have hnb82 := NB357_360.out; have hnc82 := NB360_357.out; have hcz83_0 : wc.cell? ⟨gb357, 0, none⟩ = some (.int .i64 t351) := (blk_cell BK357.out 0).trans rfl; have hcz83_1 : wc.cell? ⟨gb357, 1, none⟩ = some (.int .i64 t352) := (blk_cell BK357.out 1).trans rfl; have hcz83_2 : wc.cell? ⟨gb357, 2, none⟩ = some (.int .i64 t353) := (blk_cell BK357.out 2).trans rfl; have hcz83_3 : wc.cell? ⟨gb357, 3, none⟩ = some (.int .i64 t354) := (blk_cell BK357.out 3).trans rfl; have hcz83_4 : wc.cell? ⟨gb357, 4, none⟩ = some (.int .i64 t355) := (blk_cell BK357.out 4).trans rfl; have hfz83_0 := blk_frozen BK357.out 0; have hfz83_1 := blk_frozen BK357.out 1; have hfz83_2 := blk_frozen BK357.out 2; have hfz83_3 := blk_frozen BK357.out 3; have hfz83_4 := blk_frozen BK357.out 4) | (go_at_call 12; (with_reducible refine (skifflaw0_Num.calls t359 t362 _ A79.out).mono ?_); rintro e w' ⟨rfl, ⟨nd, rfl⟩⟩; (try first | exact ⟨rfl, _, World.drewN_drewN _ _ _⟩ | exact ⟨rfl, _, Eq.trans (World.drewN_drewN _ _ _) (congrArg (World.drewN _) (Nat.add_assoc _ _ _))⟩))); try go_wp2_with (first | (go_at_call 12; (with_reducible refine (skifflaw0_Num.calls t356 t361 _ A75.out).mono ?_); rintro e w' ⟨rfl, ⟨nd, rfl⟩⟩; (try first | exact ⟨rfl, _, World.drewN_drewN _ _ _⟩ | exact ⟨rfl, _, Eq.trans (World.drewN_drewN _ _ _) (congrArg (World.drewN _) (Nat.add_assoc _ _ _))⟩); have hnb80 := NB357_344.out; have hnc80 := NB344_357.out; have hnb81 := NB357_346.out; have hnc81 := NB346_357.out; have hnb82 := NB357_360.out; have hnc82 := NB360_357.out; have hcz83_0 : wc.cell? ⟨gb357, 0, none⟩ = some (.int .i64 t351) := (blk_cell BK357.out 0).trans rfl; have hcz83_1 : wc.cell? ⟨gb357, 1, none⟩ = some (.int .i64 t352) := (blk_cell BK357.out 1).trans rfl; have hcz83_2 : wc.cell? ⟨gb357, 2, none⟩ = some (.int .i64 t353) := (blk_cell BK357.out 2).trans rfl; have hcz83_3 : wc.cell? ⟨gb357, 3, none⟩ = some (.int .i64 t354) := (blk_cell BK357.out 3).trans rfl; have hcz83_4 : wc.cell? ⟨gb357, 4, none⟩ = some (.int .i64 t355) := (blk_cell BK357.out 4).trans rfl; have hfz83_0 := blk_frozen BK357.out 0; have hfz83_1 := blk_frozen BK357.out 1; have hfz83_2 := blk_frozen BK357.out 2; have hfz83_3 := blk_frozen BK357.out 3; have hfz83_4 := blk_frozen BK357.out 4) | (go_at_call 12; (with_reducible refine (skifflaw0_Num.calls t359 t362 _ A79.out).mono ?_); rintro e w' ⟨rfl, ⟨nd, rfl⟩⟩; (try first | exact ⟨rfl, _, World.drewN_drewN _ _ _⟩ | exact ⟨rfl, _, Eq.trans (World.drewN_drewN _ _ _) (congrArg (World.drewN _) (Nat.add_assoc _ _ _))⟩))))
          go_ret
          exact ⟨by first | rfl | (simp [errW_none, errW_some] <;> rfl) | (simp [*, errW_none, errW_some] <;> rfl), by repeat (first | (with_reducible first | exact HB.out | apply below_alloc | apply pw_below_drewN | apply below_drew1 | refine below_set ?_ GE344.out | refine below_set ?_ GE346.out | refine below_set ?_ GE357.out | refine below_set ?_ GE360.out) | exact HB.out)⟩
         ·rw [if_neg c74] at H
          have c74b0 : ((Go.bits .and .i64 a0 3) == 3) = false := beq_eq_false_iff_ne.mpr c74
          have c74b1 : ((Go.bits .and .i64 a0 3) != 3) = true := bne_iff_ne.mpr c74
          replace H := Option.bind_eq_some_iff.mp H
          obtain ⟨t363, A840, H⟩ := H
          replace H : (if t363 = 0 then (if (t351 == x361000_64 && ((t352 == x361001_64 && (t353 == x361002_64 && (t354 == x361003_64 && (t355 == x361004_64)))))) = true then (if t358 = x21_64 then ((skifflaw0_Num.f t359).bind fun t364 => (some (t364 == 0))) else (none)) else (none)) else (none)) = some r := H
          have A84 := Aside0.mk A840
          clear A840
          by_cases c85 : t363 = 0
          case neg =>
           rw [if_neg c85] at H
           exact absurd H (by simp)
          rw [if_pos c85] at H
          have c85b0 : (t363 == 0) = true := beq_iff_eq.mpr c85
          have c85b1 : (t363 != 0) = false := bne_eq_false_iff_eq.mpr c85
          clear c85
          by_cases c86 : (t351 == x361000_64 && ((t352 == x361001_64 && (t353 == x361002_64 && (t354 == x361003_64 && (t355 == x361004_64)))))) = true
          case neg =>
           rw [if_neg c86] at H
           exact absurd H (by simp)
          rw [if_pos c86] at H
          have c86b0 : (t351 == x361000_64 && ((t352 == x361001_64 && (t353 == x361002_64 && (t354 == x361003_64 && (t355 == x361004_64)))))) = true := c86
          (try (have c86b1 : decide (t351 = x361000_64 && ((t352 == x361001_64 && (t353 == x361002_64 && (t354 == x361003_64 && (t355 == x361004_64)))))) = true := by simpa using c86))
          (try (have c86b2 : (t351 == x361000_64 && ((t352 == x361001_64 && (t353 == x361002_64 && (t354 == x361003_64 && (t355 == x361004_64)))))) = true := by simpa using c86))
          clear c86
          by_cases c87 : t358 = x21_64
          case neg =>
           rw [if_neg c87] at H
           exact absurd H (by simp)
          rw [if_pos c87] at H
          have c87b0 : (t358 == x21_64) = true := beq_iff_eq.mpr c87
          have c87b1 : (t358 != x21_64) = false := bne_eq_false_iff_eq.mpr c87
          clear c87
          replace H := Option.bind_eq_some_iff.mp H
          obtain ⟨t364, A880, H⟩ := H
          replace H : (some (t364 == 0)) = some r := H
          have A88 := Aside0.mk A880
          clear A880
          obtain rfl := Option.some.inj H
          go_wp2_with (first | (go_at_call 12; (with_reducible refine (skifflaw0_Num.calls t356 t363 _ A84.out).mono ?_); rintro e w' ⟨rfl, ⟨nd, rfl⟩⟩; (try first | exact ⟨rfl, _, World.drewN_drewN _ _ _⟩ | exact ⟨rfl, _, Eq.trans (World.drewN_drewN _ _ _) (congrArg (World.drewN _) (Nat.add_assoc _ _ _))⟩); have hnb89 := NB357_344.out; have hnc89 := NB344_357.out; have hnb90 := NB357_346.out; have hnc90 := NB346_357.out; have hnb91 := NB357_360.out; have hnc91 := NB360_357.out; have hcz92_0 : wc.cell? ⟨gb357, 0, none⟩ = some (.int .i64 t351) := (blk_cell BK357.out 0).trans rfl; have hcz92_1 : wc.cell? ⟨gb357, 1, none⟩ = some (.int .i64 t352) := (blk_cell BK357.out 1).trans rfl; have hcz92_2 : wc.cell? ⟨gb357, 2, none⟩ = some (.int .i64 t353) := (blk_cell BK357.out 2).trans rfl; have hcz92_3 : wc.cell? ⟨gb357, 3, none⟩ = some (.int .i64 t354) := (blk_cell BK357.out 3).trans rfl; have hcz92_4 : wc.cell? ⟨gb357, 4, none⟩ = some (.int .i64 t355) := (blk_cell BK357.out 4).trans rfl; have hfz92_0 := blk_frozen BK357.out 0; have hfz92_1 := blk_frozen BK357.out 1; have hfz92_2 := blk_frozen BK357.out 2; have hfz92_3 := blk_frozen BK357.out 3; have hfz92_4 := blk_frozen BK357.out 4; have hnb93 := NB360_344.out; have hnc93 := NB344_360.out; have hnb94 := NB360_346.out; have hnc94 := NB346_360.out; have hcz95_0 : wc.cell? ⟨gb360, 0, none⟩ = some (.int .i64 x361000_64) := (blk_cell BK360.out 0).trans rfl; have hcz95_1 : wc.cell? ⟨gb360, 1, none⟩ = some (.int .i64 x361001_64) := (blk_cell BK360.out 1).trans rfl; have hcz95_2 : wc.cell? ⟨gb360, 2, none⟩ = some (.int .i64 x361002_64) := (blk_cell BK360.out 2).trans rfl; have hcz95_3 : wc.cell? ⟨gb360, 3, none⟩ = some (.int .i64 x361003_64) := (blk_cell BK360.out 3).trans rfl; have hcz95_4 : wc.cell? ⟨gb360, 4, none⟩ = some (.int .i64 x361004_64) := (blk_cell BK360.out 4).trans rfl; have hfz95_0 := blk_frozen BK360.out 0; have hfz95_1 := blk_frozen BK360.out 1; have hfz95_2 := blk_frozen BK360.out 2; have hfz95_3 := blk_frozen BK360.out 3; have hfz95_4 := blk_frozen BK360.out 4) | (go_at_call 12; (with_reducible refine (skifflaw0_Num.calls t359 t364 _ A88.out).mono ?_); rintro e w' ⟨rfl, ⟨nd, rfl⟩⟩; (try first | exact ⟨rfl, _, World.drewN_drewN _ _ _⟩ | exact ⟨rfl, _, Eq.trans (World.drewN_drewN _ _ _) (congrArg (World.drewN _) (Nat.add_assoc _ _ _))⟩)))
          repeat (go_quiet (first | (go_at_call 12; (with_reducible refine (skifflaw0_Num.calls t356 t363 _ A84.out).mono ?_); rintro e w' ⟨rfl, ⟨nd, rfl⟩⟩; (try first | exact ⟨rfl, _, World.drewN_drewN _ _ _⟩ | exact ⟨rfl, _, Eq.trans (World.drewN_drewN _ _ _) (congrArg (World.drewN _) (Nat.add_assoc _ _ _))⟩); have hnb89 := NB357_344.out; have hnc89 := NB344_357.out; have hnb90 := NB357_346.out; have hnc90 := NB346_357.out; have hnb91 := NB357_360.out; have hnc91 := NB360_357.out; have hcz92_0 : wc.cell? ⟨gb357, 0, none⟩ = some (.int .i64 t351) := (blk_cell BK357.out 0).trans rfl; have hcz92_1 : wc.cell? ⟨gb357, 1, none⟩ = some (.int .i64 t352) := (blk_cell BK357.out 1).trans rfl; have hcz92_2 : wc.cell? ⟨gb357, 2, none⟩ = some (.int .i64 t353) := (blk_cell BK357.out 2).trans rfl; have hcz92_3 : wc.cell? ⟨gb357, 3, none⟩ = some (.int .i64 t354) := (blk_cell BK357.out 3).trans rfl; have hcz92_4 : wc.cell? ⟨gb357, 4, none⟩ = some (.int .i64 t355) := (blk_cell BK357.out 4).trans rfl; have hfz92_0 := blk_frozen BK357.out 0; have hfz92_1 := blk_frozen BK357.out 1; have hfz92_2 := blk_frozen BK357.out 2; have hfz92_3 := blk_frozen BK357.out 3; have hfz92_4 := blk_frozen BK357.out 4; have hnb93 := NB360_344.out; have hnc93 := NB344_360.out; have hnb94 := NB360_346.out; have hnc94 := NB346_360.out; have hcz95_0 : wc.cell? ⟨gb360, 0, none⟩ = some (.int .i64 x361000_64) := (blk_cell BK360.out 0).trans rfl; have hcz95_1 : wc.cell? ⟨gb360, 1, none⟩ = some (.int .i64 x361001_64) := (blk_cell BK360.out 1).trans rfl; have hcz95_2 : wc.cell? ⟨gb360, 2, none⟩ = some (.int .i64 x361002_64) := (blk_cell BK360.out 2).trans rfl; have hcz95_3 : wc.cell? ⟨gb360, 3, none⟩ = some (.int .i64 x361003_64) := (blk_cell BK360.out 3).trans rfl; have hcz95_4 : wc.cell? ⟨gb360, 4, none⟩ = some (.int .i64 x361004_64) := (blk_cell BK360.out 4).trans rfl; have hfz95_0 := blk_frozen BK360.out 0; have hfz95_1 := blk_frozen BK360.out 1; have hfz95_2 := blk_frozen BK360.out 2; have hfz95_3 := blk_frozen BK360.out 3; have hfz95_4 := blk_frozen BK360.out 4) | (go_at_call 12; (with_reducible refine (skifflaw0_Num.calls t359 t364 _ A88.out).mono ?_); rintro e w' ⟨rfl, ⟨nd, rfl⟩⟩; (try first | exact ⟨rfl, _, World.drewN_drewN _ _ _⟩ | exact ⟨rfl, _, Eq.trans (World.drewN_drewN _ _ _) (congrArg (World.drewN _) (Nat.add_assoc _ _ _))⟩))); try go_wp2_with (first | (go_at_call 12; (with_reducible refine (skifflaw0_Num.calls t356 t363 _ A84.out).mono ?_); rintro e w' ⟨rfl, ⟨nd, rfl⟩⟩; (try first | exact ⟨rfl, _, World.drewN_drewN _ _ _⟩ | exact ⟨rfl, _, Eq.trans (World.drewN_drewN _ _ _) (congrArg (World.drewN _) (Nat.add_assoc _ _ _))⟩); have hnb89 := NB357_344.out; have hnc89 := NB344_357.out; have hnb90 := NB357_346.out; have hnc90 := NB346_357.out; have hnb91 := NB357_360.out; have hnc91 := NB360_357.out; have hcz92_0 : wc.cell? ⟨gb357, 0, none⟩ = some (.int .i64 t351) := (blk_cell BK357.out 0).trans rfl; have hcz92_1 : wc.cell? ⟨gb357, 1, none⟩ = some (.int .i64 t352) := (blk_cell BK357.out 1).trans rfl; have hcz92_2 : wc.cell? ⟨gb357, 2, none⟩ = some (.int .i64 t353) := (blk_cell BK357.out 2).trans rfl; have hcz92_3 : wc.cell? ⟨gb357, 3, none⟩ = some (.int .i64 t354) := (blk_cell BK357.out 3).trans rfl; have hcz92_4 : wc.cell? ⟨gb357, 4, none⟩ = some (.int .i64 t355) := (blk_cell BK357.out 4).trans rfl; have hfz92_0 := blk_frozen BK357.out 0; have hfz92_1 := blk_frozen BK357.out 1; have hfz92_2 := blk_frozen BK357.out 2; have hfz92_3 := blk_frozen BK357.out 3; have hfz92_4 := blk_frozen BK357.out 4; have hnb93 := NB360_344.out; have hnc93 := NB344_360.out; have hnb94 := NB360_346.out; have hnc94 := NB346_360.out; have hcz95_0 : wc.cell? ⟨gb360, 0, none⟩ = some (.int .i64 x361000_64) := (blk_cell BK360.out 0).trans rfl; have hcz95_1 : wc.cell? ⟨gb360, 1, none⟩ = some (.int .i64 x361001_64) := (blk_cell BK360.out 1).trans rfl; have hcz95_2 : wc.cell? ⟨gb360, 2, none⟩ = some (.int .i64 x361002_64) := (blk_cell BK360.out 2).trans rfl; have hcz95_3 : wc.cell? ⟨gb360, 3, none⟩ = some (.int .i64 x361003_64) := (blk_cell BK360.out 3).trans rfl; have hcz95_4 : wc.cell? ⟨gb360, 4, none⟩ = some (.int .i64 x361004_64) := (blk_cell BK360.out 4).trans rfl; have hfz95_0 := blk_frozen BK360.out 0; have hfz95_1 := blk_frozen BK360.out 1; have hfz95_2 := blk_frozen BK360.out 2; have hfz95_3 := blk_frozen BK360.out 3; have hfz95_4 := blk_frozen BK360.out 4) | (go_at_call 12; (with_reducible refine (skifflaw0_Num.calls t359 t364 _ A88.out).mono ?_); rintro e w' ⟨rfl, ⟨nd, rfl⟩⟩; (try first | exact ⟨rfl, _, World.drewN_drewN _ _ _⟩ | exact ⟨rfl, _, Eq.trans (World.drewN_drewN _ _ _) (congrArg (World.drewN _) (Nat.add_assoc _ _ _))⟩))))
          go_ret
          exact ⟨by first | rfl | (simp [errW_none, errW_some] <;> rfl) | (simp [*, errW_none, errW_some] <;> rfl), by repeat (first | (with_reducible first | exact HB.out | apply below_alloc | apply pw_below_drewN | apply below_drew1 | refine below_set ?_ GE344.out | refine below_set ?_ GE346.out | refine below_set ?_ GE357.out | refine below_set ?_ GE360.out) | exact HB.out)⟩

end Go.Proofs.Ytdijecmpaoabbaa.P
