-- written by wip/prt.py of this repo, by the kit's print, over contracts that are proved here by hand
import Derived.Test.YtfjoekpgaiaifaaPx0
import Derived.Test.YtfjoekpgaiaifaaPx2
import Derived.Test.YtfjoekpgaiaifaaPx3
namespace Go.Proofs.Ytfjoekpgaiaifaa.P
open Go.RowKit Go.Proofs.YtfjoekpgaiaifaaW.PrintWords Go.Proofs.YtfjoekpgaiaifaaW.PrintLast Go.Proofs.YtfjoekpgaiaifaaW.PrintMore
attribute [local go_sem] max2_int min2_int max_two min_two max_three min_three max_four min_four   -- for this text's walks alone
set_option linter.unusedVariables false
set_option linter.unusedSimpArgs false

/-! ### skifflaw5_JournalForms: function 6 -/
def skifflaw5_JournalForms.f (k : Nat) (a0 : Int) (a1 : Int) : Option (Bool) := (skifflaw5_awake.f k).bind fun t315 => (if t315 = true then ((skiffref1_Blank.f).bind fun t316 => (if 1 ≤ (t316.size : Int) then (if t316.size + 1 ≤ 9223372036854775807 then ((some (([(⟨#[]⟩ : ByteArray), t316.extract 1 t316.size, t316 ++ (⟨#[120]⟩ : ByteArray)] : List ByteArray) : List ByteArray)).bind fun y317 => (if 0 ≤ (wrap64 (Int.tmod (IntKind.u64.wrap (a0)) 3)) then (if (wrap64 (Int.tmod (IntKind.u64.wrap (a0)) 3)) < (y317.length : Int) then ((journal_Scan.f k (rdOf ByteArray.empty y317 (wrap64 (Int.tmod (IntKind.u64.wrap (a0)) 3)))).bind fun bt321 => ((journal_Free.f k (rdOf ByteArray.empty y317 (wrap64 (Int.tmod (IntKind.u64.wrap (a0)) 3))) 0).bind fun bt325 => ((some (([wrap64 (-(wrap64 (1 + (Go.bits .and .i64 a1 1023)))), wrap64 (1 + (wrap64 (1 + (Go.bits .and .i64 a1 1023))))] : List Int) : List Int)).bind fun y328 => (if 0 ≤ (Go.bits .and .i64 a0 1) then (if (Go.bits .and .i64 a0 1) < (y328.length : Int) then ((journal_Free.f k t316 (rd y328 (Go.bits .and .i64 a0 1))).bind fun bt332 => ((journal_Free.f k t316 (Go.bits .and .i64 a0 1)).bind fun bt335 => (if (bt321.1.length : Int) = 0 then ((skifflaw0_Num.f bt321.2).bind fun t338 => (if t338 = 500 then (if bt325.2.1 = true then (none) else ((skifflaw0_Num.f bt325.2.2).bind fun t339 => (if t339 = 500 then (if bt332.2.1 = true then (none) else ((skifflaw0_Num.f bt332.2.2).bind fun t340 => (if t340 = 500 then (if bt335.1 = (wrap64 (96 * (Go.bits .and .i64 a0 1))) then (if bt335.2.1 = true then ((skifflaw0_Num.f bt335.2.2).bind fun t341 => (some (t341 == 0))) else (none)) else (none)) else (none)))) else (none)))) else (none))) else (none)))) else (none)) else (none))))) else (none)) else (none))) else (none)) else (none))) else (none))
theorem skifflaw5_JournalForms.mono : ∀ a0 a1 k, LeO (skifflaw5_JournalForms.f k a0 a1) (skifflaw5_JournalForms.f (k + 1) a0 a1) := by
 intro a0 a1 k
 unfold skifflaw5_JournalForms.f
 repeat' first
   | (with_reducible exact journal_Free.mono _ _ _)
   | (with_reducible exact journal_Scan.mono _ _)
   | (with_reducible exact skifflaw5_awake.mono _)
   | (with_reducible exact LeO.refl _)
   | (with_reducible exact LeO.none _)
   | (with_reducible refine LeO.ite ?_ ?_)
   | (with_reducible refine LeO.bind ?_ (fun _ => ?_))
   | exact journal_Free.mono _ _ _
   | exact journal_Scan.mono _ _
   | exact skifflaw5_awake.mono _
   | exact LeO.none _
   | refine LeO.ite ?_ ?_
   | refine LeO.bind ?_ (fun _ => ?_)
set_option maxHeartbeats 8000000 in
set_option maxRecDepth 100000 in
theorem skifflaw5_JournalForms.calls (k : Nat) (a0 : Int) (a1 : Int) (r : Bool) (w : World) (h : skifflaw5_JournalForms.f k a0 a1 = some r) :
  Calls Try.prog 6 #[.int .i64 a0, .int .i64 a1] w fun e w' => e = .returned (.bool r) ∧ Below w.heap.size w w' := by
 have HB := Aside0.mk (Below.refl w.heap.size w)
 have H : ((skifflaw5_awake.f k).bind fun t315 => (if t315 = true then ((skiffref1_Blank.f).bind fun t316 => (if 1 ≤ (t316.size : Int) then (if t316.size + 1 ≤ 9223372036854775807 then ((some (([(⟨#[]⟩ : ByteArray), t316.extract 1 t316.size, t316 ++ (⟨#[120]⟩ : ByteArray)] : List ByteArray) : List ByteArray)).bind fun y317 => (if 0 ≤ (wrap64 (Int.tmod (IntKind.u64.wrap (a0)) 3)) then (if (wrap64 (Int.tmod (IntKind.u64.wrap (a0)) 3)) < (y317.length : Int) then ((journal_Scan.f k (rdOf ByteArray.empty y317 (wrap64 (Int.tmod (IntKind.u64.wrap (a0)) 3)))).bind fun bt321 => ((journal_Free.f k (rdOf ByteArray.empty y317 (wrap64 (Int.tmod (IntKind.u64.wrap (a0)) 3))) 0).bind fun bt325 => ((some (([wrap64 (-(wrap64 (1 + (Go.bits .and .i64 a1 1023)))), wrap64 (1 + (wrap64 (1 + (Go.bits .and .i64 a1 1023))))] : List Int) : List Int)).bind fun y328 => (if 0 ≤ (Go.bits .and .i64 a0 1) then (if (Go.bits .and .i64 a0 1) < (y328.length : Int) then ((journal_Free.f k t316 (rd y328 (Go.bits .and .i64 a0 1))).bind fun bt332 => ((journal_Free.f k t316 (Go.bits .and .i64 a0 1)).bind fun bt335 => (if (bt321.1.length : Int) = 0 then ((skifflaw0_Num.f bt321.2).bind fun t338 => (if t338 = 500 then (if bt325.2.1 = true then (none) else ((skifflaw0_Num.f bt325.2.2).bind fun t339 => (if t339 = 500 then (if bt332.2.1 = true then (none) else ((skifflaw0_Num.f bt332.2.2).bind fun t340 => (if t340 = 500 then (if bt335.1 = (wrap64 (96 * (Go.bits .and .i64 a0 1))) then (if bt335.2.1 = true then ((skifflaw0_Num.f bt335.2.2).bind fun t341 => (some (t341 == 0))) else (none)) else (none)) else (none)))) else (none)))) else (none))) else (none)))) else (none)) else (none))))) else (none)) else (none))) else (none)) else (none))) else (none))) = some r := h
 clear h
 replace H := Option.bind_eq_some_iff.mp H
 obtain ⟨t315, A30, H⟩ := H
 replace H : (if t315 = true then ((skiffref1_Blank.f).bind fun t316 => (if 1 ≤ (t316.size : Int) then (if t316.size + 1 ≤ 9223372036854775807 then ((some (([(⟨#[]⟩ : ByteArray), t316.extract 1 t316.size, t316 ++ (⟨#[120]⟩ : ByteArray)] : List ByteArray) : List ByteArray)).bind fun y317 => (if 0 ≤ (wrap64 (Int.tmod (IntKind.u64.wrap (a0)) 3)) then (if (wrap64 (Int.tmod (IntKind.u64.wrap (a0)) 3)) < (y317.length : Int) then ((journal_Scan.f k (rdOf ByteArray.empty y317 (wrap64 (Int.tmod (IntKind.u64.wrap (a0)) 3)))).bind fun bt321 => ((journal_Free.f k (rdOf ByteArray.empty y317 (wrap64 (Int.tmod (IntKind.u64.wrap (a0)) 3))) 0).bind fun bt325 => ((some (([wrap64 (-(wrap64 (1 + (Go.bits .and .i64 a1 1023)))), wrap64 (1 + (wrap64 (1 + (Go.bits .and .i64 a1 1023))))] : List Int) : List Int)).bind fun y328 => (if 0 ≤ (Go.bits .and .i64 a0 1) then (if (Go.bits .and .i64 a0 1) < (y328.length : Int) then ((journal_Free.f k t316 (rd y328 (Go.bits .and .i64 a0 1))).bind fun bt332 => ((journal_Free.f k t316 (Go.bits .and .i64 a0 1)).bind fun bt335 => (if (bt321.1.length : Int) = 0 then ((skifflaw0_Num.f bt321.2).bind fun t338 => (if t338 = 500 then (if bt325.2.1 = true then (none) else ((skifflaw0_Num.f bt325.2.2).bind fun t339 => (if t339 = 500 then (if bt332.2.1 = true then (none) else ((skifflaw0_Num.f bt332.2.2).bind fun t340 => (if t340 = 500 then (if bt335.1 = (wrap64 (96 * (Go.bits .and .i64 a0 1))) then (if bt335.2.1 = true then ((skifflaw0_Num.f bt335.2.2).bind fun t341 => (some (t341 == 0))) else (none)) else (none)) else (none)))) else (none)))) else (none))) else (none)))) else (none)) else (none))))) else (none)) else (none))) else (none)) else (none))) else (none)) = some r := H
 have A3 := Aside0.mk A30
 clear A30
 by_cases c4 : t315 = true
 ·subst c4
  have H1 : ((skiffref1_Blank.f).bind fun t316 => (if 1 ≤ (t316.size : Int) then (if t316.size + 1 ≤ 9223372036854775807 then ((some (([(⟨#[]⟩ : ByteArray), t316.extract 1 t316.size, t316 ++ (⟨#[120]⟩ : ByteArray)] : List ByteArray) : List ByteArray)).bind fun y317 => (if 0 ≤ (wrap64 (Int.tmod (IntKind.u64.wrap (a0)) 3)) then (if (wrap64 (Int.tmod (IntKind.u64.wrap (a0)) 3)) < (y317.length : Int) then ((journal_Scan.f k (rdOf ByteArray.empty y317 (wrap64 (Int.tmod (IntKind.u64.wrap (a0)) 3)))).bind fun bt321 => ((journal_Free.f k (rdOf ByteArray.empty y317 (wrap64 (Int.tmod (IntKind.u64.wrap (a0)) 3))) 0).bind fun bt325 => ((some (([wrap64 (-(wrap64 (1 + (Go.bits .and .i64 a1 1023)))), wrap64 (1 + (wrap64 (1 + (Go.bits .and .i64 a1 1023))))] : List Int) : List Int)).bind fun y328 => (if 0 ≤ (Go.bits .and .i64 a0 1) then (if (Go.bits .and .i64 a0 1) < (y328.length : Int) then ((journal_Free.f k t316 (rd y328 (Go.bits .and .i64 a0 1))).bind fun bt332 => ((journal_Free.f k t316 (Go.bits .and .i64 a0 1)).bind fun bt335 => (if (bt321.1.length : Int) = 0 then ((skifflaw0_Num.f bt321.2).bind fun t338 => (if t338 = 500 then (if bt325.2.1 = true then (none) else ((skifflaw0_Num.f bt325.2.2).bind fun t339 => (if t339 = 500 then (if bt332.2.1 = true then (none) else ((skifflaw0_Num.f bt332.2.2).bind fun t340 => (if t340 = 500 then (if bt335.1 = (wrap64 (96 * (Go.bits .and .i64 a0 1))) then (if bt335.2.1 = true then ((skifflaw0_Num.f bt335.2.2).bind fun t341 => (some (t341 == 0))) else (none)) else (none)) else (none)))) else (none)))) else (none))) else (none)))) else (none)) else (none))))) else (none)) else (none))) else (none)) else (none))) = some r := by rw [if_pos rfl] at H; exact H
  clear H
  have H := H1
  clear H1
  replace H := Option.bind_eq_some_iff.mp H
  obtain ⟨t316, A50, H⟩ := H
  replace H : (if 1 ≤ (t316.size : Int) then (if t316.size + 1 ≤ 9223372036854775807 then ((some (([(⟨#[]⟩ : ByteArray), t316.extract 1 t316.size, t316 ++ (⟨#[120]⟩ : ByteArray)] : List ByteArray) : List ByteArray)).bind fun y317 => (if 0 ≤ (wrap64 (Int.tmod (IntKind.u64.wrap (a0)) 3)) then (if (wrap64 (Int.tmod (IntKind.u64.wrap (a0)) 3)) < (y317.length : Int) then ((journal_Scan.f k (rdOf ByteArray.empty y317 (wrap64 (Int.tmod (IntKind.u64.wrap (a0)) 3)))).bind fun bt321 => ((journal_Free.f k (rdOf ByteArray.empty y317 (wrap64 (Int.tmod (IntKind.u64.wrap (a0)) 3))) 0).bind fun bt325 => ((some (([wrap64 (-(wrap64 (1 + (Go.bits .and .i64 a1 1023)))), wrap64 (1 + (wrap64 (1 + (Go.bits .and .i64 a1 1023))))] : List Int) : List Int)).bind fun y328 => (if 0 ≤ (Go.bits .and .i64 a0 1) then (if (Go.bits .and .i64 a0 1) < (y328.length : Int) then ((journal_Free.f k t316 (rd y328 (Go.bits .and .i64 a0 1))).bind fun bt332 => ((journal_Free.f k t316 (Go.bits .and .i64 a0 1)).bind fun bt335 => (if (bt321.1.length : Int) = 0 then ((skifflaw0_Num.f bt321.2).bind fun t338 => (if t338 = 500 then (if bt325.2.1 = true then (none) else ((skifflaw0_Num.f bt325.2.2).bind fun t339 => (if t339 = 500 then (if bt332.2.1 = true then (none) else ((skifflaw0_Num.f bt332.2.2).bind fun t340 => (if t340 = 500 then (if bt335.1 = (wrap64 (96 * (Go.bits .and .i64 a0 1))) then (if bt335.2.1 = true then ((skifflaw0_Num.f bt335.2.2).bind fun t341 => (some (t341 == 0))) else (none)) else (none)) else (none)))) else (none)))) else (none))) else (none)))) else (none)) else (none))))) else (none)) else (none))) else (none)) else (none)) = some r := H
  have A5 := Aside0.mk A50
  clear A50
  by_cases c6 : 1 ≤ (t316.size : Int)
  ·rw [if_pos c6] at H
   have c6b0 := eq_true c6
   have c6b1 : decide (1 ≤ (t316.size : Int)) = true := decide_eq_true c6
   clear c6
   by_cases c7 : t316.size + 1 ≤ 9223372036854775807
   ·rw [if_pos c7] at H
    have c7b0 := eq_true c7
    have c7b1 : decide (t316.size + 1 ≤ 9223372036854775807) = true := decide_eq_true c7
    try have c7b2 : (9223372036854775807 < t316.size + 1) = False := eq_false (Nat.not_lt.2 c7)
    obtain ⟨y317, hy317⟩ : ∃ y_ : List ByteArray, y_ = (([(⟨#[]⟩ : ByteArray), t316.extract 1 t316.size, t316 ++ (⟨#[120]⟩ : ByteArray)] : List ByteArray)) := ⟨_, rfl⟩
    replace H : (if 0 ≤ (wrap64 (Int.tmod (IntKind.u64.wrap (a0)) 3)) then (if (wrap64 (Int.tmod (IntKind.u64.wrap (a0)) 3)) < (y317.length : Int) then ((journal_Scan.f k (rdOf ByteArray.empty y317 (wrap64 (Int.tmod (IntKind.u64.wrap (a0)) 3)))).bind fun bt321 => ((journal_Free.f k (rdOf ByteArray.empty y317 (wrap64 (Int.tmod (IntKind.u64.wrap (a0)) 3))) 0).bind fun bt325 => ((some (([wrap64 (-(wrap64 (1 + (Go.bits .and .i64 a1 1023)))), wrap64 (1 + (wrap64 (1 + (Go.bits .and .i64 a1 1023))))] : List Int) : List Int)).bind fun y328 => (if 0 ≤ (Go.bits .and .i64 a0 1) then (if (Go.bits .and .i64 a0 1) < (y328.length : Int) then ((journal_Free.f k t316 (rd y328 (Go.bits .and .i64 a0 1))).bind fun bt332 => ((journal_Free.f k t316 (Go.bits .and .i64 a0 1)).bind fun bt335 => (if (bt321.1.length : Int) = 0 then ((skifflaw0_Num.f bt321.2).bind fun t338 => (if t338 = 500 then (if bt325.2.1 = true then (none) else ((skifflaw0_Num.f bt325.2.2).bind fun t339 => (if t339 = 500 then (if bt332.2.1 = true then (none) else ((skifflaw0_Num.f bt332.2.2).bind fun t340 => (if t340 = 500 then (if bt335.1 = (wrap64 (96 * (Go.bits .and .i64 a0 1))) then (if bt335.2.1 = true then ((skifflaw0_Num.f bt335.2.2).bind fun t341 => (some (t341 == 0))) else (none)) else (none)) else (none)))) else (none)))) else (none))) else (none)))) else (none)) else (none))))) else (none)) else (none)) = some r := by first | (rw [hy317]; with_reducible exact H) | (have H2_ := (Option.bind_some _ _).symm.trans H; rw [hy317]; with_reducible exact H2_) | (have H2_ := (Option.bind_some _ _).symm.trans H; with_reducible exact H2_) | with_reducible exact H | (rw [hy317]; exact H) | exact H
    have Ny317 := Aside0.mk hy317
    clear hy317
    obtain ⟨ji8, hji8⟩ : ∃ j_ : Int, (wrap64 (Int.tmod (IntKind.u64.wrap (a0)) 3)) = j_ := ⟨_, rfl⟩
    replace H : (if 0 ≤ (ji8) then (if (ji8) < (y317.length : Int) then ((journal_Scan.f k (rdOf ByteArray.empty y317 (ji8))).bind fun bt321 => ((journal_Free.f k (rdOf ByteArray.empty y317 (ji8)) 0).bind fun bt325 => ((some (([wrap64 (-(wrap64 (1 + (Go.bits .and .i64 a1 1023)))), wrap64 (1 + (wrap64 (1 + (Go.bits .and .i64 a1 1023))))] : List Int) : List Int)).bind fun y328 => (if 0 ≤ (Go.bits .and .i64 a0 1) then (if (Go.bits .and .i64 a0 1) < (y328.length : Int) then ((journal_Free.f k t316 (rd y328 (Go.bits .and .i64 a0 1))).bind fun bt332 => ((journal_Free.f k t316 (Go.bits .and .i64 a0 1)).bind fun bt335 => (if (bt321.1.length : Int) = 0 then ((skifflaw0_Num.f bt321.2).bind fun t338 => (if t338 = 500 then (if bt325.2.1 = true then (none) else ((skifflaw0_Num.f bt325.2.2).bind fun t339 => (if t339 = 500 then (if bt332.2.1 = true then (none) else ((skifflaw0_Num.f bt332.2.2).bind fun t340 => (if t340 = 500 then (if bt335.1 = (wrap64 (96 * (Go.bits .and .i64 a0 1))) then (if bt335.2.1 = true then ((skifflaw0_Num.f bt335.2.2).bind fun t341 => (some (t341 == 0))) else (none)) else (none)) else (none)))) else (none)))) else (none))) else (none)))) else (none)) else (none))))) else (none)) else (none)) = some r := by first | (rw [hji8] at H; exact H) | (simp only [hji8] at H ⊢; exact H)
    (try rw [hji8] at A3)
    (try rw [hji8] at A5)
    have hji8w : (IntKind.i64.wrap (Int.tmod (IntKind.u64.wrap (a0)) 3)) = ji8 := (i64_w _).trans hji8
    by_cases c9 : 0 ≤ (ji8)
    ·rw [if_pos c9] at H
     have c9b0 : decide (0 ≤ (ji8)) = true := decide_eq_true c9
     clear c9
     by_cases c10 : (ji8) < (y317.length : Int)
     ·rw [if_pos c10] at H
      have c10b0 : decide ((ji8) < (y317.length : Int)) = true := decide_eq_true c10
      clear c10
      replace H := Option.bind_eq_some_iff.mp H
      obtain ⟨⟨t321, t322⟩, A110, H⟩ := H
      replace H : ((journal_Free.f k (rdOf ByteArray.empty y317 (ji8)) 0).bind fun bt325 => ((some (([wrap64 (-(wrap64 (1 + (Go.bits .and .i64 a1 1023)))), wrap64 (1 + (wrap64 (1 + (Go.bits .and .i64 a1 1023))))] : List Int) : List Int)).bind fun y328 => (if 0 ≤ (Go.bits .and .i64 a0 1) then (if (Go.bits .and .i64 a0 1) < (y328.length : Int) then ((journal_Free.f k t316 (rd y328 (Go.bits .and .i64 a0 1))).bind fun bt332 => ((journal_Free.f k t316 (Go.bits .and .i64 a0 1)).bind fun bt335 => (if (t321.length : Int) = 0 then ((skifflaw0_Num.f t322).bind fun t338 => (if t338 = 500 then (if bt325.2.1 = true then (none) else ((skifflaw0_Num.f bt325.2.2).bind fun t339 => (if t339 = 500 then (if bt332.2.1 = true then (none) else ((skifflaw0_Num.f bt332.2.2).bind fun t340 => (if t340 = 500 then (if bt335.1 = (wrap64 (96 * (Go.bits .and .i64 a0 1))) then (if bt335.2.1 = true then ((skifflaw0_Num.f bt335.2.2).bind fun t341 => (some (t341 == 0))) else (none)) else (none)) else (none)))) else (none)))) else (none))) else (none)))) else (none)) else (none)))) = some r := H
      have A11 := Aside0.mk A110
      clear A110
      replace H := Option.bind_eq_some_iff.mp H
      obtain ⟨⟨t325, t326, t327⟩, A120, H⟩ := H
      replace H : ((some (([wrap64 (-(wrap64 (1 + (Go.bits .and .i64 a1 1023)))), wrap64 (1 + (wrap64 (1 + (Go.bits .and .i64 a1 1023))))] : List Int) : List Int)).bind fun y328 => (if 0 ≤ (Go.bits .and .i64 a0 1) then (if (Go.bits .and .i64 a0 1) < (y328.length : Int) then ((journal_Free.f k t316 (rd y328 (Go.bits .and .i64 a0 1))).bind fun bt332 => ((journal_Free.f k t316 (Go.bits .and .i64 a0 1)).bind fun bt335 => (if (t321.length : Int) = 0 then ((skifflaw0_Num.f t322).bind fun t338 => (if t338 = 500 then (if t326 = true then (none) else ((skifflaw0_Num.f t327).bind fun t339 => (if t339 = 500 then (if bt332.2.1 = true then (none) else ((skifflaw0_Num.f bt332.2.2).bind fun t340 => (if t340 = 500 then (if bt335.1 = (wrap64 (96 * (Go.bits .and .i64 a0 1))) then (if bt335.2.1 = true then ((skifflaw0_Num.f bt335.2.2).bind fun t341 => (some (t341 == 0))) else (none)) else (none)) else (none)))) else (none)))) else (none))) else (none)))) else (none)) else (none))) = some r := H
      have A12 := Aside0.mk A120
      clear A120
      obtain ⟨y328, hy328⟩ : ∃ y_ : List Int, y_ = (([wrap64 (-(wrap64 (1 + (Go.bits .and .i64 a1 1023)))), wrap64 (1 + (wrap64 (1 + (Go.bits .and .i64 a1 1023))))] : List Int)) := ⟨_, rfl⟩
      replace H : (if 0 ≤ (Go.bits .and .i64 a0 1) then (if (Go.bits .and .i64 a0 1) < (y328.length : Int) then ((journal_Free.f k t316 (rd y328 (Go.bits .and .i64 a0 1))).bind fun bt332 => ((journal_Free.f k t316 (Go.bits .and .i64 a0 1)).bind fun bt335 => (if (t321.length : Int) = 0 then ((skifflaw0_Num.f t322).bind fun t338 => (if t338 = 500 then (if t326 = true then (none) else ((skifflaw0_Num.f t327).bind fun t339 => (if t339 = 500 then (if bt332.2.1 = true then (none) else ((skifflaw0_Num.f bt332.2.2).bind fun t340 => (if t340 = 500 then (if bt335.1 = (wrap64 (96 * (Go.bits .and .i64 a0 1))) then (if bt335.2.1 = true then ((skifflaw0_Num.f bt335.2.2).bind fun t341 => (some (t341 == 0))) else (none)) else (none)) else (none)))) else (none)))) else (none))) else (none)))) else (none)) else (none)) = some r := by first | (rw [hy328]; with_reducible exact H) | (have H2_ := (Option.bind_some _ _).symm.trans H; rw [hy328]; with_reducible exact H2_) | (have H2_ := (Option.bind_some _ _).symm.trans H; with_reducible exact H2_) | with_reducible exact H | (rw [hy328]; exact H) | exact H
      have Ny328 := Aside0.mk hy328
      clear hy328
      by_cases c13 : 0 ≤ (Go.bits .and .i64 a0 1)
      ·rw [if_pos c13] at H
       have c13b0 : decide (0 ≤ (Go.bits .and .i64 a0 1)) = true := decide_eq_true c13
       clear c13
       by_cases c14 : (Go.bits .and .i64 a0 1) < (y328.length : Int)
       ·rw [if_pos c14] at H
        have c14b0 : decide ((Go.bits .and .i64 a0 1) < (y328.length : Int)) = true := decide_eq_true c14
        clear c14
        replace H := Option.bind_eq_some_iff.mp H
        obtain ⟨⟨t332, t333, t334⟩, A150, H⟩ := H
        replace H : ((journal_Free.f k t316 (Go.bits .and .i64 a0 1)).bind fun bt335 => (if (t321.length : Int) = 0 then ((skifflaw0_Num.f t322).bind fun t338 => (if t338 = 500 then (if t326 = true then (none) else ((skifflaw0_Num.f t327).bind fun t339 => (if t339 = 500 then (if t333 = true then (none) else ((skifflaw0_Num.f t334).bind fun t340 => (if t340 = 500 then (if bt335.1 = (wrap64 (96 * (Go.bits .and .i64 a0 1))) then (if bt335.2.1 = true then ((skifflaw0_Num.f bt335.2.2).bind fun t341 => (some (t341 == 0))) else (none)) else (none)) else (none)))) else (none)))) else (none))) else (none))) = some r := H
        have A15 := Aside0.mk A150
        clear A150
        replace H := Option.bind_eq_some_iff.mp H
        obtain ⟨⟨t335, t336, t337⟩, A160, H⟩ := H
        replace H : (if (t321.length : Int) = 0 then ((skifflaw0_Num.f t322).bind fun t338 => (if t338 = 500 then (if t326 = true then (none) else ((skifflaw0_Num.f t327).bind fun t339 => (if t339 = 500 then (if t333 = true then (none) else ((skifflaw0_Num.f t334).bind fun t340 => (if t340 = 500 then (if t335 = (wrap64 (96 * (Go.bits .and .i64 a0 1))) then (if t336 = true then ((skifflaw0_Num.f t337).bind fun t341 => (some (t341 == 0))) else (none)) else (none)) else (none)))) else (none)))) else (none))) else (none)) = some r := H
        have A16 := Aside0.mk A160
        clear A160
        by_cases c17 : (t321.length : Int) = 0
        ·rw [if_pos c17] at H
         have c17b0 : ((t321.length : Int) == 0) = true := beq_iff_eq.mpr c17
         have c17b1 : ((t321.length : Int) != 0) = false := bne_eq_false_iff_eq.mpr c17
         clear c17
         replace H := Option.bind_eq_some_iff.mp H
         obtain ⟨t338, A180, H⟩ := H
         replace H : (if t338 = 500 then (if t326 = true then (none) else ((skifflaw0_Num.f t327).bind fun t339 => (if t339 = 500 then (if t333 = true then (none) else ((skifflaw0_Num.f t334).bind fun t340 => (if t340 = 500 then (if t335 = (wrap64 (96 * (Go.bits .and .i64 a0 1))) then (if t336 = true then ((skifflaw0_Num.f t337).bind fun t341 => (some (t341 == 0))) else (none)) else (none)) else (none)))) else (none)))) else (none)) = some r := H
         have A18 := Aside0.mk A180
         clear A180
         by_cases c19 : t338 = 500
         ·rw [if_pos c19] at H
          have c19b0 : (t338 == 500) = true := beq_iff_eq.mpr c19
          have c19b1 : (t338 != 500) = false := bne_eq_false_iff_eq.mpr c19
          clear c19
          by_cases c20 : t326 = true
          ·subst c20
           have H1 : (none) = some r := by rw [if_pos rfl] at H; exact H
           clear H
           have H := H1
           clear H1
           exact absurd H (by simp)
          ·replace c20 := Bool.eq_false_iff.mpr c20
           subst c20
           have H1 : ((skifflaw0_Num.f t327).bind fun t339 => (if t339 = 500 then (if t333 = true then (none) else ((skifflaw0_Num.f t334).bind fun t340 => (if t340 = 500 then (if t335 = (wrap64 (96 * (Go.bits .and .i64 a0 1))) then (if t336 = true then ((skifflaw0_Num.f t337).bind fun t341 => (some (t341 == 0))) else (none)) else (none)) else (none)))) else (none))) = some r := by rw [if_neg (show ¬ (false = true) by decide)] at H; exact H
           clear H
           have H := H1
           clear H1
           replace H := Option.bind_eq_some_iff.mp H
           obtain ⟨t339, A210, H⟩ := H
           replace H : (if t339 = 500 then (if t333 = true then (none) else ((skifflaw0_Num.f t334).bind fun t340 => (if t340 = 500 then (if t335 = (wrap64 (96 * (Go.bits .and .i64 a0 1))) then (if t336 = true then ((skifflaw0_Num.f t337).bind fun t341 => (some (t341 == 0))) else (none)) else (none)) else (none)))) else (none)) = some r := H
           have A21 := Aside0.mk A210
           clear A210
           by_cases c22 : t339 = 500
           ·rw [if_pos c22] at H
            have c22b0 : (t339 == 500) = true := beq_iff_eq.mpr c22
            have c22b1 : (t339 != 500) = false := bne_eq_false_iff_eq.mpr c22
            clear c22
            by_cases c23 : t333 = true
            ·subst c23
             have H1 : (none) = some r := by rw [if_pos rfl] at H; exact H
             clear H
             have H := H1
             clear H1
             exact absurd H (by simp)
            ·replace c23 := Bool.eq_false_iff.mpr c23
             subst c23
             have H1 : ((skifflaw0_Num.f t334).bind fun t340 => (if t340 = 500 then (if t335 = (wrap64 (96 * (Go.bits .and .i64 a0 1))) then (if t336 = true then ((skifflaw0_Num.f t337).bind fun t341 => (some (t341 == 0))) else (none)) else (none)) else (none))) = some r := by rw [if_neg (show ¬ (false = true) by decide)] at H; exact H
             clear H
             have H := H1
             clear H1
             replace H := Option.bind_eq_some_iff.mp H
             obtain ⟨t340, A240, H⟩ := H
             replace H : (if t340 = 500 then (if t335 = (wrap64 (96 * (Go.bits .and .i64 a0 1))) then (if t336 = true then ((skifflaw0_Num.f t337).bind fun t341 => (some (t341 == 0))) else (none)) else (none)) else (none)) = some r := H
             have A24 := Aside0.mk A240
             clear A240
             by_cases c25 : t340 = 500
             ·rw [if_pos c25] at H
              have c25b0 : (t340 == 500) = true := beq_iff_eq.mpr c25
              have c25b1 : (t340 != 500) = false := bne_eq_false_iff_eq.mpr c25
              clear c25
              by_cases c26 : t335 = (wrap64 (96 * (Go.bits .and .i64 a0 1)))
              ·rw [if_pos c26] at H
               have c26b0 : (t335 == (wrap64 (96 * (Go.bits .and .i64 a0 1)))) = true := beq_iff_eq.mpr c26
               have c26b1 : (t335 != (wrap64 (96 * (Go.bits .and .i64 a0 1)))) = false := bne_eq_false_iff_eq.mpr c26
               clear c26
               by_cases c27 : t336 = true
               ·subst c27
                have H1 : ((skifflaw0_Num.f t337).bind fun t341 => (some (t341 == 0))) = some r := by rw [if_pos rfl] at H; exact H
                clear H
                have H := H1
                clear H1
                replace H := Option.bind_eq_some_iff.mp H
                obtain ⟨t341, A280, H⟩ := H
                replace H : (some (t341 == 0)) = some r := H
                have A28 := Aside0.mk A280
                clear A280
                obtain rfl := Option.some.inj H
                go_enter Try.func6, Try.ntmps6
                go_wp2_with (first | ((with_reducible refine gate_callee (f := 15) rfl ?_); refine goesL_ (some 19) rfl rfl Try.func15 (by kernel_rfl) rfl #[] rfl (by (try simp only [List.map_toArray, List.map_cons, List.map_nil]); first | done | rfl | (simp only [List.length_drop, List.length_take]; rfl)) ?_; (with_reducible refine (skifflaw5_awake.calls k  true _ A3.out).mono ?_); rintro e w29 ⟨rfl, hb⟩; refine ⟨_, rfl, ?_⟩; have n0_ := Aside0.mk (below_step (by repeat (first | (with_reducible first | exact HB.out | apply below_alloc | apply pw_below_drewN | apply below_drew1) | exact HB.out)) hb); clear HB; have HB := n0_; clear n0_; (try clear hb); (try clear hb2); (try clear hk); (try clear hi)) | ((with_reducible refine gate_callee (f := 17) rfl ?_); refine goesL_ (some 24) rfl rfl Try.func17 (by kernel_rfl) rfl #[] rfl (by (try simp only [List.map_toArray, List.map_cons, List.map_nil]); first | done | rfl | (simp only [List.length_drop, List.length_take]; rfl)) ?_; (with_reducible refine (skiffref1_Blank.calls  t316 _ A5.out).mono ?_); rintro e w30 ⟨rfl, hb⟩; refine ⟨_, rfl, ?_⟩; have n0_ := Aside0.mk (below_step (by repeat (first | (with_reducible first | exact HB.out | apply below_alloc | apply pw_below_drewN | apply below_drew1) | exact HB.out)) hb); clear HB; have HB := n0_; clear n0_; (try clear hb); (try clear hb2); (try clear hk); (try clear hi)) | ((with_reducible refine gate_dst (N := 29) rfl ?_); refine Kd.R_lit Kd.string _ 9 ?hg (N := 29) ?hd (xs := ([(⟨#[]⟩ : ByteArray), t316.extract 1 t316.size, t316 ++ (⟨#[120]⟩ : ByteArray)] : List ByteArray)) (inner := [.string (⟨#[]⟩ : ByteArray), .string (t316.extract 1 t316.size), .string (t316 ++ (⟨#[120]⟩ : ByteArray))]) (ok := fun _ => True) (okp := fun _ => True) ?hr ?hp (fun _ hk => hk) trivial (Below.refl _ _) (Nat.le_refl _) (by simp) ?_; (case hd => rfl); (case hg => rfl); (case hr => first | (go_simp; done) | (go_simp; rfl)); (case hp => exact (Reps.one (show Kd.M Kd.string _ _ _ (⟨#[]⟩ : ByteArray) [.string (⟨#[]⟩ : ByteArray)] from rfl) (Reps.one (show Kd.M Kd.string _ _ _ (t316.extract 1 t316.size) [.string (t316.extract 1 t316.size)] from rfl) (Reps.one (show Kd.M Kd.string _ _ _ (t316 ++ (⟨#[120]⟩ : ByteArray)) [.string (t316 ++ (⟨#[120]⟩ : ByteArray))] from rfl) (Reps.none _ _))))); intro v318 w31 ho32 hb hg_ hnew_; clear hg_ hnew_; (first | rw [← Ny317.out] at ho32 | (simp only [Int.reduceToNat] at ho32; rw [← Ny317.out] at ho32)); have n0_ := Aside0.mk (Kd.R_lower ho32 (below_size (by repeat (first | (with_reducible first | exact HB.out | apply below_alloc | apply pw_below_drewN | apply below_drew1) | exact HB.out)))); have n1_ := Aside0.mk (below_step (by repeat (first | (with_reducible first | exact HB.out | apply below_alloc | apply pw_below_drewN | apply below_drew1) | exact HB.out)) hb); clear HB; have HO319 := n0_; have HB := n1_; clear n0_ n1_; clear hb ho32; obtain ⟨Ao33, co33, eo33⟩ := Kd.R_slice HO319.out; subst eo33; have p320 : 0 ≤ ((ji8) : Int) := of_decide_eq_true (by first | (with_reducible assumption) | assumption); have q320 : (ji8) < (y317.length : Int) := of_decide_eq_true (by first | (with_reducible assumption) | assumption); obtain ⟨ad320, e320, hx320_0⟩ := Kd.at_string (Kd.R_reads' HO319.out).2.2 (ji8) p320 q320; cases e320; replace p320 := eq_true p320; replace q320 := eq_true q320) | ((with_reducible refine gate_callee (f := 8) rfl ?_); refine goesL_ (some 38) rfl rfl Try.func8 (by kernel_rfl) rfl #[.string (rdOf ByteArray.empty y317 (ji8))] rfl (by (try simp only [List.map_toArray, List.map_cons, List.map_nil]); first | done | (simp only [hji8]; rfl) | rfl | (simp only [List.length_drop, List.length_take]; rfl)) ?_; (with_reducible refine (journal_Scan.calls k (rdOf ByteArray.empty y317 (ji8)) t321 t322 _ A11.out).mono ?_); rintro e w34 ⟨v323, rfl, ho0, hb⟩; refine ⟨_, rfl, ?_⟩; have n0_ := Aside0.mk (Kd.R_below (by (with_reducible repeat (first | apply Kd.R_alloc | apply Kd.R_drewN | apply Kd.R_drew)); exact HO319.out) hb); have n1_ := Aside0.mk (Kd.R_lower ho0 (below_size (by repeat (first | (with_reducible first | exact HB.out | apply below_alloc | apply pw_below_drewN | apply below_drew1) | exact HB.out)))); have n2_ := Aside0.mk (below_step (by repeat (first | (with_reducible first | exact HB.out | apply below_alloc | apply pw_below_drewN | apply below_drew1) | exact HB.out)) hb); clear HO319; clear HB; have HO319 := n0_; have HO324 := n1_; have HB := n2_; clear n0_ n1_ n2_; (try clear hb); (try clear hb2); (try clear hk); (try clear hi); (try clear ho0)) | ((with_reducible refine gate_callee (f := 10) rfl ?_); refine goesL_ (some 43) rfl rfl Try.func10 (by kernel_rfl) rfl #[.string (rdOf ByteArray.empty y317 (ji8)), .int .i64 0] rfl (by (try simp only [List.map_toArray, List.map_cons, List.map_nil]); first | done | (simp only [hji8]; rfl) | rfl | (simp only [List.length_drop, List.length_take]; rfl)) ?_; (with_reducible refine (journal_Free.calls k (rdOf ByteArray.empty y317 (ji8)) 0 t325 false t327 _ A12.out).mono ?_); rintro e w35 ⟨rfl, hb⟩; refine ⟨_, rfl, ?_⟩; have n0_ := Aside0.mk (Kd.R_below (by (with_reducible repeat (first | apply Kd.R_alloc | apply Kd.R_drewN | apply Kd.R_drew)); exact HO319.out) hb); have n1_ := Aside0.mk (Kd.R_below (by (with_reducible repeat (first | apply Kd.R_alloc | apply Kd.R_drewN | apply Kd.R_drew)); exact HO324.out) hb); have n2_ := Aside0.mk (below_step (by repeat (first | (with_reducible first | exact HB.out | apply below_alloc | apply pw_below_drewN | apply below_drew1) | exact HB.out)) hb); clear HO319; clear HO324; clear HB; have HO319 := n0_; have HO324 := n1_; have HB := n2_; clear n0_ n1_ n2_; (try clear hb); (try clear hb2); (try clear hk); (try clear hi)) | ((with_reducible refine gate_dst (N := 53) rfl ?_); refine Kd.R_lit (Kd.int .i64) _ 3 ?hg (N := 53) ?hd (xs := ([wrap64 (-(wrap64 (1 + (Go.bits .and .i64 a1 1023)))), wrap64 (1 + (wrap64 (1 + (Go.bits .and .i64 a1 1023))))] : List Int)) (inner := [.int .i64 (wrap64 (-(wrap64 (1 + (Go.bits .and .i64 a1 1023))))), .int .i64 (wrap64 (1 + (wrap64 (1 + (Go.bits .and .i64 a1 1023)))))]) (ok := fun _ => True) (okp := fun _ => True) ?hr ?hp (fun _ hk => hk) trivial (Below.refl _ _) (Nat.le_refl _) (by simp) ?_; (case hd => rfl); (case hg => rfl); (case hr => first | (go_simp; done) | (go_simp; rfl)); (case hp => exact (Reps.one (show Kd.M (Kd.int .i64) _ _ _ (wrap64 (-(wrap64 (1 + (Go.bits .and .i64 a1 1023))))) [.int .i64 (wrap64 (-(wrap64 (1 + (Go.bits .and .i64 a1 1023)))))] from rfl) (Reps.one (show Kd.M (Kd.int .i64) _ _ _ (wrap64 (1 + (wrap64 (1 + (Go.bits .and .i64 a1 1023))))) [.int .i64 (wrap64 (1 + (wrap64 (1 + (Go.bits .and .i64 a1 1023)))))] from rfl) (Reps.none _ _)))); intro v329 w36 ho37 hb hg_ hnew_; clear hg_ hnew_; (first | rw [← Ny328.out] at ho37 | (simp only [Int.reduceToNat] at ho37; rw [← Ny328.out] at ho37)); have n0_ := Aside0.mk (Kd.R_below (by (with_reducible repeat (first | apply Kd.R_alloc | apply Kd.R_drewN | apply Kd.R_drew)); exact HO319.out) hb); have n1_ := Aside0.mk (Kd.R_below (by (with_reducible repeat (first | apply Kd.R_alloc | apply Kd.R_drewN | apply Kd.R_drew)); exact HO324.out) hb); have n2_ := Aside0.mk (Kd.R_lower ho37 (below_size (by repeat (first | (with_reducible first | exact HB.out | apply below_alloc | apply pw_below_drewN | apply below_drew1) | exact HB.out)))); have n3_ := Aside0.mk (below_step (by repeat (first | (with_reducible first | exact HB.out | apply below_alloc | apply pw_below_drewN | apply below_drew1) | exact HB.out)) hb); clear HO319; clear HO324; clear HB; have HO319 := n0_; have HO324 := n1_; have HO330 := n2_; have HB := n3_; clear n0_ n1_ n2_ n3_; clear hb ho37; obtain ⟨Ao38, co38, eo38⟩ := Kd.R_slice HO330.out; subst eo38; have p331 : 0 ≤ ((Go.bits .and .i64 a0 1) : Int) := of_decide_eq_true (by first | (with_reducible assumption) | assumption); have q331 : (Go.bits .and .i64 a0 1) < (y328.length : Int) := of_decide_eq_true (by first | (with_reducible assumption) | assumption); obtain ⟨ad331, e331, hx331_0⟩ := Kd.at_int (Kd.R_reads' HO330.out).2.2 (Go.bits .and .i64 a0 1) p331 q331; cases e331; replace p331 := eq_true p331; replace q331 := eq_true q331) | ((with_reducible refine gate_callee (f := 10) rfl ?_); refine goesL_ (some 58) rfl rfl Try.func10 (by kernel_rfl) rfl #[.string t316, .int .i64 (rd y328 (Go.bits .and .i64 a0 1))] rfl (by (try simp only [List.map_toArray, List.map_cons, List.map_nil]); first | done | rfl | (simp only [List.length_drop, List.length_take]; rfl)) ?_; (with_reducible refine (journal_Free.calls k t316 (rd y328 (Go.bits .and .i64 a0 1)) t332 false t334 _ A15.out).mono ?_); rintro e w39 ⟨rfl, hb⟩; refine ⟨_, rfl, ?_⟩; have n0_ := Aside0.mk (Kd.R_below (by (with_reducible repeat (first | apply Kd.R_alloc | apply Kd.R_drewN | apply Kd.R_drew)); exact HO319.out) hb); have n1_ := Aside0.mk (Kd.R_below (by (with_reducible repeat (first | apply Kd.R_alloc | apply Kd.R_drewN | apply Kd.R_drew)); exact HO324.out) hb); have n2_ := Aside0.mk (Kd.R_below (by (with_reducible repeat (first | apply Kd.R_alloc | apply Kd.R_drewN | apply Kd.R_drew)); exact HO330.out) hb); have n3_ := Aside0.mk (below_step (by repeat (first | (with_reducible first | exact HB.out | apply below_alloc | apply pw_below_drewN | apply below_drew1) | exact HB.out)) hb); clear HO319; clear HO324; clear HO330; clear HB; have HO319 := n0_; have HO324 := n1_; have HO330 := n2_; have HB := n3_; clear n0_ n1_ n2_ n3_; (try clear hb); (try clear hb2); (try clear hk); (try clear hi)) | ((with_reducible refine gate_callee (f := 10) rfl ?_); refine goesL_ (some 66) rfl rfl Try.func10 (by kernel_rfl) rfl #[.string t316, .int .i64 (Go.bits .and .i64 a0 1)] rfl (by (try simp only [List.map_toArray, List.map_cons, List.map_nil]); first | done | rfl | (simp only [List.length_drop, List.length_take]; rfl)) ?_; (with_reducible refine (journal_Free.calls k t316 (Go.bits .and .i64 a0 1) t335 true t337 _ A16.out).mono ?_); rintro e w40 ⟨rfl, hb⟩; refine ⟨_, rfl, ?_⟩; have n0_ := Aside0.mk (Kd.R_below (by (with_reducible repeat (first | apply Kd.R_alloc | apply Kd.R_drewN | apply Kd.R_drew)); exact HO319.out) hb); have n1_ := Aside0.mk (Kd.R_below (by (with_reducible repeat (first | apply Kd.R_alloc | apply Kd.R_drewN | apply Kd.R_drew)); exact HO324.out) hb); have n2_ := Aside0.mk (Kd.R_below (by (with_reducible repeat (first | apply Kd.R_alloc | apply Kd.R_drewN | apply Kd.R_drew)); exact HO330.out) hb); have n3_ := Aside0.mk (below_step (by repeat (first | (with_reducible first | exact HB.out | apply below_alloc | apply pw_below_drewN | apply below_drew1) | exact HB.out)) hb); clear HO319; clear HO324; clear HO330; clear HB; have HO319 := n0_; have HO324 := n1_; have HO330 := n2_; have HB := n3_; clear n0_ n1_ n2_ n3_; (try clear hb); (try clear hb2); (try clear hk); (try clear hi); obtain ⟨Ao41, co41, eo41⟩ := Kd.R_slice HO324.out; subst eo41) | (go_at_call 13; (with_reducible refine (skifflaw0_Num.calls t322 t338 _ A18.out).mono ?_); rintro e w' ⟨rfl, ⟨nd, rfl⟩⟩) | (go_at_call 13; (with_reducible refine (skifflaw0_Num.calls t327 t339 _ A21.out).mono ?_); rintro e w' ⟨rfl, ⟨nd, rfl⟩⟩) | (go_at_call 13; (with_reducible refine (skifflaw0_Num.calls t334 t340 _ A24.out).mono ?_); rintro e w' ⟨rfl, ⟨nd, rfl⟩⟩) | (go_at_call 13; (with_reducible refine (skifflaw0_Num.calls t337 t341 _ A28.out).mono ?_); rintro e w' ⟨rfl, ⟨nd, rfl⟩⟩))
                go_ret
                exact ⟨by first | rfl | (simp [errW_none, errW_some] <;> rfl) | (simp only [← hji8]; first | rfl | (simp [errW_none, errW_some] <;> rfl)) | (simp [*, errW_none, errW_some] <;> rfl), by repeat (first | (with_reducible first | exact HB.out | apply below_alloc | apply pw_below_drewN | apply below_drew1) | exact HB.out)⟩
               ·replace c27 := Bool.eq_false_iff.mpr c27
                subst c27
                have H1 : (none) = some r := by rw [if_neg (show ¬ (false = true) by decide)] at H; exact H
                clear H
                have H := H1
                clear H1
                exact absurd H (by simp)
              ·rw [if_neg c26] at H
               exact absurd H (by simp)
             ·rw [if_neg c25] at H
              exact absurd H (by simp)
           ·rw [if_neg c22] at H
            exact absurd H (by simp)
         ·rw [if_neg c19] at H
          exact absurd H (by simp)
        ·rw [if_neg c17] at H
         exact absurd H (by simp)
       ·rw [if_neg c14] at H
        exact absurd H (by simp)
      ·rw [if_neg c13] at H
       exact absurd H (by simp)
     ·rw [if_neg c10] at H
      exact absurd H (by simp)
    ·rw [if_neg c9] at H
     exact absurd H (by simp)
   ·rw [if_neg c7] at H
    exact absurd H (by simp)
  ·rw [if_neg c6] at H
   exact absurd H (by simp)
 ·replace c4 := Bool.eq_false_iff.mpr c4
  subst c4
  have H1 : (none) = some r := by rw [if_neg (show ¬ (false = true) by decide)] at H; exact H
  clear H
  have H := H1
  clear H1
  exact absurd H (by simp)

/-- THE ONE PURE STATEMENT of skifflaw5_JournalForms: yours. -/
def skifflaw5_JournalForms.Pure : Prop := ∀ (a0 : Int) (a1 : Int), (Lit.int .i64 a0).wf = true → (Lit.int .i64 a1).wf = true → ∃ k, skifflaw5_JournalForms.f k a0 a1 = some true
theorem skifflaw5_JournalForms.walk (P : skifflaw5_JournalForms.Pure) (a0 : Int) (a1 : Int) (w : World) (w0 : (Lit.int .i64 a0).wf = true) (w1 : (Lit.int .i64 a1).wf = true) :
  Calls Try.prog 6 #[.int .i64 a0, .int .i64 a1] w fun e w' => e = .returned (.bool true) ∧ Below w.heap.size w w' := by
 obtain ⟨k, h⟩ := P a0 a1 w0 w1
 refine (skifflaw5_JournalForms.calls k a0 a1 true w h).mono ?_
 rintro e w' ⟨rfl, hd⟩
 exact ⟨rfl, hd⟩

end Go.Proofs.Ytfjoekpgaiaifaa.P
