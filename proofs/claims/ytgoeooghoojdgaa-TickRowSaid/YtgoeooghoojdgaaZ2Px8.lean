-- written by wip/prt.py of this repo, by the kit's print, over contracts that are proved here by hand
import Derived.Test.YtgoeooghoojdgaaZ2Cz
import Derived.Test.YtgoeooghoojdgaaZ2Px0
import Derived.Test.YtgoeooghoojdgaaZ2Px5
import Derived.Test.YtgoeooghoojdgaaZ2Px6
import Derived.Test.YtgoeooghoojdgaaZ2Px7
namespace Go.Proofs.Ytgoeooghoojdgaa.P
open Go.RowKit Go.Proofs.YtgoeooghoojdgaaW.PrintWords Go.Proofs.YtgoeooghoojdgaaW.PrintLast Go.Proofs.YtgoeooghoojdgaaW.PrintMore
attribute [local go_sem] max2_int min2_int max_two min_two max_three min_three max_four min_four   -- for this text's walks alone
set_option linter.unusedVariables false
set_option linter.unusedSimpArgs false

/-! ### skifflaw18_awake: function 17 -/
def skifflaw18_awake.j0 : Nat → ByteArray → ByteArray → Int → ByteArray → Int → ByteArray → Int → Int → Bool → Int → Int → Int → Int → Int → List (S40) → Int → Int → Int → Int → Int → List (S40) → Int → Int → Int → Int → Int → List (S40) → Option (Bool)
 | 0, _, _, _, _, _, _, _, _, _, _, _, _, _, _, _, _, _, _, _, _, _, _, _, _, _, _, _ => none
 | k + 1, x1, x3, x5, x6, x8, x9, x11, x14, x53, x453000, x453001, x453002, x453003, x453004, x453005, x464000, x464001, x464002, x464003, x464004, x464005, x483000, x483001, x483002, x483003, x483004, x483005 => if x53 = true then (none) else (if 192 ≤ 196 then (if 196 ≤ (x3.size : Int) then (if (x3.extract 192 196).toList = ([97, 98, 99, 100] : List UInt8) then (if x453000 = 1 then (if (x453005.length : Int) = 0 then ((skifflaw0_Num.f x5).bind fun t494 => (if t494 = 0 then (if 192 < (x6.size : Int) then (if (bt x6 192) = 249 then ((skifflaw0_SameDevice.f k x464000 x464001 x464002 x464003 x464004 x464005 0 0 0 0 0 ([] : List (S40))).bind fun t495 => (if t495 = true then ((skifflaw0_Num.f x8).bind fun t496 => (if t496 = 0 then (if x9.toList = x1.toList then ((skifflaw18_sent.f k).bind fun bt497 => ((skifflaw0_SameDevice.f k x483000 x483001 x483002 x483003 x483004 x483005 bt497.1 bt497.2.1 bt497.2.2.1 bt497.2.2.2.1 bt497.2.2.2.2.1 bt497.2.2.2.2.2).bind fun t505 => (if t505 = true then ((skifflaw0_Num.f x11).bind fun t506 => (if t506 = 0 then ((skifflaw0_Num.f x14).bind fun t507 => (some (t507 == 1800))) else (none))) else (none)))) else (none)) else (none))) else (none))) else (none)) else (none)) else (none))) else (none)) else (none)) else (none)) else (none)) else (none))
def skifflaw18_awake.f (k : Nat)  : Option (Bool) := (skiffref1_Blank.f).bind fun t437 => ((some (([(⟨false, 192, (⟨#[97, 98, 99, 100]⟩ : ByteArray)⟩ : S40)] : List (S40)) : List (S40))).bind fun y438 => ((tick_Step.f k t437 2 0 0 0 0 y438).bind fun bt442 => ((tick_Cut.f k t437 2 0 0 0 0 y438 3).bind fun bt453 => ((skifflaw18_sent.f k).bind fun bt464 => ((tick_Step.f k t437 bt464.1 bt464.2.1 bt464.2.2.1 bt464.2.2.2.1 bt464.2.2.2.2.1 bt464.2.2.2.2.2).bind fun bt472 => ((tick_Step.f k (⟨#[]⟩ : ByteArray) 2 0 0 0 0 y438).bind fun bt483 => (if (bt442.1.size : Int) = 768 then (skifflaw18_awake.j0 k t437 bt442.1 bt442.2.2.2.2.2.2.2 bt453.1 bt453.2.2.2.2.2.2.2 bt472.1 bt472.2.2.2.2.2.2.2 bt483.2.2.2.2.2.2.2 ((bt453.1.size : Int) != 768) bt442.2.1 bt442.2.2.1 bt442.2.2.2.1 bt442.2.2.2.2.1 bt442.2.2.2.2.2.1 bt442.2.2.2.2.2.2.1 bt453.2.1 bt453.2.2.1 bt453.2.2.2.1 bt453.2.2.2.2.1 bt453.2.2.2.2.2.1 bt453.2.2.2.2.2.2.1 bt472.2.1 bt472.2.2.1 bt472.2.2.2.1 bt472.2.2.2.2.1 bt472.2.2.2.2.2.1 bt472.2.2.2.2.2.2.1) else (none))))))))
theorem skifflaw18_awake.mono_l : ∀ k, (∀ y0 y1 y2 y3 y4 y5 y6 y7 y8 y9 y10 y11 y12 y13 y14 y15 y16 y17 y18 y19 y20 y21 y22 y23 y24 y25 y26, LeO (skifflaw18_awake.j0 k y0 y1 y2 y3 y4 y5 y6 y7 y8 y9 y10 y11 y12 y13 y14 y15 y16 y17 y18 y19 y20 y21 y22 y23 y24 y25 y26) (skifflaw18_awake.j0 (k + 1) y0 y1 y2 y3 y4 y5 y6 y7 y8 y9 y10 y11 y12 y13 y14 y15 y16 y17 y18 y19 y20 y21 y22 y23 y24 y25 y26))
 | 0 => fun _ _ _ _ _ _ _ _ _ _ _ _ _ _ _ _ _ _ _ _ _ _ _ _ _ _ _ r h => by simp [skifflaw18_awake.j0] at h
 | k + 1 => by
  have ih0 := skifflaw18_awake.mono_l k
  ·intro y0 y1 y2 y3 y4 y5 y6 y7 y8 y9 y10 y11 y12 y13 y14 y15 y16 y17 y18 y19 y20 y21 y22 y23 y24 y25 y26
   unfold skifflaw18_awake.j0
   repeat' first
   | (with_reducible exact ih0 _ _ _ _ _ _ _ _ _ _ _ _ _ _ _ _ _ _ _ _ _ _ _ _ _ _ _)
   | (with_reducible exact skifflaw0_SameDevice.mono _ _ _ _ _ _ _ _ _ _ _ _ _)
   | (with_reducible exact skifflaw18_sent.mono _)
   | (with_reducible exact tick_Cut.mono _ _ _ _ _ _ _ _ _)
   | (with_reducible exact tick_Step.mono _ _ _ _ _ _ _ _)
   | (with_reducible exact LeO.refl _)
   | (with_reducible exact LeO.none _)
   | (with_reducible refine LeO.ite ?_ ?_)
   | (with_reducible refine LeO.bind ?_ (fun _ => ?_))
   | exact ih0 _ _ _ _ _ _ _ _ _ _ _ _ _ _ _ _ _ _ _ _ _ _ _ _ _ _ _
   | exact skifflaw0_SameDevice.mono _ _ _ _ _ _ _ _ _ _ _ _ _
   | exact skifflaw18_sent.mono _
   | exact tick_Cut.mono _ _ _ _ _ _ _ _ _
   | exact tick_Step.mono _ _ _ _ _ _ _ _
   | exact LeO.none _
   | refine LeO.ite ?_ ?_
   | refine LeO.bind ?_ (fun _ => ?_)
theorem skifflaw18_awake.mono : ∀ k, LeO (skifflaw18_awake.f k ) (skifflaw18_awake.f (k + 1) ) := by
 intro  k
 have ih0 := skifflaw18_awake.mono_l k
 unfold skifflaw18_awake.f
 repeat' first
   | (with_reducible exact ih0 _ _ _ _ _ _ _ _ _ _ _ _ _ _ _ _ _ _ _ _ _ _ _ _ _ _ _)
   | (with_reducible exact skifflaw0_SameDevice.mono _ _ _ _ _ _ _ _ _ _ _ _ _)
   | (with_reducible exact skifflaw18_sent.mono _)
   | (with_reducible exact tick_Cut.mono _ _ _ _ _ _ _ _ _)
   | (with_reducible exact tick_Step.mono _ _ _ _ _ _ _ _)
   | (with_reducible exact LeO.refl _)
   | (with_reducible exact LeO.none _)
   | (with_reducible refine LeO.ite ?_ ?_)
   | (with_reducible refine LeO.bind ?_ (fun _ => ?_))
   | exact ih0 _ _ _ _ _ _ _ _ _ _ _ _ _ _ _ _ _ _ _ _ _ _ _ _ _ _ _
   | exact skifflaw0_SameDevice.mono _ _ _ _ _ _ _ _ _ _ _ _ _
   | exact skifflaw18_sent.mono _
   | exact tick_Cut.mono _ _ _ _ _ _ _ _ _
   | exact tick_Step.mono _ _ _ _ _ _ _ _
   | exact LeO.none _
   | refine LeO.ite ?_ ?_
   | refine LeO.bind ?_ (fun _ => ?_)
def skifflaw18_awake.T9 : Bool × List (List Nat × List Nat) := (true, [([], []), ([0], [0]), ([1], [1]), ([2], [2]), ([3], [3]), ([4, 3], [3, 4]), ([5, 3], [3, 5]), ([3, 6], [3, 6]), ([7, 3], [7]), ([8], [8]), ([9, 8], [8, 9]), ([10, 8], [8, 10]), ([11, 8], [8, 11]), ([8, 12], [8, 12]), ([13, 8], [13]), ([14], [14]), ([15, 14, 14], [14, 15]), ([16, 14], [14, 16]), ([14, 17], [14, 17]), ([18, 16], [18]), ([19], [19]), ([20, 19], [19, 20]), ([21, 19], [19, 21]), ([19, 22], [19, 22]), ([23, 19], [23]), ([24], [24]), ([24], [24]), ([25, 26, 24, 24], [24, 25, 26]), ([24, 27], [24, 27]), ([28, 27], [28]), ([29], [29]), ([30, 29, 29], [29, 30]), ([31, 29], [29, 31]), ([29, 32], [29, 32]), ([33, 31], [33]), ([34], [34]), ([34], [34]), ([35, 36, 34], [34, 35, 36]), ([34, 37], [34, 37]), ([38, 34], [38]), ([39], [39]), ([39, 39], [39]), ([40, 41, 41, 39], [39, 40, 41]), ([39, 42], [39, 42]), ([43, 42], [43]), ([44], [44]), ([45, 44, 44], [44, 45]), ([46, 44], [44, 46]), ([44, 47], [44, 47]), ([48, 46], [48]), ([49], [49]), ([50, 49, 49], [49, 50]), ([51, 49], [49, 51]), ([49, 52], [49, 52]), ([53, 51, 0, 1, 2, 3, 4, 5, 6, 7, 8, 9, 10, 11, 12, 13, 14, 15, 16, 17, 18, 19, 20, 21, 22, 23, 24, 25, 26, 27, 28, 29, 30, 31, 32, 33, 34, 35, 36, 37, 38, 39, 40, 41, 42, 43, 44, 45, 46, 47, 48, 49, 50, 51, 52, 53], [53])])
def skifflaw18_awake.B9 : List Nat := [0, 1, 3, 7, 15, 31, 63, 127, 255, 511, 1023, 2047, 4095, 8191, 16383, 32767, 65535, 131071, 262143, 524287, 1048575, 2097151, 4194303, 8388607, 16777215, 33554431, 33554431, 134217727, 268435455, 536870911, 1073741823, 2147483647, 4294967295, 8589934591, 17179869183, 34359738367, 34359738367, 137438953471, 274877906943, 549755813887, 1099511627775, 1099511627775, 4398046511103, 8796093022207, 17592186044415, 35184372088831, 70368744177663, 140737488355327, 281474976710655, 562949953421311, 1125899906842623, 2251799813685247, 4503599627370495, 9007199254740991, 18014398509481983]
theorem skifflaw18_awake.tab9 : rtab .any (opsOf Try.f17 9) = skifflaw18_awake.T9 := by kernel_rfl
theorem skifflaw18_awake.bits9 : waitsOk skifflaw18_awake.T9.2 skifflaw18_awake.B9 = true := by kernel_rfl
set_option maxHeartbeats 8000000 in
set_option maxRecDepth 100000 in
theorem skifflaw18_awake.calls (k : Nat)  (r : Bool) (w : World) (h : skifflaw18_awake.f k  = some r) :
  Calls Try.prog 17 #[] w fun e w' => e = .returned (.bool r) ∧ Below w.heap.size w w' := by
 have hu40 := Try.underlying40
 have hu24 := Try.underlying24
 have HB := Aside0.mk (Below.refl w.heap.size w)
 have H : ((skiffref1_Blank.f).bind fun t437 => ((some (([(⟨false, 192, (⟨#[97, 98, 99, 100]⟩ : ByteArray)⟩ : S40)] : List (S40)) : List (S40))).bind fun y438 => ((tick_Step.f k t437 2 0 0 0 0 y438).bind fun bt442 => ((tick_Cut.f k t437 2 0 0 0 0 y438 3).bind fun bt453 => ((skifflaw18_sent.f k).bind fun bt464 => ((tick_Step.f k t437 bt464.1 bt464.2.1 bt464.2.2.1 bt464.2.2.2.1 bt464.2.2.2.2.1 bt464.2.2.2.2.2).bind fun bt472 => ((tick_Step.f k (⟨#[]⟩ : ByteArray) 2 0 0 0 0 y438).bind fun bt483 => (if (bt442.1.size : Int) = 768 then (skifflaw18_awake.j0 k t437 bt442.1 bt442.2.2.2.2.2.2.2 bt453.1 bt453.2.2.2.2.2.2.2 bt472.1 bt472.2.2.2.2.2.2.2 bt483.2.2.2.2.2.2.2 ((bt453.1.size : Int) != 768) bt442.2.1 bt442.2.2.1 bt442.2.2.2.1 bt442.2.2.2.2.1 bt442.2.2.2.2.2.1 bt442.2.2.2.2.2.2.1 bt453.2.1 bt453.2.2.1 bt453.2.2.2.1 bt453.2.2.2.2.1 bt453.2.2.2.2.2.1 bt453.2.2.2.2.2.2.1 bt472.2.1 bt472.2.2.1 bt472.2.2.2.1 bt472.2.2.2.2.1 bt472.2.2.2.2.2.1 bt472.2.2.2.2.2.2.1) else (none))))))))) = some r := h
 clear h
 replace H := Option.bind_eq_some_iff.mp H
 obtain ⟨t437, A10, H⟩ := H
 replace H : ((some (([(⟨false, 192, (⟨#[97, 98, 99, 100]⟩ : ByteArray)⟩ : S40)] : List (S40)) : List (S40))).bind fun y438 => ((tick_Step.f k t437 2 0 0 0 0 y438).bind fun bt442 => ((tick_Cut.f k t437 2 0 0 0 0 y438 3).bind fun bt453 => ((skifflaw18_sent.f k).bind fun bt464 => ((tick_Step.f k t437 bt464.1 bt464.2.1 bt464.2.2.1 bt464.2.2.2.1 bt464.2.2.2.2.1 bt464.2.2.2.2.2).bind fun bt472 => ((tick_Step.f k (⟨#[]⟩ : ByteArray) 2 0 0 0 0 y438).bind fun bt483 => (if (bt442.1.size : Int) = 768 then (skifflaw18_awake.j0 k t437 bt442.1 bt442.2.2.2.2.2.2.2 bt453.1 bt453.2.2.2.2.2.2.2 bt472.1 bt472.2.2.2.2.2.2.2 bt483.2.2.2.2.2.2.2 ((bt453.1.size : Int) != 768) bt442.2.1 bt442.2.2.1 bt442.2.2.2.1 bt442.2.2.2.2.1 bt442.2.2.2.2.2.1 bt442.2.2.2.2.2.2.1 bt453.2.1 bt453.2.2.1 bt453.2.2.2.1 bt453.2.2.2.2.1 bt453.2.2.2.2.2.1 bt453.2.2.2.2.2.2.1 bt472.2.1 bt472.2.2.1 bt472.2.2.2.1 bt472.2.2.2.2.1 bt472.2.2.2.2.2.1 bt472.2.2.2.2.2.2.1) else (none)))))))) = some r := H
 have A1 := Aside0.mk A10
 clear A10
 obtain ⟨y438, hy438⟩ : ∃ y_ : List (S40), y_ = (([(⟨false, 192, (⟨#[97, 98, 99, 100]⟩ : ByteArray)⟩ : S40)] : List (S40))) := ⟨_, rfl⟩
 replace H : ((tick_Step.f k t437 2 0 0 0 0 y438).bind fun bt442 => ((tick_Cut.f k t437 2 0 0 0 0 y438 3).bind fun bt453 => ((skifflaw18_sent.f k).bind fun bt464 => ((tick_Step.f k t437 bt464.1 bt464.2.1 bt464.2.2.1 bt464.2.2.2.1 bt464.2.2.2.2.1 bt464.2.2.2.2.2).bind fun bt472 => ((tick_Step.f k (⟨#[]⟩ : ByteArray) 2 0 0 0 0 y438).bind fun bt483 => (if (bt442.1.size : Int) = 768 then (skifflaw18_awake.j0 k t437 bt442.1 bt442.2.2.2.2.2.2.2 bt453.1 bt453.2.2.2.2.2.2.2 bt472.1 bt472.2.2.2.2.2.2.2 bt483.2.2.2.2.2.2.2 ((bt453.1.size : Int) != 768) bt442.2.1 bt442.2.2.1 bt442.2.2.2.1 bt442.2.2.2.2.1 bt442.2.2.2.2.2.1 bt442.2.2.2.2.2.2.1 bt453.2.1 bt453.2.2.1 bt453.2.2.2.1 bt453.2.2.2.2.1 bt453.2.2.2.2.2.1 bt453.2.2.2.2.2.2.1 bt472.2.1 bt472.2.2.1 bt472.2.2.2.1 bt472.2.2.2.2.1 bt472.2.2.2.2.2.1 bt472.2.2.2.2.2.2.1) else (none))))))) = some r := by first | (rw [hy438]; with_reducible exact H) | (have H2_ := (Option.bind_some _ _).symm.trans H; rw [hy438]; with_reducible exact H2_) | (have H2_ := (Option.bind_some _ _).symm.trans H; with_reducible exact H2_) | with_reducible exact H | (rw [hy438]; exact H) | exact H
 have Ny438 := Aside0.mk hy438
 clear hy438
 replace H := Option.bind_eq_some_iff.mp H
 obtain ⟨⟨t442, t443, t444, t445, t446, t447, t448, t451⟩, A20, H⟩ := H
 replace H : ((tick_Cut.f k t437 2 0 0 0 0 y438 3).bind fun bt453 => ((skifflaw18_sent.f k).bind fun bt464 => ((tick_Step.f k t437 bt464.1 bt464.2.1 bt464.2.2.1 bt464.2.2.2.1 bt464.2.2.2.2.1 bt464.2.2.2.2.2).bind fun bt472 => ((tick_Step.f k (⟨#[]⟩ : ByteArray) 2 0 0 0 0 y438).bind fun bt483 => (if (t442.size : Int) = 768 then (skifflaw18_awake.j0 k t437 t442 t451 bt453.1 bt453.2.2.2.2.2.2.2 bt472.1 bt472.2.2.2.2.2.2.2 bt483.2.2.2.2.2.2.2 ((bt453.1.size : Int) != 768) t443 t444 t445 t446 t447 t448 bt453.2.1 bt453.2.2.1 bt453.2.2.2.1 bt453.2.2.2.2.1 bt453.2.2.2.2.2.1 bt453.2.2.2.2.2.2.1 bt472.2.1 bt472.2.2.1 bt472.2.2.2.1 bt472.2.2.2.2.1 bt472.2.2.2.2.2.1 bt472.2.2.2.2.2.2.1) else (none)))))) = some r := H
 have A2 := Aside0.mk A20
 clear A20
 replace H := Option.bind_eq_some_iff.mp H
 obtain ⟨⟨t453, t454, t455, t456, t457, t458, t459, t462⟩, A30, H⟩ := H
 replace H : ((skifflaw18_sent.f k).bind fun bt464 => ((tick_Step.f k t437 bt464.1 bt464.2.1 bt464.2.2.1 bt464.2.2.2.1 bt464.2.2.2.2.1 bt464.2.2.2.2.2).bind fun bt472 => ((tick_Step.f k (⟨#[]⟩ : ByteArray) 2 0 0 0 0 y438).bind fun bt483 => (if (t442.size : Int) = 768 then (skifflaw18_awake.j0 k t437 t442 t451 t453 t462 bt472.1 bt472.2.2.2.2.2.2.2 bt483.2.2.2.2.2.2.2 ((t453.size : Int) != 768) t443 t444 t445 t446 t447 t448 t454 t455 t456 t457 t458 t459 bt472.2.1 bt472.2.2.1 bt472.2.2.2.1 bt472.2.2.2.2.1 bt472.2.2.2.2.2.1 bt472.2.2.2.2.2.2.1) else (none))))) = some r := H
 have A3 := Aside0.mk A30
 clear A30
 replace H := Option.bind_eq_some_iff.mp H
 obtain ⟨⟨t464, t465, t466, t467, t468, t469⟩, A40, H⟩ := H
 replace H : ((tick_Step.f k t437 t464 t465 t466 t467 t468 t469).bind fun bt472 => ((tick_Step.f k (⟨#[]⟩ : ByteArray) 2 0 0 0 0 y438).bind fun bt483 => (if (t442.size : Int) = 768 then (skifflaw18_awake.j0 k t437 t442 t451 t453 t462 bt472.1 bt472.2.2.2.2.2.2.2 bt483.2.2.2.2.2.2.2 ((t453.size : Int) != 768) t443 t444 t445 t446 t447 t448 t454 t455 t456 t457 t458 t459 bt472.2.1 bt472.2.2.1 bt472.2.2.2.1 bt472.2.2.2.2.1 bt472.2.2.2.2.2.1 bt472.2.2.2.2.2.2.1) else (none)))) = some r := H
 have A4 := Aside0.mk A40
 clear A40
 replace H := Option.bind_eq_some_iff.mp H
 obtain ⟨⟨t472, t473, t474, t475, t476, t477, t478, t481⟩, A50, H⟩ := H
 replace H : ((tick_Step.f k (⟨#[]⟩ : ByteArray) 2 0 0 0 0 y438).bind fun bt483 => (if (t442.size : Int) = 768 then (skifflaw18_awake.j0 k t437 t442 t451 t453 t462 t472 t481 bt483.2.2.2.2.2.2.2 ((t453.size : Int) != 768) t443 t444 t445 t446 t447 t448 t454 t455 t456 t457 t458 t459 t473 t474 t475 t476 t477 t478) else (none))) = some r := H
 have A5 := Aside0.mk A50
 clear A50
 replace H := Option.bind_eq_some_iff.mp H
 obtain ⟨⟨t483, t484, t485, t486, t487, t488, t489, t492⟩, A60, H⟩ := H
 replace H : (if (t442.size : Int) = 768 then (skifflaw18_awake.j0 k t437 t442 t451 t453 t462 t472 t481 t492 ((t453.size : Int) != 768) t443 t444 t445 t446 t447 t448 t454 t455 t456 t457 t458 t459 t473 t474 t475 t476 t477 t478) else (none)) = some r := H
 have A6 := Aside0.mk A60
 clear A60
 have HC7 := Aside0.mk H
 clear H
 go_enter Try.func17, Try.ntmps17
 go_upto_region 7 with (first | ((with_reducible refine gate_callee (f := 18) rfl ?_); refine goesL_ (some 15) rfl rfl Try.func18 (by kernel_rfl) rfl #[] rfl ka ?_; (with_reducible refine (skiffref1_Blank.calls  t437 _ A1.out).mono ?_); rintro e w8 ⟨rfl, hb⟩; refine ⟨_, rfl, ?_⟩; have n0_ := Aside0.mk (below_step (kb HB.out) hb); clear HB; have HB := n0_; clear n0_; (try clear hb); (try clear hb2); (try clear hk); (try clear hi)) | ((with_reducible refine gate_dst (N := 17) rfl ?_); (try (refine gate_guard (by rfl) ?_; dsimp only)); refine Kd.R_lit k40 _ 40 ?hg (N := 17) ?hd (xs := ([(⟨false, 192, (⟨#[97, 98, 99, 100]⟩ : ByteArray)⟩ : S40)] : List (S40))) (inner := [.bool false, .int .i64 192, .string (⟨#[97, 98, 99, 100]⟩ : ByteArray)]) (ok := fun _ => True) (okp := fun _ => True) ?hr ?hp (fun _ hk => hk) trivial (Below.refl _ _) (Nat.le_refl _) (by simp) ?_; (case hd => rfl); (case hg => rfl); (case hr => first | (go_simp; done) | (go_simp; rfl)); (case hp => exact (Reps.c3 (show Kd.M k40 _ _ _ (⟨false, 192, (⟨#[97, 98, 99, 100]⟩ : ByteArray)⟩ : S40) [.bool false, .int .i64 192, .string (⟨#[97, 98, 99, 100]⟩ : ByteArray)] from (k40_mkM _ _ _ (⟨false, 192, (⟨#[97, 98, 99, 100]⟩ : ByteArray)⟩ : S40) )) (Reps.none _ _))); intro v439 w9 ho10 hb hg_ hnew_; clear hg_ hnew_; (first | rw [← Ny438.out] at ho10 | (simp only [Int.reduceToNat] at ho10; rw [← Ny438.out] at ho10)); have n0_ := Aside0.mk (Kd.R_lower ho10 (below_size (kb HB.out))); have n1_ := Aside0.mk (below_step (kb HB.out) hb); clear HB; have HO440 := n0_; have HB := n1_; clear n0_ n1_; clear hb ho10; obtain ⟨Ao11, co11, eo11⟩ := Kd.R_slice HO440.out; subst eo11) | ((with_reducible refine gate_dst (N := 2) rfl ?_); (try (refine gate_guard (by rfl) ?_; dsimp only)); refine box_event ?hg (N := 2) ?hd (cs := #[.int .i64 0, .int .i64 0, .int .i64 0, .int .i64 0, .int .i64 0, .slice none 0 0]) (t := 24) ?hr ?_; (case hd => rfl); (case hg => rfl); (case hr => first | (go_simp; done) | (go_simp; rfl)); intro gb441 hg w12 hbox hb; have n0_ := Aside0.mk (Kd.R_below (kR HO440.out) hb); have n1_ := Aside0.mk (below_step (kb HB.out) hb); have n2_ := Aside0.mk (hbox); have n3_ := Aside0.mk ((kz hg (below_size (kb HB.out)) : w.heap.size ≤ gb441)); have n4_ := Aside0.mk ((kz hg (below_size (kb HB.out)) : w.heap.size ≤ gb441)); clear HO440; clear HB; have HO440 := n0_; have HB := n1_; have BK441 := n2_; have GW441 := n3_; have GE441 := n4_; clear n0_ n1_ n2_ n3_ n4_; clear hb hbox hg; obtain ⟨hcz13_0, hcz13_1, hcz13_2, hcz13_3, hcz13_4, hcz13_5⟩ := kc6 BK441.out; obtain ⟨hfz13_0, hfz13_1, hfz13_2, hfz13_3, hfz13_4, hfz13_5⟩ := kf6 BK441.out) | ((with_reducible refine gate_callee (f := 10) rfl ?_); refine goesL_ (some 22) rfl rfl Try.func10 (by kernel_rfl) rfl #[.string t437, .agg #[.int .i64 2, .int .i64 0, .int .i64 0, .int .i64 0, .int .i64 0, .slice Ao11 y438.length co11]] rfl ka ?_; (with_reducible refine (tick_Step.calls k t437 2 0 0 0 0 _ _ y438 t442 t443 t444 t445 t446 t447 t448 t451 _ ?side1 ?side2 A2.out).mono ?_); (case side1 => refine (Kd.R_reads' (e := 40) (base := w.heap.size) (ok := fun k_ => True) (n := y438.length) (c := co11) ?_).2.2; exact (by (with_reducible repeat (first | apply Kd.R_alloc | apply Kd.R_drewN | apply Kd.R_drew)); exact (Kd.R_mono (Kd.R_far (p := ⟨gb441, 5, none⟩) (Kd.R_far (p := ⟨gb441, 4, none⟩) (Kd.R_far (p := ⟨gb441, 3, none⟩) (Kd.R_far (p := ⟨gb441, 2, none⟩) (Kd.R_far (p := ⟨gb441, 1, none⟩) (Kd.R_far (p := ⟨gb441, 0, none⟩) (Kd.R_types HO440.out BK441.out (by decide)) (fun _ hk => hk.2) (.int .i64 2)) (fun _ hk => hk.2) (.int .i64 0)) (fun _ hk => hk.2) (.int .i64 0)) (fun _ hk => hk.2) (.int .i64 0)) (fun _ hk => hk.2) (.int .i64 0)) (fun _ hk => hk.2) (.slice Ao11 y438.length co11)) (fun _ h_ => h_.1)))); (case side2 => exact (Kd.R_reads' HO440.out).2.1); rintro e w14 ⟨v449, rfl, ho0, hb⟩; refine ⟨_, rfl, ?_⟩; have n0_ := Aside0.mk (Kd.R_elder' (by (with_reducible repeat (first | apply Kd.R_alloc | apply Kd.R_drewN | apply Kd.R_drew)); exact (Kd.R_mono (Kd.R_far (p := ⟨gb441, 5, none⟩) (Kd.R_far (p := ⟨gb441, 4, none⟩) (Kd.R_far (p := ⟨gb441, 3, none⟩) (Kd.R_far (p := ⟨gb441, 2, none⟩) (Kd.R_far (p := ⟨gb441, 1, none⟩) (Kd.R_far (p := ⟨gb441, 0, none⟩) (Kd.R_types HO440.out BK441.out (by decide)) (fun _ hk => hk.2) (.int .i64 2)) (fun _ hk => hk.2) (.int .i64 0)) (fun _ hk => hk.2) (.int .i64 0)) (fun _ hk => hk.2) (.int .i64 0)) (fun _ hk => hk.2) (.int .i64 0)) (fun _ hk => hk.2) (.slice Ao11 y438.length co11)) (fun _ h_ => h_.1))) (Kd.Q_base ho0) hb); have n1_ := Aside0.mk (Kd.Q_lower (Kd.Q_new' ho0 (Kd.R_lt (by (with_reducible repeat (first | apply Kd.R_alloc | apply Kd.R_drewN | apply Kd.R_drew)); exact (Kd.R_mono (Kd.R_far (p := ⟨gb441, 5, none⟩) (Kd.R_far (p := ⟨gb441, 4, none⟩) (Kd.R_far (p := ⟨gb441, 3, none⟩) (Kd.R_far (p := ⟨gb441, 2, none⟩) (Kd.R_far (p := ⟨gb441, 1, none⟩) (Kd.R_far (p := ⟨gb441, 0, none⟩) (Kd.R_types HO440.out BK441.out (by decide)) (fun _ hk => hk.2) (.int .i64 2)) (fun _ hk => hk.2) (.int .i64 0)) (fun _ hk => hk.2) (.int .i64 0)) (fun _ hk => hk.2) (.int .i64 0)) (fun _ hk => hk.2) (.int .i64 0)) (fun _ hk => hk.2) (.slice Ao11 y438.length co11)) (fun _ h_ => h_.1))))) (below_size (kb1 HB.out GE441.out))); have n2_ := Aside0.mk (blk_below (g := gb441) (o := .cells #[.int .i64 2, .int .i64 0, .int .i64 0, .int .i64 0, .int .i64 0, .slice Ao11 y438.length co11] 24 (0, 0)) (kP6 BK441.out) hb); have n3_ := Aside0.mk (below_step (kb1 HB.out GE441.out) hb); clear HO440; clear BK441; clear HB; have HO440 := n0_; have HO450 := n1_; have BK441 := n2_; have HB := n3_; clear n0_ n1_ n2_ n3_; (try clear hb); (try clear hb2); (try clear hk); (try clear hi); (try clear ho0)) | ((with_reducible refine gate_dst (N := 4) rfl ?_); (try (refine gate_guard (by rfl) ?_; dsimp only)); refine box_event ?hg (N := 4) ?hd (cs := #[.int .i64 0, .int .i64 0, .int .i64 0, .int .i64 0, .int .i64 0, .slice none 0 0]) (t := 24) ?hr ?_; (case hd => rfl); (case hg => rfl); (case hr => first | (go_simp; done) | (go_simp; rfl)); intro gb452 hg w15 hbox hb; have n0_ := Aside0.mk (Kd.R_below (kR HO440.out) hb); have n1_ := Aside0.mk (Kd.Q_below (kQ HO450.out) hb); have n2_ := Aside0.mk (kL BK441.out hb); have n3_ := Aside0.mk (below_step (kb1 HB.out GE441.out) hb); have n4_ := Aside0.mk (hbox); have n5_ := Aside0.mk ((kz hg (below_size (kb1 HB.out GE441.out)) : w.heap.size ≤ gb452)); have n6_ := Aside0.mk ((kz hg (below_size (kb1 HB.out GE441.out)) : w.heap.size ≤ gb452)); have n7_ := Aside0.mk ((kN hg BK441.out : gb441 ≠ gb452)); have n8_ := Aside0.mk (((kN hg BK441.out).symm : gb452 ≠ gb441)); clear HO440; clear HO450; clear BK441; clear HB; have HO440 := n0_; have HO450 := n1_; have BK441 := n2_; have HB := n3_; have BK452 := n4_; have GW452 := n5_; have GE452 := n6_; have NB441_452 := n7_; have NB452_441 := n8_; clear n0_ n1_ n2_ n3_ n4_ n5_ n6_ n7_ n8_; clear hb hbox hg; have hnb16 := NB452_441.out; have hnc16 := NB441_452.out; obtain ⟨hcz17_0, hcz17_1, hcz17_2, hcz17_3, hcz17_4, hcz17_5⟩ := kc6 BK452.out; obtain ⟨hfz17_0, hfz17_1, hfz17_2, hfz17_3, hfz17_4, hfz17_5⟩ := kf6 BK452.out; obtain ⟨Ao18, co18, eo18, _⟩ := Kd.Q_slice HO450.out; subst eo18; obtain ⟨hcz19_0, hcz19_1, hcz19_2, hcz19_3, hcz19_4, hcz19_5⟩ := kc6 BK441.out; obtain ⟨hfz19_0, hfz19_1, hfz19_2, hfz19_3, hfz19_4, hfz19_5⟩ := kf6 BK441.out) | ((with_reducible refine gate_callee (f := 12) rfl ?_); refine goesL_ (some 29) rfl rfl Try.func12 (by kernel_rfl) rfl #[.string t437, .agg #[.int .i64 2, .int .i64 0, .int .i64 0, .int .i64 0, .int .i64 0, .slice Ao11 y438.length co11], .int .i64 3] rfl ka ?_; (with_reducible refine (tick_Cut.calls k t437 2 0 0 0 0 _ _ y438 3 t453 t454 t455 t456 t457 t458 t459 t462 _ ?side1 ?side2 A3.out).mono ?_); (case side1 => refine (Kd.R_reads' (e := 40) (base := w.heap.size) (ok := fun k_ => (True ∧ some k_ ≠ (.slice Ao18 t448.length co18 : Value).ownBlock)) (n := y438.length) (c := co11) ?_).2.2; exact (by (with_reducible repeat (first | apply Kd.R_alloc | apply Kd.R_drewN | apply Kd.R_drew)); exact (Kd.R_mono (Kd.R_far (p := ⟨gb452, 5, none⟩) (Kd.R_far (p := ⟨gb452, 4, none⟩) (Kd.R_far (p := ⟨gb452, 3, none⟩) (Kd.R_far (p := ⟨gb452, 2, none⟩) (Kd.R_far (p := ⟨gb452, 1, none⟩) (Kd.R_far (p := ⟨gb452, 0, none⟩) (Kd.R_types HO440.out BK452.out (by decide)) (fun _ hk => hk.2) (.int .i64 t443)) (fun _ hk => hk.2) (.int .i64 t444)) (fun _ hk => hk.2) (.int .i64 t445)) (fun _ hk => hk.2) (.int .i64 t446)) (fun _ hk => hk.2) (.int .i64 t447)) (fun _ hk => hk.2) (.slice Ao18 t448.length co18)) (fun _ h_ => h_.1)))); (case side2 => exact (Kd.R_reads' HO440.out).2.1); rintro e w20 ⟨v460, rfl, ho0, hb⟩; refine ⟨_, rfl, ?_⟩; have n0_ := Aside0.mk (Kd.R_elder' (by (with_reducible repeat (first | apply Kd.R_alloc | apply Kd.R_drewN | apply Kd.R_drew)); exact (Kd.R_mono (Kd.R_far (p := ⟨gb452, 5, none⟩) (Kd.R_far (p := ⟨gb452, 4, none⟩) (Kd.R_far (p := ⟨gb452, 3, none⟩) (Kd.R_far (p := ⟨gb452, 2, none⟩) (Kd.R_far (p := ⟨gb452, 1, none⟩) (Kd.R_far (p := ⟨gb452, 0, none⟩) (Kd.R_types HO440.out BK452.out (by decide)) (fun _ hk => hk.2) (.int .i64 t443)) (fun _ hk => hk.2) (.int .i64 t444)) (fun _ hk => hk.2) (.int .i64 t445)) (fun _ hk => hk.2) (.int .i64 t446)) (fun _ hk => hk.2) (.int .i64 t447)) (fun _ hk => hk.2) (.slice Ao18 t448.length co18)) (fun _ h_ => h_.1))) (Kd.R_base ho0) hb); have n1_ := Aside0.mk (Kd.Q_elder' (by (with_reducible repeat (first | apply Kd.Q_alloc | apply Kd.Q_drewN | apply Kd.Q_drew)); exact (Kd.Q_mono (Kd.Q_far (p := ⟨gb452, 5, none⟩) (Kd.Q_far (p := ⟨gb452, 4, none⟩) (Kd.Q_far (p := ⟨gb452, 3, none⟩) (Kd.Q_far (p := ⟨gb452, 2, none⟩) (Kd.Q_far (p := ⟨gb452, 1, none⟩) (Kd.Q_far (p := ⟨gb452, 0, none⟩) (Kd.Q_types HO450.out BK452.out (by decide)) (fun _ hk => hk.2) (.int .i64 t443)) (fun _ hk => hk.2) (.int .i64 t444)) (fun _ hk => hk.2) (.int .i64 t445)) (fun _ hk => hk.2) (.int .i64 t446)) (fun _ hk => hk.2) (.int .i64 t447)) (fun _ hk => hk.2) (.slice Ao18 t448.length co18)) (fun _ h_ => h_.1))) (Kd.R_base ho0) hb); have n2_ := Aside0.mk (Kd.R_lower (Kd.R_new' (Kd.R_new' ho0 (Kd.R_lt (by (with_reducible repeat (first | apply Kd.R_alloc | apply Kd.R_drewN | apply Kd.R_drew)); exact (Kd.R_mono (Kd.R_far (p := ⟨gb452, 5, none⟩) (Kd.R_far (p := ⟨gb452, 4, none⟩) (Kd.R_far (p := ⟨gb452, 3, none⟩) (Kd.R_far (p := ⟨gb452, 2, none⟩) (Kd.R_far (p := ⟨gb452, 1, none⟩) (Kd.R_far (p := ⟨gb452, 0, none⟩) (Kd.R_types HO440.out BK452.out (by decide)) (fun _ hk => hk.2) (.int .i64 t443)) (fun _ hk => hk.2) (.int .i64 t444)) (fun _ hk => hk.2) (.int .i64 t445)) (fun _ hk => hk.2) (.int .i64 t446)) (fun _ hk => hk.2) (.int .i64 t447)) (fun _ hk => hk.2) (.slice Ao18 t448.length co18)) (fun _ h_ => h_.1))))) (Kd.Q_lt (by (with_reducible repeat (first | apply Kd.Q_alloc | apply Kd.Q_drewN | apply Kd.Q_drew)); exact (Kd.Q_mono (Kd.Q_far (p := ⟨gb452, 5, none⟩) (Kd.Q_far (p := ⟨gb452, 4, none⟩) (Kd.Q_far (p := ⟨gb452, 3, none⟩) (Kd.Q_far (p := ⟨gb452, 2, none⟩) (Kd.Q_far (p := ⟨gb452, 1, none⟩) (Kd.Q_far (p := ⟨gb452, 0, none⟩) (Kd.Q_types HO450.out BK452.out (by decide)) (fun _ hk => hk.2) (.int .i64 t443)) (fun _ hk => hk.2) (.int .i64 t444)) (fun _ hk => hk.2) (.int .i64 t445)) (fun _ hk => hk.2) (.int .i64 t446)) (fun _ hk => hk.2) (.int .i64 t447)) (fun _ hk => hk.2) (.slice Ao18 t448.length co18)) (fun _ h_ => h_.1))))) (below_size (kb2 HB.out GE441.out GE452.out))); have n3_ := Aside0.mk (blk_below (g := gb441) (o := .cells #[.int .i64 2, .int .i64 0, .int .i64 0, .int .i64 0, .int .i64 0, .slice Ao11 y438.length co11] 24 (0, 0)) (kFa6 BK441.out NB441_452.out) hb); have n4_ := Aside0.mk (blk_below (g := gb452) (o := .cells #[.int .i64 t443, .int .i64 t444, .int .i64 t445, .int .i64 t446, .int .i64 t447, .slice Ao18 t448.length co18] 24 (0, 0)) (kP6 BK452.out) hb); have n5_ := Aside0.mk (below_step (kb2 HB.out GE441.out GE452.out) hb); clear HO440; clear HO450; clear BK441; clear BK452; clear HB; have HO440 := n0_; have HO450 := n1_; have HO461 := n2_; have BK441 := n3_; have BK452 := n4_; have HB := n5_; clear n0_ n1_ n2_ n3_ n4_ n5_; (try clear hb); (try clear hb2); (try clear hk); (try clear hi); (try clear ho0)) | ((with_reducible refine gate_dst (N := 7) rfl ?_); (try (refine gate_guard (by rfl) ?_; dsimp only)); refine box_event ?hg (N := 7) ?hd (cs := #[.int .i64 0, .int .i64 0, .int .i64 0, .int .i64 0, .int .i64 0, .slice none 0 0]) (t := 24) ?hr ?_; (case hd => rfl); (case hg => rfl); (case hr => first | (go_simp; done) | (go_simp; rfl)); intro gb463 hg w21 hbox hb; have n0_ := Aside0.mk (Kd.R_below (kR HO440.out) hb); have n1_ := Aside0.mk (Kd.Q_below (kQ HO450.out) hb); have n2_ := Aside0.mk (Kd.R_below (kR HO461.out) hb); have n3_ := Aside0.mk (kL BK441.out hb); have n4_ := Aside0.mk (kL BK452.out hb); have n5_ := Aside0.mk (below_step (kb2 HB.out GE441.out GE452.out) hb); have n6_ := Aside0.mk (hbox); have n7_ := Aside0.mk ((kz hg (below_size (kb2 HB.out GE441.out GE452.out)) : w.heap.size ≤ gb463)); have n8_ := Aside0.mk ((kz hg (below_size (kb2 HB.out GE441.out GE452.out)) : w.heap.size ≤ gb463)); have n9_ := Aside0.mk ((kN hg BK441.out : gb441 ≠ gb463)); have n10_ := Aside0.mk (((kN hg BK441.out).symm : gb463 ≠ gb441)); have n11_ := Aside0.mk ((kN hg BK452.out : gb452 ≠ gb463)); have n12_ := Aside0.mk (((kN hg BK452.out).symm : gb463 ≠ gb452)); clear HO440; clear HO450; clear HO461; clear BK441; clear BK452; clear HB; have HO440 := n0_; have HO450 := n1_; have HO461 := n2_; have BK441 := n3_; have BK452 := n4_; have HB := n5_; have BK463 := n6_; have GW463 := n7_; have GE463 := n8_; have NB441_463 := n9_; have NB463_441 := n10_; have NB452_463 := n11_; have NB463_452 := n12_; clear n0_ n1_ n2_ n3_ n4_ n5_ n6_ n7_ n8_ n9_ n10_ n11_ n12_; clear hb hbox hg; have hnb22 := NB463_441.out; have hnc22 := NB441_463.out; have hnb23 := NB463_452.out; have hnc23 := NB452_463.out; obtain ⟨hcz24_0, hcz24_1, hcz24_2, hcz24_3, hcz24_4, hcz24_5⟩ := kc6 BK463.out; obtain ⟨hfz24_0, hfz24_1, hfz24_2, hfz24_3, hfz24_4, hfz24_5⟩ := kf6 BK463.out; obtain ⟨Ao25, co25, eo25⟩ := Kd.R_slice HO461.out; subst eo25) | ((with_reducible refine gate_callee (f := 21) rfl ?_); refine goesL_ (some 35) rfl rfl Try.func21 (by kernel_rfl) rfl #[] rfl ka ?_; (with_reducible refine (skifflaw18_sent.calls k  t464 t465 t466 t467 t468 t469 _ A4.out).mono ?_); rintro e w26 ⟨v470, rfl, ho0, hb⟩; refine ⟨_, rfl, ?_⟩; have n0_ := Aside0.mk (Kd.R_elder' (by (with_reducible repeat (first | apply Kd.R_alloc | apply Kd.R_drewN | apply Kd.R_drew)); exact (Kd.R_mono (Kd.R_far (p := ⟨gb463, 5, none⟩) (Kd.R_far (p := ⟨gb463, 4, none⟩) (Kd.R_far (p := ⟨gb463, 3, none⟩) (Kd.R_far (p := ⟨gb463, 2, none⟩) (Kd.R_far (p := ⟨gb463, 1, none⟩) (Kd.R_far (p := ⟨gb463, 0, none⟩) (Kd.R_types HO440.out BK463.out (by decide)) (fun _ hk => hk.2) (.int .i64 t454)) (fun _ hk => hk.2) (.int .i64 t455)) (fun _ hk => hk.2) (.int .i64 t456)) (fun _ hk => hk.2) (.int .i64 t457)) (fun _ hk => hk.2) (.int .i64 t458)) (fun _ hk => hk.2) (.slice Ao25 t459.length co25)) (fun _ h_ => h_.1))) (Kd.R_base ho0) hb); have n1_ := Aside0.mk (Kd.Q_elder' (by (with_reducible repeat (first | apply Kd.Q_alloc | apply Kd.Q_drewN | apply Kd.Q_drew)); exact (Kd.Q_mono (Kd.Q_far (p := ⟨gb463, 5, none⟩) (Kd.Q_far (p := ⟨gb463, 4, none⟩) (Kd.Q_far (p := ⟨gb463, 3, none⟩) (Kd.Q_far (p := ⟨gb463, 2, none⟩) (Kd.Q_far (p := ⟨gb463, 1, none⟩) (Kd.Q_far (p := ⟨gb463, 0, none⟩) (Kd.Q_types HO450.out BK463.out (by decide)) (fun _ hk => hk.2) (.int .i64 t454)) (fun _ hk => hk.2) (.int .i64 t455)) (fun _ hk => hk.2) (.int .i64 t456)) (fun _ hk => hk.2) (.int .i64 t457)) (fun _ hk => hk.2) (.int .i64 t458)) (fun _ hk => hk.2) (.slice Ao25 t459.length co25)) (fun _ h_ => h_.1))) (Kd.R_base ho0) hb); have n2_ := Aside0.mk (Kd.R_elder' (by (with_reducible repeat (first | apply Kd.R_alloc | apply Kd.R_drewN | apply Kd.R_drew)); exact (Kd.R_mono (Kd.R_far (p := ⟨gb463, 5, none⟩) (Kd.R_far (p := ⟨gb463, 4, none⟩) (Kd.R_far (p := ⟨gb463, 3, none⟩) (Kd.R_far (p := ⟨gb463, 2, none⟩) (Kd.R_far (p := ⟨gb463, 1, none⟩) (Kd.R_far (p := ⟨gb463, 0, none⟩) (Kd.R_types HO461.out BK463.out (by decide)) (fun _ hk => hk.2) (.int .i64 t454)) (fun _ hk => hk.2) (.int .i64 t455)) (fun _ hk => hk.2) (.int .i64 t456)) (fun _ hk => hk.2) (.int .i64 t457)) (fun _ hk => hk.2) (.int .i64 t458)) (fun _ hk => hk.2) (.slice Ao25 t459.length co25)) (fun _ h_ => h_.1))) (Kd.R_base ho0) hb); have n3_ := Aside0.mk (Kd.R_lower (Kd.R_new' (Kd.R_new' (Kd.R_new' ho0 (Kd.R_lt (by (with_reducible repeat (first | apply Kd.R_alloc | apply Kd.R_drewN | apply Kd.R_drew)); exact (Kd.R_mono (Kd.R_far (p := ⟨gb463, 5, none⟩) (Kd.R_far (p := ⟨gb463, 4, none⟩) (Kd.R_far (p := ⟨gb463, 3, none⟩) (Kd.R_far (p := ⟨gb463, 2, none⟩) (Kd.R_far (p := ⟨gb463, 1, none⟩) (Kd.R_far (p := ⟨gb463, 0, none⟩) (Kd.R_types HO440.out BK463.out (by decide)) (fun _ hk => hk.2) (.int .i64 t454)) (fun _ hk => hk.2) (.int .i64 t455)) (fun _ hk => hk.2) (.int .i64 t456)) (fun _ hk => hk.2) (.int .i64 t457)) (fun _ hk => hk.2) (.int .i64 t458)) (fun _ hk => hk.2) (.slice Ao25 t459.length co25)) (fun _ h_ => h_.1))))) (Kd.Q_lt (by (with_reducible repeat (first | apply Kd.Q_alloc | apply Kd.Q_drewN | apply Kd.Q_drew)); exact (Kd.Q_mono (Kd.Q_far (p := ⟨gb463, 5, none⟩) (Kd.Q_far (p := ⟨gb463, 4, none⟩) (Kd.Q_far (p := ⟨gb463, 3, none⟩) (Kd.Q_far (p := ⟨gb463, 2, none⟩) (Kd.Q_far (p := ⟨gb463, 1, none⟩) (Kd.Q_far (p := ⟨gb463, 0, none⟩) (Kd.Q_types HO450.out BK463.out (by decide)) (fun _ hk => hk.2) (.int .i64 t454)) (fun _ hk => hk.2) (.int .i64 t455)) (fun _ hk => hk.2) (.int .i64 t456)) (fun _ hk => hk.2) (.int .i64 t457)) (fun _ hk => hk.2) (.int .i64 t458)) (fun _ hk => hk.2) (.slice Ao25 t459.length co25)) (fun _ h_ => h_.1))))) (Kd.R_lt (by (with_reducible repeat (first | apply Kd.R_alloc | apply Kd.R_drewN | apply Kd.R_drew)); exact (Kd.R_mono (Kd.R_far (p := ⟨gb463, 5, none⟩) (Kd.R_far (p := ⟨gb463, 4, none⟩) (Kd.R_far (p := ⟨gb463, 3, none⟩) (Kd.R_far (p := ⟨gb463, 2, none⟩) (Kd.R_far (p := ⟨gb463, 1, none⟩) (Kd.R_far (p := ⟨gb463, 0, none⟩) (Kd.R_types HO461.out BK463.out (by decide)) (fun _ hk => hk.2) (.int .i64 t454)) (fun _ hk => hk.2) (.int .i64 t455)) (fun _ hk => hk.2) (.int .i64 t456)) (fun _ hk => hk.2) (.int .i64 t457)) (fun _ hk => hk.2) (.int .i64 t458)) (fun _ hk => hk.2) (.slice Ao25 t459.length co25)) (fun _ h_ => h_.1))))) (below_size (kb3 HB.out GE441.out GE452.out GE463.out))); have n4_ := Aside0.mk (blk_below (g := gb441) (o := .cells #[.int .i64 2, .int .i64 0, .int .i64 0, .int .i64 0, .int .i64 0, .slice Ao11 y438.length co11] 24 (0, 0)) (kFa6 BK441.out NB441_463.out) hb); have n5_ := Aside0.mk (blk_below (g := gb452) (o := .cells #[.int .i64 t443, .int .i64 t444, .int .i64 t445, .int .i64 t446, .int .i64 t447, .slice Ao18 t448.length co18] 24 (0, 0)) (kFa6 BK452.out NB452_463.out) hb); have n6_ := Aside0.mk (blk_below (g := gb463) (o := .cells #[.int .i64 t454, .int .i64 t455, .int .i64 t456, .int .i64 t457, .int .i64 t458, .slice Ao25 t459.length co25] 24 (0, 0)) (kP6 BK463.out) hb); have n7_ := Aside0.mk (below_step (kb3 HB.out GE441.out GE452.out GE463.out) hb); clear HO440; clear HO450; clear HO461; clear BK441; clear BK452; clear BK463; clear HB; have HO440 := n0_; have HO450 := n1_; have HO461 := n2_; have HO471 := n3_; have BK441 := n4_; have BK452 := n5_; have BK463 := n6_; have HB := n7_; clear n0_ n1_ n2_ n3_ n4_ n5_ n6_ n7_; (try clear hb); (try clear hb2); (try clear hk); (try clear hi); (try clear ho0); obtain ⟨Ao27, co27, eo27⟩ := Kd.R_slice HO471.out; subst eo27) | ((with_reducible refine gate_callee (f := 10) rfl ?_); refine goesL_ (some 36) rfl rfl Try.func10 (by kernel_rfl) rfl #[.string t437, .agg #[.int .i64 t464, .int .i64 t465, .int .i64 t466, .int .i64 t467, .int .i64 t468, .slice Ao27 t469.length co27]] rfl ka ?_; (with_reducible refine (tick_Step.calls k t437 t464 t465 t466 t467 t468 _ _ t469 t472 t473 t474 t475 t476 t477 t478 t481 _ ?side1 ?side2 A5.out).mono ?_); (case side1 => repeat (first | exact (Kd.R_reads' HO471.out).2.2 | (with_reducible refine Kd.C_alloc ?_ _) | (with_reducible refine Kd.C_drewN ?_ _) | (with_reducible refine Kd.C_drew ?_))); (case side2 => exact (Kd.R_reads' HO471.out).2.1); rintro e w28 ⟨v479, rfl, ho0, hb⟩; refine ⟨_, rfl, ?_⟩; have n0_ := Aside0.mk (Kd.R_elder' (kR HO440.out) (Kd.Q_base ho0) hb); have n1_ := Aside0.mk (Kd.Q_elder' (kQ HO450.out) (Kd.Q_base ho0) hb); have n2_ := Aside0.mk (Kd.R_elder' (kR HO461.out) (Kd.Q_base ho0) hb); have n3_ := Aside0.mk (Kd.R_elder' (kR HO471.out) (Kd.Q_base ho0) hb); have n4_ := Aside0.mk (Kd.Q_lower (Kd.Q_new' (Kd.Q_new' (Kd.Q_new' (Kd.Q_new' ho0 (Kd.R_lt (kR HO440.out))) (Kd.Q_lt (kQ HO450.out))) (Kd.R_lt (kR HO461.out))) (Kd.R_lt (kR HO471.out))) (below_size (kb3 HB.out GE441.out GE452.out GE463.out))); have n5_ := Aside0.mk (kL BK441.out hb); have n6_ := Aside0.mk (kL BK452.out hb); have n7_ := Aside0.mk (kL BK463.out hb); have n8_ := Aside0.mk (below_step (kb3 HB.out GE441.out GE452.out GE463.out) hb); clear HO440; clear HO450; clear HO461; clear HO471; clear BK441; clear BK452; clear BK463; clear HB; have HO440 := n0_; have HO450 := n1_; have HO461 := n2_; have HO471 := n3_; have HO480 := n4_; have BK441 := n5_; have BK452 := n6_; have BK463 := n7_; have HB := n8_; clear n0_ n1_ n2_ n3_ n4_ n5_ n6_ n7_ n8_; (try clear hb); (try clear hb2); (try clear hk); (try clear hi); (try clear ho0)) | ((with_reducible refine gate_dst (N := 10) rfl ?_); (try (refine gate_guard (by rfl) ?_; dsimp only)); refine box_event ?hg (N := 10) ?hd (cs := #[.int .i64 0, .int .i64 0, .int .i64 0, .int .i64 0, .int .i64 0, .slice none 0 0]) (t := 24) ?hr ?_; (case hd => rfl); (case hg => rfl); (case hr => first | (go_simp; done) | (go_simp; rfl)); intro gb482 hg w29 hbox hb; have n0_ := Aside0.mk (Kd.R_below (kR HO440.out) hb); have n1_ := Aside0.mk (Kd.Q_below (kQ HO450.out) hb); have n2_ := Aside0.mk (Kd.R_below (kR HO461.out) hb); have n3_ := Aside0.mk (Kd.R_below (kR HO471.out) hb); have n4_ := Aside0.mk (Kd.Q_below (kQ HO480.out) hb); have n5_ := Aside0.mk (kL BK441.out hb); have n6_ := Aside0.mk (kL BK452.out hb); have n7_ := Aside0.mk (kL BK463.out hb); have n8_ := Aside0.mk (below_step (kb3 HB.out GE441.out GE452.out GE463.out) hb); have n9_ := Aside0.mk (hbox); have n10_ := Aside0.mk ((kz hg (below_size (kb3 HB.out GE441.out GE452.out GE463.out)) : w.heap.size ≤ gb482)); have n11_ := Aside0.mk ((kz hg (below_size (kb3 HB.out GE441.out GE452.out GE463.out)) : w.heap.size ≤ gb482)); have n12_ := Aside0.mk ((kN hg BK441.out : gb441 ≠ gb482)); have n13_ := Aside0.mk (((kN hg BK441.out).symm : gb482 ≠ gb441)); have n14_ := Aside0.mk ((kN hg BK452.out : gb452 ≠ gb482)); have n15_ := Aside0.mk (((kN hg BK452.out).symm : gb482 ≠ gb452)); have n16_ := Aside0.mk ((kN hg BK463.out : gb463 ≠ gb482)); have n17_ := Aside0.mk (((kN hg BK463.out).symm : gb482 ≠ gb463)); clear HO440; clear HO450; clear HO461; clear HO471; clear HO480; clear BK441; clear BK452; clear BK463; clear HB; have HO440 := n0_; have HO450 := n1_; have HO461 := n2_; have HO471 := n3_; have HO480 := n4_; have BK441 := n5_; have BK452 := n6_; have BK463 := n7_; have HB := n8_; have BK482 := n9_; have GW482 := n10_; have GE482 := n11_; have NB441_482 := n12_; have NB482_441 := n13_; have NB452_482 := n14_; have NB482_452 := n15_; have NB463_482 := n16_; have NB482_463 := n17_; clear n0_ n1_ n2_ n3_ n4_ n5_ n6_ n7_ n8_ n9_ n10_ n11_ n12_ n13_ n14_ n15_ n16_ n17_; clear hb hbox hg; have hnb30 := NB482_441.out; have hnc30 := NB441_482.out; have hnb31 := NB482_452.out; have hnc31 := NB452_482.out; have hnb32 := NB482_463.out; have hnc32 := NB463_482.out; obtain ⟨hcz33_0, hcz33_1, hcz33_2, hcz33_3, hcz33_4, hcz33_5⟩ := kc6 BK482.out; obtain ⟨hfz33_0, hfz33_1, hfz33_2, hfz33_3, hfz33_4, hfz33_5⟩ := kf6 BK482.out; obtain ⟨Ao34, co34, eo34, _⟩ := Kd.Q_slice HO480.out; subst eo34; obtain ⟨hcz35_0, hcz35_1, hcz35_2, hcz35_3, hcz35_4, hcz35_5⟩ := kc6 BK441.out; obtain ⟨hfz35_0, hfz35_1, hfz35_2, hfz35_3, hfz35_4, hfz35_5⟩ := kf6 BK441.out) | ((with_reducible refine gate_callee (f := 10) rfl ?_); refine goesL_ (some 42) rfl rfl Try.func10 (by kernel_rfl) rfl #[.string (⟨#[]⟩ : ByteArray), .agg #[.int .i64 2, .int .i64 0, .int .i64 0, .int .i64 0, .int .i64 0, .slice Ao11 y438.length co11]] rfl ka ?_; (with_reducible refine (tick_Step.calls k (⟨#[]⟩ : ByteArray) 2 0 0 0 0 _ _ y438 t483 t484 t485 t486 t487 t488 t489 t492 _ ?side1 ?side2 A6.out).mono ?_); (case side1 => refine (Kd.R_reads' (e := 40) (base := w.heap.size) (ok := fun k_ => ((((True ∧ some k_ ≠ (.slice Ao18 t448.length co18 : Value).ownBlock) ∧ some k_ ≠ (.slice Ao25 t459.length co25 : Value).ownBlock) ∧ some k_ ≠ (.slice Ao27 t469.length co27 : Value).ownBlock) ∧ some k_ ≠ (.slice Ao34 t478.length co34 : Value).ownBlock)) (n := y438.length) (c := co11) ?_).2.2; exact (by (with_reducible repeat (first | apply Kd.R_alloc | apply Kd.R_drewN | apply Kd.R_drew)); exact (Kd.R_mono (Kd.R_far (p := ⟨gb482, 5, none⟩) (Kd.R_far (p := ⟨gb482, 4, none⟩) (Kd.R_far (p := ⟨gb482, 3, none⟩) (Kd.R_far (p := ⟨gb482, 2, none⟩) (Kd.R_far (p := ⟨gb482, 1, none⟩) (Kd.R_far (p := ⟨gb482, 0, none⟩) (Kd.R_types HO440.out BK482.out (by decide)) (fun _ hk => hk.2) (.int .i64 t473)) (fun _ hk => hk.2) (.int .i64 t474)) (fun _ hk => hk.2) (.int .i64 t475)) (fun _ hk => hk.2) (.int .i64 t476)) (fun _ hk => hk.2) (.int .i64 t477)) (fun _ hk => hk.2) (.slice Ao34 t478.length co34)) (fun _ h_ => h_.1)))); (case side2 => exact (Kd.R_reads' HO440.out).2.1); rintro e w36 ⟨v490, rfl, ho0, hb⟩; refine ⟨_, rfl, ?_⟩; have n0_ := Aside0.mk (Kd.R_elder' (by (with_reducible repeat (first | apply Kd.R_alloc | apply Kd.R_drewN | apply Kd.R_drew)); exact (Kd.R_mono (Kd.R_far (p := ⟨gb482, 5, none⟩) (Kd.R_far (p := ⟨gb482, 4, none⟩) (Kd.R_far (p := ⟨gb482, 3, none⟩) (Kd.R_far (p := ⟨gb482, 2, none⟩) (Kd.R_far (p := ⟨gb482, 1, none⟩) (Kd.R_far (p := ⟨gb482, 0, none⟩) (Kd.R_types HO440.out BK482.out (by decide)) (fun _ hk => hk.2) (.int .i64 t473)) (fun _ hk => hk.2) (.int .i64 t474)) (fun _ hk => hk.2) (.int .i64 t475)) (fun _ hk => hk.2) (.int .i64 t476)) (fun _ hk => hk.2) (.int .i64 t477)) (fun _ hk => hk.2) (.slice Ao34 t478.length co34)) (fun _ h_ => h_.1))) (Kd.Q_base ho0) hb); have n1_ := Aside0.mk (Kd.Q_elder' (by (with_reducible repeat (first | apply Kd.Q_alloc | apply Kd.Q_drewN | apply Kd.Q_drew)); exact (Kd.Q_mono (Kd.Q_far (p := ⟨gb482, 5, none⟩) (Kd.Q_far (p := ⟨gb482, 4, none⟩) (Kd.Q_far (p := ⟨gb482, 3, none⟩) (Kd.Q_far (p := ⟨gb482, 2, none⟩) (Kd.Q_far (p := ⟨gb482, 1, none⟩) (Kd.Q_far (p := ⟨gb482, 0, none⟩) (Kd.Q_types HO450.out BK482.out (by decide)) (fun _ hk => hk.2) (.int .i64 t473)) (fun _ hk => hk.2) (.int .i64 t474)) (fun _ hk => hk.2) (.int .i64 t475)) (fun _ hk => hk.2) (.int .i64 t476)) (fun _ hk => hk.2) (.int .i64 t477)) (fun _ hk => hk.2) (.slice Ao34 t478.length co34)) (fun _ h_ => h_.1))) (Kd.Q_base ho0) hb); have n2_ := Aside0.mk (Kd.R_elder' (by (with_reducible repeat (first | apply Kd.R_alloc | apply Kd.R_drewN | apply Kd.R_drew)); exact (Kd.R_mono (Kd.R_far (p := ⟨gb482, 5, none⟩) (Kd.R_far (p := ⟨gb482, 4, none⟩) (Kd.R_far (p := ⟨gb482, 3, none⟩) (Kd.R_far (p := ⟨gb482, 2, none⟩) (Kd.R_far (p := ⟨gb482, 1, none⟩) (Kd.R_far (p := ⟨gb482, 0, none⟩) (Kd.R_types HO461.out BK482.out (by decide)) (fun _ hk => hk.2) (.int .i64 t473)) (fun _ hk => hk.2) (.int .i64 t474)) (fun _ hk => hk.2) (.int .i64 t475)) (fun _ hk => hk.2) (.int .i64 t476)) (fun _ hk => hk.2) (.int .i64 t477)) (fun _ hk => hk.2) (.slice Ao34 t478.length co34)) (fun _ h_ => h_.1))) (Kd.Q_base ho0) hb); have n3_ := Aside0.mk (Kd.R_elder' (by (with_reducible repeat (first | apply Kd.R_alloc | apply Kd.R_drewN | apply Kd.R_drew)); exact (Kd.R_mono (Kd.R_far (p := ⟨gb482, 5, none⟩) (Kd.R_far (p := ⟨gb482, 4, none⟩) (Kd.R_far (p := ⟨gb482, 3, none⟩) (Kd.R_far (p := ⟨gb482, 2, none⟩) (Kd.R_far (p := ⟨gb482, 1, none⟩) (Kd.R_far (p := ⟨gb482, 0, none⟩) (Kd.R_types HO471.out BK482.out (by decide)) (fun _ hk => hk.2) (.int .i64 t473)) (fun _ hk => hk.2) (.int .i64 t474)) (fun _ hk => hk.2) (.int .i64 t475)) (fun _ hk => hk.2) (.int .i64 t476)) (fun _ hk => hk.2) (.int .i64 t477)) (fun _ hk => hk.2) (.slice Ao34 t478.length co34)) (fun _ h_ => h_.1))) (Kd.Q_base ho0) hb); have n4_ := Aside0.mk (Kd.Q_elder' (by (with_reducible repeat (first | apply Kd.Q_alloc | apply Kd.Q_drewN | apply Kd.Q_drew)); exact (Kd.Q_mono (Kd.Q_far (p := ⟨gb482, 5, none⟩) (Kd.Q_far (p := ⟨gb482, 4, none⟩) (Kd.Q_far (p := ⟨gb482, 3, none⟩) (Kd.Q_far (p := ⟨gb482, 2, none⟩) (Kd.Q_far (p := ⟨gb482, 1, none⟩) (Kd.Q_far (p := ⟨gb482, 0, none⟩) (Kd.Q_types HO480.out BK482.out (by decide)) (fun _ hk => hk.2) (.int .i64 t473)) (fun _ hk => hk.2) (.int .i64 t474)) (fun _ hk => hk.2) (.int .i64 t475)) (fun _ hk => hk.2) (.int .i64 t476)) (fun _ hk => hk.2) (.int .i64 t477)) (fun _ hk => hk.2) (.slice Ao34 t478.length co34)) (fun _ h_ => h_.1))) (Kd.Q_base ho0) hb); have n5_ := Aside0.mk (Kd.Q_lower (Kd.Q_new' (Kd.Q_new' (Kd.Q_new' (Kd.Q_new' (Kd.Q_new' ho0 (Kd.R_lt (by (with_reducible repeat (first | apply Kd.R_alloc | apply Kd.R_drewN | apply Kd.R_drew)); exact (Kd.R_mono (Kd.R_far (p := ⟨gb482, 5, none⟩) (Kd.R_far (p := ⟨gb482, 4, none⟩) (Kd.R_far (p := ⟨gb482, 3, none⟩) (Kd.R_far (p := ⟨gb482, 2, none⟩) (Kd.R_far (p := ⟨gb482, 1, none⟩) (Kd.R_far (p := ⟨gb482, 0, none⟩) (Kd.R_types HO440.out BK482.out (by decide)) (fun _ hk => hk.2) (.int .i64 t473)) (fun _ hk => hk.2) (.int .i64 t474)) (fun _ hk => hk.2) (.int .i64 t475)) (fun _ hk => hk.2) (.int .i64 t476)) (fun _ hk => hk.2) (.int .i64 t477)) (fun _ hk => hk.2) (.slice Ao34 t478.length co34)) (fun _ h_ => h_.1))))) (Kd.Q_lt (by (with_reducible repeat (first | apply Kd.Q_alloc | apply Kd.Q_drewN | apply Kd.Q_drew)); exact (Kd.Q_mono (Kd.Q_far (p := ⟨gb482, 5, none⟩) (Kd.Q_far (p := ⟨gb482, 4, none⟩) (Kd.Q_far (p := ⟨gb482, 3, none⟩) (Kd.Q_far (p := ⟨gb482, 2, none⟩) (Kd.Q_far (p := ⟨gb482, 1, none⟩) (Kd.Q_far (p := ⟨gb482, 0, none⟩) (Kd.Q_types HO450.out BK482.out (by decide)) (fun _ hk => hk.2) (.int .i64 t473)) (fun _ hk => hk.2) (.int .i64 t474)) (fun _ hk => hk.2) (.int .i64 t475)) (fun _ hk => hk.2) (.int .i64 t476)) (fun _ hk => hk.2) (.int .i64 t477)) (fun _ hk => hk.2) (.slice Ao34 t478.length co34)) (fun _ h_ => h_.1))))) (Kd.R_lt (by (with_reducible repeat (first | apply Kd.R_alloc | apply Kd.R_drewN | apply Kd.R_drew)); exact (Kd.R_mono (Kd.R_far (p := ⟨gb482, 5, none⟩) (Kd.R_far (p := ⟨gb482, 4, none⟩) (Kd.R_far (p := ⟨gb482, 3, none⟩) (Kd.R_far (p := ⟨gb482, 2, none⟩) (Kd.R_far (p := ⟨gb482, 1, none⟩) (Kd.R_far (p := ⟨gb482, 0, none⟩) (Kd.R_types HO461.out BK482.out (by decide)) (fun _ hk => hk.2) (.int .i64 t473)) (fun _ hk => hk.2) (.int .i64 t474)) (fun _ hk => hk.2) (.int .i64 t475)) (fun _ hk => hk.2) (.int .i64 t476)) (fun _ hk => hk.2) (.int .i64 t477)) (fun _ hk => hk.2) (.slice Ao34 t478.length co34)) (fun _ h_ => h_.1))))) (Kd.R_lt (by (with_reducible repeat (first | apply Kd.R_alloc | apply Kd.R_drewN | apply Kd.R_drew)); exact (Kd.R_mono (Kd.R_far (p := ⟨gb482, 5, none⟩) (Kd.R_far (p := ⟨gb482, 4, none⟩) (Kd.R_far (p := ⟨gb482, 3, none⟩) (Kd.R_far (p := ⟨gb482, 2, none⟩) (Kd.R_far (p := ⟨gb482, 1, none⟩) (Kd.R_far (p := ⟨gb482, 0, none⟩) (Kd.R_types HO471.out BK482.out (by decide)) (fun _ hk => hk.2) (.int .i64 t473)) (fun _ hk => hk.2) (.int .i64 t474)) (fun _ hk => hk.2) (.int .i64 t475)) (fun _ hk => hk.2) (.int .i64 t476)) (fun _ hk => hk.2) (.int .i64 t477)) (fun _ hk => hk.2) (.slice Ao34 t478.length co34)) (fun _ h_ => h_.1))))) (Kd.Q_lt (by (with_reducible repeat (first | apply Kd.Q_alloc | apply Kd.Q_drewN | apply Kd.Q_drew)); exact (Kd.Q_mono (Kd.Q_far (p := ⟨gb482, 5, none⟩) (Kd.Q_far (p := ⟨gb482, 4, none⟩) (Kd.Q_far (p := ⟨gb482, 3, none⟩) (Kd.Q_far (p := ⟨gb482, 2, none⟩) (Kd.Q_far (p := ⟨gb482, 1, none⟩) (Kd.Q_far (p := ⟨gb482, 0, none⟩) (Kd.Q_types HO480.out BK482.out (by decide)) (fun _ hk => hk.2) (.int .i64 t473)) (fun _ hk => hk.2) (.int .i64 t474)) (fun _ hk => hk.2) (.int .i64 t475)) (fun _ hk => hk.2) (.int .i64 t476)) (fun _ hk => hk.2) (.int .i64 t477)) (fun _ hk => hk.2) (.slice Ao34 t478.length co34)) (fun _ h_ => h_.1))))) (below_size (kb4 HB.out GE441.out GE452.out GE463.out GE482.out))); have n6_ := Aside0.mk (blk_below (g := gb441) (o := .cells #[.int .i64 2, .int .i64 0, .int .i64 0, .int .i64 0, .int .i64 0, .slice Ao11 y438.length co11] 24 (0, 0)) (kFa6 BK441.out NB441_482.out) hb); have n7_ := Aside0.mk (blk_below (g := gb452) (o := .cells #[.int .i64 t443, .int .i64 t444, .int .i64 t445, .int .i64 t446, .int .i64 t447, .slice Ao18 t448.length co18] 24 (0, 0)) (kFa6 BK452.out NB452_482.out) hb); have n8_ := Aside0.mk (blk_below (g := gb463) (o := .cells #[.int .i64 t454, .int .i64 t455, .int .i64 t456, .int .i64 t457, .int .i64 t458, .slice Ao25 t459.length co25] 24 (0, 0)) (kFa6 BK463.out NB463_482.out) hb); have n9_ := Aside0.mk (blk_below (g := gb482) (o := .cells #[.int .i64 t473, .int .i64 t474, .int .i64 t475, .int .i64 t476, .int .i64 t477, .slice Ao34 t478.length co34] 24 (0, 0)) (kP6 BK482.out) hb); have n10_ := Aside0.mk (below_step (kb4 HB.out GE441.out GE452.out GE463.out GE482.out) hb); clear HO440; clear HO450; clear HO461; clear HO471; clear HO480; clear BK441; clear BK452; clear BK463; clear BK482; clear HB; have HO440 := n0_; have HO450 := n1_; have HO461 := n2_; have HO471 := n3_; have HO480 := n4_; have HO491 := n5_; have BK441 := n6_; have BK452 := n7_; have BK463 := n8_; have BK482 := n9_; have HB := n10_; clear n0_ n1_ n2_ n3_ n4_ n5_ n6_ n7_ n8_ n9_ n10_; (try clear hb); (try clear hb2); (try clear hk); (try clear hi); (try clear ho0)) | ((with_reducible refine gate_dst (N := 13) rfl ?_); (try (refine gate_guard (by rfl) ?_; dsimp only)); refine box_event ?hg (N := 13) ?hd (cs := #[.int .i64 0, .int .i64 0, .int .i64 0, .int .i64 0, .int .i64 0, .slice none 0 0]) (t := 24) ?hr ?_; (case hd => rfl); (case hg => rfl); (case hr => first | (go_simp; done) | (go_simp; rfl)); intro gb493 hg w37 hbox hb; have n0_ := Aside0.mk (Kd.R_below (kR HO440.out) hb); have n1_ := Aside0.mk (Kd.Q_below (kQ HO450.out) hb); have n2_ := Aside0.mk (Kd.R_below (kR HO461.out) hb); have n3_ := Aside0.mk (Kd.R_below (kR HO471.out) hb); have n4_ := Aside0.mk (Kd.Q_below (kQ HO480.out) hb); have n5_ := Aside0.mk (Kd.Q_below (kQ HO491.out) hb); have n6_ := Aside0.mk (kL BK441.out hb); have n7_ := Aside0.mk (kL BK452.out hb); have n8_ := Aside0.mk (kL BK463.out hb); have n9_ := Aside0.mk (kL BK482.out hb); have n10_ := Aside0.mk (below_step (kb4 HB.out GE441.out GE452.out GE463.out GE482.out) hb); have n11_ := Aside0.mk (hbox); have n12_ := Aside0.mk ((kz hg (below_size (kb4 HB.out GE441.out GE452.out GE463.out GE482.out)) : w.heap.size ≤ gb493)); have n13_ := Aside0.mk ((kz hg (below_size (kb4 HB.out GE441.out GE452.out GE463.out GE482.out)) : w.heap.size ≤ gb493)); have n14_ := Aside0.mk ((kN hg BK441.out : gb441 ≠ gb493)); have n15_ := Aside0.mk (((kN hg BK441.out).symm : gb493 ≠ gb441)); have n16_ := Aside0.mk ((kN hg BK452.out : gb452 ≠ gb493)); have n17_ := Aside0.mk (((kN hg BK452.out).symm : gb493 ≠ gb452)); have n18_ := Aside0.mk ((kN hg BK463.out : gb463 ≠ gb493)); have n19_ := Aside0.mk (((kN hg BK463.out).symm : gb493 ≠ gb463)); have n20_ := Aside0.mk ((kN hg BK482.out : gb482 ≠ gb493)); have n21_ := Aside0.mk (((kN hg BK482.out).symm : gb493 ≠ gb482)); clear HO440; clear HO450; clear HO461; clear HO471; clear HO480; clear HO491; clear BK441; clear BK452; clear BK463; clear BK482; clear HB; have HO440 := n0_; have HO450 := n1_; have HO461 := n2_; have HO471 := n3_; have HO480 := n4_; have HO491 := n5_; have BK441 := n6_; have BK452 := n7_; have BK463 := n8_; have BK482 := n9_; have HB := n10_; have BK493 := n11_; have GW493 := n12_; have GE493 := n13_; have NB441_493 := n14_; have NB493_441 := n15_; have NB452_493 := n16_; have NB493_452 := n17_; have NB463_493 := n18_; have NB493_463 := n19_; have NB482_493 := n20_; have NB493_482 := n21_; clear n0_ n1_ n2_ n3_ n4_ n5_ n6_ n7_ n8_ n9_ n10_ n11_ n12_ n13_ n14_ n15_ n16_ n17_ n18_ n19_ n20_ n21_; clear hb hbox hg; have hnb38 := NB493_441.out; have hnc38 := NB441_493.out; have hnb39 := NB493_452.out; have hnc39 := NB452_493.out; have hnb40 := NB493_463.out; have hnc40 := NB463_493.out; have hnb41 := NB493_482.out; have hnc41 := NB482_493.out; obtain ⟨hcz42_0, hcz42_1, hcz42_2, hcz42_3, hcz42_4, hcz42_5⟩ := kc6 BK493.out; obtain ⟨hfz42_0, hfz42_1, hfz42_2, hfz42_3, hfz42_4, hfz42_5⟩ := kf6 BK493.out; obtain ⟨Ao43, co43, eo43, _⟩ := Kd.Q_slice HO491.out; subst eo43))
 (try simp only [Act.put, List.setIfInBounds_toArray, List.set_cons_zero, List.set_cons_succ])
 go_cut [53] (fun v53 wc => ∃ (kq : Nat) (x53_6 : Bool), v53 = .bool x53_6 ∧ Aside0 (skifflaw18_awake.j0 kq t437 t442 t451 t453 t462 t472 t481 t492 x53_6 t443 t444 t445 t446 t447 t448 t454 t455 t456 t457 t458 t459 t473 t474 t475 t476 t477 t478 = some r) ∧ Aside0 (kq ≤ k) ∧ Aside0 (Kd.Q k40 40 wc w.heap.size (fun k_ => some k_ ≠ ((.slice Ao18 t448.length co18) : Value).ownBlock ∧ some k_ ≠ ((.slice Ao25 t459.length co25) : Value).ownBlock ∧ some k_ ≠ ((.slice Ao34 t478.length co34) : Value).ownBlock ∧ some k_ ≠ ((.slice Ao43 t489.length co43) : Value).ownBlock) (.slice Ao11 y438.length co11) y438) ∧ Aside0 (Kd.Q k40 40 wc w.heap.size (fun k_ => some k_ ≠ ((.slice Ao11 y438.length co11) : Value).ownBlock ∧ some k_ ≠ ((.slice Ao25 t459.length co25) : Value).ownBlock ∧ some k_ ≠ ((.slice Ao34 t478.length co34) : Value).ownBlock ∧ some k_ ≠ ((.slice Ao43 t489.length co43) : Value).ownBlock) (.slice Ao18 t448.length co18) t448) ∧ Aside0 (Kd.Q k40 40 wc w.heap.size (fun k_ => some k_ ≠ ((.slice Ao11 y438.length co11) : Value).ownBlock ∧ some k_ ≠ ((.slice Ao18 t448.length co18) : Value).ownBlock ∧ some k_ ≠ ((.slice Ao34 t478.length co34) : Value).ownBlock ∧ some k_ ≠ ((.slice Ao43 t489.length co43) : Value).ownBlock) (.slice Ao25 t459.length co25) t459) ∧ Aside0 (Kd.Q k40 40 wc w.heap.size (fun k_ => some k_ ≠ ((.slice Ao11 y438.length co11) : Value).ownBlock ∧ some k_ ≠ ((.slice Ao18 t448.length co18) : Value).ownBlock ∧ some k_ ≠ ((.slice Ao25 t459.length co25) : Value).ownBlock ∧ some k_ ≠ ((.slice Ao43 t489.length co43) : Value).ownBlock) (.slice Ao34 t478.length co34) t478) ∧ Aside0 (Kd.Q k40 40 wc w.heap.size (fun k_ => some k_ ≠ ((.slice Ao11 y438.length co11) : Value).ownBlock ∧ some k_ ≠ ((.slice Ao18 t448.length co18) : Value).ownBlock ∧ some k_ ≠ ((.slice Ao25 t459.length co25) : Value).ownBlock ∧ some k_ ≠ ((.slice Ao34 t478.length co34) : Value).ownBlock) (.slice Ao43 t489.length co43) t489) ∧ Aside0 (wc.heap[gb441]? = some (.cells #[.int .i64 2, .int .i64 0, .int .i64 0, .int .i64 0, .int .i64 0, (.slice Ao11 y438.length co11)] 24 (0, 0))) ∧ Aside0 (wc.heap[gb452]? = some (.cells #[.int .i64 t443, .int .i64 t444, .int .i64 t445, .int .i64 t446, .int .i64 t447, (.slice Ao18 t448.length co18)] 24 (0, 0))) ∧ Aside0 (wc.heap[gb463]? = some (.cells #[.int .i64 t454, .int .i64 t455, .int .i64 t456, .int .i64 t457, .int .i64 t458, (.slice Ao25 t459.length co25)] 24 (0, 0))) ∧ Aside0 (wc.heap[gb482]? = some (.cells #[.int .i64 t473, .int .i64 t474, .int .i64 t475, .int .i64 t476, .int .i64 t477, (.slice Ao34 t478.length co34)] 24 (0, 0))) ∧ Aside0 (wc.heap[gb493]? = some (.cells #[.int .i64 t484, .int .i64 t485, .int .i64 t486, .int .i64 t487, .int .i64 t488, (.slice Ao43 t489.length co43)] 24 (0, 0))) ∧ Aside0 (Below w.heap.size w wc))
 case first =>
  have H := HC7.out
  clear HC7
  by_cases c44 : (t442.size : Int) = 768
  case neg =>
   rw [if_neg c44] at H
   exact absurd H (by simp)
  rw [if_pos c44] at H
  have c44b0 : ((t442.size : Int) == 768) = true := beq_iff_eq.mpr c44
  have c44b1 : ((t442.size : Int) != 768) = false := bne_eq_false_iff_eq.mpr c44
  clear c44
  (first | rw [c44b0] | rw [c44b1] | (simp only [i64_w, i32_w]; rw [c44b0]) | skip)
  have H' := Aside0.mk H
  clear H
  go_wp2
  go_meet
  case rel => exact ⟨_, (((t453.size : Int) != 768)), (by first | rfl | (simp; done) | (simp [*]; done)), H', ⟨by first | omega | exact Nat.le_refl _⟩, ⟨Kd.Q_of_R (by (with_reducible repeat (first | apply Kd.R_alloc | apply Kd.R_drewN | apply Kd.R_drew)); exact Kd.R_mono (Kd.R_far (p := ⟨gb493, 5, none⟩) (Kd.R_far (p := ⟨gb493, 4, none⟩) (Kd.R_far (p := ⟨gb493, 3, none⟩) (Kd.R_far (p := ⟨gb493, 2, none⟩) (Kd.R_far (p := ⟨gb493, 1, none⟩) (Kd.R_far (p := ⟨gb493, 0, none⟩) (Kd.R_types HO440.out BK493.out (by decide)) (fun _ hk => hk.2) (.int .i64 t484)) (fun _ hk => hk.2) (.int .i64 t485)) (fun _ hk => hk.2) (.int .i64 t486)) (fun _ hk => hk.2) (.int .i64 t487)) (fun _ hk => hk.2) (.int .i64 t488)) (fun _ hk => hk.2) (.slice Ao43 t489.length co43)) (fun _ hk => ⟨hk.1.1.1.1.1.2, ⟨hk.1.1.1.1.2, ⟨hk.1.1.2, hk.1.2⟩⟩⟩))⟩, ⟨by (with_reducible repeat (first | apply Kd.Q_alloc | apply Kd.Q_drewN | apply Kd.Q_drew)); exact Kd.Q_mono (Kd.Q_far (p := ⟨gb493, 5, none⟩) (Kd.Q_far (p := ⟨gb493, 4, none⟩) (Kd.Q_far (p := ⟨gb493, 3, none⟩) (Kd.Q_far (p := ⟨gb493, 2, none⟩) (Kd.Q_far (p := ⟨gb493, 1, none⟩) (Kd.Q_far (p := ⟨gb493, 0, none⟩) (Kd.Q_types HO450.out BK493.out (by decide)) (fun _ hk => hk.2) (.int .i64 t484)) (fun _ hk => hk.2) (.int .i64 t485)) (fun _ hk => hk.2) (.int .i64 t486)) (fun _ hk => hk.2) (.int .i64 t487)) (fun _ hk => hk.2) (.int .i64 t488)) (fun _ hk => hk.2) (.slice Ao43 t489.length co43)) (fun _ hk => ⟨hk.1.1.1.1.1.2, ⟨hk.1.1.1.1.2, ⟨hk.1.1.2, hk.1.2⟩⟩⟩)⟩, ⟨Kd.Q_of_R (by (with_reducible repeat (first | apply Kd.R_alloc | apply Kd.R_drewN | apply Kd.R_drew)); exact Kd.R_mono (Kd.R_far (p := ⟨gb493, 5, none⟩) (Kd.R_far (p := ⟨gb493, 4, none⟩) (Kd.R_far (p := ⟨gb493, 3, none⟩) (Kd.R_far (p := ⟨gb493, 2, none⟩) (Kd.R_far (p := ⟨gb493, 1, none⟩) (Kd.R_far (p := ⟨gb493, 0, none⟩) (Kd.R_types HO461.out BK493.out (by decide)) (fun _ hk => hk.2) (.int .i64 t484)) (fun _ hk => hk.2) (.int .i64 t485)) (fun _ hk => hk.2) (.int .i64 t486)) (fun _ hk => hk.2) (.int .i64 t487)) (fun _ hk => hk.2) (.int .i64 t488)) (fun _ hk => hk.2) (.slice Ao43 t489.length co43)) (fun _ hk => ⟨hk.1.1.1.1.1.2, ⟨hk.1.1.1.1.2, ⟨hk.1.1.2, hk.1.2⟩⟩⟩))⟩, ⟨by (with_reducible repeat (first | apply Kd.Q_alloc | apply Kd.Q_drewN | apply Kd.Q_drew)); exact Kd.Q_mono (Kd.Q_far (p := ⟨gb493, 5, none⟩) (Kd.Q_far (p := ⟨gb493, 4, none⟩) (Kd.Q_far (p := ⟨gb493, 3, none⟩) (Kd.Q_far (p := ⟨gb493, 2, none⟩) (Kd.Q_far (p := ⟨gb493, 1, none⟩) (Kd.Q_far (p := ⟨gb493, 0, none⟩) (Kd.Q_types HO480.out BK493.out (by decide)) (fun _ hk => hk.2) (.int .i64 t484)) (fun _ hk => hk.2) (.int .i64 t485)) (fun _ hk => hk.2) (.int .i64 t486)) (fun _ hk => hk.2) (.int .i64 t487)) (fun _ hk => hk.2) (.int .i64 t488)) (fun _ hk => hk.2) (.slice Ao43 t489.length co43)) (fun _ hk => ⟨hk.1.1.1.1.1.2, ⟨hk.1.1.1.1.2, ⟨hk.1.1.1.2, hk.1.2⟩⟩⟩)⟩, ⟨by (with_reducible repeat (first | apply Kd.Q_alloc | apply Kd.Q_drewN | apply Kd.Q_drew)); exact Kd.Q_mono (Kd.Q_far (p := ⟨gb493, 5, none⟩) (Kd.Q_far (p := ⟨gb493, 4, none⟩) (Kd.Q_far (p := ⟨gb493, 3, none⟩) (Kd.Q_far (p := ⟨gb493, 2, none⟩) (Kd.Q_far (p := ⟨gb493, 1, none⟩) (Kd.Q_far (p := ⟨gb493, 0, none⟩) (Kd.Q_types HO491.out BK493.out (by decide)) (fun _ hk => hk.2) (.int .i64 t484)) (fun _ hk => hk.2) (.int .i64 t485)) (fun _ hk => hk.2) (.int .i64 t486)) (fun _ hk => hk.2) (.int .i64 t487)) (fun _ hk => hk.2) (.int .i64 t488)) (fun _ hk => hk.2) (.slice Ao43 t489.length co43)) (fun _ hk => ⟨hk.1.1.1.1.1.2, ⟨hk.1.1.1.1.2, ⟨hk.1.1.1.2, hk.1.2⟩⟩⟩)⟩, ⟨kFa6 BK441.out NB441_493.out⟩, ⟨kFa6 BK452.out NB452_493.out⟩, ⟨kFa6 BK463.out NB463_493.out⟩, ⟨kFa6 BK482.out NB482_493.out⟩, ⟨kP6 BK493.out⟩, ⟨kb5 HB.out GE441.out GE452.out GE463.out GE482.out GE493.out⟩⟩
 case rest =>
  clear HC7
  try clear c1; try clear c2; try clear p2; try clear c3; try clear c4; try clear c10; try clear c12; try clear c16; try clear c17; try clear c18; try clear c21; try clear c22; try clear c23; try clear c30; try clear c31; try clear c32; try clear c38; try clear c39; try clear c40; try clear c41; try clear c44; try clear c44b0; try clear c44b1; try clear hcz13_0; try clear hcz13_1; try clear hcz13_2; try clear hcz13_3; try clear hcz13_4; try clear hcz13_5; try clear hcz17_0; try clear hcz17_1; try clear hcz17_2; try clear hcz17_3; try clear hcz17_4; try clear hcz17_5; try clear hcz19_0; try clear hcz19_1; try clear hcz19_2; try clear hcz19_3; try clear hcz19_4; try clear hcz19_5; try clear hcz24_0; try clear hcz24_1; try clear hcz24_2; try clear hcz24_3; try clear hcz24_4; try clear hcz24_5; try clear hcz33_0; try clear hcz33_1; try clear hcz33_2; try clear hcz33_3; try clear hcz33_4; try clear hcz33_5; try clear hcz35_0; try clear hcz35_1; try clear hcz35_2; try clear hcz35_3; try clear hcz35_4; try clear hcz35_5; try clear hcz42_0; try clear hcz42_1; try clear hcz42_2; try clear hcz42_3; try clear hcz42_4; try clear hcz42_5; try clear hfz13_0; try clear hfz13_1; try clear hfz13_2; try clear hfz13_3; try clear hfz13_4; try clear hfz13_5; try clear hfz17_0; try clear hfz17_1; try clear hfz17_2; try clear hfz17_3; try clear hfz17_4; try clear hfz17_5; try clear hfz19_0; try clear hfz19_1; try clear hfz19_2; try clear hfz19_3; try clear hfz19_4; try clear hfz19_5; try clear hfz24_0; try clear hfz24_1; try clear hfz24_2; try clear hfz24_3; try clear hfz24_4; try clear hfz24_5; try clear hfz33_0; try clear hfz33_1; try clear hfz33_2; try clear hfz33_3; try clear hfz33_4; try clear hfz33_5; try clear hfz35_0; try clear hfz35_1; try clear hfz35_2; try clear hfz35_3; try clear hfz35_4; try clear hfz35_5; try clear hfz42_0; try clear hfz42_1; try clear hfz42_2; try clear hfz42_3; try clear hfz42_4; try clear hfz42_5
  obtain ⟨kq, x53_6, rfl, HA, HJ6, HO_442005, HO_453005, HO_464005, HO_483005, HO_494005, BK441, BK452, BK463, BK482, BK493, HB⟩ := hcut
  cases kq with
  | zero => exact absurd HA.out (by simp [skifflaw18_awake.j0])
  | succ kj6 =>
   have H := HA.out
   clear HA
   simp only [skifflaw18_awake.j0] at H
   by_cases c45 : x53_6 = true
   ·subst c45
    have H1 : (none) = some r := by rw [if_pos rfl] at H; exact H
    clear H; have H := H1; clear H1
    exact absurd H (by simp)
   ·replace c45 := Bool.eq_false_iff.mpr c45
    subst c45
    have H1 : (if 192 ≤ 196 then (if 196 ≤ (t442.size : Int) then (if (t442.extract 192 196).toList = ([97, 98, 99, 100] : List UInt8) then (if t443 = 1 then (if (t448.length : Int) = 0 then ((skifflaw0_Num.f t451).bind fun t494 => (if t494 = 0 then (if 192 < (t453.size : Int) then (if (bt t453 192) = 249 then ((skifflaw0_SameDevice.f kj6 t454 t455 t456 t457 t458 t459 0 0 0 0 0 ([] : List (S40))).bind fun t495 => (if t495 = true then ((skifflaw0_Num.f t462).bind fun t496 => (if t496 = 0 then (if t472.toList = t437.toList then ((skifflaw18_sent.f kj6).bind fun bt497 => ((skifflaw0_SameDevice.f kj6 t473 t474 t475 t476 t477 t478 bt497.1 bt497.2.1 bt497.2.2.1 bt497.2.2.2.1 bt497.2.2.2.2.1 bt497.2.2.2.2.2).bind fun t505 => (if t505 = true then ((skifflaw0_Num.f t481).bind fun t506 => (if t506 = 0 then ((skifflaw0_Num.f t492).bind fun t507 => (some (t507 == 1800))) else (none))) else (none)))) else (none)) else (none))) else (none))) else (none)) else (none)) else (none))) else (none)) else (none)) else (none)) else (none)) else (none)) = some r := by rw [if_neg (show ¬ (false = true) by decide)] at H; exact H
    clear H; have H := H1; clear H1
    by_cases c46 : 192 ≤ 196
    case neg =>
     rw [if_neg c46] at H
     exact absurd H (by simp)
    rw [if_pos c46] at H
    have c46b0 := eq_true c46
    have c46b1 : decide (192 ≤ 196) = true := decide_eq_true c46
    clear c46
    by_cases c47 : 196 ≤ (t442.size : Int)
    case neg =>
     rw [if_neg c47] at H
     exact absurd H (by simp)
    rw [if_pos c47] at H
    have c47b0 := eq_true c47
    have c47b1 : decide (196 ≤ (t442.size : Int)) = true := decide_eq_true c47
    clear c47
    by_cases c48 : (t442.extract 192 196).toList = ([97, 98, 99, 100] : List UInt8)
    case neg =>
     rw [if_neg c48] at H
     exact absurd H (by simp)
    rw [if_pos c48] at H
    have c48b0 : ((t442.extract 192 196).toList == ([97, 98, 99, 100] : List UInt8)) = true := beq_iff_eq.mpr c48
    have c48b1 : ((t442.extract 192 196).toList != ([97, 98, 99, 100] : List UInt8)) = false := bne_eq_false_iff_eq.mpr c48
    clear c48
    by_cases c49 : t443 = 1
    case neg =>
     rw [if_neg c49] at H
     exact absurd H (by simp)
    rw [if_pos c49] at H
    have c49b0 : (t443 == 1) = true := beq_iff_eq.mpr c49
    have c49b1 : (t443 != 1) = false := bne_eq_false_iff_eq.mpr c49
    clear c49
    by_cases c50 : (t448.length : Int) = 0
    case neg =>
     rw [if_neg c50] at H
     exact absurd H (by simp)
    rw [if_pos c50] at H
    have c50b0 : ((t448.length : Int) == 0) = true := beq_iff_eq.mpr c50
    have c50b1 : ((t448.length : Int) != 0) = false := bne_eq_false_iff_eq.mpr c50
    clear c50
    replace H := Option.bind_eq_some_iff.mp H
    obtain ⟨t494, A510, H⟩ := H
    replace H : (if t494 = 0 then (if 192 < (t453.size : Int) then (if (bt t453 192) = 249 then ((skifflaw0_SameDevice.f kj6 t454 t455 t456 t457 t458 t459 0 0 0 0 0 ([] : List (S40))).bind fun t495 => (if t495 = true then ((skifflaw0_Num.f t462).bind fun t496 => (if t496 = 0 then (if t472.toList = t437.toList then ((skifflaw18_sent.f kj6).bind fun bt497 => ((skifflaw0_SameDevice.f kj6 t473 t474 t475 t476 t477 t478 bt497.1 bt497.2.1 bt497.2.2.1 bt497.2.2.2.1 bt497.2.2.2.2.1 bt497.2.2.2.2.2).bind fun t505 => (if t505 = true then ((skifflaw0_Num.f t481).bind fun t506 => (if t506 = 0 then ((skifflaw0_Num.f t492).bind fun t507 => (some (t507 == 1800))) else (none))) else (none)))) else (none)) else (none))) else (none))) else (none)) else (none)) else (none)) = some r := H
    have A51 := Aside0.mk A510
    clear A510
    by_cases c52 : t494 = 0
    case neg =>
     rw [if_neg c52] at H
     exact absurd H (by simp)
    rw [if_pos c52] at H
    have c52b0 : (t494 == 0) = true := beq_iff_eq.mpr c52
    have c52b1 : (t494 != 0) = false := bne_eq_false_iff_eq.mpr c52
    clear c52
    by_cases c53 : 192 < (t453.size : Int)
    case neg =>
     rw [if_neg c53] at H
     exact absurd H (by simp)
    rw [if_pos c53] at H
    have c53b0 : decide (192 < (t453.size : Int)) = true := decide_eq_true c53
    have c53b1 : decide (192 < t453.size) = true := decide_eq_true (by omega)
    clear c53
    by_cases c55 : (bt t453 192) = 249
    case neg =>
     rw [if_neg c55] at H
     exact absurd H (by simp)
    rw [if_pos c55] at H
    have c55b0 : ((bt t453 192) == 249) = true := beq_iff_eq.mpr c55
    have c55b1 : ((bt t453 192) != 249) = false := bne_eq_false_iff_eq.mpr c55
    clear c55
    replace H := Option.bind_eq_some_iff.mp H
    obtain ⟨t495, A560, H⟩ := H
    replace H : (if t495 = true then ((skifflaw0_Num.f t462).bind fun t496 => (if t496 = 0 then (if t472.toList = t437.toList then ((skifflaw18_sent.f kj6).bind fun bt497 => ((skifflaw0_SameDevice.f kj6 t473 t474 t475 t476 t477 t478 bt497.1 bt497.2.1 bt497.2.2.1 bt497.2.2.2.1 bt497.2.2.2.2.1 bt497.2.2.2.2.2).bind fun t505 => (if t505 = true then ((skifflaw0_Num.f t481).bind fun t506 => (if t506 = 0 then ((skifflaw0_Num.f t492).bind fun t507 => (some (t507 == 1800))) else (none))) else (none)))) else (none)) else (none))) else (none)) = some r := H
    have A56 := Aside0.mk A560
    clear A560
    by_cases c57 : t495 = true
    case neg =>
     replace c57 := Bool.eq_false_iff.mpr c57
     subst c57
     have H1 : (none) = some r := by rw [if_neg (show ¬ (false = true) by decide)] at H; exact H
     clear H; have H := H1; clear H1
     exact absurd H (by simp)
    subst c57
    have H1 : ((skifflaw0_Num.f t462).bind fun t496 => (if t496 = 0 then (if t472.toList = t437.toList then ((skifflaw18_sent.f kj6).bind fun bt497 => ((skifflaw0_SameDevice.f kj6 t473 t474 t475 t476 t477 t478 bt497.1 bt497.2.1 bt497.2.2.1 bt497.2.2.2.1 bt497.2.2.2.2.1 bt497.2.2.2.2.2).bind fun t505 => (if t505 = true then ((skifflaw0_Num.f t481).bind fun t506 => (if t506 = 0 then ((skifflaw0_Num.f t492).bind fun t507 => (some (t507 == 1800))) else (none))) else (none)))) else (none)) else (none))) = some r := by rw [if_pos rfl] at H; exact H
    clear H; have H := H1; clear H1
    replace H := Option.bind_eq_some_iff.mp H
    obtain ⟨t496, A580, H⟩ := H
    replace H : (if t496 = 0 then (if t472.toList = t437.toList then ((skifflaw18_sent.f kj6).bind fun bt497 => ((skifflaw0_SameDevice.f kj6 t473 t474 t475 t476 t477 t478 bt497.1 bt497.2.1 bt497.2.2.1 bt497.2.2.2.1 bt497.2.2.2.2.1 bt497.2.2.2.2.2).bind fun t505 => (if t505 = true then ((skifflaw0_Num.f t481).bind fun t506 => (if t506 = 0 then ((skifflaw0_Num.f t492).bind fun t507 => (some (t507 == 1800))) else (none))) else (none)))) else (none)) else (none)) = some r := H
    have A58 := Aside0.mk A580
    clear A580
    by_cases c59 : t496 = 0
    case neg =>
     rw [if_neg c59] at H
     exact absurd H (by simp)
    rw [if_pos c59] at H
    have c59b0 : (t496 == 0) = true := beq_iff_eq.mpr c59
    have c59b1 : (t496 != 0) = false := bne_eq_false_iff_eq.mpr c59
    clear c59
    by_cases c60 : t472.toList = t437.toList
    case neg =>
     rw [if_neg c60] at H
     exact absurd H (by simp)
    rw [if_pos c60] at H
    have c60b0 : (t472.toList == t437.toList) = true := beq_iff_eq.mpr c60
    have c60b1 : (t472.toList != t437.toList) = false := bne_eq_false_iff_eq.mpr c60
    clear c60
    replace H := Option.bind_eq_some_iff.mp H
    obtain ⟨⟨t497, t498, t499, t500, t501, t502⟩, A610, H⟩ := H
    replace H : ((skifflaw0_SameDevice.f kj6 t473 t474 t475 t476 t477 t478 t497 t498 t499 t500 t501 t502).bind fun t505 => (if t505 = true then ((skifflaw0_Num.f t481).bind fun t506 => (if t506 = 0 then ((skifflaw0_Num.f t492).bind fun t507 => (some (t507 == 1800))) else (none))) else (none))) = some r := H
    have A61 := Aside0.mk A610
    clear A610
    replace H := Option.bind_eq_some_iff.mp H
    obtain ⟨t505, A620, H⟩ := H
    replace H : (if t505 = true then ((skifflaw0_Num.f t481).bind fun t506 => (if t506 = 0 then ((skifflaw0_Num.f t492).bind fun t507 => (some (t507 == 1800))) else (none))) else (none)) = some r := H
    have A62 := Aside0.mk A620
    clear A620
    by_cases c63 : t505 = true
    case neg =>
     replace c63 := Bool.eq_false_iff.mpr c63
     subst c63
     have H1 : (none) = some r := by rw [if_neg (show ¬ (false = true) by decide)] at H; exact H
     clear H; have H := H1; clear H1
     exact absurd H (by simp)
    subst c63
    have H1 : ((skifflaw0_Num.f t481).bind fun t506 => (if t506 = 0 then ((skifflaw0_Num.f t492).bind fun t507 => (some (t507 == 1800))) else (none))) = some r := by rw [if_pos rfl] at H; exact H
    clear H; have H := H1; clear H1
    replace H := Option.bind_eq_some_iff.mp H
    obtain ⟨t506, A640, H⟩ := H
    replace H : (if t506 = 0 then ((skifflaw0_Num.f t492).bind fun t507 => (some (t507 == 1800))) else (none)) = some r := H
    have A64 := Aside0.mk A640
    clear A640
    by_cases c65 : t506 = 0
    case neg =>
     rw [if_neg c65] at H
     exact absurd H (by simp)
    rw [if_pos c65] at H
    have c65b0 : (t506 == 0) = true := beq_iff_eq.mpr c65
    have c65b1 : (t506 != 0) = false := bne_eq_false_iff_eq.mpr c65
    clear c65
    replace H := Option.bind_eq_some_iff.mp H
    obtain ⟨t507, A660, H⟩ := H
    replace H : (some (t507 == 1800)) = some r := H
    have A66 := Aside0.mk A660
    clear A660
    obtain rfl := Option.some.inj H
    try go_wp2
    have n0_ := Aside0.mk (Kd.Q_drew HO_442005.out)
    have n1_ := Aside0.mk (Kd.Q_drew HO_453005.out)
    have n2_ := Aside0.mk (Kd.Q_drew HO_464005.out)
    have n3_ := Aside0.mk (Kd.Q_drew HO_483005.out)
    have n4_ := Aside0.mk (Kd.Q_drew HO_494005.out)
    have n5_ := Aside0.mk (blk_drew BK441.out)
    have n6_ := Aside0.mk (blk_drew BK452.out)
    have n7_ := Aside0.mk (blk_drew BK463.out)
    have n8_ := Aside0.mk (blk_drew BK482.out)
    have n9_ := Aside0.mk (blk_drew BK493.out)
    have n10_ := Aside0.mk (below_drew1 HB.out)
    clear HO_442005 HO_453005 HO_464005 HO_483005 HO_494005 BK441 BK452 BK463 BK482 BK493 HB; have HO_442005 := n0_; have HO_453005 := n1_; have HO_464005 := n2_; have HO_483005 := n3_; have HO_494005 := n4_; have BK441 := n5_; have BK452 := n6_; have BK463 := n7_; have BK482 := n8_; have BK493 := n9_; have HB := n10_; clear n0_ n1_ n2_ n3_ n4_ n5_ n6_ n7_ n8_ n9_ n10_
    refine start_ (n := 55) (S := fun w' => w'.cell? ⟨gb452, 0, none⟩ = some (.int .i64 t443) ∧ w'.cell? ⟨gb452, 1, none⟩ = some (.int .i64 t444) ∧ w'.cell? ⟨gb452, 2, none⟩ = some (.int .i64 t445) ∧ w'.cell? ⟨gb452, 3, none⟩ = some (.int .i64 t446) ∧ w'.cell? ⟨gb452, 4, none⟩ = some (.int .i64 t447) ∧ w'.cell? ⟨gb452, 5, none⟩ = some (.slice Ao18 t448.length co18) ∧ w'.cell? ⟨gb463, 0, none⟩ = some (.int .i64 t454) ∧ w'.cell? ⟨gb463, 1, none⟩ = some (.int .i64 t455) ∧ w'.cell? ⟨gb463, 2, none⟩ = some (.int .i64 t456) ∧ w'.cell? ⟨gb463, 3, none⟩ = some (.int .i64 t457) ∧ w'.cell? ⟨gb463, 4, none⟩ = some (.int .i64 t458) ∧ w'.cell? ⟨gb463, 5, none⟩ = some (.slice Ao25 t459.length co25) ∧ w'.cell? ⟨gb482, 0, none⟩ = some (.int .i64 t473) ∧ w'.cell? ⟨gb482, 1, none⟩ = some (.int .i64 t474) ∧ w'.cell? ⟨gb482, 2, none⟩ = some (.int .i64 t475) ∧ w'.cell? ⟨gb482, 3, none⟩ = some (.int .i64 t476) ∧ w'.cell? ⟨gb482, 4, none⟩ = some (.int .i64 t477) ∧ w'.cell? ⟨gb482, 5, none⟩ = some (.slice Ao34 t478.length co34)) (ds := []) #[false, false, false, false, false, false, false, false, false, false, false, false, false, false, false, false, false, false, false, false, false, false, false, false, false, false, false, false, false, false, false, false, false, false, false, false, false, false, false, false, false, false, false, false, false, false, false, false, false, false, false, false, false, false, false] (by kernel_rfl) rfl rfl ⟨(blk_cell BK452.out 0).trans rfl, (blk_cell BK452.out 1).trans rfl, (blk_cell BK452.out 2).trans rfl, (blk_cell BK452.out 3).trans rfl, (blk_cell BK452.out 4).trans rfl, (blk_cell BK452.out 5).trans rfl, (blk_cell BK463.out 0).trans rfl, (blk_cell BK463.out 1).trans rfl, (blk_cell BK463.out 2).trans rfl, (blk_cell BK463.out 3).trans rfl, (blk_cell BK463.out 4).trans rfl, (blk_cell BK463.out 5).trans rfl, (blk_cell BK482.out 0).trans rfl, (blk_cell BK482.out 1).trans rfl, (blk_cell BK482.out 2).trans rfl, (blk_cell BK482.out 3).trans rfl, (blk_cell BK482.out 4).trans rfl, (blk_cell BK482.out 5).trans rfl⟩ (fun hHeld => ?_); refine with_tabW skifflaw18_awake.tab9 skifflaw18_awake.bits9 (fun HT_ HW_ => ?_)
    generalize wc.drew = w67 at HO_442005 HO_453005 HO_464005 HO_483005 HO_494005 BK441 BK452 BK463 BK482 BK493 HB hHeld ⊢
    refine pure_ (i := 0) (N := some 54) (v := ?_) (a' := ?_) #[true, false, false, false, false, false, false, false, false, false, false, false, false, false, false, false, false, false, false, false, false, false, false, false, false, false, false, false, false, false, false, false, false, false, false, false, false, false, false, false, false, false, false, false, false, false, false, false, false, false, false, false, false, false, false] rfl rfl (any_of HT_.out (by kernel_rfl)) (fun _ _ _ h => h) (Or.inl ⟨by rfl, ?_⟩) ?_ ?_
    rotate_left
    ·intro w'
     go_simp
     with_reducible rfl
    rotate_left
    ·simp only [Act.put, List.setIfInBounds_toArray, List.set_cons_zero, List.set_cons_succ, i64_w, i32_w]
     rfl
    refine pure_ (i := 1) (N := some 55) (v := ?_) (a' := ?_) #[true, true, false, false, false, false, false, false, false, false, false, false, false, false, false, false, false, false, false, false, false, false, false, false, false, false, false, false, false, false, false, false, false, false, false, false, false, false, false, false, false, false, false, false, false, false, false, false, false, false, false, false, false, false, false] rfl rfl (any_of HT_.out (by kernel_rfl)) (fun _ _ _ h => h) (Or.inl ⟨by rfl, ?_⟩) ?_ ?_
    rotate_left
    ·intro w'
     go_simp
     with_reducible rfl
    rotate_left
    ·simp only [Act.put, List.setIfInBounds_toArray, List.set_cons_zero, List.set_cons_succ, i64_w, i32_w]
     rfl
    refine pure_ (i := 2) (N := some 56) (v := ?_) (a' := ?_) #[true, true, true, false, false, false, false, false, false, false, false, false, false, false, false, false, false, false, false, false, false, false, false, false, false, false, false, false, false, false, false, false, false, false, false, false, false, false, false, false, false, false, false, false, false, false, false, false, false, false, false, false, false, false, false] rfl rfl (any_of HT_.out (by kernel_rfl)) (fun _ _ _ h => h) (Or.inl ⟨by rfl, ?_⟩) ?_ ?_
    rotate_left
    ·intro w'
     go_simp
     with_reducible rfl
    rotate_left
    ·simp only [Act.put, List.setIfInBounds_toArray, List.set_cons_zero, List.set_cons_succ, i64_w, i32_w]
     rfl
    refine pure_ (i := 3) (N := some 57) (v := ?_) (a' := ?_) #[true, true, true, true, false, false, false, false, false, false, false, false, false, false, false, false, false, false, false, false, false, false, false, false, false, false, false, false, false, false, false, false, false, false, false, false, false, false, false, false, false, false, false, false, false, false, false, false, false, false, false, false, false, false, false] rfl rfl (any_of HT_.out (by kernel_rfl)) (fun _ _ _ h => h) (Or.inl ⟨by rfl, ?_⟩) ?_ ?_
    rotate_left
    ·intro w'
     go_simp
     with_reducible rfl
    rotate_left
    ·simp only [Act.put, List.setIfInBounds_toArray, List.set_cons_zero, List.set_cons_succ, i64_w, i32_w]
     rfl
    refine pure_ (i := 4) (N := some 58) (v := ?_) (a' := ?_) #[true, true, true, true, true, false, false, false, false, false, false, false, false, false, false, false, false, false, false, false, false, false, false, false, false, false, false, false, false, false, false, false, false, false, false, false, false, false, false, false, false, false, false, false, false, false, false, false, false, false, false, false, false, false, false] rfl rfl (any_of HT_.out (by kernel_rfl)) (fun _ _ _ h => h) (Or.inl ⟨by rfl, ?_⟩) ?_ ?_
    rotate_left
    ·intro w'
     go_simp
     with_reducible rfl
    rotate_left
    ·simp only [Act.put, List.setIfInBounds_toArray, List.set_cons_zero, List.set_cons_succ, i64_w, i32_w]
     rfl
    refine take_ (i := 5) (N := some 59) (v := ?_) (a' := ?_) #[true, true, true, true, true, true, false, false, false, false, false, false, false, false, false, false, false, false, false, false, false, false, false, false, false, false, false, false, false, false, false, false, false, false, false, false, false, false, false, false, false, false, false, false, false, false, false, false, false, false, false, false, false, false, false] rfl rfl (take_ofW HT_.out HW_.out (by kernel_rfl)) (fun _ _ _ h => h) (Or.inl ⟨by rfl, ?_⟩) hHeld ?_ ?_
    rotate_left
    ·rintro w' ⟨s0, s1, s2, s3, s4, s5, s6, s7, s8, s9, s10, s11, s12, s13, s14, s15, s16, s17⟩
     go_simp
     with_reducible rfl
    rotate_left
    ·simp only [Act.put, List.setIfInBounds_toArray, List.set_cons_zero, List.set_cons_succ, i64_w, i32_w]
     rfl
    refine pure_ (i := 6) (N := some 60) (v := ?_) (a' := ?_) #[true, true, true, true, true, true, true, false, false, false, false, false, false, false, false, false, false, false, false, false, false, false, false, false, false, false, false, false, false, false, false, false, false, false, false, false, false, false, false, false, false, false, false, false, false, false, false, false, false, false, false, false, false, false, false] rfl rfl (any_of HT_.out (by kernel_rfl)) (fun _ _ _ h => h) (Or.inl ⟨by rfl, ?_⟩) ?_ ?_
    rotate_left
    ·intro w'
     go_simp
     with_reducible rfl
    rotate_left
    ·simp only [Act.put, List.setIfInBounds_toArray, List.set_cons_zero, List.set_cons_succ, i64_w, i32_w]
     rfl
    refine pure_ (i := 7) (N := some 61) (v := ?_) (a' := ?_) #[true, true, true, true, true, true, true, true, false, false, false, false, false, false, false, false, false, false, false, false, false, false, false, false, false, false, false, false, false, false, false, false, false, false, false, false, false, false, false, false, false, false, false, false, false, false, false, false, false, false, false, false, false, false, false] rfl rfl (any_of HT_.out (by kernel_rfl)) (fun _ _ _ h => h) (Or.inl ⟨by rfl, ?_⟩) ?_ ?_
    rotate_left
    ·intro w'
     go_simp
     with_reducible rfl
    rotate_left
    ·simp only [Act.put, List.setIfInBounds_toArray, List.set_cons_zero, List.set_cons_succ, i64_w, i32_w]
     rfl
    refine pure_ (i := 8) (N := some 62) (v := ?_) (a' := ?_) #[true, true, true, true, true, true, true, true, true, false, false, false, false, false, false, false, false, false, false, false, false, false, false, false, false, false, false, false, false, false, false, false, false, false, false, false, false, false, false, false, false, false, false, false, false, false, false, false, false, false, false, false, false, false, false] rfl rfl (any_of HT_.out (by kernel_rfl)) (fun _ _ _ h => h) (Or.inl ⟨by rfl, ?_⟩) ?_ ?_
    rotate_left
    ·intro w'
     go_simp
     with_reducible rfl
    rotate_left
    ·simp only [Act.put, List.setIfInBounds_toArray, List.set_cons_zero, List.set_cons_succ, i64_w, i32_w]
     rfl
    refine pure_ (i := 9) (N := some 63) (v := ?_) (a' := ?_) #[true, true, true, true, true, true, true, true, true, true, false, false, false, false, false, false, false, false, false, false, false, false, false, false, false, false, false, false, false, false, false, false, false, false, false, false, false, false, false, false, false, false, false, false, false, false, false, false, false, false, false, false, false, false, false] rfl rfl (any_of HT_.out (by kernel_rfl)) (fun _ _ _ h => h) (Or.inl ⟨by rfl, ?_⟩) ?_ ?_
    rotate_left
    ·intro w'
     go_simp
     with_reducible rfl
    rotate_left
    ·simp only [Act.put, List.setIfInBounds_toArray, List.set_cons_zero, List.set_cons_succ, i64_w, i32_w]
     rfl
    refine take_ (i := 10) (N := some 64) (v := ?_) (a' := ?_) #[true, true, true, true, true, true, true, true, true, true, true, false, false, false, false, false, false, false, false, false, false, false, false, false, false, false, false, false, false, false, false, false, false, false, false, false, false, false, false, false, false, false, false, false, false, false, false, false, false, false, false, false, false, false, false] rfl rfl (take_ofW HT_.out HW_.out (by kernel_rfl)) (fun _ _ _ h => h) (Or.inl ⟨by rfl, ?_⟩) hHeld ?_ ?_
    rotate_left
    ·rintro w' ⟨s0, s1, s2, s3, s4, s5, s6, s7, s8, s9, s10, s11, s12, s13, s14, s15, s16, s17⟩
     go_simp
     with_reducible rfl
    rotate_left
    ·simp only [Act.put, List.setIfInBounds_toArray, List.set_cons_zero, List.set_cons_succ, i64_w, i32_w]
     rfl
    refine pure_ (i := 11) (N := some 65) (v := ?_) (a' := ?_) #[true, true, true, true, true, true, true, true, true, true, true, true, false, false, false, false, false, false, false, false, false, false, false, false, false, false, false, false, false, false, false, false, false, false, false, false, false, false, false, false, false, false, false, false, false, false, false, false, false, false, false, false, false, false, false] rfl rfl (any_of HT_.out (by kernel_rfl)) (fun _ _ _ h => h) (Or.inl ⟨by rfl, ?_⟩) ?_ ?_
    rotate_left
    ·intro w'
     go_simp
     with_reducible rfl
    rotate_left
    ·simp only [Act.put, List.setIfInBounds_toArray, List.set_cons_zero, List.set_cons_succ, i64_w, i32_w]
     rfl
    refine pure_ (i := 12) (N := some 66) (v := ?_) (a' := ?_) #[true, true, true, true, true, true, true, true, true, true, true, true, true, false, false, false, false, false, false, false, false, false, false, false, false, false, false, false, false, false, false, false, false, false, false, false, false, false, false, false, false, false, false, false, false, false, false, false, false, false, false, false, false, false, false] rfl rfl (any_of HT_.out (by kernel_rfl)) (fun _ _ _ h => h) (Or.inl ⟨by rfl, ?_⟩) ?_ ?_
    rotate_left
    ·intro w'
     go_simp
     with_reducible rfl
    rotate_left
    ·simp only [Act.put, List.setIfInBounds_toArray, List.set_cons_zero, List.set_cons_succ, i64_w, i32_w]
     rfl
    refine pure_ (i := 13) (N := some 67) (v := ?_) (a' := ?_) #[true, true, true, true, true, true, true, true, true, true, true, true, true, true, false, false, false, false, false, false, false, false, false, false, false, false, false, false, false, false, false, false, false, false, false, false, false, false, false, false, false, false, false, false, false, false, false, false, false, false, false, false, false, false, false] rfl rfl (any_of HT_.out (by kernel_rfl)) (fun _ _ _ h => h) (Or.inl ⟨by rfl, ?_⟩) ?_ ?_
    rotate_left
    ·intro w'
     go_simp
     with_reducible rfl
    rotate_left
    ·simp only [Act.put, List.setIfInBounds_toArray, List.set_cons_zero, List.set_cons_succ, i64_w, i32_w]
     rfl
    refine pure_ (i := 14) (N := some 68) (v := ?_) (a' := ?_) #[true, true, true, true, true, true, true, true, true, true, true, true, true, true, true, false, false, false, false, false, false, false, false, false, false, false, false, false, false, false, false, false, false, false, false, false, false, false, false, false, false, false, false, false, false, false, false, false, false, false, false, false, false, false, false] rfl rfl (any_of HT_.out (by kernel_rfl)) (fun _ _ _ h => h) (Or.inl ⟨by rfl, ?_⟩) ?_ ?_
    rotate_left
    ·intro w'
     go_simp
     with_reducible rfl
    rotate_left
    ·simp only [Act.put, List.setIfInBounds_toArray, List.set_cons_zero, List.set_cons_succ, i64_w, i32_w]
     rfl
    refine pure_ (i := 15) (N := some 69) (v := ?_) (a' := ?_) #[true, true, true, true, true, true, true, true, true, true, true, true, true, true, true, true, false, false, false, false, false, false, false, false, false, false, false, false, false, false, false, false, false, false, false, false, false, false, false, false, false, false, false, false, false, false, false, false, false, false, false, false, false, false, false] rfl rfl (any_of HT_.out (by kernel_rfl)) (fun _ _ _ h => h) (Or.inl ⟨by rfl, ?_⟩) ?_ ?_
    rotate_left
    ·intro w'
     go_simp
     with_reducible rfl
    rotate_left
    ·simp only [Act.put, List.setIfInBounds_toArray, List.set_cons_zero, List.set_cons_succ, i64_w, i32_w]
     rfl
    refine one_ (i := 16) (N := some 70) #[true, true, true, true, true, true, true, true, true, true, true, true, true, true, true, true, true, false, false, false, false, false, false, false, false, false, false, false, false, false, false, false, false, false, false, false, false, false, false, false, false, false, false, false, false, false, false, false, false, false, false, false, false, false, false] rfl rfl (one_of HT_.out (by kernel_rfl)) (by decide) (fun K hK => ?_)
    refine goes_ Try.func15 (by kernel_rfl) rfl #[.int .i64 t451] (by rfl) rfl rfl ka ?_
    with_reducible refine (skifflaw0_Num.calls t451 t494 _ A51.out).mono ?_
    rintro e w' ⟨rfl, ⟨nd, rfl⟩⟩
    refine ⟨_, rfl, ?_⟩
    have p54 : 0 ≤ (192 : Int) := (by omega)
    have q54 : 192 < t453.size := (by have : (192 : Int) < (t453.size : Int) := of_decide_eq_true (by first | (with_reducible assumption) | assumption); omega)
    have hx54 : ∀ h : 192 < t453.size, ((t453[192]'h).toNat : Int) = bt t453 192 := bt_at t453 192
    clear p54
    have qi54 : (192 < (t453.size : Int)) = True := eq_true (of_decide_eq_true (by first | (with_reducible assumption) | assumption))
    replace q54 := eq_true q54
    refine hK.out _ _ ⟨(blk_cell BK452.out 0).trans rfl, (blk_cell BK452.out 1).trans rfl, (blk_cell BK452.out 2).trans rfl, (blk_cell BK452.out 3).trans rfl, (blk_cell BK452.out 4).trans rfl, (blk_cell BK452.out 5).trans rfl, (blk_cell BK463.out 0).trans rfl, (blk_cell BK463.out 1).trans rfl, (blk_cell BK463.out 2).trans rfl, (blk_cell BK463.out 3).trans rfl, (blk_cell BK463.out 4).trans rfl, (blk_cell BK463.out 5).trans rfl, (blk_cell BK482.out 0).trans rfl, (blk_cell BK482.out 1).trans rfl, (blk_cell BK482.out 2).trans rfl, (blk_cell BK482.out 3).trans rfl, (blk_cell BK482.out 4).trans rfl, (blk_cell BK482.out 5).trans rfl⟩ (fun hHeld => ?_)
    clear hK K
    refine norm_ (a' := ?_) ?_ ?_
    rotate_left
    ·show Act.put _ (some 70) _ = _
     simp only [Act.put, List.setIfInBounds_toArray, List.set_cons_zero, List.set_cons_succ, i64_w, i32_w]
     rfl
    refine pure_ (i := 17) (N := some 71) (v := ?_) (a' := ?_) #[true, true, true, true, true, true, true, true, true, true, true, true, true, true, true, true, true, true, false, false, false, false, false, false, false, false, false, false, false, false, false, false, false, false, false, false, false, false, false, false, false, false, false, false, false, false, false, false, false, false, false, false, false, false, false] rfl rfl (any_of HT_.out (by kernel_rfl)) (fun _ _ _ h => h) (Or.inl ⟨by rfl, ?_⟩) ?_ ?_
    rotate_left
    ·intro w'
     go_simp
     with_reducible rfl
    rotate_left
    ·simp only [Act.put, List.setIfInBounds_toArray, List.set_cons_zero, List.set_cons_succ, i64_w, i32_w]
     rfl
    refine pure_ (i := 18) (N := some 72) (v := ?_) (a' := ?_) #[true, true, true, true, true, true, true, true, true, true, true, true, true, true, true, true, true, true, true, false, false, false, false, false, false, false, false, false, false, false, false, false, false, false, false, false, false, false, false, false, false, false, false, false, false, false, false, false, false, false, false, false, false, false, false] rfl rfl (any_of HT_.out (by kernel_rfl)) (fun _ _ _ h => h) (Or.inl ⟨by rfl, ?_⟩) ?_ ?_
    rotate_left
    ·intro w'
     go_simp
     with_reducible rfl
    rotate_left
    ·simp only [Act.put, List.setIfInBounds_toArray, List.set_cons_zero, List.set_cons_succ, i64_w, i32_w]
     rfl
    refine pure_ (i := 19) (N := some 73) (v := ?_) (a' := ?_) #[true, true, true, true, true, true, true, true, true, true, true, true, true, true, true, true, true, true, true, true, false, false, false, false, false, false, false, false, false, false, false, false, false, false, false, false, false, false, false, false, false, false, false, false, false, false, false, false, false, false, false, false, false, false, false] rfl rfl (any_of HT_.out (by kernel_rfl)) (fun _ _ _ h => h) (Or.inl ⟨by rfl, ?_⟩) ?_ ?_
    rotate_left
    ·intro w'
     go_simp
     with_reducible rfl
    rotate_left
    ·simp only [Act.put, List.setIfInBounds_toArray, List.set_cons_zero, List.set_cons_succ, i64_w, i32_w]
     rfl
    refine pure_ (i := 20) (N := some 74) (v := ?_) (a' := ?_) #[true, true, true, true, true, true, true, true, true, true, true, true, true, true, true, true, true, true, true, true, true, false, false, false, false, false, false, false, false, false, false, false, false, false, false, false, false, false, false, false, false, false, false, false, false, false, false, false, false, false, false, false, false, false, false] rfl rfl (any_of HT_.out (by kernel_rfl)) (fun _ _ _ h => h) (Or.inl ⟨by rfl, ?_⟩) ?_ ?_
    rotate_left
    ·intro w'
     go_simp
     with_reducible rfl
    rotate_left
    ·simp only [Act.put, List.setIfInBounds_toArray, List.set_cons_zero, List.set_cons_succ, i64_w, i32_w]
     rfl
    refine take_ (i := 21) (N := some 75) (v := ?_) (a' := ?_) #[true, true, true, true, true, true, true, true, true, true, true, true, true, true, true, true, true, true, true, true, true, true, false, false, false, false, false, false, false, false, false, false, false, false, false, false, false, false, false, false, false, false, false, false, false, false, false, false, false, false, false, false, false, false, false] rfl rfl (take_ofW HT_.out HW_.out (by kernel_rfl)) (fun _ _ _ h => h) (Or.inl ⟨by rfl, ?_⟩) hHeld ?_ ?_
    rotate_left
    ·rintro w' ⟨s0, s1, s2, s3, s4, s5, s6, s7, s8, s9, s10, s11, s12, s13, s14, s15, s16, s17⟩
     go_simp
     with_reducible rfl
    rotate_left
    ·simp only [Act.put, List.setIfInBounds_toArray, List.set_cons_zero, List.set_cons_succ, i64_w, i32_w]
     rfl
    refine pure_ (i := 22) (N := some 76) (v := ?_) (a' := ?_) #[true, true, true, true, true, true, true, true, true, true, true, true, true, true, true, true, true, true, true, true, true, true, true, false, false, false, false, false, false, false, false, false, false, false, false, false, false, false, false, false, false, false, false, false, false, false, false, false, false, false, false, false, false, false, false] rfl rfl (any_of HT_.out (by kernel_rfl)) (fun _ _ _ h => h) (Or.inl ⟨by rfl, ?_⟩) ?_ ?_
    rotate_left
    ·intro w'
     go_simp
     with_reducible rfl
    rotate_left
    ·simp only [Act.put, List.setIfInBounds_toArray, List.set_cons_zero, List.set_cons_succ, i64_w, i32_w]
     rfl
    refine pure_ (i := 23) (N := some 77) (v := ?_) (a' := ?_) #[true, true, true, true, true, true, true, true, true, true, true, true, true, true, true, true, true, true, true, true, true, true, true, true, false, false, false, false, false, false, false, false, false, false, false, false, false, false, false, false, false, false, false, false, false, false, false, false, false, false, false, false, false, false, false] rfl rfl (any_of HT_.out (by kernel_rfl)) (fun _ _ _ h => h) (Or.inl ⟨by rfl, ?_⟩) ?_ ?_
    rotate_left
    ·intro w'
     go_simp
     with_reducible rfl
    rotate_left
    ·simp only [Act.put, List.setIfInBounds_toArray, List.set_cons_zero, List.set_cons_succ, i64_w, i32_w]
     rfl
    refine pure_ (i := 24) (N := some 78) (v := ?_) (a' := ?_) #[true, true, true, true, true, true, true, true, true, true, true, true, true, true, true, true, true, true, true, true, true, true, true, true, true, false, false, false, false, false, false, false, false, false, false, false, false, false, false, false, false, false, false, false, false, false, false, false, false, false, false, false, false, false, false] rfl rfl (any_of HT_.out (by kernel_rfl)) (fun _ _ _ h => h) (Or.inl ⟨by rfl, ?_⟩) ?_ ?_
    rotate_left
    ·intro w'
     go_simp
     with_reducible rfl
    rotate_left
    ·simp only [Act.put, List.setIfInBounds_toArray, List.set_cons_zero, List.set_cons_succ, i64_w, i32_w]
     rfl
    refine pure_ (i := 26) (N := some 80) (v := ?_) (a' := ?_) #[true, true, true, true, true, true, true, true, true, true, true, true, true, true, true, true, true, true, true, true, true, true, true, true, true, false, true, false, false, false, false, false, false, false, false, false, false, false, false, false, false, false, false, false, false, false, false, false, false, false, false, false, false, false, false] rfl rfl (any_of HT_.out (by kernel_rfl)) (fun _ _ _ h => h) (Or.inl ⟨by rfl, ?_⟩) ?_ ?_
    rotate_left
    ·intro w'
     go_simp
     with_reducible rfl
    rotate_left
    ·simp only [Act.put, List.setIfInBounds_toArray, List.set_cons_zero, List.set_cons_succ, i64_w, i32_w]
     rfl
    refine take_ (i := 25) (N := some 79) (v := ?_) (a' := ?_) #[true, true, true, true, true, true, true, true, true, true, true, true, true, true, true, true, true, true, true, true, true, true, true, true, true, true, true, false, false, false, false, false, false, false, false, false, false, false, false, false, false, false, false, false, false, false, false, false, false, false, false, false, false, false, false] rfl rfl (take_ofW HT_.out HW_.out (by kernel_rfl)) (fun _ _ _ h => h) (Or.inl ⟨by rfl, ?_⟩) hHeld ?_ ?_
    rotate_left
    ·rintro w' ⟨s0, s1, s2, s3, s4, s5, s6, s7, s8, s9, s10, s11, s12, s13, s14, s15, s16, s17⟩
     go_simp
     with_reducible rfl
    rotate_left
    ·simp only [Act.put, List.setIfInBounds_toArray, List.set_cons_zero, List.set_cons_succ, i64_w, i32_w]
     rfl
    refine one_ (i := 27) (N := some 81) #[true, true, true, true, true, true, true, true, true, true, true, true, true, true, true, true, true, true, true, true, true, true, true, true, true, true, true, true, false, false, false, false, false, false, false, false, false, false, false, false, false, false, false, false, false, false, false, false, false, false, false, false, false, false, false] rfl rfl (one_of HT_.out (by kernel_rfl)) (by decide) (fun K hK => ?_)
    refine goes_ Try.func14 (by kernel_rfl) rfl #[.agg #[.int .i64 t454, .int .i64 t455, .int .i64 t456, .int .i64 t457, .int .i64 t458, .slice Ao25 t459.length co25], .agg #[.int .i64 0, .int .i64 0, .int .i64 0, .int .i64 0, .int .i64 0, .slice none 0 0]] (by rfl) rfl rfl ka ?_
    refine (skifflaw0_SameDevice.calls kj6 t454 t455 t456 t457 t458 _ _ t459 0 0 0 0 0 _ _ ([] : List (S40)) true _ ?side1 ?side2 ?side3 ?side4 A56.out).mono ?_
    (case side1 => repeat (first | exact (Kd.Q_reads' HO_464005.out).2.2 | (with_reducible refine Kd.C_alloc ?_ _) | (with_reducible refine Kd.C_drewN ?_ _) | (with_reducible refine Kd.C_drew ?_)))
    (case side2 => exact (Kd.Q_reads' HO_464005.out).2.1)
    (case side3 => exact Kd.C_nil _ _)
    (case side4 => exact Nat.le_refl _)
    rintro e w68 ⟨rfl, hb⟩
    refine ⟨_, rfl, ?_⟩
    have n0_ := Aside0.mk (Kd.Q_below (kQ HO_442005.out) hb)
    have n1_ := Aside0.mk (Kd.Q_below (kQ HO_453005.out) hb)
    have n2_ := Aside0.mk (Kd.Q_below (kQ HO_464005.out) hb)
    have n3_ := Aside0.mk (Kd.Q_below (kQ HO_483005.out) hb)
    have n4_ := Aside0.mk (Kd.Q_below (kQ HO_494005.out) hb)
    have n5_ := Aside0.mk (kL BK441.out hb)
    have n6_ := Aside0.mk (kL BK452.out hb)
    have n7_ := Aside0.mk (kL BK463.out hb)
    have n8_ := Aside0.mk (kL BK482.out hb)
    have n9_ := Aside0.mk (kL BK493.out hb)
    have n10_ := Aside0.mk (below_step (kb5 HB.out GE441.out GE452.out GE463.out GE482.out GE493.out) hb)
    clear HO_442005 HO_453005 HO_464005 HO_483005 HO_494005 BK441 BK452 BK463 BK482 BK493 HB; have HO_442005 := n0_; have HO_453005 := n1_; have HO_464005 := n2_; have HO_483005 := n3_; have HO_494005 := n4_; have BK441 := n5_; have BK452 := n6_; have BK463 := n7_; have BK482 := n8_; have BK493 := n9_; have HB := n10_; clear n0_ n1_ n2_ n3_ n4_ n5_ n6_ n7_ n8_ n9_ n10_
    (try clear hb)
    (try clear hb2)
    (try clear hk)
    (try clear hi)
    refine hK.out _ _ ⟨(blk_cell BK452.out 0).trans rfl, (blk_cell BK452.out 1).trans rfl, (blk_cell BK452.out 2).trans rfl, (blk_cell BK452.out 3).trans rfl, (blk_cell BK452.out 4).trans rfl, (blk_cell BK452.out 5).trans rfl, (blk_cell BK463.out 0).trans rfl, (blk_cell BK463.out 1).trans rfl, (blk_cell BK463.out 2).trans rfl, (blk_cell BK463.out 3).trans rfl, (blk_cell BK463.out 4).trans rfl, (blk_cell BK463.out 5).trans rfl, (blk_cell BK482.out 0).trans rfl, (blk_cell BK482.out 1).trans rfl, (blk_cell BK482.out 2).trans rfl, (blk_cell BK482.out 3).trans rfl, (blk_cell BK482.out 4).trans rfl, (blk_cell BK482.out 5).trans rfl⟩ (fun hHeld => ?_)
    clear hK K
    refine norm_ (a' := ?_) ?_ ?_
    rotate_left
    ·show Act.put _ (some 81) _ = _
     simp only [Act.put, List.setIfInBounds_toArray, List.set_cons_zero, List.set_cons_succ, i64_w, i32_w]
     rfl
    refine pure_ (i := 28) (N := some 82) (v := ?_) (a' := ?_) #[true, true, true, true, true, true, true, true, true, true, true, true, true, true, true, true, true, true, true, true, true, true, true, true, true, true, true, true, true, false, false, false, false, false, false, false, false, false, false, false, false, false, false, false, false, false, false, false, false, false, false, false, false, false, false] rfl rfl (any_of HT_.out (by kernel_rfl)) (fun _ _ _ h => h) (Or.inl ⟨by rfl, ?_⟩) ?_ ?_
    rotate_left
    ·intro w'
     go_simp
     with_reducible rfl
    rotate_left
    ·simp only [Act.put, List.setIfInBounds_toArray, List.set_cons_zero, List.set_cons_succ, i64_w, i32_w]
     rfl
    refine pure_ (i := 29) (N := some 83) (v := ?_) (a' := ?_) #[true, true, true, true, true, true, true, true, true, true, true, true, true, true, true, true, true, true, true, true, true, true, true, true, true, true, true, true, true, true, false, false, false, false, false, false, false, false, false, false, false, false, false, false, false, false, false, false, false, false, false, false, false, false, false] rfl rfl (any_of HT_.out (by kernel_rfl)) (fun _ _ _ h => h) (Or.inl ⟨by rfl, ?_⟩) ?_ ?_
    rotate_left
    ·intro w'
     go_simp
     with_reducible rfl
    rotate_left
    ·simp only [Act.put, List.setIfInBounds_toArray, List.set_cons_zero, List.set_cons_succ, i64_w, i32_w]
     rfl
    refine pure_ (i := 30) (N := some 84) (v := ?_) (a' := ?_) #[true, true, true, true, true, true, true, true, true, true, true, true, true, true, true, true, true, true, true, true, true, true, true, true, true, true, true, true, true, true, true, false, false, false, false, false, false, false, false, false, false, false, false, false, false, false, false, false, false, false, false, false, false, false, false] rfl rfl (any_of HT_.out (by kernel_rfl)) (fun _ _ _ h => h) (Or.inl ⟨by rfl, ?_⟩) ?_ ?_
    rotate_left
    ·intro w'
     go_simp
     with_reducible rfl
    rotate_left
    ·simp only [Act.put, List.setIfInBounds_toArray, List.set_cons_zero, List.set_cons_succ, i64_w, i32_w]
     rfl
    refine one_ (i := 31) (N := some 85) #[true, true, true, true, true, true, true, true, true, true, true, true, true, true, true, true, true, true, true, true, true, true, true, true, true, true, true, true, true, true, true, true, false, false, false, false, false, false, false, false, false, false, false, false, false, false, false, false, false, false, false, false, false, false, false] rfl rfl (one_of HT_.out (by kernel_rfl)) (by decide) (fun K hK => ?_)
    refine goes_ Try.func15 (by kernel_rfl) rfl #[.int .i64 t462] (by rfl) rfl rfl ka ?_
    with_reducible refine (skifflaw0_Num.calls t462 t496 _ A58.out).mono ?_
    rintro e w' ⟨rfl, ⟨nd, rfl⟩⟩
    refine ⟨_, rfl, ?_⟩
    refine hK.out _ _ ⟨(blk_cell BK452.out 0).trans rfl, (blk_cell BK452.out 1).trans rfl, (blk_cell BK452.out 2).trans rfl, (blk_cell BK452.out 3).trans rfl, (blk_cell BK452.out 4).trans rfl, (blk_cell BK452.out 5).trans rfl, (blk_cell BK463.out 0).trans rfl, (blk_cell BK463.out 1).trans rfl, (blk_cell BK463.out 2).trans rfl, (blk_cell BK463.out 3).trans rfl, (blk_cell BK463.out 4).trans rfl, (blk_cell BK463.out 5).trans rfl, (blk_cell BK482.out 0).trans rfl, (blk_cell BK482.out 1).trans rfl, (blk_cell BK482.out 2).trans rfl, (blk_cell BK482.out 3).trans rfl, (blk_cell BK482.out 4).trans rfl, (blk_cell BK482.out 5).trans rfl⟩ (fun hHeld => ?_)
    clear hK K
    refine norm_ (a' := ?_) ?_ ?_
    rotate_left
    ·show Act.put _ (some 85) _ = _
     simp only [Act.put, List.setIfInBounds_toArray, List.set_cons_zero, List.set_cons_succ, i64_w, i32_w]
     rfl
    refine pure_ (i := 32) (N := some 86) (v := ?_) (a' := ?_) #[true, true, true, true, true, true, true, true, true, true, true, true, true, true, true, true, true, true, true, true, true, true, true, true, true, true, true, true, true, true, true, true, true, false, false, false, false, false, false, false, false, false, false, false, false, false, false, false, false, false, false, false, false, false, false] rfl rfl (any_of HT_.out (by kernel_rfl)) (fun _ _ _ h => h) (Or.inl ⟨by rfl, ?_⟩) ?_ ?_
    rotate_left
    ·intro w'
     go_simp
     with_reducible rfl
    rotate_left
    ·simp only [Act.put, List.setIfInBounds_toArray, List.set_cons_zero, List.set_cons_succ, i64_w, i32_w]
     rfl
    refine pure_ (i := 33) (N := some 87) (v := ?_) (a' := ?_) #[true, true, true, true, true, true, true, true, true, true, true, true, true, true, true, true, true, true, true, true, true, true, true, true, true, true, true, true, true, true, true, true, true, true, false, false, false, false, false, false, false, false, false, false, false, false, false, false, false, false, false, false, false, false, false] rfl rfl (any_of HT_.out (by kernel_rfl)) (fun _ _ _ h => h) (Or.inl ⟨by rfl, ?_⟩) ?_ ?_
    rotate_left
    ·intro w'
     go_simp
     with_reducible rfl
    rotate_left
    ·simp only [Act.put, List.setIfInBounds_toArray, List.set_cons_zero, List.set_cons_succ, i64_w, i32_w]
     rfl
    refine pure_ (i := 34) (N := some 88) (v := ?_) (a' := ?_) #[true, true, true, true, true, true, true, true, true, true, true, true, true, true, true, true, true, true, true, true, true, true, true, true, true, true, true, true, true, true, true, true, true, true, true, false, false, false, false, false, false, false, false, false, false, false, false, false, false, false, false, false, false, false, false] rfl rfl (any_of HT_.out (by kernel_rfl)) (fun _ _ _ h => h) (Or.inl ⟨by rfl, ?_⟩) ?_ ?_
    rotate_left
    ·intro w'
     go_simp
     with_reducible rfl
    rotate_left
    ·simp only [Act.put, List.setIfInBounds_toArray, List.set_cons_zero, List.set_cons_succ, i64_w, i32_w]
     rfl
    refine pure_ (i := 35) (N := some 89) (v := ?_) (a' := ?_) #[true, true, true, true, true, true, true, true, true, true, true, true, true, true, true, true, true, true, true, true, true, true, true, true, true, true, true, true, true, true, true, true, true, true, true, true, false, false, false, false, false, false, false, false, false, false, false, false, false, false, false, false, false, false, false] rfl rfl (any_of HT_.out (by kernel_rfl)) (fun _ _ _ h => h) (Or.inl ⟨by rfl, ?_⟩) ?_ ?_
    rotate_left
    ·intro w'
     go_simp
     with_reducible rfl
    rotate_left
    ·simp only [Act.put, List.setIfInBounds_toArray, List.set_cons_zero, List.set_cons_succ, i64_w, i32_w]
     rfl
    refine pure_ (i := 36) (N := some 90) (v := ?_) (a' := ?_) #[true, true, true, true, true, true, true, true, true, true, true, true, true, true, true, true, true, true, true, true, true, true, true, true, true, true, true, true, true, true, true, true, true, true, true, true, true, false, false, false, false, false, false, false, false, false, false, false, false, false, false, false, false, false, false] rfl rfl (any_of HT_.out (by kernel_rfl)) (fun _ _ _ h => h) (Or.inl ⟨by rfl, ?_⟩) ?_ ?_
    rotate_left
    ·intro w'
     go_simp
     with_reducible rfl
    rotate_left
    ·simp only [Act.put, List.setIfInBounds_toArray, List.set_cons_zero, List.set_cons_succ, i64_w, i32_w]
     rfl
    refine pure_ (i := 37) (N := some 91) (v := ?_) (a' := ?_) #[true, true, true, true, true, true, true, true, true, true, true, true, true, true, true, true, true, true, true, true, true, true, true, true, true, true, true, true, true, true, true, true, true, true, true, true, true, true, false, false, false, false, false, false, false, false, false, false, false, false, false, false, false, false, false] rfl rfl (any_of HT_.out (by kernel_rfl)) (fun _ _ _ h => h) (Or.inl ⟨by rfl, ?_⟩) ?_ ?_
    rotate_left
    ·intro w'
     go_simp
     with_reducible rfl
    rotate_left
    ·simp only [Act.put, List.setIfInBounds_toArray, List.set_cons_zero, List.set_cons_succ, i64_w, i32_w]
     rfl
    refine pure_ (i := 38) (N := some 92) (v := ?_) (a' := ?_) #[true, true, true, true, true, true, true, true, true, true, true, true, true, true, true, true, true, true, true, true, true, true, true, true, true, true, true, true, true, true, true, true, true, true, true, true, true, true, true, false, false, false, false, false, false, false, false, false, false, false, false, false, false, false, false] rfl rfl (any_of HT_.out (by kernel_rfl)) (fun _ _ _ h => h) (Or.inl ⟨by rfl, ?_⟩) ?_ ?_
    rotate_left
    ·intro w'
     go_simp
     with_reducible rfl
    rotate_left
    ·simp only [Act.put, List.setIfInBounds_toArray, List.set_cons_zero, List.set_cons_succ, i64_w, i32_w]
     rfl
    refine pure_ (i := 39) (N := some 93) (v := ?_) (a' := ?_) #[true, true, true, true, true, true, true, true, true, true, true, true, true, true, true, true, true, true, true, true, true, true, true, true, true, true, true, true, true, true, true, true, true, true, true, true, true, true, true, true, false, false, false, false, false, false, false, false, false, false, false, false, false, false, false] rfl rfl (any_of HT_.out (by kernel_rfl)) (fun _ _ _ h => h) (Or.inl ⟨by rfl, ?_⟩) ?_ ?_
    rotate_left
    ·intro w'
     go_simp
     with_reducible rfl
    rotate_left
    ·simp only [Act.put, List.setIfInBounds_toArray, List.set_cons_zero, List.set_cons_succ, i64_w, i32_w]
     rfl
    refine take_ (i := 40) (N := some 94) (v := ?_) (a' := ?_) #[true, true, true, true, true, true, true, true, true, true, true, true, true, true, true, true, true, true, true, true, true, true, true, true, true, true, true, true, true, true, true, true, true, true, true, true, true, true, true, true, true, false, false, false, false, false, false, false, false, false, false, false, false, false, false] rfl rfl (take_ofW HT_.out HW_.out (by kernel_rfl)) (fun _ _ _ h => h) (Or.inl ⟨by rfl, ?_⟩) hHeld ?_ ?_
    rotate_left
    ·rintro w' ⟨s0, s1, s2, s3, s4, s5, s6, s7, s8, s9, s10, s11, s12, s13, s14, s15, s16, s17⟩
     go_simp
     with_reducible rfl
    rotate_left
    ·simp only [Act.put, List.setIfInBounds_toArray, List.set_cons_zero, List.set_cons_succ, i64_w, i32_w]
     rfl
    refine one_ (i := 41) (N := some 95) #[true, true, true, true, true, true, true, true, true, true, true, true, true, true, true, true, true, true, true, true, true, true, true, true, true, true, true, true, true, true, true, true, true, true, true, true, true, true, true, true, true, true, false, false, false, false, false, false, false, false, false, false, false, false, false] rfl rfl (one_of HT_.out (by kernel_rfl)) (by decide) (fun K hK => ?_)
    refine goes_ Try.func21 (by kernel_rfl) rfl #[] (by rfl) rfl rfl ka ?_
    with_reducible refine (skifflaw18_sent.calls kj6  t497 t498 t499 t500 t501 t502 _ A61.out).mono ?_
    rintro e w69 ⟨v503, rfl, ho0, hb⟩
    refine ⟨_, rfl, ?_⟩
    have n0_ := Aside0.mk (Kd.Q_elder' (kQ HO_442005.out) (Kd.R_base ho0) hb)
    have n1_ := Aside0.mk (Kd.Q_elder' (kQ HO_453005.out) (Kd.R_base ho0) hb)
    have n2_ := Aside0.mk (Kd.Q_elder' (kQ HO_464005.out) (Kd.R_base ho0) hb)
    have n3_ := Aside0.mk (Kd.Q_elder' (kQ HO_483005.out) (Kd.R_base ho0) hb)
    have n4_ := Aside0.mk (Kd.Q_elder' (kQ HO_494005.out) (Kd.R_base ho0) hb)
    have n5_ := Aside0.mk (Kd.R_lower (Kd.R_new' (Kd.R_new' (Kd.R_new' (Kd.R_new' (Kd.R_new' ho0 (Kd.Q_lt (kQ HO_442005.out))) (Kd.Q_lt (kQ HO_453005.out))) (Kd.Q_lt (kQ HO_464005.out))) (Kd.Q_lt (kQ HO_483005.out))) (Kd.Q_lt (kQ HO_494005.out))) (below_size (kb5 HB.out GE441.out GE452.out GE463.out GE482.out GE493.out)))
    have n6_ := Aside0.mk (kL BK441.out hb)
    have n7_ := Aside0.mk (kL BK452.out hb)
    have n8_ := Aside0.mk (kL BK463.out hb)
    have n9_ := Aside0.mk (kL BK482.out hb)
    have n10_ := Aside0.mk (kL BK493.out hb)
    have n11_ := Aside0.mk (below_step (kb5 HB.out GE441.out GE452.out GE463.out GE482.out GE493.out) hb)
    clear HO_442005 HO_453005 HO_464005 HO_483005 HO_494005 BK441 BK452 BK463 BK482 BK493 HB; have HO_442005 := n0_; have HO_453005 := n1_; have HO_464005 := n2_; have HO_483005 := n3_; have HO_494005 := n4_; have HO504 := n5_; have BK441 := n6_; have BK452 := n7_; have BK463 := n8_; have BK482 := n9_; have BK493 := n10_; have HB := n11_; clear n0_ n1_ n2_ n3_ n4_ n5_ n6_ n7_ n8_ n9_ n10_ n11_
    (try clear hb)
    (try clear hb2)
    (try clear hk)
    (try clear hi)
    (try clear ho0)
    obtain ⟨Ao70, co70, eo70⟩ := Kd.R_slice HO504.out
    (first | subst eo70 | (injection eo70 with f1_ f2_ f3_; have f4_ := f1_.symm; have f5_ := f3_.symm; clear f1_ f2_ f3_; subst f4_; subst f5_))
    refine hK.out _ _ ⟨(blk_cell BK452.out 0).trans rfl, (blk_cell BK452.out 1).trans rfl, (blk_cell BK452.out 2).trans rfl, (blk_cell BK452.out 3).trans rfl, (blk_cell BK452.out 4).trans rfl, (blk_cell BK452.out 5).trans rfl, (blk_cell BK463.out 0).trans rfl, (blk_cell BK463.out 1).trans rfl, (blk_cell BK463.out 2).trans rfl, (blk_cell BK463.out 3).trans rfl, (blk_cell BK463.out 4).trans rfl, (blk_cell BK463.out 5).trans rfl, (blk_cell BK482.out 0).trans rfl, (blk_cell BK482.out 1).trans rfl, (blk_cell BK482.out 2).trans rfl, (blk_cell BK482.out 3).trans rfl, (blk_cell BK482.out 4).trans rfl, (blk_cell BK482.out 5).trans rfl⟩ (fun hHeld => ?_)
    clear hK K
    refine norm_ (a' := ?_) ?_ ?_
    rotate_left
    ·show Act.put _ (some 95) _ = _
     simp only [Act.put, List.setIfInBounds_toArray, List.set_cons_zero, List.set_cons_succ, i64_w, i32_w]
     rfl
    refine one_ (i := 42) (N := some 96) #[true, true, true, true, true, true, true, true, true, true, true, true, true, true, true, true, true, true, true, true, true, true, true, true, true, true, true, true, true, true, true, true, true, true, true, true, true, true, true, true, true, true, true, false, false, false, false, false, false, false, false, false, false, false, false] rfl rfl (one_of HT_.out (by kernel_rfl)) (by decide) (fun K hK => ?_)
    refine goes_ Try.func14 (by kernel_rfl) rfl #[.agg #[.int .i64 t473, .int .i64 t474, .int .i64 t475, .int .i64 t476, .int .i64 t477, .slice Ao34 t478.length co34], .agg #[.int .i64 t497, .int .i64 t498, .int .i64 t499, .int .i64 t500, .int .i64 t501, .slice Ao70 t502.length co70]] (by rfl) rfl rfl ka ?_
    with_reducible refine (skifflaw0_SameDevice.calls kj6 t473 t474 t475 t476 t477 _ _ t478 t497 t498 t499 t500 t501 _ _ t502 true _ ?side1 ?side2 ?side3 ?side4 A62.out).mono ?_
    (case side1 => repeat (first | exact (Kd.Q_reads' HO_483005.out).2.2 | (with_reducible refine Kd.C_alloc ?_ _) | (with_reducible refine Kd.C_drewN ?_ _) | (with_reducible refine Kd.C_drew ?_)))
    (case side2 => exact (Kd.Q_reads' HO_483005.out).2.1)
    (case side3 => repeat (first | exact (Kd.R_reads' HO504.out).2.2 | (with_reducible refine Kd.C_alloc ?_ _) | (with_reducible refine Kd.C_drewN ?_ _) | (with_reducible refine Kd.C_drew ?_)))
    (case side4 => exact (Kd.R_reads' HO504.out).2.1)
    rintro e w71 ⟨rfl, hb⟩
    refine ⟨_, rfl, ?_⟩
    have n0_ := Aside0.mk (Kd.Q_below (kQ HO_442005.out) hb)
    have n1_ := Aside0.mk (Kd.Q_below (kQ HO_453005.out) hb)
    have n2_ := Aside0.mk (Kd.Q_below (kQ HO_464005.out) hb)
    have n3_ := Aside0.mk (Kd.Q_below (kQ HO_483005.out) hb)
    have n4_ := Aside0.mk (Kd.Q_below (kQ HO_494005.out) hb)
    have n5_ := Aside0.mk (Kd.R_below (kR HO504.out) hb)
    have n6_ := Aside0.mk (kL BK441.out hb)
    have n7_ := Aside0.mk (kL BK452.out hb)
    have n8_ := Aside0.mk (kL BK463.out hb)
    have n9_ := Aside0.mk (kL BK482.out hb)
    have n10_ := Aside0.mk (kL BK493.out hb)
    have n11_ := Aside0.mk (below_step (kb5 HB.out GE441.out GE452.out GE463.out GE482.out GE493.out) hb)
    clear HO_442005 HO_453005 HO_464005 HO_483005 HO_494005 HO504 BK441 BK452 BK463 BK482 BK493 HB; have HO_442005 := n0_; have HO_453005 := n1_; have HO_464005 := n2_; have HO_483005 := n3_; have HO_494005 := n4_; have HO504 := n5_; have BK441 := n6_; have BK452 := n7_; have BK463 := n8_; have BK482 := n9_; have BK493 := n10_; have HB := n11_; clear n0_ n1_ n2_ n3_ n4_ n5_ n6_ n7_ n8_ n9_ n10_ n11_
    (try clear hb)
    (try clear hb2)
    (try clear hk)
    (try clear hi)
    refine hK.out _ _ ⟨(blk_cell BK452.out 0).trans rfl, (blk_cell BK452.out 1).trans rfl, (blk_cell BK452.out 2).trans rfl, (blk_cell BK452.out 3).trans rfl, (blk_cell BK452.out 4).trans rfl, (blk_cell BK452.out 5).trans rfl, (blk_cell BK463.out 0).trans rfl, (blk_cell BK463.out 1).trans rfl, (blk_cell BK463.out 2).trans rfl, (blk_cell BK463.out 3).trans rfl, (blk_cell BK463.out 4).trans rfl, (blk_cell BK463.out 5).trans rfl, (blk_cell BK482.out 0).trans rfl, (blk_cell BK482.out 1).trans rfl, (blk_cell BK482.out 2).trans rfl, (blk_cell BK482.out 3).trans rfl, (blk_cell BK482.out 4).trans rfl, (blk_cell BK482.out 5).trans rfl⟩ (fun hHeld => ?_)
    clear hK K
    refine norm_ (a' := ?_) ?_ ?_
    rotate_left
    ·show Act.put _ (some 96) _ = _
     simp only [Act.put, List.setIfInBounds_toArray, List.set_cons_zero, List.set_cons_succ, i64_w, i32_w]
     rfl
    refine pure_ (i := 43) (N := some 97) (v := ?_) (a' := ?_) #[true, true, true, true, true, true, true, true, true, true, true, true, true, true, true, true, true, true, true, true, true, true, true, true, true, true, true, true, true, true, true, true, true, true, true, true, true, true, true, true, true, true, true, true, false, false, false, false, false, false, false, false, false, false, false] rfl rfl (any_of HT_.out (by kernel_rfl)) (fun _ _ _ h => h) (Or.inl ⟨by rfl, ?_⟩) ?_ ?_
    rotate_left
    ·intro w'
     go_simp
     with_reducible rfl
    rotate_left
    ·simp only [Act.put, List.setIfInBounds_toArray, List.set_cons_zero, List.set_cons_succ, i64_w, i32_w]
     rfl
    refine pure_ (i := 44) (N := some 98) (v := ?_) (a' := ?_) #[true, true, true, true, true, true, true, true, true, true, true, true, true, true, true, true, true, true, true, true, true, true, true, true, true, true, true, true, true, true, true, true, true, true, true, true, true, true, true, true, true, true, true, true, true, false, false, false, false, false, false, false, false, false, false] rfl rfl (any_of HT_.out (by kernel_rfl)) (fun _ _ _ h => h) (Or.inl ⟨by rfl, ?_⟩) ?_ ?_
    rotate_left
    ·intro w'
     go_simp
     with_reducible rfl
    rotate_left
    ·simp only [Act.put, List.setIfInBounds_toArray, List.set_cons_zero, List.set_cons_succ, i64_w, i32_w]
     rfl
    refine pure_ (i := 45) (N := some 99) (v := ?_) (a' := ?_) #[true, true, true, true, true, true, true, true, true, true, true, true, true, true, true, true, true, true, true, true, true, true, true, true, true, true, true, true, true, true, true, true, true, true, true, true, true, true, true, true, true, true, true, true, true, true, false, false, false, false, false, false, false, false, false] rfl rfl (any_of HT_.out (by kernel_rfl)) (fun _ _ _ h => h) (Or.inl ⟨by rfl, ?_⟩) ?_ ?_
    rotate_left
    ·intro w'
     go_simp
     with_reducible rfl
    rotate_left
    ·simp only [Act.put, List.setIfInBounds_toArray, List.set_cons_zero, List.set_cons_succ, i64_w, i32_w]
     rfl
    refine one_ (i := 46) (N := some 100) #[true, true, true, true, true, true, true, true, true, true, true, true, true, true, true, true, true, true, true, true, true, true, true, true, true, true, true, true, true, true, true, true, true, true, true, true, true, true, true, true, true, true, true, true, true, true, true, false, false, false, false, false, false, false, false] rfl rfl (one_of HT_.out (by kernel_rfl)) (by decide) (fun K hK => ?_)
    refine goes_ Try.func15 (by kernel_rfl) rfl #[.int .i64 t481] (by rfl) rfl rfl ka ?_
    with_reducible refine (skifflaw0_Num.calls t481 t506 _ A64.out).mono ?_
    rintro e w' ⟨rfl, ⟨nd, rfl⟩⟩
    refine ⟨_, rfl, ?_⟩
    refine hK.out _ _ ⟨(blk_cell BK452.out 0).trans rfl, (blk_cell BK452.out 1).trans rfl, (blk_cell BK452.out 2).trans rfl, (blk_cell BK452.out 3).trans rfl, (blk_cell BK452.out 4).trans rfl, (blk_cell BK452.out 5).trans rfl, (blk_cell BK463.out 0).trans rfl, (blk_cell BK463.out 1).trans rfl, (blk_cell BK463.out 2).trans rfl, (blk_cell BK463.out 3).trans rfl, (blk_cell BK463.out 4).trans rfl, (blk_cell BK463.out 5).trans rfl, (blk_cell BK482.out 0).trans rfl, (blk_cell BK482.out 1).trans rfl, (blk_cell BK482.out 2).trans rfl, (blk_cell BK482.out 3).trans rfl, (blk_cell BK482.out 4).trans rfl, (blk_cell BK482.out 5).trans rfl⟩ (fun hHeld => ?_)
    clear hK K
    refine norm_ (a' := ?_) ?_ ?_
    rotate_left
    ·show Act.put _ (some 100) _ = _
     simp only [Act.put, List.setIfInBounds_toArray, List.set_cons_zero, List.set_cons_succ, i64_w, i32_w]
     rfl
    refine pure_ (i := 47) (N := some 101) (v := ?_) (a' := ?_) #[true, true, true, true, true, true, true, true, true, true, true, true, true, true, true, true, true, true, true, true, true, true, true, true, true, true, true, true, true, true, true, true, true, true, true, true, true, true, true, true, true, true, true, true, true, true, true, true, false, false, false, false, false, false, false] rfl rfl (any_of HT_.out (by kernel_rfl)) (fun _ _ _ h => h) (Or.inl ⟨by rfl, ?_⟩) ?_ ?_
    rotate_left
    ·intro w'
     go_simp
     with_reducible rfl
    rotate_left
    ·simp only [Act.put, List.setIfInBounds_toArray, List.set_cons_zero, List.set_cons_succ, i64_w, i32_w]
     rfl
    refine pure_ (i := 48) (N := some 102) (v := ?_) (a' := ?_) #[true, true, true, true, true, true, true, true, true, true, true, true, true, true, true, true, true, true, true, true, true, true, true, true, true, true, true, true, true, true, true, true, true, true, true, true, true, true, true, true, true, true, true, true, true, true, true, true, true, false, false, false, false, false, false] rfl rfl (any_of HT_.out (by kernel_rfl)) (fun _ _ _ h => h) (Or.inl ⟨by rfl, ?_⟩) ?_ ?_
    rotate_left
    ·intro w'
     go_simp
     with_reducible rfl
    rotate_left
    ·simp only [Act.put, List.setIfInBounds_toArray, List.set_cons_zero, List.set_cons_succ, i64_w, i32_w]
     rfl
    refine pure_ (i := 49) (N := some 103) (v := ?_) (a' := ?_) #[true, true, true, true, true, true, true, true, true, true, true, true, true, true, true, true, true, true, true, true, true, true, true, true, true, true, true, true, true, true, true, true, true, true, true, true, true, true, true, true, true, true, true, true, true, true, true, true, true, true, false, false, false, false, false] rfl rfl (any_of HT_.out (by kernel_rfl)) (fun _ _ _ h => h) (Or.inl ⟨by rfl, ?_⟩) ?_ ?_
    rotate_left
    ·intro w'
     go_simp
     with_reducible rfl
    rotate_left
    ·simp only [Act.put, List.setIfInBounds_toArray, List.set_cons_zero, List.set_cons_succ, i64_w, i32_w]
     rfl
    refine pure_ (i := 50) (N := some 104) (v := ?_) (a' := ?_) #[true, true, true, true, true, true, true, true, true, true, true, true, true, true, true, true, true, true, true, true, true, true, true, true, true, true, true, true, true, true, true, true, true, true, true, true, true, true, true, true, true, true, true, true, true, true, true, true, true, true, true, false, false, false, false] rfl rfl (any_of HT_.out (by kernel_rfl)) (fun _ _ _ h => h) (Or.inl ⟨by rfl, ?_⟩) ?_ ?_
    rotate_left
    ·intro w'
     go_simp
     with_reducible rfl
    rotate_left
    ·simp only [Act.put, List.setIfInBounds_toArray, List.set_cons_zero, List.set_cons_succ, i64_w, i32_w]
     rfl
    refine one_ (i := 51) (N := some 105) #[true, true, true, true, true, true, true, true, true, true, true, true, true, true, true, true, true, true, true, true, true, true, true, true, true, true, true, true, true, true, true, true, true, true, true, true, true, true, true, true, true, true, true, true, true, true, true, true, true, true, true, true, false, false, false] rfl rfl (one_of HT_.out (by kernel_rfl)) (by decide) (fun K hK => ?_)
    refine goes_ Try.func15 (by kernel_rfl) rfl #[.int .i64 t492] (by rfl) rfl rfl ka ?_
    with_reducible refine (skifflaw0_Num.calls t492 t507 _ A66.out).mono ?_
    rintro e w' ⟨rfl, ⟨nd, rfl⟩⟩
    refine ⟨_, rfl, ?_⟩
    refine hK.out _ _ ⟨(blk_cell BK452.out 0).trans rfl, (blk_cell BK452.out 1).trans rfl, (blk_cell BK452.out 2).trans rfl, (blk_cell BK452.out 3).trans rfl, (blk_cell BK452.out 4).trans rfl, (blk_cell BK452.out 5).trans rfl, (blk_cell BK463.out 0).trans rfl, (blk_cell BK463.out 1).trans rfl, (blk_cell BK463.out 2).trans rfl, (blk_cell BK463.out 3).trans rfl, (blk_cell BK463.out 4).trans rfl, (blk_cell BK463.out 5).trans rfl, (blk_cell BK482.out 0).trans rfl, (blk_cell BK482.out 1).trans rfl, (blk_cell BK482.out 2).trans rfl, (blk_cell BK482.out 3).trans rfl, (blk_cell BK482.out 4).trans rfl, (blk_cell BK482.out 5).trans rfl⟩ (fun hHeld => ?_)
    clear hK K
    refine norm_ (a' := ?_) ?_ ?_
    rotate_left
    ·show Act.put _ (some 105) _ = _
     simp only [Act.put, List.setIfInBounds_toArray, List.set_cons_zero, List.set_cons_succ, i64_w, i32_w]
     rfl
    refine pure_ (i := 52) (N := some 106) (v := ?_) (a' := ?_) #[true, true, true, true, true, true, true, true, true, true, true, true, true, true, true, true, true, true, true, true, true, true, true, true, true, true, true, true, true, true, true, true, true, true, true, true, true, true, true, true, true, true, true, true, true, true, true, true, true, true, true, true, true, false, false] rfl rfl (any_of HT_.out (by kernel_rfl)) (fun _ _ _ h => h) (Or.inl ⟨by rfl, ?_⟩) ?_ ?_
    rotate_left
    ·intro w'
     go_simp
     with_reducible rfl
    rotate_left
    ·simp only [Act.put, List.setIfInBounds_toArray, List.set_cons_zero, List.set_cons_succ, i64_w, i32_w]
     rfl
    refine pure_ (i := 53) (N := some 107) (v := ?_) (a' := ?_) #[true, true, true, true, true, true, true, true, true, true, true, true, true, true, true, true, true, true, true, true, true, true, true, true, true, true, true, true, true, true, true, true, true, true, true, true, true, true, true, true, true, true, true, true, true, true, true, true, true, true, true, true, true, true, false] rfl rfl (any_of HT_.out (by kernel_rfl)) (fun _ _ _ h => h) (Or.inl ⟨by rfl, ?_⟩) ?_ ?_
    rotate_left
    ·intro w'
     go_simp
     with_reducible rfl
    rotate_left
    ·simp only [Act.put, List.setIfInBounds_toArray, List.set_cons_zero, List.set_cons_succ, i64_w, i32_w]
     rfl
    refine pure_ (i := 54) (N := some 0) (v := ?_) (a' := ?_) #[true, true, true, true, true, true, true, true, true, true, true, true, true, true, true, true, true, true, true, true, true, true, true, true, true, true, true, true, true, true, true, true, true, true, true, true, true, true, true, true, true, true, true, true, true, true, true, true, true, true, true, true, true, true, true] rfl rfl (any_of HT_.out (by kernel_rfl)) (fun _ _ _ h => h) (Or.inl ⟨by rfl, ?_⟩) ?_ ?_
    rotate_left
    ·intro w'
     go_simp
     with_reducible rfl
    rotate_left
    ·simp only [Act.put, List.setIfInBounds_toArray, List.set_cons_zero, List.set_cons_succ, i64_w, i32_w]
     rfl
    refine done_ (done_of HT_.out (by kernel_rfl)) ?_
    try go_wp2
    go_ret
    exact ⟨by first | rfl | (simp [errW_none, errW_some] <;> rfl) | (simp [*, errW_none, errW_some] <;> rfl), kb5 HB.out GE441.out GE452.out GE463.out GE482.out GE493.out⟩

end Go.Proofs.Ytgoeooghoojdgaa.P
