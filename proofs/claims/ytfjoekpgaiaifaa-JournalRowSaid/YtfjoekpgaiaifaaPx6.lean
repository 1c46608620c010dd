-- written by wip/prt.py of this repo, by the kit's print, over contracts that are proved here by hand
import Derived.Test.YtfjoekpgaiaifaaPx0
import Derived.Test.YtfjoekpgaiaifaaPx2
import Derived.Test.YtfjoekpgaiaifaaPx3
namespace Go.Proofs.Ytfjoekpgaiaifaa.P
open Go.RowKit Go.Proofs.YtfjoekpgaiaifaaW.PrintWords Go.Proofs.YtfjoekpgaiaifaaW.PrintLast Go.Proofs.YtfjoekpgaiaifaaW.PrintMore
attribute [local go_sem] max2_int min2_int max_two min_two max_three min_three max_four min_four   -- for this text's walks alone
set_option linter.unusedVariables false
set_option linter.unusedSimpArgs false

/-! ### skifflaw5_JournalRow: function 5 -/
def skifflaw5_JournalRow.l0 : Nat → Int → Int → ByteArray → List (S44) → Int → Int → Option (Bool)
 | 0, _, _, _, _, _, _ => none
 | k + 1, x0, x1, x5, x6, x7, x8 => if x8 < 8 then ((skiffref1_PutEntry.f (wrap64 (1 + x8)) (Go.bits .and .i64 x8 1) (wrap64 (5 + x8)) (wrap64 (100 + x8))).bind fun bt298 => (if 0 ≤ x8 then (if (Go.bits .and .i64 (shr .i64 x0 x8) 1) = 1 then (if x6.length < 3518437208883 then (if x5.size + bt298.1.size ≤ 9223372036854775807 then (skifflaw5_JournalRow.l0 k x0 x1 (x5 ++ bt298.1) (x6 ++ [(⟨wrap64 (24 * x8), (⟨wrap64 (1 + x8), Go.bits .and .i64 x8 1, wrap64 (5 + x8), wrap64 (100 + x8)⟩ : S38)⟩ : S44)]) x7 (wrap64 (x8 + 1))) else (none)) else (none)) else (if (Go.bits .and .i64 (shr .i64 x1 x8) 1) = 1 then (if 1 ≤ (bt298.1.size : Int) then (if 1 + (bt298.1.extract 1 bt298.1.size).size ≤ 9223372036854775807 then (if (Go.bits .and .i64 x8 1) = 0 then (if 0 ≤ 23 then (if 23 ≤ (((⟨#[0]⟩ : ByteArray) ++ (bt298.1.extract 1 bt298.1.size)).size : Int) then (if (((⟨#[0]⟩ : ByteArray) ++ (bt298.1.extract 1 bt298.1.size)).extract 0 23).size + 1 ≤ 9223372036854775807 then (if x5.size + ((((⟨#[0]⟩ : ByteArray) ++ (bt298.1.extract 1 bt298.1.size)).extract 0 23) ++ (⟨#[0]⟩ : ByteArray)).size ≤ 9223372036854775807 then (skifflaw5_JournalRow.l0 k x0 x1 (x5 ++ ((((⟨#[0]⟩ : ByteArray) ++ (bt298.1.extract 1 bt298.1.size)).extract 0 23) ++ (⟨#[0]⟩ : ByteArray))) x6 x7 (wrap64 (x8 + 1))) else (none)) else (none)) else (none)) else (none)) else (if x5.size + ((⟨#[0]⟩ : ByteArray) ++ (bt298.1.extract 1 bt298.1.size)).size ≤ 9223372036854775807 then (skifflaw5_JournalRow.l0 k x0 x1 (x5 ++ ((⟨#[0]⟩ : ByteArray) ++ (bt298.1.extract 1 bt298.1.size))) x6 x7 (wrap64 (x8 + 1))) else (none))) else (none)) else (none)) else ((skiffref1_Blank.f).bind fun t303 => (if 0 ≤ 24 then (if 24 ≤ (t303.size : Int) then (if x7 < 0 then (if x8 < 4 then (if x5.size + (t303.extract 0 24).size ≤ 9223372036854775807 then (skifflaw5_JournalRow.l0 k x0 x1 (x5 ++ (t303.extract 0 24)) x6 (wrap64 (24 * x8)) (wrap64 (x8 + 1))) else (none)) else (if x5.size + (t303.extract 0 24).size ≤ 9223372036854775807 then (skifflaw5_JournalRow.l0 k x0 x1 (x5 ++ (t303.extract 0 24)) x6 x7 (wrap64 (x8 + 1))) else (none))) else (if x5.size + (t303.extract 0 24).size ≤ 9223372036854775807 then (skifflaw5_JournalRow.l0 k x0 x1 (x5 ++ (t303.extract 0 24)) x6 x7 (wrap64 (x8 + 1))) else (none))) else (none)) else (none))))) else (none))) else ((skiffref1_Blank.f).bind fun t304 => (if 192 ≤ (t304.size : Int) then (if x5.size + (t304.extract 192 t304.size).size ≤ 9223372036854775807 then ((journal_Scan.f k (x5 ++ (t304.extract 192 t304.size))).bind fun bt305 => ((journal_Free.f k (x5 ++ (t304.extract 192 t304.size)) 0).bind fun bt309 => ((skifflaw0_Num.f bt305.2).bind fun t312 => (if t312 = 0 then ((skifflaw0_SamePlaces.f k bt305.1 x6).bind fun t313 => (if t313 = true then ((skifflaw0_Num.f bt309.2.2).bind fun t314 => (if t314 = 0 then (if (bt309.2.1 == (decide (x7 ≥ 0))) = true then (if bt309.2.1 = true then (some (bt309.1 == x7)) else (some true)) else (none)) else (none))) else (none))) else (none))))) else (none)) else (none)))
def skifflaw5_JournalRow.f (k : Nat) (a0 : Int) (a1 : Int) : Option (Bool) := (skifflaw5_awake.f k).bind fun t296 => (if t296 = true then (skifflaw5_JournalRow.l0 k a0 a1 (⟨#[]⟩ : ByteArray) ([] : List (S44)) (-1) 0) else (none))
theorem putPair_24 {r : Skiff.Rec} {a : ByteArray} {b : Int} (h : some (Skiff.putPair r) = some (a, b)) (h1 : 1 ≤ (a.size : Int)) : a.size = 24 := by
 unfold Skiff.putPair at h
 split at h
 · simp only [Option.some.injEq, Prod.mk.injEq] at h
   rw [← h.1, Skiff.mk_size, Skiff.put_length]
 · simp only [Option.some.injEq, Prod.mk.injEq] at h
   rw [← h.1] at h1
   exact absurd h1 (by decide)
theorem skifflaw5_JournalRow.mono_l : ∀ k, (∀ y0 y1 y2 y3 y4 y5, LeO (skifflaw5_JournalRow.l0 k y0 y1 y2 y3 y4 y5) (skifflaw5_JournalRow.l0 (k + 1) y0 y1 y2 y3 y4 y5))
 | 0 => fun _ _ _ _ _ _ r h => by simp [skifflaw5_JournalRow.l0] at h
 | k + 1 => by
  have ih0 := skifflaw5_JournalRow.mono_l k
  ·intro y0 y1 y2 y3 y4 y5
   unfold skifflaw5_JournalRow.l0
   repeat' first
   | (with_reducible exact ih0 _ _ _ _ _ _)
   | (with_reducible exact journal_Free.mono _ _ _)
   | (with_reducible exact journal_Scan.mono _ _)
   | (with_reducible exact skifflaw0_SamePlaces.mono _ _ _)
   | (with_reducible exact skifflaw5_awake.mono _)
   | (with_reducible exact LeO.refl _)
   | (with_reducible exact LeO.none _)
   | (with_reducible refine LeO.ite ?_ ?_)
   | (with_reducible refine LeO.bind ?_ (fun _ => ?_))
   | exact ih0 _ _ _ _ _ _
   | exact journal_Free.mono _ _ _
   | exact journal_Scan.mono _ _
   | exact skifflaw0_SamePlaces.mono _ _ _
   | exact skifflaw5_awake.mono _
   | exact LeO.none _
   | refine LeO.ite ?_ ?_
   | refine LeO.bind ?_ (fun _ => ?_)
theorem skifflaw5_JournalRow.mono : ∀ a0 a1 k, LeO (skifflaw5_JournalRow.f k a0 a1) (skifflaw5_JournalRow.f (k + 1) a0 a1) := by
 intro a0 a1 k
 have ih0 := skifflaw5_JournalRow.mono_l k
 unfold skifflaw5_JournalRow.f
 repeat' first
   | (with_reducible exact ih0 _ _ _ _ _ _)
   | (with_reducible exact journal_Free.mono _ _ _)
   | (with_reducible exact journal_Scan.mono _ _)
   | (with_reducible exact skifflaw0_SamePlaces.mono _ _ _)
   | (with_reducible exact skifflaw5_awake.mono _)
   | (with_reducible exact LeO.refl _)
   | (with_reducible exact LeO.none _)
   | (with_reducible refine LeO.ite ?_ ?_)
   | (with_reducible refine LeO.bind ?_ (fun _ => ?_))
   | exact ih0 _ _ _ _ _ _
   | exact journal_Free.mono _ _ _
   | exact journal_Scan.mono _ _
   | exact skifflaw0_SamePlaces.mono _ _ _
   | exact skifflaw5_awake.mono _
   | exact LeO.none _
   | refine LeO.ite ?_ ?_
   | refine LeO.bind ?_ (fun _ => ?_)
set_option maxHeartbeats 8000000 in
set_option maxRecDepth 100000 in
theorem skifflaw5_JournalRow.calls (k : Nat) (a0 : Int) (a1 : Int) (r : Bool) (w : World) (h : skifflaw5_JournalRow.f k a0 a1 = some r) :
  Calls Try.prog 5 #[.int .i64 a0, .int .i64 a1] w fun e w' => e = .returned (.bool r) ∧ Below w.heap.size w w' := by
 have hu38 := Try.underlying38
 have hu44 := Try.underlying44
 have HB := Aside0.mk (Below.refl w.heap.size w)
 have H : ((skifflaw5_awake.f k).bind fun t296 => (if t296 = true then (skifflaw5_JournalRow.l0 k a0 a1 (⟨#[]⟩ : ByteArray) ([] : List (S44)) (-1) 0) else (none))) = some r := h
 clear h
 replace H := Option.bind_eq_some_iff.mp H
 obtain ⟨t296, A30, H⟩ := H
 replace H : (if t296 = true then (skifflaw5_JournalRow.l0 k a0 a1 (⟨#[]⟩ : ByteArray) ([] : List (S44)) (-1) 0) else (none)) = some r := H
 have A3 := Aside0.mk A30
 clear A30
 by_cases c4 : t296 = true
 ·subst c4
  have H1 : (skifflaw5_JournalRow.l0 k a0 a1 (⟨#[]⟩ : ByteArray) ([] : List (S44)) (-1) 0) = some r := by rw [if_pos rfl] at H; exact H
  clear H
  have H := H1
  clear H1
  have H' := Aside0.mk H
  clear H
  go_enter Try.func5, Try.ntmps5
  go_wp2_with (first | ((with_reducible refine gate_callee (f := 15) rfl ?_); refine goesL_ (some 17) rfl rfl Try.func15 (by kernel_rfl) rfl #[] rfl (by (try simp only [List.map_toArray, List.map_cons, List.map_nil]); first | done | rfl | (simp only [List.length_drop, List.length_take]; rfl)) ?_; (with_reducible refine (skifflaw5_awake.calls k  true _ A3.out).mono ?_); rintro e w5 ⟨rfl, hb⟩; refine ⟨_, rfl, ?_⟩; have n0_ := Aside0.mk (below_step (by repeat (first | (with_reducible first | exact HB.out | apply below_alloc | apply pw_below_drewN | apply below_drew1) | exact HB.out)) hb); clear HB; have HB := n0_; clear n0_; (try clear hb); (try clear hb2); (try clear hk); (try clear hi)))
  go_loopg [5, 6, 7, 8] k (fun kq v5 v6 v7 v8 w' => ∃ (x5_1 : ByteArray) (x6_1 : List (S44)) (x7_1 : Int) (x8_1 : Int), v5 = .string x5_1 ∧ v7 = .int .i64 x7_1 ∧ v8 = .int .i64 x8_1 ∧ Aside0 (skifflaw5_JournalRow.l0 kq a0 a1 x5_1 x6_1 x7_1 x8_1 = some r) ∧ Aside0 (kq ≤ k) ∧ Aside0 (Kd.R k44 44 w' w.heap.size (fun _ => True) v6 x6_1) ∧ Aside0 (Below w.heap.size w w'))
  case atStart => exact ⟨((⟨#[]⟩ : ByteArray)), (([] : List (S44))), ((-1)), (0), (by first | rfl | (simp; done) | (simp [*]; done)), (by first | rfl | (simp; done) | (simp [*]; done)), (by first | rfl | (simp; done) | (simp [*]; done)), H', ⟨Nat.le_refl _⟩, ⟨by first | exact Kd.R_nil _ _ _ _ _ | exact Kd.N_nil _ _ _ _ _ | exact Kd.V_nil _ _ _ _ _ | exact Kd.Q_nil _ _ _ _ _ | exact Kd.S_nil _ _ _ _ _⟩, ⟨by repeat (first | (with_reducible first | exact HB.out | apply below_alloc | apply pw_below_drewN | apply below_drew1) | exact HB.out)⟩⟩
  case round =>
   clear H'
   try clear c1
   try clear p2
   try clear c4
   try clear c5
   obtain ⟨x5_1, x6_1, x7_1, x8_1, rfl, rfl, rfl, HA, HK1, HO_6, HB⟩ := hrel
   cases gk with
   | zero => exact absurd HA.out (by simp [skifflaw5_JournalRow.l0])
   | succ k1 =>
    have H := HA.out
    clear HA
    simp only [skifflaw5_JournalRow.l0] at H
    by_cases c6 : x8_1 < 8
    ·rw [if_pos c6] at H
     have c6b0 : decide (x8_1 < 8) = true := decide_eq_true c6
     clear c6
     replace H := Option.bind_eq_some_iff.mp H
     obtain ⟨⟨t298, t299⟩, A70, H⟩ := H
     replace H : (if 0 ≤ x8_1 then (if (Go.bits .and .i64 (shr .i64 a0 x8_1) 1) = 1 then (if x6_1.length < 3518437208883 then (if x5_1.size + t298.size ≤ 9223372036854775807 then (skifflaw5_JournalRow.l0 k1 a0 a1 (x5_1 ++ t298) (x6_1 ++ [(⟨wrap64 (24 * x8_1), (⟨wrap64 (1 + x8_1), Go.bits .and .i64 x8_1 1, wrap64 (5 + x8_1), wrap64 (100 + x8_1)⟩ : S38)⟩ : S44)]) x7_1 (wrap64 (x8_1 + 1))) else (none)) else (none)) else (if (Go.bits .and .i64 (shr .i64 a1 x8_1) 1) = 1 then (if 1 ≤ (t298.size : Int) then (if 1 + (t298.extract 1 t298.size).size ≤ 9223372036854775807 then (if (Go.bits .and .i64 x8_1 1) = 0 then (if 0 ≤ 23 then (if 23 ≤ (((⟨#[0]⟩ : ByteArray) ++ (t298.extract 1 t298.size)).size : Int) then (if (((⟨#[0]⟩ : ByteArray) ++ (t298.extract 1 t298.size)).extract 0 23).size + 1 ≤ 9223372036854775807 then (if x5_1.size + ((((⟨#[0]⟩ : ByteArray) ++ (t298.extract 1 t298.size)).extract 0 23) ++ (⟨#[0]⟩ : ByteArray)).size ≤ 9223372036854775807 then (skifflaw5_JournalRow.l0 k1 a0 a1 (x5_1 ++ ((((⟨#[0]⟩ : ByteArray) ++ (t298.extract 1 t298.size)).extract 0 23) ++ (⟨#[0]⟩ : ByteArray))) x6_1 x7_1 (wrap64 (x8_1 + 1))) else (none)) else (none)) else (none)) else (none)) else (if x5_1.size + ((⟨#[0]⟩ : ByteArray) ++ (t298.extract 1 t298.size)).size ≤ 9223372036854775807 then (skifflaw5_JournalRow.l0 k1 a0 a1 (x5_1 ++ ((⟨#[0]⟩ : ByteArray) ++ (t298.extract 1 t298.size))) x6_1 x7_1 (wrap64 (x8_1 + 1))) else (none))) else (none)) else (none)) else ((skiffref1_Blank.f).bind fun t303 => (if 0 ≤ 24 then (if 24 ≤ (t303.size : Int) then (if x7_1 < 0 then (if x8_1 < 4 then (if x5_1.size + (t303.extract 0 24).size ≤ 9223372036854775807 then (skifflaw5_JournalRow.l0 k1 a0 a1 (x5_1 ++ (t303.extract 0 24)) x6_1 (wrap64 (24 * x8_1)) (wrap64 (x8_1 + 1))) else (none)) else (if x5_1.size + (t303.extract 0 24).size ≤ 9223372036854775807 then (skifflaw5_JournalRow.l0 k1 a0 a1 (x5_1 ++ (t303.extract 0 24)) x6_1 x7_1 (wrap64 (x8_1 + 1))) else (none))) else (if x5_1.size + (t303.extract 0 24).size ≤ 9223372036854775807 then (skifflaw5_JournalRow.l0 k1 a0 a1 (x5_1 ++ (t303.extract 0 24)) x6_1 x7_1 (wrap64 (x8_1 + 1))) else (none))) else (none)) else (none))))) else (none)) = some r := H
     have A7 := Aside0.mk A70
     clear A70
     by_cases c8 : 0 ≤ x8_1
     ·rw [if_pos c8] at H
      have c8b0 := eq_true c8
      have c8b1 : decide (0 ≤ x8_1) = true := decide_eq_true c8
      clear c8
      obtain ⟨ji9, hji9⟩ : ∃ j_ : Int, (shr .i64 a0 x8_1) = j_ := ⟨_, rfl⟩
      replace H : (if (Go.bits .and .i64 (ji9) 1) = 1 then (if x6_1.length < 3518437208883 then (if x5_1.size + t298.size ≤ 9223372036854775807 then (skifflaw5_JournalRow.l0 k1 a0 a1 (x5_1 ++ t298) (x6_1 ++ [(⟨wrap64 (24 * x8_1), (⟨wrap64 (1 + x8_1), Go.bits .and .i64 x8_1 1, wrap64 (5 + x8_1), wrap64 (100 + x8_1)⟩ : S38)⟩ : S44)]) x7_1 (wrap64 (x8_1 + 1))) else (none)) else (none)) else (if (Go.bits .and .i64 (shr .i64 a1 x8_1) 1) = 1 then (if 1 ≤ (t298.size : Int) then (if 1 + (t298.extract 1 t298.size).size ≤ 9223372036854775807 then (if (Go.bits .and .i64 x8_1 1) = 0 then (if 0 ≤ 23 then (if 23 ≤ (((⟨#[0]⟩ : ByteArray) ++ (t298.extract 1 t298.size)).size : Int) then (if (((⟨#[0]⟩ : ByteArray) ++ (t298.extract 1 t298.size)).extract 0 23).size + 1 ≤ 9223372036854775807 then (if x5_1.size + ((((⟨#[0]⟩ : ByteArray) ++ (t298.extract 1 t298.size)).extract 0 23) ++ (⟨#[0]⟩ : ByteArray)).size ≤ 9223372036854775807 then (skifflaw5_JournalRow.l0 k1 a0 a1 (x5_1 ++ ((((⟨#[0]⟩ : ByteArray) ++ (t298.extract 1 t298.size)).extract 0 23) ++ (⟨#[0]⟩ : ByteArray))) x6_1 x7_1 (wrap64 (x8_1 + 1))) else (none)) else (none)) else (none)) else (none)) else (if x5_1.size + ((⟨#[0]⟩ : ByteArray) ++ (t298.extract 1 t298.size)).size ≤ 9223372036854775807 then (skifflaw5_JournalRow.l0 k1 a0 a1 (x5_1 ++ ((⟨#[0]⟩ : ByteArray) ++ (t298.extract 1 t298.size))) x6_1 x7_1 (wrap64 (x8_1 + 1))) else (none))) else (none)) else (none)) else ((skiffref1_Blank.f).bind fun t303 => (if 0 ≤ 24 then (if 24 ≤ (t303.size : Int) then (if x7_1 < 0 then (if x8_1 < 4 then (if x5_1.size + (t303.extract 0 24).size ≤ 9223372036854775807 then (skifflaw5_JournalRow.l0 k1 a0 a1 (x5_1 ++ (t303.extract 0 24)) x6_1 (wrap64 (24 * x8_1)) (wrap64 (x8_1 + 1))) else (none)) else (if x5_1.size + (t303.extract 0 24).size ≤ 9223372036854775807 then (skifflaw5_JournalRow.l0 k1 a0 a1 (x5_1 ++ (t303.extract 0 24)) x6_1 x7_1 (wrap64 (x8_1 + 1))) else (none))) else (if x5_1.size + (t303.extract 0 24).size ≤ 9223372036854775807 then (skifflaw5_JournalRow.l0 k1 a0 a1 (x5_1 ++ (t303.extract 0 24)) x6_1 x7_1 (wrap64 (x8_1 + 1))) else (none))) else (none)) else (none))))) = some r := by first | (rw [hji9] at H; exact H) | (simp only [hji9] at H ⊢; exact H)
      (try rw [hji9] at A7)
      have hji9_ : (a0 / 2 ^ min x8_1.toNat 64) = ji9 := hji9
      have hji9z : x8_1 ≤ 64 → (a0 / 2 ^ x8_1.toNat) = ji9 := shr_small hji9
      by_cases c10 : (Go.bits .and .i64 (ji9) 1) = 1
      ·rw [if_pos c10] at H
       have c10b0 : ((Go.bits .and .i64 (ji9) 1) == 1) = true := beq_iff_eq.mpr c10
       have c10b1 : ((Go.bits .and .i64 (ji9) 1) != 1) = false := bne_eq_false_iff_eq.mpr c10
       clear c10
       by_cases c11 : x6_1.length < 3518437208883
       ·rw [if_pos c11] at H
        have LMc11 := Aside0.mk c11
        clear c11
        obtain ⟨y300, hy300⟩ : ∃ y_ : List (S44), y_ = (x6_1 ++ [(⟨wrap64 (24 * x8_1), (⟨wrap64 (1 + x8_1), Go.bits .and .i64 x8_1 1, wrap64 (5 + x8_1), wrap64 (100 + x8_1)⟩ : S38)⟩ : S44)]) := ⟨_, rfl⟩
        replace H : (if x5_1.size + t298.size ≤ 9223372036854775807 then (skifflaw5_JournalRow.l0 k1 a0 a1 (x5_1 ++ t298) y300 x7_1 (wrap64 (x8_1 + 1))) else (none)) = some r := by first | (rw [hy300]; with_reducible exact H) | (have H2_ := (Option.bind_some _ _).symm.trans H; rw [hy300]; with_reducible exact H2_) | (have H2_ := (Option.bind_some _ _).symm.trans H; with_reducible exact H2_) | with_reducible exact H | (rw [hy300]; exact H) | exact H
        have Ny300 := Aside0.mk hy300
        clear hy300
        by_cases c12 : x5_1.size + t298.size ≤ 9223372036854775807
        ·rw [if_pos c12] at H
         have c12b0 := eq_true c12
         have c12b1 : decide (x5_1.size + t298.size ≤ 9223372036854775807) = true := decide_eq_true c12
         try have c12b2 : (9223372036854775807 < x5_1.size + t298.size) = False := eq_false (Nat.not_lt.2 c12)
         have H' := Aside0.mk H
         clear H
         go_wp2_with (first | ((with_reducible refine gate_dst (N := 9) rfl ?_); refine box_event ?hg (N := 9) ?hd (cs := #[.int .i64 0, .int .i64 0, .int .i64 0, .int .i64 0]) (t := 38) ?hr ?_; (case hd => rfl); (case hg => rfl); (case hr => first | (go_simp; done) | (go_simp; rfl)); intro gb297 hg w13 hbox hb; have n0_ := Aside0.mk (Kd.R_below (by (with_reducible repeat (first | apply Kd.R_alloc | apply Kd.R_drewN | apply Kd.R_drew)); exact HO_6.out) hb); have n1_ := Aside0.mk (below_step (by repeat (first | (with_reducible first | exact HB.out | apply below_alloc | apply pw_below_drewN | apply below_drew1) | exact HB.out)) hb); have n2_ := Aside0.mk (hbox); have n3_ := Aside0.mk ((by rw [hg]; exact (below_size (by repeat (first | (with_reducible first | exact HB.out | apply below_alloc | apply pw_below_drewN | apply below_drew1) | exact HB.out))) : w.heap.size ≤ gb297)); have n4_ := Aside0.mk ((by rw [hg]; exact (below_size (by repeat (first | (with_reducible first | exact HB.out | apply below_alloc | apply pw_below_drewN | apply below_drew1) | exact HB.out))) : w.heap.size ≤ gb297)); clear HO_6; clear HB; have HO_6 := n0_; have HB := n1_; have BK297 := n2_; have GW297 := n3_; have GE297 := n4_; clear n0_ n1_ n2_ n3_ n4_; clear hb hbox hg; have hcz14_0 : w13.cell? ⟨gb297, 0, none⟩ = some (.int .i64 0) := (blk_cell BK297.out 0).trans rfl; have hcz14_1 : w13.cell? ⟨gb297, 1, none⟩ = some (.int .i64 0) := (blk_cell BK297.out 1).trans rfl; have hcz14_2 : w13.cell? ⟨gb297, 2, none⟩ = some (.int .i64 0) := (blk_cell BK297.out 2).trans rfl; have hcz14_3 : w13.cell? ⟨gb297, 3, none⟩ = some (.int .i64 0) := (blk_cell BK297.out 3).trans rfl; have hfz14_0 := blk_frozen BK297.out 0; have hfz14_1 := blk_frozen BK297.out 1; have hfz14_2 := blk_frozen BK297.out 2; have hfz14_3 := blk_frozen BK297.out 3) | ((with_reducible refine gate_callee (f := 16) rfl ?_); refine goesL_ (some 34) rfl rfl Try.func16 (by kernel_rfl) rfl #[.agg #[.int .i64 (wrap64 (1 + x8_1)), .int .i64 (Go.bits .and .i64 x8_1 1), .int .i64 (wrap64 (5 + x8_1)), .int .i64 (wrap64 (100 + x8_1))]] rfl (by (try simp only [List.map_toArray, List.map_cons, List.map_nil]); first | done | rfl | (simp only [List.length_drop, List.length_take]; rfl)) ?_; (with_reducible refine (skiffref1_PutEntry.calls (wrap64 (1 + x8_1)) (Go.bits .and .i64 x8_1 1) (wrap64 (5 + x8_1)) (wrap64 (100 + x8_1)) t298 t299 _ A7.out).mono ?_); rintro e w15 ⟨rfl, hb⟩; refine ⟨_, rfl, ?_⟩; have n0_ := Aside0.mk (Kd.R_below (by (with_reducible repeat (first | apply Kd.R_alloc | apply Kd.R_drewN | apply Kd.R_drew)); exact (Kd.R_mono (Kd.R_far (p := ⟨gb297, 3, none⟩) (Kd.R_far (p := ⟨gb297, 2, none⟩) (Kd.R_far (p := ⟨gb297, 1, none⟩) (Kd.R_far (p := ⟨gb297, 0, none⟩) (Kd.R_types HO_6.out BK297.out (by decide)) (fun _ hk => hk.2) (.int .i64 (wrap64 (1 + x8_1)))) (fun _ hk => hk.2) (.int .i64 (Go.bits .and .i64 x8_1 1))) (fun _ hk => hk.2) (.int .i64 (wrap64 (5 + x8_1)))) (fun _ hk => hk.2) (.int .i64 (wrap64 (100 + x8_1)))) (fun _ h_ => h_.1))) hb); have n1_ := Aside0.mk (blk_below (g := gb297) (o := .cells #[.int .i64 (wrap64 (1 + x8_1)), .int .i64 (Go.bits .and .i64 x8_1 1), .int .i64 (wrap64 (5 + x8_1)), .int .i64 (wrap64 (100 + x8_1))] 38 (0, 0)) (by (with_reducible repeat (first | refine blk_drewN ?_ _ | refine blk_drew ?_ | refine blk_alloc ?_ _)); refine blk_put (cs := #[.int .i64 (wrap64 (1 + x8_1)), .int .i64 (Go.bits .and .i64 x8_1 1), .int .i64 (wrap64 (5 + x8_1)), .int .i64 0]) ?_ 3 _ rfl; (with_reducible repeat (first | refine blk_drewN ?_ _ | refine blk_drew ?_ | refine blk_alloc ?_ _)); refine blk_put (cs := #[.int .i64 (wrap64 (1 + x8_1)), .int .i64 (Go.bits .and .i64 x8_1 1), .int .i64 0, .int .i64 0]) ?_ 2 _ rfl; (with_reducible repeat (first | refine blk_drewN ?_ _ | refine blk_drew ?_ | refine blk_alloc ?_ _)); refine blk_put (cs := #[.int .i64 (wrap64 (1 + x8_1)), .int .i64 0, .int .i64 0, .int .i64 0]) ?_ 1 _ rfl; (with_reducible repeat (first | refine blk_drewN ?_ _ | refine blk_drew ?_ | refine blk_alloc ?_ _)); refine blk_put (cs := #[.int .i64 0, .int .i64 0, .int .i64 0, .int .i64 0]) ?_ 0 _ rfl; (with_reducible repeat (first | refine blk_drewN ?_ _ | refine blk_drew ?_ | refine blk_alloc ?_ _)); exact BK297.out) hb); have n2_ := Aside0.mk (below_step (by repeat (first | (with_reducible first | exact HB.out | apply below_alloc | apply pw_below_drewN | apply below_drew1 | refine below_set ?_ GE297.out) | exact HB.out)) hb); clear HO_6; clear BK297; clear HB; have HO_6 := n0_; have BK297 := n1_; have HB := n2_; clear n0_ n1_ n2_; (try clear hb); (try clear hb2); (try clear hk); (try clear hi); have hcz16_0 : w15.cell? ⟨gb297, 0, none⟩ = some (.int .i64 (wrap64 (1 + x8_1))) := (blk_cell BK297.out 0).trans rfl; have hcz16_1 : w15.cell? ⟨gb297, 1, none⟩ = some (.int .i64 (Go.bits .and .i64 x8_1 1)) := (blk_cell BK297.out 1).trans rfl; have hcz16_2 : w15.cell? ⟨gb297, 2, none⟩ = some (.int .i64 (wrap64 (5 + x8_1))) := (blk_cell BK297.out 2).trans rfl; have hcz16_3 : w15.cell? ⟨gb297, 3, none⟩ = some (.int .i64 (wrap64 (100 + x8_1))) := (blk_cell BK297.out 3).trans rfl; have hfz16_0 := blk_frozen BK297.out 0; have hfz16_1 := blk_frozen BK297.out 1; have hfz16_2 := blk_frozen BK297.out 2; have hfz16_3 := blk_frozen BK297.out 3) | ((with_reducible refine gate_builtin (b := .append) (xs := #[.tmp 53, .tmp 58]) rfl ?_); at_builtin; refine Kd.R_append k44 (w0 := w) w.heap.size rfl (.tmp 53) (.tmp 58) 22 44 (.agg #[(.int .i64 0), (.int .i64 0), (.int .i64 0), (.int .i64 0), (.int .i64 0)]) 40 rfl Try.underlying22 info44 rfl (by decide) (by omega) u6 x6_1 (⟨wrap64 (24 * x8_1), (⟨wrap64 (1 + x8_1), Go.bits .and .i64 x8_1 1, wrap64 (5 + x8_1), wrap64 (100 + x8_1)⟩ : S38)⟩ : S44) [.int .i64 (wrap64 (24 * x8_1)), .int .i64 (wrap64 (1 + x8_1)), .int .i64 (Go.bits .and .i64 x8_1 1), .int .i64 (wrap64 (5 + x8_1)), .int .i64 (wrap64 (100 + x8_1))] (fun _ => True) (fun _ => False) rfl rfl ?aP (fun _ hk => hk.elim) ?aF ?aO ?aB ?aS ?aL ?_; (case aP => exact k44_mkM _ _ _ (⟨wrap64 (24 * x8_1), (⟨wrap64 (1 + x8_1), Go.bits .and .i64 x8_1 1, wrap64 (5 + x8_1), wrap64 (100 + x8_1)⟩ : S38)⟩ : S44)); (case aB => exact (by repeat (first | (with_reducible first | exact HB.out | apply below_alloc | apply pw_below_drewN | apply below_drew1 | refine below_set ?_ GE297.out) | exact HB.out))); (case aF => exact (fun _ _ => trivial)); (case aO => exact (by (with_reducible repeat (first | apply Kd.R_alloc | apply Kd.R_drewN | apply Kd.R_drew)); exact HO_6.out)); (case aS => exact (below_size (by repeat (first | (with_reducible first | exact HB.out | apply below_alloc | apply pw_below_drewN | apply below_drew1 | refine below_set ?_ GE297.out) | exact HB.out)))); (case aL => have := LMc11.out; omega); intro v301 w17 ho hb hg hat; rw [← Ny300.out] at ho; have n0_ := Aside0.mk (blk_grown (g := gb297) (o := .cells #[.int .i64 (wrap64 (1 + x8_1)), .int .i64 (Go.bits .and .i64 x8_1 1), .int .i64 (wrap64 (5 + x8_1)), .int .i64 (wrap64 (100 + x8_1))] 38 (0, 0)) (by (with_reducible repeat (first | refine blk_drewN ?_ _ | refine blk_drew ?_ | refine blk_alloc ?_ _)); exact BK297.out) hg (Kd.R_ne HO_6.out BK297.out (by decide))); have n1_ := Aside0.mk (hb); have n2_ := Aside0.mk (ho); clear BK297; clear HB; clear HO_6; have BK297 := n0_; have HB := n1_; have HO302 := n2_; clear n0_ n1_ n2_; clear ho hb hg hat))
         go_roundg k1
         case measure => have := HK1.out; omega
         case rel => exact ⟨(x5_1 ++ t298), (y300), (x7_1), (wrap64 (x8_1 + 1)), (by first | rfl | (simp; done) | (simp [*]; done)), (by first | rfl | (simp; done) | (simp [*]; done)), (by first | rfl | (simp; done) | (simp [*]; done)), H', ⟨by have := HK1.out; omega⟩, ⟨by (with_reducible repeat (first | apply Kd.R_alloc | apply Kd.R_drewN | apply Kd.R_drew)); exact HO302.out⟩, ⟨by repeat (first | (with_reducible first | exact HB.out | apply below_alloc | apply pw_below_drewN | apply below_drew1 | refine below_set ?_ GE297.out) | exact HB.out)⟩⟩
        ·rw [if_neg c12] at H
         exact absurd H (by simp)
       ·rw [if_neg c11] at H
        exact absurd H (by simp)
      ·rw [if_neg c10] at H
       have c10b0 : ((Go.bits .and .i64 (ji9) 1) == 1) = false := beq_eq_false_iff_ne.mpr c10
       have c10b1 : ((Go.bits .and .i64 (ji9) 1) != 1) = true := bne_iff_ne.mpr c10
       have c18b0 := eq_true (of_decide_eq_true (by first | (with_reducible assumption) | assumption) : 0 ≤ x8_1)
       obtain ⟨ji19, hji19⟩ : ∃ j_ : Int, (shr .i64 a1 x8_1) = j_ := ⟨_, rfl⟩
       replace H : (if (Go.bits .and .i64 (ji19) 1) = 1 then (if 1 ≤ (t298.size : Int) then (if 1 + (t298.extract 1 t298.size).size ≤ 9223372036854775807 then (if (Go.bits .and .i64 x8_1 1) = 0 then (if 0 ≤ 23 then (if 23 ≤ (((⟨#[0]⟩ : ByteArray) ++ (t298.extract 1 t298.size)).size : Int) then (if (((⟨#[0]⟩ : ByteArray) ++ (t298.extract 1 t298.size)).extract 0 23).size + 1 ≤ 9223372036854775807 then (if x5_1.size + ((((⟨#[0]⟩ : ByteArray) ++ (t298.extract 1 t298.size)).extract 0 23) ++ (⟨#[0]⟩ : ByteArray)).size ≤ 9223372036854775807 then (skifflaw5_JournalRow.l0 k1 a0 a1 (x5_1 ++ ((((⟨#[0]⟩ : ByteArray) ++ (t298.extract 1 t298.size)).extract 0 23) ++ (⟨#[0]⟩ : ByteArray))) x6_1 x7_1 (wrap64 (x8_1 + 1))) else (none)) else (none)) else (none)) else (none)) else (if x5_1.size + ((⟨#[0]⟩ : ByteArray) ++ (t298.extract 1 t298.size)).size ≤ 9223372036854775807 then (skifflaw5_JournalRow.l0 k1 a0 a1 (x5_1 ++ ((⟨#[0]⟩ : ByteArray) ++ (t298.extract 1 t298.size))) x6_1 x7_1 (wrap64 (x8_1 + 1))) else (none))) else (none)) else (none)) else ((skiffref1_Blank.f).bind fun t303 => (if 0 ≤ 24 then (if 24 ≤ (t303.size : Int) then (if x7_1 < 0 then (if x8_1 < 4 then (if x5_1.size + (t303.extract 0 24).size ≤ 9223372036854775807 then (skifflaw5_JournalRow.l0 k1 a0 a1 (x5_1 ++ (t303.extract 0 24)) x6_1 (wrap64 (24 * x8_1)) (wrap64 (x8_1 + 1))) else (none)) else (if x5_1.size + (t303.extract 0 24).size ≤ 9223372036854775807 then (skifflaw5_JournalRow.l0 k1 a0 a1 (x5_1 ++ (t303.extract 0 24)) x6_1 x7_1 (wrap64 (x8_1 + 1))) else (none))) else (if x5_1.size + (t303.extract 0 24).size ≤ 9223372036854775807 then (skifflaw5_JournalRow.l0 k1 a0 a1 (x5_1 ++ (t303.extract 0 24)) x6_1 x7_1 (wrap64 (x8_1 + 1))) else (none))) else (none)) else (none)))) = some r := by first | (rw [hji19] at H; exact H) | (simp only [hji19] at H ⊢; exact H)
       (try rw [hji19] at A7)
       have hji19_ : (a1 / 2 ^ min x8_1.toNat 64) = ji19 := hji19
       have hji19z : x8_1 ≤ 64 → (a1 / 2 ^ x8_1.toNat) = ji19 := shr_small hji19
       by_cases c20 : (Go.bits .and .i64 (ji19) 1) = 1
       ·rw [if_pos c20] at H
        have c20b0 : ((Go.bits .and .i64 (ji19) 1) == 1) = true := beq_iff_eq.mpr c20
        have c20b1 : ((Go.bits .and .i64 (ji19) 1) != 1) = false := bne_eq_false_iff_eq.mpr c20
        clear c20
        by_cases c21 : 1 ≤ (t298.size : Int)
        ·rw [if_pos c21] at H
         have c21b0 := eq_true c21
         have c21b1 : decide (1 ≤ (t298.size : Int)) = true := decide_eq_true c21
         have zt : t298.size = 24 := putPair_24 A7.out c21
         clear c21
         by_cases c22 : 1 + (t298.extract 1 t298.size).size ≤ 9223372036854775807
         ·rw [if_pos c22] at H
          have c22b0 := eq_true c22
          have c22b1 : decide (1 + (t298.extract 1 t298.size).size ≤ 9223372036854775807) = true := decide_eq_true c22
          try have c22b2 : (9223372036854775807 < 1 + (t298.extract 1 t298.size).size) = False := eq_false (Nat.not_lt.2 c22)
          by_cases c23 : (Go.bits .and .i64 x8_1 1) = 0
          ·rw [if_pos c23] at H
           have c23b0 : ((Go.bits .and .i64 x8_1 1) == 0) = true := beq_iff_eq.mpr c23
           have c23b1 : ((Go.bits .and .i64 x8_1 1) != 0) = false := bne_eq_false_iff_eq.mpr c23
           clear c23
           by_cases c24 : 0 ≤ 23
           ·rw [if_pos c24] at H
            have c24b0 := eq_true c24
            have c24b1 : decide (0 ≤ 23) = true := decide_eq_true c24
            clear c24
            by_cases c25 : 23 ≤ (((⟨#[0]⟩ : ByteArray) ++ (t298.extract 1 t298.size)).size : Int)
            ·rw [if_pos c25] at H
             have c25b0 := eq_true c25
             have c25b1 : decide (23 ≤ (((⟨#[0]⟩ : ByteArray) ++ (t298.extract 1 t298.size)).size : Int)) = true := decide_eq_true c25
             (try (have c25z0 : (23 ≤ (((⟨#[0]⟩ : ByteArray).size : Int) + ((t298.extract 1 t298.size).size : Int))) = True := eq_true (by first | simpa using c25 | (simp only [ByteArray.size_append, Int.natCast_add] at c25 ⊢; exact c25))))
             (try (have c25z1 : decide (23 ≤ (((⟨#[0]⟩ : ByteArray).size : Int) + ((t298.extract 1 t298.size).size : Int))) = true := decide_eq_true (by first | simpa using c25 | (simp only [ByteArray.size_append, Int.natCast_add] at c25 ⊢; exact c25))))
             by_cases c26 : (((⟨#[0]⟩ : ByteArray) ++ (t298.extract 1 t298.size)).extract 0 23).size + 1 ≤ 9223372036854775807
             ·rw [if_pos c26] at H
              have c26b0 := eq_true c26
              have c26b1 : decide ((((⟨#[0]⟩ : ByteArray) ++ (t298.extract 1 t298.size)).extract 0 23).size + 1 ≤ 9223372036854775807) = true := decide_eq_true c26
              try have c26b2 : (9223372036854775807 < (((⟨#[0]⟩ : ByteArray) ++ (t298.extract 1 t298.size)).extract 0 23).size + 1) = False := eq_false (Nat.not_lt.2 c26)
              by_cases c27 : x5_1.size + ((((⟨#[0]⟩ : ByteArray) ++ (t298.extract 1 t298.size)).extract 0 23) ++ (⟨#[0]⟩ : ByteArray)).size ≤ 9223372036854775807
              ·rw [if_pos c27] at H
               have c27b0 := eq_true c27
               have c27b1 : decide (x5_1.size + ((((⟨#[0]⟩ : ByteArray) ++ (t298.extract 1 t298.size)).extract 0 23) ++ (⟨#[0]⟩ : ByteArray)).size ≤ 9223372036854775807) = true := decide_eq_true c27
               try have c27b2 : (9223372036854775807 < x5_1.size + ((((⟨#[0]⟩ : ByteArray) ++ (t298.extract 1 t298.size)).extract 0 23) ++ (⟨#[0]⟩ : ByteArray)).size) = False := eq_false (Nat.not_lt.2 c27)
               have c27q : x5_1.size + 24 ≤ 9223372036854775807 := by
                simp only [ByteArray.size_append, ByteArray.size_extract, zt, show (⟨#[0]⟩ : ByteArray).size = 1 from rfl] at c27
                omega
               have c27q2 := eq_false (Nat.not_lt.2 c27q)
               have H' := Aside0.mk H
               clear H
               go_wp2_with (first | ((with_reducible refine gate_dst (N := 9) rfl ?_); refine box_event ?hg (N := 9) ?hd (cs := #[.int .i64 0, .int .i64 0, .int .i64 0, .int .i64 0]) (t := 38) ?hr ?_; (case hd => rfl); (case hg => rfl); (case hr => first | (go_simp; done) | (go_simp; rfl)); intro gb297 hg w28 hbox hb; have n0_ := Aside0.mk (Kd.R_below (by (with_reducible repeat (first | apply Kd.R_alloc | apply Kd.R_drewN | apply Kd.R_drew)); exact HO_6.out) hb); have n1_ := Aside0.mk (below_step (by repeat (first | (with_reducible first | exact HB.out | apply below_alloc | apply pw_below_drewN | apply below_drew1) | exact HB.out)) hb); have n2_ := Aside0.mk (hbox); have n3_ := Aside0.mk ((by rw [hg]; exact (below_size (by repeat (first | (with_reducible first | exact HB.out | apply below_alloc | apply pw_below_drewN | apply below_drew1) | exact HB.out))) : w.heap.size ≤ gb297)); have n4_ := Aside0.mk ((by rw [hg]; exact (below_size (by repeat (first | (with_reducible first | exact HB.out | apply below_alloc | apply pw_below_drewN | apply below_drew1) | exact HB.out))) : w.heap.size ≤ gb297)); clear HO_6; clear HB; have HO_6 := n0_; have HB := n1_; have BK297 := n2_; have GW297 := n3_; have GE297 := n4_; clear n0_ n1_ n2_ n3_ n4_; clear hb hbox hg; have hcz29_0 : w28.cell? ⟨gb297, 0, none⟩ = some (.int .i64 0) := (blk_cell BK297.out 0).trans rfl; have hcz29_1 : w28.cell? ⟨gb297, 1, none⟩ = some (.int .i64 0) := (blk_cell BK297.out 1).trans rfl; have hcz29_2 : w28.cell? ⟨gb297, 2, none⟩ = some (.int .i64 0) := (blk_cell BK297.out 2).trans rfl; have hcz29_3 : w28.cell? ⟨gb297, 3, none⟩ = some (.int .i64 0) := (blk_cell BK297.out 3).trans rfl; have hfz29_0 := blk_frozen BK297.out 0; have hfz29_1 := blk_frozen BK297.out 1; have hfz29_2 := blk_frozen BK297.out 2; have hfz29_3 := blk_frozen BK297.out 3) | ((with_reducible refine gate_callee (f := 16) rfl ?_); refine goesL_ (some 34) rfl rfl Try.func16 (by kernel_rfl) rfl #[.agg #[.int .i64 (wrap64 (1 + x8_1)), .int .i64 (Go.bits .and .i64 x8_1 1), .int .i64 (wrap64 (5 + x8_1)), .int .i64 (wrap64 (100 + x8_1))]] rfl (by (try simp only [List.map_toArray, List.map_cons, List.map_nil]); first | done | rfl | (simp only [List.length_drop, List.length_take]; rfl)) ?_; (with_reducible refine (skiffref1_PutEntry.calls (wrap64 (1 + x8_1)) (Go.bits .and .i64 x8_1 1) (wrap64 (5 + x8_1)) (wrap64 (100 + x8_1)) t298 t299 _ A7.out).mono ?_); rintro e w30 ⟨rfl, hb⟩; refine ⟨_, rfl, ?_⟩; have n0_ := Aside0.mk (Kd.R_below (by (with_reducible repeat (first | apply Kd.R_alloc | apply Kd.R_drewN | apply Kd.R_drew)); exact (Kd.R_mono (Kd.R_far (p := ⟨gb297, 3, none⟩) (Kd.R_far (p := ⟨gb297, 2, none⟩) (Kd.R_far (p := ⟨gb297, 1, none⟩) (Kd.R_far (p := ⟨gb297, 0, none⟩) (Kd.R_types HO_6.out BK297.out (by decide)) (fun _ hk => hk.2) (.int .i64 (wrap64 (1 + x8_1)))) (fun _ hk => hk.2) (.int .i64 (Go.bits .and .i64 x8_1 1))) (fun _ hk => hk.2) (.int .i64 (wrap64 (5 + x8_1)))) (fun _ hk => hk.2) (.int .i64 (wrap64 (100 + x8_1)))) (fun _ h_ => h_.1))) hb); have n1_ := Aside0.mk (blk_below (g := gb297) (o := .cells #[.int .i64 (wrap64 (1 + x8_1)), .int .i64 (Go.bits .and .i64 x8_1 1), .int .i64 (wrap64 (5 + x8_1)), .int .i64 (wrap64 (100 + x8_1))] 38 (0, 0)) (by (with_reducible repeat (first | refine blk_drewN ?_ _ | refine blk_drew ?_ | refine blk_alloc ?_ _)); refine blk_put (cs := #[.int .i64 (wrap64 (1 + x8_1)), .int .i64 (Go.bits .and .i64 x8_1 1), .int .i64 (wrap64 (5 + x8_1)), .int .i64 0]) ?_ 3 _ rfl; (with_reducible repeat (first | refine blk_drewN ?_ _ | refine blk_drew ?_ | refine blk_alloc ?_ _)); refine blk_put (cs := #[.int .i64 (wrap64 (1 + x8_1)), .int .i64 (Go.bits .and .i64 x8_1 1), .int .i64 0, .int .i64 0]) ?_ 2 _ rfl; (with_reducible repeat (first | refine blk_drewN ?_ _ | refine blk_drew ?_ | refine blk_alloc ?_ _)); refine blk_put (cs := #[.int .i64 (wrap64 (1 + x8_1)), .int .i64 0, .int .i64 0, .int .i64 0]) ?_ 1 _ rfl; (with_reducible repeat (first | refine blk_drewN ?_ _ | refine blk_drew ?_ | refine blk_alloc ?_ _)); refine blk_put (cs := #[.int .i64 0, .int .i64 0, .int .i64 0, .int .i64 0]) ?_ 0 _ rfl; (with_reducible repeat (first | refine blk_drewN ?_ _ | refine blk_drew ?_ | refine blk_alloc ?_ _)); exact BK297.out) hb); have n2_ := Aside0.mk (below_step (by repeat (first | (with_reducible first | exact HB.out | apply below_alloc | apply pw_below_drewN | apply below_drew1 | refine below_set ?_ GE297.out) | exact HB.out)) hb); clear HO_6; clear BK297; clear HB; have HO_6 := n0_; have BK297 := n1_; have HB := n2_; clear n0_ n1_ n2_; (try clear hb); (try clear hb2); (try clear hk); (try clear hi)))
               go_roundg k1
               case measure => have := HK1.out; omega
               case rel => exact ⟨(x5_1 ++ ((((⟨#[0]⟩ : ByteArray) ++ (t298.extract 1 t298.size)).extract 0 23) ++ (⟨#[0]⟩ : ByteArray))), (x6_1), (x7_1), (wrap64 (x8_1 + 1)), (by first | (with_reducible rfl) | (rw [zt]; done) | (simp only [zt]; done) | (simp; done) | (simp [*]; done)), (by first | (with_reducible rfl) | (rw [zt]; done) | (simp only [zt]; done) | (simp; done) | (simp [*]; done)), (by first | (with_reducible rfl) | (rw [zt]; done) | (simp only [zt]; done) | (simp; done) | (simp [*]; done)), H', ⟨by have := HK1.out; omega⟩, ⟨by (with_reducible repeat (first | apply Kd.R_alloc | apply Kd.R_drewN | apply Kd.R_drew)); exact HO_6.out⟩, ⟨by repeat (first | (with_reducible first | exact HB.out | apply below_alloc | apply pw_below_drewN | apply below_drew1 | refine below_set ?_ GE297.out) | exact HB.out)⟩⟩
              ·rw [if_neg c27] at H
               exact absurd H (by simp)
             ·rw [if_neg c26] at H
              exact absurd H (by simp)
            ·rw [if_neg c25] at H
             exact absurd H (by simp)
           ·rw [if_neg c24] at H
            exact absurd H (by simp)
          ·rw [if_neg c23] at H
           have c23b0 : ((Go.bits .and .i64 x8_1 1) == 0) = false := beq_eq_false_iff_ne.mpr c23
           have c23b1 : ((Go.bits .and .i64 x8_1 1) != 0) = true := bne_iff_ne.mpr c23
           by_cases c31 : x5_1.size + ((⟨#[0]⟩ : ByteArray) ++ (t298.extract 1 t298.size)).size ≤ 9223372036854775807
           ·rw [if_pos c31] at H
            have c31b0 := eq_true c31
            have c31b1 : decide (x5_1.size + ((⟨#[0]⟩ : ByteArray) ++ (t298.extract 1 t298.size)).size ≤ 9223372036854775807) = true := decide_eq_true c31
            try have c31b2 : (9223372036854775807 < x5_1.size + ((⟨#[0]⟩ : ByteArray) ++ (t298.extract 1 t298.size)).size) = False := eq_false (Nat.not_lt.2 c31)
            have c31q : x5_1.size + 24 ≤ 9223372036854775807 := by
             simp only [ByteArray.size_append, ByteArray.size_extract, zt, show (⟨#[0]⟩ : ByteArray).size = 1 from rfl] at c31
             omega
            have c31q2 := eq_false (Nat.not_lt.2 c31q)
            have H' := Aside0.mk H
            clear H
            go_wp2_with (first | ((with_reducible refine gate_dst (N := 9) rfl ?_); refine box_event ?hg (N := 9) ?hd (cs := #[.int .i64 0, .int .i64 0, .int .i64 0, .int .i64 0]) (t := 38) ?hr ?_; (case hd => rfl); (case hg => rfl); (case hr => first | (go_simp; done) | (go_simp; rfl)); intro gb297 hg w32 hbox hb; have n0_ := Aside0.mk (Kd.R_below (by (with_reducible repeat (first | apply Kd.R_alloc | apply Kd.R_drewN | apply Kd.R_drew)); exact HO_6.out) hb); have n1_ := Aside0.mk (below_step (by repeat (first | (with_reducible first | exact HB.out | apply below_alloc | apply pw_below_drewN | apply below_drew1) | exact HB.out)) hb); have n2_ := Aside0.mk (hbox); have n3_ := Aside0.mk ((by rw [hg]; exact (below_size (by repeat (first | (with_reducible first | exact HB.out | apply below_alloc | apply pw_below_drewN | apply below_drew1) | exact HB.out))) : w.heap.size ≤ gb297)); have n4_ := Aside0.mk ((by rw [hg]; exact (below_size (by repeat (first | (with_reducible first | exact HB.out | apply below_alloc | apply pw_below_drewN | apply below_drew1) | exact HB.out))) : w.heap.size ≤ gb297)); clear HO_6; clear HB; have HO_6 := n0_; have HB := n1_; have BK297 := n2_; have GW297 := n3_; have GE297 := n4_; clear n0_ n1_ n2_ n3_ n4_; clear hb hbox hg; have hcz33_0 : w32.cell? ⟨gb297, 0, none⟩ = some (.int .i64 0) := (blk_cell BK297.out 0).trans rfl; have hcz33_1 : w32.cell? ⟨gb297, 1, none⟩ = some (.int .i64 0) := (blk_cell BK297.out 1).trans rfl; have hcz33_2 : w32.cell? ⟨gb297, 2, none⟩ = some (.int .i64 0) := (blk_cell BK297.out 2).trans rfl; have hcz33_3 : w32.cell? ⟨gb297, 3, none⟩ = some (.int .i64 0) := (blk_cell BK297.out 3).trans rfl; have hfz33_0 := blk_frozen BK297.out 0; have hfz33_1 := blk_frozen BK297.out 1; have hfz33_2 := blk_frozen BK297.out 2; have hfz33_3 := blk_frozen BK297.out 3) | ((with_reducible refine gate_callee (f := 16) rfl ?_); refine goesL_ (some 34) rfl rfl Try.func16 (by kernel_rfl) rfl #[.agg #[.int .i64 (wrap64 (1 + x8_1)), .int .i64 (Go.bits .and .i64 x8_1 1), .int .i64 (wrap64 (5 + x8_1)), .int .i64 (wrap64 (100 + x8_1))]] rfl (by (try simp only [List.map_toArray, List.map_cons, List.map_nil]); first | done | rfl | (simp only [List.length_drop, List.length_take]; rfl)) ?_; (with_reducible refine (skiffref1_PutEntry.calls (wrap64 (1 + x8_1)) (Go.bits .and .i64 x8_1 1) (wrap64 (5 + x8_1)) (wrap64 (100 + x8_1)) t298 t299 _ A7.out).mono ?_); rintro e w34 ⟨rfl, hb⟩; refine ⟨_, rfl, ?_⟩; have n0_ := Aside0.mk (Kd.R_below (by (with_reducible repeat (first | apply Kd.R_alloc | apply Kd.R_drewN | apply Kd.R_drew)); exact (Kd.R_mono (Kd.R_far (p := ⟨gb297, 3, none⟩) (Kd.R_far (p := ⟨gb297, 2, none⟩) (Kd.R_far (p := ⟨gb297, 1, none⟩) (Kd.R_far (p := ⟨gb297, 0, none⟩) (Kd.R_types HO_6.out BK297.out (by decide)) (fun _ hk => hk.2) (.int .i64 (wrap64 (1 + x8_1)))) (fun _ hk => hk.2) (.int .i64 (Go.bits .and .i64 x8_1 1))) (fun _ hk => hk.2) (.int .i64 (wrap64 (5 + x8_1)))) (fun _ hk => hk.2) (.int .i64 (wrap64 (100 + x8_1)))) (fun _ h_ => h_.1))) hb); have n1_ := Aside0.mk (blk_below (g := gb297) (o := .cells #[.int .i64 (wrap64 (1 + x8_1)), .int .i64 (Go.bits .and .i64 x8_1 1), .int .i64 (wrap64 (5 + x8_1)), .int .i64 (wrap64 (100 + x8_1))] 38 (0, 0)) (by (with_reducible repeat (first | refine blk_drewN ?_ _ | refine blk_drew ?_ | refine blk_alloc ?_ _)); refine blk_put (cs := #[.int .i64 (wrap64 (1 + x8_1)), .int .i64 (Go.bits .and .i64 x8_1 1), .int .i64 (wrap64 (5 + x8_1)), .int .i64 0]) ?_ 3 _ rfl; (with_reducible repeat (first | refine blk_drewN ?_ _ | refine blk_drew ?_ | refine blk_alloc ?_ _)); refine blk_put (cs := #[.int .i64 (wrap64 (1 + x8_1)), .int .i64 (Go.bits .and .i64 x8_1 1), .int .i64 0, .int .i64 0]) ?_ 2 _ rfl; (with_reducible repeat (first | refine blk_drewN ?_ _ | refine blk_drew ?_ | refine blk_alloc ?_ _)); refine blk_put (cs := #[.int .i64 (wrap64 (1 + x8_1)), .int .i64 0, .int .i64 0, .int .i64 0]) ?_ 1 _ rfl; (with_reducible repeat (first | refine blk_drewN ?_ _ | refine blk_drew ?_ | refine blk_alloc ?_ _)); refine blk_put (cs := #[.int .i64 0, .int .i64 0, .int .i64 0, .int .i64 0]) ?_ 0 _ rfl; (with_reducible repeat (first | refine blk_drewN ?_ _ | refine blk_drew ?_ | refine blk_alloc ?_ _)); exact BK297.out) hb); have n2_ := Aside0.mk (below_step (by repeat (first | (with_reducible first | exact HB.out | apply below_alloc | apply pw_below_drewN | apply below_drew1 | refine below_set ?_ GE297.out) | exact HB.out)) hb); clear HO_6; clear BK297; clear HB; have HO_6 := n0_; have BK297 := n1_; have HB := n2_; clear n0_ n1_ n2_; (try clear hb); (try clear hb2); (try clear hk); (try clear hi)))
            go_roundg k1
            case measure => have := HK1.out; omega
            case rel => exact ⟨(x5_1 ++ ((⟨#[0]⟩ : ByteArray) ++ (t298.extract 1 t298.size))), (x6_1), (x7_1), (wrap64 (x8_1 + 1)), (by first | (with_reducible rfl) | (rw [zt]; done) | (simp only [zt]; done) | (simp; done) | (simp [*]; done)), (by first | (with_reducible rfl) | (rw [zt]; done) | (simp only [zt]; done) | (simp; done) | (simp [*]; done)), (by first | (with_reducible rfl) | (rw [zt]; done) | (simp only [zt]; done) | (simp; done) | (simp [*]; done)), H', ⟨by have := HK1.out; omega⟩, ⟨by (with_reducible repeat (first | apply Kd.R_alloc | apply Kd.R_drewN | apply Kd.R_drew)); exact HO_6.out⟩, ⟨by repeat (first | (with_reducible first | exact HB.out | apply below_alloc | apply pw_below_drewN | apply below_drew1 | refine below_set ?_ GE297.out) | exact HB.out)⟩⟩
           ·rw [if_neg c31] at H
            exact absurd H (by simp)
         ·rw [if_neg c22] at H
          exact absurd H (by simp)
        ·rw [if_neg c21] at H
         exact absurd H (by simp)
       ·rw [if_neg c20] at H
        have c20b0 : ((Go.bits .and .i64 (ji19) 1) == 1) = false := beq_eq_false_iff_ne.mpr c20
        have c20b1 : ((Go.bits .and .i64 (ji19) 1) != 1) = true := bne_iff_ne.mpr c20
        replace H := Option.bind_eq_some_iff.mp H
        obtain ⟨t303, A350, H⟩ := H
        replace H : (if 0 ≤ 24 then (if 24 ≤ (t303.size : Int) then (if x7_1 < 0 then (if x8_1 < 4 then (if x5_1.size + (t303.extract 0 24).size ≤ 9223372036854775807 then (skifflaw5_JournalRow.l0 k1 a0 a1 (x5_1 ++ (t303.extract 0 24)) x6_1 (wrap64 (24 * x8_1)) (wrap64 (x8_1 + 1))) else (none)) else (if x5_1.size + (t303.extract 0 24).size ≤ 9223372036854775807 then (skifflaw5_JournalRow.l0 k1 a0 a1 (x5_1 ++ (t303.extract 0 24)) x6_1 x7_1 (wrap64 (x8_1 + 1))) else (none))) else (if x5_1.size + (t303.extract 0 24).size ≤ 9223372036854775807 then (skifflaw5_JournalRow.l0 k1 a0 a1 (x5_1 ++ (t303.extract 0 24)) x6_1 x7_1 (wrap64 (x8_1 + 1))) else (none))) else (none)) else (none)) = some r := H
        have A35 := Aside0.mk A350
        clear A350
        by_cases c36 : 0 ≤ 24
        ·rw [if_pos c36] at H
         have c36b0 := eq_true c36
         have c36b1 : decide (0 ≤ 24) = true := decide_eq_true c36
         clear c36
         by_cases c37 : 24 ≤ (t303.size : Int)
         ·rw [if_pos c37] at H
          have c37b0 := eq_true c37
          have c37b1 : decide (24 ≤ (t303.size : Int)) = true := decide_eq_true c37
          clear c37
          by_cases c38 : x7_1 < 0
          ·rw [if_pos c38] at H
           have c38b0 : decide (x7_1 < 0) = true := decide_eq_true c38
           clear c38
           by_cases c39 : x8_1 < 4
           ·rw [if_pos c39] at H
            have c39b0 : decide (x8_1 < 4) = true := decide_eq_true c39
            clear c39
            by_cases c40 : x5_1.size + (t303.extract 0 24).size ≤ 9223372036854775807
            ·rw [if_pos c40] at H
             have c40b0 := eq_true c40
             have c40b1 : decide (x5_1.size + (t303.extract 0 24).size ≤ 9223372036854775807) = true := decide_eq_true c40
             try have c40b2 : (9223372036854775807 < x5_1.size + (t303.extract 0 24).size) = False := eq_false (Nat.not_lt.2 c40)
             have H' := Aside0.mk H
             clear H
             go_wp2_with (first | ((with_reducible refine gate_dst (N := 9) rfl ?_); refine box_event ?hg (N := 9) ?hd (cs := #[.int .i64 0, .int .i64 0, .int .i64 0, .int .i64 0]) (t := 38) ?hr ?_; (case hd => rfl); (case hg => rfl); (case hr => first | (go_simp; done) | (go_simp; rfl)); intro gb297 hg w41 hbox hb; have n0_ := Aside0.mk (Kd.R_below (by (with_reducible repeat (first | apply Kd.R_alloc | apply Kd.R_drewN | apply Kd.R_drew)); exact HO_6.out) hb); have n1_ := Aside0.mk (below_step (by repeat (first | (with_reducible first | exact HB.out | apply below_alloc | apply pw_below_drewN | apply below_drew1) | exact HB.out)) hb); have n2_ := Aside0.mk (hbox); have n3_ := Aside0.mk ((by rw [hg]; exact (below_size (by repeat (first | (with_reducible first | exact HB.out | apply below_alloc | apply pw_below_drewN | apply below_drew1) | exact HB.out))) : w.heap.size ≤ gb297)); have n4_ := Aside0.mk ((by rw [hg]; exact (below_size (by repeat (first | (with_reducible first | exact HB.out | apply below_alloc | apply pw_below_drewN | apply below_drew1) | exact HB.out))) : w.heap.size ≤ gb297)); clear HO_6; clear HB; have HO_6 := n0_; have HB := n1_; have BK297 := n2_; have GW297 := n3_; have GE297 := n4_; clear n0_ n1_ n2_ n3_ n4_; clear hb hbox hg; have hcz42_0 : w41.cell? ⟨gb297, 0, none⟩ = some (.int .i64 0) := (blk_cell BK297.out 0).trans rfl; have hcz42_1 : w41.cell? ⟨gb297, 1, none⟩ = some (.int .i64 0) := (blk_cell BK297.out 1).trans rfl; have hcz42_2 : w41.cell? ⟨gb297, 2, none⟩ = some (.int .i64 0) := (blk_cell BK297.out 2).trans rfl; have hcz42_3 : w41.cell? ⟨gb297, 3, none⟩ = some (.int .i64 0) := (blk_cell BK297.out 3).trans rfl; have hfz42_0 := blk_frozen BK297.out 0; have hfz42_1 := blk_frozen BK297.out 1; have hfz42_2 := blk_frozen BK297.out 2; have hfz42_3 := blk_frozen BK297.out 3) | ((with_reducible refine gate_callee (f := 16) rfl ?_); refine goesL_ (some 34) rfl rfl Try.func16 (by kernel_rfl) rfl #[.agg #[.int .i64 (wrap64 (1 + x8_1)), .int .i64 (Go.bits .and .i64 x8_1 1), .int .i64 (wrap64 (5 + x8_1)), .int .i64 (wrap64 (100 + x8_1))]] rfl (by (try simp only [List.map_toArray, List.map_cons, List.map_nil]); first | done | rfl | (simp only [List.length_drop, List.length_take]; rfl)) ?_; (with_reducible refine (skiffref1_PutEntry.calls (wrap64 (1 + x8_1)) (Go.bits .and .i64 x8_1 1) (wrap64 (5 + x8_1)) (wrap64 (100 + x8_1)) t298 t299 _ A7.out).mono ?_); rintro e w43 ⟨rfl, hb⟩; refine ⟨_, rfl, ?_⟩; have n0_ := Aside0.mk (Kd.R_below (by (with_reducible repeat (first | apply Kd.R_alloc | apply Kd.R_drewN | apply Kd.R_drew)); exact (Kd.R_mono (Kd.R_far (p := ⟨gb297, 3, none⟩) (Kd.R_far (p := ⟨gb297, 2, none⟩) (Kd.R_far (p := ⟨gb297, 1, none⟩) (Kd.R_far (p := ⟨gb297, 0, none⟩) (Kd.R_types HO_6.out BK297.out (by decide)) (fun _ hk => hk.2) (.int .i64 (wrap64 (1 + x8_1)))) (fun _ hk => hk.2) (.int .i64 (Go.bits .and .i64 x8_1 1))) (fun _ hk => hk.2) (.int .i64 (wrap64 (5 + x8_1)))) (fun _ hk => hk.2) (.int .i64 (wrap64 (100 + x8_1)))) (fun _ h_ => h_.1))) hb); have n1_ := Aside0.mk (blk_below (g := gb297) (o := .cells #[.int .i64 (wrap64 (1 + x8_1)), .int .i64 (Go.bits .and .i64 x8_1 1), .int .i64 (wrap64 (5 + x8_1)), .int .i64 (wrap64 (100 + x8_1))] 38 (0, 0)) (by (with_reducible repeat (first | refine blk_drewN ?_ _ | refine blk_drew ?_ | refine blk_alloc ?_ _)); refine blk_put (cs := #[.int .i64 (wrap64 (1 + x8_1)), .int .i64 (Go.bits .and .i64 x8_1 1), .int .i64 (wrap64 (5 + x8_1)), .int .i64 0]) ?_ 3 _ rfl; (with_reducible repeat (first | refine blk_drewN ?_ _ | refine blk_drew ?_ | refine blk_alloc ?_ _)); refine blk_put (cs := #[.int .i64 (wrap64 (1 + x8_1)), .int .i64 (Go.bits .and .i64 x8_1 1), .int .i64 0, .int .i64 0]) ?_ 2 _ rfl; (with_reducible repeat (first | refine blk_drewN ?_ _ | refine blk_drew ?_ | refine blk_alloc ?_ _)); refine blk_put (cs := #[.int .i64 (wrap64 (1 + x8_1)), .int .i64 0, .int .i64 0, .int .i64 0]) ?_ 1 _ rfl; (with_reducible repeat (first | refine blk_drewN ?_ _ | refine blk_drew ?_ | refine blk_alloc ?_ _)); refine blk_put (cs := #[.int .i64 0, .int .i64 0, .int .i64 0, .int .i64 0]) ?_ 0 _ rfl; (with_reducible repeat (first | refine blk_drewN ?_ _ | refine blk_drew ?_ | refine blk_alloc ?_ _)); exact BK297.out) hb); have n2_ := Aside0.mk (below_step (by repeat (first | (with_reducible first | exact HB.out | apply below_alloc | apply pw_below_drewN | apply below_drew1 | refine below_set ?_ GE297.out) | exact HB.out)) hb); clear HO_6; clear BK297; clear HB; have HO_6 := n0_; have BK297 := n1_; have HB := n2_; clear n0_ n1_ n2_; (try clear hb); (try clear hb2); (try clear hk); (try clear hi)) | ((with_reducible refine gate_callee (f := 17) rfl ?_); refine goesL_ (some 37) rfl rfl Try.func17 (by kernel_rfl) rfl #[] rfl (by (try simp only [List.map_toArray, List.map_cons, List.map_nil]); first | done | rfl | (simp only [List.length_drop, List.length_take]; rfl)) ?_; (with_reducible refine (skiffref1_Blank.calls  t303 _ A35.out).mono ?_); rintro e w44 ⟨rfl, hb⟩; refine ⟨_, rfl, ?_⟩; have n0_ := Aside0.mk (Kd.R_below (by (with_reducible repeat (first | apply Kd.R_alloc | apply Kd.R_drewN | apply Kd.R_drew)); exact HO_6.out) hb); have n1_ := Aside0.mk (blk_below (g := gb297) (o := .cells #[.int .i64 (wrap64 (1 + x8_1)), .int .i64 (Go.bits .and .i64 x8_1 1), .int .i64 (wrap64 (5 + x8_1)), .int .i64 (wrap64 (100 + x8_1))] 38 (0, 0)) (by (with_reducible repeat (first | refine blk_drewN ?_ _ | refine blk_drew ?_ | refine blk_alloc ?_ _)); exact BK297.out) hb); have n2_ := Aside0.mk (below_step (by repeat (first | (with_reducible first | exact HB.out | apply below_alloc | apply pw_below_drewN | apply below_drew1 | refine below_set ?_ GE297.out) | exact HB.out)) hb); clear HO_6; clear BK297; clear HB; have HO_6 := n0_; have BK297 := n1_; have HB := n2_; clear n0_ n1_ n2_; (try clear hb); (try clear hb2); (try clear hk); (try clear hi)))
             go_roundg k1
             case measure => have := HK1.out; omega
             case rel => exact ⟨(x5_1 ++ (t303.extract 0 24)), (x6_1), (wrap64 (24 * x8_1)), (wrap64 (x8_1 + 1)), (by first | (with_reducible rfl) | (rw [zt]; done) | (simp only [zt]; done) | (simp; done) | (simp [*]; done)), (by first | (with_reducible rfl) | (rw [zt]; done) | (simp only [zt]; done) | (simp; done) | (simp [*]; done)), (by first | (with_reducible rfl) | (rw [zt]; done) | (simp only [zt]; done) | (simp; done) | (simp [*]; done)), H', ⟨by have := HK1.out; omega⟩, ⟨by (with_reducible repeat (first | apply Kd.R_alloc | apply Kd.R_drewN | apply Kd.R_drew)); exact HO_6.out⟩, ⟨by repeat (first | (with_reducible first | exact HB.out | apply below_alloc | apply pw_below_drewN | apply below_drew1 | refine below_set ?_ GE297.out) | exact HB.out)⟩⟩
            ·rw [if_neg c40] at H
             exact absurd H (by simp)
           ·rw [if_neg c39] at H
            have c39b0 : decide (x8_1 < 4) = false := decide_eq_false c39
            clear c39
            by_cases c45 : x5_1.size + (t303.extract 0 24).size ≤ 9223372036854775807
            ·rw [if_pos c45] at H
             have c45b0 := eq_true c45
             have c45b1 : decide (x5_1.size + (t303.extract 0 24).size ≤ 9223372036854775807) = true := decide_eq_true c45
             try have c45b2 : (9223372036854775807 < x5_1.size + (t303.extract 0 24).size) = False := eq_false (Nat.not_lt.2 c45)
             have H' := Aside0.mk H
             clear H
             go_wp2_with (first | ((with_reducible refine gate_dst (N := 9) rfl ?_); refine box_event ?hg (N := 9) ?hd (cs := #[.int .i64 0, .int .i64 0, .int .i64 0, .int .i64 0]) (t := 38) ?hr ?_; (case hd => rfl); (case hg => rfl); (case hr => first | (go_simp; done) | (go_simp; rfl)); intro gb297 hg w46 hbox hb; have n0_ := Aside0.mk (Kd.R_below (by (with_reducible repeat (first | apply Kd.R_alloc | apply Kd.R_drewN | apply Kd.R_drew)); exact HO_6.out) hb); have n1_ := Aside0.mk (below_step (by repeat (first | (with_reducible first | exact HB.out | apply below_alloc | apply pw_below_drewN | apply below_drew1) | exact HB.out)) hb); have n2_ := Aside0.mk (hbox); have n3_ := Aside0.mk ((by rw [hg]; exact (below_size (by repeat (first | (with_reducible first | exact HB.out | apply below_alloc | apply pw_below_drewN | apply below_drew1) | exact HB.out))) : w.heap.size ≤ gb297)); have n4_ := Aside0.mk ((by rw [hg]; exact (below_size (by repeat (first | (with_reducible first | exact HB.out | apply below_alloc | apply pw_below_drewN | apply below_drew1) | exact HB.out))) : w.heap.size ≤ gb297)); clear HO_6; clear HB; have HO_6 := n0_; have HB := n1_; have BK297 := n2_; have GW297 := n3_; have GE297 := n4_; clear n0_ n1_ n2_ n3_ n4_; clear hb hbox hg; have hcz47_0 : w46.cell? ⟨gb297, 0, none⟩ = some (.int .i64 0) := (blk_cell BK297.out 0).trans rfl; have hcz47_1 : w46.cell? ⟨gb297, 1, none⟩ = some (.int .i64 0) := (blk_cell BK297.out 1).trans rfl; have hcz47_2 : w46.cell? ⟨gb297, 2, none⟩ = some (.int .i64 0) := (blk_cell BK297.out 2).trans rfl; have hcz47_3 : w46.cell? ⟨gb297, 3, none⟩ = some (.int .i64 0) := (blk_cell BK297.out 3).trans rfl; have hfz47_0 := blk_frozen BK297.out 0; have hfz47_1 := blk_frozen BK297.out 1; have hfz47_2 := blk_frozen BK297.out 2; have hfz47_3 := blk_frozen BK297.out 3) | ((with_reducible refine gate_callee (f := 16) rfl ?_); refine goesL_ (some 34) rfl rfl Try.func16 (by kernel_rfl) rfl #[.agg #[.int .i64 (wrap64 (1 + x8_1)), .int .i64 (Go.bits .and .i64 x8_1 1), .int .i64 (wrap64 (5 + x8_1)), .int .i64 (wrap64 (100 + x8_1))]] rfl (by (try simp only [List.map_toArray, List.map_cons, List.map_nil]); first | done | rfl | (simp only [List.length_drop, List.length_take]; rfl)) ?_; (with_reducible refine (skiffref1_PutEntry.calls (wrap64 (1 + x8_1)) (Go.bits .and .i64 x8_1 1) (wrap64 (5 + x8_1)) (wrap64 (100 + x8_1)) t298 t299 _ A7.out).mono ?_); rintro e w48 ⟨rfl, hb⟩; refine ⟨_, rfl, ?_⟩; have n0_ := Aside0.mk (Kd.R_below (by (with_reducible repeat (first | apply Kd.R_alloc | apply Kd.R_drewN | apply Kd.R_drew)); exact (Kd.R_mono (Kd.R_far (p := ⟨gb297, 3, none⟩) (Kd.R_far (p := ⟨gb297, 2, none⟩) (Kd.R_far (p := ⟨gb297, 1, none⟩) (Kd.R_far (p := ⟨gb297, 0, none⟩) (Kd.R_types HO_6.out BK297.out (by decide)) (fun _ hk => hk.2) (.int .i64 (wrap64 (1 + x8_1)))) (fun _ hk => hk.2) (.int .i64 (Go.bits .and .i64 x8_1 1))) (fun _ hk => hk.2) (.int .i64 (wrap64 (5 + x8_1)))) (fun _ hk => hk.2) (.int .i64 (wrap64 (100 + x8_1)))) (fun _ h_ => h_.1))) hb); have n1_ := Aside0.mk (blk_below (g := gb297) (o := .cells #[.int .i64 (wrap64 (1 + x8_1)), .int .i64 (Go.bits .and .i64 x8_1 1), .int .i64 (wrap64 (5 + x8_1)), .int .i64 (wrap64 (100 + x8_1))] 38 (0, 0)) (by (with_reducible repeat (first | refine blk_drewN ?_ _ | refine blk_drew ?_ | refine blk_alloc ?_ _)); refine blk_put (cs := #[.int .i64 (wrap64 (1 + x8_1)), .int .i64 (Go.bits .and .i64 x8_1 1), .int .i64 (wrap64 (5 + x8_1)), .int .i64 0]) ?_ 3 _ rfl; (with_reducible repeat (first | refine blk_drewN ?_ _ | refine blk_drew ?_ | refine blk_alloc ?_ _)); refine blk_put (cs := #[.int .i64 (wrap64 (1 + x8_1)), .int .i64 (Go.bits .and .i64 x8_1 1), .int .i64 0, .int .i64 0]) ?_ 2 _ rfl; (with_reducible repeat (first | refine blk_drewN ?_ _ | refine blk_drew ?_ | refine blk_alloc ?_ _)); refine blk_put (cs := #[.int .i64 (wrap64 (1 + x8_1)), .int .i64 0, .int .i64 0, .int .i64 0]) ?_ 1 _ rfl; (with_reducible repeat (first | refine blk_drewN ?_ _ | refine blk_drew ?_ | refine blk_alloc ?_ _)); refine blk_put (cs := #[.int .i64 0, .int .i64 0, .int .i64 0, .int .i64 0]) ?_ 0 _ rfl; (with_reducible repeat (first | refine blk_drewN ?_ _ | refine blk_drew ?_ | refine blk_alloc ?_ _)); exact BK297.out) hb); have n2_ := Aside0.mk (below_step (by repeat (first | (with_reducible first | exact HB.out | apply below_alloc | apply pw_below_drewN | apply below_drew1 | refine below_set ?_ GE297.out) | exact HB.out)) hb); clear HO_6; clear BK297; clear HB; have HO_6 := n0_; have BK297 := n1_; have HB := n2_; clear n0_ n1_ n2_; (try clear hb); (try clear hb2); (try clear hk); (try clear hi)) | ((with_reducible refine gate_callee (f := 17) rfl ?_); refine goesL_ (some 37) rfl rfl Try.func17 (by kernel_rfl) rfl #[] rfl (by (try simp only [List.map_toArray, List.map_cons, List.map_nil]); first | done | rfl | (simp only [List.length_drop, List.length_take]; rfl)) ?_; (with_reducible refine (skiffref1_Blank.calls  t303 _ A35.out).mono ?_); rintro e w49 ⟨rfl, hb⟩; refine ⟨_, rfl, ?_⟩; have n0_ := Aside0.mk (Kd.R_below (by (with_reducible repeat (first | apply Kd.R_alloc | apply Kd.R_drewN | apply Kd.R_drew)); exact HO_6.out) hb); have n1_ := Aside0.mk (blk_below (g := gb297) (o := .cells #[.int .i64 (wrap64 (1 + x8_1)), .int .i64 (Go.bits .and .i64 x8_1 1), .int .i64 (wrap64 (5 + x8_1)), .int .i64 (wrap64 (100 + x8_1))] 38 (0, 0)) (by (with_reducible repeat (first | refine blk_drewN ?_ _ | refine blk_drew ?_ | refine blk_alloc ?_ _)); exact BK297.out) hb); have n2_ := Aside0.mk (below_step (by repeat (first | (with_reducible first | exact HB.out | apply below_alloc | apply pw_below_drewN | apply below_drew1 | refine below_set ?_ GE297.out) | exact HB.out)) hb); clear HO_6; clear BK297; clear HB; have HO_6 := n0_; have BK297 := n1_; have HB := n2_; clear n0_ n1_ n2_; (try clear hb); (try clear hb2); (try clear hk); (try clear hi)))
             go_roundg k1
             case measure => have := HK1.out; omega
             case rel => exact ⟨(x5_1 ++ (t303.extract 0 24)), (x6_1), (x7_1), (wrap64 (x8_1 + 1)), (by first | (with_reducible rfl) | (rw [zt]; done) | (simp only [zt]; done) | (simp; done) | (simp [*]; done)), (by first | (with_reducible rfl) | (rw [zt]; done) | (simp only [zt]; done) | (simp; done) | (simp [*]; done)), (by first | (with_reducible rfl) | (rw [zt]; done) | (simp only [zt]; done) | (simp; done) | (simp [*]; done)), H', ⟨by have := HK1.out; omega⟩, ⟨by (with_reducible repeat (first | apply Kd.R_alloc | apply Kd.R_drewN | apply Kd.R_drew)); exact HO_6.out⟩, ⟨by repeat (first | (with_reducible first | exact HB.out | apply below_alloc | apply pw_below_drewN | apply below_drew1 | refine below_set ?_ GE297.out) | exact HB.out)⟩⟩
            ·rw [if_neg c45] at H
             exact absurd H (by simp)
          ·rw [if_neg c38] at H
           have c38b0 : decide (x7_1 < 0) = false := decide_eq_false c38
           clear c38
           by_cases c50 : x5_1.size + (t303.extract 0 24).size ≤ 9223372036854775807
           ·rw [if_pos c50] at H
            have c50b0 := eq_true c50
            have c50b1 : decide (x5_1.size + (t303.extract 0 24).size ≤ 9223372036854775807) = true := decide_eq_true c50
            try have c50b2 : (9223372036854775807 < x5_1.size + (t303.extract 0 24).size) = False := eq_false (Nat.not_lt.2 c50)
            have H' := Aside0.mk H
            clear H
            go_wp2_with (first | ((with_reducible refine gate_dst (N := 9) rfl ?_); refine box_event ?hg (N := 9) ?hd (cs := #[.int .i64 0, .int .i64 0, .int .i64 0, .int .i64 0]) (t := 38) ?hr ?_; (case hd => rfl); (case hg => rfl); (case hr => first | (go_simp; done) | (go_simp; rfl)); intro gb297 hg w51 hbox hb; have n0_ := Aside0.mk (Kd.R_below (by (with_reducible repeat (first | apply Kd.R_alloc | apply Kd.R_drewN | apply Kd.R_drew)); exact HO_6.out) hb); have n1_ := Aside0.mk (below_step (by repeat (first | (with_reducible first | exact HB.out | apply below_alloc | apply pw_below_drewN | apply below_drew1) | exact HB.out)) hb); have n2_ := Aside0.mk (hbox); have n3_ := Aside0.mk ((by rw [hg]; exact (below_size (by repeat (first | (with_reducible first | exact HB.out | apply below_alloc | apply pw_below_drewN | apply below_drew1) | exact HB.out))) : w.heap.size ≤ gb297)); have n4_ := Aside0.mk ((by rw [hg]; exact (below_size (by repeat (first | (with_reducible first | exact HB.out | apply below_alloc | apply pw_below_drewN | apply below_drew1) | exact HB.out))) : w.heap.size ≤ gb297)); clear HO_6; clear HB; have HO_6 := n0_; have HB := n1_; have BK297 := n2_; have GW297 := n3_; have GE297 := n4_; clear n0_ n1_ n2_ n3_ n4_; clear hb hbox hg; have hcz52_0 : w51.cell? ⟨gb297, 0, none⟩ = some (.int .i64 0) := (blk_cell BK297.out 0).trans rfl; have hcz52_1 : w51.cell? ⟨gb297, 1, none⟩ = some (.int .i64 0) := (blk_cell BK297.out 1).trans rfl; have hcz52_2 : w51.cell? ⟨gb297, 2, none⟩ = some (.int .i64 0) := (blk_cell BK297.out 2).trans rfl; have hcz52_3 : w51.cell? ⟨gb297, 3, none⟩ = some (.int .i64 0) := (blk_cell BK297.out 3).trans rfl; have hfz52_0 := blk_frozen BK297.out 0; have hfz52_1 := blk_frozen BK297.out 1; have hfz52_2 := blk_frozen BK297.out 2; have hfz52_3 := blk_frozen BK297.out 3) | ((with_reducible refine gate_callee (f := 16) rfl ?_); refine goesL_ (some 34) rfl rfl Try.func16 (by kernel_rfl) rfl #[.agg #[.int .i64 (wrap64 (1 + x8_1)), .int .i64 (Go.bits .and .i64 x8_1 1), .int .i64 (wrap64 (5 + x8_1)), .int .i64 (wrap64 (100 + x8_1))]] rfl (by (try simp only [List.map_toArray, List.map_cons, List.map_nil]); first | done | rfl | (simp only [List.length_drop, List.length_take]; rfl)) ?_; (with_reducible refine (skiffref1_PutEntry.calls (wrap64 (1 + x8_1)) (Go.bits .and .i64 x8_1 1) (wrap64 (5 + x8_1)) (wrap64 (100 + x8_1)) t298 t299 _ A7.out).mono ?_); rintro e w53 ⟨rfl, hb⟩; refine ⟨_, rfl, ?_⟩; have n0_ := Aside0.mk (Kd.R_below (by (with_reducible repeat (first | apply Kd.R_alloc | apply Kd.R_drewN | apply Kd.R_drew)); exact (Kd.R_mono (Kd.R_far (p := ⟨gb297, 3, none⟩) (Kd.R_far (p := ⟨gb297, 2, none⟩) (Kd.R_far (p := ⟨gb297, 1, none⟩) (Kd.R_far (p := ⟨gb297, 0, none⟩) (Kd.R_types HO_6.out BK297.out (by decide)) (fun _ hk => hk.2) (.int .i64 (wrap64 (1 + x8_1)))) (fun _ hk => hk.2) (.int .i64 (Go.bits .and .i64 x8_1 1))) (fun _ hk => hk.2) (.int .i64 (wrap64 (5 + x8_1)))) (fun _ hk => hk.2) (.int .i64 (wrap64 (100 + x8_1)))) (fun _ h_ => h_.1))) hb); have n1_ := Aside0.mk (blk_below (g := gb297) (o := .cells #[.int .i64 (wrap64 (1 + x8_1)), .int .i64 (Go.bits .and .i64 x8_1 1), .int .i64 (wrap64 (5 + x8_1)), .int .i64 (wrap64 (100 + x8_1))] 38 (0, 0)) (by (with_reducible repeat (first | refine blk_drewN ?_ _ | refine blk_drew ?_ | refine blk_alloc ?_ _)); refine blk_put (cs := #[.int .i64 (wrap64 (1 + x8_1)), .int .i64 (Go.bits .and .i64 x8_1 1), .int .i64 (wrap64 (5 + x8_1)), .int .i64 0]) ?_ 3 _ rfl; (with_reducible repeat (first | refine blk_drewN ?_ _ | refine blk_drew ?_ | refine blk_alloc ?_ _)); refine blk_put (cs := #[.int .i64 (wrap64 (1 + x8_1)), .int .i64 (Go.bits .and .i64 x8_1 1), .int .i64 0, .int .i64 0]) ?_ 2 _ rfl; (with_reducible repeat (first | refine blk_drewN ?_ _ | refine blk_drew ?_ | refine blk_alloc ?_ _)); refine blk_put (cs := #[.int .i64 (wrap64 (1 + x8_1)), .int .i64 0, .int .i64 0, .int .i64 0]) ?_ 1 _ rfl; (with_reducible repeat (first | refine blk_drewN ?_ _ | refine blk_drew ?_ | refine blk_alloc ?_ _)); refine blk_put (cs := #[.int .i64 0, .int .i64 0, .int .i64 0, .int .i64 0]) ?_ 0 _ rfl; (with_reducible repeat (first | refine blk_drewN ?_ _ | refine blk_drew ?_ | refine blk_alloc ?_ _)); exact BK297.out) hb); have n2_ := Aside0.mk (below_step (by repeat (first | (with_reducible first | exact HB.out | apply below_alloc | apply pw_below_drewN | apply below_drew1 | refine below_set ?_ GE297.out) | exact HB.out)) hb); clear HO_6; clear BK297; clear HB; have HO_6 := n0_; have BK297 := n1_; have HB := n2_; clear n0_ n1_ n2_; (try clear hb); (try clear hb2); (try clear hk); (try clear hi)) | ((with_reducible refine gate_callee (f := 17) rfl ?_); refine goesL_ (some 37) rfl rfl Try.func17 (by kernel_rfl) rfl #[] rfl (by (try simp only [List.map_toArray, List.map_cons, List.map_nil]); first | done | rfl | (simp only [List.length_drop, List.length_take]; rfl)) ?_; (with_reducible refine (skiffref1_Blank.calls  t303 _ A35.out).mono ?_); rintro e w54 ⟨rfl, hb⟩; refine ⟨_, rfl, ?_⟩; have n0_ := Aside0.mk (Kd.R_below (by (with_reducible repeat (first | apply Kd.R_alloc | apply Kd.R_drewN | apply Kd.R_drew)); exact HO_6.out) hb); have n1_ := Aside0.mk (blk_below (g := gb297) (o := .cells #[.int .i64 (wrap64 (1 + x8_1)), .int .i64 (Go.bits .and .i64 x8_1 1), .int .i64 (wrap64 (5 + x8_1)), .int .i64 (wrap64 (100 + x8_1))] 38 (0, 0)) (by (with_reducible repeat (first | refine blk_drewN ?_ _ | refine blk_drew ?_ | refine blk_alloc ?_ _)); exact BK297.out) hb); have n2_ := Aside0.mk (below_step (by repeat (first | (with_reducible first | exact HB.out | apply below_alloc | apply pw_below_drewN | apply below_drew1 | refine below_set ?_ GE297.out) | exact HB.out)) hb); clear HO_6; clear BK297; clear HB; have HO_6 := n0_; have BK297 := n1_; have HB := n2_; clear n0_ n1_ n2_; (try clear hb); (try clear hb2); (try clear hk); (try clear hi)))
            go_roundg k1
            case measure => have := HK1.out; omega
            case rel => exact ⟨(x5_1 ++ (t303.extract 0 24)), (x6_1), (x7_1), (wrap64 (x8_1 + 1)), (by first | (with_reducible rfl) | (rw [zt]; done) | (simp only [zt]; done) | (simp; done) | (simp [*]; done)), (by first | (with_reducible rfl) | (rw [zt]; done) | (simp only [zt]; done) | (simp; done) | (simp [*]; done)), (by first | (with_reducible rfl) | (rw [zt]; done) | (simp only [zt]; done) | (simp; done) | (simp [*]; done)), H', ⟨by have := HK1.out; omega⟩, ⟨by (with_reducible repeat (first | apply Kd.R_alloc | apply Kd.R_drewN | apply Kd.R_drew)); exact HO_6.out⟩, ⟨by repeat (first | (with_reducible first | exact HB.out | apply below_alloc | apply pw_below_drewN | apply below_drew1 | refine below_set ?_ GE297.out) | exact HB.out)⟩⟩
           ·rw [if_neg c50] at H
            exact absurd H (by simp)
         ·rw [if_neg c37] at H
          exact absurd H (by simp)
        ·rw [if_neg c36] at H
         exact absurd H (by simp)
     ·rw [if_neg c8] at H
      exact absurd H (by simp)
    ·rw [if_neg c6] at H
     have c6b0 : decide (x8_1 < 8) = false := decide_eq_false c6
     clear c6
     replace H := Option.bind_eq_some_iff.mp H
     obtain ⟨t304, A550, H⟩ := H
     replace H : (if 192 ≤ (t304.size : Int) then (if x5_1.size + (t304.extract 192 t304.size).size ≤ 9223372036854775807 then ((journal_Scan.f k1 (x5_1 ++ (t304.extract 192 t304.size))).bind fun bt305 => ((journal_Free.f k1 (x5_1 ++ (t304.extract 192 t304.size)) 0).bind fun bt309 => ((skifflaw0_Num.f bt305.2).bind fun t312 => (if t312 = 0 then ((skifflaw0_SamePlaces.f k1 bt305.1 x6_1).bind fun t313 => (if t313 = true then ((skifflaw0_Num.f bt309.2.2).bind fun t314 => (if t314 = 0 then (if (bt309.2.1 == (decide (x7_1 ≥ 0))) = true then (if bt309.2.1 = true then (some (bt309.1 == x7_1)) else (some true)) else (none)) else (none))) else (none))) else (none))))) else (none)) else (none)) = some r := H
     have A55 := Aside0.mk A550
     clear A550
     by_cases c56 : 192 ≤ (t304.size : Int)
     ·rw [if_pos c56] at H
      have c56b0 := eq_true c56
      have c56b1 : decide (192 ≤ (t304.size : Int)) = true := decide_eq_true c56
      clear c56
      by_cases c57 : x5_1.size + (t304.extract 192 t304.size).size ≤ 9223372036854775807
      ·rw [if_pos c57] at H
       have c57b0 := eq_true c57
       have c57b1 : decide (x5_1.size + (t304.extract 192 t304.size).size ≤ 9223372036854775807) = true := decide_eq_true c57
       try have c57b2 : (9223372036854775807 < x5_1.size + (t304.extract 192 t304.size).size) = False := eq_false (Nat.not_lt.2 c57)
       replace H := Option.bind_eq_some_iff.mp H
       obtain ⟨⟨t305, t306⟩, A580, H⟩ := H
       replace H : ((journal_Free.f k1 (x5_1 ++ (t304.extract 192 t304.size)) 0).bind fun bt309 => ((skifflaw0_Num.f t306).bind fun t312 => (if t312 = 0 then ((skifflaw0_SamePlaces.f k1 t305 x6_1).bind fun t313 => (if t313 = true then ((skifflaw0_Num.f bt309.2.2).bind fun t314 => (if t314 = 0 then (if (bt309.2.1 == (decide (x7_1 ≥ 0))) = true then (if bt309.2.1 = true then (some (bt309.1 == x7_1)) else (some true)) else (none)) else (none))) else (none))) else (none)))) = some r := H
       have A58 := Aside0.mk A580
       clear A580
       replace H := Option.bind_eq_some_iff.mp H
       obtain ⟨⟨t309, t310, t311⟩, A590, H⟩ := H
       replace H : ((skifflaw0_Num.f t306).bind fun t312 => (if t312 = 0 then ((skifflaw0_SamePlaces.f k1 t305 x6_1).bind fun t313 => (if t313 = true then ((skifflaw0_Num.f t311).bind fun t314 => (if t314 = 0 then (if (t310 == (decide (x7_1 ≥ 0))) = true then (if t310 = true then (some (t309 == x7_1)) else (some true)) else (none)) else (none))) else (none))) else (none))) = some r := H
       have A59 := Aside0.mk A590
       clear A590
       replace H := Option.bind_eq_some_iff.mp H
       obtain ⟨t312, A600, H⟩ := H
       replace H : (if t312 = 0 then ((skifflaw0_SamePlaces.f k1 t305 x6_1).bind fun t313 => (if t313 = true then ((skifflaw0_Num.f t311).bind fun t314 => (if t314 = 0 then (if (t310 == (decide (x7_1 ≥ 0))) = true then (if t310 = true then (some (t309 == x7_1)) else (some true)) else (none)) else (none))) else (none))) else (none)) = some r := H
       have A60 := Aside0.mk A600
       clear A600
       by_cases c61 : t312 = 0
       ·rw [if_pos c61] at H
        have c61b0 : (t312 == 0) = true := beq_iff_eq.mpr c61
        have c61b1 : (t312 != 0) = false := bne_eq_false_iff_eq.mpr c61
        clear c61
        replace H := Option.bind_eq_some_iff.mp H
        obtain ⟨t313, A620, H⟩ := H
        replace H : (if t313 = true then ((skifflaw0_Num.f t311).bind fun t314 => (if t314 = 0 then (if (t310 == (decide (x7_1 ≥ 0))) = true then (if t310 = true then (some (t309 == x7_1)) else (some true)) else (none)) else (none))) else (none)) = some r := H
        have A62 := Aside0.mk A620
        clear A620
        by_cases c63 : t313 = true
        ·subst c63
         have H1 : ((skifflaw0_Num.f t311).bind fun t314 => (if t314 = 0 then (if (t310 == (decide (x7_1 ≥ 0))) = true then (if t310 = true then (some (t309 == x7_1)) else (some true)) else (none)) else (none))) = some r := by rw [if_pos rfl] at H; exact H
         clear H
         have H := H1
         clear H1
         replace H := Option.bind_eq_some_iff.mp H
         obtain ⟨t314, A640, H⟩ := H
         replace H : (if t314 = 0 then (if (t310 == (decide (x7_1 ≥ 0))) = true then (if t310 = true then (some (t309 == x7_1)) else (some true)) else (none)) else (none)) = some r := H
         have A64 := Aside0.mk A640
         clear A640
         by_cases c65 : t314 = 0
         ·rw [if_pos c65] at H
          have c65b0 : (t314 == 0) = true := beq_iff_eq.mpr c65
          have c65b1 : (t314 != 0) = false := bne_eq_false_iff_eq.mpr c65
          clear c65
          by_cases c66 : (t310 == (decide (x7_1 ≥ 0))) = true
          ·rw [if_pos c66] at H
           have c66b0 : (t310 == (decide (x7_1 ≥ 0))) = true := c66
           (try (have c66b1 : decide (t310 = (decide (x7_1 ≥ 0))) = true := by simpa using c66))
           (try (have c66b2 : (t310 == (decide (x7_1 ≥ 0))) = true := by simpa using c66))
           clear c66
           by_cases c67 : t310 = true
           ·subst c67
            have H1 : (some (t309 == x7_1)) = some r := by rw [if_pos rfl] at H; exact H
            clear H
            have H := H1
            clear H1
            obtain rfl := Option.some.inj H
            go_wp2_with (first | ((with_reducible refine gate_callee (f := 17) rfl ?_); refine goesL_ (some 79) rfl rfl Try.func17 (by kernel_rfl) rfl #[] rfl (by (try simp only [List.map_toArray, List.map_cons, List.map_nil]); first | done | rfl | (simp only [List.length_drop, List.length_take]; rfl)) ?_; (with_reducible refine (skiffref1_Blank.calls  t304 _ A55.out).mono ?_); rintro e w68 ⟨rfl, hb⟩; refine ⟨_, rfl, ?_⟩; have n0_ := Aside0.mk (Kd.R_below (by (with_reducible repeat (first | apply Kd.R_alloc | apply Kd.R_drewN | apply Kd.R_drew)); exact HO_6.out) hb); have n1_ := Aside0.mk (below_step (by repeat (first | (with_reducible first | exact HB.out | apply below_alloc | apply pw_below_drewN | apply below_drew1) | exact HB.out)) hb); clear HO_6; clear HB; have HO_6 := n0_; have HB := n1_; clear n0_ n1_; (try clear hb); (try clear hb2); (try clear hk); (try clear hi)) | ((with_reducible refine gate_callee (f := 8) rfl ?_); refine goesL_ (some 84) rfl rfl Try.func8 (by kernel_rfl) rfl #[.string (x5_1 ++ (t304.extract 192 t304.size))] rfl (by (try simp only [List.map_toArray, List.map_cons, List.map_nil]); first | done | rfl | (simp only [List.length_drop, List.length_take]; rfl)) ?_; (with_reducible refine (journal_Scan.calls k1 (x5_1 ++ (t304.extract 192 t304.size)) t305 t306 _ A58.out).mono ?_); rintro e w69 ⟨v307, rfl, ho0, hb⟩; refine ⟨_, rfl, ?_⟩; have n0_ := Aside0.mk (Kd.R_elder' (by (with_reducible repeat (first | apply Kd.R_alloc | apply Kd.R_drewN | apply Kd.R_drew)); exact HO_6.out) (Kd.R_base ho0) hb); have n1_ := Aside0.mk (Kd.R_lower (Kd.R_new' ho0 (Kd.R_lt (by (with_reducible repeat (first | apply Kd.R_alloc | apply Kd.R_drewN | apply Kd.R_drew)); exact HO_6.out))) (below_size (by repeat (first | (with_reducible first | exact HB.out | apply below_alloc | apply pw_below_drewN | apply below_drew1) | exact HB.out)))); have n2_ := Aside0.mk (below_step (by repeat (first | (with_reducible first | exact HB.out | apply below_alloc | apply pw_below_drewN | apply below_drew1) | exact HB.out)) hb); clear HO_6; clear HB; have HO_6 := n0_; have HO308 := n1_; have HB := n2_; clear n0_ n1_ n2_; (try clear hb); (try clear hb2); (try clear hk); (try clear hi); (try clear ho0)) | ((with_reducible refine gate_callee (f := 10) rfl ?_); refine goesL_ (some 89) rfl rfl Try.func10 (by kernel_rfl) rfl #[.string (x5_1 ++ (t304.extract 192 t304.size)), .int .i64 0] rfl (by (try simp only [List.map_toArray, List.map_cons, List.map_nil]); first | done | rfl | (simp only [List.length_drop, List.length_take]; rfl)) ?_; (with_reducible refine (journal_Free.calls k1 (x5_1 ++ (t304.extract 192 t304.size)) 0 t309 true t311 _ A59.out).mono ?_); rintro e w70 ⟨rfl, hb⟩; refine ⟨_, rfl, ?_⟩; have n0_ := Aside0.mk (Kd.R_below (by (with_reducible repeat (first | apply Kd.R_alloc | apply Kd.R_drewN | apply Kd.R_drew)); exact HO_6.out) hb); have n1_ := Aside0.mk (Kd.R_below (by (with_reducible repeat (first | apply Kd.R_alloc | apply Kd.R_drewN | apply Kd.R_drew)); exact HO308.out) hb); have n2_ := Aside0.mk (below_step (by repeat (first | (with_reducible first | exact HB.out | apply below_alloc | apply pw_below_drewN | apply below_drew1) | exact HB.out)) hb); clear HO_6; clear HO308; clear HB; have HO_6 := n0_; have HO308 := n1_; have HB := n2_; clear n0_ n1_ n2_; (try clear hb); (try clear hb2); (try clear hk); (try clear hi)) | ((with_reducible refine gate_callee (f := 13) rfl ?_); refine goesL_ (some 94) rfl rfl Try.func13 (by kernel_rfl) rfl #[.int .i64 t306] rfl (by (try simp only [List.map_toArray, List.map_cons, List.map_nil]); first | done | rfl | (simp only [List.length_drop, List.length_take]; rfl)) ?_; (with_reducible refine (skifflaw0_Num.calls t306 t312 _ A60.out).mono ?_); rintro e w' ⟨rfl, ⟨nd, rfl⟩⟩; refine ⟨_, rfl, ?_⟩; obtain ⟨Ao71, co71, eo71⟩ := Kd.R_slice HO308.out; subst eo71; obtain ⟨Ao72, co72, eo72⟩ := Kd.R_slice HO_6.out; subst eo72) | (go_at_call 12; (with_reducible refine (skifflaw0_SamePlaces.calls k1 _ _ t305 _ _ x6_1 true _ ?side1 ?side2 ?side3 ?side4 A62.out).mono ?_); (case side1 => repeat (first | exact (Kd.R_reads' HO308.out).2.2 | (with_reducible refine Kd.C_alloc ?_ _) | (with_reducible refine Kd.C_drewN ?_ _) | (with_reducible refine Kd.C_drew ?_))); (case side2 => exact (Kd.R_reads' HO308.out).2.1); (case side3 => repeat (first | exact (Kd.R_reads' HO_6.out).2.2 | (with_reducible refine Kd.C_alloc ?_ _) | (with_reducible refine Kd.C_drewN ?_ _) | (with_reducible refine Kd.C_drew ?_))); (case side4 => exact (Kd.R_reads' HO_6.out).2.1); rintro e w' ⟨rfl, ⟨nd, rfl⟩⟩) | (go_at_call 13; (with_reducible refine (skifflaw0_Num.calls t311 t314 _ A64.out).mono ?_); rintro e w' ⟨rfl, ⟨nd, rfl⟩⟩))
            go_ret
            exact ⟨by first | rfl | (simp [errW_none, errW_some] <;> rfl) | (simp [*, errW_none, errW_some] <;> rfl), by repeat (first | (with_reducible first | exact HB.out | apply below_alloc | apply pw_below_drewN | apply below_drew1) | exact HB.out)⟩
           ·replace c67 := Bool.eq_false_iff.mpr c67
            subst c67
            have H1 : (some true) = some r := by rw [if_neg (show ¬ (false = true) by decide)] at H; exact H
            clear H
            have H := H1
            clear H1
            obtain rfl := Option.some.inj H
            go_wp2_with (first | ((with_reducible refine gate_callee (f := 17) rfl ?_); refine goesL_ (some 79) rfl rfl Try.func17 (by kernel_rfl) rfl #[] rfl (by (try simp only [List.map_toArray, List.map_cons, List.map_nil]); first | done | rfl | (simp only [List.length_drop, List.length_take]; rfl)) ?_; (with_reducible refine (skiffref1_Blank.calls  t304 _ A55.out).mono ?_); rintro e w73 ⟨rfl, hb⟩; refine ⟨_, rfl, ?_⟩; have n0_ := Aside0.mk (Kd.R_below (by (with_reducible repeat (first | apply Kd.R_alloc | apply Kd.R_drewN | apply Kd.R_drew)); exact HO_6.out) hb); have n1_ := Aside0.mk (below_step (by repeat (first | (with_reducible first | exact HB.out | apply below_alloc | apply pw_below_drewN | apply below_drew1) | exact HB.out)) hb); clear HO_6; clear HB; have HO_6 := n0_; have HB := n1_; clear n0_ n1_; (try clear hb); (try clear hb2); (try clear hk); (try clear hi)) | ((with_reducible refine gate_callee (f := 8) rfl ?_); refine goesL_ (some 84) rfl rfl Try.func8 (by kernel_rfl) rfl #[.string (x5_1 ++ (t304.extract 192 t304.size))] rfl (by (try simp only [List.map_toArray, List.map_cons, List.map_nil]); first | done | rfl | (simp only [List.length_drop, List.length_take]; rfl)) ?_; (with_reducible refine (journal_Scan.calls k1 (x5_1 ++ (t304.extract 192 t304.size)) t305 t306 _ A58.out).mono ?_); rintro e w74 ⟨v307, rfl, ho0, hb⟩; refine ⟨_, rfl, ?_⟩; have n0_ := Aside0.mk (Kd.R_elder' (by (with_reducible repeat (first | apply Kd.R_alloc | apply Kd.R_drewN | apply Kd.R_drew)); exact HO_6.out) (Kd.R_base ho0) hb); have n1_ := Aside0.mk (Kd.R_lower (Kd.R_new' ho0 (Kd.R_lt (by (with_reducible repeat (first | apply Kd.R_alloc | apply Kd.R_drewN | apply Kd.R_drew)); exact HO_6.out))) (below_size (by repeat (first | (with_reducible first | exact HB.out | apply below_alloc | apply pw_below_drewN | apply below_drew1) | exact HB.out)))); have n2_ := Aside0.mk (below_step (by repeat (first | (with_reducible first | exact HB.out | apply below_alloc | apply pw_below_drewN | apply below_drew1) | exact HB.out)) hb); clear HO_6; clear HB; have HO_6 := n0_; have HO308 := n1_; have HB := n2_; clear n0_ n1_ n2_; (try clear hb); (try clear hb2); (try clear hk); (try clear hi); (try clear ho0)) | ((with_reducible refine gate_callee (f := 10) rfl ?_); refine goesL_ (some 89) rfl rfl Try.func10 (by kernel_rfl) rfl #[.string (x5_1 ++ (t304.extract 192 t304.size)), .int .i64 0] rfl (by (try simp only [List.map_toArray, List.map_cons, List.map_nil]); first | done | rfl | (simp only [List.length_drop, List.length_take]; rfl)) ?_; (with_reducible refine (journal_Free.calls k1 (x5_1 ++ (t304.extract 192 t304.size)) 0 t309 false t311 _ A59.out).mono ?_); rintro e w75 ⟨rfl, hb⟩; refine ⟨_, rfl, ?_⟩; have n0_ := Aside0.mk (Kd.R_below (by (with_reducible repeat (first | apply Kd.R_alloc | apply Kd.R_drewN | apply Kd.R_drew)); exact HO_6.out) hb); have n1_ := Aside0.mk (Kd.R_below (by (with_reducible repeat (first | apply Kd.R_alloc | apply Kd.R_drewN | apply Kd.R_drew)); exact HO308.out) hb); have n2_ := Aside0.mk (below_step (by repeat (first | (with_reducible first | exact HB.out | apply below_alloc | apply pw_below_drewN | apply below_drew1) | exact HB.out)) hb); clear HO_6; clear HO308; clear HB; have HO_6 := n0_; have HO308 := n1_; have HB := n2_; clear n0_ n1_ n2_; (try clear hb); (try clear hb2); (try clear hk); (try clear hi)) | ((with_reducible refine gate_callee (f := 13) rfl ?_); refine goesL_ (some 94) rfl rfl Try.func13 (by kernel_rfl) rfl #[.int .i64 t306] rfl (by (try simp only [List.map_toArray, List.map_cons, List.map_nil]); first | done | rfl | (simp only [List.length_drop, List.length_take]; rfl)) ?_; (with_reducible refine (skifflaw0_Num.calls t306 t312 _ A60.out).mono ?_); rintro e w' ⟨rfl, ⟨nd, rfl⟩⟩; refine ⟨_, rfl, ?_⟩; obtain ⟨Ao76, co76, eo76⟩ := Kd.R_slice HO308.out; subst eo76; obtain ⟨Ao77, co77, eo77⟩ := Kd.R_slice HO_6.out; subst eo77) | (go_at_call 12; (with_reducible refine (skifflaw0_SamePlaces.calls k1 _ _ t305 _ _ x6_1 true _ ?side1 ?side2 ?side3 ?side4 A62.out).mono ?_); (case side1 => repeat (first | exact (Kd.R_reads' HO308.out).2.2 | (with_reducible refine Kd.C_alloc ?_ _) | (with_reducible refine Kd.C_drewN ?_ _) | (with_reducible refine Kd.C_drew ?_))); (case side2 => exact (Kd.R_reads' HO308.out).2.1); (case side3 => repeat (first | exact (Kd.R_reads' HO_6.out).2.2 | (with_reducible refine Kd.C_alloc ?_ _) | (with_reducible refine Kd.C_drewN ?_ _) | (with_reducible refine Kd.C_drew ?_))); (case side4 => exact (Kd.R_reads' HO_6.out).2.1); rintro e w' ⟨rfl, ⟨nd, rfl⟩⟩) | (go_at_call 13; (with_reducible refine (skifflaw0_Num.calls t311 t314 _ A64.out).mono ?_); rintro e w' ⟨rfl, ⟨nd, rfl⟩⟩))
            go_ret
            exact ⟨by first | rfl | (simp [errW_none, errW_some] <;> rfl) | (simp [*, errW_none, errW_some] <;> rfl), by repeat (first | (with_reducible first | exact HB.out | apply below_alloc | apply pw_below_drewN | apply below_drew1) | exact HB.out)⟩
          ·rw [if_neg c66] at H
           exact absurd H (by simp)
         ·rw [if_neg c65] at H
          exact absurd H (by simp)
        ·replace c63 := Bool.eq_false_iff.mpr c63
         subst c63
         have H1 : (none) = some r := by rw [if_neg (show ¬ (false = true) by decide)] at H; exact H
         clear H
         have H := H1
         clear H1
         exact absurd H (by simp)
       ·rw [if_neg c61] at H
        exact absurd H (by simp)
      ·rw [if_neg c57] at H
       exact absurd H (by simp)
     ·rw [if_neg c56] at H
      exact absurd H (by simp)
 ·replace c4 := Bool.eq_false_iff.mpr c4
  subst c4
  have H1 : (none) = some r := by rw [if_neg (show ¬ (false = true) by decide)] at H; exact H
  clear H
  have H := H1
  clear H1
  exact absurd H (by simp)

/-- THE ONE PURE STATEMENT of skifflaw5_JournalRow: yours. -/
def skifflaw5_JournalRow.Pure : Prop := ∀ (a0 : Int) (a1 : Int), (Lit.int .i64 a0).wf = true → (Lit.int .i64 a1).wf = true → ∃ k, skifflaw5_JournalRow.f k a0 a1 = some true
theorem skifflaw5_JournalRow.walk (P : skifflaw5_JournalRow.Pure) (a0 : Int) (a1 : Int) (w : World) (w0 : (Lit.int .i64 a0).wf = true) (w1 : (Lit.int .i64 a1).wf = true) :
  Calls Try.prog 5 #[.int .i64 a0, .int .i64 a1] w fun e w' => e = .returned (.bool true) ∧ Below w.heap.size w w' := by
 obtain ⟨k, h⟩ := P a0 a1 w0 w1
 refine (skifflaw5_JournalRow.calls k a0 a1 true w h).mono ?_
 rintro e w' ⟨rfl, hd⟩
 exact ⟨rfl, hd⟩

end Go.Proofs.Ytfjoekpgaiaifaa.P
