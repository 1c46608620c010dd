/- Texts of this claim, laid together. -/
import Derived.Test.YthkpaoajfiapkaaGreatZ0Cz
import Derived.Test.YthkpaoajfiapkaaGreatZ0M22
import Derived.Test.YthkpaoajfiapkaaGreatZ0M23
import Derived.Test.YthkpaoajfiapkaaGreatZ0M24
section
namespace Go.Proofs.YthkpaoajfiapkaaGreat.P
open Go.RowKit Go.Proofs.YthkpaoajfiapkaaGreatW.PrintWords Go.Proofs.YthkpaoajfiapkaaGreatW.PrintLast Go.Proofs.YthkpaoajfiapkaaGreatW.PrintMore
attribute [local go_sem] max2_int min2_int max_two min_two max_three min_three max_four min_four   -- for this text's walks alone
set_option linter.unusedVariables false
set_option linter.unusedSimpArgs false

attribute [local go_sem high] eqA41
/-! ### skiffref1_ImageOf: function 72 -/
def skiffref1_ImageOf.f (a0 : ByteArray) (a1_0 : Int) (a1_1 : Int) (a1_2 : Int) (a1_3 : Int) : Option (ByteArray × Int) := (skiffref1_FlashMay.f a0).bind fun t293 => (if t293 = true then ((skiffref1_RecordMay.f a1_0 a1_1 a1_2 a1_3).bind fun t294 => (if t294 = true then ((skiffref1_Base.f a1_1).bind fun bt295 => (if 0 ≤ bt295.1 then (if bt295.1 ≤ (wrap64 (bt295.1 + a1_2)) then (if (wrap64 (bt295.1 + a1_2)) ≤ (a0.size : Int) then (some (a0.extract (bt295.1 : Int).toNat ((wrap64 (bt295.1 + a1_2)) : Int).toNat, 0)) else (none)) else (none)) else (none))) else (some ((⟨#[]⟩ : ByteArray), 600)))) else (some ((⟨#[]⟩ : ByteArray), 600)))
set_option maxHeartbeats 8000000 in
set_option maxRecDepth 100000 in
theorem skiffref1_ImageOf.calls (a0 : ByteArray) (a1_0 : Int) (a1_1 : Int) (a1_2 : Int) (a1_3 : Int) (r1 : ByteArray) (r2 : Int) (w : World) (h : skiffref1_ImageOf.f a0 a1_0 a1_1 a1_2 a1_3 = some (r1, r2)) :
  Calls Tryz.prog 72 #[.string a0, .agg #[.int .i64 a1_0, .int .i64 a1_1, .int .i64 a1_2, .int .i64 a1_3]] w fun e w' => e = .returned (.tuple #[.string r1, .int .i64 r2]) ∧ Below w.heap.size w w' := by
 have hu66 := Tryz.underlying66
 have HB := Aside0.mk (Below.refl w.heap.size w)
 have H : ((skiffref1_FlashMay.f a0).bind fun t293 => (if t293 = true then ((skiffref1_RecordMay.f a1_0 a1_1 a1_2 a1_3).bind fun t294 => (if t294 = true then ((skiffref1_Base.f a1_1).bind fun bt295 => (if 0 ≤ bt295.1 then (if bt295.1 ≤ (wrap64 (bt295.1 + a1_2)) then (if (wrap64 (bt295.1 + a1_2)) ≤ (a0.size : Int) then (some (a0.extract (bt295.1 : Int).toNat ((wrap64 (bt295.1 + a1_2)) : Int).toNat, 0)) else (none)) else (none)) else (none))) else (some ((⟨#[]⟩ : ByteArray), 600)))) else (some ((⟨#[]⟩ : ByteArray), 600)))) = some (r1, r2) := h
 clear h
 replace H := Option.bind_eq_some_iff.mp H
 obtain ⟨t293, A30, H⟩ := H
 replace H : (if t293 = true then ((skiffref1_RecordMay.f a1_0 a1_1 a1_2 a1_3).bind fun t294 => (if t294 = true then ((skiffref1_Base.f a1_1).bind fun bt295 => (if 0 ≤ bt295.1 then (if bt295.1 ≤ (wrap64 (bt295.1 + a1_2)) then (if (wrap64 (bt295.1 + a1_2)) ≤ (a0.size : Int) then (some (a0.extract (bt295.1 : Int).toNat ((wrap64 (bt295.1 + a1_2)) : Int).toNat, 0)) else (none)) else (none)) else (none))) else (some ((⟨#[]⟩ : ByteArray), 600)))) else (some ((⟨#[]⟩ : ByteArray), 600))) = some (r1, r2) := H
 have A3 := Aside0.mk A30
 clear A30
 by_cases c4 : t293 = true
 ·subst c4
  have H1 : ((skiffref1_RecordMay.f a1_0 a1_1 a1_2 a1_3).bind fun t294 => (if t294 = true then ((skiffref1_Base.f a1_1).bind fun bt295 => (if 0 ≤ bt295.1 then (if bt295.1 ≤ (wrap64 (bt295.1 + a1_2)) then (if (wrap64 (bt295.1 + a1_2)) ≤ (a0.size : Int) then (some (a0.extract (bt295.1 : Int).toNat ((wrap64 (bt295.1 + a1_2)) : Int).toNat, 0)) else (none)) else (none)) else (none))) else (some ((⟨#[]⟩ : ByteArray), 600)))) = some (r1, r2) := by rw [if_pos rfl] at H; exact H
  clear H; have H := H1; clear H1
  replace H := Option.bind_eq_some_iff.mp H
  obtain ⟨t294, A50, H⟩ := H
  replace H : (if t294 = true then ((skiffref1_Base.f a1_1).bind fun bt295 => (if 0 ≤ bt295.1 then (if bt295.1 ≤ (wrap64 (bt295.1 + a1_2)) then (if (wrap64 (bt295.1 + a1_2)) ≤ (a0.size : Int) then (some (a0.extract (bt295.1 : Int).toNat ((wrap64 (bt295.1 + a1_2)) : Int).toNat, 0)) else (none)) else (none)) else (none))) else (some ((⟨#[]⟩ : ByteArray), 600))) = some (r1, r2) := H
  have A5 := Aside0.mk A50
  clear A50
  by_cases c6 : t294 = true
  ·subst c6
   have H1 : ((skiffref1_Base.f a1_1).bind fun bt295 => (if 0 ≤ bt295.1 then (if bt295.1 ≤ (wrap64 (bt295.1 + a1_2)) then (if (wrap64 (bt295.1 + a1_2)) ≤ (a0.size : Int) then (some (a0.extract (bt295.1 : Int).toNat ((wrap64 (bt295.1 + a1_2)) : Int).toNat, 0)) else (none)) else (none)) else (none))) = some (r1, r2) := by rw [if_pos rfl] at H; exact H
   clear H; have H := H1; clear H1
   replace H := Option.bind_eq_some_iff.mp H
   obtain ⟨⟨t295, t296⟩, A70, H⟩ := H
   replace H : (if 0 ≤ t295 then (if t295 ≤ (wrap64 (t295 + a1_2)) then (if (wrap64 (t295 + a1_2)) ≤ (a0.size : Int) then (some (a0.extract (t295 : Int).toNat ((wrap64 (t295 + a1_2)) : Int).toNat, 0)) else (none)) else (none)) else (none)) = some (r1, r2) := H
   have A7 := Aside0.mk A70
   clear A70
   by_cases c8 : 0 ≤ t295
   case neg =>
    rw [if_neg c8] at H
    exact absurd H (by simp)
   rw [if_pos c8] at H
   have c8b0 := eq_true c8
   have c8b1 : decide (0 ≤ t295) = true := decide_eq_true c8
   clear c8
   by_cases c9 : t295 ≤ (wrap64 (t295 + a1_2))
   case neg =>
    rw [if_neg c9] at H
    exact absurd H (by simp)
   rw [if_pos c9] at H
   have c9b0 := eq_true c9
   have c9b1 : decide (t295 ≤ (wrap64 (t295 + a1_2))) = true := decide_eq_true c9
   by_cases c10 : (wrap64 (t295 + a1_2)) ≤ (a0.size : Int)
   case neg =>
    rw [if_neg c10] at H
    exact absurd H (by simp)
   rw [if_pos c10] at H
   have c10b0 := eq_true c10
   have c10b1 : decide ((wrap64 (t295 + a1_2)) ≤ (a0.size : Int)) = true := decide_eq_true c10
   simp only [Option.some.injEq, Prod.mk.injEq] at H
   obtain ⟨rfl, rfl⟩ := H
   go_enter Tryz.func72, Tryz.ntmps72
   go_wp2_with (first | ((with_reducible refine gate_dst (N := 3) rfl ?_); refine box_event ?hg (N := 3) ?hd (cs := #[.int .i64 a1_0, .int .i64 a1_1, .int .i64 a1_2, .int .i64 a1_3]) (t := 66) ?hr ?_; (case hd => rfl); (case hg => rfl); (case hr => first | (go_simp; done) | (go_simp; rfl)); intro gb292 hg w11 hbox hb; have n0_ := Aside0.mk (below_step (kb HB.out) hb); have n1_ := Aside0.mk (hbox); have n2_ := Aside0.mk ((kz hg (below_size (kb HB.out)) : w.heap.size ≤ gb292)); have n3_ := Aside0.mk ((kz hg (below_size (kb HB.out)) : w.heap.size ≤ gb292)); clear HB; have HB := n0_; have BK292 := n1_; have GW292 := n2_; have GE292 := n3_; clear n0_ n1_ n2_ n3_; clear hb hbox hg) | ((with_reducible refine gate_callee (f := 50) rfl ?_); refine goesL_ (some 9) rfl rfl Tryz.func50 (by kernel_rfl) rfl #[.string a0] rfl ka ?_; (with_reducible refine (skiffref1_FlashMay.calls a0 true _ A3.out).mono ?_); rintro e w' ⟨rfl, ⟨nd, rfl⟩⟩; refine ⟨_, rfl, ?_⟩; obtain ⟨hcz12_0, hcz12_1, hcz12_2, hcz12_3⟩ := kc4 BK292.out; obtain ⟨hfz12_0, hfz12_1, hfz12_2, hfz12_3⟩ := kf4 BK292.out) | (go_at_call 82; (with_reducible refine (skiffref1_RecordMay.calls a1_0 a1_1 a1_2 a1_3 true _ A5.out).mono ?_); rintro e w13 ⟨rfl, hb⟩; have n0_ := Aside0.mk (kL BK292.out hb); have n1_ := Aside0.mk (below_step (kb1 HB.out GE292.out) hb); clear BK292; clear HB; have BK292 := n0_; have HB := n1_; clear n0_ n1_; (try clear hb); (try clear hb2); (try clear hk); (try clear hi); obtain ⟨hcz14_0, hcz14_1, hcz14_2, hcz14_3⟩ := kc4 BK292.out; obtain ⟨hfz14_0, hfz14_1, hfz14_2, hfz14_3⟩ := kf4 BK292.out) | ((with_reducible refine gate_callee (f := 18) rfl ?_); refine goesL_ (some 19) rfl rfl Tryz.func18 (by kernel_rfl) rfl #[.int .i64 a1_1] rfl ka ?_; (with_reducible refine (skiffref1_Base.calls a1_1 t295 t296 _ A7.out).mono ?_); rintro e w' ⟨rfl, ⟨nd, rfl⟩⟩; refine ⟨_, rfl, ?_⟩))
   go_ret2
   exact ⟨by first | rfl | (simp [errW_none, errW_some] <;> rfl) | (simp [*, errW_none, errW_some] <;> rfl), kb1 HB.out GE292.out⟩
  ·replace c6 := Bool.eq_false_iff.mpr c6
   subst c6
   have H1 : (some ((⟨#[]⟩ : ByteArray), 600)) = some (r1, r2) := by rw [if_neg (show ¬ (false = true) by decide)] at H; exact H
   clear H; have H := H1; clear H1
   simp only [Option.some.injEq, Prod.mk.injEq] at H
   obtain ⟨rfl, rfl⟩ := H
   go_enter Tryz.func72, Tryz.ntmps72
   go_wp2_with (first | ((with_reducible refine gate_dst (N := 3) rfl ?_); refine box_event ?hg (N := 3) ?hd (cs := #[.int .i64 a1_0, .int .i64 a1_1, .int .i64 a1_2, .int .i64 a1_3]) (t := 66) ?hr ?_; (case hd => rfl); (case hg => rfl); (case hr => first | (go_simp; done) | (go_simp; rfl)); intro gb292 hg w15 hbox hb; have n0_ := Aside0.mk (below_step (kb HB.out) hb); have n1_ := Aside0.mk (hbox); have n2_ := Aside0.mk ((kz hg (below_size (kb HB.out)) : w.heap.size ≤ gb292)); have n3_ := Aside0.mk ((kz hg (below_size (kb HB.out)) : w.heap.size ≤ gb292)); clear HB; have HB := n0_; have BK292 := n1_; have GW292 := n2_; have GE292 := n3_; clear n0_ n1_ n2_ n3_; clear hb hbox hg) | ((with_reducible refine gate_callee (f := 50) rfl ?_); refine goesL_ (some 9) rfl rfl Tryz.func50 (by kernel_rfl) rfl #[.string a0] rfl ka ?_; (with_reducible refine (skiffref1_FlashMay.calls a0 true _ A3.out).mono ?_); rintro e w' ⟨rfl, ⟨nd, rfl⟩⟩; refine ⟨_, rfl, ?_⟩; obtain ⟨hcz16_0, hcz16_1, hcz16_2, hcz16_3⟩ := kc4 BK292.out; obtain ⟨hfz16_0, hfz16_1, hfz16_2, hfz16_3⟩ := kf4 BK292.out) | (go_at_call 82; (with_reducible refine (skiffref1_RecordMay.calls a1_0 a1_1 a1_2 a1_3 false _ A5.out).mono ?_); rintro e w17 ⟨rfl, hb⟩; have n0_ := Aside0.mk (kL BK292.out hb); have n1_ := Aside0.mk (below_step (kb1 HB.out GE292.out) hb); clear BK292; clear HB; have BK292 := n0_; have HB := n1_; clear n0_ n1_; (try clear hb); (try clear hb2); (try clear hk); (try clear hi)))
   go_ret2
   exact ⟨by first | rfl | (simp [errW_none, errW_some] <;> rfl) | (simp [*, errW_none, errW_some] <;> rfl), kb1 HB.out GE292.out⟩
 ·replace c4 := Bool.eq_false_iff.mpr c4
  subst c4
  have H1 : (some ((⟨#[]⟩ : ByteArray), 600)) = some (r1, r2) := by rw [if_neg (show ¬ (false = true) by decide)] at H; exact H
  clear H; have H := H1; clear H1
  simp only [Option.some.injEq, Prod.mk.injEq] at H
  obtain ⟨rfl, rfl⟩ := H
  go_enter Tryz.func72, Tryz.ntmps72
  go_wp2_with (first | ((with_reducible refine gate_dst (N := 3) rfl ?_); refine box_event ?hg (N := 3) ?hd (cs := #[.int .i64 a1_0, .int .i64 a1_1, .int .i64 a1_2, .int .i64 a1_3]) (t := 66) ?hr ?_; (case hd => rfl); (case hg => rfl); (case hr => first | (go_simp; done) | (go_simp; rfl)); intro gb292 hg w18 hbox hb; have n0_ := Aside0.mk (below_step (kb HB.out) hb); have n1_ := Aside0.mk (hbox); have n2_ := Aside0.mk ((kz hg (below_size (kb HB.out)) : w.heap.size ≤ gb292)); have n3_ := Aside0.mk ((kz hg (below_size (kb HB.out)) : w.heap.size ≤ gb292)); clear HB; have HB := n0_; have BK292 := n1_; have GW292 := n2_; have GE292 := n3_; clear n0_ n1_ n2_ n3_; clear hb hbox hg) | ((with_reducible refine gate_callee (f := 50) rfl ?_); refine goesL_ (some 9) rfl rfl Tryz.func50 (by kernel_rfl) rfl #[.string a0] rfl ka ?_; (with_reducible refine (skiffref1_FlashMay.calls a0 false _ A3.out).mono ?_); rintro e w' ⟨rfl, ⟨nd, rfl⟩⟩; refine ⟨_, rfl, ?_⟩))
  go_ret2
  exact ⟨by first | rfl | (simp [errW_none, errW_some] <;> rfl) | (simp [*, errW_none, errW_some] <;> rfl), kb1 HB.out GE292.out⟩

/-! ### skiffref1_Crc: function 73 -/
def skiffref1_Crc.f (a0 : ByteArray) : Option (Int) := Skiff.sums a0
theorem skiffref1_Crc.calls (a0 : ByteArray) (r : Int) (w : World) (h : skiffref1_Crc.f a0 = some r) :
  Calls Tryz.prog 73 #[.string a0] w fun e w' => e = .returned (.int .i64 r) ∧ Below w.heap.size w w' :=
 Go.Proofs.YthkpaoajfiapkaaGreat.g_skiffref1_Crc a0 r w h

/-! ### skiffref1_Good: function 56 -/
def skiffref1_Good.f (a0 : ByteArray) (a1_0 : Int) (a1_1 : Int) (a1_2 : Int) (a1_3 : Int) : Option (Bool × Int) := (skiffref1_ImageOf.f a0 a1_0 a1_1 a1_2 a1_3).bind fun bt298 => (if bt298.2 = 0 then ((skiffref1_Crc.f bt298.1).bind fun t300 => (some ((t300 == a1_3), bt298.2))) else (some (false, bt298.2)))
def skiffref1_Good.T2 : Bool × List (List Nat × List Nat) := (true, [([], []), ([0], [0]), ([1], [1]), ([2], [2]), ([3, 2, 2], [2, 3]), ([2], [2]), ([5, 2], [2, 5]), ([4, 6, 2], [2, 4, 6]), ([2, 7], [2, 7]), ([], []), ([8, 4, 0, 1, 2, 3, 4, 5, 6, 7, 8], [8]), ([9, 10, 0, 1, 2, 3, 4, 5, 6, 7, 8, 9, 10], [9])])
def skiffref1_Good.B2 : List Nat := [0, 1, 3, 7, 15, 7, 39, 127, 255, 0, 511, 2047]
theorem skiffref1_Good.tab2 : rtab .any (opsOf Tryz.f56 2) = skiffref1_Good.T2 := by kernel_rfl
theorem skiffref1_Good.bits2 : waitsOk skiffref1_Good.T2.2 skiffref1_Good.B2 = true := by kernel_rfl
set_option maxHeartbeats 8000000 in
set_option maxRecDepth 100000 in
theorem skiffref1_Good.calls (a0 : ByteArray) (a1_0 : Int) (a1_1 : Int) (a1_2 : Int) (a1_3 : Int) (r1 : Bool) (r2 : Int) (w : World) (h : skiffref1_Good.f a0 a1_0 a1_1 a1_2 a1_3 = some (r1, r2)) :
  Calls Tryz.prog 56 #[.string a0, .agg #[.int .i64 a1_0, .int .i64 a1_1, .int .i64 a1_2, .int .i64 a1_3]] w fun e w' => e = .returned (.tuple #[.bool r1, .int .i64 r2]) ∧ Below w.heap.size w w' := by
 have hu66 := Tryz.underlying66
 have HB := Aside0.mk (Below.refl w.heap.size w)
 have H : ((skiffref1_ImageOf.f a0 a1_0 a1_1 a1_2 a1_3).bind fun bt298 => (if bt298.2 = 0 then ((skiffref1_Crc.f bt298.1).bind fun t300 => (some ((t300 == a1_3), bt298.2))) else (some (false, bt298.2)))) = some (r1, r2) := h
 clear h
 replace H := Option.bind_eq_some_iff.mp H
 obtain ⟨⟨t298, t299⟩, A30, H⟩ := H
 replace H : (if t299 = 0 then ((skiffref1_Crc.f t298).bind fun t300 => (some ((t300 == a1_3), t299))) else (some (false, t299))) = some (r1, r2) := H
 have A3 := Aside0.mk A30
 clear A30
 by_cases c4 : t299 = 0
 ·rw [if_pos c4] at H
  have c4b0 : (t299 == 0) = true := beq_iff_eq.mpr c4
  have c4b1 : (t299 != 0) = false := bne_eq_false_iff_eq.mpr c4
  clear c4
  replace H := Option.bind_eq_some_iff.mp H
  obtain ⟨t300, A50, H⟩ := H
  replace H : (some ((t300 == a1_3), t299)) = some (r1, r2) := H
  have A5 := Aside0.mk A50
  clear A50
  simp only [Option.some.injEq, Prod.mk.injEq] at H
  obtain ⟨rfl, rfl⟩ := H
  go_enter Tryz.func56, Tryz.ntmps56
  try go_wp2_with (first | ((with_reducible refine gate_dst (N := 3) rfl ?_); refine box_event ?hg (N := 3) ?hd (cs := #[.int .i64 a1_0, .int .i64 a1_1, .int .i64 a1_2, .int .i64 a1_3]) (t := 66) ?hr ?_; (case hd => rfl); (case hg => rfl); (case hr => first | (go_simp; done) | (go_simp; rfl)); intro gb297 hg w6 hbox hb; have n0_ := Aside0.mk (below_step (kb HB.out) hb); have n1_ := Aside0.mk (hbox); have n2_ := Aside0.mk ((kz hg (below_size (kb HB.out)) : w.heap.size ≤ gb297)); have n3_ := Aside0.mk ((kz hg (below_size (kb HB.out)) : w.heap.size ≤ gb297)); clear HB; have HB := n0_; have BK297 := n1_; have GW297 := n2_; have GE297 := n3_; clear n0_ n1_ n2_ n3_; clear hb hbox hg; obtain ⟨hcz7_0, hcz7_1, hcz7_2, hcz7_3⟩ := kc4 BK297.out; obtain ⟨hfz7_0, hfz7_1, hfz7_2, hfz7_3⟩ := kf4 BK297.out) | ((with_reducible refine gate_callee (f := 72) rfl ?_); refine goesL_ (some 11) rfl rfl Tryz.func72 (by kernel_rfl) rfl #[.string a0, .agg #[.int .i64 a1_0, .int .i64 a1_1, .int .i64 a1_2, .int .i64 a1_3]] rfl ka ?_; (with_reducible refine (skiffref1_ImageOf.calls a0 a1_0 a1_1 a1_2 a1_3 t298 t299 _ A3.out).mono ?_); rintro e w8 ⟨rfl, hb⟩; refine ⟨_, rfl, ?_⟩; have n0_ := Aside0.mk (kL BK297.out hb); have n1_ := Aside0.mk (below_step (kb1 HB.out GE297.out) hb); clear BK297; clear HB; have BK297 := n0_; have HB := n1_; clear n0_ n1_; (try clear hb); (try clear hb2); (try clear hk); (try clear hi)))
  have n0_ := Aside0.mk (blk_drew BK297.out)
  have n1_ := Aside0.mk (below_drew1 HB.out)
  clear BK297 HB; have BK297 := n0_; have HB := n1_; clear n0_ n1_
  refine start_ (n := 12) (S := fun w' => w'.cell? ⟨gb297, 0, none⟩ = some (.int .i64 a1_0) ∧ w'.cell? ⟨gb297, 1, none⟩ = some (.int .i64 a1_1) ∧ w'.cell? ⟨gb297, 2, none⟩ = some (.int .i64 a1_2) ∧ w'.cell? ⟨gb297, 3, none⟩ = some (.int .i64 a1_3)) (ds := []) #[false, false, false, false, false, false, false, false, false, false, false, false] (by kernel_rfl) rfl rfl ⟨(blk_cell BK297.out 0).trans rfl, (blk_cell BK297.out 1).trans rfl, (blk_cell BK297.out 2).trans rfl, (blk_cell BK297.out 3).trans rfl⟩ (fun hHeld => ?_); refine with_tabW skiffref1_Good.tab2 skiffref1_Good.bits2 (fun HT_ HW_ => ?_)
  generalize w8.drew = w9 at BK297 HB hHeld ⊢
  refine pure_ (i := 0) (N := some 14) (v := ?_) (a' := ?_) #[true, false, false, false, false, false, false, false, false, false, false, false] rfl rfl (any_of HT_.out (by kernel_rfl)) (fun _ _ _ h => h) (Or.inl ⟨by rfl, ?_⟩) ?_ ?_
  rotate_left
  ·intro w'
   go_simp
   with_reducible rfl
  rotate_left
  ·simp only [Act.put, List.setIfInBounds_toArray, List.set_cons_zero, List.set_cons_succ, i64_w, i32_w]
   rfl
  refine pure_ (i := 1) (N := some 15) (v := ?_) (a' := ?_) #[true, true, false, false, false, false, false, false, false, false, false, false] rfl rfl (any_of HT_.out (by kernel_rfl)) (fun _ _ _ h => h) (Or.inl ⟨by rfl, ?_⟩) ?_ ?_
  rotate_left
  ·intro w'
   go_simp
   with_reducible rfl
  rotate_left
  ·simp only [Act.put, List.setIfInBounds_toArray, List.set_cons_zero, List.set_cons_succ, i64_w, i32_w]
   rfl
  refine pure_ (i := 2) (N := some 16) (v := ?_) (a' := ?_) #[true, true, true, false, false, false, false, false, false, false, false, false] rfl rfl (any_of HT_.out (by kernel_rfl)) (fun _ _ _ h => h) (Or.inl ⟨by rfl, ?_⟩) ?_ ?_
  rotate_left
  ·intro w'
   go_simp
   with_reducible rfl
  rotate_left
  ·simp only [Act.put, List.setIfInBounds_toArray, List.set_cons_zero, List.set_cons_succ, i64_w, i32_w]
   rfl
  refine pure_ (i := 3) (N := some 17) (v := ?_) (a' := ?_) #[true, true, true, true, false, false, false, false, false, false, false, false] rfl rfl (any_of HT_.out (by kernel_rfl)) (fun _ _ _ h => h) (Or.inl ⟨by rfl, ?_⟩) ?_ ?_
  rotate_left
  ·intro w'
   go_simp
   with_reducible rfl
  rotate_left
  ·simp only [Act.put, List.setIfInBounds_toArray, List.set_cons_zero, List.set_cons_succ, i64_w, i32_w]
   rfl
  refine pure_ (i := 5) (N := some 19) (v := ?_) (a' := ?_) #[true, true, true, true, false, true, false, false, false, false, false, false] rfl rfl (any_of HT_.out (by kernel_rfl)) (fun _ _ _ h => h) (Or.inl ⟨by rfl, ?_⟩) ?_ ?_
  rotate_left
  ·intro w'
   go_simp
   with_reducible rfl
  rotate_left
  ·simp only [Act.put, List.setIfInBounds_toArray, List.set_cons_zero, List.set_cons_succ, i64_w, i32_w]
   rfl
  refine pure_ (i := 9) (N := some 23) (v := ?_) (a' := ?_) #[true, true, true, true, false, true, false, false, false, true, false, false] rfl rfl (any_of HT_.out (by kernel_rfl)) (fun _ _ _ h => h) (Or.inl ⟨by rfl, ?_⟩) ?_ ?_
  rotate_left
  ·intro w'
   go_simp
   with_reducible rfl
  rotate_left
  ·simp only [Act.put, List.setIfInBounds_toArray, List.set_cons_zero, List.set_cons_succ, i64_w, i32_w]
   rfl
  refine take_ (i := 6) (N := some 20) (v := ?_) (a' := ?_) #[true, true, true, true, false, true, true, false, false, true, false, false] rfl rfl (take_ofW HT_.out HW_.out (by kernel_rfl)) (fun _ _ _ h => h) (Or.inl ⟨by rfl, ?_⟩) hHeld ?_ ?_
  rotate_left
  ·rintro w' ⟨s0, s1, s2, s3⟩
   go_simp
   with_reducible rfl
  rotate_left
  ·simp only [Act.put, List.setIfInBounds_toArray, List.set_cons_zero, List.set_cons_succ, i64_w, i32_w]
   rfl
  refine one_ (i := 4) (N := some 18) #[true, true, true, true, true, true, true, false, false, true, false, false] rfl rfl (one_of HT_.out (by kernel_rfl)) (by decide) (fun K hK => ?_)
  refine goes_ Tryz.func73 (by kernel_rfl) rfl #[.string t298] (by rfl) rfl rfl ka ?_
  with_reducible refine (skiffref1_Crc.calls t298 t300 _ A5.out).mono ?_
  rintro e w10 ⟨rfl, hb⟩
  refine ⟨_, rfl, ?_⟩
  have n0_ := Aside0.mk (kL BK297.out hb)
  have n1_ := Aside0.mk (below_step (kb1 HB.out GE297.out) hb)
  clear BK297 HB; have BK297 := n0_; have HB := n1_; clear n0_ n1_
  (try clear hb)
  (try clear hb2)
  (try clear hk)
  (try clear hi)
  refine hK.out _ _ ⟨(blk_cell BK297.out 0).trans rfl, (blk_cell BK297.out 1).trans rfl, (blk_cell BK297.out 2).trans rfl, (blk_cell BK297.out 3).trans rfl⟩ (fun hHeld => ?_)
  clear hK K
  refine norm_ (a' := ?_) ?_ ?_
  rotate_left
  ·show Act.put _ (some 18) _ = _
   simp only [Act.put, List.setIfInBounds_toArray, List.set_cons_zero, List.set_cons_succ, i64_w, i32_w]
   rfl
  refine pure_ (i := 7) (N := some 21) (v := ?_) (a' := ?_) #[true, true, true, true, true, true, true, true, false, true, false, false] rfl rfl (any_of HT_.out (by kernel_rfl)) (fun _ _ _ h => h) (Or.inl ⟨by rfl, ?_⟩) ?_ ?_
  rotate_left
  ·intro w'
   go_simp
   with_reducible rfl
  rotate_left
  ·simp only [Act.put, List.setIfInBounds_toArray, List.set_cons_zero, List.set_cons_succ, i64_w, i32_w]
   rfl
  refine pure_ (i := 8) (N := some 22) (v := ?_) (a' := ?_) #[true, true, true, true, true, true, true, true, true, true, false, false] rfl rfl (any_of HT_.out (by kernel_rfl)) (fun _ _ _ h => h) (Or.inl ⟨by rfl, ?_⟩) ?_ ?_
  rotate_left
  ·intro w'
   go_simp
   with_reducible rfl
  rotate_left
  ·simp only [Act.put, List.setIfInBounds_toArray, List.set_cons_zero, List.set_cons_succ, i64_w, i32_w]
   rfl
  refine pure_ (i := 10) (N := some 4) (v := ?_) (a' := ?_) #[true, true, true, true, true, true, true, true, true, true, true, false] rfl rfl (any_of HT_.out (by kernel_rfl)) (fun _ _ _ h => h) (Or.inl ⟨by rfl, ?_⟩) ?_ ?_
  rotate_left
  ·intro w'
   go_simp
   with_reducible rfl
  rotate_left
  ·simp only [Act.put, List.setIfInBounds_toArray, List.set_cons_zero, List.set_cons_succ, i64_w, i32_w]
   rfl
  refine pure_ (i := 11) (N := some 5) (v := ?_) (a' := ?_) #[true, true, true, true, true, true, true, true, true, true, true, true] rfl rfl (any_of HT_.out (by kernel_rfl)) (fun _ _ _ h => h) (Or.inl ⟨by rfl, ?_⟩) ?_ ?_
  rotate_left
  ·intro w'
   go_simp
   with_reducible rfl
  rotate_left
  ·simp only [Act.put, List.setIfInBounds_toArray, List.set_cons_zero, List.set_cons_succ, i64_w, i32_w]
   rfl
  refine done_ (done_of HT_.out (by kernel_rfl)) ?_
  try go_wp2
  go_ret2
  exact ⟨by first | rfl | (simp [errW_none, errW_some] <;> rfl) | (simp [*, errW_none, errW_some] <;> rfl), kb1 HB.out GE297.out⟩
 ·rw [if_neg c4] at H
  have c4b0 : (t299 == 0) = false := beq_eq_false_iff_ne.mpr c4
  have c4b1 : (t299 != 0) = true := bne_iff_ne.mpr c4
  simp only [Option.some.injEq, Prod.mk.injEq] at H
  obtain ⟨rfl, rfl⟩ := H
  go_enter Tryz.func56, Tryz.ntmps56
  try go_wp2_with (first | ((with_reducible refine gate_dst (N := 3) rfl ?_); refine box_event ?hg (N := 3) ?hd (cs := #[.int .i64 a1_0, .int .i64 a1_1, .int .i64 a1_2, .int .i64 a1_3]) (t := 66) ?hr ?_; (case hd => rfl); (case hg => rfl); (case hr => first | (go_simp; done) | (go_simp; rfl)); intro gb297 hg w11 hbox hb; have n0_ := Aside0.mk (below_step (kb HB.out) hb); have n1_ := Aside0.mk (hbox); have n2_ := Aside0.mk ((kz hg (below_size (kb HB.out)) : w.heap.size ≤ gb297)); have n3_ := Aside0.mk ((kz hg (below_size (kb HB.out)) : w.heap.size ≤ gb297)); clear HB; have HB := n0_; have BK297 := n1_; have GW297 := n2_; have GE297 := n3_; clear n0_ n1_ n2_ n3_; clear hb hbox hg; obtain ⟨hcz12_0, hcz12_1, hcz12_2, hcz12_3⟩ := kc4 BK297.out; obtain ⟨hfz12_0, hfz12_1, hfz12_2, hfz12_3⟩ := kf4 BK297.out) | ((with_reducible refine gate_callee (f := 72) rfl ?_); refine goesL_ (some 11) rfl rfl Tryz.func72 (by kernel_rfl) rfl #[.string a0, .agg #[.int .i64 a1_0, .int .i64 a1_1, .int .i64 a1_2, .int .i64 a1_3]] rfl ka ?_; (with_reducible refine (skiffref1_ImageOf.calls a0 a1_0 a1_1 a1_2 a1_3 t298 t299 _ A3.out).mono ?_); rintro e w13 ⟨rfl, hb⟩; refine ⟨_, rfl, ?_⟩; have n0_ := Aside0.mk (kL BK297.out hb); have n1_ := Aside0.mk (below_step (kb1 HB.out GE297.out) hb); clear BK297; clear HB; have BK297 := n0_; have HB := n1_; clear n0_ n1_; (try clear hb); (try clear hb2); (try clear hk); (try clear hi)))
  have n0_ := Aside0.mk (blk_drew BK297.out)
  have n1_ := Aside0.mk (below_drew1 HB.out)
  clear BK297 HB; have BK297 := n0_; have HB := n1_; clear n0_ n1_
  refine start_ (n := 12) (S := fun w' => True) (ds := []) #[false, false, false, false, false, false, false, false, false, false, false, false] (by kernel_rfl) rfl rfl trivial (fun hHeld => ?_); refine with_tabW skiffref1_Good.tab2 skiffref1_Good.bits2 (fun HT_ HW_ => ?_)
  generalize w13.drew = w14 at BK297 HB hHeld ⊢
  refine pure_ (i := 0) (N := some 14) (v := ?_) (a' := ?_) #[true, false, false, false, false, false, false, false, false, false, false, false] rfl rfl (any_of HT_.out (by kernel_rfl)) (fun _ _ _ h => h) (Or.inl ⟨by rfl, ?_⟩) ?_ ?_
  rotate_left
  ·intro w'
   go_simp
   with_reducible rfl
  rotate_left
  ·simp only [Act.put, List.setIfInBounds_toArray, List.set_cons_zero, List.set_cons_succ, i64_w, i32_w]
   rfl
  refine pure_ (i := 1) (N := some 15) (v := ?_) (a' := ?_) #[true, true, false, false, false, false, false, false, false, false, false, false] rfl rfl (any_of HT_.out (by kernel_rfl)) (fun _ _ _ h => h) (Or.inl ⟨by rfl, ?_⟩) ?_ ?_
  rotate_left
  ·intro w'
   go_simp
   with_reducible rfl
  rotate_left
  ·simp only [Act.put, List.setIfInBounds_toArray, List.set_cons_zero, List.set_cons_succ, i64_w, i32_w]
   rfl
  refine pure_ (i := 2) (N := some 16) (v := ?_) (a' := ?_) #[true, true, true, false, false, false, false, false, false, false, false, false] rfl rfl (any_of HT_.out (by kernel_rfl)) (fun _ _ _ h => h) (Or.inl ⟨by rfl, ?_⟩) ?_ ?_
  rotate_left
  ·intro w'
   go_simp
   with_reducible rfl
  rotate_left
  ·simp only [Act.put, List.setIfInBounds_toArray, List.set_cons_zero, List.set_cons_succ, i64_w, i32_w]
   rfl
  refine pure_ (i := 3) (N := some 17) (v := undef) (a' := ?_) #[true, true, true, true, false, false, false, false, false, false, false, false] rfl rfl (any_of HT_.out (by kernel_rfl)) (fun _ _ _ h => h) (Or.inr ⟨by rfl, rfl⟩) ?_ ?_
  rotate_left
  ·simp only [Act.put, List.setIfInBounds_toArray, List.set_cons_zero, List.set_cons_succ, i64_w, i32_w]
   rfl
  refine pure_ (i := 4) (N := some 18) (v := undef) (a' := ?_) #[true, true, true, true, true, false, false, false, false, false, false, false] rfl rfl (any_of HT_.out (by kernel_rfl)) (fun _ _ _ h => h) (Or.inr ⟨by rfl, rfl⟩) ?_ ?_
  rotate_left
  ·simp only [Act.put, List.setIfInBounds_toArray, List.set_cons_zero, List.set_cons_succ, i64_w, i32_w]
   rfl
  refine pure_ (i := 5) (N := some 19) (v := undef) (a' := ?_) #[true, true, true, true, true, true, false, false, false, false, false, false] rfl rfl (any_of HT_.out (by kernel_rfl)) (fun _ _ _ h => h) (Or.inr ⟨by rfl, rfl⟩) ?_ ?_
  rotate_left
  ·simp only [Act.put, List.setIfInBounds_toArray, List.set_cons_zero, List.set_cons_succ, i64_w, i32_w]
   rfl
  refine pure_ (i := 6) (N := some 20) (v := undef) (a' := ?_) #[true, true, true, true, true, true, true, false, false, false, false, false] rfl rfl (any_of HT_.out (by kernel_rfl)) (fun _ _ _ h => h) (Or.inr ⟨by rfl, rfl⟩) ?_ ?_
  rotate_left
  ·simp only [Act.put, List.setIfInBounds_toArray, List.set_cons_zero, List.set_cons_succ, i64_w, i32_w]
   rfl
  refine pure_ (i := 7) (N := some 21) (v := undef) (a' := ?_) #[true, true, true, true, true, true, true, true, false, false, false, false] rfl rfl (any_of HT_.out (by kernel_rfl)) (fun _ _ _ h => h) (Or.inr ⟨by rfl, rfl⟩) ?_ ?_
  rotate_left
  ·simp only [Act.put, List.setIfInBounds_toArray, List.set_cons_zero, List.set_cons_succ, i64_w, i32_w]
   rfl
  refine pure_ (i := 8) (N := some 22) (v := ?_) (a' := ?_) #[true, true, true, true, true, true, true, true, true, false, false, false] rfl rfl (any_of HT_.out (by kernel_rfl)) (fun _ _ _ h => h) (Or.inl ⟨by rfl, ?_⟩) ?_ ?_
  rotate_left
  ·intro w'
   go_simp
   with_reducible rfl
  rotate_left
  ·simp only [Act.put, List.setIfInBounds_toArray, List.set_cons_zero, List.set_cons_succ, i64_w, i32_w]
   rfl
  refine pure_ (i := 9) (N := some 23) (v := ?_) (a' := ?_) #[true, true, true, true, true, true, true, true, true, true, false, false] rfl rfl (any_of HT_.out (by kernel_rfl)) (fun _ _ _ h => h) (Or.inl ⟨by rfl, ?_⟩) ?_ ?_
  rotate_left
  ·intro w'
   go_simp
   with_reducible rfl
  rotate_left
  ·simp only [Act.put, List.setIfInBounds_toArray, List.set_cons_zero, List.set_cons_succ, i64_w, i32_w]
   rfl
  refine pure_ (i := 10) (N := some 4) (v := ?_) (a' := ?_) #[true, true, true, true, true, true, true, true, true, true, true, false] rfl rfl (any_of HT_.out (by kernel_rfl)) (fun _ _ _ h => h) (Or.inl ⟨by rfl, ?_⟩) ?_ ?_
  rotate_left
  ·intro w'
   go_simp
   with_reducible rfl
  rotate_left
  ·simp only [Act.put, List.setIfInBounds_toArray, List.set_cons_zero, List.set_cons_succ, i64_w, i32_w]
   rfl
  refine pure_ (i := 11) (N := some 5) (v := ?_) (a' := ?_) #[true, true, true, true, true, true, true, true, true, true, true, true] rfl rfl (any_of HT_.out (by kernel_rfl)) (fun _ _ _ h => h) (Or.inl ⟨by rfl, ?_⟩) ?_ ?_
  rotate_left
  ·intro w'
   go_simp
   with_reducible rfl
  rotate_left
  ·simp only [Act.put, List.setIfInBounds_toArray, List.set_cons_zero, List.set_cons_succ, i64_w, i32_w]
   rfl
  refine done_ (done_of HT_.out (by kernel_rfl)) ?_
  try go_wp2
  go_ret2
  exact ⟨by first | rfl | (simp [errW_none, errW_some] <;> rfl) | (simp [*, errW_none, errW_some] <;> rfl), kb1 HB.out GE297.out⟩

/-! ### skiffref1_Active: function 36 -/
def skiffref1_Active.l0 : Nat → ByteArray → List (S68) → Int → Int → Option (Int × Int × Int × Int × Int × Int)
 | 0, _, _, _, _ => none
 | k + 1, x0, x4, x6, x7 => if x7 < (x4.length : Int) then (if 0 ≤ x7 then ((skiffref1_Good.f x0 ((rd_T68 x4 x7).f1.f0) ((rd_T68 x4 x7).f1.f1) ((rd_T68 x4 x7).f1.f2) ((rd_T68 x4 x7).f1.f3)).bind fun bt307 => (if bt307.1 = true then (if x6 < 0 then (skiffref1_Active.l0 k x0 x4 x7 (wrap64 (x7 + 1))) else (if 0 ≤ x6 then (if x6 < (x4.length : Int) then (if ((rd_T68 x4 x7).f1.f0) ≥ ((rd_T68 x4 x6).f1.f0) then (skiffref1_Active.l0 k x0 x4 x7 (wrap64 (x7 + 1))) else (skiffref1_Active.l0 k x0 x4 x6 (wrap64 (x7 + 1)))) else (none)) else (none))) else (skiffref1_Active.l0 k x0 x4 x6 (wrap64 (x7 + 1))))) else (none)) else (if x6 < 0 then (some (0, 0, 0, 0, 0, 701)) else (if 0 ≤ x6 then (if x6 < (x4.length : Int) then (some ((rd_T68 x4 x6).f0, (rd_T68 x4 x6).f1.f0, (rd_T68 x4 x6).f1.f1, (rd_T68 x4 x6).f1.f2, (rd_T68 x4 x6).f1.f3, 0)) else (none)) else (none)))
def skiffref1_Active.f (k : Nat) (a0 : ByteArray) : Option (Int × Int × Int × Int × Int × Int) := (skiffref1_Scan.f k a0).bind fun bt302 => (if bt302.2 = 0 then (skiffref1_Active.l0 k a0 bt302.1 (-1) 0) else (some (0, 0, 0, 0, 0, 700)))
set_option maxHeartbeats 8000000 in
set_option maxRecDepth 100000 in
theorem skiffref1_Active.calls (k : Nat) (a0 : ByteArray) (r1 : Int) (r2 : Int) (r3 : Int) (r4 : Int) (r5 : Int) (r6 : Int) (w : World) (h : skiffref1_Active.f k a0 = some (r1, r2, r3, r4, r5, r6)) :
  Calls Tryz.prog 36 #[.string a0] w fun e w' => e = .returned (.tuple #[.agg #[.int .i64 r1, .int .i64 r2, .int .i64 r3, .int .i64 r4, .int .i64 r5], .int .i64 r6]) ∧ Below w.heap.size w w' := by
 have hu68 := Tryz.underlying68
 have hu66 := Tryz.underlying66
 have HB := Aside0.mk (Below.refl w.heap.size w)
 have H : ((skiffref1_Scan.f k a0).bind fun bt302 => (if bt302.2 = 0 then (skiffref1_Active.l0 k a0 bt302.1 (-1) 0) else (some (0, 0, 0, 0, 0, 700)))) = some (r1, r2, r3, r4, r5, r6) := h
 clear h
 replace H := Option.bind_eq_some_iff.mp H
 obtain ⟨⟨t302, t303⟩, A20, H⟩ := H
 replace H : (if t303 = 0 then (skiffref1_Active.l0 k a0 t302 (-1) 0) else (some (0, 0, 0, 0, 0, 700))) = some (r1, r2, r3, r4, r5, r6) := H
 have A2 := Aside0.mk A20
 clear A20
 by_cases c3 : t303 = 0
 case neg =>
  rw [if_neg c3] at H
  have c3b0 : (t303 == 0) = false := beq_eq_false_iff_ne.mpr c3
  have c3b1 : (t303 != 0) = true := bne_iff_ne.mpr c3
  simp only [Option.some.injEq, Prod.mk.injEq] at H
  obtain ⟨rfl, rfl, rfl, rfl, rfl, rfl⟩ := H
  go_enter Tryz.func36, Tryz.ntmps36
  go_wp2_with (first | ((with_reducible refine gate_dst (N := 2) rfl ?_); refine box_event ?hg (N := 2) ?hd (cs := #[.int .i64 0, .int .i64 0, .int .i64 0, .int .i64 0, .int .i64 0]) (t := 68) ?hr ?_; (case hd => rfl); (case hg => rfl); (case hr => first | (go_simp; done) | (go_simp; rfl)); intro gb301 hg w29 hbox hb; have n0_ := Aside0.mk (below_step (kb HB.out) hb); have n1_ := Aside0.mk (hbox); have n2_ := Aside0.mk ((kz hg (below_size (kb HB.out)) : w.heap.size ≤ gb301)); have n3_ := Aside0.mk ((kz hg (below_size (kb HB.out)) : w.heap.size ≤ gb301)); clear HB; have HB := n0_; have BK301 := n1_; have GW301 := n2_; have GE301 := n3_; clear n0_ n1_ n2_ n3_; clear hb hbox hg) | (go_at_call 55; (with_reducible refine (skiffref1_Scan.calls k a0 t302 t303 _ A2.out).mono ?_); rintro e w30 ⟨v304, rfl, ho0, hb⟩; have n0_ := Aside0.mk (Kd.R_lower (Kd.R_newB ho0 (g := gb301) (o := .cells #[.int .i64 0, .int .i64 0, .int .i64 0, .int .i64 0, .int .i64 0] 68 (0, 0)) (kB BK301.out)) (below_size (kb1 HB.out GE301.out))); have n1_ := Aside0.mk (kL BK301.out hb); have n2_ := Aside0.mk (below_step (kb1 HB.out GE301.out) hb); clear BK301; clear HB; have HO305 := n0_; have BK301 := n1_; have HB := n2_; clear n0_ n1_ n2_; (try clear hb); (try clear hb2); (try clear hk); (try clear hi); (try clear ho0); obtain ⟨hcz31_0, hcz31_1, hcz31_2, hcz31_3, hcz31_4⟩ := kc5 BK301.out; obtain ⟨hfz31_0, hfz31_1, hfz31_2, hfz31_3, hfz31_4⟩ := kf5 BK301.out))
  repeat (go_quiet (first | ((with_reducible refine gate_dst (N := 2) rfl ?_); refine box_event ?hg (N := 2) ?hd (cs := #[.int .i64 0, .int .i64 0, .int .i64 0, .int .i64 0, .int .i64 0]) (t := 68) ?hr ?_; (case hd => rfl); (case hg => rfl); (case hr => first | (go_simp; done) | (go_simp; rfl)); intro gb301 hg w29 hbox hb; have n0_ := Aside0.mk (below_step (kb HB.out) hb); have n1_ := Aside0.mk (hbox); have n2_ := Aside0.mk ((kz hg (below_size (kb HB.out)) : w.heap.size ≤ gb301)); have n3_ := Aside0.mk ((kz hg (below_size (kb HB.out)) : w.heap.size ≤ gb301)); clear HB; have HB := n0_; have BK301 := n1_; have GW301 := n2_; have GE301 := n3_; clear n0_ n1_ n2_ n3_; clear hb hbox hg) | (go_at_call 55; (with_reducible refine (skiffref1_Scan.calls k a0 t302 t303 _ A2.out).mono ?_); rintro e w30 ⟨v304, rfl, ho0, hb⟩; have n0_ := Aside0.mk (Kd.R_lower (Kd.R_newB ho0 (g := gb301) (o := .cells #[.int .i64 0, .int .i64 0, .int .i64 0, .int .i64 0, .int .i64 0] 68 (0, 0)) (kB BK301.out)) (below_size (kb1 HB.out GE301.out))); have n1_ := Aside0.mk (kL BK301.out hb); have n2_ := Aside0.mk (below_step (kb1 HB.out GE301.out) hb); clear BK301; clear HB; have HO305 := n0_; have BK301 := n1_; have HB := n2_; clear n0_ n1_ n2_; (try clear hb); (try clear hb2); (try clear hk); (try clear hi); (try clear ho0); obtain ⟨hcz31_0, hcz31_1, hcz31_2, hcz31_3, hcz31_4⟩ := kc5 BK301.out; obtain ⟨hfz31_0, hfz31_1, hfz31_2, hfz31_3, hfz31_4⟩ := kf5 BK301.out)); try go_wp2_with (first | ((with_reducible refine gate_dst (N := 2) rfl ?_); refine box_event ?hg (N := 2) ?hd (cs := #[.int .i64 0, .int .i64 0, .int .i64 0, .int .i64 0, .int .i64 0]) (t := 68) ?hr ?_; (case hd => rfl); (case hg => rfl); (case hr => first | (go_simp; done) | (go_simp; rfl)); intro gb301 hg w29 hbox hb; have n0_ := Aside0.mk (below_step (kb HB.out) hb); have n1_ := Aside0.mk (hbox); have n2_ := Aside0.mk ((kz hg (below_size (kb HB.out)) : w.heap.size ≤ gb301)); have n3_ := Aside0.mk ((kz hg (below_size (kb HB.out)) : w.heap.size ≤ gb301)); clear HB; have HB := n0_; have BK301 := n1_; have GW301 := n2_; have GE301 := n3_; clear n0_ n1_ n2_ n3_; clear hb hbox hg) | (go_at_call 55; (with_reducible refine (skiffref1_Scan.calls k a0 t302 t303 _ A2.out).mono ?_); rintro e w30 ⟨v304, rfl, ho0, hb⟩; have n0_ := Aside0.mk (Kd.R_lower (Kd.R_newB ho0 (g := gb301) (o := .cells #[.int .i64 0, .int .i64 0, .int .i64 0, .int .i64 0, .int .i64 0] 68 (0, 0)) (kB BK301.out)) (below_size (kb1 HB.out GE301.out))); have n1_ := Aside0.mk (kL BK301.out hb); have n2_ := Aside0.mk (below_step (kb1 HB.out GE301.out) hb); clear BK301; clear HB; have HO305 := n0_; have BK301 := n1_; have HB := n2_; clear n0_ n1_ n2_; (try clear hb); (try clear hb2); (try clear hk); (try clear hi); (try clear ho0); obtain ⟨hcz31_0, hcz31_1, hcz31_2, hcz31_3, hcz31_4⟩ := kc5 BK301.out; obtain ⟨hfz31_0, hfz31_1, hfz31_2, hfz31_3, hfz31_4⟩ := kf5 BK301.out)))
  refine bodyPost_ret (results_ct rfl _ _ gb301 68 #[.int .i64 0, .int .i64 0, .int .i64 0, .int .i64 0, .int .i64 0] (0, 0) _ rfl (kP5 BK301.out) Tryz.underlying68 rfl (by kernel_rfl)) rfl ?_
  exact ⟨by first | rfl | (simp [errW_none, errW_some] <;> rfl) | (simp [*, errW_none, errW_some] <;> rfl), kb1 HB.out GE301.out⟩
 rw [if_pos c3] at H
 have c3b0 : (t303 == 0) = true := beq_iff_eq.mpr c3
 have c3b1 : (t303 != 0) = false := bne_eq_false_iff_eq.mpr c3
 clear c3
 have H' := Aside0.mk H
 clear H
 go_enter Tryz.func36, Tryz.ntmps36
 go_wp2_with (first | ((with_reducible refine gate_dst (N := 2) rfl ?_); refine box_event ?hg (N := 2) ?hd (cs := #[.int .i64 0, .int .i64 0, .int .i64 0, .int .i64 0, .int .i64 0]) (t := 68) ?hr ?_; (case hd => rfl); (case hg => rfl); (case hr => first | (go_simp; done) | (go_simp; rfl)); intro gb301 hg w4 hbox hb; have n0_ := Aside0.mk (below_step (kb HB.out) hb); have n1_ := Aside0.mk (hbox); have n2_ := Aside0.mk ((kz hg (below_size (kb HB.out)) : w.heap.size ≤ gb301)); have n3_ := Aside0.mk ((kz hg (below_size (kb HB.out)) : w.heap.size ≤ gb301)); clear HB; have HB := n0_; have BK301 := n1_; have GW301 := n2_; have GE301 := n3_; clear n0_ n1_ n2_ n3_; clear hb hbox hg) | (go_at_call 55; (with_reducible refine (skiffref1_Scan.calls k a0 t302 t303 _ A2.out).mono ?_); rintro e w5 ⟨v304, rfl, ho0, hb⟩; have n0_ := Aside0.mk (Kd.R_lower (Kd.R_newB ho0 (g := gb301) (o := .cells #[.int .i64 0, .int .i64 0, .int .i64 0, .int .i64 0, .int .i64 0] 68 (0, 0)) (kB BK301.out)) (below_size (kb1 HB.out GE301.out))); have n1_ := Aside0.mk (kL BK301.out hb); have n2_ := Aside0.mk (below_step (kb1 HB.out GE301.out) hb); clear BK301; clear HB; have HO305 := n0_; have BK301 := n1_; have HB := n2_; clear n0_ n1_ n2_; (try clear hb); (try clear hb2); (try clear hk); (try clear hi); (try clear ho0)))
 repeat (go_quiet (first | ((with_reducible refine gate_dst (N := 2) rfl ?_); refine box_event ?hg (N := 2) ?hd (cs := #[.int .i64 0, .int .i64 0, .int .i64 0, .int .i64 0, .int .i64 0]) (t := 68) ?hr ?_; (case hd => rfl); (case hg => rfl); (case hr => first | (go_simp; done) | (go_simp; rfl)); intro gb301 hg w4 hbox hb; have n0_ := Aside0.mk (below_step (kb HB.out) hb); have n1_ := Aside0.mk (hbox); have n2_ := Aside0.mk ((kz hg (below_size (kb HB.out)) : w.heap.size ≤ gb301)); have n3_ := Aside0.mk ((kz hg (below_size (kb HB.out)) : w.heap.size ≤ gb301)); clear HB; have HB := n0_; have BK301 := n1_; have GW301 := n2_; have GE301 := n3_; clear n0_ n1_ n2_ n3_; clear hb hbox hg) | (go_at_call 55; (with_reducible refine (skiffref1_Scan.calls k a0 t302 t303 _ A2.out).mono ?_); rintro e w5 ⟨v304, rfl, ho0, hb⟩; have n0_ := Aside0.mk (Kd.R_lower (Kd.R_newB ho0 (g := gb301) (o := .cells #[.int .i64 0, .int .i64 0, .int .i64 0, .int .i64 0, .int .i64 0] 68 (0, 0)) (kB BK301.out)) (below_size (kb1 HB.out GE301.out))); have n1_ := Aside0.mk (kL BK301.out hb); have n2_ := Aside0.mk (below_step (kb1 HB.out GE301.out) hb); clear BK301; clear HB; have HO305 := n0_; have BK301 := n1_; have HB := n2_; clear n0_ n1_ n2_; (try clear hb); (try clear hb2); (try clear hk); (try clear hi); (try clear ho0))); try go_wp2_with (first | ((with_reducible refine gate_dst (N := 2) rfl ?_); refine box_event ?hg (N := 2) ?hd (cs := #[.int .i64 0, .int .i64 0, .int .i64 0, .int .i64 0, .int .i64 0]) (t := 68) ?hr ?_; (case hd => rfl); (case hg => rfl); (case hr => first | (go_simp; done) | (go_simp; rfl)); intro gb301 hg w4 hbox hb; have n0_ := Aside0.mk (below_step (kb HB.out) hb); have n1_ := Aside0.mk (hbox); have n2_ := Aside0.mk ((kz hg (below_size (kb HB.out)) : w.heap.size ≤ gb301)); have n3_ := Aside0.mk ((kz hg (below_size (kb HB.out)) : w.heap.size ≤ gb301)); clear HB; have HB := n0_; have BK301 := n1_; have GW301 := n2_; have GE301 := n3_; clear n0_ n1_ n2_ n3_; clear hb hbox hg) | (go_at_call 55; (with_reducible refine (skiffref1_Scan.calls k a0 t302 t303 _ A2.out).mono ?_); rintro e w5 ⟨v304, rfl, ho0, hb⟩; have n0_ := Aside0.mk (Kd.R_lower (Kd.R_newB ho0 (g := gb301) (o := .cells #[.int .i64 0, .int .i64 0, .int .i64 0, .int .i64 0, .int .i64 0] 68 (0, 0)) (kB BK301.out)) (below_size (kb1 HB.out GE301.out))); have n1_ := Aside0.mk (kL BK301.out hb); have n2_ := Aside0.mk (below_step (kb1 HB.out GE301.out) hb); clear BK301; clear HB; have HO305 := n0_; have BK301 := n1_; have HB := n2_; clear n0_ n1_ n2_; (try clear hb); (try clear hb2); (try clear hk); (try clear hi); (try clear ho0))))
 go_loopg [6, 7] k (fun kq v6 v7 w' => ∃ (x6_1 : Int) (x7_1 : Int), v6 = .int .i64 x6_1 ∧ v7 = .int .i64 x7_1 ∧ Aside0 (skiffref1_Active.l0 kq a0 t302 x6_1 x7_1 = some (r1, r2, r3, r4, r5, r6)) ∧ Aside0 (kq ≤ k) ∧ Aside0 (Kd.R k68 68 w' w.heap.size (fun k_ => k_ ≠ gb301) v304 t302) ∧ Aside0 (w'.heap[gb301]? = some (.cells #[.int .i64 0, .int .i64 0, .int .i64 0, .int .i64 0, .int .i64 0] 68 (0, 0))) ∧ Aside0 (Below w.heap.size w w'))
 case atStart => exact ⟨((-1)), (0), (by first | rfl | (simp; done) | (simp [*]; done)), (by first | rfl | (simp; done) | (simp [*]; done)), H', ⟨Nat.le_refl _⟩, ⟨by (with_reducible repeat (first | apply Kd.R_alloc | apply Kd.R_drewN | apply Kd.R_drew)); exact Kd.R_mono HO305.out (fun _ hk => hk.2)⟩, ⟨kB BK301.out⟩, ⟨kb1 HB.out GE301.out⟩⟩
 case round =>
  clear H'
  try clear p2; try clear c3; try clear c3b0; try clear c3b1
  obtain ⟨x6_1, x7_1, rfl, rfl, HA, HK1, HO_4, BK301, HB⟩ := hrel
  cases gk with
  | zero => exact absurd HA.out (by simp [skiffref1_Active.l0])
  | succ k1 =>
   have H := HA.out
   clear HA
   simp only [skiffref1_Active.l0] at H
   by_cases c6 : x7_1 < (t302.length : Int)
   ·rw [if_pos c6] at H
    have c6b0 : decide (x7_1 < (t302.length : Int)) = true := decide_eq_true c6
    clear c6
    by_cases c7 : 0 ≤ x7_1
    case neg =>
     rw [if_neg c7] at H
     exact absurd H (by simp)
    rw [if_pos c7] at H
    have c7b0 : decide (0 ≤ x7_1) = true := decide_eq_true c7
    clear c7
    replace H := Option.bind_eq_some_iff.mp H
    obtain ⟨⟨t307, t308⟩, A80, H⟩ := H
    replace H : (if t307 = true then (if x6_1 < 0 then (skiffref1_Active.l0 k1 a0 t302 x7_1 (wrap64 (x7_1 + 1))) else (if 0 ≤ x6_1 then (if x6_1 < (t302.length : Int) then (if ((rd_T68 t302 x7_1).f1.f0) ≥ ((rd_T68 t302 x6_1).f1.f0) then (skiffref1_Active.l0 k1 a0 t302 x7_1 (wrap64 (x7_1 + 1))) else (skiffref1_Active.l0 k1 a0 t302 x6_1 (wrap64 (x7_1 + 1)))) else (none)) else (none))) else (skiffref1_Active.l0 k1 a0 t302 x6_1 (wrap64 (x7_1 + 1)))) = some (r1, r2, r3, r4, r5, r6) := H
    have A8 := Aside0.mk A80
    clear A80
    by_cases c9 : t307 = true
    ·subst c9
     have H1 : (if x6_1 < 0 then (skiffref1_Active.l0 k1 a0 t302 x7_1 (wrap64 (x7_1 + 1))) else (if 0 ≤ x6_1 then (if x6_1 < (t302.length : Int) then (if ((rd_T68 t302 x7_1).f1.f0) ≥ ((rd_T68 t302 x6_1).f1.f0) then (skiffref1_Active.l0 k1 a0 t302 x7_1 (wrap64 (x7_1 + 1))) else (skiffref1_Active.l0 k1 a0 t302 x6_1 (wrap64 (x7_1 + 1)))) else (none)) else (none))) = some (r1, r2, r3, r4, r5, r6) := by rw [if_pos rfl] at H; exact H
     clear H; have H := H1; clear H1
     by_cases c10 : x6_1 < 0
     ·rw [if_pos c10] at H
      have c10b0 : decide (x6_1 < 0) = true := decide_eq_true c10
      clear c10
      have H' := Aside0.mk H
      clear H
      obtain ⟨Ao11, co11, eo11⟩ := Kd.R_slice HO_4.out
      subst eo11
      have p306 : 0 ≤ (x7_1 : Int) := of_decide_eq_true (by first | (with_reducible assumption) | assumption)
      have q306 : x7_1 < (t302.length : Int) := of_decide_eq_true (by first | (with_reducible assumption) | assumption)
      obtain ⟨ad306, e306, hx306_0, hx306_1, hx306_2, hx306_3, hx306_4⟩ := at_T68 (Kd.R_reads' HO_4.out).2.2 x7_1 p306 q306
      cases e306
      replace p306 := eq_true p306
      replace q306 := eq_true q306
      go_wp2_with (first | (go_at_call 56; (with_reducible refine (skiffref1_Good.calls a0 ((rd_T68 t302 x7_1).f1.f0) ((rd_T68 t302 x7_1).f1.f1) ((rd_T68 t302 x7_1).f1.f2) ((rd_T68 t302 x7_1).f1.f3) true t308 _ A8.out).mono ?_); rintro e w12 ⟨rfl, hb⟩; have n0_ := Aside0.mk (Kd.R_below (kR HO_4.out) hb); have n1_ := Aside0.mk (kL BK301.out hb); have n2_ := Aside0.mk (below_step (kb1 HB.out GE301.out) hb); clear HO_4; clear BK301; clear HB; have HO_4 := n0_; have BK301 := n1_; have HB := n2_; clear n0_ n1_ n2_; (try clear hb); (try clear hb2); (try clear hk); (try clear hi)))
      repeat (go_quiet (first | (go_at_call 56; (with_reducible refine (skiffref1_Good.calls a0 ((rd_T68 t302 x7_1).f1.f0) ((rd_T68 t302 x7_1).f1.f1) ((rd_T68 t302 x7_1).f1.f2) ((rd_T68 t302 x7_1).f1.f3) true t308 _ A8.out).mono ?_); rintro e w12 ⟨rfl, hb⟩; have n0_ := Aside0.mk (Kd.R_below (kR HO_4.out) hb); have n1_ := Aside0.mk (kL BK301.out hb); have n2_ := Aside0.mk (below_step (kb1 HB.out GE301.out) hb); clear HO_4; clear BK301; clear HB; have HO_4 := n0_; have BK301 := n1_; have HB := n2_; clear n0_ n1_ n2_; (try clear hb); (try clear hb2); (try clear hk); (try clear hi))); try go_wp2_with (first | (go_at_call 56; (with_reducible refine (skiffref1_Good.calls a0 ((rd_T68 t302 x7_1).f1.f0) ((rd_T68 t302 x7_1).f1.f1) ((rd_T68 t302 x7_1).f1.f2) ((rd_T68 t302 x7_1).f1.f3) true t308 _ A8.out).mono ?_); rintro e w12 ⟨rfl, hb⟩; have n0_ := Aside0.mk (Kd.R_below (kR HO_4.out) hb); have n1_ := Aside0.mk (kL BK301.out hb); have n2_ := Aside0.mk (below_step (kb1 HB.out GE301.out) hb); clear HO_4; clear BK301; clear HB; have HO_4 := n0_; have BK301 := n1_; have HB := n2_; clear n0_ n1_ n2_; (try clear hb); (try clear hb2); (try clear hk); (try clear hi))))
      go_roundg k1
      case measure => have := HK1.out; omega
      case rel => exact ⟨(x7_1), (wrap64 (x7_1 + 1)), (by first | rfl | (simp; done) | (simp [*]; done)), (by first | rfl | (simp; done) | (simp [*]; done)), H', ⟨by have := HK1.out; omega⟩, ⟨kR HO_4.out⟩, ⟨kB BK301.out⟩, ⟨kb1 HB.out GE301.out⟩⟩
     ·rw [if_neg c10] at H
      have c10b0 : decide (x6_1 < 0) = false := decide_eq_false c10
      clear c10
      by_cases c13 : 0 ≤ x6_1
      case neg =>
       rw [if_neg c13] at H
       exact absurd H (by simp)
      rw [if_pos c13] at H
      have c13b0 : decide (0 ≤ x6_1) = true := decide_eq_true c13
      clear c13
      by_cases c14 : x6_1 < (t302.length : Int)
      case neg =>
       rw [if_neg c14] at H
       exact absurd H (by simp)
      rw [if_pos c14] at H
      have c14b0 : decide (x6_1 < (t302.length : Int)) = true := decide_eq_true c14
      clear c14
      by_cases c15 : ((rd_T68 t302 x7_1).f1.f0) ≥ ((rd_T68 t302 x6_1).f1.f0)
      ·rw [if_pos c15] at H
       have c15b0 : decide (((rd_T68 t302 x6_1).f1.f0) ≤ ((rd_T68 t302 x7_1).f1.f0)) = true := decide_eq_true c15
       clear c15
       have H' := Aside0.mk H
       clear H
       obtain ⟨Ao16, co16, eo16⟩ := Kd.R_slice HO_4.out
       subst eo16
       have p306 : 0 ≤ (x7_1 : Int) := of_decide_eq_true (by first | (with_reducible assumption) | assumption)
       have q306 : x7_1 < (t302.length : Int) := of_decide_eq_true (by first | (with_reducible assumption) | assumption)
       obtain ⟨ad306, e306, hx306_0, hx306_1, hx306_2, hx306_3, hx306_4⟩ := at_T68 (Kd.R_reads' HO_4.out).2.2 x7_1 p306 q306
       cases e306
       replace p306 := eq_true p306
       replace q306 := eq_true q306
       go_wp2_with (first | (go_at_call 56; (with_reducible refine (skiffref1_Good.calls a0 ((rd_T68 t302 x7_1).f1.f0) ((rd_T68 t302 x7_1).f1.f1) ((rd_T68 t302 x7_1).f1.f2) ((rd_T68 t302 x7_1).f1.f3) true t308 _ A8.out).mono ?_); rintro e w17 ⟨rfl, hb⟩; have n0_ := Aside0.mk (Kd.R_below (kR HO_4.out) hb); have n1_ := Aside0.mk (kL BK301.out hb); have n2_ := Aside0.mk (below_step (kb1 HB.out GE301.out) hb); clear HO_4; clear BK301; clear HB; have HO_4 := n0_; have BK301 := n1_; have HB := n2_; clear n0_ n1_ n2_; (try clear hb); (try clear hb2); (try clear hk); (try clear hi); have p309 : 0 ≤ (x7_1 : Int) := of_decide_eq_true (by first | (with_reducible assumption) | assumption); have q309 : x7_1 < (t302.length : Int) := of_decide_eq_true (by first | (with_reducible assumption) | assumption); obtain ⟨ad309, e309, hx309_0, hx309_1, hx309_2, hx309_3, hx309_4⟩ := at_T68 (Kd.R_reads' HO_4.out).2.2 x7_1 p309 q309; obtain rfl : ad306 = ad309 := (by injection e309); replace p309 := eq_true p309; replace q309 := eq_true q309; have p310 : 0 ≤ (x6_1 : Int) := of_decide_eq_true (by first | (with_reducible assumption) | assumption); have q310 : x6_1 < (t302.length : Int) := of_decide_eq_true (by first | (with_reducible assumption) | assumption); obtain ⟨ad310, e310, hx310_0, hx310_1, hx310_2, hx310_3, hx310_4⟩ := at_T68 (Kd.R_reads' HO_4.out).2.2 x6_1 p310 q310; obtain rfl : ad306 = ad310 := (by injection e310); replace p310 := eq_true p310; replace q310 := eq_true q310))
       repeat (go_quiet (first | (go_at_call 56; (with_reducible refine (skiffref1_Good.calls a0 ((rd_T68 t302 x7_1).f1.f0) ((rd_T68 t302 x7_1).f1.f1) ((rd_T68 t302 x7_1).f1.f2) ((rd_T68 t302 x7_1).f1.f3) true t308 _ A8.out).mono ?_); rintro e w17 ⟨rfl, hb⟩; have n0_ := Aside0.mk (Kd.R_below (kR HO_4.out) hb); have n1_ := Aside0.mk (kL BK301.out hb); have n2_ := Aside0.mk (below_step (kb1 HB.out GE301.out) hb); clear HO_4; clear BK301; clear HB; have HO_4 := n0_; have BK301 := n1_; have HB := n2_; clear n0_ n1_ n2_; (try clear hb); (try clear hb2); (try clear hk); (try clear hi); have p309 : 0 ≤ (x7_1 : Int) := of_decide_eq_true (by first | (with_reducible assumption) | assumption); have q309 : x7_1 < (t302.length : Int) := of_decide_eq_true (by first | (with_reducible assumption) | assumption); obtain ⟨ad309, e309, hx309_0, hx309_1, hx309_2, hx309_3, hx309_4⟩ := at_T68 (Kd.R_reads' HO_4.out).2.2 x7_1 p309 q309; obtain rfl : ad306 = ad309 := (by injection e309); replace p309 := eq_true p309; replace q309 := eq_true q309; have p310 : 0 ≤ (x6_1 : Int) := of_decide_eq_true (by first | (with_reducible assumption) | assumption); have q310 : x6_1 < (t302.length : Int) := of_decide_eq_true (by first | (with_reducible assumption) | assumption); obtain ⟨ad310, e310, hx310_0, hx310_1, hx310_2, hx310_3, hx310_4⟩ := at_T68 (Kd.R_reads' HO_4.out).2.2 x6_1 p310 q310; obtain rfl : ad306 = ad310 := (by injection e310); replace p310 := eq_true p310; replace q310 := eq_true q310)); try go_wp2_with (first | (go_at_call 56; (with_reducible refine (skiffref1_Good.calls a0 ((rd_T68 t302 x7_1).f1.f0) ((rd_T68 t302 x7_1).f1.f1) ((rd_T68 t302 x7_1).f1.f2) ((rd_T68 t302 x7_1).f1.f3) true t308 _ A8.out).mono ?_); rintro e w17 ⟨rfl, hb⟩; have n0_ := Aside0.mk (Kd.R_below (kR HO_4.out) hb); have n1_ := Aside0.mk (kL BK301.out hb); have n2_ := Aside0.mk (below_step (kb1 HB.out GE301.out) hb); clear HO_4; clear BK301; clear HB; have HO_4 := n0_; have BK301 := n1_; have HB := n2_; clear n0_ n1_ n2_; (try clear hb); (try clear hb2); (try clear hk); (try clear hi); have p309 : 0 ≤ (x7_1 : Int) := of_decide_eq_true (by first | (with_reducible assumption) | assumption); have q309 : x7_1 < (t302.length : Int) := of_decide_eq_true (by first | (with_reducible assumption) | assumption); obtain ⟨ad309, e309, hx309_0, hx309_1, hx309_2, hx309_3, hx309_4⟩ := at_T68 (Kd.R_reads' HO_4.out).2.2 x7_1 p309 q309; obtain rfl : ad306 = ad309 := (by injection e309); replace p309 := eq_true p309; replace q309 := eq_true q309; have p310 : 0 ≤ (x6_1 : Int) := of_decide_eq_true (by first | (with_reducible assumption) | assumption); have q310 : x6_1 < (t302.length : Int) := of_decide_eq_true (by first | (with_reducible assumption) | assumption); obtain ⟨ad310, e310, hx310_0, hx310_1, hx310_2, hx310_3, hx310_4⟩ := at_T68 (Kd.R_reads' HO_4.out).2.2 x6_1 p310 q310; obtain rfl : ad306 = ad310 := (by injection e310); replace p310 := eq_true p310; replace q310 := eq_true q310)))
       go_roundg k1
       case measure => have := HK1.out; omega
       case rel => exact ⟨(x7_1), (wrap64 (x7_1 + 1)), (by first | rfl | (simp; done) | (simp [*]; done)), (by first | rfl | (simp; done) | (simp [*]; done)), H', ⟨by have := HK1.out; omega⟩, ⟨kR HO_4.out⟩, ⟨kB BK301.out⟩, ⟨kb1 HB.out GE301.out⟩⟩
      ·rw [if_neg c15] at H
       have c15b0 : decide (((rd_T68 t302 x6_1).f1.f0) ≤ ((rd_T68 t302 x7_1).f1.f0)) = false := decide_eq_false c15
       clear c15
       have H' := Aside0.mk H
       clear H
       obtain ⟨Ao18, co18, eo18⟩ := Kd.R_slice HO_4.out
       subst eo18
       have p306 : 0 ≤ (x7_1 : Int) := of_decide_eq_true (by first | (with_reducible assumption) | assumption)
       have q306 : x7_1 < (t302.length : Int) := of_decide_eq_true (by first | (with_reducible assumption) | assumption)
       obtain ⟨ad306, e306, hx306_0, hx306_1, hx306_2, hx306_3, hx306_4⟩ := at_T68 (Kd.R_reads' HO_4.out).2.2 x7_1 p306 q306
       cases e306
       replace p306 := eq_true p306
       replace q306 := eq_true q306
       go_wp2_with (first | (go_at_call 56; (with_reducible refine (skiffref1_Good.calls a0 ((rd_T68 t302 x7_1).f1.f0) ((rd_T68 t302 x7_1).f1.f1) ((rd_T68 t302 x7_1).f1.f2) ((rd_T68 t302 x7_1).f1.f3) true t308 _ A8.out).mono ?_); rintro e w19 ⟨rfl, hb⟩; have n0_ := Aside0.mk (Kd.R_below (kR HO_4.out) hb); have n1_ := Aside0.mk (kL BK301.out hb); have n2_ := Aside0.mk (below_step (kb1 HB.out GE301.out) hb); clear HO_4; clear BK301; clear HB; have HO_4 := n0_; have BK301 := n1_; have HB := n2_; clear n0_ n1_ n2_; (try clear hb); (try clear hb2); (try clear hk); (try clear hi); have p309 : 0 ≤ (x7_1 : Int) := of_decide_eq_true (by first | (with_reducible assumption) | assumption); have q309 : x7_1 < (t302.length : Int) := of_decide_eq_true (by first | (with_reducible assumption) | assumption); obtain ⟨ad309, e309, hx309_0, hx309_1, hx309_2, hx309_3, hx309_4⟩ := at_T68 (Kd.R_reads' HO_4.out).2.2 x7_1 p309 q309; obtain rfl : ad306 = ad309 := (by injection e309); replace p309 := eq_true p309; replace q309 := eq_true q309; have p310 : 0 ≤ (x6_1 : Int) := of_decide_eq_true (by first | (with_reducible assumption) | assumption); have q310 : x6_1 < (t302.length : Int) := of_decide_eq_true (by first | (with_reducible assumption) | assumption); obtain ⟨ad310, e310, hx310_0, hx310_1, hx310_2, hx310_3, hx310_4⟩ := at_T68 (Kd.R_reads' HO_4.out).2.2 x6_1 p310 q310; obtain rfl : ad306 = ad310 := (by injection e310); replace p310 := eq_true p310; replace q310 := eq_true q310))
       repeat (go_quiet (first | (go_at_call 56; (with_reducible refine (skiffref1_Good.calls a0 ((rd_T68 t302 x7_1).f1.f0) ((rd_T68 t302 x7_1).f1.f1) ((rd_T68 t302 x7_1).f1.f2) ((rd_T68 t302 x7_1).f1.f3) true t308 _ A8.out).mono ?_); rintro e w19 ⟨rfl, hb⟩; have n0_ := Aside0.mk (Kd.R_below (kR HO_4.out) hb); have n1_ := Aside0.mk (kL BK301.out hb); have n2_ := Aside0.mk (below_step (kb1 HB.out GE301.out) hb); clear HO_4; clear BK301; clear HB; have HO_4 := n0_; have BK301 := n1_; have HB := n2_; clear n0_ n1_ n2_; (try clear hb); (try clear hb2); (try clear hk); (try clear hi); have p309 : 0 ≤ (x7_1 : Int) := of_decide_eq_true (by first | (with_reducible assumption) | assumption); have q309 : x7_1 < (t302.length : Int) := of_decide_eq_true (by first | (with_reducible assumption) | assumption); obtain ⟨ad309, e309, hx309_0, hx309_1, hx309_2, hx309_3, hx309_4⟩ := at_T68 (Kd.R_reads' HO_4.out).2.2 x7_1 p309 q309; obtain rfl : ad306 = ad309 := (by injection e309); replace p309 := eq_true p309; replace q309 := eq_true q309; have p310 : 0 ≤ (x6_1 : Int) := of_decide_eq_true (by first | (with_reducible assumption) | assumption); have q310 : x6_1 < (t302.length : Int) := of_decide_eq_true (by first | (with_reducible assumption) | assumption); obtain ⟨ad310, e310, hx310_0, hx310_1, hx310_2, hx310_3, hx310_4⟩ := at_T68 (Kd.R_reads' HO_4.out).2.2 x6_1 p310 q310; obtain rfl : ad306 = ad310 := (by injection e310); replace p310 := eq_true p310; replace q310 := eq_true q310)); try go_wp2_with (first | (go_at_call 56; (with_reducible refine (skiffref1_Good.calls a0 ((rd_T68 t302 x7_1).f1.f0) ((rd_T68 t302 x7_1).f1.f1) ((rd_T68 t302 x7_1).f1.f2) ((rd_T68 t302 x7_1).f1.f3) true t308 _ A8.out).mono ?_); rintro e w19 ⟨rfl, hb⟩; have n0_ := Aside0.mk (Kd.R_below (kR HO_4.out) hb); have n1_ := Aside0.mk (kL BK301.out hb); have n2_ := Aside0.mk (below_step (kb1 HB.out GE301.out) hb); clear HO_4; clear BK301; clear HB; have HO_4 := n0_; have BK301 := n1_; have HB := n2_; clear n0_ n1_ n2_; (try clear hb); (try clear hb2); (try clear hk); (try clear hi); have p309 : 0 ≤ (x7_1 : Int) := of_decide_eq_true (by first | (with_reducible assumption) | assumption); have q309 : x7_1 < (t302.length : Int) := of_decide_eq_true (by first | (with_reducible assumption) | assumption); obtain ⟨ad309, e309, hx309_0, hx309_1, hx309_2, hx309_3, hx309_4⟩ := at_T68 (Kd.R_reads' HO_4.out).2.2 x7_1 p309 q309; obtain rfl : ad306 = ad309 := (by injection e309); replace p309 := eq_true p309; replace q309 := eq_true q309; have p310 : 0 ≤ (x6_1 : Int) := of_decide_eq_true (by first | (with_reducible assumption) | assumption); have q310 : x6_1 < (t302.length : Int) := of_decide_eq_true (by first | (with_reducible assumption) | assumption); obtain ⟨ad310, e310, hx310_0, hx310_1, hx310_2, hx310_3, hx310_4⟩ := at_T68 (Kd.R_reads' HO_4.out).2.2 x6_1 p310 q310; obtain rfl : ad306 = ad310 := (by injection e310); replace p310 := eq_true p310; replace q310 := eq_true q310)))
       go_roundg k1
       case measure => have := HK1.out; omega
       case rel => exact ⟨(x6_1), (wrap64 (x7_1 + 1)), (by first | rfl | (simp; done) | (simp [*]; done)), (by first | rfl | (simp; done) | (simp [*]; done)), H', ⟨by have := HK1.out; omega⟩, ⟨kR HO_4.out⟩, ⟨kB BK301.out⟩, ⟨kb1 HB.out GE301.out⟩⟩
    ·replace c9 := Bool.eq_false_iff.mpr c9
     subst c9
     have H1 : (skiffref1_Active.l0 k1 a0 t302 x6_1 (wrap64 (x7_1 + 1))) = some (r1, r2, r3, r4, r5, r6) := by rw [if_neg (show ¬ (false = true) by decide)] at H; exact H
     clear H; have H := H1; clear H1
     have H' := Aside0.mk H
     clear H
     obtain ⟨Ao20, co20, eo20⟩ := Kd.R_slice HO_4.out
     subst eo20
     have p306 : 0 ≤ (x7_1 : Int) := of_decide_eq_true (by first | (with_reducible assumption) | assumption)
     have q306 : x7_1 < (t302.length : Int) := of_decide_eq_true (by first | (with_reducible assumption) | assumption)
     obtain ⟨ad306, e306, hx306_0, hx306_1, hx306_2, hx306_3, hx306_4⟩ := at_T68 (Kd.R_reads' HO_4.out).2.2 x7_1 p306 q306
     cases e306
     replace p306 := eq_true p306
     replace q306 := eq_true q306
     go_wp2_with (first | (go_at_call 56; (with_reducible refine (skiffref1_Good.calls a0 ((rd_T68 t302 x7_1).f1.f0) ((rd_T68 t302 x7_1).f1.f1) ((rd_T68 t302 x7_1).f1.f2) ((rd_T68 t302 x7_1).f1.f3) false t308 _ A8.out).mono ?_); rintro e w21 ⟨rfl, hb⟩; have n0_ := Aside0.mk (Kd.R_below (kR HO_4.out) hb); have n1_ := Aside0.mk (kL BK301.out hb); have n2_ := Aside0.mk (below_step (kb1 HB.out GE301.out) hb); clear HO_4; clear BK301; clear HB; have HO_4 := n0_; have BK301 := n1_; have HB := n2_; clear n0_ n1_ n2_; (try clear hb); (try clear hb2); (try clear hk); (try clear hi)))
     repeat (go_quiet (first | (go_at_call 56; (with_reducible refine (skiffref1_Good.calls a0 ((rd_T68 t302 x7_1).f1.f0) ((rd_T68 t302 x7_1).f1.f1) ((rd_T68 t302 x7_1).f1.f2) ((rd_T68 t302 x7_1).f1.f3) false t308 _ A8.out).mono ?_); rintro e w21 ⟨rfl, hb⟩; have n0_ := Aside0.mk (Kd.R_below (kR HO_4.out) hb); have n1_ := Aside0.mk (kL BK301.out hb); have n2_ := Aside0.mk (below_step (kb1 HB.out GE301.out) hb); clear HO_4; clear BK301; clear HB; have HO_4 := n0_; have BK301 := n1_; have HB := n2_; clear n0_ n1_ n2_; (try clear hb); (try clear hb2); (try clear hk); (try clear hi))); try go_wp2_with (first | (go_at_call 56; (with_reducible refine (skiffref1_Good.calls a0 ((rd_T68 t302 x7_1).f1.f0) ((rd_T68 t302 x7_1).f1.f1) ((rd_T68 t302 x7_1).f1.f2) ((rd_T68 t302 x7_1).f1.f3) false t308 _ A8.out).mono ?_); rintro e w21 ⟨rfl, hb⟩; have n0_ := Aside0.mk (Kd.R_below (kR HO_4.out) hb); have n1_ := Aside0.mk (kL BK301.out hb); have n2_ := Aside0.mk (below_step (kb1 HB.out GE301.out) hb); clear HO_4; clear BK301; clear HB; have HO_4 := n0_; have BK301 := n1_; have HB := n2_; clear n0_ n1_ n2_; (try clear hb); (try clear hb2); (try clear hk); (try clear hi))))
     go_roundg k1
     case measure => have := HK1.out; omega
     case rel => exact ⟨(x6_1), (wrap64 (x7_1 + 1)), (by first | rfl | (simp; done) | (simp [*]; done)), (by first | rfl | (simp; done) | (simp [*]; done)), H', ⟨by have := HK1.out; omega⟩, ⟨kR HO_4.out⟩, ⟨kB BK301.out⟩, ⟨kb1 HB.out GE301.out⟩⟩
   ·rw [if_neg c6] at H
    have c6b0 : decide (x7_1 < (t302.length : Int)) = false := decide_eq_false c6
    clear c6
    by_cases c22 : x6_1 < 0
    ·rw [if_pos c22] at H
     have c22b0 : decide (x6_1 < 0) = true := decide_eq_true c22
     clear c22
     simp only [Option.some.injEq, Prod.mk.injEq] at H
     obtain ⟨rfl, rfl, rfl, rfl, rfl, rfl⟩ := H
     obtain ⟨Ao23, co23, eo23⟩ := Kd.R_slice HO_4.out
     subst eo23
     obtain ⟨hcz24_0, hcz24_1, hcz24_2, hcz24_3, hcz24_4⟩ := kc5 BK301.out
     obtain ⟨hfz24_0, hfz24_1, hfz24_2, hfz24_3, hfz24_4⟩ := kf5 BK301.out
     go_wp2
     repeat (go_quiet (fail); try go_wp2)
     refine bodyPost_ret (results_ct rfl _ _ gb301 68 #[.int .i64 0, .int .i64 0, .int .i64 0, .int .i64 0, .int .i64 0] (0, 0) _ rfl (kP5 BK301.out) Tryz.underlying68 rfl (by kernel_rfl)) rfl ?_
     exact ⟨by first | rfl | (simp [errW_none, errW_some] <;> rfl) | (simp [*, errW_none, errW_some] <;> rfl), kb1 HB.out GE301.out⟩
    ·rw [if_neg c22] at H
     have c22b0 : decide (x6_1 < 0) = false := decide_eq_false c22
     clear c22
     by_cases c25 : 0 ≤ x6_1
     case neg =>
      rw [if_neg c25] at H
      exact absurd H (by simp)
     rw [if_pos c25] at H
     have c25b0 : decide (0 ≤ x6_1) = true := decide_eq_true c25
     clear c25
     by_cases c26 : x6_1 < (t302.length : Int)
     case neg =>
      rw [if_neg c26] at H
      exact absurd H (by simp)
     rw [if_pos c26] at H
     have c26b0 : decide (x6_1 < (t302.length : Int)) = true := decide_eq_true c26
     clear c26
     simp only [Option.some.injEq, Prod.mk.injEq] at H
     obtain ⟨rfl, rfl, rfl, rfl, rfl, rfl⟩ := H
     obtain ⟨Ao27, co27, eo27⟩ := Kd.R_slice HO_4.out
     subst eo27
     have p311 : 0 ≤ (x6_1 : Int) := of_decide_eq_true (by first | (with_reducible assumption) | assumption)
     have q311 : x6_1 < (t302.length : Int) := of_decide_eq_true (by first | (with_reducible assumption) | assumption)
     obtain ⟨ad311, e311, hx311_0, hx311_1, hx311_2, hx311_3, hx311_4⟩ := at_T68 (Kd.R_reads' HO_4.out).2.2 x6_1 p311 q311
     cases e311
     replace p311 := eq_true p311
     replace q311 := eq_true q311
     obtain ⟨hcz28_0, hcz28_1, hcz28_2, hcz28_3, hcz28_4⟩ := kc5 BK301.out
     obtain ⟨hfz28_0, hfz28_1, hfz28_2, hfz28_3, hfz28_4⟩ := kf5 BK301.out
     go_wp2
     repeat (go_quiet (fail); try go_wp2)
     refine bodyPost_ret (results_ct rfl _ _ gb301 68 #[.int .i64 ((rd_T68 t302 x6_1).f0), .int .i64 ((rd_T68 t302 x6_1).f1.f0), .int .i64 ((rd_T68 t302 x6_1).f1.f1), .int .i64 ((rd_T68 t302 x6_1).f1.f2), .int .i64 ((rd_T68 t302 x6_1).f1.f3)] (0, 0) _ rfl (kP5 BK301.out) Tryz.underlying68 rfl (by kernel_rfl)) rfl ?_
     exact ⟨by first | rfl | (simp [errW_none, errW_some] <;> rfl) | (simp [*, errW_none, errW_some] <;> rfl), kb1 HB.out GE301.out⟩

/-! ### skiffref1_Other: function 17 -/
def skiffref1_Other.f (k : Nat) (a0 : ByteArray) : Option (Int × Int) := (skiffref1_Active.f k a0).bind fun bt312 => (if bt312.2.2.2.2.2 = 0 then (some (wrap64 (1 - bt312.2.2.1), 0)) else (if bt312.2.2.2.2.2 = 701 then (some (0, 0)) else (some (0, bt312.2.2.2.2.2))))
set_option maxHeartbeats 8000000 in
set_option maxRecDepth 100000 in
theorem skiffref1_Other.calls (k : Nat) (a0 : ByteArray) (r1 : Int) (r2 : Int) (w : World) (h : skiffref1_Other.f k a0 = some (r1, r2)) :
  Calls Tryz.prog 17 #[.string a0] w fun e w' => e = .returned (.tuple #[.int .i64 r1, .int .i64 r2]) ∧ Below w.heap.size w w' := by
 have hu68 := Tryz.underlying68
 have HB := Aside0.mk (Below.refl w.heap.size w)
 have H : ((skiffref1_Active.f k a0).bind fun bt312 => (if bt312.2.2.2.2.2 = 0 then (some (wrap64 (1 - bt312.2.2.1), 0)) else (if bt312.2.2.2.2.2 = 701 then (some (0, 0)) else (some (0, bt312.2.2.2.2.2))))) = some (r1, r2) := h
 clear h
 replace H := Option.bind_eq_some_iff.mp H
 obtain ⟨⟨t312, t313, t314, t315, t316, t317⟩, A20, H⟩ := H
 replace H : (if t317 = 0 then (some (wrap64 (1 - t314), 0)) else (if t317 = 701 then (some (0, 0)) else (some (0, t317)))) = some (r1, r2) := H
 have A2 := Aside0.mk A20
 clear A20
 by_cases c3 : t317 = 0
 ·rw [if_pos c3] at H
  have c3b0 : (t317 == 0) = true := beq_iff_eq.mpr c3
  have c3b1 : (t317 != 0) = false := bne_eq_false_iff_eq.mpr c3
  clear c3
  simp only [Option.some.injEq, Prod.mk.injEq] at H
  obtain ⟨rfl, rfl⟩ := H
  go_enter Tryz.func17, Tryz.ntmps17
  go_wp2_with (first | ((with_reducible refine gate_callee (f := 36) rfl ?_); refine goesL_ (some 8) rfl rfl Tryz.func36 (by kernel_rfl) rfl #[.string a0] rfl ka ?_; (with_reducible refine (skiffref1_Active.calls k a0 t312 t313 t314 t315 t316 t317 _ A2.out).mono ?_); rintro e w4 ⟨rfl, hb⟩; refine ⟨_, rfl, ?_⟩; have n0_ := Aside0.mk (below_step (kb HB.out) hb); clear HB; have HB := n0_; clear n0_; (try clear hb); (try clear hb2); (try clear hk); (try clear hi)) | ((with_reducible refine gate_dst (N := 4) rfl ?_); refine box_event ?hg (N := 4) ?hd (cs := #[.int .i64 0, .int .i64 0, .int .i64 0, .int .i64 0, .int .i64 0]) (t := 68) ?hr ?_; (case hd => rfl); (case hg => rfl); (case hr => first | (go_simp; done) | (go_simp; rfl)); intro gb318 hg w5 hbox hb; have n0_ := Aside0.mk (below_step (kb HB.out) hb); have n1_ := Aside0.mk (hbox); have n2_ := Aside0.mk ((kz hg (below_size (kb HB.out)) : w.heap.size ≤ gb318)); have n3_ := Aside0.mk ((kz hg (below_size (kb HB.out)) : w.heap.size ≤ gb318)); clear HB; have HB := n0_; have BK318 := n1_; have GW318 := n2_; have GE318 := n3_; clear n0_ n1_ n2_ n3_; clear hb hbox hg; obtain ⟨hcz6_0, hcz6_1, hcz6_2, hcz6_3, hcz6_4⟩ := kc5 BK318.out; obtain ⟨hfz6_0, hfz6_1, hfz6_2, hfz6_3, hfz6_4⟩ := kf5 BK318.out))
  go_ret2
  exact ⟨by first | rfl | (simp [errW_none, errW_some] <;> rfl) | (simp [*, errW_none, errW_some] <;> rfl), kb1 HB.out GE318.out⟩
 ·rw [if_neg c3] at H
  have c3b0 : (t317 == 0) = false := beq_eq_false_iff_ne.mpr c3
  have c3b1 : (t317 != 0) = true := bne_iff_ne.mpr c3
  by_cases c7 : t317 = 701
  case neg =>
   rw [if_neg c7] at H
   have c7b0 : (t317 == 701) = false := beq_eq_false_iff_ne.mpr c7
   have c7b1 : (t317 != 701) = true := bne_iff_ne.mpr c7
   simp only [Option.some.injEq, Prod.mk.injEq] at H
   obtain ⟨rfl, rfl⟩ := H
   go_enter Tryz.func17, Tryz.ntmps17
   go_wp2_with (first | ((with_reducible refine gate_callee (f := 36) rfl ?_); refine goesL_ (some 8) rfl rfl Tryz.func36 (by kernel_rfl) rfl #[.string a0] rfl ka ?_; (with_reducible refine (skiffref1_Active.calls k a0 t312 t313 t314 t315 t316 t317 _ A2.out).mono ?_); rintro e w11 ⟨rfl, hb⟩; refine ⟨_, rfl, ?_⟩; have n0_ := Aside0.mk (below_step (kb HB.out) hb); clear HB; have HB := n0_; clear n0_; (try clear hb); (try clear hb2); (try clear hk); (try clear hi)) | ((with_reducible refine gate_dst (N := 4) rfl ?_); refine box_event ?hg (N := 4) ?hd (cs := #[.int .i64 0, .int .i64 0, .int .i64 0, .int .i64 0, .int .i64 0]) (t := 68) ?hr ?_; (case hd => rfl); (case hg => rfl); (case hr => first | (go_simp; done) | (go_simp; rfl)); intro gb318 hg w12 hbox hb; have n0_ := Aside0.mk (below_step (kb HB.out) hb); have n1_ := Aside0.mk (hbox); have n2_ := Aside0.mk ((kz hg (below_size (kb HB.out)) : w.heap.size ≤ gb318)); have n3_ := Aside0.mk ((kz hg (below_size (kb HB.out)) : w.heap.size ≤ gb318)); clear HB; have HB := n0_; have BK318 := n1_; have GW318 := n2_; have GE318 := n3_; clear n0_ n1_ n2_ n3_; clear hb hbox hg; obtain ⟨hcz13_0, hcz13_1, hcz13_2, hcz13_3, hcz13_4⟩ := kc5 BK318.out; obtain ⟨hfz13_0, hfz13_1, hfz13_2, hfz13_3, hfz13_4⟩ := kf5 BK318.out))
   go_ret2
   exact ⟨by first | rfl | (simp [errW_none, errW_some] <;> rfl) | (simp [*, errW_none, errW_some] <;> rfl), kb1 HB.out GE318.out⟩
  rw [if_pos c7] at H
  have c7b0 : (t317 == 701) = true := beq_iff_eq.mpr c7
  have c7b1 : (t317 != 701) = false := bne_eq_false_iff_eq.mpr c7
  clear c7
  simp only [Option.some.injEq, Prod.mk.injEq] at H
  obtain ⟨rfl, rfl⟩ := H
  go_enter Tryz.func17, Tryz.ntmps17
  go_wp2_with (first | ((with_reducible refine gate_callee (f := 36) rfl ?_); refine goesL_ (some 8) rfl rfl Tryz.func36 (by kernel_rfl) rfl #[.string a0] rfl ka ?_; (with_reducible refine (skiffref1_Active.calls k a0 t312 t313 t314 t315 t316 t317 _ A2.out).mono ?_); rintro e w8 ⟨rfl, hb⟩; refine ⟨_, rfl, ?_⟩; have n0_ := Aside0.mk (below_step (kb HB.out) hb); clear HB; have HB := n0_; clear n0_; (try clear hb); (try clear hb2); (try clear hk); (try clear hi)) | ((with_reducible refine gate_dst (N := 4) rfl ?_); refine box_event ?hg (N := 4) ?hd (cs := #[.int .i64 0, .int .i64 0, .int .i64 0, .int .i64 0, .int .i64 0]) (t := 68) ?hr ?_; (case hd => rfl); (case hg => rfl); (case hr => first | (go_simp; done) | (go_simp; rfl)); intro gb318 hg w9 hbox hb; have n0_ := Aside0.mk (below_step (kb HB.out) hb); have n1_ := Aside0.mk (hbox); have n2_ := Aside0.mk ((kz hg (below_size (kb HB.out)) : w.heap.size ≤ gb318)); have n3_ := Aside0.mk ((kz hg (below_size (kb HB.out)) : w.heap.size ≤ gb318)); clear HB; have HB := n0_; have BK318 := n1_; have GW318 := n2_; have GE318 := n3_; clear n0_ n1_ n2_ n3_; clear hb hbox hg; obtain ⟨hcz10_0, hcz10_1, hcz10_2, hcz10_3, hcz10_4⟩ := kc5 BK318.out; obtain ⟨hfz10_0, hfz10_1, hfz10_2, hfz10_3, hfz10_4⟩ := kf5 BK318.out))
  go_ret2
  exact ⟨by first | rfl | (simp [errW_none, errW_some] <;> rfl) | (simp [*, errW_none, errW_some] <;> rfl), kb1 HB.out GE318.out⟩

/-! ### skiffref16_upTo: function 26 -/
def skiffref16_upTo.f (a0 : Int) (a1 : Int) (a2 : Int) : Option (Bool) := if a0 ≥ a1 then (some (decide (a0 ≤ a2))) else (some false)
set_option maxHeartbeats 8000000 in
set_option maxRecDepth 100000 in
theorem skiffref16_upTo.calls (a0 : Int) (a1 : Int) (a2 : Int) (r : Bool) (w : World) (h : skiffref16_upTo.f a0 a1 a2 = some r) :
  Calls Tryz.prog 26 #[.int .i64 a0, .int .i64 a1, .int .i64 a2] w fun e w' => e = .returned (.bool r) ∧ Drawn0 w w' := by
 have H : (if a0 ≥ a1 then (some (decide (a0 ≤ a2))) else (some false)) = some r := h
 clear h
 by_cases c4 : a0 ≥ a1
 case neg =>
  rw [if_neg c4] at H
  have c4b0 : decide (a1 ≤ a0) = false := decide_eq_false c4
  clear c4
  obtain rfl := Option.some.inj H
  go_enter Tryz.func26, Tryz.ntmps26
  go_wp2
  go_ret
  exact ⟨by first | rfl | (simp; done) | (simp [*]; done), by repeat (first | exact Drawn0.refl _ | apply Drawn0.step)⟩
 rw [if_pos c4] at H
 have c4b0 : decide (a1 ≤ a0) = true := decide_eq_true c4
 clear c4
 obtain rfl := Option.some.inj H
 go_enter Tryz.func26, Tryz.ntmps26
 go_wp2
 go_ret
 exact ⟨by first | rfl | (simp; done) | (simp [*]; done), by repeat (first | exact Drawn0.refl _ | apply Drawn0.step)⟩

/-! ### skiffref1_wordAt: function 70 -/
def skiffref1_wordAt.f (a0 : Int) : Option (Bool) := (skiffref1_upTo.f a0 0 764).bind fun t319 => (if t319 = true then (some ((Int.tmod a0 4) == 0)) else (some false))
set_option maxHeartbeats 8000000 in
set_option maxRecDepth 100000 in
theorem skiffref1_wordAt.calls (a0 : Int) (r : Bool) (w : World) (h : skiffref1_wordAt.f a0 = some r) :
  Calls Tryz.prog 70 #[.int .i64 a0] w fun e w' => e = .returned (.bool r) ∧ Drawn0 w w' := by
 have H : ((skiffref1_upTo.f a0 0 764).bind fun t319 => (if t319 = true then (some ((Int.tmod a0 4) == 0)) else (some false))) = some r := h
 clear h
 replace H := Option.bind_eq_some_iff.mp H
 obtain ⟨t319, A20, H⟩ := H
 replace H : (if t319 = true then (some ((Int.tmod a0 4) == 0)) else (some false)) = some r := H
 have A2 := Aside0.mk A20
 clear A20
 by_cases c3 : t319 = true
 case neg =>
  replace c3 := Bool.eq_false_iff.mpr c3
  subst c3
  have H1 : (some false) = some r := by rw [if_neg (show ¬ (false = true) by decide)] at H; exact H
  clear H; have H := H1; clear H1
  obtain rfl := Option.some.inj H
  go_enter Tryz.func70, Tryz.ntmps70
  go_wp2_with (first | ((with_reducible refine gate_callee (f := 37) rfl ?_); refine goesL_ (some 4) rfl rfl Tryz.func37 (by kernel_rfl) rfl #[.int .i64 a0, .int .i64 0, .int .i64 764] rfl ka ?_; (with_reducible refine (skiffref1_upTo.calls a0 0 764 false _ A2.out).mono ?_); rintro e w' ⟨rfl, ⟨nd, rfl⟩⟩; refine ⟨_, rfl, ?_⟩))
  go_ret
  exact ⟨by first | rfl | (simp; done) | (simp [*]; done), by repeat (first | exact Drawn0.refl _ | apply Drawn0.step)⟩
 subst c3
 have H1 : (some ((Int.tmod a0 4) == 0)) = some r := by rw [if_pos rfl] at H; exact H
 clear H; have H := H1; clear H1
 obtain rfl := Option.some.inj H
 go_enter Tryz.func70, Tryz.ntmps70
 go_wp2_with (first | ((with_reducible refine gate_callee (f := 37) rfl ?_); refine goesL_ (some 4) rfl rfl Tryz.func37 (by kernel_rfl) rfl #[.int .i64 a0, .int .i64 0, .int .i64 764] rfl ka ?_; (with_reducible refine (skiffref1_upTo.calls a0 0 764 true _ A2.out).mono ?_); rintro e w' ⟨rfl, ⟨nd, rfl⟩⟩; refine ⟨_, rfl, ?_⟩))
 go_ret
 exact ⟨by first | rfl | (simp; done) | (simp [*]; done), by repeat (first | exact Drawn0.refl _ | apply Drawn0.step)⟩

/-! ### skiffref1_OpMay: function 52 -/
def skiffref1_OpMay.f (a0_0 : Bool) (a0_1 : Int) (a0_2 : ByteArray) : Option (Bool) := if a0_0 = true then ((skiffref1_upTo.f a0_1 0 672).bind fun t321 => (if t321 = true then (if (Int.tmod a0_1 96) = 0 then (some (a0_2.toList == ([] : List UInt8))) else (some false)) else (some false))) else ((skiffref1_wordAt.f a0_1).bind fun t322 => (if t322 = true then (some ((a0_2.size : Int) == 4)) else (some false)))
set_option maxHeartbeats 8000000 in
set_option maxRecDepth 100000 in
theorem skiffref1_OpMay.calls (a0_0 : Bool) (a0_1 : Int) (a0_2 : ByteArray) (r : Bool) (w : World) (h : skiffref1_OpMay.f a0_0 a0_1 a0_2 = some r) :
  Calls Tryz.prog 52 #[.agg #[.bool a0_0, .int .i64 a0_1, .string a0_2]] w fun e w' => e = .returned (.bool r) ∧ Below w.heap.size w w' := by
 have hu41 := Tryz.underlying41
 have HB := Aside0.mk (Below.refl w.heap.size w)
 have H : (if a0_0 = true then ((skiffref1_upTo.f a0_1 0 672).bind fun t321 => (if t321 = true then (if (Int.tmod a0_1 96) = 0 then (some (a0_2.toList == ([] : List UInt8))) else (some false)) else (some false))) else ((skiffref1_wordAt.f a0_1).bind fun t322 => (if t322 = true then (some ((a0_2.size : Int) == 4)) else (some false)))) = some r := h
 clear h
 by_cases c2 : a0_0 = true
 ·subst c2
  have H1 : ((skiffref1_upTo.f a0_1 0 672).bind fun t321 => (if t321 = true then (if (Int.tmod a0_1 96) = 0 then (some (a0_2.toList == ([] : List UInt8))) else (some false)) else (some false))) = some r := by rw [if_pos rfl] at H; exact H
  clear H; have H := H1; clear H1
  replace H := Option.bind_eq_some_iff.mp H
  obtain ⟨t321, A30, H⟩ := H
  replace H : (if t321 = true then (if (Int.tmod a0_1 96) = 0 then (some (a0_2.toList == ([] : List UInt8))) else (some false)) else (some false)) = some r := H
  have A3 := Aside0.mk A30
  clear A30
  by_cases c4 : t321 = true
  case neg =>
   replace c4 := Bool.eq_false_iff.mpr c4
   subst c4
   have H1 : (some false) = some r := by rw [if_neg (show ¬ (false = true) by decide)] at H; exact H
   clear H; have H := H1; clear H1
   obtain rfl := Option.some.inj H
   go_enter Tryz.func52, Tryz.ntmps52
   go_wp2_with (first | ((with_reducible refine gate_dst (N := 1) rfl ?_); (try (refine gate_guard (by rfl) ?_; dsimp only)); refine box_event ?hg (N := 1) ?hd (cs := #[.bool true, .int .i64 a0_1, .string a0_2]) (t := 41) ?hr ?_; (case hd => rfl); (case hg => rfl); (case hr => first | (go_simp; done) | (go_simp; rfl)); intro gb320 hg w10 hbox hb; have n0_ := Aside0.mk (below_step (kb HB.out) hb); have n1_ := Aside0.mk (hbox); have n2_ := Aside0.mk ((kz hg (below_size (kb HB.out)) : w.heap.size ≤ gb320)); have n3_ := Aside0.mk ((kz hg (below_size (kb HB.out)) : w.heap.size ≤ gb320)); clear HB; have HB := n0_; have BK320 := n1_; have GW320 := n2_; have GE320 := n3_; clear n0_ n1_ n2_ n3_; clear hb hbox hg; obtain ⟨hcz11_0, hcz11_1, hcz11_2⟩ := kc3 BK320.out; obtain ⟨hfz11_0, hfz11_1, hfz11_2⟩ := kf3 BK320.out) | ((with_reducible refine gate_callee (f := 37) rfl ?_); refine goesL_ (some 7) rfl rfl Tryz.func37 (by kernel_rfl) rfl #[.int .i64 a0_1, .int .i64 0, .int .i64 672] rfl ka ?_; (with_reducible refine (skiffref1_upTo.calls a0_1 0 672 false _ A3.out).mono ?_); rintro e w' ⟨rfl, ⟨nd, rfl⟩⟩; refine ⟨_, rfl, ?_⟩))
   go_ret
   exact ⟨by first | rfl | (simp [errW_none, errW_some] <;> rfl) | (simp [*, errW_none, errW_some] <;> rfl), kb1 HB.out GE320.out⟩
  subst c4
  have H1 : (if (Int.tmod a0_1 96) = 0 then (some (a0_2.toList == ([] : List UInt8))) else (some false)) = some r := by rw [if_pos rfl] at H; exact H
  clear H; have H := H1; clear H1
  by_cases c5 : (Int.tmod a0_1 96) = 0
  case neg =>
   rw [if_neg c5] at H
   have c5b0 : ((Int.tmod a0_1 96) == 0) = false := beq_eq_false_iff_ne.mpr c5
   have c5b1 : ((Int.tmod a0_1 96) != 0) = true := bne_iff_ne.mpr c5
   obtain rfl := Option.some.inj H
   go_enter Tryz.func52, Tryz.ntmps52
   go_wp2_with (first | ((with_reducible refine gate_dst (N := 1) rfl ?_); (try (refine gate_guard (by rfl) ?_; dsimp only)); refine box_event ?hg (N := 1) ?hd (cs := #[.bool true, .int .i64 a0_1, .string a0_2]) (t := 41) ?hr ?_; (case hd => rfl); (case hg => rfl); (case hr => first | (go_simp; done) | (go_simp; rfl)); intro gb320 hg w8 hbox hb; have n0_ := Aside0.mk (below_step (kb HB.out) hb); have n1_ := Aside0.mk (hbox); have n2_ := Aside0.mk ((kz hg (below_size (kb HB.out)) : w.heap.size ≤ gb320)); have n3_ := Aside0.mk ((kz hg (below_size (kb HB.out)) : w.heap.size ≤ gb320)); clear HB; have HB := n0_; have BK320 := n1_; have GW320 := n2_; have GE320 := n3_; clear n0_ n1_ n2_ n3_; clear hb hbox hg; obtain ⟨hcz9_0, hcz9_1, hcz9_2⟩ := kc3 BK320.out; obtain ⟨hfz9_0, hfz9_1, hfz9_2⟩ := kf3 BK320.out) | ((with_reducible refine gate_callee (f := 37) rfl ?_); refine goesL_ (some 7) rfl rfl Tryz.func37 (by kernel_rfl) rfl #[.int .i64 a0_1, .int .i64 0, .int .i64 672] rfl ka ?_; (with_reducible refine (skiffref1_upTo.calls a0_1 0 672 true _ A3.out).mono ?_); rintro e w' ⟨rfl, ⟨nd, rfl⟩⟩; refine ⟨_, rfl, ?_⟩))
   go_ret
   exact ⟨by first | rfl | (simp [errW_none, errW_some] <;> rfl) | (simp [*, errW_none, errW_some] <;> rfl), kb1 HB.out GE320.out⟩
  rw [if_pos c5] at H
  have c5b0 : ((Int.tmod a0_1 96) == 0) = true := beq_iff_eq.mpr c5
  have c5b1 : ((Int.tmod a0_1 96) != 0) = false := bne_eq_false_iff_eq.mpr c5
  clear c5
  obtain rfl := Option.some.inj H
  go_enter Tryz.func52, Tryz.ntmps52
  go_wp2_with (first | ((with_reducible refine gate_dst (N := 1) rfl ?_); (try (refine gate_guard (by rfl) ?_; dsimp only)); refine box_event ?hg (N := 1) ?hd (cs := #[.bool true, .int .i64 a0_1, .string a0_2]) (t := 41) ?hr ?_; (case hd => rfl); (case hg => rfl); (case hr => first | (go_simp; done) | (go_simp; rfl)); intro gb320 hg w6 hbox hb; have n0_ := Aside0.mk (below_step (kb HB.out) hb); have n1_ := Aside0.mk (hbox); have n2_ := Aside0.mk ((kz hg (below_size (kb HB.out)) : w.heap.size ≤ gb320)); have n3_ := Aside0.mk ((kz hg (below_size (kb HB.out)) : w.heap.size ≤ gb320)); clear HB; have HB := n0_; have BK320 := n1_; have GW320 := n2_; have GE320 := n3_; clear n0_ n1_ n2_ n3_; clear hb hbox hg; obtain ⟨hcz7_0, hcz7_1, hcz7_2⟩ := kc3 BK320.out; obtain ⟨hfz7_0, hfz7_1, hfz7_2⟩ := kf3 BK320.out) | ((with_reducible refine gate_callee (f := 37) rfl ?_); refine goesL_ (some 7) rfl rfl Tryz.func37 (by kernel_rfl) rfl #[.int .i64 a0_1, .int .i64 0, .int .i64 672] rfl ka ?_; (with_reducible refine (skiffref1_upTo.calls a0_1 0 672 true _ A3.out).mono ?_); rintro e w' ⟨rfl, ⟨nd, rfl⟩⟩; refine ⟨_, rfl, ?_⟩))
  go_ret
  exact ⟨by first | rfl | (simp [errW_none, errW_some] <;> rfl) | (simp [*, errW_none, errW_some] <;> rfl), kb1 HB.out GE320.out⟩
 ·replace c2 := Bool.eq_false_iff.mpr c2
  subst c2
  have H1 : ((skiffref1_wordAt.f a0_1).bind fun t322 => (if t322 = true then (some ((a0_2.size : Int) == 4)) else (some false))) = some r := by rw [if_neg (show ¬ (false = true) by decide)] at H; exact H
  clear H; have H := H1; clear H1
  replace H := Option.bind_eq_some_iff.mp H
  obtain ⟨t322, A120, H⟩ := H
  replace H : (if t322 = true then (some ((a0_2.size : Int) == 4)) else (some false)) = some r := H
  have A12 := Aside0.mk A120
  clear A120
  by_cases c13 : t322 = true
  case neg =>
   replace c13 := Bool.eq_false_iff.mpr c13
   subst c13
   have H1 : (some false) = some r := by rw [if_neg (show ¬ (false = true) by decide)] at H; exact H
   clear H; have H := H1; clear H1
   obtain rfl := Option.some.inj H
   go_enter Tryz.func52, Tryz.ntmps52
   go_wp2_with (first | ((with_reducible refine gate_dst (N := 1) rfl ?_); (try (refine gate_guard (by rfl) ?_; dsimp only)); refine box_event ?hg (N := 1) ?hd (cs := #[.bool false, .int .i64 a0_1, .string a0_2]) (t := 41) ?hr ?_; (case hd => rfl); (case hg => rfl); (case hr => first | (go_simp; done) | (go_simp; rfl)); intro gb320 hg w16 hbox hb; have n0_ := Aside0.mk (below_step (kb HB.out) hb); have n1_ := Aside0.mk (hbox); have n2_ := Aside0.mk ((kz hg (below_size (kb HB.out)) : w.heap.size ≤ gb320)); have n3_ := Aside0.mk ((kz hg (below_size (kb HB.out)) : w.heap.size ≤ gb320)); clear HB; have HB := n0_; have BK320 := n1_; have GW320 := n2_; have GE320 := n3_; clear n0_ n1_ n2_ n3_; clear hb hbox hg; obtain ⟨hcz17_0, hcz17_1, hcz17_2⟩ := kc3 BK320.out; obtain ⟨hfz17_0, hfz17_1, hfz17_2⟩ := kf3 BK320.out) | ((with_reducible refine gate_callee (f := 70) rfl ?_); refine goesL_ (some 21) rfl rfl Tryz.func70 (by kernel_rfl) rfl #[.int .i64 a0_1] rfl ka ?_; (with_reducible refine (skiffref1_wordAt.calls a0_1 false _ A12.out).mono ?_); rintro e w' ⟨rfl, ⟨nd, rfl⟩⟩; refine ⟨_, rfl, ?_⟩))
   go_ret
   exact ⟨by first | rfl | (simp [errW_none, errW_some] <;> rfl) | (simp [*, errW_none, errW_some] <;> rfl), kb1 HB.out GE320.out⟩
  subst c13
  have H1 : (some ((a0_2.size : Int) == 4)) = some r := by rw [if_pos rfl] at H; exact H
  clear H; have H := H1; clear H1
  obtain rfl := Option.some.inj H
  go_enter Tryz.func52, Tryz.ntmps52
  go_wp2_with (first | ((with_reducible refine gate_dst (N := 1) rfl ?_); (try (refine gate_guard (by rfl) ?_; dsimp only)); refine box_event ?hg (N := 1) ?hd (cs := #[.bool false, .int .i64 a0_1, .string a0_2]) (t := 41) ?hr ?_; (case hd => rfl); (case hg => rfl); (case hr => first | (go_simp; done) | (go_simp; rfl)); intro gb320 hg w14 hbox hb; have n0_ := Aside0.mk (below_step (kb HB.out) hb); have n1_ := Aside0.mk (hbox); have n2_ := Aside0.mk ((kz hg (below_size (kb HB.out)) : w.heap.size ≤ gb320)); have n3_ := Aside0.mk ((kz hg (below_size (kb HB.out)) : w.heap.size ≤ gb320)); clear HB; have HB := n0_; have BK320 := n1_; have GW320 := n2_; have GE320 := n3_; clear n0_ n1_ n2_ n3_; clear hb hbox hg; obtain ⟨hcz15_0, hcz15_1, hcz15_2⟩ := kc3 BK320.out; obtain ⟨hfz15_0, hfz15_1, hfz15_2⟩ := kf3 BK320.out) | ((with_reducible refine gate_callee (f := 70) rfl ?_); refine goesL_ (some 21) rfl rfl Tryz.func70 (by kernel_rfl) rfl #[.int .i64 a0_1] rfl ka ?_; (with_reducible refine (skiffref1_wordAt.calls a0_1 true _ A12.out).mono ?_); rintro e w' ⟨rfl, ⟨nd, rfl⟩⟩; refine ⟨_, rfl, ?_⟩))
  go_ret
  exact ⟨by first | rfl | (simp [errW_none, errW_some] <;> rfl) | (simp [*, errW_none, errW_some] <;> rfl), kb1 HB.out GE320.out⟩

/-! ### skiffref1_StateMay: function 68 -/
def skiffref1_StateMay.f (a0 : Int) : Option (Bool) := (skiffref1_upTo.f a0 0 7).bind fun t323 => (some t323)
set_option maxHeartbeats 8000000 in
set_option maxRecDepth 100000 in
theorem skiffref1_StateMay.calls (a0 : Int) (r : Bool) (w : World) (h : skiffref1_StateMay.f a0 = some r) :
  Calls Tryz.prog 68 #[.int .i64 a0] w fun e w' => e = .returned (.bool r) ∧ Drawn0 w w' := by
 have H : ((skiffref1_upTo.f a0 0 7).bind fun t323 => (some t323)) = some r := h
 clear h
 replace H := Option.bind_eq_some_iff.mp H
 obtain ⟨t323, A20, H⟩ := H
 replace H : (some t323) = some r := H
 have A2 := Aside0.mk A20
 clear A20
 obtain rfl := Option.some.inj H
 go_enter Tryz.func68, Tryz.ntmps68
 go_wp2_with (first | ((with_reducible refine gate_callee (f := 37) rfl ?_); refine goesL_ (some 4) rfl rfl Tryz.func37 (by kernel_rfl) rfl #[.int .i64 a0, .int .i64 0, .int .i64 7] rfl ka ?_; (with_reducible refine (skiffref1_upTo.calls a0 0 7 t323 _ A2.out).mono ?_); rintro e w' ⟨rfl, ⟨nd, rfl⟩⟩; refine ⟨_, rfl, ?_⟩))
 go_ret
 exact ⟨by first | rfl | (simp; done) | (simp [*]; done), by repeat (first | exact Drawn0.refl _ | apply Drawn0.step)⟩

/-! ### skiffref1_StatusMay: function 69 -/
def skiffref1_StatusMay.f (a0 : Int) : Option (Bool) := (skiffref1_upTo.f a0 0 6).bind fun t324 => (some t324)
set_option maxHeartbeats 8000000 in
set_option maxRecDepth 100000 in
theorem skiffref1_StatusMay.calls (a0 : Int) (r : Bool) (w : World) (h : skiffref1_StatusMay.f a0 = some r) :
  Calls Tryz.prog 69 #[.int .i64 a0] w fun e w' => e = .returned (.bool r) ∧ Drawn0 w w' := by
 have H : ((skiffref1_upTo.f a0 0 6).bind fun t324 => (some t324)) = some r := h
 clear h
 replace H := Option.bind_eq_some_iff.mp H
 obtain ⟨t324, A20, H⟩ := H
 replace H : (some t324) = some r := H
 have A2 := Aside0.mk A20
 clear A20
 obtain rfl := Option.some.inj H
 go_enter Tryz.func69, Tryz.ntmps69
 go_wp2_with (first | ((with_reducible refine gate_callee (f := 37) rfl ?_); refine goesL_ (some 4) rfl rfl Tryz.func37 (by kernel_rfl) rfl #[.int .i64 a0, .int .i64 0, .int .i64 6] rfl ka ?_; (with_reducible refine (skiffref1_upTo.calls a0 0 6 t324 _ A2.out).mono ?_); rintro e w' ⟨rfl, ⟨nd, rfl⟩⟩; refine ⟨_, rfl, ?_⟩))
 go_ret
 exact ⟨by first | rfl | (simp; done) | (simp [*]; done), by repeat (first | exact Drawn0.refl _ | apply Drawn0.step)⟩

/-! ### skiffref16_DeviceMay: function 51 -/
def skiffref16_DeviceMay.l0 : Nat → Int → Int → Int → Int → Int → Int → List (S41) → Option (Bool)
 | 0, _, _, _, _, _, _, _ => none
 | k + 1, x3, x326000, x326001, x326002, x326003, x326004, x326005 => if x3 < (x326005.length : Int) then (if 0 ≤ x3 then ((skiffref1_OpMay.f ((rd_T41 x326005 x3).f0) ((rd_T41 x326005 x3).f1) ((rd_T41 x326005 x3).f2)).bind fun t327 => (if t327 = true then (skiffref16_DeviceMay.l0 k (wrap64 (x3 + 1)) x326000 x326001 x326002 x326003 x326004 x326005) else (some false))) else (none)) else ((skiffref1_StateMay.f x326000).bind fun t328 => (if t328 = true then ((skiffref1_StatusMay.f x326001).bind fun t329 => (if t329 = true then ((skiffref16_upTo.f x326002 0 16).bind fun t330 => (if t330 = true then ((skiffref16_upTo.f x326003 0 288).bind fun t331 => (if t331 = true then ((skiffref16_upTo.f x326004 0 1).bind fun t332 => (if t332 = true then (some (decide ((x326005.length : Int) ≤ 768))) else (some false))) else (some false))) else (some false))) else (some false))) else (some false)))
def skiffref16_DeviceMay.f (k : Nat) (a0_0 : Int) (a0_1 : Int) (a0_2 : Int) (a0_3 : Int) (a0_4 : Int) (l0_5 : List (S41)) : Option (Bool) := skiffref16_DeviceMay.l0 k 0 a0_0 a0_1 a0_2 a0_3 a0_4 l0_5
set_option maxHeartbeats 8000000 in
set_option maxRecDepth 100000 in
theorem skiffref16_DeviceMay.calls (k : Nat) (a0_0 : Int) (a0_1 : Int) (a0_2 : Int) (a0_3 : Int) (a0_4 : Int) (A0_5 : Option Addr) (c0_5 : Nat) (l0_5 : List (S41)) (r : Bool) (w : World) (hr0_5 : Kd.C k41 w A0_5 l0_5.length l0_5) (hc0_5 : l0_5.length ≤ c0_5) (h : skiffref16_DeviceMay.f k a0_0 a0_1 a0_2 a0_3 a0_4 l0_5 = some r) :
  Calls Tryz.prog 51 #[.agg #[.int .i64 a0_0, .int .i64 a0_1, .int .i64 a0_2, .int .i64 a0_3, .int .i64 a0_4, .slice A0_5 l0_5.length c0_5]] w fun e w' => e = .returned (.bool r) ∧ Below w.heap.size w w' := by
 have hu24 := Tryz.underlying24
 have hu41 := Tryz.underlying41
 have HR0_5 := Aside0.mk hr0_5
 have HC0_5 := Aside0.mk hc0_5
 clear hr0_5 hc0_5
 have HB := Aside0.mk (Below.refl w.heap.size w)
 have H : (skiffref16_DeviceMay.l0 k 0 a0_0 a0_1 a0_2 a0_3 a0_4 l0_5) = some r := h
 clear h
 have H' := Aside0.mk H
 clear H
 go_enter Tryz.func51, Tryz.ntmps51
 go_wp2_with (first | ((with_reducible refine gate_dst (N := 1) rfl ?_); (try (refine gate_guard (by rfl) ?_; dsimp only)); refine box_event ?hg (N := 1) ?hd (cs := #[.int .i64 a0_0, .int .i64 a0_1, .int .i64 a0_2, .int .i64 a0_3, .int .i64 a0_4, .slice A0_5 l0_5.length c0_5]) (t := 24) ?hr ?_; (case hd => rfl); (case hg => rfl); (case hr => first | (go_simp; done) | (go_simp; rfl)); intro gb325 hg w2 hbox hb; have n0_ := Aside0.mk (below_step (kb HB.out) hb); have n1_ := Aside0.mk (hbox); have n2_ := Aside0.mk ((kz hg (below_size (kb HB.out)) : w.heap.size ≤ gb325)); have n3_ := Aside0.mk ((kz hg (below_size (kb HB.out)) : w.heap.size ≤ gb325)); clear HB; have HB := n0_; have BK325 := n1_; have GW325 := n2_; have GE325 := n3_; clear n0_ n1_ n2_ n3_; clear hb hbox hg))
 go_loopg [3] k (fun kq v3 w' => ∃ (x3_1 : Int), v3 = .int .i64 x3_1 ∧ Aside0 (skiffref16_DeviceMay.l0 kq x3_1 a0_0 a0_1 a0_2 a0_3 a0_4 l0_5 = some r) ∧ Aside0 (kq ≤ k) ∧ Aside0 (w'.heap[gb325]? = some (.cells #[.int .i64 a0_0, .int .i64 a0_1, .int .i64 a0_2, .int .i64 a0_3, .int .i64 a0_4, (.slice A0_5 l0_5.length c0_5)] 24 (0, 0))) ∧ Aside0 (Below w.heap.size w w'))
 case atStart => exact ⟨(0), (by first | rfl | (simp; done) | (simp [*]; done)), H', ⟨Nat.le_refl _⟩, ⟨kB BK325.out⟩, ⟨kb1 HB.out GE325.out⟩⟩
 case round =>
  clear H'
  try clear p2
  obtain ⟨x3_1, rfl, HA, HK1, BK325, HB⟩ := hrel
  cases gk with
  | zero => exact absurd HA.out (by simp [skiffref16_DeviceMay.l0])
  | succ k1 =>
   have H := HA.out
   clear HA
   simp only [skiffref16_DeviceMay.l0] at H
   by_cases c3 : x3_1 < (l0_5.length : Int)
   ·rw [if_pos c3] at H
    have c3b0 : decide (x3_1 < (l0_5.length : Int)) = true := decide_eq_true c3
    clear c3
    by_cases c4 : 0 ≤ x3_1
    case neg =>
     rw [if_neg c4] at H
     exact absurd H (by simp)
    rw [if_pos c4] at H
    have c4b0 : decide (0 ≤ x3_1) = true := decide_eq_true c4
    clear c4
    replace H := Option.bind_eq_some_iff.mp H
    obtain ⟨t327, A50, H⟩ := H
    replace H : (if t327 = true then (skiffref16_DeviceMay.l0 k1 (wrap64 (x3_1 + 1)) a0_0 a0_1 a0_2 a0_3 a0_4 l0_5) else (some false)) = some r := H
    have A5 := Aside0.mk A50
    clear A50
    by_cases c6 : t327 = true
    ·subst c6
     have H1 : (skiffref16_DeviceMay.l0 k1 (wrap64 (x3_1 + 1)) a0_0 a0_1 a0_2 a0_3 a0_4 l0_5) = some r := by rw [if_pos rfl] at H; exact H
     clear H; have H := H1; clear H1
     have H' := Aside0.mk H
     clear H
     obtain ⟨hcz7_0, hcz7_1, hcz7_2, hcz7_3, hcz7_4, hcz7_5⟩ := kc6 BK325.out
     obtain ⟨hfz7_0, hfz7_1, hfz7_2, hfz7_3, hfz7_4, hfz7_5⟩ := kf6 BK325.out
     have p326 : 0 ≤ (x3_1 : Int) := of_decide_eq_true (by first | (with_reducible assumption) | assumption)
     have q326 : x3_1 < (l0_5.length : Int) := of_decide_eq_true (by first | (with_reducible assumption) | assumption)
     obtain ⟨ad326, e326, hx326_0, hx326_1, hx326_2⟩ := at_T41 HR0_5.out x3_1 p326 q326
     cases e326
     replace hx326_0 := (HB.out.cell (World.block_lt_of_cell? w _ hx326_0)).trans hx326_0
     replace hx326_1 := (HB.out.cell (World.block_lt_of_cell? w _ hx326_1)).trans hx326_1
     replace hx326_2 := (HB.out.cell (World.block_lt_of_cell? w _ hx326_2)).trans hx326_2
     replace p326 := eq_true p326
     replace q326 := eq_true q326
     go_wp2_with (first | ((with_reducible refine gate_callee (f := 52) rfl ?_); refine goesL_ (some 16) rfl rfl Tryz.func52 (by kernel_rfl) rfl #[.agg #[.bool ((rd_T41 l0_5 x3_1).f0), .int .i64 ((rd_T41 l0_5 x3_1).f1), .string ((rd_T41 l0_5 x3_1).f2)]] rfl ka ?_; (with_reducible refine (skiffref1_OpMay.calls ((rd_T41 l0_5 x3_1).f0) ((rd_T41 l0_5 x3_1).f1) ((rd_T41 l0_5 x3_1).f2) true _ A5.out).mono ?_); rintro e w8 ⟨rfl, hb⟩; refine ⟨_, rfl, ?_⟩; have n0_ := Aside0.mk (kL BK325.out hb); have n1_ := Aside0.mk (below_step (kb1 HB.out GE325.out) hb); clear BK325; clear HB; have BK325 := n0_; have HB := n1_; clear n0_ n1_; (try clear hb); (try clear hb2); (try clear hk); (try clear hi)))
     go_roundg k1
     case measure => have := HK1.out; omega
     case rel => exact ⟨(wrap64 (x3_1 + 1)), (by first | rfl | (simp; done) | (simp [*]; done)), H', ⟨by have := HK1.out; omega⟩, ⟨kB BK325.out⟩, ⟨kb1 HB.out GE325.out⟩⟩
    ·replace c6 := Bool.eq_false_iff.mpr c6
     subst c6
     have H1 : (some false) = some r := by rw [if_neg (show ¬ (false = true) by decide)] at H; exact H
     clear H; have H := H1; clear H1
     obtain rfl := Option.some.inj H
     obtain ⟨hcz9_0, hcz9_1, hcz9_2, hcz9_3, hcz9_4, hcz9_5⟩ := kc6 BK325.out
     obtain ⟨hfz9_0, hfz9_1, hfz9_2, hfz9_3, hfz9_4, hfz9_5⟩ := kf6 BK325.out
     have p326 : 0 ≤ (x3_1 : Int) := of_decide_eq_true (by first | (with_reducible assumption) | assumption)
     have q326 : x3_1 < (l0_5.length : Int) := of_decide_eq_true (by first | (with_reducible assumption) | assumption)
     obtain ⟨ad326, e326, hx326_0, hx326_1, hx326_2⟩ := at_T41 HR0_5.out x3_1 p326 q326
     cases e326
     replace hx326_0 := (HB.out.cell (World.block_lt_of_cell? w _ hx326_0)).trans hx326_0
     replace hx326_1 := (HB.out.cell (World.block_lt_of_cell? w _ hx326_1)).trans hx326_1
     replace hx326_2 := (HB.out.cell (World.block_lt_of_cell? w _ hx326_2)).trans hx326_2
     replace p326 := eq_true p326
     replace q326 := eq_true q326
     go_wp2_with (first | ((with_reducible refine gate_callee (f := 52) rfl ?_); refine goesL_ (some 16) rfl rfl Tryz.func52 (by kernel_rfl) rfl #[.agg #[.bool ((rd_T41 l0_5 x3_1).f0), .int .i64 ((rd_T41 l0_5 x3_1).f1), .string ((rd_T41 l0_5 x3_1).f2)]] rfl ka ?_; (with_reducible refine (skiffref1_OpMay.calls ((rd_T41 l0_5 x3_1).f0) ((rd_T41 l0_5 x3_1).f1) ((rd_T41 l0_5 x3_1).f2) false _ A5.out).mono ?_); rintro e w10 ⟨rfl, hb⟩; refine ⟨_, rfl, ?_⟩; have n0_ := Aside0.mk (kL BK325.out hb); have n1_ := Aside0.mk (below_step (kb1 HB.out GE325.out) hb); clear BK325; clear HB; have BK325 := n0_; have HB := n1_; clear n0_ n1_; (try clear hb); (try clear hb2); (try clear hk); (try clear hi)))
     go_ret
     exact ⟨by first | rfl | (simp [errW_none, errW_some] <;> rfl) | (simp [*, errW_none, errW_some] <;> rfl), kb1 HB.out GE325.out⟩
   ·rw [if_neg c3] at H
    have c3b0 : decide (x3_1 < (l0_5.length : Int)) = false := decide_eq_false c3
    clear c3
    replace H := Option.bind_eq_some_iff.mp H
    obtain ⟨t328, A110, H⟩ := H
    replace H : (if t328 = true then ((skiffref1_StatusMay.f a0_1).bind fun t329 => (if t329 = true then ((skiffref16_upTo.f a0_2 0 16).bind fun t330 => (if t330 = true then ((skiffref16_upTo.f a0_3 0 288).bind fun t331 => (if t331 = true then ((skiffref16_upTo.f a0_4 0 1).bind fun t332 => (if t332 = true then (some (decide ((l0_5.length : Int) ≤ 768))) else (some false))) else (some false))) else (some false))) else (some false))) else (some false)) = some r := H
    have A11 := Aside0.mk A110
    clear A110
    by_cases c12 : t328 = true
    ·subst c12
     have H1 : ((skiffref1_StatusMay.f a0_1).bind fun t329 => (if t329 = true then ((skiffref16_upTo.f a0_2 0 16).bind fun t330 => (if t330 = true then ((skiffref16_upTo.f a0_3 0 288).bind fun t331 => (if t331 = true then ((skiffref16_upTo.f a0_4 0 1).bind fun t332 => (if t332 = true then (some (decide ((l0_5.length : Int) ≤ 768))) else (some false))) else (some false))) else (some false))) else (some false))) = some r := by rw [if_pos rfl] at H; exact H
     clear H; have H := H1; clear H1
     replace H := Option.bind_eq_some_iff.mp H
     obtain ⟨t329, A130, H⟩ := H
     replace H : (if t329 = true then ((skiffref16_upTo.f a0_2 0 16).bind fun t330 => (if t330 = true then ((skiffref16_upTo.f a0_3 0 288).bind fun t331 => (if t331 = true then ((skiffref16_upTo.f a0_4 0 1).bind fun t332 => (if t332 = true then (some (decide ((l0_5.length : Int) ≤ 768))) else (some false))) else (some false))) else (some false))) else (some false)) = some r := H
     have A13 := Aside0.mk A130
     clear A130
     by_cases c14 : t329 = true
     ·subst c14
      have H1 : ((skiffref16_upTo.f a0_2 0 16).bind fun t330 => (if t330 = true then ((skiffref16_upTo.f a0_3 0 288).bind fun t331 => (if t331 = true then ((skiffref16_upTo.f a0_4 0 1).bind fun t332 => (if t332 = true then (some (decide ((l0_5.length : Int) ≤ 768))) else (some false))) else (some false))) else (some false))) = some r := by rw [if_pos rfl] at H; exact H
      clear H; have H := H1; clear H1
      replace H := Option.bind_eq_some_iff.mp H
      obtain ⟨t330, A150, H⟩ := H
      replace H : (if t330 = true then ((skiffref16_upTo.f a0_3 0 288).bind fun t331 => (if t331 = true then ((skiffref16_upTo.f a0_4 0 1).bind fun t332 => (if t332 = true then (some (decide ((l0_5.length : Int) ≤ 768))) else (some false))) else (some false))) else (some false)) = some r := H
      have A15 := Aside0.mk A150
      clear A150
      by_cases c16 : t330 = true
      ·subst c16
       have H1 : ((skiffref16_upTo.f a0_3 0 288).bind fun t331 => (if t331 = true then ((skiffref16_upTo.f a0_4 0 1).bind fun t332 => (if t332 = true then (some (decide ((l0_5.length : Int) ≤ 768))) else (some false))) else (some false))) = some r := by rw [if_pos rfl] at H; exact H
       clear H; have H := H1; clear H1
       replace H := Option.bind_eq_some_iff.mp H
       obtain ⟨t331, A170, H⟩ := H
       replace H : (if t331 = true then ((skiffref16_upTo.f a0_4 0 1).bind fun t332 => (if t332 = true then (some (decide ((l0_5.length : Int) ≤ 768))) else (some false))) else (some false)) = some r := H
       have A17 := Aside0.mk A170
       clear A170
       by_cases c18 : t331 = true
       ·subst c18
        have H1 : ((skiffref16_upTo.f a0_4 0 1).bind fun t332 => (if t332 = true then (some (decide ((l0_5.length : Int) ≤ 768))) else (some false))) = some r := by rw [if_pos rfl] at H; exact H
        clear H; have H := H1; clear H1
        replace H := Option.bind_eq_some_iff.mp H
        obtain ⟨t332, A190, H⟩ := H
        replace H : (if t332 = true then (some (decide ((l0_5.length : Int) ≤ 768))) else (some false)) = some r := H
        have A19 := Aside0.mk A190
        clear A190
        by_cases c20 : t332 = true
        ·subst c20
         have H1 : (some (decide ((l0_5.length : Int) ≤ 768))) = some r := by rw [if_pos rfl] at H; exact H
         clear H; have H := H1; clear H1
         obtain rfl := Option.some.inj H
         obtain ⟨hcz21_0, hcz21_1, hcz21_2, hcz21_3, hcz21_4, hcz21_5⟩ := kc6 BK325.out
         obtain ⟨hfz21_0, hfz21_1, hfz21_2, hfz21_3, hfz21_4, hfz21_5⟩ := kf6 BK325.out
         go_wp2_with (first | ((with_reducible refine gate_callee (f := 68) rfl ?_); refine goesL_ (some 20) rfl rfl Tryz.func68 (by kernel_rfl) rfl #[.int .i64 a0_0] rfl ka ?_; (with_reducible refine (skiffref1_StateMay.calls a0_0 true _ A11.out).mono ?_); rintro e w' ⟨rfl, ⟨nd, rfl⟩⟩; refine ⟨_, rfl, ?_⟩) | (go_at_call 69; (with_reducible refine (skiffref1_StatusMay.calls a0_1 true _ A13.out).mono ?_); rintro e w' ⟨rfl, ⟨nd, rfl⟩⟩) | (go_at_call 26; (with_reducible refine (skiffref16_upTo.calls a0_2 0 16 true _ A15.out).mono ?_); rintro e w' ⟨rfl, ⟨nd, rfl⟩⟩) | (go_at_call 26; (with_reducible refine (skiffref16_upTo.calls a0_3 0 288 true _ A17.out).mono ?_); rintro e w' ⟨rfl, ⟨nd, rfl⟩⟩) | (go_at_call 26; (with_reducible refine (skiffref16_upTo.calls a0_4 0 1 true _ A19.out).mono ?_); rintro e w' ⟨rfl, ⟨nd, rfl⟩⟩))
         go_ret
         exact ⟨by first | rfl | (simp [errW_none, errW_some] <;> rfl) | (simp [*, errW_none, errW_some] <;> rfl), kb1 HB.out GE325.out⟩
        ·replace c20 := Bool.eq_false_iff.mpr c20
         subst c20
         have H1 : (some false) = some r := by rw [if_neg (show ¬ (false = true) by decide)] at H; exact H
         clear H; have H := H1; clear H1
         obtain rfl := Option.some.inj H
         obtain ⟨hcz22_0, hcz22_1, hcz22_2, hcz22_3, hcz22_4, hcz22_5⟩ := kc6 BK325.out
         obtain ⟨hfz22_0, hfz22_1, hfz22_2, hfz22_3, hfz22_4, hfz22_5⟩ := kf6 BK325.out
         go_wp2_with (first | ((with_reducible refine gate_callee (f := 68) rfl ?_); refine goesL_ (some 20) rfl rfl Tryz.func68 (by kernel_rfl) rfl #[.int .i64 a0_0] rfl ka ?_; (with_reducible refine (skiffref1_StateMay.calls a0_0 true _ A11.out).mono ?_); rintro e w' ⟨rfl, ⟨nd, rfl⟩⟩; refine ⟨_, rfl, ?_⟩) | (go_at_call 69; (with_reducible refine (skiffref1_StatusMay.calls a0_1 true _ A13.out).mono ?_); rintro e w' ⟨rfl, ⟨nd, rfl⟩⟩) | (go_at_call 26; (with_reducible refine (skiffref16_upTo.calls a0_2 0 16 true _ A15.out).mono ?_); rintro e w' ⟨rfl, ⟨nd, rfl⟩⟩) | (go_at_call 26; (with_reducible refine (skiffref16_upTo.calls a0_3 0 288 true _ A17.out).mono ?_); rintro e w' ⟨rfl, ⟨nd, rfl⟩⟩) | (go_at_call 26; (with_reducible refine (skiffref16_upTo.calls a0_4 0 1 false _ A19.out).mono ?_); rintro e w' ⟨rfl, ⟨nd, rfl⟩⟩))
         go_ret
         exact ⟨by first | rfl | (simp [errW_none, errW_some] <;> rfl) | (simp [*, errW_none, errW_some] <;> rfl), kb1 HB.out GE325.out⟩
       ·replace c18 := Bool.eq_false_iff.mpr c18
        subst c18
        have H1 : (some false) = some r := by rw [if_neg (show ¬ (false = true) by decide)] at H; exact H
        clear H; have H := H1; clear H1
        obtain rfl := Option.some.inj H
        obtain ⟨hcz23_0, hcz23_1, hcz23_2, hcz23_3, hcz23_4, hcz23_5⟩ := kc6 BK325.out
        obtain ⟨hfz23_0, hfz23_1, hfz23_2, hfz23_3, hfz23_4, hfz23_5⟩ := kf6 BK325.out
        go_wp2_with (first | ((with_reducible refine gate_callee (f := 68) rfl ?_); refine goesL_ (some 20) rfl rfl Tryz.func68 (by kernel_rfl) rfl #[.int .i64 a0_0] rfl ka ?_; (with_reducible refine (skiffref1_StateMay.calls a0_0 true _ A11.out).mono ?_); rintro e w' ⟨rfl, ⟨nd, rfl⟩⟩; refine ⟨_, rfl, ?_⟩) | (go_at_call 69; (with_reducible refine (skiffref1_StatusMay.calls a0_1 true _ A13.out).mono ?_); rintro e w' ⟨rfl, ⟨nd, rfl⟩⟩) | (go_at_call 26; (with_reducible refine (skiffref16_upTo.calls a0_2 0 16 true _ A15.out).mono ?_); rintro e w' ⟨rfl, ⟨nd, rfl⟩⟩) | (go_at_call 26; (with_reducible refine (skiffref16_upTo.calls a0_3 0 288 false _ A17.out).mono ?_); rintro e w' ⟨rfl, ⟨nd, rfl⟩⟩))
        go_ret
        exact ⟨by first | rfl | (simp [errW_none, errW_some] <;> rfl) | (simp [*, errW_none, errW_some] <;> rfl), kb1 HB.out GE325.out⟩
      ·replace c16 := Bool.eq_false_iff.mpr c16
       subst c16
       have H1 : (some false) = some r := by rw [if_neg (show ¬ (false = true) by decide)] at H; exact H
       clear H; have H := H1; clear H1
       obtain rfl := Option.some.inj H
       obtain ⟨hcz24_0, hcz24_1, hcz24_2, hcz24_3, hcz24_4, hcz24_5⟩ := kc6 BK325.out
       obtain ⟨hfz24_0, hfz24_1, hfz24_2, hfz24_3, hfz24_4, hfz24_5⟩ := kf6 BK325.out
       go_wp2_with (first | ((with_reducible refine gate_callee (f := 68) rfl ?_); refine goesL_ (some 20) rfl rfl Tryz.func68 (by kernel_rfl) rfl #[.int .i64 a0_0] rfl ka ?_; (with_reducible refine (skiffref1_StateMay.calls a0_0 true _ A11.out).mono ?_); rintro e w' ⟨rfl, ⟨nd, rfl⟩⟩; refine ⟨_, rfl, ?_⟩) | (go_at_call 69; (with_reducible refine (skiffref1_StatusMay.calls a0_1 true _ A13.out).mono ?_); rintro e w' ⟨rfl, ⟨nd, rfl⟩⟩) | (go_at_call 26; (with_reducible refine (skiffref16_upTo.calls a0_2 0 16 false _ A15.out).mono ?_); rintro e w' ⟨rfl, ⟨nd, rfl⟩⟩))
       go_ret
       exact ⟨by first | rfl | (simp [errW_none, errW_some] <;> rfl) | (simp [*, errW_none, errW_some] <;> rfl), kb1 HB.out GE325.out⟩
     ·replace c14 := Bool.eq_false_iff.mpr c14
      subst c14
      have H1 : (some false) = some r := by rw [if_neg (show ¬ (false = true) by decide)] at H; exact H
      clear H; have H := H1; clear H1
      obtain rfl := Option.some.inj H
      obtain ⟨hcz25_0, hcz25_1, hcz25_2, hcz25_3, hcz25_4, hcz25_5⟩ := kc6 BK325.out
      obtain ⟨hfz25_0, hfz25_1, hfz25_2, hfz25_3, hfz25_4, hfz25_5⟩ := kf6 BK325.out
      go_wp2_with (first | ((with_reducible refine gate_callee (f := 68) rfl ?_); refine goesL_ (some 20) rfl rfl Tryz.func68 (by kernel_rfl) rfl #[.int .i64 a0_0] rfl ka ?_; (with_reducible refine (skiffref1_StateMay.calls a0_0 true _ A11.out).mono ?_); rintro e w' ⟨rfl, ⟨nd, rfl⟩⟩; refine ⟨_, rfl, ?_⟩) | (go_at_call 69; (with_reducible refine (skiffref1_StatusMay.calls a0_1 false _ A13.out).mono ?_); rintro e w' ⟨rfl, ⟨nd, rfl⟩⟩))
      go_ret
      exact ⟨by first | rfl | (simp [errW_none, errW_some] <;> rfl) | (simp [*, errW_none, errW_some] <;> rfl), kb1 HB.out GE325.out⟩
    ·replace c12 := Bool.eq_false_iff.mpr c12
     subst c12
     have H1 : (some false) = some r := by rw [if_neg (show ¬ (false = true) by decide)] at H; exact H
     clear H; have H := H1; clear H1
     obtain rfl := Option.some.inj H
     obtain ⟨hcz26_0, hcz26_1, hcz26_2, hcz26_3, hcz26_4, hcz26_5⟩ := kc6 BK325.out
     obtain ⟨hfz26_0, hfz26_1, hfz26_2, hfz26_3, hfz26_4, hfz26_5⟩ := kf6 BK325.out
     go_wp2_with (first | ((with_reducible refine gate_callee (f := 68) rfl ?_); refine goesL_ (some 20) rfl rfl Tryz.func68 (by kernel_rfl) rfl #[.int .i64 a0_0] rfl ka ?_; (with_reducible refine (skiffref1_StateMay.calls a0_0 false _ A11.out).mono ?_); rintro e w' ⟨rfl, ⟨nd, rfl⟩⟩; refine ⟨_, rfl, ?_⟩))
     go_ret
     exact ⟨by first | rfl | (simp [errW_none, errW_some] <;> rfl) | (simp [*, errW_none, errW_some] <;> rfl), kb1 HB.out GE325.out⟩

/-! ### skiffref16_both: function 25 -/
def skiffref16_both.f (k : Nat) (a0 : ByteArray) (a1_0 : Int) (a1_1 : Int) (a1_2 : Int) (a1_3 : Int) (a1_4 : Int) (l1_5 : List (S41)) : Option (Bool) := (skiffref1_FlashMay.f a0).bind fun t334 => (if t334 = true then ((skiffref16_DeviceMay.f k a1_0 a1_1 a1_2 a1_3 a1_4 l1_5).bind fun t335 => (some t335)) else (some false))
set_option maxHeartbeats 8000000 in
set_option maxRecDepth 100000 in
theorem skiffref16_both.calls (k : Nat) (a0 : ByteArray) (a1_0 : Int) (a1_1 : Int) (a1_2 : Int) (a1_3 : Int) (a1_4 : Int) (A1_5 : Option Addr) (c1_5 : Nat) (l1_5 : List (S41)) (r : Bool) (w : World) (hr1_5 : Kd.C k41 w A1_5 l1_5.length l1_5) (hc1_5 : l1_5.length ≤ c1_5) (h : skiffref16_both.f k a0 a1_0 a1_1 a1_2 a1_3 a1_4 l1_5 = some r) :
  Calls Tryz.prog 25 #[.string a0, .agg #[.int .i64 a1_0, .int .i64 a1_1, .int .i64 a1_2, .int .i64 a1_3, .int .i64 a1_4, .slice A1_5 l1_5.length c1_5]] w fun e w' => e = .returned (.bool r) ∧ Below w.heap.size w w' := by
 have hu24 := Tryz.underlying24
 have HR1_5 := Aside0.mk hr1_5
 have HC1_5 := Aside0.mk hc1_5
 clear hr1_5 hc1_5
 have HB := Aside0.mk (Below.refl w.heap.size w)
 have H : ((skiffref1_FlashMay.f a0).bind fun t334 => (if t334 = true then ((skiffref16_DeviceMay.f k a1_0 a1_1 a1_2 a1_3 a1_4 l1_5).bind fun t335 => (some t335)) else (some false))) = some r := h
 clear h
 replace H := Option.bind_eq_some_iff.mp H
 obtain ⟨t334, A30, H⟩ := H
 replace H : (if t334 = true then ((skiffref16_DeviceMay.f k a1_0 a1_1 a1_2 a1_3 a1_4 l1_5).bind fun t335 => (some t335)) else (some false)) = some r := H
 have A3 := Aside0.mk A30
 clear A30
 by_cases c4 : t334 = true
 case neg =>
  replace c4 := Bool.eq_false_iff.mpr c4
  subst c4
  have H1 : (some false) = some r := by rw [if_neg (show ¬ (false = true) by decide)] at H; exact H
  clear H; have H := H1; clear H1
  obtain rfl := Option.some.inj H
  go_enter Tryz.func25, Tryz.ntmps25
  go_wp2_with (first | ((with_reducible refine gate_dst (N := 3) rfl ?_); refine box_event ?hg (N := 3) ?hd (cs := #[.int .i64 a1_0, .int .i64 a1_1, .int .i64 a1_2, .int .i64 a1_3, .int .i64 a1_4, .slice A1_5 l1_5.length c1_5]) (t := 24) ?hr ?_; (case hd => rfl); (case hg => rfl); (case hr => first | (go_simp; done) | (go_simp; rfl)); intro gb333 hg w9 hbox hb; have n0_ := Aside0.mk (below_step (kb HB.out) hb); have n1_ := Aside0.mk (hbox); have n2_ := Aside0.mk ((kz hg (below_size (kb HB.out)) : w.heap.size ≤ gb333)); have n3_ := Aside0.mk ((kz hg (below_size (kb HB.out)) : w.heap.size ≤ gb333)); clear HB; have HB := n0_; have BK333 := n1_; have GW333 := n2_; have GE333 := n3_; clear n0_ n1_ n2_ n3_; clear hb hbox hg) | ((with_reducible refine gate_callee (f := 50) rfl ?_); refine goesL_ (some 6) rfl rfl Tryz.func50 (by kernel_rfl) rfl #[.string a0] rfl ka ?_; (with_reducible refine (skiffref1_FlashMay.calls a0 false _ A3.out).mono ?_); rintro e w' ⟨rfl, ⟨nd, rfl⟩⟩; refine ⟨_, rfl, ?_⟩))
  go_ret
  exact ⟨by first | rfl | (simp [errW_none, errW_some] <;> rfl) | (simp [*, errW_none, errW_some] <;> rfl), kb1 HB.out GE333.out⟩
 subst c4
 have H1 : ((skiffref16_DeviceMay.f k a1_0 a1_1 a1_2 a1_3 a1_4 l1_5).bind fun t335 => (some t335)) = some r := by rw [if_pos rfl] at H; exact H
 clear H; have H := H1; clear H1
 replace H := Option.bind_eq_some_iff.mp H
 obtain ⟨t335, A50, H⟩ := H
 replace H : (some t335) = some r := H
 have A5 := Aside0.mk A50
 clear A50
 obtain rfl := Option.some.inj H
 go_enter Tryz.func25, Tryz.ntmps25
 go_wp2_with (first | ((with_reducible refine gate_dst (N := 3) rfl ?_); refine box_event ?hg (N := 3) ?hd (cs := #[.int .i64 a1_0, .int .i64 a1_1, .int .i64 a1_2, .int .i64 a1_3, .int .i64 a1_4, .slice A1_5 l1_5.length c1_5]) (t := 24) ?hr ?_; (case hd => rfl); (case hg => rfl); (case hr => first | (go_simp; done) | (go_simp; rfl)); intro gb333 hg w6 hbox hb; have n0_ := Aside0.mk (below_step (kb HB.out) hb); have n1_ := Aside0.mk (hbox); have n2_ := Aside0.mk ((kz hg (below_size (kb HB.out)) : w.heap.size ≤ gb333)); have n3_ := Aside0.mk ((kz hg (below_size (kb HB.out)) : w.heap.size ≤ gb333)); clear HB; have HB := n0_; have BK333 := n1_; have GW333 := n2_; have GE333 := n3_; clear n0_ n1_ n2_ n3_; clear hb hbox hg) | ((with_reducible refine gate_callee (f := 50) rfl ?_); refine goesL_ (some 6) rfl rfl Tryz.func50 (by kernel_rfl) rfl #[.string a0] rfl ka ?_; (with_reducible refine (skiffref1_FlashMay.calls a0 true _ A3.out).mono ?_); rintro e w' ⟨rfl, ⟨nd, rfl⟩⟩; refine ⟨_, rfl, ?_⟩; obtain ⟨hcz7_0, hcz7_1, hcz7_2, hcz7_3, hcz7_4, hcz7_5⟩ := kc6 BK333.out; obtain ⟨hfz7_0, hfz7_1, hfz7_2, hfz7_3, hfz7_4, hfz7_5⟩ := kf6 BK333.out) | (go_at_call 51; (with_reducible refine (skiffref16_DeviceMay.calls k a1_0 a1_1 a1_2 a1_3 a1_4 _ _ l1_5 t335 _ ?side1 ?side2 A5.out).mono ?_); (case side1 => repeat (first | exact (Kd.C_below HR1_5.out (kb1 HB.out GE333.out)) | (with_reducible refine Kd.C_alloc ?_ _) | (with_reducible refine Kd.C_drewN ?_ _) | (with_reducible refine Kd.C_drew ?_))); (case side2 => exact HC1_5.out); rintro e w8 ⟨rfl, hb⟩; have n0_ := Aside0.mk (kL BK333.out hb); have n1_ := Aside0.mk (below_step (kb1 HB.out GE333.out) hb); clear BK333; clear HB; have BK333 := n0_; have HB := n1_; clear n0_ n1_; (try clear hb); (try clear hb2); (try clear hk); (try clear hi)))
 go_ret
 exact ⟨by first | rfl | (simp [errW_none, errW_some] <;> rfl) | (simp [*, errW_none, errW_some] <;> rfl), kb1 HB.out GE333.out⟩

/-! ### skiffref16_copyDevice: function 27 -/
def skiffref16_copyDevice.f (a0_0 : Int) (a0_1 : Int) (a0_2 : Int) (a0_3 : Int) (a0_4 : Int) (l0_5 : List (S41)) : Option (Int × Int × Int × Int × Int × (List (S41))) := (some (([] : List (S41)) : List (S41))).bind fun y338 => (if y338.length + l0_5.length < 4398046511104 then (some (a0_0, a0_1, a0_2, a0_3, a0_4, (y338 ++ l0_5))) else (none))
set_option maxHeartbeats 8000000 in
set_option maxRecDepth 100000 in
theorem skiffref16_copyDevice.calls (a0_0 : Int) (a0_1 : Int) (a0_2 : Int) (a0_3 : Int) (a0_4 : Int) (A0_5 : Option Addr) (c0_5 : Nat) (l0_5 : List (S41)) (r1 : Int) (r2 : Int) (r3 : Int) (r4 : Int) (r5 : Int) (r6 : List (S41)) (w : World) (hr0_5 : Kd.C k41 w A0_5 l0_5.length l0_5) (hc0_5 : l0_5.length ≤ c0_5) (h : skiffref16_copyDevice.f a0_0 a0_1 a0_2 a0_3 a0_4 l0_5 = some (r1, r2, r3, r4, r5, r6)) :
  Calls Tryz.prog 27 #[.agg #[.int .i64 a0_0, .int .i64 a0_1, .int .i64 a0_2, .int .i64 a0_3, .int .i64 a0_4, .slice A0_5 l0_5.length c0_5]] w fun e w' => ∃ v5_ : Value, e = .returned (.agg #[.int .i64 r1, .int .i64 r2, .int .i64 r3, .int .i64 r4, .int .i64 r5, v5_]) ∧ Kd.R k41 41 w' w.heap.size (fun _ => True) v5_ r6 ∧ Below w.heap.size w w' := by
 have hu24 := Tryz.underlying24
 have HR0_5 := Aside0.mk hr0_5
 have HC0_5 := Aside0.mk hc0_5
 clear hr0_5 hc0_5
 have HB := Aside0.mk (Below.refl w.heap.size w)
 have H : ((some (([] : List (S41)) : List (S41))).bind fun y338 => (if y338.length + l0_5.length < 4398046511104 then (some (a0_0, a0_1, a0_2, a0_3, a0_4, (y338 ++ l0_5))) else (none))) = some (r1, r2, r3, r4, r5, r6) := h
 clear h
 obtain ⟨y338, hy338⟩ : ∃ y_ : List (S41), y_ = (([] : List (S41))) := ⟨_, rfl⟩
 replace H : (if y338.length + l0_5.length < 4398046511104 then (some (a0_0, a0_1, a0_2, a0_3, a0_4, (y338 ++ l0_5))) else (none)) = some (r1, r2, r3, r4, r5, r6) := by first | (rw [hy338]; with_reducible exact H) | (have H2_ := (Option.bind_some _ _).symm.trans H; rw [hy338]; with_reducible exact H2_) | (have H2_ := (Option.bind_some _ _).symm.trans H; with_reducible exact H2_) | with_reducible exact H | (rw [hy338]; exact H) | exact H
 have Ny338 := Aside0.mk hy338
 clear hy338
 by_cases c2 : y338.length + l0_5.length < 4398046511104
 case neg =>
  rw [if_neg c2] at H
  exact absurd H (by simp)
 rw [if_pos c2] at H
 have LMc2 := Aside0.mk c2
 clear c2
 obtain ⟨y341, hy341⟩ : ∃ y_ : List (S41), y_ = (y338 ++ l0_5) := ⟨_, rfl⟩
 replace H : (some (a0_0, a0_1, a0_2, a0_3, a0_4, y341)) = some (r1, r2, r3, r4, r5, r6) := by first | (rw [hy341]; with_reducible exact H) | (have H2_ := (Option.bind_some _ _).symm.trans H; rw [hy341]; with_reducible exact H2_) | (have H2_ := (Option.bind_some _ _).symm.trans H; with_reducible exact H2_) | with_reducible exact H | (rw [hy341]; exact H) | exact H
 have Ny341 := Aside0.mk hy341
 clear hy341
 simp only [Option.some.injEq, Prod.mk.injEq] at H
 obtain ⟨rfl, rfl, rfl, rfl, rfl, rfl⟩ := H
 go_enter Tryz.func27, Tryz.ntmps27
 go_wp2_with (first | ((with_reducible refine gate_dst (N := 1) rfl ?_); refine box_event ?hg (N := 1) ?hd (cs := #[.int .i64 a0_0, .int .i64 a0_1, .int .i64 a0_2, .int .i64 a0_3, .int .i64 a0_4, .slice A0_5 l0_5.length c0_5]) (t := 24) ?hr ?_; (case hd => rfl); (case hg => rfl); (case hr => first | (go_simp; done) | (go_simp; rfl)); intro gb336 hg w3 hbox hb; have n0_ := Aside0.mk (below_step (kb HB.out) hb); have n1_ := Aside0.mk (hbox); have n2_ := Aside0.mk ((kz hg (below_size (kb HB.out)) : w.heap.size ≤ gb336)); have n3_ := Aside0.mk ((kz hg (below_size (kb HB.out)) : w.heap.size ≤ gb336)); clear HB; have HB := n0_; have BK336 := n1_; have GW336 := n2_; have GE336 := n3_; clear n0_ n1_ n2_ n3_; clear hb hbox hg) | ((with_reducible refine gate_dst (N := 2) rfl ?_); refine box_event ?hg (N := 2) ?hd (cs := #[.int .i64 0, .int .i64 0, .int .i64 0, .int .i64 0, .int .i64 0, .slice none 0 0]) (t := 24) ?hr ?_; (case hd => rfl); (case hg => rfl); (case hr => first | (go_simp; done) | (go_simp; rfl)); intro gb337 hg w4 hbox hb; have n0_ := Aside0.mk (kL BK336.out hb); have n1_ := Aside0.mk (below_step (kb1 HB.out GE336.out) hb); have n2_ := Aside0.mk (hbox); have n3_ := Aside0.mk ((kz hg (below_size (kb1 HB.out GE336.out)) : w.heap.size ≤ gb337)); have n4_ := Aside0.mk ((kz hg (below_size (kb1 HB.out GE336.out)) : w.heap.size ≤ gb337)); have n5_ := Aside0.mk ((kN hg BK336.out : gb336 ≠ gb337)); have n6_ := Aside0.mk (((kN hg BK336.out).symm : gb337 ≠ gb336)); clear BK336; clear HB; have BK336 := n0_; have HB := n1_; have BK337 := n2_; have GW337 := n3_; have GE337 := n4_; have NB336_337 := n5_; have NB337_336 := n6_; clear n0_ n1_ n2_ n3_ n4_ n5_ n6_; clear hb hbox hg) | ((with_reducible refine gate_dst (N := 3) rfl ?_); refine Kd.R_lit k41 _ 41 ?hg (N := 3) ?hd (xs := ([] : List (S41))) (inner := []) (ok := fun _ => True) (okp := fun _ => True) ?hr ?hp (fun _ hk => hk) trivial (Below.refl _ _) (Nat.le_refl _) (by simp) ?_; (case hd => rfl); (case hg => rfl); (case hr => first | (go_simp; done) | (go_simp; rfl)); (case hp => exact (Reps.none _ _)); intro v339 w5 ho6 hb hg_ hnew_; clear hg_ hnew_; (first | rw [← Ny338.out] at ho6 | (simp only [Int.reduceToNat] at ho6; rw [← Ny338.out] at ho6)); have n0_ := Aside0.mk (Kd.R_lower ho6 (below_size (kb2 HB.out GE336.out GE337.out))); have n1_ := Aside0.mk (kL BK336.out hb); have n2_ := Aside0.mk (kL BK337.out hb); have n3_ := Aside0.mk (below_step (kb2 HB.out GE336.out GE337.out) hb); clear BK336; clear BK337; clear HB; have HO340 := n0_; have BK336 := n1_; have BK337 := n2_; have HB := n3_; clear n0_ n1_ n2_ n3_; clear hb ho6; have hnb7 := NB336_337.out; have hnc7 := NB337_336.out; obtain ⟨hcz8_0, hcz8_1, hcz8_2, hcz8_3, hcz8_4, hcz8_5⟩ := kc6 BK336.out; obtain ⟨hfz8_0, hfz8_1, hfz8_2, hfz8_3, hfz8_4, hfz8_5⟩ := kf6 BK336.out) | ((with_reducible refine gate_builtin (b := .append) (xs := #[.tmp 3, .tmp 5]) rfl ?_); at_builtin; refine Kd.R_append_rows k41 (w0 := w) w.heap.size rfl (.tmp 3) (.tmp 5) 22 41 (.agg #[(.bool false), (.int .i64 0), (.string ⟨#[]⟩)]) 32 rfl Tryz.underlying22 info41 rfl (by decide) (by omega) v339 y338 l0_5 _ _ _ (fun _ => True) (fun _ => False) rfl rfl ?aO ?aR (fun _ _ h => h) (fun _ h => h.elim) ?aF ?aB ?aS ?aL ?_; (case aR => exact kC (Kd.C_below HR0_5.out HB.out)); (case aB => exact (kb2 HB.out GE336.out GE337.out)); (case aF => exact (fun _ _ => trivial)); (case aO => exact (kR HO340.out)); (case aS => exact (below_size (kb2 HB.out GE336.out GE337.out))); (case aL => have := LMc2.out; omega); intro v342 w9 ho hb hg hat; rw [← Ny341.out] at ho; have n0_ := Aside0.mk (blk_grown (g := gb336) (o := .cells #[.int .i64 a0_0, .int .i64 a0_1, .int .i64 a0_2, .int .i64 a0_3, .int .i64 a0_4, .slice A0_5 l0_5.length c0_5] 24 (0, 0)) (kB BK336.out) hg (Kd.R_ne HO340.out BK336.out (by decide))); have n1_ := Aside0.mk (blk_grown (g := gb337) (o := .cells #[.int .i64 0, .int .i64 0, .int .i64 0, .int .i64 0, .int .i64 0, .slice none 0 0] 24 (0, 0)) (kB BK337.out) hg (Kd.R_ne HO340.out BK337.out (by decide))); have n2_ := Aside0.mk (hb); have n3_ := Aside0.mk (ho); clear BK336; clear BK337; clear HB; clear HO340; have BK336 := n0_; have BK337 := n1_; have HB := n2_; have HO343 := n3_; clear n0_ n1_ n2_ n3_; clear ho hb hg hat; obtain ⟨Ao10, co10, eo10⟩ := Kd.R_slice HO343.out; subst eo10; obtain ⟨hcz11_0, hcz11_1, hcz11_2, hcz11_3, hcz11_4, hcz11_5⟩ := kc6 BK336.out; obtain ⟨hfz11_0, hfz11_1, hfz11_2, hfz11_3, hfz11_4, hfz11_5⟩ := kf6 BK336.out; obtain ⟨hcz12_0, hcz12_1, hcz12_2, hcz12_3, hcz12_4, hcz12_5⟩ := kc6 BK337.out; obtain ⟨hfz12_0, hfz12_1, hfz12_2, hfz12_3, hfz12_4, hfz12_5⟩ := kf6 BK337.out))
 refine bodyPost_ret (results_cell_row rfl _ _ gb337 24 #[.int .i64 a0_0, .int .i64 a0_1, .int .i64 a0_2, .int .i64 a0_3, .int .i64 a0_4, .slice Ao10 y341.length co10] (0, 0) _ rfl (by (with_reducible repeat (first | refine blk_drewN ?_ _ | refine blk_drew ?_ | refine blk_alloc ?_ _)); refine blk_put (cs := #[.int .i64 a0_0, .int .i64 a0_1, .int .i64 a0_2, .int .i64 a0_3, .int .i64 a0_4, .slice none 0 0]) ?_ 5 _ rfl; (with_reducible repeat (first | refine blk_drewN ?_ _ | refine blk_drew ?_ | refine blk_alloc ?_ _)); refine blk_put (cs := #[.int .i64 a0_0, .int .i64 a0_1, .int .i64 a0_2, .int .i64 a0_3, .int .i64 0, .slice none 0 0]) ?_ 4 _ rfl; (with_reducible repeat (first | refine blk_drewN ?_ _ | refine blk_drew ?_ | refine blk_alloc ?_ _)); refine blk_put (cs := #[.int .i64 a0_0, .int .i64 a0_1, .int .i64 a0_2, .int .i64 0, .int .i64 0, .slice none 0 0]) ?_ 3 _ rfl; (with_reducible repeat (first | refine blk_drewN ?_ _ | refine blk_drew ?_ | refine blk_alloc ?_ _)); refine blk_put (cs := #[.int .i64 a0_0, .int .i64 a0_1, .int .i64 0, .int .i64 0, .int .i64 0, .slice none 0 0]) ?_ 2 _ rfl; (with_reducible repeat (first | refine blk_drewN ?_ _ | refine blk_drew ?_ | refine blk_alloc ?_ _)); refine blk_put (cs := #[.int .i64 a0_0, .int .i64 0, .int .i64 0, .int .i64 0, .int .i64 0, .slice none 0 0]) ?_ 1 _ rfl; (with_reducible repeat (first | refine blk_drewN ?_ _ | refine blk_drew ?_ | refine blk_alloc ?_ _)); refine blk_put (cs := #[.int .i64 0, .int .i64 0, .int .i64 0, .int .i64 0, .int .i64 0, .slice none 0 0]) ?_ 0 _ rfl; (with_reducible repeat (first | refine blk_drewN ?_ _ | refine blk_drew ?_ | refine blk_alloc ?_ _)); refine blk_far ?_ NB337_336.out _; (with_reducible repeat (first | refine blk_drewN ?_ _ | refine blk_drew ?_ | refine blk_alloc ?_ _)); exact BK337.out) Tryz.underlying24 rfl (by kernel_rfl)) rfl ?_
 exact ⟨_, by first | rfl | (simp [errW_none, errW_some] <;> rfl) | (simp [*, errW_none, errW_some] <;> rfl), by (with_reducible repeat (first | apply Kd.R_alloc | apply Kd.R_drewN | apply Kd.R_drew)); exact Kd.R_mono (Kd.R_far (p := ⟨gb337, 5, none⟩) (Kd.R_far (p := ⟨gb337, 4, none⟩) (Kd.R_far (p := ⟨gb337, 3, none⟩) (Kd.R_far (p := ⟨gb337, 2, none⟩) (Kd.R_far (p := ⟨gb337, 1, none⟩) (Kd.R_far (p := ⟨gb337, 0, none⟩) (Kd.R_far (p := ⟨gb336, 5, none⟩) (Kd.R_types (Kd.R_types HO343.out BK336.out (by decide)) BK337.out (by decide)) (fun _ hk => hk.1.2) (.slice Ao10 y341.length co10)) (fun _ hk => hk.2) (.int .i64 a0_0)) (fun _ hk => hk.2) (.int .i64 a0_1)) (fun _ hk => hk.2) (.int .i64 a0_2)) (fun _ hk => hk.2) (.int .i64 a0_3)) (fun _ hk => hk.2) (.int .i64 a0_4)) (fun _ hk => hk.2) (.slice Ao10 y341.length co10)) (fun _ hk => trivial), kb2 HB.out GE336.out GE337.out⟩

/-! ### skiffref16_failed: function 28 -/
def skiffref16_failed.f (a0 : Int) : Option (Int × Int × Int × Int × Int × (List (S41))) := some (7, a0, 0, 0, 0, ([] : List (S41)))
set_option maxHeartbeats 8000000 in
set_option maxRecDepth 100000 in
theorem skiffref16_failed.calls (a0 : Int) (r1 : Int) (r2 : Int) (r3 : Int) (r4 : Int) (r5 : Int) (r6 : List (S41)) (w : World) (h : skiffref16_failed.f a0 = some (r1, r2, r3, r4, r5, r6)) :
  Calls Tryz.prog 28 #[.int .i64 a0] w fun e w' => ∃ v5_ : Value, e = .returned (.agg #[.int .i64 r1, .int .i64 r2, .int .i64 r3, .int .i64 r4, .int .i64 r5, v5_]) ∧ Kd.R k41 41 w' w.heap.size (fun _ => True) v5_ r6 ∧ Below w.heap.size w w' := by
 have hu24 := Tryz.underlying24
 have HB := Aside0.mk (Below.refl w.heap.size w)
 have H : (some (7, a0, 0, 0, 0, ([] : List (S41)))) = some (r1, r2, r3, r4, r5, r6) := h
 clear h
 simp only [Option.some.injEq, Prod.mk.injEq] at H
 obtain ⟨rfl, rfl, rfl, rfl, rfl, rfl⟩ := H
 go_enter Tryz.func28, Tryz.ntmps28
 go_wp2_with (first | ((with_reducible refine gate_dst (N := 2) rfl ?_); refine box_event ?hg (N := 2) ?hd (cs := #[.int .i64 0, .int .i64 0, .int .i64 0, .int .i64 0, .int .i64 0, .slice none 0 0]) (t := 24) ?hr ?_; (case hd => rfl); (case hg => rfl); (case hr => first | (go_simp; done) | (go_simp; rfl)); intro gb344 hg w2 hbox hb; have n0_ := Aside0.mk (below_step (kb HB.out) hb); have n1_ := Aside0.mk (hbox); have n2_ := Aside0.mk ((kz hg (below_size (kb HB.out)) : w.heap.size ≤ gb344)); have n3_ := Aside0.mk ((kz hg (below_size (kb HB.out)) : w.heap.size ≤ gb344)); clear HB; have HB := n0_; have BK344 := n1_; have GW344 := n2_; have GE344 := n3_; clear n0_ n1_ n2_ n3_; clear hb hbox hg; obtain ⟨hcz3_0, hcz3_1, hcz3_2, hcz3_3, hcz3_4, hcz3_5⟩ := kc6 BK344.out; obtain ⟨hfz3_0, hfz3_1, hfz3_2, hfz3_3, hfz3_4, hfz3_5⟩ := kf6 BK344.out))
 refine bodyPost_ret (results_cell_row rfl _ _ gb344 24 #[.int .i64 7, .int .i64 a0, .int .i64 0, .int .i64 0, .int .i64 0, .slice none 0 0] (0, 0) _ rfl (kP6 BK344.out) Tryz.underlying24 rfl (by kernel_rfl)) rfl ?_
 exact ⟨_, by first | rfl | (simp [errW_none, errW_some] <;> rfl) | (simp [*, errW_none, errW_some] <;> rfl), by first | exact Kd.R_nil _ _ _ _ _ | exact Kd.N_nil _ _ _ _ _ | exact Kd.V_nil _ _ _ _ _ | exact Kd.Q_nil _ _ _ _ _ | exact Kd.S_nil _ _ _ _ _, kb1 HB.out GE344.out⟩

/-! ### skiffref1_Erases: function 29 -/
def skiffref1_Erases.l0 : Nat → Int → List (S41) → Int → Option ((List (S41)) × Int)
 | 0, _, _, _ => none
 | k + 1, x4, x6, x7 => if x7 < 3 then (if x6.length < 4398046511104 then (skiffref1_Erases.l0 k x4 (x6 ++ [(⟨true, wrap64 (x4 + (wrap64 (x7 * 96))), (⟨#[]⟩ : ByteArray)⟩ : S41)]) (wrap64 (x7 + 1))) else (none)) else (some (x6, 0))
def skiffref1_Erases.f (k : Nat) (a0 : Int) : Option ((List (S41)) × Int) := (skiffref1_Base.f a0).bind fun bt345 => (if bt345.2 = 0 then (skiffref1_Erases.l0 k bt345.1 ([] : List (S41)) 0) else (some (([] : List (S41)), 900)))
set_option maxHeartbeats 8000000 in
set_option maxRecDepth 100000 in
theorem skiffref1_Erases.calls (k : Nat) (a0 : Int) (r1 : List (S41)) (r2 : Int) (w : World) (h : skiffref1_Erases.f k a0 = some (r1, r2)) :
  Calls Tryz.prog 29 #[.int .i64 a0] w fun e w' => ∃ v0_ : Value, e = .returned (.tuple #[v0_, .int .i64 r2]) ∧ Kd.R k41 41 w' w.heap.size (fun _ => True) v0_ r1 ∧ Below w.heap.size w w' := by
 have hu41 := Tryz.underlying41
 have HB := Aside0.mk (Below.refl w.heap.size w)
 have H : ((skiffref1_Base.f a0).bind fun bt345 => (if bt345.2 = 0 then (skiffref1_Erases.l0 k bt345.1 ([] : List (S41)) 0) else (some (([] : List (S41)), 900)))) = some (r1, r2) := h
 clear h
 replace H := Option.bind_eq_some_iff.mp H
 obtain ⟨⟨t345, t346⟩, A20, H⟩ := H
 replace H : (if t346 = 0 then (skiffref1_Erases.l0 k t345 ([] : List (S41)) 0) else (some (([] : List (S41)), 900))) = some (r1, r2) := H
 have A2 := Aside0.mk A20
 clear A20
 by_cases c3 : t346 = 0
 case neg =>
  rw [if_neg c3] at H
  have c3b0 : (t346 == 0) = false := beq_eq_false_iff_ne.mpr c3
  have c3b1 : (t346 != 0) = true := bne_iff_ne.mpr c3
  simp only [Option.some.injEq, Prod.mk.injEq] at H
  obtain ⟨rfl, rfl⟩ := H
  go_enter Tryz.func29, Tryz.ntmps29
  go_wp2_with (first | ((with_reducible refine gate_callee (f := 18) rfl ?_); refine goesL_ (some 10) rfl rfl Tryz.func18 (by kernel_rfl) rfl #[.int .i64 a0] rfl ka ?_; (with_reducible refine (skiffref1_Base.calls a0 t345 t346 _ A2.out).mono ?_); rintro e w' ⟨rfl, ⟨nd, rfl⟩⟩; refine ⟨_, rfl, ?_⟩))
  go_ret2
  exact ⟨_, by first | rfl | (simp [errW_none, errW_some] <;> rfl) | (simp [*, errW_none, errW_some] <;> rfl), by first | exact Kd.R_nil _ _ _ _ _ | exact Kd.N_nil _ _ _ _ _ | exact Kd.V_nil _ _ _ _ _ | exact Kd.Q_nil _ _ _ _ _ | exact Kd.S_nil _ _ _ _ _, kb HB.out⟩
 rw [if_pos c3] at H
 have c3b0 : (t346 == 0) = true := beq_iff_eq.mpr c3
 have c3b1 : (t346 != 0) = false := bne_eq_false_iff_eq.mpr c3
 clear c3
 have H' := Aside0.mk H
 clear H
 go_enter Tryz.func29, Tryz.ntmps29
 go_wp2_with (first | ((with_reducible refine gate_callee (f := 18) rfl ?_); refine goesL_ (some 10) rfl rfl Tryz.func18 (by kernel_rfl) rfl #[.int .i64 a0] rfl ka ?_; (with_reducible refine (skiffref1_Base.calls a0 t345 t346 _ A2.out).mono ?_); rintro e w' ⟨rfl, ⟨nd, rfl⟩⟩; refine ⟨_, rfl, ?_⟩))
 go_loopg [6, 7] k (fun kq v6 v7 w' => ∃ (x6_1 : List (S41)) (x7_1 : Int), v7 = .int .i64 x7_1 ∧ Aside0 (skiffref1_Erases.l0 kq t345 x6_1 x7_1 = some (r1, r2)) ∧ Aside0 (kq ≤ k) ∧ Aside0 (Kd.R k41 41 w' w.heap.size (fun _ => True) v6 x6_1) ∧ Aside0 (Below w.heap.size w w'))
 case atStart => exact ⟨(([] : List (S41))), (0), (by first | rfl | (simp; done) | (simp [*]; done)), H', ⟨Nat.le_refl _⟩, ⟨by first | exact Kd.R_nil _ _ _ _ _ | exact Kd.N_nil _ _ _ _ _ | exact Kd.V_nil _ _ _ _ _ | exact Kd.Q_nil _ _ _ _ _ | exact Kd.S_nil _ _ _ _ _⟩, ⟨kb HB.out⟩⟩
 case round =>
  clear H'
  try clear c1; try clear c2; try clear p2; try clear c3; try clear c3b0; try clear c3b1
  obtain ⟨x6_1, x7_1, rfl, HA, HK1, HO_6, HB⟩ := hrel
  cases gk with
  | zero => exact absurd HA.out (by simp [skiffref1_Erases.l0])
  | succ k1 =>
   have H := HA.out
   clear HA
   simp only [skiffref1_Erases.l0] at H
   by_cases c4 : x7_1 < 3
   case neg =>
    rw [if_neg c4] at H
    have c4b0 : decide (x7_1 < 3) = false := decide_eq_false c4
    clear c4
    simp only [Option.some.injEq, Prod.mk.injEq] at H
    obtain ⟨rfl, rfl⟩ := H
    go_wp2
    go_ret2
    exact ⟨_, by first | rfl | (simp [errW_none, errW_some] <;> rfl) | (simp [*, errW_none, errW_some] <;> rfl), kR HO_6.out, kb HB.out⟩
   rw [if_pos c4] at H
   have c4b0 : decide (x7_1 < 3) = true := decide_eq_true c4
   clear c4
   by_cases c5 : x6_1.length < 4398046511104
   case neg =>
    rw [if_neg c5] at H
    exact absurd H (by simp)
   rw [if_pos c5] at H
   have LMc5 := Aside0.mk c5
   clear c5
   obtain ⟨y347, hy347⟩ : ∃ y_ : List (S41), y_ = (x6_1 ++ [(⟨true, wrap64 (t345 + (wrap64 (x7_1 * 96))), (⟨#[]⟩ : ByteArray)⟩ : S41)]) := ⟨_, rfl⟩
   replace H : (skiffref1_Erases.l0 k1 t345 y347 (wrap64 (x7_1 + 1))) = some (r1, r2) := by first | (rw [hy347]; with_reducible exact H) | (have H2_ := (Option.bind_some _ _).symm.trans H; rw [hy347]; with_reducible exact H2_) | (have H2_ := (Option.bind_some _ _).symm.trans H; with_reducible exact H2_) | with_reducible exact H | (rw [hy347]; exact H) | exact H
   have Ny347 := Aside0.mk hy347
   clear hy347
   have H' := Aside0.mk H
   clear H
   go_wp2_with (first | ((with_reducible refine gate_builtin (b := .append) (xs := #[.tmp 19, .tmp 25]) rfl ?_); at_builtin; refine Kd.R_append k41 (w0 := w) w.heap.size rfl (.tmp 19) (.tmp 25) 22 41 (.agg #[(.bool false), (.int .i64 0), (.string ⟨#[]⟩)]) 32 rfl Tryz.underlying22 info41 rfl (by decide) (by omega) u6 x6_1 (⟨true, wrap64 (t345 + (wrap64 (x7_1 * 96))), (⟨#[]⟩ : ByteArray)⟩ : S41) [.bool true, .int .i64 (wrap64 (t345 + (wrap64 (x7_1 * 96)))), .string (⟨#[]⟩ : ByteArray)] (fun _ => True) (fun _ => False) rfl rfl ?aP (fun _ hk => hk.elim) ?aF ?aO ?aB ?aS ?aL ?_; (case aP => exact k41_mkM _ _ _ (⟨true, wrap64 (t345 + (wrap64 (x7_1 * 96))), (⟨#[]⟩ : ByteArray)⟩ : S41)); (case aB => exact (kb HB.out)); (case aF => exact (fun _ _ => trivial)); (case aO => exact (kR HO_6.out)); (case aS => exact (below_size (kb HB.out))); (case aL => have := LMc5.out; omega); intro v348 w6 ho hb hg hat; rw [← Ny347.out] at ho; have n0_ := Aside0.mk (hb); have n1_ := Aside0.mk (ho); clear HB; clear HO_6; have HB := n0_; have HO349 := n1_; clear n0_ n1_; clear ho hb hg hat))
   go_roundg k1
   case measure => have := HK1.out; omega
   case rel => exact ⟨(y347), (wrap64 (x7_1 + 1)), (by first | rfl | (simp; done) | (simp [*]; done)), H', ⟨by have := HK1.out; omega⟩, ⟨kR HO349.out⟩, ⟨kb HB.out⟩⟩

/-! ### skiffref1_full: function 33 -/
def skiffref1_full.f (a0 : Int) : Option (ByteArray) := Skiff.fulls a0
theorem skiffref1_full.calls (a0 : Int) (r : ByteArray) (w : World) (h : skiffref1_full.f a0 = some r) :
  Calls Tryz.prog 33 #[.int .i64 a0] w fun e w' => e = .returned (.string r) ∧ Below w.heap.size w w' :=
 Go.Proofs.YthkpaoajfiapkaaGreat.g_skiffref1_full a0 r w h

/-! ### skiffref1_Words: function 30 -/
mutual
def skiffref1_Words.j0 : Nat → Int → ByteArray → Bool → Option ((List (S41)) × Int)
 | 0, _, _, _ => none
 | k + 1, x0, x1, x23 => if x23 = true then (some (([] : List (S41)), 300)) else ((skiffref1_full.f ((4 - ((x1.size : Int) % 4)) % 4)).bind fun t351 => (if x1.size + t351.size ≤ 9223372036854775807 then (skiffref1_Words.l0 k x0 (x1 ++ t351) ([] : List (S41)) 0) else (none)))
def skiffref1_Words.l0 : Nat → Int → ByteArray → List (S41) → Int → Option ((List (S41)) × Int)
 | 0, _, _, _, _ => none
 | k + 1, x0, x6, x7, x8 => if x8 < (x6.size : Int) then (if 0 ≤ x8 then (if x8 ≤ (wrap64 (x8 + 4)) then (if (wrap64 (x8 + 4)) ≤ (x6.size : Int) then (if x7.length < 4398046511104 then (skiffref1_Words.l0 k x0 x6 (x7 ++ [(⟨false, wrap64 (x0 + x8), x6.extract (x8 : Int).toNat ((wrap64 (x8 + 4)) : Int).toNat⟩ : S41)]) (wrap64 (x8 + 4))) else (none)) else (none)) else (none)) else (none)) else (some (x7, 0))
end
def skiffref1_Words.f (k : Nat) (a0 : Int) (a1 : ByteArray) : Option ((List (S41)) × Int) := (skiffref1_upTo.f a0 0 768).bind fun t350 => (if t350 = true then (if (Int.tmod a0 4) = 0 then (skiffref1_Words.j0 k a0 a1 (decide ((a1.size : Int) > (wrap64 (768 - a0))))) else (skiffref1_Words.j0 k a0 a1 true)) else (skiffref1_Words.j0 k a0 a1 true))
set_option maxHeartbeats 8000000 in
set_option maxRecDepth 100000 in
theorem skiffref1_Words.calls (k : Nat) (a0 : Int) (a1 : ByteArray) (r1 : List (S41)) (r2 : Int) (w : World) (h : skiffref1_Words.f k a0 a1 = some (r1, r2)) :
  Calls Tryz.prog 30 #[.int .i64 a0, .string a1] w fun e w' => ∃ v0_ : Value, e = .returned (.tuple #[v0_, .int .i64 r2]) ∧ Kd.R k41 41 w' w.heap.size (fun _ => True) v0_ r1 ∧ Below w.heap.size w w' := by
 have hu41 := Tryz.underlying41
 have HB := Aside0.mk (Below.refl w.heap.size w)
 have H : ((skiffref1_upTo.f a0 0 768).bind fun t350 => (if t350 = true then (if (Int.tmod a0 4) = 0 then (skiffref1_Words.j0 k a0 a1 (decide ((a1.size : Int) > (wrap64 (768 - a0))))) else (skiffref1_Words.j0 k a0 a1 true)) else (skiffref1_Words.j0 k a0 a1 true))) = some (r1, r2) := h
 clear h
 have HC3 := Aside0.mk H
 clear H
 go_enter Tryz.func30, Tryz.ntmps30
 go_upto_region 1 with (fail)
 go_cut [23] (fun v23 wc => ∃ (kq : Nat) (x23_2 : Bool), v23 = .bool x23_2 ∧ Aside0 (skiffref1_Words.j0 kq a0 a1 x23_2 = some (r1, r2)) ∧ Aside0 (kq ≤ k) ∧ Aside0 (Below w.heap.size w wc))
 case first =>
  have H := HC3.out
  clear HC3
  replace H := Option.bind_eq_some_iff.mp H
  obtain ⟨t350, A40, H⟩ := H
  replace H : (if t350 = true then (if (Int.tmod a0 4) = 0 then (skiffref1_Words.j0 k a0 a1 (decide ((a1.size : Int) > (wrap64 (768 - a0))))) else (skiffref1_Words.j0 k a0 a1 true)) else (skiffref1_Words.j0 k a0 a1 true)) = some (r1, r2) := H
  have A4 := Aside0.mk A40
  clear A40
  by_cases c5 : t350 = true
  case neg =>
   replace c5 := Bool.eq_false_iff.mpr c5
   subst c5
   have H1 : (skiffref1_Words.j0 k a0 a1 true) = some (r1, r2) := by rw [if_neg (show ¬ (false = true) by decide)] at H; exact H
   clear H; have H := H1; clear H1
   have H' := Aside0.mk H
   clear H
   go_wp2_with (first | ((with_reducible refine gate_callee (f := 37) rfl ?_); refine goesL_ (some 10) rfl rfl Tryz.func37 (by kernel_rfl) rfl #[.int .i64 a0, .int .i64 0, .int .i64 768] rfl ka ?_; (with_reducible refine (skiffref1_upTo.calls a0 0 768 false _ A4.out).mono ?_); rintro e w' ⟨rfl, ⟨nd, rfl⟩⟩; refine ⟨_, rfl, ?_⟩))
   go_meet
   case rel => exact ⟨_, (true), (by first | rfl | (simp; done) | (simp [*]; done)), H', ⟨by first | omega | exact Nat.le_refl _⟩, ⟨kb HB.out⟩⟩
  subst c5
  have H1 : (if (Int.tmod a0 4) = 0 then (skiffref1_Words.j0 k a0 a1 (decide ((a1.size : Int) > (wrap64 (768 - a0))))) else (skiffref1_Words.j0 k a0 a1 true)) = some (r1, r2) := by rw [if_pos rfl] at H; exact H
  clear H; have H := H1; clear H1
  by_cases c6 : (Int.tmod a0 4) = 0
  case neg =>
   rw [if_neg c6] at H
   have c6b0 : ((Int.tmod a0 4) == 0) = false := beq_eq_false_iff_ne.mpr c6
   have c6b1 : ((Int.tmod a0 4) != 0) = true := bne_iff_ne.mpr c6
   (first | rw [c6b0] | rw [c6b1] | (simp only [i64_w, i32_w]; rw [c6b0]) | skip)
   have H' := Aside0.mk H
   clear H
   go_wp2_with (first | ((with_reducible refine gate_callee (f := 37) rfl ?_); refine goesL_ (some 10) rfl rfl Tryz.func37 (by kernel_rfl) rfl #[.int .i64 a0, .int .i64 0, .int .i64 768] rfl ka ?_; (with_reducible refine (skiffref1_upTo.calls a0 0 768 true _ A4.out).mono ?_); rintro e w' ⟨rfl, ⟨nd, rfl⟩⟩; refine ⟨_, rfl, ?_⟩))
   go_meet
   case rel => exact ⟨_, (true), (by first | rfl | (simp; done) | (simp [*]; done)), H', ⟨by first | omega | exact Nat.le_refl _⟩, ⟨kb HB.out⟩⟩
  rw [if_pos c6] at H
  have c6b0 : ((Int.tmod a0 4) == 0) = true := beq_iff_eq.mpr c6
  have c6b1 : ((Int.tmod a0 4) != 0) = false := bne_eq_false_iff_eq.mpr c6
  clear c6
  (first | rw [c6b0] | rw [c6b1] | (simp only [i64_w, i32_w]; rw [c6b0]) | skip)
  have H' := Aside0.mk H
  clear H
  go_wp2_with (first | ((with_reducible refine gate_callee (f := 37) rfl ?_); refine goesL_ (some 10) rfl rfl Tryz.func37 (by kernel_rfl) rfl #[.int .i64 a0, .int .i64 0, .int .i64 768] rfl ka ?_; (with_reducible refine (skiffref1_upTo.calls a0 0 768 true _ A4.out).mono ?_); rintro e w' ⟨rfl, ⟨nd, rfl⟩⟩; refine ⟨_, rfl, ?_⟩))
  go_meet
  case rel => exact ⟨_, (decide ((a1.size : Int) > (wrap64 (768 - a0)))), (by first | rfl | (simp; done) | (simp [*]; done)), H', ⟨by first | omega | exact Nat.le_refl _⟩, ⟨kb HB.out⟩⟩
 case rest =>
  clear HC3
  try clear p2; try clear c3; try clear c5; try clear c6; try clear c6b0; try clear c6b1; try clear p6
  obtain ⟨kq, x23_2, rfl, HA, HJ2, HB⟩ := hcut
  cases kq with
  | zero => exact absurd HA.out (by simp [skiffref1_Words.j0])
  | succ kj2 =>
   have H := HA.out
   clear HA
   simp only [skiffref1_Words.j0] at H
   by_cases c7 : x23_2 = true
   ·subst c7
    have H1 : (some (([] : List (S41)), 300)) = some (r1, r2) := by rw [if_pos rfl] at H; exact H
    clear H; have H := H1; clear H1
    simp only [Option.some.injEq, Prod.mk.injEq] at H
    obtain ⟨rfl, rfl⟩ := H
    go_wp2
    go_ret2
    exact ⟨_, by first | rfl | (simp [errW_none, errW_some] <;> rfl) | (simp [*, errW_none, errW_some] <;> rfl), by first | exact Kd.R_nil _ _ _ _ _ | exact Kd.N_nil _ _ _ _ _ | exact Kd.V_nil _ _ _ _ _ | exact Kd.Q_nil _ _ _ _ _ | exact Kd.S_nil _ _ _ _ _, kb HB.out⟩
   ·replace c7 := Bool.eq_false_iff.mpr c7
    subst c7
    have H1 : ((skiffref1_full.f ((4 - ((a1.size : Int) % 4)) % 4)).bind fun t351 => (if a1.size + t351.size ≤ 9223372036854775807 then (skiffref1_Words.l0 kj2 a0 (a1 ++ t351) ([] : List (S41)) 0) else (none))) = some (r1, r2) := by rw [if_neg (show ¬ (false = true) by decide)] at H; exact H
    clear H; have H := H1; clear H1
    replace H := Option.bind_eq_some_iff.mp H
    obtain ⟨t351, A80, H⟩ := H
    replace H : (if a1.size + t351.size ≤ 9223372036854775807 then (skiffref1_Words.l0 kj2 a0 (a1 ++ t351) ([] : List (S41)) 0) else (none)) = some (r1, r2) := H
    have A8 := Aside0.mk A80
    clear A80
    by_cases c9 : a1.size + t351.size ≤ 9223372036854775807
    case neg =>
     rw [if_neg c9] at H
     exact absurd H (by simp)
    rw [if_pos c9] at H
    have c9b0 := eq_true c9
    have c9b1 : decide (a1.size + t351.size ≤ 9223372036854775807) = true := decide_eq_true c9
    try have c9b2 : (9223372036854775807 < a1.size + t351.size) = False := eq_false (Nat.not_lt.2 c9)
    have H' := Aside0.mk H
    clear H
    go_wp2_with (first | ((with_reducible refine gate_callee (f := 33) rfl ?_); refine goesL_ (some 30) rfl rfl Tryz.func33 (by kernel_rfl) rfl #[.int .i64 ((4 - ((a1.size : Int) % 4)) % 4)] rfl ka ?_; (with_reducible refine (skiffref1_full.calls ((4 - ((a1.size : Int) % 4)) % 4) t351 _ A8.out).mono ?_); rintro e w10 ⟨rfl, hb⟩; refine ⟨_, rfl, ?_⟩; have n0_ := Aside0.mk (below_step (kb HB.out) hb); clear HB; have HB := n0_; clear n0_; (try clear hb); (try clear hb2); (try clear hk); (try clear hi)))
    go_loopg [7, 8] kj2 (fun kq v7 v8 w' => ∃ (x7_2 : List (S41)) (x8_2 : Int), v8 = .int .i64 x8_2 ∧ Aside0 (skiffref1_Words.l0 kq a0 (a1 ++ t351) x7_2 x8_2 = some (r1, r2)) ∧ Aside0 (kq ≤ kj2) ∧ Aside0 (Kd.R k41 41 w' w.heap.size (fun _ => True) v7 x7_2) ∧ Aside0 (Below w.heap.size w w'))
    case atStart => exact ⟨(([] : List (S41))), (0), (by first | rfl | (simp; done) | (simp [*]; done)), H', ⟨Nat.le_refl _⟩, ⟨by first | exact Kd.R_nil _ _ _ _ _ | exact Kd.N_nil _ _ _ _ _ | exact Kd.V_nil _ _ _ _ _ | exact Kd.Q_nil _ _ _ _ _ | exact Kd.S_nil _ _ _ _ _⟩, ⟨kb HB.out⟩⟩
    case round =>
     clear H'
     try clear p2; try clear c3; try clear c5; try clear c6; try clear c6b0; try clear c6b1; try clear p6; try clear c7; try clear c9; try clear c9b0; try clear c9b1; try clear c9b2; try clear p2; try clear p6
     obtain ⟨x7_2, x8_2, rfl, HA, HK2, HO_7, HB⟩ := hrel
     cases gk with
     | zero => exact absurd HA.out (by simp [skiffref1_Words.l0])
     | succ k2 =>
      have H := HA.out
      clear HA
      simp only [skiffref1_Words.l0] at H
      by_cases c11 : x8_2 < ((a1 ++ t351).size : Int)
      case neg =>
       rw [if_neg c11] at H
       have c11z : ¬ (x8_2 < ((a1.size : Int) + (t351.size : Int))) := by first | simpa using c11 | (simp only [ByteArray.size_append, Int.natCast_add] at c11 ⊢; exact c11)
       (try (have c11y0 : decide (x8_2 < ((a1.size : Int) + (t351.size : Int))) = false := decide_eq_false c11z))
       clear c11z
       have c11b0 : decide (x8_2 < ((a1 ++ t351).size : Int)) = false := decide_eq_false c11
       clear c11
       simp only [Option.some.injEq, Prod.mk.injEq] at H
       obtain ⟨rfl, rfl⟩ := H
       go_wp2
       go_ret2
       exact ⟨_, by first | rfl | (simp [errW_none, errW_some] <;> rfl) | (simp [*, errW_none, errW_some] <;> rfl), kR HO_7.out, kb HB.out⟩
      rw [if_pos c11] at H
      have c11z : x8_2 < ((a1.size : Int) + (t351.size : Int)) := by first | simpa using c11 | (simp only [ByteArray.size_append, Int.natCast_add] at c11 ⊢; exact c11)
      (try (have c11y0 : decide (x8_2 < ((a1.size : Int) + (t351.size : Int))) = true := decide_eq_true c11z))
      clear c11z
      have c11b0 : decide (x8_2 < ((a1 ++ t351).size : Int)) = true := decide_eq_true c11
      clear c11
      by_cases c12 : 0 ≤ x8_2
      case neg =>
       rw [if_neg c12] at H
       exact absurd H (by simp)
      rw [if_pos c12] at H
      have c12b0 := eq_true c12
      have c12b1 : decide (0 ≤ x8_2) = true := decide_eq_true c12
      clear c12
      by_cases c13 : x8_2 ≤ (wrap64 (x8_2 + 4))
      case neg =>
       rw [if_neg c13] at H
       exact absurd H (by simp)
      rw [if_pos c13] at H
      have c13b0 := eq_true c13
      have c13b1 : decide (x8_2 ≤ (wrap64 (x8_2 + 4))) = true := decide_eq_true c13
      by_cases c14 : (wrap64 (x8_2 + 4)) ≤ ((a1 ++ t351).size : Int)
      case neg =>
       rw [if_neg c14] at H
       exact absurd H (by simp)
      rw [if_pos c14] at H
      have c14b0 := eq_true c14
      have c14b1 : decide ((wrap64 (x8_2 + 4)) ≤ ((a1 ++ t351).size : Int)) = true := decide_eq_true c14
      (try (have c14z0 : ((wrap64 (x8_2 + 4)) ≤ ((a1.size : Int) + (t351.size : Int))) = True := eq_true (by first | simpa using c14 | (simp only [ByteArray.size_append, Int.natCast_add] at c14 ⊢; exact c14))))
      (try (have c14z1 : decide ((wrap64 (x8_2 + 4)) ≤ ((a1.size : Int) + (t351.size : Int))) = true := decide_eq_true (by first | simpa using c14 | (simp only [ByteArray.size_append, Int.natCast_add] at c14 ⊢; exact c14))))
      by_cases c15 : x7_2.length < 4398046511104
      case neg =>
       rw [if_neg c15] at H
       exact absurd H (by simp)
      rw [if_pos c15] at H
      have LMc15 := Aside0.mk c15
      clear c15
      obtain ⟨y352, hy352⟩ : ∃ y_ : List (S41), y_ = (x7_2 ++ [(⟨false, wrap64 (a0 + x8_2), (a1 ++ t351).extract (x8_2 : Int).toNat ((wrap64 (x8_2 + 4)) : Int).toNat⟩ : S41)]) := ⟨_, rfl⟩
      replace H : (skiffref1_Words.l0 k2 a0 (a1 ++ t351) y352 (wrap64 (x8_2 + 4))) = some (r1, r2) := by first | (rw [hy352]; with_reducible exact H) | (have H2_ := (Option.bind_some _ _).symm.trans H; rw [hy352]; with_reducible exact H2_) | (have H2_ := (Option.bind_some _ _).symm.trans H; with_reducible exact H2_) | with_reducible exact H | (rw [hy352]; exact H) | exact H
      have Ny352 := Aside0.mk hy352
      clear hy352
      have H' := Aside0.mk H
      clear H
      go_wp2_with (first | ((with_reducible refine gate_builtin (b := .append) (xs := #[.tmp 38, .tmp 48]) rfl ?_); (try (refine gate_guard (by rfl) ?_; dsimp only)); at_builtin; refine Kd.R_append k41 (w0 := w) w.heap.size rfl (.tmp 38) (.tmp 48) 22 41 (.agg #[(.bool false), (.int .i64 0), (.string ⟨#[]⟩)]) 32 rfl Tryz.underlying22 info41 rfl (by decide) (by omega) u7 x7_2 (⟨false, wrap64 (a0 + x8_2), (a1 ++ t351).extract (x8_2 : Int).toNat ((wrap64 (x8_2 + 4)) : Int).toNat⟩ : S41) [.bool false, .int .i64 (wrap64 (a0 + x8_2)), .string ((a1 ++ t351).extract (x8_2 : Int).toNat ((wrap64 (x8_2 + 4)) : Int).toNat)] (fun _ => True) (fun _ => False) rfl rfl ?aP (fun _ hk => hk.elim) ?aF ?aO ?aB ?aS ?aL ?_; (case aP => exact k41_mkM _ _ _ (⟨false, wrap64 (a0 + x8_2), (a1 ++ t351).extract (x8_2 : Int).toNat ((wrap64 (x8_2 + 4)) : Int).toNat⟩ : S41)); (case aB => exact (kb HB.out)); (case aF => exact (fun _ _ => trivial)); (case aO => exact (kR HO_7.out)); (case aS => exact (below_size (kb HB.out))); (case aL => have := LMc15.out; omega); intro v353 w16 ho hb hg hat; rw [← Ny352.out] at ho; have n0_ := Aside0.mk (hb); have n1_ := Aside0.mk (ho); clear HB; clear HO_7; have HB := n0_; have HO354 := n1_; clear n0_ n1_; clear ho hb hg hat))
      go_roundg k2
      case measure => have := HJ2.out; have := HK2.out; omega
      case rel => exact ⟨(y352), (wrap64 (x8_2 + 4)), (by first | rfl | (simp; done) | (simp [*]; done)), H', ⟨by have := HJ2.out; have := HK2.out; omega⟩, ⟨kR HO354.out⟩, ⟨kb HB.out⟩⟩

-- NOT PRINTED: function 9 (skiffref16_Download)

/-! ### skifflaw0_SameOps: function 31 -/
def skifflaw0_SameOps.l0 : Nat → List (S41) → List (S41) → Int → Option (Bool)
 | 0, _, _, _ => none
 | k + 1, x0, x1, x5 => if x5 < (x0.length : Int) then (if 0 ≤ x5 then (if x5 < (x1.length : Int) then (if (!(((rd_T41 x0 x5).f0) == ((rd_T41 x1 x5).f0)) || (!(((rd_T41 x0 x5).f1) == ((rd_T41 x1 x5).f1)) || (!((((rd_T41 x0 x5).f2).toList) == (((rd_T41 x1 x5).f2).toList))))) = true then (some false) else (skifflaw0_SameOps.l0 k x0 x1 (wrap64 (x5 + 1)))) else (none)) else (none)) else (some true)
def skifflaw0_SameOps.f (k : Nat) (l0 : List (S41)) (l1 : List (S41)) : Option (Bool) := if (l0.length : Int) = (l1.length : Int) then (skifflaw0_SameOps.l0 k l0 l1 0) else (some false)
set_option maxHeartbeats 8000000 in
set_option maxRecDepth 100000 in
theorem skifflaw0_SameOps.calls (k : Nat) (A0 : Option Addr) (c0 : Nat) (l0 : List (S41)) (A1 : Option Addr) (c1 : Nat) (l1 : List (S41)) (r : Bool) (w : World) (hr0 : Kd.C k41 w A0 l0.length l0) (hc0 : l0.length ≤ c0) (hr1 : Kd.C k41 w A1 l1.length l1) (hc1 : l1.length ≤ c1) (h : skifflaw0_SameOps.f k l0 l1 = some r) :
  Calls Tryz.prog 31 #[.slice A0 l0.length c0, .slice A1 l1.length c1] w fun e w' => e = .returned (.bool r) ∧ Drawn0 w w' := by
 have hu41 := Tryz.underlying41
 have HR0 := Aside0.mk hr0
 have HC0 := Aside0.mk hc0
 clear hr0 hc0
 have HR1 := Aside0.mk hr1
 have HC1 := Aside0.mk hc1
 clear hr1 hc1
 have H : (if (l0.length : Int) = (l1.length : Int) then (skifflaw0_SameOps.l0 k l0 l1 0) else (some false)) = some r := h
 clear h
 by_cases c3 : (l0.length : Int) = (l1.length : Int)
 case neg =>
  rw [if_neg c3] at H
  have c3b0 : ((l0.length : Int) == (l1.length : Int)) = false := beq_eq_false_iff_ne.mpr c3
  have c3b1 : ((l0.length : Int) != (l1.length : Int)) = true := bne_iff_ne.mpr c3
  have c3b2 : (l0.length == l1.length) = false := by first | simpa using c3 | (simp at c3 ⊢; omega)
  obtain rfl := Option.some.inj H
  go_enter Tryz.func31, Tryz.ntmps31
  go_wp2
  repeat (go_quiet (fail); try go_wp2)
  go_ret
  exact ⟨by first | rfl | (simp; done) | (simp [*]; done), by repeat (first | exact Drawn0.refl _ | apply Drawn0.step)⟩
 rw [if_pos c3] at H
 have c3b0 : ((l0.length : Int) == (l1.length : Int)) = true := beq_iff_eq.mpr c3
 have c3b1 : ((l0.length : Int) != (l1.length : Int)) = false := bne_eq_false_iff_eq.mpr c3
 have c3b2 : (l0.length == l1.length) = true := by first | simpa using c3 | (simp at c3 ⊢; omega)
 clear c3
 have H' := Aside0.mk H
 clear H
 go_enter Tryz.func31, Tryz.ntmps31
 go_wp2
 repeat (go_quiet (fail); try go_wp2)
 go_loopg [5] k (fun kq v5 w' => ∃ (x5_1 : Int), v5 = .int .i64 x5_1 ∧ Aside0 (skifflaw0_SameOps.l0 kq l0 l1 x5_1 = some r) ∧ Aside0 (kq ≤ k) ∧ Drawn0 w w')
 case atStart => exact ⟨(0), (by first | rfl | (simp; done) | (simp [*]; done)), H', ⟨Nat.le_refl _⟩, by repeat (first | exact Drawn0.refl _ | apply Drawn0.step)⟩
 case round =>
  clear H'
  try clear c1; try clear p2; try clear c3; try clear c3b0; try clear c3b1; try clear c3b2
  obtain ⟨x5_1, rfl, HA, HK1, ⟨m1, rfl⟩⟩ := hrel
  cases gk with
  | zero => exact absurd HA.out (by simp [skifflaw0_SameOps.l0])
  | succ k1 =>
   have H := HA.out
   clear HA
   simp only [skifflaw0_SameOps.l0] at H
   by_cases c4 : x5_1 < (l0.length : Int)
   case neg =>
    rw [if_neg c4] at H
    have c4b0 : decide (x5_1 < (l0.length : Int)) = false := decide_eq_false c4
    clear c4
    obtain rfl := Option.some.inj H
    go_wp2
    repeat (go_quiet (fail); try go_wp2)
    go_ret
    exact ⟨by first | rfl | (simp; done) | (simp [*]; done), by repeat (first | exact Drawn0.refl _ | apply Drawn0.step)⟩
   rw [if_pos c4] at H
   have c4b0 : decide (x5_1 < (l0.length : Int)) = true := decide_eq_true c4
   clear c4
   by_cases c5 : 0 ≤ x5_1
   case neg =>
    rw [if_neg c5] at H
    exact absurd H (by simp)
   rw [if_pos c5] at H
   have c5b0 : decide (0 ≤ x5_1) = true := decide_eq_true c5
   clear c5
   by_cases c6 : x5_1 < (l1.length : Int)
   case neg =>
    rw [if_neg c6] at H
    exact absurd H (by simp)
   rw [if_pos c6] at H
   have c6b0 : decide (x5_1 < (l1.length : Int)) = true := decide_eq_true c6
   clear c6
   by_cases c7 : (!(((rd_T41 l0 x5_1).f0) == ((rd_T41 l1 x5_1).f0)) || (!(((rd_T41 l0 x5_1).f1) == ((rd_T41 l1 x5_1).f1)) || (!((((rd_T41 l0 x5_1).f2).toList) == (((rd_T41 l1 x5_1).f2).toList))))) = true
   ·rw [if_pos c7] at H
    have c7b0 : (!(((rd_T41 l0 x5_1).f0) == ((rd_T41 l1 x5_1).f0)) || (!(((rd_T41 l0 x5_1).f1) == ((rd_T41 l1 x5_1).f1)) || (!((((rd_T41 l0 x5_1).f2).toList) == (((rd_T41 l1 x5_1).f2).toList))))) = true := c7
    clear c7
    obtain rfl := Option.some.inj H
    have p355 : 0 ≤ (x5_1 : Int) := of_decide_eq_true (by first | (with_reducible assumption) | assumption)
    have q355 : x5_1 < (l0.length : Int) := of_decide_eq_true (by first | (with_reducible assumption) | assumption)
    obtain ⟨ad355, e355, hx355_0, hx355_1, hx355_2⟩ := at_T41 HR0.out x5_1 p355 q355
    cases e355
    replace p355 := eq_true p355
    replace q355 := eq_true q355
    have p356 : 0 ≤ (x5_1 : Int) := of_decide_eq_true (by first | (with_reducible assumption) | assumption)
    have q356 : x5_1 < (l1.length : Int) := of_decide_eq_true (by first | (with_reducible assumption) | assumption)
    obtain ⟨ad356, e356, hx356_0, hx356_1, hx356_2⟩ := at_T41 HR1.out x5_1 p356 q356
    cases e356
    replace p356 := eq_true p356
    replace q356 := eq_true q356
    go_wp2
    repeat (go_quiet (fail); try go_wp2)
    go_ret
    exact ⟨by first | rfl | (simp; done) | (simp [*]; done), by repeat (first | exact Drawn0.refl _ | apply Drawn0.step)⟩
   ·rw [if_neg c7] at H
    have c7b0 : (!(((rd_T41 l0 x5_1).f0) == ((rd_T41 l1 x5_1).f0)) || (!(((rd_T41 l0 x5_1).f1) == ((rd_T41 l1 x5_1).f1)) || (!((((rd_T41 l0 x5_1).f2).toList) == (((rd_T41 l1 x5_1).f2).toList))))) = false := by simpa using c7
    clear c7
    have H' := Aside0.mk H
    clear H
    have p355 : 0 ≤ (x5_1 : Int) := of_decide_eq_true (by first | (with_reducible assumption) | assumption)
    have q355 : x5_1 < (l0.length : Int) := of_decide_eq_true (by first | (with_reducible assumption) | assumption)
    obtain ⟨ad355, e355, hx355_0, hx355_1, hx355_2⟩ := at_T41 HR0.out x5_1 p355 q355
    cases e355
    replace p355 := eq_true p355
    replace q355 := eq_true q355
    have p356 : 0 ≤ (x5_1 : Int) := of_decide_eq_true (by first | (with_reducible assumption) | assumption)
    have q356 : x5_1 < (l1.length : Int) := of_decide_eq_true (by first | (with_reducible assumption) | assumption)
    obtain ⟨ad356, e356, hx356_0, hx356_1, hx356_2⟩ := at_T41 HR1.out x5_1 p356 q356
    cases e356
    replace p356 := eq_true p356
    replace q356 := eq_true q356
    go_wp2
    repeat (go_quiet (fail); try go_wp2)
    go_roundg k1
    case measure => have := HK1.out; omega
    case rel => exact ⟨(wrap64 (x5_1 + 1)), (by first | rfl | (simp; done) | (simp [*]; done)), H', ⟨by have := HK1.out; omega⟩, by repeat (first | exact Drawn0.refl _ | apply Drawn0.step)⟩

end Go.Proofs.YthkpaoajfiapkaaGreat.P
end
section
set_option linter.unusedVariables false
set_option linter.unusedSimpArgs false
set_option maxHeartbeats 4000000
namespace Skiff
def baseOf (s : Int) : Int × Int := if within s 0 1 = true then (192 + 288 * s, 0) else (0, 600)
def imageMay (f : ByteArray) (r : Rec) : Bool := decide (f.size = 768) && recMay r
def image (f : ByteArray) (r : Rec) : ByteArray := f.extract (192 + 288 * r.slot.toNat) (192 + 288 * r.slot.toNat + r.size.toNat)
def imagePair (f : ByteArray) (r : Rec) : ByteArray × Int := if imageMay f r = true then (image f r, 0) else (⟨#[]⟩, 600)
def goodB (f : ByteArray) (r : Rec) : Bool := ((crcSum (bl (image f r)) : Nat) : Int) == r.sum
def goodPair (f : ByteArray) (r : Rec) : Bool × Int := if imageMay f r = true then (goodB f r, 0) else (false, 600)
theorem image_size {f : ByteArray} {r : Rec} (h : imageMay f r = true) : (image f r).size = r.size.toNat := by
  obtain ⟨h1, h2⟩ := Bool.and_eq_true_iff.1 h
  have h1 := of_decide_eq_true h1
  have h2 := recMay_iff.1 h2
  unfold image
  rw [ByteArray.size_extract, h1]
  omega
end Skiff
namespace Go.Proofs.YthkpaoajfiapkaaGreat
open Go.RowKit Skiff

theorem upTo_f (x a b : Int) : P.skiffref1_upTo.f x a b = some (within x a b) := by
  unfold P.skiffref1_upTo.f within
  by_cases h : a ≤ x
  · rw [if_pos h, decide_eq_true h]; rfl
  · rw [if_neg h, decide_eq_false h]; rfl
theorem in_f (x a b : Int) : P.entry_in.f x a b = some (within x a b) := by
  unfold P.entry_in.f within
  by_cases h : a ≤ x
  · rw [if_pos h, decide_eq_true h]; rfl
  · rw [if_neg h, decide_eq_false h]; rfl
theorem slot_f (x : Int) : P.entry_Slot.f x = some (within x 0 1) := by unfold P.entry_Slot.f; rw [in_f]; rfl
theorem may_f (f : ByteArray) : P.nor_May.f f = some (decide (f.size = 768)) := by
  unfold P.nor_May.f
  congr 1
  rw [Bool.eq_iff_iff]; simp; omega
theorem flashMay_f (f : ByteArray) : P.skiffref1_FlashMay.f f = some (decide (f.size = 768)) := by
  unfold P.skiffref1_FlashMay.f
  congr 1
  rw [Bool.eq_iff_iff]; simp; omega
theorem rbase_f (s : Int) : P.skiffref1_Base.f s = some (baseOf s) := by
  unfold P.skiffref1_Base.f baseOf
  rw [upTo_f]
  simp only [Option.bind_some]
  cases h : within s 0 1
  · rfl
  · have h := Skiff.within_iff.1 h
    simp only [if_true]
    congr 2
    simp only [wrap64]
    omega
theorem base_f (s : Int) : P.image_Base.f s = some (baseOf s) := by
  unfold P.image_Base.f P.image_Sector.f P.journal_Begin.f baseOf
  rw [slot_f]
  simp only [Option.bind_some]
  cases h : within s 0 1
  · rfl
  · have h := Skiff.within_iff.1 h
    simp only [if_true]
    congr 2
    simp only [wrap64]
    omega
theorem of_f (f : ByteArray) (r : Rec) : P.image_Of.f f r.seq r.slot r.size r.sum = some (imagePair f r) := by
  unfold P.image_Of.f P.entry_May.f imagePair imageMay
  rw [may_f, base_f]
  simp only [Option.bind_some]
  by_cases h1 : f.size = 768
  · rw [decide_eq_true h1]
    cases h2 : recMay r
    · rfl
    · have h3 := recMay_iff.1 h2
      have hb : baseOf r.slot = (192 + 288 * r.slot, 0) := by unfold baseOf; rw [if_pos (Skiff.within_iff.2 h3.2.1)]
      have hw : wrap64 (192 + 288 * r.slot + r.size) = 192 + 288 * r.slot + r.size := by simp only [wrap64]; omega
      simp only [if_true, hb, hw, Bool.and_self]
      rw [if_pos (by omega), if_pos (by omega), if_pos (by omega)]
      unfold image
      rw [show (192 + 288 * r.slot).toNat = 192 + 288 * r.slot.toNat by omega, show (192 + 288 * r.slot + r.size).toNat = 192 + 288 * r.slot.toNat + r.size.toNat by omega]
  · rw [decide_eq_false h1]; rfl
theorem rof_f (f : ByteArray) (r : Rec) : P.skiffref1_ImageOf.f f r.seq r.slot r.size r.sum = some (imagePair f r) := by
  unfold P.skiffref1_ImageOf.f P.skiffref1_RecordMay.f imagePair imageMay
  rw [flashMay_f, rbase_f]
  simp only [Option.bind_some]
  by_cases h1 : f.size = 768
  · rw [decide_eq_true h1]
    cases h2 : recMay r
    · rfl
    · have h3 := recMay_iff.1 h2
      have hb : baseOf r.slot = (192 + 288 * r.slot, 0) := by unfold baseOf; rw [if_pos (Skiff.within_iff.2 h3.2.1)]
      have hw : wrap64 (192 + 288 * r.slot + r.size) = 192 + 288 * r.slot + r.size := by simp only [wrap64]; omega
      simp only [if_true, hb, hw, Bool.and_self]
      rw [if_pos (by omega), if_pos (by omega), if_pos (by omega)]
      unfold image
      rw [show (192 + 288 * r.slot).toNat = 192 + 288 * r.slot.toNat by omega, show (192 + 288 * r.slot + r.size).toNat = 192 + 288 * r.slot.toNat + r.size.toNat by omega]
  · rw [decide_eq_false h1]; rfl
theorem good_f (f : ByteArray) (r : Rec) : P.image_Good.f f r.seq r.slot r.size r.sum = some (goodPair f r) := by
  unfold P.image_Good.f P.crc_Sum.f goodPair
  rw [of_f]
  simp only [Option.bind_some]
  unfold imagePair
  cases h : imageMay f r
  · rfl
  · simp only [if_true]
    unfold sums
    have hs := image_size h
    have hr := recMay_iff.1 (Bool.and_eq_true_iff.1 h).2
    rw [if_pos (by omega)]; rfl
theorem rgood_f (f : ByteArray) (r : Rec) : P.skiffref1_Good.f f r.seq r.slot r.size r.sum = some (goodPair f r) := by
  unfold P.skiffref1_Good.f P.skiffref1_Crc.f goodPair
  rw [rof_f]
  simp only [Option.bind_some]
  unfold imagePair
  cases h : imageMay f r
  · rfl
  · simp only [if_true]
    unfold sums
    have hs := image_size h
    have hr := recMay_iff.1 (Bool.and_eq_true_iff.1 h).2
    rw [if_pos (by omega)]; rfl
end Go.Proofs.YthkpaoajfiapkaaGreat
end
section
set_option linter.unusedVariables false
set_option linter.unusedSimpArgs false
set_option maxHeartbeats 4000000
namespace Go.Proofs.YthkpaoajfiapkaaGreat
open Go.RowKit Skiff Go.Proofs.YthkpaoajfiapkaaGreatW.PrintWords

theorem rscan_step (f : ByteArray) (hf : f.size = 768) (s j k : Nat) (hs : s < 2) (hj : j < 4) : P.skiffref1_Scan.l1 (k + 1) f (scanTo f (4 * s + j)) s (96 * (s : Int) + 24 * (j : Int)) = P.skiffref1_Scan.l1 k f (scanTo f (4 * s + (j + 1))) s (96 * (s : Int) + 24 * ((j + 1 : Nat) : Int)) := by
  have hl := scanTo_len f (4 * s + j)
  have e1 : wrap64 (96 * (s : Int) + 24 * (j : Int) + 24) = 96 * (s : Int) + 24 * (j : Int) + 24 := by simp only [wrap64]; omega
  have e2 : wrap64 ((s : Int) + 1) = (s : Int) + 1 := by simp only [wrap64]; omega
  have e3 : wrap64 (((s : Int) + 1) * 96) = ((s : Int) + 1) * 96 := by simp only [wrap64]; omega
  have e4 : 96 * (s : Int) + 24 * (j : Int) + 24 = 96 * (s : Int) + 24 * ((j + 1 : Nat) : Int) := by omega
  have e5 : f.extract (96 * (s : Int) + 24 * (j : Int)).toNat (96 * (s : Int) + 24 * (j : Int) + 24).toNat = f.extract (24 * (4 * s + j)) (24 * (4 * s + j) + 24) := by
    rw [show (96 * (s : Int) + 24 * (j : Int)).toNat = 24 * (4 * s + j) by omega, show (96 * (s : Int) + 24 * (j : Int) + 24).toNat = 24 * (4 * s + j) + 24 by omega]
  have e6 : 96 * (s : Int) + 24 * (j : Int) = 24 * ((4 * s + j : Nat) : Int) := by omega
  simp only [P.skiffref1_Scan.l1, P.skiffref1_GetEntry.f]
  rw [e2, e3, e1, if_pos (by omega), if_pos (by omega), if_pos (by omega), if_pos (by omega), e5, e4]
  simp only [Option.bind_some]
  rw [show 4 * s + (j + 1) = 4 * s + j + 1 from rfl, scanTo, pls]
  cases h : slotAt f (4 * s + j) with
  | none =>
    rw [getTup_none h]
    simp only
    rw [if_neg (by omega)]
    simp
  | some r =>
    rw [getTup_some h]
    simp only [if_true]
    rw [if_pos (by omega), e6]
    rfl
theorem rscan_next (f : ByteArray) (s k : Nat) (hs : s < 2) : P.skiffref1_Scan.l1 (k + 1) f (scanTo f (4 * s + 4)) s (96 * (s : Int) + 24 * ((4 : Nat) : Int)) = P.skiffref1_Scan.l0 k f (scanTo f (4 * (s + 1))) ((s + 1 : Nat) : Int) := by
  have e1 : wrap64 (96 * (s : Int) + 24 * ((4 : Nat) : Int) + 24) = 96 * (s : Int) + 120 := by simp only [wrap64]; omega
  have e2 : wrap64 ((s : Int) + 1) = ((s + 1 : Nat) : Int) := by simp only [wrap64]; omega
  have e3 : wrap64 (((s + 1 : Nat) : Int) * 96) = ((s + 1 : Nat) : Int) * 96 := by simp only [wrap64]; omega
  simp only [P.skiffref1_Scan.l1]
  rw [e2, e3, e1, if_neg (by omega)]
  rfl
theorem rscan_sector (f : ByteArray) (hf : f.size = 768) (s k : Nat) (hs : s < 2) : P.skiffref1_Scan.l0 (k + 6) f (scanTo f (4 * s)) s = P.skiffref1_Scan.l0 k f (scanTo f (4 * (s + 1))) ((s + 1 : Nat) : Int) := by
  have e : wrap64 ((s : Int) * 96) = 96 * (s : Int) + 24 * ((0 : Nat) : Int) := by simp only [wrap64]; omega
  have h0 := rscan_step f hf s 0 (k + 4) hs (by omega)
  have h1 := rscan_step f hf s 1 (k + 3) hs (by omega)
  have h2 := rscan_step f hf s 2 (k + 2) hs (by omega)
  have h3 := rscan_step f hf s 3 (k + 1) hs (by omega)
  have h4 := rscan_next f s k hs
  rw [show k + 6 = (k + 5) + 1 from rfl]
  simp only [P.skiffref1_Scan.l0]
  rw [if_pos (by omega), e]
  exact h0.trans (h1.trans (h2.trans (h3.trans h4)))
theorem rscan_f (f : ByteArray) (k : Nat) (hk : 16 < k) : P.skiffref1_Scan.f k f = some (if f.size = 768 then (scanTo f 8, 0) else ([], 500)) := by
  unfold P.skiffref1_Scan.f
  rw [flashMay_f]
  simp only [Option.bind_some]
  by_cases h : f.size = 768
  · rw [decide_eq_true h, if_pos h, if_pos rfl]
    obtain ⟨m, rfl⟩ : ∃ m, k = m + 1 + 6 + 6 := ⟨k - 13, by omega⟩
    have h0 := rscan_sector f h 0 (m + 1 + 6) (by omega)
    have h1 := rscan_sector f h 1 (m + 1) (by omega)
    refine (h0.trans h1).trans ?_
    simp only [P.skiffref1_Scan.l0]
    rw [if_neg (by omega)]
  · rw [decide_eq_false h, if_neg h]; rfl

theorem rd_at (l : List Plc) (i : Nat) (h : i < l.length) : P.rd_T68 l (i : Int) = l[i] := by
  unfold P.rd_T68
  rw [Int.toNat_natCast, List.getD_eq_getElem?_getD, List.getElem?_eq_getElem h]; rfl

end Go.Proofs.YthkpaoajfiapkaaGreat
end
section
set_option linter.unusedVariables false
set_option linter.unusedSimpArgs false
set_option maxHeartbeats 4000000
namespace Go.Proofs.YthkpaoajfiapkaaGreat
open Go.RowKit Skiff Go.Proofs.YthkpaoajfiapkaaGreatW.PrintWords

def recOf (p : Plc) : Rec := ⟨p.f1.f0, p.f1.f1, p.f1.f2, p.f1.f3⟩
def goodAt (f : ByteArray) (p : Plc) : Bool := goodB f (recOf p)
def best (f : ByteArray) : Option Plc := (scanTo f 8).foldl (stepB (goodAt f)) none
def actTup (f : ByteArray) : Int × Int × Int × Int × Int × Int := if f.size = 768 then P.actOut (best f) else (0, 0, 0, 0, 0, 700)
theorem scan_may {f : ByteArray} (hf : f.size = 768) {p : Plc} {n : Nat} (h : p ∈ scanTo f n) : imageMay f (recOf p) = true := by
  obtain ⟨i, r, _, hs, rfl⟩ := scanTo_mem h
  unfold imageMay
  rw [decide_eq_true hf, Bool.true_and]
  exact slotAt_may hs
theorem ats_scan (f : ByteArray) : Ats (scanTo f 8) := fun p hp => by have := scanTo_at hp; omega
theorem best_gen (f : ByteArray) (l : List Plc) (ha : Ats l) (hb : Asc l) (o : Option Plc) (ho : l.foldl (stepB (goodAt f)) none = o) : Hp.Best pkey (goodAt f) l o := by
  have h := fold_best (goodAt f) l [] none
  rw [List.nil_append, ho] at h
  exact h ha hb (fun x hx => by cases hx)
theorem best_of (f : ByteArray) (l : List Plc) (o : Option Plc) (h1 : scanTo f 8 = l) (h2 : best f = o) : Hp.Best pkey (goodAt f) l o := by
  have ha := ats_scan f
  have hb := scanTo_asc f 8
  unfold best at h2
  rw [h1] at ha hb h2
  exact best_gen f l ha hb o h2
theorem foldM_good (f : ByteArray) (hf : f.size = 768) : ∀ (l : List Plc) (b : Option Plc), (∀ p ∈ l, imageMay f (recOf p) = true) →
    l.foldlM (fun (b : Option Plc) p => (P.image_Good.f f p.f1.f0 p.f1.f1 p.f1.f2 p.f1.f3).bind fun g => some (if g.1 && (b.all fun q => decide (q.f1.f0 ≤ p.f1.f0)) then some p else b)) b = some (l.foldl (stepB (goodAt f)) b)
  | [], b, _ => rfl
  | p :: l, b, h => by
    have hg := good_f f (recOf p)
    unfold goodPair at hg
    rw [h p (List.mem_cons_self ..), if_pos rfl] at hg
    rw [List.foldlM_cons, List.foldl_cons, show P.image_Good.f f p.f1.f0 p.f1.f1 p.f1.f2 p.f1.f3 = _ from hg]
    exact foldM_good f hf l _ (fun q hq => h q (List.mem_cons_of_mem _ hq))
theorem act_f (f : ByteArray) : P.choose_Active.f f = some (actTup f) := by
  unfold P.choose_Active.f actTup
  rw [scan_f f 300 (by omega)]
  by_cases hf : f.size = 768
  · rw [if_pos hf, if_pos hf]
    simp only [Option.bind_some, if_true]
    rw [foldM_good f hf (scanTo f 8) none (fun p hp => scan_may hf hp)]
    unfold best
    generalize (scanTo f 8).foldl (stepB (goodAt f)) none = b
    rfl
  · rw [if_neg hf, if_neg hf]; rfl
theorem ract_l0 (f : ByteArray) (hf : f.size = 768) (l : List Plc) (hl : l.length ≤ 8) (hm : ∀ p ∈ l, imageMay f (recOf p) = true) (d : Nat) : ∀ (k i : Nat) (bi : Int) (o : Option Plc), i + d = l.length → d < k →
    ((bi = -1 ∧ o = none) ∨ ∃ (j : Nat) (h : j < l.length), bi = j ∧ o = some l[j]) → P.skiffref1_Active.l0 k f l bi (i : Int) = some (P.actOut ((l.drop i).foldl (stepB (goodAt f)) o)) := by
  induction d with
  | zero =>
    intro k i bi o h1 h2 hR
    obtain ⟨k, rfl⟩ : ∃ m, k = m + 1 := ⟨k - 1, by omega⟩
    simp only [P.skiffref1_Active.l0]
    rw [if_neg (by omega), List.drop_of_length_le (by omega)]
    rcases hR with ⟨rfl, rfl⟩ | ⟨j, hj, rfl, rfl⟩
    · rw [if_pos (by omega)]; rfl
    · rw [if_neg (by omega), if_pos (by omega), if_pos (by omega), rd_at l j hj]; rfl
  | succ d ih =>
    intro k i bi o h1 h2 hR
    obtain ⟨k, rfl⟩ : ∃ m, k = m + 1 := ⟨k - 1, by omega⟩
    have hi : i < l.length := by omega
    have e2 : wrap64 ((i : Int) + 1) = ((i + 1 : Nat) : Int) := by simp only [wrap64]; omega
    have hg := rgood_f f (recOf l[i])
    unfold goodPair at hg
    rw [hm _ (List.getElem_mem hi), if_pos rfl] at hg
    simp only [P.skiffref1_Active.l0]
    rw [if_pos (by omega), if_pos (by omega), rd_at l i hi, show P.skiffref1_Good.f f l[i].f1.f0 l[i].f1.f1 l[i].f1.f2 l[i].f1.f3 = _ from hg, e2, List.drop_eq_getElem_cons hi, List.foldl_cons]
    simp only [Option.bind_some]
    have hgd : goodAt f l[i] = goodB f (recOf l[i]) := rfl
    cases hb : goodB f (recOf l[i]) with
    | false =>
      rw [if_neg (by decide), ih k (i + 1) bi o (by omega) (by omega) hR]
      congr 2
      unfold stepB
      rw [hgd, hb, Bool.false_and, if_neg (by decide)]
    | true =>
      rw [if_pos rfl]
      rcases hR with ⟨rfl, rfl⟩ | ⟨j, hj, rfl, rfl⟩
      · rw [if_pos (by omega), ih k (i + 1) (i : Int) (some l[i]) (by omega) (by omega) (.inr ⟨i, hi, rfl, rfl⟩)]
        congr 2
        unfold stepB
        rw [hgd, hb]; rfl
      · rw [if_neg (by omega), if_pos (by omega), if_pos (by omega), rd_at l j hj]
        by_cases hs : l[i].f1.f0 ≥ l[j].f1.f0
        · rw [if_pos hs, ih k (i + 1) (i : Int) (some l[i]) (by omega) (by omega) (.inr ⟨i, hi, rfl, rfl⟩)]
          congr 2
          unfold stepB
          rw [hgd, hb, Bool.true_and, Option.all_some, if_pos (decide_eq_true hs)]
        · rw [if_neg hs, ih k (i + 1) (j : Int) (some l[j]) (by omega) (by omega) (.inr ⟨j, hj, rfl, rfl⟩)]
          congr 2
          unfold stepB
          rw [hgd, hb, Bool.true_and, Option.all_some, if_neg (fun h => hs (of_decide_eq_true h))]
theorem ract_f (f : ByteArray) (k : Nat) (hk : 16 < k) : P.skiffref1_Active.f k f = some (actTup f) := by
  unfold P.skiffref1_Active.f actTup
  rw [rscan_f f k hk]
  by_cases hf : f.size = 768
  · rw [if_pos hf, if_pos hf]
    have hl := scanTo_len f 8
    simp only [Option.bind_some, if_true]
    have h := ract_l0 f hf (scanTo f 8) hl (fun p hp => scan_may hf hp) (scanTo f 8).length k 0 (-1) none (by omega) (by omega) (.inl ⟨rfl, rfl⟩)
    rw [List.drop_zero] at h
    unfold best
    exact h
  · rw [if_neg hf, if_neg hf]; rfl
/-- What is active has a record that may be, and its image has its sum. -/
theorem best_some {f : ByteArray} {p : Plc} (h : best f = some p) : ∃ i r, i < 8 ∧ slotAt f i = some r ∧ p = mkPl i r ∧ goodB f r = true ∧ recMay r = true := by
  have hb := best_of f _ _ rfl h
  obtain ⟨i, r, hi, hs, rfl⟩ := scanTo_mem hb.1
  exact ⟨i, r, hi, hs, rfl, hb.2.1, slotAt_may hs⟩
def othOf (b : Option Plc) : Int × Int := match b with | none => (0, 0) | some p => (1 - p.f1.f1, 0)
def otherPair (f : ByteArray) : Int × Int := if f.size = 768 then othOf (best f) else (0, 700)
theorem act_oth (b : Option Plc) (hb : ∀ p, b = some p → 0 ≤ p.f1.f1 ∧ p.f1.f1 ≤ 1) : ((P.actOut b).2.2.2.2.2 = 0 ∧ othOf b = (wrap64 (1 - (P.actOut b).2.2.1), 0)) ∨ ((P.actOut b).2.2.2.2.2 = 701 ∧ othOf b = (0, 0)) := by
  cases b with
  | none => exact .inr ⟨rfl, rfl⟩
  | some p =>
    have h := hb p rfl
    refine .inl ⟨rfl, ?_⟩
    show ((1 - p.f1.f1 : Int), (0 : Int)) = (wrap64 (1 - p.f1.f1), 0)
    congr 1
    simp only [wrap64]
    omega
theorem best_slot (f : ByteArray) (b : Option Plc) (hb : best f = b) : ∀ p, b = some p → 0 ≤ p.f1.f1 ∧ p.f1.f1 ≤ 1 := fun p hp => by
  subst hp
  obtain ⟨i, r, hi, hs, rfl, _, hm⟩ := best_some hb
  have hm := recMay_iff.1 hm
  show 0 ≤ r.slot ∧ r.slot ≤ 1
  omega
theorem other_f (f : ByteArray) : P.choose_Other.f f = some (otherPair f) := by
  unfold P.choose_Other.f
  rw [act_f f, Option.bind_some]
  unfold actTup otherPair
  by_cases hf : f.size = 768
  · simp only [if_pos hf]
    generalize hb : best f = b
    rcases act_oth b (best_slot f b hb) with ⟨h1, h2⟩ | ⟨h1, h2⟩
    · rw [if_neg (by rw [h1]; decide), if_pos h1, h2]
    · rw [if_neg (by rw [h1]; decide), if_neg (by rw [h1]; decide), h2]
  · simp only [if_neg hf]
    rfl
theorem rother_f (f : ByteArray) (k : Nat) (hk : 16 < k) : P.skiffref1_Other.f k f = some (otherPair f) := by
  unfold P.skiffref1_Other.f
  rw [ract_f f k hk, Option.bind_some]
  unfold actTup otherPair
  by_cases hf : f.size = 768
  · simp only [if_pos hf]
    generalize hb : best f = b
    rcases act_oth b (best_slot f b hb) with ⟨h1, h2⟩ | ⟨h1, h2⟩
    · rw [if_pos h1, h2]
    · rw [if_neg (by rw [h1]; decide), if_pos h1, h2]
  · simp only [if_neg hf]
    rfl

end Go.Proofs.YthkpaoajfiapkaaGreat
end
section
set_option linter.unusedVariables false
set_option linter.unusedSimpArgs false
set_option maxHeartbeats 4000000
namespace Skiff

/-- Two rows of bytes of one length, the same at each place. -/
theorem ext_getD {a b : List UInt8} (hl : a.length = b.length) (h : ∀ i, a.getD i 0 = b.getD i 0) : a = b := by
  apply List.ext_getElem hl
  intro i h1 h2
  have := h i
  rwa [List.getD_eq_getElem?_getD, List.getD_eq_getElem?_getD, List.getElem?_eq_getElem h1, List.getElem?_eq_getElem h2] at this

end Skiff
end
section
namespace Go.Proofs.YthkpaoajfiapkaaGreat.P
open Go.RowKit Go.Proofs.YthkpaoajfiapkaaGreatW.PrintWords Go.Proofs.YthkpaoajfiapkaaGreatW.PrintLast Go.Proofs.YthkpaoajfiapkaaGreatW.PrintMore
attribute [local go_sem] max2_int min2_int max_two min_two max_three min_three max_four min_four   -- for this text's walks alone
set_option linter.unusedVariables false
set_option linter.unusedSimpArgs false

/-! ### skifflaw0_SameDevice: function 10 -/
def skifflaw0_SameDevice.f (k : Nat) (a0_0 : Int) (a0_1 : Int) (a0_2 : Int) (a0_3 : Int) (a0_4 : Int) (l0_5 : List (S41)) (a1_0 : Int) (a1_1 : Int) (a1_2 : Int) (a1_3 : Int) (a1_4 : Int) (l1_5 : List (S41)) : Option (Bool) := if a0_0 = a1_0 then (if a0_1 = a1_1 then (if a0_2 = a1_2 then (if a0_3 = a1_3 then (if a0_4 = a1_4 then ((skifflaw0_SameOps.f k l0_5 l1_5).bind fun t359 => (some t359)) else (some false)) else (some false)) else (some false)) else (some false)) else (some false)
set_option maxHeartbeats 8000000 in
set_option maxRecDepth 100000 in
theorem skifflaw0_SameDevice.calls (k : Nat) (a0_0 : Int) (a0_1 : Int) (a0_2 : Int) (a0_3 : Int) (a0_4 : Int) (A0_5 : Option Addr) (c0_5 : Nat) (l0_5 : List (S41)) (a1_0 : Int) (a1_1 : Int) (a1_2 : Int) (a1_3 : Int) (a1_4 : Int) (A1_5 : Option Addr) (c1_5 : Nat) (l1_5 : List (S41)) (r : Bool) (w : World) (hr0_5 : Kd.C k41 w A0_5 l0_5.length l0_5) (hc0_5 : l0_5.length ≤ c0_5) (hr1_5 : Kd.C k41 w A1_5 l1_5.length l1_5) (hc1_5 : l1_5.length ≤ c1_5) (h : skifflaw0_SameDevice.f k a0_0 a0_1 a0_2 a0_3 a0_4 l0_5 a1_0 a1_1 a1_2 a1_3 a1_4 l1_5 = some r) :
  Calls Tryz.prog 10 #[.agg #[.int .i64 a0_0, .int .i64 a0_1, .int .i64 a0_2, .int .i64 a0_3, .int .i64 a0_4, .slice A0_5 l0_5.length c0_5], .agg #[.int .i64 a1_0, .int .i64 a1_1, .int .i64 a1_2, .int .i64 a1_3, .int .i64 a1_4, .slice A1_5 l1_5.length c1_5]] w fun e w' => e = .returned (.bool r) ∧ Below w.heap.size w w' := by
 have hu24 := Tryz.underlying24
 have HR0_5 := Aside0.mk hr0_5
 have HC0_5 := Aside0.mk hc0_5
 clear hr0_5 hc0_5
 have HR1_5 := Aside0.mk hr1_5
 have HC1_5 := Aside0.mk hc1_5
 clear hr1_5 hc1_5
 have HB := Aside0.mk (Below.refl w.heap.size w)
 have H : (if a0_0 = a1_0 then (if a0_1 = a1_1 then (if a0_2 = a1_2 then (if a0_3 = a1_3 then (if a0_4 = a1_4 then ((skifflaw0_SameOps.f k l0_5 l1_5).bind fun t359 => (some t359)) else (some false)) else (some false)) else (some false)) else (some false)) else (some false)) = some r := h
 clear h
 by_cases c3 : a0_0 = a1_0
 case neg =>
  rw [if_neg c3] at H
  have c3b0 : (a0_0 == a1_0) = false := beq_eq_false_iff_ne.mpr c3
  have c3b1 : (a0_0 != a1_0) = true := bne_iff_ne.mpr c3
  obtain rfl := Option.some.inj H
  go_enter Tryz.func10, Tryz.ntmps10
  go_wp2_with (first | ((with_reducible refine gate_dst (N := 2) rfl ?_); refine box_event ?hg (N := 2) ?hd (cs := #[.int .i64 a0_0, .int .i64 a0_1, .int .i64 a0_2, .int .i64 a0_3, .int .i64 a0_4, .slice A0_5 l0_5.length c0_5]) (t := 24) ?hr ?_; (case hd => rfl); (case hg => rfl); (case hr => first | (go_simp; done) | (go_simp; rfl)); intro gb357 hg w34 hbox hb; have n0_ := Aside0.mk (below_step (kb HB.out) hb); have n1_ := Aside0.mk (hbox); have n2_ := Aside0.mk ((kz hg (below_size (kb HB.out)) : w.heap.size ≤ gb357)); have n3_ := Aside0.mk ((kz hg (below_size (kb HB.out)) : w.heap.size ≤ gb357)); clear HB; have HB := n0_; have BK357 := n1_; have GW357 := n2_; have GE357 := n3_; clear n0_ n1_ n2_ n3_; clear hb hbox hg) | ((with_reducible refine gate_dst (N := 3) rfl ?_); refine box_event ?hg (N := 3) ?hd (cs := #[.int .i64 a1_0, .int .i64 a1_1, .int .i64 a1_2, .int .i64 a1_3, .int .i64 a1_4, .slice A1_5 l1_5.length c1_5]) (t := 24) ?hr ?_; (case hd => rfl); (case hg => rfl); (case hr => first | (go_simp; done) | (go_simp; rfl)); intro gb358 hg w35 hbox hb; have n0_ := Aside0.mk (kL BK357.out hb); have n1_ := Aside0.mk (below_step (kb1 HB.out GE357.out) hb); have n2_ := Aside0.mk (hbox); have n3_ := Aside0.mk ((kz hg (below_size (kb1 HB.out GE357.out)) : w.heap.size ≤ gb358)); have n4_ := Aside0.mk ((kz hg (below_size (kb1 HB.out GE357.out)) : w.heap.size ≤ gb358)); have n5_ := Aside0.mk ((kN hg BK357.out : gb357 ≠ gb358)); have n6_ := Aside0.mk (((kN hg BK357.out).symm : gb358 ≠ gb357)); clear BK357; clear HB; have BK357 := n0_; have HB := n1_; have BK358 := n2_; have GW358 := n3_; have GE358 := n4_; have NB357_358 := n5_; have NB358_357 := n6_; clear n0_ n1_ n2_ n3_ n4_ n5_ n6_; clear hb hbox hg; have hnb36 := NB357_358.out; have hnc36 := NB358_357.out; obtain ⟨hcz37_0, hcz37_1, hcz37_2, hcz37_3, hcz37_4, hcz37_5⟩ := kc6 BK357.out; obtain ⟨hfz37_0, hfz37_1, hfz37_2, hfz37_3, hfz37_4, hfz37_5⟩ := kf6 BK357.out; obtain ⟨hcz38_0, hcz38_1, hcz38_2, hcz38_3, hcz38_4, hcz38_5⟩ := kc6 BK358.out; obtain ⟨hfz38_0, hfz38_1, hfz38_2, hfz38_3, hfz38_4, hfz38_5⟩ := kf6 BK358.out))
  go_ret
  exact ⟨by first | rfl | (simp [errW_none, errW_some] <;> rfl) | (simp [*, errW_none, errW_some] <;> rfl), kb2 HB.out GE357.out GE358.out⟩
 rw [if_pos c3] at H
 have c3b0 : (a0_0 == a1_0) = true := beq_iff_eq.mpr c3
 have c3b1 : (a0_0 != a1_0) = false := bne_eq_false_iff_eq.mpr c3
 clear c3
 by_cases c4 : a0_1 = a1_1
 case neg =>
  rw [if_neg c4] at H
  have c4b0 : (a0_1 == a1_1) = false := beq_eq_false_iff_ne.mpr c4
  have c4b1 : (a0_1 != a1_1) = true := bne_iff_ne.mpr c4
  obtain rfl := Option.some.inj H
  go_enter Tryz.func10, Tryz.ntmps10
  go_wp2_with (first | ((with_reducible refine gate_dst (N := 2) rfl ?_); refine box_event ?hg (N := 2) ?hd (cs := #[.int .i64 a0_0, .int .i64 a0_1, .int .i64 a0_2, .int .i64 a0_3, .int .i64 a0_4, .slice A0_5 l0_5.length c0_5]) (t := 24) ?hr ?_; (case hd => rfl); (case hg => rfl); (case hr => first | (go_simp; done) | (go_simp; rfl)); intro gb357 hg w29 hbox hb; have n0_ := Aside0.mk (below_step (kb HB.out) hb); have n1_ := Aside0.mk (hbox); have n2_ := Aside0.mk ((kz hg (below_size (kb HB.out)) : w.heap.size ≤ gb357)); have n3_ := Aside0.mk ((kz hg (below_size (kb HB.out)) : w.heap.size ≤ gb357)); clear HB; have HB := n0_; have BK357 := n1_; have GW357 := n2_; have GE357 := n3_; clear n0_ n1_ n2_ n3_; clear hb hbox hg) | ((with_reducible refine gate_dst (N := 3) rfl ?_); refine box_event ?hg (N := 3) ?hd (cs := #[.int .i64 a1_0, .int .i64 a1_1, .int .i64 a1_2, .int .i64 a1_3, .int .i64 a1_4, .slice A1_5 l1_5.length c1_5]) (t := 24) ?hr ?_; (case hd => rfl); (case hg => rfl); (case hr => first | (go_simp; done) | (go_simp; rfl)); intro gb358 hg w30 hbox hb; have n0_ := Aside0.mk (kL BK357.out hb); have n1_ := Aside0.mk (below_step (kb1 HB.out GE357.out) hb); have n2_ := Aside0.mk (hbox); have n3_ := Aside0.mk ((kz hg (below_size (kb1 HB.out GE357.out)) : w.heap.size ≤ gb358)); have n4_ := Aside0.mk ((kz hg (below_size (kb1 HB.out GE357.out)) : w.heap.size ≤ gb358)); have n5_ := Aside0.mk ((kN hg BK357.out : gb357 ≠ gb358)); have n6_ := Aside0.mk (((kN hg BK357.out).symm : gb358 ≠ gb357)); clear BK357; clear HB; have BK357 := n0_; have HB := n1_; have BK358 := n2_; have GW358 := n3_; have GE358 := n4_; have NB357_358 := n5_; have NB358_357 := n6_; clear n0_ n1_ n2_ n3_ n4_ n5_ n6_; clear hb hbox hg; have hnb31 := NB357_358.out; have hnc31 := NB358_357.out; obtain ⟨hcz32_0, hcz32_1, hcz32_2, hcz32_3, hcz32_4, hcz32_5⟩ := kc6 BK357.out; obtain ⟨hfz32_0, hfz32_1, hfz32_2, hfz32_3, hfz32_4, hfz32_5⟩ := kf6 BK357.out; obtain ⟨hcz33_0, hcz33_1, hcz33_2, hcz33_3, hcz33_4, hcz33_5⟩ := kc6 BK358.out; obtain ⟨hfz33_0, hfz33_1, hfz33_2, hfz33_3, hfz33_4, hfz33_5⟩ := kf6 BK358.out))
  go_ret
  exact ⟨by first | rfl | (simp [errW_none, errW_some] <;> rfl) | (simp [*, errW_none, errW_some] <;> rfl), kb2 HB.out GE357.out GE358.out⟩
 rw [if_pos c4] at H
 have c4b0 : (a0_1 == a1_1) = true := beq_iff_eq.mpr c4
 have c4b1 : (a0_1 != a1_1) = false := bne_eq_false_iff_eq.mpr c4
 clear c4
 by_cases c5 : a0_2 = a1_2
 case neg =>
  rw [if_neg c5] at H
  have c5b0 : (a0_2 == a1_2) = false := beq_eq_false_iff_ne.mpr c5
  have c5b1 : (a0_2 != a1_2) = true := bne_iff_ne.mpr c5
  obtain rfl := Option.some.inj H
  go_enter Tryz.func10, Tryz.ntmps10
  go_wp2_with (first | ((with_reducible refine gate_dst (N := 2) rfl ?_); refine box_event ?hg (N := 2) ?hd (cs := #[.int .i64 a0_0, .int .i64 a0_1, .int .i64 a0_2, .int .i64 a0_3, .int .i64 a0_4, .slice A0_5 l0_5.length c0_5]) (t := 24) ?hr ?_; (case hd => rfl); (case hg => rfl); (case hr => first | (go_simp; done) | (go_simp; rfl)); intro gb357 hg w24 hbox hb; have n0_ := Aside0.mk (below_step (kb HB.out) hb); have n1_ := Aside0.mk (hbox); have n2_ := Aside0.mk ((kz hg (below_size (kb HB.out)) : w.heap.size ≤ gb357)); have n3_ := Aside0.mk ((kz hg (below_size (kb HB.out)) : w.heap.size ≤ gb357)); clear HB; have HB := n0_; have BK357 := n1_; have GW357 := n2_; have GE357 := n3_; clear n0_ n1_ n2_ n3_; clear hb hbox hg) | ((with_reducible refine gate_dst (N := 3) rfl ?_); refine box_event ?hg (N := 3) ?hd (cs := #[.int .i64 a1_0, .int .i64 a1_1, .int .i64 a1_2, .int .i64 a1_3, .int .i64 a1_4, .slice A1_5 l1_5.length c1_5]) (t := 24) ?hr ?_; (case hd => rfl); (case hg => rfl); (case hr => first | (go_simp; done) | (go_simp; rfl)); intro gb358 hg w25 hbox hb; have n0_ := Aside0.mk (kL BK357.out hb); have n1_ := Aside0.mk (below_step (kb1 HB.out GE357.out) hb); have n2_ := Aside0.mk (hbox); have n3_ := Aside0.mk ((kz hg (below_size (kb1 HB.out GE357.out)) : w.heap.size ≤ gb358)); have n4_ := Aside0.mk ((kz hg (below_size (kb1 HB.out GE357.out)) : w.heap.size ≤ gb358)); have n5_ := Aside0.mk ((kN hg BK357.out : gb357 ≠ gb358)); have n6_ := Aside0.mk (((kN hg BK357.out).symm : gb358 ≠ gb357)); clear BK357; clear HB; have BK357 := n0_; have HB := n1_; have BK358 := n2_; have GW358 := n3_; have GE358 := n4_; have NB357_358 := n5_; have NB358_357 := n6_; clear n0_ n1_ n2_ n3_ n4_ n5_ n6_; clear hb hbox hg; have hnb26 := NB357_358.out; have hnc26 := NB358_357.out; obtain ⟨hcz27_0, hcz27_1, hcz27_2, hcz27_3, hcz27_4, hcz27_5⟩ := kc6 BK357.out; obtain ⟨hfz27_0, hfz27_1, hfz27_2, hfz27_3, hfz27_4, hfz27_5⟩ := kf6 BK357.out; obtain ⟨hcz28_0, hcz28_1, hcz28_2, hcz28_3, hcz28_4, hcz28_5⟩ := kc6 BK358.out; obtain ⟨hfz28_0, hfz28_1, hfz28_2, hfz28_3, hfz28_4, hfz28_5⟩ := kf6 BK358.out))
  go_ret
  exact ⟨by first | rfl | (simp [errW_none, errW_some] <;> rfl) | (simp [*, errW_none, errW_some] <;> rfl), kb2 HB.out GE357.out GE358.out⟩
 rw [if_pos c5] at H
 have c5b0 : (a0_2 == a1_2) = true := beq_iff_eq.mpr c5
 have c5b1 : (a0_2 != a1_2) = false := bne_eq_false_iff_eq.mpr c5
 clear c5
 by_cases c6 : a0_3 = a1_3
 case neg =>
  rw [if_neg c6] at H
  have c6b0 : (a0_3 == a1_3) = false := beq_eq_false_iff_ne.mpr c6
  have c6b1 : (a0_3 != a1_3) = true := bne_iff_ne.mpr c6
  obtain rfl := Option.some.inj H
  go_enter Tryz.func10, Tryz.ntmps10
  go_wp2_with (first | ((with_reducible refine gate_dst (N := 2) rfl ?_); refine box_event ?hg (N := 2) ?hd (cs := #[.int .i64 a0_0, .int .i64 a0_1, .int .i64 a0_2, .int .i64 a0_3, .int .i64 a0_4, .slice A0_5 l0_5.length c0_5]) (t := 24) ?hr ?_; (case hd => rfl); (case hg => rfl); (case hr => first | (go_simp; done) | (go_simp; rfl)); intro gb357 hg w19 hbox hb; have n0_ := Aside0.mk (below_step (kb HB.out) hb); have n1_ := Aside0.mk (hbox); have n2_ := Aside0.mk ((kz hg (below_size (kb HB.out)) : w.heap.size ≤ gb357)); have n3_ := Aside0.mk ((kz hg (below_size (kb HB.out)) : w.heap.size ≤ gb357)); clear HB; have HB := n0_; have BK357 := n1_; have GW357 := n2_; have GE357 := n3_; clear n0_ n1_ n2_ n3_; clear hb hbox hg) | ((with_reducible refine gate_dst (N := 3) rfl ?_); refine box_event ?hg (N := 3) ?hd (cs := #[.int .i64 a1_0, .int .i64 a1_1, .int .i64 a1_2, .int .i64 a1_3, .int .i64 a1_4, .slice A1_5 l1_5.length c1_5]) (t := 24) ?hr ?_; (case hd => rfl); (case hg => rfl); (case hr => first | (go_simp; done) | (go_simp; rfl)); intro gb358 hg w20 hbox hb; have n0_ := Aside0.mk (kL BK357.out hb); have n1_ := Aside0.mk (below_step (kb1 HB.out GE357.out) hb); have n2_ := Aside0.mk (hbox); have n3_ := Aside0.mk ((kz hg (below_size (kb1 HB.out GE357.out)) : w.heap.size ≤ gb358)); have n4_ := Aside0.mk ((kz hg (below_size (kb1 HB.out GE357.out)) : w.heap.size ≤ gb358)); have n5_ := Aside0.mk ((kN hg BK357.out : gb357 ≠ gb358)); have n6_ := Aside0.mk (((kN hg BK357.out).symm : gb358 ≠ gb357)); clear BK357; clear HB; have BK357 := n0_; have HB := n1_; have BK358 := n2_; have GW358 := n3_; have GE358 := n4_; have NB357_358 := n5_; have NB358_357 := n6_; clear n0_ n1_ n2_ n3_ n4_ n5_ n6_; clear hb hbox hg; have hnb21 := NB357_358.out; have hnc21 := NB358_357.out; obtain ⟨hcz22_0, hcz22_1, hcz22_2, hcz22_3, hcz22_4, hcz22_5⟩ := kc6 BK357.out; obtain ⟨hfz22_0, hfz22_1, hfz22_2, hfz22_3, hfz22_4, hfz22_5⟩ := kf6 BK357.out; obtain ⟨hcz23_0, hcz23_1, hcz23_2, hcz23_3, hcz23_4, hcz23_5⟩ := kc6 BK358.out; obtain ⟨hfz23_0, hfz23_1, hfz23_2, hfz23_3, hfz23_4, hfz23_5⟩ := kf6 BK358.out))
  go_ret
  exact ⟨by first | rfl | (simp [errW_none, errW_some] <;> rfl) | (simp [*, errW_none, errW_some] <;> rfl), kb2 HB.out GE357.out GE358.out⟩
 rw [if_pos c6] at H
 have c6b0 : (a0_3 == a1_3) = true := beq_iff_eq.mpr c6
 have c6b1 : (a0_3 != a1_3) = false := bne_eq_false_iff_eq.mpr c6
 clear c6
 by_cases c7 : a0_4 = a1_4
 case neg =>
  rw [if_neg c7] at H
  have c7b0 : (a0_4 == a1_4) = false := beq_eq_false_iff_ne.mpr c7
  have c7b1 : (a0_4 != a1_4) = true := bne_iff_ne.mpr c7
  obtain rfl := Option.some.inj H
  go_enter Tryz.func10, Tryz.ntmps10
  go_wp2_with (first | ((with_reducible refine gate_dst (N := 2) rfl ?_); refine box_event ?hg (N := 2) ?hd (cs := #[.int .i64 a0_0, .int .i64 a0_1, .int .i64 a0_2, .int .i64 a0_3, .int .i64 a0_4, .slice A0_5 l0_5.length c0_5]) (t := 24) ?hr ?_; (case hd => rfl); (case hg => rfl); (case hr => first | (go_simp; done) | (go_simp; rfl)); intro gb357 hg w14 hbox hb; have n0_ := Aside0.mk (below_step (kb HB.out) hb); have n1_ := Aside0.mk (hbox); have n2_ := Aside0.mk ((kz hg (below_size (kb HB.out)) : w.heap.size ≤ gb357)); have n3_ := Aside0.mk ((kz hg (below_size (kb HB.out)) : w.heap.size ≤ gb357)); clear HB; have HB := n0_; have BK357 := n1_; have GW357 := n2_; have GE357 := n3_; clear n0_ n1_ n2_ n3_; clear hb hbox hg) | ((with_reducible refine gate_dst (N := 3) rfl ?_); refine box_event ?hg (N := 3) ?hd (cs := #[.int .i64 a1_0, .int .i64 a1_1, .int .i64 a1_2, .int .i64 a1_3, .int .i64 a1_4, .slice A1_5 l1_5.length c1_5]) (t := 24) ?hr ?_; (case hd => rfl); (case hg => rfl); (case hr => first | (go_simp; done) | (go_simp; rfl)); intro gb358 hg w15 hbox hb; have n0_ := Aside0.mk (kL BK357.out hb); have n1_ := Aside0.mk (below_step (kb1 HB.out GE357.out) hb); have n2_ := Aside0.mk (hbox); have n3_ := Aside0.mk ((kz hg (below_size (kb1 HB.out GE357.out)) : w.heap.size ≤ gb358)); have n4_ := Aside0.mk ((kz hg (below_size (kb1 HB.out GE357.out)) : w.heap.size ≤ gb358)); have n5_ := Aside0.mk ((kN hg BK357.out : gb357 ≠ gb358)); have n6_ := Aside0.mk (((kN hg BK357.out).symm : gb358 ≠ gb357)); clear BK357; clear HB; have BK357 := n0_; have HB := n1_; have BK358 := n2_; have GW358 := n3_; have GE358 := n4_; have NB357_358 := n5_; have NB358_357 := n6_; clear n0_ n1_ n2_ n3_ n4_ n5_ n6_; clear hb hbox hg; have hnb16 := NB357_358.out; have hnc16 := NB358_357.out; obtain ⟨hcz17_0, hcz17_1, hcz17_2, hcz17_3, hcz17_4, hcz17_5⟩ := kc6 BK357.out; obtain ⟨hfz17_0, hfz17_1, hfz17_2, hfz17_3, hfz17_4, hfz17_5⟩ := kf6 BK357.out; obtain ⟨hcz18_0, hcz18_1, hcz18_2, hcz18_3, hcz18_4, hcz18_5⟩ := kc6 BK358.out; obtain ⟨hfz18_0, hfz18_1, hfz18_2, hfz18_3, hfz18_4, hfz18_5⟩ := kf6 BK358.out))
  go_ret
  exact ⟨by first | rfl | (simp [errW_none, errW_some] <;> rfl) | (simp [*, errW_none, errW_some] <;> rfl), kb2 HB.out GE357.out GE358.out⟩
 rw [if_pos c7] at H
 have c7b0 : (a0_4 == a1_4) = true := beq_iff_eq.mpr c7
 have c7b1 : (a0_4 != a1_4) = false := bne_eq_false_iff_eq.mpr c7
 clear c7
 replace H := Option.bind_eq_some_iff.mp H
 obtain ⟨t359, A80, H⟩ := H
 replace H : (some t359) = some r := H
 have A8 := Aside0.mk A80
 clear A80
 obtain rfl := Option.some.inj H
 go_enter Tryz.func10, Tryz.ntmps10
 go_wp2_with (first | ((with_reducible refine gate_dst (N := 2) rfl ?_); refine box_event ?hg (N := 2) ?hd (cs := #[.int .i64 a0_0, .int .i64 a0_1, .int .i64 a0_2, .int .i64 a0_3, .int .i64 a0_4, .slice A0_5 l0_5.length c0_5]) (t := 24) ?hr ?_; (case hd => rfl); (case hg => rfl); (case hr => first | (go_simp; done) | (go_simp; rfl)); intro gb357 hg w9 hbox hb; have n0_ := Aside0.mk (below_step (kb HB.out) hb); have n1_ := Aside0.mk (hbox); have n2_ := Aside0.mk ((kz hg (below_size (kb HB.out)) : w.heap.size ≤ gb357)); have n3_ := Aside0.mk ((kz hg (below_size (kb HB.out)) : w.heap.size ≤ gb357)); clear HB; have HB := n0_; have BK357 := n1_; have GW357 := n2_; have GE357 := n3_; clear n0_ n1_ n2_ n3_; clear hb hbox hg) | ((with_reducible refine gate_dst (N := 3) rfl ?_); refine box_event ?hg (N := 3) ?hd (cs := #[.int .i64 a1_0, .int .i64 a1_1, .int .i64 a1_2, .int .i64 a1_3, .int .i64 a1_4, .slice A1_5 l1_5.length c1_5]) (t := 24) ?hr ?_; (case hd => rfl); (case hg => rfl); (case hr => first | (go_simp; done) | (go_simp; rfl)); intro gb358 hg w10 hbox hb; have n0_ := Aside0.mk (kL BK357.out hb); have n1_ := Aside0.mk (below_step (kb1 HB.out GE357.out) hb); have n2_ := Aside0.mk (hbox); have n3_ := Aside0.mk ((kz hg (below_size (kb1 HB.out GE357.out)) : w.heap.size ≤ gb358)); have n4_ := Aside0.mk ((kz hg (below_size (kb1 HB.out GE357.out)) : w.heap.size ≤ gb358)); have n5_ := Aside0.mk ((kN hg BK357.out : gb357 ≠ gb358)); have n6_ := Aside0.mk (((kN hg BK357.out).symm : gb358 ≠ gb357)); clear BK357; clear HB; have BK357 := n0_; have HB := n1_; have BK358 := n2_; have GW358 := n3_; have GE358 := n4_; have NB357_358 := n5_; have NB358_357 := n6_; clear n0_ n1_ n2_ n3_ n4_ n5_ n6_; clear hb hbox hg; have hnb11 := NB357_358.out; have hnc11 := NB358_357.out; obtain ⟨hcz12_0, hcz12_1, hcz12_2, hcz12_3, hcz12_4, hcz12_5⟩ := kc6 BK357.out; obtain ⟨hfz12_0, hfz12_1, hfz12_2, hfz12_3, hfz12_4, hfz12_5⟩ := kf6 BK357.out; obtain ⟨hcz13_0, hcz13_1, hcz13_2, hcz13_3, hcz13_4, hcz13_5⟩ := kc6 BK358.out; obtain ⟨hfz13_0, hfz13_1, hfz13_2, hfz13_3, hfz13_4, hfz13_5⟩ := kf6 BK358.out) | (go_at_call 31; (with_reducible refine (skifflaw0_SameOps.calls k _ _ l0_5 _ _ l1_5 t359 _ ?side1 ?side2 ?side3 ?side4 A8.out).mono ?_); (case side1 => exact kC (Kd.C_below HR0_5.out HB.out)); (case side2 => exact HC0_5.out); (case side3 => exact kC (Kd.C_below HR1_5.out HB.out)); (case side4 => exact HC1_5.out); rintro e w' ⟨rfl, ⟨nd, rfl⟩⟩))
 go_ret
 exact ⟨by first | rfl | (simp [errW_none, errW_some] <;> rfl) | (simp [*, errW_none, errW_some] <;> rfl), kb2 HB.out GE357.out GE358.out⟩

/-! ### skifflaw0_Num: function 11 -/
def skifflaw0_Num.f (a0 : Int) : Option (Int) := some a0
set_option maxHeartbeats 8000000 in
set_option maxRecDepth 100000 in
theorem skifflaw0_Num.calls (a0 : Int) (r : Int) (w : World) (h : skifflaw0_Num.f a0 = some r) :
  Calls Tryz.prog 11 #[.int .i64 a0] w fun e w' => e = .returned (.int .i64 r) ∧ Drawn0 w w' := by
 have H : (some a0) = some r := h
 clear h
 obtain rfl := Option.some.inj H
 go_enter Tryz.func11, Tryz.ntmps11
 go_wp2
 go_ret
 exact ⟨by first | rfl | (simp; done) | (simp [*]; done), by repeat (first | exact Drawn0.refl _ | apply Drawn0.step)⟩

/-! ### skifflaw0_SpoilOps: function 32 -/
def skifflaw0_SpoilOps.l0 : Nat → List (S41) → Int → Option ((List (S41)))
 | 0, _, _ => none
 | k + 1, x0, x2 => if x2 < (x0.length : Int) then (if 0 ≤ x2 then (skifflaw0_SpoilOps.l0 k (x0.set (x2 : Int).toNat (⟨(rd_T41 x0 x2).f0, Go.bits .xor .i64 ((rd_T41 x0 x2).f1) 90, (rd_T41 x0 x2).f2⟩ : S41)) (wrap64 (x2 + 1))) else (none)) else (some x0)
def skifflaw0_SpoilOps.f (k : Nat) (l0 : List (S41)) : Option ((List (S41))) := skifflaw0_SpoilOps.l0 k l0 0
set_option maxHeartbeats 8000000 in
set_option maxRecDepth 100000 in
theorem skifflaw0_SpoilOps.calls (k : Nat) (P0_ : Nat → Prop) (u9000_ : Value) (l0 : List (S41)) (r : List (S41)) (w0 w : World) (hB : Below w0.heap.size w0 w) (ho0 : Kd.R k41 41 w w0.heap.size P0_ u9000_ l0) (h : skifflaw0_SpoilOps.f k l0 = some r) :
  Calls Tryz.prog 32 #[u9000_] w fun e w' => e = .returned (.tuple #[]) ∧ Kd.R k41 41 w' w0.heap.size (fun k_ => (P0_ k_ ∨ w.heap.size ≤ k_)) u9000_ r ∧ Below w0.heap.size w0 w' ∧ Kept w w' (fun k_ => P0_ k_) := by
 have HO0 := Aside0.mk (show Kd.R k41 41 w w0.heap.size (fun k_ => (P0_ k_ ∨ w.heap.size ≤ k_)) u9000_ l0 from Kd.R_mono ho0 (fun k_ hk => (.inl hk)))
 have HK := Aside0.mk (Kept.refl w (fun k_ => P0_ k_))
 have HW0 := Aside0.mk hB.size
 have HB := Aside0.mk hB
 clear hB
 have H : (skifflaw0_SpoilOps.l0 k l0 0) = some r := h
 clear h
 have H' := Aside0.mk H
 clear H
 go_enter Tryz.func32, Tryz.ntmps32
 go_wp2
 go_loopg [2] k (fun kq v2 w' => ∃ (x0_1 : List (S41)) (x2_1 : Int), v2 = .int .i64 x2_1 ∧ Aside0 (skifflaw0_SpoilOps.l0 kq x0_1 x2_1 = some r) ∧ Aside0 (kq ≤ k) ∧ Aside0 (Kd.R k41 41 w' w0.heap.size (fun k_ => (P0_ k_ ∨ w.heap.size ≤ k_)) u9000_ x0_1) ∧ Aside0 (Kept w w' (fun k_ => P0_ k_)) ∧ Aside0 (Below w0.heap.size w0 w'))
 case atStart => exact ⟨(l0), (0), (by first | rfl | (simp; done) | (simp [*]; done)), H', ⟨Nat.le_refl _⟩, ⟨kR HO0.out⟩, ⟨kk HK.out⟩, ⟨kb HB.out⟩⟩
 case round =>
  clear H'
  obtain ⟨x0_1, x2_1, rfl, HA, HK1, HO_0, HK, HB⟩ := hrel
  cases gk with
  | zero => exact absurd HA.out (by simp [skifflaw0_SpoilOps.l0])
  | succ k1 =>
   have H := HA.out
   clear HA
   simp only [skifflaw0_SpoilOps.l0] at H
   by_cases c2 : x2_1 < (x0_1.length : Int)
   case neg =>
    rw [if_neg c2] at H
    have c2b0 : decide (x2_1 < (x0_1.length : Int)) = false := decide_eq_false c2
    clear c2
    obtain rfl := Option.some.inj H
    obtain ⟨Ao8, co8, eo8⟩ := Kd.R_slice HO_0.out
    subst eo8
    go_wp2
    first | go_end0 | ((try simp only [Exit.inBlock, Exit.then]); refine bodyPost_ret (results_none rfl _ _ _) rfl ?_)
    exact ⟨by first | rfl | (simp [errW_none, errW_some] <;> rfl) | (simp [*, errW_none, errW_some] <;> rfl), kR HO_0.out, kb HB.out, kk HK.out⟩
   rw [if_pos c2] at H
   have c2b0 : decide (x2_1 < (x0_1.length : Int)) = true := decide_eq_true c2
   clear c2
   by_cases c3 : 0 ≤ x2_1
   case neg =>
    rw [if_neg c3] at H
    exact absurd H (by simp)
   rw [if_pos c3] at H
   have c3b0 : decide (0 ≤ x2_1) = true := decide_eq_true c3
   clear c3
   obtain ⟨y361, hy361⟩ : ∃ y_ : List (S41), y_ = (x0_1.set (x2_1 : Int).toNat (⟨(rd_T41 x0_1 x2_1).f0, Go.bits .xor .i64 ((rd_T41 x0_1 x2_1).f1) 90, (rd_T41 x0_1 x2_1).f2⟩ : S41)) := ⟨_, rfl⟩
   replace H : (skifflaw0_SpoilOps.l0 k1 y361 (wrap64 (x2_1 + 1))) = some r := by first | (rw [hy361]; with_reducible exact H) | (have H2_ := (Option.bind_some _ _).symm.trans H; rw [hy361]; with_reducible exact H2_) | (have H2_ := (Option.bind_some _ _).symm.trans H; with_reducible exact H2_) | with_reducible exact H | (rw [hy361]; exact H) | exact H
   have Ny361 := Aside0.mk hy361
   clear hy361
   have H' := Aside0.mk H
   clear H
   obtain ⟨Ao5, co5, eo5⟩ := Kd.R_slice HO_0.out
   subst eo5
   have p360 : 0 ≤ (x2_1 : Int) := of_decide_eq_true (by first | (with_reducible assumption) | assumption)
   have q360 : x2_1 < (x0_1.length : Int) := of_decide_eq_true (by first | (with_reducible assumption) | assumption)
   obtain ⟨ad360, e360, hx360_0, hx360_1, hx360_2⟩ := at_T41 (Kd.R_reads' HO_0.out).2.2 x2_1 p360 q360
   cases e360
   replace p360 := eq_true p360
   replace q360 := eq_true q360
   have p4 : 0 ≤ (x2_1 : Int) := of_decide_eq_true (by first | (with_reducible assumption) | assumption)
   have q4 : (x2_1 : Int) < ((x0_1.length : Int) : Int) := of_decide_eq_true (by first | (with_reducible assumption) | assumption)
   obtain ⟨go4, co4, eo4, gb4, gl4, cl4, HG4⟩ := Kd.R_form HO_0.out (by omega)
   (first | cases eo4 | (injection eo4 with ea_ en_ ec_; (first | subst ea_ | (injection ea_ with ea_; subst ea_)); subst ec_; clear en_))
   have GB4 := Aside0.mk gb4
   have GG4 := Aside0.mk HG4
   clear gb4 gl4 HG4
   have HMgo4 := Aside0.mk (show (P0_ go4 ∨ w.heap.size ≤ go4) from (HO_0.out.1 _ rfl))
   (first | simp only [add_plain] at hx360_0 | skip)
   (first | simp only [add_plain] at hx360_1 | skip)
   (first | simp only [add_plain] at hx360_2 | skip)
   obtain ⟨ce4, hcl4, hM4, hcc4, hfr4⟩ := Kd.R_elem HO_0.out z41 (x2_1 : Int) p4 q4
   obtain rfl := k41_openM hM4
   have hx4_0 : wr.cell? ⟨go4, (x2_1 : Int).toNat * 3, none⟩ = some (.bool ((rd_T41 x0_1 x2_1).f0)) := hcc4 0 _ rfl
   have hx4_1 : wr.cell? ⟨go4, (x2_1 : Int).toNat * 3 + 1, none⟩ = some (.int .i64 ((rd_T41 x0_1 x2_1).f1)) := hcc4 1 _ rfl
   have hx4_2 : wr.cell? ⟨go4, (x2_1 : Int).toNat * 3 + 2, none⟩ = some (.string ((rd_T41 x0_1 x2_1).f2)) := hcc4 2 _ rfl
   have hf4_0 : wr.frozen? ⟨go4, (x2_1 : Int).toNat * 3, none⟩ = false := hfr4 0
   have hf4_1 : wr.frozen? ⟨go4, (x2_1 : Int).toNat * 3 + 1, none⟩ = false := hfr4 1
   have hf4_2 : wr.frozen? ⟨go4, (x2_1 : Int).toNat * 3 + 2, none⟩ = false := hfr4 2
   clear hcl4 hcc4 hfr4 hM4
   replace p4 := eq_true p4
   replace q4 := eq_true q4
   have HX6 := Aside0.mk (show Kd.R k41 41 wr w0.heap.size (fun k_ => (P0_ k_ ∨ w.heap.size ≤ k_)) (.slice (some ⟨go4, 0, none⟩) x0_1.length co5) x0_1 from (kR HO_0.out))
   obtain ⟨ce6, hcl6, hM6, hcc6, hfr6⟩ := Kd.R_elem HX6.out z41 (x2_1 : Int) (of_decide_eq_true (by first | (with_reducible assumption) | assumption)) (by have h_ : (x2_1 : Int) < ((x0_1.length : Int) : Int) := of_decide_eq_true (by first | (with_reducible assumption) | assumption); first | exact h_ | (have e_ := (Kd.R_reads' HO_0.out).1; omega) | simpa using h_)
   obtain rfl := k41_openM hM6
   have HP6 := Kd.R_seg HX6.out (x2_1 : Int) (of_decide_eq_true (by first | (with_reducible assumption) | assumption)) (by have h_ : (x2_1 : Int) < ((x0_1.length : Int) : Int) := of_decide_eq_true (by first | (with_reducible assumption) | assumption); first | exact h_ | (have e_ := (Kd.R_reads' HO_0.out).1; omega) | simpa using h_) (seg := [.int .i64 (Go.bits .xor .i64 ((rd_T41 x0_1 x2_1).f1) 90)]) (j := 1) hcl6 hcc6 (show 2 ≤ 3 from by decide) (x' := (⟨(rd_T41 x0_1 x2_1).f0, Go.bits .xor .i64 ((rd_T41 x0_1 x2_1).f1) 90, (rd_T41 x0_1 x2_1).f2⟩ : S41)) (k41_mkM _ _ _ (⟨(rd_T41 x0_1 x2_1).f0, Go.bits .xor .i64 ((rd_T41 x0_1 x2_1).f1) 90, (rd_T41 x0_1 x2_1).f2⟩ : S41) ) (fun _ hk => hk)
   have hx6_1 := hcc6 1 _ rfl
   (try simp only [show (k41).sz = 3 from rfl, Nat.mul_one, Nat.add_zero] at hx6_1)
   have hf6_1 := hfr6 1
   (try simp only [show (k41).sz = 3 from rfl, Nat.mul_one, Nat.add_zero] at hf6_1)
   clear hcl6 hcc6 hfr6 hM6
   go_wp2_with (first | ((with_reducible refine gate_store (t := 3) (p := 18) rfl ?_); refine store_event (t := 3) (p := 18) (v := ?vo_w7) (w1 := (wr.setCell ⟨go4, (x2_1 : Int).toNat * 3 + 1, none⟩ (.int .i64 (Go.bits .xor .i64 ((rd_T41 x0_1 x2_1).f1) 90)))) ?hg ?ho ?hn ?hr ?_; (case ho => rfl); (case hg => rfl); (case hn => rfl); (case hr => first | (go_simp; done) | (go_simp; rfl)); intro w7 hw; have hg : wr.grownBy w7 (some go4) := (by rw [hw]; exact HP6.2); have hp_ : Kd.R k41 41 w7 w0.heap.size (fun k_ => (P0_ k_ ∨ w.heap.size ≤ k_)) (.slice (some ⟨go4, 0, none⟩) x0_1.length co5) y361 := (by rw [hw, Ny361.out]; exact HP6.1); clear HP6; have n0_ := Aside0.mk (hp_); have n1_ := Aside0.mk ((by rw [hw]; exact below_set (HB.out) GB4.out : Below w0.heap.size w0 w7)); have n2_ := Aside0.mk (Kept.of_grown (S := (fun k_ => P0_ k_)) hg (kk HK.out) (fun k_ e_ => (HO_0.out.1 k_ e_))); clear HO_0; clear HB; clear HK; have HO_0 := n0_; have HB := n1_; have HK := n2_; clear n0_ n1_ n2_; clear hg hw hp_))
   go_roundg k1
   case measure => have := HK1.out; omega
   case rel => exact ⟨(y361), (wrap64 (x2_1 + 1)), (by first | rfl | (simp; done) | (simp [*]; done)), H', ⟨by have := HK1.out; omega⟩, ⟨kR HO_0.out⟩, ⟨kk HK.out⟩, ⟨kb HB.out⟩⟩

/-! ### skifflaw0_SpoilDevice: function 12 -/
def skifflaw0_SpoilDevice.f (k : Nat) (a0_0 : Int) (a0_1 : Int) (a0_2 : Int) (a0_3 : Int) (a0_4 : Int) (l0_5 : List (S41)) : Option ((List (S41))) := (skifflaw0_SpoilOps.f k l0_5).bind fun t363 => (some t363)
set_option maxHeartbeats 8000000 in
set_option maxRecDepth 100000 in
theorem skifflaw0_SpoilDevice.calls (k : Nat) (a0_0 : Int) (a0_1 : Int) (a0_2 : Int) (a0_3 : Int) (a0_4 : Int) (P0_5_ : Nat → Prop) (u9000_ : Value) (l0_5 : List (S41)) (r : List (S41)) (w0 w : World) (hB : Below w0.heap.size w0 w) (ho0_5 : Kd.R k41 41 w w0.heap.size P0_5_ u9000_ l0_5) (h : skifflaw0_SpoilDevice.f k a0_0 a0_1 a0_2 a0_3 a0_4 l0_5 = some r) :
  Calls Tryz.prog 12 #[.agg #[.int .i64 a0_0, .int .i64 a0_1, .int .i64 a0_2, .int .i64 a0_3, .int .i64 a0_4, u9000_]] w fun e w' => e = .returned (.tuple #[]) ∧ Kd.R k41 41 w' w0.heap.size (fun k_ => (P0_5_ k_ ∨ w.heap.size ≤ k_)) u9000_ r ∧ Below w0.heap.size w0 w' ∧ Kept w w' (fun k_ => P0_5_ k_) := by
 have hu24 := Tryz.underlying24
 have HO0_5 := Aside0.mk (show Kd.R k41 41 w w0.heap.size (fun k_ => (P0_5_ k_ ∨ w.heap.size ≤ k_)) u9000_ l0_5 from Kd.R_mono ho0_5 (fun k_ hk => (.inl hk)))
 have HK := Aside0.mk (Kept.refl w (fun k_ => P0_5_ k_))
 have HW0 := Aside0.mk hB.size
 have HB := Aside0.mk hB
 clear hB
 have H : ((skifflaw0_SpoilOps.f k l0_5).bind fun t363 => (some t363)) = some r := h
 clear h
 replace H := Option.bind_eq_some_iff.mp H
 obtain ⟨t363, A20, H⟩ := H
 replace H : (some t363) = some r := H
 have A2 := Aside0.mk A20
 clear A20
 obtain rfl := Option.some.inj H
 obtain ⟨Ao3, co3, eo3⟩ := Kd.R_slice HO0_5.out
 subst eo3
 go_enter Tryz.func12, Tryz.ntmps12
 go_wp2_with (first | ((with_reducible refine gate_dst (N := 1) rfl ?_); refine box_event ?hg (N := 1) ?hd (cs := #[.int .i64 a0_0, .int .i64 a0_1, .int .i64 a0_2, .int .i64 a0_3, .int .i64 a0_4, .slice Ao3 l0_5.length co3]) (t := 24) ?hr ?_; (case hd => rfl); (case hg => rfl); (case hr => first | (go_simp; done) | (go_simp; rfl)); intro gb362 hg w4 hbox hb; have n0_ := Aside0.mk (Kd.R_below (kR HO0_5.out) hb); have n1_ := Aside0.mk (Kept.below (S := (fun k_ => P0_5_ k_)) (kk HK.out) hb); have n2_ := Aside0.mk (below_step (kb HB.out) hb); have n3_ := Aside0.mk (hbox); have n4_ := Aside0.mk ((by rw [hg]; exact (by first | exact HK.out.1 | exact (show Kept w _ (fun k_ => P0_5_ k_) from kk HK.out).1) : w.heap.size ≤ gb362)); have n5_ := Aside0.mk ((kz hg (below_size (kb HB.out)) : w0.heap.size ≤ gb362)); clear HO0_5; clear HK; clear HB; have HO0_5 := n0_; have HK := n1_; have HB := n2_; have BK362 := n3_; have GW362 := n4_; have GE362 := n5_; clear n0_ n1_ n2_ n3_ n4_ n5_; clear hb hbox hg; obtain ⟨hcz5_0, hcz5_1, hcz5_2, hcz5_3, hcz5_4, hcz5_5⟩ := kc6 BK362.out; obtain ⟨hfz5_0, hfz5_1, hfz5_2, hfz5_3, hfz5_4, hfz5_5⟩ := kf6 BK362.out) | ((with_reducible refine gate_callee (f := 32) rfl ?_); refine goesL_ (some 4) rfl rfl Tryz.func32 (by kernel_rfl) rfl #[.slice Ao3 l0_5.length co3] rfl ka ?_; (with_reducible refine (skifflaw0_SpoilOps.calls k (fun k_ => some k_ = (.slice Ao3 l0_5.length co3 : Value).ownBlock) (.slice Ao3 l0_5.length co3) l0_5 t363 w0 _ ?side1 ?side2 A2.out).mono ?_); (case side1 => exact kb1 HB.out GE362.out); (case side2 => exact Kd.R_tight rfl HO0_5.out); rintro e w6 ⟨rfl, hy0, hb, hkp⟩; refine ⟨_, rfl, ?_⟩; have n0_ := Aside0.mk (Kd.R_reok rfl hy0 (fun k_ e_ => HO0_5.out.1 k_ e_)); have n1_ := Aside0.mk (blk_kept (kB BK362.out) hkp (fun hs_ => (fun e_ => (Kd.R_ne HO0_5.out BK362.out (by decide)) e_) hs_)); have n2_ := Aside0.mk (Kept.then_ (S := (fun k_ => P0_5_ k_)) (kk1 HK.out GW362.out) hkp (fun k_ hs_ => (fun e_ => (HO0_5.out.1 k_ e_.symm)) hs_)); have n3_ := Aside0.mk (hb); clear HO0_5; clear BK362; clear HK; clear HB; have HO0_5 := n0_; have BK362 := n1_; have HK := n2_; have HB := n3_; clear n0_ n1_ n2_ n3_; (try clear hb); (try clear hkp); (try clear hy0)))
 first | go_end0 | ((try simp only [Exit.inBlock, Exit.then]); refine bodyPost_ret (results_none rfl _ _ _) rfl ?_)
 exact ⟨by first | rfl | (simp [errW_none, errW_some] <;> rfl) | (simp [*, errW_none, errW_some] <;> rfl), kR HO0_5.out, kb1 HB.out GE362.out, kk1 HK.out GW362.out⟩

/-! ### skiffref1_Blank: function 14 -/
def skiffref1_Blank.f  : Option (ByteArray) := some (Skiff.mk Skiff.flash0)
theorem skiffref1_Blank.calls  (r : ByteArray) (w : World) (h : skiffref1_Blank.f  = some r) :
  Calls Tryz.prog 14 #[] w fun e w' => e = .returned (.string r) ∧ Below w.heap.size w w' :=
 Go.Proofs.YthkpaoajfiapkaaGreat.g_skiffref1_Blank  r w h

/-! ### skiffref16_NewDevice: function 35 -/
def skiffref16_NewDevice.f  : Option (Int × Int × Int × Int × Int × (List (S41))) := some (0, 0, 0, 0, 0, ([] : List (S41)))
set_option maxHeartbeats 8000000 in
set_option maxRecDepth 100000 in
theorem skiffref16_NewDevice.calls  (r1 : Int) (r2 : Int) (r3 : Int) (r4 : Int) (r5 : Int) (r6 : List (S41)) (w : World) (h : skiffref16_NewDevice.f  = some (r1, r2, r3, r4, r5, r6)) :
  Calls Tryz.prog 35 #[] w fun e w' => ∃ v5_ : Value, e = .returned (.agg #[.int .i64 r1, .int .i64 r2, .int .i64 r3, .int .i64 r4, .int .i64 r5, v5_]) ∧ Kd.R k41 41 w' w.heap.size (fun _ => True) v5_ r6 ∧ Below w.heap.size w w' := by
 have hu24 := Tryz.underlying24
 have HB := Aside0.mk (Below.refl w.heap.size w)
 have H : (some (0, 0, 0, 0, 0, ([] : List (S41)))) = some (r1, r2, r3, r4, r5, r6) := h
 clear h
 simp only [Option.some.injEq, Prod.mk.injEq] at H
 obtain ⟨rfl, rfl, rfl, rfl, rfl, rfl⟩ := H
 go_enter Tryz.func35, Tryz.ntmps35
 go_wp2_with (first | ((with_reducible refine gate_dst (N := 0) rfl ?_); refine box_event ?hg (N := 0) ?hd (cs := #[.int .i64 0, .int .i64 0, .int .i64 0, .int .i64 0, .int .i64 0, .slice none 0 0]) (t := 24) ?hr ?_; (case hd => rfl); (case hg => rfl); (case hr => first | (go_simp; done) | (go_simp; rfl)); intro gb364 hg w1 hbox hb; have n0_ := Aside0.mk (below_step (kb HB.out) hb); have n1_ := Aside0.mk (hbox); have n2_ := Aside0.mk ((kz hg (below_size (kb HB.out)) : w.heap.size ≤ gb364)); have n3_ := Aside0.mk ((kz hg (below_size (kb HB.out)) : w.heap.size ≤ gb364)); clear HB; have HB := n0_; have BK364 := n1_; have GW364 := n2_; have GE364 := n3_; clear n0_ n1_ n2_ n3_; clear hb hbox hg; obtain ⟨hcz2_0, hcz2_1, hcz2_2, hcz2_3, hcz2_4, hcz2_5⟩ := kc6 BK364.out; obtain ⟨hfz2_0, hfz2_1, hfz2_2, hfz2_3, hfz2_4, hfz2_5⟩ := kf6 BK364.out))
 refine bodyPost_ret (results_cell_row rfl _ _ gb364 24 #[.int .i64 0, .int .i64 0, .int .i64 0, .int .i64 0, .int .i64 0, .slice none 0 0] (0, 0) _ rfl (kP6 BK364.out) Tryz.underlying24 rfl (by kernel_rfl)) rfl ?_
 exact ⟨_, by first | rfl | (simp [errW_none, errW_some] <;> rfl) | (simp [*, errW_none, errW_some] <;> rfl), by first | exact Kd.R_nil _ _ _ _ _ | exact Kd.N_nil _ _ _ _ _ | exact Kd.V_nil _ _ _ _ _ | exact Kd.Q_nil _ _ _ _ _ | exact Kd.S_nil _ _ _ _ _, kb1 HB.out GE364.out⟩

-- NOT PRINTED: function 16 (skifflaw17_sent)

-- NOT PRINTED: function 13 (skifflaw17_awake)

-- NOT PRINTED: function 3 (skifflaw17_Downloads)

/-! ### skiffref1_Worn: function 53 -/
def skiffref1_Worn.f (a0 : ByteArray) (a1 : Int) (a2 : Int) : Option (ByteArray × Int) := some (Skiff.tornPair (Skiff.worn (Skiff.bl a0) a1 a2))

/-! ### skiffref1_Torn: function 54 -/
def skiffref1_Torn.f (a0 : ByteArray) (a1 : Int) (a2 : ByteArray) (a3 : Int) : Option (ByteArray × Int) := some (Skiff.tornPair (Skiff.torn (Skiff.bl a0) a1 (Skiff.bl a2) a3))

/-! ### skiffref1_Cut: function 34 -/
def skiffref1_Cut.j0 : Nat → ByteArray → Int → Bool → Bool → Int → ByteArray → Option (ByteArray × Int)
 | 0, _, _, _, _, _, _ => none
 | k + 1, x0, x2, x20, x366000, x366001, x366002 => if x20 = true then (some ((⟨#[]⟩ : ByteArray), 300)) else (if x366000 = true then ((skiffref1_Worn.f x0 (wrap64 (Int.tdiv x366001 96)) x2).bind fun bt369 => (some (bt369.1, bt369.2))) else ((skiffref1_Torn.f x0 x366001 x366002 (mn x2 32)).bind fun bt371 => (some (bt371.1, bt371.2))))
def skiffref1_Cut.f (k : Nat) (a0 : ByteArray) (a1_0 : Bool) (a1_1 : Int) (a1_2 : ByteArray) (a2 : Int) : Option (ByteArray × Int) := (skiffref1_FlashMay.f a0).bind fun t366 => (if t366 = true then ((skiffref1_OpMay.f a1_0 a1_1 a1_2).bind fun t367 => (if t367 = true then ((skiffref1_upTo.f a2 0 96).bind fun t368 => (skiffref1_Cut.j0 k a0 a2 (!t368) a1_0 a1_1 a1_2)) else (skiffref1_Cut.j0 k a0 a2 true a1_0 a1_1 a1_2))) else (skiffref1_Cut.j0 k a0 a2 true a1_0 a1_1 a1_2))

/-! ### skiffref1_Do: function 15 -/
def skiffref1_Do.f (k : Nat) (a0 : ByteArray) (a1_0 : Bool) (a1_1 : Int) (a1_2 : ByteArray) : Option (ByteArray × Int) := (skiffref1_Cut.f k a0 a1_0 a1_1 a1_2 96).bind fun bt374 => (some (bt374.1, bt374.2))

-- NOT PRINTED: function 4 (skifflaw17_DownloadBlocks)

-- NOT PRINTED: function 5 (skifflaw17_DownloadFirst)

-- NOT PRINTED: function 6 (skifflaw17_DownloadMixed)

end Go.Proofs.YthkpaoajfiapkaaGreat.P
end
section
set_option linter.unusedVariables false
set_option linter.unusedSimpArgs false
set_option maxHeartbeats 4000000
namespace Skiff
/-- May a step be? What it leaves of a flash; its answer. -/
def opMay (e : Bool) (a : Int) (t : List UInt8) : Bool :=
  if e = true then within a 0 672 && (decide (a % 96 = 0) && decide (t.length = 0)) else within a 0 764 && (decide (a % 4 = 0) && decide (t.length = 4))
theorem opMay_true {a : Int} {t : List UInt8} : opMay true a t = true ↔ (0 ≤ a ∧ a ≤ 672) ∧ a % 96 = 0 ∧ t.length = 0 := by
  simp [opMay, within]
theorem opMay_false {a : Int} {t : List UInt8} : opMay false a t = true ↔ (0 ≤ a ∧ a ≤ 764) ∧ a % 4 = 0 ∧ t.length = 4 := by
  simp [opMay, within]
/-- A text, made as long as its words need; a word of it; how many there are. -/
def padL (t : List UInt8) : List UInt8 := t ++ List.replicate ((4 - t.length % 4) % 4) 255
def wordL (t : List UInt8) (n : Nat) : List UInt8 := ((padL t).drop (4 * n)).take 4
def manyL (t : List UInt8) : Nat := (t.length + 3) / 4
theorem padL_length (t : List UInt8) : (padL t).length = 4 * manyL t := by
  unfold padL manyL
  rw [List.length_append, List.length_replicate]; omega
theorem wordL_length {t : List UInt8} {n : Nat} (h : n < manyL t) : (wordL t n).length = 4 := by
  unfold wordL
  rw [List.length_take, List.length_drop, padL_length]; omega
theorem wordL_at {t : List UInt8} {n i : Nat} (h : n < manyL t) (hi : i < 4) : (wordL t n).getD i 0 = if 4 * n + i < t.length then t.getD (4 * n + i) 0 else 255 := by
  unfold wordL padL
  have hl : 4 * n + i < t.length + (4 - t.length % 4) % 4 := by unfold manyL at h; omega
  rw [List.getD_eq_getElem?_getD, List.getElem?_take, if_pos hi, List.getElem?_drop]
  by_cases c : 4 * n + i < t.length
  · rw [if_pos c, List.getElem?_append_left c, ← List.getD_eq_getElem?_getD]
  · rw [if_neg c, List.getElem?_append_right (by omega), List.getElem?_replicate, if_pos (by omega)]; rfl
/-- The word of what is left. -/
theorem wordL_left (t : List UInt8) (n : Nat) (h : 4 * n < t.length) : ((t.drop (4 * n)).take (min (t.length - 4 * n) 4)) ++ List.replicate (4 - min (t.length - 4 * n) 4) 255 = wordL t n := by
  have hm : n < manyL t := by unfold manyL; omega
  have hl := wordL_length hm
  have l1 : ((t.drop (4 * n)).take (min (t.length - 4 * n) 4)).length = min (t.length - 4 * n) 4 := by rw [List.length_take, List.length_drop]; omega
  apply ext_getD
  · rw [hl, List.length_append, l1, List.length_replicate]; omega
  intro i
  by_cases hi : i < 4
  · rw [wordL_at hm hi, List.getD_eq_getElem?_getD]
    by_cases c : 4 * n + i < t.length
    · rw [if_pos c, List.getElem?_append_left (by omega), List.getElem?_take, if_pos (by omega), List.getElem?_drop, ← List.getD_eq_getElem?_getD]
    · rw [if_neg c, List.getElem?_append_right (by omega), List.getElem?_replicate, if_pos (by omega)]; rfl
  · rw [List.getD_eq_getElem?_getD, List.getD_eq_getElem?_getD, List.getElem?_eq_none (by rw [List.length_append, l1, List.length_replicate]; omega), List.getElem?_eq_none (by omega)]
def wordsMay (a : Int) (t : List UInt8) : Bool := within a 0 768 && (decide (a % 4 = 0) && decide ((t.length : Int) ≤ 768 - a))
end Skiff
namespace Go.Proofs.YthkpaoajfiapkaaGreat.O
open Go.RowKit Skiff Go.Proofs.YthkpaoajfiapkaaGreatW.PrintWords Go.Proofs.YthkpaoajfiapkaaGreatW.PrintMore

abbrev Opn := P.S41
theorem upTo_f (x a b : Int) : P.skiffref1_upTo.f x a b = some (within x a b) := by
  unfold P.skiffref1_upTo.f within
  by_cases h : a ≤ x
  · rw [if_pos h, decide_eq_true h]; rfl
  · rw [if_neg h, decide_eq_false h]; rfl
theorem may_f (f : ByteArray) : P.nor_May.f f = some (decide (f.size = 768)) := by
  unfold P.nor_May.f
  congr 1
  rw [Bool.eq_iff_iff]; simp; omega
theorem flashMay_f (f : ByteArray) : P.skiffref1_FlashMay.f f = some (decide (f.size = 768)) := by
  unfold P.skiffref1_FlashMay.f
  congr 1
  rw [Bool.eq_iff_iff]; simp; omega
theorem none_iff (t : ByteArray) : (t.toList == ([] : List UInt8)) = decide ((bl t).length = 0) := by
  rw [toList_bl]; cases bl t <;> rfl
theorem four_iff (t : ByteArray) : ((t.size : Int) == 4) = decide ((bl t).length = 4) := by
  rw [bl_length, Bool.eq_iff_iff]; simp; omega
theorem opsMay_f (e : Bool) (a : Int) (t : ByteArray) (ha : a < 9223372036854775808) : P.ops_May.f e a t = some (opMay e a (bl t)) := by
  unfold P.ops_May.f P.nor_Sector.f P.nor_Begins.f opMay within
  rw [none_iff, four_iff]
  cases e
  · simp only [Bool.false_eq_true, if_false]
    by_cases h0 : a ≥ 0
    · rw [if_pos h0, decide_eq_true (by omega : 0 ≤ a), Int.tmod_eq_emod_of_nonneg h0]
      by_cases h1 : a < 768
      · rw [if_pos h1, Option.bind_some]
        by_cases h2 : a % 4 = 0
        · rw [beq_iff_eq.2 h2, if_pos rfl, decide_eq_true h2, decide_eq_true (by omega : a ≤ 764)]; rfl
        · rw [beq_eq_false_iff_ne.2 h2, if_neg Bool.false_ne_true, decide_eq_false h2]; simp
      · rw [if_neg h1, Option.bind_some, if_neg Bool.false_ne_true, decide_eq_false (by omega : ¬ a ≤ 764)]; rfl
    · rw [if_neg h0, Option.bind_some, if_neg Bool.false_ne_true, decide_eq_false (by omega : ¬ 0 ≤ a)]; rfl
  · simp only [if_true]
    by_cases h0 : a ≥ 0
    · rw [if_pos h0, decide_eq_true (by omega : 0 ≤ a), Int.tmod_eq_emod_of_nonneg h0, Int.tdiv_eq_ediv_of_nonneg h0]
      have ew : wrap64 (a / 96) = a / 96 := by simp only [wrap64]; omega
      rw [ew, if_pos (by omega : a / 96 ≥ 0), Option.bind_some]
      by_cases h2 : a % 96 = 0
      · rw [if_pos h2, decide_eq_true h2]
        by_cases h1 : a / 96 < 8
        · rw [decide_eq_true h1, if_pos rfl, decide_eq_true (by omega : a ≤ 672)]; rfl
        · rw [decide_eq_false h1, if_neg Bool.false_ne_true, decide_eq_false (by omega : ¬ a ≤ 672)]; rfl
      · rw [if_neg h2, decide_eq_false h2]; simp
    · rw [if_neg h0, decide_eq_false (by omega : ¬ 0 ≤ a)]; rfl
theorem ropMay_f (e : Bool) (a : Int) (t : ByteArray) : P.skiffref1_OpMay.f e a t = some (opMay e a (bl t)) := by
  unfold P.skiffref1_OpMay.f P.skiffref1_wordAt.f opMay
  rw [none_iff, four_iff, upTo_f, upTo_f, Option.bind_some, Option.bind_some]
  cases e
  · simp only [Bool.false_eq_true, if_false]
    cases h : within a 0 764
    · rfl
    · have h := Skiff.within_iff.1 h
      rw [if_pos rfl, Option.bind_some, Int.tmod_eq_emod_of_nonneg h.1]
      by_cases h2 : a % 4 = 0
      · rw [beq_iff_eq.2 h2, if_pos rfl, decide_eq_true h2]; rfl
      · rw [beq_eq_false_iff_ne.2 h2, if_neg Bool.false_ne_true, decide_eq_false h2]; rfl
  · simp only [if_true]
    cases h : within a 0 672
    · rfl
    · have h := Skiff.within_iff.1 h
      rw [if_pos rfl, Int.tmod_eq_emod_of_nonneg h.1]
      by_cases h2 : a % 96 = 0
      · rw [if_pos h2, decide_eq_true h2]; rfl
      · rw [if_neg h2, decide_eq_false h2]; rfl

/-- The steps that program a text. -/
def wordOp (a : Int) (t : List UInt8) (n : Nat) : Opn := ⟨false, a + 4 * (n : Int), mk (wordL t n)⟩
def wordOps (a : Int) (t : List UInt8) : Nat → List Opn
  | 0 => []
  | n + 1 => wordOps a t n ++ [wordOp a t n]
def wordsPair (a : Int) (t : ByteArray) : List Opn × Int := if wordsMay a (bl t) = true then (wordOps a (bl t) (manyL (bl t)), 0) else ([], 300)
theorem wordOps_length (a : Int) (t : List UInt8) : ∀ n, (wordOps a t n).length = n
  | 0 => rfl
  | n + 1 => by rw [wordOps, List.length_append, wordOps_length a t n]; rfl
theorem words_l0 (a : Int) (t : List UInt8) (hm : wordsMay a t = true) (d : Nat) : ∀ (k n : Nat), n + d = manyL t → d < k → P.ops_Words.l0 k (a + 4 * (n : Int)) (mk (t.drop (4 * n))) (wordOps a t n) = some (wordOps a t (manyL t), 0) := by
  obtain ⟨h1, h2⟩ := Bool.and_eq_true_iff.1 hm
  have h1 := Skiff.within_iff.1 h1
  have h2 := Bool.and_eq_true_iff.1 h2
  have h3 := of_decide_eq_true h2.2
  have h2 := of_decide_eq_true h2.1
  induction d with
  | zero =>
    intro k n h4 h5
    obtain ⟨k, rfl⟩ : ∃ m, k = m + 1 := ⟨k - 1, by omega⟩
    obtain rfl : n = manyL t := by omega
    rw [P.ops_Words.l0, toList_bl, bl_mk, if_pos (List.drop_of_length_le (by unfold manyL; omega))]
  | succ d ih =>
    intro k n h4 h5
    obtain ⟨k, rfl⟩ : ∃ m, k = m + 1 := ⟨k - 1, by omega⟩
    have hn : 4 * n < t.length := by unfold manyL at h4; omega
    have hr := ih k (n + 1) (by omega) (by omega)
    have hz : (mk (t.drop (4 * n))).size = t.length - 4 * n := by rw [mk_size, List.length_drop]
    have hq : mn ((mk (t.drop (4 * n))).size : Int) 4 = ((min (t.length - 4 * n) 4 : Nat) : Int) := by rw [hz]; unfold mn; split <;> omega
    have hs : ((mk (t.drop (4 * n))).extract 0 (min (t.length - 4 * n) 4)).size = min (t.length - 4 * n) 4 := by rw [ByteArray.size_extract, hz]; omega
    have hw : wrap64 (4 - ((min (t.length - 4 * n) 4 : Nat) : Int)) = ((4 - min (t.length - 4 * n) 4 : Nat) : Int) := by simp only [wrap64]; omega
    have ha : wrap64 (a + 4 * (n : Int) + 4) = a + 4 * ((n + 1 : Nat) : Int) := by simp only [wrap64]; omega
    have hrep : repeats (⟨#[255]⟩ : ByteArray) ((4 - min (t.length - 4 * n) 4 : Nat) : Int) = some (mk (List.replicate (4 - min (t.length - 4 * n) 4) 255)) := by
      unfold repeats fulls
      rw [if_pos (show bl (⟨#[255]⟩ : ByteArray) = [255] from rfl), if_pos (by omega), Int.toNat_natCast]
    have hx : (mk (t.drop (4 * n))).extract (min (t.length - 4 * n) 4) (mk (t.drop (4 * n))).size = mk (t.drop (4 * (n + 1))) := by
      apply bl_inj
      rw [bl_extract, bl_mk, bl_mk, hz, List.drop_drop, List.take_of_length_le (by rw [List.length_drop]; omega)]
      by_cases c : 4 ≤ t.length - 4 * n
      · rw [show 4 * n + min (t.length - 4 * n) 4 = 4 * (n + 1) by omega]
      · rw [List.drop_of_length_le (by omega), List.drop_of_length_le (by omega)]
    have hop : (mk (t.drop (4 * n))).extract 0 (min (t.length - 4 * n) 4) ++ mk (List.replicate (4 - min (t.length - 4 * n) 4) 255) = mk (wordL t n) := by
      apply bl_inj
      rw [bl_append, bl_extract, bl_mk, bl_mk, bl_mk, List.drop_zero, Nat.sub_zero]
      exact wordL_left t n hn
    have hlen := wordOps_length a t n
    have hb : manyL t ≤ 192 := by unfold manyL; omega
    have hne : ¬ t.drop (4 * n) = [] := by
      intro e
      have := congrArg List.length e
      rw [List.length_drop] at this
      simp at this
      omega
    rw [P.ops_Words.l0, toList_bl, bl_mk, if_neg hne, hq, Int.toNat_natCast, if_pos (by omega), if_pos (by omega), if_pos (by omega), if_pos (by omega), hs, hw, P.strings_Repeat.f, hrep, Option.bind_some,
      if_pos (by rw [mk_size, List.length_replicate]; omega), if_pos (by omega), ha, Int.toNat_natCast, hx, hop]
    exact hr
theorem words_j0 (a : Int) (t : ByteArray) (k : Nat) (hk : 193 < k) (b : Bool) (hb : b = !(wordsMay a (bl t))) : P.ops_Words.j0 (k + 1) a t b = some (wordsPair a t) := by
  subst hb
  rw [P.ops_Words.j0]
  unfold wordsPair
  cases hm : wordsMay a (bl t)
  · rfl
  · rw [if_neg (by decide), if_pos rfl]
    have h := words_l0 a (bl t) hm (manyL (bl t)) k 0 (by omega) (by
      obtain ⟨h1, h2⟩ := Bool.and_eq_true_iff.1 hm
      have h1 := Skiff.within_iff.1 h1
      have h3 := of_decide_eq_true (Bool.and_eq_true_iff.1 h2).2
      unfold manyL; omega)
    rw [show 4 * 0 = 0 from rfl, List.drop_zero, mk_bl, show a + 4 * ((0 : Nat) : Int) = a by omega] at h
    exact h
theorem words_f (a : Int) (t : ByteArray) (k : Nat) (hk : 194 < k) (ht : t.size ≤ 140737488351232) : P.ops_Words.f k a t = some (wordsPair a t) := by
  obtain ⟨k, rfl⟩ : ∃ m, k = m + 1 := ⟨k - 1, by omega⟩
  unfold P.ops_Words.f
  by_cases h0 : a < 0
  · rw [if_pos h0]; exact words_j0 a t k (by omega) _ (by unfold wordsMay within; rw [decide_eq_false (by omega : ¬ 0 ≤ a)]; rfl)
  · rw [if_neg h0]
    by_cases h1 : a > 768
    · rw [if_pos h1]; exact words_j0 a t k (by omega) _ (by unfold wordsMay within; rw [decide_eq_false (by omega : ¬ a ≤ 768), Bool.and_false]; rfl)
    · rw [if_neg h1, Int.tmod_eq_emod_of_nonneg (by omega)]
      by_cases h2 : a % 4 = 0
      · have ew : wrap64 (768 - a) = 768 - a := by simp only [wrap64]; omega
        rw [if_pos h2, ew]; exact words_j0 a t k (by omega) _ (by
          unfold wordsMay; rw [Skiff.within_iff.2 (by omega), decide_eq_true h2, bl_length, Bool.true_and, Bool.true_and]
          by_cases c : (t.size : Int) > 768 - a
          · rw [decide_eq_true c, decide_eq_false (by omega)]; rfl
          · rw [decide_eq_false c, decide_eq_true (by omega)]; rfl)
      · rw [if_neg h2]; exact words_j0 a t k (by omega) _ (by unfold wordsMay; rw [decide_eq_false h2, Bool.false_and, Bool.and_false]; rfl)
theorem rwords_l0 (a : Int) (t : List UInt8) (hm : wordsMay a t = true) (d : Nat) : ∀ (k n : Nat), n + d = manyL t → d < k → P.skiffref1_Words.l0 k a (mk (padL t)) (wordOps a t n) (4 * (n : Int)) = some (wordOps a t (manyL t), 0) := by
  obtain ⟨h1, h2⟩ := Bool.and_eq_true_iff.1 hm
  have h1 := Skiff.within_iff.1 h1
  have h2 := Bool.and_eq_true_iff.1 h2
  have h3 := of_decide_eq_true h2.2
  have h2 := of_decide_eq_true h2.1
  have hp := padL_length t
  have hb : manyL t ≤ 192 := by unfold manyL; omega
  induction d with
  | zero =>
    intro k n h4 h5
    obtain ⟨k, rfl⟩ : ∃ m, k = m + 1 := ⟨k - 1, by omega⟩
    obtain rfl : n = manyL t := by omega
    rw [P.skiffref1_Words.l0, mk_size, hp, if_neg (by omega)]
  | succ d ih =>
    intro k n h4 h5
    obtain ⟨k, rfl⟩ : ∃ m, k = m + 1 := ⟨k - 1, by omega⟩
    have hr := ih k (n + 1) (by omega) (by omega)
    have hlen := wordOps_length a t n
    have e1 : wrap64 (4 * (n : Int) + 4) = 4 * ((n + 1 : Nat) : Int) := by simp only [wrap64]; omega
    have e2 : wrap64 (a + 4 * (n : Int)) = a + 4 * (n : Int) := by simp only [wrap64]; omega
    have hx : (mk (padL t)).extract (4 * (n : Int)).toNat (4 * ((n + 1 : Nat) : Int)).toNat = mk (wordL t n) := by
      apply bl_inj
      rw [bl_extract, bl_mk, bl_mk, show (4 * (n : Int)).toNat = 4 * n by omega, show (4 * ((n + 1 : Nat) : Int)).toNat - 4 * n = 4 by omega]
      rfl
    rw [P.skiffref1_Words.l0, mk_size, hp, if_pos (by omega), if_pos (by omega), e1, if_pos (by omega), if_pos (by omega), if_pos (by omega), e2, hx]
    exact hr
theorem rwords_j0 (a : Int) (t : ByteArray) (k : Nat) (hk : 193 < k) (b : Bool) (hb : b = !(wordsMay a (bl t))) : P.skiffref1_Words.j0 (k + 1) a t b = some (wordsPair a t) := by
  subst hb
  rw [P.skiffref1_Words.j0]
  unfold wordsPair
  cases hm : wordsMay a (bl t)
  · rfl
  · have hq : (t.size : Int) ≤ 768 ∧ manyL (bl t) ≤ 192 := by
      obtain ⟨h1, h2⟩ := Bool.and_eq_true_iff.1 hm
      have h1 := Skiff.within_iff.1 h1
      have h3 := of_decide_eq_true (Bool.and_eq_true_iff.1 h2).2
      rw [bl_length] at h3
      unfold manyL
      rw [bl_length]
      omega
    have hfl : fulls ((4 - (t.size : Int) % 4) % 4) = some (mk (List.replicate ((4 - (bl t).length % 4) % 4) 255)) := by
      unfold fulls
      rw [if_pos (by omega), bl_length, show ((4 - (t.size : Int) % 4) % 4).toNat = (4 - t.size % 4) % 4 by omega]
    have hp : t ++ mk (List.replicate ((4 - (bl t).length % 4) % 4) 255) = mk (padL (bl t)) := by
      apply bl_inj
      rw [bl_append, bl_mk, bl_mk]; rfl
    rw [if_neg (by decide), P.skiffref1_full.f, hfl, Option.bind_some, hp, if_pos (by rw [mk_size, List.length_replicate]; omega), if_pos rfl]
    exact rwords_l0 a (bl t) hm (manyL (bl t)) k 0 (by omega) (by omega)
theorem rwords_f (a : Int) (t : ByteArray) (k : Nat) (hk : 194 < k) (ht : t.size ≤ 140737488351232) : P.skiffref1_Words.f k a t = some (wordsPair a t) := by
  obtain ⟨k, rfl⟩ : ∃ m, k = m + 1 := ⟨k - 1, by omega⟩
  unfold P.skiffref1_Words.f
  rw [upTo_f, Option.bind_some]
  cases h1 : within a 0 768
  · rw [if_neg Bool.false_ne_true]; exact rwords_j0 a t k (by omega) _ (by unfold wordsMay; rw [h1]; rfl)
  · have h := Skiff.within_iff.1 h1
    rw [if_pos rfl, Int.tmod_eq_emod_of_nonneg (by omega)]
    by_cases h2 : a % 4 = 0
    · have ew : wrap64 (768 - a) = 768 - a := by simp only [wrap64]; omega
      rw [if_pos h2, ew]; exact rwords_j0 a t k (by omega) _ (by
        unfold wordsMay; rw [h1, decide_eq_true h2, bl_length, Bool.true_and, Bool.true_and]
        by_cases c : (t.size : Int) > 768 - a
        · rw [decide_eq_true c, decide_eq_false (by omega)]; rfl
        · rw [decide_eq_false c, decide_eq_true (by omega)]; rfl)
    · rw [if_neg h2]; exact rwords_j0 a t k (by omega) _ (by unfold wordsMay; rw [decide_eq_false h2, Bool.false_and, Bool.and_false]; rfl)

theorem rd_at (l : List Opn) (i : Nat) (h : i < l.length) : P.rd_T41 l (i : Int) = l[i] := by
  unfold P.rd_T41
  rw [Int.toNat_natCast, List.getD_eq_getElem?_getD, List.getElem?_eq_getElem h]; rfl
theorem same_l0 (l : List Opn) (hl : l.length < 1000000) (d : Nat) : ∀ (k i : Nat), i + d = l.length → d < k → P.skifflaw0_SameOps.l0 k l l (i : Int) = some true := by
  induction d with
  | zero =>
    intro k i h1 h2
    obtain ⟨k, rfl⟩ : ∃ m, k = m + 1 := ⟨k - 1, by omega⟩
    rw [P.skifflaw0_SameOps.l0, if_neg (by omega)]
  | succ d ih =>
    intro k i h1 h2
    obtain ⟨k, rfl⟩ : ∃ m, k = m + 1 := ⟨k - 1, by omega⟩
    have e2 : wrap64 ((i : Int) + 1) = ((i + 1 : Nat) : Int) := by simp only [wrap64]; omega
    have hr := ih k (i + 1) (by omega) (by omega)
    rw [P.skifflaw0_SameOps.l0, if_pos (by omega), if_pos (by omega), if_pos (by omega), e2, hr]
    simp
theorem same_f (l : List Opn) (hl : l.length < 1000000) (k : Nat) (hk : l.length < k) : P.skifflaw0_SameOps.f k l l = some true := by
  unfold P.skifflaw0_SameOps.f
  rw [if_pos rfl]
  exact same_l0 l hl l.length k 0 (by omega) hk
theorem spoil_l0 (d : Nat) : ∀ (k i : Nat) (l : List Opn), l.length < 1000000 → i + d = l.length → d < k → ∃ r, P.skifflaw0_SpoilOps.l0 k l (i : Int) = some r := by
  induction d with
  | zero =>
    intro k i l hl h1 h2
    obtain ⟨k, rfl⟩ : ∃ m, k = m + 1 := ⟨k - 1, by omega⟩
    exact ⟨l, by rw [P.skifflaw0_SpoilOps.l0, if_neg (by omega)]⟩
  | succ d ih =>
    intro k i l hl h1 h2
    obtain ⟨k, rfl⟩ : ∃ m, k = m + 1 := ⟨k - 1, by omega⟩
    have e2 : wrap64 ((i : Int) + 1) = ((i + 1 : Nat) : Int) := by simp only [wrap64]; omega
    rw [P.skifflaw0_SpoilOps.l0, if_pos (by omega), if_pos (by omega), e2]
    exact ih k (i + 1) _ (by rw [List.length_set]; exact hl) (by rw [List.length_set]; omega) (by omega)
theorem spoil_f (l : List Opn) (hl : l.length < 1000000) (k : Nat) (hk : l.length < k) : ∃ r, P.skifflaw0_SpoilOps.f k l = some r :=
  spoil_l0 l.length k 0 l hl (by omega) hk
theorem opMay_lt {e : Bool} {a : Int} {t : List UInt8} (h : opMay e a t = true) : 0 ≤ a ∧ a ≤ 764 := by
  cases e
  · have := opMay_false.1 h; omega
  · have := opMay_true.1 h; omega

end Go.Proofs.YthkpaoajfiapkaaGreat.O
end
section
set_option linter.unusedVariables false
set_option linter.unusedSimpArgs false
set_option maxHeartbeats 4000000
namespace Go.Proofs.YthkpaoajfiapkaaGreat.O
open Go.RowKit Skiff Go.Proofs.YthkpaoajfiapkaaGreatW.PrintWords Go.Proofs.YthkpaoajfiapkaaGreatW.PrintMore

theorem wf_lt {a : Int} (h : (Lit.int .i64 a).wf = true) : -9223372036854775808 ≤ a ∧ a < 9223372036854775808 := by
  simp [Lit.wf, IntKind.min, IntKind.max, IntKind.bits, IntKind.signed] at h; omega

end Go.Proofs.YthkpaoajfiapkaaGreat.O
end
