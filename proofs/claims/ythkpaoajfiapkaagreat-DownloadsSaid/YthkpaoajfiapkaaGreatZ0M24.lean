/- Texts of this claim, laid together. -/
import Derived.Test.YthkpaoajfiapkaaGreatZ0Cz
import Derived.Test.YthkpaoajfiapkaaGreatZ0M22
import Derived.Test.YthkpaoajfiapkaaGreatZ0M23
section
namespace Go.Proofs.YthkpaoajfiapkaaGreat.P
open Go.RowKit Go.Proofs.YthkpaoajfiapkaaGreatW.PrintWords Go.Proofs.YthkpaoajfiapkaaGreatW.PrintLast Go.Proofs.YthkpaoajfiapkaaGreatW.PrintMore
attribute [local go_sem] max2_int min2_int max_two min_two max_three min_three max_four min_four   -- for this text's walks alone
set_option linter.unusedVariables false
set_option linter.unusedSimpArgs false

/-! ### choose_Other: function 47 -/
def choose_Other.f (a0 : ByteArray) : Option (Int × Int) := (choose_Active.f a0).bind fun bt165 => (if bt165.2.2.2.2.2 = 700 then (some (0, bt165.2.2.2.2.2)) else (if bt165.2.2.2.2.2 = 0 then (some (wrap64 (1 - bt165.2.2.1), 0)) else (some (0, 0))))
set_option maxHeartbeats 8000000 in
set_option maxRecDepth 100000 in
theorem choose_Other.calls (a0 : ByteArray) (r1 : Int) (r2 : Int) (w : World) (h : choose_Other.f a0 = some (r1, r2)) :
  Calls Tryz.prog 47 #[.string a0] w fun e w' => e = .returned (.tuple #[.int .i64 r1, .int .i64 r2]) ∧ Below w.heap.size w w' := by
 have hu68 := Tryz.underlying68
 have HB := Aside0.mk (Below.refl w.heap.size w)
 have H : ((choose_Active.f a0).bind fun bt165 => (if bt165.2.2.2.2.2 = 700 then (some (0, bt165.2.2.2.2.2)) else (if bt165.2.2.2.2.2 = 0 then (some (wrap64 (1 - bt165.2.2.1), 0)) else (some (0, 0))))) = some (r1, r2) := h
 clear h
 replace H := Option.bind_eq_some_iff.mp H
 obtain ⟨⟨t165, t166, t167, t168, t169, t170⟩, A20, H⟩ := H
 replace H : (if t170 = 700 then (some (0, t170)) else (if t170 = 0 then (some (wrap64 (1 - t167), 0)) else (some (0, 0)))) = some (r1, r2) := H
 have A2 := Aside0.mk A20
 clear A20
 by_cases c3 : t170 = 700
 ·rw [if_pos c3] at H
  have c3b0 : (t170 == 700) = true := beq_iff_eq.mpr c3
  have c3b1 : (t170 != 700) = false := bne_eq_false_iff_eq.mpr c3
  clear c3
  simp only [Option.some.injEq, Prod.mk.injEq] at H
  obtain ⟨rfl, rfl⟩ := H
  go_enter Tryz.func47, Tryz.ntmps47
  go_wp2_with (first | ((with_reducible refine gate_callee (f := 63) rfl ?_); refine goesL_ (some 8) rfl rfl Tryz.func63 (by kernel_rfl) rfl #[.string a0] rfl ka ?_; (with_reducible refine (choose_Active.calls a0 t165 t166 t167 t168 t169 t170 _ A2.out).mono ?_); rintro e w4 ⟨rfl, hb⟩; refine ⟨_, rfl, ?_⟩; have n0_ := Aside0.mk (below_step (kb HB.out) hb); clear HB; have HB := n0_; clear n0_; (try clear hb); (try clear hb2); (try clear hk); (try clear hi)) | ((with_reducible refine gate_dst (N := 4) rfl ?_); refine box_event ?hg (N := 4) ?hd (cs := #[.int .i64 0, .int .i64 0, .int .i64 0, .int .i64 0, .int .i64 0]) (t := 68) ?hr ?_; (case hd => rfl); (case hg => rfl); (case hr => first | (go_simp; done) | (go_simp; rfl)); intro gb171 hg w5 hbox hb; have n0_ := Aside0.mk (below_step (kb HB.out) hb); have n1_ := Aside0.mk (hbox); have n2_ := Aside0.mk ((kz hg (below_size (kb HB.out)) : w.heap.size ≤ gb171)); have n3_ := Aside0.mk ((kz hg (below_size (kb HB.out)) : w.heap.size ≤ gb171)); clear HB; have HB := n0_; have BK171 := n1_; have GW171 := n2_; have GE171 := n3_; clear n0_ n1_ n2_ n3_; clear hb hbox hg; obtain ⟨hcz6_0, hcz6_1, hcz6_2, hcz6_3, hcz6_4⟩ := kc5 BK171.out; obtain ⟨hfz6_0, hfz6_1, hfz6_2, hfz6_3, hfz6_4⟩ := kf5 BK171.out))
  go_ret2
  exact ⟨by first | rfl | (simp [errW_none, errW_some] <;> rfl) | (simp [*, errW_none, errW_some] <;> rfl), kb1 HB.out GE171.out⟩
 ·rw [if_neg c3] at H
  have c3b0 : (t170 == 700) = false := beq_eq_false_iff_ne.mpr c3
  have c3b1 : (t170 != 700) = true := bne_iff_ne.mpr c3
  by_cases c7 : t170 = 0
  case neg =>
   rw [if_neg c7] at H
   have c7b0 : (t170 == 0) = false := beq_eq_false_iff_ne.mpr c7
   have c7b1 : (t170 != 0) = true := bne_iff_ne.mpr c7
   simp only [Option.some.injEq, Prod.mk.injEq] at H
   obtain ⟨rfl, rfl⟩ := H
   go_enter Tryz.func47, Tryz.ntmps47
   go_wp2_with (first | ((with_reducible refine gate_callee (f := 63) rfl ?_); refine goesL_ (some 8) rfl rfl Tryz.func63 (by kernel_rfl) rfl #[.string a0] rfl ka ?_; (with_reducible refine (choose_Active.calls a0 t165 t166 t167 t168 t169 t170 _ A2.out).mono ?_); rintro e w11 ⟨rfl, hb⟩; refine ⟨_, rfl, ?_⟩; have n0_ := Aside0.mk (below_step (kb HB.out) hb); clear HB; have HB := n0_; clear n0_; (try clear hb); (try clear hb2); (try clear hk); (try clear hi)) | ((with_reducible refine gate_dst (N := 4) rfl ?_); refine box_event ?hg (N := 4) ?hd (cs := #[.int .i64 0, .int .i64 0, .int .i64 0, .int .i64 0, .int .i64 0]) (t := 68) ?hr ?_; (case hd => rfl); (case hg => rfl); (case hr => first | (go_simp; done) | (go_simp; rfl)); intro gb171 hg w12 hbox hb; have n0_ := Aside0.mk (below_step (kb HB.out) hb); have n1_ := Aside0.mk (hbox); have n2_ := Aside0.mk ((kz hg (below_size (kb HB.out)) : w.heap.size ≤ gb171)); have n3_ := Aside0.mk ((kz hg (below_size (kb HB.out)) : w.heap.size ≤ gb171)); clear HB; have HB := n0_; have BK171 := n1_; have GW171 := n2_; have GE171 := n3_; clear n0_ n1_ n2_ n3_; clear hb hbox hg; obtain ⟨hcz13_0, hcz13_1, hcz13_2, hcz13_3, hcz13_4⟩ := kc5 BK171.out; obtain ⟨hfz13_0, hfz13_1, hfz13_2, hfz13_3, hfz13_4⟩ := kf5 BK171.out))
   go_ret2
   exact ⟨by first | rfl | (simp [errW_none, errW_some] <;> rfl) | (simp [*, errW_none, errW_some] <;> rfl), kb1 HB.out GE171.out⟩
  rw [if_pos c7] at H
  have c7b0 : (t170 == 0) = true := beq_iff_eq.mpr c7
  have c7b1 : (t170 != 0) = false := bne_eq_false_iff_eq.mpr c7
  clear c7
  simp only [Option.some.injEq, Prod.mk.injEq] at H
  obtain ⟨rfl, rfl⟩ := H
  go_enter Tryz.func47, Tryz.ntmps47
  go_wp2_with (first | ((with_reducible refine gate_callee (f := 63) rfl ?_); refine goesL_ (some 8) rfl rfl Tryz.func63 (by kernel_rfl) rfl #[.string a0] rfl ka ?_; (with_reducible refine (choose_Active.calls a0 t165 t166 t167 t168 t169 t170 _ A2.out).mono ?_); rintro e w8 ⟨rfl, hb⟩; refine ⟨_, rfl, ?_⟩; have n0_ := Aside0.mk (below_step (kb HB.out) hb); clear HB; have HB := n0_; clear n0_; (try clear hb); (try clear hb2); (try clear hk); (try clear hi)) | ((with_reducible refine gate_dst (N := 4) rfl ?_); refine box_event ?hg (N := 4) ?hd (cs := #[.int .i64 0, .int .i64 0, .int .i64 0, .int .i64 0, .int .i64 0]) (t := 68) ?hr ?_; (case hd => rfl); (case hg => rfl); (case hr => first | (go_simp; done) | (go_simp; rfl)); intro gb171 hg w9 hbox hb; have n0_ := Aside0.mk (below_step (kb HB.out) hb); have n1_ := Aside0.mk (hbox); have n2_ := Aside0.mk ((kz hg (below_size (kb HB.out)) : w.heap.size ≤ gb171)); have n3_ := Aside0.mk ((kz hg (below_size (kb HB.out)) : w.heap.size ≤ gb171)); clear HB; have HB := n0_; have BK171 := n1_; have GW171 := n2_; have GE171 := n3_; clear n0_ n1_ n2_ n3_; clear hb hbox hg; obtain ⟨hcz10_0, hcz10_1, hcz10_2, hcz10_3, hcz10_4⟩ := kc5 BK171.out; obtain ⟨hfz10_0, hfz10_1, hfz10_2, hfz10_3, hfz10_4⟩ := kf5 BK171.out))
  go_ret2
  exact ⟨by first | rfl | (simp [errW_none, errW_some] <;> rfl) | (simp [*, errW_none, errW_some] <;> rfl), kb1 HB.out GE171.out⟩

/-! ### stage_Erases: function 48 -/
def stage_Erases.l0 : Nat → Int → List (S41) → Int → Option ((List (S41)) × Int)
 | 0, _, _, _ => none
 | k + 1, x0, x4, x9 => if x9 < 3 then ((image_Sector.f x0).bind fun t173 => ((journal_Begin.f (wrap64 (t173 + x9))).bind fun t174 => (if x4.length < 4398046511104 then (stage_Erases.l0 k x0 (x4 ++ [(⟨true, t174, (⟨#[]⟩ : ByteArray)⟩ : S41)]) (wrap64 (x9 + 1))) else (none)))) else (some (x4, 0))
def stage_Erases.f (k : Nat) (a0 : Int) : Option ((List (S41)) × Int) := (entry_Slot.f a0).bind fun t172 => (if t172 = true then (stage_Erases.l0 k a0 ([] : List (S41)) 0) else (some (([] : List (S41)), 900)))
set_option maxHeartbeats 8000000 in
set_option maxRecDepth 100000 in
theorem stage_Erases.calls (k : Nat) (a0 : Int) (r1 : List (S41)) (r2 : Int) (w : World) (h : stage_Erases.f k a0 = some (r1, r2)) :
  Calls Tryz.prog 48 #[.int .i64 a0] w fun e w' => ∃ v0_ : Value, e = .returned (.tuple #[v0_, .int .i64 r2]) ∧ Kd.R k41 41 w' w.heap.size (fun _ => True) v0_ r1 ∧ Below w.heap.size w w' := by
 have hu41 := Tryz.underlying41
 have HB := Aside0.mk (Below.refl w.heap.size w)
 have H : ((entry_Slot.f a0).bind fun t172 => (if t172 = true then (stage_Erases.l0 k a0 ([] : List (S41)) 0) else (some (([] : List (S41)), 900)))) = some (r1, r2) := h
 clear h
 replace H := Option.bind_eq_some_iff.mp H
 obtain ⟨t172, A20, H⟩ := H
 replace H : (if t172 = true then (stage_Erases.l0 k a0 ([] : List (S41)) 0) else (some (([] : List (S41)), 900))) = some (r1, r2) := H
 have A2 := Aside0.mk A20
 clear A20
 by_cases c3 : t172 = true
 ·subst c3
  have H1 : (stage_Erases.l0 k a0 ([] : List (S41)) 0) = some (r1, r2) := by rw [if_pos rfl] at H; exact H
  clear H; have H := H1; clear H1
  have H' := Aside0.mk H
  clear H
  go_enter Tryz.func48, Tryz.ntmps48
  go_wp2_with (first | ((with_reducible refine gate_callee (f := 43) rfl ?_); refine goesL_ (some 7) rfl rfl Tryz.func43 (by kernel_rfl) rfl #[.int .i64 a0] rfl ka ?_; (with_reducible refine (entry_Slot.calls a0 true _ A2.out).mono ?_); rintro e w' ⟨rfl, ⟨nd, rfl⟩⟩; refine ⟨_, rfl, ?_⟩))
  go_loopg [4, 9] k (fun kq v4 v9 w' => ∃ (x4_1 : List (S41)) (x9_1 : Int), v9 = .int .i64 x9_1 ∧ Aside0 (stage_Erases.l0 kq a0 x4_1 x9_1 = some (r1, r2)) ∧ Aside0 (kq ≤ k) ∧ Aside0 (Kd.R k41 41 w' w.heap.size (fun _ => True) v4 x4_1) ∧ Aside0 (Below w.heap.size w w'))
  case atStart => exact ⟨(([] : List (S41))), (0), (by first | rfl | (simp; done) | (simp [*]; done)), H', ⟨Nat.le_refl _⟩, ⟨by first | exact Kd.R_nil _ _ _ _ _ | exact Kd.N_nil _ _ _ _ _ | exact Kd.V_nil _ _ _ _ _ | exact Kd.Q_nil _ _ _ _ _ | exact Kd.S_nil _ _ _ _ _⟩, ⟨kb HB.out⟩⟩
  case round =>
   clear H'
   try clear p2; try clear c3
   obtain ⟨x4_1, x9_1, rfl, HA, HK1, HO_4, HB⟩ := hrel
   cases gk with
   | zero => exact absurd HA.out (by simp [stage_Erases.l0])
   | succ k1 =>
    have H := HA.out
    clear HA
    simp only [stage_Erases.l0] at H
    by_cases c4 : x9_1 < 3
    case neg =>
     rw [if_neg c4] at H
     have c4b0 : decide (x9_1 < 3) = false := decide_eq_false c4
     clear c4
     simp only [Option.some.injEq, Prod.mk.injEq] at H
     obtain ⟨rfl, rfl⟩ := H
     go_wp2
     go_ret2
     exact ⟨_, by first | rfl | (simp [errW_none, errW_some] <;> rfl) | (simp [*, errW_none, errW_some] <;> rfl), kR HO_4.out, kb HB.out⟩
    rw [if_pos c4] at H
    have c4b0 : decide (x9_1 < 3) = true := decide_eq_true c4
    clear c4
    replace H := Option.bind_eq_some_iff.mp H
    obtain ⟨t173, A50, H⟩ := H
    replace H : ((journal_Begin.f (wrap64 (t173 + x9_1))).bind fun t174 => (if x4_1.length < 4398046511104 then (stage_Erases.l0 k1 a0 (x4_1 ++ [(⟨true, t174, (⟨#[]⟩ : ByteArray)⟩ : S41)]) (wrap64 (x9_1 + 1))) else (none))) = some (r1, r2) := H
    have A5 := Aside0.mk A50
    clear A50
    replace H := Option.bind_eq_some_iff.mp H
    obtain ⟨t174, A60, H⟩ := H
    replace H : (if x4_1.length < 4398046511104 then (stage_Erases.l0 k1 a0 (x4_1 ++ [(⟨true, t174, (⟨#[]⟩ : ByteArray)⟩ : S41)]) (wrap64 (x9_1 + 1))) else (none)) = some (r1, r2) := H
    have A6 := Aside0.mk A60
    clear A60
    by_cases c7 : x4_1.length < 4398046511104
    case neg =>
     rw [if_neg c7] at H
     exact absurd H (by simp)
    rw [if_pos c7] at H
    have LMc7 := Aside0.mk c7
    clear c7
    obtain ⟨y175, hy175⟩ : ∃ y_ : List (S41), y_ = (x4_1 ++ [(⟨true, t174, (⟨#[]⟩ : ByteArray)⟩ : S41)]) := ⟨_, rfl⟩
    replace H : (stage_Erases.l0 k1 a0 y175 (wrap64 (x9_1 + 1))) = some (r1, r2) := by first | (rw [hy175]; with_reducible exact H) | (have H2_ := (Option.bind_some _ _).symm.trans H; rw [hy175]; with_reducible exact H2_) | (have H2_ := (Option.bind_some _ _).symm.trans H; with_reducible exact H2_) | with_reducible exact H | (rw [hy175]; exact H) | exact H
    have Ny175 := Aside0.mk hy175
    clear hy175
    have H' := Aside0.mk H
    clear H
    go_wp2_with (first | ((with_reducible refine gate_callee (f := 65) rfl ?_); refine goesL_ (some 14) rfl rfl Tryz.func65 (by kernel_rfl) rfl #[.int .i64 a0] rfl ka ?_; (with_reducible refine (image_Sector.calls a0 t173 _ A5.out).mono ?_); rintro e w' ⟨rfl, ⟨nd, rfl⟩⟩; refine ⟨_, rfl, ?_⟩) | ((with_reducible refine gate_callee (f := 64) rfl ?_); refine goesL_ (some 17) rfl rfl Tryz.func64 (by kernel_rfl) rfl #[.int .i64 (wrap64 (t173 + x9_1))] rfl ka ?_; (with_reducible refine (journal_Begin.calls (wrap64 (t173 + x9_1)) t174 _ A6.out).mono ?_); rintro e w' ⟨rfl, ⟨nd, rfl⟩⟩; refine ⟨_, rfl, ?_⟩) | ((with_reducible refine gate_builtin (b := .append) (xs := #[.tmp 12, .tmp 19]) rfl ?_); at_builtin; refine Kd.R_append k41 (w0 := w) w.heap.size rfl (.tmp 12) (.tmp 19) 22 41 (.agg #[(.bool false), (.int .i64 0), (.string ⟨#[]⟩)]) 32 rfl Tryz.underlying22 info41 rfl (by decide) (by omega) u4 x4_1 (⟨true, t174, (⟨#[]⟩ : ByteArray)⟩ : S41) [.bool true, .int .i64 t174, .string (⟨#[]⟩ : ByteArray)] (fun _ => True) (fun _ => False) rfl rfl ?aP (fun _ hk => hk.elim) ?aF ?aO ?aB ?aS ?aL ?_; (case aP => exact k41_mkM _ _ _ (⟨true, t174, (⟨#[]⟩ : ByteArray)⟩ : S41)); (case aB => exact (kb HB.out)); (case aF => exact (fun _ _ => trivial)); (case aO => exact (kR HO_4.out)); (case aS => exact (below_size (kb HB.out))); (case aL => have := LMc7.out; omega); intro v176 w8 ho hb hg hat; rw [← Ny175.out] at ho; have n0_ := Aside0.mk (hb); have n1_ := Aside0.mk (ho); clear HB; clear HO_4; have HB := n0_; have HO177 := n1_; clear n0_ n1_; clear ho hb hg hat))
    go_roundg k1
    case measure => have := HK1.out; omega
    case rel => exact ⟨(y175), (wrap64 (x9_1 + 1)), (by first | rfl | (simp; done) | (simp [*]; done)), H', ⟨by have := HK1.out; omega⟩, ⟨kR HO177.out⟩, ⟨kb HB.out⟩⟩
 ·replace c3 := Bool.eq_false_iff.mpr c3
  subst c3
  have H1 : (some (([] : List (S41)), 900)) = some (r1, r2) := by rw [if_neg (show ¬ (false = true) by decide)] at H; exact H
  clear H; have H := H1; clear H1
  simp only [Option.some.injEq, Prod.mk.injEq] at H
  obtain ⟨rfl, rfl⟩ := H
  go_enter Tryz.func48, Tryz.ntmps48
  go_wp2_with (first | ((with_reducible refine gate_callee (f := 43) rfl ?_); refine goesL_ (some 7) rfl rfl Tryz.func43 (by kernel_rfl) rfl #[.int .i64 a0] rfl ka ?_; (with_reducible refine (entry_Slot.calls a0 false _ A2.out).mono ?_); rintro e w' ⟨rfl, ⟨nd, rfl⟩⟩; refine ⟨_, rfl, ?_⟩))
  go_ret2
  exact ⟨_, by first | rfl | (simp [errW_none, errW_some] <;> rfl) | (simp [*, errW_none, errW_some] <;> rfl), by first | exact Kd.R_nil _ _ _ _ _ | exact Kd.N_nil _ _ _ _ _ | exact Kd.V_nil _ _ _ _ _ | exact Kd.Q_nil _ _ _ _ _ | exact Kd.S_nil _ _ _ _ _, kb HB.out⟩

/-! ### strings_Repeat: function 79 -/
def strings_Repeat.f (a0 : ByteArray) (a1 : Int) : Option (ByteArray) := Skiff.repeats a0 a1
theorem strings_Repeat.calls (a0 : ByteArray) (a1 : Int) (r : ByteArray) (w : World) (h : strings_Repeat.f a0 a1 = some r) :
  Calls Tryz.prog 79 #[.string a0, .int .i64 a1] w fun e w' => e = .returned (.string r) ∧ Below w.heap.size w w' :=
 Go.Proofs.YthkpaoajfiapkaaGreat.g_strings_Repeat a0 a1 r w h

/-! ### ops_Words: function 67 -/
mutual
def ops_Words.j0 : Nat → Int → ByteArray → Bool → Option ((List (S41)) × Int)
 | 0, _, _, _ => none
 | k + 1, x0, x1, x25 => if x25 = true then (some (([] : List (S41)), 300)) else (ops_Words.l0 k x0 x1 ([] : List (S41)))
def ops_Words.l0 : Nat → Int → ByteArray → List (S41) → Option ((List (S41)) × Int)
 | 0, _, _, _ => none
 | k + 1, x0, x1, x6 => if x1.toList = ([] : List UInt8) then (some (x6, 0)) else (if 0 ≤ (mn (x1.size : Int) 4) then (if (mn (x1.size : Int) 4) ≤ (x1.size : Int) then (if 0 ≤ ((x1.extract 0 ((mn (x1.size : Int) 4) : Int).toNat).size : Int) then (if ((x1.extract 0 ((mn (x1.size : Int) 4) : Int).toNat).size : Int) ≤ (x1.size : Int) then ((strings_Repeat.f (⟨#[255]⟩ : ByteArray) (wrap64 (4 - ((x1.extract 0 ((mn (x1.size : Int) 4) : Int).toNat).size : Int)))).bind fun t178 => (if (x1.extract 0 ((mn (x1.size : Int) 4) : Int).toNat).size + t178.size ≤ 9223372036854775807 then (if x6.length < 4398046511104 then (ops_Words.l0 k (wrap64 (x0 + 4)) (x1.extract (((x1.extract 0 ((mn (x1.size : Int) 4) : Int).toNat).size : Int) : Int).toNat x1.size) (x6 ++ [(⟨false, x0, (x1.extract 0 ((mn (x1.size : Int) 4) : Int).toNat) ++ t178⟩ : S41)])) else (none)) else (none))) else (none)) else (none)) else (none)) else (none))
end
def ops_Words.f (k : Nat) (a0 : Int) (a1 : ByteArray) : Option ((List (S41)) × Int) := if a0 < 0 then (ops_Words.j0 k a0 a1 true) else (if a0 > 768 then (ops_Words.j0 k a0 a1 true) else (if (Int.tmod a0 4) = 0 then (ops_Words.j0 k a0 a1 (decide ((a1.size : Int) > (wrap64 (768 - a0))))) else (ops_Words.j0 k a0 a1 true)))
set_option maxHeartbeats 8000000 in
set_option maxRecDepth 100000 in
theorem ops_Words.calls (k : Nat) (a0 : Int) (a1 : ByteArray) (r1 : List (S41)) (r2 : Int) (w : World) (h : ops_Words.f k a0 a1 = some (r1, r2)) :
  Calls Tryz.prog 67 #[.int .i64 a0, .string a1] w fun e w' => ∃ v0_ : Value, e = .returned (.tuple #[v0_, .int .i64 r2]) ∧ Kd.R k41 41 w' w.heap.size (fun _ => True) v0_ r1 ∧ Below w.heap.size w w' := by
 have hu41 := Tryz.underlying41
 have HB := Aside0.mk (Below.refl w.heap.size w)
 have H : (if a0 < 0 then (ops_Words.j0 k a0 a1 true) else (if a0 > 768 then (ops_Words.j0 k a0 a1 true) else (if (Int.tmod a0 4) = 0 then (ops_Words.j0 k a0 a1 (decide ((a1.size : Int) > (wrap64 (768 - a0))))) else (ops_Words.j0 k a0 a1 true)))) = some (r1, r2) := h
 clear h
 have HC3 := Aside0.mk H
 clear H
 go_enter Tryz.func67, Tryz.ntmps67
 go_upto_region 1 with (fail)
 go_cut [25] (fun v25 wc => ∃ (kq : Nat) (x25_2 : Bool), v25 = .bool x25_2 ∧ Aside0 (ops_Words.j0 kq a0 a1 x25_2 = some (r1, r2)) ∧ Aside0 (kq ≤ k) ∧ Aside0 (Below w.heap.size w wc))
 case first =>
  have H := HC3.out
  clear HC3
  by_cases c4 : a0 < 0
  ·rw [if_pos c4] at H
   have c4b0 : decide (a0 < 0) = true := decide_eq_true c4
   clear c4
   (first | rw [c4b0] | rw [c4b1] | (simp only [i64_w, i32_w]; rw [c4b0]) | skip)
   have H' := Aside0.mk H
   clear H
   go_wp2
   go_meet
   case rel => exact ⟨_, (true), (by first | rfl | (simp; done) | (simp [*]; done)), H', ⟨by first | omega | exact Nat.le_refl _⟩, ⟨kb HB.out⟩⟩
  ·rw [if_neg c4] at H
   have c4b0 : decide (a0 < 0) = false := decide_eq_false c4
   clear c4
   (first | rw [c4b0] | rw [c4b1] | (simp only [i64_w, i32_w]; rw [c4b0]) | skip)
   by_cases c5 : a0 > 768
   ·rw [if_pos c5] at H
    have c5b0 : decide (768 < a0) = true := decide_eq_true c5
    clear c5
    have H' := Aside0.mk H
    clear H
    go_wp2
    go_meet
    case rel => exact ⟨_, (true), (by first | rfl | (simp; done) | (simp [*]; done)), H', ⟨by first | omega | exact Nat.le_refl _⟩, ⟨kb HB.out⟩⟩
   ·rw [if_neg c5] at H
    have c5b0 : decide (768 < a0) = false := decide_eq_false c5
    clear c5
    by_cases c6 : (Int.tmod a0 4) = 0
    case neg =>
     rw [if_neg c6] at H
     have c6b0 : ((Int.tmod a0 4) == 0) = false := beq_eq_false_iff_ne.mpr c6
     have c6b1 : ((Int.tmod a0 4) != 0) = true := bne_iff_ne.mpr c6
     have H' := Aside0.mk H
     clear H
     go_wp2
     go_meet
     case rel => exact ⟨_, (true), (by first | rfl | (simp; done) | (simp [*]; done)), H', ⟨by first | omega | exact Nat.le_refl _⟩, ⟨kb HB.out⟩⟩
    rw [if_pos c6] at H
    have c6b0 : ((Int.tmod a0 4) == 0) = true := beq_iff_eq.mpr c6
    have c6b1 : ((Int.tmod a0 4) != 0) = false := bne_eq_false_iff_eq.mpr c6
    clear c6
    have H' := Aside0.mk H
    clear H
    go_wp2
    go_meet
    case rel => exact ⟨_, (decide ((a1.size : Int) > (wrap64 (768 - a0)))), (by first | rfl | (simp; done) | (simp [*]; done)), H', ⟨by first | omega | exact Nat.le_refl _⟩, ⟨kb HB.out⟩⟩
 case rest =>
  clear HC3
  try clear p2; try clear c4; try clear c4b0; try clear c5; try clear c5b0; try clear c6; try clear c6b0; try clear c6b1; try clear p6
  obtain ⟨kq, x25_2, rfl, HA, HJ2, HB⟩ := hcut
  cases kq with
  | zero => exact absurd HA.out (by simp [ops_Words.j0])
  | succ kj2 =>
   have H := HA.out
   clear HA
   simp only [ops_Words.j0] at H
   by_cases c7 : x25_2 = true
   ·subst c7
    have H1 : (some (([] : List (S41)), 300)) = some (r1, r2) := by rw [if_pos rfl] at H; exact H
    clear H; have H := H1; clear H1
    simp only [Option.some.injEq, Prod.mk.injEq] at H
    obtain ⟨rfl, rfl⟩ := H
    go_wp2
    go_ret2
    exact ⟨_, by first | rfl | (simp [errW_none, errW_some] <;> rfl) | (simp [*, errW_none, errW_some] <;> rfl), by first | exact Kd.R_nil _ _ _ _ _ | exact Kd.N_nil _ _ _ _ _ | exact Kd.V_nil _ _ _ _ _ | exact Kd.Q_nil _ _ _ _ _ | exact Kd.S_nil _ _ _ _ _, kb HB.out⟩
   ·replace c7 := Bool.eq_false_iff.mpr c7
    subst c7
    have H1 : (ops_Words.l0 kj2 a0 a1 ([] : List (S41))) = some (r1, r2) := by rw [if_neg (show ¬ (false = true) by decide)] at H; exact H
    clear H; have H := H1; clear H1
    have H' := Aside0.mk H
    clear H
    go_wp2
    go_loopg [0, 1, 6] kj2 (fun kq v0 v1 v6 w' => ∃ (x0_2 : Int) (x1_2 : ByteArray) (x6_2 : List (S41)), v0 = .int .i64 x0_2 ∧ v1 = .string x1_2 ∧ Aside0 (ops_Words.l0 kq x0_2 x1_2 x6_2 = some (r1, r2)) ∧ Aside0 (kq ≤ kj2) ∧ Aside0 (Kd.R k41 41 w' w.heap.size (fun _ => True) v6 x6_2) ∧ Aside0 (Below w.heap.size w w'))
    case atStart => exact ⟨(a0), (a1), (([] : List (S41))), (by first | rfl | (simp; done) | (simp [*]; done)), (by first | rfl | (simp; done) | (simp [*]; done)), H', ⟨Nat.le_refl _⟩, ⟨by first | exact Kd.R_nil _ _ _ _ _ | exact Kd.N_nil _ _ _ _ _ | exact Kd.V_nil _ _ _ _ _ | exact Kd.Q_nil _ _ _ _ _ | exact Kd.S_nil _ _ _ _ _⟩, ⟨kb HB.out⟩⟩
    case round =>
     clear H'
     try clear p2; try clear c4; try clear c4b0; try clear c5; try clear c5b0; try clear c6; try clear c6b0; try clear c6b1; try clear p6; try clear c7; try clear p2; try clear p6
     obtain ⟨x0_2, x1_2, x6_2, rfl, rfl, HA, HK2, HO_6, HB⟩ := hrel
     cases gk with
     | zero => exact absurd HA.out (by simp [ops_Words.l0])
     | succ k2 =>
      have H := HA.out
      clear HA
      simp only [ops_Words.l0] at H
      by_cases c8 : x1_2.toList = ([] : List UInt8)
      ·rw [if_pos c8] at H
       have c8b0 : (x1_2.toList == ([] : List UInt8)) = true := beq_iff_eq.mpr c8
       have c8b1 : (x1_2.toList != ([] : List UInt8)) = false := bne_eq_false_iff_eq.mpr c8
       clear c8
       simp only [Option.some.injEq, Prod.mk.injEq] at H
       obtain ⟨rfl, rfl⟩ := H
       go_wp2
       go_ret2
       exact ⟨_, by first | rfl | (simp [errW_none, errW_some] <;> rfl) | (simp [*, errW_none, errW_some] <;> rfl), kR HO_6.out, kb HB.out⟩
      ·rw [if_neg c8] at H
       have c8b0 : (x1_2.toList == ([] : List UInt8)) = false := beq_eq_false_iff_ne.mpr c8
       have c8b1 : (x1_2.toList != ([] : List UInt8)) = true := bne_iff_ne.mpr c8
       obtain ⟨ji9, hji9⟩ : ∃ j_ : Int, (mn (x1_2.size : Int) 4) = j_ := ⟨_, rfl⟩
       replace H : (if 0 ≤ (ji9) then (if (ji9) ≤ (x1_2.size : Int) then (if 0 ≤ ((x1_2.extract 0 ((ji9) : Int).toNat).size : Int) then (if ((x1_2.extract 0 ((ji9) : Int).toNat).size : Int) ≤ (x1_2.size : Int) then ((strings_Repeat.f (⟨#[255]⟩ : ByteArray) (wrap64 (4 - ((x1_2.extract 0 ((ji9) : Int).toNat).size : Int)))).bind fun t178 => (if (x1_2.extract 0 ((ji9) : Int).toNat).size + t178.size ≤ 9223372036854775807 then (if x6_2.length < 4398046511104 then (ops_Words.l0 k2 (wrap64 (x0_2 + 4)) (x1_2.extract (((x1_2.extract 0 ((ji9) : Int).toNat).size : Int) : Int).toNat x1_2.size) (x6_2 ++ [(⟨false, x0_2, (x1_2.extract 0 ((ji9) : Int).toNat) ++ t178⟩ : S41)])) else (none)) else (none))) else (none)) else (none)) else (none)) else (none)) = some (r1, r2) := by first | (rw [hji9] at H; exact H) | (simp only [hji9] at H ⊢; exact H)
       have hji9_ : (if 4 < (x1_2.size : Int) then 4 else (x1_2.size : Int)) = ji9 := hji9
       by_cases c10 : 0 ≤ (ji9)
       case neg =>
        rw [if_neg c10] at H
        exact absurd H (by simp)
       rw [if_pos c10] at H
       have c10b0 := eq_true c10
       have c10b1 : decide (0 ≤ (ji9)) = true := decide_eq_true c10
       clear c10
       by_cases c11 : (ji9) ≤ (x1_2.size : Int)
       case neg =>
        rw [if_neg c11] at H
        exact absurd H (by simp)
       rw [if_pos c11] at H
       have c11b0 := eq_true c11
       have c11b1 : decide ((ji9) ≤ (x1_2.size : Int)) = true := decide_eq_true c11
       clear c11
       by_cases c12 : 0 ≤ ((x1_2.extract 0 ((ji9) : Int).toNat).size : Int)
       case neg =>
        rw [if_neg c12] at H
        exact absurd H (by simp)
       rw [if_pos c12] at H
       have c12b0 := eq_true c12
       have c12b1 : decide (0 ≤ ((x1_2.extract 0 ((ji9) : Int).toNat).size : Int)) = true := decide_eq_true c12
       clear c12
       by_cases c13 : ((x1_2.extract 0 ((ji9) : Int).toNat).size : Int) ≤ (x1_2.size : Int)
       case neg =>
        rw [if_neg c13] at H
        exact absurd H (by simp)
       rw [if_pos c13] at H
       have c13b0 := eq_true c13
       have c13b1 : decide (((x1_2.extract 0 ((ji9) : Int).toNat).size : Int) ≤ (x1_2.size : Int)) = true := decide_eq_true c13
       clear c13
       replace H := Option.bind_eq_some_iff.mp H
       obtain ⟨t178, A140, H⟩ := H
       replace H : (if (x1_2.extract 0 ((ji9) : Int).toNat).size + t178.size ≤ 9223372036854775807 then (if x6_2.length < 4398046511104 then (ops_Words.l0 k2 (wrap64 (x0_2 + 4)) (x1_2.extract (((x1_2.extract 0 ((ji9) : Int).toNat).size : Int) : Int).toNat x1_2.size) (x6_2 ++ [(⟨false, x0_2, (x1_2.extract 0 ((ji9) : Int).toNat) ++ t178⟩ : S41)])) else (none)) else (none)) = some (r1, r2) := H
       have A14 := Aside0.mk A140
       clear A140
       by_cases c15 : (x1_2.extract 0 ((ji9) : Int).toNat).size + t178.size ≤ 9223372036854775807
       case neg =>
        rw [if_neg c15] at H
        exact absurd H (by simp)
       rw [if_pos c15] at H
       have c15b0 := eq_true c15
       have c15b1 : decide ((x1_2.extract 0 ((ji9) : Int).toNat).size + t178.size ≤ 9223372036854775807) = true := decide_eq_true c15
       have cqy : 0 ≤ ji9 ∧ ji9 ≤ (x1_2.size : Int) := ⟨of_decide_eq_true c10b1, of_decide_eq_true c11b1⟩
       have cqz : ji9.toNat + t178.size ≤ 9223372036854775807 := by
        rw [ByteArray.size_extract] at c15
        omega
       have cqz2 := eq_false (Nat.not_lt.2 cqz)
       have cqm : (9223372036854775807 < min ji9.toNat x1_2.size + t178.size) = False := eq_false (by omega)
       have cqm2 : (9223372036854775807 < (max ji9 0).toNat + t178.size) = False := eq_false (by omega)
       have cqq : ((((x1_2.extract 0 ((ji9) : Int).toNat).size : Int)).toNat) = (max ji9 0).toNat := by rw [ByteArray.size_extract]; omega
       have cqQ := Aside0.mk cqq
       clear cqy cqz cqq
       try have c15b2 : (9223372036854775807 < (x1_2.extract 0 ((ji9) : Int).toNat).size + t178.size) = False := eq_false (Nat.not_lt.2 c15)
       by_cases c16 : x6_2.length < 4398046511104
       case neg =>
        rw [if_neg c16] at H
        exact absurd H (by simp)
       rw [if_pos c16] at H
       have LMc16 := Aside0.mk c16
       clear c16
       obtain ⟨y179, hy179⟩ : ∃ y_ : List (S41), y_ = (x6_2 ++ [(⟨false, x0_2, (x1_2.extract 0 ((ji9) : Int).toNat) ++ t178⟩ : S41)]) := ⟨_, rfl⟩
       replace H : (ops_Words.l0 k2 (wrap64 (x0_2 + 4)) (x1_2.extract (((x1_2.extract 0 ((ji9) : Int).toNat).size : Int) : Int).toNat x1_2.size) y179) = some (r1, r2) := by first | (rw [hy179]; with_reducible exact H) | (have H2_ := (Option.bind_some _ _).symm.trans H; rw [hy179]; with_reducible exact H2_) | (have H2_ := (Option.bind_some _ _).symm.trans H; with_reducible exact H2_) | with_reducible exact H | (rw [hy179]; exact H) | exact H
       have Ny179 := Aside0.mk hy179
       clear hy179
       have H' := Aside0.mk H
       clear H
       go_wp2_with (first | ((with_reducible refine gate_callee (f := 79) rfl ?_); refine goesL_ (some 43) rfl rfl Tryz.func79 (by kernel_rfl) rfl #[.string (⟨#[255]⟩ : ByteArray), .int .i64 (wrap64 (4 - ((x1_2.extract 0 ((ji9) : Int).toNat).size : Int)))] rfl (by (try simp only [List.map_toArray, List.map_cons, List.map_nil]); first | done | (simp only [hji9]; rfl) | rfl | (simp only [List.length_drop, List.length_take]; rfl) | (have y_ := of_decide_eq_true c10b1; have z_ := of_decide_eq_true c11b1; refine congrArg (fun z => #[(Value.string ⟨#[255]⟩), Value.int .i64 z]) (?_ : (4 - max ji9 0) = _); simp only [ByteArray.size_extract, wrap64]; omega)) ?_; (with_reducible refine (strings_Repeat.calls (⟨#[255]⟩ : ByteArray) (wrap64 (4 - ((x1_2.extract 0 ((ji9) : Int).toNat).size : Int))) t178 _ A14.out).mono ?_); rintro e w17 ⟨rfl, hb⟩; refine ⟨_, rfl, ?_⟩; have n0_ := Aside0.mk (Kd.R_below (kR HO_6.out) hb); have n1_ := Aside0.mk (below_step (kb HB.out) hb); clear HO_6; clear HB; have HO_6 := n0_; have HB := n1_; clear n0_ n1_; (try clear hb); (try clear hb2); (try clear hk); (try clear hi)) | ((with_reducible refine gate_builtin (b := .append) (xs := #[.tmp 37, .tmp 46]) rfl ?_); (try (refine gate_guard (by rfl) ?_; dsimp only)); at_builtin; refine Kd.R_append k41 (w0 := w) w.heap.size rfl (.tmp 37) (.tmp 46) 22 41 (.agg #[(.bool false), (.int .i64 0), (.string ⟨#[]⟩)]) 32 rfl Tryz.underlying22 info41 rfl (by decide) (by omega) u6 x6_2 (⟨false, x0_2, (x1_2.extract 0 ((ji9) : Int).toNat) ++ t178⟩ : S41) [.bool false, .int .i64 x0_2, .string ((x1_2.extract 0 ((ji9) : Int).toNat) ++ t178)] (fun _ => True) (fun _ => False) rfl rfl ?aP (fun _ hk => hk.elim) ?aF ?aO ?aB ?aS ?aL ?_; (case aP => exact k41_mkM _ _ _ (⟨false, x0_2, (x1_2.extract 0 ((ji9) : Int).toNat) ++ t178⟩ : S41)); (case aB => exact (kb HB.out)); (case aF => exact (fun _ _ => trivial)); (case aO => exact (kR HO_6.out)); (case aS => exact (below_size (kb HB.out))); (case aL => have := LMc16.out; omega); intro v180 w18 ho hb hg hat; rw [← Ny179.out] at ho; have n0_ := Aside0.mk (hb); have n1_ := Aside0.mk (ho); clear HB; clear HO_6; have HB := n0_; have HO181 := n1_; clear n0_ n1_; clear ho hb hg hat))
       go_roundg k2
       case measure => have := HJ2.out; have := HK2.out; omega
       case rel => exact ⟨(wrap64 (x0_2 + 4)), (x1_2.extract (((x1_2.extract 0 ((ji9) : Int).toNat).size : Int) : Int).toNat x1_2.size), (y179), (by first | rfl | (simp; done) | (simp [*]; done)), (by first | (rw [cqQ.out]; done) | (simp; done) | (simp only [← hji9] <;> (first | rfl | simp)) | (simp [*]; done)), H', ⟨by have := HJ2.out; have := HK2.out; omega⟩, ⟨kR HO181.out⟩, ⟨kb HB.out⟩⟩

/-! ### download_words: function 49 -/
def download_words.f (k : Nat) (a0 : Int) (a1 : Int) (a2 : ByteArray) : Option ((List (S41))) := (image_Base.f a0).bind fun bt182 => ((ops_Words.f k (wrap64 (bt182.1 + a1)) a2).bind fun bt184 => (some bt184.1))
set_option maxHeartbeats 8000000 in
set_option maxRecDepth 100000 in
theorem download_words.calls (k : Nat) (a0 : Int) (a1 : Int) (a2 : ByteArray) (r : List (S41)) (w : World) (h : download_words.f k a0 a1 a2 = some r) :
  Calls Tryz.prog 49 #[.int .i64 a0, .int .i64 a1, .string a2] w fun e w' => ∃ v0_ : Value, e = .returned (v0_) ∧ Kd.R k41 41 w' w.heap.size (fun _ => True) v0_ r ∧ Below w.heap.size w w' := by
 have HB := Aside0.mk (Below.refl w.heap.size w)
 have H : ((image_Base.f a0).bind fun bt182 => ((ops_Words.f k (wrap64 (bt182.1 + a1)) a2).bind fun bt184 => (some bt184.1))) = some r := h
 clear h
 replace H := Option.bind_eq_some_iff.mp H
 obtain ⟨⟨t182, t183⟩, A40, H⟩ := H
 replace H : ((ops_Words.f k (wrap64 (t182 + a1)) a2).bind fun bt184 => (some bt184.1)) = some r := H
 have A4 := Aside0.mk A40
 clear A40
 replace H := Option.bind_eq_some_iff.mp H
 obtain ⟨⟨t184, t185⟩, A50, H⟩ := H
 replace H : (some t184) = some r := H
 have A5 := Aside0.mk A50
 clear A50
 obtain rfl := Option.some.inj H
 go_enter Tryz.func49, Tryz.ntmps49
 go_wp2_with (first | ((with_reducible refine gate_callee (f := 66) rfl ?_); refine goesL_ (some 13) rfl rfl Tryz.func66 (by kernel_rfl) rfl #[.int .i64 a0] rfl ka ?_; (with_reducible refine (image_Base.calls a0 t182 t183 _ A4.out).mono ?_); rintro e w' ⟨rfl, ⟨nd, rfl⟩⟩; refine ⟨_, rfl, ?_⟩) | ((with_reducible refine gate_callee (f := 67) rfl ?_); refine goesL_ (some 21) rfl rfl Tryz.func67 (by kernel_rfl) rfl #[.int .i64 (wrap64 (t182 + a1)), .string a2] rfl ka ?_; (with_reducible refine (ops_Words.calls k (wrap64 (t182 + a1)) a2 t184 t185 _ A5.out).mono ?_); rintro e w6 ⟨v186, rfl, ho0, hb⟩; refine ⟨_, rfl, ?_⟩; have n0_ := Aside0.mk (Kd.R_lower ho0 (below_size (kb HB.out))); have n1_ := Aside0.mk (below_step (kb HB.out) hb); clear HB; have HO187 := n0_; have HB := n1_; clear n0_ n1_; (try clear hb); (try clear hb2); (try clear hk); (try clear hi); (try clear ho0)))
 go_ret
 exact ⟨_, by first | rfl | (simp [errW_none, errW_some] <;> rfl) | (simp [*, errW_none, errW_some] <;> rfl), kR HO187.out, kb HB.out⟩

/-! ### download_begin: function 23 -/
def download_begin.f (k : Nat) (a0 : ByteArray) (a1_0 : Int) (a1_1 : Int) (a1_2 : Int) (a1_3 : Int) (a1_4 : Int) (l1_5 : List (S41)) (a2 : Int) (a3 : ByteArray) : Option (Int × Int × Int × Int × Int × (List (S41))) := if a3.toList = ([] : List UInt8) then ((device_Failed.f 5).bind fun bt190 => (some (bt190.1, bt190.2.1, bt190.2.2.1, bt190.2.2.2.1, bt190.2.2.2.2.1, bt190.2.2.2.2.2))) else (if a2 = 0 then ((device_Copy.f a1_0 a1_1 a1_2 a1_3 a1_4 l1_5).bind fun bt206 => ((choose_Other.f a0).bind fun bt215 => ((stage_Erases.f k bt215.1).bind fun bt217 => ((download_words.f k bt215.1 0 a3).bind fun t221 => (if bt217.1.length + t221.length < 4398046511104 then (some (1, bt206.2.1, 1, (a3.size : Int), bt215.1, (bt217.1 ++ t221))) else (none)))))) else ((device_Failed.f 4).bind fun bt198 => (some (bt198.1, bt198.2.1, bt198.2.2.1, bt198.2.2.2.1, bt198.2.2.2.2.1, bt198.2.2.2.2.2))))
def download_begin.T9 : Bool × List (List Nat × List Nat) := (true, [([], []), ([0], [0]), ([], []), ([2], [2]), ([], []), ([3, 4], [3, 4]), ([1, 5, 5], [1, 5]), ([0, 1, 2, 3, 4, 5, 6], []), ([7, 6, 6, 0, 1, 2, 3, 4, 5, 6], [6, 7])])
def download_begin.B9 : List Nat := [0, 1, 0, 4, 0, 28, 63, 127, 255]
theorem download_begin.tab9 : rtab .any (opsOf Tryz.f23 9) = download_begin.T9 := by kernel_rfl
theorem download_begin.bits9 : waitsOk download_begin.T9.2 download_begin.B9 = true := by kernel_rfl
set_option maxHeartbeats 8000000 in
set_option maxRecDepth 100000 in
theorem download_begin.calls (k : Nat) (a0 : ByteArray) (a1_0 : Int) (a1_1 : Int) (a1_2 : Int) (a1_3 : Int) (a1_4 : Int) (A1_5 : Option Addr) (c1_5 : Nat) (l1_5 : List (S41)) (a2 : Int) (a3 : ByteArray) (r1 : Int) (r2 : Int) (r3 : Int) (r4 : Int) (r5 : Int) (r6 : List (S41)) (w : World) (hr1_5 : Kd.C k41 w A1_5 l1_5.length l1_5) (hc1_5 : l1_5.length ≤ c1_5) (h : download_begin.f k a0 a1_0 a1_1 a1_2 a1_3 a1_4 l1_5 a2 a3 = some (r1, r2, r3, r4, r5, r6)) :
  Calls Tryz.prog 23 #[.string a0, .agg #[.int .i64 a1_0, .int .i64 a1_1, .int .i64 a1_2, .int .i64 a1_3, .int .i64 a1_4, .slice A1_5 l1_5.length c1_5], .int .i64 a2, .string a3] w fun e w' => ∃ v5_ : Value, e = .returned (.agg #[.int .i64 r1, .int .i64 r2, .int .i64 r3, .int .i64 r4, .int .i64 r5, v5_]) ∧ Kd.R k41 41 w' w.heap.size (fun _ => True) v5_ r6 ∧ Below w.heap.size w w' := by
 have hu24 := Tryz.underlying24
 have HR1_5 := Aside0.mk hr1_5
 have HC1_5 := Aside0.mk hc1_5
 clear hr1_5 hc1_5
 have HB := Aside0.mk (Below.refl w.heap.size w)
 have H : (if a3.toList = ([] : List UInt8) then ((device_Failed.f 5).bind fun bt190 => (some (bt190.1, bt190.2.1, bt190.2.2.1, bt190.2.2.2.1, bt190.2.2.2.2.1, bt190.2.2.2.2.2))) else (if a2 = 0 then ((device_Copy.f a1_0 a1_1 a1_2 a1_3 a1_4 l1_5).bind fun bt206 => ((choose_Other.f a0).bind fun bt215 => ((stage_Erases.f k bt215.1).bind fun bt217 => ((download_words.f k bt215.1 0 a3).bind fun t221 => (if bt217.1.length + t221.length < 4398046511104 then (some (1, bt206.2.1, 1, (a3.size : Int), bt215.1, (bt217.1 ++ t221))) else (none)))))) else ((device_Failed.f 4).bind fun bt198 => (some (bt198.1, bt198.2.1, bt198.2.2.1, bt198.2.2.2.1, bt198.2.2.2.2.1, bt198.2.2.2.2.2))))) = some (r1, r2, r3, r4, r5, r6) := h
 clear h
 by_cases c5 : a3.toList = ([] : List UInt8)
 ·rw [if_pos c5] at H
  have c5b0 : (a3.toList == ([] : List UInt8)) = true := beq_iff_eq.mpr c5
  have c5b1 : (a3.toList != ([] : List UInt8)) = false := bne_eq_false_iff_eq.mpr c5
  clear c5
  replace H := Option.bind_eq_some_iff.mp H
  obtain ⟨⟨t190, t191, t192, t193, t194, t195⟩, A60, H⟩ := H
  replace H : (some (t190, t191, t192, t193, t194, t195)) = some (r1, r2, r3, r4, r5, r6) := H
  have A6 := Aside0.mk A60
  clear A60
  simp only [Option.some.injEq, Prod.mk.injEq] at H
  obtain ⟨rfl, rfl, rfl, rfl, rfl, rfl⟩ := H
  go_enter Tryz.func23, Tryz.ntmps23
  go_wp2_with (first | ((with_reducible refine gate_dst (N := 5) rfl ?_); refine box_event ?hg (N := 5) ?hd (cs := #[.int .i64 a1_0, .int .i64 a1_1, .int .i64 a1_2, .int .i64 a1_3, .int .i64 a1_4, .slice A1_5 l1_5.length c1_5]) (t := 24) ?hr ?_; (case hd => rfl); (case hg => rfl); (case hr => first | (go_simp; done) | (go_simp; rfl)); intro gb188 hg w7 hbox hb; have n0_ := Aside0.mk (below_step (kb HB.out) hb); have n1_ := Aside0.mk (hbox); have n2_ := Aside0.mk ((kz hg (below_size (kb HB.out)) : w.heap.size ≤ gb188)); have n3_ := Aside0.mk ((kz hg (below_size (kb HB.out)) : w.heap.size ≤ gb188)); clear HB; have HB := n0_; have BK188 := n1_; have GW188 := n2_; have GE188 := n3_; clear n0_ n1_ n2_ n3_; clear hb hbox hg) | ((with_reducible refine gate_dst (N := 8) rfl ?_); refine box_event ?hg (N := 8) ?hd (cs := #[.int .i64 0, .int .i64 0, .int .i64 0, .int .i64 0, .int .i64 0, .slice none 0 0]) (t := 24) ?hr ?_; (case hd => rfl); (case hg => rfl); (case hr => first | (go_simp; done) | (go_simp; rfl)); intro gb189 hg w8 hbox hb; have n0_ := Aside0.mk (kL BK188.out hb); have n1_ := Aside0.mk (below_step (kb1 HB.out GE188.out) hb); have n2_ := Aside0.mk (hbox); have n3_ := Aside0.mk ((kz hg (below_size (kb1 HB.out GE188.out)) : w.heap.size ≤ gb189)); have n4_ := Aside0.mk ((kz hg (below_size (kb1 HB.out GE188.out)) : w.heap.size ≤ gb189)); have n5_ := Aside0.mk ((kN hg BK188.out : gb188 ≠ gb189)); have n6_ := Aside0.mk (((kN hg BK188.out).symm : gb189 ≠ gb188)); clear BK188; clear HB; have BK188 := n0_; have HB := n1_; have BK189 := n2_; have GW189 := n3_; have GE189 := n4_; have NB188_189 := n5_; have NB189_188 := n6_; clear n0_ n1_ n2_ n3_ n4_ n5_ n6_; clear hb hbox hg) | ((with_reducible refine gate_callee (f := 45) rfl ?_); refine goesL_ (some 13) rfl rfl Tryz.func45 (by kernel_rfl) rfl #[.int .i64 5] rfl ka ?_; (with_reducible refine (device_Failed.calls 5 t190 t191 t192 t193 t194 t195 _ A6.out).mono ?_); rintro e w9 ⟨v196, rfl, ho0, hb⟩; refine ⟨_, rfl, ?_⟩; have n0_ := Aside0.mk (Kd.R_lower ho0 (below_size (kb2 HB.out GE188.out GE189.out))); have n1_ := Aside0.mk (kL BK188.out hb); have n2_ := Aside0.mk (kL BK189.out hb); have n3_ := Aside0.mk (below_step (kb2 HB.out GE188.out GE189.out) hb); clear BK188; clear BK189; clear HB; have HO197 := n0_; have BK188 := n1_; have BK189 := n2_; have HB := n3_; clear n0_ n1_ n2_ n3_; (try clear hb); (try clear hb2); (try clear hk); (try clear hi); (try clear ho0); have hnb10 := NB189_188.out; have hnc10 := NB188_189.out; obtain ⟨hcz11_0, hcz11_1, hcz11_2, hcz11_3, hcz11_4, hcz11_5⟩ := kc6 BK189.out; obtain ⟨hfz11_0, hfz11_1, hfz11_2, hfz11_3, hfz11_4, hfz11_5⟩ := kf6 BK189.out; obtain ⟨Ao12, co12, eo12⟩ := Kd.R_slice HO197.out; subst eo12))
  refine bodyPost_ret (results_cell_row rfl _ _ gb189 24 #[.int .i64 t190, .int .i64 t191, .int .i64 t192, .int .i64 t193, .int .i64 t194, .slice Ao12 t195.length co12] (0, 0) _ rfl (kP6 BK189.out) Tryz.underlying24 rfl (by kernel_rfl)) rfl ?_
  exact ⟨_, by first | rfl | (simp [errW_none, errW_some] <;> rfl) | (simp [*, errW_none, errW_some] <;> rfl), by (with_reducible repeat (first | apply Kd.R_alloc | apply Kd.R_drewN | apply Kd.R_drew)); exact Kd.R_mono (Kd.R_far (p := ⟨gb189, 5, none⟩) (Kd.R_far (p := ⟨gb189, 4, none⟩) (Kd.R_far (p := ⟨gb189, 3, none⟩) (Kd.R_far (p := ⟨gb189, 2, none⟩) (Kd.R_far (p := ⟨gb189, 1, none⟩) (Kd.R_far (p := ⟨gb189, 0, none⟩) (Kd.R_types HO197.out BK189.out (by decide)) (fun _ hk => hk.2) (.int .i64 t190)) (fun _ hk => hk.2) (.int .i64 t191)) (fun _ hk => hk.2) (.int .i64 t192)) (fun _ hk => hk.2) (.int .i64 t193)) (fun _ hk => hk.2) (.int .i64 t194)) (fun _ hk => hk.2) (.slice Ao12 t195.length co12)) (fun _ hk => trivial), kb2 HB.out GE188.out GE189.out⟩
 ·rw [if_neg c5] at H
  have c5b0 : (a3.toList == ([] : List UInt8)) = false := beq_eq_false_iff_ne.mpr c5
  have c5b1 : (a3.toList != ([] : List UInt8)) = true := bne_iff_ne.mpr c5
  by_cases c13 : a2 = 0
  ·rw [if_pos c13] at H
   have c13b0 : (a2 == 0) = true := beq_iff_eq.mpr c13
   have c13b1 : (a2 != 0) = false := bne_eq_false_iff_eq.mpr c13
   clear c13
   replace H := Option.bind_eq_some_iff.mp H
   obtain ⟨⟨t206, t207, t208, t209, t210, t211⟩, A140, H⟩ := H
   replace H : ((choose_Other.f a0).bind fun bt215 => ((stage_Erases.f k bt215.1).bind fun bt217 => ((download_words.f k bt215.1 0 a3).bind fun t221 => (if bt217.1.length + t221.length < 4398046511104 then (some (1, t207, 1, (a3.size : Int), bt215.1, (bt217.1 ++ t221))) else (none))))) = some (r1, r2, r3, r4, r5, r6) := H
   have A14 := Aside0.mk A140
   clear A140
   replace H := Option.bind_eq_some_iff.mp H
   obtain ⟨⟨t215, t216⟩, A150, H⟩ := H
   replace H : ((stage_Erases.f k t215).bind fun bt217 => ((download_words.f k t215 0 a3).bind fun t221 => (if bt217.1.length + t221.length < 4398046511104 then (some (1, t207, 1, (a3.size : Int), t215, (bt217.1 ++ t221))) else (none)))) = some (r1, r2, r3, r4, r5, r6) := H
   have A15 := Aside0.mk A150
   clear A150
   replace H := Option.bind_eq_some_iff.mp H
   obtain ⟨⟨t217, t218⟩, A160, H⟩ := H
   replace H : ((download_words.f k t215 0 a3).bind fun t221 => (if t217.length + t221.length < 4398046511104 then (some (1, t207, 1, (a3.size : Int), t215, (t217 ++ t221))) else (none))) = some (r1, r2, r3, r4, r5, r6) := H
   have A16 := Aside0.mk A160
   clear A160
   replace H := Option.bind_eq_some_iff.mp H
   obtain ⟨t221, A170, H⟩ := H
   replace H : (if t217.length + t221.length < 4398046511104 then (some (1, t207, 1, (a3.size : Int), t215, (t217 ++ t221))) else (none)) = some (r1, r2, r3, r4, r5, r6) := H
   have A17 := Aside0.mk A170
   clear A170
   by_cases c18 : t217.length + t221.length < 4398046511104
   case neg =>
    rw [if_neg c18] at H
    exact absurd H (by simp)
   rw [if_pos c18] at H
   have LMc18 := Aside0.mk c18
   clear c18
   obtain ⟨y224, hy224⟩ : ∃ y_ : List (S41), y_ = (t217 ++ t221) := ⟨_, rfl⟩
   replace H : (some (1, t207, 1, (a3.size : Int), t215, y224)) = some (r1, r2, r3, r4, r5, r6) := by first | (rw [hy224]; with_reducible exact H) | (have H2_ := (Option.bind_some _ _).symm.trans H; rw [hy224]; with_reducible exact H2_) | (have H2_ := (Option.bind_some _ _).symm.trans H; with_reducible exact H2_) | with_reducible exact H | (rw [hy224]; exact H) | exact H
   have Ny224 := Aside0.mk hy224
   clear hy224
   simp only [Option.some.injEq, Prod.mk.injEq] at H
   obtain ⟨rfl, rfl, rfl, rfl, rfl, rfl⟩ := H
   go_enter Tryz.func23, Tryz.ntmps23
   try go_wp2_with (first | ((with_reducible refine gate_dst (N := 5) rfl ?_); refine box_event ?hg (N := 5) ?hd (cs := #[.int .i64 a1_0, .int .i64 a1_1, .int .i64 a1_2, .int .i64 a1_3, .int .i64 a1_4, .slice A1_5 l1_5.length c1_5]) (t := 24) ?hr ?_; (case hd => rfl); (case hg => rfl); (case hr => first | (go_simp; done) | (go_simp; rfl)); intro gb188 hg w19 hbox hb; have n0_ := Aside0.mk (below_step (kb HB.out) hb); have n1_ := Aside0.mk (hbox); have n2_ := Aside0.mk ((kz hg (below_size (kb HB.out)) : w.heap.size ≤ gb188)); have n3_ := Aside0.mk ((kz hg (below_size (kb HB.out)) : w.heap.size ≤ gb188)); clear HB; have HB := n0_; have BK188 := n1_; have GW188 := n2_; have GE188 := n3_; clear n0_ n1_ n2_ n3_; clear hb hbox hg) | ((with_reducible refine gate_dst (N := 8) rfl ?_); refine box_event ?hg (N := 8) ?hd (cs := #[.int .i64 0, .int .i64 0, .int .i64 0, .int .i64 0, .int .i64 0, .slice none 0 0]) (t := 24) ?hr ?_; (case hd => rfl); (case hg => rfl); (case hr => first | (go_simp; done) | (go_simp; rfl)); intro gb189 hg w20 hbox hb; have n0_ := Aside0.mk (kL BK188.out hb); have n1_ := Aside0.mk (below_step (kb1 HB.out GE188.out) hb); have n2_ := Aside0.mk (hbox); have n3_ := Aside0.mk ((kz hg (below_size (kb1 HB.out GE188.out)) : w.heap.size ≤ gb189)); have n4_ := Aside0.mk ((kz hg (below_size (kb1 HB.out GE188.out)) : w.heap.size ≤ gb189)); have n5_ := Aside0.mk ((kN hg BK188.out : gb188 ≠ gb189)); have n6_ := Aside0.mk (((kN hg BK188.out).symm : gb189 ≠ gb188)); clear BK188; clear HB; have BK188 := n0_; have HB := n1_; have BK189 := n2_; have GW189 := n3_; have GE189 := n4_; have NB188_189 := n5_; have NB189_188 := n6_; clear n0_ n1_ n2_ n3_ n4_ n5_ n6_; clear hb hbox hg; have hnb21 := NB188_189.out; have hnc21 := NB189_188.out; obtain ⟨hcz22_0, hcz22_1, hcz22_2, hcz22_3, hcz22_4, hcz22_5⟩ := kc6 BK188.out; obtain ⟨hfz22_0, hfz22_1, hfz22_2, hfz22_3, hfz22_4, hfz22_5⟩ := kf6 BK188.out) | ((with_reducible refine gate_callee (f := 46) rfl ?_); refine goesL_ (some 19) rfl rfl Tryz.func46 (by kernel_rfl) rfl #[.agg #[.int .i64 a1_0, .int .i64 a1_1, .int .i64 a1_2, .int .i64 a1_3, .int .i64 a1_4, .slice A1_5 l1_5.length c1_5]] rfl ka ?_; (with_reducible refine (device_Copy.calls a1_0 a1_1 a1_2 a1_3 a1_4 _ _ l1_5 t206 t207 t208 t209 t210 t211 _ ?side1 ?side2 A14.out).mono ?_); (case side1 => exact kC (Kd.C_below HR1_5.out HB.out)); (case side2 => exact HC1_5.out); rintro e w23 ⟨v212, rfl, ho0, hb⟩; refine ⟨_, rfl, ?_⟩; have n0_ := Aside0.mk (Kd.R_lower ho0 (below_size (kb2 HB.out GE188.out GE189.out))); have n1_ := Aside0.mk (kL BK188.out hb); have n2_ := Aside0.mk (kL BK189.out hb); have n3_ := Aside0.mk (below_step (kb2 HB.out GE188.out GE189.out) hb); clear BK188; clear BK189; clear HB; have HO213 := n0_; have BK188 := n1_; have BK189 := n2_; have HB := n3_; clear n0_ n1_ n2_ n3_; (try clear hb); (try clear hb2); (try clear hk); (try clear hi); (try clear ho0)) | ((with_reducible refine gate_dst (N := 9) rfl ?_); refine box_event ?hg (N := 9) ?hd (cs := #[.int .i64 0, .int .i64 0, .int .i64 0, .int .i64 0, .int .i64 0, .slice none 0 0]) (t := 24) ?hr ?_; (case hd => rfl); (case hg => rfl); (case hr => first | (go_simp; done) | (go_simp; rfl)); intro gb214 hg w24 hbox hb; have n0_ := Aside0.mk (Kd.R_below (kR HO213.out) hb); have n1_ := Aside0.mk (kL BK188.out hb); have n2_ := Aside0.mk (kL BK189.out hb); have n3_ := Aside0.mk (below_step (kb2 HB.out GE188.out GE189.out) hb); have n4_ := Aside0.mk (hbox); have n5_ := Aside0.mk ((kz hg (below_size (kb2 HB.out GE188.out GE189.out)) : w.heap.size ≤ gb214)); have n6_ := Aside0.mk ((kz hg (below_size (kb2 HB.out GE188.out GE189.out)) : w.heap.size ≤ gb214)); have n7_ := Aside0.mk ((kN hg BK188.out : gb188 ≠ gb214)); have n8_ := Aside0.mk (((kN hg BK188.out).symm : gb214 ≠ gb188)); have n9_ := Aside0.mk ((kN hg BK189.out : gb189 ≠ gb214)); have n10_ := Aside0.mk (((kN hg BK189.out).symm : gb214 ≠ gb189)); clear HO213; clear BK188; clear BK189; clear HB; have HO213 := n0_; have BK188 := n1_; have BK189 := n2_; have HB := n3_; have BK214 := n4_; have GW214 := n5_; have GE214 := n6_; have NB188_214 := n7_; have NB214_188 := n8_; have NB189_214 := n9_; have NB214_189 := n10_; clear n0_ n1_ n2_ n3_ n4_ n5_ n6_ n7_ n8_ n9_ n10_; clear hb hbox hg; have hnb25 := NB214_188.out; have hnc25 := NB188_214.out; have hnb26 := NB214_189.out; have hnc26 := NB189_214.out; obtain ⟨hcz27_0, hcz27_1, hcz27_2, hcz27_3, hcz27_4, hcz27_5⟩ := kc6 BK214.out; obtain ⟨hfz27_0, hfz27_1, hfz27_2, hfz27_3, hfz27_4, hfz27_5⟩ := kf6 BK214.out; obtain ⟨Ao28, co28, eo28⟩ := Kd.R_slice HO213.out; subst eo28) | ((with_reducible refine gate_callee (f := 47) rfl ?_); refine goesL_ (some 27) rfl rfl Tryz.func47 (by kernel_rfl) rfl #[.string a0] rfl ka ?_; (with_reducible refine (choose_Other.calls a0 t215 t216 _ A15.out).mono ?_); rintro e w29 ⟨rfl, hb⟩; refine ⟨_, rfl, ?_⟩; have n0_ := Aside0.mk (Kd.R_below (by (with_reducible repeat (first | apply Kd.R_alloc | apply Kd.R_drewN | apply Kd.R_drew)); exact (Kd.R_mono (Kd.R_far (p := ⟨gb214, 3, none⟩) (Kd.R_far (p := ⟨gb214, 2, none⟩) (Kd.R_far (p := ⟨gb214, 0, none⟩) (Kd.R_far (p := ⟨gb214, 5, none⟩) (Kd.R_far (p := ⟨gb214, 4, none⟩) (Kd.R_far (p := ⟨gb214, 3, none⟩) (Kd.R_far (p := ⟨gb214, 2, none⟩) (Kd.R_far (p := ⟨gb214, 1, none⟩) (Kd.R_far (p := ⟨gb214, 0, none⟩) (Kd.R_types HO213.out BK214.out (by decide)) (fun _ hk => hk.2) (.int .i64 t206)) (fun _ hk => hk.2) (.int .i64 t207)) (fun _ hk => hk.2) (.int .i64 t208)) (fun _ hk => hk.2) (.int .i64 t209)) (fun _ hk => hk.2) (.int .i64 t210)) (fun _ hk => hk.2) (.slice Ao28 t211.length co28)) (fun _ hk => hk.2) (.int .i64 1)) (fun _ hk => hk.2) (.int .i64 1)) (fun _ hk => hk.2) (.int .i64 (a3.size : Int))) (fun _ h_ => h_.1))) hb); have n1_ := Aside0.mk (blk_below (g := gb188) (o := .cells #[.int .i64 a1_0, .int .i64 a1_1, .int .i64 a1_2, .int .i64 a1_3, .int .i64 a1_4, .slice A1_5 l1_5.length c1_5] 24 (0, 0)) (kFa9 BK188.out NB188_214.out) hb); have n2_ := Aside0.mk (blk_below (g := gb189) (o := .cells #[.int .i64 0, .int .i64 0, .int .i64 0, .int .i64 0, .int .i64 0, .slice none 0 0] 24 (0, 0)) (kFa9 BK189.out NB189_214.out) hb); have n3_ := Aside0.mk (blk_below (g := gb214) (o := .cells #[.int .i64 1, .int .i64 t207, .int .i64 1, .int .i64 (a3.size : Int), .int .i64 t210, .slice Ao28 t211.length co28] 24 (0, 0)) (by (with_reducible repeat (first | refine blk_drewN ?_ _ | refine blk_drew ?_ | refine blk_alloc ?_ _)); refine blk_put (cs := #[.int .i64 1, .int .i64 t207, .int .i64 1, .int .i64 t209, .int .i64 t210, .slice Ao28 t211.length co28]) ?_ 3 _ rfl; (with_reducible repeat (first | refine blk_drewN ?_ _ | refine blk_drew ?_ | refine blk_alloc ?_ _)); refine blk_put (cs := #[.int .i64 1, .int .i64 t207, .int .i64 t208, .int .i64 t209, .int .i64 t210, .slice Ao28 t211.length co28]) ?_ 2 _ rfl; (with_reducible repeat (first | refine blk_drewN ?_ _ | refine blk_drew ?_ | refine blk_alloc ?_ _)); refine blk_put (cs := #[.int .i64 t206, .int .i64 t207, .int .i64 t208, .int .i64 t209, .int .i64 t210, .slice Ao28 t211.length co28]) ?_ 0 _ rfl; (with_reducible repeat (first | refine blk_drewN ?_ _ | refine blk_drew ?_ | refine blk_alloc ?_ _)); refine blk_put (cs := #[.int .i64 t206, .int .i64 t207, .int .i64 t208, .int .i64 t209, .int .i64 t210, .slice none 0 0]) ?_ 5 _ rfl; (with_reducible repeat (first | refine blk_drewN ?_ _ | refine blk_drew ?_ | refine blk_alloc ?_ _)); refine blk_put (cs := #[.int .i64 t206, .int .i64 t207, .int .i64 t208, .int .i64 t209, .int .i64 0, .slice none 0 0]) ?_ 4 _ rfl; (with_reducible repeat (first | refine blk_drewN ?_ _ | refine blk_drew ?_ | refine blk_alloc ?_ _)); refine blk_put (cs := #[.int .i64 t206, .int .i64 t207, .int .i64 t208, .int .i64 0, .int .i64 0, .slice none 0 0]) ?_ 3 _ rfl; (with_reducible repeat (first | refine blk_drewN ?_ _ | refine blk_drew ?_ | refine blk_alloc ?_ _)); refine blk_put (cs := #[.int .i64 t206, .int .i64 t207, .int .i64 0, .int .i64 0, .int .i64 0, .slice none 0 0]) ?_ 2 _ rfl; (with_reducible repeat (first | refine blk_drewN ?_ _ | refine blk_drew ?_ | refine blk_alloc ?_ _)); refine blk_put (cs := #[.int .i64 t206, .int .i64 0, .int .i64 0, .int .i64 0, .int .i64 0, .slice none 0 0]) ?_ 1 _ rfl; (with_reducible repeat (first | refine blk_drewN ?_ _ | refine blk_drew ?_ | refine blk_alloc ?_ _)); refine blk_put (cs := #[.int .i64 0, .int .i64 0, .int .i64 0, .int .i64 0, .int .i64 0, .slice none 0 0]) ?_ 0 _ rfl; (with_reducible repeat (first | refine blk_drewN ?_ _ | refine blk_drew ?_ | refine blk_alloc ?_ _)); exact BK214.out) hb); have n4_ := Aside0.mk (below_step (kb3 HB.out GE188.out GE189.out GE214.out) hb); clear HO213; clear BK188; clear BK189; clear BK214; clear HB; have HO213 := n0_; have BK188 := n1_; have BK189 := n2_; have BK214 := n3_; have HB := n4_; clear n0_ n1_ n2_ n3_ n4_; (try clear hb); (try clear hb2); (try clear hk); (try clear hi); obtain ⟨hcz30_0, hcz30_1, hcz30_2, hcz30_3, hcz30_4, hcz30_5⟩ := kc6 BK214.out; obtain ⟨hfz30_0, hfz30_1, hfz30_2, hfz30_3, hfz30_4, hfz30_5⟩ := kf6 BK214.out) | ((with_reducible refine gate_callee (f := 48) rfl ?_); refine goesL_ (some 34) rfl rfl Tryz.func48 (by kernel_rfl) rfl #[.int .i64 t215] rfl ka ?_; (with_reducible refine (stage_Erases.calls k t215 t217 t218 _ A16.out).mono ?_); rintro e w31 ⟨v219, rfl, ho0, hb⟩; refine ⟨_, rfl, ?_⟩; have n0_ := Aside0.mk (Kd.R_elder' (by (with_reducible repeat (first | apply Kd.R_alloc | apply Kd.R_drewN | apply Kd.R_drew)); exact (Kd.R_mono (Kd.R_far (p := ⟨gb214, 4, none⟩) (Kd.R_types HO213.out BK214.out (by decide)) (fun _ hk => hk.2) (.int .i64 t215)) (fun _ h_ => h_.1))) (Kd.R_base ho0) hb); have n1_ := Aside0.mk (Kd.R_lower (Kd.R_new' ho0 (Kd.R_lt (by (with_reducible repeat (first | apply Kd.R_alloc | apply Kd.R_drewN | apply Kd.R_drew)); exact (Kd.R_mono (Kd.R_far (p := ⟨gb214, 4, none⟩) (Kd.R_types HO213.out BK214.out (by decide)) (fun _ hk => hk.2) (.int .i64 t215)) (fun _ h_ => h_.1))))) (below_size (kb3 HB.out GE188.out GE189.out GE214.out))); have n2_ := Aside0.mk (blk_below (g := gb188) (o := .cells #[.int .i64 a1_0, .int .i64 a1_1, .int .i64 a1_2, .int .i64 a1_3, .int .i64 a1_4, .slice A1_5 l1_5.length c1_5] 24 (0, 0)) (kFa1 BK188.out NB188_214.out) hb); have n3_ := Aside0.mk (blk_below (g := gb189) (o := .cells #[.int .i64 0, .int .i64 0, .int .i64 0, .int .i64 0, .int .i64 0, .slice none 0 0] 24 (0, 0)) (kFa1 BK189.out NB189_214.out) hb); have n4_ := Aside0.mk (blk_below (g := gb214) (o := .cells #[.int .i64 1, .int .i64 t207, .int .i64 1, .int .i64 (a3.size : Int), .int .i64 t215, .slice Ao28 t211.length co28] 24 (0, 0)) (by (with_reducible repeat (first | refine blk_drewN ?_ _ | refine blk_drew ?_ | refine blk_alloc ?_ _)); refine blk_put (cs := #[.int .i64 1, .int .i64 t207, .int .i64 1, .int .i64 (a3.size : Int), .int .i64 t210, .slice Ao28 t211.length co28]) ?_ 4 _ rfl; (with_reducible repeat (first | refine blk_drewN ?_ _ | refine blk_drew ?_ | refine blk_alloc ?_ _)); exact BK214.out) hb); have n5_ := Aside0.mk (below_step (kb3 HB.out GE188.out GE189.out GE214.out) hb); clear HO213; clear BK188; clear BK189; clear BK214; clear HB; have HO213 := n0_; have HO220 := n1_; have BK188 := n2_; have BK189 := n3_; have BK214 := n4_; have HB := n5_; clear n0_ n1_ n2_ n3_ n4_ n5_; (try clear hb); (try clear hb2); (try clear hk); (try clear hi); (try clear ho0); obtain ⟨Ao32, co32, eo32⟩ := Kd.R_slice HO220.out; subst eo32; obtain ⟨hcz33_0, hcz33_1, hcz33_2, hcz33_3, hcz33_4, hcz33_5⟩ := kc6 BK214.out; obtain ⟨hfz33_0, hfz33_1, hfz33_2, hfz33_3, hfz33_4, hfz33_5⟩ := kf6 BK214.out))
   have n0_ : Aside0 (Kd.R k41 41 (w31.setCell ⟨gb214, 5, none⟩ (.slice Ao32 t217.length co32)) w.heap.size (fun k_ => some k_ ≠ (.slice Ao32 t217.length co32 : Value).ownBlock) (.slice Ao28 t211.length co28) t211) := ⟨by (with_reducible repeat (first | apply Kd.R_alloc | apply Kd.R_drewN | apply Kd.R_drew)); exact Kd.R_mono (Kd.R_far (p := ⟨gb214, 5, none⟩) (Kd.R_types HO213.out BK214.out (by decide)) (fun _ hk => hk.2) (.slice Ao32 t217.length co32)) (fun _ hk => hk.1.2)⟩
   have n1_ : Aside0 (Kd.R k41 41 (w31.setCell ⟨gb214, 5, none⟩ (.slice Ao32 t217.length co32)) w.heap.size (fun k_ => some k_ ≠ (.slice Ao28 t211.length co28 : Value).ownBlock) (.slice Ao32 t217.length co32) t217) := ⟨by (with_reducible repeat (first | apply Kd.R_alloc | apply Kd.R_drewN | apply Kd.R_drew)); exact Kd.R_mono (Kd.R_far (p := ⟨gb214, 5, none⟩) (Kd.R_types HO220.out BK214.out (by decide)) (fun _ hk => hk.2) (.slice Ao32 t217.length co32)) (fun _ hk => hk.1.2)⟩
   have n2_ : Aside0 ((w31.setCell ⟨gb214, 5, none⟩ (.slice Ao32 t217.length co32)).heap[gb188]? = some (.cells #[.int .i64 a1_0, .int .i64 a1_1, .int .i64 a1_2, .int .i64 a1_3, .int .i64 a1_4, .slice A1_5 l1_5.length c1_5] 24 (0, 0))) := ⟨kFa1 BK188.out NB188_214.out⟩
   have n3_ : Aside0 ((w31.setCell ⟨gb214, 5, none⟩ (.slice Ao32 t217.length co32)).heap[gb189]? = some (.cells #[.int .i64 0, .int .i64 0, .int .i64 0, .int .i64 0, .int .i64 0, .slice none 0 0] 24 (0, 0))) := ⟨kFa1 BK189.out NB189_214.out⟩
   have n4_ : Aside0 ((w31.setCell ⟨gb214, 5, none⟩ (.slice Ao32 t217.length co32)).heap[gb214]? = some (.cells #[.int .i64 1, .int .i64 t207, .int .i64 1, .int .i64 (a3.size : Int), .int .i64 t215, .slice Ao32 t217.length co32] 24 (0, 0))) := ⟨by (with_reducible repeat (first | refine blk_drewN ?_ _ | refine blk_drew ?_ | refine blk_alloc ?_ _)); refine blk_put (cs := #[.int .i64 1, .int .i64 t207, .int .i64 1, .int .i64 (a3.size : Int), .int .i64 t215, .slice Ao28 t211.length co28]) ?_ 5 _ rfl; (with_reducible repeat (first | refine blk_drewN ?_ _ | refine blk_drew ?_ | refine blk_alloc ?_ _)); exact BK214.out⟩
   have n5_ : Aside0 (Below w.heap.size w (w31.setCell ⟨gb214, 5, none⟩ (.slice Ao32 t217.length co32))) := ⟨kb3 HB.out GE188.out GE189.out GE214.out⟩
   (try clear HO213)
   (try clear HO220)
   (try clear BK188)
   (try clear BK189)
   (try clear BK214)
   (try clear HB)
   generalize (w31.setCell ⟨gb214, 5, none⟩ (.slice Ao32 t217.length co32)) = w34 at n0_ n1_ n2_ n3_ n4_ n5_ ⊢
   have HO213 := n0_; have HO220 := n1_; have BK188 := n2_; have BK189 := n3_; have BK214 := n4_; have HB := n5_; clear n0_ n1_ n2_ n3_ n4_ n5_
   have n0_ := Aside0.mk (Kd.R_drew HO213.out)
   have n1_ := Aside0.mk (Kd.R_drew HO220.out)
   have n2_ := Aside0.mk (blk_drew BK188.out)
   have n3_ := Aside0.mk (blk_drew BK189.out)
   have n4_ := Aside0.mk (blk_drew BK214.out)
   have n5_ := Aside0.mk (below_drew1 HB.out)
   clear HO213 HO220 BK188 BK189 BK214 HB; have HO213 := n0_; have HO220 := n1_; have BK188 := n2_; have BK189 := n3_; have BK214 := n4_; have HB := n5_; clear n0_ n1_ n2_ n3_ n4_ n5_
   refine start_ (n := 9) (S := fun w' => w'.cell? ⟨gb214, 0, none⟩ = some (.int .i64 1) ∧ w'.cell? ⟨gb214, 1, none⟩ = some (.int .i64 t207) ∧ w'.cell? ⟨gb214, 2, none⟩ = some (.int .i64 1) ∧ w'.cell? ⟨gb214, 3, none⟩ = some (.int .i64 (a3.size : Int)) ∧ w'.cell? ⟨gb214, 4, none⟩ = some (.int .i64 t215) ∧ w'.cell? ⟨gb214, 5, none⟩ = some (.slice Ao32 t217.length co32)) (ds := [8]) #[false, false, false, false, false, false, false, false, false] (by kernel_rfl) rfl rfl ⟨(blk_cell BK214.out 0).trans rfl, (blk_cell BK214.out 1).trans rfl, (blk_cell BK214.out 2).trans rfl, (blk_cell BK214.out 3).trans rfl, (blk_cell BK214.out 4).trans rfl, (blk_cell BK214.out 5).trans rfl⟩ (fun hHeld => ?_); refine with_tabW download_begin.tab9 download_begin.bits9 (fun HT_ HW_ => ?_)
   generalize w34.drew = w35 at HO213 HO220 BK188 BK189 BK214 HB hHeld ⊢
   refine pure_ (i := 0) (N := some 38) (v := ?_) (a' := ?_) #[true, false, false, false, false, false, false, false, false] rfl rfl (any_of HT_.out (by kernel_rfl)) (fun _ _ _ h => h) (Or.inl ⟨by rfl, ?_⟩) ?_ ?_
   rotate_left
   ·intro w'
    go_simp
    with_reducible rfl
   rotate_left
   ·simp only [Act.put, List.setIfInBounds_toArray, List.set_cons_zero, List.set_cons_succ, i64_w, i32_w]
    rfl
   refine pure_ (i := 2) (N := some 40) (v := ?_) (a' := ?_) #[true, false, true, false, false, false, false, false, false] rfl rfl (any_of HT_.out (by kernel_rfl)) (fun _ _ _ h => h) (Or.inl ⟨by rfl, ?_⟩) ?_ ?_
   rotate_left
   ·intro w'
    go_simp
    with_reducible rfl
   rotate_left
   ·simp only [Act.put, List.setIfInBounds_toArray, List.set_cons_zero, List.set_cons_succ, i64_w, i32_w]
    rfl
   refine pure_ (i := 4) (N := some 42) (v := ?_) (a' := ?_) #[true, false, true, false, true, false, false, false, false] rfl rfl (any_of HT_.out (by kernel_rfl)) (fun _ _ _ h => h) (Or.inl ⟨by rfl, ?_⟩) ?_ ?_
   rotate_left
   ·intro w'
    go_simp
    with_reducible rfl
   rotate_left
   ·simp only [Act.put, List.setIfInBounds_toArray, List.set_cons_zero, List.set_cons_succ, i64_w, i32_w]
    rfl
   refine take_ (i := 1) (N := some 39) (v := ?_) (a' := ?_) #[true, true, true, false, true, false, false, false, false] rfl rfl (take_ofW HT_.out HW_.out (by kernel_rfl)) (fun _ _ _ h => h) (Or.inl ⟨by rfl, ?_⟩) hHeld ?_ ?_
   rotate_left
   ·rintro w' ⟨s0, s1, s2, s3, s4, s5⟩
    go_simp
    with_reducible rfl
   rotate_left
   ·simp only [Act.put, List.setIfInBounds_toArray, List.set_cons_zero, List.set_cons_succ, i64_w, i32_w]
    rfl
   refine take_ (i := 3) (N := some 41) (v := ?_) (a' := ?_) #[true, true, true, true, true, false, false, false, false] rfl rfl (take_ofW HT_.out HW_.out (by kernel_rfl)) (fun _ _ _ h => h) (Or.inl ⟨by rfl, ?_⟩) hHeld ?_ ?_
   rotate_left
   ·rintro w' ⟨s0, s1, s2, s3, s4, s5⟩
    go_simp
    with_reducible rfl
   rotate_left
   ·simp only [Act.put, List.setIfInBounds_toArray, List.set_cons_zero, List.set_cons_succ, i64_w, i32_w]
    rfl
   refine one_ (i := 5) (N := some 43) #[true, true, true, true, true, true, false, false, false] rfl rfl (one_of HT_.out (by kernel_rfl)) (by decide) (fun K hK => ?_)
   refine goes_ Tryz.func49 (by kernel_rfl) rfl #[.int .i64 t215, .int .i64 0, .string a3] (by rfl) rfl rfl ka ?_
   with_reducible refine (download_words.calls k t215 0 a3 t221 _ A17.out).mono ?_
   rintro e w36 ⟨v222, rfl, ho0, hb⟩
   refine ⟨_, rfl, ?_⟩
   have n0_ := Aside0.mk (Kd.R_elder' (kR HO213.out) (Kd.R_base ho0) hb)
   have n1_ := Aside0.mk (Kd.R_elder' (kR HO220.out) (Kd.R_base ho0) hb)
   have n2_ := Aside0.mk (Kd.R_lower (Kd.R_new' (Kd.R_new' ho0 (Kd.R_lt (kR HO213.out))) (Kd.R_lt (kR HO220.out))) (below_size (kb3 HB.out GE188.out GE189.out GE214.out)))
   have n3_ := Aside0.mk (kL BK188.out hb)
   have n4_ := Aside0.mk (kL BK189.out hb)
   have n5_ := Aside0.mk (kL BK214.out hb)
   have n6_ := Aside0.mk (below_step (kb3 HB.out GE188.out GE189.out GE214.out) hb)
   clear HO213 HO220 BK188 BK189 BK214 HB; have HO213 := n0_; have HO220 := n1_; have HO223 := n2_; have BK188 := n3_; have BK189 := n4_; have BK214 := n5_; have HB := n6_; clear n0_ n1_ n2_ n3_ n4_ n5_ n6_
   (try clear hb)
   (try clear hb2)
   (try clear hk)
   (try clear hi)
   (try clear ho0)
   obtain ⟨Ao38, co38, eo38⟩ := Kd.R_slice HO223.out
   (first | subst eo38 | (injection eo38 with f1_ f2_ f3_; have f4_ := f1_.symm; have f5_ := f3_.symm; clear f1_ f2_ f3_; subst f4_; subst f5_))
   refine hK.out _ _ ⟨(blk_cell BK214.out 0).trans rfl, (blk_cell BK214.out 1).trans rfl, (blk_cell BK214.out 2).trans rfl, (blk_cell BK214.out 3).trans rfl, (blk_cell BK214.out 4).trans rfl, (blk_cell BK214.out 5).trans rfl⟩ (fun hHeld => ?_)
   clear hK K
   refine norm_ (a' := ?_) ?_ ?_
   rotate_left
   ·show Act.put _ (some 43) _ = _
    simp only [Act.put, List.setIfInBounds_toArray, List.set_cons_zero, List.set_cons_succ, i64_w, i32_w]
    rfl
   refine one_ (i := 6) (N := some 44) #[true, true, true, true, true, true, true, false, false] rfl rfl (one_of HT_.out (by kernel_rfl)) (by decide) (fun K hK => ?_)
   refine Kd.R_append_rows_step k41 (w0 := w) w.heap.size (by rfl) (.tmp 39) (.tmp 43) 22 41 (.agg #[(.bool false), (.int .i64 0), (.string ⟨#[]⟩)]) 32 rfl Tryz.underlying22 info41 rfl (by decide) (by omega) (.slice Ao32 t217.length co32) t217 t221 _ _ _ (fun k_ => some k_ ≠ (.slice Ao28 t211.length co28 : Value).ownBlock ∧ some k_ ≠ (.slice Ao38 t221.length co38 : Value).ownBlock) (fun _ => False) rfl rfl ?aO ?aR (fun _ _ h => h) (fun _ h => h.elim) ?aF ?aB ?aS ?aL ?_
   (case aR => repeat (first | exact (Kd.R_reads' HO223.out).2.2 | (with_reducible refine Kd.C_alloc ?_ _) | (with_reducible refine Kd.C_drewN ?_ _) | (with_reducible refine Kd.C_drew ?_)))
   (case aB => exact (kb3 HB.out GE188.out GE189.out GE214.out))
   (case aF => exact (fun k_ hk => ⟨Kd.fresh' (Kd.R_lt (kR HO213.out)) k_ hk, Kd.fresh' (Kd.R_lt (kR HO223.out)) k_ hk⟩))
   (case aO => exact (kR HO220.out))
   (case aS => exact (below_size (kb3 HB.out GE188.out GE189.out GE214.out)))
   (case aL => have := LMc18.out; omega)
   intro v225 w37 ho hb hg hat
   rw [← Ny224.out] at ho
   have n0_ := Aside0.mk (blk_grown (g := gb188) (o := .cells #[.int .i64 a1_0, .int .i64 a1_1, .int .i64 a1_2, .int .i64 a1_3, .int .i64 a1_4, .slice A1_5 l1_5.length c1_5] 24 (0, 0)) (kB BK188.out) hg (Kd.R_ne HO220.out BK188.out (by decide)))
   have n1_ := Aside0.mk (blk_grown (g := gb189) (o := .cells #[.int .i64 0, .int .i64 0, .int .i64 0, .int .i64 0, .int .i64 0, .slice none 0 0] 24 (0, 0)) (kB BK189.out) hg (Kd.R_ne HO220.out BK189.out (by decide)))
   have n2_ := Aside0.mk (Kd.R_after (ok := (fun k_ => some k_ ≠ (.slice Ao38 t221.length co38 : Value).ownBlock)) (by (with_reducible repeat (first | apply Kd.R_alloc | apply Kd.R_drewN | apply Kd.R_drew)); exact Kd.R_mono HO213.out (fun _ hk => ⟨hk.2, hk.1⟩)) hg hat)
   have n3_ := Aside0.mk (blk_grown (g := gb214) (o := .cells #[.int .i64 1, .int .i64 t207, .int .i64 1, .int .i64 (a3.size : Int), .int .i64 t215, .slice Ao32 t217.length co32] 24 (0, 0)) (kB BK214.out) hg (Kd.R_ne HO220.out BK214.out (by decide)))
   have n4_ := Aside0.mk (Kd.R_after (ok := (fun k_ => some k_ ≠ (.slice Ao28 t211.length co28 : Value).ownBlock)) (by (with_reducible repeat (first | apply Kd.R_alloc | apply Kd.R_drewN | apply Kd.R_drew)); exact Kd.R_mono HO223.out (fun _ hk => ⟨hk.1.2, hk.2⟩)) hg hat)
   have n5_ := Aside0.mk (hb)
   have n6_ := Aside0.mk (ho)
   clear BK188 BK189 HO213 BK214 HO223 HB HO220; have BK188 := n0_; have BK189 := n1_; have HO213 := n2_; have BK214 := n3_; have HO223 := n4_; have HB := n5_; have HO226 := n6_; clear n0_ n1_ n2_ n3_ n4_ n5_ n6_ ho hb hg hat
   obtain ⟨Ao39, co39, eo39⟩ := Kd.R_slice HO226.out
   (first | subst eo39 | (injection eo39 with f1_ f2_ f3_; have f4_ := f1_.symm; have f5_ := f3_.symm; clear f1_ f2_ f3_; subst f4_; subst f5_))
   refine hK.out _ _ ⟨(blk_cell BK214.out 0).trans rfl, (blk_cell BK214.out 1).trans rfl, (blk_cell BK214.out 2).trans rfl, (blk_cell BK214.out 3).trans rfl, (blk_cell BK214.out 4).trans rfl, (blk_cell BK214.out 5).trans rfl⟩ (fun hHeld => ?_)
   clear hK K
   refine norm_ (a' := ?_) ?_ ?_
   rotate_left
   ·show Act.put _ (some 44) _ = _
    simp only [Act.put, List.setIfInBounds_toArray, List.set_cons_zero, List.set_cons_succ, i64_w, i32_w]
    rfl
   refine pure_ (i := 7) (N := some 45) (v := ?_) (a' := ?_) #[true, true, true, true, true, true, true, true, false] rfl rfl (any_of HT_.out (by kernel_rfl)) (fun _ _ _ h => h) (Or.inl ⟨by rfl, ?_⟩) ?_ ?_
   rotate_left
   ·intro w'
    go_simp
    with_reducible rfl
   rotate_left
   ·simp only [Act.put, List.setIfInBounds_toArray, List.set_cons_zero, List.set_cons_succ, i64_w, i32_w]
    rfl
   refine last_ (i := 8) (N := none) #[true, true, true, true, true, true, true, true, true] rfl rfl (one_of HT_.out (by kernel_rfl)) (by decide) (fun K hK => ?_)
   have hs40 : w37.cell? ⟨gb214, 5, none⟩ = some (.slice Ao32 t217.length co32) := (blk_cell BK214.out 5).trans rfl
   have hfs40 := blk_frozen BK214.out 5
   have hns40_0 := NB188_214.out
   have hns40_1 := NB189_214.out
   have hms40_0 := NB214_188.out
   have hms40_1 := NB214_189.out
   refine skip_ (w1 := ?_) (by rfl) rfl ?_ ?_
   rotate_left
   ·go_simp
    rfl
   refine hK.out _ _ ?_
   clear hK K
   refine done_ (done_of HT_.out (by kernel_rfl)) ?_
   obtain ⟨hcz41_0, hcz41_1, hcz41_2, hcz41_3, hcz41_4, hcz41_5⟩ := kc6 BK214.out
   obtain ⟨hfz41_0, hfz41_1, hfz41_2, hfz41_3, hfz41_4, hfz41_5⟩ := kf6 BK214.out
   obtain ⟨hcz42_0, hcz42_1, hcz42_2, hcz42_3, hcz42_4, hcz42_5⟩ := kc6 BK189.out
   obtain ⟨hfz42_0, hfz42_1, hfz42_2, hfz42_3, hfz42_4, hfz42_5⟩ := kf6 BK189.out
   try go_wp2
   refine bodyPost_ret (results_cell_row rfl _ _ gb189 24 #[.int .i64 1, .int .i64 t207, .int .i64 1, .int .i64 (a3.size : Int), .int .i64 t215, .slice Ao39 y224.length co39] (0, 0) _ rfl (by (with_reducible repeat (first | refine blk_drewN ?_ _ | refine blk_drew ?_ | refine blk_alloc ?_ _)); refine blk_put (cs := #[.int .i64 1, .int .i64 t207, .int .i64 1, .int .i64 (a3.size : Int), .int .i64 t215, .slice none 0 0]) ?_ 5 _ rfl; (with_reducible repeat (first | refine blk_drewN ?_ _ | refine blk_drew ?_ | refine blk_alloc ?_ _)); refine blk_put (cs := #[.int .i64 1, .int .i64 t207, .int .i64 1, .int .i64 (a3.size : Int), .int .i64 0, .slice none 0 0]) ?_ 4 _ rfl; (with_reducible repeat (first | refine blk_drewN ?_ _ | refine blk_drew ?_ | refine blk_alloc ?_ _)); refine blk_put (cs := #[.int .i64 1, .int .i64 t207, .int .i64 1, .int .i64 0, .int .i64 0, .slice none 0 0]) ?_ 3 _ rfl; (with_reducible repeat (first | refine blk_drewN ?_ _ | refine blk_drew ?_ | refine blk_alloc ?_ _)); refine blk_put (cs := #[.int .i64 1, .int .i64 t207, .int .i64 0, .int .i64 0, .int .i64 0, .slice none 0 0]) ?_ 2 _ rfl; (with_reducible repeat (first | refine blk_drewN ?_ _ | refine blk_drew ?_ | refine blk_alloc ?_ _)); refine blk_put (cs := #[.int .i64 1, .int .i64 0, .int .i64 0, .int .i64 0, .int .i64 0, .slice none 0 0]) ?_ 1 _ rfl; (with_reducible repeat (first | refine blk_drewN ?_ _ | refine blk_drew ?_ | refine blk_alloc ?_ _)); refine blk_put (cs := #[.int .i64 0, .int .i64 0, .int .i64 0, .int .i64 0, .int .i64 0, .slice none 0 0]) ?_ 0 _ rfl; (with_reducible repeat (first | refine blk_drewN ?_ _ | refine blk_drew ?_ | refine blk_alloc ?_ _)); refine blk_far ?_ NB189_214.out _; (with_reducible repeat (first | refine blk_drewN ?_ _ | refine blk_drew ?_ | refine blk_alloc ?_ _)); exact BK189.out) Tryz.underlying24 rfl (by kernel_rfl)) rfl ?_
   exact ⟨_, by first | rfl | (simp [errW_none, errW_some] <;> rfl) | (simp [*, errW_none, errW_some] <;> rfl), by (with_reducible repeat (first | apply Kd.R_alloc | apply Kd.R_drewN | apply Kd.R_drew)); exact Kd.R_mono (Kd.R_far (p := ⟨gb189, 5, none⟩) (Kd.R_far (p := ⟨gb189, 4, none⟩) (Kd.R_far (p := ⟨gb189, 3, none⟩) (Kd.R_far (p := ⟨gb189, 2, none⟩) (Kd.R_far (p := ⟨gb189, 1, none⟩) (Kd.R_far (p := ⟨gb189, 0, none⟩) (Kd.R_far (p := ⟨gb214, 5, none⟩) (Kd.R_types (Kd.R_types HO226.out BK214.out (by decide)) BK189.out (by decide)) (fun _ hk => hk.1.2) (.slice Ao39 y224.length co39)) (fun _ hk => hk.2) (.int .i64 1)) (fun _ hk => hk.2) (.int .i64 t207)) (fun _ hk => hk.2) (.int .i64 1)) (fun _ hk => hk.2) (.int .i64 (a3.size : Int))) (fun _ hk => hk.2) (.int .i64 t215)) (fun _ hk => hk.2) (.slice Ao39 y224.length co39)) (fun _ hk => trivial), kb3 HB.out GE188.out GE189.out GE214.out⟩
  ·rw [if_neg c13] at H
   have c13b0 : (a2 == 0) = false := beq_eq_false_iff_ne.mpr c13
   have c13b1 : (a2 != 0) = true := bne_iff_ne.mpr c13
   replace H := Option.bind_eq_some_iff.mp H
   obtain ⟨⟨t198, t199, t200, t201, t202, t203⟩, A430, H⟩ := H
   replace H : (some (t198, t199, t200, t201, t202, t203)) = some (r1, r2, r3, r4, r5, r6) := H
   have A43 := Aside0.mk A430
   clear A430
   simp only [Option.some.injEq, Prod.mk.injEq] at H
   obtain ⟨rfl, rfl, rfl, rfl, rfl, rfl⟩ := H
   go_enter Tryz.func23, Tryz.ntmps23
   go_wp2_with (first | ((with_reducible refine gate_dst (N := 5) rfl ?_); refine box_event ?hg (N := 5) ?hd (cs := #[.int .i64 a1_0, .int .i64 a1_1, .int .i64 a1_2, .int .i64 a1_3, .int .i64 a1_4, .slice A1_5 l1_5.length c1_5]) (t := 24) ?hr ?_; (case hd => rfl); (case hg => rfl); (case hr => first | (go_simp; done) | (go_simp; rfl)); intro gb188 hg w44 hbox hb; have n0_ := Aside0.mk (below_step (kb HB.out) hb); have n1_ := Aside0.mk (hbox); have n2_ := Aside0.mk ((kz hg (below_size (kb HB.out)) : w.heap.size ≤ gb188)); have n3_ := Aside0.mk ((kz hg (below_size (kb HB.out)) : w.heap.size ≤ gb188)); clear HB; have HB := n0_; have BK188 := n1_; have GW188 := n2_; have GE188 := n3_; clear n0_ n1_ n2_ n3_; clear hb hbox hg) | ((with_reducible refine gate_dst (N := 8) rfl ?_); refine box_event ?hg (N := 8) ?hd (cs := #[.int .i64 0, .int .i64 0, .int .i64 0, .int .i64 0, .int .i64 0, .slice none 0 0]) (t := 24) ?hr ?_; (case hd => rfl); (case hg => rfl); (case hr => first | (go_simp; done) | (go_simp; rfl)); intro gb189 hg w45 hbox hb; have n0_ := Aside0.mk (kL BK188.out hb); have n1_ := Aside0.mk (below_step (kb1 HB.out GE188.out) hb); have n2_ := Aside0.mk (hbox); have n3_ := Aside0.mk ((kz hg (below_size (kb1 HB.out GE188.out)) : w.heap.size ≤ gb189)); have n4_ := Aside0.mk ((kz hg (below_size (kb1 HB.out GE188.out)) : w.heap.size ≤ gb189)); have n5_ := Aside0.mk ((kN hg BK188.out : gb188 ≠ gb189)); have n6_ := Aside0.mk (((kN hg BK188.out).symm : gb189 ≠ gb188)); clear BK188; clear HB; have BK188 := n0_; have HB := n1_; have BK189 := n2_; have GW189 := n3_; have GE189 := n4_; have NB188_189 := n5_; have NB189_188 := n6_; clear n0_ n1_ n2_ n3_ n4_ n5_ n6_; clear hb hbox hg) | ((with_reducible refine gate_callee (f := 45) rfl ?_); refine goesL_ (some 17) rfl rfl Tryz.func45 (by kernel_rfl) rfl #[.int .i64 4] rfl ka ?_; (with_reducible refine (device_Failed.calls 4 t198 t199 t200 t201 t202 t203 _ A43.out).mono ?_); rintro e w46 ⟨v204, rfl, ho0, hb⟩; refine ⟨_, rfl, ?_⟩; have n0_ := Aside0.mk (Kd.R_lower ho0 (below_size (kb2 HB.out GE188.out GE189.out))); have n1_ := Aside0.mk (kL BK188.out hb); have n2_ := Aside0.mk (kL BK189.out hb); have n3_ := Aside0.mk (below_step (kb2 HB.out GE188.out GE189.out) hb); clear BK188; clear BK189; clear HB; have HO205 := n0_; have BK188 := n1_; have BK189 := n2_; have HB := n3_; clear n0_ n1_ n2_ n3_; (try clear hb); (try clear hb2); (try clear hk); (try clear hi); (try clear ho0); have hnb47 := NB189_188.out; have hnc47 := NB188_189.out; obtain ⟨hcz48_0, hcz48_1, hcz48_2, hcz48_3, hcz48_4, hcz48_5⟩ := kc6 BK189.out; obtain ⟨hfz48_0, hfz48_1, hfz48_2, hfz48_3, hfz48_4, hfz48_5⟩ := kf6 BK189.out; obtain ⟨Ao49, co49, eo49⟩ := Kd.R_slice HO205.out; subst eo49))
   refine bodyPost_ret (results_cell_row rfl _ _ gb189 24 #[.int .i64 t198, .int .i64 t199, .int .i64 t200, .int .i64 t201, .int .i64 t202, .slice Ao49 t203.length co49] (0, 0) _ rfl (kP6 BK189.out) Tryz.underlying24 rfl (by kernel_rfl)) rfl ?_
   exact ⟨_, by first | rfl | (simp [errW_none, errW_some] <;> rfl) | (simp [*, errW_none, errW_some] <;> rfl), by (with_reducible repeat (first | apply Kd.R_alloc | apply Kd.R_drewN | apply Kd.R_drew)); exact Kd.R_mono (Kd.R_far (p := ⟨gb189, 5, none⟩) (Kd.R_far (p := ⟨gb189, 4, none⟩) (Kd.R_far (p := ⟨gb189, 3, none⟩) (Kd.R_far (p := ⟨gb189, 2, none⟩) (Kd.R_far (p := ⟨gb189, 1, none⟩) (Kd.R_far (p := ⟨gb189, 0, none⟩) (Kd.R_types HO205.out BK189.out (by decide)) (fun _ hk => hk.2) (.int .i64 t198)) (fun _ hk => hk.2) (.int .i64 t199)) (fun _ hk => hk.2) (.int .i64 t200)) (fun _ hk => hk.2) (.int .i64 t201)) (fun _ hk => hk.2) (.int .i64 t202)) (fun _ hk => hk.2) (.slice Ao49 t203.length co49)) (fun _ hk => trivial), kb2 HB.out GE188.out GE189.out⟩

end Go.Proofs.YthkpaoajfiapkaaGreat.P
end
section
namespace Go.Proofs.YthkpaoajfiapkaaGreat.P
open Go.RowKit Go.Proofs.YthkpaoajfiapkaaGreatW.PrintWords Go.Proofs.YthkpaoajfiapkaaGreatW.PrintLast Go.Proofs.YthkpaoajfiapkaaGreatW.PrintMore
attribute [local go_sem] max2_int min2_int max_two min_two max_three min_three max_four min_four   -- for this text's walks alone
set_option linter.unusedVariables false
set_option linter.unusedSimpArgs false

/-! ### download_more: function 24 -/
def download_more.j0 : Nat → ByteArray → Bool → Int → Int → Int → Int → Int → List (S41) → Int → Int → Int → Int → Int → List (S41) → Option (Int × Int × Int × Int × Int × (List (S41)))
 | 0, _, _, _, _, _, _, _, _, _, _, _, _, _, _ => none
 | k + 1, x2, x29, x228000, x228001, x228002, x228003, x228004, x228005, x238000, x238001, x238002, x238003, x238004, x238005 => if x29 = true then ((device_Failed.f 4).bind fun bt238 => (some (bt238.1, bt238.2.1, bt238.2.2.1, bt238.2.2.2.1, bt238.2.2.2.2.1, bt238.2.2.2.2.2))) else ((download_words.f k x228004 x228003 x2).bind fun t246 => (some (1, x238001, wrap64 (x228002 + 1), wrap64 (x228003 + (x2.size : Int)), x238004, t246)))
def download_more.f (k : Nat) (a0_0 : Int) (a0_1 : Int) (a0_2 : Int) (a0_3 : Int) (a0_4 : Int) (l0_5 : List (S41)) (a1 : Int) (a2 : ByteArray) : Option (Int × Int × Int × Int × Int × (List (S41))) := (device_Copy.f a0_0 a0_1 a0_2 a0_3 a0_4 l0_5).bind fun bt229 => (if a1 = (wrap64 (a0_2 - 1)) then (some (1, bt229.2.1, bt229.2.2.1, bt229.2.2.2.1, bt229.2.2.2.2.1, bt229.2.2.2.2.2)) else (if a1 = a0_2 then (if a2.toList = ([] : List UInt8) then (some (4, bt229.2.1, bt229.2.2.1, bt229.2.2.2.1, bt229.2.2.2.2.1, bt229.2.2.2.2.2)) else (if (Int.tmod a0_3 32) = 0 then (if (wrap64 (a0_3 + (a2.size : Int))) > 288 then (download_more.j0 k a2 true a0_0 a0_1 a0_2 a0_3 a0_4 l0_5 bt229.1 bt229.2.1 bt229.2.2.1 bt229.2.2.2.1 bt229.2.2.2.2.1 bt229.2.2.2.2.2) else (download_more.j0 k a2 (a0_2 == 16) a0_0 a0_1 a0_2 a0_3 a0_4 l0_5 bt229.1 bt229.2.1 bt229.2.2.1 bt229.2.2.2.1 bt229.2.2.2.2.1 bt229.2.2.2.2.2)) else (download_more.j0 k a2 true a0_0 a0_1 a0_2 a0_3 a0_4 l0_5 bt229.1 bt229.2.1 bt229.2.2.1 bt229.2.2.2.1 bt229.2.2.2.2.1 bt229.2.2.2.2.2))) else ((device_Failed.f 4).bind fun bt249 => (some (bt249.1, bt249.2.1, bt249.2.2.1, bt249.2.2.2.1, bt249.2.2.2.2.1, bt249.2.2.2.2.2)))))
def download_more.T12 : Bool × List (List Nat × List Nat) := (true, [([], []), ([0], [0]), ([1], [1]), ([], []), ([3], [3]), ([], []), ([5], [5]), ([4, 6], [4, 6]), ([], []), ([8], [8]), ([0, 1, 2, 8, 9], []), ([10, 2, 9, 0, 1, 2, 8, 9], [2, 10]), ([0, 1, 2, 3, 4, 5, 6, 7, 8, 9, 10, 11], []), ([12, 7, 11, 0, 1, 2, 3, 4, 5, 6, 7, 8, 9, 10, 11], [7, 12])])
def download_more.B12 : List Nat := [0, 1, 3, 0, 8, 0, 32, 120, 0, 256, 775, 1799, 4095, 8191]
theorem download_more.tab12 : rtab .any (opsOf Tryz.f24 12) = download_more.T12 := by kernel_rfl
theorem download_more.bits12 : waitsOk download_more.T12.2 download_more.B12 = true := by kernel_rfl
set_option maxHeartbeats 8000000 in
set_option maxRecDepth 100000 in
theorem download_more.calls (k : Nat) (a0_0 : Int) (a0_1 : Int) (a0_2 : Int) (a0_3 : Int) (a0_4 : Int) (A0_5 : Option Addr) (c0_5 : Nat) (l0_5 : List (S41)) (a1 : Int) (a2 : ByteArray) (r1 : Int) (r2 : Int) (r3 : Int) (r4 : Int) (r5 : Int) (r6 : List (S41)) (w : World) (hr0_5 : Kd.C k41 w A0_5 l0_5.length l0_5) (hc0_5 : l0_5.length ≤ c0_5) (h : download_more.f k a0_0 a0_1 a0_2 a0_3 a0_4 l0_5 a1 a2 = some (r1, r2, r3, r4, r5, r6)) :
  Calls Tryz.prog 24 #[.agg #[.int .i64 a0_0, .int .i64 a0_1, .int .i64 a0_2, .int .i64 a0_3, .int .i64 a0_4, .slice A0_5 l0_5.length c0_5], .int .i64 a1, .string a2] w fun e w' => ∃ v5_ : Value, e = .returned (.agg #[.int .i64 r1, .int .i64 r2, .int .i64 r3, .int .i64 r4, .int .i64 r5, v5_]) ∧ Kd.R k41 41 w' w.heap.size (fun _ => True) v5_ r6 ∧ Below w.heap.size w w' := by
 have hu24 := Tryz.underlying24
 have HR0_5 := Aside0.mk hr0_5
 have HC0_5 := Aside0.mk hc0_5
 clear hr0_5 hc0_5
 have HB := Aside0.mk (Below.refl w.heap.size w)
 have H : ((device_Copy.f a0_0 a0_1 a0_2 a0_3 a0_4 l0_5).bind fun bt229 => (if a1 = (wrap64 (a0_2 - 1)) then (some (1, bt229.2.1, bt229.2.2.1, bt229.2.2.2.1, bt229.2.2.2.2.1, bt229.2.2.2.2.2)) else (if a1 = a0_2 then (if a2.toList = ([] : List UInt8) then (some (4, bt229.2.1, bt229.2.2.1, bt229.2.2.2.1, bt229.2.2.2.2.1, bt229.2.2.2.2.2)) else (if (Int.tmod a0_3 32) = 0 then (if (wrap64 (a0_3 + (a2.size : Int))) > 288 then (download_more.j0 k a2 true a0_0 a0_1 a0_2 a0_3 a0_4 l0_5 bt229.1 bt229.2.1 bt229.2.2.1 bt229.2.2.2.1 bt229.2.2.2.2.1 bt229.2.2.2.2.2) else (download_more.j0 k a2 (a0_2 == 16) a0_0 a0_1 a0_2 a0_3 a0_4 l0_5 bt229.1 bt229.2.1 bt229.2.2.1 bt229.2.2.2.1 bt229.2.2.2.2.1 bt229.2.2.2.2.2)) else (download_more.j0 k a2 true a0_0 a0_1 a0_2 a0_3 a0_4 l0_5 bt229.1 bt229.2.1 bt229.2.2.1 bt229.2.2.2.1 bt229.2.2.2.2.1 bt229.2.2.2.2.2))) else ((device_Failed.f 4).bind fun bt249 => (some (bt249.1, bt249.2.1, bt249.2.2.1, bt249.2.2.2.1, bt249.2.2.2.2.1, bt249.2.2.2.2.2)))))) = some (r1, r2, r3, r4, r5, r6) := h
 clear h
 replace H := Option.bind_eq_some_iff.mp H
 obtain ⟨⟨t229, t230, t231, t232, t233, t234⟩, A40, H⟩ := H
 replace H : (if a1 = (wrap64 (a0_2 - 1)) then (some (1, t230, t231, t232, t233, t234)) else (if a1 = a0_2 then (if a2.toList = ([] : List UInt8) then (some (4, t230, t231, t232, t233, t234)) else (if (Int.tmod a0_3 32) = 0 then (if (wrap64 (a0_3 + (a2.size : Int))) > 288 then (download_more.j0 k a2 true a0_0 a0_1 a0_2 a0_3 a0_4 l0_5 t229 t230 t231 t232 t233 t234) else (download_more.j0 k a2 (a0_2 == 16) a0_0 a0_1 a0_2 a0_3 a0_4 l0_5 t229 t230 t231 t232 t233 t234)) else (download_more.j0 k a2 true a0_0 a0_1 a0_2 a0_3 a0_4 l0_5 t229 t230 t231 t232 t233 t234))) else ((device_Failed.f 4).bind fun bt249 => (some (bt249.1, bt249.2.1, bt249.2.2.1, bt249.2.2.2.1, bt249.2.2.2.2.1, bt249.2.2.2.2.2))))) = some (r1, r2, r3, r4, r5, r6) := H
 have A4 := Aside0.mk A40
 clear A40
 by_cases c5 : a1 = (wrap64 (a0_2 - 1))
 ·rw [if_pos c5] at H
  have c5b0 : (a1 == (wrap64 (a0_2 - 1))) = true := beq_iff_eq.mpr c5
  have c5b1 : (a1 != (wrap64 (a0_2 - 1))) = false := bne_eq_false_iff_eq.mpr c5
  clear c5
  simp only [Option.some.injEq, Prod.mk.injEq] at H
  obtain ⟨rfl, rfl, rfl, rfl, rfl, rfl⟩ := H
  go_enter Tryz.func24, Tryz.ntmps24
  go_wp2_with (first | ((with_reducible refine gate_dst (N := 3) rfl ?_); (try (refine gate_guard (by rfl) ?_; dsimp only)); refine box_event ?hg (N := 3) ?hd (cs := #[.int .i64 a0_0, .int .i64 a0_1, .int .i64 a0_2, .int .i64 a0_3, .int .i64 a0_4, .slice A0_5 l0_5.length c0_5]) (t := 24) ?hr ?_; (case hd => rfl); (case hg => rfl); (case hr => first | (go_simp; done) | (go_simp; rfl)); intro gb227 hg w6 hbox hb; have n0_ := Aside0.mk (below_step (kb HB.out) hb); have n1_ := Aside0.mk (hbox); have n2_ := Aside0.mk ((kz hg (below_size (kb HB.out)) : w.heap.size ≤ gb227)); have n3_ := Aside0.mk ((kz hg (below_size (kb HB.out)) : w.heap.size ≤ gb227)); clear HB; have HB := n0_; have BK227 := n1_; have GW227 := n2_; have GE227 := n3_; clear n0_ n1_ n2_ n3_; clear hb hbox hg) | ((with_reducible refine gate_dst (N := 6) rfl ?_); (try (refine gate_guard (by rfl) ?_; dsimp only)); refine box_event ?hg (N := 6) ?hd (cs := #[.int .i64 0, .int .i64 0, .int .i64 0, .int .i64 0, .int .i64 0, .slice none 0 0]) (t := 24) ?hr ?_; (case hd => rfl); (case hg => rfl); (case hr => first | (go_simp; done) | (go_simp; rfl)); intro gb228 hg w7 hbox hb; have n0_ := Aside0.mk (kL BK227.out hb); have n1_ := Aside0.mk (below_step (kb1 HB.out GE227.out) hb); have n2_ := Aside0.mk (hbox); have n3_ := Aside0.mk ((kz hg (below_size (kb1 HB.out GE227.out)) : w.heap.size ≤ gb228)); have n4_ := Aside0.mk ((kz hg (below_size (kb1 HB.out GE227.out)) : w.heap.size ≤ gb228)); have n5_ := Aside0.mk ((kN hg BK227.out : gb227 ≠ gb228)); have n6_ := Aside0.mk (((kN hg BK227.out).symm : gb228 ≠ gb227)); clear BK227; clear HB; have BK227 := n0_; have HB := n1_; have BK228 := n2_; have GW228 := n3_; have GE228 := n4_; have NB227_228 := n5_; have NB228_227 := n6_; clear n0_ n1_ n2_ n3_ n4_ n5_ n6_; clear hb hbox hg; have hnb8 := NB227_228.out; have hnc8 := NB228_227.out; obtain ⟨hcz9_0, hcz9_1, hcz9_2, hcz9_3, hcz9_4, hcz9_5⟩ := kc6 BK227.out; obtain ⟨hfz9_0, hfz9_1, hfz9_2, hfz9_3, hfz9_4, hfz9_5⟩ := kf6 BK227.out) | ((with_reducible refine gate_callee (f := 46) rfl ?_); refine goesL_ (some 9) rfl rfl Tryz.func46 (by kernel_rfl) rfl #[.agg #[.int .i64 a0_0, .int .i64 a0_1, .int .i64 a0_2, .int .i64 a0_3, .int .i64 a0_4, .slice A0_5 l0_5.length c0_5]] rfl ka ?_; (with_reducible refine (device_Copy.calls a0_0 a0_1 a0_2 a0_3 a0_4 _ _ l0_5 t229 t230 t231 t232 t233 t234 _ ?side1 ?side2 A4.out).mono ?_); (case side1 => exact kC (Kd.C_below HR0_5.out HB.out)); (case side2 => exact HC0_5.out); rintro e w10 ⟨v235, rfl, ho0, hb⟩; refine ⟨_, rfl, ?_⟩; have n0_ := Aside0.mk (Kd.R_lower ho0 (below_size (kb2 HB.out GE227.out GE228.out))); have n1_ := Aside0.mk (kL BK227.out hb); have n2_ := Aside0.mk (kL BK228.out hb); have n3_ := Aside0.mk (below_step (kb2 HB.out GE227.out GE228.out) hb); clear BK227; clear BK228; clear HB; have HO236 := n0_; have BK227 := n1_; have BK228 := n2_; have HB := n3_; clear n0_ n1_ n2_ n3_; (try clear hb); (try clear hb2); (try clear hk); (try clear hi); (try clear ho0)) | ((with_reducible refine gate_dst (N := 7) rfl ?_); (try (refine gate_guard (by rfl) ?_; dsimp only)); refine box_event ?hg (N := 7) ?hd (cs := #[.int .i64 0, .int .i64 0, .int .i64 0, .int .i64 0, .int .i64 0, .slice none 0 0]) (t := 24) ?hr ?_; (case hd => rfl); (case hg => rfl); (case hr => first | (go_simp; done) | (go_simp; rfl)); intro gb237 hg w11 hbox hb; have n0_ := Aside0.mk (Kd.R_below (kR HO236.out) hb); have n1_ := Aside0.mk (kL BK227.out hb); have n2_ := Aside0.mk (kL BK228.out hb); have n3_ := Aside0.mk (below_step (kb2 HB.out GE227.out GE228.out) hb); have n4_ := Aside0.mk (hbox); have n5_ := Aside0.mk ((kz hg (below_size (kb2 HB.out GE227.out GE228.out)) : w.heap.size ≤ gb237)); have n6_ := Aside0.mk ((kz hg (below_size (kb2 HB.out GE227.out GE228.out)) : w.heap.size ≤ gb237)); have n7_ := Aside0.mk ((kN hg BK227.out : gb227 ≠ gb237)); have n8_ := Aside0.mk (((kN hg BK227.out).symm : gb237 ≠ gb227)); have n9_ := Aside0.mk ((kN hg BK228.out : gb228 ≠ gb237)); have n10_ := Aside0.mk (((kN hg BK228.out).symm : gb237 ≠ gb228)); clear HO236; clear BK227; clear BK228; clear HB; have HO236 := n0_; have BK227 := n1_; have BK228 := n2_; have HB := n3_; have BK237 := n4_; have GW237 := n5_; have GE237 := n6_; have NB227_237 := n7_; have NB237_227 := n8_; have NB228_237 := n9_; have NB237_228 := n10_; clear n0_ n1_ n2_ n3_ n4_ n5_ n6_ n7_ n8_ n9_ n10_; clear hb hbox hg; have hnb12 := NB237_227.out; have hnc12 := NB227_237.out; have hnb13 := NB237_228.out; have hnc13 := NB228_237.out; obtain ⟨hcz14_0, hcz14_1, hcz14_2, hcz14_3, hcz14_4, hcz14_5⟩ := kc6 BK237.out; obtain ⟨hfz14_0, hfz14_1, hfz14_2, hfz14_3, hfz14_4, hfz14_5⟩ := kf6 BK237.out; obtain ⟨Ao15, co15, eo15⟩ := Kd.R_slice HO236.out; subst eo15; obtain ⟨hcz16_0, hcz16_1, hcz16_2, hcz16_3, hcz16_4, hcz16_5⟩ := kc6 BK227.out; obtain ⟨hfz16_0, hfz16_1, hfz16_2, hfz16_3, hfz16_4, hfz16_5⟩ := kf6 BK227.out; obtain ⟨hcz17_0, hcz17_1, hcz17_2, hcz17_3, hcz17_4, hcz17_5⟩ := kc6 BK228.out; obtain ⟨hfz17_0, hfz17_1, hfz17_2, hfz17_3, hfz17_4, hfz17_5⟩ := kf6 BK228.out))
  refine bodyPost_ret (results_cell_row rfl _ _ gb228 24 #[.int .i64 1, .int .i64 t230, .int .i64 t231, .int .i64 t232, .int .i64 t233, .slice Ao15 t234.length co15] (0, 0) _ rfl (by (with_reducible repeat (first | refine blk_drewN ?_ _ | refine blk_drew ?_ | refine blk_alloc ?_ _)); refine blk_put (cs := #[.int .i64 1, .int .i64 t230, .int .i64 t231, .int .i64 t232, .int .i64 t233, .slice none 0 0]) ?_ 5 _ rfl; (with_reducible repeat (first | refine blk_drewN ?_ _ | refine blk_drew ?_ | refine blk_alloc ?_ _)); refine blk_put (cs := #[.int .i64 1, .int .i64 t230, .int .i64 t231, .int .i64 t232, .int .i64 0, .slice none 0 0]) ?_ 4 _ rfl; (with_reducible repeat (first | refine blk_drewN ?_ _ | refine blk_drew ?_ | refine blk_alloc ?_ _)); refine blk_put (cs := #[.int .i64 1, .int .i64 t230, .int .i64 t231, .int .i64 0, .int .i64 0, .slice none 0 0]) ?_ 3 _ rfl; (with_reducible repeat (first | refine blk_drewN ?_ _ | refine blk_drew ?_ | refine blk_alloc ?_ _)); refine blk_put (cs := #[.int .i64 1, .int .i64 t230, .int .i64 0, .int .i64 0, .int .i64 0, .slice none 0 0]) ?_ 2 _ rfl; (with_reducible repeat (first | refine blk_drewN ?_ _ | refine blk_drew ?_ | refine blk_alloc ?_ _)); refine blk_put (cs := #[.int .i64 1, .int .i64 0, .int .i64 0, .int .i64 0, .int .i64 0, .slice none 0 0]) ?_ 1 _ rfl; (with_reducible repeat (first | refine blk_drewN ?_ _ | refine blk_drew ?_ | refine blk_alloc ?_ _)); refine blk_put (cs := #[.int .i64 0, .int .i64 0, .int .i64 0, .int .i64 0, .int .i64 0, .slice none 0 0]) ?_ 0 _ rfl; (with_reducible repeat (first | refine blk_drewN ?_ _ | refine blk_drew ?_ | refine blk_alloc ?_ _)); refine blk_far ?_ NB228_237.out _; (with_reducible repeat (first | refine blk_drewN ?_ _ | refine blk_drew ?_ | refine blk_alloc ?_ _)); refine blk_far ?_ NB228_237.out _; (with_reducible repeat (first | refine blk_drewN ?_ _ | refine blk_drew ?_ | refine blk_alloc ?_ _)); refine blk_far ?_ NB228_237.out _; (with_reducible repeat (first | refine blk_drewN ?_ _ | refine blk_drew ?_ | refine blk_alloc ?_ _)); refine blk_far ?_ NB228_237.out _; (with_reducible repeat (first | refine blk_drewN ?_ _ | refine blk_drew ?_ | refine blk_alloc ?_ _)); refine blk_far ?_ NB228_237.out _; (with_reducible repeat (first | refine blk_drewN ?_ _ | refine blk_drew ?_ | refine blk_alloc ?_ _)); refine blk_far ?_ NB228_237.out _; (with_reducible repeat (first | refine blk_drewN ?_ _ | refine blk_drew ?_ | refine blk_alloc ?_ _)); refine blk_far ?_ NB228_237.out _; (with_reducible repeat (first | refine blk_drewN ?_ _ | refine blk_drew ?_ | refine blk_alloc ?_ _)); exact BK228.out) Tryz.underlying24 rfl (by kernel_rfl)) rfl ?_
  exact ⟨_, by first | rfl | (simp [errW_none, errW_some] <;> rfl) | (simp [*, errW_none, errW_some] <;> rfl), by (with_reducible repeat (first | apply Kd.R_alloc | apply Kd.R_drewN | apply Kd.R_drew)); exact Kd.R_mono (Kd.R_far (p := ⟨gb228, 5, none⟩) (Kd.R_far (p := ⟨gb228, 4, none⟩) (Kd.R_far (p := ⟨gb228, 3, none⟩) (Kd.R_far (p := ⟨gb228, 2, none⟩) (Kd.R_far (p := ⟨gb228, 1, none⟩) (Kd.R_far (p := ⟨gb228, 0, none⟩) (Kd.R_far (p := ⟨gb237, 0, none⟩) (Kd.R_far (p := ⟨gb237, 5, none⟩) (Kd.R_far (p := ⟨gb237, 4, none⟩) (Kd.R_far (p := ⟨gb237, 3, none⟩) (Kd.R_far (p := ⟨gb237, 2, none⟩) (Kd.R_far (p := ⟨gb237, 1, none⟩) (Kd.R_far (p := ⟨gb237, 0, none⟩) (Kd.R_types (Kd.R_types HO236.out BK237.out (by decide)) BK228.out (by decide)) (fun _ hk => hk.1.2) (.int .i64 t229)) (fun _ hk => hk.1.2) (.int .i64 t230)) (fun _ hk => hk.1.2) (.int .i64 t231)) (fun _ hk => hk.1.2) (.int .i64 t232)) (fun _ hk => hk.1.2) (.int .i64 t233)) (fun _ hk => hk.1.2) (.slice Ao15 t234.length co15)) (fun _ hk => hk.1.2) (.int .i64 1)) (fun _ hk => hk.2) (.int .i64 1)) (fun _ hk => hk.2) (.int .i64 t230)) (fun _ hk => hk.2) (.int .i64 t231)) (fun _ hk => hk.2) (.int .i64 t232)) (fun _ hk => hk.2) (.int .i64 t233)) (fun _ hk => hk.2) (.slice Ao15 t234.length co15)) (fun _ hk => trivial), kb3 HB.out GE227.out GE228.out GE237.out⟩
 ·rw [if_neg c5] at H
  have c5b0 : (a1 == (wrap64 (a0_2 - 1))) = false := beq_eq_false_iff_ne.mpr c5
  have c5b1 : (a1 != (wrap64 (a0_2 - 1))) = true := bne_iff_ne.mpr c5
  by_cases c18 : a1 = a0_2
  ·rw [if_pos c18] at H
   have c18b0 : (a1 == a0_2) = true := beq_iff_eq.mpr c18
   have c18b1 : (a1 != a0_2) = false := bne_eq_false_iff_eq.mpr c18
   clear c18
   by_cases c19 : a2.toList = ([] : List UInt8)
   ·rw [if_pos c19] at H
    have c19b0 : (a2.toList == ([] : List UInt8)) = true := beq_iff_eq.mpr c19
    have c19b1 : (a2.toList != ([] : List UInt8)) = false := bne_eq_false_iff_eq.mpr c19
    clear c19
    simp only [Option.some.injEq, Prod.mk.injEq] at H
    obtain ⟨rfl, rfl, rfl, rfl, rfl, rfl⟩ := H
    go_enter Tryz.func24, Tryz.ntmps24
    go_wp2_with (first | ((with_reducible refine gate_dst (N := 3) rfl ?_); (try (refine gate_guard (by rfl) ?_; dsimp only)); refine box_event ?hg (N := 3) ?hd (cs := #[.int .i64 a0_0, .int .i64 a0_1, .int .i64 a0_2, .int .i64 a0_3, .int .i64 a0_4, .slice A0_5 l0_5.length c0_5]) (t := 24) ?hr ?_; (case hd => rfl); (case hg => rfl); (case hr => first | (go_simp; done) | (go_simp; rfl)); intro gb227 hg w20 hbox hb; have n0_ := Aside0.mk (below_step (kb HB.out) hb); have n1_ := Aside0.mk (hbox); have n2_ := Aside0.mk ((kz hg (below_size (kb HB.out)) : w.heap.size ≤ gb227)); have n3_ := Aside0.mk ((kz hg (below_size (kb HB.out)) : w.heap.size ≤ gb227)); clear HB; have HB := n0_; have BK227 := n1_; have GW227 := n2_; have GE227 := n3_; clear n0_ n1_ n2_ n3_; clear hb hbox hg) | ((with_reducible refine gate_dst (N := 6) rfl ?_); (try (refine gate_guard (by rfl) ?_; dsimp only)); refine box_event ?hg (N := 6) ?hd (cs := #[.int .i64 0, .int .i64 0, .int .i64 0, .int .i64 0, .int .i64 0, .slice none 0 0]) (t := 24) ?hr ?_; (case hd => rfl); (case hg => rfl); (case hr => first | (go_simp; done) | (go_simp; rfl)); intro gb228 hg w21 hbox hb; have n0_ := Aside0.mk (kL BK227.out hb); have n1_ := Aside0.mk (below_step (kb1 HB.out GE227.out) hb); have n2_ := Aside0.mk (hbox); have n3_ := Aside0.mk ((kz hg (below_size (kb1 HB.out GE227.out)) : w.heap.size ≤ gb228)); have n4_ := Aside0.mk ((kz hg (below_size (kb1 HB.out GE227.out)) : w.heap.size ≤ gb228)); have n5_ := Aside0.mk ((kN hg BK227.out : gb227 ≠ gb228)); have n6_ := Aside0.mk (((kN hg BK227.out).symm : gb228 ≠ gb227)); clear BK227; clear HB; have BK227 := n0_; have HB := n1_; have BK228 := n2_; have GW228 := n3_; have GE228 := n4_; have NB227_228 := n5_; have NB228_227 := n6_; clear n0_ n1_ n2_ n3_ n4_ n5_ n6_; clear hb hbox hg; have hnb22 := NB227_228.out; have hnc22 := NB228_227.out; obtain ⟨hcz23_0, hcz23_1, hcz23_2, hcz23_3, hcz23_4, hcz23_5⟩ := kc6 BK227.out; obtain ⟨hfz23_0, hfz23_1, hfz23_2, hfz23_3, hfz23_4, hfz23_5⟩ := kf6 BK227.out) | ((with_reducible refine gate_callee (f := 46) rfl ?_); refine goesL_ (some 9) rfl rfl Tryz.func46 (by kernel_rfl) rfl #[.agg #[.int .i64 a0_0, .int .i64 a0_1, .int .i64 a0_2, .int .i64 a0_3, .int .i64 a0_4, .slice A0_5 l0_5.length c0_5]] rfl ka ?_; (with_reducible refine (device_Copy.calls a0_0 a0_1 a0_2 a0_3 a0_4 _ _ l0_5 t229 t230 t231 t232 t233 t234 _ ?side1 ?side2 A4.out).mono ?_); (case side1 => exact kC (Kd.C_below HR0_5.out HB.out)); (case side2 => exact HC0_5.out); rintro e w24 ⟨v235, rfl, ho0, hb⟩; refine ⟨_, rfl, ?_⟩; have n0_ := Aside0.mk (Kd.R_lower ho0 (below_size (kb2 HB.out GE227.out GE228.out))); have n1_ := Aside0.mk (kL BK227.out hb); have n2_ := Aside0.mk (kL BK228.out hb); have n3_ := Aside0.mk (below_step (kb2 HB.out GE227.out GE228.out) hb); clear BK227; clear BK228; clear HB; have HO236 := n0_; have BK227 := n1_; have BK228 := n2_; have HB := n3_; clear n0_ n1_ n2_ n3_; (try clear hb); (try clear hb2); (try clear hk); (try clear hi); (try clear ho0)) | ((with_reducible refine gate_dst (N := 7) rfl ?_); (try (refine gate_guard (by rfl) ?_; dsimp only)); refine box_event ?hg (N := 7) ?hd (cs := #[.int .i64 0, .int .i64 0, .int .i64 0, .int .i64 0, .int .i64 0, .slice none 0 0]) (t := 24) ?hr ?_; (case hd => rfl); (case hg => rfl); (case hr => first | (go_simp; done) | (go_simp; rfl)); intro gb237 hg w25 hbox hb; have n0_ := Aside0.mk (Kd.R_below (kR HO236.out) hb); have n1_ := Aside0.mk (kL BK227.out hb); have n2_ := Aside0.mk (kL BK228.out hb); have n3_ := Aside0.mk (below_step (kb2 HB.out GE227.out GE228.out) hb); have n4_ := Aside0.mk (hbox); have n5_ := Aside0.mk ((kz hg (below_size (kb2 HB.out GE227.out GE228.out)) : w.heap.size ≤ gb237)); have n6_ := Aside0.mk ((kz hg (below_size (kb2 HB.out GE227.out GE228.out)) : w.heap.size ≤ gb237)); have n7_ := Aside0.mk ((kN hg BK227.out : gb227 ≠ gb237)); have n8_ := Aside0.mk (((kN hg BK227.out).symm : gb237 ≠ gb227)); have n9_ := Aside0.mk ((kN hg BK228.out : gb228 ≠ gb237)); have n10_ := Aside0.mk (((kN hg BK228.out).symm : gb237 ≠ gb228)); clear HO236; clear BK227; clear BK228; clear HB; have HO236 := n0_; have BK227 := n1_; have BK228 := n2_; have HB := n3_; have BK237 := n4_; have GW237 := n5_; have GE237 := n6_; have NB227_237 := n7_; have NB237_227 := n8_; have NB228_237 := n9_; have NB237_228 := n10_; clear n0_ n1_ n2_ n3_ n4_ n5_ n6_ n7_ n8_ n9_ n10_; clear hb hbox hg; have hnb26 := NB237_227.out; have hnc26 := NB227_237.out; have hnb27 := NB237_228.out; have hnc27 := NB228_237.out; obtain ⟨hcz28_0, hcz28_1, hcz28_2, hcz28_3, hcz28_4, hcz28_5⟩ := kc6 BK237.out; obtain ⟨hfz28_0, hfz28_1, hfz28_2, hfz28_3, hfz28_4, hfz28_5⟩ := kf6 BK237.out; obtain ⟨Ao29, co29, eo29⟩ := Kd.R_slice HO236.out; subst eo29; obtain ⟨hcz30_0, hcz30_1, hcz30_2, hcz30_3, hcz30_4, hcz30_5⟩ := kc6 BK227.out; obtain ⟨hfz30_0, hfz30_1, hfz30_2, hfz30_3, hfz30_4, hfz30_5⟩ := kf6 BK227.out; obtain ⟨hcz31_0, hcz31_1, hcz31_2, hcz31_3, hcz31_4, hcz31_5⟩ := kc6 BK228.out; obtain ⟨hfz31_0, hfz31_1, hfz31_2, hfz31_3, hfz31_4, hfz31_5⟩ := kf6 BK228.out))
    refine bodyPost_ret (results_cell_row rfl _ _ gb228 24 #[.int .i64 4, .int .i64 t230, .int .i64 t231, .int .i64 t232, .int .i64 t233, .slice Ao29 t234.length co29] (0, 0) _ rfl (by (with_reducible repeat (first | refine blk_drewN ?_ _ | refine blk_drew ?_ | refine blk_alloc ?_ _)); refine blk_put (cs := #[.int .i64 4, .int .i64 t230, .int .i64 t231, .int .i64 t232, .int .i64 t233, .slice none 0 0]) ?_ 5 _ rfl; (with_reducible repeat (first | refine blk_drewN ?_ _ | refine blk_drew ?_ | refine blk_alloc ?_ _)); refine blk_put (cs := #[.int .i64 4, .int .i64 t230, .int .i64 t231, .int .i64 t232, .int .i64 0, .slice none 0 0]) ?_ 4 _ rfl; (with_reducible repeat (first | refine blk_drewN ?_ _ | refine blk_drew ?_ | refine blk_alloc ?_ _)); refine blk_put (cs := #[.int .i64 4, .int .i64 t230, .int .i64 t231, .int .i64 0, .int .i64 0, .slice none 0 0]) ?_ 3 _ rfl; (with_reducible repeat (first | refine blk_drewN ?_ _ | refine blk_drew ?_ | refine blk_alloc ?_ _)); refine blk_put (cs := #[.int .i64 4, .int .i64 t230, .int .i64 0, .int .i64 0, .int .i64 0, .slice none 0 0]) ?_ 2 _ rfl; (with_reducible repeat (first | refine blk_drewN ?_ _ | refine blk_drew ?_ | refine blk_alloc ?_ _)); refine blk_put (cs := #[.int .i64 4, .int .i64 0, .int .i64 0, .int .i64 0, .int .i64 0, .slice none 0 0]) ?_ 1 _ rfl; (with_reducible repeat (first | refine blk_drewN ?_ _ | refine blk_drew ?_ | refine blk_alloc ?_ _)); refine blk_put (cs := #[.int .i64 0, .int .i64 0, .int .i64 0, .int .i64 0, .int .i64 0, .slice none 0 0]) ?_ 0 _ rfl; (with_reducible repeat (first | refine blk_drewN ?_ _ | refine blk_drew ?_ | refine blk_alloc ?_ _)); refine blk_far ?_ NB228_237.out _; (with_reducible repeat (first | refine blk_drewN ?_ _ | refine blk_drew ?_ | refine blk_alloc ?_ _)); refine blk_far ?_ NB228_237.out _; (with_reducible repeat (first | refine blk_drewN ?_ _ | refine blk_drew ?_ | refine blk_alloc ?_ _)); refine blk_far ?_ NB228_237.out _; (with_reducible repeat (first | refine blk_drewN ?_ _ | refine blk_drew ?_ | refine blk_alloc ?_ _)); refine blk_far ?_ NB228_237.out _; (with_reducible repeat (first | refine blk_drewN ?_ _ | refine blk_drew ?_ | refine blk_alloc ?_ _)); refine blk_far ?_ NB228_237.out _; (with_reducible repeat (first | refine blk_drewN ?_ _ | refine blk_drew ?_ | refine blk_alloc ?_ _)); refine blk_far ?_ NB228_237.out _; (with_reducible repeat (first | refine blk_drewN ?_ _ | refine blk_drew ?_ | refine blk_alloc ?_ _)); refine blk_far ?_ NB228_237.out _; (with_reducible repeat (first | refine blk_drewN ?_ _ | refine blk_drew ?_ | refine blk_alloc ?_ _)); exact BK228.out) Tryz.underlying24 rfl (by kernel_rfl)) rfl ?_
    exact ⟨_, by first | rfl | (simp [errW_none, errW_some] <;> rfl) | (simp [*, errW_none, errW_some] <;> rfl), by (with_reducible repeat (first | apply Kd.R_alloc | apply Kd.R_drewN | apply Kd.R_drew)); exact Kd.R_mono (Kd.R_far (p := ⟨gb228, 5, none⟩) (Kd.R_far (p := ⟨gb228, 4, none⟩) (Kd.R_far (p := ⟨gb228, 3, none⟩) (Kd.R_far (p := ⟨gb228, 2, none⟩) (Kd.R_far (p := ⟨gb228, 1, none⟩) (Kd.R_far (p := ⟨gb228, 0, none⟩) (Kd.R_far (p := ⟨gb237, 0, none⟩) (Kd.R_far (p := ⟨gb237, 5, none⟩) (Kd.R_far (p := ⟨gb237, 4, none⟩) (Kd.R_far (p := ⟨gb237, 3, none⟩) (Kd.R_far (p := ⟨gb237, 2, none⟩) (Kd.R_far (p := ⟨gb237, 1, none⟩) (Kd.R_far (p := ⟨gb237, 0, none⟩) (Kd.R_types (Kd.R_types HO236.out BK237.out (by decide)) BK228.out (by decide)) (fun _ hk => hk.1.2) (.int .i64 t229)) (fun _ hk => hk.1.2) (.int .i64 t230)) (fun _ hk => hk.1.2) (.int .i64 t231)) (fun _ hk => hk.1.2) (.int .i64 t232)) (fun _ hk => hk.1.2) (.int .i64 t233)) (fun _ hk => hk.1.2) (.slice Ao29 t234.length co29)) (fun _ hk => hk.1.2) (.int .i64 4)) (fun _ hk => hk.2) (.int .i64 4)) (fun _ hk => hk.2) (.int .i64 t230)) (fun _ hk => hk.2) (.int .i64 t231)) (fun _ hk => hk.2) (.int .i64 t232)) (fun _ hk => hk.2) (.int .i64 t233)) (fun _ hk => hk.2) (.slice Ao29 t234.length co29)) (fun _ hk => trivial), kb3 HB.out GE227.out GE228.out GE237.out⟩
   ·rw [if_neg c19] at H
    have c19b0 : (a2.toList == ([] : List UInt8)) = false := beq_eq_false_iff_ne.mpr c19
    have c19b1 : (a2.toList != ([] : List UInt8)) = true := bne_iff_ne.mpr c19
    have HC32 := Aside0.mk H
    clear H
    go_enter Tryz.func24, Tryz.ntmps24
    go_upto_region 10 with (first | ((with_reducible refine gate_dst (N := 3) rfl ?_); (try (refine gate_guard (by rfl) ?_; dsimp only)); refine box_event ?hg (N := 3) ?hd (cs := #[.int .i64 a0_0, .int .i64 a0_1, .int .i64 a0_2, .int .i64 a0_3, .int .i64 a0_4, .slice A0_5 l0_5.length c0_5]) (t := 24) ?hr ?_; (case hd => rfl); (case hg => rfl); (case hr => first | (go_simp; done) | (go_simp; rfl)); intro gb227 hg w33 hbox hb; have n0_ := Aside0.mk (below_step (kb HB.out) hb); have n1_ := Aside0.mk (hbox); have n2_ := Aside0.mk ((kz hg (below_size (kb HB.out)) : w.heap.size ≤ gb227)); have n3_ := Aside0.mk ((kz hg (below_size (kb HB.out)) : w.heap.size ≤ gb227)); clear HB; have HB := n0_; have BK227 := n1_; have GW227 := n2_; have GE227 := n3_; clear n0_ n1_ n2_ n3_; clear hb hbox hg) | ((with_reducible refine gate_dst (N := 6) rfl ?_); (try (refine gate_guard (by rfl) ?_; dsimp only)); refine box_event ?hg (N := 6) ?hd (cs := #[.int .i64 0, .int .i64 0, .int .i64 0, .int .i64 0, .int .i64 0, .slice none 0 0]) (t := 24) ?hr ?_; (case hd => rfl); (case hg => rfl); (case hr => first | (go_simp; done) | (go_simp; rfl)); intro gb228 hg w34 hbox hb; have n0_ := Aside0.mk (kL BK227.out hb); have n1_ := Aside0.mk (below_step (kb1 HB.out GE227.out) hb); have n2_ := Aside0.mk (hbox); have n3_ := Aside0.mk ((kz hg (below_size (kb1 HB.out GE227.out)) : w.heap.size ≤ gb228)); have n4_ := Aside0.mk ((kz hg (below_size (kb1 HB.out GE227.out)) : w.heap.size ≤ gb228)); have n5_ := Aside0.mk ((kN hg BK227.out : gb227 ≠ gb228)); have n6_ := Aside0.mk (((kN hg BK227.out).symm : gb228 ≠ gb227)); clear BK227; clear HB; have BK227 := n0_; have HB := n1_; have BK228 := n2_; have GW228 := n3_; have GE228 := n4_; have NB227_228 := n5_; have NB228_227 := n6_; clear n0_ n1_ n2_ n3_ n4_ n5_ n6_; clear hb hbox hg; have hnb35 := NB227_228.out; have hnc35 := NB228_227.out; obtain ⟨hcz36_0, hcz36_1, hcz36_2, hcz36_3, hcz36_4, hcz36_5⟩ := kc6 BK227.out; obtain ⟨hfz36_0, hfz36_1, hfz36_2, hfz36_3, hfz36_4, hfz36_5⟩ := kf6 BK227.out) | ((with_reducible refine gate_callee (f := 46) rfl ?_); refine goesL_ (some 9) rfl rfl Tryz.func46 (by kernel_rfl) rfl #[.agg #[.int .i64 a0_0, .int .i64 a0_1, .int .i64 a0_2, .int .i64 a0_3, .int .i64 a0_4, .slice A0_5 l0_5.length c0_5]] rfl ka ?_; (with_reducible refine (device_Copy.calls a0_0 a0_1 a0_2 a0_3 a0_4 _ _ l0_5 t229 t230 t231 t232 t233 t234 _ ?side1 ?side2 A4.out).mono ?_); (case side1 => exact kC (Kd.C_below HR0_5.out HB.out)); (case side2 => exact HC0_5.out); rintro e w37 ⟨v235, rfl, ho0, hb⟩; refine ⟨_, rfl, ?_⟩; have n0_ := Aside0.mk (Kd.R_lower ho0 (below_size (kb2 HB.out GE227.out GE228.out))); have n1_ := Aside0.mk (kL BK227.out hb); have n2_ := Aside0.mk (kL BK228.out hb); have n3_ := Aside0.mk (below_step (kb2 HB.out GE227.out GE228.out) hb); clear BK227; clear BK228; clear HB; have HO236 := n0_; have BK227 := n1_; have BK228 := n2_; have HB := n3_; clear n0_ n1_ n2_ n3_; (try clear hb); (try clear hb2); (try clear hk); (try clear hi); (try clear ho0)) | ((with_reducible refine gate_dst (N := 7) rfl ?_); (try (refine gate_guard (by rfl) ?_; dsimp only)); refine box_event ?hg (N := 7) ?hd (cs := #[.int .i64 0, .int .i64 0, .int .i64 0, .int .i64 0, .int .i64 0, .slice none 0 0]) (t := 24) ?hr ?_; (case hd => rfl); (case hg => rfl); (case hr => first | (go_simp; done) | (go_simp; rfl)); intro gb237 hg w38 hbox hb; have n0_ := Aside0.mk (Kd.R_below (kR HO236.out) hb); have n1_ := Aside0.mk (kL BK227.out hb); have n2_ := Aside0.mk (kL BK228.out hb); have n3_ := Aside0.mk (below_step (kb2 HB.out GE227.out GE228.out) hb); have n4_ := Aside0.mk (hbox); have n5_ := Aside0.mk ((kz hg (below_size (kb2 HB.out GE227.out GE228.out)) : w.heap.size ≤ gb237)); have n6_ := Aside0.mk ((kz hg (below_size (kb2 HB.out GE227.out GE228.out)) : w.heap.size ≤ gb237)); have n7_ := Aside0.mk ((kN hg BK227.out : gb227 ≠ gb237)); have n8_ := Aside0.mk (((kN hg BK227.out).symm : gb237 ≠ gb227)); have n9_ := Aside0.mk ((kN hg BK228.out : gb228 ≠ gb237)); have n10_ := Aside0.mk (((kN hg BK228.out).symm : gb237 ≠ gb228)); clear HO236; clear BK227; clear BK228; clear HB; have HO236 := n0_; have BK227 := n1_; have BK228 := n2_; have HB := n3_; have BK237 := n4_; have GW237 := n5_; have GE237 := n6_; have NB227_237 := n7_; have NB237_227 := n8_; have NB228_237 := n9_; have NB237_228 := n10_; clear n0_ n1_ n2_ n3_ n4_ n5_ n6_ n7_ n8_ n9_ n10_; clear hb hbox hg; have hnb39 := NB237_227.out; have hnc39 := NB227_237.out; have hnb40 := NB237_228.out; have hnc40 := NB228_237.out; obtain ⟨hcz41_0, hcz41_1, hcz41_2, hcz41_3, hcz41_4, hcz41_5⟩ := kc6 BK237.out; obtain ⟨hfz41_0, hfz41_1, hfz41_2, hfz41_3, hfz41_4, hfz41_5⟩ := kf6 BK237.out; obtain ⟨Ao42, co42, eo42⟩ := Kd.R_slice HO236.out; subst eo42; obtain ⟨hcz43_0, hcz43_1, hcz43_2, hcz43_3, hcz43_4, hcz43_5⟩ := kc6 BK227.out; obtain ⟨hfz43_0, hfz43_1, hfz43_2, hfz43_3, hfz43_4, hfz43_5⟩ := kf6 BK227.out))
    (try simp only [Act.put, List.setIfInBounds_toArray, List.set_cons_zero, List.set_cons_succ])
    go_cut [29] (fun v29 wc => ∃ (kq : Nat) (x29_31 : Bool), v29 = .bool x29_31 ∧ Aside0 (download_more.j0 kq a2 x29_31 a0_0 a0_1 a0_2 a0_3 a0_4 l0_5 t229 t230 t231 t232 t233 t234 = some (r1, r2, r3, r4, r5, r6)) ∧ Aside0 (kq ≤ k) ∧ Aside0 (Kd.R k41 41 wc w.heap.size (fun _ => True) (.slice Ao42 t234.length co42) t234) ∧ Aside0 (wc.heap[gb227]? = some (.cells #[.int .i64 a0_0, .int .i64 a0_1, .int .i64 a0_2, .int .i64 a0_3, .int .i64 a0_4, (.slice A0_5 l0_5.length c0_5)] 24 (0, 0))) ∧ Aside0 (wc.heap[gb228]? = some (.cells #[.int .i64 0, .int .i64 0, .int .i64 0, .int .i64 0, .int .i64 0, (.slice none 0 0)] 24 (0, 0))) ∧ Aside0 (wc.heap[gb237]? = some (.cells #[.int .i64 t229, .int .i64 t230, .int .i64 t231, .int .i64 t232, .int .i64 t233, (.slice Ao42 t234.length co42)] 24 (0, 0))) ∧ Aside0 (Below w.heap.size w wc))
    case first =>
     have H := HC32.out
     clear HC32
     by_cases c44 : (Int.tmod a0_3 32) = 0
     ·rw [if_pos c44] at H
      have c44b0 : ((Int.tmod a0_3 32) == 0) = true := beq_iff_eq.mpr c44
      have c44b1 : ((Int.tmod a0_3 32) != 0) = false := bne_eq_false_iff_eq.mpr c44
      clear c44
      (first | rw [c44b0] | rw [c44b1] | (simp only [i64_w, i32_w]; rw [c44b0]) | skip)
      by_cases c45 : (wrap64 (a0_3 + (a2.size : Int))) > 288
      ·rw [if_pos c45] at H
       have c45b0 : decide (288 < (wrap64 (a0_3 + (a2.size : Int)))) = true := decide_eq_true c45
       clear c45
       have H' := Aside0.mk H
       clear H
       have hnb46 := NB227_228.out
       have hnc46 := NB228_227.out
       have hnb47 := NB227_237.out
       have hnc47 := NB237_227.out
       obtain ⟨hcz48_0, hcz48_1, hcz48_2, hcz48_3, hcz48_4, hcz48_5⟩ := kc6 BK227.out
       obtain ⟨hfz48_0, hfz48_1, hfz48_2, hfz48_3, hfz48_4, hfz48_5⟩ := kf6 BK227.out
       go_wp2
       go_meet
       case rel => exact ⟨_, (true), (by first | rfl | (simp; done) | (simp [*]; done)), H', ⟨by first | omega | exact Nat.le_refl _⟩, ⟨by (with_reducible repeat (first | apply Kd.R_alloc | apply Kd.R_drewN | apply Kd.R_drew)); exact Kd.R_mono (Kd.R_far (p := ⟨gb237, 5, none⟩) (Kd.R_far (p := ⟨gb237, 4, none⟩) (Kd.R_far (p := ⟨gb237, 3, none⟩) (Kd.R_far (p := ⟨gb237, 2, none⟩) (Kd.R_far (p := ⟨gb237, 1, none⟩) (Kd.R_far (p := ⟨gb237, 0, none⟩) (Kd.R_types HO236.out BK237.out (by decide)) (fun _ hk => hk.2) (.int .i64 t229)) (fun _ hk => hk.2) (.int .i64 t230)) (fun _ hk => hk.2) (.int .i64 t231)) (fun _ hk => hk.2) (.int .i64 t232)) (fun _ hk => hk.2) (.int .i64 t233)) (fun _ hk => hk.2) (.slice Ao42 t234.length co42)) (fun _ hk => trivial)⟩, ⟨kFa6 BK227.out NB227_237.out⟩, ⟨kFa6 BK228.out NB228_237.out⟩, ⟨kP6 BK237.out⟩, ⟨kb3 HB.out GE227.out GE228.out GE237.out⟩⟩
      ·rw [if_neg c45] at H
       have c45b0 : decide (288 < (wrap64 (a0_3 + (a2.size : Int)))) = false := decide_eq_false c45
       clear c45
       have H' := Aside0.mk H
       clear H
       have hnb49 := NB227_228.out
       have hnc49 := NB228_227.out
       have hnb50 := NB227_237.out
       have hnc50 := NB237_227.out
       obtain ⟨hcz51_0, hcz51_1, hcz51_2, hcz51_3, hcz51_4, hcz51_5⟩ := kc6 BK227.out
       obtain ⟨hfz51_0, hfz51_1, hfz51_2, hfz51_3, hfz51_4, hfz51_5⟩ := kf6 BK227.out
       go_wp2
       go_meet
       case rel => exact ⟨_, ((a0_2 == 16)), (by first | rfl | (simp; done) | (simp [*]; done)), H', ⟨by first | omega | exact Nat.le_refl _⟩, ⟨by (with_reducible repeat (first | apply Kd.R_alloc | apply Kd.R_drewN | apply Kd.R_drew)); exact Kd.R_mono (Kd.R_far (p := ⟨gb237, 5, none⟩) (Kd.R_far (p := ⟨gb237, 4, none⟩) (Kd.R_far (p := ⟨gb237, 3, none⟩) (Kd.R_far (p := ⟨gb237, 2, none⟩) (Kd.R_far (p := ⟨gb237, 1, none⟩) (Kd.R_far (p := ⟨gb237, 0, none⟩) (Kd.R_types HO236.out BK237.out (by decide)) (fun _ hk => hk.2) (.int .i64 t229)) (fun _ hk => hk.2) (.int .i64 t230)) (fun _ hk => hk.2) (.int .i64 t231)) (fun _ hk => hk.2) (.int .i64 t232)) (fun _ hk => hk.2) (.int .i64 t233)) (fun _ hk => hk.2) (.slice Ao42 t234.length co42)) (fun _ hk => trivial)⟩, ⟨kFa6 BK227.out NB227_237.out⟩, ⟨kFa6 BK228.out NB228_237.out⟩, ⟨kP6 BK237.out⟩, ⟨kb3 HB.out GE227.out GE228.out GE237.out⟩⟩
     ·rw [if_neg c44] at H
      have c44b0 : ((Int.tmod a0_3 32) == 0) = false := beq_eq_false_iff_ne.mpr c44
      have c44b1 : ((Int.tmod a0_3 32) != 0) = true := bne_iff_ne.mpr c44
      (first | rw [c44b0] | rw [c44b1] | (simp only [i64_w, i32_w]; rw [c44b0]) | skip)
      have H' := Aside0.mk H
      clear H
      have hnb52 := NB227_228.out
      have hnc52 := NB228_227.out
      have hnb53 := NB227_237.out
      have hnc53 := NB237_227.out
      obtain ⟨hcz54_0, hcz54_1, hcz54_2, hcz54_3, hcz54_4, hcz54_5⟩ := kc6 BK227.out
      obtain ⟨hfz54_0, hfz54_1, hfz54_2, hfz54_3, hfz54_4, hfz54_5⟩ := kf6 BK227.out
      go_wp2
      go_meet
      case rel => exact ⟨_, (true), (by first | rfl | (simp; done) | (simp [*]; done)), H', ⟨by first | omega | exact Nat.le_refl _⟩, ⟨by (with_reducible repeat (first | apply Kd.R_alloc | apply Kd.R_drewN | apply Kd.R_drew)); exact Kd.R_mono (Kd.R_far (p := ⟨gb237, 5, none⟩) (Kd.R_far (p := ⟨gb237, 4, none⟩) (Kd.R_far (p := ⟨gb237, 3, none⟩) (Kd.R_far (p := ⟨gb237, 2, none⟩) (Kd.R_far (p := ⟨gb237, 1, none⟩) (Kd.R_far (p := ⟨gb237, 0, none⟩) (Kd.R_types HO236.out BK237.out (by decide)) (fun _ hk => hk.2) (.int .i64 t229)) (fun _ hk => hk.2) (.int .i64 t230)) (fun _ hk => hk.2) (.int .i64 t231)) (fun _ hk => hk.2) (.int .i64 t232)) (fun _ hk => hk.2) (.int .i64 t233)) (fun _ hk => hk.2) (.slice Ao42 t234.length co42)) (fun _ hk => trivial)⟩, ⟨kFa6 BK227.out NB227_237.out⟩, ⟨kFa6 BK228.out NB228_237.out⟩, ⟨kP6 BK237.out⟩, ⟨kb3 HB.out GE227.out GE228.out GE237.out⟩⟩
    case rest =>
     clear HC32
     try clear c1; try clear c2; try clear p2; try clear c3; try clear c4; try clear c5; try clear c5b0; try clear c5b1; try clear p6; try clear c8; try clear c12; try clear c13; try clear c18; try clear c18b0; try clear c18b1; try clear c19; try clear c19b0; try clear c19b1; try clear c22; try clear c24; try clear c26; try clear c27; try clear c35; try clear c39; try clear c40; try clear c44; try clear c44b0; try clear c44b1; try clear c45; try clear c45b0; try clear c46; try clear c47; try clear c49; try clear c50; try clear c52; try clear c53; try clear hcz14_0; try clear hcz14_1; try clear hcz14_2; try clear hcz14_3; try clear hcz14_4; try clear hcz14_5; try clear hcz16_0; try clear hcz16_1; try clear hcz16_2; try clear hcz16_3; try clear hcz16_4; try clear hcz16_5; try clear hcz17_0; try clear hcz17_1; try clear hcz17_2; try clear hcz17_3; try clear hcz17_4; try clear hcz17_5; try clear hcz23_0; try clear hcz23_1; try clear hcz23_2; try clear hcz23_3; try clear hcz23_4; try clear hcz23_5; try clear hcz28_0; try clear hcz28_1; try clear hcz28_2; try clear hcz28_3; try clear hcz28_4; try clear hcz28_5; try clear hcz30_0; try clear hcz30_1; try clear hcz30_2; try clear hcz30_3; try clear hcz30_4; try clear hcz30_5; try clear hcz31_0; try clear hcz31_1; try clear hcz31_2; try clear hcz31_3; try clear hcz31_4; try clear hcz31_5; try clear hcz36_0; try clear hcz36_1; try clear hcz36_2; try clear hcz36_3; try clear hcz36_4; try clear hcz36_5; try clear hcz41_0; try clear hcz41_1; try clear hcz41_2; try clear hcz41_3; try clear hcz41_4; try clear hcz41_5; try clear hcz43_0; try clear hcz43_1; try clear hcz43_2; try clear hcz43_3; try clear hcz43_4; try clear hcz43_5; try clear hcz48_0; try clear hcz48_1; try clear hcz48_2; try clear hcz48_3; try clear hcz48_4; try clear hcz48_5; try clear hcz51_0; try clear hcz51_1; try clear hcz51_2; try clear hcz51_3; try clear hcz51_4; try clear hcz51_5; try clear hcz54_0; try clear hcz54_1; try clear hcz54_2; try clear hcz54_3; try clear hcz54_4; try clear hcz54_5; try clear hcz9_0; try clear hcz9_1; try clear hcz9_2; try clear hcz9_3; try clear hcz9_4; try clear hcz9_5; try clear hfz14_0; try clear hfz14_1; try clear hfz14_2; try clear hfz14_3; try clear hfz14_4; try clear hfz14_5; try clear hfz16_0; try clear hfz16_1; try clear hfz16_2; try clear hfz16_3; try clear hfz16_4; try clear hfz16_5; try clear hfz17_0; try clear hfz17_1; try clear hfz17_2; try clear hfz17_3; try clear hfz17_4; try clear hfz17_5; try clear hfz23_0; try clear hfz23_1; try clear hfz23_2; try clear hfz23_3; try clear hfz23_4; try clear hfz23_5; try clear hfz28_0; try clear hfz28_1; try clear hfz28_2; try clear hfz28_3; try clear hfz28_4; try clear hfz28_5; try clear hfz30_0; try clear hfz30_1; try clear hfz30_2; try clear hfz30_3; try clear hfz30_4; try clear hfz30_5; try clear hfz31_0; try clear hfz31_1; try clear hfz31_2; try clear hfz31_3; try clear hfz31_4; try clear hfz31_5; try clear hfz36_0; try clear hfz36_1; try clear hfz36_2; try clear hfz36_3; try clear hfz36_4; try clear hfz36_5; try clear hfz41_0; try clear hfz41_1; try clear hfz41_2; try clear hfz41_3; try clear hfz41_4; try clear hfz41_5; try clear hfz43_0; try clear hfz43_1; try clear hfz43_2; try clear hfz43_3; try clear hfz43_4; try clear hfz43_5; try clear hfz48_0; try clear hfz48_1; try clear hfz48_2; try clear hfz48_3; try clear hfz48_4; try clear hfz48_5; try clear hfz51_0; try clear hfz51_1; try clear hfz51_2; try clear hfz51_3; try clear hfz51_4; try clear hfz51_5; try clear hfz54_0; try clear hfz54_1; try clear hfz54_2; try clear hfz54_3; try clear hfz54_4; try clear hfz54_5; try clear hfz9_0; try clear hfz9_1; try clear hfz9_2; try clear hfz9_3; try clear hfz9_4; try clear hfz9_5
     obtain ⟨kq, x29_31, rfl, HA, HJ31, HO_238005, BK227, BK228, BK237, HB⟩ := hcut
     cases kq with
     | zero => exact absurd HA.out (by simp [download_more.j0])
     | succ kj31 =>
      have H := HA.out
      clear HA
      simp only [download_more.j0] at H
      by_cases c55 : x29_31 = true
      ·subst c55
       have H1 : ((device_Failed.f 4).bind fun bt238 => (some (bt238.1, bt238.2.1, bt238.2.2.1, bt238.2.2.2.1, bt238.2.2.2.2.1, bt238.2.2.2.2.2))) = some (r1, r2, r3, r4, r5, r6) := by rw [if_pos rfl] at H; exact H
       clear H; have H := H1; clear H1
       replace H := Option.bind_eq_some_iff.mp H
       obtain ⟨⟨t238, t239, t240, t241, t242, t243⟩, A560, H⟩ := H
       replace H : (some (t238, t239, t240, t241, t242, t243)) = some (r1, r2, r3, r4, r5, r6) := H
       have A56 := Aside0.mk A560
       clear A560
       simp only [Option.some.injEq, Prod.mk.injEq] at H
       obtain ⟨rfl, rfl, rfl, rfl, rfl, rfl⟩ := H
       go_wp2_with (first | ((with_reducible refine gate_callee (f := 45) rfl ?_); refine goesL_ (some 47) rfl rfl Tryz.func45 (by kernel_rfl) rfl #[.int .i64 4] rfl ka ?_; (with_reducible refine (device_Failed.calls 4 t238 t239 t240 t241 t242 t243 _ A56.out).mono ?_); rintro e w57 ⟨v244, rfl, ho0, hb⟩; refine ⟨_, rfl, ?_⟩; have n0_ := Aside0.mk (Kd.R_elder' (kR HO_238005.out) (Kd.R_base ho0) hb); have n1_ := Aside0.mk (Kd.R_lower (Kd.R_new' ho0 (Kd.R_lt (kR HO_238005.out))) (below_size (kb3 HB.out GE227.out GE228.out GE237.out))); have n2_ := Aside0.mk (kL BK227.out hb); have n3_ := Aside0.mk (kL BK228.out hb); have n4_ := Aside0.mk (kL BK237.out hb); have n5_ := Aside0.mk (below_step (kb3 HB.out GE227.out GE228.out GE237.out) hb); clear HO_238005; clear BK227; clear BK228; clear BK237; clear HB; have HO_238005 := n0_; have HO245 := n1_; have BK227 := n2_; have BK228 := n3_; have BK237 := n4_; have HB := n5_; clear n0_ n1_ n2_ n3_ n4_ n5_; (try clear hb); (try clear hb2); (try clear hk); (try clear hi); (try clear ho0); have hnb58 := NB228_227.out; have hnc58 := NB227_228.out; have hnb59 := NB228_237.out; have hnc59 := NB237_228.out; obtain ⟨hcz60_0, hcz60_1, hcz60_2, hcz60_3, hcz60_4, hcz60_5⟩ := kc6 BK228.out; obtain ⟨hfz60_0, hfz60_1, hfz60_2, hfz60_3, hfz60_4, hfz60_5⟩ := kf6 BK228.out; obtain ⟨Ao61, co61, eo61⟩ := Kd.R_slice HO245.out; subst eo61))
       refine bodyPost_ret (results_cell_row rfl _ _ gb228 24 #[.int .i64 t238, .int .i64 t239, .int .i64 t240, .int .i64 t241, .int .i64 t242, .slice Ao61 t243.length co61] (0, 0) _ rfl (kP6 BK228.out) Tryz.underlying24 rfl (by kernel_rfl)) rfl ?_
       exact ⟨_, by first | rfl | (simp [errW_none, errW_some] <;> rfl) | (simp [*, errW_none, errW_some] <;> rfl), by (with_reducible repeat (first | apply Kd.R_alloc | apply Kd.R_drewN | apply Kd.R_drew)); exact Kd.R_mono (Kd.R_far (p := ⟨gb228, 5, none⟩) (Kd.R_far (p := ⟨gb228, 4, none⟩) (Kd.R_far (p := ⟨gb228, 3, none⟩) (Kd.R_far (p := ⟨gb228, 2, none⟩) (Kd.R_far (p := ⟨gb228, 1, none⟩) (Kd.R_far (p := ⟨gb228, 0, none⟩) (Kd.R_types HO245.out BK228.out (by decide)) (fun _ hk => hk.2) (.int .i64 t238)) (fun _ hk => hk.2) (.int .i64 t239)) (fun _ hk => hk.2) (.int .i64 t240)) (fun _ hk => hk.2) (.int .i64 t241)) (fun _ hk => hk.2) (.int .i64 t242)) (fun _ hk => hk.2) (.slice Ao61 t243.length co61)) (fun _ hk => trivial), kb3 HB.out GE227.out GE228.out GE237.out⟩
      ·replace c55 := Bool.eq_false_iff.mpr c55
       subst c55
       have H1 : ((download_words.f kj31 a0_4 a0_3 a2).bind fun t246 => (some (1, t230, wrap64 (a0_2 + 1), wrap64 (a0_3 + (a2.size : Int)), t233, t246))) = some (r1, r2, r3, r4, r5, r6) := by rw [if_neg (show ¬ (false = true) by decide)] at H; exact H
       clear H; have H := H1; clear H1
       replace H := Option.bind_eq_some_iff.mp H
       obtain ⟨t246, A620, H⟩ := H
       replace H : (some (1, t230, wrap64 (a0_2 + 1), wrap64 (a0_3 + (a2.size : Int)), t233, t246)) = some (r1, r2, r3, r4, r5, r6) := H
       have A62 := Aside0.mk A620
       clear A620
       simp only [Option.some.injEq, Prod.mk.injEq] at H
       obtain ⟨rfl, rfl, rfl, rfl, rfl, rfl⟩ := H
       try go_wp2
       have n0_ := Aside0.mk (Kd.R_drew HO_238005.out)
       have n1_ := Aside0.mk (blk_drew BK227.out)
       have n2_ := Aside0.mk (blk_drew BK228.out)
       have n3_ := Aside0.mk (blk_drew BK237.out)
       have n4_ := Aside0.mk (below_drew1 HB.out)
       clear HO_238005 BK227 BK228 BK237 HB; have HO_238005 := n0_; have BK227 := n1_; have BK228 := n2_; have BK237 := n3_; have HB := n4_; clear n0_ n1_ n2_ n3_ n4_
       refine start_ (n := 14) (S := fun w' => w'.cell? ⟨gb227, 0, none⟩ = some (.int .i64 a0_0) ∧ w'.cell? ⟨gb227, 1, none⟩ = some (.int .i64 a0_1) ∧ w'.cell? ⟨gb227, 2, none⟩ = some (.int .i64 a0_2) ∧ w'.cell? ⟨gb227, 3, none⟩ = some (.int .i64 a0_3) ∧ w'.cell? ⟨gb227, 4, none⟩ = some (.int .i64 a0_4) ∧ w'.cell? ⟨gb227, 5, none⟩ = some (.slice A0_5 l0_5.length c0_5)) (ds := []) #[false, false, false, false, false, false, false, false, false, false, false, false, false, false] (by kernel_rfl) rfl rfl ⟨(blk_cell BK227.out 0).trans rfl, (blk_cell BK227.out 1).trans rfl, (blk_cell BK227.out 2).trans rfl, (blk_cell BK227.out 3).trans rfl, (blk_cell BK227.out 4).trans rfl, (blk_cell BK227.out 5).trans rfl⟩ (fun hHeld => ?_); refine with_tabW download_more.tab12 download_more.bits12 (fun HT_ HW_ => ?_)
       generalize wc.drew = w63 at HO_238005 BK227 BK228 BK237 HB hHeld ⊢
       refine pure_ (i := 0) (N := some 48) (v := ?_) (a' := ?_) #[true, false, false, false, false, false, false, false, false, false, false, false, false, false] rfl rfl (any_of HT_.out (by kernel_rfl)) (fun _ _ _ h => h) (Or.inl ⟨by rfl, ?_⟩) ?_ ?_
       rotate_left
       ·intro w'
        go_simp
        with_reducible rfl
       rotate_left
       ·simp only [Act.put, List.setIfInBounds_toArray, List.set_cons_zero, List.set_cons_succ, i64_w, i32_w]
        rfl
       refine pure_ (i := 3) (N := some 51) (v := ?_) (a' := ?_) #[true, false, false, true, false, false, false, false, false, false, false, false, false, false] rfl rfl (any_of HT_.out (by kernel_rfl)) (fun _ _ _ h => h) (Or.inl ⟨by rfl, ?_⟩) ?_ ?_
       rotate_left
       ·intro w'
        go_simp
        with_reducible rfl
       rotate_left
       ·simp only [Act.put, List.setIfInBounds_toArray, List.set_cons_zero, List.set_cons_succ, i64_w, i32_w]
        rfl
       refine pure_ (i := 5) (N := some 53) (v := ?_) (a' := ?_) #[true, false, false, true, false, true, false, false, false, false, false, false, false, false] rfl rfl (any_of HT_.out (by kernel_rfl)) (fun _ _ _ h => h) (Or.inl ⟨by rfl, ?_⟩) ?_ ?_
       rotate_left
       ·intro w'
        go_simp
        with_reducible rfl
       rotate_left
       ·simp only [Act.put, List.setIfInBounds_toArray, List.set_cons_zero, List.set_cons_succ, i64_w, i32_w]
        rfl
       refine pure_ (i := 6) (N := some 54) (v := ?_) (a' := ?_) #[true, false, false, true, false, true, true, false, false, false, false, false, false, false] rfl rfl (any_of HT_.out (by kernel_rfl)) (fun _ _ _ h => h) (Or.inl ⟨by rfl, ?_⟩) ?_ ?_
       rotate_left
       ·intro w'
        go_simp
        with_reducible rfl
       rotate_left
       ·simp only [Act.put, List.setIfInBounds_toArray, List.set_cons_zero, List.set_cons_succ, i64_w, i32_w]
        rfl
       refine pure_ (i := 8) (N := some 56) (v := ?_) (a' := ?_) #[true, false, false, true, false, true, true, false, true, false, false, false, false, false] rfl rfl (any_of HT_.out (by kernel_rfl)) (fun _ _ _ h => h) (Or.inl ⟨by rfl, ?_⟩) ?_ ?_
       rotate_left
       ·intro w'
        go_simp
        with_reducible rfl
       rotate_left
       ·simp only [Act.put, List.setIfInBounds_toArray, List.set_cons_zero, List.set_cons_succ, i64_w, i32_w]
        rfl
       refine take_ (i := 1) (N := some 49) (v := ?_) (a' := ?_) #[true, true, false, true, false, true, true, false, true, false, false, false, false, false] rfl rfl (take_ofW HT_.out HW_.out (by kernel_rfl)) (fun _ _ _ h => h) (Or.inl ⟨by rfl, ?_⟩) hHeld ?_ ?_
       rotate_left
       ·rintro w' ⟨s0, s1, s2, s3, s4, s5⟩
        go_simp
        with_reducible rfl
       rotate_left
       ·simp only [Act.put, List.setIfInBounds_toArray, List.set_cons_zero, List.set_cons_succ, i64_w, i32_w]
        rfl
       refine pure_ (i := 2) (N := some 50) (v := ?_) (a' := ?_) #[true, true, true, true, false, true, true, false, true, false, false, false, false, false] rfl rfl (any_of HT_.out (by kernel_rfl)) (fun _ _ _ h => h) (Or.inl ⟨by rfl, ?_⟩) ?_ ?_
       rotate_left
       ·intro w'
        go_simp
        with_reducible rfl
       rotate_left
       ·simp only [Act.put, List.setIfInBounds_toArray, List.set_cons_zero, List.set_cons_succ, i64_w, i32_w]
        rfl
       refine take_ (i := 4) (N := some 52) (v := ?_) (a' := ?_) #[true, true, true, true, true, true, true, false, true, false, false, false, false, false] rfl rfl (take_ofW HT_.out HW_.out (by kernel_rfl)) (fun _ _ _ h => h) (Or.inl ⟨by rfl, ?_⟩) hHeld ?_ ?_
       rotate_left
       ·rintro w' ⟨s0, s1, s2, s3, s4, s5⟩
        go_simp
        with_reducible rfl
       rotate_left
       ·simp only [Act.put, List.setIfInBounds_toArray, List.set_cons_zero, List.set_cons_succ, i64_w, i32_w]
        rfl
       refine pure_ (i := 7) (N := some 55) (v := ?_) (a' := ?_) #[true, true, true, true, true, true, true, true, true, false, false, false, false, false] rfl rfl (any_of HT_.out (by kernel_rfl)) (fun _ _ _ h => h) (Or.inl ⟨by rfl, ?_⟩) ?_ ?_
       rotate_left
       ·intro w'
        go_simp
        with_reducible rfl
       rotate_left
       ·simp only [Act.put, List.setIfInBounds_toArray, List.set_cons_zero, List.set_cons_succ, i64_w, i32_w]
        rfl
       refine one_ (i := 9) (N := none) #[true, true, true, true, true, true, true, true, true, true, false, false, false, false] rfl rfl (one_of HT_.out (by kernel_rfl)) (by decide) (fun K hK => ?_)
       have hs64 : w63.cell? ⟨gb237, 0, none⟩ = some (.int .i64 t229) := (blk_cell BK237.out 0).trans rfl
       have hfs64 := blk_frozen BK237.out 0
       have hns64_0 := NB227_237.out
       have hns64_1 := NB228_237.out
       have hms64_0 := NB237_227.out
       have hms64_1 := NB237_228.out
       refine skip_ (w1 := ?_) (by rfl) rfl ?_ ?_
       rotate_left
       ·go_simp
        rfl
       refine hK.out _ _ ⟨((cell_far (p := ⟨gb237, _, none⟩) NB227_237.out _).trans (hHeld.1)), ((cell_far (p := ⟨gb237, _, none⟩) NB227_237.out _).trans (hHeld.2.1)), ((cell_far (p := ⟨gb237, _, none⟩) NB227_237.out _).trans (hHeld.2.2.1)), ((cell_far (p := ⟨gb237, _, none⟩) NB227_237.out _).trans (hHeld.2.2.2.1)), ((cell_far (p := ⟨gb237, _, none⟩) NB227_237.out _).trans (hHeld.2.2.2.2.1)), ((cell_far (p := ⟨gb237, _, none⟩) NB227_237.out _).trans (hHeld.2.2.2.2.2))⟩ (fun hHeld => ?_)
       clear hK K
       refine pure_ (i := 10) (N := some 57) (v := ?_) (a' := ?_) #[true, true, true, true, true, true, true, true, true, true, true, false, false, false] rfl rfl (any_of HT_.out (by kernel_rfl)) (fun _ _ _ h => h) (Or.inl ⟨by rfl, ?_⟩) ?_ ?_
       rotate_left
       ·intro w'
        go_simp
        with_reducible rfl
       rotate_left
       ·simp only [Act.put, List.setIfInBounds_toArray, List.set_cons_zero, List.set_cons_succ, i64_w, i32_w]
        rfl
       refine one_ (i := 11) (N := none) #[true, true, true, true, true, true, true, true, true, true, true, true, false, false] rfl rfl (one_of HT_.out (by kernel_rfl)) (by decide) (fun K hK => ?_)
       have hs65 : w63.cell? ⟨gb237, 2, none⟩ = some (.int .i64 t231) := (blk_cell BK237.out 2).trans rfl
       have hfs65 := blk_frozen BK237.out 2
       have hns65_0 := NB227_237.out
       have hns65_1 := NB228_237.out
       have hms65_0 := NB237_227.out
       have hms65_1 := NB237_228.out
       refine skip_ (w1 := ?_) (by rfl) rfl ?_ ?_
       rotate_left
       ·go_simp
        rfl
       refine hK.out _ _ ⟨((cell_far (p := ⟨gb237, _, none⟩) NB227_237.out _).trans (hHeld.1)), ((cell_far (p := ⟨gb237, _, none⟩) NB227_237.out _).trans (hHeld.2.1)), ((cell_far (p := ⟨gb237, _, none⟩) NB227_237.out _).trans (hHeld.2.2.1)), ((cell_far (p := ⟨gb237, _, none⟩) NB227_237.out _).trans (hHeld.2.2.2.1)), ((cell_far (p := ⟨gb237, _, none⟩) NB227_237.out _).trans (hHeld.2.2.2.2.1)), ((cell_far (p := ⟨gb237, _, none⟩) NB227_237.out _).trans (hHeld.2.2.2.2.2))⟩ (fun hHeld => ?_)
       clear hK K
       refine pure_ (i := 12) (N := some 58) (v := ?_) (a' := ?_) #[true, true, true, true, true, true, true, true, true, true, true, true, true, false] rfl rfl (any_of HT_.out (by kernel_rfl)) (fun _ _ _ h => h) (Or.inl ⟨by rfl, ?_⟩) ?_ ?_
       rotate_left
       ·intro w'
        go_simp
        with_reducible rfl
       rotate_left
       ·simp only [Act.put, List.setIfInBounds_toArray, List.set_cons_zero, List.set_cons_succ, i64_w, i32_w]
        rfl
       refine one_ (i := 13) (N := none) #[true, true, true, true, true, true, true, true, true, true, true, true, true, true] rfl rfl (one_of HT_.out (by kernel_rfl)) (by decide) (fun K hK => ?_)
       have hs66 : w63.cell? ⟨gb237, 3, none⟩ = some (.int .i64 t232) := (blk_cell BK237.out 3).trans rfl
       have hfs66 := blk_frozen BK237.out 3
       have hns66_0 := NB227_237.out
       have hns66_1 := NB228_237.out
       have hms66_0 := NB237_227.out
       have hms66_1 := NB237_228.out
       refine skip_ (w1 := ?_) (by rfl) rfl ?_ ?_
       rotate_left
       ·go_simp
        rfl
       refine hK.out _ _ ⟨((cell_far (p := ⟨gb237, _, none⟩) NB227_237.out _).trans (hHeld.1)), ((cell_far (p := ⟨gb237, _, none⟩) NB227_237.out _).trans (hHeld.2.1)), ((cell_far (p := ⟨gb237, _, none⟩) NB227_237.out _).trans (hHeld.2.2.1)), ((cell_far (p := ⟨gb237, _, none⟩) NB227_237.out _).trans (hHeld.2.2.2.1)), ((cell_far (p := ⟨gb237, _, none⟩) NB227_237.out _).trans (hHeld.2.2.2.2.1)), ((cell_far (p := ⟨gb237, _, none⟩) NB227_237.out _).trans (hHeld.2.2.2.2.2))⟩ (fun hHeld => ?_)
       clear hK K
       refine done_ (done_of HT_.out (by kernel_rfl)) ?_
       have hnb67 := NB227_228.out
       have hnc67 := NB228_227.out
       have hnb68 := NB227_237.out
       have hnc68 := NB237_227.out
       obtain ⟨hcz69_0, hcz69_1, hcz69_2, hcz69_3, hcz69_4, hcz69_5⟩ := kc6 BK227.out
       obtain ⟨hfz69_0, hfz69_1, hfz69_2, hfz69_3, hfz69_4, hfz69_5⟩ := kf6 BK227.out
       try go_wp2_with (first | ((with_reducible refine gate_callee (f := 49) rfl ?_); refine goesL_ (some 64) rfl rfl Tryz.func49 (by kernel_rfl) rfl #[.int .i64 a0_4, .int .i64 a0_3, .string a2] rfl ka ?_; (with_reducible refine (download_words.calls kj31 a0_4 a0_3 a2 t246 _ A62.out).mono ?_); rintro e w70 ⟨v247, rfl, ho0, hb⟩; refine ⟨_, rfl, ?_⟩; have n0_ := Aside0.mk (Kd.R_elder' (by (with_reducible repeat (first | apply Kd.R_alloc | apply Kd.R_drewN | apply Kd.R_drew)); exact (Kd.R_mono (Kd.R_far (p := ⟨gb237, 3, none⟩) (Kd.R_far (p := ⟨gb237, 2, none⟩) (Kd.R_far (p := ⟨gb237, 0, none⟩) (Kd.R_types HO_238005.out BK237.out (by decide)) (fun _ hk => hk.2) (.int .i64 1)) (fun _ hk => hk.2) (.int .i64 (wrap64 (a0_2 + 1)))) (fun _ hk => hk.2) (.int .i64 (wrap64 (a0_3 + (a2.size : Int))))) (fun _ h_ => h_.1))) (Kd.R_base ho0) hb); have n1_ := Aside0.mk (Kd.R_lower (Kd.R_new' ho0 (Kd.R_lt (by (with_reducible repeat (first | apply Kd.R_alloc | apply Kd.R_drewN | apply Kd.R_drew)); exact (Kd.R_mono (Kd.R_far (p := ⟨gb237, 3, none⟩) (Kd.R_far (p := ⟨gb237, 2, none⟩) (Kd.R_far (p := ⟨gb237, 0, none⟩) (Kd.R_types HO_238005.out BK237.out (by decide)) (fun _ hk => hk.2) (.int .i64 1)) (fun _ hk => hk.2) (.int .i64 (wrap64 (a0_2 + 1)))) (fun _ hk => hk.2) (.int .i64 (wrap64 (a0_3 + (a2.size : Int))))) (fun _ h_ => h_.1))))) (below_size (kb3 HB.out GE227.out GE228.out GE237.out))); have n2_ := Aside0.mk (blk_below (g := gb227) (o := .cells #[.int .i64 a0_0, .int .i64 a0_1, .int .i64 a0_2, .int .i64 a0_3, .int .i64 a0_4, .slice A0_5 l0_5.length c0_5] 24 (0, 0)) (kFa3 BK227.out NB227_237.out) hb); have n3_ := Aside0.mk (blk_below (g := gb228) (o := .cells #[.int .i64 0, .int .i64 0, .int .i64 0, .int .i64 0, .int .i64 0, .slice none 0 0] 24 (0, 0)) (kFa3 BK228.out NB228_237.out) hb); have n4_ := Aside0.mk (blk_below (g := gb237) (o := .cells #[.int .i64 1, .int .i64 t230, .int .i64 (wrap64 (a0_2 + 1)), .int .i64 (wrap64 (a0_3 + (a2.size : Int))), .int .i64 t233, .slice Ao42 t234.length co42] 24 (0, 0)) (by (with_reducible repeat (first | refine blk_drewN ?_ _ | refine blk_drew ?_ | refine blk_alloc ?_ _)); refine blk_put (cs := #[.int .i64 1, .int .i64 t230, .int .i64 (wrap64 (a0_2 + 1)), .int .i64 t232, .int .i64 t233, .slice Ao42 t234.length co42]) ?_ 3 _ rfl; (with_reducible repeat (first | refine blk_drewN ?_ _ | refine blk_drew ?_ | refine blk_alloc ?_ _)); refine blk_put (cs := #[.int .i64 1, .int .i64 t230, .int .i64 t231, .int .i64 t232, .int .i64 t233, .slice Ao42 t234.length co42]) ?_ 2 _ rfl; (with_reducible repeat (first | refine blk_drewN ?_ _ | refine blk_drew ?_ | refine blk_alloc ?_ _)); refine blk_put (cs := #[.int .i64 t229, .int .i64 t230, .int .i64 t231, .int .i64 t232, .int .i64 t233, .slice Ao42 t234.length co42]) ?_ 0 _ rfl; (with_reducible repeat (first | refine blk_drewN ?_ _ | refine blk_drew ?_ | refine blk_alloc ?_ _)); exact BK237.out) hb); have n5_ := Aside0.mk (below_step (kb3 HB.out GE227.out GE228.out GE237.out) hb); clear HO_238005; clear BK227; clear BK228; clear BK237; clear HB; have HO_238005 := n0_; have HO248 := n1_; have BK227 := n2_; have BK228 := n3_; have BK237 := n4_; have HB := n5_; clear n0_ n1_ n2_ n3_ n4_ n5_; (try clear hb); (try clear hb2); (try clear hk); (try clear hi); (try clear ho0); obtain ⟨Ao71, co71, eo71⟩ := Kd.R_slice HO248.out; subst eo71; have hnb72 := NB237_228.out; have hnc72 := NB228_237.out; obtain ⟨hcz73_0, hcz73_1, hcz73_2, hcz73_3, hcz73_4, hcz73_5⟩ := kc6 BK237.out; obtain ⟨hfz73_0, hfz73_1, hfz73_2, hfz73_3, hfz73_4, hfz73_5⟩ := kf6 BK237.out; obtain ⟨hcz74_0, hcz74_1, hcz74_2, hcz74_3, hcz74_4, hcz74_5⟩ := kc6 BK228.out; obtain ⟨hfz74_0, hfz74_1, hfz74_2, hfz74_3, hfz74_4, hfz74_5⟩ := kf6 BK228.out))
       refine bodyPost_ret (results_cell_row rfl _ _ gb228 24 #[.int .i64 1, .int .i64 t230, .int .i64 (wrap64 (a0_2 + 1)), .int .i64 (wrap64 (a0_3 + (a2.size : Int))), .int .i64 t233, .slice Ao71 t246.length co71] (0, 0) _ rfl (by (with_reducible repeat (first | refine blk_drewN ?_ _ | refine blk_drew ?_ | refine blk_alloc ?_ _)); refine blk_put (cs := #[.int .i64 1, .int .i64 t230, .int .i64 (wrap64 (a0_2 + 1)), .int .i64 (wrap64 (a0_3 + (a2.size : Int))), .int .i64 t233, .slice none 0 0]) ?_ 5 _ rfl; (with_reducible repeat (first | refine blk_drewN ?_ _ | refine blk_drew ?_ | refine blk_alloc ?_ _)); refine blk_put (cs := #[.int .i64 1, .int .i64 t230, .int .i64 (wrap64 (a0_2 + 1)), .int .i64 (wrap64 (a0_3 + (a2.size : Int))), .int .i64 0, .slice none 0 0]) ?_ 4 _ rfl; (with_reducible repeat (first | refine blk_drewN ?_ _ | refine blk_drew ?_ | refine blk_alloc ?_ _)); refine blk_put (cs := #[.int .i64 1, .int .i64 t230, .int .i64 (wrap64 (a0_2 + 1)), .int .i64 0, .int .i64 0, .slice none 0 0]) ?_ 3 _ rfl; (with_reducible repeat (first | refine blk_drewN ?_ _ | refine blk_drew ?_ | refine blk_alloc ?_ _)); refine blk_put (cs := #[.int .i64 1, .int .i64 t230, .int .i64 0, .int .i64 0, .int .i64 0, .slice none 0 0]) ?_ 2 _ rfl; (with_reducible repeat (first | refine blk_drewN ?_ _ | refine blk_drew ?_ | refine blk_alloc ?_ _)); refine blk_put (cs := #[.int .i64 1, .int .i64 0, .int .i64 0, .int .i64 0, .int .i64 0, .slice none 0 0]) ?_ 1 _ rfl; (with_reducible repeat (first | refine blk_drewN ?_ _ | refine blk_drew ?_ | refine blk_alloc ?_ _)); refine blk_put (cs := #[.int .i64 0, .int .i64 0, .int .i64 0, .int .i64 0, .int .i64 0, .slice none 0 0]) ?_ 0 _ rfl; (with_reducible repeat (first | refine blk_drewN ?_ _ | refine blk_drew ?_ | refine blk_alloc ?_ _)); refine blk_far ?_ NB228_237.out _; (with_reducible repeat (first | refine blk_drewN ?_ _ | refine blk_drew ?_ | refine blk_alloc ?_ _)); exact BK228.out) Tryz.underlying24 rfl (by kernel_rfl)) rfl ?_
       exact ⟨_, by first | rfl | (simp [errW_none, errW_some] <;> rfl) | (simp [*, errW_none, errW_some] <;> rfl), by (with_reducible repeat (first | apply Kd.R_alloc | apply Kd.R_drewN | apply Kd.R_drew)); exact Kd.R_mono (Kd.R_far (p := ⟨gb228, 5, none⟩) (Kd.R_far (p := ⟨gb228, 4, none⟩) (Kd.R_far (p := ⟨gb228, 3, none⟩) (Kd.R_far (p := ⟨gb228, 2, none⟩) (Kd.R_far (p := ⟨gb228, 1, none⟩) (Kd.R_far (p := ⟨gb228, 0, none⟩) (Kd.R_far (p := ⟨gb237, 5, none⟩) (Kd.R_types (Kd.R_types HO248.out BK237.out (by decide)) BK228.out (by decide)) (fun _ hk => hk.1.2) (.slice Ao71 t246.length co71)) (fun _ hk => hk.2) (.int .i64 1)) (fun _ hk => hk.2) (.int .i64 t230)) (fun _ hk => hk.2) (.int .i64 (wrap64 (a0_2 + 1)))) (fun _ hk => hk.2) (.int .i64 (wrap64 (a0_3 + (a2.size : Int))))) (fun _ hk => hk.2) (.int .i64 t233)) (fun _ hk => hk.2) (.slice Ao71 t246.length co71)) (fun _ hk => trivial), kb3 HB.out GE227.out GE228.out GE237.out⟩
  ·rw [if_neg c18] at H
   have c18b0 : (a1 == a0_2) = false := beq_eq_false_iff_ne.mpr c18
   have c18b1 : (a1 != a0_2) = true := bne_iff_ne.mpr c18
   replace H := Option.bind_eq_some_iff.mp H
   obtain ⟨⟨t249, t250, t251, t252, t253, t254⟩, A750, H⟩ := H
   replace H : (some (t249, t250, t251, t252, t253, t254)) = some (r1, r2, r3, r4, r5, r6) := H
   have A75 := Aside0.mk A750
   clear A750
   simp only [Option.some.injEq, Prod.mk.injEq] at H
   obtain ⟨rfl, rfl, rfl, rfl, rfl, rfl⟩ := H
   go_enter Tryz.func24, Tryz.ntmps24
   go_wp2_with (first | ((with_reducible refine gate_dst (N := 3) rfl ?_); (try (refine gate_guard (by rfl) ?_; dsimp only)); refine box_event ?hg (N := 3) ?hd (cs := #[.int .i64 a0_0, .int .i64 a0_1, .int .i64 a0_2, .int .i64 a0_3, .int .i64 a0_4, .slice A0_5 l0_5.length c0_5]) (t := 24) ?hr ?_; (case hd => rfl); (case hg => rfl); (case hr => first | (go_simp; done) | (go_simp; rfl)); intro gb227 hg w76 hbox hb; have n0_ := Aside0.mk (below_step (kb HB.out) hb); have n1_ := Aside0.mk (hbox); have n2_ := Aside0.mk ((kz hg (below_size (kb HB.out)) : w.heap.size ≤ gb227)); have n3_ := Aside0.mk ((kz hg (below_size (kb HB.out)) : w.heap.size ≤ gb227)); clear HB; have HB := n0_; have BK227 := n1_; have GW227 := n2_; have GE227 := n3_; clear n0_ n1_ n2_ n3_; clear hb hbox hg) | ((with_reducible refine gate_dst (N := 6) rfl ?_); (try (refine gate_guard (by rfl) ?_; dsimp only)); refine box_event ?hg (N := 6) ?hd (cs := #[.int .i64 0, .int .i64 0, .int .i64 0, .int .i64 0, .int .i64 0, .slice none 0 0]) (t := 24) ?hr ?_; (case hd => rfl); (case hg => rfl); (case hr => first | (go_simp; done) | (go_simp; rfl)); intro gb228 hg w77 hbox hb; have n0_ := Aside0.mk (kL BK227.out hb); have n1_ := Aside0.mk (below_step (kb1 HB.out GE227.out) hb); have n2_ := Aside0.mk (hbox); have n3_ := Aside0.mk ((kz hg (below_size (kb1 HB.out GE227.out)) : w.heap.size ≤ gb228)); have n4_ := Aside0.mk ((kz hg (below_size (kb1 HB.out GE227.out)) : w.heap.size ≤ gb228)); have n5_ := Aside0.mk ((kN hg BK227.out : gb227 ≠ gb228)); have n6_ := Aside0.mk (((kN hg BK227.out).symm : gb228 ≠ gb227)); clear BK227; clear HB; have BK227 := n0_; have HB := n1_; have BK228 := n2_; have GW228 := n3_; have GE228 := n4_; have NB227_228 := n5_; have NB228_227 := n6_; clear n0_ n1_ n2_ n3_ n4_ n5_ n6_; clear hb hbox hg; have hnb78 := NB227_228.out; have hnc78 := NB228_227.out; obtain ⟨hcz79_0, hcz79_1, hcz79_2, hcz79_3, hcz79_4, hcz79_5⟩ := kc6 BK227.out; obtain ⟨hfz79_0, hfz79_1, hfz79_2, hfz79_3, hfz79_4, hfz79_5⟩ := kf6 BK227.out) | ((with_reducible refine gate_callee (f := 46) rfl ?_); refine goesL_ (some 9) rfl rfl Tryz.func46 (by kernel_rfl) rfl #[.agg #[.int .i64 a0_0, .int .i64 a0_1, .int .i64 a0_2, .int .i64 a0_3, .int .i64 a0_4, .slice A0_5 l0_5.length c0_5]] rfl ka ?_; (with_reducible refine (device_Copy.calls a0_0 a0_1 a0_2 a0_3 a0_4 _ _ l0_5 t229 t230 t231 t232 t233 t234 _ ?side1 ?side2 A4.out).mono ?_); (case side1 => exact kC (Kd.C_below HR0_5.out HB.out)); (case side2 => exact HC0_5.out); rintro e w80 ⟨v235, rfl, ho0, hb⟩; refine ⟨_, rfl, ?_⟩; have n0_ := Aside0.mk (Kd.R_lower ho0 (below_size (kb2 HB.out GE227.out GE228.out))); have n1_ := Aside0.mk (kL BK227.out hb); have n2_ := Aside0.mk (kL BK228.out hb); have n3_ := Aside0.mk (below_step (kb2 HB.out GE227.out GE228.out) hb); clear BK227; clear BK228; clear HB; have HO236 := n0_; have BK227 := n1_; have BK228 := n2_; have HB := n3_; clear n0_ n1_ n2_ n3_; (try clear hb); (try clear hb2); (try clear hk); (try clear hi); (try clear ho0)) | ((with_reducible refine gate_dst (N := 7) rfl ?_); (try (refine gate_guard (by rfl) ?_; dsimp only)); refine box_event ?hg (N := 7) ?hd (cs := #[.int .i64 0, .int .i64 0, .int .i64 0, .int .i64 0, .int .i64 0, .slice none 0 0]) (t := 24) ?hr ?_; (case hd => rfl); (case hg => rfl); (case hr => first | (go_simp; done) | (go_simp; rfl)); intro gb237 hg w81 hbox hb; have n0_ := Aside0.mk (Kd.R_below (kR HO236.out) hb); have n1_ := Aside0.mk (kL BK227.out hb); have n2_ := Aside0.mk (kL BK228.out hb); have n3_ := Aside0.mk (below_step (kb2 HB.out GE227.out GE228.out) hb); have n4_ := Aside0.mk (hbox); have n5_ := Aside0.mk ((kz hg (below_size (kb2 HB.out GE227.out GE228.out)) : w.heap.size ≤ gb237)); have n6_ := Aside0.mk ((kz hg (below_size (kb2 HB.out GE227.out GE228.out)) : w.heap.size ≤ gb237)); have n7_ := Aside0.mk ((kN hg BK227.out : gb227 ≠ gb237)); have n8_ := Aside0.mk (((kN hg BK227.out).symm : gb237 ≠ gb227)); have n9_ := Aside0.mk ((kN hg BK228.out : gb228 ≠ gb237)); have n10_ := Aside0.mk (((kN hg BK228.out).symm : gb237 ≠ gb228)); clear HO236; clear BK227; clear BK228; clear HB; have HO236 := n0_; have BK227 := n1_; have BK228 := n2_; have HB := n3_; have BK237 := n4_; have GW237 := n5_; have GE237 := n6_; have NB227_237 := n7_; have NB237_227 := n8_; have NB228_237 := n9_; have NB237_228 := n10_; clear n0_ n1_ n2_ n3_ n4_ n5_ n6_ n7_ n8_ n9_ n10_; clear hb hbox hg; have hnb82 := NB237_227.out; have hnc82 := NB227_237.out; have hnb83 := NB237_228.out; have hnc83 := NB228_237.out; obtain ⟨hcz84_0, hcz84_1, hcz84_2, hcz84_3, hcz84_4, hcz84_5⟩ := kc6 BK237.out; obtain ⟨hfz84_0, hfz84_1, hfz84_2, hfz84_3, hfz84_4, hfz84_5⟩ := kf6 BK237.out; obtain ⟨Ao85, co85, eo85⟩ := Kd.R_slice HO236.out; subst eo85; obtain ⟨hcz86_0, hcz86_1, hcz86_2, hcz86_3, hcz86_4, hcz86_5⟩ := kc6 BK227.out; obtain ⟨hfz86_0, hfz86_1, hfz86_2, hfz86_3, hfz86_4, hfz86_5⟩ := kf6 BK227.out) | ((with_reducible refine gate_callee (f := 45) rfl ?_); refine goesL_ (some 23) rfl rfl Tryz.func45 (by kernel_rfl) rfl #[.int .i64 4] rfl ka ?_; (with_reducible refine (device_Failed.calls 4 t249 t250 t251 t252 t253 t254 _ A75.out).mono ?_); rintro e w87 ⟨v255, rfl, ho0, hb⟩; refine ⟨_, rfl, ?_⟩; have n0_ := Aside0.mk (Kd.R_elder' (by (with_reducible repeat (first | apply Kd.R_alloc | apply Kd.R_drewN | apply Kd.R_drew)); exact (Kd.R_mono (Kd.R_far (p := ⟨gb237, 5, none⟩) (Kd.R_far (p := ⟨gb237, 4, none⟩) (Kd.R_far (p := ⟨gb237, 3, none⟩) (Kd.R_far (p := ⟨gb237, 2, none⟩) (Kd.R_far (p := ⟨gb237, 1, none⟩) (Kd.R_far (p := ⟨gb237, 0, none⟩) (Kd.R_types HO236.out BK237.out (by decide)) (fun _ hk => hk.2) (.int .i64 t229)) (fun _ hk => hk.2) (.int .i64 t230)) (fun _ hk => hk.2) (.int .i64 t231)) (fun _ hk => hk.2) (.int .i64 t232)) (fun _ hk => hk.2) (.int .i64 t233)) (fun _ hk => hk.2) (.slice Ao85 t234.length co85)) (fun _ h_ => h_.1))) (Kd.R_base ho0) hb); have n1_ := Aside0.mk (Kd.R_lower (Kd.R_new' ho0 (Kd.R_lt (by (with_reducible repeat (first | apply Kd.R_alloc | apply Kd.R_drewN | apply Kd.R_drew)); exact (Kd.R_mono (Kd.R_far (p := ⟨gb237, 5, none⟩) (Kd.R_far (p := ⟨gb237, 4, none⟩) (Kd.R_far (p := ⟨gb237, 3, none⟩) (Kd.R_far (p := ⟨gb237, 2, none⟩) (Kd.R_far (p := ⟨gb237, 1, none⟩) (Kd.R_far (p := ⟨gb237, 0, none⟩) (Kd.R_types HO236.out BK237.out (by decide)) (fun _ hk => hk.2) (.int .i64 t229)) (fun _ hk => hk.2) (.int .i64 t230)) (fun _ hk => hk.2) (.int .i64 t231)) (fun _ hk => hk.2) (.int .i64 t232)) (fun _ hk => hk.2) (.int .i64 t233)) (fun _ hk => hk.2) (.slice Ao85 t234.length co85)) (fun _ h_ => h_.1))))) (below_size (kb3 HB.out GE227.out GE228.out GE237.out))); have n2_ := Aside0.mk (blk_below (g := gb227) (o := .cells #[.int .i64 a0_0, .int .i64 a0_1, .int .i64 a0_2, .int .i64 a0_3, .int .i64 a0_4, .slice A0_5 l0_5.length c0_5] 24 (0, 0)) (kFa6 BK227.out NB227_237.out) hb); have n3_ := Aside0.mk (blk_below (g := gb228) (o := .cells #[.int .i64 0, .int .i64 0, .int .i64 0, .int .i64 0, .int .i64 0, .slice none 0 0] 24 (0, 0)) (kFa6 BK228.out NB228_237.out) hb); have n4_ := Aside0.mk (blk_below (g := gb237) (o := .cells #[.int .i64 t229, .int .i64 t230, .int .i64 t231, .int .i64 t232, .int .i64 t233, .slice Ao85 t234.length co85] 24 (0, 0)) (kP6 BK237.out) hb); have n5_ := Aside0.mk (below_step (kb3 HB.out GE227.out GE228.out GE237.out) hb); clear HO236; clear BK227; clear BK228; clear BK237; clear HB; have HO236 := n0_; have HO256 := n1_; have BK227 := n2_; have BK228 := n3_; have BK237 := n4_; have HB := n5_; clear n0_ n1_ n2_ n3_ n4_ n5_; (try clear hb); (try clear hb2); (try clear hk); (try clear hi); (try clear ho0); obtain ⟨hcz88_0, hcz88_1, hcz88_2, hcz88_3, hcz88_4, hcz88_5⟩ := kc6 BK228.out; obtain ⟨hfz88_0, hfz88_1, hfz88_2, hfz88_3, hfz88_4, hfz88_5⟩ := kf6 BK228.out; obtain ⟨Ao89, co89, eo89⟩ := Kd.R_slice HO256.out; subst eo89))
   refine bodyPost_ret (results_cell_row rfl _ _ gb228 24 #[.int .i64 t249, .int .i64 t250, .int .i64 t251, .int .i64 t252, .int .i64 t253, .slice Ao89 t254.length co89] (0, 0) _ rfl (kP6 BK228.out) Tryz.underlying24 rfl (by kernel_rfl)) rfl ?_
   exact ⟨_, by first | rfl | (simp [errW_none, errW_some] <;> rfl) | (simp [*, errW_none, errW_some] <;> rfl), by (with_reducible repeat (first | apply Kd.R_alloc | apply Kd.R_drewN | apply Kd.R_drew)); exact Kd.R_mono (Kd.R_far (p := ⟨gb228, 5, none⟩) (Kd.R_far (p := ⟨gb228, 4, none⟩) (Kd.R_far (p := ⟨gb228, 3, none⟩) (Kd.R_far (p := ⟨gb228, 2, none⟩) (Kd.R_far (p := ⟨gb228, 1, none⟩) (Kd.R_far (p := ⟨gb228, 0, none⟩) (Kd.R_types HO256.out BK228.out (by decide)) (fun _ hk => hk.2) (.int .i64 t249)) (fun _ hk => hk.2) (.int .i64 t250)) (fun _ hk => hk.2) (.int .i64 t251)) (fun _ hk => hk.2) (.int .i64 t252)) (fun _ hk => hk.2) (.int .i64 t253)) (fun _ hk => hk.2) (.slice Ao89 t254.length co89)) (fun _ hk => trivial), kb3 HB.out GE227.out GE228.out GE237.out⟩

/-! ### download_Take: function 8 -/
def download_Take.j0 : Nat → ByteArray → Int → ByteArray → Bool → Int → Int → Int → Int → Int → List (S41) → Option (Int × Int × Int × Int × Int × (List (S41)) × Int)
 | 0, _, _, _, _, _, _, _, _, _, _ => none
 | k + 1, x0, x2, x3, x38, x258000, x258001, x258002, x258003, x258004, x258005 => if x38 = true then (some (0, 0, 0, 0, 0, ([] : List (S41)), 1700)) else (if x258000 = 0 then ((download_begin.f k x0 x258000 x258001 x258002 x258003 x258004 x258005 x2 x3).bind fun bt265 => (some (bt265.1, bt265.2.1, bt265.2.2.1, bt265.2.2.2.1, bt265.2.2.2.2.1, bt265.2.2.2.2.2, 0))) else ((download_more.f k x258000 x258001 x258002 x258003 x258004 x258005 x2 x3).bind fun bt273 => (some (bt273.1, bt273.2.1, bt273.2.2.1, bt273.2.2.2.1, bt273.2.2.2.2.1, bt273.2.2.2.2.2, 0))))
def download_Take.f (k : Nat) (a0 : ByteArray) (a1_0 : Int) (a1_1 : Int) (a1_2 : Int) (a1_3 : Int) (a1_4 : Int) (l1_5 : List (S41)) (a2 : Int) (a3 : ByteArray) : Option (Int × Int × Int × Int × Int × (List (S41)) × Int) := (nor_May.f a0).bind fun t259 => (if t259 = true then ((device_May.f a1_0 a1_1 a1_2 a1_3 a1_4 l1_5).bind fun t260 => (if t260 = true then (if a1_0 = 0 then ((setup_Value.f a2).bind fun t261 => (if t261 = true then ((setup_Length.f (a3.size : Int)).bind fun t262 => (download_Take.j0 k a0 a2 a3 (!t262) a1_0 a1_1 a1_2 a1_3 a1_4 l1_5)) else (download_Take.j0 k a0 a2 a3 true a1_0 a1_1 a1_2 a1_3 a1_4 l1_5))) else (if a1_0 = 3 then ((setup_Value.f a2).bind fun t263 => (if t263 = true then ((setup_Length.f (a3.size : Int)).bind fun t264 => (download_Take.j0 k a0 a2 a3 (!t264) a1_0 a1_1 a1_2 a1_3 a1_4 l1_5)) else (download_Take.j0 k a0 a2 a3 true a1_0 a1_1 a1_2 a1_3 a1_4 l1_5))) else (download_Take.j0 k a0 a2 a3 true a1_0 a1_1 a1_2 a1_3 a1_4 l1_5))) else (download_Take.j0 k a0 a2 a3 true a1_0 a1_1 a1_2 a1_3 a1_4 l1_5))) else (download_Take.j0 k a0 a2 a3 true a1_0 a1_1 a1_2 a1_3 a1_4 l1_5))
set_option maxHeartbeats 8000000 in
set_option maxRecDepth 100000 in
theorem download_Take.calls (k : Nat) (a0 : ByteArray) (a1_0 : Int) (a1_1 : Int) (a1_2 : Int) (a1_3 : Int) (a1_4 : Int) (A1_5 : Option Addr) (c1_5 : Nat) (l1_5 : List (S41)) (a2 : Int) (a3 : ByteArray) (r1 : Int) (r2 : Int) (r3 : Int) (r4 : Int) (r5 : Int) (r6 : List (S41)) (r7 : Int) (w : World) (hr1_5 : Kd.C k41 w A1_5 l1_5.length l1_5) (hc1_5 : l1_5.length ≤ c1_5) (h : download_Take.f k a0 a1_0 a1_1 a1_2 a1_3 a1_4 l1_5 a2 a3 = some (r1, r2, r3, r4, r5, r6, r7)) :
  Calls Tryz.prog 8 #[.string a0, .agg #[.int .i64 a1_0, .int .i64 a1_1, .int .i64 a1_2, .int .i64 a1_3, .int .i64 a1_4, .slice A1_5 l1_5.length c1_5], .int .i64 a2, .string a3] w fun e w' => ∃ v5_ : Value, e = .returned (.tuple #[.agg #[.int .i64 r1, .int .i64 r2, .int .i64 r3, .int .i64 r4, .int .i64 r5, v5_], .int .i64 r7]) ∧ Kd.R k41 41 w' w.heap.size (fun _ => True) v5_ r6 ∧ Below w.heap.size w w' := by
 have hu24 := Tryz.underlying24
 have HR1_5 := Aside0.mk hr1_5
 have HC1_5 := Aside0.mk hc1_5
 clear hr1_5 hc1_5
 have HB := Aside0.mk (Below.refl w.heap.size w)
 have H : ((nor_May.f a0).bind fun t259 => (if t259 = true then ((device_May.f a1_0 a1_1 a1_2 a1_3 a1_4 l1_5).bind fun t260 => (if t260 = true then (if a1_0 = 0 then ((setup_Value.f a2).bind fun t261 => (if t261 = true then ((setup_Length.f (a3.size : Int)).bind fun t262 => (download_Take.j0 k a0 a2 a3 (!t262) a1_0 a1_1 a1_2 a1_3 a1_4 l1_5)) else (download_Take.j0 k a0 a2 a3 true a1_0 a1_1 a1_2 a1_3 a1_4 l1_5))) else (if a1_0 = 3 then ((setup_Value.f a2).bind fun t263 => (if t263 = true then ((setup_Length.f (a3.size : Int)).bind fun t264 => (download_Take.j0 k a0 a2 a3 (!t264) a1_0 a1_1 a1_2 a1_3 a1_4 l1_5)) else (download_Take.j0 k a0 a2 a3 true a1_0 a1_1 a1_2 a1_3 a1_4 l1_5))) else (download_Take.j0 k a0 a2 a3 true a1_0 a1_1 a1_2 a1_3 a1_4 l1_5))) else (download_Take.j0 k a0 a2 a3 true a1_0 a1_1 a1_2 a1_3 a1_4 l1_5))) else (download_Take.j0 k a0 a2 a3 true a1_0 a1_1 a1_2 a1_3 a1_4 l1_5))) = some (r1, r2, r3, r4, r5, r6, r7) := h
 clear h
 have HC5 := Aside0.mk H
 clear H
 go_enter Tryz.func8, Tryz.ntmps8
 go_upto_region 1 with (first | ((with_reducible refine gate_dst (N := 5) rfl ?_); (try (refine gate_guard (by rfl) ?_; dsimp only)); refine box_event ?hg (N := 5) ?hd (cs := #[.int .i64 a1_0, .int .i64 a1_1, .int .i64 a1_2, .int .i64 a1_3, .int .i64 a1_4, .slice A1_5 l1_5.length c1_5]) (t := 24) ?hr ?_; (case hd => rfl); (case hg => rfl); (case hr => first | (go_simp; done) | (go_simp; rfl)); intro gb257 hg w6 hbox hb; have n0_ := Aside0.mk (below_step (kb HB.out) hb); have n1_ := Aside0.mk (hbox); have n2_ := Aside0.mk ((kz hg (below_size (kb HB.out)) : w.heap.size ≤ gb257)); have n3_ := Aside0.mk ((kz hg (below_size (kb HB.out)) : w.heap.size ≤ gb257)); clear HB; have HB := n0_; have BK257 := n1_; have GW257 := n2_; have GE257 := n3_; clear n0_ n1_ n2_ n3_; clear hb hbox hg) | ((with_reducible refine gate_dst (N := 8) rfl ?_); (try (refine gate_guard (by rfl) ?_; dsimp only)); refine box_event ?hg (N := 8) ?hd (cs := #[.int .i64 0, .int .i64 0, .int .i64 0, .int .i64 0, .int .i64 0, .slice none 0 0]) (t := 24) ?hr ?_; (case hd => rfl); (case hg => rfl); (case hr => first | (go_simp; done) | (go_simp; rfl)); intro gb258 hg w7 hbox hb; have n0_ := Aside0.mk (kL BK257.out hb); have n1_ := Aside0.mk (below_step (kb1 HB.out GE257.out) hb); have n2_ := Aside0.mk (hbox); have n3_ := Aside0.mk ((kz hg (below_size (kb1 HB.out GE257.out)) : w.heap.size ≤ gb258)); have n4_ := Aside0.mk ((kz hg (below_size (kb1 HB.out GE257.out)) : w.heap.size ≤ gb258)); have n5_ := Aside0.mk ((kN hg BK257.out : gb257 ≠ gb258)); have n6_ := Aside0.mk (((kN hg BK257.out).symm : gb258 ≠ gb257)); clear BK257; clear HB; have BK257 := n0_; have HB := n1_; have BK258 := n2_; have GW258 := n3_; have GE258 := n4_; have NB257_258 := n5_; have NB258_257 := n6_; clear n0_ n1_ n2_ n3_ n4_ n5_ n6_; clear hb hbox hg))
 (try simp only [Act.put, List.setIfInBounds_toArray, List.set_cons_zero, List.set_cons_succ])
 go_cut [38] (fun v38 wc => ∃ (kq : Nat) (x38_4 : Bool), v38 = .bool x38_4 ∧ Aside0 (download_Take.j0 kq a0 a2 a3 x38_4 a1_0 a1_1 a1_2 a1_3 a1_4 l1_5 = some (r1, r2, r3, r4, r5, r6, r7)) ∧ Aside0 (kq ≤ k) ∧ Aside0 (wc.heap[gb257]? = some (.cells #[.int .i64 a1_0, .int .i64 a1_1, .int .i64 a1_2, .int .i64 a1_3, .int .i64 a1_4, (.slice A1_5 l1_5.length c1_5)] 24 (0, 0))) ∧ Aside0 (wc.heap[gb258]? = some (.cells #[.int .i64 0, .int .i64 0, .int .i64 0, .int .i64 0, .int .i64 0, (.slice none 0 0)] 24 (0, 0))) ∧ Aside0 (Below w.heap.size w wc))
 case first =>
  have H := HC5.out
  clear HC5
  replace H := Option.bind_eq_some_iff.mp H
  obtain ⟨t259, A80, H⟩ := H
  replace H : (if t259 = true then ((device_May.f a1_0 a1_1 a1_2 a1_3 a1_4 l1_5).bind fun t260 => (if t260 = true then (if a1_0 = 0 then ((setup_Value.f a2).bind fun t261 => (if t261 = true then ((setup_Length.f (a3.size : Int)).bind fun t262 => (download_Take.j0 k a0 a2 a3 (!t262) a1_0 a1_1 a1_2 a1_3 a1_4 l1_5)) else (download_Take.j0 k a0 a2 a3 true a1_0 a1_1 a1_2 a1_3 a1_4 l1_5))) else (if a1_0 = 3 then ((setup_Value.f a2).bind fun t263 => (if t263 = true then ((setup_Length.f (a3.size : Int)).bind fun t264 => (download_Take.j0 k a0 a2 a3 (!t264) a1_0 a1_1 a1_2 a1_3 a1_4 l1_5)) else (download_Take.j0 k a0 a2 a3 true a1_0 a1_1 a1_2 a1_3 a1_4 l1_5))) else (download_Take.j0 k a0 a2 a3 true a1_0 a1_1 a1_2 a1_3 a1_4 l1_5))) else (download_Take.j0 k a0 a2 a3 true a1_0 a1_1 a1_2 a1_3 a1_4 l1_5))) else (download_Take.j0 k a0 a2 a3 true a1_0 a1_1 a1_2 a1_3 a1_4 l1_5)) = some (r1, r2, r3, r4, r5, r6, r7) := H
  have A8 := Aside0.mk A80
  clear A80
  by_cases c9 : t259 = true
  case neg =>
   replace c9 := Bool.eq_false_iff.mpr c9
   subst c9
   have H1 : (download_Take.j0 k a0 a2 a3 true a1_0 a1_1 a1_2 a1_3 a1_4 l1_5) = some (r1, r2, r3, r4, r5, r6, r7) := by rw [if_neg (show ¬ (false = true) by decide)] at H; exact H
   clear H; have H := H1; clear H1
   have H' := Aside0.mk H
   clear H
   go_wp2_with (first | ((with_reducible refine gate_callee (f := 19) rfl ?_); refine goesL_ (some 11) rfl rfl Tryz.func19 (by kernel_rfl) rfl #[.string a0] rfl ka ?_; (with_reducible refine (nor_May.calls a0 false _ A8.out).mono ?_); rintro e w' ⟨rfl, ⟨nd, rfl⟩⟩; refine ⟨_, rfl, ?_⟩))
   go_meet
   case rel => exact ⟨_, (true), (by first | rfl | (simp; done) | (simp [*]; done)), H', ⟨by first | omega | exact Nat.le_refl _⟩, ⟨kB BK257.out⟩, ⟨kB BK258.out⟩, ⟨kb2 HB.out GE257.out GE258.out⟩⟩
  subst c9
  have H1 : ((device_May.f a1_0 a1_1 a1_2 a1_3 a1_4 l1_5).bind fun t260 => (if t260 = true then (if a1_0 = 0 then ((setup_Value.f a2).bind fun t261 => (if t261 = true then ((setup_Length.f (a3.size : Int)).bind fun t262 => (download_Take.j0 k a0 a2 a3 (!t262) a1_0 a1_1 a1_2 a1_3 a1_4 l1_5)) else (download_Take.j0 k a0 a2 a3 true a1_0 a1_1 a1_2 a1_3 a1_4 l1_5))) else (if a1_0 = 3 then ((setup_Value.f a2).bind fun t263 => (if t263 = true then ((setup_Length.f (a3.size : Int)).bind fun t264 => (download_Take.j0 k a0 a2 a3 (!t264) a1_0 a1_1 a1_2 a1_3 a1_4 l1_5)) else (download_Take.j0 k a0 a2 a3 true a1_0 a1_1 a1_2 a1_3 a1_4 l1_5))) else (download_Take.j0 k a0 a2 a3 true a1_0 a1_1 a1_2 a1_3 a1_4 l1_5))) else (download_Take.j0 k a0 a2 a3 true a1_0 a1_1 a1_2 a1_3 a1_4 l1_5))) = some (r1, r2, r3, r4, r5, r6, r7) := by rw [if_pos rfl] at H; exact H
  clear H; have H := H1; clear H1
  replace H := Option.bind_eq_some_iff.mp H
  obtain ⟨t260, A100, H⟩ := H
  replace H : (if t260 = true then (if a1_0 = 0 then ((setup_Value.f a2).bind fun t261 => (if t261 = true then ((setup_Length.f (a3.size : Int)).bind fun t262 => (download_Take.j0 k a0 a2 a3 (!t262) a1_0 a1_1 a1_2 a1_3 a1_4 l1_5)) else (download_Take.j0 k a0 a2 a3 true a1_0 a1_1 a1_2 a1_3 a1_4 l1_5))) else (if a1_0 = 3 then ((setup_Value.f a2).bind fun t263 => (if t263 = true then ((setup_Length.f (a3.size : Int)).bind fun t264 => (download_Take.j0 k a0 a2 a3 (!t264) a1_0 a1_1 a1_2 a1_3 a1_4 l1_5)) else (download_Take.j0 k a0 a2 a3 true a1_0 a1_1 a1_2 a1_3 a1_4 l1_5))) else (download_Take.j0 k a0 a2 a3 true a1_0 a1_1 a1_2 a1_3 a1_4 l1_5))) else (download_Take.j0 k a0 a2 a3 true a1_0 a1_1 a1_2 a1_3 a1_4 l1_5)) = some (r1, r2, r3, r4, r5, r6, r7) := H
  have A10 := Aside0.mk A100
  clear A100
  by_cases c11 : t260 = true
  case neg =>
   replace c11 := Bool.eq_false_iff.mpr c11
   subst c11
   have H1 : (download_Take.j0 k a0 a2 a3 true a1_0 a1_1 a1_2 a1_3 a1_4 l1_5) = some (r1, r2, r3, r4, r5, r6, r7) := by rw [if_neg (show ¬ (false = true) by decide)] at H; exact H
   clear H; have H := H1; clear H1
   have H' := Aside0.mk H
   clear H
   go_wp2_with (first | ((with_reducible refine gate_callee (f := 19) rfl ?_); refine goesL_ (some 11) rfl rfl Tryz.func19 (by kernel_rfl) rfl #[.string a0] rfl ka ?_; (with_reducible refine (nor_May.calls a0 true _ A8.out).mono ?_); rintro e w' ⟨rfl, ⟨nd, rfl⟩⟩; refine ⟨_, rfl, ?_⟩; have hnb40 := NB257_258.out; have hnc40 := NB258_257.out; obtain ⟨hcz41_0, hcz41_1, hcz41_2, hcz41_3, hcz41_4, hcz41_5⟩ := kc6 BK257.out; obtain ⟨hfz41_0, hfz41_1, hfz41_2, hfz41_3, hfz41_4, hfz41_5⟩ := kf6 BK257.out) | (go_at_call 20; (with_reducible refine (device_May.calls a1_0 a1_1 a1_2 a1_3 a1_4 _ _ l1_5 false _ ?side1 ?side2 A10.out).mono ?_); (case side1 => repeat (first | exact (Kd.C_below HR1_5.out (kb2 HB.out GE257.out GE258.out)) | (with_reducible refine Kd.C_alloc ?_ _) | (with_reducible refine Kd.C_drewN ?_ _) | (with_reducible refine Kd.C_drew ?_))); (case side2 => exact HC1_5.out); rintro e w42 ⟨rfl, hb⟩; have n0_ := Aside0.mk (kL BK257.out hb); have n1_ := Aside0.mk (kL BK258.out hb); have n2_ := Aside0.mk (below_step (kb2 HB.out GE257.out GE258.out) hb); clear BK257; clear BK258; clear HB; have BK257 := n0_; have BK258 := n1_; have HB := n2_; clear n0_ n1_ n2_; (try clear hb); (try clear hb2); (try clear hk); (try clear hi)))
   go_meet
   case rel => exact ⟨_, (true), (by first | rfl | (simp; done) | (simp [*]; done)), H', ⟨by first | omega | exact Nat.le_refl _⟩, ⟨kB BK257.out⟩, ⟨kB BK258.out⟩, ⟨kb2 HB.out GE257.out GE258.out⟩⟩
  subst c11
  have H1 : (if a1_0 = 0 then ((setup_Value.f a2).bind fun t261 => (if t261 = true then ((setup_Length.f (a3.size : Int)).bind fun t262 => (download_Take.j0 k a0 a2 a3 (!t262) a1_0 a1_1 a1_2 a1_3 a1_4 l1_5)) else (download_Take.j0 k a0 a2 a3 true a1_0 a1_1 a1_2 a1_3 a1_4 l1_5))) else (if a1_0 = 3 then ((setup_Value.f a2).bind fun t263 => (if t263 = true then ((setup_Length.f (a3.size : Int)).bind fun t264 => (download_Take.j0 k a0 a2 a3 (!t264) a1_0 a1_1 a1_2 a1_3 a1_4 l1_5)) else (download_Take.j0 k a0 a2 a3 true a1_0 a1_1 a1_2 a1_3 a1_4 l1_5))) else (download_Take.j0 k a0 a2 a3 true a1_0 a1_1 a1_2 a1_3 a1_4 l1_5))) = some (r1, r2, r3, r4, r5, r6, r7) := by rw [if_pos rfl] at H; exact H
  clear H; have H := H1; clear H1
  by_cases c12 : a1_0 = 0
  ·rw [if_pos c12] at H
   have c12b0 : (a1_0 == 0) = true := beq_iff_eq.mpr c12
   have c12b1 : (a1_0 != 0) = false := bne_eq_false_iff_eq.mpr c12
   clear c12
   (first | rw [c12b0] | rw [c12b1] | (simp only [i64_w, i32_w]; rw [c12b0]) | skip)
   replace H := Option.bind_eq_some_iff.mp H
   obtain ⟨t261, A130, H⟩ := H
   replace H : (if t261 = true then ((setup_Length.f (a3.size : Int)).bind fun t262 => (download_Take.j0 k a0 a2 a3 (!t262) a1_0 a1_1 a1_2 a1_3 a1_4 l1_5)) else (download_Take.j0 k a0 a2 a3 true a1_0 a1_1 a1_2 a1_3 a1_4 l1_5)) = some (r1, r2, r3, r4, r5, r6, r7) := H
   have A13 := Aside0.mk A130
   clear A130
   by_cases c14 : t261 = true
   case neg =>
    replace c14 := Bool.eq_false_iff.mpr c14
    subst c14
    have H1 : (download_Take.j0 k a0 a2 a3 true a1_0 a1_1 a1_2 a1_3 a1_4 l1_5) = some (r1, r2, r3, r4, r5, r6, r7) := by rw [if_neg (show ¬ (false = true) by decide)] at H; exact H
    clear H; have H := H1; clear H1
    have H' := Aside0.mk H
    clear H
    go_wp2_with (first | ((with_reducible refine gate_callee (f := 19) rfl ?_); refine goesL_ (some 11) rfl rfl Tryz.func19 (by kernel_rfl) rfl #[.string a0] rfl ka ?_; (with_reducible refine (nor_May.calls a0 true _ A8.out).mono ?_); rintro e w' ⟨rfl, ⟨nd, rfl⟩⟩; refine ⟨_, rfl, ?_⟩; have hnb20 := NB257_258.out; have hnc20 := NB258_257.out; obtain ⟨hcz21_0, hcz21_1, hcz21_2, hcz21_3, hcz21_4, hcz21_5⟩ := kc6 BK257.out; obtain ⟨hfz21_0, hfz21_1, hfz21_2, hfz21_3, hfz21_4, hfz21_5⟩ := kf6 BK257.out) | (go_at_call 20; (with_reducible refine (device_May.calls a1_0 a1_1 a1_2 a1_3 a1_4 _ _ l1_5 true _ ?side1 ?side2 A10.out).mono ?_); (case side1 => repeat (first | exact (Kd.C_below HR1_5.out (kb2 HB.out GE257.out GE258.out)) | (with_reducible refine Kd.C_alloc ?_ _) | (with_reducible refine Kd.C_drewN ?_ _) | (with_reducible refine Kd.C_drew ?_))); (case side2 => exact HC1_5.out); rintro e w22 ⟨rfl, hb⟩; have n0_ := Aside0.mk (kL BK257.out hb); have n1_ := Aside0.mk (kL BK258.out hb); have n2_ := Aside0.mk (below_step (kb2 HB.out GE257.out GE258.out) hb); clear BK257; clear BK258; clear HB; have BK257 := n0_; have BK258 := n1_; have HB := n2_; clear n0_ n1_ n2_; (try clear hb); (try clear hb2); (try clear hk); (try clear hi); obtain ⟨hcz23_0, hcz23_1, hcz23_2, hcz23_3, hcz23_4, hcz23_5⟩ := kc6 BK257.out; obtain ⟨hfz23_0, hfz23_1, hfz23_2, hfz23_3, hfz23_4, hfz23_5⟩ := kf6 BK257.out) | (go_at_call 21; (with_reducible refine (setup_Value.calls a2 false _ A13.out).mono ?_); rintro e w' ⟨rfl, ⟨nd, rfl⟩⟩))
    go_meet
    case rel => exact ⟨_, (true), (by first | rfl | (simp; done) | (simp [*]; done)), H', ⟨by first | omega | exact Nat.le_refl _⟩, ⟨kB BK257.out⟩, ⟨kB BK258.out⟩, ⟨kb2 HB.out GE257.out GE258.out⟩⟩
   subst c14
   have H1 : ((setup_Length.f (a3.size : Int)).bind fun t262 => (download_Take.j0 k a0 a2 a3 (!t262) a1_0 a1_1 a1_2 a1_3 a1_4 l1_5)) = some (r1, r2, r3, r4, r5, r6, r7) := by rw [if_pos rfl] at H; exact H
   clear H; have H := H1; clear H1
   replace H := Option.bind_eq_some_iff.mp H
   obtain ⟨t262, A150, H⟩ := H
   replace H : (download_Take.j0 k a0 a2 a3 (!t262) a1_0 a1_1 a1_2 a1_3 a1_4 l1_5) = some (r1, r2, r3, r4, r5, r6, r7) := H
   have A15 := Aside0.mk A150
   clear A150
   have H' := Aside0.mk H
   clear H
   go_wp2_with (first | ((with_reducible refine gate_callee (f := 19) rfl ?_); refine goesL_ (some 11) rfl rfl Tryz.func19 (by kernel_rfl) rfl #[.string a0] rfl ka ?_; (with_reducible refine (nor_May.calls a0 true _ A8.out).mono ?_); rintro e w' ⟨rfl, ⟨nd, rfl⟩⟩; refine ⟨_, rfl, ?_⟩; have hnb16 := NB257_258.out; have hnc16 := NB258_257.out; obtain ⟨hcz17_0, hcz17_1, hcz17_2, hcz17_3, hcz17_4, hcz17_5⟩ := kc6 BK257.out; obtain ⟨hfz17_0, hfz17_1, hfz17_2, hfz17_3, hfz17_4, hfz17_5⟩ := kf6 BK257.out) | (go_at_call 20; (with_reducible refine (device_May.calls a1_0 a1_1 a1_2 a1_3 a1_4 _ _ l1_5 true _ ?side1 ?side2 A10.out).mono ?_); (case side1 => repeat (first | exact (Kd.C_below HR1_5.out (kb2 HB.out GE257.out GE258.out)) | (with_reducible refine Kd.C_alloc ?_ _) | (with_reducible refine Kd.C_drewN ?_ _) | (with_reducible refine Kd.C_drew ?_))); (case side2 => exact HC1_5.out); rintro e w18 ⟨rfl, hb⟩; have n0_ := Aside0.mk (kL BK257.out hb); have n1_ := Aside0.mk (kL BK258.out hb); have n2_ := Aside0.mk (below_step (kb2 HB.out GE257.out GE258.out) hb); clear BK257; clear BK258; clear HB; have BK257 := n0_; have BK258 := n1_; have HB := n2_; clear n0_ n1_ n2_; (try clear hb); (try clear hb2); (try clear hk); (try clear hi); obtain ⟨hcz19_0, hcz19_1, hcz19_2, hcz19_3, hcz19_4, hcz19_5⟩ := kc6 BK257.out; obtain ⟨hfz19_0, hfz19_1, hfz19_2, hfz19_3, hfz19_4, hfz19_5⟩ := kf6 BK257.out) | (go_at_call 21; (with_reducible refine (setup_Value.calls a2 true _ A13.out).mono ?_); rintro e w' ⟨rfl, ⟨nd, rfl⟩⟩) | (go_at_call 22; (with_reducible refine (setup_Length.calls (a3.size : Int) t262 _ A15.out).mono ?_); rintro e w' ⟨rfl, ⟨nd, rfl⟩⟩))
   go_meet
   case rel => exact ⟨_, (!t262), (by first | rfl | (simp; done) | (simp [*]; done)), H', ⟨by first | omega | exact Nat.le_refl _⟩, ⟨kB BK257.out⟩, ⟨kB BK258.out⟩, ⟨kb2 HB.out GE257.out GE258.out⟩⟩
  ·rw [if_neg c12] at H
   have c12b0 : (a1_0 == 0) = false := beq_eq_false_iff_ne.mpr c12
   have c12b1 : (a1_0 != 0) = true := bne_iff_ne.mpr c12
   (first | rw [c12b0] | rw [c12b1] | (simp only [i64_w, i32_w]; rw [c12b0]) | skip)
   by_cases c24 : a1_0 = 3
   case neg =>
    rw [if_neg c24] at H
    have c24b0 : (a1_0 == 3) = false := beq_eq_false_iff_ne.mpr c24
    have c24b1 : (a1_0 != 3) = true := bne_iff_ne.mpr c24
    have H' := Aside0.mk H
    clear H
    go_wp2_with (first | ((with_reducible refine gate_callee (f := 19) rfl ?_); refine goesL_ (some 11) rfl rfl Tryz.func19 (by kernel_rfl) rfl #[.string a0] rfl ka ?_; (with_reducible refine (nor_May.calls a0 true _ A8.out).mono ?_); rintro e w' ⟨rfl, ⟨nd, rfl⟩⟩; refine ⟨_, rfl, ?_⟩; have hnb36 := NB257_258.out; have hnc36 := NB258_257.out; obtain ⟨hcz37_0, hcz37_1, hcz37_2, hcz37_3, hcz37_4, hcz37_5⟩ := kc6 BK257.out; obtain ⟨hfz37_0, hfz37_1, hfz37_2, hfz37_3, hfz37_4, hfz37_5⟩ := kf6 BK257.out) | (go_at_call 20; (with_reducible refine (device_May.calls a1_0 a1_1 a1_2 a1_3 a1_4 _ _ l1_5 true _ ?side1 ?side2 A10.out).mono ?_); (case side1 => repeat (first | exact (Kd.C_below HR1_5.out (kb2 HB.out GE257.out GE258.out)) | (with_reducible refine Kd.C_alloc ?_ _) | (with_reducible refine Kd.C_drewN ?_ _) | (with_reducible refine Kd.C_drew ?_))); (case side2 => exact HC1_5.out); rintro e w38 ⟨rfl, hb⟩; have n0_ := Aside0.mk (kL BK257.out hb); have n1_ := Aside0.mk (kL BK258.out hb); have n2_ := Aside0.mk (below_step (kb2 HB.out GE257.out GE258.out) hb); clear BK257; clear BK258; clear HB; have BK257 := n0_; have BK258 := n1_; have HB := n2_; clear n0_ n1_ n2_; (try clear hb); (try clear hb2); (try clear hk); (try clear hi); obtain ⟨hcz39_0, hcz39_1, hcz39_2, hcz39_3, hcz39_4, hcz39_5⟩ := kc6 BK257.out; obtain ⟨hfz39_0, hfz39_1, hfz39_2, hfz39_3, hfz39_4, hfz39_5⟩ := kf6 BK257.out))
    go_meet
    case rel => exact ⟨_, (true), (by first | rfl | (simp; done) | (simp [*]; done)), H', ⟨by first | omega | exact Nat.le_refl _⟩, ⟨kB BK257.out⟩, ⟨kB BK258.out⟩, ⟨kb2 HB.out GE257.out GE258.out⟩⟩
   rw [if_pos c24] at H
   have c24b0 : (a1_0 == 3) = true := beq_iff_eq.mpr c24
   have c24b1 : (a1_0 != 3) = false := bne_eq_false_iff_eq.mpr c24
   clear c24
   replace H := Option.bind_eq_some_iff.mp H
   obtain ⟨t263, A250, H⟩ := H
   replace H : (if t263 = true then ((setup_Length.f (a3.size : Int)).bind fun t264 => (download_Take.j0 k a0 a2 a3 (!t264) a1_0 a1_1 a1_2 a1_3 a1_4 l1_5)) else (download_Take.j0 k a0 a2 a3 true a1_0 a1_1 a1_2 a1_3 a1_4 l1_5)) = some (r1, r2, r3, r4, r5, r6, r7) := H
   have A25 := Aside0.mk A250
   clear A250
   by_cases c26 : t263 = true
   case neg =>
    replace c26 := Bool.eq_false_iff.mpr c26
    subst c26
    have H1 : (download_Take.j0 k a0 a2 a3 true a1_0 a1_1 a1_2 a1_3 a1_4 l1_5) = some (r1, r2, r3, r4, r5, r6, r7) := by rw [if_neg (show ¬ (false = true) by decide)] at H; exact H
    clear H; have H := H1; clear H1
    have H' := Aside0.mk H
    clear H
    go_wp2_with (first | ((with_reducible refine gate_callee (f := 19) rfl ?_); refine goesL_ (some 11) rfl rfl Tryz.func19 (by kernel_rfl) rfl #[.string a0] rfl ka ?_; (with_reducible refine (nor_May.calls a0 true _ A8.out).mono ?_); rintro e w' ⟨rfl, ⟨nd, rfl⟩⟩; refine ⟨_, rfl, ?_⟩; have hnb32 := NB257_258.out; have hnc32 := NB258_257.out; obtain ⟨hcz33_0, hcz33_1, hcz33_2, hcz33_3, hcz33_4, hcz33_5⟩ := kc6 BK257.out; obtain ⟨hfz33_0, hfz33_1, hfz33_2, hfz33_3, hfz33_4, hfz33_5⟩ := kf6 BK257.out) | (go_at_call 20; (with_reducible refine (device_May.calls a1_0 a1_1 a1_2 a1_3 a1_4 _ _ l1_5 true _ ?side1 ?side2 A10.out).mono ?_); (case side1 => repeat (first | exact (Kd.C_below HR1_5.out (kb2 HB.out GE257.out GE258.out)) | (with_reducible refine Kd.C_alloc ?_ _) | (with_reducible refine Kd.C_drewN ?_ _) | (with_reducible refine Kd.C_drew ?_))); (case side2 => exact HC1_5.out); rintro e w34 ⟨rfl, hb⟩; have n0_ := Aside0.mk (kL BK257.out hb); have n1_ := Aside0.mk (kL BK258.out hb); have n2_ := Aside0.mk (below_step (kb2 HB.out GE257.out GE258.out) hb); clear BK257; clear BK258; clear HB; have BK257 := n0_; have BK258 := n1_; have HB := n2_; clear n0_ n1_ n2_; (try clear hb); (try clear hb2); (try clear hk); (try clear hi); obtain ⟨hcz35_0, hcz35_1, hcz35_2, hcz35_3, hcz35_4, hcz35_5⟩ := kc6 BK257.out; obtain ⟨hfz35_0, hfz35_1, hfz35_2, hfz35_3, hfz35_4, hfz35_5⟩ := kf6 BK257.out) | (go_at_call 21; (with_reducible refine (setup_Value.calls a2 false _ A25.out).mono ?_); rintro e w' ⟨rfl, ⟨nd, rfl⟩⟩))
    go_meet
    case rel => exact ⟨_, (true), (by first | rfl | (simp; done) | (simp [*]; done)), H', ⟨by first | omega | exact Nat.le_refl _⟩, ⟨kB BK257.out⟩, ⟨kB BK258.out⟩, ⟨kb2 HB.out GE257.out GE258.out⟩⟩
   subst c26
   have H1 : ((setup_Length.f (a3.size : Int)).bind fun t264 => (download_Take.j0 k a0 a2 a3 (!t264) a1_0 a1_1 a1_2 a1_3 a1_4 l1_5)) = some (r1, r2, r3, r4, r5, r6, r7) := by rw [if_pos rfl] at H; exact H
   clear H; have H := H1; clear H1
   replace H := Option.bind_eq_some_iff.mp H
   obtain ⟨t264, A270, H⟩ := H
   replace H : (download_Take.j0 k a0 a2 a3 (!t264) a1_0 a1_1 a1_2 a1_3 a1_4 l1_5) = some (r1, r2, r3, r4, r5, r6, r7) := H
   have A27 := Aside0.mk A270
   clear A270
   have H' := Aside0.mk H
   clear H
   go_wp2_with (first | ((with_reducible refine gate_callee (f := 19) rfl ?_); refine goesL_ (some 11) rfl rfl Tryz.func19 (by kernel_rfl) rfl #[.string a0] rfl ka ?_; (with_reducible refine (nor_May.calls a0 true _ A8.out).mono ?_); rintro e w' ⟨rfl, ⟨nd, rfl⟩⟩; refine ⟨_, rfl, ?_⟩; have hnb28 := NB257_258.out; have hnc28 := NB258_257.out; obtain ⟨hcz29_0, hcz29_1, hcz29_2, hcz29_3, hcz29_4, hcz29_5⟩ := kc6 BK257.out; obtain ⟨hfz29_0, hfz29_1, hfz29_2, hfz29_3, hfz29_4, hfz29_5⟩ := kf6 BK257.out) | (go_at_call 20; (with_reducible refine (device_May.calls a1_0 a1_1 a1_2 a1_3 a1_4 _ _ l1_5 true _ ?side1 ?side2 A10.out).mono ?_); (case side1 => repeat (first | exact (Kd.C_below HR1_5.out (kb2 HB.out GE257.out GE258.out)) | (with_reducible refine Kd.C_alloc ?_ _) | (with_reducible refine Kd.C_drewN ?_ _) | (with_reducible refine Kd.C_drew ?_))); (case side2 => exact HC1_5.out); rintro e w30 ⟨rfl, hb⟩; have n0_ := Aside0.mk (kL BK257.out hb); have n1_ := Aside0.mk (kL BK258.out hb); have n2_ := Aside0.mk (below_step (kb2 HB.out GE257.out GE258.out) hb); clear BK257; clear BK258; clear HB; have BK257 := n0_; have BK258 := n1_; have HB := n2_; clear n0_ n1_ n2_; (try clear hb); (try clear hb2); (try clear hk); (try clear hi); obtain ⟨hcz31_0, hcz31_1, hcz31_2, hcz31_3, hcz31_4, hcz31_5⟩ := kc6 BK257.out; obtain ⟨hfz31_0, hfz31_1, hfz31_2, hfz31_3, hfz31_4, hfz31_5⟩ := kf6 BK257.out) | (go_at_call 21; (with_reducible refine (setup_Value.calls a2 true _ A25.out).mono ?_); rintro e w' ⟨rfl, ⟨nd, rfl⟩⟩) | (go_at_call 22; (with_reducible refine (setup_Length.calls (a3.size : Int) t264 _ A27.out).mono ?_); rintro e w' ⟨rfl, ⟨nd, rfl⟩⟩))
   go_meet
   case rel => exact ⟨_, (!t264), (by first | rfl | (simp; done) | (simp [*]; done)), H', ⟨by first | omega | exact Nat.le_refl _⟩, ⟨kB BK257.out⟩, ⟨kB BK258.out⟩, ⟨kb2 HB.out GE257.out GE258.out⟩⟩
 case rest =>
  clear HC5
  try clear c1; try clear c2; try clear p2; try clear c3; try clear c4; try clear c8; try clear c9; try clear c11; try clear c12; try clear c12b0; try clear c12b1; try clear c14; try clear c16; try clear c19; try clear c20; try clear c24; try clear c24b0; try clear c24b1; try clear c26; try clear c28; try clear c32; try clear c36; try clear c40; try clear hcz17_0; try clear hcz17_1; try clear hcz17_2; try clear hcz17_3; try clear hcz17_4; try clear hcz17_5; try clear hcz19_0; try clear hcz19_1; try clear hcz19_2; try clear hcz19_3; try clear hcz19_4; try clear hcz19_5; try clear hcz21_0; try clear hcz21_1; try clear hcz21_2; try clear hcz21_3; try clear hcz21_4; try clear hcz21_5; try clear hcz23_0; try clear hcz23_1; try clear hcz23_2; try clear hcz23_3; try clear hcz23_4; try clear hcz23_5; try clear hcz29_0; try clear hcz29_1; try clear hcz29_2; try clear hcz29_3; try clear hcz29_4; try clear hcz29_5; try clear hcz31_0; try clear hcz31_1; try clear hcz31_2; try clear hcz31_3; try clear hcz31_4; try clear hcz31_5; try clear hcz33_0; try clear hcz33_1; try clear hcz33_2; try clear hcz33_3; try clear hcz33_4; try clear hcz33_5; try clear hcz35_0; try clear hcz35_1; try clear hcz35_2; try clear hcz35_3; try clear hcz35_4; try clear hcz35_5; try clear hcz37_0; try clear hcz37_1; try clear hcz37_2; try clear hcz37_3; try clear hcz37_4; try clear hcz37_5; try clear hcz39_0; try clear hcz39_1; try clear hcz39_2; try clear hcz39_3; try clear hcz39_4; try clear hcz39_5; try clear hcz41_0; try clear hcz41_1; try clear hcz41_2; try clear hcz41_3; try clear hcz41_4; try clear hcz41_5; try clear hfz17_0; try clear hfz17_1; try clear hfz17_2; try clear hfz17_3; try clear hfz17_4; try clear hfz17_5; try clear hfz19_0; try clear hfz19_1; try clear hfz19_2; try clear hfz19_3; try clear hfz19_4; try clear hfz19_5; try clear hfz21_0; try clear hfz21_1; try clear hfz21_2; try clear hfz21_3; try clear hfz21_4; try clear hfz21_5; try clear hfz23_0; try clear hfz23_1; try clear hfz23_2; try clear hfz23_3; try clear hfz23_4; try clear hfz23_5; try clear hfz29_0; try clear hfz29_1; try clear hfz29_2; try clear hfz29_3; try clear hfz29_4; try clear hfz29_5; try clear hfz31_0; try clear hfz31_1; try clear hfz31_2; try clear hfz31_3; try clear hfz31_4; try clear hfz31_5; try clear hfz33_0; try clear hfz33_1; try clear hfz33_2; try clear hfz33_3; try clear hfz33_4; try clear hfz33_5; try clear hfz35_0; try clear hfz35_1; try clear hfz35_2; try clear hfz35_3; try clear hfz35_4; try clear hfz35_5; try clear hfz37_0; try clear hfz37_1; try clear hfz37_2; try clear hfz37_3; try clear hfz37_4; try clear hfz37_5; try clear hfz39_0; try clear hfz39_1; try clear hfz39_2; try clear hfz39_3; try clear hfz39_4; try clear hfz39_5; try clear hfz41_0; try clear hfz41_1; try clear hfz41_2; try clear hfz41_3; try clear hfz41_4; try clear hfz41_5
  obtain ⟨kq, x38_4, rfl, HA, HJ4, BK257, BK258, HB⟩ := hcut
  cases kq with
  | zero => exact absurd HA.out (by simp [download_Take.j0])
  | succ kj4 =>
   have H := HA.out
   clear HA
   simp only [download_Take.j0] at H
   by_cases c43 : x38_4 = true
   ·subst c43
    have H1 : (some (0, 0, 0, 0, 0, ([] : List (S41)), 1700)) = some (r1, r2, r3, r4, r5, r6, r7) := by rw [if_pos rfl] at H; exact H
    clear H; have H := H1; clear H1
    simp only [Option.some.injEq, Prod.mk.injEq] at H
    obtain ⟨rfl, rfl, rfl, rfl, rfl, rfl, rfl⟩ := H
    have hnb44 := NB258_257.out
    have hnc44 := NB257_258.out
    obtain ⟨hcz45_0, hcz45_1, hcz45_2, hcz45_3, hcz45_4, hcz45_5⟩ := kc6 BK258.out
    obtain ⟨hfz45_0, hfz45_1, hfz45_2, hfz45_3, hfz45_4, hfz45_5⟩ := kf6 BK258.out
    go_wp2
    refine bodyPost_ret (results_ct rfl _ _ gb258 24 #[.int .i64 0, .int .i64 0, .int .i64 0, .int .i64 0, .int .i64 0, .slice none 0 0] (0, 0) _ rfl (kP6 BK258.out) Tryz.underlying24 rfl (by kernel_rfl)) rfl ?_
    exact ⟨_, by first | rfl | (simp [errW_none, errW_some] <;> rfl) | (simp [*, errW_none, errW_some] <;> rfl), by first | exact Kd.R_nil _ _ _ _ _ | exact Kd.N_nil _ _ _ _ _ | exact Kd.V_nil _ _ _ _ _ | exact Kd.Q_nil _ _ _ _ _ | exact Kd.S_nil _ _ _ _ _, kb2 HB.out GE257.out GE258.out⟩
   ·replace c43 := Bool.eq_false_iff.mpr c43
    subst c43
    have H1 : (if a1_0 = 0 then ((download_begin.f kj4 a0 a1_0 a1_1 a1_2 a1_3 a1_4 l1_5 a2 a3).bind fun bt265 => (some (bt265.1, bt265.2.1, bt265.2.2.1, bt265.2.2.2.1, bt265.2.2.2.2.1, bt265.2.2.2.2.2, 0))) else ((download_more.f kj4 a1_0 a1_1 a1_2 a1_3 a1_4 l1_5 a2 a3).bind fun bt273 => (some (bt273.1, bt273.2.1, bt273.2.2.1, bt273.2.2.2.1, bt273.2.2.2.2.1, bt273.2.2.2.2.2, 0)))) = some (r1, r2, r3, r4, r5, r6, r7) := by rw [if_neg (show ¬ (false = true) by decide)] at H; exact H
    clear H; have H := H1; clear H1
    by_cases c46 : a1_0 = 0
    ·rw [if_pos c46] at H
     have c46b0 : (a1_0 == 0) = true := beq_iff_eq.mpr c46
     have c46b1 : (a1_0 != 0) = false := bne_eq_false_iff_eq.mpr c46
     clear c46
     replace H := Option.bind_eq_some_iff.mp H
     obtain ⟨⟨t265, t266, t267, t268, t269, t270⟩, A470, H⟩ := H
     replace H : (some (t265, t266, t267, t268, t269, t270, 0)) = some (r1, r2, r3, r4, r5, r6, r7) := H
     have A47 := Aside0.mk A470
     clear A470
     simp only [Option.some.injEq, Prod.mk.injEq] at H
     obtain ⟨rfl, rfl, rfl, rfl, rfl, rfl, rfl⟩ := H
     have hnb48 := NB257_258.out
     have hnc48 := NB258_257.out
     obtain ⟨hcz49_0, hcz49_1, hcz49_2, hcz49_3, hcz49_4, hcz49_5⟩ := kc6 BK257.out
     obtain ⟨hfz49_0, hfz49_1, hfz49_2, hfz49_3, hfz49_4, hfz49_5⟩ := kf6 BK257.out
     go_wp2_with (first | ((with_reducible refine gate_callee (f := 23) rfl ?_); refine goesL_ (some 47) rfl rfl Tryz.func23 (by kernel_rfl) rfl #[.string a0, .agg #[.int .i64 a1_0, .int .i64 a1_1, .int .i64 a1_2, .int .i64 a1_3, .int .i64 a1_4, .slice A1_5 l1_5.length c1_5], .int .i64 a2, .string a3] rfl ka ?_; (with_reducible refine (download_begin.calls kj4 a0 a1_0 a1_1 a1_2 a1_3 a1_4 _ _ l1_5 a2 a3 t265 t266 t267 t268 t269 t270 _ ?side1 ?side2 A47.out).mono ?_); (case side1 => exact kC (Kd.C_below HR1_5.out HB.out)); (case side2 => exact HC1_5.out); rintro e w50 ⟨v271, rfl, ho0, hb⟩; refine ⟨_, rfl, ?_⟩; have n0_ := Aside0.mk (Kd.R_lower ho0 (below_size (kb2 HB.out GE257.out GE258.out))); have n1_ := Aside0.mk (kL BK257.out hb); have n2_ := Aside0.mk (kL BK258.out hb); have n3_ := Aside0.mk (below_step (kb2 HB.out GE257.out GE258.out) hb); clear BK257; clear BK258; clear HB; have HO272 := n0_; have BK257 := n1_; have BK258 := n2_; have HB := n3_; clear n0_ n1_ n2_ n3_; (try clear hb); (try clear hb2); (try clear hk); (try clear hi); (try clear ho0); obtain ⟨hcz51_0, hcz51_1, hcz51_2, hcz51_3, hcz51_4, hcz51_5⟩ := kc6 BK258.out; obtain ⟨hfz51_0, hfz51_1, hfz51_2, hfz51_3, hfz51_4, hfz51_5⟩ := kf6 BK258.out; obtain ⟨Ao52, co52, eo52⟩ := Kd.R_slice HO272.out; subst eo52))
     refine bodyPost_ret (results_ct rfl _ _ gb258 24 #[.int .i64 t265, .int .i64 t266, .int .i64 t267, .int .i64 t268, .int .i64 t269, .slice Ao52 t270.length co52] (0, 0) _ rfl (kP6 BK258.out) Tryz.underlying24 rfl (by kernel_rfl)) rfl ?_
     exact ⟨_, by first | rfl | (simp [errW_none, errW_some] <;> rfl) | (simp [*, errW_none, errW_some] <;> rfl), by (with_reducible repeat (first | apply Kd.R_alloc | apply Kd.R_drewN | apply Kd.R_drew)); exact Kd.R_mono (Kd.R_far (p := ⟨gb258, 5, none⟩) (Kd.R_far (p := ⟨gb258, 4, none⟩) (Kd.R_far (p := ⟨gb258, 3, none⟩) (Kd.R_far (p := ⟨gb258, 2, none⟩) (Kd.R_far (p := ⟨gb258, 1, none⟩) (Kd.R_far (p := ⟨gb258, 0, none⟩) (Kd.R_types HO272.out BK258.out (by decide)) (fun _ hk => hk.2) (.int .i64 t265)) (fun _ hk => hk.2) (.int .i64 t266)) (fun _ hk => hk.2) (.int .i64 t267)) (fun _ hk => hk.2) (.int .i64 t268)) (fun _ hk => hk.2) (.int .i64 t269)) (fun _ hk => hk.2) (.slice Ao52 t270.length co52)) (fun _ hk => trivial), kb2 HB.out GE257.out GE258.out⟩
    ·rw [if_neg c46] at H
     have c46b0 : (a1_0 == 0) = false := beq_eq_false_iff_ne.mpr c46
     have c46b1 : (a1_0 != 0) = true := bne_iff_ne.mpr c46
     replace H := Option.bind_eq_some_iff.mp H
     obtain ⟨⟨t273, t274, t275, t276, t277, t278⟩, A530, H⟩ := H
     replace H : (some (t273, t274, t275, t276, t277, t278, 0)) = some (r1, r2, r3, r4, r5, r6, r7) := H
     have A53 := Aside0.mk A530
     clear A530
     simp only [Option.some.injEq, Prod.mk.injEq] at H
     obtain ⟨rfl, rfl, rfl, rfl, rfl, rfl, rfl⟩ := H
     have hnb54 := NB257_258.out
     have hnc54 := NB258_257.out
     obtain ⟨hcz55_0, hcz55_1, hcz55_2, hcz55_3, hcz55_4, hcz55_5⟩ := kc6 BK257.out
     obtain ⟨hfz55_0, hfz55_1, hfz55_2, hfz55_3, hfz55_4, hfz55_5⟩ := kf6 BK257.out
     go_wp2_with (first | ((with_reducible refine gate_callee (f := 24) rfl ?_); refine goesL_ (some 51) rfl rfl Tryz.func24 (by kernel_rfl) rfl #[.agg #[.int .i64 a1_0, .int .i64 a1_1, .int .i64 a1_2, .int .i64 a1_3, .int .i64 a1_4, .slice A1_5 l1_5.length c1_5], .int .i64 a2, .string a3] rfl ka ?_; (with_reducible refine (download_more.calls kj4 a1_0 a1_1 a1_2 a1_3 a1_4 _ _ l1_5 a2 a3 t273 t274 t275 t276 t277 t278 _ ?side1 ?side2 A53.out).mono ?_); (case side1 => exact kC (Kd.C_below HR1_5.out HB.out)); (case side2 => exact HC1_5.out); rintro e w56 ⟨v279, rfl, ho0, hb⟩; refine ⟨_, rfl, ?_⟩; have n0_ := Aside0.mk (Kd.R_lower ho0 (below_size (kb2 HB.out GE257.out GE258.out))); have n1_ := Aside0.mk (kL BK257.out hb); have n2_ := Aside0.mk (kL BK258.out hb); have n3_ := Aside0.mk (below_step (kb2 HB.out GE257.out GE258.out) hb); clear BK257; clear BK258; clear HB; have HO280 := n0_; have BK257 := n1_; have BK258 := n2_; have HB := n3_; clear n0_ n1_ n2_ n3_; (try clear hb); (try clear hb2); (try clear hk); (try clear hi); (try clear ho0); obtain ⟨hcz57_0, hcz57_1, hcz57_2, hcz57_3, hcz57_4, hcz57_5⟩ := kc6 BK258.out; obtain ⟨hfz57_0, hfz57_1, hfz57_2, hfz57_3, hfz57_4, hfz57_5⟩ := kf6 BK258.out; obtain ⟨Ao58, co58, eo58⟩ := Kd.R_slice HO280.out; subst eo58))
     refine bodyPost_ret (results_ct rfl _ _ gb258 24 #[.int .i64 t273, .int .i64 t274, .int .i64 t275, .int .i64 t276, .int .i64 t277, .slice Ao58 t278.length co58] (0, 0) _ rfl (kP6 BK258.out) Tryz.underlying24 rfl (by kernel_rfl)) rfl ?_
     exact ⟨_, by first | rfl | (simp [errW_none, errW_some] <;> rfl) | (simp [*, errW_none, errW_some] <;> rfl), by (with_reducible repeat (first | apply Kd.R_alloc | apply Kd.R_drewN | apply Kd.R_drew)); exact Kd.R_mono (Kd.R_far (p := ⟨gb258, 5, none⟩) (Kd.R_far (p := ⟨gb258, 4, none⟩) (Kd.R_far (p := ⟨gb258, 3, none⟩) (Kd.R_far (p := ⟨gb258, 2, none⟩) (Kd.R_far (p := ⟨gb258, 1, none⟩) (Kd.R_far (p := ⟨gb258, 0, none⟩) (Kd.R_types HO280.out BK258.out (by decide)) (fun _ hk => hk.2) (.int .i64 t273)) (fun _ hk => hk.2) (.int .i64 t274)) (fun _ hk => hk.2) (.int .i64 t275)) (fun _ hk => hk.2) (.int .i64 t276)) (fun _ hk => hk.2) (.int .i64 t277)) (fun _ hk => hk.2) (.slice Ao58 t278.length co58)) (fun _ hk => trivial), kb2 HB.out GE257.out GE258.out⟩

/-! ### skiffref1_FlashMay: function 50 -/
def skiffref1_FlashMay.f (a0 : ByteArray) : Option (Bool) := some ((a0.size : Int) == 768)
set_option maxHeartbeats 8000000 in
set_option maxRecDepth 100000 in
theorem skiffref1_FlashMay.calls (a0 : ByteArray) (r : Bool) (w : World) (h : skiffref1_FlashMay.f a0 = some r) :
  Calls Tryz.prog 50 #[.string a0] w fun e w' => e = .returned (.bool r) ∧ Drawn0 w w' := by
 have H : (some ((a0.size : Int) == 768)) = some r := h
 clear h
 obtain rfl := Option.some.inj H
 go_enter Tryz.func50, Tryz.ntmps50
 go_wp2
 go_ret
 exact ⟨by first | rfl | (simp; done) | (simp [*]; done), by repeat (first | exact Drawn0.refl _ | apply Drawn0.step)⟩

/-! ### skiffref1_GetEntry: function 71 -/
def skiffref1_GetEntry.f (a0 : ByteArray) : Option (Int × Int × Int × Int × Int) := some (Skiff.getTup (Skiff.bl a0))
theorem skiffref1_GetEntry.calls (a0 : ByteArray) (r1 : Int) (r2 : Int) (r3 : Int) (r4 : Int) (r5 : Int) (w : World) (h : skiffref1_GetEntry.f a0 = some (r1, r2, r3, r4, r5)) :
  Calls Tryz.prog 71 #[.string a0] w fun e w' => e = .returned (.tuple #[.agg #[.int .i64 r1, .int .i64 r2, .int .i64 r3, .int .i64 r4], .int .i64 r5]) ∧ Below w.heap.size w w' :=
 Go.Proofs.YthkpaoajfiapkaaGreat.g_skiffref1_GetEntry a0 r1 r2 r3 r4 r5 w h

/-! ### skiffref1_Scan: function 55 -/
mutual
def skiffref1_Scan.l0 : Nat → ByteArray → List (S68) → Int → Option ((List (S68)) × Int)
 | 0, _, _, _ => none
 | k + 1, x0, x4, x5 => if x5 < 2 then (skiffref1_Scan.l1 k x0 x4 x5 (wrap64 (x5 * 96))) else (some (x4, 0))
def skiffref1_Scan.l1 : Nat → ByteArray → List (S68) → Int → Int → Option ((List (S68)) × Int)
 | 0, _, _, _, _ => none
 | k + 1, x0, x4, x5, x6 => if (wrap64 (x6 + 24)) ≤ (wrap64 ((wrap64 (x5 + 1)) * 96)) then (if 0 ≤ x6 then (if x6 ≤ (wrap64 (x6 + 24)) then (if (wrap64 (x6 + 24)) ≤ (x0.size : Int) then ((skiffref1_GetEntry.f (x0.extract (x6 : Int).toNat ((wrap64 (x6 + 24)) : Int).toNat)).bind fun bt282 => (if bt282.2.2.2.2 = 0 then (if x4.length < 3518437208883 then (skiffref1_Scan.l1 k x0 (x4 ++ [(⟨x6, (⟨bt282.1, bt282.2.1, bt282.2.2.1, bt282.2.2.2.1⟩ : S66)⟩ : S68)]) x5 (wrap64 (x6 + 24))) else (none)) else (skiffref1_Scan.l1 k x0 x4 x5 (wrap64 (x6 + 24))))) else (none)) else (none)) else (none)) else (skiffref1_Scan.l0 k x0 x4 (wrap64 (x5 + 1)))
end
def skiffref1_Scan.f (k : Nat) (a0 : ByteArray) : Option ((List (S68)) × Int) := (skiffref1_FlashMay.f a0).bind fun t281 => (if t281 = true then (skiffref1_Scan.l0 k a0 ([] : List (S68)) 0) else (some (([] : List (S68)), 500)))
set_option maxHeartbeats 8000000 in
set_option maxRecDepth 100000 in
theorem skiffref1_Scan.calls (k : Nat) (a0 : ByteArray) (r1 : List (S68)) (r2 : Int) (w : World) (h : skiffref1_Scan.f k a0 = some (r1, r2)) :
  Calls Tryz.prog 55 #[.string a0] w fun e w' => ∃ v0_ : Value, e = .returned (.tuple #[v0_, .int .i64 r2]) ∧ Kd.R k68 68 w' w.heap.size (fun _ => True) v0_ r1 ∧ Below w.heap.size w w' := by
 have hu66 := Tryz.underlying66
 have hu68 := Tryz.underlying68
 have HB := Aside0.mk (Below.refl w.heap.size w)
 have H : ((skiffref1_FlashMay.f a0).bind fun t281 => (if t281 = true then (skiffref1_Scan.l0 k a0 ([] : List (S68)) 0) else (some (([] : List (S68)), 500)))) = some (r1, r2) := h
 clear h
 replace H := Option.bind_eq_some_iff.mp H
 obtain ⟨t281, A20, H⟩ := H
 replace H : (if t281 = true then (skiffref1_Scan.l0 k a0 ([] : List (S68)) 0) else (some (([] : List (S68)), 500))) = some (r1, r2) := H
 have A2 := Aside0.mk A20
 clear A20
 by_cases c3 : t281 = true
 ·subst c3
  have H1 : (skiffref1_Scan.l0 k a0 ([] : List (S68)) 0) = some (r1, r2) := by rw [if_pos rfl] at H; exact H
  clear H; have H := H1; clear H1
  have H' := Aside0.mk H
  clear H
  go_enter Tryz.func55, Tryz.ntmps55
  go_wp2_with (first | ((with_reducible refine gate_callee (f := 50) rfl ?_); refine goesL_ (some 10) rfl rfl Tryz.func50 (by kernel_rfl) rfl #[.string a0] rfl ka ?_; (with_reducible refine (skiffref1_FlashMay.calls a0 true _ A2.out).mono ?_); rintro e w' ⟨rfl, ⟨nd, rfl⟩⟩; refine ⟨_, rfl, ?_⟩))
  go_loopg [4, 5] k (fun kq v4 v5 w' => ∃ (x4_1 : List (S68)) (x5_1 : Int), v5 = .int .i64 x5_1 ∧ Aside0 (skiffref1_Scan.l0 kq a0 x4_1 x5_1 = some (r1, r2)) ∧ Aside0 (kq ≤ k) ∧ Aside0 (Kd.R k68 68 w' w.heap.size (fun _ => True) v4 x4_1) ∧ Aside0 (Below w.heap.size w w'))
  case atStart => exact ⟨(([] : List (S68))), (0), (by first | rfl | (simp; done) | (simp [*]; done)), H', ⟨Nat.le_refl _⟩, ⟨by first | exact Kd.R_nil _ _ _ _ _ | exact Kd.N_nil _ _ _ _ _ | exact Kd.V_nil _ _ _ _ _ | exact Kd.Q_nil _ _ _ _ _ | exact Kd.S_nil _ _ _ _ _⟩, ⟨kb HB.out⟩⟩
  case round =>
   clear H'
   try clear p2; try clear c3
   obtain ⟨x4_1, x5_1, rfl, HA, HK1, HO_4, HB⟩ := hrel
   cases gk with
   | zero => exact absurd HA.out (by simp [skiffref1_Scan.l0])
   | succ k1 =>
    have H := HA.out
    clear HA
    simp only [skiffref1_Scan.l0] at H
    by_cases c4 : x5_1 < 2
    case neg =>
     rw [if_neg c4] at H
     have c4b0 : decide (x5_1 < 2) = false := decide_eq_false c4
     clear c4
     simp only [Option.some.injEq, Prod.mk.injEq] at H
     obtain ⟨rfl, rfl⟩ := H
     go_wp2
     go_ret2
     exact ⟨_, by first | rfl | (simp [errW_none, errW_some] <;> rfl) | (simp [*, errW_none, errW_some] <;> rfl), kR HO_4.out, kb HB.out⟩
    rw [if_pos c4] at H
    have c4b0 : decide (x5_1 < 2) = true := decide_eq_true c4
    clear c4
    have H' := Aside0.mk H
    clear H
    go_wp2
    go_loopg [4, 6] k1 (fun kq v4 v6 w' => ∃ (x4_2 : List (S68)) (x6_2 : Int), v6 = .int .i64 x6_2 ∧ Aside0 (skiffref1_Scan.l1 kq a0 x4_2 x5_1 x6_2 = some (r1, r2)) ∧ Aside0 (kq ≤ k1) ∧ Aside0 (Kd.R k68 68 w' w.heap.size (fun _ => True) v4 x4_2) ∧ Aside0 (Below w.heap.size w w'))
    case atStart => exact ⟨(x4_1), (wrap64 (x5_1 * 96)), (by first | rfl | (simp; done) | (simp [*]; done)), H', ⟨Nat.le_refl _⟩, ⟨kR HO_4.out⟩, ⟨kb HB.out⟩⟩
    case round =>
     clear H'
     try clear p2; try clear c3; try clear c4; try clear c4b0; try clear p2
     obtain ⟨x4_2, x6_2, rfl, HA, HK2, HO_4, HB⟩ := hrel
     cases gk with
     | zero => exact absurd HA.out (by simp [skiffref1_Scan.l1])
     | succ k2 =>
      have H := HA.out
      clear HA
      simp only [skiffref1_Scan.l1] at H
      by_cases c5 : (wrap64 (x6_2 + 24)) ≤ (wrap64 ((wrap64 (x5_1 + 1)) * 96))
      case neg =>
       rw [if_neg c5] at H
       have c5b0 : decide ((wrap64 (x6_2 + 24)) ≤ (wrap64 ((wrap64 (x5_1 + 1)) * 96))) = false := decide_eq_false c5
       clear c5
       have H' := Aside0.mk H
       clear H
       go_wp2
       go_roundg k2
       case measure => have := HK1.out; have := HK2.out; omega
       case rel => exact ⟨(x4_2), (wrap64 (x5_1 + 1)), (by first | rfl | (simp; done) | (simp [*]; done)), H', ⟨by have := HK1.out; have := HK2.out; omega⟩, ⟨kR HO_4.out⟩, ⟨kb HB.out⟩⟩
      rw [if_pos c5] at H
      have c5b0 : decide ((wrap64 (x6_2 + 24)) ≤ (wrap64 ((wrap64 (x5_1 + 1)) * 96))) = true := decide_eq_true c5
      clear c5
      by_cases c6 : 0 ≤ x6_2
      case neg =>
       rw [if_neg c6] at H
       exact absurd H (by simp)
      rw [if_pos c6] at H
      have c6b0 := eq_true c6
      have c6b1 : decide (0 ≤ x6_2) = true := decide_eq_true c6
      clear c6
      by_cases c7 : x6_2 ≤ (wrap64 (x6_2 + 24))
      case neg =>
       rw [if_neg c7] at H
       exact absurd H (by simp)
      rw [if_pos c7] at H
      have c7b0 := eq_true c7
      have c7b1 : decide (x6_2 ≤ (wrap64 (x6_2 + 24))) = true := decide_eq_true c7
      by_cases c8 : (wrap64 (x6_2 + 24)) ≤ (a0.size : Int)
      case neg =>
       rw [if_neg c8] at H
       exact absurd H (by simp)
      rw [if_pos c8] at H
      have c8b0 := eq_true c8
      have c8b1 : decide ((wrap64 (x6_2 + 24)) ≤ (a0.size : Int)) = true := decide_eq_true c8
      replace H := Option.bind_eq_some_iff.mp H
      obtain ⟨⟨t282, t283, t284, t285, t286⟩, A90, H⟩ := H
      replace H : (if t286 = 0 then (if x4_2.length < 3518437208883 then (skiffref1_Scan.l1 k2 a0 (x4_2 ++ [(⟨x6_2, (⟨t282, t283, t284, t285⟩ : S66)⟩ : S68)]) x5_1 (wrap64 (x6_2 + 24))) else (none)) else (skiffref1_Scan.l1 k2 a0 x4_2 x5_1 (wrap64 (x6_2 + 24)))) = some (r1, r2) := H
      have A9 := Aside0.mk A90
      clear A90
      by_cases c10 : t286 = 0
      case neg =>
       rw [if_neg c10] at H
       have c10b0 : (t286 == 0) = false := beq_eq_false_iff_ne.mpr c10
       have c10b1 : (t286 != 0) = true := bne_iff_ne.mpr c10
       have H' := Aside0.mk H
       clear H
       go_wp2_with (first | ((with_reducible refine gate_callee (f := 71) rfl ?_); refine goesL_ (some 32) rfl rfl Tryz.func71 (by kernel_rfl) rfl #[.string (a0.extract (x6_2 : Int).toNat ((wrap64 (x6_2 + 24)) : Int).toNat)] rfl ka ?_; (with_reducible refine (skiffref1_GetEntry.calls (a0.extract (x6_2 : Int).toNat ((wrap64 (x6_2 + 24)) : Int).toNat) t282 t283 t284 t285 t286 _ A9.out).mono ?_); rintro e w16 ⟨rfl, hb⟩; refine ⟨_, rfl, ?_⟩; have n0_ := Aside0.mk (Kd.R_below (kR HO_4.out) hb); have n1_ := Aside0.mk (below_step (kb HB.out) hb); clear HO_4; clear HB; have HO_4 := n0_; have HB := n1_; clear n0_ n1_; (try clear hb); (try clear hb2); (try clear hk); (try clear hi)) | ((with_reducible refine gate_dst (N := 7) rfl ?_); refine box_event ?hg (N := 7) ?hd (cs := #[.int .i64 0, .int .i64 0, .int .i64 0, .int .i64 0]) (t := 66) ?hr ?_; (case hd => rfl); (case hg => rfl); (case hr => first | (go_simp; done) | (go_simp; rfl)); intro gb287 hg w17 hbox hb; have n0_ := Aside0.mk (Kd.R_below (kR HO_4.out) hb); have n1_ := Aside0.mk (below_step (kb HB.out) hb); have n2_ := Aside0.mk (hbox); have n3_ := Aside0.mk ((kz hg (below_size (kb HB.out)) : w.heap.size ≤ gb287)); have n4_ := Aside0.mk ((kz hg (below_size (kb HB.out)) : w.heap.size ≤ gb287)); clear HO_4; clear HB; have HO_4 := n0_; have HB := n1_; have BK287 := n2_; have GW287 := n3_; have GE287 := n4_; clear n0_ n1_ n2_ n3_ n4_; clear hb hbox hg; obtain ⟨hcz18_0, hcz18_1, hcz18_2, hcz18_3⟩ := kc4 BK287.out; obtain ⟨hfz18_0, hfz18_1, hfz18_2, hfz18_3⟩ := kf4 BK287.out))
       go_roundg k2
       case measure => have := HK1.out; have := HK2.out; omega
       case rel => exact ⟨(x4_2), (wrap64 (x6_2 + 24)), (by first | rfl | (simp; done) | (simp [*]; done)), H', ⟨by have := HK1.out; have := HK2.out; omega⟩, ⟨by (with_reducible repeat (first | apply Kd.R_alloc | apply Kd.R_drewN | apply Kd.R_drew)); exact Kd.R_mono (Kd.R_far (p := ⟨gb287, 3, none⟩) (Kd.R_far (p := ⟨gb287, 2, none⟩) (Kd.R_far (p := ⟨gb287, 1, none⟩) (Kd.R_far (p := ⟨gb287, 0, none⟩) (Kd.R_types HO_4.out BK287.out (by decide)) (fun _ hk => hk.2) (.int .i64 t282)) (fun _ hk => hk.2) (.int .i64 t283)) (fun _ hk => hk.2) (.int .i64 t284)) (fun _ hk => hk.2) (.int .i64 t285)) (fun _ hk => trivial)⟩, ⟨kb1 HB.out GE287.out⟩⟩
      rw [if_pos c10] at H
      have c10b0 : (t286 == 0) = true := beq_iff_eq.mpr c10
      have c10b1 : (t286 != 0) = false := bne_eq_false_iff_eq.mpr c10
      clear c10
      by_cases c11 : x4_2.length < 3518437208883
      case neg =>
       rw [if_neg c11] at H
       exact absurd H (by simp)
      rw [if_pos c11] at H
      have LMc11 := Aside0.mk c11
      clear c11
      obtain ⟨y288, hy288⟩ : ∃ y_ : List (S68), y_ = (x4_2 ++ [(⟨x6_2, (⟨t282, t283, t284, t285⟩ : S66)⟩ : S68)]) := ⟨_, rfl⟩
      replace H : (skiffref1_Scan.l1 k2 a0 y288 x5_1 (wrap64 (x6_2 + 24))) = some (r1, r2) := by first | (rw [hy288]; with_reducible exact H) | (have H2_ := (Option.bind_some _ _).symm.trans H; rw [hy288]; with_reducible exact H2_) | (have H2_ := (Option.bind_some _ _).symm.trans H; with_reducible exact H2_) | with_reducible exact H | (rw [hy288]; exact H) | exact H
      have Ny288 := Aside0.mk hy288
      clear hy288
      have H' := Aside0.mk H
      clear H
      go_wp2_with (first | ((with_reducible refine gate_callee (f := 71) rfl ?_); refine goesL_ (some 32) rfl rfl Tryz.func71 (by kernel_rfl) rfl #[.string (a0.extract (x6_2 : Int).toNat ((wrap64 (x6_2 + 24)) : Int).toNat)] rfl ka ?_; (with_reducible refine (skiffref1_GetEntry.calls (a0.extract (x6_2 : Int).toNat ((wrap64 (x6_2 + 24)) : Int).toNat) t282 t283 t284 t285 t286 _ A9.out).mono ?_); rintro e w12 ⟨rfl, hb⟩; refine ⟨_, rfl, ?_⟩; have n0_ := Aside0.mk (Kd.R_below (kR HO_4.out) hb); have n1_ := Aside0.mk (below_step (kb HB.out) hb); clear HO_4; clear HB; have HO_4 := n0_; have HB := n1_; clear n0_ n1_; (try clear hb); (try clear hb2); (try clear hk); (try clear hi)) | ((with_reducible refine gate_dst (N := 7) rfl ?_); refine box_event ?hg (N := 7) ?hd (cs := #[.int .i64 0, .int .i64 0, .int .i64 0, .int .i64 0]) (t := 66) ?hr ?_; (case hd => rfl); (case hg => rfl); (case hr => first | (go_simp; done) | (go_simp; rfl)); intro gb287 hg w13 hbox hb; have n0_ := Aside0.mk (Kd.R_below (kR HO_4.out) hb); have n1_ := Aside0.mk (below_step (kb HB.out) hb); have n2_ := Aside0.mk (hbox); have n3_ := Aside0.mk ((kz hg (below_size (kb HB.out)) : w.heap.size ≤ gb287)); have n4_ := Aside0.mk ((kz hg (below_size (kb HB.out)) : w.heap.size ≤ gb287)); clear HO_4; clear HB; have HO_4 := n0_; have HB := n1_; have BK287 := n2_; have GW287 := n3_; have GE287 := n4_; clear n0_ n1_ n2_ n3_ n4_; clear hb hbox hg; obtain ⟨hcz14_0, hcz14_1, hcz14_2, hcz14_3⟩ := kc4 BK287.out; obtain ⟨hfz14_0, hfz14_1, hfz14_2, hfz14_3⟩ := kf4 BK287.out) | ((with_reducible refine gate_builtin (b := .append) (xs := #[.tmp 37, .tmp 41]) rfl ?_); at_builtin; refine Kd.R_append k68 (w0 := w) w.heap.size rfl (.tmp 37) (.tmp 41) 81 68 (.agg #[(.int .i64 0), (.int .i64 0), (.int .i64 0), (.int .i64 0), (.int .i64 0)]) 40 rfl Tryz.underlying81 info68 rfl (by decide) (by omega) u4 x4_2 (⟨x6_2, (⟨t282, t283, t284, t285⟩ : S66)⟩ : S68) [.int .i64 x6_2, .int .i64 t282, .int .i64 t283, .int .i64 t284, .int .i64 t285] (fun _ => True) (fun _ => False) rfl (by first | (go_simp; done) | (go_simp; rfl)) ?aP (fun _ hk => hk.elim) ?aF ?aO ?aB ?aS ?aL ?_; (case aP => exact k68_mkM _ _ _ (⟨x6_2, (⟨t282, t283, t284, t285⟩ : S66)⟩ : S68)); (case aB => exact (kb1 HB.out GE287.out)); (case aF => exact (fun _ _ => trivial)); (case aO => exact (by (with_reducible repeat (first | apply Kd.R_alloc | apply Kd.R_drewN | apply Kd.R_drew)); exact Kd.R_mono (Kd.R_far (p := ⟨gb287, 3, none⟩) (Kd.R_far (p := ⟨gb287, 2, none⟩) (Kd.R_far (p := ⟨gb287, 1, none⟩) (Kd.R_far (p := ⟨gb287, 0, none⟩) (Kd.R_types HO_4.out BK287.out (by decide)) (fun _ hk => hk.2) (.int .i64 t282)) (fun _ hk => hk.2) (.int .i64 t283)) (fun _ hk => hk.2) (.int .i64 t284)) (fun _ hk => hk.2) (.int .i64 t285)) (fun _ hk => trivial))); (case aS => exact (below_size (kb1 HB.out GE287.out))); (case aL => have := LMc11.out; omega); intro v289 w15 ho hb hg hat; rw [← Ny288.out] at ho; have n0_ := Aside0.mk (blk_grown (g := gb287) (o := .cells #[.int .i64 t282, .int .i64 t283, .int .i64 t284, .int .i64 t285] 66 (0, 0)) (kP4 BK287.out) hg (Kd.R_ne HO_4.out BK287.out (by decide))); have n1_ := Aside0.mk (hb); have n2_ := Aside0.mk (ho); clear BK287; clear HB; clear HO_4; have BK287 := n0_; have HB := n1_; have HO290 := n2_; clear n0_ n1_ n2_; clear ho hb hg hat))
      go_roundg k2
      case measure => have := HK1.out; have := HK2.out; omega
      case rel => exact ⟨(y288), (wrap64 (x6_2 + 24)), (by first | rfl | (simp; done) | (simp [*]; done)), H', ⟨by have := HK1.out; have := HK2.out; omega⟩, ⟨kR HO290.out⟩, ⟨kb1 HB.out GE287.out⟩⟩
 ·replace c3 := Bool.eq_false_iff.mpr c3
  subst c3
  have H1 : (some (([] : List (S68)), 500)) = some (r1, r2) := by rw [if_neg (show ¬ (false = true) by decide)] at H; exact H
  clear H; have H := H1; clear H1
  simp only [Option.some.injEq, Prod.mk.injEq] at H
  obtain ⟨rfl, rfl⟩ := H
  go_enter Tryz.func55, Tryz.ntmps55
  go_wp2_with (first | ((with_reducible refine gate_callee (f := 50) rfl ?_); refine goesL_ (some 10) rfl rfl Tryz.func50 (by kernel_rfl) rfl #[.string a0] rfl ka ?_; (with_reducible refine (skiffref1_FlashMay.calls a0 false _ A2.out).mono ?_); rintro e w' ⟨rfl, ⟨nd, rfl⟩⟩; refine ⟨_, rfl, ?_⟩))
  go_ret2
  exact ⟨_, by first | rfl | (simp [errW_none, errW_some] <;> rfl) | (simp [*, errW_none, errW_some] <;> rfl), by first | exact Kd.R_nil _ _ _ _ _ | exact Kd.N_nil _ _ _ _ _ | exact Kd.V_nil _ _ _ _ _ | exact Kd.Q_nil _ _ _ _ _ | exact Kd.S_nil _ _ _ _ _, kb HB.out⟩

/-! ### skiffref1_upTo: function 37 -/
def skiffref1_upTo.f (a0 : Int) (a1 : Int) (a2 : Int) : Option (Bool) := if a0 ≥ a1 then (some (decide (a0 ≤ a2))) else (some false)
set_option maxHeartbeats 8000000 in
set_option maxRecDepth 100000 in
theorem skiffref1_upTo.calls (a0 : Int) (a1 : Int) (a2 : Int) (r : Bool) (w : World) (h : skiffref1_upTo.f a0 a1 a2 = some r) :
  Calls Tryz.prog 37 #[.int .i64 a0, .int .i64 a1, .int .i64 a2] w fun e w' => e = .returned (.bool r) ∧ Drawn0 w w' := by
 have H : (if a0 ≥ a1 then (some (decide (a0 ≤ a2))) else (some false)) = some r := h
 clear h
 by_cases c4 : a0 ≥ a1
 case neg =>
  rw [if_neg c4] at H
  have c4b0 : decide (a1 ≤ a0) = false := decide_eq_false c4
  clear c4
  obtain rfl := Option.some.inj H
  go_enter Tryz.func37, Tryz.ntmps37
  go_wp2
  go_ret
  exact ⟨by first | rfl | (simp; done) | (simp [*]; done), by repeat (first | exact Drawn0.refl _ | apply Drawn0.step)⟩
 rw [if_pos c4] at H
 have c4b0 : decide (a1 ≤ a0) = true := decide_eq_true c4
 clear c4
 obtain rfl := Option.some.inj H
 go_enter Tryz.func37, Tryz.ntmps37
 go_wp2
 go_ret
 exact ⟨by first | rfl | (simp; done) | (simp [*]; done), by repeat (first | exact Drawn0.refl _ | apply Drawn0.step)⟩

/-! ### skiffref1_Base: function 18 -/
def skiffref1_Base.f (a0 : Int) : Option (Int × Int) := (skiffref1_upTo.f a0 0 1).bind fun t291 => (if t291 = true then (some (wrap64 ((wrap64 (2 + (wrap64 (3 * a0)))) * 96), 0)) else (some (0, 600)))
set_option maxHeartbeats 8000000 in
set_option maxRecDepth 100000 in
theorem skiffref1_Base.calls (a0 : Int) (r1 : Int) (r2 : Int) (w : World) (h : skiffref1_Base.f a0 = some (r1, r2)) :
  Calls Tryz.prog 18 #[.int .i64 a0] w fun e w' => e = .returned (.tuple #[.int .i64 r1, .int .i64 r2]) ∧ Drawn0 w w' := by
 have H : ((skiffref1_upTo.f a0 0 1).bind fun t291 => (if t291 = true then (some (wrap64 ((wrap64 (2 + (wrap64 (3 * a0)))) * 96), 0)) else (some (0, 600)))) = some (r1, r2) := h
 clear h
 replace H := Option.bind_eq_some_iff.mp H
 obtain ⟨t291, A20, H⟩ := H
 replace H : (if t291 = true then (some (wrap64 ((wrap64 (2 + (wrap64 (3 * a0)))) * 96), 0)) else (some (0, 600))) = some (r1, r2) := H
 have A2 := Aside0.mk A20
 clear A20
 by_cases c3 : t291 = true
 ·subst c3
  have H1 : (some (wrap64 ((wrap64 (2 + (wrap64 (3 * a0)))) * 96), 0)) = some (r1, r2) := by rw [if_pos rfl] at H; exact H
  clear H; have H := H1; clear H1
  simp only [Option.some.injEq, Prod.mk.injEq] at H
  obtain ⟨rfl, rfl⟩ := H
  go_enter Tryz.func18, Tryz.ntmps18
  go_wp2_with (first | ((with_reducible refine gate_callee (f := 37) rfl ?_); refine goesL_ (some 5) rfl rfl Tryz.func37 (by kernel_rfl) rfl #[.int .i64 a0, .int .i64 0, .int .i64 1] rfl ka ?_; (with_reducible refine (skiffref1_upTo.calls a0 0 1 true _ A2.out).mono ?_); rintro e w' ⟨rfl, ⟨nd, rfl⟩⟩; refine ⟨_, rfl, ?_⟩))
  go_ret2
  exact ⟨by first | rfl | (simp; done) | (simp [*]; done), by repeat (first | exact Drawn0.refl _ | apply Drawn0.step)⟩
 ·replace c3 := Bool.eq_false_iff.mpr c3
  subst c3
  have H1 : (some (0, 600)) = some (r1, r2) := by rw [if_neg (show ¬ (false = true) by decide)] at H; exact H
  clear H; have H := H1; clear H1
  simp only [Option.some.injEq, Prod.mk.injEq] at H
  obtain ⟨rfl, rfl⟩ := H
  go_enter Tryz.func18, Tryz.ntmps18
  go_wp2_with (first | ((with_reducible refine gate_callee (f := 37) rfl ?_); refine goesL_ (some 5) rfl rfl Tryz.func37 (by kernel_rfl) rfl #[.int .i64 a0, .int .i64 0, .int .i64 1] rfl ka ?_; (with_reducible refine (skiffref1_upTo.calls a0 0 1 false _ A2.out).mono ?_); rintro e w' ⟨rfl, ⟨nd, rfl⟩⟩; refine ⟨_, rfl, ?_⟩))
  go_ret2
  exact ⟨by first | rfl | (simp; done) | (simp [*]; done), by repeat (first | exact Drawn0.refl _ | apply Drawn0.step)⟩

/-! ### skiffref1_RecordMay: function 82 -/
def skiffref1_RecordMay.f (a0_0 : Int) (a0_1 : Int) (a0_2 : Int) (a0_3 : Int) : Option (Bool) := some (Skiff.recMay ⟨a0_0, a0_1, a0_2, a0_3⟩)
theorem skiffref1_RecordMay.calls (a0_0 : Int) (a0_1 : Int) (a0_2 : Int) (a0_3 : Int) (r : Bool) (w : World) (h : skiffref1_RecordMay.f a0_0 a0_1 a0_2 a0_3 = some r) :
  Calls Tryz.prog 82 #[.agg #[.int .i64 a0_0, .int .i64 a0_1, .int .i64 a0_2, .int .i64 a0_3]] w fun e w' => e = .returned (.bool r) ∧ Below w.heap.size w w' :=
 Go.Proofs.YthkpaoajfiapkaaGreat.g_skiffref1_RecordMay a0_0 a0_1 a0_2 a0_3 r w h

end Go.Proofs.YthkpaoajfiapkaaGreat.P
end
section
namespace Go.Proofs.YthkpaoajfiapkaaGreat.P
open Go.RowKit Go.Proofs.YthkpaoajfiapkaaGreatW.PrintWords Go.Proofs.YthkpaoajfiapkaaGreatW.PrintLast Go.Proofs.YthkpaoajfiapkaaGreatW.PrintMore
attribute [local go_sem] max2_int min2_int max_two min_two max_three min_three max_four min_four   -- for this text's walks alone
set_option linter.unusedVariables false
set_option linter.unusedSimpArgs false

theorem eqA41 (d : Nat) (w : World) (x0 y0 : Bool) (x1 y1 : Int) (x2 y2 : ByteArray) :
  (Op.equalIn (d + 2) 41 (.agg #[.bool x0, .int .i64 x1, .string x2]) (.agg #[.bool y0, .int .i64 y1, .string y2])).run Tryz.prog w = .ok (x0 == y0 && (x1 == y1 && (x2.toList == y2.toList))) w := by
 refine eqA_of Tryz.underlying41 (by kernel_rfl) ?_
 refine eqf_cons (by rfl) (by go_simp; rfl) (by go_simp; rfl) (by go_simp) ?_
 refine eqf_cons (by rfl) (by go_simp; rfl) (by go_simp; rfl) (by go_simp) ?_
 exact eqf_last (by rfl) (by go_simp; rfl) (by go_simp; rfl) (by go_simp)
end Go.Proofs.YthkpaoajfiapkaaGreat.P
end
