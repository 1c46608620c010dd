/- Texts of this claim, laid together. -/
import Derived.Deep.SlicePairs
import Derived.Lib.SmallJoins
import Derived.SizedLaws
import Derived.Test.YtmidohjfajbpmaaZ1Cz
import Derived.Test.YtmidohjfajbpmaaZ1M22
import Derived.Test.YtmidohjfajbpmaaZ1M23
import Derived.Test.YtmidohjfajbpmaaZ1M25
import Derived.Test.YtmidohjfajbpmaaZ1M26
import Derived.Test.YtmidohjfajbpmaaZ1Px5
import Derived.Test.YtmidohjfajbpmaaZ1Px8
import Derived.WideLaws
section
namespace Go.Proofs.Ytmidohjfajbpmaa.P
open Go.RowKit Go.Proofs.YtmidohjfajbpmaaW.PrintWords Go.Proofs.YtmidohjfajbpmaaW.PrintLast Go.Proofs.YtmidohjfajbpmaaW.PrintMore
attribute [local go_sem] max2_int min2_int max_two min_two max_three min_three max_four min_four   -- for this text's walks alone
set_option linter.unusedVariables false
set_option linter.unusedSimpArgs false

/-! ### skiffref1_Worn: function 82 -/
def skiffref1_Worn.f (a0 : ByteArray) (a1 : Int) (a2 : Int) : Option (ByteArray × Int) := some (Skiff.tornPair (Skiff.worn (Skiff.bl a0) a1 a2))
theorem skiffref1_Worn.calls (a0 : ByteArray) (a1 : Int) (a2 : Int) (r1 : ByteArray) (r2 : Int) (w : World) (h : skiffref1_Worn.f a0 a1 a2 = some (r1, r2)) :
  Calls Try.prog 82 #[.string a0, .int .i64 a1, .int .i64 a2] w fun e w' => e = .returned (.tuple #[.string r1, .int .i64 r2]) ∧ Below w.heap.size w w' :=
 Go.Proofs.Ytmidohjfajbpmaa.g_skiffref1_Worn a0 a1 a2 r1 r2 w h

/-! ### skiffref1_Torn: function 83 -/
def skiffref1_Torn.f (a0 : ByteArray) (a1 : Int) (a2 : ByteArray) (a3 : Int) : Option (ByteArray × Int) := some (Skiff.tornPair (Skiff.torn (Skiff.bl a0) a1 (Skiff.bl a2) a3))
theorem skiffref1_Torn.calls (a0 : ByteArray) (a1 : Int) (a2 : ByteArray) (a3 : Int) (r1 : ByteArray) (r2 : Int) (w : World) (h : skiffref1_Torn.f a0 a1 a2 a3 = some (r1, r2)) :
  Calls Try.prog 83 #[.string a0, .int .i64 a1, .string a2, .int .i64 a3] w fun e w' => e = .returned (.tuple #[.string r1, .int .i64 r2]) ∧ Below w.heap.size w w' :=
 Go.Proofs.Ytmidohjfajbpmaa.g_skiffref1_Torn a0 a1 a2 a3 r1 r2 w h

/-! ### skiffref1_Cut: function 63 -/
def skiffref1_Cut.j0 : Nat → ByteArray → Int → Bool → Bool → Int → ByteArray → Option (ByteArray × Int)
 | 0, _, _, _, _, _, _ => none
 | k + 1, x0, x2, x20, x341000, x341001, x341002 => if x20 = true then (some ((⟨#[]⟩ : ByteArray), 300)) else (if x341000 = true then ((skiffref1_Worn.f x0 (wrap64 (Int.tdiv x341001 96)) x2).bind fun bt344 => (some (bt344.1, bt344.2))) else ((skiffref1_Torn.f x0 x341001 x341002 (mn x2 32)).bind fun bt346 => (some (bt346.1, bt346.2))))
def skiffref1_Cut.f (k : Nat) (a0 : ByteArray) (a1_0 : Bool) (a1_1 : Int) (a1_2 : ByteArray) (a2 : Int) : Option (ByteArray × Int) := (skiffref1_FlashMay.f a0).bind fun t341 => (if t341 = true then ((skiffref1_OpMay.f a1_0 a1_1 a1_2).bind fun t342 => (if t342 = true then ((skiffref1_upTo.f a2 0 96).bind fun t343 => (skiffref1_Cut.j0 k a0 a2 (!t343) a1_0 a1_1 a1_2)) else (skiffref1_Cut.j0 k a0 a2 true a1_0 a1_1 a1_2))) else (skiffref1_Cut.j0 k a0 a2 true a1_0 a1_1 a1_2))
theorem skiffref1_Cut.mono_l : ∀ k, (∀ y0 y1 y2 y3 y4 y5, LeO (skiffref1_Cut.j0 k y0 y1 y2 y3 y4 y5) (skiffref1_Cut.j0 (k + 1) y0 y1 y2 y3 y4 y5))
 | 0 => fun _ _ _ _ _ _ r h => by simp [skiffref1_Cut.j0] at h
 | k + 1 => by
  have ih0 := skiffref1_Cut.mono_l k
  ·intro y0 y1 y2 y3 y4 y5
   unfold skiffref1_Cut.j0
   repeat' first
   | (with_reducible exact ih0 _ _ _ _ _ _)
   | (with_reducible exact LeO.refl _)
   | (with_reducible exact LeO.none _)
   | (with_reducible refine LeO.ite ?_ ?_)
   | (with_reducible refine LeO.bind ?_ (fun _ => ?_))
   | exact ih0 _ _ _ _ _ _
   | exact LeO.none _
   | refine LeO.ite ?_ ?_
   | refine LeO.bind ?_ (fun _ => ?_)
theorem skiffref1_Cut.mono : ∀ a0 a1 a2 a3 a4 k, LeO (skiffref1_Cut.f k a0 a1 a2 a3 a4) (skiffref1_Cut.f (k + 1) a0 a1 a2 a3 a4) := by
 intro a0 a1 a2 a3 a4 k
 have ih0 := skiffref1_Cut.mono_l k
 unfold skiffref1_Cut.f
 repeat' first
   | (with_reducible exact ih0 _ _ _ _ _ _)
   | (with_reducible exact LeO.refl _)
   | (with_reducible exact LeO.none _)
   | (with_reducible refine LeO.ite ?_ ?_)
   | (with_reducible refine LeO.bind ?_ (fun _ => ?_))
   | exact ih0 _ _ _ _ _ _
   | exact LeO.none _
   | refine LeO.ite ?_ ?_
   | refine LeO.bind ?_ (fun _ => ?_)
set_option maxHeartbeats 8000000 in
set_option maxRecDepth 100000 in
theorem skiffref1_Cut.calls (k : Nat) (a0 : ByteArray) (a1_0 : Bool) (a1_1 : Int) (a1_2 : ByteArray) (a2 : Int) (r1 : ByteArray) (r2 : Int) (w : World) (h : skiffref1_Cut.f k a0 a1_0 a1_1 a1_2 a2 = some (r1, r2)) :
  Calls Try.prog 63 #[.string a0, .agg #[.bool a1_0, .int .i64 a1_1, .string a1_2], .int .i64 a2] w fun e w' => e = .returned (.tuple #[.string r1, .int .i64 r2]) ∧ Below w.heap.size w w' := by
 have hu68 := Try.underlying68
 have HB := Aside0.mk (Below.refl w.heap.size w)
 have H : ((skiffref1_FlashMay.f a0).bind fun t341 => (if t341 = true then ((skiffref1_OpMay.f a1_0 a1_1 a1_2).bind fun t342 => (if t342 = true then ((skiffref1_upTo.f a2 0 96).bind fun t343 => (skiffref1_Cut.j0 k a0 a2 (!t343) a1_0 a1_1 a1_2)) else (skiffref1_Cut.j0 k a0 a2 true a1_0 a1_1 a1_2))) else (skiffref1_Cut.j0 k a0 a2 true a1_0 a1_1 a1_2))) = some (r1, r2) := h
 clear h
 have HC4 := Aside0.mk H
 clear H
 go_enter Try.func63, Try.ntmps63
 go_upto_region 1 with (first | ((with_reducible refine gate_dst (N := 4) rfl ?_); refine box_event ?hg (N := 4) ?hd (cs := #[.bool a1_0, .int .i64 a1_1, .string a1_2]) (t := 68) ?hr ?_; (case hd => rfl); (case hg => rfl); (case hr => first | (go_simp; done) | (go_simp; rfl)); intro gb340 hg w5 hbox hb; have n0_ := Aside0.mk (below_step (kb HB.out) hb); have n1_ := Aside0.mk (hbox); have n2_ := Aside0.mk ((kz hg (below_size (kb HB.out)) : w.heap.size ≤ gb340)); have n3_ := Aside0.mk ((kz hg (below_size (kb HB.out)) : w.heap.size ≤ gb340)); clear HB; have HB := n0_; have BK340 := n1_; have GW340 := n2_; have GE340 := n3_; clear n0_ n1_ n2_ n3_; clear hb hbox hg))
 (try simp only [Act.put, List.setIfInBounds_toArray, List.set_cons_zero, List.set_cons_succ])
 go_cut [20] (fun v20 wc => ∃ (kq : Nat) (x20_3 : Bool), v20 = .bool x20_3 ∧ Aside0 (skiffref1_Cut.j0 kq a0 a2 x20_3 a1_0 a1_1 a1_2 = some (r1, r2)) ∧ Aside0 (kq ≤ k) ∧ Aside0 (wc.heap[gb340]? = some (.cells #[.bool a1_0, .int .i64 a1_1, .string a1_2] 68 (0, 0))) ∧ Aside0 (Below w.heap.size w wc))
 case first =>
  have H := HC4.out
  clear HC4
  replace H := Option.bind_eq_some_iff.mp H
  obtain ⟨t341, A60, H⟩ := H
  replace H : (if t341 = true then ((skiffref1_OpMay.f a1_0 a1_1 a1_2).bind fun t342 => (if t342 = true then ((skiffref1_upTo.f a2 0 96).bind fun t343 => (skiffref1_Cut.j0 k a0 a2 (!t343) a1_0 a1_1 a1_2)) else (skiffref1_Cut.j0 k a0 a2 true a1_0 a1_1 a1_2))) else (skiffref1_Cut.j0 k a0 a2 true a1_0 a1_1 a1_2)) = some (r1, r2) := H
  have A6 := Aside0.mk A60
  clear A60
  by_cases c7 : t341 = true
  case neg =>
   replace c7 := Bool.eq_false_iff.mpr c7
   subst c7
   have H1 : (skiffref1_Cut.j0 k a0 a2 true a1_0 a1_1 a1_2) = some (r1, r2) := by rw [if_neg (show ¬ (false = true) by decide)] at H; exact H
   clear H; have H := H1; clear H1
   have H' := Aside0.mk H
   clear H
   go_wp2_with (first | ((with_reducible refine gate_callee (f := 43) rfl ?_); refine goesL_ (some 9) rfl rfl Try.func43 (by kernel_rfl) rfl #[.string a0] rfl ka ?_; (with_reducible refine (skiffref1_FlashMay.calls a0 false _ A6.out).mono ?_); rintro e w' ⟨rfl, ⟨nd, rfl⟩⟩; refine ⟨_, rfl, ?_⟩))
   go_meet
   case rel => exact ⟨_, (true), (by first | rfl | (simp; done) | (simp [*]; done)), H', ⟨by first | omega | exact Nat.le_refl _⟩, ⟨kB BK340.out⟩, ⟨kb1 HB.out GE340.out⟩⟩
  subst c7
  have H1 : ((skiffref1_OpMay.f a1_0 a1_1 a1_2).bind fun t342 => (if t342 = true then ((skiffref1_upTo.f a2 0 96).bind fun t343 => (skiffref1_Cut.j0 k a0 a2 (!t343) a1_0 a1_1 a1_2)) else (skiffref1_Cut.j0 k a0 a2 true a1_0 a1_1 a1_2))) = some (r1, r2) := by rw [if_pos rfl] at H; exact H
  clear H; have H := H1; clear H1
  replace H := Option.bind_eq_some_iff.mp H
  obtain ⟨t342, A80, H⟩ := H
  replace H : (if t342 = true then ((skiffref1_upTo.f a2 0 96).bind fun t343 => (skiffref1_Cut.j0 k a0 a2 (!t343) a1_0 a1_1 a1_2)) else (skiffref1_Cut.j0 k a0 a2 true a1_0 a1_1 a1_2)) = some (r1, r2) := H
  have A8 := Aside0.mk A80
  clear A80
  by_cases c9 : t342 = true
  case neg =>
   replace c9 := Bool.eq_false_iff.mpr c9
   subst c9
   have H1 : (skiffref1_Cut.j0 k a0 a2 true a1_0 a1_1 a1_2) = some (r1, r2) := by rw [if_neg (show ¬ (false = true) by decide)] at H; exact H
   clear H; have H := H1; clear H1
   have H' := Aside0.mk H
   clear H
   go_wp2_with (first | ((with_reducible refine gate_callee (f := 43) rfl ?_); refine goesL_ (some 9) rfl rfl Try.func43 (by kernel_rfl) rfl #[.string a0] rfl ka ?_; (with_reducible refine (skiffref1_FlashMay.calls a0 true _ A6.out).mono ?_); rintro e w' ⟨rfl, ⟨nd, rfl⟩⟩; refine ⟨_, rfl, ?_⟩; obtain ⟨hcz13_0, hcz13_1, hcz13_2⟩ := kc3 BK340.out; obtain ⟨hfz13_0, hfz13_1, hfz13_2⟩ := kf3 BK340.out) | (go_at_call 79; (with_reducible refine (skiffref1_OpMay.calls a1_0 a1_1 a1_2 false _ A8.out).mono ?_); rintro e w14 ⟨rfl, hb⟩; have n0_ := Aside0.mk (kL BK340.out hb); have n1_ := Aside0.mk (below_step (kb1 HB.out GE340.out) hb); clear BK340; clear HB; have BK340 := n0_; have HB := n1_; clear n0_ n1_; (try clear hb); (try clear hb2); (try clear hk); (try clear hi)))
   go_meet
   case rel => exact ⟨_, (true), (by first | rfl | (simp; done) | (simp [*]; done)), H', ⟨by first | omega | exact Nat.le_refl _⟩, ⟨kB BK340.out⟩, ⟨kb1 HB.out GE340.out⟩⟩
  subst c9
  have H1 : ((skiffref1_upTo.f a2 0 96).bind fun t343 => (skiffref1_Cut.j0 k a0 a2 (!t343) a1_0 a1_1 a1_2)) = some (r1, r2) := by rw [if_pos rfl] at H; exact H
  clear H; have H := H1; clear H1
  replace H := Option.bind_eq_some_iff.mp H
  obtain ⟨t343, A100, H⟩ := H
  replace H : (skiffref1_Cut.j0 k a0 a2 (!t343) a1_0 a1_1 a1_2) = some (r1, r2) := H
  have A10 := Aside0.mk A100
  clear A100
  have H' := Aside0.mk H
  clear H
  go_wp2_with (first | ((with_reducible refine gate_callee (f := 43) rfl ?_); refine goesL_ (some 9) rfl rfl Try.func43 (by kernel_rfl) rfl #[.string a0] rfl ka ?_; (with_reducible refine (skiffref1_FlashMay.calls a0 true _ A6.out).mono ?_); rintro e w' ⟨rfl, ⟨nd, rfl⟩⟩; refine ⟨_, rfl, ?_⟩; obtain ⟨hcz11_0, hcz11_1, hcz11_2⟩ := kc3 BK340.out; obtain ⟨hfz11_0, hfz11_1, hfz11_2⟩ := kf3 BK340.out) | (go_at_call 79; (with_reducible refine (skiffref1_OpMay.calls a1_0 a1_1 a1_2 true _ A8.out).mono ?_); rintro e w12 ⟨rfl, hb⟩; have n0_ := Aside0.mk (kL BK340.out hb); have n1_ := Aside0.mk (below_step (kb1 HB.out GE340.out) hb); clear BK340; clear HB; have BK340 := n0_; have HB := n1_; clear n0_ n1_; (try clear hb); (try clear hb2); (try clear hk); (try clear hi)) | (go_at_call 45; (with_reducible refine (skiffref1_upTo.calls a2 0 96 t343 _ A10.out).mono ?_); rintro e w' ⟨rfl, ⟨nd, rfl⟩⟩))
  go_meet
  case rel => exact ⟨_, (!t343), (by first | rfl | (simp; done) | (simp [*]; done)), H', ⟨by first | omega | exact Nat.le_refl _⟩, ⟨kB BK340.out⟩, ⟨kb1 HB.out GE340.out⟩⟩
 case rest =>
  clear HC4
  try clear p2; try clear c4; try clear c6; try clear c7; try clear c9; try clear hcz11_0; try clear hcz11_1; try clear hcz11_2; try clear hcz13_0; try clear hcz13_1; try clear hcz13_2; try clear hfz11_0; try clear hfz11_1; try clear hfz11_2; try clear hfz13_0; try clear hfz13_1; try clear hfz13_2
  obtain ⟨kq, x20_3, rfl, HA, HJ3, BK340, HB⟩ := hcut
  cases kq with
  | zero => exact absurd HA.out (by simp [skiffref1_Cut.j0])
  | succ kj3 =>
   have H := HA.out
   clear HA
   simp only [skiffref1_Cut.j0] at H
   by_cases c15 : x20_3 = true
   ·subst c15
    have H1 : (some ((⟨#[]⟩ : ByteArray), 300)) = some (r1, r2) := by rw [if_pos rfl] at H; exact H
    clear H; have H := H1; clear H1
    simp only [Option.some.injEq, Prod.mk.injEq] at H
    obtain ⟨rfl, rfl⟩ := H
    go_wp2
    go_ret2
    exact ⟨by first | rfl | (simp [errW_none, errW_some] <;> rfl) | (simp [*, errW_none, errW_some] <;> rfl), kb1 HB.out GE340.out⟩
   ·replace c15 := Bool.eq_false_iff.mpr c15
    subst c15
    have H1 : (if a1_0 = true then ((skiffref1_Worn.f a0 (wrap64 (Int.tdiv a1_1 96)) a2).bind fun bt344 => (some (bt344.1, bt344.2))) else ((skiffref1_Torn.f a0 a1_1 a1_2 (mn a2 32)).bind fun bt346 => (some (bt346.1, bt346.2)))) = some (r1, r2) := by rw [if_neg (show ¬ (false = true) by decide)] at H; exact H
    clear H; have H := H1; clear H1
    by_cases c16 : a1_0 = true
    ·subst c16
     have H1 : ((skiffref1_Worn.f a0 (wrap64 (Int.tdiv a1_1 96)) a2).bind fun bt344 => (some (bt344.1, bt344.2))) = some (r1, r2) := by rw [if_pos rfl] at H; exact H
     clear H; have H := H1; clear H1
     replace H := Option.bind_eq_some_iff.mp H
     obtain ⟨⟨t344, t345⟩, A170, H⟩ := H
     replace H : (some (t344, t345)) = some (r1, r2) := H
     have A17 := Aside0.mk A170
     clear A170
     simp only [Option.some.injEq, Prod.mk.injEq] at H
     obtain ⟨rfl, rfl⟩ := H
     obtain ⟨hcz18_0, hcz18_1, hcz18_2⟩ := kc3 BK340.out
     obtain ⟨hfz18_0, hfz18_1, hfz18_2⟩ := kf3 BK340.out
     go_wp2_with (first | ((with_reducible refine gate_callee (f := 82) rfl ?_); refine goesL_ (some 28) rfl rfl Try.func82 (by kernel_rfl) rfl #[.string a0, .int .i64 (wrap64 (Int.tdiv a1_1 96)), .int .i64 a2] rfl ka ?_; (with_reducible refine (skiffref1_Worn.calls a0 (wrap64 (Int.tdiv a1_1 96)) a2 t344 t345 _ A17.out).mono ?_); rintro e w19 ⟨rfl, hb⟩; refine ⟨_, rfl, ?_⟩; have n0_ := Aside0.mk (kL BK340.out hb); have n1_ := Aside0.mk (below_step (kb1 HB.out GE340.out) hb); clear BK340; clear HB; have BK340 := n0_; have HB := n1_; clear n0_ n1_; (try clear hb); (try clear hb2); (try clear hk); (try clear hi)))
     go_ret2
     exact ⟨by first | rfl | (simp [errW_none, errW_some] <;> rfl) | (simp [*, errW_none, errW_some] <;> rfl), kb1 HB.out GE340.out⟩
    ·replace c16 := Bool.eq_false_iff.mpr c16
     subst c16
     have H1 : ((skiffref1_Torn.f a0 a1_1 a1_2 (mn a2 32)).bind fun bt346 => (some (bt346.1, bt346.2))) = some (r1, r2) := by rw [if_neg (show ¬ (false = true) by decide)] at H; exact H
     clear H; have H := H1; clear H1
     obtain ⟨ji20, hji20⟩ : ∃ j_ : Int, (mn a2 32) = j_ := ⟨_, rfl⟩
     replace H : ((skiffref1_Torn.f a0 a1_1 a1_2 (ji20)).bind fun bt346 => (some (bt346.1, bt346.2))) = some (r1, r2) := by first | (rw [hji20] at H; exact H) | (simp only [hji20] at H ⊢; exact H)
     have hji20_ : (if 32 < a2 then 32 else a2) = ji20 := hji20
     replace H := Option.bind_eq_some_iff.mp H
     obtain ⟨⟨t346, t347⟩, A210, H⟩ := H
     replace H : (some (t346, t347)) = some (r1, r2) := H
     have A21 := Aside0.mk A210
     clear A210
     simp only [Option.some.injEq, Prod.mk.injEq] at H
     obtain ⟨rfl, rfl⟩ := H
     obtain ⟨hcz22_0, hcz22_1, hcz22_2⟩ := kc3 BK340.out
     obtain ⟨hfz22_0, hfz22_1, hfz22_2⟩ := kf3 BK340.out
     go_wp2_with (first | ((with_reducible refine gate_callee (f := 83) rfl ?_); refine goesL_ (some 38) rfl rfl Try.func83 (by kernel_rfl) rfl #[.string a0, .int .i64 a1_1, .string a1_2, .int .i64 ji20] rfl (by (try simp only [List.map_toArray, List.map_cons, List.map_nil]); first | done | (simp only [hji20]; rfl) | rfl | (simp only [List.length_drop, List.length_take]; rfl)) ?_; (with_reducible refine (skiffref1_Torn.calls a0 a1_1 a1_2 ji20 t346 t347 _ A21.out).mono ?_); rintro e w23 ⟨rfl, hb⟩; refine ⟨_, rfl, ?_⟩; have n0_ := Aside0.mk (kL BK340.out hb); have n1_ := Aside0.mk (below_step (kb1 HB.out GE340.out) hb); clear BK340; clear HB; have BK340 := n0_; have HB := n1_; clear n0_ n1_; (try clear hb); (try clear hb2); (try clear hk); (try clear hi)))
     go_ret2
     exact ⟨by first | rfl | (simp [errW_none, errW_some] <;> rfl) | (simp only [← hji20]; first | rfl | (simp [errW_none, errW_some] <;> rfl)) | (simp [*, errW_none, errW_some] <;> rfl), kb1 HB.out GE340.out⟩

/-! ### skiffref1_Do: function 38 -/
def skiffref1_Do.f (k : Nat) (a0 : ByteArray) (a1_0 : Bool) (a1_1 : Int) (a1_2 : ByteArray) : Option (ByteArray × Int) := (skiffref1_Cut.f k a0 a1_0 a1_1 a1_2 96).bind fun bt349 => (some (bt349.1, bt349.2))
theorem skiffref1_Do.mono : ∀ a0 a1 a2 a3 k, LeO (skiffref1_Do.f k a0 a1 a2 a3) (skiffref1_Do.f (k + 1) a0 a1 a2 a3) := by
 intro a0 a1 a2 a3 k
 unfold skiffref1_Do.f
 repeat' first
   | (with_reducible exact skiffref1_Cut.mono _ _ _ _ _ _)
   | (with_reducible exact LeO.refl _)
   | (with_reducible exact LeO.none _)
   | (with_reducible refine LeO.ite ?_ ?_)
   | (with_reducible refine LeO.bind ?_ (fun _ => ?_))
   | exact skiffref1_Cut.mono _ _ _ _ _ _
   | exact LeO.none _
   | refine LeO.ite ?_ ?_
   | refine LeO.bind ?_ (fun _ => ?_)
set_option maxHeartbeats 8000000 in
set_option maxRecDepth 100000 in
theorem skiffref1_Do.calls (k : Nat) (a0 : ByteArray) (a1_0 : Bool) (a1_1 : Int) (a1_2 : ByteArray) (r1 : ByteArray) (r2 : Int) (w : World) (h : skiffref1_Do.f k a0 a1_0 a1_1 a1_2 = some (r1, r2)) :
  Calls Try.prog 38 #[.string a0, .agg #[.bool a1_0, .int .i64 a1_1, .string a1_2]] w fun e w' => e = .returned (.tuple #[.string r1, .int .i64 r2]) ∧ Below w.heap.size w w' := by
 have hu68 := Try.underlying68
 have HB := Aside0.mk (Below.refl w.heap.size w)
 have H : ((skiffref1_Cut.f k a0 a1_0 a1_1 a1_2 96).bind fun bt349 => (some (bt349.1, bt349.2))) = some (r1, r2) := h
 clear h
 replace H := Option.bind_eq_some_iff.mp H
 obtain ⟨⟨t349, t350⟩, A30, H⟩ := H
 replace H : (some (t349, t350)) = some (r1, r2) := H
 have A3 := Aside0.mk A30
 clear A30
 simp only [Option.some.injEq, Prod.mk.injEq] at H
 obtain ⟨rfl, rfl⟩ := H
 go_enter Try.func38, Try.ntmps38
 go_wp2_with (first | ((with_reducible refine gate_dst (N := 3) rfl ?_); refine box_event ?hg (N := 3) ?hd (cs := #[.bool a1_0, .int .i64 a1_1, .string a1_2]) (t := 68) ?hr ?_; (case hd => rfl); (case hg => rfl); (case hr => first | (go_simp; done) | (go_simp; rfl)); intro gb348 hg w4 hbox hb; have n0_ := Aside0.mk (below_step (kb HB.out) hb); have n1_ := Aside0.mk (hbox); have n2_ := Aside0.mk ((kz hg (below_size (kb HB.out)) : w.heap.size ≤ gb348)); have n3_ := Aside0.mk ((kz hg (below_size (kb HB.out)) : w.heap.size ≤ gb348)); clear HB; have HB := n0_; have BK348 := n1_; have GW348 := n2_; have GE348 := n3_; clear n0_ n1_ n2_ n3_; clear hb hbox hg; obtain ⟨hcz5_0, hcz5_1, hcz5_2⟩ := kc3 BK348.out; obtain ⟨hfz5_0, hfz5_1, hfz5_2⟩ := kf3 BK348.out) | ((with_reducible refine gate_callee (f := 63) rfl ?_); refine goesL_ (some 8) rfl rfl Try.func63 (by kernel_rfl) rfl #[.string a0, .agg #[.bool a1_0, .int .i64 a1_1, .string a1_2], .int .i64 96] rfl ka ?_; (with_reducible refine (skiffref1_Cut.calls k a0 a1_0 a1_1 a1_2 96 t349 t350 _ A3.out).mono ?_); rintro e w6 ⟨rfl, hb⟩; refine ⟨_, rfl, ?_⟩; have n0_ := Aside0.mk (kL BK348.out hb); have n1_ := Aside0.mk (below_step (kb1 HB.out GE348.out) hb); clear BK348; clear HB; have BK348 := n0_; have HB := n1_; clear n0_ n1_; (try clear hb); (try clear hb2); (try clear hk); (try clear hi)))
 go_ret2
 exact ⟨by first | rfl | (simp [errW_none, errW_some] <;> rfl) | (simp [*, errW_none, errW_some] <;> rfl), kb1 HB.out GE348.out⟩

/-! ### skiffref1_NextSeq: function 64 -/
def skiffref1_NextSeq.l0 : Nat → List (S43) → Int → Int → Option (Int × Int)
 | 0, _, _, _ => none
 | k + 1, x4, x6, x7 => if x7 < (x4.length : Int) then (if 0 ≤ x7 then (skiffref1_NextSeq.l0 k x4 (mx x6 ((rd_T43 x4 x7).f1.f0)) (wrap64 (x7 + 1))) else (none)) else (if x6 = 1048576 then (some (0, 801)) else (some (wrap64 (x6 + 1), 0)))
def skiffref1_NextSeq.f (k : Nat) (a0 : ByteArray) : Option (Int × Int) := (skiffref1_Scan.f k a0).bind fun bt351 => (if bt351.2 = 0 then (skiffref1_NextSeq.l0 k bt351.1 0 0) else (some (0, 800)))
theorem skiffref1_NextSeq.mono_l : ∀ k, (∀ y0 y1 y2, LeO (skiffref1_NextSeq.l0 k y0 y1 y2) (skiffref1_NextSeq.l0 (k + 1) y0 y1 y2))
 | 0 => fun _ _ _ r h => by simp [skiffref1_NextSeq.l0] at h
 | k + 1 => by
  have ih0 := skiffref1_NextSeq.mono_l k
  ·intro y0 y1 y2
   unfold skiffref1_NextSeq.l0
   repeat' first
   | (with_reducible exact ih0 _ _ _)
   | (with_reducible exact skiffref1_Scan.mono _ _)
   | (with_reducible exact LeO.refl _)
   | (with_reducible exact LeO.none _)
   | (with_reducible refine LeO.ite ?_ ?_)
   | (with_reducible refine LeO.bind ?_ (fun _ => ?_))
   | exact ih0 _ _ _
   | exact skiffref1_Scan.mono _ _
   | exact LeO.none _
   | refine LeO.ite ?_ ?_
   | refine LeO.bind ?_ (fun _ => ?_)
theorem skiffref1_NextSeq.mono : ∀ a0 k, LeO (skiffref1_NextSeq.f k a0) (skiffref1_NextSeq.f (k + 1) a0) := by
 intro a0 k
 have ih0 := skiffref1_NextSeq.mono_l k
 unfold skiffref1_NextSeq.f
 repeat' first
   | (with_reducible exact ih0 _ _ _)
   | (with_reducible exact skiffref1_Scan.mono _ _)
   | (with_reducible exact LeO.refl _)
   | (with_reducible exact LeO.none _)
   | (with_reducible refine LeO.ite ?_ ?_)
   | (with_reducible refine LeO.bind ?_ (fun _ => ?_))
   | exact ih0 _ _ _
   | exact skiffref1_Scan.mono _ _
   | exact LeO.none _
   | refine LeO.ite ?_ ?_
   | refine LeO.bind ?_ (fun _ => ?_)
set_option maxHeartbeats 8000000 in
set_option maxRecDepth 100000 in
theorem skiffref1_NextSeq.calls (k : Nat) (a0 : ByteArray) (r1 : Int) (r2 : Int) (w : World) (h : skiffref1_NextSeq.f k a0 = some (r1, r2)) :
  Calls Try.prog 64 #[.string a0] w fun e w' => e = .returned (.tuple #[.int .i64 r1, .int .i64 r2]) ∧ Below w.heap.size w w' := by
 have HB := Aside0.mk (Below.refl w.heap.size w)
 have H : ((skiffref1_Scan.f k a0).bind fun bt351 => (if bt351.2 = 0 then (skiffref1_NextSeq.l0 k bt351.1 0 0) else (some (0, 800)))) = some (r1, r2) := h
 clear h
 replace H := Option.bind_eq_some_iff.mp H
 obtain ⟨⟨t351, t352⟩, A20, H⟩ := H
 replace H : (if t352 = 0 then (skiffref1_NextSeq.l0 k t351 0 0) else (some (0, 800))) = some (r1, r2) := H
 have A2 := Aside0.mk A20
 clear A20
 by_cases c3 : t352 = 0
 case neg =>
  rw [if_neg c3] at H
  have c3b0 : (t352 == 0) = false := beq_eq_false_iff_ne.mpr c3
  have c3b1 : (t352 != 0) = true := bne_iff_ne.mpr c3
  simp only [Option.some.injEq, Prod.mk.injEq] at H
  obtain ⟨rfl, rfl⟩ := H
  go_enter Try.func64, Try.ntmps64
  go_wp2_with (first | ((with_reducible refine gate_callee (f := 41) rfl ?_); refine goesL_ (some 10) rfl rfl Try.func41 (by kernel_rfl) rfl #[.string a0] rfl ka ?_; (with_reducible refine (skiffref1_Scan.calls k a0 t351 t352 _ A2.out).mono ?_); rintro e w12 ⟨v353, rfl, ho0, hb⟩; refine ⟨_, rfl, ?_⟩; have n0_ := Aside0.mk (Kd.R_lower ho0 (below_size (kb HB.out))); have n1_ := Aside0.mk (below_step (kb HB.out) hb); clear HB; have HO354 := n0_; have HB := n1_; clear n0_ n1_; (try clear hb); (try clear hb2); (try clear hk); (try clear hi); (try clear ho0)))
  go_ret2
  exact ⟨by first | rfl | (simp [errW_none, errW_some] <;> rfl) | (simp [*, errW_none, errW_some] <;> rfl), kb HB.out⟩
 rw [if_pos c3] at H
 have c3b0 : (t352 == 0) = true := beq_iff_eq.mpr c3
 have c3b1 : (t352 != 0) = false := bne_eq_false_iff_eq.mpr c3
 clear c3
 have H' := Aside0.mk H
 clear H
 go_enter Try.func64, Try.ntmps64
 go_wp2_with (first | ((with_reducible refine gate_callee (f := 41) rfl ?_); refine goesL_ (some 10) rfl rfl Try.func41 (by kernel_rfl) rfl #[.string a0] rfl ka ?_; (with_reducible refine (skiffref1_Scan.calls k a0 t351 t352 _ A2.out).mono ?_); rintro e w4 ⟨v353, rfl, ho0, hb⟩; refine ⟨_, rfl, ?_⟩; have n0_ := Aside0.mk (Kd.R_lower ho0 (below_size (kb HB.out))); have n1_ := Aside0.mk (below_step (kb HB.out) hb); clear HB; have HO354 := n0_; have HB := n1_; clear n0_ n1_; (try clear hb); (try clear hb2); (try clear hk); (try clear hi); (try clear ho0)))
 go_loopg [6, 7] k (fun kq v6 v7 w' => ∃ (x6_1 : Int) (x7_1 : Int), v6 = .int .i64 x6_1 ∧ v7 = .int .i64 x7_1 ∧ Aside0 (skiffref1_NextSeq.l0 kq t351 x6_1 x7_1 = some (r1, r2)) ∧ Aside0 (kq ≤ k) ∧ Aside0 (Kd.R k43 43 w' w.heap.size (fun _ => True) v353 t351) ∧ Aside0 (Below w.heap.size w w'))
 case atStart => exact ⟨(0), (0), (by first | rfl | (simp; done) | (simp [*]; done)), (by first | rfl | (simp; done) | (simp [*]; done)), H', ⟨Nat.le_refl _⟩, ⟨kR HO354.out⟩, ⟨kb HB.out⟩⟩
 case round =>
  clear H'
  try clear p2; try clear c3; try clear c3b0; try clear c3b1; try clear c4
  obtain ⟨x6_1, x7_1, rfl, rfl, HA, HK1, HO_4, HB⟩ := hrel
  cases gk with
  | zero => exact absurd HA.out (by simp [skiffref1_NextSeq.l0])
  | succ k1 =>
   have H := HA.out
   clear HA
   simp only [skiffref1_NextSeq.l0] at H
   by_cases c5 : x7_1 < (t351.length : Int)
   ·rw [if_pos c5] at H
    have c5b0 : decide (x7_1 < (t351.length : Int)) = true := decide_eq_true c5
    clear c5
    by_cases c6 : 0 ≤ x7_1
    case neg =>
     rw [if_neg c6] at H
     exact absurd H (by simp)
    rw [if_pos c6] at H
    have c6b0 : decide (0 ≤ x7_1) = true := decide_eq_true c6
    clear c6
    obtain ⟨ji7, hji7⟩ : ∃ j_ : Int, (mx x6_1 ((rd_T43 t351 x7_1).f1.f0)) = j_ := ⟨_, rfl⟩
    replace H : (skiffref1_NextSeq.l0 k1 t351 ji7 (wrap64 (x7_1 + 1))) = some (r1, r2) := by first | (rw [hji7] at H; exact H) | (simp only [hji7] at H ⊢; exact H)
    have hji7_ : (if x6_1 < ((rd_T43 t351 x7_1).f1.f0) then ((rd_T43 t351 x7_1).f1.f0) else x6_1) = ji7 := hji7
    have H' := Aside0.mk H
    clear H
    obtain ⟨Ao8, co8, eo8⟩ := Kd.R_slice HO_4.out
    subst eo8
    have p355 : 0 ≤ (x7_1 : Int) := of_decide_eq_true (by first | (with_reducible assumption) | assumption)
    have q355 : x7_1 < (t351.length : Int) := of_decide_eq_true (by first | (with_reducible assumption) | assumption)
    obtain ⟨ad355, e355, hx355_0, hx355_1, hx355_2, hx355_3, hx355_4⟩ := at_T43 (Kd.R_reads' HO_4.out).2.2 x7_1 p355 q355
    cases e355
    replace p355 := eq_true p355
    replace q355 := eq_true q355
    go_wp2
    go_roundg k1
    case measure => have := HK1.out; omega
    case rel => exact ⟨(ji7), (wrap64 (x7_1 + 1)), (by first | rfl | (simp; done) | (simp only [← hji7] <;> (first | rfl | simp)) | (simp [*]; done)), (by first | rfl | (simp; done) | (simp [*]; done)), H', ⟨by have := HK1.out; omega⟩, ⟨kR HO_4.out⟩, ⟨kb HB.out⟩⟩
   ·rw [if_neg c5] at H
    have c5b0 : decide (x7_1 < (t351.length : Int)) = false := decide_eq_false c5
    clear c5
    by_cases c9 : x6_1 = 1048576
    case neg =>
     rw [if_neg c9] at H
     have c9b0 : (x6_1 == 1048576) = false := beq_eq_false_iff_ne.mpr c9
     have c9b1 : (x6_1 != 1048576) = true := bne_iff_ne.mpr c9
     simp only [Option.some.injEq, Prod.mk.injEq] at H
     obtain ⟨rfl, rfl⟩ := H
     obtain ⟨Ao11, co11, eo11⟩ := Kd.R_slice HO_4.out
     subst eo11
     go_wp2
     go_ret2
     exact ⟨by first | rfl | (simp [errW_none, errW_some] <;> rfl) | (simp [*, errW_none, errW_some] <;> rfl), kb HB.out⟩
    rw [if_pos c9] at H
    have c9b0 : (x6_1 == 1048576) = true := beq_iff_eq.mpr c9
    have c9b1 : (x6_1 != 1048576) = false := bne_eq_false_iff_eq.mpr c9
    clear c9
    simp only [Option.some.injEq, Prod.mk.injEq] at H
    obtain ⟨rfl, rfl⟩ := H
    obtain ⟨Ao10, co10, eo10⟩ := Kd.R_slice HO_4.out
    subst eo10
    go_wp2
    go_ret2
    exact ⟨by first | rfl | (simp [errW_none, errW_some] <;> rfl) | (simp [*, errW_none, errW_some] <;> rfl), kb HB.out⟩

/-! ### skiffref1_RecordOf: function 39 -/
def skiffref1_RecordOf.j0 : Nat → ByteArray → Int → Int → Int → Bool → Option (Int × Int × Int × Int × Int)
 | 0, _, _, _, _, _ => none
 | k + 1, x0, x1, x2, x8, x27 => if x27 = true then (some (0, 0, 0, 0, 900)) else ((skiffref1_NextSeq.f k x0).bind fun bt361 => (if bt361.2 = 0 then (if 0 ≤ x8 then (if x8 ≤ (wrap64 (x8 + x2)) then (if (wrap64 (x8 + x2)) ≤ (x0.size : Int) then ((skiffref1_Crc.f (x0.extract (x8 : Int).toNat ((wrap64 (x8 + x2)) : Int).toNat)).bind fun t363 => (some (bt361.1, x1, x2, t363, 0))) else (none)) else (none)) else (none)) else (some (0, 0, 0, 0, bt361.2))))
def skiffref1_RecordOf.f (k : Nat) (a0 : ByteArray) (a1 : Int) (a2 : Int) : Option (Int × Int × Int × Int × Int) := (skiffref1_Base.f a1).bind fun bt357 => ((skiffref1_FlashMay.f a0).bind fun t359 => (if t359 = true then (if bt357.2 = 0 then ((skiffref1_upTo.f a2 1 288).bind fun t360 => (skiffref1_RecordOf.j0 k a0 a1 a2 bt357.1 (!t360))) else (skiffref1_RecordOf.j0 k a0 a1 a2 bt357.1 true)) else (skiffref1_RecordOf.j0 k a0 a1 a2 bt357.1 true)))
theorem skiffref1_RecordOf.mono_l : ∀ k, (∀ y0 y1 y2 y3 y4, LeO (skiffref1_RecordOf.j0 k y0 y1 y2 y3 y4) (skiffref1_RecordOf.j0 (k + 1) y0 y1 y2 y3 y4))
 | 0 => fun _ _ _ _ _ r h => by simp [skiffref1_RecordOf.j0] at h
 | k + 1 => by
  have ih0 := skiffref1_RecordOf.mono_l k
  ·intro y0 y1 y2 y3 y4
   unfold skiffref1_RecordOf.j0
   repeat' first
   | (with_reducible exact ih0 _ _ _ _ _)
   | (with_reducible exact skiffref1_NextSeq.mono _ _)
   | (with_reducible exact LeO.refl _)
   | (with_reducible exact LeO.none _)
   | (with_reducible refine LeO.ite ?_ ?_)
   | (with_reducible refine LeO.bind ?_ (fun _ => ?_))
   | exact ih0 _ _ _ _ _
   | exact skiffref1_NextSeq.mono _ _
   | exact LeO.none _
   | refine LeO.ite ?_ ?_
   | refine LeO.bind ?_ (fun _ => ?_)
theorem skiffref1_RecordOf.mono : ∀ a0 a1 a2 k, LeO (skiffref1_RecordOf.f k a0 a1 a2) (skiffref1_RecordOf.f (k + 1) a0 a1 a2) := by
 intro a0 a1 a2 k
 have ih0 := skiffref1_RecordOf.mono_l k
 unfold skiffref1_RecordOf.f
 repeat' first
   | (with_reducible exact ih0 _ _ _ _ _)
   | (with_reducible exact skiffref1_NextSeq.mono _ _)
   | (with_reducible exact LeO.refl _)
   | (with_reducible exact LeO.none _)
   | (with_reducible refine LeO.ite ?_ ?_)
   | (with_reducible refine LeO.bind ?_ (fun _ => ?_))
   | exact ih0 _ _ _ _ _
   | exact skiffref1_NextSeq.mono _ _
   | exact LeO.none _
   | refine LeO.ite ?_ ?_
   | refine LeO.bind ?_ (fun _ => ?_)
set_option maxHeartbeats 8000000 in
set_option maxRecDepth 100000 in
theorem skiffref1_RecordOf.calls (k : Nat) (a0 : ByteArray) (a1 : Int) (a2 : Int) (r1 : Int) (r2 : Int) (r3 : Int) (r4 : Int) (r5 : Int) (w : World) (h : skiffref1_RecordOf.f k a0 a1 a2 = some (r1, r2, r3, r4, r5)) :
  Calls Try.prog 39 #[.string a0, .int .i64 a1, .int .i64 a2] w fun e w' => e = .returned (.tuple #[.agg #[.int .i64 r1, .int .i64 r2, .int .i64 r3, .int .i64 r4], .int .i64 r5]) ∧ Below w.heap.size w w' := by
 have hu41 := Try.underlying41
 have HB := Aside0.mk (Below.refl w.heap.size w)
 have H : ((skiffref1_Base.f a1).bind fun bt357 => ((skiffref1_FlashMay.f a0).bind fun t359 => (if t359 = true then (if bt357.2 = 0 then ((skiffref1_upTo.f a2 1 288).bind fun t360 => (skiffref1_RecordOf.j0 k a0 a1 a2 bt357.1 (!t360))) else (skiffref1_RecordOf.j0 k a0 a1 a2 bt357.1 true)) else (skiffref1_RecordOf.j0 k a0 a1 a2 bt357.1 true)))) = some (r1, r2, r3, r4, r5) := h
 clear h
 replace H := Option.bind_eq_some_iff.mp H
 obtain ⟨⟨t357, t358⟩, A40, H⟩ := H
 replace H : ((skiffref1_FlashMay.f a0).bind fun t359 => (if t359 = true then (if t358 = 0 then ((skiffref1_upTo.f a2 1 288).bind fun t360 => (skiffref1_RecordOf.j0 k a0 a1 a2 t357 (!t360))) else (skiffref1_RecordOf.j0 k a0 a1 a2 t357 true)) else (skiffref1_RecordOf.j0 k a0 a1 a2 t357 true))) = some (r1, r2, r3, r4, r5) := H
 have A4 := Aside0.mk A40
 clear A40
 have HC5 := Aside0.mk H
 clear H
 go_enter Try.func39, Try.ntmps39
 go_upto_region 2 with (first | ((with_reducible refine gate_dst (N := 6) rfl ?_); refine box_event ?hg (N := 6) ?hd (cs := #[.int .i64 0, .int .i64 0, .int .i64 0, .int .i64 0]) (t := 41) ?hr ?_; (case hd => rfl); (case hg => rfl); (case hr => first | (go_simp; done) | (go_simp; rfl)); intro gb356 hg w6 hbox hb; have n0_ := Aside0.mk (below_step (kb HB.out) hb); have n1_ := Aside0.mk (hbox); have n2_ := Aside0.mk ((kz hg (below_size (kb HB.out)) : w.heap.size ≤ gb356)); have n3_ := Aside0.mk ((kz hg (below_size (kb HB.out)) : w.heap.size ≤ gb356)); clear HB; have HB := n0_; have BK356 := n1_; have GW356 := n2_; have GE356 := n3_; clear n0_ n1_ n2_ n3_; clear hb hbox hg) | ((with_reducible refine gate_callee (f := 20) rfl ?_); refine goesL_ (some 13) rfl rfl Try.func20 (by kernel_rfl) rfl #[.int .i64 a1] rfl ka ?_; (with_reducible refine (skiffref1_Base.calls a1 t357 t358 _ A4.out).mono ?_); rintro e w' ⟨rfl, ⟨nd, rfl⟩⟩; refine ⟨_, rfl, ?_⟩))
 (try simp only [Act.put, List.setIfInBounds_toArray, List.set_cons_zero, List.set_cons_succ])
 go_cut [27] (fun v27 wc => ∃ (kq : Nat) (x27_4 : Bool), v27 = .bool x27_4 ∧ Aside0 (skiffref1_RecordOf.j0 kq a0 a1 a2 t357 x27_4 = some (r1, r2, r3, r4, r5)) ∧ Aside0 (kq ≤ k) ∧ Aside0 (wc.heap[gb356]? = some (.cells #[.int .i64 0, .int .i64 0, .int .i64 0, .int .i64 0] 41 (0, 0))) ∧ Aside0 (Below w.heap.size w wc))
 case first =>
  have H := HC5.out
  clear HC5
  replace H := Option.bind_eq_some_iff.mp H
  obtain ⟨t359, A70, H⟩ := H
  replace H : (if t359 = true then (if t358 = 0 then ((skiffref1_upTo.f a2 1 288).bind fun t360 => (skiffref1_RecordOf.j0 k a0 a1 a2 t357 (!t360))) else (skiffref1_RecordOf.j0 k a0 a1 a2 t357 true)) else (skiffref1_RecordOf.j0 k a0 a1 a2 t357 true)) = some (r1, r2, r3, r4, r5) := H
  have A7 := Aside0.mk A70
  clear A70
  by_cases c8 : t359 = true
  case neg =>
   replace c8 := Bool.eq_false_iff.mpr c8
   subst c8
   have H1 : (skiffref1_RecordOf.j0 k a0 a1 a2 t357 true) = some (r1, r2, r3, r4, r5) := by rw [if_neg (show ¬ (false = true) by decide)] at H; exact H
   clear H; have H := H1; clear H1
   have H' := Aside0.mk H
   clear H
   go_wp2_with (first | ((with_reducible refine gate_callee (f := 43) rfl ?_); refine goesL_ (some 17) rfl rfl Try.func43 (by kernel_rfl) rfl #[.string a0] rfl ka ?_; (with_reducible refine (skiffref1_FlashMay.calls a0 false _ A7.out).mono ?_); rintro e w' ⟨rfl, ⟨nd, rfl⟩⟩; refine ⟨_, rfl, ?_⟩))
   go_meet
   case rel => exact ⟨_, (true), (by first | rfl | (simp; done) | (simp [*]; done)), H', ⟨by first | omega | exact Nat.le_refl _⟩, ⟨kB BK356.out⟩, ⟨kb1 HB.out GE356.out⟩⟩
  subst c8
  have H1 : (if t358 = 0 then ((skiffref1_upTo.f a2 1 288).bind fun t360 => (skiffref1_RecordOf.j0 k a0 a1 a2 t357 (!t360))) else (skiffref1_RecordOf.j0 k a0 a1 a2 t357 true)) = some (r1, r2, r3, r4, r5) := by rw [if_pos rfl] at H; exact H
  clear H; have H := H1; clear H1
  by_cases c9 : t358 = 0
  case neg =>
   rw [if_neg c9] at H
   have c9b0 : (t358 == 0) = false := beq_eq_false_iff_ne.mpr c9
   have c9b1 : (t358 != 0) = true := bne_iff_ne.mpr c9
   (first | rw [c9b0] | rw [c9b1] | (simp only [i64_w, i32_w]; rw [c9b0]) | skip)
   have H' := Aside0.mk H
   clear H
   go_wp2_with (first | ((with_reducible refine gate_callee (f := 43) rfl ?_); refine goesL_ (some 17) rfl rfl Try.func43 (by kernel_rfl) rfl #[.string a0] rfl ka ?_; (with_reducible refine (skiffref1_FlashMay.calls a0 true _ A7.out).mono ?_); rintro e w' ⟨rfl, ⟨nd, rfl⟩⟩; refine ⟨_, rfl, ?_⟩))
   go_meet
   case rel => exact ⟨_, (true), (by first | rfl | (simp; done) | (simp [*]; done)), H', ⟨by first | omega | exact Nat.le_refl _⟩, ⟨kB BK356.out⟩, ⟨kb1 HB.out GE356.out⟩⟩
  rw [if_pos c9] at H
  have c9b0 : (t358 == 0) = true := beq_iff_eq.mpr c9
  have c9b1 : (t358 != 0) = false := bne_eq_false_iff_eq.mpr c9
  clear c9
  (first | rw [c9b0] | rw [c9b1] | (simp only [i64_w, i32_w]; rw [c9b0]) | skip)
  replace H := Option.bind_eq_some_iff.mp H
  obtain ⟨t360, A100, H⟩ := H
  replace H : (skiffref1_RecordOf.j0 k a0 a1 a2 t357 (!t360)) = some (r1, r2, r3, r4, r5) := H
  have A10 := Aside0.mk A100
  clear A100
  have H' := Aside0.mk H
  clear H
  go_wp2_with (first | ((with_reducible refine gate_callee (f := 43) rfl ?_); refine goesL_ (some 17) rfl rfl Try.func43 (by kernel_rfl) rfl #[.string a0] rfl ka ?_; (with_reducible refine (skiffref1_FlashMay.calls a0 true _ A7.out).mono ?_); rintro e w' ⟨rfl, ⟨nd, rfl⟩⟩; refine ⟨_, rfl, ?_⟩) | (go_at_call 45; (with_reducible refine (skiffref1_upTo.calls a2 1 288 t360 _ A10.out).mono ?_); rintro e w' ⟨rfl, ⟨nd, rfl⟩⟩))
  go_meet
  case rel => exact ⟨_, (!t360), (by first | rfl | (simp; done) | (simp [*]; done)), H', ⟨by first | omega | exact Nat.le_refl _⟩, ⟨kB BK356.out⟩, ⟨kb1 HB.out GE356.out⟩⟩
 case rest =>
  clear HC5
  try clear c2; try clear p2; try clear c3; try clear c4; try clear c8; try clear c9; try clear c9b0; try clear c9b1
  obtain ⟨kq, x27_4, rfl, HA, HJ4, BK356, HB⟩ := hcut
  cases kq with
  | zero => exact absurd HA.out (by simp [skiffref1_RecordOf.j0])
  | succ kj4 =>
   have H := HA.out
   clear HA
   simp only [skiffref1_RecordOf.j0] at H
   by_cases c11 : x27_4 = true
   ·subst c11
    have H1 : (some (0, 0, 0, 0, 900)) = some (r1, r2, r3, r4, r5) := by rw [if_pos rfl] at H; exact H
    clear H; have H := H1; clear H1
    simp only [Option.some.injEq, Prod.mk.injEq] at H
    obtain ⟨rfl, rfl, rfl, rfl, rfl⟩ := H
    obtain ⟨hcz12_0, hcz12_1, hcz12_2, hcz12_3⟩ := kc4 BK356.out
    obtain ⟨hfz12_0, hfz12_1, hfz12_2, hfz12_3⟩ := kf4 BK356.out
    go_wp2
    refine bodyPost_ret (results_ct rfl _ _ gb356 41 #[.int .i64 0, .int .i64 0, .int .i64 0, .int .i64 0] (0, 0) _ rfl (kP4 BK356.out) Try.underlying41 rfl (by kernel_rfl)) rfl ?_
    exact ⟨by first | rfl | (simp [errW_none, errW_some] <;> rfl) | (simp [*, errW_none, errW_some] <;> rfl), kb1 HB.out GE356.out⟩
   ·replace c11 := Bool.eq_false_iff.mpr c11
    subst c11
    have H1 : ((skiffref1_NextSeq.f kj4 a0).bind fun bt361 => (if bt361.2 = 0 then (if 0 ≤ t357 then (if t357 ≤ (wrap64 (t357 + a2)) then (if (wrap64 (t357 + a2)) ≤ (a0.size : Int) then ((skiffref1_Crc.f (a0.extract (t357 : Int).toNat ((wrap64 (t357 + a2)) : Int).toNat)).bind fun t363 => (some (bt361.1, a1, a2, t363, 0))) else (none)) else (none)) else (none)) else (some (0, 0, 0, 0, bt361.2)))) = some (r1, r2, r3, r4, r5) := by rw [if_neg (show ¬ (false = true) by decide)] at H; exact H
    clear H; have H := H1; clear H1
    replace H := Option.bind_eq_some_iff.mp H
    obtain ⟨⟨t361, t362⟩, A130, H⟩ := H
    replace H : (if t362 = 0 then (if 0 ≤ t357 then (if t357 ≤ (wrap64 (t357 + a2)) then (if (wrap64 (t357 + a2)) ≤ (a0.size : Int) then ((skiffref1_Crc.f (a0.extract (t357 : Int).toNat ((wrap64 (t357 + a2)) : Int).toNat)).bind fun t363 => (some (t361, a1, a2, t363, 0))) else (none)) else (none)) else (none)) else (some (0, 0, 0, 0, t362))) = some (r1, r2, r3, r4, r5) := H
    have A13 := Aside0.mk A130
    clear A130
    by_cases c14 : t362 = 0
    case neg =>
     rw [if_neg c14] at H
     have c14b0 : (t362 == 0) = false := beq_eq_false_iff_ne.mpr c14
     have c14b1 : (t362 != 0) = true := bne_iff_ne.mpr c14
     simp only [Option.some.injEq, Prod.mk.injEq] at H
     obtain ⟨rfl, rfl, rfl, rfl, rfl⟩ := H
     go_wp2_with (first | ((with_reducible refine gate_callee (f := 64) rfl ?_); refine goesL_ (some 31) rfl rfl Try.func64 (by kernel_rfl) rfl #[.string a0] rfl ka ?_; (with_reducible refine (skiffref1_NextSeq.calls kj4 a0 t361 t362 _ A13.out).mono ?_); rintro e w22 ⟨rfl, hb⟩; refine ⟨_, rfl, ?_⟩; have n0_ := Aside0.mk (kL BK356.out hb); have n1_ := Aside0.mk (below_step (kb1 HB.out GE356.out) hb); clear BK356; clear HB; have BK356 := n0_; have HB := n1_; clear n0_ n1_; (try clear hb); (try clear hb2); (try clear hk); (try clear hi); obtain ⟨hcz23_0, hcz23_1, hcz23_2, hcz23_3⟩ := kc4 BK356.out; obtain ⟨hfz23_0, hfz23_1, hfz23_2, hfz23_3⟩ := kf4 BK356.out))
     refine bodyPost_ret (results_ct rfl _ _ gb356 41 #[.int .i64 0, .int .i64 0, .int .i64 0, .int .i64 0] (0, 0) _ rfl (kP4 BK356.out) Try.underlying41 rfl (by kernel_rfl)) rfl ?_
     exact ⟨by first | rfl | (simp [errW_none, errW_some] <;> rfl) | (simp [*, errW_none, errW_some] <;> rfl), kb1 HB.out GE356.out⟩
    rw [if_pos c14] at H
    have c14b0 : (t362 == 0) = true := beq_iff_eq.mpr c14
    have c14b1 : (t362 != 0) = false := bne_eq_false_iff_eq.mpr c14
    clear c14
    by_cases c15 : 0 ≤ t357
    case neg =>
     rw [if_neg c15] at H
     exact absurd H (by simp)
    rw [if_pos c15] at H
    have c15b0 := eq_true c15
    have c15b1 : decide (0 ≤ t357) = true := decide_eq_true c15
    clear c15
    by_cases c16 : t357 ≤ (wrap64 (t357 + a2))
    case neg =>
     rw [if_neg c16] at H
     exact absurd H (by simp)
    rw [if_pos c16] at H
    have c16b0 := eq_true c16
    have c16b1 : decide (t357 ≤ (wrap64 (t357 + a2))) = true := decide_eq_true c16
    by_cases c17 : (wrap64 (t357 + a2)) ≤ (a0.size : Int)
    case neg =>
     rw [if_neg c17] at H
     exact absurd H (by simp)
    rw [if_pos c17] at H
    have c17b0 := eq_true c17
    have c17b1 : decide ((wrap64 (t357 + a2)) ≤ (a0.size : Int)) = true := decide_eq_true c17
    replace H := Option.bind_eq_some_iff.mp H
    obtain ⟨t363, A180, H⟩ := H
    replace H : (some (t361, a1, a2, t363, 0)) = some (r1, r2, r3, r4, r5) := H
    have A18 := Aside0.mk A180
    clear A180
    simp only [Option.some.injEq, Prod.mk.injEq] at H
    obtain ⟨rfl, rfl, rfl, rfl, rfl⟩ := H
    go_wp2_with (first | ((with_reducible refine gate_callee (f := 64) rfl ?_); refine goesL_ (some 31) rfl rfl Try.func64 (by kernel_rfl) rfl #[.string a0] rfl ka ?_; (with_reducible refine (skiffref1_NextSeq.calls kj4 a0 t361 t362 _ A13.out).mono ?_); rintro e w19 ⟨rfl, hb⟩; refine ⟨_, rfl, ?_⟩; have n0_ := Aside0.mk (kL BK356.out hb); have n1_ := Aside0.mk (below_step (kb1 HB.out GE356.out) hb); clear BK356; clear HB; have BK356 := n0_; have HB := n1_; clear n0_ n1_; (try clear hb); (try clear hb2); (try clear hk); (try clear hi)) | ((with_reducible refine gate_callee (f := 65) rfl ?_); refine goesL_ (some 47) rfl rfl Try.func65 (by kernel_rfl) rfl #[.string (a0.extract (t357 : Int).toNat ((wrap64 (t357 + a2)) : Int).toNat)] rfl ka ?_; (with_reducible refine (skiffref1_Crc.calls (a0.extract (t357 : Int).toNat ((wrap64 (t357 + a2)) : Int).toNat) t363 _ A18.out).mono ?_); rintro e w20 ⟨rfl, hb⟩; refine ⟨_, rfl, ?_⟩; have n0_ := Aside0.mk (kL BK356.out hb); have n1_ := Aside0.mk (below_step (kb1 HB.out GE356.out) hb); clear BK356; clear HB; have BK356 := n0_; have HB := n1_; clear n0_ n1_; (try clear hb); (try clear hb2); (try clear hk); (try clear hi); obtain ⟨hcz21_0, hcz21_1, hcz21_2, hcz21_3⟩ := kc4 BK356.out; obtain ⟨hfz21_0, hfz21_1, hfz21_2, hfz21_3⟩ := kf4 BK356.out))
    refine bodyPost_ret (results_ct rfl _ _ gb356 41 #[.int .i64 t361, .int .i64 a1, .int .i64 a2, .int .i64 t363] (0, 0) _ rfl (kP4 BK356.out) Try.underlying41 rfl (by kernel_rfl)) rfl ?_
    exact ⟨by first | rfl | (simp [errW_none, errW_some] <;> rfl) | (simp [*, errW_none, errW_some] <;> rfl), kb1 HB.out GE356.out⟩

/-! ### skiffref1_PutEntry: function 66 -/
def skiffref1_PutEntry.f (a0_0 : Int) (a0_1 : Int) (a0_2 : Int) (a0_3 : Int) : Option (ByteArray × Int) := some (Skiff.putPair ⟨a0_0, a0_1, a0_2, a0_3⟩)
theorem skiffref1_PutEntry.calls (a0_0 : Int) (a0_1 : Int) (a0_2 : Int) (a0_3 : Int) (r1 : ByteArray) (r2 : Int) (w : World) (h : skiffref1_PutEntry.f a0_0 a0_1 a0_2 a0_3 = some (r1, r2)) :
  Calls Try.prog 66 #[.agg #[.int .i64 a0_0, .int .i64 a0_1, .int .i64 a0_2, .int .i64 a0_3]] w fun e w' => e = .returned (.tuple #[.string r1, .int .i64 r2]) ∧ Below w.heap.size w w' :=
 Go.Proofs.Ytmidohjfajbpmaa.g_skiffref1_PutEntry a0_0 a0_1 a0_2 a0_3 r1 r2 w h

/-! ### skiffref1_FreePlace: function 67 -/
mutual
def skiffref1_FreePlace.j0 : Nat → ByteArray → Int → Bool → Option (Int × Bool × Int)
 | 0, _, _, _ => none
 | k + 1, x0, x1, x15 => if x15 = true then (some (0, false, 500)) else (skiffref1_FreePlace.l0 k x0 x1 (wrap64 (x1 * 96)))
def skiffref1_FreePlace.l0 : Nat → ByteArray → Int → Int → Option (Int × Bool × Int)
 | 0, _, _, _ => none
 | k + 1, x0, x1, x7 => if (wrap64 (x7 + 24)) ≤ (wrap64 ((wrap64 (x1 + 1)) * 96)) then (if 0 ≤ x7 then (if x7 ≤ (wrap64 (x7 + 24)) then (if (wrap64 (x7 + 24)) ≤ (x0.size : Int) then ((skiffref1_full.f 24).bind fun t366 => (if (x0.extract (x7 : Int).toNat ((wrap64 (x7 + 24)) : Int).toNat).toList = t366.toList then (some (x7, true, 0)) else (skiffref1_FreePlace.l0 k x0 x1 (wrap64 (x7 + 24))))) else (none)) else (none)) else (none)) else (some (0, false, 0))
end
def skiffref1_FreePlace.f (k : Nat) (a0 : ByteArray) (a1 : Int) : Option (Int × Bool × Int) := (skiffref1_FlashMay.f a0).bind fun t364 => (if t364 = true then ((skiffref1_upTo.f a1 0 1).bind fun t365 => (skiffref1_FreePlace.j0 k a0 a1 (!t365))) else (skiffref1_FreePlace.j0 k a0 a1 true))
theorem skiffref1_FreePlace.mono_l : ∀ k, (∀ y0 y1 y2, LeO (skiffref1_FreePlace.j0 k y0 y1 y2) (skiffref1_FreePlace.j0 (k + 1) y0 y1 y2)) ∧ (∀ y0 y1 y2, LeO (skiffref1_FreePlace.l0 k y0 y1 y2) (skiffref1_FreePlace.l0 (k + 1) y0 y1 y2))
 | 0 => ⟨fun _ _ _ r h => by simp [skiffref1_FreePlace.j0] at h, fun _ _ _ r h => by simp [skiffref1_FreePlace.l0] at h⟩
 | k + 1 => by
  obtain ⟨ih0, ih1⟩ := skiffref1_FreePlace.mono_l k
  refine ⟨?_, ?_⟩
  ·intro y0 y1 y2
   unfold skiffref1_FreePlace.j0
   repeat' first
   | (with_reducible exact ih0 _ _ _)
   | (with_reducible exact ih1 _ _ _)
   | (with_reducible exact LeO.refl _)
   | (with_reducible exact LeO.none _)
   | (with_reducible refine LeO.ite ?_ ?_)
   | (with_reducible refine LeO.bind ?_ (fun _ => ?_))
   | exact ih0 _ _ _
   | exact ih1 _ _ _
   | exact LeO.none _
   | refine LeO.ite ?_ ?_
   | refine LeO.bind ?_ (fun _ => ?_)
  ·intro y0 y1 y2
   unfold skiffref1_FreePlace.l0
   repeat' first
   | (with_reducible exact ih0 _ _ _)
   | (with_reducible exact ih1 _ _ _)
   | (with_reducible exact LeO.refl _)
   | (with_reducible exact LeO.none _)
   | (with_reducible refine LeO.ite ?_ ?_)
   | (with_reducible refine LeO.bind ?_ (fun _ => ?_))
   | exact ih0 _ _ _
   | exact ih1 _ _ _
   | exact LeO.none _
   | refine LeO.ite ?_ ?_
   | refine LeO.bind ?_ (fun _ => ?_)
theorem skiffref1_FreePlace.mono : ∀ a0 a1 k, LeO (skiffref1_FreePlace.f k a0 a1) (skiffref1_FreePlace.f (k + 1) a0 a1) := by
 intro a0 a1 k
 obtain ⟨ih0, ih1⟩ := skiffref1_FreePlace.mono_l k
 unfold skiffref1_FreePlace.f
 repeat' first
   | (with_reducible exact ih0 _ _ _)
   | (with_reducible exact ih1 _ _ _)
   | (with_reducible exact LeO.refl _)
   | (with_reducible exact LeO.none _)
   | (with_reducible refine LeO.ite ?_ ?_)
   | (with_reducible refine LeO.bind ?_ (fun _ => ?_))
   | exact ih0 _ _ _
   | exact ih1 _ _ _
   | exact LeO.none _
   | refine LeO.ite ?_ ?_
   | refine LeO.bind ?_ (fun _ => ?_)
set_option maxHeartbeats 8000000 in
set_option maxRecDepth 100000 in
theorem skiffref1_FreePlace.calls (k : Nat) (a0 : ByteArray) (a1 : Int) (r1 : Int) (r2 : Bool) (r3 : Int) (w : World) (h : skiffref1_FreePlace.f k a0 a1 = some (r1, r2, r3)) :
  Calls Try.prog 67 #[.string a0, .int .i64 a1] w fun e w' => e = .returned (.tuple #[.int .i64 r1, .bool r2, .int .i64 r3]) ∧ Below w.heap.size w w' := by
 have HB := Aside0.mk (Below.refl w.heap.size w)
 have H : ((skiffref1_FlashMay.f a0).bind fun t364 => (if t364 = true then ((skiffref1_upTo.f a1 0 1).bind fun t365 => (skiffref1_FreePlace.j0 k a0 a1 (!t365))) else (skiffref1_FreePlace.j0 k a0 a1 true))) = some (r1, r2, r3) := h
 clear h
 have HC3 := Aside0.mk H
 clear H
 go_enter Try.func67, Try.ntmps67
 go_upto_region 1 with (fail)
 go_cut [15] (fun v15 wc => ∃ (kq : Nat) (x15_2 : Bool), v15 = .bool x15_2 ∧ Aside0 (skiffref1_FreePlace.j0 kq a0 a1 x15_2 = some (r1, r2, r3)) ∧ Aside0 (kq ≤ k) ∧ Aside0 (Below w.heap.size w wc))
 case first =>
  have H := HC3.out
  clear HC3
  replace H := Option.bind_eq_some_iff.mp H
  obtain ⟨t364, A40, H⟩ := H
  replace H : (if t364 = true then ((skiffref1_upTo.f a1 0 1).bind fun t365 => (skiffref1_FreePlace.j0 k a0 a1 (!t365))) else (skiffref1_FreePlace.j0 k a0 a1 true)) = some (r1, r2, r3) := H
  have A4 := Aside0.mk A40
  clear A40
  by_cases c5 : t364 = true
  case neg =>
   replace c5 := Bool.eq_false_iff.mpr c5
   subst c5
   have H1 : (skiffref1_FreePlace.j0 k a0 a1 true) = some (r1, r2, r3) := by rw [if_neg (show ¬ (false = true) by decide)] at H; exact H
   clear H; have H := H1; clear H1
   have H' := Aside0.mk H
   clear H
   go_wp2_with (first | ((with_reducible refine gate_callee (f := 43) rfl ?_); refine goesL_ (some 9) rfl rfl Try.func43 (by kernel_rfl) rfl #[.string a0] rfl ka ?_; (with_reducible refine (skiffref1_FlashMay.calls a0 false _ A4.out).mono ?_); rintro e w' ⟨rfl, ⟨nd, rfl⟩⟩; refine ⟨_, rfl, ?_⟩))
   go_meet
   case rel => exact ⟨_, (true), (by first | rfl | (simp; done) | (simp [*]; done)), H', ⟨by first | omega | exact Nat.le_refl _⟩, ⟨kb HB.out⟩⟩
  subst c5
  have H1 : ((skiffref1_upTo.f a1 0 1).bind fun t365 => (skiffref1_FreePlace.j0 k a0 a1 (!t365))) = some (r1, r2, r3) := by rw [if_pos rfl] at H; exact H
  clear H; have H := H1; clear H1
  replace H := Option.bind_eq_some_iff.mp H
  obtain ⟨t365, A60, H⟩ := H
  replace H : (skiffref1_FreePlace.j0 k a0 a1 (!t365)) = some (r1, r2, r3) := H
  have A6 := Aside0.mk A60
  clear A60
  have H' := Aside0.mk H
  clear H
  go_wp2_with (first | ((with_reducible refine gate_callee (f := 43) rfl ?_); refine goesL_ (some 9) rfl rfl Try.func43 (by kernel_rfl) rfl #[.string a0] rfl ka ?_; (with_reducible refine (skiffref1_FlashMay.calls a0 true _ A4.out).mono ?_); rintro e w' ⟨rfl, ⟨nd, rfl⟩⟩; refine ⟨_, rfl, ?_⟩) | (go_at_call 45; (with_reducible refine (skiffref1_upTo.calls a1 0 1 t365 _ A6.out).mono ?_); rintro e w' ⟨rfl, ⟨nd, rfl⟩⟩))
  go_meet
  case rel => exact ⟨_, (!t365), (by first | rfl | (simp; done) | (simp [*]; done)), H', ⟨by first | omega | exact Nat.le_refl _⟩, ⟨kb HB.out⟩⟩
 case rest =>
  clear HC3
  try clear p2; try clear c4; try clear c5; try clear c6
  obtain ⟨kq, x15_2, rfl, HA, HJ2, HB⟩ := hcut
  cases kq with
  | zero => exact absurd HA.out (by simp [skiffref1_FreePlace.j0])
  | succ kj2 =>
   have H := HA.out
   clear HA
   simp only [skiffref1_FreePlace.j0] at H
   by_cases c7 : x15_2 = true
   ·subst c7
    have H1 : (some (0, false, 500)) = some (r1, r2, r3) := by rw [if_pos rfl] at H; exact H
    clear H; have H := H1; clear H1
    simp only [Option.some.injEq, Prod.mk.injEq] at H
    obtain ⟨rfl, rfl, rfl⟩ := H
    go_wp2
    go_ret3
    exact ⟨by first | rfl | (simp [errW_none, errW_some] <;> rfl) | (simp [*, errW_none, errW_some] <;> rfl), kb HB.out⟩
   ·replace c7 := Bool.eq_false_iff.mpr c7
    subst c7
    have H1 : (skiffref1_FreePlace.l0 kj2 a0 a1 (wrap64 (a1 * 96))) = some (r1, r2, r3) := by rw [if_neg (show ¬ (false = true) by decide)] at H; exact H
    clear H; have H := H1; clear H1
    have H' := Aside0.mk H
    clear H
    go_wp2
    go_loopg [7] kj2 (fun kq v7 w' => ∃ (x7_2 : Int), v7 = .int .i64 x7_2 ∧ Aside0 (skiffref1_FreePlace.l0 kq a0 a1 x7_2 = some (r1, r2, r3)) ∧ Aside0 (kq ≤ kj2) ∧ Aside0 (Below w.heap.size w w'))
    case atStart => exact ⟨(wrap64 (a1 * 96)), (by first | rfl | (simp; done) | (simp [*]; done)), H', ⟨Nat.le_refl _⟩, ⟨kb HB.out⟩⟩
    case round =>
     clear H'
     try clear p2; try clear c4; try clear c5; try clear c6; try clear p6; try clear c7; try clear p2
     obtain ⟨x7_2, rfl, HA, HK2, HB⟩ := hrel
     cases gk with
     | zero => exact absurd HA.out (by simp [skiffref1_FreePlace.l0])
     | succ k2 =>
      have H := HA.out
      clear HA
      simp only [skiffref1_FreePlace.l0] at H
      by_cases c8 : (wrap64 (x7_2 + 24)) ≤ (wrap64 ((wrap64 (a1 + 1)) * 96))
      case neg =>
       rw [if_neg c8] at H
       have c8b0 : decide ((wrap64 (x7_2 + 24)) ≤ (wrap64 ((wrap64 (a1 + 1)) * 96))) = false := decide_eq_false c8
       clear c8
       simp only [Option.some.injEq, Prod.mk.injEq] at H
       obtain ⟨rfl, rfl, rfl⟩ := H
       go_wp2
       go_ret3
       exact ⟨by first | rfl | (simp [errW_none, errW_some] <;> rfl) | (simp [*, errW_none, errW_some] <;> rfl), kb HB.out⟩
      rw [if_pos c8] at H
      have c8b0 : decide ((wrap64 (x7_2 + 24)) ≤ (wrap64 ((wrap64 (a1 + 1)) * 96))) = true := decide_eq_true c8
      clear c8
      by_cases c9 : 0 ≤ x7_2
      case neg =>
       rw [if_neg c9] at H
       exact absurd H (by simp)
      rw [if_pos c9] at H
      have c9b0 := eq_true c9
      have c9b1 : decide (0 ≤ x7_2) = true := decide_eq_true c9
      clear c9
      by_cases c10 : x7_2 ≤ (wrap64 (x7_2 + 24))
      case neg =>
       rw [if_neg c10] at H
       exact absurd H (by simp)
      rw [if_pos c10] at H
      have c10b0 := eq_true c10
      have c10b1 : decide (x7_2 ≤ (wrap64 (x7_2 + 24))) = true := decide_eq_true c10
      by_cases c11 : (wrap64 (x7_2 + 24)) ≤ (a0.size : Int)
      case neg =>
       rw [if_neg c11] at H
       exact absurd H (by simp)
      rw [if_pos c11] at H
      have c11b0 := eq_true c11
      have c11b1 : decide ((wrap64 (x7_2 + 24)) ≤ (a0.size : Int)) = true := decide_eq_true c11
      replace H := Option.bind_eq_some_iff.mp H
      obtain ⟨t366, A120, H⟩ := H
      replace H : (if (a0.extract (x7_2 : Int).toNat ((wrap64 (x7_2 + 24)) : Int).toNat).toList = t366.toList then (some (x7_2, true, 0)) else (skiffref1_FreePlace.l0 k2 a0 a1 (wrap64 (x7_2 + 24)))) = some (r1, r2, r3) := H
      have A12 := Aside0.mk A120
      clear A120
      by_cases c13 : (a0.extract (x7_2 : Int).toNat ((wrap64 (x7_2 + 24)) : Int).toNat).toList = t366.toList
      ·rw [if_pos c13] at H
       have c13b0 : ((a0.extract (x7_2 : Int).toNat ((wrap64 (x7_2 + 24)) : Int).toNat).toList == t366.toList) = true := beq_iff_eq.mpr c13
       have c13b1 : ((a0.extract (x7_2 : Int).toNat ((wrap64 (x7_2 + 24)) : Int).toNat).toList != t366.toList) = false := bne_eq_false_iff_eq.mpr c13
       clear c13
       simp only [Option.some.injEq, Prod.mk.injEq] at H
       obtain ⟨rfl, rfl, rfl⟩ := H
       try go_wp2
       have n0_ := Aside0.mk (below_drew1 HB.out)
       clear HB; have HB := n0_; clear n0_
       refine start_ (n := 7) (S := fun w' => True) (ds := []) #[false, false, false, false, false, false, false] (by kernel_rfl) rfl rfl trivial (fun hHeld => ?_)
       generalize wr.drew = w14 at HB hHeld ⊢
       refine pure_ (i := 0) (N := some 26) (v := ?_) (a' := ?_) #[true, false, false, false, false, false, false] rfl rfl (by kernel_rfl) (fun _ _ _ h => h) (Or.inl ⟨by rfl, ?_⟩) ?_ ?_
       rotate_left
       ·intro w'
        go_simp
        with_reducible rfl
       rotate_left
       ·simp only [Act.put, List.setIfInBounds_toArray, List.set_cons_zero, List.set_cons_succ, i64_w, i32_w]
        rfl
       refine pure_ (i := 1) (N := some 27) (v := ?_) (a' := ?_) #[true, true, false, false, false, false, false] rfl rfl (by kernel_rfl) (fun _ _ _ h => h) (Or.inl ⟨by rfl, ?_⟩) ?_ ?_
       rotate_left
       ·intro w'
        go_simp
        with_reducible rfl
       rotate_left
       ·simp only [Act.put, List.setIfInBounds_toArray, List.set_cons_zero, List.set_cons_succ, i64_w, i32_w]
        rfl
       refine pure_ (i := 2) (N := some 28) (v := ?_) (a' := ?_) #[true, true, true, false, false, false, false] rfl rfl (by kernel_rfl) (fun _ _ _ h => h) (Or.inl ⟨by rfl, ?_⟩) ?_ ?_
       rotate_left
       ·intro w'
        go_simp
        with_reducible rfl
       rotate_left
       ·simp only [Act.put, List.setIfInBounds_toArray, List.set_cons_zero, List.set_cons_succ, i64_w, i32_w]
        rfl
       refine pure_ (i := 3) (N := some 29) (v := ?_) (a' := ?_) #[true, true, true, true, false, false, false] rfl rfl (by kernel_rfl) (fun _ _ _ h => h) (Or.inl ⟨by rfl, ?_⟩) ?_ ?_
       rotate_left
       ·intro w'
        go_simp
        with_reducible rfl
       rotate_left
       ·simp only [Act.put, List.setIfInBounds_toArray, List.set_cons_zero, List.set_cons_succ, i64_w, i32_w]
        rfl
       refine pure_ (i := 4) (N := some 30) (v := ?_) (a' := ?_) #[true, true, true, true, true, false, false] rfl rfl (by kernel_rfl) (fun _ _ _ h => h) (Or.inl ⟨by rfl, ?_⟩) ?_ ?_
       rotate_left
       ·intro w'
        go_simp
        with_reducible rfl
       rotate_left
       ·simp only [Act.put, List.setIfInBounds_toArray, List.set_cons_zero, List.set_cons_succ, i64_w, i32_w]
        rfl
       refine one_ (i := 5) (N := some 31) #[true, true, true, true, true, true, false] rfl rfl (by kernel_rfl) (by decide) (fun K hK => ?_)
       refine goes_ Try.func62 (by kernel_rfl) rfl #[.int .i64 24] (by rfl) rfl rfl ka ?_
       with_reducible refine (skiffref1_full.calls 24 t366 _ A12.out).mono ?_
       rintro e w15 ⟨rfl, hb⟩
       refine ⟨_, rfl, ?_⟩
       have n0_ := Aside0.mk (below_step (kb HB.out) hb)
       clear HB; have HB := n0_; clear n0_
       (try clear hb)
       (try clear hb2)
       (try clear hk)
       (try clear hi)
       refine hK.out _ _ trivial (fun hHeld => ?_)
       clear hK K
       refine norm_ (a' := ?_) ?_ ?_
       rotate_left
       ·show Act.put _ (some 31) _ = _
        simp only [Act.put, List.setIfInBounds_toArray, List.set_cons_zero, List.set_cons_succ, i64_w, i32_w]
        rfl
       refine pure_ (i := 6) (N := some 32) (v := ?_) (a' := ?_) #[true, true, true, true, true, true, true] rfl rfl (by kernel_rfl) (fun _ _ _ h => h) (Or.inl ⟨by rfl, ?_⟩) ?_ ?_
       rotate_left
       ·intro w'
        go_simp
        with_reducible rfl
       rotate_left
       ·simp only [Act.put, List.setIfInBounds_toArray, List.set_cons_zero, List.set_cons_succ, i64_w, i32_w]
        rfl
       refine done_ (by kernel_rfl) ?_
       try go_wp2
       go_ret3
       exact ⟨by first | rfl | (simp [errW_none, errW_some] <;> rfl) | (simp [*, errW_none, errW_some] <;> rfl), kb HB.out⟩
      ·rw [if_neg c13] at H
       have c13b0 : ((a0.extract (x7_2 : Int).toNat ((wrap64 (x7_2 + 24)) : Int).toNat).toList == t366.toList) = false := beq_eq_false_iff_ne.mpr c13
       have c13b1 : ((a0.extract (x7_2 : Int).toNat ((wrap64 (x7_2 + 24)) : Int).toNat).toList != t366.toList) = true := bne_iff_ne.mpr c13
       have H' := Aside0.mk H
       clear H
       try go_wp2
       have n0_ := Aside0.mk (below_drew1 HB.out)
       clear HB; have HB := n0_; clear n0_
       refine start_ (n := 7) (S := fun w' => True) (ds := []) #[false, false, false, false, false, false, false] (by kernel_rfl) rfl rfl trivial (fun hHeld => ?_)
       generalize wr.drew = w16 at HB hHeld ⊢
       refine pure_ (i := 0) (N := some 26) (v := ?_) (a' := ?_) #[true, false, false, false, false, false, false] rfl rfl (by kernel_rfl) (fun _ _ _ h => h) (Or.inl ⟨by rfl, ?_⟩) ?_ ?_
       rotate_left
       ·intro w'
        go_simp
        with_reducible rfl
       rotate_left
       ·simp only [Act.put, List.setIfInBounds_toArray, List.set_cons_zero, List.set_cons_succ, i64_w, i32_w]
        rfl
       refine pure_ (i := 1) (N := some 27) (v := ?_) (a' := ?_) #[true, true, false, false, false, false, false] rfl rfl (by kernel_rfl) (fun _ _ _ h => h) (Or.inl ⟨by rfl, ?_⟩) ?_ ?_
       rotate_left
       ·intro w'
        go_simp
        with_reducible rfl
       rotate_left
       ·simp only [Act.put, List.setIfInBounds_toArray, List.set_cons_zero, List.set_cons_succ, i64_w, i32_w]
        rfl
       refine pure_ (i := 2) (N := some 28) (v := ?_) (a' := ?_) #[true, true, true, false, false, false, false] rfl rfl (by kernel_rfl) (fun _ _ _ h => h) (Or.inl ⟨by rfl, ?_⟩) ?_ ?_
       rotate_left
       ·intro w'
        go_simp
        with_reducible rfl
       rotate_left
       ·simp only [Act.put, List.setIfInBounds_toArray, List.set_cons_zero, List.set_cons_succ, i64_w, i32_w]
        rfl
       refine pure_ (i := 3) (N := some 29) (v := ?_) (a' := ?_) #[true, true, true, true, false, false, false] rfl rfl (by kernel_rfl) (fun _ _ _ h => h) (Or.inl ⟨by rfl, ?_⟩) ?_ ?_
       rotate_left
       ·intro w'
        go_simp
        with_reducible rfl
       rotate_left
       ·simp only [Act.put, List.setIfInBounds_toArray, List.set_cons_zero, List.set_cons_succ, i64_w, i32_w]
        rfl
       refine pure_ (i := 4) (N := some 30) (v := ?_) (a' := ?_) #[true, true, true, true, true, false, false] rfl rfl (by kernel_rfl) (fun _ _ _ h => h) (Or.inl ⟨by rfl, ?_⟩) ?_ ?_
       rotate_left
       ·intro w'
        go_simp
        with_reducible rfl
       rotate_left
       ·simp only [Act.put, List.setIfInBounds_toArray, List.set_cons_zero, List.set_cons_succ, i64_w, i32_w]
        rfl
       refine one_ (i := 5) (N := some 31) #[true, true, true, true, true, true, false] rfl rfl (by kernel_rfl) (by decide) (fun K hK => ?_)
       refine goes_ Try.func62 (by kernel_rfl) rfl #[.int .i64 24] (by rfl) rfl rfl ka ?_
       with_reducible refine (skiffref1_full.calls 24 t366 _ A12.out).mono ?_
       rintro e w17 ⟨rfl, hb⟩
       refine ⟨_, rfl, ?_⟩
       have n0_ := Aside0.mk (below_step (kb HB.out) hb)
       clear HB; have HB := n0_; clear n0_
       (try clear hb)
       (try clear hb2)
       (try clear hk)
       (try clear hi)
       refine hK.out _ _ trivial (fun hHeld => ?_)
       clear hK K
       refine norm_ (a' := ?_) ?_ ?_
       rotate_left
       ·show Act.put _ (some 31) _ = _
        simp only [Act.put, List.setIfInBounds_toArray, List.set_cons_zero, List.set_cons_succ, i64_w, i32_w]
        rfl
       refine pure_ (i := 6) (N := some 32) (v := ?_) (a' := ?_) #[true, true, true, true, true, true, true] rfl rfl (by kernel_rfl) (fun _ _ _ h => h) (Or.inl ⟨by rfl, ?_⟩) ?_ ?_
       rotate_left
       ·intro w'
        go_simp
        with_reducible rfl
       rotate_left
       ·simp only [Act.put, List.setIfInBounds_toArray, List.set_cons_zero, List.set_cons_succ, i64_w, i32_w]
        rfl
       refine done_ (by kernel_rfl) ?_
       try go_wp2
       go_roundg k2
       case measure => have := HJ2.out; have := HK2.out; omega
       case rel => exact ⟨(wrap64 (x7_2 + 24)), (by first | rfl | (simp; done) | (simp [*]; done)), H', ⟨by have := HJ2.out; have := HK2.out; omega⟩, ⟨kb HB.out⟩⟩

/-! ### skiffref1_Append: function 40 -/
mutual
def skiffref1_Append.j0 : Nat → ByteArray → ByteArray → Bool → Option ((List (S68)) × Int)
 | 0, _, _, _ => none
 | k + 1, x0, x6, x27 => if x27 = true then (some (([] : List (S68)), 800)) else ((skiffref1_Active.f k x0).bind fun bt371 => (if bt371.2.2.2.2.2 = 0 then (skiffref1_Append.j1 k x0 x6 (wrap64 (Int.tdiv bt371.1 96))) else (skiffref1_Append.j1 k x0 x6 0)))
def skiffref1_Append.j1 : Nat → ByteArray → ByteArray → Int → Option ((List (S68)) × Int)
 | 0, _, _, _ => none
 | k + 1, x0, x6, x8 => (skiffref1_FreePlace.f k x0 x8).bind fun bt378 => (if bt378.2.1 = true then ((skiffref1_Words.f k bt378.1 x6).bind fun bt381 => (if ([] : List (S68)).length + bt381.1.length < 4398046511104 then (some ((([] : List (S68)) ++ bt381.1), 0)) else (none))) else (if ([] : List (S68)).length < 4398046511104 then ((some (([] : List (S68)) ++ [(⟨true, wrap64 ((wrap64 (1 - x8)) * 96), (⟨#[]⟩ : ByteArray)⟩ : S68)] : List (S68))).bind fun y388 => ((skiffref1_Words.f k (wrap64 ((wrap64 (1 - x8)) * 96)) x6).bind fun bt391 => (if y388.length + bt391.1.length < 4398046511104 then (some ((y388 ++ bt391.1), 0)) else (none)))) else (none)))
end
def skiffref1_Append.f (k : Nat) (a0 : ByteArray) (a1_0 : Int) (a1_1 : Int) (a1_2 : Int) (a1_3 : Int) : Option ((List (S68)) × Int) := (skiffref1_PutEntry.f a1_0 a1_1 a1_2 a1_3).bind fun bt368 => ((skiffref1_FlashMay.f a0).bind fun t370 => (if t370 = true then (skiffref1_Append.j0 k a0 bt368.1 (bt368.2 != 0)) else (skiffref1_Append.j0 k a0 bt368.1 true)))
theorem skiffref1_Append.mono_l : ∀ k, (∀ y0 y1 y2, LeO (skiffref1_Append.j0 k y0 y1 y2) (skiffref1_Append.j0 (k + 1) y0 y1 y2)) ∧ (∀ y0 y1 y2, LeO (skiffref1_Append.j1 k y0 y1 y2) (skiffref1_Append.j1 (k + 1) y0 y1 y2))
 | 0 => ⟨fun _ _ _ r h => by simp [skiffref1_Append.j0] at h, fun _ _ _ r h => by simp [skiffref1_Append.j1] at h⟩
 | k + 1 => by
  obtain ⟨ih0, ih1⟩ := skiffref1_Append.mono_l k
  refine ⟨?_, ?_⟩
  ·intro y0 y1 y2
   unfold skiffref1_Append.j0
   repeat' first
   | (with_reducible exact ih0 _ _ _)
   | (with_reducible exact ih1 _ _ _)
   | (with_reducible exact skiffref1_Active.mono _ _)
   | (with_reducible exact skiffref1_FreePlace.mono _ _ _)
   | (with_reducible exact skiffref1_Words.mono _ _ _)
   | (with_reducible exact LeO.refl _)
   | (with_reducible exact LeO.none _)
   | (with_reducible refine LeO.ite ?_ ?_)
   | (with_reducible refine LeO.bind ?_ (fun _ => ?_))
   | exact ih0 _ _ _
   | exact ih1 _ _ _
   | exact skiffref1_Active.mono _ _
   | exact skiffref1_FreePlace.mono _ _ _
   | exact skiffref1_Words.mono _ _ _
   | exact LeO.none _
   | refine LeO.ite ?_ ?_
   | refine LeO.bind ?_ (fun _ => ?_)
  ·intro y0 y1 y2
   unfold skiffref1_Append.j1
   repeat' first
   | (with_reducible exact ih0 _ _ _)
   | (with_reducible exact ih1 _ _ _)
   | (with_reducible exact skiffref1_Active.mono _ _)
   | (with_reducible exact skiffref1_FreePlace.mono _ _ _)
   | (with_reducible exact skiffref1_Words.mono _ _ _)
   | (with_reducible exact LeO.refl _)
   | (with_reducible exact LeO.none _)
   | (with_reducible refine LeO.ite ?_ ?_)
   | (with_reducible refine LeO.bind ?_ (fun _ => ?_))
   | exact ih0 _ _ _
   | exact ih1 _ _ _
   | exact skiffref1_Active.mono _ _
   | exact skiffref1_FreePlace.mono _ _ _
   | exact skiffref1_Words.mono _ _ _
   | exact LeO.none _
   | refine LeO.ite ?_ ?_
   | refine LeO.bind ?_ (fun _ => ?_)
theorem skiffref1_Append.mono : ∀ a0 a1 a2 a3 a4 k, LeO (skiffref1_Append.f k a0 a1 a2 a3 a4) (skiffref1_Append.f (k + 1) a0 a1 a2 a3 a4) := by
 intro a0 a1 a2 a3 a4 k
 obtain ⟨ih0, ih1⟩ := skiffref1_Append.mono_l k
 unfold skiffref1_Append.f
 repeat' first
   | (with_reducible exact ih0 _ _ _)
   | (with_reducible exact ih1 _ _ _)
   | (with_reducible exact skiffref1_Active.mono _ _)
   | (with_reducible exact skiffref1_FreePlace.mono _ _ _)
   | (with_reducible exact skiffref1_Words.mono _ _ _)
   | (with_reducible exact LeO.refl _)
   | (with_reducible exact LeO.none _)
   | (with_reducible refine LeO.ite ?_ ?_)
   | (with_reducible refine LeO.bind ?_ (fun _ => ?_))
   | exact ih0 _ _ _
   | exact ih1 _ _ _
   | exact skiffref1_Active.mono _ _
   | exact skiffref1_FreePlace.mono _ _ _
   | exact skiffref1_Words.mono _ _ _
   | exact LeO.none _
   | refine LeO.ite ?_ ?_
   | refine LeO.bind ?_ (fun _ => ?_)
set_option maxHeartbeats 8000000 in
set_option maxRecDepth 100000 in
theorem skiffref1_Append.calls (k : Nat) (a0 : ByteArray) (a1_0 : Int) (a1_1 : Int) (a1_2 : Int) (a1_3 : Int) (r1 : List (S68)) (r2 : Int) (w : World) (h : skiffref1_Append.f k a0 a1_0 a1_1 a1_2 a1_3 = some (r1, r2)) :
  Calls Try.prog 40 #[.string a0, .agg #[.int .i64 a1_0, .int .i64 a1_1, .int .i64 a1_2, .int .i64 a1_3]] w fun e w' => ∃ v0_ : Value, e = .returned (.tuple #[v0_, .int .i64 r2]) ∧ Kd.R k68 68 w' w.heap.size (fun _ => True) v0_ r1 ∧ Below w.heap.size w w' := by
 have hu41 := Try.underlying41
 have hu43 := Try.underlying43
 have hu68 := Try.underlying68
 have HB := Aside0.mk (Below.refl w.heap.size w)
 have H : ((skiffref1_PutEntry.f a1_0 a1_1 a1_2 a1_3).bind fun bt368 => ((skiffref1_FlashMay.f a0).bind fun t370 => (if t370 = true then (skiffref1_Append.j0 k a0 bt368.1 (bt368.2 != 0)) else (skiffref1_Append.j0 k a0 bt368.1 true)))) = some (r1, r2) := h
 clear h
 replace H := Option.bind_eq_some_iff.mp H
 obtain ⟨⟨t368, t369⟩, A30, H⟩ := H
 replace H : ((skiffref1_FlashMay.f a0).bind fun t370 => (if t370 = true then (skiffref1_Append.j0 k a0 t368 (t369 != 0)) else (skiffref1_Append.j0 k a0 t368 true))) = some (r1, r2) := H
 have A3 := Aside0.mk A30
 clear A30
 have HC4 := Aside0.mk H
 clear H
 go_enter Try.func40, Try.ntmps40
 go_upto_region 2 with (first | ((with_reducible refine gate_dst (N := 3) rfl ?_); refine box_event ?hg (N := 3) ?hd (cs := #[.int .i64 a1_0, .int .i64 a1_1, .int .i64 a1_2, .int .i64 a1_3]) (t := 41) ?hr ?_; (case hd => rfl); (case hg => rfl); (case hr => first | (go_simp; done) | (go_simp; rfl)); intro gb367 hg w5 hbox hb; have n0_ := Aside0.mk (below_step (kb HB.out) hb); have n1_ := Aside0.mk (hbox); have n2_ := Aside0.mk ((kz hg (below_size (kb HB.out)) : w.heap.size ≤ gb367)); have n3_ := Aside0.mk ((kz hg (below_size (kb HB.out)) : w.heap.size ≤ gb367)); clear HB; have HB := n0_; have BK367 := n1_; have GW367 := n2_; have GE367 := n3_; clear n0_ n1_ n2_ n3_; clear hb hbox hg; obtain ⟨hcz6_0, hcz6_1, hcz6_2, hcz6_3⟩ := kc4 BK367.out; obtain ⟨hfz6_0, hfz6_1, hfz6_2, hfz6_3⟩ := kf4 BK367.out) | ((with_reducible refine gate_callee (f := 66) rfl ?_); refine goesL_ (some 18) rfl rfl Try.func66 (by kernel_rfl) rfl #[.agg #[.int .i64 a1_0, .int .i64 a1_1, .int .i64 a1_2, .int .i64 a1_3]] rfl ka ?_; (with_reducible refine (skiffref1_PutEntry.calls a1_0 a1_1 a1_2 a1_3 t368 t369 _ A3.out).mono ?_); rintro e w7 ⟨rfl, hb⟩; refine ⟨_, rfl, ?_⟩; have n0_ := Aside0.mk (kL BK367.out hb); have n1_ := Aside0.mk (below_step (kb1 HB.out GE367.out) hb); clear BK367; clear HB; have BK367 := n0_; have HB := n1_; clear n0_ n1_; (try clear hb); (try clear hb2); (try clear hk); (try clear hi)))
 (try simp only [Act.put, List.setIfInBounds_toArray, List.set_cons_zero, List.set_cons_succ])
 go_cut [27] (fun v27 wc => ∃ (kq : Nat) (x27_3 : Bool), v27 = .bool x27_3 ∧ Aside0 (skiffref1_Append.j0 kq a0 t368 x27_3 = some (r1, r2)) ∧ Aside0 (kq ≤ k) ∧ Aside0 (wc.heap[gb367]? = some (.cells #[.int .i64 a1_0, .int .i64 a1_1, .int .i64 a1_2, .int .i64 a1_3] 41 (0, 0))) ∧ Aside0 (Below w.heap.size w wc))
 case first =>
  have H := HC4.out
  clear HC4
  replace H := Option.bind_eq_some_iff.mp H
  obtain ⟨t370, A80, H⟩ := H
  replace H : (if t370 = true then (skiffref1_Append.j0 k a0 t368 (t369 != 0)) else (skiffref1_Append.j0 k a0 t368 true)) = some (r1, r2) := H
  have A8 := Aside0.mk A80
  clear A80
  by_cases c9 : t370 = true
  case neg =>
   replace c9 := Bool.eq_false_iff.mpr c9
   subst c9
   have H1 : (skiffref1_Append.j0 k a0 t368 true) = some (r1, r2) := by rw [if_neg (show ¬ (false = true) by decide)] at H; exact H
   clear H; have H := H1; clear H1
   have H' := Aside0.mk H
   clear H
   go_wp2_with (first | ((with_reducible refine gate_callee (f := 43) rfl ?_); refine goesL_ (some 22) rfl rfl Try.func43 (by kernel_rfl) rfl #[.string a0] rfl ka ?_; (with_reducible refine (skiffref1_FlashMay.calls a0 false _ A8.out).mono ?_); rintro e w' ⟨rfl, ⟨nd, rfl⟩⟩; refine ⟨_, rfl, ?_⟩))
   go_meet
   case rel => exact ⟨_, (true), (by first | rfl | (simp; done) | (simp [*]; done)), H', ⟨by first | omega | exact Nat.le_refl _⟩, ⟨kB BK367.out⟩, ⟨kb1 HB.out GE367.out⟩⟩
  subst c9
  have H1 : (skiffref1_Append.j0 k a0 t368 (t369 != 0)) = some (r1, r2) := by rw [if_pos rfl] at H; exact H
  clear H; have H := H1; clear H1
  have H' := Aside0.mk H
  clear H
  go_wp2_with (first | ((with_reducible refine gate_callee (f := 43) rfl ?_); refine goesL_ (some 22) rfl rfl Try.func43 (by kernel_rfl) rfl #[.string a0] rfl ka ?_; (with_reducible refine (skiffref1_FlashMay.calls a0 true _ A8.out).mono ?_); rintro e w' ⟨rfl, ⟨nd, rfl⟩⟩; refine ⟨_, rfl, ?_⟩))
  go_meet
  case rel => exact ⟨_, ((t369 != 0)), (by first | rfl | (simp; done) | (simp [*]; done)), H', ⟨by first | omega | exact Nat.le_refl _⟩, ⟨kB BK367.out⟩, ⟨kb1 HB.out GE367.out⟩⟩
 case rest =>
  clear HC4
  try clear p2; try clear c4; try clear c6; try clear c9; try clear hcz6_0; try clear hcz6_1; try clear hcz6_2; try clear hcz6_3; try clear hfz6_0; try clear hfz6_1; try clear hfz6_2; try clear hfz6_3
  obtain ⟨kq, x27_3, rfl, HA, HJ3, BK367, HB⟩ := hcut
  cases kq with
  | zero => exact absurd HA.out (by simp [skiffref1_Append.j0])
  | succ kj3 =>
   have H := HA.out
   clear HA
   simp only [skiffref1_Append.j0] at H
   by_cases c10 : x27_3 = true
   ·subst c10
    have H1 : (some (([] : List (S68)), 800)) = some (r1, r2) := by rw [if_pos rfl] at H; exact H
    clear H; have H := H1; clear H1
    simp only [Option.some.injEq, Prod.mk.injEq] at H
    obtain ⟨rfl, rfl⟩ := H
    go_wp2
    go_ret2
    exact ⟨_, by first | rfl | (simp [errW_none, errW_some] <;> rfl) | (simp [*, errW_none, errW_some] <;> rfl), by first | exact Kd.R_nil _ _ _ _ _ | exact Kd.N_nil _ _ _ _ _ | exact Kd.V_nil _ _ _ _ _ | exact Kd.Q_nil _ _ _ _ _ | exact Kd.S_nil _ _ _ _ _, kb1 HB.out GE367.out⟩
   ·replace c10 := Bool.eq_false_iff.mpr c10
    subst c10
    have H1 : ((skiffref1_Active.f kj3 a0).bind fun bt371 => (if bt371.2.2.2.2.2 = 0 then (skiffref1_Append.j1 kj3 a0 t368 (wrap64 (Int.tdiv bt371.1 96))) else (skiffref1_Append.j1 kj3 a0 t368 0))) = some (r1, r2) := by rw [if_neg (show ¬ (false = true) by decide)] at H; exact H
    clear H; have H := H1; clear H1
    replace H := Option.bind_eq_some_iff.mp H
    obtain ⟨⟨t371, t372, t373, t374, t375, t376⟩, A110, H⟩ := H
    replace H : (if t376 = 0 then (skiffref1_Append.j1 kj3 a0 t368 (wrap64 (Int.tdiv t371 96))) else (skiffref1_Append.j1 kj3 a0 t368 0)) = some (r1, r2) := H
    have A11 := Aside0.mk A110
    clear A110
    have HC12 := Aside0.mk H
    clear H
    go_upto_if 34 with (first | ((with_reducible refine gate_callee (f := 17) rfl ?_); refine goesL_ (some 30) rfl rfl Try.func17 (by kernel_rfl) rfl #[.string a0] rfl ka ?_; (with_reducible refine (skiffref1_Active.calls kj3 a0 t371 t372 t373 t374 t375 t376 _ A11.out).mono ?_); rintro e w13 ⟨rfl, hb⟩; refine ⟨_, rfl, ?_⟩; have n0_ := Aside0.mk (kL BK367.out hb); have n1_ := Aside0.mk (below_step (kb1 HB.out GE367.out) hb); clear BK367; clear HB; have BK367 := n0_; have HB := n1_; clear n0_ n1_; (try clear hb); (try clear hb2); (try clear hk); (try clear hi)) | ((with_reducible refine gate_dst (N := 9) rfl ?_); refine box_event ?hg (N := 9) ?hd (cs := #[.int .i64 0, .int .i64 0, .int .i64 0, .int .i64 0, .int .i64 0]) (t := 43) ?hr ?_; (case hd => rfl); (case hg => rfl); (case hr => first | (go_simp; done) | (go_simp; rfl)); intro gb377 hg w14 hbox hb; have n0_ := Aside0.mk (kL BK367.out hb); have n1_ := Aside0.mk (below_step (kb1 HB.out GE367.out) hb); have n2_ := Aside0.mk (hbox); have n3_ := Aside0.mk ((kz hg (below_size (kb1 HB.out GE367.out)) : w.heap.size ≤ gb377)); have n4_ := Aside0.mk ((kz hg (below_size (kb1 HB.out GE367.out)) : w.heap.size ≤ gb377)); have n5_ := Aside0.mk ((kN hg BK367.out : gb367 ≠ gb377)); have n6_ := Aside0.mk (((kN hg BK367.out).symm : gb377 ≠ gb367)); clear BK367; clear HB; have BK367 := n0_; have HB := n1_; have BK377 := n2_; have GW377 := n3_; have GE377 := n4_; have NB367_377 := n5_; have NB377_367 := n6_; clear n0_ n1_ n2_ n3_ n4_ n5_ n6_; clear hb hbox hg; have hnb15 := NB377_367.out; have hnc15 := NB367_377.out; obtain ⟨hcz16_0, hcz16_1, hcz16_2, hcz16_3, hcz16_4⟩ := kc5 BK377.out; obtain ⟨hfz16_0, hfz16_1, hfz16_2, hfz16_3, hfz16_4⟩ := kf5 BK377.out))
    (try simp only [Act.put, List.setIfInBounds_toArray, List.set_cons_zero, List.set_cons_succ])
    go_cut [8] (fun v8 wc => ∃ (kq : Nat) (x8_11 : Int), v8 = .int .i64 x8_11 ∧ Aside0 (skiffref1_Append.j1 kq a0 t368 x8_11 = some (r1, r2)) ∧ Aside0 (kq ≤ kj3) ∧ Aside0 (wc.heap[gb367]? = some (.cells #[.int .i64 a1_0, .int .i64 a1_1, .int .i64 a1_2, .int .i64 a1_3] 41 (0, 0))) ∧ Aside0 (wc.heap[gb377]? = some (.cells #[.int .i64 t371, .int .i64 t372, .int .i64 t373, .int .i64 t374, .int .i64 t375] 43 (0, 0))) ∧ Aside0 (Below w.heap.size w wc))
    case first =>
     have H := HC12.out
     clear HC12
     by_cases c17 : t376 = 0
     case neg =>
      rw [if_neg c17] at H
      have c17b0 : (t376 == 0) = false := beq_eq_false_iff_ne.mpr c17
      have c17b1 : (t376 != 0) = true := bne_iff_ne.mpr c17
      (first | rw [c17b0] | rw [c17b1] | (simp only [i64_w, i32_w]; rw [c17b0]) | skip)
      have H' := Aside0.mk H
      clear H
      go_wp2
      go_meet
      case rel => exact ⟨_, (0), (by first | rfl | (simp; done) | (simp [*]; done)), H', ⟨by have := HJ3.out; first | omega | exact Nat.le_refl _⟩, ⟨kFa5 BK367.out NB367_377.out⟩, ⟨kP5 BK377.out⟩, ⟨kb2 HB.out GE367.out GE377.out⟩⟩
     rw [if_pos c17] at H
     have c17b0 : (t376 == 0) = true := beq_iff_eq.mpr c17
     have c17b1 : (t376 != 0) = false := bne_eq_false_iff_eq.mpr c17
     clear c17
     (first | rw [c17b0] | rw [c17b1] | (simp only [i64_w, i32_w]; rw [c17b0]) | skip)
     have H' := Aside0.mk H
     clear H
     have hnb18 := NB377_367.out
     have hnc18 := NB367_377.out
     obtain ⟨hcz19_0, hcz19_1, hcz19_2, hcz19_3, hcz19_4⟩ := kc5 BK377.out
     obtain ⟨hfz19_0, hfz19_1, hfz19_2, hfz19_3, hfz19_4⟩ := kf5 BK377.out
     go_wp2
     go_meet
     case rel => exact ⟨_, (wrap64 (Int.tdiv t371 96)), (by first | rfl | (simp; done) | (simp [*]; done)), H', ⟨by have := HJ3.out; first | omega | exact Nat.le_refl _⟩, ⟨kFa5 BK367.out NB367_377.out⟩, ⟨kP5 BK377.out⟩, ⟨kb2 HB.out GE367.out GE377.out⟩⟩
    case rest =>
     clear HC12
     try clear c1; try clear p2; try clear c4; try clear c6; try clear p6; try clear c9; try clear c10; try clear c15; try clear c17; try clear c17b0; try clear c17b1; try clear c18; try clear hcz16_0; try clear hcz16_1; try clear hcz16_2; try clear hcz16_3; try clear hcz16_4; try clear hcz19_0; try clear hcz19_1; try clear hcz19_2; try clear hcz19_3; try clear hcz19_4; try clear hcz6_0; try clear hcz6_1; try clear hcz6_2; try clear hcz6_3; try clear hfz16_0; try clear hfz16_1; try clear hfz16_2; try clear hfz16_3; try clear hfz16_4; try clear hfz19_0; try clear hfz19_1; try clear hfz19_2; try clear hfz19_3; try clear hfz19_4; try clear hfz6_0; try clear hfz6_1; try clear hfz6_2; try clear hfz6_3; try clear p2
     obtain ⟨kq, x8_11, rfl, HA, HJ11, BK367, BK377, HB⟩ := hcut
     cases kq with
     | zero => exact absurd HA.out (by simp [skiffref1_Append.j1])
     | succ kj11 =>
      have H := HA.out
      clear HA
      simp only [skiffref1_Append.j1] at H
      replace H := Option.bind_eq_some_iff.mp H
      obtain ⟨⟨t378, t379, t380⟩, A200, H⟩ := H
      replace H : (if t379 = true then ((skiffref1_Words.f kj11 t378 t368).bind fun bt381 => (if ([] : List (S68)).length + bt381.1.length < 4398046511104 then (some ((([] : List (S68)) ++ bt381.1), 0)) else (none))) else (if ([] : List (S68)).length < 4398046511104 then ((some (([] : List (S68)) ++ [(⟨true, wrap64 ((wrap64 (1 - x8_11)) * 96), (⟨#[]⟩ : ByteArray)⟩ : S68)] : List (S68))).bind fun y388 => ((skiffref1_Words.f kj11 (wrap64 ((wrap64 (1 - x8_11)) * 96)) t368).bind fun bt391 => (if y388.length + bt391.1.length < 4398046511104 then (some ((y388 ++ bt391.1), 0)) else (none)))) else (none))) = some (r1, r2) := H
      have A20 := Aside0.mk A200
      clear A200
      by_cases c21 : t379 = true
      ·subst c21
       have H1 : ((skiffref1_Words.f kj11 t378 t368).bind fun bt381 => (if ([] : List (S68)).length + bt381.1.length < 4398046511104 then (some ((([] : List (S68)) ++ bt381.1), 0)) else (none))) = some (r1, r2) := by rw [if_pos rfl] at H; exact H
       clear H; have H := H1; clear H1
       replace H := Option.bind_eq_some_iff.mp H
       obtain ⟨⟨t381, t382⟩, A220, H⟩ := H
       replace H : (if ([] : List (S68)).length + t381.length < 4398046511104 then (some ((([] : List (S68)) ++ t381), 0)) else (none)) = some (r1, r2) := H
       have A22 := Aside0.mk A220
       clear A220
       by_cases c23 : ([] : List (S68)).length + t381.length < 4398046511104
       case neg =>
        rw [if_neg c23] at H
        exact absurd H (by simp)
       rw [if_pos c23] at H
       have LMc23 := Aside0.mk c23
       clear c23
       obtain ⟨y385, hy385⟩ : ∃ y_ : List (S68), y_ = (([] : List (S68)) ++ t381) := ⟨_, rfl⟩
       replace H : (some (y385, 0)) = some (r1, r2) := by first | (rw [hy385]; with_reducible exact H) | (have H2_ := (Option.bind_some _ _).symm.trans H; rw [hy385]; with_reducible exact H2_) | (have H2_ := (Option.bind_some _ _).symm.trans H; with_reducible exact H2_) | with_reducible exact H | (rw [hy385]; exact H) | exact H
       have Ny385 := Aside0.mk hy385
       clear hy385
       simp only [Option.some.injEq, Prod.mk.injEq] at H
       obtain ⟨rfl, rfl⟩ := H
       go_wp2_with (first | ((with_reducible refine gate_callee (f := 67) rfl ?_); refine goesL_ (some 41) rfl rfl Try.func67 (by kernel_rfl) rfl #[.string a0, .int .i64 x8_11] rfl ka ?_; (with_reducible refine (skiffref1_FreePlace.calls kj11 a0 x8_11 t378 true t380 _ A20.out).mono ?_); rintro e w24 ⟨rfl, hb⟩; refine ⟨_, rfl, ?_⟩; have n0_ := Aside0.mk (kL BK367.out hb); have n1_ := Aside0.mk (kL BK377.out hb); have n2_ := Aside0.mk (below_step (kb2 HB.out GE367.out GE377.out) hb); clear BK367; clear BK377; clear HB; have BK367 := n0_; have BK377 := n1_; have HB := n2_; clear n0_ n1_ n2_; (try clear hb); (try clear hb2); (try clear hk); (try clear hi)) | ((with_reducible refine gate_callee (f := 37) rfl ?_); refine goesL_ (some 58) rfl rfl Try.func37 (by kernel_rfl) rfl #[.int .i64 t378, .string t368] rfl ka ?_; (with_reducible refine (skiffref1_Words.calls kj11 t378 t368 t381 t382 _ A22.out).mono ?_); rintro e w25 ⟨v383, rfl, ho0, hb⟩; refine ⟨_, rfl, ?_⟩; have n0_ := Aside0.mk (Kd.R_lower ho0 (below_size (kb2 HB.out GE367.out GE377.out))); have n1_ := Aside0.mk (kL BK367.out hb); have n2_ := Aside0.mk (kL BK377.out hb); have n3_ := Aside0.mk (below_step (kb2 HB.out GE367.out GE377.out) hb); clear BK367; clear BK377; clear HB; have HO384 := n0_; have BK367 := n1_; have BK377 := n2_; have HB := n3_; clear n0_ n1_ n2_ n3_; (try clear hb); (try clear hb2); (try clear hk); (try clear hi); (try clear ho0); obtain ⟨Ao27, co27, eo27⟩ := Kd.R_slice HO384.out; subst eo27) | ((with_reducible refine gate_builtin (b := .append) (xs := #[.tmp 61, .tmp 62]) rfl ?_); at_builtin; refine Kd.R_append_rows k68 (w0 := w) w.heap.size rfl (.tmp 61) (.tmp 62) 22 68 (.agg #[(.bool false), (.int .i64 0), (.string ⟨#[]⟩)]) 32 rfl Try.underlying22 info68 rfl (by decide) (by omega) (.slice none 0 0) ([] : List (S68)) t381 _ _ _ (fun k_ => some k_ ≠ (.slice Ao27 t381.length co27 : Value).ownBlock) (fun _ => False) rfl rfl ?aO ?aR (fun _ _ h => h) (fun _ h => h.elim) ?aF ?aB ?aS ?aL ?_; (case aR => repeat (first | exact (Kd.R_reads' HO384.out).2.2 | (with_reducible refine Kd.C_alloc ?_ _) | (with_reducible refine Kd.C_drewN ?_ _) | (with_reducible refine Kd.C_drew ?_))); (case aB => exact (kb2 HB.out GE367.out GE377.out)); (case aF => exact (fun k_ hk => Kd.fresh' (Kd.R_lt (kR HO384.out)) k_ hk)); (case aO => exact ((Kd.R_nil _ _ _ _ (fun k_ => some k_ ≠ (.slice Ao27 t381.length co27 : Value).ownBlock)))); (case aS => exact (below_size (kb2 HB.out GE367.out GE377.out))); (case aL => have := LMc23.out; omega); intro v386 w26 ho hb hg hat; rw [← Ny385.out] at ho; have n0_ := Aside0.mk (blk_grown (g := gb367) (o := .cells #[.int .i64 a1_0, .int .i64 a1_1, .int .i64 a1_2, .int .i64 a1_3] 41 (0, 0)) (kB BK367.out) hg (by simp [Value.ownBlock])); have n1_ := Aside0.mk (blk_grown (g := gb377) (o := .cells #[.int .i64 t371, .int .i64 t372, .int .i64 t373, .int .i64 t374, .int .i64 t375] 43 (0, 0)) (kB BK377.out) hg (by simp [Value.ownBlock])); have n2_ := Aside0.mk (Kd.R_after (Kd.R_apart_nil (kR HO384.out)) hg hat); have n3_ := Aside0.mk (hb); have n4_ := Aside0.mk (ho); clear BK367; clear BK377; clear HO384; clear HB; have BK367 := n0_; have BK377 := n1_; have HO384 := n2_; have HB := n3_; have HO387 := n4_; clear n0_ n1_ n2_ n3_ n4_; clear ho hb hg hat))
       go_ret2
       exact ⟨_, by first | rfl | (simp [errW_none, errW_some] <;> rfl) | (simp [*, errW_none, errW_some] <;> rfl), by (with_reducible repeat (first | apply Kd.R_alloc | apply Kd.R_drewN | apply Kd.R_drew)); exact Kd.R_mono HO387.out (fun _ hk => trivial), kb2 HB.out GE367.out GE377.out⟩
      ·replace c21 := Bool.eq_false_iff.mpr c21
       subst c21
       have H1 : (if ([] : List (S68)).length < 4398046511104 then ((some (([] : List (S68)) ++ [(⟨true, wrap64 ((wrap64 (1 - x8_11)) * 96), (⟨#[]⟩ : ByteArray)⟩ : S68)] : List (S68))).bind fun y388 => ((skiffref1_Words.f kj11 (wrap64 ((wrap64 (1 - x8_11)) * 96)) t368).bind fun bt391 => (if y388.length + bt391.1.length < 4398046511104 then (some ((y388 ++ bt391.1), 0)) else (none)))) else (none)) = some (r1, r2) := by rw [if_neg (show ¬ (false = true) by decide)] at H; exact H
       clear H; have H := H1; clear H1
       by_cases c28 : ([] : List (S68)).length < 4398046511104
       case neg =>
        rw [if_neg c28] at H
        exact absurd H (by simp)
       rw [if_pos c28] at H
       have LMc28 := Aside0.mk c28
       clear c28
       obtain ⟨y388, hy388⟩ : ∃ y_ : List (S68), y_ = (([] : List (S68)) ++ [(⟨true, wrap64 ((wrap64 (1 - x8_11)) * 96), (⟨#[]⟩ : ByteArray)⟩ : S68)]) := ⟨_, rfl⟩
       replace H : ((skiffref1_Words.f kj11 (wrap64 ((wrap64 (1 - x8_11)) * 96)) t368).bind fun bt391 => (if y388.length + bt391.1.length < 4398046511104 then (some ((y388 ++ bt391.1), 0)) else (none))) = some (r1, r2) := by first | (rw [hy388]; with_reducible exact H) | (have H2_ := (Option.bind_some _ _).symm.trans H; rw [hy388]; with_reducible exact H2_) | (have H2_ := (Option.bind_some _ _).symm.trans H; with_reducible exact H2_) | with_reducible exact H | (rw [hy388]; exact H) | exact H
       have Ny388 := Aside0.mk hy388
       clear hy388
       replace H := Option.bind_eq_some_iff.mp H
       obtain ⟨⟨t391, t392⟩, A290, H⟩ := H
       replace H : (if y388.length + t391.length < 4398046511104 then (some ((y388 ++ t391), 0)) else (none)) = some (r1, r2) := H
       have A29 := Aside0.mk A290
       clear A290
       by_cases c30 : y388.length + t391.length < 4398046511104
       case neg =>
        rw [if_neg c30] at H
        exact absurd H (by simp)
       rw [if_pos c30] at H
       have LMc30 := Aside0.mk c30
       clear c30
       obtain ⟨y395, hy395⟩ : ∃ y_ : List (S68), y_ = (y388 ++ t391) := ⟨_, rfl⟩
       replace H : (some (y395, 0)) = some (r1, r2) := by first | (rw [hy395]; with_reducible exact H) | (have H2_ := (Option.bind_some _ _).symm.trans H; rw [hy395]; with_reducible exact H2_) | (have H2_ := (Option.bind_some _ _).symm.trans H; with_reducible exact H2_) | with_reducible exact H | (rw [hy395]; exact H) | exact H
       have Ny395 := Aside0.mk hy395
       clear hy395
       simp only [Option.some.injEq, Prod.mk.injEq] at H
       obtain ⟨rfl, rfl⟩ := H
       go_wp2_with (first | ((with_reducible refine gate_callee (f := 67) rfl ?_); refine goesL_ (some 41) rfl rfl Try.func67 (by kernel_rfl) rfl #[.string a0, .int .i64 x8_11] rfl ka ?_; (with_reducible refine (skiffref1_FreePlace.calls kj11 a0 x8_11 t378 false t380 _ A20.out).mono ?_); rintro e w31 ⟨rfl, hb⟩; refine ⟨_, rfl, ?_⟩; have n0_ := Aside0.mk (kL BK367.out hb); have n1_ := Aside0.mk (kL BK377.out hb); have n2_ := Aside0.mk (below_step (kb2 HB.out GE367.out GE377.out) hb); clear BK367; clear BK377; clear HB; have BK367 := n0_; have BK377 := n1_; have HB := n2_; clear n0_ n1_ n2_; (try clear hb); (try clear hb2); (try clear hk); (try clear hi)) | ((with_reducible refine gate_builtin (b := .append) (xs := #[.tmp 50, .tmp 53]) rfl ?_); at_builtin; refine Kd.R_append k68 (w0 := w) w.heap.size rfl (.tmp 50) (.tmp 53) 22 68 (.agg #[(.bool false), (.int .i64 0), (.string ⟨#[]⟩)]) 32 rfl Try.underlying22 info68 rfl (by decide) (by omega) (.slice none 0 0) ([] : List (S68)) (⟨true, wrap64 ((wrap64 (1 - x8_11)) * 96), (⟨#[]⟩ : ByteArray)⟩ : S68) [.bool true, .int .i64 (wrap64 ((wrap64 (1 - x8_11)) * 96)), .string (⟨#[]⟩ : ByteArray)] (fun _ => True) (fun _ => False) rfl rfl ?aP (fun _ hk => hk.elim) ?aF ?aO ?aB ?aS ?aL ?_; (case aP => exact k68_mkM _ _ _ (⟨true, wrap64 ((wrap64 (1 - x8_11)) * 96), (⟨#[]⟩ : ByteArray)⟩ : S68)); (case aB => exact (kb2 HB.out GE367.out GE377.out)); (case aF => exact (fun _ _ => trivial)); (case aO => exact ((Kd.R_nil _ _ _ _ (fun _ => True)))); (case aS => exact (below_size (kb2 HB.out GE367.out GE377.out))); (case aL => have := LMc28.out; omega); intro v389 w32 ho hb hg hat; rw [← Ny388.out] at ho; have n0_ := Aside0.mk (blk_grown (g := gb367) (o := .cells #[.int .i64 a1_0, .int .i64 a1_1, .int .i64 a1_2, .int .i64 a1_3] 41 (0, 0)) (kB BK367.out) hg (by simp [Value.ownBlock])); have n1_ := Aside0.mk (blk_grown (g := gb377) (o := .cells #[.int .i64 t371, .int .i64 t372, .int .i64 t373, .int .i64 t374, .int .i64 t375] 43 (0, 0)) (kB BK377.out) hg (by simp [Value.ownBlock])); have n2_ := Aside0.mk (hb); have n3_ := Aside0.mk (ho); clear BK367; clear BK377; clear HB; have BK367 := n0_; have BK377 := n1_; have HB := n2_; have HO390 := n3_; clear n0_ n1_ n2_ n3_; clear ho hb hg hat) | ((with_reducible refine gate_callee (f := 37) rfl ?_); refine goesL_ (some 58) rfl rfl Try.func37 (by kernel_rfl) rfl #[.int .i64 (wrap64 ((wrap64 (1 - x8_11)) * 96)), .string t368] rfl ka ?_; (with_reducible refine (skiffref1_Words.calls kj11 (wrap64 ((wrap64 (1 - x8_11)) * 96)) t368 t391 t392 _ A29.out).mono ?_); rintro e w33 ⟨v393, rfl, ho0, hb⟩; refine ⟨_, rfl, ?_⟩; have n0_ := Aside0.mk (Kd.R_elder' (kR HO390.out) (Kd.R_base ho0) hb); have n1_ := Aside0.mk (Kd.R_lower (Kd.R_new' ho0 (Kd.R_lt (kR HO390.out))) (below_size (kb2 HB.out GE367.out GE377.out))); have n2_ := Aside0.mk (kL BK367.out hb); have n3_ := Aside0.mk (kL BK377.out hb); have n4_ := Aside0.mk (below_step (kb2 HB.out GE367.out GE377.out) hb); clear HO390; clear BK367; clear BK377; clear HB; have HO390 := n0_; have HO394 := n1_; have BK367 := n2_; have BK377 := n3_; have HB := n4_; clear n0_ n1_ n2_ n3_ n4_; (try clear hb); (try clear hb2); (try clear hk); (try clear hi); (try clear ho0); obtain ⟨Ao35, co35, eo35⟩ := Kd.R_slice HO394.out; subst eo35) | ((with_reducible refine gate_builtin (b := .append) (xs := #[.tmp 61, .tmp 62]) rfl ?_); at_builtin; refine Kd.R_append_rows k68 (w0 := w) w.heap.size rfl (.tmp 61) (.tmp 62) 22 68 (.agg #[(.bool false), (.int .i64 0), (.string ⟨#[]⟩)]) 32 rfl Try.underlying22 info68 rfl (by decide) (by omega) v389 y388 t391 _ _ _ (fun k_ => some k_ ≠ (.slice Ao35 t391.length co35 : Value).ownBlock) (fun _ => False) rfl rfl ?aO ?aR (fun _ _ h => h) (fun _ h => h.elim) ?aF ?aB ?aS ?aL ?_; (case aR => repeat (first | exact (Kd.R_reads' HO394.out).2.2 | (with_reducible refine Kd.C_alloc ?_ _) | (with_reducible refine Kd.C_drewN ?_ _) | (with_reducible refine Kd.C_drew ?_))); (case aB => exact (kb2 HB.out GE367.out GE377.out)); (case aF => exact (fun k_ hk => Kd.fresh' (Kd.R_lt (kR HO394.out)) k_ hk)); (case aO => exact (by (with_reducible repeat (first | apply Kd.R_alloc | apply Kd.R_drewN | apply Kd.R_drew)); exact Kd.R_mono HO390.out (fun _ hk => hk.2))); (case aS => exact (below_size (kb2 HB.out GE367.out GE377.out))); (case aL => have := LMc30.out; omega); intro v396 w34 ho hb hg hat; rw [← Ny395.out] at ho; have n0_ := Aside0.mk (blk_grown (g := gb367) (o := .cells #[.int .i64 a1_0, .int .i64 a1_1, .int .i64 a1_2, .int .i64 a1_3] 41 (0, 0)) (kB BK367.out) hg (Kd.R_ne HO390.out BK367.out (by decide))); have n1_ := Aside0.mk (blk_grown (g := gb377) (o := .cells #[.int .i64 t371, .int .i64 t372, .int .i64 t373, .int .i64 t374, .int .i64 t375] 43 (0, 0)) (kB BK377.out) hg (Kd.R_ne HO390.out BK377.out (by decide))); have n2_ := Aside0.mk (Kd.R_after (ok := (fun _ => True)) (kR HO394.out) hg hat); have n3_ := Aside0.mk (hb); have n4_ := Aside0.mk (ho); clear BK367; clear BK377; clear HO394; clear HB; clear HO390; have BK367 := n0_; have BK377 := n1_; have HO394 := n2_; have HB := n3_; have HO397 := n4_; clear n0_ n1_ n2_ n3_ n4_; clear ho hb hg hat))
       go_ret2
       exact ⟨_, by first | rfl | (simp [errW_none, errW_some] <;> rfl) | (simp [*, errW_none, errW_some] <;> rfl), by (with_reducible repeat (first | apply Kd.R_alloc | apply Kd.R_drewN | apply Kd.R_drew)); exact Kd.R_mono HO397.out (fun _ hk => trivial), kb2 HB.out GE367.out GE377.out⟩

/-! ### skifflaw20_held: function 16 -/
mutual
def skifflaw20_held.l0 : Nat → ByteArray → List (S68) → Int → Option (ByteArray)
 | 0, _, _, _ => none
 | k + 1, x1, x2, x4 => if x4 < (x2.length : Int) then (if 0 ≤ x4 then ((skiffref1_Do.f k x1 ((rd_T68 x2 x4).f0) ((rd_T68 x2 x4).f1) ((rd_T68 x2 x4).f2)).bind fun bt404 => (skifflaw20_held.l0 k bt404.1 x2 (wrap64 (x4 + 1)))) else (none)) else ((skiffref1_RecordOf.f k x1 0 12).bind fun bt406 => ((skiffref1_Append.f k x1 bt406.1 bt406.2.1 bt406.2.2.1 bt406.2.2.2.1).bind fun bt412 => (skifflaw20_held.l1 k x1 bt412.1 0)))
def skifflaw20_held.l1 : Nat → ByteArray → List (S68) → Int → Option (ByteArray)
 | 0, _, _, _ => none
 | k + 1, x1, x2, x7 => if x7 < (x2.length : Int) then (if 0 ≤ x7 then ((skiffref1_Do.f k x1 ((rd_T68 x2 x7).f0) ((rd_T68 x2 x7).f1) ((rd_T68 x2 x7).f2)).bind fun bt417 => (skifflaw20_held.l1 k bt417.1 x2 (wrap64 (x7 + 1)))) else (none)) else (some x1)
end
def skifflaw20_held.f (k : Nat)  : Option (ByteArray) := (skiffref1_Blank.f).bind fun t398 => ((skiffref1_Words.f k 192 (⟨#[97, 98, 97, 98, 97, 98, 97, 98, 97, 98, 97, 98]⟩ : ByteArray)).bind fun bt399 => (skifflaw20_held.l0 k t398 bt399.1 0))
theorem skifflaw20_held.mono_l : ∀ k, (∀ y0 y1 y2, LeO (skifflaw20_held.l0 k y0 y1 y2) (skifflaw20_held.l0 (k + 1) y0 y1 y2)) ∧ (∀ y0 y1 y2, LeO (skifflaw20_held.l1 k y0 y1 y2) (skifflaw20_held.l1 (k + 1) y0 y1 y2))
 | 0 => ⟨fun _ _ _ r h => by simp [skifflaw20_held.l0] at h, fun _ _ _ r h => by simp [skifflaw20_held.l1] at h⟩
 | k + 1 => by
  obtain ⟨ih0, ih1⟩ := skifflaw20_held.mono_l k
  refine ⟨?_, ?_⟩
  ·intro y0 y1 y2
   unfold skifflaw20_held.l0
   repeat' first
   | (with_reducible exact ih0 _ _ _)
   | (with_reducible exact ih1 _ _ _)
   | (with_reducible exact skiffref1_Append.mono _ _ _ _ _ _)
   | (with_reducible exact skiffref1_Do.mono _ _ _ _ _)
   | (with_reducible exact skiffref1_RecordOf.mono _ _ _ _)
   | (with_reducible exact skiffref1_Words.mono _ _ _)
   | (with_reducible exact LeO.refl _)
   | (with_reducible exact LeO.none _)
   | (with_reducible refine LeO.ite ?_ ?_)
   | (with_reducible refine LeO.bind ?_ (fun _ => ?_))
   | exact ih0 _ _ _
   | exact ih1 _ _ _
   | exact skiffref1_Append.mono _ _ _ _ _ _
   | exact skiffref1_Do.mono _ _ _ _ _
   | exact skiffref1_RecordOf.mono _ _ _ _
   | exact skiffref1_Words.mono _ _ _
   | exact LeO.none _
   | refine LeO.ite ?_ ?_
   | refine LeO.bind ?_ (fun _ => ?_)
  ·intro y0 y1 y2
   unfold skifflaw20_held.l1
   repeat' first
   | (with_reducible exact ih0 _ _ _)
   | (with_reducible exact ih1 _ _ _)
   | (with_reducible exact skiffref1_Append.mono _ _ _ _ _ _)
   | (with_reducible exact skiffref1_Do.mono _ _ _ _ _)
   | (with_reducible exact skiffref1_RecordOf.mono _ _ _ _)
   | (with_reducible exact skiffref1_Words.mono _ _ _)
   | (with_reducible exact LeO.refl _)
   | (with_reducible exact LeO.none _)
   | (with_reducible refine LeO.ite ?_ ?_)
   | (with_reducible refine LeO.bind ?_ (fun _ => ?_))
   | exact ih0 _ _ _
   | exact ih1 _ _ _
   | exact skiffref1_Append.mono _ _ _ _ _ _
   | exact skiffref1_Do.mono _ _ _ _ _
   | exact skiffref1_RecordOf.mono _ _ _ _
   | exact skiffref1_Words.mono _ _ _
   | exact LeO.none _
   | refine LeO.ite ?_ ?_
   | refine LeO.bind ?_ (fun _ => ?_)
theorem skifflaw20_held.mono : ∀ k, LeO (skifflaw20_held.f k ) (skifflaw20_held.f (k + 1) ) := by
 intro  k
 obtain ⟨ih0, ih1⟩ := skifflaw20_held.mono_l k
 unfold skifflaw20_held.f
 repeat' first
   | (with_reducible exact ih0 _ _ _)
   | (with_reducible exact ih1 _ _ _)
   | (with_reducible exact skiffref1_Append.mono _ _ _ _ _ _)
   | (with_reducible exact skiffref1_Do.mono _ _ _ _ _)
   | (with_reducible exact skiffref1_RecordOf.mono _ _ _ _)
   | (with_reducible exact skiffref1_Words.mono _ _ _)
   | (with_reducible exact LeO.refl _)
   | (with_reducible exact LeO.none _)
   | (with_reducible refine LeO.ite ?_ ?_)
   | (with_reducible refine LeO.bind ?_ (fun _ => ?_))
   | exact ih0 _ _ _
   | exact ih1 _ _ _
   | exact skiffref1_Append.mono _ _ _ _ _ _
   | exact skiffref1_Do.mono _ _ _ _ _
   | exact skiffref1_RecordOf.mono _ _ _ _
   | exact skiffref1_Words.mono _ _ _
   | exact LeO.none _
   | refine LeO.ite ?_ ?_
   | refine LeO.bind ?_ (fun _ => ?_)
set_option maxHeartbeats 8000000 in
set_option maxRecDepth 100000 in
theorem skifflaw20_held.calls (k : Nat)  (r : ByteArray) (w : World) (h : skifflaw20_held.f k  = some r) :
  Calls Try.prog 16 #[] w fun e w' => e = .returned (.string r) ∧ Below w.heap.size w w' := by
 have hu68 := Try.underlying68
 have hu41 := Try.underlying41
 have HB := Aside0.mk (Below.refl w.heap.size w)
 have H : ((skiffref1_Blank.f).bind fun t398 => ((skiffref1_Words.f k 192 (⟨#[97, 98, 97, 98, 97, 98, 97, 98, 97, 98, 97, 98]⟩ : ByteArray)).bind fun bt399 => (skifflaw20_held.l0 k t398 bt399.1 0))) = some r := h
 clear h
 replace H := Option.bind_eq_some_iff.mp H
 obtain ⟨t398, A10, H⟩ := H
 replace H : ((skiffref1_Words.f k 192 (⟨#[97, 98, 97, 98, 97, 98, 97, 98, 97, 98, 97, 98]⟩ : ByteArray)).bind fun bt399 => (skifflaw20_held.l0 k t398 bt399.1 0)) = some r := H
 have A1 := Aside0.mk A10
 clear A10
 replace H := Option.bind_eq_some_iff.mp H
 obtain ⟨⟨t399, t400⟩, A20, H⟩ := H
 replace H : (skifflaw20_held.l0 k t398 t399 0) = some r := H
 have A2 := Aside0.mk A20
 clear A20
 have H' := Aside0.mk H
 clear H
 go_enter Try.func16, Try.ntmps16
 go_wp2_with (first | ((with_reducible refine gate_callee (f := 36) rfl ?_); refine goesL_ (some 8) rfl rfl Try.func36 (by kernel_rfl) rfl #[] rfl ka ?_; (with_reducible refine (skiffref1_Blank.calls  t398 _ A1.out).mono ?_); rintro e w3 ⟨rfl, hb⟩; refine ⟨_, rfl, ?_⟩; have n0_ := Aside0.mk (below_step (kb HB.out) hb); clear HB; have HB := n0_; clear n0_; (try clear hb); (try clear hb2); (try clear hk); (try clear hi)) | ((with_reducible refine gate_callee (f := 37) rfl ?_); refine goesL_ (some 10) rfl rfl Try.func37 (by kernel_rfl) rfl #[.int .i64 192, .string (⟨#[97, 98, 97, 98, 97, 98, 97, 98, 97, 98, 97, 98]⟩ : ByteArray)] rfl ka ?_; (with_reducible refine (skiffref1_Words.calls k 192 (⟨#[97, 98, 97, 98, 97, 98, 97, 98, 97, 98, 97, 98]⟩ : ByteArray) t399 t400 _ A2.out).mono ?_); rintro e w4 ⟨v401, rfl, ho0, hb⟩; refine ⟨_, rfl, ?_⟩; have n0_ := Aside0.mk (Kd.R_lower ho0 (below_size (kb HB.out))); have n1_ := Aside0.mk (below_step (kb HB.out) hb); clear HB; have HO402 := n0_; have HB := n1_; clear n0_ n1_; (try clear hb); (try clear hb2); (try clear hk); (try clear hi); (try clear ho0)))
 go_loopg [1, 4] k (fun kq v1 v4 w' => ∃ (x1_1 : ByteArray) (x4_1 : Int), v1 = .string x1_1 ∧ v4 = .int .i64 x4_1 ∧ Aside0 (skifflaw20_held.l0 kq x1_1 t399 x4_1 = some r) ∧ Aside0 (kq ≤ k) ∧ Aside0 (Kd.R k68 68 w' w.heap.size (fun _ => True) v401 t399) ∧ Aside0 (Below w.heap.size w w'))
 case atStart => exact ⟨(t398), (0), (by first | rfl | (simp; done) | (simp [*]; done)), (by first | rfl | (simp; done) | (simp [*]; done)), H', ⟨Nat.le_refl _⟩, ⟨kR HO402.out⟩, ⟨kb HB.out⟩⟩
 case round =>
  clear H'
  try clear c1; try clear p2; try clear c3
  obtain ⟨x1_1, x4_1, rfl, rfl, HA, HK1, HO_2, HB⟩ := hrel
  cases gk with
  | zero => exact absurd HA.out (by simp [skifflaw20_held.l0])
  | succ k1 =>
   have H := HA.out
   clear HA
   simp only [skifflaw20_held.l0] at H
   by_cases c5 : x4_1 < (t399.length : Int)
   ·rw [if_pos c5] at H
    have c5b0 : decide (x4_1 < (t399.length : Int)) = true := decide_eq_true c5
    clear c5
    by_cases c6 : 0 ≤ x4_1
    case neg =>
     rw [if_neg c6] at H
     exact absurd H (by simp)
    rw [if_pos c6] at H
    have c6b0 : decide (0 ≤ x4_1) = true := decide_eq_true c6
    clear c6
    replace H := Option.bind_eq_some_iff.mp H
    obtain ⟨⟨t404, t405⟩, A70, H⟩ := H
    replace H : (skifflaw20_held.l0 k1 t404 t399 (wrap64 (x4_1 + 1))) = some r := H
    have A7 := Aside0.mk A70
    clear A70
    have H' := Aside0.mk H
    clear H
    obtain ⟨Ao8, co8, eo8⟩ := Kd.R_slice HO_2.out
    subst eo8
    have p403 : 0 ≤ (x4_1 : Int) := of_decide_eq_true (by first | (with_reducible assumption) | assumption)
    have q403 : x4_1 < (t399.length : Int) := of_decide_eq_true (by first | (with_reducible assumption) | assumption)
    obtain ⟨ad403, e403, hx403_0, hx403_1, hx403_2⟩ := at_T68 (Kd.R_reads' HO_2.out).2.2 x4_1 p403 q403
    cases e403
    replace p403 := eq_true p403
    replace q403 := eq_true q403
    go_wp2_with (first | ((with_reducible refine gate_callee (f := 38) rfl ?_); refine goesL_ (some 25) rfl rfl Try.func38 (by kernel_rfl) rfl #[.string x1_1, .agg #[.bool ((rd_T68 t399 x4_1).f0), .int .i64 ((rd_T68 t399 x4_1).f1), .string ((rd_T68 t399 x4_1).f2)]] rfl ka ?_; (with_reducible refine (skiffref1_Do.calls k1 x1_1 ((rd_T68 t399 x4_1).f0) ((rd_T68 t399 x4_1).f1) ((rd_T68 t399 x4_1).f2) t404 t405 _ A7.out).mono ?_); rintro e w9 ⟨rfl, hb⟩; refine ⟨_, rfl, ?_⟩; have n0_ := Aside0.mk (Kd.R_below (kR HO_2.out) hb); have n1_ := Aside0.mk (below_step (kb HB.out) hb); clear HO_2; clear HB; have HO_2 := n0_; have HB := n1_; clear n0_ n1_; (try clear hb); (try clear hb2); (try clear hk); (try clear hi)))
    go_roundg k1
    case measure => have := HK1.out; omega
    case rel => exact ⟨(t404), (wrap64 (x4_1 + 1)), (by first | rfl | (simp; done) | (simp [*]; done)), (by first | rfl | (simp; done) | (simp [*]; done)), H', ⟨by have := HK1.out; omega⟩, ⟨kR HO_2.out⟩, ⟨kb HB.out⟩⟩
   ·rw [if_neg c5] at H
    have c5b0 : decide (x4_1 < (t399.length : Int)) = false := decide_eq_false c5
    clear c5
    replace H := Option.bind_eq_some_iff.mp H
    obtain ⟨⟨t406, t407, t408, t409, t410⟩, A100, H⟩ := H
    replace H : ((skiffref1_Append.f k1 x1_1 t406 t407 t408 t409).bind fun bt412 => (skifflaw20_held.l1 k1 x1_1 bt412.1 0)) = some r := H
    have A10 := Aside0.mk A100
    clear A100
    replace H := Option.bind_eq_some_iff.mp H
    obtain ⟨⟨t412, t415⟩, A110, H⟩ := H
    replace H : (skifflaw20_held.l1 k1 x1_1 t412 0) = some r := H
    have A11 := Aside0.mk A110
    clear A110
    have H' := Aside0.mk H
    clear H
    obtain ⟨Ao12, co12, eo12⟩ := Kd.R_slice HO_2.out
    subst eo12
    go_wp2_with (first | ((with_reducible refine gate_callee (f := 39) rfl ?_); refine goesL_ (some 30) rfl rfl Try.func39 (by kernel_rfl) rfl #[.string x1_1, .int .i64 0, .int .i64 12] rfl ka ?_; (with_reducible refine (skiffref1_RecordOf.calls k1 x1_1 0 12 t406 t407 t408 t409 t410 _ A10.out).mono ?_); rintro e w13 ⟨rfl, hb⟩; refine ⟨_, rfl, ?_⟩; have n0_ := Aside0.mk (Kd.R_below (kR HO_2.out) hb); have n1_ := Aside0.mk (below_step (kb HB.out) hb); clear HO_2; clear HB; have HO_2 := n0_; have HB := n1_; clear n0_ n1_; (try clear hb); (try clear hb2); (try clear hk); (try clear hi)) | ((with_reducible refine gate_dst (N := 5) rfl ?_); refine box_event ?hg (N := 5) ?hd (cs := #[.int .i64 0, .int .i64 0, .int .i64 0, .int .i64 0]) (t := 41) ?hr ?_; (case hd => rfl); (case hg => rfl); (case hr => first | (go_simp; done) | (go_simp; rfl)); intro gb411 hg w14 hbox hb; have n0_ := Aside0.mk (Kd.R_below (kR HO_2.out) hb); have n1_ := Aside0.mk (below_step (kb HB.out) hb); have n2_ := Aside0.mk (hbox); have n3_ := Aside0.mk ((kz hg (below_size (kb HB.out)) : w.heap.size ≤ gb411)); have n4_ := Aside0.mk ((kz hg (below_size (kb HB.out)) : w.heap.size ≤ gb411)); clear HO_2; clear HB; have HO_2 := n0_; have HB := n1_; have BK411 := n2_; have GW411 := n3_; have GE411 := n4_; clear n0_ n1_ n2_ n3_ n4_; clear hb hbox hg; obtain ⟨hcz15_0, hcz15_1, hcz15_2, hcz15_3⟩ := kc4 BK411.out; obtain ⟨hfz15_0, hfz15_1, hfz15_2, hfz15_3⟩ := kf4 BK411.out) | ((with_reducible refine gate_callee (f := 40) rfl ?_); refine goesL_ (some 36) rfl rfl Try.func40 (by kernel_rfl) rfl #[.string x1_1, .agg #[.int .i64 t406, .int .i64 t407, .int .i64 t408, .int .i64 t409]] rfl ka ?_; (with_reducible refine (skiffref1_Append.calls k1 x1_1 t406 t407 t408 t409 t412 t415 _ A11.out).mono ?_); rintro e w16 ⟨v413, rfl, ho0, hb⟩; refine ⟨_, rfl, ?_⟩; have n0_ := Aside0.mk (Kd.R_elder' (by (with_reducible repeat (first | apply Kd.R_alloc | apply Kd.R_drewN | apply Kd.R_drew)); exact (Kd.R_mono (Kd.R_far (p := ⟨gb411, 3, none⟩) (Kd.R_far (p := ⟨gb411, 2, none⟩) (Kd.R_far (p := ⟨gb411, 1, none⟩) (Kd.R_far (p := ⟨gb411, 0, none⟩) (Kd.R_types HO_2.out BK411.out (by decide)) (fun _ hk => hk.2) (.int .i64 t406)) (fun _ hk => hk.2) (.int .i64 t407)) (fun _ hk => hk.2) (.int .i64 t408)) (fun _ hk => hk.2) (.int .i64 t409)) (fun _ h_ => h_.1))) (Kd.R_base ho0) hb); have n1_ := Aside0.mk (Kd.R_lower (Kd.R_new' ho0 (Kd.R_lt (by (with_reducible repeat (first | apply Kd.R_alloc | apply Kd.R_drewN | apply Kd.R_drew)); exact (Kd.R_mono (Kd.R_far (p := ⟨gb411, 3, none⟩) (Kd.R_far (p := ⟨gb411, 2, none⟩) (Kd.R_far (p := ⟨gb411, 1, none⟩) (Kd.R_far (p := ⟨gb411, 0, none⟩) (Kd.R_types HO_2.out BK411.out (by decide)) (fun _ hk => hk.2) (.int .i64 t406)) (fun _ hk => hk.2) (.int .i64 t407)) (fun _ hk => hk.2) (.int .i64 t408)) (fun _ hk => hk.2) (.int .i64 t409)) (fun _ h_ => h_.1))))) (below_size (kb1 HB.out GE411.out))); have n2_ := Aside0.mk (blk_below (g := gb411) (o := .cells #[.int .i64 t406, .int .i64 t407, .int .i64 t408, .int .i64 t409] 41 (0, 0)) (kP4 BK411.out) hb); have n3_ := Aside0.mk (below_step (kb1 HB.out GE411.out) hb); clear HO_2; clear BK411; clear HB; have HO_2 := n0_; have HO414 := n1_; have BK411 := n2_; have HB := n3_; clear n0_ n1_ n2_ n3_; (try clear hb); (try clear hb2); (try clear hk); (try clear hi); (try clear ho0)))
    go_loopg [1, 7] k1 (fun kq v1 v7 w' => ∃ (x1_2 : ByteArray) (x7_2 : Int), v1 = .string x1_2 ∧ v7 = .int .i64 x7_2 ∧ Aside0 (skifflaw20_held.l1 kq x1_2 t412 x7_2 = some r) ∧ Aside0 (kq ≤ k1) ∧ Aside0 (Kd.R k68 68 w' w.heap.size (fun _ => True) v413 t412) ∧ Aside0 (w'.heap[gb411]? = some (.cells #[.int .i64 t406, .int .i64 t407, .int .i64 t408, .int .i64 t409] 41 (0, 0))) ∧ Aside0 (Below w.heap.size w w'))
    case atStart => exact ⟨(x1_1), (0), (by first | rfl | (simp; done) | (simp [*]; done)), (by first | rfl | (simp; done) | (simp [*]; done)), H', ⟨Nat.le_refl _⟩, ⟨by (with_reducible repeat (first | apply Kd.R_alloc | apply Kd.R_drewN | apply Kd.R_drew)); exact Kd.R_mono HO414.out (fun _ hk => trivial)⟩, ⟨kB BK411.out⟩, ⟨kb1 HB.out GE411.out⟩⟩
    case round =>
     clear H'
     try clear c1; try clear p2; try clear c3; try clear c4; try clear p4; try clear q4; try clear hx4; try clear c5; try clear c5b0; try clear c6; try clear c6b0; try clear p6; try clear c16; try clear hcz15_0; try clear hcz15_1; try clear hcz15_2; try clear hcz15_3; try clear hfz15_0; try clear hfz15_1; try clear hfz15_2; try clear hfz15_3; try clear hx403_0; try clear hx403_1; try clear hx403_2; try clear p2; try clear p403; try clear q403
     obtain ⟨x1_2, x7_2, rfl, rfl, HA, HK2, HO_2, BK411, HB⟩ := hrel
     cases gk with
     | zero => exact absurd HA.out (by simp [skifflaw20_held.l1])
     | succ k2 =>
      have H := HA.out
      clear HA
      simp only [skifflaw20_held.l1] at H
      by_cases c17 : x7_2 < (t412.length : Int)
      case neg =>
       rw [if_neg c17] at H
       have c17b0 : decide (x7_2 < (t412.length : Int)) = false := decide_eq_false c17
       clear c17
       obtain rfl := Option.some.inj H
       obtain ⟨Ao22, co22, eo22⟩ := Kd.R_slice HO_2.out
       subst eo22
       go_wp2
       go_ret
       exact ⟨by first | rfl | (simp [errW_none, errW_some] <;> rfl) | (simp [*, errW_none, errW_some] <;> rfl), kb1 HB.out GE411.out⟩
      rw [if_pos c17] at H
      have c17b0 : decide (x7_2 < (t412.length : Int)) = true := decide_eq_true c17
      clear c17
      by_cases c18 : 0 ≤ x7_2
      case neg =>
       rw [if_neg c18] at H
       exact absurd H (by simp)
      rw [if_pos c18] at H
      have c18b0 : decide (0 ≤ x7_2) = true := decide_eq_true c18
      clear c18
      replace H := Option.bind_eq_some_iff.mp H
      obtain ⟨⟨t417, t418⟩, A190, H⟩ := H
      replace H : (skifflaw20_held.l1 k2 t417 t412 (wrap64 (x7_2 + 1))) = some r := H
      have A19 := Aside0.mk A190
      clear A190
      have H' := Aside0.mk H
      clear H
      obtain ⟨Ao20, co20, eo20⟩ := Kd.R_slice HO_2.out
      subst eo20
      have p416 : 0 ≤ (x7_2 : Int) := of_decide_eq_true (by first | (with_reducible assumption) | assumption)
      have q416 : x7_2 < (t412.length : Int) := of_decide_eq_true (by first | (with_reducible assumption) | assumption)
      obtain ⟨ad416, e416, hx416_0, hx416_1, hx416_2⟩ := at_T68 (Kd.R_reads' HO_2.out).2.2 x7_2 p416 q416
      cases e416
      replace p416 := eq_true p416
      replace q416 := eq_true q416
      go_wp2_with (first | ((with_reducible refine gate_callee (f := 38) rfl ?_); refine goesL_ (some 51) rfl rfl Try.func38 (by kernel_rfl) rfl #[.string x1_2, .agg #[.bool ((rd_T68 t412 x7_2).f0), .int .i64 ((rd_T68 t412 x7_2).f1), .string ((rd_T68 t412 x7_2).f2)]] rfl ka ?_; (with_reducible refine (skiffref1_Do.calls k2 x1_2 ((rd_T68 t412 x7_2).f0) ((rd_T68 t412 x7_2).f1) ((rd_T68 t412 x7_2).f2) t417 t418 _ A19.out).mono ?_); rintro e w21 ⟨rfl, hb⟩; refine ⟨_, rfl, ?_⟩; have n0_ := Aside0.mk (Kd.R_below (kR HO_2.out) hb); have n1_ := Aside0.mk (kL BK411.out hb); have n2_ := Aside0.mk (below_step (kb1 HB.out GE411.out) hb); clear HO_2; clear BK411; clear HB; have HO_2 := n0_; have BK411 := n1_; have HB := n2_; clear n0_ n1_ n2_; (try clear hb); (try clear hb2); (try clear hk); (try clear hi)))
      go_roundg k2
      case measure => have := HK1.out; have := HK2.out; omega
      case rel => exact ⟨(t417), (wrap64 (x7_2 + 1)), (by first | rfl | (simp; done) | (simp [*]; done)), (by first | rfl | (simp; done) | (simp [*]; done)), H', ⟨by have := HK1.out; have := HK2.out; omega⟩, ⟨kR HO_2.out⟩, ⟨kB BK411.out⟩, ⟨kb1 HB.out GE411.out⟩⟩

/-! ### skifflaw20_awake: function 15 -/
def skifflaw20_awake.f (k : Nat)  : Option (Bool) := (skifflaw20_held.f k).bind fun t419 => ((upload_Give.f k t419 0 0 0 0 0 ([] : List (S68)) 0 32).bind fun bt420 => ((skifflaw20_held.f k).bind fun t431 => ((upload_Give.f k t431 0 0 0 0 0 ([] : List (S68)) 1 32).bind fun bt432 => ((skiffref1_Blank.f).bind fun t443 => ((upload_Give.f k t443 0 0 0 0 0 ([] : List (S68)) 0 32).bind fun bt444 => ((skifflaw20_held.f k).bind fun t455 => ((upload_Give.f k t455 2 0 0 0 0 ([] : List (S68)) 0 32).bind fun bt456 => ((skiffref16_NewDevice.f).bind fun bt467 => ((skifflaw0_SameDevice.f k bt420.1 bt420.2.1 bt420.2.2.1 bt420.2.2.2.1 bt420.2.2.2.2.1 bt420.2.2.2.2.2.1 bt467.1 bt467.2.1 bt467.2.2.1 bt467.2.2.2.1 bt467.2.2.2.2.1 bt467.2.2.2.2.2).bind fun t475 => (if t475 = true then (if bt420.2.2.2.2.2.2.1.toList = ([97, 98, 97, 98, 97, 98, 97, 98, 97, 98, 97, 98] : List UInt8) then ((skifflaw0_Num.f bt420.2.2.2.2.2.2.2).bind fun t476 => (if t476 = 0 then (if bt432.2.1 = 4 then (if bt432.2.2.2.2.2.2.1.toList = ([] : List UInt8) then ((skifflaw0_Num.f bt432.2.2.2.2.2.2.2).bind fun t477 => (if t477 = 0 then (if bt444.2.1 = 2 then (if bt444.2.2.2.2.2.2.1.toList = ([] : List UInt8) then ((skifflaw0_Num.f bt444.2.2.2.2.2.2.2).bind fun t478 => (if t478 = 0 then ((skifflaw0_Num.f bt456.2.2.2.2.2.2.2).bind fun t479 => (some (t479 == 2000))) else (none))) else (none)) else (none)) else (none))) else (none)) else (none)) else (none))) else (none)) else (none)))))))))))
theorem skifflaw20_awake.mono : ∀ k, LeO (skifflaw20_awake.f k ) (skifflaw20_awake.f (k + 1) ) := by
 intro  k
 unfold skifflaw20_awake.f
 repeat' first
   | (with_reducible exact skifflaw0_SameDevice.mono _ _ _ _ _ _ _ _ _ _ _ _ _)
   | (with_reducible exact skifflaw20_held.mono _)
   | (with_reducible exact upload_Give.mono _ _ _ _ _ _ _ _ _ _)
   | (with_reducible exact LeO.refl _)
   | (with_reducible exact LeO.none _)
   | (with_reducible refine LeO.ite ?_ ?_)
   | (with_reducible refine LeO.bind ?_ (fun _ => ?_))
   | exact skifflaw0_SameDevice.mono _ _ _ _ _ _ _ _ _ _ _ _ _
   | exact skifflaw20_held.mono _
   | exact upload_Give.mono _ _ _ _ _ _ _ _ _ _
   | exact LeO.none _
   | refine LeO.ite ?_ ?_
   | refine LeO.bind ?_ (fun _ => ?_)
def skifflaw20_awake.T5 : Bool × List (List Nat × List Nat) := (true, [([], []), ([], []), ([0, 1, 1], [0, 1]), ([2, 2], [2]), ([3], [3]), ([4, 3], [3, 4]), ([3, 5], [3, 5]), ([6, 3], [6]), ([7], [7]), ([8, 7, 7], [7, 8]), ([9, 7], [7, 9]), ([7, 10], [7, 10]), ([11, 9], [11]), ([12], [12]), ([13, 12], [12, 13]), ([14, 12], [12, 14]), ([12, 15], [12, 15]), ([16, 12], [16]), ([17], [17]), ([18, 17], [17, 18]), ([17, 19], [17, 19]), ([20, 17], [20]), ([21], [21]), ([22, 21, 21], [21, 22]), ([23, 21], [21, 23]), ([21, 24], [21, 24]), ([25, 23], [25]), ([26], [26]), ([27, 26], [26, 27]), ([28, 26], [26, 28]), ([26, 29], [26, 29]), ([30, 26], [30]), ([31], [31]), ([32, 31], [31, 32]), ([31, 33], [31, 33]), ([34, 31], [34]), ([35], [35]), ([36, 35, 35], [35, 36]), ([37, 35], [35, 37]), ([35, 38], [35, 38]), ([39, 37], [39]), ([40], [40]), ([41, 40, 40], [40, 41]), ([42, 40], [40, 42]), ([40, 43], [40, 43]), ([44, 42, 0, 1, 2, 3, 4, 5, 6, 7, 8, 9, 10, 11, 12, 13, 14, 15, 16, 17, 18, 19, 20, 21, 22, 23, 24, 25, 26, 27, 28, 29, 30, 31, 32, 33, 34, 35, 36, 37, 38, 39, 40, 41, 42, 43, 44], [44])])
def skifflaw20_awake.B5 : List Nat := [0, 0, 3, 7, 15, 31, 63, 127, 255, 511, 1023, 2047, 4095, 8191, 16383, 32767, 65535, 131071, 262143, 524287, 1048575, 2097151, 4194303, 8388607, 16777215, 33554431, 67108863, 134217727, 268435455, 536870911, 1073741823, 2147483647, 4294967295, 8589934591, 17179869183, 34359738367, 68719476735, 137438953471, 274877906943, 549755813887, 1099511627775, 2199023255551, 4398046511103, 8796093022207, 17592186044415, 35184372088831]
theorem skifflaw20_awake.tab5 : rtab .any (opsOf Try.f15 5) = skifflaw20_awake.T5 := by kernel_rfl
theorem skifflaw20_awake.bits5 : waitsOk skifflaw20_awake.T5.2 skifflaw20_awake.B5 = true := by kernel_rfl
set_option maxHeartbeats 8000000 in
set_option maxRecDepth 100000 in
theorem skifflaw20_awake.calls (k : Nat)  (r : Bool) (w : World) (h : skifflaw20_awake.f k  = some r) :
  Calls Try.prog 15 #[] w fun e w' => e = .returned (.bool r) ∧ Below w.heap.size w w' := by
 have hu24 := Try.underlying24
 have HB := Aside0.mk (Below.refl w.heap.size w)
 have H : ((skifflaw20_held.f k).bind fun t419 => ((upload_Give.f k t419 0 0 0 0 0 ([] : List (S68)) 0 32).bind fun bt420 => ((skifflaw20_held.f k).bind fun t431 => ((upload_Give.f k t431 0 0 0 0 0 ([] : List (S68)) 1 32).bind fun bt432 => ((skiffref1_Blank.f).bind fun t443 => ((upload_Give.f k t443 0 0 0 0 0 ([] : List (S68)) 0 32).bind fun bt444 => ((skifflaw20_held.f k).bind fun t455 => ((upload_Give.f k t455 2 0 0 0 0 ([] : List (S68)) 0 32).bind fun bt456 => ((skiffref16_NewDevice.f).bind fun bt467 => ((skifflaw0_SameDevice.f k bt420.1 bt420.2.1 bt420.2.2.1 bt420.2.2.2.1 bt420.2.2.2.2.1 bt420.2.2.2.2.2.1 bt467.1 bt467.2.1 bt467.2.2.1 bt467.2.2.2.1 bt467.2.2.2.2.1 bt467.2.2.2.2.2).bind fun t475 => (if t475 = true then (if bt420.2.2.2.2.2.2.1.toList = ([97, 98, 97, 98, 97, 98, 97, 98, 97, 98, 97, 98] : List UInt8) then ((skifflaw0_Num.f bt420.2.2.2.2.2.2.2).bind fun t476 => (if t476 = 0 then (if bt432.2.1 = 4 then (if bt432.2.2.2.2.2.2.1.toList = ([] : List UInt8) then ((skifflaw0_Num.f bt432.2.2.2.2.2.2.2).bind fun t477 => (if t477 = 0 then (if bt444.2.1 = 2 then (if bt444.2.2.2.2.2.2.1.toList = ([] : List UInt8) then ((skifflaw0_Num.f bt444.2.2.2.2.2.2.2).bind fun t478 => (if t478 = 0 then ((skifflaw0_Num.f bt456.2.2.2.2.2.2.2).bind fun t479 => (some (t479 == 2000))) else (none))) else (none)) else (none)) else (none))) else (none)) else (none)) else (none))) else (none)) else (none)))))))))))) = some r := h
 clear h
 replace H := Option.bind_eq_some_iff.mp H
 obtain ⟨t419, A10, H⟩ := H
 replace H : ((upload_Give.f k t419 0 0 0 0 0 ([] : List (S68)) 0 32).bind fun bt420 => ((skifflaw20_held.f k).bind fun t431 => ((upload_Give.f k t431 0 0 0 0 0 ([] : List (S68)) 1 32).bind fun bt432 => ((skiffref1_Blank.f).bind fun t443 => ((upload_Give.f k t443 0 0 0 0 0 ([] : List (S68)) 0 32).bind fun bt444 => ((skifflaw20_held.f k).bind fun t455 => ((upload_Give.f k t455 2 0 0 0 0 ([] : List (S68)) 0 32).bind fun bt456 => ((skiffref16_NewDevice.f).bind fun bt467 => ((skifflaw0_SameDevice.f k bt420.1 bt420.2.1 bt420.2.2.1 bt420.2.2.2.1 bt420.2.2.2.2.1 bt420.2.2.2.2.2.1 bt467.1 bt467.2.1 bt467.2.2.1 bt467.2.2.2.1 bt467.2.2.2.2.1 bt467.2.2.2.2.2).bind fun t475 => (if t475 = true then (if bt420.2.2.2.2.2.2.1.toList = ([97, 98, 97, 98, 97, 98, 97, 98, 97, 98, 97, 98] : List UInt8) then ((skifflaw0_Num.f bt420.2.2.2.2.2.2.2).bind fun t476 => (if t476 = 0 then (if bt432.2.1 = 4 then (if bt432.2.2.2.2.2.2.1.toList = ([] : List UInt8) then ((skifflaw0_Num.f bt432.2.2.2.2.2.2.2).bind fun t477 => (if t477 = 0 then (if bt444.2.1 = 2 then (if bt444.2.2.2.2.2.2.1.toList = ([] : List UInt8) then ((skifflaw0_Num.f bt444.2.2.2.2.2.2.2).bind fun t478 => (if t478 = 0 then ((skifflaw0_Num.f bt456.2.2.2.2.2.2.2).bind fun t479 => (some (t479 == 2000))) else (none))) else (none)) else (none)) else (none))) else (none)) else (none)) else (none))) else (none)) else (none))))))))))) = some r := H
 have A1 := Aside0.mk A10
 clear A10
 replace H := Option.bind_eq_some_iff.mp H
 obtain ⟨⟨t420, t421, t422, t423, t424, t425, t428, t429⟩, A20, H⟩ := H
 replace H : ((skifflaw20_held.f k).bind fun t431 => ((upload_Give.f k t431 0 0 0 0 0 ([] : List (S68)) 1 32).bind fun bt432 => ((skiffref1_Blank.f).bind fun t443 => ((upload_Give.f k t443 0 0 0 0 0 ([] : List (S68)) 0 32).bind fun bt444 => ((skifflaw20_held.f k).bind fun t455 => ((upload_Give.f k t455 2 0 0 0 0 ([] : List (S68)) 0 32).bind fun bt456 => ((skiffref16_NewDevice.f).bind fun bt467 => ((skifflaw0_SameDevice.f k t420 t421 t422 t423 t424 t425 bt467.1 bt467.2.1 bt467.2.2.1 bt467.2.2.2.1 bt467.2.2.2.2.1 bt467.2.2.2.2.2).bind fun t475 => (if t475 = true then (if t428.toList = ([97, 98, 97, 98, 97, 98, 97, 98, 97, 98, 97, 98] : List UInt8) then ((skifflaw0_Num.f t429).bind fun t476 => (if t476 = 0 then (if bt432.2.1 = 4 then (if bt432.2.2.2.2.2.2.1.toList = ([] : List UInt8) then ((skifflaw0_Num.f bt432.2.2.2.2.2.2.2).bind fun t477 => (if t477 = 0 then (if bt444.2.1 = 2 then (if bt444.2.2.2.2.2.2.1.toList = ([] : List UInt8) then ((skifflaw0_Num.f bt444.2.2.2.2.2.2.2).bind fun t478 => (if t478 = 0 then ((skifflaw0_Num.f bt456.2.2.2.2.2.2.2).bind fun t479 => (some (t479 == 2000))) else (none))) else (none)) else (none)) else (none))) else (none)) else (none)) else (none))) else (none)) else (none)))))))))) = some r := H
 have A2 := Aside0.mk A20
 clear A20
 replace H := Option.bind_eq_some_iff.mp H
 obtain ⟨t431, A30, H⟩ := H
 replace H : ((upload_Give.f k t431 0 0 0 0 0 ([] : List (S68)) 1 32).bind fun bt432 => ((skiffref1_Blank.f).bind fun t443 => ((upload_Give.f k t443 0 0 0 0 0 ([] : List (S68)) 0 32).bind fun bt444 => ((skifflaw20_held.f k).bind fun t455 => ((upload_Give.f k t455 2 0 0 0 0 ([] : List (S68)) 0 32).bind fun bt456 => ((skiffref16_NewDevice.f).bind fun bt467 => ((skifflaw0_SameDevice.f k t420 t421 t422 t423 t424 t425 bt467.1 bt467.2.1 bt467.2.2.1 bt467.2.2.2.1 bt467.2.2.2.2.1 bt467.2.2.2.2.2).bind fun t475 => (if t475 = true then (if t428.toList = ([97, 98, 97, 98, 97, 98, 97, 98, 97, 98, 97, 98] : List UInt8) then ((skifflaw0_Num.f t429).bind fun t476 => (if t476 = 0 then (if bt432.2.1 = 4 then (if bt432.2.2.2.2.2.2.1.toList = ([] : List UInt8) then ((skifflaw0_Num.f bt432.2.2.2.2.2.2.2).bind fun t477 => (if t477 = 0 then (if bt444.2.1 = 2 then (if bt444.2.2.2.2.2.2.1.toList = ([] : List UInt8) then ((skifflaw0_Num.f bt444.2.2.2.2.2.2.2).bind fun t478 => (if t478 = 0 then ((skifflaw0_Num.f bt456.2.2.2.2.2.2.2).bind fun t479 => (some (t479 == 2000))) else (none))) else (none)) else (none)) else (none))) else (none)) else (none)) else (none))) else (none)) else (none))))))))) = some r := H
 have A3 := Aside0.mk A30
 clear A30
 replace H := Option.bind_eq_some_iff.mp H
 obtain ⟨⟨t432, t433, t434, t435, t436, t437, t440, t441⟩, A40, H⟩ := H
 replace H : ((skiffref1_Blank.f).bind fun t443 => ((upload_Give.f k t443 0 0 0 0 0 ([] : List (S68)) 0 32).bind fun bt444 => ((skifflaw20_held.f k).bind fun t455 => ((upload_Give.f k t455 2 0 0 0 0 ([] : List (S68)) 0 32).bind fun bt456 => ((skiffref16_NewDevice.f).bind fun bt467 => ((skifflaw0_SameDevice.f k t420 t421 t422 t423 t424 t425 bt467.1 bt467.2.1 bt467.2.2.1 bt467.2.2.2.1 bt467.2.2.2.2.1 bt467.2.2.2.2.2).bind fun t475 => (if t475 = true then (if t428.toList = ([97, 98, 97, 98, 97, 98, 97, 98, 97, 98, 97, 98] : List UInt8) then ((skifflaw0_Num.f t429).bind fun t476 => (if t476 = 0 then (if t433 = 4 then (if t440.toList = ([] : List UInt8) then ((skifflaw0_Num.f t441).bind fun t477 => (if t477 = 0 then (if bt444.2.1 = 2 then (if bt444.2.2.2.2.2.2.1.toList = ([] : List UInt8) then ((skifflaw0_Num.f bt444.2.2.2.2.2.2.2).bind fun t478 => (if t478 = 0 then ((skifflaw0_Num.f bt456.2.2.2.2.2.2.2).bind fun t479 => (some (t479 == 2000))) else (none))) else (none)) else (none)) else (none))) else (none)) else (none)) else (none))) else (none)) else (none)))))))) = some r := H
 have A4 := Aside0.mk A40
 clear A40
 replace H := Option.bind_eq_some_iff.mp H
 obtain ⟨t443, A50, H⟩ := H
 replace H : ((upload_Give.f k t443 0 0 0 0 0 ([] : List (S68)) 0 32).bind fun bt444 => ((skifflaw20_held.f k).bind fun t455 => ((upload_Give.f k t455 2 0 0 0 0 ([] : List (S68)) 0 32).bind fun bt456 => ((skiffref16_NewDevice.f).bind fun bt467 => ((skifflaw0_SameDevice.f k t420 t421 t422 t423 t424 t425 bt467.1 bt467.2.1 bt467.2.2.1 bt467.2.2.2.1 bt467.2.2.2.2.1 bt467.2.2.2.2.2).bind fun t475 => (if t475 = true then (if t428.toList = ([97, 98, 97, 98, 97, 98, 97, 98, 97, 98, 97, 98] : List UInt8) then ((skifflaw0_Num.f t429).bind fun t476 => (if t476 = 0 then (if t433 = 4 then (if t440.toList = ([] : List UInt8) then ((skifflaw0_Num.f t441).bind fun t477 => (if t477 = 0 then (if bt444.2.1 = 2 then (if bt444.2.2.2.2.2.2.1.toList = ([] : List UInt8) then ((skifflaw0_Num.f bt444.2.2.2.2.2.2.2).bind fun t478 => (if t478 = 0 then ((skifflaw0_Num.f bt456.2.2.2.2.2.2.2).bind fun t479 => (some (t479 == 2000))) else (none))) else (none)) else (none)) else (none))) else (none)) else (none)) else (none))) else (none)) else (none))))))) = some r := H
 have A5 := Aside0.mk A50
 clear A50
 replace H := Option.bind_eq_some_iff.mp H
 obtain ⟨⟨t444, t445, t446, t447, t448, t449, t452, t453⟩, A60, H⟩ := H
 replace H : ((skifflaw20_held.f k).bind fun t455 => ((upload_Give.f k t455 2 0 0 0 0 ([] : List (S68)) 0 32).bind fun bt456 => ((skiffref16_NewDevice.f).bind fun bt467 => ((skifflaw0_SameDevice.f k t420 t421 t422 t423 t424 t425 bt467.1 bt467.2.1 bt467.2.2.1 bt467.2.2.2.1 bt467.2.2.2.2.1 bt467.2.2.2.2.2).bind fun t475 => (if t475 = true then (if t428.toList = ([97, 98, 97, 98, 97, 98, 97, 98, 97, 98, 97, 98] : List UInt8) then ((skifflaw0_Num.f t429).bind fun t476 => (if t476 = 0 then (if t433 = 4 then (if t440.toList = ([] : List UInt8) then ((skifflaw0_Num.f t441).bind fun t477 => (if t477 = 0 then (if t445 = 2 then (if t452.toList = ([] : List UInt8) then ((skifflaw0_Num.f t453).bind fun t478 => (if t478 = 0 then ((skifflaw0_Num.f bt456.2.2.2.2.2.2.2).bind fun t479 => (some (t479 == 2000))) else (none))) else (none)) else (none)) else (none))) else (none)) else (none)) else (none))) else (none)) else (none)))))) = some r := H
 have A6 := Aside0.mk A60
 clear A60
 replace H := Option.bind_eq_some_iff.mp H
 obtain ⟨t455, A70, H⟩ := H
 replace H : ((upload_Give.f k t455 2 0 0 0 0 ([] : List (S68)) 0 32).bind fun bt456 => ((skiffref16_NewDevice.f).bind fun bt467 => ((skifflaw0_SameDevice.f k t420 t421 t422 t423 t424 t425 bt467.1 bt467.2.1 bt467.2.2.1 bt467.2.2.2.1 bt467.2.2.2.2.1 bt467.2.2.2.2.2).bind fun t475 => (if t475 = true then (if t428.toList = ([97, 98, 97, 98, 97, 98, 97, 98, 97, 98, 97, 98] : List UInt8) then ((skifflaw0_Num.f t429).bind fun t476 => (if t476 = 0 then (if t433 = 4 then (if t440.toList = ([] : List UInt8) then ((skifflaw0_Num.f t441).bind fun t477 => (if t477 = 0 then (if t445 = 2 then (if t452.toList = ([] : List UInt8) then ((skifflaw0_Num.f t453).bind fun t478 => (if t478 = 0 then ((skifflaw0_Num.f bt456.2.2.2.2.2.2.2).bind fun t479 => (some (t479 == 2000))) else (none))) else (none)) else (none)) else (none))) else (none)) else (none)) else (none))) else (none)) else (none))))) = some r := H
 have A7 := Aside0.mk A70
 clear A70
 replace H := Option.bind_eq_some_iff.mp H
 obtain ⟨⟨t456, t457, t458, t459, t460, t461, t464, t465⟩, A80, H⟩ := H
 replace H : ((skiffref16_NewDevice.f).bind fun bt467 => ((skifflaw0_SameDevice.f k t420 t421 t422 t423 t424 t425 bt467.1 bt467.2.1 bt467.2.2.1 bt467.2.2.2.1 bt467.2.2.2.2.1 bt467.2.2.2.2.2).bind fun t475 => (if t475 = true then (if t428.toList = ([97, 98, 97, 98, 97, 98, 97, 98, 97, 98, 97, 98] : List UInt8) then ((skifflaw0_Num.f t429).bind fun t476 => (if t476 = 0 then (if t433 = 4 then (if t440.toList = ([] : List UInt8) then ((skifflaw0_Num.f t441).bind fun t477 => (if t477 = 0 then (if t445 = 2 then (if t452.toList = ([] : List UInt8) then ((skifflaw0_Num.f t453).bind fun t478 => (if t478 = 0 then ((skifflaw0_Num.f t465).bind fun t479 => (some (t479 == 2000))) else (none))) else (none)) else (none)) else (none))) else (none)) else (none)) else (none))) else (none)) else (none)))) = some r := H
 have A8 := Aside0.mk A80
 clear A80
 replace H := Option.bind_eq_some_iff.mp H
 obtain ⟨⟨t467, t468, t469, t470, t471, t472⟩, A90, H⟩ := H
 replace H : ((skifflaw0_SameDevice.f k t420 t421 t422 t423 t424 t425 t467 t468 t469 t470 t471 t472).bind fun t475 => (if t475 = true then (if t428.toList = ([97, 98, 97, 98, 97, 98, 97, 98, 97, 98, 97, 98] : List UInt8) then ((skifflaw0_Num.f t429).bind fun t476 => (if t476 = 0 then (if t433 = 4 then (if t440.toList = ([] : List UInt8) then ((skifflaw0_Num.f t441).bind fun t477 => (if t477 = 0 then (if t445 = 2 then (if t452.toList = ([] : List UInt8) then ((skifflaw0_Num.f t453).bind fun t478 => (if t478 = 0 then ((skifflaw0_Num.f t465).bind fun t479 => (some (t479 == 2000))) else (none))) else (none)) else (none)) else (none))) else (none)) else (none)) else (none))) else (none)) else (none))) = some r := H
 have A9 := Aside0.mk A90
 clear A90
 replace H := Option.bind_eq_some_iff.mp H
 obtain ⟨t475, A100, H⟩ := H
 replace H : (if t475 = true then (if t428.toList = ([97, 98, 97, 98, 97, 98, 97, 98, 97, 98, 97, 98] : List UInt8) then ((skifflaw0_Num.f t429).bind fun t476 => (if t476 = 0 then (if t433 = 4 then (if t440.toList = ([] : List UInt8) then ((skifflaw0_Num.f t441).bind fun t477 => (if t477 = 0 then (if t445 = 2 then (if t452.toList = ([] : List UInt8) then ((skifflaw0_Num.f t453).bind fun t478 => (if t478 = 0 then ((skifflaw0_Num.f t465).bind fun t479 => (some (t479 == 2000))) else (none))) else (none)) else (none)) else (none))) else (none)) else (none)) else (none))) else (none)) else (none)) = some r := H
 have A10 := Aside0.mk A100
 clear A100
 by_cases c11 : t475 = true
 case neg =>
  replace c11 := Bool.eq_false_iff.mpr c11
  subst c11
  have H1 : (none) = some r := by rw [if_neg (show ¬ (false = true) by decide)] at H; exact H
  clear H; have H := H1; clear H1
  exact absurd H (by simp)
 subst c11
 have H1 : (if t428.toList = ([97, 98, 97, 98, 97, 98, 97, 98, 97, 98, 97, 98] : List UInt8) then ((skifflaw0_Num.f t429).bind fun t476 => (if t476 = 0 then (if t433 = 4 then (if t440.toList = ([] : List UInt8) then ((skifflaw0_Num.f t441).bind fun t477 => (if t477 = 0 then (if t445 = 2 then (if t452.toList = ([] : List UInt8) then ((skifflaw0_Num.f t453).bind fun t478 => (if t478 = 0 then ((skifflaw0_Num.f t465).bind fun t479 => (some (t479 == 2000))) else (none))) else (none)) else (none)) else (none))) else (none)) else (none)) else (none))) else (none)) = some r := by rw [if_pos rfl] at H; exact H
 clear H; have H := H1; clear H1
 by_cases c12 : t428.toList = ([97, 98, 97, 98, 97, 98, 97, 98, 97, 98, 97, 98] : List UInt8)
 case neg =>
  rw [if_neg c12] at H
  exact absurd H (by simp)
 rw [if_pos c12] at H
 have c12b0 : (t428.toList == ([97, 98, 97, 98, 97, 98, 97, 98, 97, 98, 97, 98] : List UInt8)) = true := beq_iff_eq.mpr c12
 have c12b1 : (t428.toList != ([97, 98, 97, 98, 97, 98, 97, 98, 97, 98, 97, 98] : List UInt8)) = false := bne_eq_false_iff_eq.mpr c12
 clear c12
 replace H := Option.bind_eq_some_iff.mp H
 obtain ⟨t476, A130, H⟩ := H
 replace H : (if t476 = 0 then (if t433 = 4 then (if t440.toList = ([] : List UInt8) then ((skifflaw0_Num.f t441).bind fun t477 => (if t477 = 0 then (if t445 = 2 then (if t452.toList = ([] : List UInt8) then ((skifflaw0_Num.f t453).bind fun t478 => (if t478 = 0 then ((skifflaw0_Num.f t465).bind fun t479 => (some (t479 == 2000))) else (none))) else (none)) else (none)) else (none))) else (none)) else (none)) else (none)) = some r := H
 have A13 := Aside0.mk A130
 clear A130
 by_cases c14 : t476 = 0
 case neg =>
  rw [if_neg c14] at H
  exact absurd H (by simp)
 rw [if_pos c14] at H
 have c14b0 : (t476 == 0) = true := beq_iff_eq.mpr c14
 have c14b1 : (t476 != 0) = false := bne_eq_false_iff_eq.mpr c14
 clear c14
 by_cases c15 : t433 = 4
 case neg =>
  rw [if_neg c15] at H
  exact absurd H (by simp)
 rw [if_pos c15] at H
 have c15b0 : (t433 == 4) = true := beq_iff_eq.mpr c15
 have c15b1 : (t433 != 4) = false := bne_eq_false_iff_eq.mpr c15
 clear c15
 by_cases c16 : t440.toList = ([] : List UInt8)
 case neg =>
  rw [if_neg c16] at H
  exact absurd H (by simp)
 rw [if_pos c16] at H
 have c16b0 : (t440.toList == ([] : List UInt8)) = true := beq_iff_eq.mpr c16
 have c16b1 : (t440.toList != ([] : List UInt8)) = false := bne_eq_false_iff_eq.mpr c16
 clear c16
 replace H := Option.bind_eq_some_iff.mp H
 obtain ⟨t477, A170, H⟩ := H
 replace H : (if t477 = 0 then (if t445 = 2 then (if t452.toList = ([] : List UInt8) then ((skifflaw0_Num.f t453).bind fun t478 => (if t478 = 0 then ((skifflaw0_Num.f t465).bind fun t479 => (some (t479 == 2000))) else (none))) else (none)) else (none)) else (none)) = some r := H
 have A17 := Aside0.mk A170
 clear A170
 by_cases c18 : t477 = 0
 case neg =>
  rw [if_neg c18] at H
  exact absurd H (by simp)
 rw [if_pos c18] at H
 have c18b0 : (t477 == 0) = true := beq_iff_eq.mpr c18
 have c18b1 : (t477 != 0) = false := bne_eq_false_iff_eq.mpr c18
 clear c18
 by_cases c19 : t445 = 2
 case neg =>
  rw [if_neg c19] at H
  exact absurd H (by simp)
 rw [if_pos c19] at H
 have c19b0 : (t445 == 2) = true := beq_iff_eq.mpr c19
 have c19b1 : (t445 != 2) = false := bne_eq_false_iff_eq.mpr c19
 clear c19
 by_cases c20 : t452.toList = ([] : List UInt8)
 case neg =>
  rw [if_neg c20] at H
  exact absurd H (by simp)
 rw [if_pos c20] at H
 have c20b0 : (t452.toList == ([] : List UInt8)) = true := beq_iff_eq.mpr c20
 have c20b1 : (t452.toList != ([] : List UInt8)) = false := bne_eq_false_iff_eq.mpr c20
 clear c20
 replace H := Option.bind_eq_some_iff.mp H
 obtain ⟨t478, A210, H⟩ := H
 replace H : (if t478 = 0 then ((skifflaw0_Num.f t465).bind fun t479 => (some (t479 == 2000))) else (none)) = some r := H
 have A21 := Aside0.mk A210
 clear A210
 by_cases c22 : t478 = 0
 case neg =>
  rw [if_neg c22] at H
  exact absurd H (by simp)
 rw [if_pos c22] at H
 have c22b0 : (t478 == 0) = true := beq_iff_eq.mpr c22
 have c22b1 : (t478 != 0) = false := bne_eq_false_iff_eq.mpr c22
 clear c22
 replace H := Option.bind_eq_some_iff.mp H
 obtain ⟨t479, A230, H⟩ := H
 replace H : (some (t479 == 2000)) = some r := H
 have A23 := Aside0.mk A230
 clear A230
 obtain rfl := Option.some.inj H
 go_enter Try.func15, Try.ntmps15
 try go_wp2_with (first | ((with_reducible refine gate_callee (f := 16) rfl ?_); refine goesL_ (some 14) rfl rfl Try.func16 (by kernel_rfl) rfl #[] rfl ka ?_; (with_reducible refine (skifflaw20_held.calls k  t419 _ A1.out).mono ?_); rintro e w24 ⟨rfl, hb⟩; refine ⟨_, rfl, ?_⟩; have n0_ := Aside0.mk (below_step (kb HB.out) hb); clear HB; have HB := n0_; clear n0_; (try clear hb); (try clear hb2); (try clear hk); (try clear hi)) | ((with_reducible refine gate_callee (f := 10) rfl ?_); refine goesL_ (some 16) rfl rfl Try.func10 (by kernel_rfl) rfl #[.string t419, .agg #[.int .i64 0, .int .i64 0, .int .i64 0, .int .i64 0, .int .i64 0, .slice none 0 0], .int .i64 0, .int .i64 32] rfl ka ?_; (refine (upload_Give.calls k t419 0 0 0 0 0 _ _ ([] : List (S68)) 0 32 t420 t421 t422 t423 t424 t425 t428 t429 _ ?side1 ?side2 A2.out).mono ?_); (case side1 => exact Kd.C_nil _ _); (case side2 => exact Nat.le_refl _); rintro e w25 ⟨v426, rfl, ho0, hb⟩; refine ⟨_, rfl, ?_⟩; have n0_ := Aside0.mk (Kd.R_lower ho0 (below_size (kb HB.out))); have n1_ := Aside0.mk (below_step (kb HB.out) hb); clear HB; have HO427 := n0_; have HB := n1_; clear n0_ n1_; (try clear hb); (try clear hb2); (try clear hk); (try clear hi); (try clear ho0)) | ((with_reducible refine gate_dst (N := 1) rfl ?_); refine box_event ?hg (N := 1) ?hd (cs := #[.int .i64 0, .int .i64 0, .int .i64 0, .int .i64 0, .int .i64 0, .slice none 0 0]) (t := 24) ?hr ?_; (case hd => rfl); (case hg => rfl); (case hr => first | (go_simp; done) | (go_simp; rfl)); intro gb430 hg w26 hbox hb; have n0_ := Aside0.mk (Kd.R_below (kR HO427.out) hb); have n1_ := Aside0.mk (below_step (kb HB.out) hb); have n2_ := Aside0.mk (hbox); have n3_ := Aside0.mk ((kz hg (below_size (kb HB.out)) : w.heap.size ≤ gb430)); have n4_ := Aside0.mk ((kz hg (below_size (kb HB.out)) : w.heap.size ≤ gb430)); clear HO427; clear HB; have HO427 := n0_; have HB := n1_; have BK430 := n2_; have GW430 := n3_; have GE430 := n4_; clear n0_ n1_ n2_ n3_ n4_; clear hb hbox hg; obtain ⟨hcz27_0, hcz27_1, hcz27_2, hcz27_3, hcz27_4, hcz27_5⟩ := kc6 BK430.out; obtain ⟨hfz27_0, hfz27_1, hfz27_2, hfz27_3, hfz27_4, hfz27_5⟩ := kf6 BK430.out; obtain ⟨Ao28, co28, eo28⟩ := Kd.R_slice HO427.out; subst eo28) | ((with_reducible refine gate_callee (f := 16) rfl ?_); refine goesL_ (some 21) rfl rfl Try.func16 (by kernel_rfl) rfl #[] rfl ka ?_; (with_reducible refine (skifflaw20_held.calls k  t431 _ A3.out).mono ?_); rintro e w29 ⟨rfl, hb⟩; refine ⟨_, rfl, ?_⟩; have n0_ := Aside0.mk (Kd.R_below (by (with_reducible repeat (first | apply Kd.R_alloc | apply Kd.R_drewN | apply Kd.R_drew)); exact (Kd.R_mono (Kd.R_far (p := ⟨gb430, 5, none⟩) (Kd.R_far (p := ⟨gb430, 4, none⟩) (Kd.R_far (p := ⟨gb430, 3, none⟩) (Kd.R_far (p := ⟨gb430, 2, none⟩) (Kd.R_far (p := ⟨gb430, 1, none⟩) (Kd.R_far (p := ⟨gb430, 0, none⟩) (Kd.R_types HO427.out BK430.out (by decide)) (fun _ hk => hk.2) (.int .i64 t420)) (fun _ hk => hk.2) (.int .i64 t421)) (fun _ hk => hk.2) (.int .i64 t422)) (fun _ hk => hk.2) (.int .i64 t423)) (fun _ hk => hk.2) (.int .i64 t424)) (fun _ hk => hk.2) (.slice Ao28 t425.length co28)) (fun _ h_ => h_.1))) hb); have n1_ := Aside0.mk (blk_below (g := gb430) (o := .cells #[.int .i64 t420, .int .i64 t421, .int .i64 t422, .int .i64 t423, .int .i64 t424, .slice Ao28 t425.length co28] 24 (0, 0)) (kP6 BK430.out) hb); have n2_ := Aside0.mk (below_step (kb1 HB.out GE430.out) hb); clear HO427; clear BK430; clear HB; have HO427 := n0_; have BK430 := n1_; have HB := n2_; clear n0_ n1_ n2_; (try clear hb); (try clear hb2); (try clear hk); (try clear hi)) | ((with_reducible refine gate_callee (f := 10) rfl ?_); refine goesL_ (some 23) rfl rfl Try.func10 (by kernel_rfl) rfl #[.string t431, .agg #[.int .i64 0, .int .i64 0, .int .i64 0, .int .i64 0, .int .i64 0, .slice none 0 0], .int .i64 1, .int .i64 32] rfl ka ?_; (refine (upload_Give.calls k t431 0 0 0 0 0 _ _ ([] : List (S68)) 1 32 t432 t433 t434 t435 t436 t437 t440 t441 _ ?side1 ?side2 A4.out).mono ?_); (case side1 => exact Kd.C_nil _ _); (case side2 => exact Nat.le_refl _); rintro e w30 ⟨v438, rfl, ho0, hb⟩; refine ⟨_, rfl, ?_⟩; have n0_ := Aside0.mk (Kd.R_elder' (kR HO427.out) (Kd.R_base ho0) hb); have n1_ := Aside0.mk (Kd.R_lower (Kd.R_new' ho0 (Kd.R_lt (kR HO427.out))) (below_size (kb1 HB.out GE430.out))); have n2_ := Aside0.mk (kL BK430.out hb); have n3_ := Aside0.mk (below_step (kb1 HB.out GE430.out) hb); clear HO427; clear BK430; clear HB; have HO427 := n0_; have HO439 := n1_; have BK430 := n2_; have HB := n3_; clear n0_ n1_ n2_ n3_; (try clear hb); (try clear hb2); (try clear hk); (try clear hi); (try clear ho0)) | ((with_reducible refine gate_dst (N := 4) rfl ?_); refine box_event ?hg (N := 4) ?hd (cs := #[.int .i64 0, .int .i64 0, .int .i64 0, .int .i64 0, .int .i64 0, .slice none 0 0]) (t := 24) ?hr ?_; (case hd => rfl); (case hg => rfl); (case hr => first | (go_simp; done) | (go_simp; rfl)); intro gb442 hg w31 hbox hb; have n0_ := Aside0.mk (Kd.R_below (kR HO427.out) hb); have n1_ := Aside0.mk (Kd.R_below (kR HO439.out) hb); have n2_ := Aside0.mk (kL BK430.out hb); have n3_ := Aside0.mk (below_step (kb1 HB.out GE430.out) hb); have n4_ := Aside0.mk (hbox); have n5_ := Aside0.mk ((kz hg (below_size (kb1 HB.out GE430.out)) : w.heap.size ≤ gb442)); have n6_ := Aside0.mk ((kz hg (below_size (kb1 HB.out GE430.out)) : w.heap.size ≤ gb442)); have n7_ := Aside0.mk ((kN hg BK430.out : gb430 ≠ gb442)); have n8_ := Aside0.mk (((kN hg BK430.out).symm : gb442 ≠ gb430)); clear HO427; clear HO439; clear BK430; clear HB; have HO427 := n0_; have HO439 := n1_; have BK430 := n2_; have HB := n3_; have BK442 := n4_; have GW442 := n5_; have GE442 := n6_; have NB430_442 := n7_; have NB442_430 := n8_; clear n0_ n1_ n2_ n3_ n4_ n5_ n6_ n7_ n8_; clear hb hbox hg; have hnb32 := NB442_430.out; have hnc32 := NB430_442.out; obtain ⟨hcz33_0, hcz33_1, hcz33_2, hcz33_3, hcz33_4, hcz33_5⟩ := kc6 BK442.out; obtain ⟨hfz33_0, hfz33_1, hfz33_2, hfz33_3, hfz33_4, hfz33_5⟩ := kf6 BK442.out; obtain ⟨Ao34, co34, eo34⟩ := Kd.R_slice HO439.out; subst eo34) | ((with_reducible refine gate_callee (f := 36) rfl ?_); refine goesL_ (some 28) rfl rfl Try.func36 (by kernel_rfl) rfl #[] rfl ka ?_; (with_reducible refine (skiffref1_Blank.calls  t443 _ A5.out).mono ?_); rintro e w35 ⟨rfl, hb⟩; refine ⟨_, rfl, ?_⟩; have n0_ := Aside0.mk (Kd.R_below (by (with_reducible repeat (first | apply Kd.R_alloc | apply Kd.R_drewN | apply Kd.R_drew)); exact (Kd.R_mono (Kd.R_far (p := ⟨gb442, 5, none⟩) (Kd.R_far (p := ⟨gb442, 4, none⟩) (Kd.R_far (p := ⟨gb442, 3, none⟩) (Kd.R_far (p := ⟨gb442, 2, none⟩) (Kd.R_far (p := ⟨gb442, 1, none⟩) (Kd.R_far (p := ⟨gb442, 0, none⟩) (Kd.R_types HO427.out BK442.out (by decide)) (fun _ hk => hk.2) (.int .i64 t432)) (fun _ hk => hk.2) (.int .i64 t433)) (fun _ hk => hk.2) (.int .i64 t434)) (fun _ hk => hk.2) (.int .i64 t435)) (fun _ hk => hk.2) (.int .i64 t436)) (fun _ hk => hk.2) (.slice Ao34 t437.length co34)) (fun _ h_ => h_.1))) hb); have n1_ := Aside0.mk (Kd.R_below (by (with_reducible repeat (first | apply Kd.R_alloc | apply Kd.R_drewN | apply Kd.R_drew)); exact (Kd.R_mono (Kd.R_far (p := ⟨gb442, 5, none⟩) (Kd.R_far (p := ⟨gb442, 4, none⟩) (Kd.R_far (p := ⟨gb442, 3, none⟩) (Kd.R_far (p := ⟨gb442, 2, none⟩) (Kd.R_far (p := ⟨gb442, 1, none⟩) (Kd.R_far (p := ⟨gb442, 0, none⟩) (Kd.R_types HO439.out BK442.out (by decide)) (fun _ hk => hk.2) (.int .i64 t432)) (fun _ hk => hk.2) (.int .i64 t433)) (fun _ hk => hk.2) (.int .i64 t434)) (fun _ hk => hk.2) (.int .i64 t435)) (fun _ hk => hk.2) (.int .i64 t436)) (fun _ hk => hk.2) (.slice Ao34 t437.length co34)) (fun _ h_ => h_.1))) hb); have n2_ := Aside0.mk (blk_below (g := gb430) (o := .cells #[.int .i64 t420, .int .i64 t421, .int .i64 t422, .int .i64 t423, .int .i64 t424, .slice Ao28 t425.length co28] 24 (0, 0)) (kFa6 BK430.out NB430_442.out) hb); have n3_ := Aside0.mk (blk_below (g := gb442) (o := .cells #[.int .i64 t432, .int .i64 t433, .int .i64 t434, .int .i64 t435, .int .i64 t436, .slice Ao34 t437.length co34] 24 (0, 0)) (kP6 BK442.out) hb); have n4_ := Aside0.mk (below_step (kb2 HB.out GE430.out GE442.out) hb); clear HO427; clear HO439; clear BK430; clear BK442; clear HB; have HO427 := n0_; have HO439 := n1_; have BK430 := n2_; have BK442 := n3_; have HB := n4_; clear n0_ n1_ n2_ n3_ n4_; (try clear hb); (try clear hb2); (try clear hk); (try clear hi)) | ((with_reducible refine gate_callee (f := 10) rfl ?_); refine goesL_ (some 30) rfl rfl Try.func10 (by kernel_rfl) rfl #[.string t443, .agg #[.int .i64 0, .int .i64 0, .int .i64 0, .int .i64 0, .int .i64 0, .slice none 0 0], .int .i64 0, .int .i64 32] rfl ka ?_; (refine (upload_Give.calls k t443 0 0 0 0 0 _ _ ([] : List (S68)) 0 32 t444 t445 t446 t447 t448 t449 t452 t453 _ ?side1 ?side2 A6.out).mono ?_); (case side1 => exact Kd.C_nil _ _); (case side2 => exact Nat.le_refl _); rintro e w36 ⟨v450, rfl, ho0, hb⟩; refine ⟨_, rfl, ?_⟩; have n0_ := Aside0.mk (Kd.R_elder' (kR HO427.out) (Kd.R_base ho0) hb); have n1_ := Aside0.mk (Kd.R_elder' (kR HO439.out) (Kd.R_base ho0) hb); have n2_ := Aside0.mk (Kd.R_lower (Kd.R_new' (Kd.R_new' ho0 (Kd.R_lt (kR HO427.out))) (Kd.R_lt (kR HO439.out))) (below_size (kb2 HB.out GE430.out GE442.out))); have n3_ := Aside0.mk (kL BK430.out hb); have n4_ := Aside0.mk (kL BK442.out hb); have n5_ := Aside0.mk (below_step (kb2 HB.out GE430.out GE442.out) hb); clear HO427; clear HO439; clear BK430; clear BK442; clear HB; have HO427 := n0_; have HO439 := n1_; have HO451 := n2_; have BK430 := n3_; have BK442 := n4_; have HB := n5_; clear n0_ n1_ n2_ n3_ n4_ n5_; (try clear hb); (try clear hb2); (try clear hk); (try clear hi); (try clear ho0)) | ((with_reducible refine gate_dst (N := 7) rfl ?_); refine box_event ?hg (N := 7) ?hd (cs := #[.int .i64 0, .int .i64 0, .int .i64 0, .int .i64 0, .int .i64 0, .slice none 0 0]) (t := 24) ?hr ?_; (case hd => rfl); (case hg => rfl); (case hr => first | (go_simp; done) | (go_simp; rfl)); intro gb454 hg w37 hbox hb; have n0_ := Aside0.mk (Kd.R_below (kR HO427.out) hb); have n1_ := Aside0.mk (Kd.R_below (kR HO439.out) hb); have n2_ := Aside0.mk (Kd.R_below (kR HO451.out) hb); have n3_ := Aside0.mk (kL BK430.out hb); have n4_ := Aside0.mk (kL BK442.out hb); have n5_ := Aside0.mk (below_step (kb2 HB.out GE430.out GE442.out) hb); have n6_ := Aside0.mk (hbox); have n7_ := Aside0.mk ((kz hg (below_size (kb2 HB.out GE430.out GE442.out)) : w.heap.size ≤ gb454)); have n8_ := Aside0.mk ((kz hg (below_size (kb2 HB.out GE430.out GE442.out)) : w.heap.size ≤ gb454)); have n9_ := Aside0.mk ((kN hg BK430.out : gb430 ≠ gb454)); have n10_ := Aside0.mk (((kN hg BK430.out).symm : gb454 ≠ gb430)); have n11_ := Aside0.mk ((kN hg BK442.out : gb442 ≠ gb454)); have n12_ := Aside0.mk (((kN hg BK442.out).symm : gb454 ≠ gb442)); clear HO427; clear HO439; clear HO451; clear BK430; clear BK442; clear HB; have HO427 := n0_; have HO439 := n1_; have HO451 := n2_; have BK430 := n3_; have BK442 := n4_; have HB := n5_; have BK454 := n6_; have GW454 := n7_; have GE454 := n8_; have NB430_454 := n9_; have NB454_430 := n10_; have NB442_454 := n11_; have NB454_442 := n12_; clear n0_ n1_ n2_ n3_ n4_ n5_ n6_ n7_ n8_ n9_ n10_ n11_ n12_; clear hb hbox hg; have hnb38 := NB454_430.out; have hnc38 := NB430_454.out; have hnb39 := NB454_442.out; have hnc39 := NB442_454.out; obtain ⟨hcz40_0, hcz40_1, hcz40_2, hcz40_3, hcz40_4, hcz40_5⟩ := kc6 BK454.out; obtain ⟨hfz40_0, hfz40_1, hfz40_2, hfz40_3, hfz40_4, hfz40_5⟩ := kf6 BK454.out; obtain ⟨Ao41, co41, eo41⟩ := Kd.R_slice HO451.out; subst eo41) | ((with_reducible refine gate_callee (f := 16) rfl ?_); refine goesL_ (some 35) rfl rfl Try.func16 (by kernel_rfl) rfl #[] rfl ka ?_; (with_reducible refine (skifflaw20_held.calls k  t455 _ A7.out).mono ?_); rintro e w42 ⟨rfl, hb⟩; refine ⟨_, rfl, ?_⟩; have n0_ := Aside0.mk (Kd.R_below (by (with_reducible repeat (first | apply Kd.R_alloc | apply Kd.R_drewN | apply Kd.R_drew)); exact (Kd.R_mono (Kd.R_far (p := ⟨gb454, 5, none⟩) (Kd.R_far (p := ⟨gb454, 4, none⟩) (Kd.R_far (p := ⟨gb454, 3, none⟩) (Kd.R_far (p := ⟨gb454, 2, none⟩) (Kd.R_far (p := ⟨gb454, 1, none⟩) (Kd.R_far (p := ⟨gb454, 0, none⟩) (Kd.R_types HO427.out BK454.out (by decide)) (fun _ hk => hk.2) (.int .i64 t444)) (fun _ hk => hk.2) (.int .i64 t445)) (fun _ hk => hk.2) (.int .i64 t446)) (fun _ hk => hk.2) (.int .i64 t447)) (fun _ hk => hk.2) (.int .i64 t448)) (fun _ hk => hk.2) (.slice Ao41 t449.length co41)) (fun _ h_ => h_.1))) hb); have n1_ := Aside0.mk (Kd.R_below (by (with_reducible repeat (first | apply Kd.R_alloc | apply Kd.R_drewN | apply Kd.R_drew)); exact (Kd.R_mono (Kd.R_far (p := ⟨gb454, 5, none⟩) (Kd.R_far (p := ⟨gb454, 4, none⟩) (Kd.R_far (p := ⟨gb454, 3, none⟩) (Kd.R_far (p := ⟨gb454, 2, none⟩) (Kd.R_far (p := ⟨gb454, 1, none⟩) (Kd.R_far (p := ⟨gb454, 0, none⟩) (Kd.R_types HO439.out BK454.out (by decide)) (fun _ hk => hk.2) (.int .i64 t444)) (fun _ hk => hk.2) (.int .i64 t445)) (fun _ hk => hk.2) (.int .i64 t446)) (fun _ hk => hk.2) (.int .i64 t447)) (fun _ hk => hk.2) (.int .i64 t448)) (fun _ hk => hk.2) (.slice Ao41 t449.length co41)) (fun _ h_ => h_.1))) hb); have n2_ := Aside0.mk (Kd.R_below (by (with_reducible repeat (first | apply Kd.R_alloc | apply Kd.R_drewN | apply Kd.R_drew)); exact (Kd.R_mono (Kd.R_far (p := ⟨gb454, 5, none⟩) (Kd.R_far (p := ⟨gb454, 4, none⟩) (Kd.R_far (p := ⟨gb454, 3, none⟩) (Kd.R_far (p := ⟨gb454, 2, none⟩) (Kd.R_far (p := ⟨gb454, 1, none⟩) (Kd.R_far (p := ⟨gb454, 0, none⟩) (Kd.R_types HO451.out BK454.out (by decide)) (fun _ hk => hk.2) (.int .i64 t444)) (fun _ hk => hk.2) (.int .i64 t445)) (fun _ hk => hk.2) (.int .i64 t446)) (fun _ hk => hk.2) (.int .i64 t447)) (fun _ hk => hk.2) (.int .i64 t448)) (fun _ hk => hk.2) (.slice Ao41 t449.length co41)) (fun _ h_ => h_.1))) hb); have n3_ := Aside0.mk (blk_below (g := gb430) (o := .cells #[.int .i64 t420, .int .i64 t421, .int .i64 t422, .int .i64 t423, .int .i64 t424, .slice Ao28 t425.length co28] 24 (0, 0)) (kFa6 BK430.out NB430_454.out) hb); have n4_ := Aside0.mk (blk_below (g := gb442) (o := .cells #[.int .i64 t432, .int .i64 t433, .int .i64 t434, .int .i64 t435, .int .i64 t436, .slice Ao34 t437.length co34] 24 (0, 0)) (kFa6 BK442.out NB442_454.out) hb); have n5_ := Aside0.mk (blk_below (g := gb454) (o := .cells #[.int .i64 t444, .int .i64 t445, .int .i64 t446, .int .i64 t447, .int .i64 t448, .slice Ao41 t449.length co41] 24 (0, 0)) (kP6 BK454.out) hb); have n6_ := Aside0.mk (below_step (kb3 HB.out GE430.out GE442.out GE454.out) hb); clear HO427; clear HO439; clear HO451; clear BK430; clear BK442; clear BK454; clear HB; have HO427 := n0_; have HO439 := n1_; have HO451 := n2_; have BK430 := n3_; have BK442 := n4_; have BK454 := n5_; have HB := n6_; clear n0_ n1_ n2_ n3_ n4_ n5_ n6_; (try clear hb); (try clear hb2); (try clear hk); (try clear hi)) | ((with_reducible refine gate_callee (f := 10) rfl ?_); refine goesL_ (some 37) rfl rfl Try.func10 (by kernel_rfl) rfl #[.string t455, .agg #[.int .i64 2, .int .i64 0, .int .i64 0, .int .i64 0, .int .i64 0, .slice none 0 0], .int .i64 0, .int .i64 32] rfl ka ?_; (refine (upload_Give.calls k t455 2 0 0 0 0 _ _ ([] : List (S68)) 0 32 t456 t457 t458 t459 t460 t461 t464 t465 _ ?side1 ?side2 A8.out).mono ?_); (case side1 => exact Kd.C_nil _ _); (case side2 => exact Nat.le_refl _); rintro e w43 ⟨v462, rfl, ho0, hb⟩; refine ⟨_, rfl, ?_⟩; have n0_ := Aside0.mk (Kd.R_elder' (kR HO427.out) (Kd.R_base ho0) hb); have n1_ := Aside0.mk (Kd.R_elder' (kR HO439.out) (Kd.R_base ho0) hb); have n2_ := Aside0.mk (Kd.R_elder' (kR HO451.out) (Kd.R_base ho0) hb); have n3_ := Aside0.mk (Kd.R_lower (Kd.R_new' (Kd.R_new' (Kd.R_new' ho0 (Kd.R_lt (kR HO427.out))) (Kd.R_lt (kR HO439.out))) (Kd.R_lt (kR HO451.out))) (below_size (kb3 HB.out GE430.out GE442.out GE454.out))); have n4_ := Aside0.mk (kL BK430.out hb); have n5_ := Aside0.mk (kL BK442.out hb); have n6_ := Aside0.mk (kL BK454.out hb); have n7_ := Aside0.mk (below_step (kb3 HB.out GE430.out GE442.out GE454.out) hb); clear HO427; clear HO439; clear HO451; clear BK430; clear BK442; clear BK454; clear HB; have HO427 := n0_; have HO439 := n1_; have HO451 := n2_; have HO463 := n3_; have BK430 := n4_; have BK442 := n5_; have BK454 := n6_; have HB := n7_; clear n0_ n1_ n2_ n3_ n4_ n5_ n6_ n7_; (try clear hb); (try clear hb2); (try clear hk); (try clear hi); (try clear ho0)) | ((with_reducible refine gate_dst (N := 10) rfl ?_); refine box_event ?hg (N := 10) ?hd (cs := #[.int .i64 0, .int .i64 0, .int .i64 0, .int .i64 0, .int .i64 0, .slice none 0 0]) (t := 24) ?hr ?_; (case hd => rfl); (case hg => rfl); (case hr => first | (go_simp; done) | (go_simp; rfl)); intro gb466 hg w44 hbox hb; have n0_ := Aside0.mk (Kd.R_below (kR HO427.out) hb); have n1_ := Aside0.mk (Kd.R_below (kR HO439.out) hb); have n2_ := Aside0.mk (Kd.R_below (kR HO451.out) hb); have n3_ := Aside0.mk (Kd.R_below (kR HO463.out) hb); have n4_ := Aside0.mk (kL BK430.out hb); have n5_ := Aside0.mk (kL BK442.out hb); have n6_ := Aside0.mk (kL BK454.out hb); have n7_ := Aside0.mk (below_step (kb3 HB.out GE430.out GE442.out GE454.out) hb); have n8_ := Aside0.mk (hbox); have n9_ := Aside0.mk ((kz hg (below_size (kb3 HB.out GE430.out GE442.out GE454.out)) : w.heap.size ≤ gb466)); have n10_ := Aside0.mk ((kz hg (below_size (kb3 HB.out GE430.out GE442.out GE454.out)) : w.heap.size ≤ gb466)); have n11_ := Aside0.mk ((kN hg BK430.out : gb430 ≠ gb466)); have n12_ := Aside0.mk (((kN hg BK430.out).symm : gb466 ≠ gb430)); have n13_ := Aside0.mk ((kN hg BK442.out : gb442 ≠ gb466)); have n14_ := Aside0.mk (((kN hg BK442.out).symm : gb466 ≠ gb442)); have n15_ := Aside0.mk ((kN hg BK454.out : gb454 ≠ gb466)); have n16_ := Aside0.mk (((kN hg BK454.out).symm : gb466 ≠ gb454)); clear HO427; clear HO439; clear HO451; clear HO463; clear BK430; clear BK442; clear BK454; clear HB; have HO427 := n0_; have HO439 := n1_; have HO451 := n2_; have HO463 := n3_; have BK430 := n4_; have BK442 := n5_; have BK454 := n6_; have HB := n7_; have BK466 := n8_; have GW466 := n9_; have GE466 := n10_; have NB430_466 := n11_; have NB466_430 := n12_; have NB442_466 := n13_; have NB466_442 := n14_; have NB454_466 := n15_; have NB466_454 := n16_; clear n0_ n1_ n2_ n3_ n4_ n5_ n6_ n7_ n8_ n9_ n10_ n11_ n12_ n13_ n14_ n15_ n16_; clear hb hbox hg; have hnb45 := NB466_430.out; have hnc45 := NB430_466.out; have hnb46 := NB466_442.out; have hnc46 := NB442_466.out; have hnb47 := NB466_454.out; have hnc47 := NB454_466.out; obtain ⟨hcz48_0, hcz48_1, hcz48_2, hcz48_3, hcz48_4, hcz48_5⟩ := kc6 BK466.out; obtain ⟨hfz48_0, hfz48_1, hfz48_2, hfz48_3, hfz48_4, hfz48_5⟩ := kf6 BK466.out; obtain ⟨Ao49, co49, eo49⟩ := Kd.R_slice HO463.out; subst eo49))
 have n0_ : Aside0 (Kd.R k68 68 ((((((w44.setCell ⟨gb466, 0, none⟩ (.int .i64 t456)).setCell ⟨gb466, 1, none⟩ (.int .i64 t457)).setCell ⟨gb466, 2, none⟩ (.int .i64 t458)).setCell ⟨gb466, 3, none⟩ (.int .i64 t459)).setCell ⟨gb466, 4, none⟩ (.int .i64 t460)).setCell ⟨gb466, 5, none⟩ (.slice Ao49 t461.length co49)) w.heap.size (fun k_ => some k_ ≠ (.slice Ao34 t437.length co34 : Value).ownBlock ∧ some k_ ≠ (.slice Ao41 t449.length co41 : Value).ownBlock ∧ some k_ ≠ (.slice Ao49 t461.length co49 : Value).ownBlock) (.slice Ao28 t425.length co28) t425) := ⟨by (with_reducible repeat (first | apply Kd.R_alloc | apply Kd.R_drewN | apply Kd.R_drew)); exact Kd.R_mono (Kd.R_far (p := ⟨gb466, 5, none⟩) (Kd.R_far (p := ⟨gb466, 4, none⟩) (Kd.R_far (p := ⟨gb466, 3, none⟩) (Kd.R_far (p := ⟨gb466, 2, none⟩) (Kd.R_far (p := ⟨gb466, 1, none⟩) (Kd.R_far (p := ⟨gb466, 0, none⟩) (Kd.R_types HO427.out BK466.out (by decide)) (fun _ hk => hk.2) (.int .i64 t456)) (fun _ hk => hk.2) (.int .i64 t457)) (fun _ hk => hk.2) (.int .i64 t458)) (fun _ hk => hk.2) (.int .i64 t459)) (fun _ hk => hk.2) (.int .i64 t460)) (fun _ hk => hk.2) (.slice Ao49 t461.length co49)) (fun _ hk => ⟨hk.1.1.1.2, ⟨hk.1.1.2, hk.1.2⟩⟩)⟩
 have n1_ : Aside0 (Kd.R k68 68 ((((((w44.setCell ⟨gb466, 0, none⟩ (.int .i64 t456)).setCell ⟨gb466, 1, none⟩ (.int .i64 t457)).setCell ⟨gb466, 2, none⟩ (.int .i64 t458)).setCell ⟨gb466, 3, none⟩ (.int .i64 t459)).setCell ⟨gb466, 4, none⟩ (.int .i64 t460)).setCell ⟨gb466, 5, none⟩ (.slice Ao49 t461.length co49)) w.heap.size (fun k_ => some k_ ≠ (.slice Ao28 t425.length co28 : Value).ownBlock ∧ some k_ ≠ (.slice Ao41 t449.length co41 : Value).ownBlock ∧ some k_ ≠ (.slice Ao49 t461.length co49 : Value).ownBlock) (.slice Ao34 t437.length co34) t437) := ⟨by (with_reducible repeat (first | apply Kd.R_alloc | apply Kd.R_drewN | apply Kd.R_drew)); exact Kd.R_mono (Kd.R_far (p := ⟨gb466, 5, none⟩) (Kd.R_far (p := ⟨gb466, 4, none⟩) (Kd.R_far (p := ⟨gb466, 3, none⟩) (Kd.R_far (p := ⟨gb466, 2, none⟩) (Kd.R_far (p := ⟨gb466, 1, none⟩) (Kd.R_far (p := ⟨gb466, 0, none⟩) (Kd.R_types HO439.out BK466.out (by decide)) (fun _ hk => hk.2) (.int .i64 t456)) (fun _ hk => hk.2) (.int .i64 t457)) (fun _ hk => hk.2) (.int .i64 t458)) (fun _ hk => hk.2) (.int .i64 t459)) (fun _ hk => hk.2) (.int .i64 t460)) (fun _ hk => hk.2) (.slice Ao49 t461.length co49)) (fun _ hk => ⟨hk.1.1.1.2, ⟨hk.1.1.2, hk.1.2⟩⟩)⟩
 have n2_ : Aside0 (Kd.R k68 68 ((((((w44.setCell ⟨gb466, 0, none⟩ (.int .i64 t456)).setCell ⟨gb466, 1, none⟩ (.int .i64 t457)).setCell ⟨gb466, 2, none⟩ (.int .i64 t458)).setCell ⟨gb466, 3, none⟩ (.int .i64 t459)).setCell ⟨gb466, 4, none⟩ (.int .i64 t460)).setCell ⟨gb466, 5, none⟩ (.slice Ao49 t461.length co49)) w.heap.size (fun k_ => some k_ ≠ (.slice Ao28 t425.length co28 : Value).ownBlock ∧ some k_ ≠ (.slice Ao34 t437.length co34 : Value).ownBlock ∧ some k_ ≠ (.slice Ao49 t461.length co49 : Value).ownBlock) (.slice Ao41 t449.length co41) t449) := ⟨by (with_reducible repeat (first | apply Kd.R_alloc | apply Kd.R_drewN | apply Kd.R_drew)); exact Kd.R_mono (Kd.R_far (p := ⟨gb466, 5, none⟩) (Kd.R_far (p := ⟨gb466, 4, none⟩) (Kd.R_far (p := ⟨gb466, 3, none⟩) (Kd.R_far (p := ⟨gb466, 2, none⟩) (Kd.R_far (p := ⟨gb466, 1, none⟩) (Kd.R_far (p := ⟨gb466, 0, none⟩) (Kd.R_types HO451.out BK466.out (by decide)) (fun _ hk => hk.2) (.int .i64 t456)) (fun _ hk => hk.2) (.int .i64 t457)) (fun _ hk => hk.2) (.int .i64 t458)) (fun _ hk => hk.2) (.int .i64 t459)) (fun _ hk => hk.2) (.int .i64 t460)) (fun _ hk => hk.2) (.slice Ao49 t461.length co49)) (fun _ hk => ⟨hk.1.1.1.2, ⟨hk.1.1.2, hk.1.2⟩⟩)⟩
 have n3_ : Aside0 (Kd.R k68 68 ((((((w44.setCell ⟨gb466, 0, none⟩ (.int .i64 t456)).setCell ⟨gb466, 1, none⟩ (.int .i64 t457)).setCell ⟨gb466, 2, none⟩ (.int .i64 t458)).setCell ⟨gb466, 3, none⟩ (.int .i64 t459)).setCell ⟨gb466, 4, none⟩ (.int .i64 t460)).setCell ⟨gb466, 5, none⟩ (.slice Ao49 t461.length co49)) w.heap.size (fun k_ => some k_ ≠ (.slice Ao28 t425.length co28 : Value).ownBlock ∧ some k_ ≠ (.slice Ao34 t437.length co34 : Value).ownBlock ∧ some k_ ≠ (.slice Ao41 t449.length co41 : Value).ownBlock) (.slice Ao49 t461.length co49) t461) := ⟨by (with_reducible repeat (first | apply Kd.R_alloc | apply Kd.R_drewN | apply Kd.R_drew)); exact Kd.R_mono (Kd.R_far (p := ⟨gb466, 5, none⟩) (Kd.R_far (p := ⟨gb466, 4, none⟩) (Kd.R_far (p := ⟨gb466, 3, none⟩) (Kd.R_far (p := ⟨gb466, 2, none⟩) (Kd.R_far (p := ⟨gb466, 1, none⟩) (Kd.R_far (p := ⟨gb466, 0, none⟩) (Kd.R_types HO463.out BK466.out (by decide)) (fun _ hk => hk.2) (.int .i64 t456)) (fun _ hk => hk.2) (.int .i64 t457)) (fun _ hk => hk.2) (.int .i64 t458)) (fun _ hk => hk.2) (.int .i64 t459)) (fun _ hk => hk.2) (.int .i64 t460)) (fun _ hk => hk.2) (.slice Ao49 t461.length co49)) (fun _ hk => ⟨hk.1.1.1.2, ⟨hk.1.1.2, hk.1.2⟩⟩)⟩
 have n4_ : Aside0 (((((((w44.setCell ⟨gb466, 0, none⟩ (.int .i64 t456)).setCell ⟨gb466, 1, none⟩ (.int .i64 t457)).setCell ⟨gb466, 2, none⟩ (.int .i64 t458)).setCell ⟨gb466, 3, none⟩ (.int .i64 t459)).setCell ⟨gb466, 4, none⟩ (.int .i64 t460)).setCell ⟨gb466, 5, none⟩ (.slice Ao49 t461.length co49)).heap[gb430]? = some (.cells #[.int .i64 t420, .int .i64 t421, .int .i64 t422, .int .i64 t423, .int .i64 t424, .slice Ao28 t425.length co28] 24 (0, 0))) := ⟨kFa6 BK430.out NB430_466.out⟩
 have n5_ : Aside0 (((((((w44.setCell ⟨gb466, 0, none⟩ (.int .i64 t456)).setCell ⟨gb466, 1, none⟩ (.int .i64 t457)).setCell ⟨gb466, 2, none⟩ (.int .i64 t458)).setCell ⟨gb466, 3, none⟩ (.int .i64 t459)).setCell ⟨gb466, 4, none⟩ (.int .i64 t460)).setCell ⟨gb466, 5, none⟩ (.slice Ao49 t461.length co49)).heap[gb442]? = some (.cells #[.int .i64 t432, .int .i64 t433, .int .i64 t434, .int .i64 t435, .int .i64 t436, .slice Ao34 t437.length co34] 24 (0, 0))) := ⟨kFa6 BK442.out NB442_466.out⟩
 have n6_ : Aside0 (((((((w44.setCell ⟨gb466, 0, none⟩ (.int .i64 t456)).setCell ⟨gb466, 1, none⟩ (.int .i64 t457)).setCell ⟨gb466, 2, none⟩ (.int .i64 t458)).setCell ⟨gb466, 3, none⟩ (.int .i64 t459)).setCell ⟨gb466, 4, none⟩ (.int .i64 t460)).setCell ⟨gb466, 5, none⟩ (.slice Ao49 t461.length co49)).heap[gb454]? = some (.cells #[.int .i64 t444, .int .i64 t445, .int .i64 t446, .int .i64 t447, .int .i64 t448, .slice Ao41 t449.length co41] 24 (0, 0))) := ⟨kFa6 BK454.out NB454_466.out⟩
 have n7_ : Aside0 (((((((w44.setCell ⟨gb466, 0, none⟩ (.int .i64 t456)).setCell ⟨gb466, 1, none⟩ (.int .i64 t457)).setCell ⟨gb466, 2, none⟩ (.int .i64 t458)).setCell ⟨gb466, 3, none⟩ (.int .i64 t459)).setCell ⟨gb466, 4, none⟩ (.int .i64 t460)).setCell ⟨gb466, 5, none⟩ (.slice Ao49 t461.length co49)).heap[gb466]? = some (.cells #[.int .i64 t456, .int .i64 t457, .int .i64 t458, .int .i64 t459, .int .i64 t460, .slice Ao49 t461.length co49] 24 (0, 0))) := ⟨kP6 BK466.out⟩
 have n8_ : Aside0 (Below w.heap.size w ((((((w44.setCell ⟨gb466, 0, none⟩ (.int .i64 t456)).setCell ⟨gb466, 1, none⟩ (.int .i64 t457)).setCell ⟨gb466, 2, none⟩ (.int .i64 t458)).setCell ⟨gb466, 3, none⟩ (.int .i64 t459)).setCell ⟨gb466, 4, none⟩ (.int .i64 t460)).setCell ⟨gb466, 5, none⟩ (.slice Ao49 t461.length co49))) := ⟨kb4 HB.out GE430.out GE442.out GE454.out GE466.out⟩
 (try clear HO427)
 (try clear HO439)
 (try clear HO451)
 (try clear HO463)
 (try clear BK430)
 (try clear BK442)
 (try clear BK454)
 (try clear BK466)
 (try clear HB)
 generalize ((((((w44.setCell ⟨gb466, 0, none⟩ (.int .i64 t456)).setCell ⟨gb466, 1, none⟩ (.int .i64 t457)).setCell ⟨gb466, 2, none⟩ (.int .i64 t458)).setCell ⟨gb466, 3, none⟩ (.int .i64 t459)).setCell ⟨gb466, 4, none⟩ (.int .i64 t460)).setCell ⟨gb466, 5, none⟩ (.slice Ao49 t461.length co49)) = w50 at n0_ n1_ n2_ n3_ n4_ n5_ n6_ n7_ n8_ ⊢
 have HO427 := n0_; have HO439 := n1_; have HO451 := n2_; have HO463 := n3_; have BK430 := n4_; have BK442 := n5_; have BK454 := n6_; have BK466 := n7_; have HB := n8_; clear n0_ n1_ n2_ n3_ n4_ n5_ n6_ n7_ n8_
 have n0_ := Aside0.mk (Kd.R_drew HO427.out)
 have n1_ := Aside0.mk (Kd.R_drew HO439.out)
 have n2_ := Aside0.mk (Kd.R_drew HO451.out)
 have n3_ := Aside0.mk (Kd.R_drew HO463.out)
 have n4_ := Aside0.mk (blk_drew BK430.out)
 have n5_ := Aside0.mk (blk_drew BK442.out)
 have n6_ := Aside0.mk (blk_drew BK454.out)
 have n7_ := Aside0.mk (blk_drew BK466.out)
 have n8_ := Aside0.mk (below_drew1 HB.out)
 clear HO427 HO439 HO451 HO463 BK430 BK442 BK454 BK466 HB; have HO427 := n0_; have HO439 := n1_; have HO451 := n2_; have HO463 := n3_; have BK430 := n4_; have BK442 := n5_; have BK454 := n6_; have BK466 := n7_; have HB := n8_; clear n0_ n1_ n2_ n3_ n4_ n5_ n6_ n7_ n8_
 refine start_ (n := 46) (S := fun w' => w'.cell? ⟨gb430, 0, none⟩ = some (.int .i64 t420) ∧ w'.cell? ⟨gb430, 1, none⟩ = some (.int .i64 t421) ∧ w'.cell? ⟨gb430, 2, none⟩ = some (.int .i64 t422) ∧ w'.cell? ⟨gb430, 3, none⟩ = some (.int .i64 t423) ∧ w'.cell? ⟨gb430, 4, none⟩ = some (.int .i64 t424) ∧ w'.cell? ⟨gb430, 5, none⟩ = some (.slice Ao28 t425.length co28) ∧ w'.cell? ⟨gb442, 0, none⟩ = some (.int .i64 t432) ∧ w'.cell? ⟨gb442, 1, none⟩ = some (.int .i64 t433) ∧ w'.cell? ⟨gb442, 2, none⟩ = some (.int .i64 t434) ∧ w'.cell? ⟨gb442, 3, none⟩ = some (.int .i64 t435) ∧ w'.cell? ⟨gb442, 4, none⟩ = some (.int .i64 t436) ∧ w'.cell? ⟨gb442, 5, none⟩ = some (.slice Ao34 t437.length co34) ∧ w'.cell? ⟨gb454, 0, none⟩ = some (.int .i64 t444) ∧ w'.cell? ⟨gb454, 1, none⟩ = some (.int .i64 t445) ∧ w'.cell? ⟨gb454, 2, none⟩ = some (.int .i64 t446) ∧ w'.cell? ⟨gb454, 3, none⟩ = some (.int .i64 t447) ∧ w'.cell? ⟨gb454, 4, none⟩ = some (.int .i64 t448) ∧ w'.cell? ⟨gb454, 5, none⟩ = some (.slice Ao41 t449.length co41)) (ds := []) #[false, false, false, false, false, false, false, false, false, false, false, false, false, false, false, false, false, false, false, false, false, false, false, false, false, false, false, false, false, false, false, false, false, false, false, false, false, false, false, false, false, false, false, false, false, false] (by kernel_rfl) rfl rfl ⟨(blk_cell BK430.out 0).trans rfl, (blk_cell BK430.out 1).trans rfl, (blk_cell BK430.out 2).trans rfl, (blk_cell BK430.out 3).trans rfl, (blk_cell BK430.out 4).trans rfl, (blk_cell BK430.out 5).trans rfl, (blk_cell BK442.out 0).trans rfl, (blk_cell BK442.out 1).trans rfl, (blk_cell BK442.out 2).trans rfl, (blk_cell BK442.out 3).trans rfl, (blk_cell BK442.out 4).trans rfl, (blk_cell BK442.out 5).trans rfl, (blk_cell BK454.out 0).trans rfl, (blk_cell BK454.out 1).trans rfl, (blk_cell BK454.out 2).trans rfl, (blk_cell BK454.out 3).trans rfl, (blk_cell BK454.out 4).trans rfl, (blk_cell BK454.out 5).trans rfl⟩ (fun hHeld => ?_); refine with_tabW skifflaw20_awake.tab5 skifflaw20_awake.bits5 (fun HT_ HW_ => ?_)
 generalize w50.drew = w51 at HO427 HO439 HO451 HO463 BK430 BK442 BK454 BK466 HB hHeld ⊢
 refine take_ (i := 0) (N := some 41) (v := ?_) (a' := ?_) #[true, false, false, false, false, false, false, false, false, false, false, false, false, false, false, false, false, false, false, false, false, false, false, false, false, false, false, false, false, false, false, false, false, false, false, false, false, false, false, false, false, false, false, false, false, false] rfl rfl (take_ofW HT_.out HW_.out (by kernel_rfl)) (fun _ _ _ h => h) (Or.inl ⟨by rfl, ?_⟩) hHeld ?_ ?_
 rotate_left
 ·rintro w' ⟨s0, s1, s2, s3, s4, s5, s6, s7, s8, s9, s10, s11, s12, s13, s14, s15, s16, s17⟩
  go_simp
  with_reducible rfl
 rotate_left
 ·simp only [Act.put, List.setIfInBounds_toArray, List.set_cons_zero, List.set_cons_succ, i64_w, i32_w]
  rfl
 refine one_ (i := 1) (N := some 42) #[true, true, false, false, false, false, false, false, false, false, false, false, false, false, false, false, false, false, false, false, false, false, false, false, false, false, false, false, false, false, false, false, false, false, false, false, false, false, false, false, false, false, false, false, false, false] rfl rfl (one_of HT_.out (by kernel_rfl)) (by decide) (fun K hK => ?_)
 refine goes_ Try.func19 (by kernel_rfl) rfl #[] (by rfl) rfl rfl ka ?_
 with_reducible refine (skiffref16_NewDevice.calls  t467 t468 t469 t470 t471 t472 _ A9.out).mono ?_
 rintro e w52 ⟨v473, rfl, ho0, hb⟩
 refine ⟨_, rfl, ?_⟩
 have n0_ := Aside0.mk (Kd.R_elder' (kR HO427.out) (Kd.R_base ho0) hb)
 have n1_ := Aside0.mk (Kd.R_elder' (kR HO439.out) (Kd.R_base ho0) hb)
 have n2_ := Aside0.mk (Kd.R_elder' (kR HO451.out) (Kd.R_base ho0) hb)
 have n3_ := Aside0.mk (Kd.R_elder' (kR HO463.out) (Kd.R_base ho0) hb)
 have n4_ := Aside0.mk (Kd.R_lower (Kd.R_new' (Kd.R_new' (Kd.R_new' (Kd.R_new' ho0 (Kd.R_lt (kR HO427.out))) (Kd.R_lt (kR HO439.out))) (Kd.R_lt (kR HO451.out))) (Kd.R_lt (kR HO463.out))) (below_size (kb4 HB.out GE430.out GE442.out GE454.out GE466.out)))
 have n5_ := Aside0.mk (kL BK430.out hb)
 have n6_ := Aside0.mk (kL BK442.out hb)
 have n7_ := Aside0.mk (kL BK454.out hb)
 have n8_ := Aside0.mk (kL BK466.out hb)
 have n9_ := Aside0.mk (below_step (kb4 HB.out GE430.out GE442.out GE454.out GE466.out) hb)
 clear HO427 HO439 HO451 HO463 BK430 BK442 BK454 BK466 HB; have HO427 := n0_; have HO439 := n1_; have HO451 := n2_; have HO463 := n3_; have HO474 := n4_; have BK430 := n5_; have BK442 := n6_; have BK454 := n7_; have BK466 := n8_; have HB := n9_; clear n0_ n1_ n2_ n3_ n4_ n5_ n6_ n7_ n8_ n9_
 (try clear hb)
 (try clear hb2)
 (try clear hk)
 (try clear hi)
 (try clear ho0)
 obtain ⟨Ao53, co53, eo53⟩ := Kd.R_slice HO474.out
 (first | subst eo53 | (injection eo53 with f1_ f2_ f3_; have f4_ := f1_.symm; have f5_ := f3_.symm; clear f1_ f2_ f3_; subst f4_; subst f5_))
 refine hK.out _ _ ⟨(blk_cell BK430.out 0).trans rfl, (blk_cell BK430.out 1).trans rfl, (blk_cell BK430.out 2).trans rfl, (blk_cell BK430.out 3).trans rfl, (blk_cell BK430.out 4).trans rfl, (blk_cell BK430.out 5).trans rfl, (blk_cell BK442.out 0).trans rfl, (blk_cell BK442.out 1).trans rfl, (blk_cell BK442.out 2).trans rfl, (blk_cell BK442.out 3).trans rfl, (blk_cell BK442.out 4).trans rfl, (blk_cell BK442.out 5).trans rfl, (blk_cell BK454.out 0).trans rfl, (blk_cell BK454.out 1).trans rfl, (blk_cell BK454.out 2).trans rfl, (blk_cell BK454.out 3).trans rfl, (blk_cell BK454.out 4).trans rfl, (blk_cell BK454.out 5).trans rfl⟩ (fun hHeld => ?_)
 clear hK K
 refine norm_ (a' := ?_) ?_ ?_
 rotate_left
 ·show Act.put _ (some 42) _ = _
  simp only [Act.put, List.setIfInBounds_toArray, List.set_cons_zero, List.set_cons_succ, i64_w, i32_w]
  rfl
 refine one_ (i := 2) (N := some 43) #[true, true, true, false, false, false, false, false, false, false, false, false, false, false, false, false, false, false, false, false, false, false, false, false, false, false, false, false, false, false, false, false, false, false, false, false, false, false, false, false, false, false, false, false, false, false] rfl rfl (one_of HT_.out (by kernel_rfl)) (by decide) (fun K hK => ?_)
 refine goes_ Try.func12 (by kernel_rfl) rfl #[.agg #[.int .i64 t420, .int .i64 t421, .int .i64 t422, .int .i64 t423, .int .i64 t424, .slice Ao28 t425.length co28], .agg #[.int .i64 t467, .int .i64 t468, .int .i64 t469, .int .i64 t470, .int .i64 t471, .slice Ao53 t472.length co53]] (by rfl) rfl rfl ka ?_
 with_reducible refine (skifflaw0_SameDevice.calls k t420 t421 t422 t423 t424 _ _ t425 t467 t468 t469 t470 t471 _ _ t472 true _ ?side1 ?side2 ?side3 ?side4 A10.out).mono ?_
 (case side1 => repeat (first | exact (Kd.R_reads' HO427.out).2.2 | (with_reducible refine Kd.C_alloc ?_ _) | (with_reducible refine Kd.C_drewN ?_ _) | (with_reducible refine Kd.C_drew ?_)))
 (case side2 => exact (Kd.R_reads' HO427.out).2.1)
 (case side3 => repeat (first | exact (Kd.R_reads' HO474.out).2.2 | (with_reducible refine Kd.C_alloc ?_ _) | (with_reducible refine Kd.C_drewN ?_ _) | (with_reducible refine Kd.C_drew ?_)))
 (case side4 => exact (Kd.R_reads' HO474.out).2.1)
 rintro e w54 ⟨rfl, hb⟩
 refine ⟨_, rfl, ?_⟩
 have n0_ := Aside0.mk (Kd.R_below (kR HO427.out) hb)
 have n1_ := Aside0.mk (Kd.R_below (kR HO439.out) hb)
 have n2_ := Aside0.mk (Kd.R_below (kR HO451.out) hb)
 have n3_ := Aside0.mk (Kd.R_below (kR HO463.out) hb)
 have n4_ := Aside0.mk (Kd.R_below (kR HO474.out) hb)
 have n5_ := Aside0.mk (kL BK430.out hb)
 have n6_ := Aside0.mk (kL BK442.out hb)
 have n7_ := Aside0.mk (kL BK454.out hb)
 have n8_ := Aside0.mk (kL BK466.out hb)
 have n9_ := Aside0.mk (below_step (kb4 HB.out GE430.out GE442.out GE454.out GE466.out) hb)
 clear HO427 HO439 HO451 HO463 HO474 BK430 BK442 BK454 BK466 HB; have HO427 := n0_; have HO439 := n1_; have HO451 := n2_; have HO463 := n3_; have HO474 := n4_; have BK430 := n5_; have BK442 := n6_; have BK454 := n7_; have BK466 := n8_; have HB := n9_; clear n0_ n1_ n2_ n3_ n4_ n5_ n6_ n7_ n8_ n9_
 (try clear hb)
 (try clear hb2)
 (try clear hk)
 (try clear hi)
 refine hK.out _ _ ⟨(blk_cell BK430.out 0).trans rfl, (blk_cell BK430.out 1).trans rfl, (blk_cell BK430.out 2).trans rfl, (blk_cell BK430.out 3).trans rfl, (blk_cell BK430.out 4).trans rfl, (blk_cell BK430.out 5).trans rfl, (blk_cell BK442.out 0).trans rfl, (blk_cell BK442.out 1).trans rfl, (blk_cell BK442.out 2).trans rfl, (blk_cell BK442.out 3).trans rfl, (blk_cell BK442.out 4).trans rfl, (blk_cell BK442.out 5).trans rfl, (blk_cell BK454.out 0).trans rfl, (blk_cell BK454.out 1).trans rfl, (blk_cell BK454.out 2).trans rfl, (blk_cell BK454.out 3).trans rfl, (blk_cell BK454.out 4).trans rfl, (blk_cell BK454.out 5).trans rfl⟩ (fun hHeld => ?_)
 clear hK K
 refine norm_ (a' := ?_) ?_ ?_
 rotate_left
 ·show Act.put _ (some 43) _ = _
  simp only [Act.put, List.setIfInBounds_toArray, List.set_cons_zero, List.set_cons_succ, i64_w, i32_w]
  rfl
 refine pure_ (i := 3) (N := some 44) (v := ?_) (a' := ?_) #[true, true, true, true, false, false, false, false, false, false, false, false, false, false, false, false, false, false, false, false, false, false, false, false, false, false, false, false, false, false, false, false, false, false, false, false, false, false, false, false, false, false, false, false, false, false] rfl rfl (any_of HT_.out (by kernel_rfl)) (fun _ _ _ h => h) (Or.inl ⟨by rfl, ?_⟩) ?_ ?_
 rotate_left
 ·intro w'
  go_simp
  with_reducible rfl
 rotate_left
 ·simp only [Act.put, List.setIfInBounds_toArray, List.set_cons_zero, List.set_cons_succ, i64_w, i32_w]
  rfl
 refine pure_ (i := 4) (N := some 45) (v := ?_) (a' := ?_) #[true, true, true, true, true, false, false, false, false, false, false, false, false, false, false, false, false, false, false, false, false, false, false, false, false, false, false, false, false, false, false, false, false, false, false, false, false, false, false, false, false, false, false, false, false, false] rfl rfl (any_of HT_.out (by kernel_rfl)) (fun _ _ _ h => h) (Or.inl ⟨by rfl, ?_⟩) ?_ ?_
 rotate_left
 ·intro w'
  go_simp
  with_reducible rfl
 rotate_left
 ·simp only [Act.put, List.setIfInBounds_toArray, List.set_cons_zero, List.set_cons_succ, i64_w, i32_w]
  rfl
 refine pure_ (i := 5) (N := some 46) (v := ?_) (a' := ?_) #[true, true, true, true, true, true, false, false, false, false, false, false, false, false, false, false, false, false, false, false, false, false, false, false, false, false, false, false, false, false, false, false, false, false, false, false, false, false, false, false, false, false, false, false, false, false] rfl rfl (any_of HT_.out (by kernel_rfl)) (fun _ _ _ h => h) (Or.inl ⟨by rfl, ?_⟩) ?_ ?_
 rotate_left
 ·intro w'
  go_simp
  with_reducible rfl
 rotate_left
 ·simp only [Act.put, List.setIfInBounds_toArray, List.set_cons_zero, List.set_cons_succ, i64_w, i32_w]
  rfl
 refine pure_ (i := 6) (N := some 47) (v := ?_) (a' := ?_) #[true, true, true, true, true, true, true, false, false, false, false, false, false, false, false, false, false, false, false, false, false, false, false, false, false, false, false, false, false, false, false, false, false, false, false, false, false, false, false, false, false, false, false, false, false, false] rfl rfl (any_of HT_.out (by kernel_rfl)) (fun _ _ _ h => h) (Or.inl ⟨by rfl, ?_⟩) ?_ ?_
 rotate_left
 ·intro w'
  go_simp
  with_reducible rfl
 rotate_left
 ·simp only [Act.put, List.setIfInBounds_toArray, List.set_cons_zero, List.set_cons_succ, i64_w, i32_w]
  rfl
 refine pure_ (i := 7) (N := some 48) (v := ?_) (a' := ?_) #[true, true, true, true, true, true, true, true, false, false, false, false, false, false, false, false, false, false, false, false, false, false, false, false, false, false, false, false, false, false, false, false, false, false, false, false, false, false, false, false, false, false, false, false, false, false] rfl rfl (any_of HT_.out (by kernel_rfl)) (fun _ _ _ h => h) (Or.inl ⟨by rfl, ?_⟩) ?_ ?_
 rotate_left
 ·intro w'
  go_simp
  with_reducible rfl
 rotate_left
 ·simp only [Act.put, List.setIfInBounds_toArray, List.set_cons_zero, List.set_cons_succ, i64_w, i32_w]
  rfl
 refine pure_ (i := 8) (N := some 49) (v := ?_) (a' := ?_) #[true, true, true, true, true, true, true, true, true, false, false, false, false, false, false, false, false, false, false, false, false, false, false, false, false, false, false, false, false, false, false, false, false, false, false, false, false, false, false, false, false, false, false, false, false, false] rfl rfl (any_of HT_.out (by kernel_rfl)) (fun _ _ _ h => h) (Or.inl ⟨by rfl, ?_⟩) ?_ ?_
 rotate_left
 ·intro w'
  go_simp
  with_reducible rfl
 rotate_left
 ·simp only [Act.put, List.setIfInBounds_toArray, List.set_cons_zero, List.set_cons_succ, i64_w, i32_w]
  rfl
 refine one_ (i := 9) (N := some 50) #[true, true, true, true, true, true, true, true, true, true, false, false, false, false, false, false, false, false, false, false, false, false, false, false, false, false, false, false, false, false, false, false, false, false, false, false, false, false, false, false, false, false, false, false, false, false] rfl rfl (one_of HT_.out (by kernel_rfl)) (by decide) (fun K hK => ?_)
 refine goes_ Try.func13 (by kernel_rfl) rfl #[.int .i64 t429] (by rfl) rfl rfl ka ?_
 with_reducible refine (skifflaw0_Num.calls t429 t476 _ A13.out).mono ?_
 rintro e w' ⟨rfl, ⟨nd, rfl⟩⟩
 refine ⟨_, rfl, ?_⟩
 refine hK.out _ _ ⟨(blk_cell BK430.out 0).trans rfl, (blk_cell BK430.out 1).trans rfl, (blk_cell BK430.out 2).trans rfl, (blk_cell BK430.out 3).trans rfl, (blk_cell BK430.out 4).trans rfl, (blk_cell BK430.out 5).trans rfl, (blk_cell BK442.out 0).trans rfl, (blk_cell BK442.out 1).trans rfl, (blk_cell BK442.out 2).trans rfl, (blk_cell BK442.out 3).trans rfl, (blk_cell BK442.out 4).trans rfl, (blk_cell BK442.out 5).trans rfl, (blk_cell BK454.out 0).trans rfl, (blk_cell BK454.out 1).trans rfl, (blk_cell BK454.out 2).trans rfl, (blk_cell BK454.out 3).trans rfl, (blk_cell BK454.out 4).trans rfl, (blk_cell BK454.out 5).trans rfl⟩ (fun hHeld => ?_)
 clear hK K
 refine norm_ (a' := ?_) ?_ ?_
 rotate_left
 ·show Act.put _ (some 50) _ = _
  simp only [Act.put, List.setIfInBounds_toArray, List.set_cons_zero, List.set_cons_succ, i64_w, i32_w]
  rfl
 refine pure_ (i := 10) (N := some 51) (v := ?_) (a' := ?_) #[true, true, true, true, true, true, true, true, true, true, true, false, false, false, false, false, false, false, false, false, false, false, false, false, false, false, false, false, false, false, false, false, false, false, false, false, false, false, false, false, false, false, false, false, false, false] rfl rfl (any_of HT_.out (by kernel_rfl)) (fun _ _ _ h => h) (Or.inl ⟨by rfl, ?_⟩) ?_ ?_
 rotate_left
 ·intro w'
  go_simp
  with_reducible rfl
 rotate_left
 ·simp only [Act.put, List.setIfInBounds_toArray, List.set_cons_zero, List.set_cons_succ, i64_w, i32_w]
  rfl
 refine pure_ (i := 11) (N := some 52) (v := ?_) (a' := ?_) #[true, true, true, true, true, true, true, true, true, true, true, true, false, false, false, false, false, false, false, false, false, false, false, false, false, false, false, false, false, false, false, false, false, false, false, false, false, false, false, false, false, false, false, false, false, false] rfl rfl (any_of HT_.out (by kernel_rfl)) (fun _ _ _ h => h) (Or.inl ⟨by rfl, ?_⟩) ?_ ?_
 rotate_left
 ·intro w'
  go_simp
  with_reducible rfl
 rotate_left
 ·simp only [Act.put, List.setIfInBounds_toArray, List.set_cons_zero, List.set_cons_succ, i64_w, i32_w]
  rfl
 refine pure_ (i := 12) (N := some 53) (v := ?_) (a' := ?_) #[true, true, true, true, true, true, true, true, true, true, true, true, true, false, false, false, false, false, false, false, false, false, false, false, false, false, false, false, false, false, false, false, false, false, false, false, false, false, false, false, false, false, false, false, false, false] rfl rfl (any_of HT_.out (by kernel_rfl)) (fun _ _ _ h => h) (Or.inl ⟨by rfl, ?_⟩) ?_ ?_
 rotate_left
 ·intro w'
  go_simp
  with_reducible rfl
 rotate_left
 ·simp only [Act.put, List.setIfInBounds_toArray, List.set_cons_zero, List.set_cons_succ, i64_w, i32_w]
  rfl
 refine pure_ (i := 13) (N := some 54) (v := ?_) (a' := ?_) #[true, true, true, true, true, true, true, true, true, true, true, true, true, true, false, false, false, false, false, false, false, false, false, false, false, false, false, false, false, false, false, false, false, false, false, false, false, false, false, false, false, false, false, false, false, false] rfl rfl (any_of HT_.out (by kernel_rfl)) (fun _ _ _ h => h) (Or.inl ⟨by rfl, ?_⟩) ?_ ?_
 rotate_left
 ·intro w'
  go_simp
  with_reducible rfl
 rotate_left
 ·simp only [Act.put, List.setIfInBounds_toArray, List.set_cons_zero, List.set_cons_succ, i64_w, i32_w]
  rfl
 refine take_ (i := 14) (N := some 55) (v := ?_) (a' := ?_) #[true, true, true, true, true, true, true, true, true, true, true, true, true, true, true, false, false, false, false, false, false, false, false, false, false, false, false, false, false, false, false, false, false, false, false, false, false, false, false, false, false, false, false, false, false, false] rfl rfl (take_ofW HT_.out HW_.out (by kernel_rfl)) (fun _ _ _ h => h) (Or.inl ⟨by rfl, ?_⟩) hHeld ?_ ?_
 rotate_left
 ·rintro w' ⟨s0, s1, s2, s3, s4, s5, s6, s7, s8, s9, s10, s11, s12, s13, s14, s15, s16, s17⟩
  go_simp
  with_reducible rfl
 rotate_left
 ·simp only [Act.put, List.setIfInBounds_toArray, List.set_cons_zero, List.set_cons_succ, i64_w, i32_w]
  rfl
 refine pure_ (i := 15) (N := some 56) (v := ?_) (a' := ?_) #[true, true, true, true, true, true, true, true, true, true, true, true, true, true, true, true, false, false, false, false, false, false, false, false, false, false, false, false, false, false, false, false, false, false, false, false, false, false, false, false, false, false, false, false, false, false] rfl rfl (any_of HT_.out (by kernel_rfl)) (fun _ _ _ h => h) (Or.inl ⟨by rfl, ?_⟩) ?_ ?_
 rotate_left
 ·intro w'
  go_simp
  with_reducible rfl
 rotate_left
 ·simp only [Act.put, List.setIfInBounds_toArray, List.set_cons_zero, List.set_cons_succ, i64_w, i32_w]
  rfl
 refine pure_ (i := 16) (N := some 57) (v := ?_) (a' := ?_) #[true, true, true, true, true, true, true, true, true, true, true, true, true, true, true, true, true, false, false, false, false, false, false, false, false, false, false, false, false, false, false, false, false, false, false, false, false, false, false, false, false, false, false, false, false, false] rfl rfl (any_of HT_.out (by kernel_rfl)) (fun _ _ _ h => h) (Or.inl ⟨by rfl, ?_⟩) ?_ ?_
 rotate_left
 ·intro w'
  go_simp
  with_reducible rfl
 rotate_left
 ·simp only [Act.put, List.setIfInBounds_toArray, List.set_cons_zero, List.set_cons_succ, i64_w, i32_w]
  rfl
 refine pure_ (i := 17) (N := some 58) (v := ?_) (a' := ?_) #[true, true, true, true, true, true, true, true, true, true, true, true, true, true, true, true, true, true, false, false, false, false, false, false, false, false, false, false, false, false, false, false, false, false, false, false, false, false, false, false, false, false, false, false, false, false] rfl rfl (any_of HT_.out (by kernel_rfl)) (fun _ _ _ h => h) (Or.inl ⟨by rfl, ?_⟩) ?_ ?_
 rotate_left
 ·intro w'
  go_simp
  with_reducible rfl
 rotate_left
 ·simp only [Act.put, List.setIfInBounds_toArray, List.set_cons_zero, List.set_cons_succ, i64_w, i32_w]
  rfl
 refine pure_ (i := 18) (N := some 59) (v := ?_) (a' := ?_) #[true, true, true, true, true, true, true, true, true, true, true, true, true, true, true, true, true, true, true, false, false, false, false, false, false, false, false, false, false, false, false, false, false, false, false, false, false, false, false, false, false, false, false, false, false, false] rfl rfl (any_of HT_.out (by kernel_rfl)) (fun _ _ _ h => h) (Or.inl ⟨by rfl, ?_⟩) ?_ ?_
 rotate_left
 ·intro w'
  go_simp
  with_reducible rfl
 rotate_left
 ·simp only [Act.put, List.setIfInBounds_toArray, List.set_cons_zero, List.set_cons_succ, i64_w, i32_w]
  rfl
 refine pure_ (i := 19) (N := some 60) (v := ?_) (a' := ?_) #[true, true, true, true, true, true, true, true, true, true, true, true, true, true, true, true, true, true, true, true, false, false, false, false, false, false, false, false, false, false, false, false, false, false, false, false, false, false, false, false, false, false, false, false, false, false] rfl rfl (any_of HT_.out (by kernel_rfl)) (fun _ _ _ h => h) (Or.inl ⟨by rfl, ?_⟩) ?_ ?_
 rotate_left
 ·intro w'
  go_simp
  with_reducible rfl
 rotate_left
 ·simp only [Act.put, List.setIfInBounds_toArray, List.set_cons_zero, List.set_cons_succ, i64_w, i32_w]
  rfl
 refine pure_ (i := 20) (N := some 61) (v := ?_) (a' := ?_) #[true, true, true, true, true, true, true, true, true, true, true, true, true, true, true, true, true, true, true, true, true, false, false, false, false, false, false, false, false, false, false, false, false, false, false, false, false, false, false, false, false, false, false, false, false, false] rfl rfl (any_of HT_.out (by kernel_rfl)) (fun _ _ _ h => h) (Or.inl ⟨by rfl, ?_⟩) ?_ ?_
 rotate_left
 ·intro w'
  go_simp
  with_reducible rfl
 rotate_left
 ·simp only [Act.put, List.setIfInBounds_toArray, List.set_cons_zero, List.set_cons_succ, i64_w, i32_w]
  rfl
 refine pure_ (i := 21) (N := some 62) (v := ?_) (a' := ?_) #[true, true, true, true, true, true, true, true, true, true, true, true, true, true, true, true, true, true, true, true, true, true, false, false, false, false, false, false, false, false, false, false, false, false, false, false, false, false, false, false, false, false, false, false, false, false] rfl rfl (any_of HT_.out (by kernel_rfl)) (fun _ _ _ h => h) (Or.inl ⟨by rfl, ?_⟩) ?_ ?_
 rotate_left
 ·intro w'
  go_simp
  with_reducible rfl
 rotate_left
 ·simp only [Act.put, List.setIfInBounds_toArray, List.set_cons_zero, List.set_cons_succ, i64_w, i32_w]
  rfl
 refine pure_ (i := 22) (N := some 63) (v := ?_) (a' := ?_) #[true, true, true, true, true, true, true, true, true, true, true, true, true, true, true, true, true, true, true, true, true, true, true, false, false, false, false, false, false, false, false, false, false, false, false, false, false, false, false, false, false, false, false, false, false, false] rfl rfl (any_of HT_.out (by kernel_rfl)) (fun _ _ _ h => h) (Or.inl ⟨by rfl, ?_⟩) ?_ ?_
 rotate_left
 ·intro w'
  go_simp
  with_reducible rfl
 rotate_left
 ·simp only [Act.put, List.setIfInBounds_toArray, List.set_cons_zero, List.set_cons_succ, i64_w, i32_w]
  rfl
 refine one_ (i := 23) (N := some 64) #[true, true, true, true, true, true, true, true, true, true, true, true, true, true, true, true, true, true, true, true, true, true, true, true, false, false, false, false, false, false, false, false, false, false, false, false, false, false, false, false, false, false, false, false, false, false] rfl rfl (one_of HT_.out (by kernel_rfl)) (by decide) (fun K hK => ?_)
 refine goes_ Try.func13 (by kernel_rfl) rfl #[.int .i64 t441] (by rfl) rfl rfl ka ?_
 with_reducible refine (skifflaw0_Num.calls t441 t477 _ A17.out).mono ?_
 rintro e w' ⟨rfl, ⟨nd, rfl⟩⟩
 refine ⟨_, rfl, ?_⟩
 refine hK.out _ _ ⟨(blk_cell BK430.out 0).trans rfl, (blk_cell BK430.out 1).trans rfl, (blk_cell BK430.out 2).trans rfl, (blk_cell BK430.out 3).trans rfl, (blk_cell BK430.out 4).trans rfl, (blk_cell BK430.out 5).trans rfl, (blk_cell BK442.out 0).trans rfl, (blk_cell BK442.out 1).trans rfl, (blk_cell BK442.out 2).trans rfl, (blk_cell BK442.out 3).trans rfl, (blk_cell BK442.out 4).trans rfl, (blk_cell BK442.out 5).trans rfl, (blk_cell BK454.out 0).trans rfl, (blk_cell BK454.out 1).trans rfl, (blk_cell BK454.out 2).trans rfl, (blk_cell BK454.out 3).trans rfl, (blk_cell BK454.out 4).trans rfl, (blk_cell BK454.out 5).trans rfl⟩ (fun hHeld => ?_)
 clear hK K
 refine norm_ (a' := ?_) ?_ ?_
 rotate_left
 ·show Act.put _ (some 64) _ = _
  simp only [Act.put, List.setIfInBounds_toArray, List.set_cons_zero, List.set_cons_succ, i64_w, i32_w]
  rfl
 refine pure_ (i := 24) (N := some 65) (v := ?_) (a' := ?_) #[true, true, true, true, true, true, true, true, true, true, true, true, true, true, true, true, true, true, true, true, true, true, true, true, true, false, false, false, false, false, false, false, false, false, false, false, false, false, false, false, false, false, false, false, false, false] rfl rfl (any_of HT_.out (by kernel_rfl)) (fun _ _ _ h => h) (Or.inl ⟨by rfl, ?_⟩) ?_ ?_
 rotate_left
 ·intro w'
  go_simp
  with_reducible rfl
 rotate_left
 ·simp only [Act.put, List.setIfInBounds_toArray, List.set_cons_zero, List.set_cons_succ, i64_w, i32_w]
  rfl
 refine pure_ (i := 25) (N := some 66) (v := ?_) (a' := ?_) #[true, true, true, true, true, true, true, true, true, true, true, true, true, true, true, true, true, true, true, true, true, true, true, true, true, true, false, false, false, false, false, false, false, false, false, false, false, false, false, false, false, false, false, false, false, false] rfl rfl (any_of HT_.out (by kernel_rfl)) (fun _ _ _ h => h) (Or.inl ⟨by rfl, ?_⟩) ?_ ?_
 rotate_left
 ·intro w'
  go_simp
  with_reducible rfl
 rotate_left
 ·simp only [Act.put, List.setIfInBounds_toArray, List.set_cons_zero, List.set_cons_succ, i64_w, i32_w]
  rfl
 refine pure_ (i := 26) (N := some 67) (v := ?_) (a' := ?_) #[true, true, true, true, true, true, true, true, true, true, true, true, true, true, true, true, true, true, true, true, true, true, true, true, true, true, true, false, false, false, false, false, false, false, false, false, false, false, false, false, false, false, false, false, false, false] rfl rfl (any_of HT_.out (by kernel_rfl)) (fun _ _ _ h => h) (Or.inl ⟨by rfl, ?_⟩) ?_ ?_
 rotate_left
 ·intro w'
  go_simp
  with_reducible rfl
 rotate_left
 ·simp only [Act.put, List.setIfInBounds_toArray, List.set_cons_zero, List.set_cons_succ, i64_w, i32_w]
  rfl
 refine pure_ (i := 27) (N := some 68) (v := ?_) (a' := ?_) #[true, true, true, true, true, true, true, true, true, true, true, true, true, true, true, true, true, true, true, true, true, true, true, true, true, true, true, true, false, false, false, false, false, false, false, false, false, false, false, false, false, false, false, false, false, false] rfl rfl (any_of HT_.out (by kernel_rfl)) (fun _ _ _ h => h) (Or.inl ⟨by rfl, ?_⟩) ?_ ?_
 rotate_left
 ·intro w'
  go_simp
  with_reducible rfl
 rotate_left
 ·simp only [Act.put, List.setIfInBounds_toArray, List.set_cons_zero, List.set_cons_succ, i64_w, i32_w]
  rfl
 refine take_ (i := 28) (N := some 69) (v := ?_) (a' := ?_) #[true, true, true, true, true, true, true, true, true, true, true, true, true, true, true, true, true, true, true, true, true, true, true, true, true, true, true, true, true, false, false, false, false, false, false, false, false, false, false, false, false, false, false, false, false, false] rfl rfl (take_ofW HT_.out HW_.out (by kernel_rfl)) (fun _ _ _ h => h) (Or.inl ⟨by rfl, ?_⟩) hHeld ?_ ?_
 rotate_left
 ·rintro w' ⟨s0, s1, s2, s3, s4, s5, s6, s7, s8, s9, s10, s11, s12, s13, s14, s15, s16, s17⟩
  go_simp
  with_reducible rfl
 rotate_left
 ·simp only [Act.put, List.setIfInBounds_toArray, List.set_cons_zero, List.set_cons_succ, i64_w, i32_w]
  rfl
 refine pure_ (i := 29) (N := some 70) (v := ?_) (a' := ?_) #[true, true, true, true, true, true, true, true, true, true, true, true, true, true, true, true, true, true, true, true, true, true, true, true, true, true, true, true, true, true, false, false, false, false, false, false, false, false, false, false, false, false, false, false, false, false] rfl rfl (any_of HT_.out (by kernel_rfl)) (fun _ _ _ h => h) (Or.inl ⟨by rfl, ?_⟩) ?_ ?_
 rotate_left
 ·intro w'
  go_simp
  with_reducible rfl
 rotate_left
 ·simp only [Act.put, List.setIfInBounds_toArray, List.set_cons_zero, List.set_cons_succ, i64_w, i32_w]
  rfl
 refine pure_ (i := 30) (N := some 71) (v := ?_) (a' := ?_) #[true, true, true, true, true, true, true, true, true, true, true, true, true, true, true, true, true, true, true, true, true, true, true, true, true, true, true, true, true, true, true, false, false, false, false, false, false, false, false, false, false, false, false, false, false, false] rfl rfl (any_of HT_.out (by kernel_rfl)) (fun _ _ _ h => h) (Or.inl ⟨by rfl, ?_⟩) ?_ ?_
 rotate_left
 ·intro w'
  go_simp
  with_reducible rfl
 rotate_left
 ·simp only [Act.put, List.setIfInBounds_toArray, List.set_cons_zero, List.set_cons_succ, i64_w, i32_w]
  rfl
 refine pure_ (i := 31) (N := some 72) (v := ?_) (a' := ?_) #[true, true, true, true, true, true, true, true, true, true, true, true, true, true, true, true, true, true, true, true, true, true, true, true, true, true, true, true, true, true, true, true, false, false, false, false, false, false, false, false, false, false, false, false, false, false] rfl rfl (any_of HT_.out (by kernel_rfl)) (fun _ _ _ h => h) (Or.inl ⟨by rfl, ?_⟩) ?_ ?_
 rotate_left
 ·intro w'
  go_simp
  with_reducible rfl
 rotate_left
 ·simp only [Act.put, List.setIfInBounds_toArray, List.set_cons_zero, List.set_cons_succ, i64_w, i32_w]
  rfl
 refine pure_ (i := 32) (N := some 73) (v := ?_) (a' := ?_) #[true, true, true, true, true, true, true, true, true, true, true, true, true, true, true, true, true, true, true, true, true, true, true, true, true, true, true, true, true, true, true, true, true, false, false, false, false, false, false, false, false, false, false, false, false, false] rfl rfl (any_of HT_.out (by kernel_rfl)) (fun _ _ _ h => h) (Or.inl ⟨by rfl, ?_⟩) ?_ ?_
 rotate_left
 ·intro w'
  go_simp
  with_reducible rfl
 rotate_left
 ·simp only [Act.put, List.setIfInBounds_toArray, List.set_cons_zero, List.set_cons_succ, i64_w, i32_w]
  rfl
 refine pure_ (i := 33) (N := some 74) (v := ?_) (a' := ?_) #[true, true, true, true, true, true, true, true, true, true, true, true, true, true, true, true, true, true, true, true, true, true, true, true, true, true, true, true, true, true, true, true, true, true, false, false, false, false, false, false, false, false, false, false, false, false] rfl rfl (any_of HT_.out (by kernel_rfl)) (fun _ _ _ h => h) (Or.inl ⟨by rfl, ?_⟩) ?_ ?_
 rotate_left
 ·intro w'
  go_simp
  with_reducible rfl
 rotate_left
 ·simp only [Act.put, List.setIfInBounds_toArray, List.set_cons_zero, List.set_cons_succ, i64_w, i32_w]
  rfl
 refine pure_ (i := 34) (N := some 75) (v := ?_) (a' := ?_) #[true, true, true, true, true, true, true, true, true, true, true, true, true, true, true, true, true, true, true, true, true, true, true, true, true, true, true, true, true, true, true, true, true, true, true, false, false, false, false, false, false, false, false, false, false, false] rfl rfl (any_of HT_.out (by kernel_rfl)) (fun _ _ _ h => h) (Or.inl ⟨by rfl, ?_⟩) ?_ ?_
 rotate_left
 ·intro w'
  go_simp
  with_reducible rfl
 rotate_left
 ·simp only [Act.put, List.setIfInBounds_toArray, List.set_cons_zero, List.set_cons_succ, i64_w, i32_w]
  rfl
 refine pure_ (i := 35) (N := some 76) (v := ?_) (a' := ?_) #[true, true, true, true, true, true, true, true, true, true, true, true, true, true, true, true, true, true, true, true, true, true, true, true, true, true, true, true, true, true, true, true, true, true, true, true, false, false, false, false, false, false, false, false, false, false] rfl rfl (any_of HT_.out (by kernel_rfl)) (fun _ _ _ h => h) (Or.inl ⟨by rfl, ?_⟩) ?_ ?_
 rotate_left
 ·intro w'
  go_simp
  with_reducible rfl
 rotate_left
 ·simp only [Act.put, List.setIfInBounds_toArray, List.set_cons_zero, List.set_cons_succ, i64_w, i32_w]
  rfl
 refine pure_ (i := 36) (N := some 77) (v := ?_) (a' := ?_) #[true, true, true, true, true, true, true, true, true, true, true, true, true, true, true, true, true, true, true, true, true, true, true, true, true, true, true, true, true, true, true, true, true, true, true, true, true, false, false, false, false, false, false, false, false, false] rfl rfl (any_of HT_.out (by kernel_rfl)) (fun _ _ _ h => h) (Or.inl ⟨by rfl, ?_⟩) ?_ ?_
 rotate_left
 ·intro w'
  go_simp
  with_reducible rfl
 rotate_left
 ·simp only [Act.put, List.setIfInBounds_toArray, List.set_cons_zero, List.set_cons_succ, i64_w, i32_w]
  rfl
 refine one_ (i := 37) (N := some 78) #[true, true, true, true, true, true, true, true, true, true, true, true, true, true, true, true, true, true, true, true, true, true, true, true, true, true, true, true, true, true, true, true, true, true, true, true, true, true, false, false, false, false, false, false, false, false] rfl rfl (one_of HT_.out (by kernel_rfl)) (by decide) (fun K hK => ?_)
 refine goes_ Try.func13 (by kernel_rfl) rfl #[.int .i64 t453] (by rfl) rfl rfl ka ?_
 with_reducible refine (skifflaw0_Num.calls t453 t478 _ A21.out).mono ?_
 rintro e w' ⟨rfl, ⟨nd, rfl⟩⟩
 refine ⟨_, rfl, ?_⟩
 refine hK.out _ _ ⟨(blk_cell BK430.out 0).trans rfl, (blk_cell BK430.out 1).trans rfl, (blk_cell BK430.out 2).trans rfl, (blk_cell BK430.out 3).trans rfl, (blk_cell BK430.out 4).trans rfl, (blk_cell BK430.out 5).trans rfl, (blk_cell BK442.out 0).trans rfl, (blk_cell BK442.out 1).trans rfl, (blk_cell BK442.out 2).trans rfl, (blk_cell BK442.out 3).trans rfl, (blk_cell BK442.out 4).trans rfl, (blk_cell BK442.out 5).trans rfl, (blk_cell BK454.out 0).trans rfl, (blk_cell BK454.out 1).trans rfl, (blk_cell BK454.out 2).trans rfl, (blk_cell BK454.out 3).trans rfl, (blk_cell BK454.out 4).trans rfl, (blk_cell BK454.out 5).trans rfl⟩ (fun hHeld => ?_)
 clear hK K
 refine norm_ (a' := ?_) ?_ ?_
 rotate_left
 ·show Act.put _ (some 78) _ = _
  simp only [Act.put, List.setIfInBounds_toArray, List.set_cons_zero, List.set_cons_succ, i64_w, i32_w]
  rfl
 refine pure_ (i := 38) (N := some 79) (v := ?_) (a' := ?_) #[true, true, true, true, true, true, true, true, true, true, true, true, true, true, true, true, true, true, true, true, true, true, true, true, true, true, true, true, true, true, true, true, true, true, true, true, true, true, true, false, false, false, false, false, false, false] rfl rfl (any_of HT_.out (by kernel_rfl)) (fun _ _ _ h => h) (Or.inl ⟨by rfl, ?_⟩) ?_ ?_
 rotate_left
 ·intro w'
  go_simp
  with_reducible rfl
 rotate_left
 ·simp only [Act.put, List.setIfInBounds_toArray, List.set_cons_zero, List.set_cons_succ, i64_w, i32_w]
  rfl
 refine pure_ (i := 39) (N := some 80) (v := ?_) (a' := ?_) #[true, true, true, true, true, true, true, true, true, true, true, true, true, true, true, true, true, true, true, true, true, true, true, true, true, true, true, true, true, true, true, true, true, true, true, true, true, true, true, true, false, false, false, false, false, false] rfl rfl (any_of HT_.out (by kernel_rfl)) (fun _ _ _ h => h) (Or.inl ⟨by rfl, ?_⟩) ?_ ?_
 rotate_left
 ·intro w'
  go_simp
  with_reducible rfl
 rotate_left
 ·simp only [Act.put, List.setIfInBounds_toArray, List.set_cons_zero, List.set_cons_succ, i64_w, i32_w]
  rfl
 refine pure_ (i := 40) (N := some 81) (v := ?_) (a' := ?_) #[true, true, true, true, true, true, true, true, true, true, true, true, true, true, true, true, true, true, true, true, true, true, true, true, true, true, true, true, true, true, true, true, true, true, true, true, true, true, true, true, true, false, false, false, false, false] rfl rfl (any_of HT_.out (by kernel_rfl)) (fun _ _ _ h => h) (Or.inl ⟨by rfl, ?_⟩) ?_ ?_
 rotate_left
 ·intro w'
  go_simp
  with_reducible rfl
 rotate_left
 ·simp only [Act.put, List.setIfInBounds_toArray, List.set_cons_zero, List.set_cons_succ, i64_w, i32_w]
  rfl
 refine pure_ (i := 41) (N := some 82) (v := ?_) (a' := ?_) #[true, true, true, true, true, true, true, true, true, true, true, true, true, true, true, true, true, true, true, true, true, true, true, true, true, true, true, true, true, true, true, true, true, true, true, true, true, true, true, true, true, true, false, false, false, false] rfl rfl (any_of HT_.out (by kernel_rfl)) (fun _ _ _ h => h) (Or.inl ⟨by rfl, ?_⟩) ?_ ?_
 rotate_left
 ·intro w'
  go_simp
  with_reducible rfl
 rotate_left
 ·simp only [Act.put, List.setIfInBounds_toArray, List.set_cons_zero, List.set_cons_succ, i64_w, i32_w]
  rfl
 refine one_ (i := 42) (N := some 83) #[true, true, true, true, true, true, true, true, true, true, true, true, true, true, true, true, true, true, true, true, true, true, true, true, true, true, true, true, true, true, true, true, true, true, true, true, true, true, true, true, true, true, true, false, false, false] rfl rfl (one_of HT_.out (by kernel_rfl)) (by decide) (fun K hK => ?_)
 refine goes_ Try.func13 (by kernel_rfl) rfl #[.int .i64 t465] (by rfl) rfl rfl ka ?_
 with_reducible refine (skifflaw0_Num.calls t465 t479 _ A23.out).mono ?_
 rintro e w' ⟨rfl, ⟨nd, rfl⟩⟩
 refine ⟨_, rfl, ?_⟩
 refine hK.out _ _ ⟨(blk_cell BK430.out 0).trans rfl, (blk_cell BK430.out 1).trans rfl, (blk_cell BK430.out 2).trans rfl, (blk_cell BK430.out 3).trans rfl, (blk_cell BK430.out 4).trans rfl, (blk_cell BK430.out 5).trans rfl, (blk_cell BK442.out 0).trans rfl, (blk_cell BK442.out 1).trans rfl, (blk_cell BK442.out 2).trans rfl, (blk_cell BK442.out 3).trans rfl, (blk_cell BK442.out 4).trans rfl, (blk_cell BK442.out 5).trans rfl, (blk_cell BK454.out 0).trans rfl, (blk_cell BK454.out 1).trans rfl, (blk_cell BK454.out 2).trans rfl, (blk_cell BK454.out 3).trans rfl, (blk_cell BK454.out 4).trans rfl, (blk_cell BK454.out 5).trans rfl⟩ (fun hHeld => ?_)
 clear hK K
 refine norm_ (a' := ?_) ?_ ?_
 rotate_left
 ·show Act.put _ (some 83) _ = _
  simp only [Act.put, List.setIfInBounds_toArray, List.set_cons_zero, List.set_cons_succ, i64_w, i32_w]
  rfl
 refine pure_ (i := 43) (N := some 84) (v := ?_) (a' := ?_) #[true, true, true, true, true, true, true, true, true, true, true, true, true, true, true, true, true, true, true, true, true, true, true, true, true, true, true, true, true, true, true, true, true, true, true, true, true, true, true, true, true, true, true, true, false, false] rfl rfl (any_of HT_.out (by kernel_rfl)) (fun _ _ _ h => h) (Or.inl ⟨by rfl, ?_⟩) ?_ ?_
 rotate_left
 ·intro w'
  go_simp
  with_reducible rfl
 rotate_left
 ·simp only [Act.put, List.setIfInBounds_toArray, List.set_cons_zero, List.set_cons_succ, i64_w, i32_w]
  rfl
 refine pure_ (i := 44) (N := some 85) (v := ?_) (a' := ?_) #[true, true, true, true, true, true, true, true, true, true, true, true, true, true, true, true, true, true, true, true, true, true, true, true, true, true, true, true, true, true, true, true, true, true, true, true, true, true, true, true, true, true, true, true, true, false] rfl rfl (any_of HT_.out (by kernel_rfl)) (fun _ _ _ h => h) (Or.inl ⟨by rfl, ?_⟩) ?_ ?_
 rotate_left
 ·intro w'
  go_simp
  with_reducible rfl
 rotate_left
 ·simp only [Act.put, List.setIfInBounds_toArray, List.set_cons_zero, List.set_cons_succ, i64_w, i32_w]
  rfl
 refine pure_ (i := 45) (N := some 0) (v := ?_) (a' := ?_) #[true, true, true, true, true, true, true, true, true, true, true, true, true, true, true, true, true, true, true, true, true, true, true, true, true, true, true, true, true, true, true, true, true, true, true, true, true, true, true, true, true, true, true, true, true, true] rfl rfl (any_of HT_.out (by kernel_rfl)) (fun _ _ _ h => h) (Or.inl ⟨by rfl, ?_⟩) ?_ ?_
 rotate_left
 ·intro w'
  go_simp
  with_reducible rfl
 rotate_left
 ·simp only [Act.put, List.setIfInBounds_toArray, List.set_cons_zero, List.set_cons_succ, i64_w, i32_w]
  rfl
 refine done_ (done_of HT_.out (by kernel_rfl)) ?_
 try go_wp2
 go_ret
 exact ⟨by first | rfl | (simp [errW_none, errW_some] <;> rfl) | (simp [*, errW_none, errW_some] <;> rfl), kb4 HB.out GE430.out GE442.out GE454.out GE466.out⟩

end Go.Proofs.Ytmidohjfajbpmaa.P
end
section
set_option linter.unusedVariables false
set_option linter.unusedSimpArgs false
set_option maxHeartbeats 4000000
namespace Go.Proofs.Ytmidohjfajbpmaa
open Go.RowKit Skiff Go.Proofs.YtmidohjfajbpmaaW.PrintWords

theorem rscan_step (f : ByteArray) (hf : f.size = 768) (s j k : Nat) (hs : s < 2) (hj : j < 4) : P.skiffref1_Scan.l1 (k + 1) f (scanTo f (4 * s + j)) s (96 * (s : Int) + 24 * (j : Int)) = P.skiffref1_Scan.l1 k f (scanTo f (4 * s + (j + 1))) s (96 * (s : Int) + 24 * ((j + 1 : Nat) : Int)) := by
  have hl := scanTo_len f (4 * s + j)
  have e1 : wrap64 (96 * (s : Int) + 24 * (j : Int) + 24) = 96 * (s : Int) + 24 * (j : Int) + 24 := by simp only [wrap64]; omega
  have e2 : wrap64 ((s : Int) + 1) = (s : Int) + 1 := by simp only [wrap64]; omega
  have e3 : wrap64 (((s : Int) + 1) * 96) = ((s : Int) + 1) * 96 := by simp only [wrap64]; omega
  have e4 : 96 * (s : Int) + 24 * (j : Int) + 24 = 96 * (s : Int) + 24 * ((j + 1 : Nat) : Int) := by omega
  have e5 : f.extract (96 * (s : Int) + 24 * (j : Int)).toNat (96 * (s : Int) + 24 * (j : Int) + 24).toNat = f.extract (24 * (4 * s + j)) (24 * (4 * s + j) + 24) := by
    rw [show (96 * (s : Int) + 24 * (j : Int)).toNat = 24 * (4 * s + j) by omega, show (96 * (s : Int) + 24 * (j : Int) + 24).toNat = 24 * (4 * s + j) + 24 by omega]
  have e6 : 96 * (s : Int) + 24 * (j : Int) = 24 * ((4 * s + j : Nat) : Int) := by omega
  simp only [P.skiffref1_Scan.l1, P.skiffref1_GetEntry.f]
  rw [e2, e3, e1, if_pos (by omega), if_pos (by omega), if_pos (by omega), if_pos (by omega), e5, e4]
  simp only [Option.bind_some]
  rw [show 4 * s + (j + 1) = 4 * s + j + 1 from rfl, scanTo, pls]
  cases h : slotAt f (4 * s + j) with
  | none =>
    rw [getTup_none h]
    simp only
    rw [if_neg (by omega)]
    simp
  | some r =>
    rw [getTup_some h]
    simp only [if_true]
    rw [if_pos (by omega), e6]
    rfl
theorem rscan_next (f : ByteArray) (s k : Nat) (hs : s < 2) : P.skiffref1_Scan.l1 (k + 1) f (scanTo f (4 * s + 4)) s (96 * (s : Int) + 24 * ((4 : Nat) : Int)) = P.skiffref1_Scan.l0 k f (scanTo f (4 * (s + 1))) ((s + 1 : Nat) : Int) := by
  have e1 : wrap64 (96 * (s : Int) + 24 * ((4 : Nat) : Int) + 24) = 96 * (s : Int) + 120 := by simp only [wrap64]; omega
  have e2 : wrap64 ((s : Int) + 1) = ((s + 1 : Nat) : Int) := by simp only [wrap64]; omega
  have e3 : wrap64 (((s + 1 : Nat) : Int) * 96) = ((s + 1 : Nat) : Int) * 96 := by simp only [wrap64]; omega
  simp only [P.skiffref1_Scan.l1]
  rw [e2, e3, e1, if_neg (by omega)]
  rfl
theorem rscan_sector (f : ByteArray) (hf : f.size = 768) (s k : Nat) (hs : s < 2) : P.skiffref1_Scan.l0 (k + 6) f (scanTo f (4 * s)) s = P.skiffref1_Scan.l0 k f (scanTo f (4 * (s + 1))) ((s + 1 : Nat) : Int) := by
  have e : wrap64 ((s : Int) * 96) = 96 * (s : Int) + 24 * ((0 : Nat) : Int) := by simp only [wrap64]; omega
  have h0 := rscan_step f hf s 0 (k + 4) hs (by omega)
  have h1 := rscan_step f hf s 1 (k + 3) hs (by omega)
  have h2 := rscan_step f hf s 2 (k + 2) hs (by omega)
  have h3 := rscan_step f hf s 3 (k + 1) hs (by omega)
  have h4 := rscan_next f s k hs
  rw [show k + 6 = (k + 5) + 1 from rfl]
  simp only [P.skiffref1_Scan.l0]
  rw [if_pos (by omega), e]
  exact h0.trans (h1.trans (h2.trans (h3.trans h4)))
theorem rscan_f (f : ByteArray) (k : Nat) (hk : 16 < k) : P.skiffref1_Scan.f k f = some (if f.size = 768 then (scanTo f 8, 0) else ([], 500)) := by
  unfold P.skiffref1_Scan.f
  rw [flashMay_f]
  simp only [Option.bind_some]
  by_cases h : f.size = 768
  · rw [decide_eq_true h, if_pos h, if_pos rfl]
    obtain ⟨m, rfl⟩ : ∃ m, k = m + 1 + 6 + 6 := ⟨k - 13, by omega⟩
    have h0 := rscan_sector f h 0 (m + 1 + 6) (by omega)
    have h1 := rscan_sector f h 1 (m + 1) (by omega)
    refine (h0.trans h1).trans ?_
    simp only [P.skiffref1_Scan.l0]
    rw [if_neg (by omega)]
  · rw [decide_eq_false h, if_neg h]; rfl

theorem rd_at (l : List Plc) (i : Nat) (h : i < l.length) : P.rd_T43 l (i : Int) = l[i] := by
  unfold P.rd_T43
  rw [Int.toNat_natCast, List.getD_eq_getElem?_getD, List.getElem?_eq_getElem h]; rfl

end Go.Proofs.Ytmidohjfajbpmaa
end
section
set_option linter.unusedVariables false
set_option linter.unusedSimpArgs false
set_option maxHeartbeats 4000000
namespace Go.Proofs.Ytmidohjfajbpmaa
open Go.RowKit Skiff Go.Proofs.YtmidohjfajbpmaaW.PrintWords

def recOf (p : Plc) : Rec := ⟨p.f1.f0, p.f1.f1, p.f1.f2, p.f1.f3⟩
def goodAt (f : ByteArray) (p : Plc) : Bool := goodB f (recOf p)
def best (f : ByteArray) : Option Plc := (scanTo f 8).foldl (stepB (goodAt f)) none
def actTup (f : ByteArray) : Int × Int × Int × Int × Int × Int := if f.size = 768 then P.actOut (best f) else (0, 0, 0, 0, 0, 700)
theorem scan_may {f : ByteArray} (hf : f.size = 768) {p : Plc} {n : Nat} (h : p ∈ scanTo f n) : imageMay f (recOf p) = true := by
  obtain ⟨i, r, _, hs, rfl⟩ := scanTo_mem h
  unfold imageMay
  rw [decide_eq_true hf, Bool.true_and]
  exact slotAt_may hs
theorem ats_scan (f : ByteArray) : Ats (scanTo f 8) := fun p hp => by have := scanTo_at hp; omega
theorem best_gen (f : ByteArray) (l : List Plc) (ha : Ats l) (hb : Asc l) (o : Option Plc) (ho : l.foldl (stepB (goodAt f)) none = o) : Hp.Best pkey (goodAt f) l o := by
  have h := fold_best (goodAt f) l [] none
  rw [List.nil_append, ho] at h
  exact h ha hb (fun x hx => by cases hx)
theorem best_of (f : ByteArray) (l : List Plc) (o : Option Plc) (h1 : scanTo f 8 = l) (h2 : best f = o) : Hp.Best pkey (goodAt f) l o := by
  have ha := ats_scan f
  have hb := scanTo_asc f 8
  unfold best at h2
  rw [h1] at ha hb h2
  exact best_gen f l ha hb o h2
theorem foldM_good (f : ByteArray) (hf : f.size = 768) : ∀ (l : List Plc) (b : Option Plc), (∀ p ∈ l, imageMay f (recOf p) = true) →
    l.foldlM (fun (b : Option Plc) p => (P.image_Good.f f p.f1.f0 p.f1.f1 p.f1.f2 p.f1.f3).bind fun g => some (if g.1 && (b.all fun q => decide (q.f1.f0 ≤ p.f1.f0)) then some p else b)) b = some (l.foldl (stepB (goodAt f)) b)
  | [], b, _ => rfl
  | p :: l, b, h => by
    have hg := good_f f (recOf p)
    unfold goodPair at hg
    rw [h p (List.mem_cons_self ..), if_pos rfl] at hg
    rw [List.foldlM_cons, List.foldl_cons, show P.image_Good.f f p.f1.f0 p.f1.f1 p.f1.f2 p.f1.f3 = _ from hg]
    exact foldM_good f hf l _ (fun q hq => h q (List.mem_cons_of_mem _ hq))
theorem act_f (f : ByteArray) : P.choose_Active.f f = some (actTup f) := by
  unfold P.choose_Active.f actTup
  rw [scan_f f 300 (by omega)]
  by_cases hf : f.size = 768
  · rw [if_pos hf, if_pos hf]
    simp only [Option.bind_some, if_true]
    rw [foldM_good f hf (scanTo f 8) none (fun p hp => scan_may hf hp)]
    unfold best
    generalize (scanTo f 8).foldl (stepB (goodAt f)) none = b
    rfl
  · rw [if_neg hf, if_neg hf]; rfl
theorem ract_l0 (f : ByteArray) (hf : f.size = 768) (l : List Plc) (hl : l.length ≤ 8) (hm : ∀ p ∈ l, imageMay f (recOf p) = true) (d : Nat) : ∀ (k i : Nat) (bi : Int) (o : Option Plc), i + d = l.length → d < k →
    ((bi = -1 ∧ o = none) ∨ ∃ (j : Nat) (h : j < l.length), bi = j ∧ o = some l[j]) → P.skiffref1_Active.l0 k f l bi (i : Int) = some (P.actOut ((l.drop i).foldl (stepB (goodAt f)) o)) := by
  induction d with
  | zero =>
    intro k i bi o h1 h2 hR
    obtain ⟨k, rfl⟩ : ∃ m, k = m + 1 := ⟨k - 1, by omega⟩
    simp only [P.skiffref1_Active.l0]
    rw [if_neg (by omega), List.drop_of_length_le (by omega)]
    rcases hR with ⟨rfl, rfl⟩ | ⟨j, hj, rfl, rfl⟩
    · rw [if_pos (by omega)]; rfl
    · rw [if_neg (by omega), if_pos (by omega), if_pos (by omega), rd_at l j hj]; rfl
  | succ d ih =>
    intro k i bi o h1 h2 hR
    obtain ⟨k, rfl⟩ : ∃ m, k = m + 1 := ⟨k - 1, by omega⟩
    have hi : i < l.length := by omega
    have e2 : wrap64 ((i : Int) + 1) = ((i + 1 : Nat) : Int) := by simp only [wrap64]; omega
    have hg := rgood_f f (recOf l[i])
    unfold goodPair at hg
    rw [hm _ (List.getElem_mem hi), if_pos rfl] at hg
    simp only [P.skiffref1_Active.l0]
    rw [if_pos (by omega), if_pos (by omega), rd_at l i hi, show P.skiffref1_Good.f f l[i].f1.f0 l[i].f1.f1 l[i].f1.f2 l[i].f1.f3 = _ from hg, e2, List.drop_eq_getElem_cons hi, List.foldl_cons]
    simp only [Option.bind_some]
    have hgd : goodAt f l[i] = goodB f (recOf l[i]) := rfl
    cases hb : goodB f (recOf l[i]) with
    | false =>
      rw [if_neg (by decide), ih k (i + 1) bi o (by omega) (by omega) hR]
      congr 2
      unfold stepB
      rw [hgd, hb, Bool.false_and, if_neg (by decide)]
    | true =>
      rw [if_pos rfl]
      rcases hR with ⟨rfl, rfl⟩ | ⟨j, hj, rfl, rfl⟩
      · rw [if_pos (by omega), ih k (i + 1) (i : Int) (some l[i]) (by omega) (by omega) (.inr ⟨i, hi, rfl, rfl⟩)]
        congr 2
        unfold stepB
        rw [hgd, hb]; rfl
      · rw [if_neg (by omega), if_pos (by omega), if_pos (by omega), rd_at l j hj]
        by_cases hs : l[i].f1.f0 ≥ l[j].f1.f0
        · rw [if_pos hs, ih k (i + 1) (i : Int) (some l[i]) (by omega) (by omega) (.inr ⟨i, hi, rfl, rfl⟩)]
          congr 2
          unfold stepB
          rw [hgd, hb, Bool.true_and, Option.all_some, if_pos (decide_eq_true hs)]
        · rw [if_neg hs, ih k (i + 1) (j : Int) (some l[j]) (by omega) (by omega) (.inr ⟨j, hj, rfl, rfl⟩)]
          congr 2
          unfold stepB
          rw [hgd, hb, Bool.true_and, Option.all_some, if_neg (fun h => hs (of_decide_eq_true h))]
theorem ract_f (f : ByteArray) (k : Nat) (hk : 16 < k) : P.skiffref1_Active.f k f = some (actTup f) := by
  unfold P.skiffref1_Active.f actTup
  rw [rscan_f f k hk]
  by_cases hf : f.size = 768
  · rw [if_pos hf, if_pos hf]
    have hl := scanTo_len f 8
    simp only [Option.bind_some, if_true]
    have h := ract_l0 f hf (scanTo f 8) hl (fun p hp => scan_may hf hp) (scanTo f 8).length k 0 (-1) none (by omega) (by omega) (.inl ⟨rfl, rfl⟩)
    rw [List.drop_zero] at h
    unfold best
    exact h
  · rw [if_neg hf, if_neg hf]; rfl
/-- What is active has a record that may be, and its image has its sum. -/
theorem best_some {f : ByteArray} {p : Plc} (h : best f = some p) : ∃ i r, i < 8 ∧ slotAt f i = some r ∧ p = mkPl i r ∧ goodB f r = true ∧ recMay r = true := by
  have hb := best_of f _ _ rfl h
  obtain ⟨i, r, hi, hs, rfl⟩ := scanTo_mem hb.1
  exact ⟨i, r, hi, hs, rfl, hb.2.1, slotAt_may hs⟩
theorem best_slot (f : ByteArray) (b : Option Plc) (hb : best f = b) : ∀ p, b = some p → 0 ≤ p.f1.f1 ∧ p.f1.f1 ≤ 1 := fun p hp => by
  subst hp
  obtain ⟨i, r, hi, hs, rfl, _, hm⟩ := best_some hb
  have hm := recMay_iff.1 hm
  show 0 ≤ r.slot ∧ r.slot ≤ 1
  omega

end Go.Proofs.Ytmidohjfajbpmaa
end
section
set_option linter.unusedVariables false
set_option linter.unusedSimpArgs false
set_option maxHeartbeats 4000000
namespace Skiff

end Skiff
end
section
set_option linter.unusedVariables false
set_option linter.unusedSimpArgs false
set_option maxHeartbeats 4000000
namespace Skiff
/-- May a step be? What it leaves of a flash; its answer. -/
def opMay (e : Bool) (a : Int) (t : List UInt8) : Bool :=
  if e = true then within a 0 672 && (decide (a % 96 = 0) && decide (t.length = 0)) else within a 0 764 && (decide (a % 4 = 0) && decide (t.length = 4))
end Skiff
namespace Go.Proofs.Ytmidohjfajbpmaa.O
open Go.RowKit Skiff Go.Proofs.YtmidohjfajbpmaaW.PrintWords Go.Proofs.YtmidohjfajbpmaaW.PrintMore

abbrev Opn := P.S68
theorem upTo_f (x a b : Int) : P.skiffref1_upTo.f x a b = some (within x a b) := by
  unfold P.skiffref1_upTo.f within
  by_cases h : a ≤ x
  · rw [if_pos h, decide_eq_true h]; rfl
  · rw [if_neg h, decide_eq_false h]; rfl
theorem may_f (f : ByteArray) : P.nor_May.f f = some (decide (f.size = 768)) := by
  unfold P.nor_May.f
  congr 1
  rw [Bool.eq_iff_iff]; simp; omega
theorem flashMay_f (f : ByteArray) : P.skiffref1_FlashMay.f f = some (decide (f.size = 768)) := by
  unfold P.skiffref1_FlashMay.f
  congr 1
  rw [Bool.eq_iff_iff]; simp; omega
theorem none_iff (t : ByteArray) : (t.toList == ([] : List UInt8)) = decide ((bl t).length = 0) := by
  rw [toList_bl]; cases bl t <;> rfl
theorem four_iff (t : ByteArray) : ((t.size : Int) == 4) = decide ((bl t).length = 4) := by
  rw [bl_length, Bool.eq_iff_iff]; simp; omega
theorem opsMay_f (e : Bool) (a : Int) (t : ByteArray) (ha : a < 9223372036854775808) : P.ops_May.f e a t = some (opMay e a (bl t)) := by
  unfold P.ops_May.f P.nor_Sector.f P.nor_Begins.f opMay within
  rw [none_iff, four_iff]
  cases e
  · simp only [Bool.false_eq_true, if_false]
    by_cases h0 : a ≥ 0
    · rw [if_pos h0, decide_eq_true (by omega : 0 ≤ a), Int.tmod_eq_emod_of_nonneg h0]
      by_cases h1 : a < 768
      · rw [if_pos h1, Option.bind_some]
        by_cases h2 : a % 4 = 0
        · rw [beq_iff_eq.2 h2, if_pos rfl, decide_eq_true h2, decide_eq_true (by omega : a ≤ 764)]; rfl
        · rw [beq_eq_false_iff_ne.2 h2, if_neg Bool.false_ne_true, decide_eq_false h2]; simp
      · rw [if_neg h1, Option.bind_some, if_neg Bool.false_ne_true, decide_eq_false (by omega : ¬ a ≤ 764)]; rfl
    · rw [if_neg h0, Option.bind_some, if_neg Bool.false_ne_true, decide_eq_false (by omega : ¬ 0 ≤ a)]; rfl
  · simp only [if_true]
    by_cases h0 : a ≥ 0
    · rw [if_pos h0, decide_eq_true (by omega : 0 ≤ a), Int.tmod_eq_emod_of_nonneg h0, Int.tdiv_eq_ediv_of_nonneg h0]
      have ew : wrap64 (a / 96) = a / 96 := by simp only [wrap64]; omega
      rw [ew, if_pos (by omega : a / 96 ≥ 0), Option.bind_some]
      by_cases h2 : a % 96 = 0
      · rw [if_pos h2, decide_eq_true h2]
        by_cases h1 : a / 96 < 8
        · rw [decide_eq_true h1, if_pos rfl, decide_eq_true (by omega : a ≤ 672)]; rfl
        · rw [decide_eq_false h1, if_neg Bool.false_ne_true, decide_eq_false (by omega : ¬ a ≤ 672)]; rfl
      · rw [if_neg h2, decide_eq_false h2]; simp
    · rw [if_neg h0, decide_eq_false (by omega : ¬ 0 ≤ a)]; rfl

theorem rd_at (l : List Opn) (i : Nat) (h : i < l.length) : P.rd_T68 l (i : Int) = l[i] := by
  unfold P.rd_T68
  rw [Int.toNat_natCast, List.getD_eq_getElem?_getD, List.getElem?_eq_getElem h]; rfl

end Go.Proofs.Ytmidohjfajbpmaa.O
end
section
set_option linter.unusedVariables false
set_option linter.unusedSimpArgs false
set_option maxHeartbeats 4000000
namespace Go.Proofs.Ytmidohjfajbpmaa.O
open Go.RowKit Skiff Go.Proofs.YtmidohjfajbpmaaW.PrintWords Go.Proofs.YtmidohjfajbpmaaW.PrintMore

end Go.Proofs.Ytmidohjfajbpmaa.O
end
section
set_option linter.unusedVariables false
set_option linter.unusedSimpArgs false
set_option maxHeartbeats 4000000
namespace Go.Proofs.Ytmidohjfajbpmaa.O
open Go.RowKit Skiff Go.Proofs.YtmidohjfajbpmaaW.PrintWords Go.Proofs.YtmidohjfajbpmaaW.PrintMore

/-- All places of steps are numbers that an int bears. -/
def OkOps (l : List Opn) : Prop := ∀ o ∈ l, o.f1 < 9223372036854775808
def opsMayB (l : List Opn) : Bool := l.all fun o => opMay o.f0 o.f1 (bl o.f2)
def devMayB (s st n g sl : Int) (l : List Opn) : Bool := within s 0 7 && (within st 0 6 && (within n 0 16 && (within g 0 288 && (within sl 0 1 && (decide (l.length ≤ 768) && opsMayB l)))))
theorem any_odd {l : List Opn} (h : OkOps l) : (l.any fun o => !((P.ops_May.f o.f0 o.f1 o.f2).getD true)) = !opsMayB l := by
  induction l with
  | nil => rfl
  | cons o l ih =>
    have h1 := opsMay_f o.f0 o.f1 o.f2 (h o (List.mem_cons_self ..))
    rw [List.any_cons, ih (fun p hp => h p (List.mem_cons_of_mem _ hp)), h1]
    unfold opsMayB
    rw [List.all_cons, Option.getD_some, Bool.not_and]
theorem in_f (x a b : Int) : P.entry_in.f x a b = some (within x a b) := by
  unfold P.entry_in.f within
  by_cases h : a ≤ x
  · rw [if_pos h, decide_eq_true h]; rfl
  · rw [if_neg h, decide_eq_false h]; rfl
theorem state_f (x : Int) : P.answer_State.f x = some (within x 0 7) := by
  unfold P.answer_State.f within
  by_cases h : 0 ≤ x
  · rw [if_pos h, decide_eq_true h]; rfl
  · rw [if_neg h, decide_eq_false h]; rfl
theorem status_f (x : Int) : P.answer_Status.f x = some (within x 0 6) := by
  unfold P.answer_Status.f within
  by_cases h : 0 ≤ x
  · rw [if_pos h, decide_eq_true h]; rfl
  · rw [if_neg h, decide_eq_false h]; rfl
theorem contains_f (l : List Opn) (h : OkOps l) (hl : l.length ≤ 768) : P.slices_ContainsFunc_Op.f l = some (!opsMayB l) := by
  unfold P.slices_ContainsFunc_Op.f
  rw [if_pos (by omega), any_odd h]
theorem devMay_f (s st n g sl : Int) (l : List Opn) (h : OkOps l) : P.device_May.f s st n g sl l = some (devMayB s st n g sl l) := by
  unfold P.device_May.f devMayB P.entry_Size.f P.entry_Slot.f
  rw [state_f, status_f, in_f, in_f, Option.bind_some, Option.bind_some]
  cases within s 0 7
  · rfl
  rw [if_pos rfl]
  cases within st 0 6
  · rfl
  rw [if_pos rfl, Bool.true_and, Bool.true_and]
  by_cases h1 : n ≥ 0
  case neg =>
    rw [if_neg h1, show within n 0 16 = false by unfold within; rw [decide_eq_false (by omega : ¬ 0 ≤ n)]; rfl]; rfl
  rw [if_pos h1]
  by_cases h2 : n ≤ 16
  case neg =>
    rw [if_neg h2, show within n 0 16 = false by unfold within; rw [decide_eq_false (by omega : ¬ n ≤ 16), Bool.and_false]]; rfl
  rw [if_pos h2, Skiff.within_iff.2 (by omega : (0 : Int) ≤ n ∧ n ≤ 16), Bool.true_and]
  have key : ∀ b : Bool, ((some (within sl 0 1)).bind fun t => if t = true then (if (l.length : Int) ≤ 768 then (P.slices_ContainsFunc_Op.f l).bind fun t => some (!t) else some false) else some false) = some (within sl 0 1 && (decide (l.length ≤ 768) && opsMayB l)) := by
    intro _
    rw [Option.bind_some]
    cases within sl 0 1
    · rfl
    rw [if_pos rfl, Bool.true_and]
    by_cases h4 : l.length ≤ 768
    · rw [if_pos (by omega), decide_eq_true h4, contains_f l h h4, Option.bind_some, Bool.not_not, Bool.true_and]
    · rw [if_neg (by omega), decide_eq_false h4]; rfl
  by_cases h3 : g = 0
  · rw [if_pos h3, Skiff.within_iff.2 (by omega : (0 : Int) ≤ g ∧ g ≤ 288), Bool.true_and]
    exact key true
  · rw [if_neg h3, Option.bind_some]
    have e : within g 1 288 = within g 0 288 := by unfold within; rw [Bool.eq_iff_iff]; simp; omega
    rw [e]
    cases within g 0 288
    · rfl
    rw [Bool.true_and]
    exact key true
theorem copy_f (s st n g sl : Int) (l : List Opn) (h : l.length ≤ 768) : P.device_Copy.f s st n g sl l = some (s, st, n, g, sl, l) := by
  unfold P.device_Copy.f P.slices_Clone_Op.f
  rw [if_pos (by omega)]; rfl

theorem same_big0 (l : List Opn) (hl : l.length < 9223372036854775807) (d : Nat) : ∀ (k i : Nat), i + d = l.length → d < k → P.skifflaw0_SameOps.l0 k l l (i : Int) = some true := by
  induction d with
  | zero =>
    intro k i h1 h2
    obtain ⟨k, rfl⟩ : ∃ m, k = m + 1 := ⟨k - 1, by omega⟩
    rw [P.skifflaw0_SameOps.l0, if_neg (by omega)]
  | succ d ih =>
    intro k i h1 h2
    obtain ⟨k, rfl⟩ : ∃ m, k = m + 1 := ⟨k - 1, by omega⟩
    have e2 : wrap64 ((i : Int) + 1) = ((i + 1 : Nat) : Int) := by simp only [wrap64]; omega
    have hr := ih k (i + 1) (by omega) (by omega)
    rw [P.skifflaw0_SameOps.l0, if_pos (by omega), if_pos (by omega), if_pos (by omega), e2, hr]
    simp
theorem sameDev_big (s st n g sl : Int) (l : List Opn) (k : Nat) (hl : l.length < 9223372036854775807) (hk : l.length < k) : P.skifflaw0_SameDevice.f k s st n g sl l s st n g sl l = some true := by
  unfold P.skifflaw0_SameDevice.f P.skifflaw0_SameOps.f
  rw [if_pos rfl, if_pos rfl, if_pos rfl, if_pos rfl, if_pos rfl, if_pos rfl, show (0 : Int) = ((0 : Nat) : Int) from rfl, same_big0 l hl l.length k 0 (by omega) hk]; rfl

end Go.Proofs.Ytmidohjfajbpmaa.O
end
section
set_option linter.unusedVariables false
set_option linter.unusedSimpArgs false
set_option maxHeartbeats 4000000
namespace Go.Proofs.Ytmidohjfajbpmaa
open Go.RowKit Skiff Go.Proofs.YtmidohjfajbpmaaW.PrintWords Go.Proofs.YtmidohjfajbpmaaW.PrintMore O

abbrev GiveT := Int × Int × Int × Int × Int × List Opn × ByteArray × Int
def pieceOf (s : ByteArray) (n len : Int) : ByteArray := s.extract (min (32 * n.toNat) s.size) (min (32 * n.toNat) s.size + len.toNat)
/-- What is given of an image, from the block that is next. -/
def given (s : ByteArray) (st n g sl : Int) (l : List Opn) (len : Int) : GiveT :=
  if (pieceOf s n len).size < 32 then (0, 0, 0, 0, 0, [], pieceOf s n len, 0) else (6, st, min (n + 1) 16, g, sl, l, pieceOf s n len, 0)
def nextOf (s n : Int) : Int := if s = 0 then 0 else n
def giveMay (f : ByteArray) (s st n g sl : Int) (l : List Opn) (b len : Int) : Bool := decide (f.size = 768) && (devMayB s st n g sl l && ((s == 0 || s == 6) && (within b 0 65535 && within len 0 32)))
def giveOf (f : ByteArray) (s st n g sl : Int) (l : List Opn) (b len : Int) (p : Option Plc) : GiveT :=
  match p with
  | none => (7, 2, 0, 0, 0, [], ⟨#[]⟩, 0)
  | some p => if b = nextOf s n then given (image f (recOf p)) st (nextOf s n) g sl l len else (7, 4, 0, 0, 0, [], ⟨#[]⟩, 0)
def giveTup (f : ByteArray) (s st n g sl : Int) (l : List Opn) (b len : Int) : GiveT :=
  if giveMay f s st n g sl l b len = true then giveOf f s st n g sl l b len (best f) else (0, 0, 0, 0, 0, [], ⟨#[]⟩, 2000)
theorem value_f (x : Int) : P.setup_Value.f x = some (within x 0 65535) := by
  unfold P.setup_Value.f within
  by_cases h : 0 ≤ x
  · rw [if_pos h, decide_eq_true h]; rfl
  · rw [if_neg h, decide_eq_false h]; rfl
theorem length_f (x : Int) : P.setup_Length.f x = some (within x 0 32) := by
  unfold P.setup_Length.f within
  by_cases h : 0 ≤ x
  · rw [if_pos h, decide_eq_true h]; rfl
  · rw [if_neg h, decide_eq_false h]; rfl
theorem mn_eq (x y : Int) : mn x y = min x y := by unfold mn; split <;> omega
theorem mayB_parts {s st n g sl : Int} {l : List Opn} (h : devMayB s st n g sl l = true) : (0 ≤ s ∧ s ≤ 7) ∧ (0 ≤ st ∧ st ≤ 6) ∧ (0 ≤ n ∧ n ≤ 16) ∧ (0 ≤ g ∧ g ≤ 288) ∧ (0 ≤ sl ∧ sl ≤ 1) ∧ l.length ≤ 768 ∧ opsMayB l = true := by
  unfold devMayB at h
  simp only [Bool.and_eq_true, Skiff.within_iff, decide_eq_true_iff] at h
  exact ⟨h.1, h.2.1, h.2.2.1, h.2.2.2.1, h.2.2.2.2.1, h.2.2.2.2.2.1, h.2.2.2.2.2.2⟩
theorem goodAt_may {f : ByteArray} (hf : f.size = 768) {p : Plc} (h : best f = some p) : imageMay f (recOf p) = true := by
  obtain ⟨i, r, _, hs, rfl, _, hm⟩ := best_some h
  unfold imageMay
  rw [decide_eq_true hf, Bool.true_and]
  exact hm
theorem image_le {f : ByteArray} {p : Plc} (hf : f.size = 768) (h : best f = some p) : (image f (recOf p)).size ≤ 288 := by
  have hm := goodAt_may hf h
  rw [image_size hm]
  unfold imageMay at hm
  have := recMay_iff.1 (Bool.and_eq_true_iff.1 hm).2
  omega
theorem extract2 (s : ByteArray) (a b : Nat) (ha : a ≤ s.size) (hb : b ≤ s.size - a) : (s.extract a s.size).extract 0 b = s.extract a (a + b) := by
  rw [ByteArray.extract_extract]
  congr 1
  omega
theorem ext_min (s : ByteArray) (a b : Nat) : s.extract a (min s.size (a + b)) = s.extract a (a + b) := by
  apply ByteArray.ext
  rw [ByteArray.data_extract, ByteArray.data_extract]
  apply Array.ext
  · simp only [Array.size_extract]; show min (min s.size (a + b)) s.size - a = _; show _ = min (a + b) s.size - a; omega
  · intro i h1 h2; simp
theorem give_j1 (f : ByteArray) (st n g sl : Int) (l : List Opn) (b len : Int) (s at_ : Int) (r : Rec) (img : ByteArray) (hi : P.image_Of.f f r.seq r.slot r.size r.sum = some (img, 0)) (hs : img.size ≤ 288) (hn : 0 ≤ n ∧ n ≤ 16) (hl : 0 ≤ len ∧ len ≤ 32) (k : Nat) :
    P.upload_Give.j1 (k + 1) f b len at_ r.seq r.slot r.size r.sum s st n g sl l = some (if b = n then given img st n g sl l len else (7, 4, 0, 0, 0, [], ⟨#[]⟩, 0)) := by
  rw [P.upload_Give.j1]
  by_cases hb : b = n
  case neg => rw [if_neg hb, if_neg hb]; rfl
  rw [if_pos hb, if_pos hb, hi, Option.bind_some]
  dsimp only
  have e1 : wrap64 (32 * n) = 32 * n := by simp only [wrap64]; omega
  have e4 : wrap64 (n + 1) = n + 1 := by simp only [wrap64]; omega
  obtain ⟨a, ha⟩ : ∃ a : Nat, a = min (32 * n.toNat) img.size := ⟨_, rfl⟩
  have e2 : mn (32 * n) (img.size : Int) = (a : Int) := by rw [mn_eq]; omega
  rw [e1, e2, Int.toNat_natCast, if_pos (by omega), if_pos (by omega)]
  have z1 : (img.extract a img.size).size = img.size - a := by rw [ByteArray.size_extract]; omega
  rw [z1]
  obtain ⟨c, hc⟩ : ∃ c : Nat, c = min len.toNat (img.size - a) := ⟨_, rfl⟩
  have e3 : mn len ((img.size - a : Nat) : Int) = (c : Int) := by rw [mn_eq]; omega
  rw [e3, Int.toNat_natCast, if_pos (by omega), if_pos (by omega), extract2 img a c (by omega) (by omega)]
  have e5 : img.extract a (a + c) = pieceOf img n len := by
    unfold pieceOf
    rw [← ha]
    rcases Nat.le_total (a + len.toNat) img.size with h | h
    · rw [show c = len.toNat by omega]
    · rw [show a + c = min img.size (a + len.toNat) by omega, ext_min]
  rw [e5]
  unfold given
  by_cases h : (pieceOf img n len).size < 32
  · rw [if_pos (by omega), if_pos h]; rfl
  · rw [if_neg (by omega), if_neg h, e4, mn_eq]
theorem give_f (f : ByteArray) (s st n g sl : Int) (l : List Opn) (b len : Int) (k : Nat) (hk : 4 < k) (h : OkOps l) : P.upload_Give.f k f s st n g sl l b len = some (giveTup f s st n g sl l b len) := by
  obtain ⟨k, rfl⟩ : ∃ m, k = m + 5 := ⟨k - 5, by omega⟩
  have j0 : ∀ x, x = !(giveMay f s st n g sl l b len) → P.upload_Give.j0 (k + 5) f b len x s st n g sl l = some (giveTup f s st n g sl l b len) := by
    intro x hx
    subst hx
    show P.upload_Give.j0 ((k + 4) + 1) _ _ _ _ _ _ _ _ _ _ = _
    rw [P.upload_Give.j0]
    unfold giveTup
    cases hm : giveMay f s st n g sl l b len
    · rfl
    unfold giveMay at hm
    simp only [Bool.and_eq_true, decide_eq_true_iff, Skiff.within_iff] at hm
    obtain ⟨hf, hd, _, hb, hl⟩ := hm
    obtain ⟨_, _, hn, _, _, h5, _⟩ := mayB_parts hd
    rw [if_neg (by decide), if_pos rfl, act_f f, Option.bind_some]
    unfold actTup
    rw [if_pos hf]
    generalize ho : best f = o
    cases o with
    | none => rfl
    | some p =>
      have hi := of_f f (recOf p)
      unfold imagePair at hi
      rw [goodAt_may hf ho, if_pos rfl] at hi
      have hz := image_le hf ho
      show (if (0 : Int) = 0 then _ else _) = _
      rw [if_pos rfl, copy_f s st n g sl l h5, Option.bind_some]
      dsimp only
      unfold giveOf nextOf
      by_cases h0 : s = 0
      · rw [if_pos h0]
        dsimp only
        rw [if_pos h0]
        exact give_j1 f st 0 g sl l b len s _ (recOf p) _ hi hz (by omega) hl (k + 3)
      · rw [if_neg h0]
        dsimp only
        rw [if_neg h0]
        exact give_j1 f st n g sl l b len s _ (recOf p) _ hi hz hn hl (k + 3)
  unfold P.upload_Give.f
  rw [nmay_f, devMay_f s st n g sl l h, Option.bind_some, Option.bind_some, value_f, length_f]
  unfold giveMay at j0
  cases hf : decide (f.size = 768)
  · rw [if_neg Bool.false_ne_true]; exact j0 _ (by rw [hf]; rfl)
  rw [if_pos rfl]
  cases hd : devMayB s st n g sl l
  · rw [if_neg Bool.false_ne_true]; exact j0 _ (by rw [hd]; simp)
  rw [if_pos rfl]
  have key : (s == 0 || s == 6) = true → ((some (within b 0 65535)).bind fun t => if t = true then ((some (within len 0 32)).bind fun t => P.upload_Give.j0 (k + 5) f b len (!t) s st n g sl l) else P.upload_Give.j0 (k + 5) f b len true s st n g sl l) = some (giveTup f s st n g sl l b len) := by
    intro h6
    rw [Option.bind_some]
    cases hb : within b 0 65535
    · rw [if_neg Bool.false_ne_true]; exact j0 _ (by rw [hb]; simp)
    · rw [if_pos rfl, Option.bind_some]; exact j0 _ (by rw [hf, hd, h6, hb]; simp)
  by_cases h0 : s = 0
  · rw [if_pos h0]; exact key (by rw [h0]; rfl)
  rw [if_neg h0]
  by_cases h6 : s = 6
  · rw [if_pos h6]; exact key (by rw [h6]; rfl)
  · rw [if_neg h6]; exact j0 _ (by rw [beq_eq_false_iff_ne.2 h0, beq_eq_false_iff_ne.2 h6]; simp)

end Go.Proofs.Ytmidohjfajbpmaa
end
section
set_option linter.unusedVariables false
set_option linter.unusedSimpArgs false
set_option maxHeartbeats 4000000
namespace Go.Proofs.Ytmidohjfajbpmaa.P
open Go.RowKit Go.Deep Go.ChangeShapes Go.WideShapes Go.Proofs.YtmidohjfajbpmaaW.PrintWords

section
variable {H : Type} {enc : TypeId × Value → H} {W : World} {base : Nat} {spare : Nat → Bool} {held : Bool}
end

end Go.Proofs.Ytmidohjfajbpmaa.P
end
