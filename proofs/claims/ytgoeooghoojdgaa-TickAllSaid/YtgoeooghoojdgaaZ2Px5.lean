-- written by wip/prt.py of this repo, by the kit's print, over contracts that are proved here by hand
import Derived.Test.YtgoeooghoojdgaaZ2Cz
import Derived.Test.YtgoeooghoojdgaaZ2GivTick
import Derived.Test.YtgoeooghoojdgaaZ2Px0
import Derived.Test.YtgoeooghoojdgaaZ2Px2
import Derived.Test.YtgoeooghoojdgaaZ2Px3
import Derived.Test.YtgoeooghoojdgaaZ2Px4
namespace Go.Proofs.Ytgoeooghoojdgaa.P
open Go.RowKit Go.Proofs.YtgoeooghoojdgaaW.PrintWords Go.Proofs.YtgoeooghoojdgaaW.PrintLast Go.Proofs.YtgoeooghoojdgaaW.PrintMore
attribute [local go_sem] max2_int min2_int max_two min_two max_three min_three max_four min_four   -- for this text's walks alone
set_option linter.unusedVariables false
set_option linter.unusedSimpArgs false

/-! ### nor_Worn: function 55 -/
def nor_Worn.f (a0 : ByteArray) (a1 : Int) (a2 : Int) : Option (ByteArray × Int) := some (Skiff.tornPair (Skiff.worn (Skiff.bl a0) a1 a2))
theorem nor_Worn.calls (a0 : ByteArray) (a1 : Int) (a2 : Int) (r1 : ByteArray) (r2 : Int) (w : World) (h : nor_Worn.f a0 a1 a2 = some (r1, r2)) :
  Calls Try.prog 55 #[.string a0, .int .i64 a1, .int .i64 a2] w fun e w' => e = .returned (.tuple #[.string r1, .int .i64 r2]) ∧ Below w.heap.size w w' :=
 Go.Proofs.Ytgoeooghoojdgaa.g_nor_Worn a0 a1 a2 r1 r2 w h

/-! ### nor_Torn: function 56 -/
def nor_Torn.f (a0 : ByteArray) (a1 : Int) (a2 : ByteArray) (a3 : Int) : Option (ByteArray × Int) := some (Skiff.tornPair (Skiff.torn (Skiff.bl a0) a1 (Skiff.bl a2) a3))
theorem nor_Torn.calls (a0 : ByteArray) (a1 : Int) (a2 : ByteArray) (a3 : Int) (r1 : ByteArray) (r2 : Int) (w : World) (h : nor_Torn.f a0 a1 a2 a3 = some (r1, r2)) :
  Calls Try.prog 56 #[.string a0, .int .i64 a1, .string a2, .int .i64 a3] w fun e w' => e = .returned (.tuple #[.string r1, .int .i64 r2]) ∧ Below w.heap.size w w' :=
 Go.Proofs.Ytgoeooghoojdgaa.g_nor_Torn a0 a1 a2 a3 r1 r2 w h

/-! ### ops_Cut: function 35 -/
def ops_Cut.j0 : Nat → ByteArray → Int → Bool → Bool → Int → ByteArray → Option (ByteArray × Int)
 | 0, _, _, _, _, _, _ => none
 | k + 1, x0, x2, x27, x128000, x128001, x128002 => if x27 = true then (some ((⟨#[]⟩ : ByteArray), 300)) else (if x128000 = true then ((nor_Worn.f x0 (wrap64 (Int.tdiv x128001 96)) x2).bind fun bt130 => (some (bt130.1, 0))) else ((nor_Torn.f x0 x128001 x128002 (mn x2 32)).bind fun bt132 => (some (bt132.1, 0))))
def ops_Cut.f (k : Nat) (a0 : ByteArray) (a1_0 : Bool) (a1_1 : Int) (a1_2 : ByteArray) (a2 : Int) : Option (ByteArray × Int) := (nor_May.f a0).bind fun t128 => (if t128 = true then ((ops_May.f a1_0 a1_1 a1_2).bind fun t129 => (if t129 = true then (if a2 < 0 then (ops_Cut.j0 k a0 a2 true a1_0 a1_1 a1_2) else (ops_Cut.j0 k a0 a2 (decide (a2 > 96)) a1_0 a1_1 a1_2)) else (ops_Cut.j0 k a0 a2 true a1_0 a1_1 a1_2))) else (ops_Cut.j0 k a0 a2 true a1_0 a1_1 a1_2))
theorem ops_Cut.mono_l : ∀ k, (∀ y0 y1 y2 y3 y4 y5, LeO (ops_Cut.j0 k y0 y1 y2 y3 y4 y5) (ops_Cut.j0 (k + 1) y0 y1 y2 y3 y4 y5))
 | 0 => fun _ _ _ _ _ _ r h => by simp [ops_Cut.j0] at h
 | k + 1 => by
  have ih0 := ops_Cut.mono_l k
  ·intro y0 y1 y2 y3 y4 y5
   unfold ops_Cut.j0
   repeat' first
   | (with_reducible exact ih0 _ _ _ _ _ _)
   | (with_reducible exact LeO.refl _)
   | (with_reducible exact LeO.none _)
   | (with_reducible refine LeO.ite ?_ ?_)
   | (with_reducible refine LeO.bind ?_ (fun _ => ?_))
   | exact ih0 _ _ _ _ _ _
   | exact LeO.none _
   | refine LeO.ite ?_ ?_
   | refine LeO.bind ?_ (fun _ => ?_)
theorem ops_Cut.mono : ∀ a0 a1 a2 a3 a4 k, LeO (ops_Cut.f k a0 a1 a2 a3 a4) (ops_Cut.f (k + 1) a0 a1 a2 a3 a4) := by
 intro a0 a1 a2 a3 a4 k
 have ih0 := ops_Cut.mono_l k
 unfold ops_Cut.f
 repeat' first
   | (with_reducible exact ih0 _ _ _ _ _ _)
   | (with_reducible exact LeO.refl _)
   | (with_reducible exact LeO.none _)
   | (with_reducible refine LeO.ite ?_ ?_)
   | (with_reducible refine LeO.bind ?_ (fun _ => ?_))
   | exact ih0 _ _ _ _ _ _
   | exact LeO.none _
   | refine LeO.ite ?_ ?_
   | refine LeO.bind ?_ (fun _ => ?_)
set_option maxHeartbeats 8000000 in
set_option maxRecDepth 100000 in
theorem ops_Cut.calls (k : Nat) (a0 : ByteArray) (a1_0 : Bool) (a1_1 : Int) (a1_2 : ByteArray) (a2 : Int) (r1 : ByteArray) (r2 : Int) (w : World) (h : ops_Cut.f k a0 a1_0 a1_1 a1_2 a2 = some (r1, r2)) :
  Calls Try.prog 35 #[.string a0, .agg #[.bool a1_0, .int .i64 a1_1, .string a1_2], .int .i64 a2] w fun e w' => e = .returned (.tuple #[.string r1, .int .i64 r2]) ∧ Below w.heap.size w w' := by
 have hu40 := Try.underlying40
 have HB := Aside0.mk (Below.refl w.heap.size w)
 have H : ((nor_May.f a0).bind fun t128 => (if t128 = true then ((ops_May.f a1_0 a1_1 a1_2).bind fun t129 => (if t129 = true then (if a2 < 0 then (ops_Cut.j0 k a0 a2 true a1_0 a1_1 a1_2) else (ops_Cut.j0 k a0 a2 (decide (a2 > 96)) a1_0 a1_1 a1_2)) else (ops_Cut.j0 k a0 a2 true a1_0 a1_1 a1_2))) else (ops_Cut.j0 k a0 a2 true a1_0 a1_1 a1_2))) = some (r1, r2) := h
 clear h
 have HC4 := Aside0.mk H
 clear H
 go_enter Try.func35, Try.ntmps35
 go_upto_region 1 with (first | ((with_reducible refine gate_dst (N := 4) rfl ?_); refine box_event ?hg (N := 4) ?hd (cs := #[.bool a1_0, .int .i64 a1_1, .string a1_2]) (t := 40) ?hr ?_; (case hd => rfl); (case hg => rfl); (case hr => first | (go_simp; done) | (go_simp; rfl)); intro gb127 hg w5 hbox hb; have n0_ := Aside0.mk (below_step (kb HB.out) hb); have n1_ := Aside0.mk (hbox); have n2_ := Aside0.mk ((kz hg (below_size (kb HB.out)) : w.heap.size ≤ gb127)); have n3_ := Aside0.mk ((kz hg (below_size (kb HB.out)) : w.heap.size ≤ gb127)); clear HB; have HB := n0_; have BK127 := n1_; have GW127 := n2_; have GE127 := n3_; clear n0_ n1_ n2_ n3_; clear hb hbox hg))
 (try simp only [Act.put, List.setIfInBounds_toArray, List.set_cons_zero, List.set_cons_succ])
 go_cut [27] (fun v27 wc => ∃ (kq : Nat) (x27_3 : Bool), v27 = .bool x27_3 ∧ Aside0 (ops_Cut.j0 kq a0 a2 x27_3 a1_0 a1_1 a1_2 = some (r1, r2)) ∧ Aside0 (kq ≤ k) ∧ Aside0 (wc.heap[gb127]? = some (.cells #[.bool a1_0, .int .i64 a1_1, .string a1_2] 40 (0, 0))) ∧ Aside0 (Below w.heap.size w wc))
 case first =>
  have H := HC4.out
  clear HC4
  replace H := Option.bind_eq_some_iff.mp H
  obtain ⟨t128, A60, H⟩ := H
  replace H : (if t128 = true then ((ops_May.f a1_0 a1_1 a1_2).bind fun t129 => (if t129 = true then (if a2 < 0 then (ops_Cut.j0 k a0 a2 true a1_0 a1_1 a1_2) else (ops_Cut.j0 k a0 a2 (decide (a2 > 96)) a1_0 a1_1 a1_2)) else (ops_Cut.j0 k a0 a2 true a1_0 a1_1 a1_2))) else (ops_Cut.j0 k a0 a2 true a1_0 a1_1 a1_2)) = some (r1, r2) := H
  have A6 := Aside0.mk A60
  clear A60
  by_cases c7 : t128 = true
  case neg =>
   replace c7 := Bool.eq_false_iff.mpr c7
   subst c7
   have H1 : (ops_Cut.j0 k a0 a2 true a1_0 a1_1 a1_2) = some (r1, r2) := by rw [if_neg (show ¬ (false = true) by decide)] at H; exact H
   clear H; have H := H1; clear H1
   have H' := Aside0.mk H
   clear H
   go_wp2_with (first | ((with_reducible refine gate_callee (f := 25) rfl ?_); refine goesL_ (some 13) rfl rfl Try.func25 (by kernel_rfl) rfl #[.string a0] rfl ka ?_; (with_reducible refine (nor_May.calls a0 false _ A6.out).mono ?_); rintro e w' ⟨rfl, ⟨nd, rfl⟩⟩; refine ⟨_, rfl, ?_⟩))
   go_meet
   case rel => exact ⟨_, (true), (by first | rfl | (simp; done) | (simp [*]; done)), H', ⟨by first | omega | exact Nat.le_refl _⟩, ⟨kB BK127.out⟩, ⟨kb1 HB.out GE127.out⟩⟩
  subst c7
  have H1 : ((ops_May.f a1_0 a1_1 a1_2).bind fun t129 => (if t129 = true then (if a2 < 0 then (ops_Cut.j0 k a0 a2 true a1_0 a1_1 a1_2) else (ops_Cut.j0 k a0 a2 (decide (a2 > 96)) a1_0 a1_1 a1_2)) else (ops_Cut.j0 k a0 a2 true a1_0 a1_1 a1_2))) = some (r1, r2) := by rw [if_pos rfl] at H; exact H
  clear H; have H := H1; clear H1
  replace H := Option.bind_eq_some_iff.mp H
  obtain ⟨t129, A80, H⟩ := H
  replace H : (if t129 = true then (if a2 < 0 then (ops_Cut.j0 k a0 a2 true a1_0 a1_1 a1_2) else (ops_Cut.j0 k a0 a2 (decide (a2 > 96)) a1_0 a1_1 a1_2)) else (ops_Cut.j0 k a0 a2 true a1_0 a1_1 a1_2)) = some (r1, r2) := H
  have A8 := Aside0.mk A80
  clear A80
  by_cases c9 : t129 = true
  case neg =>
   replace c9 := Bool.eq_false_iff.mpr c9
   subst c9
   have H1 : (ops_Cut.j0 k a0 a2 true a1_0 a1_1 a1_2) = some (r1, r2) := by rw [if_neg (show ¬ (false = true) by decide)] at H; exact H
   clear H; have H := H1; clear H1
   have H' := Aside0.mk H
   clear H
   go_wp2_with (first | ((with_reducible refine gate_callee (f := 25) rfl ?_); refine goesL_ (some 13) rfl rfl Try.func25 (by kernel_rfl) rfl #[.string a0] rfl ka ?_; (with_reducible refine (nor_May.calls a0 true _ A6.out).mono ?_); rintro e w' ⟨rfl, ⟨nd, rfl⟩⟩; refine ⟨_, rfl, ?_⟩; obtain ⟨hcz15_0, hcz15_1, hcz15_2⟩ := kc3 BK127.out; obtain ⟨hfz15_0, hfz15_1, hfz15_2⟩ := kf3 BK127.out) | (go_at_call 48; (with_reducible refine (ops_May.calls a1_0 a1_1 a1_2 false _ A8.out).mono ?_); rintro e w16 ⟨rfl, hb⟩; have n0_ := Aside0.mk (kL BK127.out hb); have n1_ := Aside0.mk (below_step (kb1 HB.out GE127.out) hb); clear BK127; clear HB; have BK127 := n0_; have HB := n1_; clear n0_ n1_; (try clear hb); (try clear hb2); (try clear hk); (try clear hi)))
   go_meet
   case rel => exact ⟨_, (true), (by first | rfl | (simp; done) | (simp [*]; done)), H', ⟨by first | omega | exact Nat.le_refl _⟩, ⟨kB BK127.out⟩, ⟨kb1 HB.out GE127.out⟩⟩
  subst c9
  have H1 : (if a2 < 0 then (ops_Cut.j0 k a0 a2 true a1_0 a1_1 a1_2) else (ops_Cut.j0 k a0 a2 (decide (a2 > 96)) a1_0 a1_1 a1_2)) = some (r1, r2) := by rw [if_pos rfl] at H; exact H
  clear H; have H := H1; clear H1
  by_cases c10 : a2 < 0
  case neg =>
   rw [if_neg c10] at H
   have c10b0 : decide (a2 < 0) = false := decide_eq_false c10
   clear c10
   (first | rw [c10b0] | rw [c10b1] | (simp only [i64_w, i32_w]; rw [c10b0]) | skip)
   have H' := Aside0.mk H
   clear H
   go_wp2_with (first | ((with_reducible refine gate_callee (f := 25) rfl ?_); refine goesL_ (some 13) rfl rfl Try.func25 (by kernel_rfl) rfl #[.string a0] rfl ka ?_; (with_reducible refine (nor_May.calls a0 true _ A6.out).mono ?_); rintro e w' ⟨rfl, ⟨nd, rfl⟩⟩; refine ⟨_, rfl, ?_⟩; obtain ⟨hcz13_0, hcz13_1, hcz13_2⟩ := kc3 BK127.out; obtain ⟨hfz13_0, hfz13_1, hfz13_2⟩ := kf3 BK127.out) | (go_at_call 48; (with_reducible refine (ops_May.calls a1_0 a1_1 a1_2 true _ A8.out).mono ?_); rintro e w14 ⟨rfl, hb⟩; have n0_ := Aside0.mk (kL BK127.out hb); have n1_ := Aside0.mk (below_step (kb1 HB.out GE127.out) hb); clear BK127; clear HB; have BK127 := n0_; have HB := n1_; clear n0_ n1_; (try clear hb); (try clear hb2); (try clear hk); (try clear hi)))
   go_meet
   case rel => exact ⟨_, (decide (a2 > 96)), (by first | rfl | (simp; done) | (simp [*]; done)), H', ⟨by first | omega | exact Nat.le_refl _⟩, ⟨kB BK127.out⟩, ⟨kb1 HB.out GE127.out⟩⟩
  rw [if_pos c10] at H
  have c10b0 : decide (a2 < 0) = true := decide_eq_true c10
  clear c10
  (first | rw [c10b0] | rw [c10b1] | (simp only [i64_w, i32_w]; rw [c10b0]) | skip)
  have H' := Aside0.mk H
  clear H
  go_wp2_with (first | ((with_reducible refine gate_callee (f := 25) rfl ?_); refine goesL_ (some 13) rfl rfl Try.func25 (by kernel_rfl) rfl #[.string a0] rfl ka ?_; (with_reducible refine (nor_May.calls a0 true _ A6.out).mono ?_); rintro e w' ⟨rfl, ⟨nd, rfl⟩⟩; refine ⟨_, rfl, ?_⟩; obtain ⟨hcz11_0, hcz11_1, hcz11_2⟩ := kc3 BK127.out; obtain ⟨hfz11_0, hfz11_1, hfz11_2⟩ := kf3 BK127.out) | (go_at_call 48; (with_reducible refine (ops_May.calls a1_0 a1_1 a1_2 true _ A8.out).mono ?_); rintro e w12 ⟨rfl, hb⟩; have n0_ := Aside0.mk (kL BK127.out hb); have n1_ := Aside0.mk (below_step (kb1 HB.out GE127.out) hb); clear BK127; clear HB; have BK127 := n0_; have HB := n1_; clear n0_ n1_; (try clear hb); (try clear hb2); (try clear hk); (try clear hi)))
  go_meet
  case rel => exact ⟨_, (true), (by first | rfl | (simp; done) | (simp [*]; done)), H', ⟨by first | omega | exact Nat.le_refl _⟩, ⟨kB BK127.out⟩, ⟨kb1 HB.out GE127.out⟩⟩
 case rest =>
  clear HC4
  try clear c1; try clear c2; try clear p2; try clear c3; try clear c7; try clear c9; try clear c10; try clear c10b0; try clear hcz11_0; try clear hcz11_1; try clear hcz11_2; try clear hcz13_0; try clear hcz13_1; try clear hcz13_2; try clear hcz15_0; try clear hcz15_1; try clear hcz15_2; try clear hfz11_0; try clear hfz11_1; try clear hfz11_2; try clear hfz13_0; try clear hfz13_1; try clear hfz13_2; try clear hfz15_0; try clear hfz15_1; try clear hfz15_2
  obtain ⟨kq, x27_3, rfl, HA, HJ3, BK127, HB⟩ := hcut
  cases kq with
  | zero => exact absurd HA.out (by simp [ops_Cut.j0])
  | succ kj3 =>
   have H := HA.out
   clear HA
   simp only [ops_Cut.j0] at H
   by_cases c17 : x27_3 = true
   ·subst c17
    have H1 : (some ((⟨#[]⟩ : ByteArray), 300)) = some (r1, r2) := by rw [if_pos rfl] at H; exact H
    clear H; have H := H1; clear H1
    simp only [Option.some.injEq, Prod.mk.injEq] at H
    obtain ⟨rfl, rfl⟩ := H
    go_wp2
    go_ret2
    exact ⟨by first | rfl | (simp [errW_none, errW_some] <;> rfl) | (simp [*, errW_none, errW_some] <;> rfl), kb1 HB.out GE127.out⟩
   ·replace c17 := Bool.eq_false_iff.mpr c17
    subst c17
    have H1 : (if a1_0 = true then ((nor_Worn.f a0 (wrap64 (Int.tdiv a1_1 96)) a2).bind fun bt130 => (some (bt130.1, 0))) else ((nor_Torn.f a0 a1_1 a1_2 (mn a2 32)).bind fun bt132 => (some (bt132.1, 0)))) = some (r1, r2) := by rw [if_neg (show ¬ (false = true) by decide)] at H; exact H
    clear H; have H := H1; clear H1
    by_cases c18 : a1_0 = true
    ·subst c18
     have H1 : ((nor_Worn.f a0 (wrap64 (Int.tdiv a1_1 96)) a2).bind fun bt130 => (some (bt130.1, 0))) = some (r1, r2) := by rw [if_pos rfl] at H; exact H
     clear H; have H := H1; clear H1
     replace H := Option.bind_eq_some_iff.mp H
     obtain ⟨⟨t130, t131⟩, A190, H⟩ := H
     replace H : (some (t130, 0)) = some (r1, r2) := H
     have A19 := Aside0.mk A190
     clear A190
     simp only [Option.some.injEq, Prod.mk.injEq] at H
     obtain ⟨rfl, rfl⟩ := H
     obtain ⟨hcz20_0, hcz20_1, hcz20_2⟩ := kc3 BK127.out
     obtain ⟨hfz20_0, hfz20_1, hfz20_2⟩ := kf3 BK127.out
     go_wp2_with (first | ((with_reducible refine gate_callee (f := 55) rfl ?_); refine goesL_ (some 36) rfl rfl Try.func55 (by kernel_rfl) rfl #[.string a0, .int .i64 (wrap64 (Int.tdiv a1_1 96)), .int .i64 a2] rfl ka ?_; (with_reducible refine (nor_Worn.calls a0 (wrap64 (Int.tdiv a1_1 96)) a2 t130 t131 _ A19.out).mono ?_); rintro e w21 ⟨rfl, hb⟩; refine ⟨_, rfl, ?_⟩; have n0_ := Aside0.mk (kL BK127.out hb); have n1_ := Aside0.mk (below_step (kb1 HB.out GE127.out) hb); clear BK127; clear HB; have BK127 := n0_; have HB := n1_; clear n0_ n1_; (try clear hb); (try clear hb2); (try clear hk); (try clear hi)))
     go_ret2
     exact ⟨by first | rfl | (simp [errW_none, errW_some] <;> rfl) | (simp [*, errW_none, errW_some] <;> rfl), kb1 HB.out GE127.out⟩
    ·replace c18 := Bool.eq_false_iff.mpr c18
     subst c18
     have H1 : ((nor_Torn.f a0 a1_1 a1_2 (mn a2 32)).bind fun bt132 => (some (bt132.1, 0))) = some (r1, r2) := by rw [if_neg (show ¬ (false = true) by decide)] at H; exact H
     clear H; have H := H1; clear H1
     obtain ⟨ji22, hji22⟩ : ∃ j_ : Int, (mn a2 32) = j_ := ⟨_, rfl⟩
     replace H : ((nor_Torn.f a0 a1_1 a1_2 (ji22)).bind fun bt132 => (some (bt132.1, 0))) = some (r1, r2) := by first | (rw [hji22] at H; exact H) | (simp only [hji22] at H ⊢; exact H)
     have hji22_ : (if 32 < a2 then 32 else a2) = ji22 := hji22
     replace H := Option.bind_eq_some_iff.mp H
     obtain ⟨⟨t132, t133⟩, A230, H⟩ := H
     replace H : (some (t132, 0)) = some (r1, r2) := H
     have A23 := Aside0.mk A230
     clear A230
     simp only [Option.some.injEq, Prod.mk.injEq] at H
     obtain ⟨rfl, rfl⟩ := H
     obtain ⟨hcz24_0, hcz24_1, hcz24_2⟩ := kc3 BK127.out
     obtain ⟨hfz24_0, hfz24_1, hfz24_2⟩ := kf3 BK127.out
     go_wp2_with (first | ((with_reducible refine gate_callee (f := 56) rfl ?_); refine goesL_ (some 48) rfl rfl Try.func56 (by kernel_rfl) rfl #[.string a0, .int .i64 a1_1, .string a1_2, .int .i64 ji22] rfl (by (try simp only [List.map_toArray, List.map_cons, List.map_nil]); first | done | (simp only [hji22]; rfl) | rfl | (simp only [List.length_drop, List.length_take]; rfl)) ?_; (with_reducible refine (nor_Torn.calls a0 a1_1 a1_2 ji22 t132 t133 _ A23.out).mono ?_); rintro e w25 ⟨rfl, hb⟩; refine ⟨_, rfl, ?_⟩; have n0_ := Aside0.mk (kL BK127.out hb); have n1_ := Aside0.mk (below_step (kb1 HB.out GE127.out) hb); clear BK127; clear HB; have BK127 := n0_; have HB := n1_; clear n0_ n1_; (try clear hb); (try clear hb2); (try clear hk); (try clear hi)))
     go_ret2
     exact ⟨by first | rfl | (simp [errW_none, errW_some] <;> rfl) | (simp only [← hji22]; first | rfl | (simp [errW_none, errW_some] <;> rfl)) | (simp [*, errW_none, errW_some] <;> rfl), kb1 HB.out GE127.out⟩

/-! ### ops_Do: function 29 -/
def ops_Do.f (k : Nat) (a0 : ByteArray) (a1_0 : Bool) (a1_1 : Int) (a1_2 : ByteArray) : Option (ByteArray × Int) := (ops_Cut.f k a0 a1_0 a1_1 a1_2 96).bind fun bt135 => (some (bt135.1, bt135.2))
theorem ops_Do.mono : ∀ a0 a1 a2 a3 k, LeO (ops_Do.f k a0 a1 a2 a3) (ops_Do.f (k + 1) a0 a1 a2 a3) := by
 intro a0 a1 a2 a3 k
 unfold ops_Do.f
 repeat' first
   | (with_reducible exact ops_Cut.mono _ _ _ _ _ _)
   | (with_reducible exact LeO.refl _)
   | (with_reducible exact LeO.none _)
   | (with_reducible refine LeO.ite ?_ ?_)
   | (with_reducible refine LeO.bind ?_ (fun _ => ?_))
   | exact ops_Cut.mono _ _ _ _ _ _
   | exact LeO.none _
   | refine LeO.ite ?_ ?_
   | refine LeO.bind ?_ (fun _ => ?_)
set_option maxHeartbeats 8000000 in
set_option maxRecDepth 100000 in
theorem ops_Do.calls (k : Nat) (a0 : ByteArray) (a1_0 : Bool) (a1_1 : Int) (a1_2 : ByteArray) (r1 : ByteArray) (r2 : Int) (w : World) (h : ops_Do.f k a0 a1_0 a1_1 a1_2 = some (r1, r2)) :
  Calls Try.prog 29 #[.string a0, .agg #[.bool a1_0, .int .i64 a1_1, .string a1_2]] w fun e w' => e = .returned (.tuple #[.string r1, .int .i64 r2]) ∧ Below w.heap.size w w' := by
 have hu40 := Try.underlying40
 have HB := Aside0.mk (Below.refl w.heap.size w)
 have H : ((ops_Cut.f k a0 a1_0 a1_1 a1_2 96).bind fun bt135 => (some (bt135.1, bt135.2))) = some (r1, r2) := h
 clear h
 replace H := Option.bind_eq_some_iff.mp H
 obtain ⟨⟨t135, t136⟩, A30, H⟩ := H
 replace H : (some (t135, t136)) = some (r1, r2) := H
 have A3 := Aside0.mk A30
 clear A30
 simp only [Option.some.injEq, Prod.mk.injEq] at H
 obtain ⟨rfl, rfl⟩ := H
 go_enter Try.func29, Try.ntmps29
 go_wp2_with (first | ((with_reducible refine gate_dst (N := 3) rfl ?_); refine box_event ?hg (N := 3) ?hd (cs := #[.bool a1_0, .int .i64 a1_1, .string a1_2]) (t := 40) ?hr ?_; (case hd => rfl); (case hg => rfl); (case hr => first | (go_simp; done) | (go_simp; rfl)); intro gb134 hg w4 hbox hb; have n0_ := Aside0.mk (below_step (kb HB.out) hb); have n1_ := Aside0.mk (hbox); have n2_ := Aside0.mk ((kz hg (below_size (kb HB.out)) : w.heap.size ≤ gb134)); have n3_ := Aside0.mk ((kz hg (below_size (kb HB.out)) : w.heap.size ≤ gb134)); clear HB; have HB := n0_; have BK134 := n1_; have GW134 := n2_; have GE134 := n3_; clear n0_ n1_ n2_ n3_; clear hb hbox hg; obtain ⟨hcz5_0, hcz5_1, hcz5_2⟩ := kc3 BK134.out; obtain ⟨hfz5_0, hfz5_1, hfz5_2⟩ := kf3 BK134.out) | ((with_reducible refine gate_callee (f := 35) rfl ?_); refine goesL_ (some 8) rfl rfl Try.func35 (by kernel_rfl) rfl #[.string a0, .agg #[.bool a1_0, .int .i64 a1_1, .string a1_2], .int .i64 96] rfl ka ?_; (with_reducible refine (ops_Cut.calls k a0 a1_0 a1_1 a1_2 96 t135 t136 _ A3.out).mono ?_); rintro e w6 ⟨rfl, hb⟩; refine ⟨_, rfl, ?_⟩; have n0_ := Aside0.mk (kL BK134.out hb); have n1_ := Aside0.mk (below_step (kb1 HB.out GE134.out) hb); clear BK134; clear HB; have BK134 := n0_; have HB := n1_; clear n0_ n1_; (try clear hb); (try clear hb2); (try clear hk); (try clear hi)))
 go_ret2
 exact ⟨by first | rfl | (simp [errW_none, errW_some] <;> rfl) | (simp [*, errW_none, errW_some] <;> rfl), kb1 HB.out GE134.out⟩

/-! ### device_New: function 30 -/
def device_New.f  : Option (Int × Int × Int × Int × Int × (List (S40))) := some (0, 0, 0, 0, 0, ([] : List (S40)))
set_option maxHeartbeats 8000000 in
set_option maxRecDepth 100000 in
theorem device_New.calls  (r1 : Int) (r2 : Int) (r3 : Int) (r4 : Int) (r5 : Int) (r6 : List (S40)) (w : World) (h : device_New.f  = some (r1, r2, r3, r4, r5, r6)) :
  Calls Try.prog 30 #[] w fun e w' => ∃ v5_ : Value, e = .returned (.agg #[.int .i64 r1, .int .i64 r2, .int .i64 r3, .int .i64 r4, .int .i64 r5, v5_]) ∧ Kd.R k40 40 w' w.heap.size (fun _ => True) v5_ r6 ∧ Below w.heap.size w w' := by
 have hu24 := Try.underlying24
 have HB := Aside0.mk (Below.refl w.heap.size w)
 have H : (some (0, 0, 0, 0, 0, ([] : List (S40)))) = some (r1, r2, r3, r4, r5, r6) := h
 clear h
 simp only [Option.some.injEq, Prod.mk.injEq] at H
 obtain ⟨rfl, rfl, rfl, rfl, rfl, rfl⟩ := H
 go_enter Try.func30, Try.ntmps30
 go_wp2_with (first | ((with_reducible refine gate_dst (N := 0) rfl ?_); refine box_event ?hg (N := 0) ?hd (cs := #[.int .i64 0, .int .i64 0, .int .i64 0, .int .i64 0, .int .i64 0, .slice none 0 0]) (t := 24) ?hr ?_; (case hd => rfl); (case hg => rfl); (case hr => first | (go_simp; done) | (go_simp; rfl)); intro gb137 hg w1 hbox hb; have n0_ := Aside0.mk (below_step (kb HB.out) hb); have n1_ := Aside0.mk (hbox); have n2_ := Aside0.mk ((kz hg (below_size (kb HB.out)) : w.heap.size ≤ gb137)); have n3_ := Aside0.mk ((kz hg (below_size (kb HB.out)) : w.heap.size ≤ gb137)); clear HB; have HB := n0_; have BK137 := n1_; have GW137 := n2_; have GE137 := n3_; clear n0_ n1_ n2_ n3_; clear hb hbox hg; obtain ⟨hcz2_0, hcz2_1, hcz2_2, hcz2_3, hcz2_4, hcz2_5⟩ := kc6 BK137.out; obtain ⟨hfz2_0, hfz2_1, hfz2_2, hfz2_3, hfz2_4, hfz2_5⟩ := kf6 BK137.out))
 refine bodyPost_ret (results_cell_row rfl _ _ gb137 24 #[.int .i64 0, .int .i64 0, .int .i64 0, .int .i64 0, .int .i64 0, .slice none 0 0] (0, 0) _ rfl (kP6 BK137.out) Try.underlying24 rfl (by kernel_rfl)) rfl ?_
 exact ⟨_, by first | rfl | (simp [errW_none, errW_some] <;> rfl) | (simp [*, errW_none, errW_some] <;> rfl), by first | exact Kd.R_nil _ _ _ _ _ | exact Kd.N_nil _ _ _ _ _ | exact Kd.V_nil _ _ _ _ _ | exact Kd.Q_nil _ _ _ _ _ | exact Kd.S_nil _ _ _ _ _, kb1 HB.out GE137.out⟩

/-! ### tick_Step: function 10 -/
mutual
def tick_Step.j0 : Nat → ByteArray → Bool → Int → Int → Int → Int → Int → List (S40) → Option (ByteArray × Int × Int × Int × Int × Int × (List (S40)) × Int)
 | 0, _, _, _, _, _, _, _, _ => none
 | k + 1, x0, x15, x139000, x139001, x139002, x139003, x139004, x139005 => if x15 = true then (some ((⟨#[]⟩ : ByteArray), 0, 0, 0, 0, 0, ([] : List (S40)), 1800)) else ((device_Copy.f x139000 x139001 x139002 x139003 x139004 x139005).bind fun bt142 => ((tick_Works.f bt142.1 bt142.2.1 bt142.2.2.1 bt142.2.2.2.1 bt142.2.2.2.2.1 bt142.2.2.2.2.2).bind fun t151 => (if t151 = true then (if (bt142.2.2.2.2.2.length : Int) > 0 then (if 0 < (bt142.2.2.2.2.2.length : Int) then ((ops_Do.f k x0 ((rd_T40 bt142.2.2.2.2.2 0).f0) ((rd_T40 bt142.2.2.2.2.2 0).f1) ((rd_T40 bt142.2.2.2.2.2 0).f2)).bind fun bt153 => (if 1 ≤ (bt142.2.2.2.2.2.length : Int) then (tick_Step.j1 k bt153.1 bt142.1 bt142.2.1 bt142.2.2.1 bt142.2.2.2.1 bt142.2.2.2.2.1 (bt142.2.2.2.2.2.drop (1 : Int).toNat)) else (none))) else (none)) else (tick_Step.j1 k x0 bt142.1 bt142.2.1 bt142.2.2.1 bt142.2.2.2.1 bt142.2.2.2.2.1 bt142.2.2.2.2.2)) else (some (x0, bt142.1, bt142.2.1, bt142.2.2.1, bt142.2.2.2.1, bt142.2.2.2.2.1, bt142.2.2.2.2.2, 0)))))
def tick_Step.j1 : Nat → ByteArray → Int → Int → Int → Int → Int → List (S40) → Option (ByteArray × Int × Int × Int × Int × Int × (List (S40)) × Int)
 | 0, _, _, _, _, _, _, _ => none
 | k + 1, x0, x151000, x151001, x151002, x151003, x151004, x151005 => if (x151005.length : Int) > 0 then (some (x0, x151000, x151001, x151002, x151003, x151004, x151005, 0)) else (if x151000 = 5 then ((device_New.f).bind fun bt158 => (some (x0, bt158.1, bt158.2.1, bt158.2.2.1, bt158.2.2.2.1, bt158.2.2.2.2.1, bt158.2.2.2.2.2, 0))) else (some (x0, 1, x151001, x151002, x151003, x151004, x151005, 0)))
end
def tick_Step.f (k : Nat) (a0 : ByteArray) (a1_0 : Int) (a1_1 : Int) (a1_2 : Int) (a1_3 : Int) (a1_4 : Int) (l1_5 : List (S40)) : Option (ByteArray × Int × Int × Int × Int × Int × (List (S40)) × Int) := (nor_May.f a0).bind fun t140 => (if t140 = true then ((device_May.f a1_0 a1_1 a1_2 a1_3 a1_4 l1_5).bind fun t141 => (tick_Step.j0 k a0 (!t141) a1_0 a1_1 a1_2 a1_3 a1_4 l1_5)) else (tick_Step.j0 k a0 true a1_0 a1_1 a1_2 a1_3 a1_4 l1_5))
theorem tick_Step.mono_l : ∀ k, (∀ y0 y1 y2 y3 y4 y5 y6 y7, LeO (tick_Step.j0 k y0 y1 y2 y3 y4 y5 y6 y7) (tick_Step.j0 (k + 1) y0 y1 y2 y3 y4 y5 y6 y7)) ∧ (∀ y0 y1 y2 y3 y4 y5 y6, LeO (tick_Step.j1 k y0 y1 y2 y3 y4 y5 y6) (tick_Step.j1 (k + 1) y0 y1 y2 y3 y4 y5 y6))
 | 0 => ⟨fun _ _ _ _ _ _ _ _ r h => by simp [tick_Step.j0] at h, fun _ _ _ _ _ _ _ r h => by simp [tick_Step.j1] at h⟩
 | k + 1 => by
  obtain ⟨ih0, ih1⟩ := tick_Step.mono_l k
  refine ⟨?_, ?_⟩
  ·intro y0 y1 y2 y3 y4 y5 y6 y7
   unfold tick_Step.j0
   repeat' first
   | (with_reducible exact ih0 _ _ _ _ _ _ _ _)
   | (with_reducible exact ih1 _ _ _ _ _ _ _)
   | (with_reducible exact ops_Do.mono _ _ _ _ _)
   | (with_reducible exact LeO.refl _)
   | (with_reducible exact LeO.none _)
   | (with_reducible refine LeO.ite ?_ ?_)
   | (with_reducible refine LeO.bind ?_ (fun _ => ?_))
   | exact ih0 _ _ _ _ _ _ _ _
   | exact ih1 _ _ _ _ _ _ _
   | exact ops_Do.mono _ _ _ _ _
   | exact LeO.none _
   | refine LeO.ite ?_ ?_
   | refine LeO.bind ?_ (fun _ => ?_)
  ·intro y0 y1 y2 y3 y4 y5 y6
   unfold tick_Step.j1
   repeat' first
   | (with_reducible exact ih0 _ _ _ _ _ _ _ _)
   | (with_reducible exact ih1 _ _ _ _ _ _ _)
   | (with_reducible exact ops_Do.mono _ _ _ _ _)
   | (with_reducible exact LeO.refl _)
   | (with_reducible exact LeO.none _)
   | (with_reducible refine LeO.ite ?_ ?_)
   | (with_reducible refine LeO.bind ?_ (fun _ => ?_))
   | exact ih0 _ _ _ _ _ _ _ _
   | exact ih1 _ _ _ _ _ _ _
   | exact ops_Do.mono _ _ _ _ _
   | exact LeO.none _
   | refine LeO.ite ?_ ?_
   | refine LeO.bind ?_ (fun _ => ?_)
theorem tick_Step.mono : ∀ a0 a1 a2 a3 a4 a5 a6 k, LeO (tick_Step.f k a0 a1 a2 a3 a4 a5 a6) (tick_Step.f (k + 1) a0 a1 a2 a3 a4 a5 a6) := by
 intro a0 a1 a2 a3 a4 a5 a6 k
 obtain ⟨ih0, ih1⟩ := tick_Step.mono_l k
 unfold tick_Step.f
 repeat' first
   | (with_reducible exact ih0 _ _ _ _ _ _ _ _)
   | (with_reducible exact ih1 _ _ _ _ _ _ _)
   | (with_reducible exact ops_Do.mono _ _ _ _ _)
   | (with_reducible exact LeO.refl _)
   | (with_reducible exact LeO.none _)
   | (with_reducible refine LeO.ite ?_ ?_)
   | (with_reducible refine LeO.bind ?_ (fun _ => ?_))
   | exact ih0 _ _ _ _ _ _ _ _
   | exact ih1 _ _ _ _ _ _ _
   | exact ops_Do.mono _ _ _ _ _
   | exact LeO.none _
   | refine LeO.ite ?_ ?_
   | refine LeO.bind ?_ (fun _ => ?_)
set_option maxHeartbeats 8000000 in
set_option maxRecDepth 100000 in
theorem tick_Step.calls (k : Nat) (a0 : ByteArray) (a1_0 : Int) (a1_1 : Int) (a1_2 : Int) (a1_3 : Int) (a1_4 : Int) (A1_5 : Option Addr) (c1_5 : Nat) (l1_5 : List (S40)) (r1 : ByteArray) (r2 : Int) (r3 : Int) (r4 : Int) (r5 : Int) (r6 : Int) (r7 : List (S40)) (r8 : Int) (w : World) (hr1_5 : Kd.C k40 w A1_5 l1_5.length l1_5) (hc1_5 : l1_5.length ≤ c1_5) (h : tick_Step.f k a0 a1_0 a1_1 a1_2 a1_3 a1_4 l1_5 = some (r1, r2, r3, r4, r5, r6, r7, r8)) :
  Calls Try.prog 10 #[.string a0, .agg #[.int .i64 a1_0, .int .i64 a1_1, .int .i64 a1_2, .int .i64 a1_3, .int .i64 a1_4, .slice A1_5 l1_5.length c1_5]] w fun e w' => ∃ v6_ : Value, e = .returned (.tuple #[.string r1, .agg #[.int .i64 r2, .int .i64 r3, .int .i64 r4, .int .i64 r5, .int .i64 r6, v6_], .int .i64 r8]) ∧ Kd.Q k40 40 w' w.heap.size (fun _ => True) v6_ r7 ∧ Below w.heap.size w w' := by
 have hu24 := Try.underlying24
 have hu40 := Try.underlying40
 have HR1_5 := Aside0.mk hr1_5
 have HC1_5 := Aside0.mk hc1_5
 clear hr1_5 hc1_5
 have HB := Aside0.mk (Below.refl w.heap.size w)
 have H : ((nor_May.f a0).bind fun t140 => (if t140 = true then ((device_May.f a1_0 a1_1 a1_2 a1_3 a1_4 l1_5).bind fun t141 => (tick_Step.j0 k a0 (!t141) a1_0 a1_1 a1_2 a1_3 a1_4 l1_5)) else (tick_Step.j0 k a0 true a1_0 a1_1 a1_2 a1_3 a1_4 l1_5))) = some (r1, r2, r3, r4, r5, r6, r7, r8) := h
 clear h
 have HC3 := Aside0.mk H
 clear H
 go_enter Try.func10, Try.ntmps10
 go_upto_region 1 with (first | ((with_reducible refine gate_dst (N := 3) rfl ?_); refine box_event ?hg (N := 3) ?hd (cs := #[.int .i64 a1_0, .int .i64 a1_1, .int .i64 a1_2, .int .i64 a1_3, .int .i64 a1_4, .slice A1_5 l1_5.length c1_5]) (t := 24) ?hr ?_; (case hd => rfl); (case hg => rfl); (case hr => first | (go_simp; done) | (go_simp; rfl)); intro gb138 hg w4 hbox hb; have n0_ := Aside0.mk (below_step (kb HB.out) hb); have n1_ := Aside0.mk (hbox); have n2_ := Aside0.mk ((kz hg (below_size (kb HB.out)) : w.heap.size ≤ gb138)); have n3_ := Aside0.mk ((kz hg (below_size (kb HB.out)) : w.heap.size ≤ gb138)); clear HB; have HB := n0_; have BK138 := n1_; have GW138 := n2_; have GE138 := n3_; clear n0_ n1_ n2_ n3_; clear hb hbox hg) | ((with_reducible refine gate_dst (N := 5) rfl ?_); refine box_event ?hg (N := 5) ?hd (cs := #[.int .i64 0, .int .i64 0, .int .i64 0, .int .i64 0, .int .i64 0, .slice none 0 0]) (t := 24) ?hr ?_; (case hd => rfl); (case hg => rfl); (case hr => first | (go_simp; done) | (go_simp; rfl)); intro gb139 hg w5 hbox hb; have n0_ := Aside0.mk (kL BK138.out hb); have n1_ := Aside0.mk (below_step (kb1 HB.out GE138.out) hb); have n2_ := Aside0.mk (hbox); have n3_ := Aside0.mk ((kz hg (below_size (kb1 HB.out GE138.out)) : w.heap.size ≤ gb139)); have n4_ := Aside0.mk ((kz hg (below_size (kb1 HB.out GE138.out)) : w.heap.size ≤ gb139)); have n5_ := Aside0.mk ((kN hg BK138.out : gb138 ≠ gb139)); have n6_ := Aside0.mk (((kN hg BK138.out).symm : gb139 ≠ gb138)); clear BK138; clear HB; have BK138 := n0_; have HB := n1_; have BK139 := n2_; have GW139 := n3_; have GE139 := n4_; have NB138_139 := n5_; have NB139_138 := n6_; clear n0_ n1_ n2_ n3_ n4_ n5_ n6_; clear hb hbox hg))
 (try simp only [Act.put, List.setIfInBounds_toArray, List.set_cons_zero, List.set_cons_succ])
 go_cut [15] (fun v15 wc => ∃ (kq : Nat) (x15_2 : Bool), v15 = .bool x15_2 ∧ Aside0 (tick_Step.j0 kq a0 x15_2 a1_0 a1_1 a1_2 a1_3 a1_4 l1_5 = some (r1, r2, r3, r4, r5, r6, r7, r8)) ∧ Aside0 (kq ≤ k) ∧ Aside0 (wc.heap[gb138]? = some (.cells #[.int .i64 a1_0, .int .i64 a1_1, .int .i64 a1_2, .int .i64 a1_3, .int .i64 a1_4, (.slice A1_5 l1_5.length c1_5)] 24 (0, 0))) ∧ Aside0 (wc.heap[gb139]? = some (.cells #[.int .i64 0, .int .i64 0, .int .i64 0, .int .i64 0, .int .i64 0, (.slice none 0 0)] 24 (0, 0))) ∧ Aside0 (Below w.heap.size w wc))
 case first =>
  have H := HC3.out
  clear HC3
  replace H := Option.bind_eq_some_iff.mp H
  obtain ⟨t140, A60, H⟩ := H
  replace H : (if t140 = true then ((device_May.f a1_0 a1_1 a1_2 a1_3 a1_4 l1_5).bind fun t141 => (tick_Step.j0 k a0 (!t141) a1_0 a1_1 a1_2 a1_3 a1_4 l1_5)) else (tick_Step.j0 k a0 true a1_0 a1_1 a1_2 a1_3 a1_4 l1_5)) = some (r1, r2, r3, r4, r5, r6, r7, r8) := H
  have A6 := Aside0.mk A60
  clear A60
  by_cases c7 : t140 = true
  case neg =>
   replace c7 := Bool.eq_false_iff.mpr c7
   subst c7
   have H1 : (tick_Step.j0 k a0 true a1_0 a1_1 a1_2 a1_3 a1_4 l1_5) = some (r1, r2, r3, r4, r5, r6, r7, r8) := by rw [if_neg (show ¬ (false = true) by decide)] at H; exact H
   clear H; have H := H1; clear H1
   have H' := Aside0.mk H
   clear H
   go_wp2_with (first | ((with_reducible refine gate_callee (f := 25) rfl ?_); refine goesL_ (some 9) rfl rfl Try.func25 (by kernel_rfl) rfl #[.string a0] rfl ka ?_; (with_reducible refine (nor_May.calls a0 false _ A6.out).mono ?_); rintro e w' ⟨rfl, ⟨nd, rfl⟩⟩; refine ⟨_, rfl, ?_⟩))
   go_meet
   case rel => exact ⟨_, (true), (by first | rfl | (simp; done) | (simp [*]; done)), H', ⟨by first | omega | exact Nat.le_refl _⟩, ⟨kB BK138.out⟩, ⟨kB BK139.out⟩, ⟨kb2 HB.out GE138.out GE139.out⟩⟩
  subst c7
  have H1 : ((device_May.f a1_0 a1_1 a1_2 a1_3 a1_4 l1_5).bind fun t141 => (tick_Step.j0 k a0 (!t141) a1_0 a1_1 a1_2 a1_3 a1_4 l1_5)) = some (r1, r2, r3, r4, r5, r6, r7, r8) := by rw [if_pos rfl] at H; exact H
  clear H; have H := H1; clear H1
  replace H := Option.bind_eq_some_iff.mp H
  obtain ⟨t141, A80, H⟩ := H
  replace H : (tick_Step.j0 k a0 (!t141) a1_0 a1_1 a1_2 a1_3 a1_4 l1_5) = some (r1, r2, r3, r4, r5, r6, r7, r8) := H
  have A8 := Aside0.mk A80
  clear A80
  have H' := Aside0.mk H
  clear H
  go_wp2_with (first | ((with_reducible refine gate_callee (f := 25) rfl ?_); refine goesL_ (some 9) rfl rfl Try.func25 (by kernel_rfl) rfl #[.string a0] rfl ka ?_; (with_reducible refine (nor_May.calls a0 true _ A6.out).mono ?_); rintro e w' ⟨rfl, ⟨nd, rfl⟩⟩; refine ⟨_, rfl, ?_⟩; have hnb9 := NB138_139.out; have hnc9 := NB139_138.out; obtain ⟨hcz10_0, hcz10_1, hcz10_2, hcz10_3, hcz10_4, hcz10_5⟩ := kc6 BK138.out; obtain ⟨hfz10_0, hfz10_1, hfz10_2, hfz10_3, hfz10_4, hfz10_5⟩ := kf6 BK138.out) | (go_at_call 26; (with_reducible refine (device_May.calls a1_0 a1_1 a1_2 a1_3 a1_4 _ _ l1_5 t141 _ ?side1 ?side2 A8.out).mono ?_); (case side1 => repeat (first | exact (Kd.C_below HR1_5.out (kb2 HB.out GE138.out GE139.out)) | (with_reducible refine Kd.C_alloc ?_ _) | (with_reducible refine Kd.C_drewN ?_ _) | (with_reducible refine Kd.C_drew ?_))); (case side2 => exact HC1_5.out); rintro e w11 ⟨rfl, hb⟩; have n0_ := Aside0.mk (kL BK138.out hb); have n1_ := Aside0.mk (kL BK139.out hb); have n2_ := Aside0.mk (below_step (kb2 HB.out GE138.out GE139.out) hb); clear BK138; clear BK139; clear HB; have BK138 := n0_; have BK139 := n1_; have HB := n2_; clear n0_ n1_ n2_; (try clear hb); (try clear hb2); (try clear hk); (try clear hi)))
  go_meet
  case rel => exact ⟨_, (!t141), (by first | rfl | (simp; done) | (simp [*]; done)), H', ⟨by first | omega | exact Nat.le_refl _⟩, ⟨kB BK138.out⟩, ⟨kB BK139.out⟩, ⟨kb2 HB.out GE138.out GE139.out⟩⟩
 case rest =>
  clear HC3
  try clear c1; try clear c2; try clear p2; try clear c7; try clear c9; try clear c10; try clear hcz10_0; try clear hcz10_1; try clear hcz10_2; try clear hcz10_3; try clear hcz10_4; try clear hcz10_5; try clear hfz10_0; try clear hfz10_1; try clear hfz10_2; try clear hfz10_3; try clear hfz10_4; try clear hfz10_5
  obtain ⟨kq, x15_2, rfl, HA, HJ2, BK138, BK139, HB⟩ := hcut
  cases kq with
  | zero => exact absurd HA.out (by simp [tick_Step.j0])
  | succ kj2 =>
   have H := HA.out
   clear HA
   simp only [tick_Step.j0] at H
   by_cases c12 : x15_2 = true
   ·subst c12
    have H1 : (some ((⟨#[]⟩ : ByteArray), 0, 0, 0, 0, 0, ([] : List (S40)), 1800)) = some (r1, r2, r3, r4, r5, r6, r7, r8) := by rw [if_pos rfl] at H; exact H
    clear H; have H := H1; clear H1
    simp only [Option.some.injEq, Prod.mk.injEq] at H
    obtain ⟨rfl, rfl, rfl, rfl, rfl, rfl, rfl, rfl⟩ := H
    have hnb13 := NB139_138.out
    have hnc13 := NB138_139.out
    obtain ⟨hcz14_0, hcz14_1, hcz14_2, hcz14_3, hcz14_4, hcz14_5⟩ := kc6 BK139.out
    obtain ⟨hfz14_0, hfz14_1, hfz14_2, hfz14_3, hfz14_4, hfz14_5⟩ := kf6 BK139.out
    go_wp2
    refine bodyPost_ret (results_list (rs := [.tmp 4, .cell 5 24, .tmp 6]) rfl (by simp) (.tmp (.cell gb139 24 #[.int .i64 0, .int .i64 0, .int .i64 0, .int .i64 0, .int .i64 0, .slice none 0 0] (0, 0) _ rfl (kP6 BK139.out) Try.underlying24 rfl (by kernel_rfl) (.tmp .nil)))) rfl ?_
    exact ⟨_, by first | rfl | (simp [errW_none, errW_some] <;> rfl) | (simp [*, errW_none, errW_some] <;> rfl), Kd.Q_of_R (by first | exact Kd.R_nil _ _ _ _ _ | exact Kd.N_nil _ _ _ _ _ | exact Kd.V_nil _ _ _ _ _ | exact Kd.Q_nil _ _ _ _ _ | exact Kd.S_nil _ _ _ _ _), kb2 HB.out GE138.out GE139.out⟩
   ·replace c12 := Bool.eq_false_iff.mpr c12
    subst c12
    have H1 : ((device_Copy.f a1_0 a1_1 a1_2 a1_3 a1_4 l1_5).bind fun bt142 => ((tick_Works.f bt142.1 bt142.2.1 bt142.2.2.1 bt142.2.2.2.1 bt142.2.2.2.2.1 bt142.2.2.2.2.2).bind fun t151 => (if t151 = true then (if (bt142.2.2.2.2.2.length : Int) > 0 then (if 0 < (bt142.2.2.2.2.2.length : Int) then ((ops_Do.f kj2 a0 ((rd_T40 bt142.2.2.2.2.2 0).f0) ((rd_T40 bt142.2.2.2.2.2 0).f1) ((rd_T40 bt142.2.2.2.2.2 0).f2)).bind fun bt153 => (if 1 ≤ (bt142.2.2.2.2.2.length : Int) then (tick_Step.j1 kj2 bt153.1 bt142.1 bt142.2.1 bt142.2.2.1 bt142.2.2.2.1 bt142.2.2.2.2.1 (bt142.2.2.2.2.2.drop (1 : Int).toNat)) else (none))) else (none)) else (tick_Step.j1 kj2 a0 bt142.1 bt142.2.1 bt142.2.2.1 bt142.2.2.2.1 bt142.2.2.2.2.1 bt142.2.2.2.2.2)) else (some (a0, bt142.1, bt142.2.1, bt142.2.2.1, bt142.2.2.2.1, bt142.2.2.2.2.1, bt142.2.2.2.2.2, 0))))) = some (r1, r2, r3, r4, r5, r6, r7, r8) := by rw [if_neg (show ¬ (false = true) by decide)] at H; exact H
    clear H; have H := H1; clear H1
    replace H := Option.bind_eq_some_iff.mp H
    obtain ⟨⟨t142, t143, t144, t145, t146, t147⟩, A150, H⟩ := H
    replace H : ((tick_Works.f t142 t143 t144 t145 t146 t147).bind fun t151 => (if t151 = true then (if (t147.length : Int) > 0 then (if 0 < (t147.length : Int) then ((ops_Do.f kj2 a0 ((rd_T40 t147 0).f0) ((rd_T40 t147 0).f1) ((rd_T40 t147 0).f2)).bind fun bt153 => (if 1 ≤ (t147.length : Int) then (tick_Step.j1 kj2 bt153.1 t142 t143 t144 t145 t146 (t147.drop (1 : Int).toNat)) else (none))) else (none)) else (tick_Step.j1 kj2 a0 t142 t143 t144 t145 t146 t147)) else (some (a0, t142, t143, t144, t145, t146, t147, 0)))) = some (r1, r2, r3, r4, r5, r6, r7, r8) := H
    have A15 := Aside0.mk A150
    clear A150
    replace H := Option.bind_eq_some_iff.mp H
    obtain ⟨t151, A160, H⟩ := H
    replace H : (if t151 = true then (if (t147.length : Int) > 0 then (if 0 < (t147.length : Int) then ((ops_Do.f kj2 a0 ((rd_T40 t147 0).f0) ((rd_T40 t147 0).f1) ((rd_T40 t147 0).f2)).bind fun bt153 => (if 1 ≤ (t147.length : Int) then (tick_Step.j1 kj2 bt153.1 t142 t143 t144 t145 t146 (t147.drop (1 : Int).toNat)) else (none))) else (none)) else (tick_Step.j1 kj2 a0 t142 t143 t144 t145 t146 t147)) else (some (a0, t142, t143, t144, t145, t146, t147, 0))) = some (r1, r2, r3, r4, r5, r6, r7, r8) := H
    have A16 := Aside0.mk A160
    clear A160
    by_cases c17 : t151 = true
    ·subst c17
     have H1 : (if (t147.length : Int) > 0 then (if 0 < (t147.length : Int) then ((ops_Do.f kj2 a0 ((rd_T40 t147 0).f0) ((rd_T40 t147 0).f1) ((rd_T40 t147 0).f2)).bind fun bt153 => (if 1 ≤ (t147.length : Int) then (tick_Step.j1 kj2 bt153.1 t142 t143 t144 t145 t146 (t147.drop (1 : Int).toNat)) else (none))) else (none)) else (tick_Step.j1 kj2 a0 t142 t143 t144 t145 t146 t147)) = some (r1, r2, r3, r4, r5, r6, r7, r8) := by rw [if_pos rfl] at H; exact H
     clear H; have H := H1; clear H1
     have HC18 := Aside0.mk H
     clear H
     have hnb19 := NB138_139.out
     have hnc19 := NB139_138.out
     obtain ⟨hcz20_0, hcz20_1, hcz20_2, hcz20_3, hcz20_4, hcz20_5⟩ := kc6 BK138.out
     obtain ⟨hfz20_0, hfz20_1, hfz20_2, hfz20_3, hfz20_4, hfz20_5⟩ := kf6 BK138.out
     go_upto_if 26 with (first | ((with_reducible refine gate_callee (f := 27) rfl ?_); refine goesL_ (some 18) rfl rfl Try.func27 (by kernel_rfl) rfl #[.agg #[.int .i64 a1_0, .int .i64 a1_1, .int .i64 a1_2, .int .i64 a1_3, .int .i64 a1_4, .slice A1_5 l1_5.length c1_5]] rfl ka ?_; (with_reducible refine (device_Copy.calls a1_0 a1_1 a1_2 a1_3 a1_4 _ _ l1_5 t142 t143 t144 t145 t146 t147 _ ?side1 ?side2 A15.out).mono ?_); (case side1 => exact kC (Kd.C_below HR1_5.out HB.out)); (case side2 => exact HC1_5.out); rintro e w21 ⟨v148, rfl, ho0, hb⟩; refine ⟨_, rfl, ?_⟩; have n0_ := Aside0.mk (Kd.R_lower ho0 (below_size (kb2 HB.out GE138.out GE139.out))); have n1_ := Aside0.mk (kL BK138.out hb); have n2_ := Aside0.mk (kL BK139.out hb); have n3_ := Aside0.mk (below_step (kb2 HB.out GE138.out GE139.out) hb); clear BK138; clear BK139; clear HB; have HO149 := n0_; have BK138 := n1_; have BK139 := n2_; have HB := n3_; clear n0_ n1_ n2_ n3_; (try clear hb); (try clear hb2); (try clear hk); (try clear hi); (try clear ho0)) | ((with_reducible refine gate_dst (N := 7) rfl ?_); refine box_event ?hg (N := 7) ?hd (cs := #[.int .i64 0, .int .i64 0, .int .i64 0, .int .i64 0, .int .i64 0, .slice none 0 0]) (t := 24) ?hr ?_; (case hd => rfl); (case hg => rfl); (case hr => first | (go_simp; done) | (go_simp; rfl)); intro gb150 hg w22 hbox hb; have n0_ := Aside0.mk (Kd.R_below (kR HO149.out) hb); have n1_ := Aside0.mk (kL BK138.out hb); have n2_ := Aside0.mk (kL BK139.out hb); have n3_ := Aside0.mk (below_step (kb2 HB.out GE138.out GE139.out) hb); have n4_ := Aside0.mk (hbox); have n5_ := Aside0.mk ((kz hg (below_size (kb2 HB.out GE138.out GE139.out)) : w.heap.size ≤ gb150)); have n6_ := Aside0.mk ((kz hg (below_size (kb2 HB.out GE138.out GE139.out)) : w.heap.size ≤ gb150)); have n7_ := Aside0.mk ((kN hg BK138.out : gb138 ≠ gb150)); have n8_ := Aside0.mk (((kN hg BK138.out).symm : gb150 ≠ gb138)); have n9_ := Aside0.mk ((kN hg BK139.out : gb139 ≠ gb150)); have n10_ := Aside0.mk (((kN hg BK139.out).symm : gb150 ≠ gb139)); clear HO149; clear BK138; clear BK139; clear HB; have HO149 := n0_; have BK138 := n1_; have BK139 := n2_; have HB := n3_; have BK150 := n4_; have GW150 := n5_; have GE150 := n6_; have NB138_150 := n7_; have NB150_138 := n8_; have NB139_150 := n9_; have NB150_139 := n10_; clear n0_ n1_ n2_ n3_ n4_ n5_ n6_ n7_ n8_ n9_ n10_; clear hb hbox hg; have hnb23 := NB150_138.out; have hnc23 := NB138_150.out; have hnb24 := NB150_139.out; have hnc24 := NB139_150.out; obtain ⟨hcz25_0, hcz25_1, hcz25_2, hcz25_3, hcz25_4, hcz25_5⟩ := kc6 BK150.out; obtain ⟨hfz25_0, hfz25_1, hfz25_2, hfz25_3, hfz25_4, hfz25_5⟩ := kf6 BK150.out; obtain ⟨Ao26, co26, eo26⟩ := Kd.R_slice HO149.out; subst eo26) | ((with_reducible refine gate_callee (f := 28) rfl ?_); refine goesL_ (some 19) rfl rfl Try.func28 (by kernel_rfl) rfl #[.pointer (some ⟨gb150, 0, none⟩)] rfl ka ?_; (refine (tick_Works.ptr t142 t143 t144 t145 t146 t147 true gb150 (cs := #[.int .i64 t142, .int .i64 t143, .int .i64 t144, .int .i64 t145, .int .i64 t146, .slice Ao26 t147.length co26]) (t := 24) _ ?hcell rfl A16.out).mono ?_); (case hcell => exact (kP6 BK150.out)); rintro e w27 ⟨rfl, hb⟩; refine ⟨_, rfl, ?_⟩; have n0_ := Aside0.mk (Kd.R_below (by (with_reducible repeat (first | apply Kd.R_alloc | apply Kd.R_drewN | apply Kd.R_drew)); exact (Kd.R_mono (Kd.R_far (p := ⟨gb150, 5, none⟩) (Kd.R_far (p := ⟨gb150, 4, none⟩) (Kd.R_far (p := ⟨gb150, 3, none⟩) (Kd.R_far (p := ⟨gb150, 2, none⟩) (Kd.R_far (p := ⟨gb150, 1, none⟩) (Kd.R_far (p := ⟨gb150, 0, none⟩) (Kd.R_types HO149.out BK150.out (by decide)) (fun _ hk => hk.2) (.int .i64 t142)) (fun _ hk => hk.2) (.int .i64 t143)) (fun _ hk => hk.2) (.int .i64 t144)) (fun _ hk => hk.2) (.int .i64 t145)) (fun _ hk => hk.2) (.int .i64 t146)) (fun _ hk => hk.2) (.slice Ao26 t147.length co26)) (fun _ h_ => h_.1))) hb); have n1_ := Aside0.mk (blk_below (g := gb138) (o := .cells #[.int .i64 a1_0, .int .i64 a1_1, .int .i64 a1_2, .int .i64 a1_3, .int .i64 a1_4, .slice A1_5 l1_5.length c1_5] 24 (0, 0)) (kFa6 BK138.out NB138_150.out) hb); have n2_ := Aside0.mk (blk_below (g := gb139) (o := .cells #[.int .i64 0, .int .i64 0, .int .i64 0, .int .i64 0, .int .i64 0, .slice none 0 0] 24 (0, 0)) (kFa6 BK139.out NB139_150.out) hb); have n3_ := Aside0.mk (blk_below (g := gb150) (o := .cells #[.int .i64 t142, .int .i64 t143, .int .i64 t144, .int .i64 t145, .int .i64 t146, .slice Ao26 t147.length co26] 24 (0, 0)) (kP6 BK150.out) hb); have n4_ := Aside0.mk (below_step (kb3 HB.out GE138.out GE139.out GE150.out) hb); clear HO149; clear BK138; clear BK139; clear BK150; clear HB; have HO149 := n0_; have BK138 := n1_; have BK139 := n2_; have BK150 := n3_; have HB := n4_; clear n0_ n1_ n2_ n3_ n4_; (try clear hb); (try clear hb2); (try clear hk); (try clear hi); obtain ⟨hcz28_0, hcz28_1, hcz28_2, hcz28_3, hcz28_4, hcz28_5⟩ := kc6 BK150.out; obtain ⟨hfz28_0, hfz28_1, hfz28_2, hfz28_3, hfz28_4, hfz28_5⟩ := kf6 BK150.out))
     (try simp only [Act.put, List.setIfInBounds_toArray, List.set_cons_zero, List.set_cons_succ])
     go_cut [0] (fun v0 wc => ∃ (kq : Nat) (x0_17 : ByteArray) (x151005_17 : List (S40)) (u151005 : Value), v0 = .string x0_17 ∧ Aside0 (tick_Step.j1 kq x0_17 t142 t143 t144 t145 t146 x151005_17 = some (r1, r2, r3, r4, r5, r6, r7, r8)) ∧ Aside0 (kq ≤ kj2) ∧ Aside0 (Kd.Q k40 40 wc w.heap.size (fun _ => True) u151005 x151005_17) ∧ Aside0 (wc.heap[gb138]? = some (.cells #[.int .i64 a1_0, .int .i64 a1_1, .int .i64 a1_2, .int .i64 a1_3, .int .i64 a1_4, (.slice A1_5 l1_5.length c1_5)] 24 (0, 0))) ∧ Aside0 (wc.heap[gb139]? = some (.cells #[.int .i64 0, .int .i64 0, .int .i64 0, .int .i64 0, .int .i64 0, (.slice none 0 0)] 24 (0, 0))) ∧ Aside0 (wc.heap[gb150]? = some (.cells #[.int .i64 t142, .int .i64 t143, .int .i64 t144, .int .i64 t145, .int .i64 t146, u151005] 24 (0, 0))) ∧ Aside0 (Below w.heap.size w wc))
     case first =>
      have H := HC18.out
      clear HC18
      by_cases c29 : (t147.length : Int) > 0
      case neg =>
       rw [if_neg c29] at H
       have c29b0 : decide (0 < (t147.length : Int)) = false := decide_eq_false c29
       have c29b1 : decide (0 < t147.length) = false := decide_eq_false (by omega)
       clear c29
       (first | rw [c29b0] | rw [c29b1] | (simp only [i64_w, i32_w]; rw [c29b0]) | skip)
       have H' := Aside0.mk H
       clear H
       go_wp2
       go_meet
       case rel => exact ⟨_, (a0), (t147), (.slice Ao26 t147.length co26), (by first | rfl | (simp; done) | (simp [*]; done)), H', ⟨by have := HJ2.out; first | omega | exact Nat.le_refl _⟩, ⟨Kd.Q_of_R (kR HO149.out)⟩, ⟨kB BK138.out⟩, ⟨kB BK139.out⟩, ⟨kB BK150.out⟩, ⟨kb3 HB.out GE138.out GE139.out GE150.out⟩⟩
      rw [if_pos c29] at H
      have c29b0 : decide (0 < (t147.length : Int)) = true := decide_eq_true c29
      have c29b1 : decide (0 < t147.length) = true := decide_eq_true (by omega)
      clear c29
      (first | rw [c29b0] | rw [c29b1] | (simp only [i64_w, i32_w]; rw [c29b0]) | skip)
      by_cases c30 : 0 < (t147.length : Int)
      case neg =>
       rw [if_neg c30] at H
       exact absurd H (by simp)
      rw [if_pos c30] at H
      have c30b0 : decide (0 < (t147.length : Int)) = true := decide_eq_true c30
      have c30b1 : decide (0 < t147.length) = true := decide_eq_true (by omega)
      clear c30
      replace H := Option.bind_eq_some_iff.mp H
      obtain ⟨⟨t153, t154⟩, A310, H⟩ := H
      replace H : (if 1 ≤ (t147.length : Int) then (tick_Step.j1 kj2 t153 t142 t143 t144 t145 t146 (t147.drop (1 : Int).toNat)) else (none)) = some (r1, r2, r3, r4, r5, r6, r7, r8) := H
      have A31 := Aside0.mk A310
      clear A310
      by_cases c32 : 1 ≤ (t147.length : Int)
      case neg =>
       rw [if_neg c32] at H
       exact absurd H (by simp)
      rw [if_pos c32] at H
      have c32b0 := eq_true c32
      have c32b1 : decide (1 ≤ (t147.length : Int)) = true := decide_eq_true c32
      clear c32
      obtain ⟨y155, hy155⟩ : ∃ y_ : List (S40), y_ = (t147.drop (1 : Int).toNat) := ⟨_, rfl⟩
      replace H : (tick_Step.j1 kj2 t153 t142 t143 t144 t145 t146 y155) = some (r1, r2, r3, r4, r5, r6, r7, r8) := by first | (rw [hy155]; with_reducible exact H) | (have H2_ := (Option.bind_some _ _).symm.trans H; rw [hy155]; with_reducible exact H2_) | (have H2_ := (Option.bind_some _ _).symm.trans H; with_reducible exact H2_) | with_reducible exact H | (rw [hy155]; exact H) | exact H
      have Ny155 := Aside0.mk hy155
      clear hy155
      have H' := Aside0.mk H
      clear H
      have hnb33 := NB150_138.out
      have hnc33 := NB138_150.out
      have hnb34 := NB150_139.out
      have hnc34 := NB139_150.out
      obtain ⟨hcz35_0, hcz35_1, hcz35_2, hcz35_3, hcz35_4, hcz35_5⟩ := kc6 BK150.out
      obtain ⟨hfz35_0, hfz35_1, hfz35_2, hfz35_3, hfz35_4, hfz35_5⟩ := kf6 BK150.out
      have p152 : 0 ≤ (0 : Int) := (by omega)
      have q152 : 0 < (t147.length : Int) := of_decide_eq_true (by first | (with_reducible assumption) | assumption)
      obtain ⟨ad152, e152, hx152_0, hx152_1, hx152_2⟩ := at_T40 (Kd.R_reads' HO149.out).2.2 0 p152 q152
      cases e152
      have qi152 : (0 < t147.length) = True := eq_true (by omega)
      (try rw [show ((0 : Int)).toNat = 0 from rfl] at hx152_0)
      (try rw [show 0 * 3 = 0 from rfl] at hx152_0)
      (try rw [Addr.add_zero'] at hx152_0)
      (try rw [show ((0 : Int)).toNat = 0 from rfl] at hx152_1)
      (try rw [show 0 * 3 = 0 from rfl] at hx152_1)
      (try rw [Addr.add_zero'] at hx152_1)
      (try rw [show ((0 : Int)).toNat = 0 from rfl] at hx152_2)
      (try rw [show 0 * 3 = 0 from rfl] at hx152_2)
      (try rw [Addr.add_zero'] at hx152_2)
      replace p152 := eq_true p152
      replace q152 := eq_true q152
      go_wp2_with (first | ((with_reducible refine gate_callee (f := 29) rfl ?_); refine goesL_ (some 33) rfl rfl Try.func29 (by kernel_rfl) rfl #[.string a0, .agg #[.bool ((rd_T40 t147 0).f0), .int .i64 ((rd_T40 t147 0).f1), .string ((rd_T40 t147 0).f2)]] rfl ka ?_; (with_reducible refine (ops_Do.calls kj2 a0 ((rd_T40 t147 0).f0) ((rd_T40 t147 0).f1) ((rd_T40 t147 0).f2) t153 t154 _ A31.out).mono ?_); rintro e w36 ⟨rfl, hb⟩; refine ⟨_, rfl, ?_⟩; have n0_ := Aside0.mk (Kd.R_below (kR HO149.out) hb); have n1_ := Aside0.mk (kL BK138.out hb); have n2_ := Aside0.mk (kL BK139.out hb); have n3_ := Aside0.mk (kL BK150.out hb); have n4_ := Aside0.mk (below_step (kb3 HB.out GE138.out GE139.out GE150.out) hb); clear HO149; clear BK138; clear BK139; clear BK150; clear HB; have HO149 := n0_; have BK138 := n1_; have BK139 := n2_; have BK150 := n3_; have HB := n4_; clear n0_ n1_ n2_ n3_ n4_; (try clear hb); (try clear hb2); (try clear hk); (try clear hi); obtain ⟨hcz37_0, hcz37_1, hcz37_2, hcz37_3, hcz37_4, hcz37_5⟩ := kc6 BK150.out; obtain ⟨hfz37_0, hfz37_1, hfz37_2, hfz37_3, hfz37_4, hfz37_5⟩ := kf6 BK150.out; have q38 : (1 : Int) ≤ ((t147.length : Int) : Int) := of_decide_eq_true (by first | (with_reducible assumption) | assumption); obtain ⟨i038, hi038, _, hsz38, _⟩ := info_parts info40; have hcut38 := cut_from (P := Try.prog) 22 40 .i64 Try.underlying22 hi038 3 hsz38 (some ad152) t147.length co26 1 (by omega) q38; have hr38 := Kd.Q_drop (k := (1 : Int).toNat) (Kd.Q_of_R HO149.out) (by omega); obtain ⟨A38, hA38⟩ : ∃ A1, A1 = (if co26 = (1 : Int).toNat then (some ad152) else ((some ad152) : Option Addr).map (·.add ((1 : Int).toNat * 3))) := ⟨_, rfl⟩; obtain ⟨c38, hc38⟩ : ∃ c1, c1 = co26 - (1 : Int).toNat := ⟨_, rfl⟩; have hy38 : y155.length = t147.length - (1 : Int).toNat := (by rw [Ny155.out, List.length_drop]); rw [← Ny155.out] at hr38; rw [← hy38, ← hA38, ← hc38] at hcut38; replace hr38 : Kd.Q k40 40 w36 w.heap.size (fun _ => True) (.slice A38 y155.length c38) y155 := (by rw [hA38, hc38, hy38]; exact hr38); have HE38 : Aside0 ((Value.slice A38 y155.length c38).ownBlock = (.slice (some ad152) t147.length co26 : Value).ownBlock) := ⟨by rw [hA38]; split <;> (cases ((some ad152) : Option Addr) <;> rfl)⟩; clear hy38 hi038 hsz38 HO149 hA38 hc38; have HO157 := Aside0.mk hr38; clear hr38; replace q38 := eq_true q38))
      go_meet
      case rel => exact ⟨_, (t153), (y155), (.slice A38 y155.length c38), (by first | rfl | (simp; done) | (simp [*]; done)), H', ⟨by have := HJ2.out; first | omega | exact Nat.le_refl _⟩, ⟨by (with_reducible repeat (first | apply Kd.Q_alloc | apply Kd.Q_drewN | apply Kd.Q_drew)); exact Kd.Q_mono (Kd.Q_far (p := ⟨gb150, 5, none⟩) (Kd.Q_types HO157.out BK150.out (by decide)) (fun _ hk => hk.2) (.slice A38 y155.length c38)) (fun _ hk => trivial)⟩, ⟨kFa1 BK138.out NB138_150.out⟩, ⟨kFa1 BK139.out NB139_150.out⟩, ⟨by (with_reducible repeat (first | refine blk_drewN ?_ _ | refine blk_drew ?_ | refine blk_alloc ?_ _)); refine blk_put (cs := #[.int .i64 t142, .int .i64 t143, .int .i64 t144, .int .i64 t145, .int .i64 t146, .slice (some ad152) t147.length co26]) ?_ 5 _ rfl; (with_reducible repeat (first | refine blk_drewN ?_ _ | refine blk_drew ?_ | refine blk_alloc ?_ _)); exact BK150.out⟩, ⟨kb3 HB.out GE138.out GE139.out GE150.out⟩⟩
     case rest =>
      clear HC18
      try clear c1; try clear p1; try clear q1; try clear hx1; try clear qi1; try clear c2; try clear p2; try clear c3; try clear q3; try clear c7; try clear c9; try clear c10; try clear c12; try clear c13; try clear p15; try clear q15; try clear hx15; try clear qi15; try clear c17; try clear c19; try clear c23; try clear c24; try clear c25; try clear c27; try clear c28; try clear c29; try clear c29b0; try clear c29b1; try clear c30; try clear c30b0; try clear c30b1; try clear c32; try clear c32b0; try clear c32b1; try clear c33; try clear c34; try clear c38; try clear q38; try clear hcz10_0; try clear hcz10_1; try clear hcz10_2; try clear hcz10_3; try clear hcz10_4; try clear hcz10_5; try clear hcz14_0; try clear hcz14_1; try clear hcz14_2; try clear hcz14_3; try clear hcz14_4; try clear hcz14_5; try clear hcz20_0; try clear hcz20_1; try clear hcz20_2; try clear hcz20_3; try clear hcz20_4; try clear hcz20_5; try clear hcz25_0; try clear hcz25_1; try clear hcz25_2; try clear hcz25_3; try clear hcz25_4; try clear hcz25_5; try clear hcz28_0; try clear hcz28_1; try clear hcz28_2; try clear hcz28_3; try clear hcz28_4; try clear hcz28_5; try clear hcz35_0; try clear hcz35_1; try clear hcz35_2; try clear hcz35_3; try clear hcz35_4; try clear hcz35_5; try clear hcz37_0; try clear hcz37_1; try clear hcz37_2; try clear hcz37_3; try clear hcz37_4; try clear hcz37_5; try clear hfz10_0; try clear hfz10_1; try clear hfz10_2; try clear hfz10_3; try clear hfz10_4; try clear hfz10_5; try clear hfz14_0; try clear hfz14_1; try clear hfz14_2; try clear hfz14_3; try clear hfz14_4; try clear hfz14_5; try clear hfz20_0; try clear hfz20_1; try clear hfz20_2; try clear hfz20_3; try clear hfz20_4; try clear hfz20_5; try clear hfz25_0; try clear hfz25_1; try clear hfz25_2; try clear hfz25_3; try clear hfz25_4; try clear hfz25_5; try clear hfz28_0; try clear hfz28_1; try clear hfz28_2; try clear hfz28_3; try clear hfz28_4; try clear hfz28_5; try clear hfz35_0; try clear hfz35_1; try clear hfz35_2; try clear hfz35_3; try clear hfz35_4; try clear hfz35_5; try clear hfz37_0; try clear hfz37_1; try clear hfz37_2; try clear hfz37_3; try clear hfz37_4; try clear hfz37_5; try clear hx152_0; try clear hx152_1; try clear hx152_2; try clear p152; try clear p2; try clear q152; try clear q38
      obtain ⟨kq, x0_17, x151005_17, u151005, rfl, HA, HJ17, HO_151005, BK138, BK139, BK150, HB⟩ := hcut
      cases kq with
      | zero => exact absurd HA.out (by simp [tick_Step.j1])
      | succ kj17 =>
       have H := HA.out
       clear HA
       simp only [tick_Step.j1] at H
       by_cases c39 : (x151005_17.length : Int) > 0
       ·rw [if_pos c39] at H
        have c39b0 : decide (0 < (x151005_17.length : Int)) = true := decide_eq_true c39
        have c39b1 : decide (0 < x151005_17.length) = true := decide_eq_true (by omega)
        clear c39
        simp only [Option.some.injEq, Prod.mk.injEq] at H
        obtain ⟨rfl, rfl, rfl, rfl, rfl, rfl, rfl, rfl⟩ := H
        have hnb40 := NB150_138.out
        have hnc40 := NB138_150.out
        have hnb41 := NB150_139.out
        have hnc41 := NB139_150.out
        obtain ⟨hcz42_0, hcz42_1, hcz42_2, hcz42_3, hcz42_4, hcz42_5⟩ := kc6 BK150.out
        obtain ⟨hfz42_0, hfz42_1, hfz42_2, hfz42_3, hfz42_4, hfz42_5⟩ := kf6 BK150.out
        obtain ⟨Ao43, co43, eo43, _⟩ := Kd.Q_slice HO_151005.out
        subst eo43
        try go_wp2
        have n0_ := Aside0.mk (Kd.Q_drew HO_151005.out)
        have n1_ := Aside0.mk (blk_drew BK138.out)
        have n2_ := Aside0.mk (blk_drew BK139.out)
        have n3_ := Aside0.mk (blk_drew BK150.out)
        have n4_ := Aside0.mk (below_drew1 HB.out)
        clear HO_151005 BK138 BK139 BK150 HB; have HO_151005 := n0_; have BK138 := n1_; have BK139 := n2_; have BK150 := n3_; have HB := n4_; clear n0_ n1_ n2_ n3_ n4_
        refine start_ (n := 5) (S := fun w' => w'.cell? ⟨gb150, 0, none⟩ = some (.int .i64 t142) ∧ w'.cell? ⟨gb150, 1, none⟩ = some (.int .i64 t143) ∧ w'.cell? ⟨gb150, 2, none⟩ = some (.int .i64 t144) ∧ w'.cell? ⟨gb150, 3, none⟩ = some (.int .i64 t145) ∧ w'.cell? ⟨gb150, 4, none⟩ = some (.int .i64 t146) ∧ w'.cell? ⟨gb150, 5, none⟩ = some (.slice Ao43 x151005_17.length co43)) (ds := []) #[false, false, false, false, false] (by kernel_rfl) rfl rfl ⟨(blk_cell BK150.out 0).trans rfl, (blk_cell BK150.out 1).trans rfl, (blk_cell BK150.out 2).trans rfl, (blk_cell BK150.out 3).trans rfl, (blk_cell BK150.out 4).trans rfl, (blk_cell BK150.out 5).trans rfl⟩ (fun hHeld => ?_)
        generalize wc.drew = w44 at HO_151005 BK138 BK139 BK150 HB hHeld ⊢
        refine pure_ (i := 0) (N := some 51) (v := ?_) (a' := ?_) #[true, false, false, false, false] rfl rfl (by kernel_rfl) (fun _ _ _ h => h) (Or.inl ⟨by rfl, ?_⟩) ?_ ?_
        rotate_left
        ·intro w'
         go_simp
         with_reducible rfl
        rotate_left
        ·simp only [Act.put, List.setIfInBounds_toArray, List.set_cons_zero, List.set_cons_succ, i64_w, i32_w]
         rfl
        refine pure_ (i := 2) (N := some 4) (v := ?_) (a' := ?_) #[true, false, true, false, false] rfl rfl (by kernel_rfl) (fun _ _ _ h => h) (Or.inl ⟨by rfl, ?_⟩) ?_ ?_
        rotate_left
        ·intro w'
         go_simp
         with_reducible rfl
        rotate_left
        ·simp only [Act.put, List.setIfInBounds_toArray, List.set_cons_zero, List.set_cons_succ, i64_w, i32_w]
         rfl
        refine take_ (i := 1) (N := some 52) (v := ?_) (a' := ?_) #[true, true, true, false, false] rfl rfl (by kernel_rfl) (fun _ _ _ h => h) (Or.inl ⟨by rfl, ?_⟩) hHeld ?_ ?_
        rotate_left
        ·rintro w' ⟨s0, s1, s2, s3, s4, s5⟩
         go_simp
         with_reducible rfl
        rotate_left
        ·simp only [Act.put, List.setIfInBounds_toArray, List.set_cons_zero, List.set_cons_succ, i64_w, i32_w]
         rfl
        refine one_ (i := 3) (N := none) #[true, true, true, true, false] rfl rfl (by kernel_rfl) (by decide) (fun K hK => ?_)
        have hs45 : w44.cell? ⟨gb139, 0, none⟩ = some (.int .i64 0) := (blk_cell BK139.out 0).trans rfl
        have hfs45 := blk_frozen BK139.out 0
        have hns45_0 := NB138_139.out
        have hns45_2 := NB150_139.out
        have hms45_0 := NB139_138.out
        have hms45_2 := NB139_150.out
        have hs46 : w44.cell? ⟨gb139, 1, none⟩ = some (.int .i64 0) := (blk_cell BK139.out 1).trans rfl
        have hfs46 := blk_frozen BK139.out 1
        have hns46_0 := NB138_139.out
        have hns46_2 := NB150_139.out
        have hms46_0 := NB139_138.out
        have hms46_2 := NB139_150.out
        have hs47 : w44.cell? ⟨gb139, 2, none⟩ = some (.int .i64 0) := (blk_cell BK139.out 2).trans rfl
        have hfs47 := blk_frozen BK139.out 2
        have hns47_0 := NB138_139.out
        have hns47_2 := NB150_139.out
        have hms47_0 := NB139_138.out
        have hms47_2 := NB139_150.out
        have hs48 : w44.cell? ⟨gb139, 3, none⟩ = some (.int .i64 0) := (blk_cell BK139.out 3).trans rfl
        have hfs48 := blk_frozen BK139.out 3
        have hns48_0 := NB138_139.out
        have hns48_2 := NB150_139.out
        have hms48_0 := NB139_138.out
        have hms48_2 := NB139_150.out
        have hs49 : w44.cell? ⟨gb139, 4, none⟩ = some (.int .i64 0) := (blk_cell BK139.out 4).trans rfl
        have hfs49 := blk_frozen BK139.out 4
        have hns49_0 := NB138_139.out
        have hns49_2 := NB150_139.out
        have hms49_0 := NB139_138.out
        have hms49_2 := NB139_150.out
        have hs50 : w44.cell? ⟨gb139, 5, none⟩ = some (.slice none 0 0) := (blk_cell BK139.out 5).trans rfl
        have hfs50 := blk_frozen BK139.out 5
        have hns50_0 := NB138_139.out
        have hns50_2 := NB150_139.out
        have hms50_0 := NB139_138.out
        have hms50_2 := NB139_150.out
        refine skip_ (w1 := ?_) (by rfl) rfl ?_ ?_
        rotate_left
        ·go_simp
         rfl
        refine hK.out _ _ ⟨((cell_far (p := ⟨gb139, _, none⟩) NB150_139.out _).trans (((cell_far (p := ⟨gb139, _, none⟩) NB150_139.out _).trans (((cell_far (p := ⟨gb139, _, none⟩) NB150_139.out _).trans (((cell_far (p := ⟨gb139, _, none⟩) NB150_139.out _).trans (((cell_far (p := ⟨gb139, _, none⟩) NB150_139.out _).trans (((cell_far (p := ⟨gb139, _, none⟩) NB150_139.out _).trans (hHeld.1)))))))))))), ((cell_far (p := ⟨gb139, _, none⟩) NB150_139.out _).trans (((cell_far (p := ⟨gb139, _, none⟩) NB150_139.out _).trans (((cell_far (p := ⟨gb139, _, none⟩) NB150_139.out _).trans (((cell_far (p := ⟨gb139, _, none⟩) NB150_139.out _).trans (((cell_far (p := ⟨gb139, _, none⟩) NB150_139.out _).trans (((cell_far (p := ⟨gb139, _, none⟩) NB150_139.out _).trans (hHeld.2.1)))))))))))), ((cell_far (p := ⟨gb139, _, none⟩) NB150_139.out _).trans (((cell_far (p := ⟨gb139, _, none⟩) NB150_139.out _).trans (((cell_far (p := ⟨gb139, _, none⟩) NB150_139.out _).trans (((cell_far (p := ⟨gb139, _, none⟩) NB150_139.out _).trans (((cell_far (p := ⟨gb139, _, none⟩) NB150_139.out _).trans (((cell_far (p := ⟨gb139, _, none⟩) NB150_139.out _).trans (hHeld.2.2.1)))))))))))), ((cell_far (p := ⟨gb139, _, none⟩) NB150_139.out _).trans (((cell_far (p := ⟨gb139, _, none⟩) NB150_139.out _).trans (((cell_far (p := ⟨gb139, _, none⟩) NB150_139.out _).trans (((cell_far (p := ⟨gb139, _, none⟩) NB150_139.out _).trans (((cell_far (p := ⟨gb139, _, none⟩) NB150_139.out _).trans (((cell_far (p := ⟨gb139, _, none⟩) NB150_139.out _).trans (hHeld.2.2.2.1)))))))))))), ((cell_far (p := ⟨gb139, _, none⟩) NB150_139.out _).trans (((cell_far (p := ⟨gb139, _, none⟩) NB150_139.out _).trans (((cell_far (p := ⟨gb139, _, none⟩) NB150_139.out _).trans (((cell_far (p := ⟨gb139, _, none⟩) NB150_139.out _).trans (((cell_far (p := ⟨gb139, _, none⟩) NB150_139.out _).trans (((cell_far (p := ⟨gb139, _, none⟩) NB150_139.out _).trans (hHeld.2.2.2.2.1)))))))))))), ((cell_far (p := ⟨gb139, _, none⟩) NB150_139.out _).trans (((cell_far (p := ⟨gb139, _, none⟩) NB150_139.out _).trans (((cell_far (p := ⟨gb139, _, none⟩) NB150_139.out _).trans (((cell_far (p := ⟨gb139, _, none⟩) NB150_139.out _).trans (((cell_far (p := ⟨gb139, _, none⟩) NB150_139.out _).trans (((cell_far (p := ⟨gb139, _, none⟩) NB150_139.out _).trans (hHeld.2.2.2.2.2))))))))))))⟩ (fun hHeld => ?_)
        clear hK K
        refine pure_ (i := 4) (N := some 6) (v := ?_) (a' := ?_) #[true, true, true, true, true] rfl rfl (by kernel_rfl) (fun _ _ _ h => h) (Or.inl ⟨by rfl, ?_⟩) ?_ ?_
        rotate_left
        ·intro w'
         go_simp
         with_reducible rfl
        rotate_left
        ·simp only [Act.put, List.setIfInBounds_toArray, List.set_cons_zero, List.set_cons_succ, i64_w, i32_w]
         rfl
        refine done_ (by kernel_rfl) ?_
        try go_wp2
        refine bodyPost_ret (results_list (rs := [.tmp 4, .cell 5 24, .tmp 6]) rfl (by simp) (.tmp (.cell gb139 24 #[.int .i64 t142, .int .i64 t143, .int .i64 t144, .int .i64 t145, .int .i64 t146, .slice Ao43 x151005_17.length co43] (0, 0) _ rfl (kP6 BK139.out) Try.underlying24 rfl (by kernel_rfl) (.tmp .nil)))) rfl ?_
        exact ⟨_, by first | rfl | (simp [errW_none, errW_some] <;> rfl) | (simp [*, errW_none, errW_some] <;> rfl), by (with_reducible repeat (first | apply Kd.Q_alloc | apply Kd.Q_drewN | apply Kd.Q_drew)); exact Kd.Q_mono (Kd.Q_far (p := ⟨gb139, 5, none⟩) (Kd.Q_far (p := ⟨gb139, 4, none⟩) (Kd.Q_far (p := ⟨gb139, 3, none⟩) (Kd.Q_far (p := ⟨gb139, 2, none⟩) (Kd.Q_far (p := ⟨gb139, 1, none⟩) (Kd.Q_far (p := ⟨gb139, 0, none⟩) (Kd.Q_types HO_151005.out BK139.out (by decide)) (fun _ hk => hk.2) (.int .i64 t142)) (fun _ hk => hk.2) (.int .i64 t143)) (fun _ hk => hk.2) (.int .i64 t144)) (fun _ hk => hk.2) (.int .i64 t145)) (fun _ hk => hk.2) (.int .i64 t146)) (fun _ hk => hk.2) (.slice Ao43 x151005_17.length co43)) (fun _ hk => trivial), kb3 HB.out GE138.out GE139.out GE150.out⟩
       ·rw [if_neg c39] at H
        have c39b0 : decide (0 < (x151005_17.length : Int)) = false := decide_eq_false c39
        have c39b1 : decide (0 < x151005_17.length) = false := decide_eq_false (by omega)
        clear c39
        by_cases c51 : t142 = 5
        ·rw [if_pos c51] at H
         have c51b0 : (t142 == 5) = true := beq_iff_eq.mpr c51
         have c51b1 : (t142 != 5) = false := bne_eq_false_iff_eq.mpr c51
         clear c51
         replace H := Option.bind_eq_some_iff.mp H
         obtain ⟨⟨t158, t159, t160, t161, t162, t163⟩, A520, H⟩ := H
         replace H : (some (x0_17, t158, t159, t160, t161, t162, t163, 0)) = some (r1, r2, r3, r4, r5, r6, r7, r8) := H
         have A52 := Aside0.mk A520
         clear A520
         simp only [Option.some.injEq, Prod.mk.injEq] at H
         obtain ⟨rfl, rfl, rfl, rfl, rfl, rfl, rfl, rfl⟩ := H
         have hnb53 := NB150_138.out
         have hnc53 := NB138_150.out
         have hnb54 := NB150_139.out
         have hnc54 := NB139_150.out
         obtain ⟨hcz55_0, hcz55_1, hcz55_2, hcz55_3, hcz55_4, hcz55_5⟩ := kc6 BK150.out
         obtain ⟨hfz55_0, hfz55_1, hfz55_2, hfz55_3, hfz55_4, hfz55_5⟩ := kf6 BK150.out
         obtain ⟨Ao56, co56, eo56, _⟩ := Kd.Q_slice HO_151005.out
         subst eo56
         try go_wp2_with (first | ((with_reducible refine gate_callee (f := 30) rfl ?_); refine goesL_ (some 50) rfl rfl Try.func30 (by kernel_rfl) rfl #[] rfl ka ?_; (with_reducible refine (device_New.calls  t158 t159 t160 t161 t162 t163 _ A52.out).mono ?_); rintro e w57 ⟨v164, rfl, ho0, hb⟩; refine ⟨_, rfl, ?_⟩; have n0_ := Aside0.mk (Kd.Q_elder' (kQ HO_151005.out) (Kd.R_base ho0) hb); have n1_ := Aside0.mk (Kd.R_lower (Kd.R_new' ho0 (Kd.Q_lt (kQ HO_151005.out))) (below_size (kb3 HB.out GE138.out GE139.out GE150.out))); have n2_ := Aside0.mk (kL BK138.out hb); have n3_ := Aside0.mk (kL BK139.out hb); have n4_ := Aside0.mk (kL BK150.out hb); have n5_ := Aside0.mk (below_step (kb3 HB.out GE138.out GE139.out GE150.out) hb); clear HO_151005; clear BK138; clear BK139; clear BK150; clear HB; have HO_151005 := n0_; have HO165 := n1_; have BK138 := n2_; have BK139 := n3_; have BK150 := n4_; have HB := n5_; clear n0_ n1_ n2_ n3_ n4_ n5_; (try clear hb); (try clear hb2); (try clear hk); (try clear hi); (try clear ho0); obtain ⟨hcz58_0, hcz58_1, hcz58_2, hcz58_3, hcz58_4, hcz58_5⟩ := kc6 BK150.out; obtain ⟨hfz58_0, hfz58_1, hfz58_2, hfz58_3, hfz58_4, hfz58_5⟩ := kf6 BK150.out; obtain ⟨Ao59, co59, eo59⟩ := Kd.R_slice HO165.out; subst eo59))
         have n0_ : Aside0 (Kd.Q k40 40 ((((((w57.setCell ⟨gb150, 0, none⟩ (.int .i64 t158)).setCell ⟨gb150, 1, none⟩ (.int .i64 t159)).setCell ⟨gb150, 2, none⟩ (.int .i64 t160)).setCell ⟨gb150, 3, none⟩ (.int .i64 t161)).setCell ⟨gb150, 4, none⟩ (.int .i64 t162)).setCell ⟨gb150, 5, none⟩ (.slice Ao59 t163.length co59)) w.heap.size (fun k_ => some k_ ≠ (.slice Ao59 t163.length co59 : Value).ownBlock) (.slice Ao56 x151005_17.length co56) x151005_17) := ⟨by (with_reducible repeat (first | apply Kd.Q_alloc | apply Kd.Q_drewN | apply Kd.Q_drew)); exact Kd.Q_mono (Kd.Q_far (p := ⟨gb150, 5, none⟩) (Kd.Q_far (p := ⟨gb150, 4, none⟩) (Kd.Q_far (p := ⟨gb150, 3, none⟩) (Kd.Q_far (p := ⟨gb150, 2, none⟩) (Kd.Q_far (p := ⟨gb150, 1, none⟩) (Kd.Q_far (p := ⟨gb150, 0, none⟩) (Kd.Q_types HO_151005.out BK150.out (by decide)) (fun _ hk => hk.2) (.int .i64 t158)) (fun _ hk => hk.2) (.int .i64 t159)) (fun _ hk => hk.2) (.int .i64 t160)) (fun _ hk => hk.2) (.int .i64 t161)) (fun _ hk => hk.2) (.int .i64 t162)) (fun _ hk => hk.2) (.slice Ao59 t163.length co59)) (fun _ hk => hk.1.2)⟩
         have n1_ : Aside0 (Kd.R k40 40 ((((((w57.setCell ⟨gb150, 0, none⟩ (.int .i64 t158)).setCell ⟨gb150, 1, none⟩ (.int .i64 t159)).setCell ⟨gb150, 2, none⟩ (.int .i64 t160)).setCell ⟨gb150, 3, none⟩ (.int .i64 t161)).setCell ⟨gb150, 4, none⟩ (.int .i64 t162)).setCell ⟨gb150, 5, none⟩ (.slice Ao59 t163.length co59)) w.heap.size (fun k_ => some k_ ≠ (.slice Ao56 x151005_17.length co56 : Value).ownBlock) (.slice Ao59 t163.length co59) t163) := ⟨by (with_reducible repeat (first | apply Kd.R_alloc | apply Kd.R_drewN | apply Kd.R_drew)); exact Kd.R_mono (Kd.R_far (p := ⟨gb150, 5, none⟩) (Kd.R_far (p := ⟨gb150, 4, none⟩) (Kd.R_far (p := ⟨gb150, 3, none⟩) (Kd.R_far (p := ⟨gb150, 2, none⟩) (Kd.R_far (p := ⟨gb150, 1, none⟩) (Kd.R_far (p := ⟨gb150, 0, none⟩) (Kd.R_types HO165.out BK150.out (by decide)) (fun _ hk => hk.2) (.int .i64 t158)) (fun _ hk => hk.2) (.int .i64 t159)) (fun _ hk => hk.2) (.int .i64 t160)) (fun _ hk => hk.2) (.int .i64 t161)) (fun _ hk => hk.2) (.int .i64 t162)) (fun _ hk => hk.2) (.slice Ao59 t163.length co59)) (fun _ hk => hk.1.2)⟩
         have n2_ : Aside0 (((((((w57.setCell ⟨gb150, 0, none⟩ (.int .i64 t158)).setCell ⟨gb150, 1, none⟩ (.int .i64 t159)).setCell ⟨gb150, 2, none⟩ (.int .i64 t160)).setCell ⟨gb150, 3, none⟩ (.int .i64 t161)).setCell ⟨gb150, 4, none⟩ (.int .i64 t162)).setCell ⟨gb150, 5, none⟩ (.slice Ao59 t163.length co59)).heap[gb138]? = some (.cells #[.int .i64 a1_0, .int .i64 a1_1, .int .i64 a1_2, .int .i64 a1_3, .int .i64 a1_4, .slice A1_5 l1_5.length c1_5] 24 (0, 0))) := ⟨kFa6 BK138.out NB138_150.out⟩
         have n3_ : Aside0 (((((((w57.setCell ⟨gb150, 0, none⟩ (.int .i64 t158)).setCell ⟨gb150, 1, none⟩ (.int .i64 t159)).setCell ⟨gb150, 2, none⟩ (.int .i64 t160)).setCell ⟨gb150, 3, none⟩ (.int .i64 t161)).setCell ⟨gb150, 4, none⟩ (.int .i64 t162)).setCell ⟨gb150, 5, none⟩ (.slice Ao59 t163.length co59)).heap[gb139]? = some (.cells #[.int .i64 0, .int .i64 0, .int .i64 0, .int .i64 0, .int .i64 0, .slice none 0 0] 24 (0, 0))) := ⟨kFa6 BK139.out NB139_150.out⟩
         have n4_ : Aside0 (((((((w57.setCell ⟨gb150, 0, none⟩ (.int .i64 t158)).setCell ⟨gb150, 1, none⟩ (.int .i64 t159)).setCell ⟨gb150, 2, none⟩ (.int .i64 t160)).setCell ⟨gb150, 3, none⟩ (.int .i64 t161)).setCell ⟨gb150, 4, none⟩ (.int .i64 t162)).setCell ⟨gb150, 5, none⟩ (.slice Ao59 t163.length co59)).heap[gb150]? = some (.cells #[.int .i64 t158, .int .i64 t159, .int .i64 t160, .int .i64 t161, .int .i64 t162, .slice Ao59 t163.length co59] 24 (0, 0))) := ⟨kP6 BK150.out⟩
         have n5_ : Aside0 (Below w.heap.size w ((((((w57.setCell ⟨gb150, 0, none⟩ (.int .i64 t158)).setCell ⟨gb150, 1, none⟩ (.int .i64 t159)).setCell ⟨gb150, 2, none⟩ (.int .i64 t160)).setCell ⟨gb150, 3, none⟩ (.int .i64 t161)).setCell ⟨gb150, 4, none⟩ (.int .i64 t162)).setCell ⟨gb150, 5, none⟩ (.slice Ao59 t163.length co59))) := ⟨kb3 HB.out GE138.out GE139.out GE150.out⟩
         (try clear HO_151005)
         (try clear HO165)
         (try clear BK138)
         (try clear BK139)
         (try clear BK150)
         (try clear HB)
         generalize ((((((w57.setCell ⟨gb150, 0, none⟩ (.int .i64 t158)).setCell ⟨gb150, 1, none⟩ (.int .i64 t159)).setCell ⟨gb150, 2, none⟩ (.int .i64 t160)).setCell ⟨gb150, 3, none⟩ (.int .i64 t161)).setCell ⟨gb150, 4, none⟩ (.int .i64 t162)).setCell ⟨gb150, 5, none⟩ (.slice Ao59 t163.length co59)) = w60 at n0_ n1_ n2_ n3_ n4_ n5_ ⊢
         have HO_151005 := n0_; have HO165 := n1_; have BK138 := n2_; have BK139 := n3_; have BK150 := n4_; have HB := n5_; clear n0_ n1_ n2_ n3_ n4_ n5_
         have n0_ := Aside0.mk (Kd.Q_drew HO_151005.out)
         have n1_ := Aside0.mk (Kd.R_drew HO165.out)
         have n2_ := Aside0.mk (blk_drew BK138.out)
         have n3_ := Aside0.mk (blk_drew BK139.out)
         have n4_ := Aside0.mk (blk_drew BK150.out)
         have n5_ := Aside0.mk (below_drew1 HB.out)
         clear HO_151005 HO165 BK138 BK139 BK150 HB; have HO_151005 := n0_; have HO165 := n1_; have BK138 := n2_; have BK139 := n3_; have BK150 := n4_; have HB := n5_; clear n0_ n1_ n2_ n3_ n4_ n5_
         refine start_ (n := 5) (S := fun w' => w'.cell? ⟨gb150, 0, none⟩ = some (.int .i64 t158) ∧ w'.cell? ⟨gb150, 1, none⟩ = some (.int .i64 t159) ∧ w'.cell? ⟨gb150, 2, none⟩ = some (.int .i64 t160) ∧ w'.cell? ⟨gb150, 3, none⟩ = some (.int .i64 t161) ∧ w'.cell? ⟨gb150, 4, none⟩ = some (.int .i64 t162) ∧ w'.cell? ⟨gb150, 5, none⟩ = some (.slice Ao59 t163.length co59)) (ds := []) #[false, false, false, false, false] (by kernel_rfl) rfl rfl ⟨(blk_cell BK150.out 0).trans rfl, (blk_cell BK150.out 1).trans rfl, (blk_cell BK150.out 2).trans rfl, (blk_cell BK150.out 3).trans rfl, (blk_cell BK150.out 4).trans rfl, (blk_cell BK150.out 5).trans rfl⟩ (fun hHeld => ?_)
         generalize w60.drew = w61 at HO_151005 HO165 BK138 BK139 BK150 HB hHeld ⊢
         refine pure_ (i := 0) (N := some 51) (v := ?_) (a' := ?_) #[true, false, false, false, false] rfl rfl (by kernel_rfl) (fun _ _ _ h => h) (Or.inl ⟨by rfl, ?_⟩) ?_ ?_
         rotate_left
         ·intro w'
          go_simp
          with_reducible rfl
         rotate_left
         ·simp only [Act.put, List.setIfInBounds_toArray, List.set_cons_zero, List.set_cons_succ, i64_w, i32_w]
          rfl
         refine pure_ (i := 2) (N := some 4) (v := ?_) (a' := ?_) #[true, false, true, false, false] rfl rfl (by kernel_rfl) (fun _ _ _ h => h) (Or.inl ⟨by rfl, ?_⟩) ?_ ?_
         rotate_left
         ·intro w'
          go_simp
          with_reducible rfl
         rotate_left
         ·simp only [Act.put, List.setIfInBounds_toArray, List.set_cons_zero, List.set_cons_succ, i64_w, i32_w]
          rfl
         refine take_ (i := 1) (N := some 52) (v := ?_) (a' := ?_) #[true, true, true, false, false] rfl rfl (by kernel_rfl) (fun _ _ _ h => h) (Or.inl ⟨by rfl, ?_⟩) hHeld ?_ ?_
         rotate_left
         ·rintro w' ⟨s0, s1, s2, s3, s4, s5⟩
          go_simp
          with_reducible rfl
         rotate_left
         ·simp only [Act.put, List.setIfInBounds_toArray, List.set_cons_zero, List.set_cons_succ, i64_w, i32_w]
          rfl
         refine one_ (i := 3) (N := none) #[true, true, true, true, false] rfl rfl (by kernel_rfl) (by decide) (fun K hK => ?_)
         have hs62 : w61.cell? ⟨gb139, 0, none⟩ = some (.int .i64 0) := (blk_cell BK139.out 0).trans rfl
         have hfs62 := blk_frozen BK139.out 0
         have hns62_0 := NB138_139.out
         have hns62_2 := NB150_139.out
         have hms62_0 := NB139_138.out
         have hms62_2 := NB139_150.out
         have hs63 : w61.cell? ⟨gb139, 1, none⟩ = some (.int .i64 0) := (blk_cell BK139.out 1).trans rfl
         have hfs63 := blk_frozen BK139.out 1
         have hns63_0 := NB138_139.out
         have hns63_2 := NB150_139.out
         have hms63_0 := NB139_138.out
         have hms63_2 := NB139_150.out
         have hs64 : w61.cell? ⟨gb139, 2, none⟩ = some (.int .i64 0) := (blk_cell BK139.out 2).trans rfl
         have hfs64 := blk_frozen BK139.out 2
         have hns64_0 := NB138_139.out
         have hns64_2 := NB150_139.out
         have hms64_0 := NB139_138.out
         have hms64_2 := NB139_150.out
         have hs65 : w61.cell? ⟨gb139, 3, none⟩ = some (.int .i64 0) := (blk_cell BK139.out 3).trans rfl
         have hfs65 := blk_frozen BK139.out 3
         have hns65_0 := NB138_139.out
         have hns65_2 := NB150_139.out
         have hms65_0 := NB139_138.out
         have hms65_2 := NB139_150.out
         have hs66 : w61.cell? ⟨gb139, 4, none⟩ = some (.int .i64 0) := (blk_cell BK139.out 4).trans rfl
         have hfs66 := blk_frozen BK139.out 4
         have hns66_0 := NB138_139.out
         have hns66_2 := NB150_139.out
         have hms66_0 := NB139_138.out
         have hms66_2 := NB139_150.out
         have hs67 : w61.cell? ⟨gb139, 5, none⟩ = some (.slice none 0 0) := (blk_cell BK139.out 5).trans rfl
         have hfs67 := blk_frozen BK139.out 5
         have hns67_0 := NB138_139.out
         have hns67_2 := NB150_139.out
         have hms67_0 := NB139_138.out
         have hms67_2 := NB139_150.out
         refine skip_ (w1 := ?_) (by rfl) rfl ?_ ?_
         rotate_left
         ·go_simp
          rfl
         refine hK.out _ _ ⟨((cell_far (p := ⟨gb139, _, none⟩) NB150_139.out _).trans (((cell_far (p := ⟨gb139, _, none⟩) NB150_139.out _).trans (((cell_far (p := ⟨gb139, _, none⟩) NB150_139.out _).trans (((cell_far (p := ⟨gb139, _, none⟩) NB150_139.out _).trans (((cell_far (p := ⟨gb139, _, none⟩) NB150_139.out _).trans (((cell_far (p := ⟨gb139, _, none⟩) NB150_139.out _).trans (hHeld.1)))))))))))), ((cell_far (p := ⟨gb139, _, none⟩) NB150_139.out _).trans (((cell_far (p := ⟨gb139, _, none⟩) NB150_139.out _).trans (((cell_far (p := ⟨gb139, _, none⟩) NB150_139.out _).trans (((cell_far (p := ⟨gb139, _, none⟩) NB150_139.out _).trans (((cell_far (p := ⟨gb139, _, none⟩) NB150_139.out _).trans (((cell_far (p := ⟨gb139, _, none⟩) NB150_139.out _).trans (hHeld.2.1)))))))))))), ((cell_far (p := ⟨gb139, _, none⟩) NB150_139.out _).trans (((cell_far (p := ⟨gb139, _, none⟩) NB150_139.out _).trans (((cell_far (p := ⟨gb139, _, none⟩) NB150_139.out _).trans (((cell_far (p := ⟨gb139, _, none⟩) NB150_139.out _).trans (((cell_far (p := ⟨gb139, _, none⟩) NB150_139.out _).trans (((cell_far (p := ⟨gb139, _, none⟩) NB150_139.out _).trans (hHeld.2.2.1)))))))))))), ((cell_far (p := ⟨gb139, _, none⟩) NB150_139.out _).trans (((cell_far (p := ⟨gb139, _, none⟩) NB150_139.out _).trans (((cell_far (p := ⟨gb139, _, none⟩) NB150_139.out _).trans (((cell_far (p := ⟨gb139, _, none⟩) NB150_139.out _).trans (((cell_far (p := ⟨gb139, _, none⟩) NB150_139.out _).trans (((cell_far (p := ⟨gb139, _, none⟩) NB150_139.out _).trans (hHeld.2.2.2.1)))))))))))), ((cell_far (p := ⟨gb139, _, none⟩) NB150_139.out _).trans (((cell_far (p := ⟨gb139, _, none⟩) NB150_139.out _).trans (((cell_far (p := ⟨gb139, _, none⟩) NB150_139.out _).trans (((cell_far (p := ⟨gb139, _, none⟩) NB150_139.out _).trans (((cell_far (p := ⟨gb139, _, none⟩) NB150_139.out _).trans (((cell_far (p := ⟨gb139, _, none⟩) NB150_139.out _).trans (hHeld.2.2.2.2.1)))))))))))), ((cell_far (p := ⟨gb139, _, none⟩) NB150_139.out _).trans (((cell_far (p := ⟨gb139, _, none⟩) NB150_139.out _).trans (((cell_far (p := ⟨gb139, _, none⟩) NB150_139.out _).trans (((cell_far (p := ⟨gb139, _, none⟩) NB150_139.out _).trans (((cell_far (p := ⟨gb139, _, none⟩) NB150_139.out _).trans (((cell_far (p := ⟨gb139, _, none⟩) NB150_139.out _).trans (hHeld.2.2.2.2.2))))))))))))⟩ (fun hHeld => ?_)
         clear hK K
         refine pure_ (i := 4) (N := some 6) (v := ?_) (a' := ?_) #[true, true, true, true, true] rfl rfl (by kernel_rfl) (fun _ _ _ h => h) (Or.inl ⟨by rfl, ?_⟩) ?_ ?_
         rotate_left
         ·intro w'
          go_simp
          with_reducible rfl
         rotate_left
         ·simp only [Act.put, List.setIfInBounds_toArray, List.set_cons_zero, List.set_cons_succ, i64_w, i32_w]
          rfl
         refine done_ (by kernel_rfl) ?_
         try go_wp2
         refine bodyPost_ret (results_list (rs := [.tmp 4, .cell 5 24, .tmp 6]) rfl (by simp) (.tmp (.cell gb139 24 #[.int .i64 t158, .int .i64 t159, .int .i64 t160, .int .i64 t161, .int .i64 t162, .slice Ao59 t163.length co59] (0, 0) _ rfl (kP6 BK139.out) Try.underlying24 rfl (by kernel_rfl) (.tmp .nil)))) rfl ?_
         exact ⟨_, by first | rfl | (simp [errW_none, errW_some] <;> rfl) | (simp [*, errW_none, errW_some] <;> rfl), Kd.Q_of_R (by (with_reducible repeat (first | apply Kd.R_alloc | apply Kd.R_drewN | apply Kd.R_drew)); exact Kd.R_mono (Kd.R_far (p := ⟨gb139, 5, none⟩) (Kd.R_far (p := ⟨gb139, 4, none⟩) (Kd.R_far (p := ⟨gb139, 3, none⟩) (Kd.R_far (p := ⟨gb139, 2, none⟩) (Kd.R_far (p := ⟨gb139, 1, none⟩) (Kd.R_far (p := ⟨gb139, 0, none⟩) (Kd.R_types HO165.out BK139.out (by decide)) (fun _ hk => hk.2) (.int .i64 t158)) (fun _ hk => hk.2) (.int .i64 t159)) (fun _ hk => hk.2) (.int .i64 t160)) (fun _ hk => hk.2) (.int .i64 t161)) (fun _ hk => hk.2) (.int .i64 t162)) (fun _ hk => hk.2) (.slice Ao59 t163.length co59)) (fun _ hk => trivial)), kb3 HB.out GE138.out GE139.out GE150.out⟩
        ·rw [if_neg c51] at H
         have c51b0 : (t142 == 5) = false := beq_eq_false_iff_ne.mpr c51
         have c51b1 : (t142 != 5) = true := bne_iff_ne.mpr c51
         simp only [Option.some.injEq, Prod.mk.injEq] at H
         obtain ⟨rfl, rfl, rfl, rfl, rfl, rfl, rfl, rfl⟩ := H
         have hnb68 := NB150_138.out
         have hnc68 := NB138_150.out
         have hnb69 := NB150_139.out
         have hnc69 := NB139_150.out
         obtain ⟨hcz70_0, hcz70_1, hcz70_2, hcz70_3, hcz70_4, hcz70_5⟩ := kc6 BK150.out
         obtain ⟨hfz70_0, hfz70_1, hfz70_2, hfz70_3, hfz70_4, hfz70_5⟩ := kf6 BK150.out
         obtain ⟨Ao71, co71, eo71, _⟩ := Kd.Q_slice HO_151005.out
         subst eo71
         try go_wp2
         have n0_ : Aside0 (Kd.Q k40 40 (wc.setCell ⟨gb150, 0, none⟩ (.int .i64 1)) w.heap.size (fun _ => True) (.slice Ao71 x151005_17.length co71) x151005_17) := ⟨by (with_reducible repeat (first | apply Kd.Q_alloc | apply Kd.Q_drewN | apply Kd.Q_drew)); exact Kd.Q_mono (Kd.Q_far (p := ⟨gb150, 0, none⟩) (Kd.Q_types HO_151005.out BK150.out (by decide)) (fun _ hk => hk.2) (.int .i64 1)) (fun _ hk => trivial)⟩
         have n1_ : Aside0 ((wc.setCell ⟨gb150, 0, none⟩ (.int .i64 1)).heap[gb138]? = some (.cells #[.int .i64 a1_0, .int .i64 a1_1, .int .i64 a1_2, .int .i64 a1_3, .int .i64 a1_4, .slice A1_5 l1_5.length c1_5] 24 (0, 0))) := ⟨kFa1 BK138.out NB138_150.out⟩
         have n2_ : Aside0 ((wc.setCell ⟨gb150, 0, none⟩ (.int .i64 1)).heap[gb139]? = some (.cells #[.int .i64 0, .int .i64 0, .int .i64 0, .int .i64 0, .int .i64 0, .slice none 0 0] 24 (0, 0))) := ⟨kFa1 BK139.out NB139_150.out⟩
         have n3_ : Aside0 ((wc.setCell ⟨gb150, 0, none⟩ (.int .i64 1)).heap[gb150]? = some (.cells #[.int .i64 1, .int .i64 t143, .int .i64 t144, .int .i64 t145, .int .i64 t146, .slice Ao71 x151005_17.length co71] 24 (0, 0))) := ⟨by (with_reducible repeat (first | refine blk_drewN ?_ _ | refine blk_drew ?_ | refine blk_alloc ?_ _)); refine blk_put (cs := #[.int .i64 t142, .int .i64 t143, .int .i64 t144, .int .i64 t145, .int .i64 t146, .slice Ao71 x151005_17.length co71]) ?_ 0 _ rfl; (with_reducible repeat (first | refine blk_drewN ?_ _ | refine blk_drew ?_ | refine blk_alloc ?_ _)); exact BK150.out⟩
         have n4_ : Aside0 (Below w.heap.size w (wc.setCell ⟨gb150, 0, none⟩ (.int .i64 1))) := ⟨kb3 HB.out GE138.out GE139.out GE150.out⟩
         (try clear HO_151005)
         (try clear BK138)
         (try clear BK139)
         (try clear BK150)
         (try clear HB)
         generalize (wc.setCell ⟨gb150, 0, none⟩ (.int .i64 1)) = w72 at n0_ n1_ n2_ n3_ n4_ ⊢
         have HO_151005 := n0_; have BK138 := n1_; have BK139 := n2_; have BK150 := n3_; have HB := n4_; clear n0_ n1_ n2_ n3_ n4_
         have n0_ := Aside0.mk (Kd.Q_drew HO_151005.out)
         have n1_ := Aside0.mk (blk_drew BK138.out)
         have n2_ := Aside0.mk (blk_drew BK139.out)
         have n3_ := Aside0.mk (blk_drew BK150.out)
         have n4_ := Aside0.mk (below_drew1 HB.out)
         clear HO_151005 BK138 BK139 BK150 HB; have HO_151005 := n0_; have BK138 := n1_; have BK139 := n2_; have BK150 := n3_; have HB := n4_; clear n0_ n1_ n2_ n3_ n4_
         refine start_ (n := 5) (S := fun w' => w'.cell? ⟨gb150, 0, none⟩ = some (.int .i64 1) ∧ w'.cell? ⟨gb150, 1, none⟩ = some (.int .i64 t143) ∧ w'.cell? ⟨gb150, 2, none⟩ = some (.int .i64 t144) ∧ w'.cell? ⟨gb150, 3, none⟩ = some (.int .i64 t145) ∧ w'.cell? ⟨gb150, 4, none⟩ = some (.int .i64 t146) ∧ w'.cell? ⟨gb150, 5, none⟩ = some (.slice Ao71 x151005_17.length co71)) (ds := []) #[false, false, false, false, false] (by kernel_rfl) rfl rfl ⟨(blk_cell BK150.out 0).trans rfl, (blk_cell BK150.out 1).trans rfl, (blk_cell BK150.out 2).trans rfl, (blk_cell BK150.out 3).trans rfl, (blk_cell BK150.out 4).trans rfl, (blk_cell BK150.out 5).trans rfl⟩ (fun hHeld => ?_)
         generalize w72.drew = w73 at HO_151005 BK138 BK139 BK150 HB hHeld ⊢
         refine pure_ (i := 0) (N := some 51) (v := ?_) (a' := ?_) #[true, false, false, false, false] rfl rfl (by kernel_rfl) (fun _ _ _ h => h) (Or.inl ⟨by rfl, ?_⟩) ?_ ?_
         rotate_left
         ·intro w'
          go_simp
          with_reducible rfl
         rotate_left
         ·simp only [Act.put, List.setIfInBounds_toArray, List.set_cons_zero, List.set_cons_succ, i64_w, i32_w]
          rfl
         refine pure_ (i := 2) (N := some 4) (v := ?_) (a' := ?_) #[true, false, true, false, false] rfl rfl (by kernel_rfl) (fun _ _ _ h => h) (Or.inl ⟨by rfl, ?_⟩) ?_ ?_
         rotate_left
         ·intro w'
          go_simp
          with_reducible rfl
         rotate_left
         ·simp only [Act.put, List.setIfInBounds_toArray, List.set_cons_zero, List.set_cons_succ, i64_w, i32_w]
          rfl
         refine take_ (i := 1) (N := some 52) (v := ?_) (a' := ?_) #[true, true, true, false, false] rfl rfl (by kernel_rfl) (fun _ _ _ h => h) (Or.inl ⟨by rfl, ?_⟩) hHeld ?_ ?_
         rotate_left
         ·rintro w' ⟨s0, s1, s2, s3, s4, s5⟩
          go_simp
          with_reducible rfl
         rotate_left
         ·simp only [Act.put, List.setIfInBounds_toArray, List.set_cons_zero, List.set_cons_succ, i64_w, i32_w]
          rfl
         refine one_ (i := 3) (N := none) #[true, true, true, true, false] rfl rfl (by kernel_rfl) (by decide) (fun K hK => ?_)
         have hs74 : w73.cell? ⟨gb139, 0, none⟩ = some (.int .i64 0) := (blk_cell BK139.out 0).trans rfl
         have hfs74 := blk_frozen BK139.out 0
         have hns74_0 := NB138_139.out
         have hns74_2 := NB150_139.out
         have hms74_0 := NB139_138.out
         have hms74_2 := NB139_150.out
         have hs75 : w73.cell? ⟨gb139, 1, none⟩ = some (.int .i64 0) := (blk_cell BK139.out 1).trans rfl
         have hfs75 := blk_frozen BK139.out 1
         have hns75_0 := NB138_139.out
         have hns75_2 := NB150_139.out
         have hms75_0 := NB139_138.out
         have hms75_2 := NB139_150.out
         have hs76 : w73.cell? ⟨gb139, 2, none⟩ = some (.int .i64 0) := (blk_cell BK139.out 2).trans rfl
         have hfs76 := blk_frozen BK139.out 2
         have hns76_0 := NB138_139.out
         have hns76_2 := NB150_139.out
         have hms76_0 := NB139_138.out
         have hms76_2 := NB139_150.out
         have hs77 : w73.cell? ⟨gb139, 3, none⟩ = some (.int .i64 0) := (blk_cell BK139.out 3).trans rfl
         have hfs77 := blk_frozen BK139.out 3
         have hns77_0 := NB138_139.out
         have hns77_2 := NB150_139.out
         have hms77_0 := NB139_138.out
         have hms77_2 := NB139_150.out
         have hs78 : w73.cell? ⟨gb139, 4, none⟩ = some (.int .i64 0) := (blk_cell BK139.out 4).trans rfl
         have hfs78 := blk_frozen BK139.out 4
         have hns78_0 := NB138_139.out
         have hns78_2 := NB150_139.out
         have hms78_0 := NB139_138.out
         have hms78_2 := NB139_150.out
         have hs79 : w73.cell? ⟨gb139, 5, none⟩ = some (.slice none 0 0) := (blk_cell BK139.out 5).trans rfl
         have hfs79 := blk_frozen BK139.out 5
         have hns79_0 := NB138_139.out
         have hns79_2 := NB150_139.out
         have hms79_0 := NB139_138.out
         have hms79_2 := NB139_150.out
         refine skip_ (w1 := ?_) (by rfl) rfl ?_ ?_
         rotate_left
         ·go_simp
          rfl
         refine hK.out _ _ ⟨((cell_far (p := ⟨gb139, _, none⟩) NB150_139.out _).trans (((cell_far (p := ⟨gb139, _, none⟩) NB150_139.out _).trans (((cell_far (p := ⟨gb139, _, none⟩) NB150_139.out _).trans (((cell_far (p := ⟨gb139, _, none⟩) NB150_139.out _).trans (((cell_far (p := ⟨gb139, _, none⟩) NB150_139.out _).trans (((cell_far (p := ⟨gb139, _, none⟩) NB150_139.out _).trans (hHeld.1)))))))))))), ((cell_far (p := ⟨gb139, _, none⟩) NB150_139.out _).trans (((cell_far (p := ⟨gb139, _, none⟩) NB150_139.out _).trans (((cell_far (p := ⟨gb139, _, none⟩) NB150_139.out _).trans (((cell_far (p := ⟨gb139, _, none⟩) NB150_139.out _).trans (((cell_far (p := ⟨gb139, _, none⟩) NB150_139.out _).trans (((cell_far (p := ⟨gb139, _, none⟩) NB150_139.out _).trans (hHeld.2.1)))))))))))), ((cell_far (p := ⟨gb139, _, none⟩) NB150_139.out _).trans (((cell_far (p := ⟨gb139, _, none⟩) NB150_139.out _).trans (((cell_far (p := ⟨gb139, _, none⟩) NB150_139.out _).trans (((cell_far (p := ⟨gb139, _, none⟩) NB150_139.out _).trans (((cell_far (p := ⟨gb139, _, none⟩) NB150_139.out _).trans (((cell_far (p := ⟨gb139, _, none⟩) NB150_139.out _).trans (hHeld.2.2.1)))))))))))), ((cell_far (p := ⟨gb139, _, none⟩) NB150_139.out _).trans (((cell_far (p := ⟨gb139, _, none⟩) NB150_139.out _).trans (((cell_far (p := ⟨gb139, _, none⟩) NB150_139.out _).trans (((cell_far (p := ⟨gb139, _, none⟩) NB150_139.out _).trans (((cell_far (p := ⟨gb139, _, none⟩) NB150_139.out _).trans (((cell_far (p := ⟨gb139, _, none⟩) NB150_139.out _).trans (hHeld.2.2.2.1)))))))))))), ((cell_far (p := ⟨gb139, _, none⟩) NB150_139.out _).trans (((cell_far (p := ⟨gb139, _, none⟩) NB150_139.out _).trans (((cell_far (p := ⟨gb139, _, none⟩) NB150_139.out _).trans (((cell_far (p := ⟨gb139, _, none⟩) NB150_139.out _).trans (((cell_far (p := ⟨gb139, _, none⟩) NB150_139.out _).trans (((cell_far (p := ⟨gb139, _, none⟩) NB150_139.out _).trans (hHeld.2.2.2.2.1)))))))))))), ((cell_far (p := ⟨gb139, _, none⟩) NB150_139.out _).trans (((cell_far (p := ⟨gb139, _, none⟩) NB150_139.out _).trans (((cell_far (p := ⟨gb139, _, none⟩) NB150_139.out _).trans (((cell_far (p := ⟨gb139, _, none⟩) NB150_139.out _).trans (((cell_far (p := ⟨gb139, _, none⟩) NB150_139.out _).trans (((cell_far (p := ⟨gb139, _, none⟩) NB150_139.out _).trans (hHeld.2.2.2.2.2))))))))))))⟩ (fun hHeld => ?_)
         clear hK K
         refine pure_ (i := 4) (N := some 6) (v := ?_) (a' := ?_) #[true, true, true, true, true] rfl rfl (by kernel_rfl) (fun _ _ _ h => h) (Or.inl ⟨by rfl, ?_⟩) ?_ ?_
         rotate_left
         ·intro w'
          go_simp
          with_reducible rfl
         rotate_left
         ·simp only [Act.put, List.setIfInBounds_toArray, List.set_cons_zero, List.set_cons_succ, i64_w, i32_w]
          rfl
         refine done_ (by kernel_rfl) ?_
         try go_wp2
         refine bodyPost_ret (results_list (rs := [.tmp 4, .cell 5 24, .tmp 6]) rfl (by simp) (.tmp (.cell gb139 24 #[.int .i64 1, .int .i64 t143, .int .i64 t144, .int .i64 t145, .int .i64 t146, .slice Ao71 x151005_17.length co71] (0, 0) _ rfl (kP6 BK139.out) Try.underlying24 rfl (by kernel_rfl) (.tmp .nil)))) rfl ?_
         exact ⟨_, by first | rfl | (simp [errW_none, errW_some] <;> rfl) | (simp [*, errW_none, errW_some] <;> rfl), by (with_reducible repeat (first | apply Kd.Q_alloc | apply Kd.Q_drewN | apply Kd.Q_drew)); exact Kd.Q_mono (Kd.Q_far (p := ⟨gb139, 5, none⟩) (Kd.Q_far (p := ⟨gb139, 4, none⟩) (Kd.Q_far (p := ⟨gb139, 3, none⟩) (Kd.Q_far (p := ⟨gb139, 2, none⟩) (Kd.Q_far (p := ⟨gb139, 1, none⟩) (Kd.Q_far (p := ⟨gb139, 0, none⟩) (Kd.Q_types HO_151005.out BK139.out (by decide)) (fun _ hk => hk.2) (.int .i64 1)) (fun _ hk => hk.2) (.int .i64 t143)) (fun _ hk => hk.2) (.int .i64 t144)) (fun _ hk => hk.2) (.int .i64 t145)) (fun _ hk => hk.2) (.int .i64 t146)) (fun _ hk => hk.2) (.slice Ao71 x151005_17.length co71)) (fun _ hk => trivial), kb3 HB.out GE138.out GE139.out GE150.out⟩
    ·replace c17 := Bool.eq_false_iff.mpr c17
     subst c17
     have H1 : (some (a0, t142, t143, t144, t145, t146, t147, 0)) = some (r1, r2, r3, r4, r5, r6, r7, r8) := by rw [if_neg (show ¬ (false = true) by decide)] at H; exact H
     clear H; have H := H1; clear H1
     simp only [Option.some.injEq, Prod.mk.injEq] at H
     obtain ⟨rfl, rfl, rfl, rfl, rfl, rfl, rfl, rfl⟩ := H
     have hnb80 := NB138_139.out
     have hnc80 := NB139_138.out
     obtain ⟨hcz81_0, hcz81_1, hcz81_2, hcz81_3, hcz81_4, hcz81_5⟩ := kc6 BK138.out
     obtain ⟨hfz81_0, hfz81_1, hfz81_2, hfz81_3, hfz81_4, hfz81_5⟩ := kf6 BK138.out
     try go_wp2_with (first | ((with_reducible refine gate_callee (f := 27) rfl ?_); refine goesL_ (some 18) rfl rfl Try.func27 (by kernel_rfl) rfl #[.agg #[.int .i64 a1_0, .int .i64 a1_1, .int .i64 a1_2, .int .i64 a1_3, .int .i64 a1_4, .slice A1_5 l1_5.length c1_5]] rfl ka ?_; (with_reducible refine (device_Copy.calls a1_0 a1_1 a1_2 a1_3 a1_4 _ _ l1_5 t142 t143 t144 t145 t146 t147 _ ?side1 ?side2 A15.out).mono ?_); (case side1 => exact kC (Kd.C_below HR1_5.out HB.out)); (case side2 => exact HC1_5.out); rintro e w82 ⟨v148, rfl, ho0, hb⟩; refine ⟨_, rfl, ?_⟩; have n0_ := Aside0.mk (Kd.R_lower ho0 (below_size (kb2 HB.out GE138.out GE139.out))); have n1_ := Aside0.mk (kL BK138.out hb); have n2_ := Aside0.mk (kL BK139.out hb); have n3_ := Aside0.mk (below_step (kb2 HB.out GE138.out GE139.out) hb); clear BK138; clear BK139; clear HB; have HO149 := n0_; have BK138 := n1_; have BK139 := n2_; have HB := n3_; clear n0_ n1_ n2_ n3_; (try clear hb); (try clear hb2); (try clear hk); (try clear hi); (try clear ho0)) | ((with_reducible refine gate_dst (N := 7) rfl ?_); refine box_event ?hg (N := 7) ?hd (cs := #[.int .i64 0, .int .i64 0, .int .i64 0, .int .i64 0, .int .i64 0, .slice none 0 0]) (t := 24) ?hr ?_; (case hd => rfl); (case hg => rfl); (case hr => first | (go_simp; done) | (go_simp; rfl)); intro gb150 hg w83 hbox hb; have n0_ := Aside0.mk (Kd.R_below (kR HO149.out) hb); have n1_ := Aside0.mk (kL BK138.out hb); have n2_ := Aside0.mk (kL BK139.out hb); have n3_ := Aside0.mk (below_step (kb2 HB.out GE138.out GE139.out) hb); have n4_ := Aside0.mk (hbox); have n5_ := Aside0.mk ((kz hg (below_size (kb2 HB.out GE138.out GE139.out)) : w.heap.size ≤ gb150)); have n6_ := Aside0.mk ((kz hg (below_size (kb2 HB.out GE138.out GE139.out)) : w.heap.size ≤ gb150)); have n7_ := Aside0.mk ((kN hg BK138.out : gb138 ≠ gb150)); have n8_ := Aside0.mk (((kN hg BK138.out).symm : gb150 ≠ gb138)); have n9_ := Aside0.mk ((kN hg BK139.out : gb139 ≠ gb150)); have n10_ := Aside0.mk (((kN hg BK139.out).symm : gb150 ≠ gb139)); clear HO149; clear BK138; clear BK139; clear HB; have HO149 := n0_; have BK138 := n1_; have BK139 := n2_; have HB := n3_; have BK150 := n4_; have GW150 := n5_; have GE150 := n6_; have NB138_150 := n7_; have NB150_138 := n8_; have NB139_150 := n9_; have NB150_139 := n10_; clear n0_ n1_ n2_ n3_ n4_ n5_ n6_ n7_ n8_ n9_ n10_; clear hb hbox hg; have hnb84 := NB150_138.out; have hnc84 := NB138_150.out; have hnb85 := NB150_139.out; have hnc85 := NB139_150.out; obtain ⟨hcz86_0, hcz86_1, hcz86_2, hcz86_3, hcz86_4, hcz86_5⟩ := kc6 BK150.out; obtain ⟨hfz86_0, hfz86_1, hfz86_2, hfz86_3, hfz86_4, hfz86_5⟩ := kf6 BK150.out; obtain ⟨Ao87, co87, eo87⟩ := Kd.R_slice HO149.out; subst eo87) | ((with_reducible refine gate_callee (f := 28) rfl ?_); refine goesL_ (some 19) rfl rfl Try.func28 (by kernel_rfl) rfl #[.pointer (some ⟨gb150, 0, none⟩)] rfl ka ?_; (refine (tick_Works.ptr t142 t143 t144 t145 t146 t147 false gb150 (cs := #[.int .i64 t142, .int .i64 t143, .int .i64 t144, .int .i64 t145, .int .i64 t146, .slice Ao87 t147.length co87]) (t := 24) _ ?hcell rfl A16.out).mono ?_); (case hcell => exact (kP6 BK150.out)); rintro e w88 ⟨rfl, hb⟩; refine ⟨_, rfl, ?_⟩; have n0_ := Aside0.mk (Kd.R_below (by (with_reducible repeat (first | apply Kd.R_alloc | apply Kd.R_drewN | apply Kd.R_drew)); exact (Kd.R_mono (Kd.R_far (p := ⟨gb150, 5, none⟩) (Kd.R_far (p := ⟨gb150, 4, none⟩) (Kd.R_far (p := ⟨gb150, 3, none⟩) (Kd.R_far (p := ⟨gb150, 2, none⟩) (Kd.R_far (p := ⟨gb150, 1, none⟩) (Kd.R_far (p := ⟨gb150, 0, none⟩) (Kd.R_types HO149.out BK150.out (by decide)) (fun _ hk => hk.2) (.int .i64 t142)) (fun _ hk => hk.2) (.int .i64 t143)) (fun _ hk => hk.2) (.int .i64 t144)) (fun _ hk => hk.2) (.int .i64 t145)) (fun _ hk => hk.2) (.int .i64 t146)) (fun _ hk => hk.2) (.slice Ao87 t147.length co87)) (fun _ h_ => h_.1))) hb); have n1_ := Aside0.mk (blk_below (g := gb138) (o := .cells #[.int .i64 a1_0, .int .i64 a1_1, .int .i64 a1_2, .int .i64 a1_3, .int .i64 a1_4, .slice A1_5 l1_5.length c1_5] 24 (0, 0)) (kFa6 BK138.out NB138_150.out) hb); have n2_ := Aside0.mk (blk_below (g := gb139) (o := .cells #[.int .i64 0, .int .i64 0, .int .i64 0, .int .i64 0, .int .i64 0, .slice none 0 0] 24 (0, 0)) (kFa6 BK139.out NB139_150.out) hb); have n3_ := Aside0.mk (blk_below (g := gb150) (o := .cells #[.int .i64 t142, .int .i64 t143, .int .i64 t144, .int .i64 t145, .int .i64 t146, .slice Ao87 t147.length co87] 24 (0, 0)) (kP6 BK150.out) hb); have n4_ := Aside0.mk (below_step (kb3 HB.out GE138.out GE139.out GE150.out) hb); clear HO149; clear BK138; clear BK139; clear BK150; clear HB; have HO149 := n0_; have BK138 := n1_; have BK139 := n2_; have BK150 := n3_; have HB := n4_; clear n0_ n1_ n2_ n3_ n4_; (try clear hb); (try clear hb2); (try clear hk); (try clear hi)))
     have n0_ := Aside0.mk (Kd.R_drew HO149.out)
     have n1_ := Aside0.mk (blk_drew BK138.out)
     have n2_ := Aside0.mk (blk_drew BK139.out)
     have n3_ := Aside0.mk (blk_drew BK150.out)
     have n4_ := Aside0.mk (below_drew1 HB.out)
     clear HO149 BK138 BK139 BK150 HB; have HO149 := n0_; have BK138 := n1_; have BK139 := n2_; have BK150 := n3_; have HB := n4_; clear n0_ n1_ n2_ n3_ n4_
     refine start_ (n := 5) (S := fun w' => w'.cell? ⟨gb150, 0, none⟩ = some (.int .i64 t142) ∧ w'.cell? ⟨gb150, 1, none⟩ = some (.int .i64 t143) ∧ w'.cell? ⟨gb150, 2, none⟩ = some (.int .i64 t144) ∧ w'.cell? ⟨gb150, 3, none⟩ = some (.int .i64 t145) ∧ w'.cell? ⟨gb150, 4, none⟩ = some (.int .i64 t146) ∧ w'.cell? ⟨gb150, 5, none⟩ = some (.slice Ao87 t147.length co87)) (ds := []) #[false, false, false, false, false] (by kernel_rfl) rfl rfl ⟨(blk_cell BK150.out 0).trans rfl, (blk_cell BK150.out 1).trans rfl, (blk_cell BK150.out 2).trans rfl, (blk_cell BK150.out 3).trans rfl, (blk_cell BK150.out 4).trans rfl, (blk_cell BK150.out 5).trans rfl⟩ (fun hHeld => ?_)
     generalize w88.drew = w89 at HO149 BK138 BK139 BK150 HB hHeld ⊢
     refine pure_ (i := 0) (N := some 21) (v := ?_) (a' := ?_) #[true, false, false, false, false] rfl rfl (by kernel_rfl) (fun _ _ _ h => h) (Or.inl ⟨by rfl, ?_⟩) ?_ ?_
     rotate_left
     ·intro w'
      go_simp
      with_reducible rfl
     rotate_left
     ·simp only [Act.put, List.setIfInBounds_toArray, List.set_cons_zero, List.set_cons_succ, i64_w, i32_w]
      rfl
     refine pure_ (i := 2) (N := some 4) (v := ?_) (a' := ?_) #[true, false, true, false, false] rfl rfl (by kernel_rfl) (fun _ _ _ h => h) (Or.inl ⟨by rfl, ?_⟩) ?_ ?_
     rotate_left
     ·intro w'
      go_simp
      with_reducible rfl
     rotate_left
     ·simp only [Act.put, List.setIfInBounds_toArray, List.set_cons_zero, List.set_cons_succ, i64_w, i32_w]
      rfl
     refine take_ (i := 1) (N := some 22) (v := ?_) (a' := ?_) #[true, true, true, false, false] rfl rfl (by kernel_rfl) (fun _ _ _ h => h) (Or.inl ⟨by rfl, ?_⟩) hHeld ?_ ?_
     rotate_left
     ·rintro w' ⟨s0, s1, s2, s3, s4, s5⟩
      go_simp
      with_reducible rfl
     rotate_left
     ·simp only [Act.put, List.setIfInBounds_toArray, List.set_cons_zero, List.set_cons_succ, i64_w, i32_w]
      rfl
     refine one_ (i := 3) (N := none) #[true, true, true, true, false] rfl rfl (by kernel_rfl) (by decide) (fun K hK => ?_)
     have hs90 : w89.cell? ⟨gb139, 0, none⟩ = some (.int .i64 0) := (blk_cell BK139.out 0).trans rfl
     have hfs90 := blk_frozen BK139.out 0
     have hns90_0 := NB138_139.out
     have hns90_2 := NB150_139.out
     have hms90_0 := NB139_138.out
     have hms90_2 := NB139_150.out
     have hs91 : w89.cell? ⟨gb139, 1, none⟩ = some (.int .i64 0) := (blk_cell BK139.out 1).trans rfl
     have hfs91 := blk_frozen BK139.out 1
     have hns91_0 := NB138_139.out
     have hns91_2 := NB150_139.out
     have hms91_0 := NB139_138.out
     have hms91_2 := NB139_150.out
     have hs92 : w89.cell? ⟨gb139, 2, none⟩ = some (.int .i64 0) := (blk_cell BK139.out 2).trans rfl
     have hfs92 := blk_frozen BK139.out 2
     have hns92_0 := NB138_139.out
     have hns92_2 := NB150_139.out
     have hms92_0 := NB139_138.out
     have hms92_2 := NB139_150.out
     have hs93 : w89.cell? ⟨gb139, 3, none⟩ = some (.int .i64 0) := (blk_cell BK139.out 3).trans rfl
     have hfs93 := blk_frozen BK139.out 3
     have hns93_0 := NB138_139.out
     have hns93_2 := NB150_139.out
     have hms93_0 := NB139_138.out
     have hms93_2 := NB139_150.out
     have hs94 : w89.cell? ⟨gb139, 4, none⟩ = some (.int .i64 0) := (blk_cell BK139.out 4).trans rfl
     have hfs94 := blk_frozen BK139.out 4
     have hns94_0 := NB138_139.out
     have hns94_2 := NB150_139.out
     have hms94_0 := NB139_138.out
     have hms94_2 := NB139_150.out
     have hs95 : w89.cell? ⟨gb139, 5, none⟩ = some (.slice none 0 0) := (blk_cell BK139.out 5).trans rfl
     have hfs95 := blk_frozen BK139.out 5
     have hns95_0 := NB138_139.out
     have hns95_2 := NB150_139.out
     have hms95_0 := NB139_138.out
     have hms95_2 := NB139_150.out
     refine skip_ (w1 := ?_) (by rfl) rfl ?_ ?_
     rotate_left
     ·go_simp
      rfl
     refine hK.out _ _ ⟨((cell_far (p := ⟨gb139, _, none⟩) NB150_139.out _).trans (((cell_far (p := ⟨gb139, _, none⟩) NB150_139.out _).trans (((cell_far (p := ⟨gb139, _, none⟩) NB150_139.out _).trans (((cell_far (p := ⟨gb139, _, none⟩) NB150_139.out _).trans (((cell_far (p := ⟨gb139, _, none⟩) NB150_139.out _).trans (((cell_far (p := ⟨gb139, _, none⟩) NB150_139.out _).trans (hHeld.1)))))))))))), ((cell_far (p := ⟨gb139, _, none⟩) NB150_139.out _).trans (((cell_far (p := ⟨gb139, _, none⟩) NB150_139.out _).trans (((cell_far (p := ⟨gb139, _, none⟩) NB150_139.out _).trans (((cell_far (p := ⟨gb139, _, none⟩) NB150_139.out _).trans (((cell_far (p := ⟨gb139, _, none⟩) NB150_139.out _).trans (((cell_far (p := ⟨gb139, _, none⟩) NB150_139.out _).trans (hHeld.2.1)))))))))))), ((cell_far (p := ⟨gb139, _, none⟩) NB150_139.out _).trans (((cell_far (p := ⟨gb139, _, none⟩) NB150_139.out _).trans (((cell_far (p := ⟨gb139, _, none⟩) NB150_139.out _).trans (((cell_far (p := ⟨gb139, _, none⟩) NB150_139.out _).trans (((cell_far (p := ⟨gb139, _, none⟩) NB150_139.out _).trans (((cell_far (p := ⟨gb139, _, none⟩) NB150_139.out _).trans (hHeld.2.2.1)))))))))))), ((cell_far (p := ⟨gb139, _, none⟩) NB150_139.out _).trans (((cell_far (p := ⟨gb139, _, none⟩) NB150_139.out _).trans (((cell_far (p := ⟨gb139, _, none⟩) NB150_139.out _).trans (((cell_far (p := ⟨gb139, _, none⟩) NB150_139.out _).trans (((cell_far (p := ⟨gb139, _, none⟩) NB150_139.out _).trans (((cell_far (p := ⟨gb139, _, none⟩) NB150_139.out _).trans (hHeld.2.2.2.1)))))))))))), ((cell_far (p := ⟨gb139, _, none⟩) NB150_139.out _).trans (((cell_far (p := ⟨gb139, _, none⟩) NB150_139.out _).trans (((cell_far (p := ⟨gb139, _, none⟩) NB150_139.out _).trans (((cell_far (p := ⟨gb139, _, none⟩) NB150_139.out _).trans (((cell_far (p := ⟨gb139, _, none⟩) NB150_139.out _).trans (((cell_far (p := ⟨gb139, _, none⟩) NB150_139.out _).trans (hHeld.2.2.2.2.1)))))))))))), ((cell_far (p := ⟨gb139, _, none⟩) NB150_139.out _).trans (((cell_far (p := ⟨gb139, _, none⟩) NB150_139.out _).trans (((cell_far (p := ⟨gb139, _, none⟩) NB150_139.out _).trans (((cell_far (p := ⟨gb139, _, none⟩) NB150_139.out _).trans (((cell_far (p := ⟨gb139, _, none⟩) NB150_139.out _).trans (((cell_far (p := ⟨gb139, _, none⟩) NB150_139.out _).trans (hHeld.2.2.2.2.2))))))))))))⟩ (fun hHeld => ?_)
     clear hK K
     refine pure_ (i := 4) (N := some 6) (v := ?_) (a' := ?_) #[true, true, true, true, true] rfl rfl (by kernel_rfl) (fun _ _ _ h => h) (Or.inl ⟨by rfl, ?_⟩) ?_ ?_
     rotate_left
     ·intro w'
      go_simp
      with_reducible rfl
     rotate_left
     ·simp only [Act.put, List.setIfInBounds_toArray, List.set_cons_zero, List.set_cons_succ, i64_w, i32_w]
      rfl
     refine done_ (by kernel_rfl) ?_
     try go_wp2
     refine bodyPost_ret (results_list (rs := [.tmp 4, .cell 5 24, .tmp 6]) rfl (by simp) (.tmp (.cell gb139 24 #[.int .i64 t142, .int .i64 t143, .int .i64 t144, .int .i64 t145, .int .i64 t146, .slice Ao87 t147.length co87] (0, 0) _ rfl (kP6 BK139.out) Try.underlying24 rfl (by kernel_rfl) (.tmp .nil)))) rfl ?_
     exact ⟨_, by first | rfl | (simp [errW_none, errW_some] <;> rfl) | (simp [*, errW_none, errW_some] <;> rfl), Kd.Q_of_R (by (with_reducible repeat (first | apply Kd.R_alloc | apply Kd.R_drewN | apply Kd.R_drew)); exact Kd.R_mono (Kd.R_far (p := ⟨gb139, 5, none⟩) (Kd.R_far (p := ⟨gb139, 4, none⟩) (Kd.R_far (p := ⟨gb139, 3, none⟩) (Kd.R_far (p := ⟨gb139, 2, none⟩) (Kd.R_far (p := ⟨gb139, 1, none⟩) (Kd.R_far (p := ⟨gb139, 0, none⟩) (Kd.R_types HO149.out BK139.out (by decide)) (fun _ hk => hk.2) (.int .i64 t142)) (fun _ hk => hk.2) (.int .i64 t143)) (fun _ hk => hk.2) (.int .i64 t144)) (fun _ hk => hk.2) (.int .i64 t145)) (fun _ hk => hk.2) (.int .i64 t146)) (fun _ hk => hk.2) (.slice Ao87 t147.length co87)) (fun _ hk => trivial)), kb3 HB.out GE138.out GE139.out GE150.out⟩

/-! ### skiffref1_FlashMay: function 23 -/
def skiffref1_FlashMay.f (a0 : ByteArray) : Option (Bool) := some ((a0.size : Int) == 768)
set_option maxHeartbeats 8000000 in
set_option maxRecDepth 100000 in
theorem skiffref1_FlashMay.calls (a0 : ByteArray) (r : Bool) (w : World) (h : skiffref1_FlashMay.f a0 = some r) :
  Calls Try.prog 23 #[.string a0] w fun e w' => e = .returned (.bool r) ∧ Drawn0 w w' := by
 have H : (some ((a0.size : Int) == 768)) = some r := h
 clear h
 obtain rfl := Option.some.inj H
 go_enter Try.func23, Try.ntmps23
 go_wp2
 go_ret
 exact ⟨by first | rfl | (simp; done) | (simp [*]; done), by repeat (first | exact Drawn0.refl _ | apply Drawn0.step)⟩

/-! ### skiffref1_upTo: function 41 -/
def skiffref1_upTo.f (a0 : Int) (a1 : Int) (a2 : Int) : Option (Bool) := if a0 ≥ a1 then (some (decide (a0 ≤ a2))) else (some false)
set_option maxHeartbeats 8000000 in
set_option maxRecDepth 100000 in
theorem skiffref1_upTo.calls (a0 : Int) (a1 : Int) (a2 : Int) (r : Bool) (w : World) (h : skiffref1_upTo.f a0 a1 a2 = some r) :
  Calls Try.prog 41 #[.int .i64 a0, .int .i64 a1, .int .i64 a2] w fun e w' => e = .returned (.bool r) ∧ Drawn0 w w' := by
 have H : (if a0 ≥ a1 then (some (decide (a0 ≤ a2))) else (some false)) = some r := h
 clear h
 by_cases c4 : a0 ≥ a1
 case neg =>
  rw [if_neg c4] at H
  have c4b0 : decide (a1 ≤ a0) = false := decide_eq_false c4
  clear c4
  obtain rfl := Option.some.inj H
  go_enter Try.func41, Try.ntmps41
  go_wp2
  go_ret
  exact ⟨by first | rfl | (simp; done) | (simp [*]; done), by repeat (first | exact Drawn0.refl _ | apply Drawn0.step)⟩
 rw [if_pos c4] at H
 have c4b0 : decide (a1 ≤ a0) = true := decide_eq_true c4
 clear c4
 obtain rfl := Option.some.inj H
 go_enter Try.func41, Try.ntmps41
 go_wp2
 go_ret
 exact ⟨by first | rfl | (simp; done) | (simp [*]; done), by repeat (first | exact Drawn0.refl _ | apply Drawn0.step)⟩

/-! ### skiffref1_wordAt: function 61 -/
def skiffref1_wordAt.f (a0 : Int) : Option (Bool) := (skiffref1_upTo.f a0 0 764).bind fun t166 => (if t166 = true then (some ((Int.tmod a0 4) == 0)) else (some false))
set_option maxHeartbeats 8000000 in
set_option maxRecDepth 100000 in
theorem skiffref1_wordAt.calls (a0 : Int) (r : Bool) (w : World) (h : skiffref1_wordAt.f a0 = some r) :
  Calls Try.prog 61 #[.int .i64 a0] w fun e w' => e = .returned (.bool r) ∧ Drawn0 w w' := by
 have H : ((skiffref1_upTo.f a0 0 764).bind fun t166 => (if t166 = true then (some ((Int.tmod a0 4) == 0)) else (some false))) = some r := h
 clear h
 replace H := Option.bind_eq_some_iff.mp H
 obtain ⟨t166, A20, H⟩ := H
 replace H : (if t166 = true then (some ((Int.tmod a0 4) == 0)) else (some false)) = some r := H
 have A2 := Aside0.mk A20
 clear A20
 by_cases c3 : t166 = true
 case neg =>
  replace c3 := Bool.eq_false_iff.mpr c3
  subst c3
  have H1 : (some false) = some r := by rw [if_neg (show ¬ (false = true) by decide)] at H; exact H
  clear H; have H := H1; clear H1
  obtain rfl := Option.some.inj H
  go_enter Try.func61, Try.ntmps61
  go_wp2_with (first | ((with_reducible refine gate_callee (f := 41) rfl ?_); refine goesL_ (some 4) rfl rfl Try.func41 (by kernel_rfl) rfl #[.int .i64 a0, .int .i64 0, .int .i64 764] rfl ka ?_; (with_reducible refine (skiffref1_upTo.calls a0 0 764 false _ A2.out).mono ?_); rintro e w' ⟨rfl, ⟨nd, rfl⟩⟩; refine ⟨_, rfl, ?_⟩))
  go_ret
  exact ⟨by first | rfl | (simp; done) | (simp [*]; done), by repeat (first | exact Drawn0.refl _ | apply Drawn0.step)⟩
 subst c3
 have H1 : (some ((Int.tmod a0 4) == 0)) = some r := by rw [if_pos rfl] at H; exact H
 clear H; have H := H1; clear H1
 obtain rfl := Option.some.inj H
 go_enter Try.func61, Try.ntmps61
 go_wp2_with (first | ((with_reducible refine gate_callee (f := 41) rfl ?_); refine goesL_ (some 4) rfl rfl Try.func41 (by kernel_rfl) rfl #[.int .i64 a0, .int .i64 0, .int .i64 764] rfl ka ?_; (with_reducible refine (skiffref1_upTo.calls a0 0 764 true _ A2.out).mono ?_); rintro e w' ⟨rfl, ⟨nd, rfl⟩⟩; refine ⟨_, rfl, ?_⟩))
 go_ret
 exact ⟨by first | rfl | (simp; done) | (simp [*]; done), by repeat (first | exact Drawn0.refl _ | apply Drawn0.step)⟩

/-! ### skiffref1_OpMay: function 43 -/
def skiffref1_OpMay.f (a0_0 : Bool) (a0_1 : Int) (a0_2 : ByteArray) : Option (Bool) := if a0_0 = true then ((skiffref1_upTo.f a0_1 0 672).bind fun t168 => (if t168 = true then (if (Int.tmod a0_1 96) = 0 then (some (a0_2.toList == ([] : List UInt8))) else (some false)) else (some false))) else ((skiffref1_wordAt.f a0_1).bind fun t169 => (if t169 = true then (some ((a0_2.size : Int) == 4)) else (some false)))
set_option maxHeartbeats 8000000 in
set_option maxRecDepth 100000 in
theorem skiffref1_OpMay.calls (a0_0 : Bool) (a0_1 : Int) (a0_2 : ByteArray) (r : Bool) (w : World) (h : skiffref1_OpMay.f a0_0 a0_1 a0_2 = some r) :
  Calls Try.prog 43 #[.agg #[.bool a0_0, .int .i64 a0_1, .string a0_2]] w fun e w' => e = .returned (.bool r) ∧ Below w.heap.size w w' := by
 have hu40 := Try.underlying40
 have HB := Aside0.mk (Below.refl w.heap.size w)
 have H : (if a0_0 = true then ((skiffref1_upTo.f a0_1 0 672).bind fun t168 => (if t168 = true then (if (Int.tmod a0_1 96) = 0 then (some (a0_2.toList == ([] : List UInt8))) else (some false)) else (some false))) else ((skiffref1_wordAt.f a0_1).bind fun t169 => (if t169 = true then (some ((a0_2.size : Int) == 4)) else (some false)))) = some r := h
 clear h
 by_cases c2 : a0_0 = true
 ·subst c2
  have H1 : ((skiffref1_upTo.f a0_1 0 672).bind fun t168 => (if t168 = true then (if (Int.tmod a0_1 96) = 0 then (some (a0_2.toList == ([] : List UInt8))) else (some false)) else (some false))) = some r := by rw [if_pos rfl] at H; exact H
  clear H; have H := H1; clear H1
  replace H := Option.bind_eq_some_iff.mp H
  obtain ⟨t168, A30, H⟩ := H
  replace H : (if t168 = true then (if (Int.tmod a0_1 96) = 0 then (some (a0_2.toList == ([] : List UInt8))) else (some false)) else (some false)) = some r := H
  have A3 := Aside0.mk A30
  clear A30
  by_cases c4 : t168 = true
  case neg =>
   replace c4 := Bool.eq_false_iff.mpr c4
   subst c4
   have H1 : (some false) = some r := by rw [if_neg (show ¬ (false = true) by decide)] at H; exact H
   clear H; have H := H1; clear H1
   obtain rfl := Option.some.inj H
   go_enter Try.func43, Try.ntmps43
   go_wp2_with (first | ((with_reducible refine gate_dst (N := 1) rfl ?_); (try (refine gate_guard (by rfl) ?_; dsimp only)); refine box_event ?hg (N := 1) ?hd (cs := #[.bool true, .int .i64 a0_1, .string a0_2]) (t := 40) ?hr ?_; (case hd => rfl); (case hg => rfl); (case hr => first | (go_simp; done) | (go_simp; rfl)); intro gb167 hg w10 hbox hb; have n0_ := Aside0.mk (below_step (kb HB.out) hb); have n1_ := Aside0.mk (hbox); have n2_ := Aside0.mk ((kz hg (below_size (kb HB.out)) : w.heap.size ≤ gb167)); have n3_ := Aside0.mk ((kz hg (below_size (kb HB.out)) : w.heap.size ≤ gb167)); clear HB; have HB := n0_; have BK167 := n1_; have GW167 := n2_; have GE167 := n3_; clear n0_ n1_ n2_ n3_; clear hb hbox hg; obtain ⟨hcz11_0, hcz11_1, hcz11_2⟩ := kc3 BK167.out; obtain ⟨hfz11_0, hfz11_1, hfz11_2⟩ := kf3 BK167.out) | ((with_reducible refine gate_callee (f := 41) rfl ?_); refine goesL_ (some 7) rfl rfl Try.func41 (by kernel_rfl) rfl #[.int .i64 a0_1, .int .i64 0, .int .i64 672] rfl ka ?_; (with_reducible refine (skiffref1_upTo.calls a0_1 0 672 false _ A3.out).mono ?_); rintro e w' ⟨rfl, ⟨nd, rfl⟩⟩; refine ⟨_, rfl, ?_⟩))
   go_ret
   exact ⟨by first | rfl | (simp [errW_none, errW_some] <;> rfl) | (simp [*, errW_none, errW_some] <;> rfl), kb1 HB.out GE167.out⟩
  subst c4
  have H1 : (if (Int.tmod a0_1 96) = 0 then (some (a0_2.toList == ([] : List UInt8))) else (some false)) = some r := by rw [if_pos rfl] at H; exact H
  clear H; have H := H1; clear H1
  by_cases c5 : (Int.tmod a0_1 96) = 0
  case neg =>
   rw [if_neg c5] at H
   have c5b0 : ((Int.tmod a0_1 96) == 0) = false := beq_eq_false_iff_ne.mpr c5
   have c5b1 : ((Int.tmod a0_1 96) != 0) = true := bne_iff_ne.mpr c5
   obtain rfl := Option.some.inj H
   go_enter Try.func43, Try.ntmps43
   go_wp2_with (first | ((with_reducible refine gate_dst (N := 1) rfl ?_); (try (refine gate_guard (by rfl) ?_; dsimp only)); refine box_event ?hg (N := 1) ?hd (cs := #[.bool true, .int .i64 a0_1, .string a0_2]) (t := 40) ?hr ?_; (case hd => rfl); (case hg => rfl); (case hr => first | (go_simp; done) | (go_simp; rfl)); intro gb167 hg w8 hbox hb; have n0_ := Aside0.mk (below_step (kb HB.out) hb); have n1_ := Aside0.mk (hbox); have n2_ := Aside0.mk ((kz hg (below_size (kb HB.out)) : w.heap.size ≤ gb167)); have n3_ := Aside0.mk ((kz hg (below_size (kb HB.out)) : w.heap.size ≤ gb167)); clear HB; have HB := n0_; have BK167 := n1_; have GW167 := n2_; have GE167 := n3_; clear n0_ n1_ n2_ n3_; clear hb hbox hg; obtain ⟨hcz9_0, hcz9_1, hcz9_2⟩ := kc3 BK167.out; obtain ⟨hfz9_0, hfz9_1, hfz9_2⟩ := kf3 BK167.out) | ((with_reducible refine gate_callee (f := 41) rfl ?_); refine goesL_ (some 7) rfl rfl Try.func41 (by kernel_rfl) rfl #[.int .i64 a0_1, .int .i64 0, .int .i64 672] rfl ka ?_; (with_reducible refine (skiffref1_upTo.calls a0_1 0 672 true _ A3.out).mono ?_); rintro e w' ⟨rfl, ⟨nd, rfl⟩⟩; refine ⟨_, rfl, ?_⟩))
   go_ret
   exact ⟨by first | rfl | (simp [errW_none, errW_some] <;> rfl) | (simp [*, errW_none, errW_some] <;> rfl), kb1 HB.out GE167.out⟩
  rw [if_pos c5] at H
  have c5b0 : ((Int.tmod a0_1 96) == 0) = true := beq_iff_eq.mpr c5
  have c5b1 : ((Int.tmod a0_1 96) != 0) = false := bne_eq_false_iff_eq.mpr c5
  clear c5
  obtain rfl := Option.some.inj H
  go_enter Try.func43, Try.ntmps43
  go_wp2_with (first | ((with_reducible refine gate_dst (N := 1) rfl ?_); (try (refine gate_guard (by rfl) ?_; dsimp only)); refine box_event ?hg (N := 1) ?hd (cs := #[.bool true, .int .i64 a0_1, .string a0_2]) (t := 40) ?hr ?_; (case hd => rfl); (case hg => rfl); (case hr => first | (go_simp; done) | (go_simp; rfl)); intro gb167 hg w6 hbox hb; have n0_ := Aside0.mk (below_step (kb HB.out) hb); have n1_ := Aside0.mk (hbox); have n2_ := Aside0.mk ((kz hg (below_size (kb HB.out)) : w.heap.size ≤ gb167)); have n3_ := Aside0.mk ((kz hg (below_size (kb HB.out)) : w.heap.size ≤ gb167)); clear HB; have HB := n0_; have BK167 := n1_; have GW167 := n2_; have GE167 := n3_; clear n0_ n1_ n2_ n3_; clear hb hbox hg; obtain ⟨hcz7_0, hcz7_1, hcz7_2⟩ := kc3 BK167.out; obtain ⟨hfz7_0, hfz7_1, hfz7_2⟩ := kf3 BK167.out) | ((with_reducible refine gate_callee (f := 41) rfl ?_); refine goesL_ (some 7) rfl rfl Try.func41 (by kernel_rfl) rfl #[.int .i64 a0_1, .int .i64 0, .int .i64 672] rfl ka ?_; (with_reducible refine (skiffref1_upTo.calls a0_1 0 672 true _ A3.out).mono ?_); rintro e w' ⟨rfl, ⟨nd, rfl⟩⟩; refine ⟨_, rfl, ?_⟩))
  go_ret
  exact ⟨by first | rfl | (simp [errW_none, errW_some] <;> rfl) | (simp [*, errW_none, errW_some] <;> rfl), kb1 HB.out GE167.out⟩
 ·replace c2 := Bool.eq_false_iff.mpr c2
  subst c2
  have H1 : ((skiffref1_wordAt.f a0_1).bind fun t169 => (if t169 = true then (some ((a0_2.size : Int) == 4)) else (some false))) = some r := by rw [if_neg (show ¬ (false = true) by decide)] at H; exact H
  clear H; have H := H1; clear H1
  replace H := Option.bind_eq_some_iff.mp H
  obtain ⟨t169, A120, H⟩ := H
  replace H : (if t169 = true then (some ((a0_2.size : Int) == 4)) else (some false)) = some r := H
  have A12 := Aside0.mk A120
  clear A120
  by_cases c13 : t169 = true
  case neg =>
   replace c13 := Bool.eq_false_iff.mpr c13
   subst c13
   have H1 : (some false) = some r := by rw [if_neg (show ¬ (false = true) by decide)] at H; exact H
   clear H; have H := H1; clear H1
   obtain rfl := Option.some.inj H
   go_enter Try.func43, Try.ntmps43
   go_wp2_with (first | ((with_reducible refine gate_dst (N := 1) rfl ?_); (try (refine gate_guard (by rfl) ?_; dsimp only)); refine box_event ?hg (N := 1) ?hd (cs := #[.bool false, .int .i64 a0_1, .string a0_2]) (t := 40) ?hr ?_; (case hd => rfl); (case hg => rfl); (case hr => first | (go_simp; done) | (go_simp; rfl)); intro gb167 hg w16 hbox hb; have n0_ := Aside0.mk (below_step (kb HB.out) hb); have n1_ := Aside0.mk (hbox); have n2_ := Aside0.mk ((kz hg (below_size (kb HB.out)) : w.heap.size ≤ gb167)); have n3_ := Aside0.mk ((kz hg (below_size (kb HB.out)) : w.heap.size ≤ gb167)); clear HB; have HB := n0_; have BK167 := n1_; have GW167 := n2_; have GE167 := n3_; clear n0_ n1_ n2_ n3_; clear hb hbox hg; obtain ⟨hcz17_0, hcz17_1, hcz17_2⟩ := kc3 BK167.out; obtain ⟨hfz17_0, hfz17_1, hfz17_2⟩ := kf3 BK167.out) | ((with_reducible refine gate_callee (f := 61) rfl ?_); refine goesL_ (some 21) rfl rfl Try.func61 (by kernel_rfl) rfl #[.int .i64 a0_1] rfl ka ?_; (with_reducible refine (skiffref1_wordAt.calls a0_1 false _ A12.out).mono ?_); rintro e w' ⟨rfl, ⟨nd, rfl⟩⟩; refine ⟨_, rfl, ?_⟩))
   go_ret
   exact ⟨by first | rfl | (simp [errW_none, errW_some] <;> rfl) | (simp [*, errW_none, errW_some] <;> rfl), kb1 HB.out GE167.out⟩
  subst c13
  have H1 : (some ((a0_2.size : Int) == 4)) = some r := by rw [if_pos rfl] at H; exact H
  clear H; have H := H1; clear H1
  obtain rfl := Option.some.inj H
  go_enter Try.func43, Try.ntmps43
  go_wp2_with (first | ((with_reducible refine gate_dst (N := 1) rfl ?_); (try (refine gate_guard (by rfl) ?_; dsimp only)); refine box_event ?hg (N := 1) ?hd (cs := #[.bool false, .int .i64 a0_1, .string a0_2]) (t := 40) ?hr ?_; (case hd => rfl); (case hg => rfl); (case hr => first | (go_simp; done) | (go_simp; rfl)); intro gb167 hg w14 hbox hb; have n0_ := Aside0.mk (below_step (kb HB.out) hb); have n1_ := Aside0.mk (hbox); have n2_ := Aside0.mk ((kz hg (below_size (kb HB.out)) : w.heap.size ≤ gb167)); have n3_ := Aside0.mk ((kz hg (below_size (kb HB.out)) : w.heap.size ≤ gb167)); clear HB; have HB := n0_; have BK167 := n1_; have GW167 := n2_; have GE167 := n3_; clear n0_ n1_ n2_ n3_; clear hb hbox hg; obtain ⟨hcz15_0, hcz15_1, hcz15_2⟩ := kc3 BK167.out; obtain ⟨hfz15_0, hfz15_1, hfz15_2⟩ := kf3 BK167.out) | ((with_reducible refine gate_callee (f := 61) rfl ?_); refine goesL_ (some 21) rfl rfl Try.func61 (by kernel_rfl) rfl #[.int .i64 a0_1] rfl ka ?_; (with_reducible refine (skiffref1_wordAt.calls a0_1 true _ A12.out).mono ?_); rintro e w' ⟨rfl, ⟨nd, rfl⟩⟩; refine ⟨_, rfl, ?_⟩))
  go_ret
  exact ⟨by first | rfl | (simp [errW_none, errW_some] <;> rfl) | (simp [*, errW_none, errW_some] <;> rfl), kb1 HB.out GE167.out⟩

/-! ### skiffref1_Worn: function 57 -/
def skiffref1_Worn.f (a0 : ByteArray) (a1 : Int) (a2 : Int) : Option (ByteArray × Int) := some (Skiff.tornPair (Skiff.worn (Skiff.bl a0) a1 a2))
theorem skiffref1_Worn.calls (a0 : ByteArray) (a1 : Int) (a2 : Int) (r1 : ByteArray) (r2 : Int) (w : World) (h : skiffref1_Worn.f a0 a1 a2 = some (r1, r2)) :
  Calls Try.prog 57 #[.string a0, .int .i64 a1, .int .i64 a2] w fun e w' => e = .returned (.tuple #[.string r1, .int .i64 r2]) ∧ Below w.heap.size w w' :=
 Go.Proofs.Ytgoeooghoojdgaa.g_skiffref1_Worn a0 a1 a2 r1 r2 w h

/-! ### skiffref1_Torn: function 58 -/
def skiffref1_Torn.f (a0 : ByteArray) (a1 : Int) (a2 : ByteArray) (a3 : Int) : Option (ByteArray × Int) := some (Skiff.tornPair (Skiff.torn (Skiff.bl a0) a1 (Skiff.bl a2) a3))
theorem skiffref1_Torn.calls (a0 : ByteArray) (a1 : Int) (a2 : ByteArray) (a3 : Int) (r1 : ByteArray) (r2 : Int) (w : World) (h : skiffref1_Torn.f a0 a1 a2 a3 = some (r1, r2)) :
  Calls Try.prog 58 #[.string a0, .int .i64 a1, .string a2, .int .i64 a3] w fun e w' => e = .returned (.tuple #[.string r1, .int .i64 r2]) ∧ Below w.heap.size w w' :=
 Go.Proofs.Ytgoeooghoojdgaa.g_skiffref1_Torn a0 a1 a2 a3 r1 r2 w h

/-! ### skiffref1_Cut: function 37 -/
def skiffref1_Cut.j0 : Nat → ByteArray → Int → Bool → Bool → Int → ByteArray → Option (ByteArray × Int)
 | 0, _, _, _, _, _, _ => none
 | k + 1, x0, x2, x20, x171000, x171001, x171002 => if x20 = true then (some ((⟨#[]⟩ : ByteArray), 300)) else (if x171000 = true then ((skiffref1_Worn.f x0 (wrap64 (Int.tdiv x171001 96)) x2).bind fun bt174 => (some (bt174.1, bt174.2))) else ((skiffref1_Torn.f x0 x171001 x171002 (mn x2 32)).bind fun bt176 => (some (bt176.1, bt176.2))))
def skiffref1_Cut.f (k : Nat) (a0 : ByteArray) (a1_0 : Bool) (a1_1 : Int) (a1_2 : ByteArray) (a2 : Int) : Option (ByteArray × Int) := (skiffref1_FlashMay.f a0).bind fun t171 => (if t171 = true then ((skiffref1_OpMay.f a1_0 a1_1 a1_2).bind fun t172 => (if t172 = true then ((skiffref1_upTo.f a2 0 96).bind fun t173 => (skiffref1_Cut.j0 k a0 a2 (!t173) a1_0 a1_1 a1_2)) else (skiffref1_Cut.j0 k a0 a2 true a1_0 a1_1 a1_2))) else (skiffref1_Cut.j0 k a0 a2 true a1_0 a1_1 a1_2))
set_option maxHeartbeats 8000000 in
set_option maxRecDepth 100000 in
theorem skiffref1_Cut.calls (k : Nat) (a0 : ByteArray) (a1_0 : Bool) (a1_1 : Int) (a1_2 : ByteArray) (a2 : Int) (r1 : ByteArray) (r2 : Int) (w : World) (h : skiffref1_Cut.f k a0 a1_0 a1_1 a1_2 a2 = some (r1, r2)) :
  Calls Try.prog 37 #[.string a0, .agg #[.bool a1_0, .int .i64 a1_1, .string a1_2], .int .i64 a2] w fun e w' => e = .returned (.tuple #[.string r1, .int .i64 r2]) ∧ Below w.heap.size w w' := by
 have hu40 := Try.underlying40
 have HB := Aside0.mk (Below.refl w.heap.size w)
 have H : ((skiffref1_FlashMay.f a0).bind fun t171 => (if t171 = true then ((skiffref1_OpMay.f a1_0 a1_1 a1_2).bind fun t172 => (if t172 = true then ((skiffref1_upTo.f a2 0 96).bind fun t173 => (skiffref1_Cut.j0 k a0 a2 (!t173) a1_0 a1_1 a1_2)) else (skiffref1_Cut.j0 k a0 a2 true a1_0 a1_1 a1_2))) else (skiffref1_Cut.j0 k a0 a2 true a1_0 a1_1 a1_2))) = some (r1, r2) := h
 clear h
 have HC4 := Aside0.mk H
 clear H
 go_enter Try.func37, Try.ntmps37
 go_upto_region 1 with (first | ((with_reducible refine gate_dst (N := 4) rfl ?_); refine box_event ?hg (N := 4) ?hd (cs := #[.bool a1_0, .int .i64 a1_1, .string a1_2]) (t := 40) ?hr ?_; (case hd => rfl); (case hg => rfl); (case hr => first | (go_simp; done) | (go_simp; rfl)); intro gb170 hg w5 hbox hb; have n0_ := Aside0.mk (below_step (kb HB.out) hb); have n1_ := Aside0.mk (hbox); have n2_ := Aside0.mk ((kz hg (below_size (kb HB.out)) : w.heap.size ≤ gb170)); have n3_ := Aside0.mk ((kz hg (below_size (kb HB.out)) : w.heap.size ≤ gb170)); clear HB; have HB := n0_; have BK170 := n1_; have GW170 := n2_; have GE170 := n3_; clear n0_ n1_ n2_ n3_; clear hb hbox hg))
 (try simp only [Act.put, List.setIfInBounds_toArray, List.set_cons_zero, List.set_cons_succ])
 go_cut [20] (fun v20 wc => ∃ (kq : Nat) (x20_3 : Bool), v20 = .bool x20_3 ∧ Aside0 (skiffref1_Cut.j0 kq a0 a2 x20_3 a1_0 a1_1 a1_2 = some (r1, r2)) ∧ Aside0 (kq ≤ k) ∧ Aside0 (wc.heap[gb170]? = some (.cells #[.bool a1_0, .int .i64 a1_1, .string a1_2] 40 (0, 0))) ∧ Aside0 (Below w.heap.size w wc))
 case first =>
  have H := HC4.out
  clear HC4
  replace H := Option.bind_eq_some_iff.mp H
  obtain ⟨t171, A60, H⟩ := H
  replace H : (if t171 = true then ((skiffref1_OpMay.f a1_0 a1_1 a1_2).bind fun t172 => (if t172 = true then ((skiffref1_upTo.f a2 0 96).bind fun t173 => (skiffref1_Cut.j0 k a0 a2 (!t173) a1_0 a1_1 a1_2)) else (skiffref1_Cut.j0 k a0 a2 true a1_0 a1_1 a1_2))) else (skiffref1_Cut.j0 k a0 a2 true a1_0 a1_1 a1_2)) = some (r1, r2) := H
  have A6 := Aside0.mk A60
  clear A60
  by_cases c7 : t171 = true
  case neg =>
   replace c7 := Bool.eq_false_iff.mpr c7
   subst c7
   have H1 : (skiffref1_Cut.j0 k a0 a2 true a1_0 a1_1 a1_2) = some (r1, r2) := by rw [if_neg (show ¬ (false = true) by decide)] at H; exact H
   clear H; have H := H1; clear H1
   have H' := Aside0.mk H
   clear H
   go_wp2_with (first | ((with_reducible refine gate_callee (f := 23) rfl ?_); refine goesL_ (some 9) rfl rfl Try.func23 (by kernel_rfl) rfl #[.string a0] rfl ka ?_; (with_reducible refine (skiffref1_FlashMay.calls a0 false _ A6.out).mono ?_); rintro e w' ⟨rfl, ⟨nd, rfl⟩⟩; refine ⟨_, rfl, ?_⟩))
   go_meet
   case rel => exact ⟨_, (true), (by first | rfl | (simp; done) | (simp [*]; done)), H', ⟨by first | omega | exact Nat.le_refl _⟩, ⟨kB BK170.out⟩, ⟨kb1 HB.out GE170.out⟩⟩
  subst c7
  have H1 : ((skiffref1_OpMay.f a1_0 a1_1 a1_2).bind fun t172 => (if t172 = true then ((skiffref1_upTo.f a2 0 96).bind fun t173 => (skiffref1_Cut.j0 k a0 a2 (!t173) a1_0 a1_1 a1_2)) else (skiffref1_Cut.j0 k a0 a2 true a1_0 a1_1 a1_2))) = some (r1, r2) := by rw [if_pos rfl] at H; exact H
  clear H; have H := H1; clear H1
  replace H := Option.bind_eq_some_iff.mp H
  obtain ⟨t172, A80, H⟩ := H
  replace H : (if t172 = true then ((skiffref1_upTo.f a2 0 96).bind fun t173 => (skiffref1_Cut.j0 k a0 a2 (!t173) a1_0 a1_1 a1_2)) else (skiffref1_Cut.j0 k a0 a2 true a1_0 a1_1 a1_2)) = some (r1, r2) := H
  have A8 := Aside0.mk A80
  clear A80
  by_cases c9 : t172 = true
  case neg =>
   replace c9 := Bool.eq_false_iff.mpr c9
   subst c9
   have H1 : (skiffref1_Cut.j0 k a0 a2 true a1_0 a1_1 a1_2) = some (r1, r2) := by rw [if_neg (show ¬ (false = true) by decide)] at H; exact H
   clear H; have H := H1; clear H1
   have H' := Aside0.mk H
   clear H
   go_wp2_with (first | ((with_reducible refine gate_callee (f := 23) rfl ?_); refine goesL_ (some 9) rfl rfl Try.func23 (by kernel_rfl) rfl #[.string a0] rfl ka ?_; (with_reducible refine (skiffref1_FlashMay.calls a0 true _ A6.out).mono ?_); rintro e w' ⟨rfl, ⟨nd, rfl⟩⟩; refine ⟨_, rfl, ?_⟩; obtain ⟨hcz13_0, hcz13_1, hcz13_2⟩ := kc3 BK170.out; obtain ⟨hfz13_0, hfz13_1, hfz13_2⟩ := kf3 BK170.out) | (go_at_call 43; (with_reducible refine (skiffref1_OpMay.calls a1_0 a1_1 a1_2 false _ A8.out).mono ?_); rintro e w14 ⟨rfl, hb⟩; have n0_ := Aside0.mk (kL BK170.out hb); have n1_ := Aside0.mk (below_step (kb1 HB.out GE170.out) hb); clear BK170; clear HB; have BK170 := n0_; have HB := n1_; clear n0_ n1_; (try clear hb); (try clear hb2); (try clear hk); (try clear hi)))
   go_meet
   case rel => exact ⟨_, (true), (by first | rfl | (simp; done) | (simp [*]; done)), H', ⟨by first | omega | exact Nat.le_refl _⟩, ⟨kB BK170.out⟩, ⟨kb1 HB.out GE170.out⟩⟩
  subst c9
  have H1 : ((skiffref1_upTo.f a2 0 96).bind fun t173 => (skiffref1_Cut.j0 k a0 a2 (!t173) a1_0 a1_1 a1_2)) = some (r1, r2) := by rw [if_pos rfl] at H; exact H
  clear H; have H := H1; clear H1
  replace H := Option.bind_eq_some_iff.mp H
  obtain ⟨t173, A100, H⟩ := H
  replace H : (skiffref1_Cut.j0 k a0 a2 (!t173) a1_0 a1_1 a1_2) = some (r1, r2) := H
  have A10 := Aside0.mk A100
  clear A100
  have H' := Aside0.mk H
  clear H
  go_wp2_with (first | ((with_reducible refine gate_callee (f := 23) rfl ?_); refine goesL_ (some 9) rfl rfl Try.func23 (by kernel_rfl) rfl #[.string a0] rfl ka ?_; (with_reducible refine (skiffref1_FlashMay.calls a0 true _ A6.out).mono ?_); rintro e w' ⟨rfl, ⟨nd, rfl⟩⟩; refine ⟨_, rfl, ?_⟩; obtain ⟨hcz11_0, hcz11_1, hcz11_2⟩ := kc3 BK170.out; obtain ⟨hfz11_0, hfz11_1, hfz11_2⟩ := kf3 BK170.out) | (go_at_call 43; (with_reducible refine (skiffref1_OpMay.calls a1_0 a1_1 a1_2 true _ A8.out).mono ?_); rintro e w12 ⟨rfl, hb⟩; have n0_ := Aside0.mk (kL BK170.out hb); have n1_ := Aside0.mk (below_step (kb1 HB.out GE170.out) hb); clear BK170; clear HB; have BK170 := n0_; have HB := n1_; clear n0_ n1_; (try clear hb); (try clear hb2); (try clear hk); (try clear hi)) | (go_at_call 41; (with_reducible refine (skiffref1_upTo.calls a2 0 96 t173 _ A10.out).mono ?_); rintro e w' ⟨rfl, ⟨nd, rfl⟩⟩))
  go_meet
  case rel => exact ⟨_, (!t173), (by first | rfl | (simp; done) | (simp [*]; done)), H', ⟨by first | omega | exact Nat.le_refl _⟩, ⟨kB BK170.out⟩, ⟨kb1 HB.out GE170.out⟩⟩
 case rest =>
  clear HC4
  try clear c2; try clear p2; try clear c3; try clear c7; try clear c9; try clear hcz11_0; try clear hcz11_1; try clear hcz11_2; try clear hcz13_0; try clear hcz13_1; try clear hcz13_2; try clear hfz11_0; try clear hfz11_1; try clear hfz11_2; try clear hfz13_0; try clear hfz13_1; try clear hfz13_2
  obtain ⟨kq, x20_3, rfl, HA, HJ3, BK170, HB⟩ := hcut
  cases kq with
  | zero => exact absurd HA.out (by simp [skiffref1_Cut.j0])
  | succ kj3 =>
   have H := HA.out
   clear HA
   simp only [skiffref1_Cut.j0] at H
   by_cases c15 : x20_3 = true
   ·subst c15
    have H1 : (some ((⟨#[]⟩ : ByteArray), 300)) = some (r1, r2) := by rw [if_pos rfl] at H; exact H
    clear H; have H := H1; clear H1
    simp only [Option.some.injEq, Prod.mk.injEq] at H
    obtain ⟨rfl, rfl⟩ := H
    go_wp2
    go_ret2
    exact ⟨by first | rfl | (simp [errW_none, errW_some] <;> rfl) | (simp [*, errW_none, errW_some] <;> rfl), kb1 HB.out GE170.out⟩
   ·replace c15 := Bool.eq_false_iff.mpr c15
    subst c15
    have H1 : (if a1_0 = true then ((skiffref1_Worn.f a0 (wrap64 (Int.tdiv a1_1 96)) a2).bind fun bt174 => (some (bt174.1, bt174.2))) else ((skiffref1_Torn.f a0 a1_1 a1_2 (mn a2 32)).bind fun bt176 => (some (bt176.1, bt176.2)))) = some (r1, r2) := by rw [if_neg (show ¬ (false = true) by decide)] at H; exact H
    clear H; have H := H1; clear H1
    by_cases c16 : a1_0 = true
    ·subst c16
     have H1 : ((skiffref1_Worn.f a0 (wrap64 (Int.tdiv a1_1 96)) a2).bind fun bt174 => (some (bt174.1, bt174.2))) = some (r1, r2) := by rw [if_pos rfl] at H; exact H
     clear H; have H := H1; clear H1
     replace H := Option.bind_eq_some_iff.mp H
     obtain ⟨⟨t174, t175⟩, A170, H⟩ := H
     replace H : (some (t174, t175)) = some (r1, r2) := H
     have A17 := Aside0.mk A170
     clear A170
     simp only [Option.some.injEq, Prod.mk.injEq] at H
     obtain ⟨rfl, rfl⟩ := H
     obtain ⟨hcz18_0, hcz18_1, hcz18_2⟩ := kc3 BK170.out
     obtain ⟨hfz18_0, hfz18_1, hfz18_2⟩ := kf3 BK170.out
     go_wp2_with (first | ((with_reducible refine gate_callee (f := 57) rfl ?_); refine goesL_ (some 28) rfl rfl Try.func57 (by kernel_rfl) rfl #[.string a0, .int .i64 (wrap64 (Int.tdiv a1_1 96)), .int .i64 a2] rfl ka ?_; (with_reducible refine (skiffref1_Worn.calls a0 (wrap64 (Int.tdiv a1_1 96)) a2 t174 t175 _ A17.out).mono ?_); rintro e w19 ⟨rfl, hb⟩; refine ⟨_, rfl, ?_⟩; have n0_ := Aside0.mk (kL BK170.out hb); have n1_ := Aside0.mk (below_step (kb1 HB.out GE170.out) hb); clear BK170; clear HB; have BK170 := n0_; have HB := n1_; clear n0_ n1_; (try clear hb); (try clear hb2); (try clear hk); (try clear hi)))
     go_ret2
     exact ⟨by first | rfl | (simp [errW_none, errW_some] <;> rfl) | (simp [*, errW_none, errW_some] <;> rfl), kb1 HB.out GE170.out⟩
    ·replace c16 := Bool.eq_false_iff.mpr c16
     subst c16
     have H1 : ((skiffref1_Torn.f a0 a1_1 a1_2 (mn a2 32)).bind fun bt176 => (some (bt176.1, bt176.2))) = some (r1, r2) := by rw [if_neg (show ¬ (false = true) by decide)] at H; exact H
     clear H; have H := H1; clear H1
     obtain ⟨ji20, hji20⟩ : ∃ j_ : Int, (mn a2 32) = j_ := ⟨_, rfl⟩
     replace H : ((skiffref1_Torn.f a0 a1_1 a1_2 (ji20)).bind fun bt176 => (some (bt176.1, bt176.2))) = some (r1, r2) := by first | (rw [hji20] at H; exact H) | (simp only [hji20] at H ⊢; exact H)
     have hji20_ : (if 32 < a2 then 32 else a2) = ji20 := hji20
     replace H := Option.bind_eq_some_iff.mp H
     obtain ⟨⟨t176, t177⟩, A210, H⟩ := H
     replace H : (some (t176, t177)) = some (r1, r2) := H
     have A21 := Aside0.mk A210
     clear A210
     simp only [Option.some.injEq, Prod.mk.injEq] at H
     obtain ⟨rfl, rfl⟩ := H
     obtain ⟨hcz22_0, hcz22_1, hcz22_2⟩ := kc3 BK170.out
     obtain ⟨hfz22_0, hfz22_1, hfz22_2⟩ := kf3 BK170.out
     go_wp2_with (first | ((with_reducible refine gate_callee (f := 58) rfl ?_); refine goesL_ (some 38) rfl rfl Try.func58 (by kernel_rfl) rfl #[.string a0, .int .i64 a1_1, .string a1_2, .int .i64 ji20] rfl (by (try simp only [List.map_toArray, List.map_cons, List.map_nil]); first | done | (simp only [hji20]; rfl) | rfl | (simp only [List.length_drop, List.length_take]; rfl)) ?_; (with_reducible refine (skiffref1_Torn.calls a0 a1_1 a1_2 ji20 t176 t177 _ A21.out).mono ?_); rintro e w23 ⟨rfl, hb⟩; refine ⟨_, rfl, ?_⟩; have n0_ := Aside0.mk (kL BK170.out hb); have n1_ := Aside0.mk (below_step (kb1 HB.out GE170.out) hb); clear BK170; clear HB; have BK170 := n0_; have HB := n1_; clear n0_ n1_; (try clear hb); (try clear hb2); (try clear hk); (try clear hi)))
     go_ret2
     exact ⟨by first | rfl | (simp [errW_none, errW_some] <;> rfl) | (simp only [← hji20]; first | rfl | (simp [errW_none, errW_some] <;> rfl)) | (simp [*, errW_none, errW_some] <;> rfl), kb1 HB.out GE170.out⟩

/-! ### skiffref1_Do: function 20 -/
def skiffref1_Do.f (k : Nat) (a0 : ByteArray) (a1_0 : Bool) (a1_1 : Int) (a1_2 : ByteArray) : Option (ByteArray × Int) := (skiffref1_Cut.f k a0 a1_0 a1_1 a1_2 96).bind fun bt179 => (some (bt179.1, bt179.2))
set_option maxHeartbeats 8000000 in
set_option maxRecDepth 100000 in
theorem skiffref1_Do.calls (k : Nat) (a0 : ByteArray) (a1_0 : Bool) (a1_1 : Int) (a1_2 : ByteArray) (r1 : ByteArray) (r2 : Int) (w : World) (h : skiffref1_Do.f k a0 a1_0 a1_1 a1_2 = some (r1, r2)) :
  Calls Try.prog 20 #[.string a0, .agg #[.bool a1_0, .int .i64 a1_1, .string a1_2]] w fun e w' => e = .returned (.tuple #[.string r1, .int .i64 r2]) ∧ Below w.heap.size w w' := by
 have hu40 := Try.underlying40
 have HB := Aside0.mk (Below.refl w.heap.size w)
 have H : ((skiffref1_Cut.f k a0 a1_0 a1_1 a1_2 96).bind fun bt179 => (some (bt179.1, bt179.2))) = some (r1, r2) := h
 clear h
 replace H := Option.bind_eq_some_iff.mp H
 obtain ⟨⟨t179, t180⟩, A30, H⟩ := H
 replace H : (some (t179, t180)) = some (r1, r2) := H
 have A3 := Aside0.mk A30
 clear A30
 simp only [Option.some.injEq, Prod.mk.injEq] at H
 obtain ⟨rfl, rfl⟩ := H
 go_enter Try.func20, Try.ntmps20
 go_wp2_with (first | ((with_reducible refine gate_dst (N := 3) rfl ?_); refine box_event ?hg (N := 3) ?hd (cs := #[.bool a1_0, .int .i64 a1_1, .string a1_2]) (t := 40) ?hr ?_; (case hd => rfl); (case hg => rfl); (case hr => first | (go_simp; done) | (go_simp; rfl)); intro gb178 hg w4 hbox hb; have n0_ := Aside0.mk (below_step (kb HB.out) hb); have n1_ := Aside0.mk (hbox); have n2_ := Aside0.mk ((kz hg (below_size (kb HB.out)) : w.heap.size ≤ gb178)); have n3_ := Aside0.mk ((kz hg (below_size (kb HB.out)) : w.heap.size ≤ gb178)); clear HB; have HB := n0_; have BK178 := n1_; have GW178 := n2_; have GE178 := n3_; clear n0_ n1_ n2_ n3_; clear hb hbox hg; obtain ⟨hcz5_0, hcz5_1, hcz5_2⟩ := kc3 BK178.out; obtain ⟨hfz5_0, hfz5_1, hfz5_2⟩ := kf3 BK178.out) | ((with_reducible refine gate_callee (f := 37) rfl ?_); refine goesL_ (some 8) rfl rfl Try.func37 (by kernel_rfl) rfl #[.string a0, .agg #[.bool a1_0, .int .i64 a1_1, .string a1_2], .int .i64 96] rfl ka ?_; (with_reducible refine (skiffref1_Cut.calls k a0 a1_0 a1_1 a1_2 96 t179 t180 _ A3.out).mono ?_); rintro e w6 ⟨rfl, hb⟩; refine ⟨_, rfl, ?_⟩; have n0_ := Aside0.mk (kL BK178.out hb); have n1_ := Aside0.mk (below_step (kb1 HB.out GE178.out) hb); clear BK178; clear HB; have BK178 := n0_; have HB := n1_; clear n0_ n1_; (try clear hb); (try clear hb2); (try clear hk); (try clear hi)))
 go_ret2
 exact ⟨by first | rfl | (simp [errW_none, errW_some] <;> rfl) | (simp [*, errW_none, errW_some] <;> rfl), kb1 HB.out GE178.out⟩

/-! ### skiffref16_upTo: function 36 -/
def skiffref16_upTo.f (a0 : Int) (a1 : Int) (a2 : Int) : Option (Bool) := if a0 ≥ a1 then (some (decide (a0 ≤ a2))) else (some false)
set_option maxHeartbeats 8000000 in
set_option maxRecDepth 100000 in
theorem skiffref16_upTo.calls (a0 : Int) (a1 : Int) (a2 : Int) (r : Bool) (w : World) (h : skiffref16_upTo.f a0 a1 a2 = some r) :
  Calls Try.prog 36 #[.int .i64 a0, .int .i64 a1, .int .i64 a2] w fun e w' => e = .returned (.bool r) ∧ Drawn0 w w' := by
 have H : (if a0 ≥ a1 then (some (decide (a0 ≤ a2))) else (some false)) = some r := h
 clear h
 by_cases c4 : a0 ≥ a1
 case neg =>
  rw [if_neg c4] at H
  have c4b0 : decide (a1 ≤ a0) = false := decide_eq_false c4
  clear c4
  obtain rfl := Option.some.inj H
  go_enter Try.func36, Try.ntmps36
  go_wp2
  go_ret
  exact ⟨by first | rfl | (simp; done) | (simp [*]; done), by repeat (first | exact Drawn0.refl _ | apply Drawn0.step)⟩
 rw [if_pos c4] at H
 have c4b0 : decide (a1 ≤ a0) = true := decide_eq_true c4
 clear c4
 obtain rfl := Option.some.inj H
 go_enter Try.func36, Try.ntmps36
 go_wp2
 go_ret
 exact ⟨by first | rfl | (simp; done) | (simp [*]; done), by repeat (first | exact Drawn0.refl _ | apply Drawn0.step)⟩

/-! ### skiffref1_StateMay: function 44 -/
def skiffref1_StateMay.f (a0 : Int) : Option (Bool) := (skiffref1_upTo.f a0 0 7).bind fun t181 => (some t181)
set_option maxHeartbeats 8000000 in
set_option maxRecDepth 100000 in
theorem skiffref1_StateMay.calls (a0 : Int) (r : Bool) (w : World) (h : skiffref1_StateMay.f a0 = some r) :
  Calls Try.prog 44 #[.int .i64 a0] w fun e w' => e = .returned (.bool r) ∧ Drawn0 w w' := by
 have H : ((skiffref1_upTo.f a0 0 7).bind fun t181 => (some t181)) = some r := h
 clear h
 replace H := Option.bind_eq_some_iff.mp H
 obtain ⟨t181, A20, H⟩ := H
 replace H : (some t181) = some r := H
 have A2 := Aside0.mk A20
 clear A20
 obtain rfl := Option.some.inj H
 go_enter Try.func44, Try.ntmps44
 go_wp2_with (first | ((with_reducible refine gate_callee (f := 41) rfl ?_); refine goesL_ (some 4) rfl rfl Try.func41 (by kernel_rfl) rfl #[.int .i64 a0, .int .i64 0, .int .i64 7] rfl ka ?_; (with_reducible refine (skiffref1_upTo.calls a0 0 7 t181 _ A2.out).mono ?_); rintro e w' ⟨rfl, ⟨nd, rfl⟩⟩; refine ⟨_, rfl, ?_⟩))
 go_ret
 exact ⟨by first | rfl | (simp; done) | (simp [*]; done), by repeat (first | exact Drawn0.refl _ | apply Drawn0.step)⟩

/-! ### skiffref1_StatusMay: function 45 -/
def skiffref1_StatusMay.f (a0 : Int) : Option (Bool) := (skiffref1_upTo.f a0 0 6).bind fun t182 => (some t182)
set_option maxHeartbeats 8000000 in
set_option maxRecDepth 100000 in
theorem skiffref1_StatusMay.calls (a0 : Int) (r : Bool) (w : World) (h : skiffref1_StatusMay.f a0 = some r) :
  Calls Try.prog 45 #[.int .i64 a0] w fun e w' => e = .returned (.bool r) ∧ Drawn0 w w' := by
 have H : ((skiffref1_upTo.f a0 0 6).bind fun t182 => (some t182)) = some r := h
 clear h
 replace H := Option.bind_eq_some_iff.mp H
 obtain ⟨t182, A20, H⟩ := H
 replace H : (some t182) = some r := H
 have A2 := Aside0.mk A20
 clear A20
 obtain rfl := Option.some.inj H
 go_enter Try.func45, Try.ntmps45
 go_wp2_with (first | ((with_reducible refine gate_callee (f := 41) rfl ?_); refine goesL_ (some 4) rfl rfl Try.func41 (by kernel_rfl) rfl #[.int .i64 a0, .int .i64 0, .int .i64 6] rfl ka ?_; (with_reducible refine (skiffref1_upTo.calls a0 0 6 t182 _ A2.out).mono ?_); rintro e w' ⟨rfl, ⟨nd, rfl⟩⟩; refine ⟨_, rfl, ?_⟩))
 go_ret
 exact ⟨by first | rfl | (simp; done) | (simp [*]; done), by repeat (first | exact Drawn0.refl _ | apply Drawn0.step)⟩

/-! ### skiffref16_DeviceMay: function 22 -/
def skiffref16_DeviceMay.l0 : Nat → Int → Int → Int → Int → Int → Int → List (S40) → Option (Bool)
 | 0, _, _, _, _, _, _, _ => none
 | k + 1, x3, x184000, x184001, x184002, x184003, x184004, x184005 => if x3 < (x184005.length : Int) then (if 0 ≤ x3 then ((skiffref1_OpMay.f ((rd_T40 x184005 x3).f0) ((rd_T40 x184005 x3).f1) ((rd_T40 x184005 x3).f2)).bind fun t185 => (if t185 = true then (skiffref16_DeviceMay.l0 k (wrap64 (x3 + 1)) x184000 x184001 x184002 x184003 x184004 x184005) else (some false))) else (none)) else ((skiffref1_StateMay.f x184000).bind fun t186 => (if t186 = true then ((skiffref1_StatusMay.f x184001).bind fun t187 => (if t187 = true then ((skiffref16_upTo.f x184002 0 16).bind fun t188 => (if t188 = true then ((skiffref16_upTo.f x184003 0 288).bind fun t189 => (if t189 = true then ((skiffref16_upTo.f x184004 0 1).bind fun t190 => (if t190 = true then (some (decide ((x184005.length : Int) ≤ 768))) else (some false))) else (some false))) else (some false))) else (some false))) else (some false)))
def skiffref16_DeviceMay.f (k : Nat) (a0_0 : Int) (a0_1 : Int) (a0_2 : Int) (a0_3 : Int) (a0_4 : Int) (l0_5 : List (S40)) : Option (Bool) := skiffref16_DeviceMay.l0 k 0 a0_0 a0_1 a0_2 a0_3 a0_4 l0_5
theorem skiffref16_DeviceMay.mono_l : ∀ k, (∀ y0 y1 y2 y3 y4 y5 y6, LeO (skiffref16_DeviceMay.l0 k y0 y1 y2 y3 y4 y5 y6) (skiffref16_DeviceMay.l0 (k + 1) y0 y1 y2 y3 y4 y5 y6))
 | 0 => fun _ _ _ _ _ _ _ r h => by simp [skiffref16_DeviceMay.l0] at h
 | k + 1 => by
  have ih0 := skiffref16_DeviceMay.mono_l k
  ·intro y0 y1 y2 y3 y4 y5 y6
   unfold skiffref16_DeviceMay.l0
   repeat' first
   | (with_reducible exact ih0 _ _ _ _ _ _ _)
   | (with_reducible exact LeO.refl _)
   | (with_reducible exact LeO.none _)
   | (with_reducible refine LeO.ite ?_ ?_)
   | (with_reducible refine LeO.bind ?_ (fun _ => ?_))
   | exact ih0 _ _ _ _ _ _ _
   | exact LeO.none _
   | refine LeO.ite ?_ ?_
   | refine LeO.bind ?_ (fun _ => ?_)
theorem skiffref16_DeviceMay.mono : ∀ a0 a1 a2 a3 a4 a5 k, LeO (skiffref16_DeviceMay.f k a0 a1 a2 a3 a4 a5) (skiffref16_DeviceMay.f (k + 1) a0 a1 a2 a3 a4 a5) := by
 intro a0 a1 a2 a3 a4 a5 k
 have ih0 := skiffref16_DeviceMay.mono_l k
 unfold skiffref16_DeviceMay.f
 repeat' first
   | (with_reducible exact ih0 _ _ _ _ _ _ _)
   | (with_reducible exact LeO.refl _)
   | (with_reducible exact LeO.none _)
   | (with_reducible refine LeO.ite ?_ ?_)
   | (with_reducible refine LeO.bind ?_ (fun _ => ?_))
   | exact ih0 _ _ _ _ _ _ _
   | exact LeO.none _
   | refine LeO.ite ?_ ?_
   | refine LeO.bind ?_ (fun _ => ?_)
set_option maxHeartbeats 8000000 in
set_option maxRecDepth 100000 in
theorem skiffref16_DeviceMay.calls (k : Nat) (a0_0 : Int) (a0_1 : Int) (a0_2 : Int) (a0_3 : Int) (a0_4 : Int) (A0_5 : Option Addr) (c0_5 : Nat) (l0_5 : List (S40)) (r : Bool) (w : World) (hr0_5 : Kd.C k40 w A0_5 l0_5.length l0_5) (hc0_5 : l0_5.length ≤ c0_5) (h : skiffref16_DeviceMay.f k a0_0 a0_1 a0_2 a0_3 a0_4 l0_5 = some r) :
  Calls Try.prog 22 #[.agg #[.int .i64 a0_0, .int .i64 a0_1, .int .i64 a0_2, .int .i64 a0_3, .int .i64 a0_4, .slice A0_5 l0_5.length c0_5]] w fun e w' => e = .returned (.bool r) ∧ Below w.heap.size w w' := by
 have hu24 := Try.underlying24
 have hu40 := Try.underlying40
 have HR0_5 := Aside0.mk hr0_5
 have HC0_5 := Aside0.mk hc0_5
 clear hr0_5 hc0_5
 have HB := Aside0.mk (Below.refl w.heap.size w)
 have H : (skiffref16_DeviceMay.l0 k 0 a0_0 a0_1 a0_2 a0_3 a0_4 l0_5) = some r := h
 clear h
 have H' := Aside0.mk H
 clear H
 go_enter Try.func22, Try.ntmps22
 go_wp2_with (first | ((with_reducible refine gate_dst (N := 1) rfl ?_); (try (refine gate_guard (by rfl) ?_; dsimp only)); refine box_event ?hg (N := 1) ?hd (cs := #[.int .i64 a0_0, .int .i64 a0_1, .int .i64 a0_2, .int .i64 a0_3, .int .i64 a0_4, .slice A0_5 l0_5.length c0_5]) (t := 24) ?hr ?_; (case hd => rfl); (case hg => rfl); (case hr => first | (go_simp; done) | (go_simp; rfl)); intro gb183 hg w2 hbox hb; have n0_ := Aside0.mk (below_step (kb HB.out) hb); have n1_ := Aside0.mk (hbox); have n2_ := Aside0.mk ((kz hg (below_size (kb HB.out)) : w.heap.size ≤ gb183)); have n3_ := Aside0.mk ((kz hg (below_size (kb HB.out)) : w.heap.size ≤ gb183)); clear HB; have HB := n0_; have BK183 := n1_; have GW183 := n2_; have GE183 := n3_; clear n0_ n1_ n2_ n3_; clear hb hbox hg))
 go_loopg [3] k (fun kq v3 w' => ∃ (x3_1 : Int), v3 = .int .i64 x3_1 ∧ Aside0 (skiffref16_DeviceMay.l0 kq x3_1 a0_0 a0_1 a0_2 a0_3 a0_4 l0_5 = some r) ∧ Aside0 (kq ≤ k) ∧ Aside0 (w'.heap[gb183]? = some (.cells #[.int .i64 a0_0, .int .i64 a0_1, .int .i64 a0_2, .int .i64 a0_3, .int .i64 a0_4, (.slice A0_5 l0_5.length c0_5)] 24 (0, 0))) ∧ Aside0 (Below w.heap.size w w'))
 case atStart => exact ⟨(0), (by first | rfl | (simp; done) | (simp [*]; done)), H', ⟨Nat.le_refl _⟩, ⟨kB BK183.out⟩, ⟨kb1 HB.out GE183.out⟩⟩
 case round =>
  clear H'
  try clear c2; try clear p2
  obtain ⟨x3_1, rfl, HA, HK1, BK183, HB⟩ := hrel
  cases gk with
  | zero => exact absurd HA.out (by simp [skiffref16_DeviceMay.l0])
  | succ k1 =>
   have H := HA.out
   clear HA
   simp only [skiffref16_DeviceMay.l0] at H
   by_cases c3 : x3_1 < (l0_5.length : Int)
   ·rw [if_pos c3] at H
    have c3b0 : decide (x3_1 < (l0_5.length : Int)) = true := decide_eq_true c3
    clear c3
    by_cases c4 : 0 ≤ x3_1
    case neg =>
     rw [if_neg c4] at H
     exact absurd H (by simp)
    rw [if_pos c4] at H
    have c4b0 : decide (0 ≤ x3_1) = true := decide_eq_true c4
    clear c4
    replace H := Option.bind_eq_some_iff.mp H
    obtain ⟨t185, A50, H⟩ := H
    replace H : (if t185 = true then (skiffref16_DeviceMay.l0 k1 (wrap64 (x3_1 + 1)) a0_0 a0_1 a0_2 a0_3 a0_4 l0_5) else (some false)) = some r := H
    have A5 := Aside0.mk A50
    clear A50
    by_cases c6 : t185 = true
    ·subst c6
     have H1 : (skiffref16_DeviceMay.l0 k1 (wrap64 (x3_1 + 1)) a0_0 a0_1 a0_2 a0_3 a0_4 l0_5) = some r := by rw [if_pos rfl] at H; exact H
     clear H; have H := H1; clear H1
     have H' := Aside0.mk H
     clear H
     obtain ⟨hcz7_0, hcz7_1, hcz7_2, hcz7_3, hcz7_4, hcz7_5⟩ := kc6 BK183.out
     obtain ⟨hfz7_0, hfz7_1, hfz7_2, hfz7_3, hfz7_4, hfz7_5⟩ := kf6 BK183.out
     have p184 : 0 ≤ (x3_1 : Int) := of_decide_eq_true (by first | (with_reducible assumption) | assumption)
     have q184 : x3_1 < (l0_5.length : Int) := of_decide_eq_true (by first | (with_reducible assumption) | assumption)
     obtain ⟨ad184, e184, hx184_0, hx184_1, hx184_2⟩ := at_T40 HR0_5.out x3_1 p184 q184
     cases e184
     replace hx184_0 := (HB.out.cell (World.block_lt_of_cell? w _ hx184_0)).trans hx184_0
     replace hx184_1 := (HB.out.cell (World.block_lt_of_cell? w _ hx184_1)).trans hx184_1
     replace hx184_2 := (HB.out.cell (World.block_lt_of_cell? w _ hx184_2)).trans hx184_2
     replace p184 := eq_true p184
     replace q184 := eq_true q184
     go_wp2_with (first | ((with_reducible refine gate_callee (f := 43) rfl ?_); refine goesL_ (some 16) rfl rfl Try.func43 (by kernel_rfl) rfl #[.agg #[.bool ((rd_T40 l0_5 x3_1).f0), .int .i64 ((rd_T40 l0_5 x3_1).f1), .string ((rd_T40 l0_5 x3_1).f2)]] rfl ka ?_; (with_reducible refine (skiffref1_OpMay.calls ((rd_T40 l0_5 x3_1).f0) ((rd_T40 l0_5 x3_1).f1) ((rd_T40 l0_5 x3_1).f2) true _ A5.out).mono ?_); rintro e w8 ⟨rfl, hb⟩; refine ⟨_, rfl, ?_⟩; have n0_ := Aside0.mk (kL BK183.out hb); have n1_ := Aside0.mk (below_step (kb1 HB.out GE183.out) hb); clear BK183; clear HB; have BK183 := n0_; have HB := n1_; clear n0_ n1_; (try clear hb); (try clear hb2); (try clear hk); (try clear hi)))
     go_roundg k1
     case measure => have := HK1.out; omega
     case rel => exact ⟨(wrap64 (x3_1 + 1)), (by first | rfl | (simp; done) | (simp [*]; done)), H', ⟨by have := HK1.out; omega⟩, ⟨kB BK183.out⟩, ⟨kb1 HB.out GE183.out⟩⟩
    ·replace c6 := Bool.eq_false_iff.mpr c6
     subst c6
     have H1 : (some false) = some r := by rw [if_neg (show ¬ (false = true) by decide)] at H; exact H
     clear H; have H := H1; clear H1
     obtain rfl := Option.some.inj H
     obtain ⟨hcz9_0, hcz9_1, hcz9_2, hcz9_3, hcz9_4, hcz9_5⟩ := kc6 BK183.out
     obtain ⟨hfz9_0, hfz9_1, hfz9_2, hfz9_3, hfz9_4, hfz9_5⟩ := kf6 BK183.out
     have p184 : 0 ≤ (x3_1 : Int) := of_decide_eq_true (by first | (with_reducible assumption) | assumption)
     have q184 : x3_1 < (l0_5.length : Int) := of_decide_eq_true (by first | (with_reducible assumption) | assumption)
     obtain ⟨ad184, e184, hx184_0, hx184_1, hx184_2⟩ := at_T40 HR0_5.out x3_1 p184 q184
     cases e184
     replace hx184_0 := (HB.out.cell (World.block_lt_of_cell? w _ hx184_0)).trans hx184_0
     replace hx184_1 := (HB.out.cell (World.block_lt_of_cell? w _ hx184_1)).trans hx184_1
     replace hx184_2 := (HB.out.cell (World.block_lt_of_cell? w _ hx184_2)).trans hx184_2
     replace p184 := eq_true p184
     replace q184 := eq_true q184
     go_wp2_with (first | ((with_reducible refine gate_callee (f := 43) rfl ?_); refine goesL_ (some 16) rfl rfl Try.func43 (by kernel_rfl) rfl #[.agg #[.bool ((rd_T40 l0_5 x3_1).f0), .int .i64 ((rd_T40 l0_5 x3_1).f1), .string ((rd_T40 l0_5 x3_1).f2)]] rfl ka ?_; (with_reducible refine (skiffref1_OpMay.calls ((rd_T40 l0_5 x3_1).f0) ((rd_T40 l0_5 x3_1).f1) ((rd_T40 l0_5 x3_1).f2) false _ A5.out).mono ?_); rintro e w10 ⟨rfl, hb⟩; refine ⟨_, rfl, ?_⟩; have n0_ := Aside0.mk (kL BK183.out hb); have n1_ := Aside0.mk (below_step (kb1 HB.out GE183.out) hb); clear BK183; clear HB; have BK183 := n0_; have HB := n1_; clear n0_ n1_; (try clear hb); (try clear hb2); (try clear hk); (try clear hi)))
     go_ret
     exact ⟨by first | rfl | (simp [errW_none, errW_some] <;> rfl) | (simp [*, errW_none, errW_some] <;> rfl), kb1 HB.out GE183.out⟩
   ·rw [if_neg c3] at H
    have c3b0 : decide (x3_1 < (l0_5.length : Int)) = false := decide_eq_false c3
    clear c3
    replace H := Option.bind_eq_some_iff.mp H
    obtain ⟨t186, A110, H⟩ := H
    replace H : (if t186 = true then ((skiffref1_StatusMay.f a0_1).bind fun t187 => (if t187 = true then ((skiffref16_upTo.f a0_2 0 16).bind fun t188 => (if t188 = true then ((skiffref16_upTo.f a0_3 0 288).bind fun t189 => (if t189 = true then ((skiffref16_upTo.f a0_4 0 1).bind fun t190 => (if t190 = true then (some (decide ((l0_5.length : Int) ≤ 768))) else (some false))) else (some false))) else (some false))) else (some false))) else (some false)) = some r := H
    have A11 := Aside0.mk A110
    clear A110
    by_cases c12 : t186 = true
    ·subst c12
     have H1 : ((skiffref1_StatusMay.f a0_1).bind fun t187 => (if t187 = true then ((skiffref16_upTo.f a0_2 0 16).bind fun t188 => (if t188 = true then ((skiffref16_upTo.f a0_3 0 288).bind fun t189 => (if t189 = true then ((skiffref16_upTo.f a0_4 0 1).bind fun t190 => (if t190 = true then (some (decide ((l0_5.length : Int) ≤ 768))) else (some false))) else (some false))) else (some false))) else (some false))) = some r := by rw [if_pos rfl] at H; exact H
     clear H; have H := H1; clear H1
     replace H := Option.bind_eq_some_iff.mp H
     obtain ⟨t187, A130, H⟩ := H
     replace H : (if t187 = true then ((skiffref16_upTo.f a0_2 0 16).bind fun t188 => (if t188 = true then ((skiffref16_upTo.f a0_3 0 288).bind fun t189 => (if t189 = true then ((skiffref16_upTo.f a0_4 0 1).bind fun t190 => (if t190 = true then (some (decide ((l0_5.length : Int) ≤ 768))) else (some false))) else (some false))) else (some false))) else (some false)) = some r := H
     have A13 := Aside0.mk A130
     clear A130
     by_cases c14 : t187 = true
     ·subst c14
      have H1 : ((skiffref16_upTo.f a0_2 0 16).bind fun t188 => (if t188 = true then ((skiffref16_upTo.f a0_3 0 288).bind fun t189 => (if t189 = true then ((skiffref16_upTo.f a0_4 0 1).bind fun t190 => (if t190 = true then (some (decide ((l0_5.length : Int) ≤ 768))) else (some false))) else (some false))) else (some false))) = some r := by rw [if_pos rfl] at H; exact H
      clear H; have H := H1; clear H1
      replace H := Option.bind_eq_some_iff.mp H
      obtain ⟨t188, A150, H⟩ := H
      replace H : (if t188 = true then ((skiffref16_upTo.f a0_3 0 288).bind fun t189 => (if t189 = true then ((skiffref16_upTo.f a0_4 0 1).bind fun t190 => (if t190 = true then (some (decide ((l0_5.length : Int) ≤ 768))) else (some false))) else (some false))) else (some false)) = some r := H
      have A15 := Aside0.mk A150
      clear A150
      by_cases c16 : t188 = true
      ·subst c16
       have H1 : ((skiffref16_upTo.f a0_3 0 288).bind fun t189 => (if t189 = true then ((skiffref16_upTo.f a0_4 0 1).bind fun t190 => (if t190 = true then (some (decide ((l0_5.length : Int) ≤ 768))) else (some false))) else (some false))) = some r := by rw [if_pos rfl] at H; exact H
       clear H; have H := H1; clear H1
       replace H := Option.bind_eq_some_iff.mp H
       obtain ⟨t189, A170, H⟩ := H
       replace H : (if t189 = true then ((skiffref16_upTo.f a0_4 0 1).bind fun t190 => (if t190 = true then (some (decide ((l0_5.length : Int) ≤ 768))) else (some false))) else (some false)) = some r := H
       have A17 := Aside0.mk A170
       clear A170
       by_cases c18 : t189 = true
       ·subst c18
        have H1 : ((skiffref16_upTo.f a0_4 0 1).bind fun t190 => (if t190 = true then (some (decide ((l0_5.length : Int) ≤ 768))) else (some false))) = some r := by rw [if_pos rfl] at H; exact H
        clear H; have H := H1; clear H1
        replace H := Option.bind_eq_some_iff.mp H
        obtain ⟨t190, A190, H⟩ := H
        replace H : (if t190 = true then (some (decide ((l0_5.length : Int) ≤ 768))) else (some false)) = some r := H
        have A19 := Aside0.mk A190
        clear A190
        by_cases c20 : t190 = true
        ·subst c20
         have H1 : (some (decide ((l0_5.length : Int) ≤ 768))) = some r := by rw [if_pos rfl] at H; exact H
         clear H; have H := H1; clear H1
         obtain rfl := Option.some.inj H
         obtain ⟨hcz21_0, hcz21_1, hcz21_2, hcz21_3, hcz21_4, hcz21_5⟩ := kc6 BK183.out
         obtain ⟨hfz21_0, hfz21_1, hfz21_2, hfz21_3, hfz21_4, hfz21_5⟩ := kf6 BK183.out
         go_wp2_with (first | ((with_reducible refine gate_callee (f := 44) rfl ?_); refine goesL_ (some 20) rfl rfl Try.func44 (by kernel_rfl) rfl #[.int .i64 a0_0] rfl ka ?_; (with_reducible refine (skiffref1_StateMay.calls a0_0 true _ A11.out).mono ?_); rintro e w' ⟨rfl, ⟨nd, rfl⟩⟩; refine ⟨_, rfl, ?_⟩) | (go_at_call 45; (with_reducible refine (skiffref1_StatusMay.calls a0_1 true _ A13.out).mono ?_); rintro e w' ⟨rfl, ⟨nd, rfl⟩⟩) | (go_at_call 36; (with_reducible refine (skiffref16_upTo.calls a0_2 0 16 true _ A15.out).mono ?_); rintro e w' ⟨rfl, ⟨nd, rfl⟩⟩) | (go_at_call 36; (with_reducible refine (skiffref16_upTo.calls a0_3 0 288 true _ A17.out).mono ?_); rintro e w' ⟨rfl, ⟨nd, rfl⟩⟩) | (go_at_call 36; (with_reducible refine (skiffref16_upTo.calls a0_4 0 1 true _ A19.out).mono ?_); rintro e w' ⟨rfl, ⟨nd, rfl⟩⟩))
         go_ret
         exact ⟨by first | rfl | (simp [errW_none, errW_some] <;> rfl) | (simp [*, errW_none, errW_some] <;> rfl), kb1 HB.out GE183.out⟩
        ·replace c20 := Bool.eq_false_iff.mpr c20
         subst c20
         have H1 : (some false) = some r := by rw [if_neg (show ¬ (false = true) by decide)] at H; exact H
         clear H; have H := H1; clear H1
         obtain rfl := Option.some.inj H
         obtain ⟨hcz22_0, hcz22_1, hcz22_2, hcz22_3, hcz22_4, hcz22_5⟩ := kc6 BK183.out
         obtain ⟨hfz22_0, hfz22_1, hfz22_2, hfz22_3, hfz22_4, hfz22_5⟩ := kf6 BK183.out
         go_wp2_with (first | ((with_reducible refine gate_callee (f := 44) rfl ?_); refine goesL_ (some 20) rfl rfl Try.func44 (by kernel_rfl) rfl #[.int .i64 a0_0] rfl ka ?_; (with_reducible refine (skiffref1_StateMay.calls a0_0 true _ A11.out).mono ?_); rintro e w' ⟨rfl, ⟨nd, rfl⟩⟩; refine ⟨_, rfl, ?_⟩) | (go_at_call 45; (with_reducible refine (skiffref1_StatusMay.calls a0_1 true _ A13.out).mono ?_); rintro e w' ⟨rfl, ⟨nd, rfl⟩⟩) | (go_at_call 36; (with_reducible refine (skiffref16_upTo.calls a0_2 0 16 true _ A15.out).mono ?_); rintro e w' ⟨rfl, ⟨nd, rfl⟩⟩) | (go_at_call 36; (with_reducible refine (skiffref16_upTo.calls a0_3 0 288 true _ A17.out).mono ?_); rintro e w' ⟨rfl, ⟨nd, rfl⟩⟩) | (go_at_call 36; (with_reducible refine (skiffref16_upTo.calls a0_4 0 1 false _ A19.out).mono ?_); rintro e w' ⟨rfl, ⟨nd, rfl⟩⟩))
         go_ret
         exact ⟨by first | rfl | (simp [errW_none, errW_some] <;> rfl) | (simp [*, errW_none, errW_some] <;> rfl), kb1 HB.out GE183.out⟩
       ·replace c18 := Bool.eq_false_iff.mpr c18
        subst c18
        have H1 : (some false) = some r := by rw [if_neg (show ¬ (false = true) by decide)] at H; exact H
        clear H; have H := H1; clear H1
        obtain rfl := Option.some.inj H
        obtain ⟨hcz23_0, hcz23_1, hcz23_2, hcz23_3, hcz23_4, hcz23_5⟩ := kc6 BK183.out
        obtain ⟨hfz23_0, hfz23_1, hfz23_2, hfz23_3, hfz23_4, hfz23_5⟩ := kf6 BK183.out
        go_wp2_with (first | ((with_reducible refine gate_callee (f := 44) rfl ?_); refine goesL_ (some 20) rfl rfl Try.func44 (by kernel_rfl) rfl #[.int .i64 a0_0] rfl ka ?_; (with_reducible refine (skiffref1_StateMay.calls a0_0 true _ A11.out).mono ?_); rintro e w' ⟨rfl, ⟨nd, rfl⟩⟩; refine ⟨_, rfl, ?_⟩) | (go_at_call 45; (with_reducible refine (skiffref1_StatusMay.calls a0_1 true _ A13.out).mono ?_); rintro e w' ⟨rfl, ⟨nd, rfl⟩⟩) | (go_at_call 36; (with_reducible refine (skiffref16_upTo.calls a0_2 0 16 true _ A15.out).mono ?_); rintro e w' ⟨rfl, ⟨nd, rfl⟩⟩) | (go_at_call 36; (with_reducible refine (skiffref16_upTo.calls a0_3 0 288 false _ A17.out).mono ?_); rintro e w' ⟨rfl, ⟨nd, rfl⟩⟩))
        go_ret
        exact ⟨by first | rfl | (simp [errW_none, errW_some] <;> rfl) | (simp [*, errW_none, errW_some] <;> rfl), kb1 HB.out GE183.out⟩
      ·replace c16 := Bool.eq_false_iff.mpr c16
       subst c16
       have H1 : (some false) = some r := by rw [if_neg (show ¬ (false = true) by decide)] at H; exact H
       clear H; have H := H1; clear H1
       obtain rfl := Option.some.inj H
       obtain ⟨hcz24_0, hcz24_1, hcz24_2, hcz24_3, hcz24_4, hcz24_5⟩ := kc6 BK183.out
       obtain ⟨hfz24_0, hfz24_1, hfz24_2, hfz24_3, hfz24_4, hfz24_5⟩ := kf6 BK183.out
       go_wp2_with (first | ((with_reducible refine gate_callee (f := 44) rfl ?_); refine goesL_ (some 20) rfl rfl Try.func44 (by kernel_rfl) rfl #[.int .i64 a0_0] rfl ka ?_; (with_reducible refine (skiffref1_StateMay.calls a0_0 true _ A11.out).mono ?_); rintro e w' ⟨rfl, ⟨nd, rfl⟩⟩; refine ⟨_, rfl, ?_⟩) | (go_at_call 45; (with_reducible refine (skiffref1_StatusMay.calls a0_1 true _ A13.out).mono ?_); rintro e w' ⟨rfl, ⟨nd, rfl⟩⟩) | (go_at_call 36; (with_reducible refine (skiffref16_upTo.calls a0_2 0 16 false _ A15.out).mono ?_); rintro e w' ⟨rfl, ⟨nd, rfl⟩⟩))
       go_ret
       exact ⟨by first | rfl | (simp [errW_none, errW_some] <;> rfl) | (simp [*, errW_none, errW_some] <;> rfl), kb1 HB.out GE183.out⟩
     ·replace c14 := Bool.eq_false_iff.mpr c14
      subst c14
      have H1 : (some false) = some r := by rw [if_neg (show ¬ (false = true) by decide)] at H; exact H
      clear H; have H := H1; clear H1
      obtain rfl := Option.some.inj H
      obtain ⟨hcz25_0, hcz25_1, hcz25_2, hcz25_3, hcz25_4, hcz25_5⟩ := kc6 BK183.out
      obtain ⟨hfz25_0, hfz25_1, hfz25_2, hfz25_3, hfz25_4, hfz25_5⟩ := kf6 BK183.out
      go_wp2_with (first | ((with_reducible refine gate_callee (f := 44) rfl ?_); refine goesL_ (some 20) rfl rfl Try.func44 (by kernel_rfl) rfl #[.int .i64 a0_0] rfl ka ?_; (with_reducible refine (skiffref1_StateMay.calls a0_0 true _ A11.out).mono ?_); rintro e w' ⟨rfl, ⟨nd, rfl⟩⟩; refine ⟨_, rfl, ?_⟩) | (go_at_call 45; (with_reducible refine (skiffref1_StatusMay.calls a0_1 false _ A13.out).mono ?_); rintro e w' ⟨rfl, ⟨nd, rfl⟩⟩))
      go_ret
      exact ⟨by first | rfl | (simp [errW_none, errW_some] <;> rfl) | (simp [*, errW_none, errW_some] <;> rfl), kb1 HB.out GE183.out⟩
    ·replace c12 := Bool.eq_false_iff.mpr c12
     subst c12
     have H1 : (some false) = some r := by rw [if_neg (show ¬ (false = true) by decide)] at H; exact H
     clear H; have H := H1; clear H1
     obtain rfl := Option.some.inj H
     obtain ⟨hcz26_0, hcz26_1, hcz26_2, hcz26_3, hcz26_4, hcz26_5⟩ := kc6 BK183.out
     obtain ⟨hfz26_0, hfz26_1, hfz26_2, hfz26_3, hfz26_4, hfz26_5⟩ := kf6 BK183.out
     go_wp2_with (first | ((with_reducible refine gate_callee (f := 44) rfl ?_); refine goesL_ (some 20) rfl rfl Try.func44 (by kernel_rfl) rfl #[.int .i64 a0_0] rfl ka ?_; (with_reducible refine (skiffref1_StateMay.calls a0_0 false _ A11.out).mono ?_); rintro e w' ⟨rfl, ⟨nd, rfl⟩⟩; refine ⟨_, rfl, ?_⟩))
     go_ret
     exact ⟨by first | rfl | (simp [errW_none, errW_some] <;> rfl) | (simp [*, errW_none, errW_some] <;> rfl), kb1 HB.out GE183.out⟩

/-! ### skiffref16_both: function 31 -/
def skiffref16_both.f (k : Nat) (a0 : ByteArray) (a1_0 : Int) (a1_1 : Int) (a1_2 : Int) (a1_3 : Int) (a1_4 : Int) (l1_5 : List (S40)) : Option (Bool) := (skiffref1_FlashMay.f a0).bind fun t192 => (if t192 = true then ((skiffref16_DeviceMay.f k a1_0 a1_1 a1_2 a1_3 a1_4 l1_5).bind fun t193 => (some t193)) else (some false))
theorem skiffref16_both.mono : ∀ a0 a1 a2 a3 a4 a5 a6 k, LeO (skiffref16_both.f k a0 a1 a2 a3 a4 a5 a6) (skiffref16_both.f (k + 1) a0 a1 a2 a3 a4 a5 a6) := by
 intro a0 a1 a2 a3 a4 a5 a6 k
 unfold skiffref16_both.f
 repeat' first
   | (with_reducible exact skiffref16_DeviceMay.mono _ _ _ _ _ _ _)
   | (with_reducible exact LeO.refl _)
   | (with_reducible exact LeO.none _)
   | (with_reducible refine LeO.ite ?_ ?_)
   | (with_reducible refine LeO.bind ?_ (fun _ => ?_))
   | exact skiffref16_DeviceMay.mono _ _ _ _ _ _ _
   | exact LeO.none _
   | refine LeO.ite ?_ ?_
   | refine LeO.bind ?_ (fun _ => ?_)
set_option maxHeartbeats 8000000 in
set_option maxRecDepth 100000 in
theorem skiffref16_both.calls (k : Nat) (a0 : ByteArray) (a1_0 : Int) (a1_1 : Int) (a1_2 : Int) (a1_3 : Int) (a1_4 : Int) (A1_5 : Option Addr) (c1_5 : Nat) (l1_5 : List (S40)) (r : Bool) (w : World) (hr1_5 : Kd.C k40 w A1_5 l1_5.length l1_5) (hc1_5 : l1_5.length ≤ c1_5) (h : skiffref16_both.f k a0 a1_0 a1_1 a1_2 a1_3 a1_4 l1_5 = some r) :
  Calls Try.prog 31 #[.string a0, .agg #[.int .i64 a1_0, .int .i64 a1_1, .int .i64 a1_2, .int .i64 a1_3, .int .i64 a1_4, .slice A1_5 l1_5.length c1_5]] w fun e w' => e = .returned (.bool r) ∧ Below w.heap.size w w' := by
 have hu24 := Try.underlying24
 have HR1_5 := Aside0.mk hr1_5
 have HC1_5 := Aside0.mk hc1_5
 clear hr1_5 hc1_5
 have HB := Aside0.mk (Below.refl w.heap.size w)
 have H : ((skiffref1_FlashMay.f a0).bind fun t192 => (if t192 = true then ((skiffref16_DeviceMay.f k a1_0 a1_1 a1_2 a1_3 a1_4 l1_5).bind fun t193 => (some t193)) else (some false))) = some r := h
 clear h
 replace H := Option.bind_eq_some_iff.mp H
 obtain ⟨t192, A30, H⟩ := H
 replace H : (if t192 = true then ((skiffref16_DeviceMay.f k a1_0 a1_1 a1_2 a1_3 a1_4 l1_5).bind fun t193 => (some t193)) else (some false)) = some r := H
 have A3 := Aside0.mk A30
 clear A30
 by_cases c4 : t192 = true
 case neg =>
  replace c4 := Bool.eq_false_iff.mpr c4
  subst c4
  have H1 : (some false) = some r := by rw [if_neg (show ¬ (false = true) by decide)] at H; exact H
  clear H; have H := H1; clear H1
  obtain rfl := Option.some.inj H
  go_enter Try.func31, Try.ntmps31
  go_wp2_with (first | ((with_reducible refine gate_dst (N := 3) rfl ?_); refine box_event ?hg (N := 3) ?hd (cs := #[.int .i64 a1_0, .int .i64 a1_1, .int .i64 a1_2, .int .i64 a1_3, .int .i64 a1_4, .slice A1_5 l1_5.length c1_5]) (t := 24) ?hr ?_; (case hd => rfl); (case hg => rfl); (case hr => first | (go_simp; done) | (go_simp; rfl)); intro gb191 hg w9 hbox hb; have n0_ := Aside0.mk (below_step (kb HB.out) hb); have n1_ := Aside0.mk (hbox); have n2_ := Aside0.mk ((kz hg (below_size (kb HB.out)) : w.heap.size ≤ gb191)); have n3_ := Aside0.mk ((kz hg (below_size (kb HB.out)) : w.heap.size ≤ gb191)); clear HB; have HB := n0_; have BK191 := n1_; have GW191 := n2_; have GE191 := n3_; clear n0_ n1_ n2_ n3_; clear hb hbox hg) | ((with_reducible refine gate_callee (f := 23) rfl ?_); refine goesL_ (some 6) rfl rfl Try.func23 (by kernel_rfl) rfl #[.string a0] rfl ka ?_; (with_reducible refine (skiffref1_FlashMay.calls a0 false _ A3.out).mono ?_); rintro e w' ⟨rfl, ⟨nd, rfl⟩⟩; refine ⟨_, rfl, ?_⟩))
  go_ret
  exact ⟨by first | rfl | (simp [errW_none, errW_some] <;> rfl) | (simp [*, errW_none, errW_some] <;> rfl), kb1 HB.out GE191.out⟩
 subst c4
 have H1 : ((skiffref16_DeviceMay.f k a1_0 a1_1 a1_2 a1_3 a1_4 l1_5).bind fun t193 => (some t193)) = some r := by rw [if_pos rfl] at H; exact H
 clear H; have H := H1; clear H1
 replace H := Option.bind_eq_some_iff.mp H
 obtain ⟨t193, A50, H⟩ := H
 replace H : (some t193) = some r := H
 have A5 := Aside0.mk A50
 clear A50
 obtain rfl := Option.some.inj H
 go_enter Try.func31, Try.ntmps31
 go_wp2_with (first | ((with_reducible refine gate_dst (N := 3) rfl ?_); refine box_event ?hg (N := 3) ?hd (cs := #[.int .i64 a1_0, .int .i64 a1_1, .int .i64 a1_2, .int .i64 a1_3, .int .i64 a1_4, .slice A1_5 l1_5.length c1_5]) (t := 24) ?hr ?_; (case hd => rfl); (case hg => rfl); (case hr => first | (go_simp; done) | (go_simp; rfl)); intro gb191 hg w6 hbox hb; have n0_ := Aside0.mk (below_step (kb HB.out) hb); have n1_ := Aside0.mk (hbox); have n2_ := Aside0.mk ((kz hg (below_size (kb HB.out)) : w.heap.size ≤ gb191)); have n3_ := Aside0.mk ((kz hg (below_size (kb HB.out)) : w.heap.size ≤ gb191)); clear HB; have HB := n0_; have BK191 := n1_; have GW191 := n2_; have GE191 := n3_; clear n0_ n1_ n2_ n3_; clear hb hbox hg) | ((with_reducible refine gate_callee (f := 23) rfl ?_); refine goesL_ (some 6) rfl rfl Try.func23 (by kernel_rfl) rfl #[.string a0] rfl ka ?_; (with_reducible refine (skiffref1_FlashMay.calls a0 true _ A3.out).mono ?_); rintro e w' ⟨rfl, ⟨nd, rfl⟩⟩; refine ⟨_, rfl, ?_⟩; obtain ⟨hcz7_0, hcz7_1, hcz7_2, hcz7_3, hcz7_4, hcz7_5⟩ := kc6 BK191.out; obtain ⟨hfz7_0, hfz7_1, hfz7_2, hfz7_3, hfz7_4, hfz7_5⟩ := kf6 BK191.out) | (go_at_call 22; (with_reducible refine (skiffref16_DeviceMay.calls k a1_0 a1_1 a1_2 a1_3 a1_4 _ _ l1_5 t193 _ ?side1 ?side2 A5.out).mono ?_); (case side1 => repeat (first | exact (Kd.C_below HR1_5.out (kb1 HB.out GE191.out)) | (with_reducible refine Kd.C_alloc ?_ _) | (with_reducible refine Kd.C_drewN ?_ _) | (with_reducible refine Kd.C_drew ?_))); (case side2 => exact HC1_5.out); rintro e w8 ⟨rfl, hb⟩; have n0_ := Aside0.mk (kL BK191.out hb); have n1_ := Aside0.mk (below_step (kb1 HB.out GE191.out) hb); clear BK191; clear HB; have BK191 := n0_; have HB := n1_; clear n0_ n1_; (try clear hb); (try clear hb2); (try clear hk); (try clear hi)))
 go_ret
 exact ⟨by first | rfl | (simp [errW_none, errW_some] <;> rfl) | (simp [*, errW_none, errW_some] <;> rfl), kb1 HB.out GE191.out⟩

/-! ### skiffref16_copyDevice: function 32 -/
def skiffref16_copyDevice.f (a0_0 : Int) (a0_1 : Int) (a0_2 : Int) (a0_3 : Int) (a0_4 : Int) (l0_5 : List (S40)) : Option (Int × Int × Int × Int × Int × (List (S40))) := (some (([] : List (S40)) : List (S40))).bind fun y196 => (if y196.length + l0_5.length < 4398046511104 then (some (a0_0, a0_1, a0_2, a0_3, a0_4, (y196 ++ l0_5))) else (none))
set_option maxHeartbeats 8000000 in
set_option maxRecDepth 100000 in
theorem skiffref16_copyDevice.calls (a0_0 : Int) (a0_1 : Int) (a0_2 : Int) (a0_3 : Int) (a0_4 : Int) (A0_5 : Option Addr) (c0_5 : Nat) (l0_5 : List (S40)) (r1 : Int) (r2 : Int) (r3 : Int) (r4 : Int) (r5 : Int) (r6 : List (S40)) (w : World) (hr0_5 : Kd.C k40 w A0_5 l0_5.length l0_5) (hc0_5 : l0_5.length ≤ c0_5) (h : skiffref16_copyDevice.f a0_0 a0_1 a0_2 a0_3 a0_4 l0_5 = some (r1, r2, r3, r4, r5, r6)) :
  Calls Try.prog 32 #[.agg #[.int .i64 a0_0, .int .i64 a0_1, .int .i64 a0_2, .int .i64 a0_3, .int .i64 a0_4, .slice A0_5 l0_5.length c0_5]] w fun e w' => ∃ v5_ : Value, e = .returned (.agg #[.int .i64 r1, .int .i64 r2, .int .i64 r3, .int .i64 r4, .int .i64 r5, v5_]) ∧ Kd.R k40 40 w' w.heap.size (fun _ => True) v5_ r6 ∧ Below w.heap.size w w' := by
 have hu24 := Try.underlying24
 have HR0_5 := Aside0.mk hr0_5
 have HC0_5 := Aside0.mk hc0_5
 clear hr0_5 hc0_5
 have HB := Aside0.mk (Below.refl w.heap.size w)
 have H : ((some (([] : List (S40)) : List (S40))).bind fun y196 => (if y196.length + l0_5.length < 4398046511104 then (some (a0_0, a0_1, a0_2, a0_3, a0_4, (y196 ++ l0_5))) else (none))) = some (r1, r2, r3, r4, r5, r6) := h
 clear h
 obtain ⟨y196, hy196⟩ : ∃ y_ : List (S40), y_ = (([] : List (S40))) := ⟨_, rfl⟩
 replace H : (if y196.length + l0_5.length < 4398046511104 then (some (a0_0, a0_1, a0_2, a0_3, a0_4, (y196 ++ l0_5))) else (none)) = some (r1, r2, r3, r4, r5, r6) := by first | (rw [hy196]; with_reducible exact H) | (have H2_ := (Option.bind_some _ _).symm.trans H; rw [hy196]; with_reducible exact H2_) | (have H2_ := (Option.bind_some _ _).symm.trans H; with_reducible exact H2_) | with_reducible exact H | (rw [hy196]; exact H) | exact H
 have Ny196 := Aside0.mk hy196
 clear hy196
 by_cases c2 : y196.length + l0_5.length < 4398046511104
 case neg =>
  rw [if_neg c2] at H
  exact absurd H (by simp)
 rw [if_pos c2] at H
 have LMc2 := Aside0.mk c2
 clear c2
 obtain ⟨y199, hy199⟩ : ∃ y_ : List (S40), y_ = (y196 ++ l0_5) := ⟨_, rfl⟩
 replace H : (some (a0_0, a0_1, a0_2, a0_3, a0_4, y199)) = some (r1, r2, r3, r4, r5, r6) := by first | (rw [hy199]; with_reducible exact H) | (have H2_ := (Option.bind_some _ _).symm.trans H; rw [hy199]; with_reducible exact H2_) | (have H2_ := (Option.bind_some _ _).symm.trans H; with_reducible exact H2_) | with_reducible exact H | (rw [hy199]; exact H) | exact H
 have Ny199 := Aside0.mk hy199
 clear hy199
 simp only [Option.some.injEq, Prod.mk.injEq] at H
 obtain ⟨rfl, rfl, rfl, rfl, rfl, rfl⟩ := H
 go_enter Try.func32, Try.ntmps32
 go_wp2_with (first | ((with_reducible refine gate_dst (N := 1) rfl ?_); refine box_event ?hg (N := 1) ?hd (cs := #[.int .i64 a0_0, .int .i64 a0_1, .int .i64 a0_2, .int .i64 a0_3, .int .i64 a0_4, .slice A0_5 l0_5.length c0_5]) (t := 24) ?hr ?_; (case hd => rfl); (case hg => rfl); (case hr => first | (go_simp; done) | (go_simp; rfl)); intro gb194 hg w3 hbox hb; have n0_ := Aside0.mk (below_step (kb HB.out) hb); have n1_ := Aside0.mk (hbox); have n2_ := Aside0.mk ((kz hg (below_size (kb HB.out)) : w.heap.size ≤ gb194)); have n3_ := Aside0.mk ((kz hg (below_size (kb HB.out)) : w.heap.size ≤ gb194)); clear HB; have HB := n0_; have BK194 := n1_; have GW194 := n2_; have GE194 := n3_; clear n0_ n1_ n2_ n3_; clear hb hbox hg) | ((with_reducible refine gate_dst (N := 2) rfl ?_); refine box_event ?hg (N := 2) ?hd (cs := #[.int .i64 0, .int .i64 0, .int .i64 0, .int .i64 0, .int .i64 0, .slice none 0 0]) (t := 24) ?hr ?_; (case hd => rfl); (case hg => rfl); (case hr => first | (go_simp; done) | (go_simp; rfl)); intro gb195 hg w4 hbox hb; have n0_ := Aside0.mk (kL BK194.out hb); have n1_ := Aside0.mk (below_step (kb1 HB.out GE194.out) hb); have n2_ := Aside0.mk (hbox); have n3_ := Aside0.mk ((kz hg (below_size (kb1 HB.out GE194.out)) : w.heap.size ≤ gb195)); have n4_ := Aside0.mk ((kz hg (below_size (kb1 HB.out GE194.out)) : w.heap.size ≤ gb195)); have n5_ := Aside0.mk ((kN hg BK194.out : gb194 ≠ gb195)); have n6_ := Aside0.mk (((kN hg BK194.out).symm : gb195 ≠ gb194)); clear BK194; clear HB; have BK194 := n0_; have HB := n1_; have BK195 := n2_; have GW195 := n3_; have GE195 := n4_; have NB194_195 := n5_; have NB195_194 := n6_; clear n0_ n1_ n2_ n3_ n4_ n5_ n6_; clear hb hbox hg) | ((with_reducible refine gate_dst (N := 3) rfl ?_); refine Kd.R_lit k40 _ 40 ?hg (N := 3) ?hd (xs := ([] : List (S40))) (inner := []) (ok := fun _ => True) (okp := fun _ => True) ?hr ?hp (fun _ hk => hk) trivial (Below.refl _ _) (Nat.le_refl _) (by simp) ?_; (case hd => rfl); (case hg => rfl); (case hr => first | (go_simp; done) | (go_simp; rfl)); (case hp => exact (Reps.none _ _)); intro v197 w5 ho6 hb hg_ hnew_; clear hg_ hnew_; (first | rw [← Ny196.out] at ho6 | (simp only [Int.reduceToNat] at ho6; rw [← Ny196.out] at ho6)); have n0_ := Aside0.mk (Kd.R_lower ho6 (below_size (kb2 HB.out GE194.out GE195.out))); have n1_ := Aside0.mk (kL BK194.out hb); have n2_ := Aside0.mk (kL BK195.out hb); have n3_ := Aside0.mk (below_step (kb2 HB.out GE194.out GE195.out) hb); clear BK194; clear BK195; clear HB; have HO198 := n0_; have BK194 := n1_; have BK195 := n2_; have HB := n3_; clear n0_ n1_ n2_ n3_; clear hb ho6; have hnb7 := NB194_195.out; have hnc7 := NB195_194.out; obtain ⟨hcz8_0, hcz8_1, hcz8_2, hcz8_3, hcz8_4, hcz8_5⟩ := kc6 BK194.out; obtain ⟨hfz8_0, hfz8_1, hfz8_2, hfz8_3, hfz8_4, hfz8_5⟩ := kf6 BK194.out) | ((with_reducible refine gate_builtin (b := .append) (xs := #[.tmp 3, .tmp 5]) rfl ?_); at_builtin; refine Kd.R_append_rows k40 (w0 := w) w.heap.size rfl (.tmp 3) (.tmp 5) 22 40 (.agg #[(.bool false), (.int .i64 0), (.string ⟨#[]⟩)]) 32 rfl Try.underlying22 info40 rfl (by decide) (by omega) v197 y196 l0_5 _ _ _ (fun _ => True) (fun _ => False) rfl rfl ?aO ?aR (fun _ _ h => h) (fun _ h => h.elim) ?aF ?aB ?aS ?aL ?_; (case aR => exact kC (Kd.C_below HR0_5.out HB.out)); (case aB => exact (kb2 HB.out GE194.out GE195.out)); (case aF => exact (fun _ _ => trivial)); (case aO => exact (kR HO198.out)); (case aS => exact (below_size (kb2 HB.out GE194.out GE195.out))); (case aL => have := LMc2.out; omega); intro v200 w9 ho hb hg hat; rw [← Ny199.out] at ho; have n0_ := Aside0.mk (blk_grown (g := gb194) (o := .cells #[.int .i64 a0_0, .int .i64 a0_1, .int .i64 a0_2, .int .i64 a0_3, .int .i64 a0_4, .slice A0_5 l0_5.length c0_5] 24 (0, 0)) (kB BK194.out) hg (Kd.R_ne HO198.out BK194.out (by decide))); have n1_ := Aside0.mk (blk_grown (g := gb195) (o := .cells #[.int .i64 0, .int .i64 0, .int .i64 0, .int .i64 0, .int .i64 0, .slice none 0 0] 24 (0, 0)) (kB BK195.out) hg (Kd.R_ne HO198.out BK195.out (by decide))); have n2_ := Aside0.mk (hb); have n3_ := Aside0.mk (ho); clear BK194; clear BK195; clear HB; clear HO198; have BK194 := n0_; have BK195 := n1_; have HB := n2_; have HO201 := n3_; clear n0_ n1_ n2_ n3_; clear ho hb hg hat; obtain ⟨Ao10, co10, eo10⟩ := Kd.R_slice HO201.out; subst eo10; obtain ⟨hcz11_0, hcz11_1, hcz11_2, hcz11_3, hcz11_4, hcz11_5⟩ := kc6 BK194.out; obtain ⟨hfz11_0, hfz11_1, hfz11_2, hfz11_3, hfz11_4, hfz11_5⟩ := kf6 BK194.out; obtain ⟨hcz12_0, hcz12_1, hcz12_2, hcz12_3, hcz12_4, hcz12_5⟩ := kc6 BK195.out; obtain ⟨hfz12_0, hfz12_1, hfz12_2, hfz12_3, hfz12_4, hfz12_5⟩ := kf6 BK195.out))
 refine bodyPost_ret (results_cell_row rfl _ _ gb195 24 #[.int .i64 a0_0, .int .i64 a0_1, .int .i64 a0_2, .int .i64 a0_3, .int .i64 a0_4, .slice Ao10 y199.length co10] (0, 0) _ rfl (by (with_reducible repeat (first | refine blk_drewN ?_ _ | refine blk_drew ?_ | refine blk_alloc ?_ _)); refine blk_put (cs := #[.int .i64 a0_0, .int .i64 a0_1, .int .i64 a0_2, .int .i64 a0_3, .int .i64 a0_4, .slice none 0 0]) ?_ 5 _ rfl; (with_reducible repeat (first | refine blk_drewN ?_ _ | refine blk_drew ?_ | refine blk_alloc ?_ _)); refine blk_put (cs := #[.int .i64 a0_0, .int .i64 a0_1, .int .i64 a0_2, .int .i64 a0_3, .int .i64 0, .slice none 0 0]) ?_ 4 _ rfl; (with_reducible repeat (first | refine blk_drewN ?_ _ | refine blk_drew ?_ | refine blk_alloc ?_ _)); refine blk_put (cs := #[.int .i64 a0_0, .int .i64 a0_1, .int .i64 a0_2, .int .i64 0, .int .i64 0, .slice none 0 0]) ?_ 3 _ rfl; (with_reducible repeat (first | refine blk_drewN ?_ _ | refine blk_drew ?_ | refine blk_alloc ?_ _)); refine blk_put (cs := #[.int .i64 a0_0, .int .i64 a0_1, .int .i64 0, .int .i64 0, .int .i64 0, .slice none 0 0]) ?_ 2 _ rfl; (with_reducible repeat (first | refine blk_drewN ?_ _ | refine blk_drew ?_ | refine blk_alloc ?_ _)); refine blk_put (cs := #[.int .i64 a0_0, .int .i64 0, .int .i64 0, .int .i64 0, .int .i64 0, .slice none 0 0]) ?_ 1 _ rfl; (with_reducible repeat (first | refine blk_drewN ?_ _ | refine blk_drew ?_ | refine blk_alloc ?_ _)); refine blk_put (cs := #[.int .i64 0, .int .i64 0, .int .i64 0, .int .i64 0, .int .i64 0, .slice none 0 0]) ?_ 0 _ rfl; (with_reducible repeat (first | refine blk_drewN ?_ _ | refine blk_drew ?_ | refine blk_alloc ?_ _)); refine blk_far ?_ NB195_194.out _; (with_reducible repeat (first | refine blk_drewN ?_ _ | refine blk_drew ?_ | refine blk_alloc ?_ _)); exact BK195.out) Try.underlying24 rfl (by kernel_rfl)) rfl ?_
 exact ⟨_, by first | rfl | (simp [errW_none, errW_some] <;> rfl) | (simp [*, errW_none, errW_some] <;> rfl), by (with_reducible repeat (first | apply Kd.R_alloc | apply Kd.R_drewN | apply Kd.R_drew)); exact Kd.R_mono (Kd.R_far (p := ⟨gb195, 5, none⟩) (Kd.R_far (p := ⟨gb195, 4, none⟩) (Kd.R_far (p := ⟨gb195, 3, none⟩) (Kd.R_far (p := ⟨gb195, 2, none⟩) (Kd.R_far (p := ⟨gb195, 1, none⟩) (Kd.R_far (p := ⟨gb195, 0, none⟩) (Kd.R_far (p := ⟨gb194, 5, none⟩) (Kd.R_types (Kd.R_types HO201.out BK194.out (by decide)) BK195.out (by decide)) (fun _ hk => hk.1.2) (.slice Ao10 y199.length co10)) (fun _ hk => hk.2) (.int .i64 a0_0)) (fun _ hk => hk.2) (.int .i64 a0_1)) (fun _ hk => hk.2) (.int .i64 a0_2)) (fun _ hk => hk.2) (.int .i64 a0_3)) (fun _ hk => hk.2) (.int .i64 a0_4)) (fun _ hk => hk.2) (.slice Ao10 y199.length co10)) (fun _ hk => trivial), kb2 HB.out GE194.out GE195.out⟩

/-! ### skiffref16_NewDevice: function 34 -/
def skiffref16_NewDevice.f  : Option (Int × Int × Int × Int × Int × (List (S40))) := some (0, 0, 0, 0, 0, ([] : List (S40)))
set_option maxHeartbeats 8000000 in
set_option maxRecDepth 100000 in
theorem skiffref16_NewDevice.calls  (r1 : Int) (r2 : Int) (r3 : Int) (r4 : Int) (r5 : Int) (r6 : List (S40)) (w : World) (h : skiffref16_NewDevice.f  = some (r1, r2, r3, r4, r5, r6)) :
  Calls Try.prog 34 #[] w fun e w' => ∃ v5_ : Value, e = .returned (.agg #[.int .i64 r1, .int .i64 r2, .int .i64 r3, .int .i64 r4, .int .i64 r5, v5_]) ∧ Kd.R k40 40 w' w.heap.size (fun _ => True) v5_ r6 ∧ Below w.heap.size w w' := by
 have hu24 := Try.underlying24
 have HB := Aside0.mk (Below.refl w.heap.size w)
 have H : (some (0, 0, 0, 0, 0, ([] : List (S40)))) = some (r1, r2, r3, r4, r5, r6) := h
 clear h
 simp only [Option.some.injEq, Prod.mk.injEq] at H
 obtain ⟨rfl, rfl, rfl, rfl, rfl, rfl⟩ := H
 go_enter Try.func34, Try.ntmps34
 go_wp2_with (first | ((with_reducible refine gate_dst (N := 0) rfl ?_); refine box_event ?hg (N := 0) ?hd (cs := #[.int .i64 0, .int .i64 0, .int .i64 0, .int .i64 0, .int .i64 0, .slice none 0 0]) (t := 24) ?hr ?_; (case hd => rfl); (case hg => rfl); (case hr => first | (go_simp; done) | (go_simp; rfl)); intro gb203 hg w1 hbox hb; have n0_ := Aside0.mk (below_step (kb HB.out) hb); have n1_ := Aside0.mk (hbox); have n2_ := Aside0.mk ((kz hg (below_size (kb HB.out)) : w.heap.size ≤ gb203)); have n3_ := Aside0.mk ((kz hg (below_size (kb HB.out)) : w.heap.size ≤ gb203)); clear HB; have HB := n0_; have BK203 := n1_; have GW203 := n2_; have GE203 := n3_; clear n0_ n1_ n2_ n3_; clear hb hbox hg; obtain ⟨hcz2_0, hcz2_1, hcz2_2, hcz2_3, hcz2_4, hcz2_5⟩ := kc6 BK203.out; obtain ⟨hfz2_0, hfz2_1, hfz2_2, hfz2_3, hfz2_4, hfz2_5⟩ := kf6 BK203.out))
 refine bodyPost_ret (results_cell_row rfl _ _ gb203 24 #[.int .i64 0, .int .i64 0, .int .i64 0, .int .i64 0, .int .i64 0, .slice none 0 0] (0, 0) _ rfl (kP6 BK203.out) Try.underlying24 rfl (by kernel_rfl)) rfl ?_
 exact ⟨_, by first | rfl | (simp [errW_none, errW_some] <;> rfl) | (simp [*, errW_none, errW_some] <;> rfl), by first | exact Kd.R_nil _ _ _ _ _ | exact Kd.N_nil _ _ _ _ _ | exact Kd.V_nil _ _ _ _ _ | exact Kd.Q_nil _ _ _ _ _ | exact Kd.S_nil _ _ _ _ _, kb1 HB.out GE203.out⟩

end Go.Proofs.Ytgoeooghoojdgaa.P
