-- written by wip/prt.py of this repo, by the kit's print, over contracts that are proved here by hand
import Derived.Test.YtdijecmpaoabbaaZ2Px0
import Derived.Test.YtdijecmpaoabbaaZ2Px2
namespace Go.Proofs.Ytdijecmpaoabbaa.P
open Go.RowKit Go.Proofs.YtdijecmpaoabbaaW.PrintWords Go.Proofs.YtdijecmpaoabbaaW.PrintLast Go.Proofs.YtdijecmpaoabbaaW.PrintMore
attribute [local go_sem] max2_int min2_int max_two min_two max_three min_three max_four min_four   -- for this text's walks alone
set_option linter.unusedVariables false
set_option linter.unusedSimpArgs false

/-! ### choose_queue_Swap: function 79 -/
def choose_queue_Swap.f (l0 : List (S25)) (a1 : Int) (a2 : Int) : Option ((List (S25))) := if 0 ≤ a2 then (if a2 < (l0.length : Int) then (if 0 ≤ a1 then (if a1 < (l0.length : Int) then (some ((l0.set (a1 : Int).toNat (⟨(rd_T25 l0 a2).f0, (⟨(rd_T25 l0 a2).f1.f0, (rd_T25 l0 a2).f1.f1, (rd_T25 l0 a2).f1.f2, (rd_T25 l0 a2).f1.f3⟩ : S23)⟩ : S25)).set (a2 : Int).toNat (⟨(rd_T25 l0 a1).f0, (⟨(rd_T25 l0 a1).f1.f0, (rd_T25 l0 a1).f1.f1, (rd_T25 l0 a1).f1.f2, (rd_T25 l0 a1).f1.f3⟩ : S23)⟩ : S25))) else (none)) else (none)) else (none)) else (none)
def choose_queue_Swap.T0 : Bool × List (List Nat × List Nat) := (true, [([], []), ([], []), ([], []), ([], []), ([], []), ([], []), ([4, 5], [4, 5]), ([6], [6]), ([], []), ([], []), ([8, 9], [8, 9]), ([10], [10]), ([0, 1, 0, 1, 4, 5, 6, 7, 11], [0, 1]), ([12, 7, 0, 1, 4, 5, 6, 7, 11], [7, 12]), ([2, 3, 0, 1, 2, 3, 4, 5, 6, 7, 8, 9, 10, 11, 12, 13], [2, 3]), ([14, 11, 13, 0, 1, 2, 3, 4, 5, 6, 7, 8, 9, 10, 11, 12, 13], [11, 14])])
def choose_queue_Swap.B0 : List Nat := [0, 0, 0, 0, 0, 0, 48, 112, 0, 0, 768, 1792, 4083, 8179, 16383, 32767]
theorem choose_queue_Swap.tab0 : rtab .any (opsOf Try.f79 0) = choose_queue_Swap.T0 := by kernel_rfl
theorem choose_queue_Swap.bits0 : waitsOk choose_queue_Swap.T0.2 choose_queue_Swap.B0 = true := by kernel_rfl
set_option maxHeartbeats 8000000 in
set_option maxRecDepth 100000 in
theorem choose_queue_Swap.calls (P0_ : Nat → Prop) (u9000_ : Value) (l0 : List (S25)) (a1 : Int) (a2 : Int) (r : List (S25)) (w0 w : World) (hB : Below w0.heap.size w0 w) (ho0 : Kd.R k25 25 w w0.heap.size P0_ u9000_ l0) (h : choose_queue_Swap.f l0 a1 a2 = some r) :
  Calls Try.prog 79 #[u9000_, .int .i64 a1, .int .i64 a2] w fun e w' => e = .returned (.tuple #[]) ∧ Kd.R k25 25 w' w0.heap.size (fun k_ => (P0_ k_ ∨ w.heap.size ≤ k_)) u9000_ r ∧ Below w0.heap.size w0 w' ∧ Kept w w' (fun k_ => P0_ k_) := by
 have hu25 := Try.underlying25
 have HO0 := Aside0.mk (show Kd.R k25 25 w w0.heap.size (fun k_ => (P0_ k_ ∨ w.heap.size ≤ k_)) u9000_ l0 from Kd.R_mono ho0 (fun k_ hk => (.inl hk)))
 have HK := Aside0.mk (Kept.refl w (fun k_ => P0_ k_))
 have HW0 := Aside0.mk hB.size
 have HB := Aside0.mk hB
 clear hB
 have H : (if 0 ≤ a2 then (if a2 < (l0.length : Int) then (if 0 ≤ a1 then (if a1 < (l0.length : Int) then (some ((l0.set (a1 : Int).toNat (⟨(rd_T25 l0 a2).f0, (⟨(rd_T25 l0 a2).f1.f0, (rd_T25 l0 a2).f1.f1, (rd_T25 l0 a2).f1.f2, (rd_T25 l0 a2).f1.f3⟩ : S23)⟩ : S25)).set (a2 : Int).toNat (⟨(rd_T25 l0 a1).f0, (⟨(rd_T25 l0 a1).f1.f0, (rd_T25 l0 a1).f1.f1, (rd_T25 l0 a1).f1.f2, (rd_T25 l0 a1).f1.f3⟩ : S23)⟩ : S25))) else (none)) else (none)) else (none)) else (none)) = some r := h
 clear h
 by_cases c4 : 0 ≤ a2
 case neg =>
  rw [if_neg c4] at H
  exact absurd H (by simp)
 rw [if_pos c4] at H
 have c4b0 : decide (0 ≤ a2) = true := decide_eq_true c4
 clear c4
 by_cases c5 : a2 < (l0.length : Int)
 case neg =>
  rw [if_neg c5] at H
  exact absurd H (by simp)
 rw [if_pos c5] at H
 have c5b0 : decide (a2 < (l0.length : Int)) = true := decide_eq_true c5
 clear c5
 by_cases c6 : 0 ≤ a1
 case neg =>
  rw [if_neg c6] at H
  exact absurd H (by simp)
 rw [if_pos c6] at H
 have c6b0 : decide (0 ≤ a1) = true := decide_eq_true c6
 clear c6
 by_cases c7 : a1 < (l0.length : Int)
 case neg =>
  rw [if_neg c7] at H
  exact absurd H (by simp)
 rw [if_pos c7] at H
 have c7b0 : decide (a1 < (l0.length : Int)) = true := decide_eq_true c7
 clear c7
 obtain ⟨y131, hy131⟩ : ∃ y_ : List (S25), y_ = (l0.set (a1 : Int).toNat (⟨(rd_T25 l0 a2).f0, (⟨(rd_T25 l0 a2).f1.f0, (rd_T25 l0 a2).f1.f1, (rd_T25 l0 a2).f1.f2, (rd_T25 l0 a2).f1.f3⟩ : S23)⟩ : S25)) := ⟨_, rfl⟩
 replace H : (some (y131.set (a2 : Int).toNat (⟨(rd_T25 l0 a1).f0, (⟨(rd_T25 l0 a1).f1.f0, (rd_T25 l0 a1).f1.f1, (rd_T25 l0 a1).f1.f2, (rd_T25 l0 a1).f1.f3⟩ : S23)⟩ : S25))) = some r := by first | (rw [hy131]; with_reducible exact H) | (have H2_ := (Option.bind_some _ _).symm.trans H; rw [hy131]; with_reducible exact H2_) | (have H2_ := (Option.bind_some _ _).symm.trans H; with_reducible exact H2_) | with_reducible exact H | (rw [hy131]; exact H) | exact H
 have Ny131 := Aside0.mk hy131
 clear hy131
 obtain ⟨y132, hy132⟩ : ∃ y_ : List (S25), y_ = (y131.set (a2 : Int).toNat (⟨(rd_T25 l0 a1).f0, (⟨(rd_T25 l0 a1).f1.f0, (rd_T25 l0 a1).f1.f1, (rd_T25 l0 a1).f1.f2, (rd_T25 l0 a1).f1.f3⟩ : S23)⟩ : S25)) := ⟨_, rfl⟩
 replace H : (some y132) = some r := by first | (rw [hy132]; with_reducible exact H) | (have H2_ := (Option.bind_some _ _).symm.trans H; rw [hy132]; with_reducible exact H2_) | (have H2_ := (Option.bind_some _ _).symm.trans H; with_reducible exact H2_) | with_reducible exact H | (rw [hy132]; exact H) | exact H
 have Ny132 := Aside0.mk hy132
 clear hy132
 obtain rfl := Option.some.inj H
 go_enter Try.func79, Try.ntmps79
 try go_wp2
 have n0_ := Aside0.mk (Kd.R_drew HO0.out)
 have n1_ := Aside0.mk (Kept.drew HK.out)
 have n2_ := Aside0.mk (below_drew1 HB.out)
 clear HO0 HK HB; have HO0 := n0_; have HK := n1_; have HB := n2_; clear n0_ n1_ n2_
 obtain ⟨Ao11, co11, eo11⟩ := Kd.R_slice HO0.out
 (first | subst eo11 | (injection eo11 with f1_ f2_ f3_; have f4_ := f1_.symm; have f5_ := f3_.symm; clear f1_ f2_ f3_; subst f4_; subst f5_))
 have p129 : 0 ≤ (a2 : Int) := of_decide_eq_true (by first | (with_reducible assumption) | assumption)
 have q129 : a2 < (l0.length : Int) := of_decide_eq_true (by first | (with_reducible assumption) | assumption)
 obtain ⟨ad129, e129, hx129_0, hx129_1, hx129_2, hx129_3, hx129_4⟩ := at_T25 (Kd.R_reads' HO0.out).2.2 a2 p129 q129
 cases e129
 replace p129 := eq_true p129
 replace q129 := eq_true q129
 have p130 : 0 ≤ (a1 : Int) := of_decide_eq_true (by first | (with_reducible assumption) | assumption)
 have q130 : a1 < (l0.length : Int) := of_decide_eq_true (by first | (with_reducible assumption) | assumption)
 obtain ⟨ad130, e130, hx130_0, hx130_1, hx130_2, hx130_3, hx130_4⟩ := at_T25 (Kd.R_reads' HO0.out).2.2 a1 p130 q130
 obtain rfl : ad129 = ad130 := (by injection e130)
 replace p130 := eq_true p130
 replace q130 := eq_true q130
 have p8 : 0 ≤ (a1 : Int) := of_decide_eq_true (by first | (with_reducible assumption) | assumption)
 have q8 : (a1 : Int) < ((l0.length : Int) : Int) := of_decide_eq_true (by first | (with_reducible assumption) | assumption)
 obtain ⟨go8, co8, eo8, gb8, gl8, cl8, HG8⟩ := Kd.R_form HO0.out (by omega)
 (first | cases eo8 | (injection eo8 with ea_ en_ ec_; (first | subst ea_ | (injection ea_ with ea_; subst ea_)); subst ec_; clear en_))
 have GB8 := Aside0.mk gb8
 have GG8 := Aside0.mk HG8
 clear gb8 gl8 HG8
 have HMgo8 := Aside0.mk (show (P0_ go8 ∨ w.heap.size ≤ go8) from (HO0.out.1 _ rfl))
 (first | simp only [add_plain] at hx129_0 | skip)
 (first | simp only [add_plain] at hx129_1 | skip)
 (first | simp only [add_plain] at hx129_2 | skip)
 (first | simp only [add_plain] at hx129_3 | skip)
 (first | simp only [add_plain] at hx129_4 | skip)
 (first | simp only [add_plain] at hx130_0 | skip)
 (first | simp only [add_plain] at hx130_1 | skip)
 (first | simp only [add_plain] at hx130_2 | skip)
 (first | simp only [add_plain] at hx130_3 | skip)
 (first | simp only [add_plain] at hx130_4 | skip)
 obtain ⟨ce8, hcl8, hM8, hcc8, hfr8⟩ := Kd.R_elem HO0.out z25 (a1 : Int) p8 q8
 obtain rfl := k25_openM hM8
 have hx8_0 : World.cell? _ ⟨go8, (a1 : Int).toNat * 5, none⟩ = some (.int .i64 ((rd_T25 l0 a1).f0)) := hcc8 0 _ rfl
 have hx8_1 : World.cell? _ ⟨go8, (a1 : Int).toNat * 5 + 1, none⟩ = some (.int .i64 ((rd_T25 l0 a1).f1.f0)) := hcc8 1 _ rfl
 have hx8_2 : World.cell? _ ⟨go8, (a1 : Int).toNat * 5 + 2, none⟩ = some (.int .i64 ((rd_T25 l0 a1).f1.f1)) := hcc8 2 _ rfl
 have hx8_3 : World.cell? _ ⟨go8, (a1 : Int).toNat * 5 + 3, none⟩ = some (.int .i64 ((rd_T25 l0 a1).f1.f2)) := hcc8 3 _ rfl
 have hx8_4 : World.cell? _ ⟨go8, (a1 : Int).toNat * 5 + 4, none⟩ = some (.int .i64 ((rd_T25 l0 a1).f1.f3)) := hcc8 4 _ rfl
 have hf8_0 : World.frozen? _ ⟨go8, (a1 : Int).toNat * 5, none⟩ = false := hfr8 0
 have hf8_1 : World.frozen? _ ⟨go8, (a1 : Int).toNat * 5 + 1, none⟩ = false := hfr8 1
 have hf8_2 : World.frozen? _ ⟨go8, (a1 : Int).toNat * 5 + 2, none⟩ = false := hfr8 2
 have hf8_3 : World.frozen? _ ⟨go8, (a1 : Int).toNat * 5 + 3, none⟩ = false := hfr8 3
 have hf8_4 : World.frozen? _ ⟨go8, (a1 : Int).toNat * 5 + 4, none⟩ = false := hfr8 4
 clear hcl8 hcc8 hfr8 hM8
 replace p8 := eq_true p8
 replace q8 := eq_true q8
 obtain ⟨ce12, hcl12, hM12, hcc12, hfr12⟩ := Kd.R_elem HO0.out z25 (a1 : Int) (of_decide_eq_true (by first | (with_reducible assumption) | assumption)) (by have h_ : (a1 : Int) < ((l0.length : Int) : Int) := of_decide_eq_true (by first | (with_reducible assumption) | assumption); first | exact h_ | (have e_ := (Kd.R_reads' HO0.out).1; omega) | simpa using h_)
 obtain rfl := k25_openM hM12
 have HP12 := (Kd.R_seg HO0.out (a1 : Int) (of_decide_eq_true (by first | (with_reducible assumption) | assumption)) (by have h_ : (a1 : Int) < ((l0.length : Int) : Int) := of_decide_eq_true (by first | (with_reducible assumption) | assumption); first | exact h_ | (have e_ := (Kd.R_reads' HO0.out).1; omega) | simpa using h_) (seg := [.int .i64 ((rd_T25 l0 a2).f0), .int .i64 ((rd_T25 l0 a2).f1.f0), .int .i64 ((rd_T25 l0 a2).f1.f1), .int .i64 ((rd_T25 l0 a2).f1.f2), .int .i64 ((rd_T25 l0 a2).f1.f3)]) (j := 0) hcl12 hcc12 (show 5 ≤ 5 from by decide) (x' := (⟨(rd_T25 l0 a2).f0, (⟨(rd_T25 l0 a2).f1.f0, (rd_T25 l0 a2).f1.f1, (rd_T25 l0 a2).f1.f2, (rd_T25 l0 a2).f1.f3⟩ : S23)⟩ : S25)) (k25_mkM _ _ _ (⟨(rd_T25 l0 a2).f0, (⟨(rd_T25 l0 a2).f1.f0, (rd_T25 l0 a2).f1.f1, (rd_T25 l0 a2).f1.f2, (rd_T25 l0 a2).f1.f3⟩ : S23)⟩ : S25) ) (fun _ hk => hk)).1
 rw [← Ny131.out] at HP12
 have HQ12 := Aside0.mk HP12
 clear hcl12 hcc12 hfr12 hM12 HP12
 have p9 : 0 ≤ (a2 : Int) := of_decide_eq_true (by first | (with_reducible assumption) | assumption)
 have q9 : (a2 : Int) < ((l0.length : Int) : Int) := of_decide_eq_true (by first | (with_reducible assumption) | assumption)
 obtain ⟨ce9, hcl9, hM9, hcc9, hfr9⟩ := Kd.R_elem HQ12.out z25 (a2 : Int) p9 q9
 obtain rfl := k25_openM hM9
 have hx9_0 : World.cell? _ ⟨go8, (a2 : Int).toNat * 5, none⟩ = some (.int .i64 ((rd_T25 y131 a2).f0)) := hcc9 0 _ rfl
 have hx9_1 : World.cell? _ ⟨go8, (a2 : Int).toNat * 5 + 1, none⟩ = some (.int .i64 ((rd_T25 y131 a2).f1.f0)) := hcc9 1 _ rfl
 have hx9_2 : World.cell? _ ⟨go8, (a2 : Int).toNat * 5 + 2, none⟩ = some (.int .i64 ((rd_T25 y131 a2).f1.f1)) := hcc9 2 _ rfl
 have hx9_3 : World.cell? _ ⟨go8, (a2 : Int).toNat * 5 + 3, none⟩ = some (.int .i64 ((rd_T25 y131 a2).f1.f2)) := hcc9 3 _ rfl
 have hx9_4 : World.cell? _ ⟨go8, (a2 : Int).toNat * 5 + 4, none⟩ = some (.int .i64 ((rd_T25 y131 a2).f1.f3)) := hcc9 4 _ rfl
 have hf9_0 : World.frozen? _ ⟨go8, (a2 : Int).toNat * 5, none⟩ = false := hfr9 0
 have hf9_1 : World.frozen? _ ⟨go8, (a2 : Int).toNat * 5 + 1, none⟩ = false := hfr9 1
 have hf9_2 : World.frozen? _ ⟨go8, (a2 : Int).toNat * 5 + 2, none⟩ = false := hfr9 2
 have hf9_3 : World.frozen? _ ⟨go8, (a2 : Int).toNat * 5 + 3, none⟩ = false := hfr9 3
 have hf9_4 : World.frozen? _ ⟨go8, (a2 : Int).toNat * 5 + 4, none⟩ = false := hfr9 4
 clear hcl9 hcc9 hfr9 hM9
 replace p9 := eq_true p9
 replace q9 := eq_true q9
 obtain ⟨ce13, hcl13, hM13, hcc13, hfr13⟩ := Kd.R_elem HQ12.out z25 (a2 : Int) (of_decide_eq_true (by first | (with_reducible assumption) | assumption)) (by have h_ : (a2 : Int) < ((l0.length : Int) : Int) := of_decide_eq_true (by first | (with_reducible assumption) | assumption); first | exact h_ | (have e_ := (Kd.R_reads' HO0.out).1; omega) | simpa using h_)
 obtain rfl := k25_openM hM13
 have HP13 := (Kd.R_seg HQ12.out (a2 : Int) (of_decide_eq_true (by first | (with_reducible assumption) | assumption)) (by have h_ : (a2 : Int) < ((l0.length : Int) : Int) := of_decide_eq_true (by first | (with_reducible assumption) | assumption); first | exact h_ | (have e_ := (Kd.R_reads' HO0.out).1; omega) | simpa using h_) (seg := [.int .i64 ((rd_T25 l0 a1).f0), .int .i64 ((rd_T25 l0 a1).f1.f0), .int .i64 ((rd_T25 l0 a1).f1.f1), .int .i64 ((rd_T25 l0 a1).f1.f2), .int .i64 ((rd_T25 l0 a1).f1.f3)]) (j := 0) hcl13 hcc13 (show 5 ≤ 5 from by decide) (x' := (⟨(rd_T25 l0 a1).f0, (⟨(rd_T25 l0 a1).f1.f0, (rd_T25 l0 a1).f1.f1, (rd_T25 l0 a1).f1.f2, (rd_T25 l0 a1).f1.f3⟩ : S23)⟩ : S25)) (k25_mkM _ _ _ (⟨(rd_T25 l0 a1).f0, (⟨(rd_T25 l0 a1).f1.f0, (rd_T25 l0 a1).f1.f1, (rd_T25 l0 a1).f1.f2, (rd_T25 l0 a1).f1.f3⟩ : S23)⟩ : S25) ) (fun _ hk => hk)).1
 rw [← Ny132.out] at HP13
 have HQ13 := Aside0.mk HP13
 clear hcl13 hcc13 hfr13 hM13 HP13
 refine start_ (n := 16) (S := fun w' => w'.cell? ⟨go8, ((a2).toNat * 5), none⟩ = some (.int .i64 ((rd_T25 l0 a2).f0)) ∧ w'.cell? ⟨go8, ((a2).toNat * 5) + 1, none⟩ = some (.int .i64 ((rd_T25 l0 a2).f1.f0)) ∧ w'.cell? ⟨go8, ((a2).toNat * 5) + 2, none⟩ = some (.int .i64 ((rd_T25 l0 a2).f1.f1)) ∧ w'.cell? ⟨go8, ((a2).toNat * 5) + 3, none⟩ = some (.int .i64 ((rd_T25 l0 a2).f1.f2)) ∧ w'.cell? ⟨go8, ((a2).toNat * 5) + 4, none⟩ = some (.int .i64 ((rd_T25 l0 a2).f1.f3)) ∧ w'.cell? ⟨go8, ((a1).toNat * 5), none⟩ = some (.int .i64 ((rd_T25 l0 a1).f0)) ∧ w'.cell? ⟨go8, ((a1).toNat * 5) + 1, none⟩ = some (.int .i64 ((rd_T25 l0 a1).f1.f0)) ∧ w'.cell? ⟨go8, ((a1).toNat * 5) + 2, none⟩ = some (.int .i64 ((rd_T25 l0 a1).f1.f1)) ∧ w'.cell? ⟨go8, ((a1).toNat * 5) + 3, none⟩ = some (.int .i64 ((rd_T25 l0 a1).f1.f2)) ∧ w'.cell? ⟨go8, ((a1).toNat * 5) + 4, none⟩ = some (.int .i64 ((rd_T25 l0 a1).f1.f3))) (ds := [13, 15]) #[false, false, false, false, false, false, false, false, false, false, false, false, false, false, false, false] (by kernel_rfl) rfl rfl ⟨hx129_0, hx129_1, hx129_2, hx129_3, hx129_4, hx130_0, hx130_1, hx130_2, hx130_3, hx130_4⟩ (fun hHeld => ?_); refine with_tabW choose_queue_Swap.tab0 choose_queue_Swap.bits0 (fun HT_ HW_ => ?_)
 generalize w.drew = w10 at HO0 HK HB GG8 HQ12 HQ13 hf8_0 hf8_1 hf8_2 hf8_3 hf8_4 hf9_0 hf9_1 hf9_2 hf9_3 hf9_4 hx129_0 hx129_1 hx129_2 hx129_3 hx129_4 hx130_0 hx130_1 hx130_2 hx130_3 hx130_4 hx8_0 hx8_1 hx8_2 hx8_3 hx8_4 hx9_0 hx9_1 hx9_2 hx9_3 hx9_4 hHeld ⊢
 refine pure_ (i := 0) (N := some 6) (v := ?_) (a' := ?_) #[true, false, false, false, false, false, false, false, false, false, false, false, false, false, false, false] rfl rfl (any_of HT_.out (by kernel_rfl)) (fun _ _ _ h => h) (Or.inl ⟨by rfl, ?_⟩) ?_ ?_
 rotate_left
 ·intro w'
  go_simp
  with_reducible rfl
 rotate_left
 ·simp only [Act.put, List.setIfInBounds_toArray, List.set_cons_zero, List.set_cons_succ, i64_w, i32_w]
  rfl
 refine pure_ (i := 1) (N := some 7) (v := ?_) (a' := ?_) #[true, true, false, false, false, false, false, false, false, false, false, false, false, false, false, false] rfl rfl (any_of HT_.out (by kernel_rfl)) (fun _ _ _ h => h) (Or.inl ⟨by rfl, ?_⟩) ?_ ?_
 rotate_left
 ·intro w'
  go_simp
  with_reducible rfl
 rotate_left
 ·simp only [Act.put, List.setIfInBounds_toArray, List.set_cons_zero, List.set_cons_succ, i64_w, i32_w]
  rfl
 refine pure_ (i := 2) (N := some 8) (v := ?_) (a' := ?_) #[true, true, true, false, false, false, false, false, false, false, false, false, false, false, false, false] rfl rfl (any_of HT_.out (by kernel_rfl)) (fun _ _ _ h => h) (Or.inl ⟨by rfl, ?_⟩) ?_ ?_
 rotate_left
 ·intro w'
  go_simp
  with_reducible rfl
 rotate_left
 ·simp only [Act.put, List.setIfInBounds_toArray, List.set_cons_zero, List.set_cons_succ, i64_w, i32_w]
  rfl
 refine pure_ (i := 3) (N := some 9) (v := ?_) (a' := ?_) #[true, true, true, true, false, false, false, false, false, false, false, false, false, false, false, false] rfl rfl (any_of HT_.out (by kernel_rfl)) (fun _ _ _ h => h) (Or.inl ⟨by rfl, ?_⟩) ?_ ?_
 rotate_left
 ·intro w'
  go_simp
  with_reducible rfl
 rotate_left
 ·simp only [Act.put, List.setIfInBounds_toArray, List.set_cons_zero, List.set_cons_succ, i64_w, i32_w]
  rfl
 refine pure_ (i := 4) (N := some 10) (v := ?_) (a' := ?_) #[true, true, true, true, true, false, false, false, false, false, false, false, false, false, false, false] rfl rfl (any_of HT_.out (by kernel_rfl)) (fun _ _ _ h => h) (Or.inl ⟨by rfl, ?_⟩) ?_ ?_
 rotate_left
 ·intro w'
  go_simp
  with_reducible rfl
 rotate_left
 ·simp only [Act.put, List.setIfInBounds_toArray, List.set_cons_zero, List.set_cons_succ, i64_w, i32_w]
  rfl
 refine pure_ (i := 5) (N := some 11) (v := ?_) (a' := ?_) #[true, true, true, true, true, true, false, false, false, false, false, false, false, false, false, false] rfl rfl (any_of HT_.out (by kernel_rfl)) (fun _ _ _ h => h) (Or.inl ⟨by rfl, ?_⟩) ?_ ?_
 rotate_left
 ·intro w'
  go_simp
  with_reducible rfl
 rotate_left
 ·simp only [Act.put, List.setIfInBounds_toArray, List.set_cons_zero, List.set_cons_succ, i64_w, i32_w]
  rfl
 refine pure_ (i := 6) (N := some 12) (v := ?_) (a' := ?_) #[true, true, true, true, true, true, true, false, false, false, false, false, false, false, false, false] rfl rfl (any_of HT_.out (by kernel_rfl)) (fun _ _ _ h => h) (Or.inl ⟨by rfl, ?_⟩) ?_ ?_
 rotate_left
 ·intro w'
  go_simp
  with_reducible rfl
 rotate_left
 ·simp only [Act.put, List.setIfInBounds_toArray, List.set_cons_zero, List.set_cons_succ, i64_w, i32_w]
  rfl
 refine pure_ (i := 8) (N := some 14) (v := ?_) (a' := ?_) #[true, true, true, true, true, true, true, false, true, false, false, false, false, false, false, false] rfl rfl (any_of HT_.out (by kernel_rfl)) (fun _ _ _ h => h) (Or.inl ⟨by rfl, ?_⟩) ?_ ?_
 rotate_left
 ·intro w'
  go_simp
  with_reducible rfl
 rotate_left
 ·simp only [Act.put, List.setIfInBounds_toArray, List.set_cons_zero, List.set_cons_succ, i64_w, i32_w]
  rfl
 refine pure_ (i := 9) (N := some 15) (v := ?_) (a' := ?_) #[true, true, true, true, true, true, true, false, true, true, false, false, false, false, false, false] rfl rfl (any_of HT_.out (by kernel_rfl)) (fun _ _ _ h => h) (Or.inl ⟨by rfl, ?_⟩) ?_ ?_
 rotate_left
 ·intro w'
  go_simp
  with_reducible rfl
 rotate_left
 ·simp only [Act.put, List.setIfInBounds_toArray, List.set_cons_zero, List.set_cons_succ, i64_w, i32_w]
  rfl
 refine pure_ (i := 10) (N := some 16) (v := ?_) (a' := ?_) #[true, true, true, true, true, true, true, false, true, true, true, false, false, false, false, false] rfl rfl (any_of HT_.out (by kernel_rfl)) (fun _ _ _ h => h) (Or.inl ⟨by rfl, ?_⟩) ?_ ?_
 rotate_left
 ·intro w'
  go_simp
  with_reducible rfl
 rotate_left
 ·simp only [Act.put, List.setIfInBounds_toArray, List.set_cons_zero, List.set_cons_succ, i64_w, i32_w]
  rfl
 refine take_ (i := 7) (N := some 13) (v := ?_) (a' := ?_) #[true, true, true, true, true, true, true, true, true, true, true, false, false, false, false, false] rfl rfl (take_ofW HT_.out HW_.out (by kernel_rfl)) (fun _ _ _ h => h) (Or.inl ⟨by rfl, ?_⟩) hHeld ?_ ?_
 rotate_left
 ·rintro w' ⟨s0, s1, s2, s3, s4, s5, s6, s7, s8, s9⟩
  go_simp
  with_reducible rfl
 rotate_left
 ·simp only [Act.put, List.setIfInBounds_toArray, List.set_cons_zero, List.set_cons_succ, i64_w, i32_w]
  rfl
 refine take_ (i := 11) (N := some 17) (v := ?_) (a' := ?_) #[true, true, true, true, true, true, true, true, true, true, true, true, false, false, false, false] rfl rfl (take_ofW HT_.out HW_.out (by kernel_rfl)) (fun _ _ _ h => h) (Or.inl ⟨by rfl, ?_⟩) hHeld ?_ ?_
 rotate_left
 ·rintro w' ⟨s0, s1, s2, s3, s4, s5, s6, s7, s8, s9⟩
  go_simp
  with_reducible rfl
 rotate_left
 ·simp only [Act.put, List.setIfInBounds_toArray, List.set_cons_zero, List.set_cons_succ, i64_w, i32_w]
  rfl
 refine pure_ (i := 12) (N := some 18) (v := ?_) (a' := ?_) #[true, true, true, true, true, true, true, true, true, true, true, true, true, false, false, false] rfl rfl (any_of HT_.out (by kernel_rfl)) (fun _ _ _ h => h) (Or.inl ⟨by rfl, ?_⟩) ?_ ?_
 rotate_left
 ·intro w'
  go_simp
  with_reducible rfl
 rotate_left
 ·simp only [Act.put, List.setIfInBounds_toArray, List.set_cons_zero, List.set_cons_succ, i64_w, i32_w]
  rfl
 refine last_ (i := 13) (N := none) #[true, true, true, true, true, true, true, true, true, true, true, true, true, true, false, false] rfl rfl (one_of HT_.out (by kernel_rfl)) (by decide) (fun K hK => ?_)
 refine skip_ (w1 := ?_) (by rfl) rfl ?_ ?_
 rotate_left
 ·go_simp
  rfl
 refine hK.out _ _ ?_
 clear hK K
 refine pure_ (i := 14) (N := some 19) (v := ?_) (a' := ?_) #[true, true, true, true, true, true, true, true, true, true, true, true, true, true, true, false] rfl rfl (any_of HT_.out (by kernel_rfl)) (fun _ _ _ h => h) (Or.inl ⟨by rfl, ?_⟩) ?_ ?_
 rotate_left
 ·intro w'
  go_simp
  with_reducible rfl
 rotate_left
 ·simp only [Act.put, List.setIfInBounds_toArray, List.set_cons_zero, List.set_cons_succ, i64_w, i32_w]
  rfl
 have HBq := Aside0.mk (show Below w0.heap.size w0 (World.setCell (World.setCell (World.setCell (World.setCell (World.setCell w10 ⟨go8, (a1 : Int).toNat * 5, none⟩ (Value.int .i64 ((rd_T25 l0 a2).f0))) ⟨go8, (a1 : Int).toNat * 5 + 1, none⟩ (Value.int .i64 ((rd_T25 l0 a2).f1.f0))) ⟨go8, (a1 : Int).toNat * 5 + 2, none⟩ (Value.int .i64 ((rd_T25 l0 a2).f1.f1))) ⟨go8, (a1 : Int).toNat * 5 + 3, none⟩ (Value.int .i64 ((rd_T25 l0 a2).f1.f2))) ⟨go8, (a1 : Int).toNat * 5 + 4, none⟩ (Value.int .i64 ((rd_T25 l0 a2).f1.f3))) from (below_set (below_set (below_set (below_set (below_set HB.out GB8.out) GB8.out) GB8.out) GB8.out) GB8.out))
 have HKq := Aside0.mk (show Kept w (World.setCell (World.setCell (World.setCell (World.setCell (World.setCell w10 ⟨go8, (a1 : Int).toNat * 5, none⟩ (Value.int .i64 ((rd_T25 l0 a2).f0))) ⟨go8, (a1 : Int).toNat * 5 + 1, none⟩ (Value.int .i64 ((rd_T25 l0 a2).f1.f0))) ⟨go8, (a1 : Int).toNat * 5 + 2, none⟩ (Value.int .i64 ((rd_T25 l0 a2).f1.f1))) ⟨go8, (a1 : Int).toNat * 5 + 3, none⟩ (Value.int .i64 ((rd_T25 l0 a2).f1.f2))) ⟨go8, (a1 : Int).toNat * 5 + 4, none⟩ (Value.int .i64 ((rd_T25 l0 a2).f1.f3))) (fun k_ => P0_ k_) from (Kept.setCell (Kept.setCell (Kept.setCell (Kept.setCell (Kept.setCell HK.out HMgo8.out _) HMgo8.out _) HMgo8.out _) HMgo8.out _) HMgo8.out _))
 have HQq := Aside0.mk (show Kd.R k25 25 (World.setCell (World.setCell (World.setCell (World.setCell (World.setCell (World.setCell (World.setCell (World.setCell (World.setCell (World.setCell w10 ⟨go8, (a1 : Int).toNat * 5, none⟩ (Value.int .i64 ((rd_T25 l0 a2).f0))) ⟨go8, (a1 : Int).toNat * 5 + 1, none⟩ (Value.int .i64 ((rd_T25 l0 a2).f1.f0))) ⟨go8, (a1 : Int).toNat * 5 + 2, none⟩ (Value.int .i64 ((rd_T25 l0 a2).f1.f1))) ⟨go8, (a1 : Int).toNat * 5 + 3, none⟩ (Value.int .i64 ((rd_T25 l0 a2).f1.f2))) ⟨go8, (a1 : Int).toNat * 5 + 4, none⟩ (Value.int .i64 ((rd_T25 l0 a2).f1.f3))) ⟨go8, (a2 : Int).toNat * 5, none⟩ (Value.int .i64 ((rd_T25 l0 a1).f0))) ⟨go8, (a2 : Int).toNat * 5 + 1, none⟩ (Value.int .i64 ((rd_T25 l0 a1).f1.f0))) ⟨go8, (a2 : Int).toNat * 5 + 2, none⟩ (Value.int .i64 ((rd_T25 l0 a1).f1.f1))) ⟨go8, (a2 : Int).toNat * 5 + 3, none⟩ (Value.int .i64 ((rd_T25 l0 a1).f1.f2))) ⟨go8, (a2 : Int).toNat * 5 + 4, none⟩ (Value.int .i64 ((rd_T25 l0 a1).f1.f3))) _ _ _ _ from HQ13.out)
 have hxq0 := (show ∃ u_, World.cell? (World.setCell (World.setCell (World.setCell (World.setCell (World.setCell w10 ⟨go8, (a1 : Int).toNat * 5, none⟩ (Value.int .i64 ((rd_T25 l0 a2).f0))) ⟨go8, (a1 : Int).toNat * 5 + 1, none⟩ (Value.int .i64 ((rd_T25 l0 a2).f1.f0))) ⟨go8, (a1 : Int).toNat * 5 + 2, none⟩ (Value.int .i64 ((rd_T25 l0 a2).f1.f1))) ⟨go8, (a1 : Int).toNat * 5 + 3, none⟩ (Value.int .i64 ((rd_T25 l0 a2).f1.f2))) ⟨go8, (a1 : Int).toNat * 5 + 4, none⟩ (Value.int .i64 ((rd_T25 l0 a2).f1.f3))) ⟨go8, (a2 : Int).toNat * 5, none⟩ = some u_ from ⟨_, hx9_0⟩)
 have hfq0 := (show World.frozen? (World.setCell (World.setCell (World.setCell (World.setCell (World.setCell w10 ⟨go8, (a1 : Int).toNat * 5, none⟩ (Value.int .i64 ((rd_T25 l0 a2).f0))) ⟨go8, (a1 : Int).toNat * 5 + 1, none⟩ (Value.int .i64 ((rd_T25 l0 a2).f1.f0))) ⟨go8, (a1 : Int).toNat * 5 + 2, none⟩ (Value.int .i64 ((rd_T25 l0 a2).f1.f1))) ⟨go8, (a1 : Int).toNat * 5 + 3, none⟩ (Value.int .i64 ((rd_T25 l0 a2).f1.f2))) ⟨go8, (a1 : Int).toNat * 5 + 4, none⟩ (Value.int .i64 ((rd_T25 l0 a2).f1.f3))) ⟨go8, (a2 : Int).toNat * 5, none⟩ = false from hf9_0)
 have hxq1 := (show ∃ u_, World.cell? (World.setCell (World.setCell (World.setCell (World.setCell (World.setCell w10 ⟨go8, (a1 : Int).toNat * 5, none⟩ (Value.int .i64 ((rd_T25 l0 a2).f0))) ⟨go8, (a1 : Int).toNat * 5 + 1, none⟩ (Value.int .i64 ((rd_T25 l0 a2).f1.f0))) ⟨go8, (a1 : Int).toNat * 5 + 2, none⟩ (Value.int .i64 ((rd_T25 l0 a2).f1.f1))) ⟨go8, (a1 : Int).toNat * 5 + 3, none⟩ (Value.int .i64 ((rd_T25 l0 a2).f1.f2))) ⟨go8, (a1 : Int).toNat * 5 + 4, none⟩ (Value.int .i64 ((rd_T25 l0 a2).f1.f3))) ⟨go8, (a2 : Int).toNat * 5 + 1, none⟩ = some u_ from ⟨_, hx9_1⟩)
 have hfq1 := (show World.frozen? (World.setCell (World.setCell (World.setCell (World.setCell (World.setCell w10 ⟨go8, (a1 : Int).toNat * 5, none⟩ (Value.int .i64 ((rd_T25 l0 a2).f0))) ⟨go8, (a1 : Int).toNat * 5 + 1, none⟩ (Value.int .i64 ((rd_T25 l0 a2).f1.f0))) ⟨go8, (a1 : Int).toNat * 5 + 2, none⟩ (Value.int .i64 ((rd_T25 l0 a2).f1.f1))) ⟨go8, (a1 : Int).toNat * 5 + 3, none⟩ (Value.int .i64 ((rd_T25 l0 a2).f1.f2))) ⟨go8, (a1 : Int).toNat * 5 + 4, none⟩ (Value.int .i64 ((rd_T25 l0 a2).f1.f3))) ⟨go8, (a2 : Int).toNat * 5 + 1, none⟩ = false from hf9_1)
 have hxq2 := (show ∃ u_, World.cell? (World.setCell (World.setCell (World.setCell (World.setCell (World.setCell w10 ⟨go8, (a1 : Int).toNat * 5, none⟩ (Value.int .i64 ((rd_T25 l0 a2).f0))) ⟨go8, (a1 : Int).toNat * 5 + 1, none⟩ (Value.int .i64 ((rd_T25 l0 a2).f1.f0))) ⟨go8, (a1 : Int).toNat * 5 + 2, none⟩ (Value.int .i64 ((rd_T25 l0 a2).f1.f1))) ⟨go8, (a1 : Int).toNat * 5 + 3, none⟩ (Value.int .i64 ((rd_T25 l0 a2).f1.f2))) ⟨go8, (a1 : Int).toNat * 5 + 4, none⟩ (Value.int .i64 ((rd_T25 l0 a2).f1.f3))) ⟨go8, (a2 : Int).toNat * 5 + 2, none⟩ = some u_ from ⟨_, hx9_2⟩)
 have hfq2 := (show World.frozen? (World.setCell (World.setCell (World.setCell (World.setCell (World.setCell w10 ⟨go8, (a1 : Int).toNat * 5, none⟩ (Value.int .i64 ((rd_T25 l0 a2).f0))) ⟨go8, (a1 : Int).toNat * 5 + 1, none⟩ (Value.int .i64 ((rd_T25 l0 a2).f1.f0))) ⟨go8, (a1 : Int).toNat * 5 + 2, none⟩ (Value.int .i64 ((rd_T25 l0 a2).f1.f1))) ⟨go8, (a1 : Int).toNat * 5 + 3, none⟩ (Value.int .i64 ((rd_T25 l0 a2).f1.f2))) ⟨go8, (a1 : Int).toNat * 5 + 4, none⟩ (Value.int .i64 ((rd_T25 l0 a2).f1.f3))) ⟨go8, (a2 : Int).toNat * 5 + 2, none⟩ = false from hf9_2)
 have hxq3 := (show ∃ u_, World.cell? (World.setCell (World.setCell (World.setCell (World.setCell (World.setCell w10 ⟨go8, (a1 : Int).toNat * 5, none⟩ (Value.int .i64 ((rd_T25 l0 a2).f0))) ⟨go8, (a1 : Int).toNat * 5 + 1, none⟩ (Value.int .i64 ((rd_T25 l0 a2).f1.f0))) ⟨go8, (a1 : Int).toNat * 5 + 2, none⟩ (Value.int .i64 ((rd_T25 l0 a2).f1.f1))) ⟨go8, (a1 : Int).toNat * 5 + 3, none⟩ (Value.int .i64 ((rd_T25 l0 a2).f1.f2))) ⟨go8, (a1 : Int).toNat * 5 + 4, none⟩ (Value.int .i64 ((rd_T25 l0 a2).f1.f3))) ⟨go8, (a2 : Int).toNat * 5 + 3, none⟩ = some u_ from ⟨_, hx9_3⟩)
 have hfq3 := (show World.frozen? (World.setCell (World.setCell (World.setCell (World.setCell (World.setCell w10 ⟨go8, (a1 : Int).toNat * 5, none⟩ (Value.int .i64 ((rd_T25 l0 a2).f0))) ⟨go8, (a1 : Int).toNat * 5 + 1, none⟩ (Value.int .i64 ((rd_T25 l0 a2).f1.f0))) ⟨go8, (a1 : Int).toNat * 5 + 2, none⟩ (Value.int .i64 ((rd_T25 l0 a2).f1.f1))) ⟨go8, (a1 : Int).toNat * 5 + 3, none⟩ (Value.int .i64 ((rd_T25 l0 a2).f1.f2))) ⟨go8, (a1 : Int).toNat * 5 + 4, none⟩ (Value.int .i64 ((rd_T25 l0 a2).f1.f3))) ⟨go8, (a2 : Int).toNat * 5 + 3, none⟩ = false from hf9_3)
 have hxq4 := (show ∃ u_, World.cell? (World.setCell (World.setCell (World.setCell (World.setCell (World.setCell w10 ⟨go8, (a1 : Int).toNat * 5, none⟩ (Value.int .i64 ((rd_T25 l0 a2).f0))) ⟨go8, (a1 : Int).toNat * 5 + 1, none⟩ (Value.int .i64 ((rd_T25 l0 a2).f1.f0))) ⟨go8, (a1 : Int).toNat * 5 + 2, none⟩ (Value.int .i64 ((rd_T25 l0 a2).f1.f1))) ⟨go8, (a1 : Int).toNat * 5 + 3, none⟩ (Value.int .i64 ((rd_T25 l0 a2).f1.f2))) ⟨go8, (a1 : Int).toNat * 5 + 4, none⟩ (Value.int .i64 ((rd_T25 l0 a2).f1.f3))) ⟨go8, (a2 : Int).toNat * 5 + 4, none⟩ = some u_ from ⟨_, hx9_4⟩)
 have hfq4 := (show World.frozen? (World.setCell (World.setCell (World.setCell (World.setCell (World.setCell w10 ⟨go8, (a1 : Int).toNat * 5, none⟩ (Value.int .i64 ((rd_T25 l0 a2).f0))) ⟨go8, (a1 : Int).toNat * 5 + 1, none⟩ (Value.int .i64 ((rd_T25 l0 a2).f1.f0))) ⟨go8, (a1 : Int).toNat * 5 + 2, none⟩ (Value.int .i64 ((rd_T25 l0 a2).f1.f1))) ⟨go8, (a1 : Int).toNat * 5 + 3, none⟩ (Value.int .i64 ((rd_T25 l0 a2).f1.f2))) ⟨go8, (a1 : Int).toNat * 5 + 4, none⟩ (Value.int .i64 ((rd_T25 l0 a2).f1.f3))) ⟨go8, (a2 : Int).toNat * 5 + 4, none⟩ = false from hf9_4)
 clear HB HK HQ13 HQ12 HO0
 generalize (World.setCell (World.setCell (World.setCell (World.setCell (World.setCell w10 ⟨go8, (a1 : Int).toNat * 5, none⟩ (Value.int .i64 ((rd_T25 l0 a2).f0))) ⟨go8, (a1 : Int).toNat * 5 + 1, none⟩ (Value.int .i64 ((rd_T25 l0 a2).f1.f0))) ⟨go8, (a1 : Int).toNat * 5 + 2, none⟩ (Value.int .i64 ((rd_T25 l0 a2).f1.f1))) ⟨go8, (a1 : Int).toNat * 5 + 3, none⟩ (Value.int .i64 ((rd_T25 l0 a2).f1.f2))) ⟨go8, (a1 : Int).toNat * 5 + 4, none⟩ (Value.int .i64 ((rd_T25 l0 a2).f1.f3))) = w13 at HBq HKq HQq hxq0 hfq0 hxq1 hfq1 hxq2 hfq2 hxq3 hfq3 hxq4 hfq4 ⊢
 obtain ⟨uq0, hxq0⟩ := hxq0
 obtain ⟨uq1, hxq1⟩ := hxq1
 obtain ⟨uq2, hxq2⟩ := hxq2
 obtain ⟨uq3, hxq3⟩ := hxq3
 obtain ⟨uq4, hxq4⟩ := hxq4
 have HB := HBq
 have HK := HKq
 have HQ13 := HQq
 refine last_ (i := 15) (N := none) #[true, true, true, true, true, true, true, true, true, true, true, true, true, true, true, true] rfl rfl (one_of HT_.out (by kernel_rfl)) (by decide) (fun K hK => ?_)
 refine skip_ (w1 := ?_) (by rfl) rfl ?_ ?_
 rotate_left
 ·go_simp
  rfl
 refine hK.out _ _ ?_
 clear hK K
 refine done_ (done_of HT_.out (by kernel_rfl)) ?_
 try go_wp2
 first | go_end0 | ((try simp only [Exit.inBlock, Exit.then]); refine bodyPost_ret (results_none rfl _ _ _) rfl ?_)
 exact ⟨by first | rfl | (simp [errW_none, errW_some] <;> rfl) | (simp [*, errW_none, errW_some] <;> rfl), by (with_reducible repeat (first | apply Kd.R_alloc | apply Kd.R_drewN | apply Kd.R_drew)); exact HQ13.out, by repeat (first | (with_reducible first | exact HB.out | apply below_alloc | apply pw_below_drewN | apply below_drew1 | refine below_set ?_ GB8.out | refine below_set ?_ GB8.out | refine below_set ?_ GB8.out | refine below_set ?_ GB8.out | refine below_set ?_ GB8.out | refine below_set ?_ GB8.out | refine below_set ?_ GB8.out | refine below_set ?_ GB8.out | refine below_set ?_ GB8.out | refine below_set ?_ GB8.out) | exact HB.out), by repeat (first | (with_reducible first | exact HK.out | apply Kept.alloc | apply Kept.drewN | apply Kept.drew | refine Kept.setCell ?_ HMgo8.out _ | refine Kept.setCell ?_ HMgo8.out _ | refine Kept.setCell ?_ HMgo8.out _ | refine Kept.setCell ?_ HMgo8.out _ | refine Kept.setCell ?_ HMgo8.out _ | refine Kept.setCell ?_ HMgo8.out _ | refine Kept.setCell ?_ HMgo8.out _ | refine Kept.setCell ?_ HMgo8.out _ | refine Kept.setCell ?_ HMgo8.out _ | refine Kept.setCell ?_ HMgo8.out _) | exact HK.out)⟩

-- its contract: by hand
/-! ### choose_Active: function 8 -/
def choose_Active.f (a0 : ByteArray) : Option (Int × Int × Int × Int × Int × Int) := (journal_Scan.f 300 a0).bind fun s => if s.2 = 0 then (s.1.foldlM (fun (b : Option S25) p => (image_Good.f a0 p.f1.f0 p.f1.f1 p.f1.f2 p.f1.f3).bind fun g => some (if g.1 && (b.all fun q => decide (q.f1.f0 ≤ p.f1.f0)) then some p else b)) none).bind fun b => some (match b with | none => (0, 0, 0, 0, 0, 701) | some p => (p.f0, p.f1.f0, p.f1.f1, p.f1.f2, p.f1.f3, 0)) else some (0, 0, 0, 0, 0, 700)

end Go.Proofs.Ytdijecmpaoabbaa.P
