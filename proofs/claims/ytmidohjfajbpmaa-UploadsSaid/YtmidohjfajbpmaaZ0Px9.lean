-- written by wip/prt.py of this repo, by the kit's print, over contracts that are proved here by hand
import Derived.Test.YtmidohjfajbpmaaZ0Cz
import Derived.Test.YtmidohjfajbpmaaZ0M22
import Derived.Test.YtmidohjfajbpmaaZ0M25
import Derived.Test.YtmidohjfajbpmaaZ0M26
namespace Go.Proofs.Ytmidohjfajbpmaa.P
open Go.RowKit Go.Proofs.YtmidohjfajbpmaaW.PrintWords Go.Proofs.YtmidohjfajbpmaaW.PrintLast Go.Proofs.YtmidohjfajbpmaaW.PrintMore
attribute [local go_sem] max2_int min2_int max_two min_two max_three min_three max_four min_four   -- for this text's walks alone
set_option linter.unusedVariables false
set_option linter.unusedSimpArgs false

attribute [local go_sem high] eqA68
/-! ### skiffref16_Upload: function 11 -/
mutual
def skiffref16_Upload.j0 : Nat → ByteArray → Int → Int → Bool → Int → Int → Int → Int → Int → List (S68) → Option (Int × Int × Int × Int × Int × (List (S68)) × ByteArray × Int)
 | 0, _, _, _, _, _, _, _, _, _, _ => none
 | k + 1, x0, x2, x3, x41, x278000, x278001, x278002, x278003, x278004, x278005 => if x41 = true then (some (0, 0, 0, 0, 0, ([] : List (S68)), (⟨#[]⟩ : ByteArray), 2000)) else ((skiffref1_Active.f k x0).bind fun bt284 => (if bt284.2.2.2.2.2 = 0 then (if x278000 = 0 then (skiffref16_Upload.j1 k x0 x2 x3 0 x278000 x278001 x278002 x278003 x278004 x278005 bt284.1 bt284.2.1 bt284.2.2.1 bt284.2.2.2.1 bt284.2.2.2.2.1) else (skiffref16_Upload.j1 k x0 x2 x3 x278002 x278000 x278001 x278002 x278003 x278004 x278005 bt284.1 bt284.2.1 bt284.2.2.1 bt284.2.2.2.1 bt284.2.2.2.2.1)) else ((skiffref16_failed.f 2).bind fun bt291 => (some (bt291.1, bt291.2.1, bt291.2.2.1, bt291.2.2.2.1, bt291.2.2.2.2.1, bt291.2.2.2.2.2, (⟨#[]⟩ : ByteArray), 0)))))
def skiffref16_Upload.j1 : Nat → ByteArray → Int → Int → Int → Int → Int → Int → Int → Int → List (S68) → Int → Int → Int → Int → Int → Option (Int × Int × Int × Int × Int × (List (S68)) × ByteArray × Int)
 | 0, _, _, _, _, _, _, _, _, _, _, _, _, _, _, _ => none
 | k + 1, x0, x2, x3, x13, x278000, x278001, x278002, x278003, x278004, x278005, x291000, x291001, x291002, x291003, x291004 => if x2 = x13 then ((skiffref1_ImageOf.f x0 x291001 x291002 x291003 x291004).bind fun bt307 => (if 0 ≤ (mn (bt307.1.size : Int) (wrap64 (32 * x13))) then (if (mn (bt307.1.size : Int) (wrap64 (32 * x13))) ≤ (mn (bt307.1.size : Int) (wrap64 ((mn (bt307.1.size : Int) (wrap64 (32 * x13))) + x3))) then (if (mn (bt307.1.size : Int) (wrap64 ((mn (bt307.1.size : Int) (wrap64 (32 * x13))) + x3))) ≤ (bt307.1.size : Int) then (if ((bt307.1.extract ((mn (bt307.1.size : Int) (wrap64 (32 * x13))) : Int).toNat ((mn (bt307.1.size : Int) (wrap64 ((mn (bt307.1.size : Int) (wrap64 (32 * x13))) + x3))) : Int).toNat).size : Int) < 32 then ((skiffref16_NewDevice.f).bind fun bt309 => (some (bt309.1, bt309.2.1, bt309.2.2.1, bt309.2.2.2.1, bt309.2.2.2.2.1, bt309.2.2.2.2.2, bt307.1.extract ((mn (bt307.1.size : Int) (wrap64 (32 * x13))) : Int).toNat ((mn (bt307.1.size : Int) (wrap64 ((mn (bt307.1.size : Int) (wrap64 (32 * x13))) + x3))) : Int).toNat, 0))) else ((skiffref16_copyDevice.f x278000 x278001 x278002 x278003 x278004 x278005).bind fun bt317 => (some (6, bt317.2.1, mn (wrap64 (x13 + 1)) 16, bt317.2.2.2.1, bt317.2.2.2.2.1, bt317.2.2.2.2.2, bt307.1.extract ((mn (bt307.1.size : Int) (wrap64 (32 * x13))) : Int).toNat ((mn (bt307.1.size : Int) (wrap64 ((mn (bt307.1.size : Int) (wrap64 (32 * x13))) + x3))) : Int).toNat, 0)))) else (none)) else (none)) else (none))) else ((skiffref16_failed.f 4).bind fun bt299 => (some (bt299.1, bt299.2.1, bt299.2.2.1, bt299.2.2.2.1, bt299.2.2.2.2.1, bt299.2.2.2.2.2, (⟨#[]⟩ : ByteArray), 0)))
end
def skiffref16_Upload.f (k : Nat) (a0 : ByteArray) (a1_0 : Int) (a1_1 : Int) (a1_2 : Int) (a1_3 : Int) (a1_4 : Int) (l1_5 : List (S68)) (a2 : Int) (a3 : Int) : Option (Int × Int × Int × Int × Int × (List (S68)) × ByteArray × Int) := (skiffref16_both.f k a0 a1_0 a1_1 a1_2 a1_3 a1_4 l1_5).bind fun t279 => (if t279 = true then (if a1_0 = 0 then ((skiffref16_upTo.f a2 0 65535).bind fun t280 => (if t280 = true then ((skiffref16_upTo.f a3 0 32).bind fun t281 => (skiffref16_Upload.j0 k a0 a2 a3 (!t281) a1_0 a1_1 a1_2 a1_3 a1_4 l1_5)) else (skiffref16_Upload.j0 k a0 a2 a3 true a1_0 a1_1 a1_2 a1_3 a1_4 l1_5))) else (if a1_0 = 6 then ((skiffref16_upTo.f a2 0 65535).bind fun t282 => (if t282 = true then ((skiffref16_upTo.f a3 0 32).bind fun t283 => (skiffref16_Upload.j0 k a0 a2 a3 (!t283) a1_0 a1_1 a1_2 a1_3 a1_4 l1_5)) else (skiffref16_Upload.j0 k a0 a2 a3 true a1_0 a1_1 a1_2 a1_3 a1_4 l1_5))) else (skiffref16_Upload.j0 k a0 a2 a3 true a1_0 a1_1 a1_2 a1_3 a1_4 l1_5))) else (skiffref16_Upload.j0 k a0 a2 a3 true a1_0 a1_1 a1_2 a1_3 a1_4 l1_5))
set_option maxHeartbeats 8000000 in
set_option maxRecDepth 100000 in
theorem skiffref16_Upload.calls (k : Nat) (a0 : ByteArray) (a1_0 : Int) (a1_1 : Int) (a1_2 : Int) (a1_3 : Int) (a1_4 : Int) (A1_5 : Option Addr) (c1_5 : Nat) (l1_5 : List (S68)) (a2 : Int) (a3 : Int) (r1 : Int) (r2 : Int) (r3 : Int) (r4 : Int) (r5 : Int) (r6 : List (S68)) (r7 : ByteArray) (r8 : Int) (w : World) (hr1_5 : Kd.C k68 w A1_5 l1_5.length l1_5) (hc1_5 : l1_5.length ≤ c1_5) (h : skiffref16_Upload.f k a0 a1_0 a1_1 a1_2 a1_3 a1_4 l1_5 a2 a3 = some (r1, r2, r3, r4, r5, r6, r7, r8)) :
  Calls Try.prog 11 #[.string a0, .agg #[.int .i64 a1_0, .int .i64 a1_1, .int .i64 a1_2, .int .i64 a1_3, .int .i64 a1_4, .slice A1_5 l1_5.length c1_5], .int .i64 a2, .int .i64 a3] w fun e w' => ∃ v5_ : Value, e = .returned (.tuple #[.agg #[.int .i64 r1, .int .i64 r2, .int .i64 r3, .int .i64 r4, .int .i64 r5, v5_], .string r7, .int .i64 r8]) ∧ Kd.R k68 68 w' w.heap.size (fun _ => True) v5_ r6 ∧ Below w.heap.size w w' := by
 have hu24 := Try.underlying24
 have hu43 := Try.underlying43
 have hu41 := Try.underlying41
 have HR1_5 := Aside0.mk hr1_5
 have HC1_5 := Aside0.mk hc1_5
 clear hr1_5 hc1_5
 have HB := Aside0.mk (Below.refl w.heap.size w)
 have H : ((skiffref16_both.f k a0 a1_0 a1_1 a1_2 a1_3 a1_4 l1_5).bind fun t279 => (if t279 = true then (if a1_0 = 0 then ((skiffref16_upTo.f a2 0 65535).bind fun t280 => (if t280 = true then ((skiffref16_upTo.f a3 0 32).bind fun t281 => (skiffref16_Upload.j0 k a0 a2 a3 (!t281) a1_0 a1_1 a1_2 a1_3 a1_4 l1_5)) else (skiffref16_Upload.j0 k a0 a2 a3 true a1_0 a1_1 a1_2 a1_3 a1_4 l1_5))) else (if a1_0 = 6 then ((skiffref16_upTo.f a2 0 65535).bind fun t282 => (if t282 = true then ((skiffref16_upTo.f a3 0 32).bind fun t283 => (skiffref16_Upload.j0 k a0 a2 a3 (!t283) a1_0 a1_1 a1_2 a1_3 a1_4 l1_5)) else (skiffref16_Upload.j0 k a0 a2 a3 true a1_0 a1_1 a1_2 a1_3 a1_4 l1_5))) else (skiffref16_Upload.j0 k a0 a2 a3 true a1_0 a1_1 a1_2 a1_3 a1_4 l1_5))) else (skiffref16_Upload.j0 k a0 a2 a3 true a1_0 a1_1 a1_2 a1_3 a1_4 l1_5))) = some (r1, r2, r3, r4, r5, r6, r7, r8) := h
 clear h
 have HC5 := Aside0.mk H
 clear H
 go_enter Try.func11, Try.ntmps11
 go_upto_region 1 with (first | ((with_reducible refine gate_dst (N := 5) rfl ?_); refine box_event ?hg (N := 5) ?hd (cs := #[.int .i64 a1_0, .int .i64 a1_1, .int .i64 a1_2, .int .i64 a1_3, .int .i64 a1_4, .slice A1_5 l1_5.length c1_5]) (t := 24) ?hr ?_; (case hd => rfl); (case hg => rfl); (case hr => first | (go_simp; done) | (go_simp; rfl)); intro gb277 hg w6 hbox hb; have n0_ := Aside0.mk (below_step (kb HB.out) hb); have n1_ := Aside0.mk (hbox); have n2_ := Aside0.mk ((kz hg (below_size (kb HB.out)) : w.heap.size ≤ gb277)); have n3_ := Aside0.mk ((kz hg (below_size (kb HB.out)) : w.heap.size ≤ gb277)); clear HB; have HB := n0_; have BK277 := n1_; have GW277 := n2_; have GE277 := n3_; clear n0_ n1_ n2_ n3_; clear hb hbox hg) | ((with_reducible refine gate_dst (N := 8) rfl ?_); refine box_event ?hg (N := 8) ?hd (cs := #[.int .i64 0, .int .i64 0, .int .i64 0, .int .i64 0, .int .i64 0, .slice none 0 0]) (t := 24) ?hr ?_; (case hd => rfl); (case hg => rfl); (case hr => first | (go_simp; done) | (go_simp; rfl)); intro gb278 hg w7 hbox hb; have n0_ := Aside0.mk (kL BK277.out hb); have n1_ := Aside0.mk (below_step (kb1 HB.out GE277.out) hb); have n2_ := Aside0.mk (hbox); have n3_ := Aside0.mk ((kz hg (below_size (kb1 HB.out GE277.out)) : w.heap.size ≤ gb278)); have n4_ := Aside0.mk ((kz hg (below_size (kb1 HB.out GE277.out)) : w.heap.size ≤ gb278)); have n5_ := Aside0.mk ((kN hg BK277.out : gb277 ≠ gb278)); have n6_ := Aside0.mk (((kN hg BK277.out).symm : gb278 ≠ gb277)); clear BK277; clear HB; have BK277 := n0_; have HB := n1_; have BK278 := n2_; have GW278 := n3_; have GE278 := n4_; have NB277_278 := n5_; have NB278_277 := n6_; clear n0_ n1_ n2_ n3_ n4_ n5_ n6_; clear hb hbox hg))
 (try simp only [Act.put, List.setIfInBounds_toArray, List.set_cons_zero, List.set_cons_succ])
 go_cut [41] (fun v41 wc => ∃ (kq : Nat) (x41_4 : Bool), v41 = .bool x41_4 ∧ Aside0 (skiffref16_Upload.j0 kq a0 a2 a3 x41_4 a1_0 a1_1 a1_2 a1_3 a1_4 l1_5 = some (r1, r2, r3, r4, r5, r6, r7, r8)) ∧ Aside0 (kq ≤ k) ∧ Aside0 (wc.heap[gb277]? = some (.cells #[.int .i64 a1_0, .int .i64 a1_1, .int .i64 a1_2, .int .i64 a1_3, .int .i64 a1_4, (.slice A1_5 l1_5.length c1_5)] 24 (0, 0))) ∧ Aside0 (wc.heap[gb278]? = some (.cells #[.int .i64 0, .int .i64 0, .int .i64 0, .int .i64 0, .int .i64 0, (.slice none 0 0)] 24 (0, 0))) ∧ Aside0 (Below w.heap.size w wc))
 case first =>
  have H := HC5.out
  clear HC5
  replace H := Option.bind_eq_some_iff.mp H
  obtain ⟨t279, A80, H⟩ := H
  replace H : (if t279 = true then (if a1_0 = 0 then ((skiffref16_upTo.f a2 0 65535).bind fun t280 => (if t280 = true then ((skiffref16_upTo.f a3 0 32).bind fun t281 => (skiffref16_Upload.j0 k a0 a2 a3 (!t281) a1_0 a1_1 a1_2 a1_3 a1_4 l1_5)) else (skiffref16_Upload.j0 k a0 a2 a3 true a1_0 a1_1 a1_2 a1_3 a1_4 l1_5))) else (if a1_0 = 6 then ((skiffref16_upTo.f a2 0 65535).bind fun t282 => (if t282 = true then ((skiffref16_upTo.f a3 0 32).bind fun t283 => (skiffref16_Upload.j0 k a0 a2 a3 (!t283) a1_0 a1_1 a1_2 a1_3 a1_4 l1_5)) else (skiffref16_Upload.j0 k a0 a2 a3 true a1_0 a1_1 a1_2 a1_3 a1_4 l1_5))) else (skiffref16_Upload.j0 k a0 a2 a3 true a1_0 a1_1 a1_2 a1_3 a1_4 l1_5))) else (skiffref16_Upload.j0 k a0 a2 a3 true a1_0 a1_1 a1_2 a1_3 a1_4 l1_5)) = some (r1, r2, r3, r4, r5, r6, r7, r8) := H
  have A8 := Aside0.mk A80
  clear A80
  by_cases c9 : t279 = true
  ·subst c9
   have H1 : (if a1_0 = 0 then ((skiffref16_upTo.f a2 0 65535).bind fun t280 => (if t280 = true then ((skiffref16_upTo.f a3 0 32).bind fun t281 => (skiffref16_Upload.j0 k a0 a2 a3 (!t281) a1_0 a1_1 a1_2 a1_3 a1_4 l1_5)) else (skiffref16_Upload.j0 k a0 a2 a3 true a1_0 a1_1 a1_2 a1_3 a1_4 l1_5))) else (if a1_0 = 6 then ((skiffref16_upTo.f a2 0 65535).bind fun t282 => (if t282 = true then ((skiffref16_upTo.f a3 0 32).bind fun t283 => (skiffref16_Upload.j0 k a0 a2 a3 (!t283) a1_0 a1_1 a1_2 a1_3 a1_4 l1_5)) else (skiffref16_Upload.j0 k a0 a2 a3 true a1_0 a1_1 a1_2 a1_3 a1_4 l1_5))) else (skiffref16_Upload.j0 k a0 a2 a3 true a1_0 a1_1 a1_2 a1_3 a1_4 l1_5))) = some (r1, r2, r3, r4, r5, r6, r7, r8) := by rw [if_pos rfl] at H; exact H
   clear H; have H := H1; clear H1
   by_cases c10 : a1_0 = 0
   ·rw [if_pos c10] at H
    have c10b0 : (a1_0 == 0) = true := beq_iff_eq.mpr c10
    have c10b1 : (a1_0 != 0) = false := bne_eq_false_iff_eq.mpr c10
    clear c10
    (first | rw [c10b0] | rw [c10b1] | (simp only [i64_w, i32_w]; rw [c10b0]) | skip)
    replace H := Option.bind_eq_some_iff.mp H
    obtain ⟨t280, A110, H⟩ := H
    replace H : (if t280 = true then ((skiffref16_upTo.f a3 0 32).bind fun t281 => (skiffref16_Upload.j0 k a0 a2 a3 (!t281) a1_0 a1_1 a1_2 a1_3 a1_4 l1_5)) else (skiffref16_Upload.j0 k a0 a2 a3 true a1_0 a1_1 a1_2 a1_3 a1_4 l1_5)) = some (r1, r2, r3, r4, r5, r6, r7, r8) := H
    have A11 := Aside0.mk A110
    clear A110
    by_cases c12 : t280 = true
    ·subst c12
     have H1 : ((skiffref16_upTo.f a3 0 32).bind fun t281 => (skiffref16_Upload.j0 k a0 a2 a3 (!t281) a1_0 a1_1 a1_2 a1_3 a1_4 l1_5)) = some (r1, r2, r3, r4, r5, r6, r7, r8) := by rw [if_pos rfl] at H; exact H
     clear H; have H := H1; clear H1
     replace H := Option.bind_eq_some_iff.mp H
     obtain ⟨t281, A130, H⟩ := H
     replace H : (skiffref16_Upload.j0 k a0 a2 a3 (!t281) a1_0 a1_1 a1_2 a1_3 a1_4 l1_5) = some (r1, r2, r3, r4, r5, r6, r7, r8) := H
     have A13 := Aside0.mk A130
     clear A130
     have H' := Aside0.mk H
     clear H
     have hnb14 := NB277_278.out
     have hnc14 := NB278_277.out
     obtain ⟨hcz15_0, hcz15_1, hcz15_2, hcz15_3, hcz15_4, hcz15_5⟩ := kc6 BK277.out
     obtain ⟨hfz15_0, hfz15_1, hfz15_2, hfz15_3, hfz15_4, hfz15_5⟩ := kf6 BK277.out
     go_wp2_with (first | ((with_reducible refine gate_callee (f := 30) rfl ?_); refine goesL_ (some 20) rfl rfl Try.func30 (by kernel_rfl) rfl #[.string a0, .agg #[.int .i64 a1_0, .int .i64 a1_1, .int .i64 a1_2, .int .i64 a1_3, .int .i64 a1_4, .slice A1_5 l1_5.length c1_5]] rfl ka ?_; (with_reducible refine (skiffref16_both.calls k a0 a1_0 a1_1 a1_2 a1_3 a1_4 _ _ l1_5 true _ ?side1 ?side2 A8.out).mono ?_); (case side1 => exact kC (Kd.C_below HR1_5.out HB.out)); (case side2 => exact HC1_5.out); rintro e w16 ⟨rfl, hb⟩; refine ⟨_, rfl, ?_⟩; have n0_ := Aside0.mk (kL BK277.out hb); have n1_ := Aside0.mk (kL BK278.out hb); have n2_ := Aside0.mk (below_step (kb2 HB.out GE277.out GE278.out) hb); clear BK277; clear BK278; clear HB; have BK277 := n0_; have BK278 := n1_; have HB := n2_; clear n0_ n1_ n2_; (try clear hb); (try clear hb2); (try clear hk); (try clear hi); obtain ⟨hcz17_0, hcz17_1, hcz17_2, hcz17_3, hcz17_4, hcz17_5⟩ := kc6 BK277.out; obtain ⟨hfz17_0, hfz17_1, hfz17_2, hfz17_3, hfz17_4, hfz17_5⟩ := kf6 BK277.out) | (go_at_call 31; (with_reducible refine (skiffref16_upTo.calls a2 0 65535 true _ A11.out).mono ?_); rintro e w' ⟨rfl, ⟨nd, rfl⟩⟩) | (go_at_call 31; (with_reducible refine (skiffref16_upTo.calls a3 0 32 t281 _ A13.out).mono ?_); rintro e w' ⟨rfl, ⟨nd, rfl⟩⟩))
     go_meet
     case rel => exact ⟨_, (!t281), (by first | rfl | (simp; done) | (simp [*]; done)), H', ⟨by first | omega | exact Nat.le_refl _⟩, ⟨kB BK277.out⟩, ⟨kB BK278.out⟩, ⟨kb2 HB.out GE277.out GE278.out⟩⟩
    ·replace c12 := Bool.eq_false_iff.mpr c12
     subst c12
     have H1 : (skiffref16_Upload.j0 k a0 a2 a3 true a1_0 a1_1 a1_2 a1_3 a1_4 l1_5) = some (r1, r2, r3, r4, r5, r6, r7, r8) := by rw [if_neg (show ¬ (false = true) by decide)] at H; exact H
     clear H; have H := H1; clear H1
     have H' := Aside0.mk H
     clear H
     have hnb18 := NB277_278.out
     have hnc18 := NB278_277.out
     obtain ⟨hcz19_0, hcz19_1, hcz19_2, hcz19_3, hcz19_4, hcz19_5⟩ := kc6 BK277.out
     obtain ⟨hfz19_0, hfz19_1, hfz19_2, hfz19_3, hfz19_4, hfz19_5⟩ := kf6 BK277.out
     go_wp2_with (first | ((with_reducible refine gate_callee (f := 30) rfl ?_); refine goesL_ (some 20) rfl rfl Try.func30 (by kernel_rfl) rfl #[.string a0, .agg #[.int .i64 a1_0, .int .i64 a1_1, .int .i64 a1_2, .int .i64 a1_3, .int .i64 a1_4, .slice A1_5 l1_5.length c1_5]] rfl ka ?_; (with_reducible refine (skiffref16_both.calls k a0 a1_0 a1_1 a1_2 a1_3 a1_4 _ _ l1_5 true _ ?side1 ?side2 A8.out).mono ?_); (case side1 => exact kC (Kd.C_below HR1_5.out HB.out)); (case side2 => exact HC1_5.out); rintro e w20 ⟨rfl, hb⟩; refine ⟨_, rfl, ?_⟩; have n0_ := Aside0.mk (kL BK277.out hb); have n1_ := Aside0.mk (kL BK278.out hb); have n2_ := Aside0.mk (below_step (kb2 HB.out GE277.out GE278.out) hb); clear BK277; clear BK278; clear HB; have BK277 := n0_; have BK278 := n1_; have HB := n2_; clear n0_ n1_ n2_; (try clear hb); (try clear hb2); (try clear hk); (try clear hi); obtain ⟨hcz21_0, hcz21_1, hcz21_2, hcz21_3, hcz21_4, hcz21_5⟩ := kc6 BK277.out; obtain ⟨hfz21_0, hfz21_1, hfz21_2, hfz21_3, hfz21_4, hfz21_5⟩ := kf6 BK277.out) | (go_at_call 31; (with_reducible refine (skiffref16_upTo.calls a2 0 65535 false _ A11.out).mono ?_); rintro e w' ⟨rfl, ⟨nd, rfl⟩⟩))
     go_meet
     case rel => exact ⟨_, (true), (by first | rfl | (simp; done) | (simp [*]; done)), H', ⟨by first | omega | exact Nat.le_refl _⟩, ⟨kB BK277.out⟩, ⟨kB BK278.out⟩, ⟨kb2 HB.out GE277.out GE278.out⟩⟩
   ·rw [if_neg c10] at H
    have c10b0 : (a1_0 == 0) = false := beq_eq_false_iff_ne.mpr c10
    have c10b1 : (a1_0 != 0) = true := bne_iff_ne.mpr c10
    (first | rw [c10b0] | rw [c10b1] | (simp only [i64_w, i32_w]; rw [c10b0]) | skip)
    by_cases c22 : a1_0 = 6
    ·rw [if_pos c22] at H
     have c22b0 : (a1_0 == 6) = true := beq_iff_eq.mpr c22
     have c22b1 : (a1_0 != 6) = false := bne_eq_false_iff_eq.mpr c22
     clear c22
     replace H := Option.bind_eq_some_iff.mp H
     obtain ⟨t282, A230, H⟩ := H
     replace H : (if t282 = true then ((skiffref16_upTo.f a3 0 32).bind fun t283 => (skiffref16_Upload.j0 k a0 a2 a3 (!t283) a1_0 a1_1 a1_2 a1_3 a1_4 l1_5)) else (skiffref16_Upload.j0 k a0 a2 a3 true a1_0 a1_1 a1_2 a1_3 a1_4 l1_5)) = some (r1, r2, r3, r4, r5, r6, r7, r8) := H
     have A23 := Aside0.mk A230
     clear A230
     by_cases c24 : t282 = true
     ·subst c24
      have H1 : ((skiffref16_upTo.f a3 0 32).bind fun t283 => (skiffref16_Upload.j0 k a0 a2 a3 (!t283) a1_0 a1_1 a1_2 a1_3 a1_4 l1_5)) = some (r1, r2, r3, r4, r5, r6, r7, r8) := by rw [if_pos rfl] at H; exact H
      clear H; have H := H1; clear H1
      replace H := Option.bind_eq_some_iff.mp H
      obtain ⟨t283, A250, H⟩ := H
      replace H : (skiffref16_Upload.j0 k a0 a2 a3 (!t283) a1_0 a1_1 a1_2 a1_3 a1_4 l1_5) = some (r1, r2, r3, r4, r5, r6, r7, r8) := H
      have A25 := Aside0.mk A250
      clear A250
      have H' := Aside0.mk H
      clear H
      have hnb26 := NB277_278.out
      have hnc26 := NB278_277.out
      obtain ⟨hcz27_0, hcz27_1, hcz27_2, hcz27_3, hcz27_4, hcz27_5⟩ := kc6 BK277.out
      obtain ⟨hfz27_0, hfz27_1, hfz27_2, hfz27_3, hfz27_4, hfz27_5⟩ := kf6 BK277.out
      go_wp2_with (first | ((with_reducible refine gate_callee (f := 30) rfl ?_); refine goesL_ (some 20) rfl rfl Try.func30 (by kernel_rfl) rfl #[.string a0, .agg #[.int .i64 a1_0, .int .i64 a1_1, .int .i64 a1_2, .int .i64 a1_3, .int .i64 a1_4, .slice A1_5 l1_5.length c1_5]] rfl ka ?_; (with_reducible refine (skiffref16_both.calls k a0 a1_0 a1_1 a1_2 a1_3 a1_4 _ _ l1_5 true _ ?side1 ?side2 A8.out).mono ?_); (case side1 => exact kC (Kd.C_below HR1_5.out HB.out)); (case side2 => exact HC1_5.out); rintro e w28 ⟨rfl, hb⟩; refine ⟨_, rfl, ?_⟩; have n0_ := Aside0.mk (kL BK277.out hb); have n1_ := Aside0.mk (kL BK278.out hb); have n2_ := Aside0.mk (below_step (kb2 HB.out GE277.out GE278.out) hb); clear BK277; clear BK278; clear HB; have BK277 := n0_; have BK278 := n1_; have HB := n2_; clear n0_ n1_ n2_; (try clear hb); (try clear hb2); (try clear hk); (try clear hi); obtain ⟨hcz29_0, hcz29_1, hcz29_2, hcz29_3, hcz29_4, hcz29_5⟩ := kc6 BK277.out; obtain ⟨hfz29_0, hfz29_1, hfz29_2, hfz29_3, hfz29_4, hfz29_5⟩ := kf6 BK277.out) | (go_at_call 31; (with_reducible refine (skiffref16_upTo.calls a2 0 65535 true _ A23.out).mono ?_); rintro e w' ⟨rfl, ⟨nd, rfl⟩⟩) | (go_at_call 31; (with_reducible refine (skiffref16_upTo.calls a3 0 32 t283 _ A25.out).mono ?_); rintro e w' ⟨rfl, ⟨nd, rfl⟩⟩))
      go_meet
      case rel => exact ⟨_, (!t283), (by first | rfl | (simp; done) | (simp [*]; done)), H', ⟨by first | omega | exact Nat.le_refl _⟩, ⟨kB BK277.out⟩, ⟨kB BK278.out⟩, ⟨kb2 HB.out GE277.out GE278.out⟩⟩
     ·replace c24 := Bool.eq_false_iff.mpr c24
      subst c24
      have H1 : (skiffref16_Upload.j0 k a0 a2 a3 true a1_0 a1_1 a1_2 a1_3 a1_4 l1_5) = some (r1, r2, r3, r4, r5, r6, r7, r8) := by rw [if_neg (show ¬ (false = true) by decide)] at H; exact H
      clear H; have H := H1; clear H1
      have H' := Aside0.mk H
      clear H
      have hnb30 := NB277_278.out
      have hnc30 := NB278_277.out
      obtain ⟨hcz31_0, hcz31_1, hcz31_2, hcz31_3, hcz31_4, hcz31_5⟩ := kc6 BK277.out
      obtain ⟨hfz31_0, hfz31_1, hfz31_2, hfz31_3, hfz31_4, hfz31_5⟩ := kf6 BK277.out
      go_wp2_with (first | ((with_reducible refine gate_callee (f := 30) rfl ?_); refine goesL_ (some 20) rfl rfl Try.func30 (by kernel_rfl) rfl #[.string a0, .agg #[.int .i64 a1_0, .int .i64 a1_1, .int .i64 a1_2, .int .i64 a1_3, .int .i64 a1_4, .slice A1_5 l1_5.length c1_5]] rfl ka ?_; (with_reducible refine (skiffref16_both.calls k a0 a1_0 a1_1 a1_2 a1_3 a1_4 _ _ l1_5 true _ ?side1 ?side2 A8.out).mono ?_); (case side1 => exact kC (Kd.C_below HR1_5.out HB.out)); (case side2 => exact HC1_5.out); rintro e w32 ⟨rfl, hb⟩; refine ⟨_, rfl, ?_⟩; have n0_ := Aside0.mk (kL BK277.out hb); have n1_ := Aside0.mk (kL BK278.out hb); have n2_ := Aside0.mk (below_step (kb2 HB.out GE277.out GE278.out) hb); clear BK277; clear BK278; clear HB; have BK277 := n0_; have BK278 := n1_; have HB := n2_; clear n0_ n1_ n2_; (try clear hb); (try clear hb2); (try clear hk); (try clear hi); obtain ⟨hcz33_0, hcz33_1, hcz33_2, hcz33_3, hcz33_4, hcz33_5⟩ := kc6 BK277.out; obtain ⟨hfz33_0, hfz33_1, hfz33_2, hfz33_3, hfz33_4, hfz33_5⟩ := kf6 BK277.out) | (go_at_call 31; (with_reducible refine (skiffref16_upTo.calls a2 0 65535 false _ A23.out).mono ?_); rintro e w' ⟨rfl, ⟨nd, rfl⟩⟩))
      go_meet
      case rel => exact ⟨_, (true), (by first | rfl | (simp; done) | (simp [*]; done)), H', ⟨by first | omega | exact Nat.le_refl _⟩, ⟨kB BK277.out⟩, ⟨kB BK278.out⟩, ⟨kb2 HB.out GE277.out GE278.out⟩⟩
    ·rw [if_neg c22] at H
     have c22b0 : (a1_0 == 6) = false := beq_eq_false_iff_ne.mpr c22
     have c22b1 : (a1_0 != 6) = true := bne_iff_ne.mpr c22
     have H' := Aside0.mk H
     clear H
     have hnb34 := NB277_278.out
     have hnc34 := NB278_277.out
     obtain ⟨hcz35_0, hcz35_1, hcz35_2, hcz35_3, hcz35_4, hcz35_5⟩ := kc6 BK277.out
     obtain ⟨hfz35_0, hfz35_1, hfz35_2, hfz35_3, hfz35_4, hfz35_5⟩ := kf6 BK277.out
     go_wp2_with (first | ((with_reducible refine gate_callee (f := 30) rfl ?_); refine goesL_ (some 20) rfl rfl Try.func30 (by kernel_rfl) rfl #[.string a0, .agg #[.int .i64 a1_0, .int .i64 a1_1, .int .i64 a1_2, .int .i64 a1_3, .int .i64 a1_4, .slice A1_5 l1_5.length c1_5]] rfl ka ?_; (with_reducible refine (skiffref16_both.calls k a0 a1_0 a1_1 a1_2 a1_3 a1_4 _ _ l1_5 true _ ?side1 ?side2 A8.out).mono ?_); (case side1 => exact kC (Kd.C_below HR1_5.out HB.out)); (case side2 => exact HC1_5.out); rintro e w36 ⟨rfl, hb⟩; refine ⟨_, rfl, ?_⟩; have n0_ := Aside0.mk (kL BK277.out hb); have n1_ := Aside0.mk (kL BK278.out hb); have n2_ := Aside0.mk (below_step (kb2 HB.out GE277.out GE278.out) hb); clear BK277; clear BK278; clear HB; have BK277 := n0_; have BK278 := n1_; have HB := n2_; clear n0_ n1_ n2_; (try clear hb); (try clear hb2); (try clear hk); (try clear hi); obtain ⟨hcz37_0, hcz37_1, hcz37_2, hcz37_3, hcz37_4, hcz37_5⟩ := kc6 BK277.out; obtain ⟨hfz37_0, hfz37_1, hfz37_2, hfz37_3, hfz37_4, hfz37_5⟩ := kf6 BK277.out))
     go_meet
     case rel => exact ⟨_, (true), (by first | rfl | (simp; done) | (simp [*]; done)), H', ⟨by first | omega | exact Nat.le_refl _⟩, ⟨kB BK277.out⟩, ⟨kB BK278.out⟩, ⟨kb2 HB.out GE277.out GE278.out⟩⟩
  ·replace c9 := Bool.eq_false_iff.mpr c9
   subst c9
   have H1 : (skiffref16_Upload.j0 k a0 a2 a3 true a1_0 a1_1 a1_2 a1_3 a1_4 l1_5) = some (r1, r2, r3, r4, r5, r6, r7, r8) := by rw [if_neg (show ¬ (false = true) by decide)] at H; exact H
   clear H; have H := H1; clear H1
   have H' := Aside0.mk H
   clear H
   have hnb38 := NB277_278.out
   have hnc38 := NB278_277.out
   obtain ⟨hcz39_0, hcz39_1, hcz39_2, hcz39_3, hcz39_4, hcz39_5⟩ := kc6 BK277.out
   obtain ⟨hfz39_0, hfz39_1, hfz39_2, hfz39_3, hfz39_4, hfz39_5⟩ := kf6 BK277.out
   go_wp2_with (first | ((with_reducible refine gate_callee (f := 30) rfl ?_); refine goesL_ (some 20) rfl rfl Try.func30 (by kernel_rfl) rfl #[.string a0, .agg #[.int .i64 a1_0, .int .i64 a1_1, .int .i64 a1_2, .int .i64 a1_3, .int .i64 a1_4, .slice A1_5 l1_5.length c1_5]] rfl ka ?_; (with_reducible refine (skiffref16_both.calls k a0 a1_0 a1_1 a1_2 a1_3 a1_4 _ _ l1_5 false _ ?side1 ?side2 A8.out).mono ?_); (case side1 => exact kC (Kd.C_below HR1_5.out HB.out)); (case side2 => exact HC1_5.out); rintro e w40 ⟨rfl, hb⟩; refine ⟨_, rfl, ?_⟩; have n0_ := Aside0.mk (kL BK277.out hb); have n1_ := Aside0.mk (kL BK278.out hb); have n2_ := Aside0.mk (below_step (kb2 HB.out GE277.out GE278.out) hb); clear BK277; clear BK278; clear HB; have BK277 := n0_; have BK278 := n1_; have HB := n2_; clear n0_ n1_ n2_; (try clear hb); (try clear hb2); (try clear hk); (try clear hi)))
   go_meet
   case rel => exact ⟨_, (true), (by first | rfl | (simp; done) | (simp [*]; done)), H', ⟨by first | omega | exact Nat.le_refl _⟩, ⟨kB BK277.out⟩, ⟨kB BK278.out⟩, ⟨kb2 HB.out GE277.out GE278.out⟩⟩
 case rest =>
  clear HC5
  try clear c1; try clear c2; try clear p2; try clear c3; try clear c9; try clear c10; try clear c10b0; try clear c10b1; try clear c11; try clear c12; try clear c14; try clear c18; try clear c22; try clear c22b0; try clear c22b1; try clear c24; try clear c26; try clear c30; try clear c34; try clear c38; try clear hcz15_0; try clear hcz15_1; try clear hcz15_2; try clear hcz15_3; try clear hcz15_4; try clear hcz15_5; try clear hcz17_0; try clear hcz17_1; try clear hcz17_2; try clear hcz17_3; try clear hcz17_4; try clear hcz17_5; try clear hcz19_0; try clear hcz19_1; try clear hcz19_2; try clear hcz19_3; try clear hcz19_4; try clear hcz19_5; try clear hcz21_0; try clear hcz21_1; try clear hcz21_2; try clear hcz21_3; try clear hcz21_4; try clear hcz21_5; try clear hcz27_0; try clear hcz27_1; try clear hcz27_2; try clear hcz27_3; try clear hcz27_4; try clear hcz27_5; try clear hcz29_0; try clear hcz29_1; try clear hcz29_2; try clear hcz29_3; try clear hcz29_4; try clear hcz29_5; try clear hcz31_0; try clear hcz31_1; try clear hcz31_2; try clear hcz31_3; try clear hcz31_4; try clear hcz31_5; try clear hcz33_0; try clear hcz33_1; try clear hcz33_2; try clear hcz33_3; try clear hcz33_4; try clear hcz33_5; try clear hcz35_0; try clear hcz35_1; try clear hcz35_2; try clear hcz35_3; try clear hcz35_4; try clear hcz35_5; try clear hcz37_0; try clear hcz37_1; try clear hcz37_2; try clear hcz37_3; try clear hcz37_4; try clear hcz37_5; try clear hcz39_0; try clear hcz39_1; try clear hcz39_2; try clear hcz39_3; try clear hcz39_4; try clear hcz39_5; try clear hfz15_0; try clear hfz15_1; try clear hfz15_2; try clear hfz15_3; try clear hfz15_4; try clear hfz15_5; try clear hfz17_0; try clear hfz17_1; try clear hfz17_2; try clear hfz17_3; try clear hfz17_4; try clear hfz17_5; try clear hfz19_0; try clear hfz19_1; try clear hfz19_2; try clear hfz19_3; try clear hfz19_4; try clear hfz19_5; try clear hfz21_0; try clear hfz21_1; try clear hfz21_2; try clear hfz21_3; try clear hfz21_4; try clear hfz21_5; try clear hfz27_0; try clear hfz27_1; try clear hfz27_2; try clear hfz27_3; try clear hfz27_4; try clear hfz27_5; try clear hfz29_0; try clear hfz29_1; try clear hfz29_2; try clear hfz29_3; try clear hfz29_4; try clear hfz29_5; try clear hfz31_0; try clear hfz31_1; try clear hfz31_2; try clear hfz31_3; try clear hfz31_4; try clear hfz31_5; try clear hfz33_0; try clear hfz33_1; try clear hfz33_2; try clear hfz33_3; try clear hfz33_4; try clear hfz33_5; try clear hfz35_0; try clear hfz35_1; try clear hfz35_2; try clear hfz35_3; try clear hfz35_4; try clear hfz35_5; try clear hfz37_0; try clear hfz37_1; try clear hfz37_2; try clear hfz37_3; try clear hfz37_4; try clear hfz37_5; try clear hfz39_0; try clear hfz39_1; try clear hfz39_2; try clear hfz39_3; try clear hfz39_4; try clear hfz39_5
  obtain ⟨kq, x41_4, rfl, HA, HJ4, BK277, BK278, HB⟩ := hcut
  cases kq with
  | zero => exact absurd HA.out (by simp [skiffref16_Upload.j0])
  | succ kj4 =>
   have H := HA.out
   clear HA
   simp only [skiffref16_Upload.j0] at H
   by_cases c41 : x41_4 = true
   ·subst c41
    have H1 : (some (0, 0, 0, 0, 0, ([] : List (S68)), (⟨#[]⟩ : ByteArray), 2000)) = some (r1, r2, r3, r4, r5, r6, r7, r8) := by rw [if_pos rfl] at H; exact H
    clear H; have H := H1; clear H1
    simp only [Option.some.injEq, Prod.mk.injEq] at H
    obtain ⟨rfl, rfl, rfl, rfl, rfl, rfl, rfl, rfl⟩ := H
    have hnb42 := NB278_277.out
    have hnc42 := NB277_278.out
    obtain ⟨hcz43_0, hcz43_1, hcz43_2, hcz43_3, hcz43_4, hcz43_5⟩ := kc6 BK278.out
    obtain ⟨hfz43_0, hfz43_1, hfz43_2, hfz43_3, hfz43_4, hfz43_5⟩ := kf6 BK278.out
    go_wp2
    refine bodyPost_ret (results_ctt rfl _ _ gb278 24 #[.int .i64 0, .int .i64 0, .int .i64 0, .int .i64 0, .int .i64 0, .slice none 0 0] (0, 0) _ rfl (kP6 BK278.out) Try.underlying24 rfl (by kernel_rfl)) rfl ?_
    exact ⟨_, by first | rfl | (simp [errW_none, errW_some] <;> rfl) | (simp [*, errW_none, errW_some] <;> rfl), by first | exact Kd.R_nil _ _ _ _ _ | exact Kd.N_nil _ _ _ _ _ | exact Kd.V_nil _ _ _ _ _ | exact Kd.Q_nil _ _ _ _ _ | exact Kd.S_nil _ _ _ _ _, kb2 HB.out GE277.out GE278.out⟩
   ·replace c41 := Bool.eq_false_iff.mpr c41
    subst c41
    have H1 : ((skiffref1_Active.f kj4 a0).bind fun bt284 => (if bt284.2.2.2.2.2 = 0 then (if a1_0 = 0 then (skiffref16_Upload.j1 kj4 a0 a2 a3 0 a1_0 a1_1 a1_2 a1_3 a1_4 l1_5 bt284.1 bt284.2.1 bt284.2.2.1 bt284.2.2.2.1 bt284.2.2.2.2.1) else (skiffref16_Upload.j1 kj4 a0 a2 a3 a1_2 a1_0 a1_1 a1_2 a1_3 a1_4 l1_5 bt284.1 bt284.2.1 bt284.2.2.1 bt284.2.2.2.1 bt284.2.2.2.2.1)) else ((skiffref16_failed.f 2).bind fun bt291 => (some (bt291.1, bt291.2.1, bt291.2.2.1, bt291.2.2.2.1, bt291.2.2.2.2.1, bt291.2.2.2.2.2, (⟨#[]⟩ : ByteArray), 0))))) = some (r1, r2, r3, r4, r5, r6, r7, r8) := by rw [if_neg (show ¬ (false = true) by decide)] at H; exact H
    clear H; have H := H1; clear H1
    replace H := Option.bind_eq_some_iff.mp H
    obtain ⟨⟨t284, t285, t286, t287, t288, t289⟩, A440, H⟩ := H
    replace H : (if t289 = 0 then (if a1_0 = 0 then (skiffref16_Upload.j1 kj4 a0 a2 a3 0 a1_0 a1_1 a1_2 a1_3 a1_4 l1_5 t284 t285 t286 t287 t288) else (skiffref16_Upload.j1 kj4 a0 a2 a3 a1_2 a1_0 a1_1 a1_2 a1_3 a1_4 l1_5 t284 t285 t286 t287 t288)) else ((skiffref16_failed.f 2).bind fun bt291 => (some (bt291.1, bt291.2.1, bt291.2.2.1, bt291.2.2.2.1, bt291.2.2.2.2.1, bt291.2.2.2.2.2, (⟨#[]⟩ : ByteArray), 0)))) = some (r1, r2, r3, r4, r5, r6, r7, r8) := H
    have A44 := Aside0.mk A440
    clear A440
    by_cases c45 : t289 = 0
    ·rw [if_pos c45] at H
     have c45b0 : (t289 == 0) = true := beq_iff_eq.mpr c45
     have c45b1 : (t289 != 0) = false := bne_eq_false_iff_eq.mpr c45
     clear c45
     have HC46 := Aside0.mk H
     clear H
     go_upto_if 55 with (first | ((with_reducible refine gate_callee (f := 17) rfl ?_); refine goesL_ (some 45) rfl rfl Try.func17 (by kernel_rfl) rfl #[.string a0] rfl ka ?_; (with_reducible refine (skiffref1_Active.calls kj4 a0 t284 t285 t286 t287 t288 t289 _ A44.out).mono ?_); rintro e w47 ⟨rfl, hb⟩; refine ⟨_, rfl, ?_⟩; have n0_ := Aside0.mk (kL BK277.out hb); have n1_ := Aside0.mk (kL BK278.out hb); have n2_ := Aside0.mk (below_step (kb2 HB.out GE277.out GE278.out) hb); clear BK277; clear BK278; clear HB; have BK277 := n0_; have BK278 := n1_; have HB := n2_; clear n0_ n1_ n2_; (try clear hb); (try clear hb2); (try clear hk); (try clear hi)) | ((with_reducible refine gate_dst (N := 11) rfl ?_); refine box_event ?hg (N := 11) ?hd (cs := #[.int .i64 0, .int .i64 0, .int .i64 0, .int .i64 0, .int .i64 0]) (t := 43) ?hr ?_; (case hd => rfl); (case hg => rfl); (case hr => first | (go_simp; done) | (go_simp; rfl)); intro gb290 hg w48 hbox hb; have n0_ := Aside0.mk (kL BK277.out hb); have n1_ := Aside0.mk (kL BK278.out hb); have n2_ := Aside0.mk (below_step (kb2 HB.out GE277.out GE278.out) hb); have n3_ := Aside0.mk (hbox); have n4_ := Aside0.mk ((kz hg (below_size (kb2 HB.out GE277.out GE278.out)) : w.heap.size ≤ gb290)); have n5_ := Aside0.mk ((kz hg (below_size (kb2 HB.out GE277.out GE278.out)) : w.heap.size ≤ gb290)); have n6_ := Aside0.mk ((kN hg BK277.out : gb277 ≠ gb290)); have n7_ := Aside0.mk (((kN hg BK277.out).symm : gb290 ≠ gb277)); have n8_ := Aside0.mk ((kN hg BK278.out : gb278 ≠ gb290)); have n9_ := Aside0.mk (((kN hg BK278.out).symm : gb290 ≠ gb278)); clear BK277; clear BK278; clear HB; have BK277 := n0_; have BK278 := n1_; have HB := n2_; have BK290 := n3_; have GW290 := n4_; have GE290 := n5_; have NB277_290 := n6_; have NB290_277 := n7_; have NB278_290 := n8_; have NB290_278 := n9_; clear n0_ n1_ n2_ n3_ n4_ n5_ n6_ n7_ n8_ n9_; clear hb hbox hg; have hnb49 := NB290_277.out; have hnc49 := NB277_290.out; have hnb50 := NB290_278.out; have hnc50 := NB278_290.out; obtain ⟨hcz51_0, hcz51_1, hcz51_2, hcz51_3, hcz51_4⟩ := kc5 BK290.out; obtain ⟨hfz51_0, hfz51_1, hfz51_2, hfz51_3, hfz51_4⟩ := kf5 BK290.out; have hnb52 := NB277_278.out; have hnc52 := NB278_277.out; obtain ⟨hcz53_0, hcz53_1, hcz53_2, hcz53_3, hcz53_4, hcz53_5⟩ := kc6 BK277.out; obtain ⟨hfz53_0, hfz53_1, hfz53_2, hfz53_3, hfz53_4, hfz53_5⟩ := kf6 BK277.out))
     (try simp only [Act.put, List.setIfInBounds_toArray, List.set_cons_zero, List.set_cons_succ])
     go_cut [13] (fun v13 wc => ∃ (kq : Nat) (x13_45 : Int), v13 = .int .i64 x13_45 ∧ Aside0 (skiffref16_Upload.j1 kq a0 a2 a3 x13_45 a1_0 a1_1 a1_2 a1_3 a1_4 l1_5 t284 t285 t286 t287 t288 = some (r1, r2, r3, r4, r5, r6, r7, r8)) ∧ Aside0 (kq ≤ kj4) ∧ Aside0 (wc.heap[gb277]? = some (.cells #[.int .i64 a1_0, .int .i64 a1_1, .int .i64 a1_2, .int .i64 a1_3, .int .i64 a1_4, (.slice A1_5 l1_5.length c1_5)] 24 (0, 0))) ∧ Aside0 (wc.heap[gb278]? = some (.cells #[.int .i64 0, .int .i64 0, .int .i64 0, .int .i64 0, .int .i64 0, (.slice none 0 0)] 24 (0, 0))) ∧ Aside0 (wc.heap[gb290]? = some (.cells #[.int .i64 t284, .int .i64 t285, .int .i64 t286, .int .i64 t287, .int .i64 t288] 43 (0, 0))) ∧ Aside0 (Below w.heap.size w wc))
     case first =>
      have H := HC46.out
      clear HC46
      by_cases c54 : a1_0 = 0
      case neg =>
       rw [if_neg c54] at H
       have c54b0 : (a1_0 == 0) = false := beq_eq_false_iff_ne.mpr c54
       have c54b1 : (a1_0 != 0) = true := bne_iff_ne.mpr c54
       (first | rw [c54b0] | rw [c54b1] | (simp only [i64_w, i32_w]; rw [c54b0]) | skip)
       have H' := Aside0.mk H
       clear H
       go_wp2
       go_meet
       case rel => exact ⟨_, (a1_2), (by first | rfl | (simp; done) | (simp [*]; done)), H', ⟨by have := HJ4.out; first | omega | exact Nat.le_refl _⟩, ⟨kFa5 BK277.out NB277_290.out⟩, ⟨kFa5 BK278.out NB278_290.out⟩, ⟨kP5 BK290.out⟩, ⟨kb3 HB.out GE277.out GE278.out GE290.out⟩⟩
      rw [if_pos c54] at H
      have c54b0 : (a1_0 == 0) = true := beq_iff_eq.mpr c54
      have c54b1 : (a1_0 != 0) = false := bne_eq_false_iff_eq.mpr c54
      clear c54
      (first | rw [c54b0] | rw [c54b1] | (simp only [i64_w, i32_w]; rw [c54b0]) | skip)
      have H' := Aside0.mk H
      clear H
      go_wp2
      go_meet
      case rel => exact ⟨_, (0), (by first | rfl | (simp; done) | (simp [*]; done)), H', ⟨by have := HJ4.out; first | omega | exact Nat.le_refl _⟩, ⟨kFa5 BK277.out NB277_290.out⟩, ⟨kFa5 BK278.out NB278_290.out⟩, ⟨kP5 BK290.out⟩, ⟨kb3 HB.out GE277.out GE278.out GE290.out⟩⟩
     case rest =>
      clear HC46
      try clear c1; try clear c2; try clear p2; try clear c3; try clear c4; try clear c5; try clear c9; try clear c10; try clear c10b0; try clear c10b1; try clear c11; try clear c12; try clear c14; try clear c17; try clear c18; try clear c22; try clear c22b0; try clear c22b1; try clear c24; try clear c26; try clear c30; try clear c34; try clear c38; try clear c41; try clear c42; try clear c45; try clear c45b0; try clear c45b1; try clear c49; try clear c50; try clear c52; try clear c54; try clear c54b0; try clear c54b1; try clear hcz15_0; try clear hcz15_1; try clear hcz15_2; try clear hcz15_3; try clear hcz15_4; try clear hcz15_5; try clear hcz17_0; try clear hcz17_1; try clear hcz17_2; try clear hcz17_3; try clear hcz17_4; try clear hcz17_5; try clear hcz19_0; try clear hcz19_1; try clear hcz19_2; try clear hcz19_3; try clear hcz19_4; try clear hcz19_5; try clear hcz21_0; try clear hcz21_1; try clear hcz21_2; try clear hcz21_3; try clear hcz21_4; try clear hcz21_5; try clear hcz27_0; try clear hcz27_1; try clear hcz27_2; try clear hcz27_3; try clear hcz27_4; try clear hcz27_5; try clear hcz29_0; try clear hcz29_1; try clear hcz29_2; try clear hcz29_3; try clear hcz29_4; try clear hcz29_5; try clear hcz31_0; try clear hcz31_1; try clear hcz31_2; try clear hcz31_3; try clear hcz31_4; try clear hcz31_5; try clear hcz33_0; try clear hcz33_1; try clear hcz33_2; try clear hcz33_3; try clear hcz33_4; try clear hcz33_5; try clear hcz35_0; try clear hcz35_1; try clear hcz35_2; try clear hcz35_3; try clear hcz35_4; try clear hcz35_5; try clear hcz37_0; try clear hcz37_1; try clear hcz37_2; try clear hcz37_3; try clear hcz37_4; try clear hcz37_5; try clear hcz39_0; try clear hcz39_1; try clear hcz39_2; try clear hcz39_3; try clear hcz39_4; try clear hcz39_5; try clear hcz43_0; try clear hcz43_1; try clear hcz43_2; try clear hcz43_3; try clear hcz43_4; try clear hcz43_5; try clear hcz51_0; try clear hcz51_1; try clear hcz51_2; try clear hcz51_3; try clear hcz51_4; try clear hcz53_0; try clear hcz53_1; try clear hcz53_2; try clear hcz53_3; try clear hcz53_4; try clear hcz53_5; try clear hfz15_0; try clear hfz15_1; try clear hfz15_2; try clear hfz15_3; try clear hfz15_4; try clear hfz15_5; try clear hfz17_0; try clear hfz17_1; try clear hfz17_2; try clear hfz17_3; try clear hfz17_4; try clear hfz17_5; try clear hfz19_0; try clear hfz19_1; try clear hfz19_2; try clear hfz19_3; try clear hfz19_4; try clear hfz19_5; try clear hfz21_0; try clear hfz21_1; try clear hfz21_2; try clear hfz21_3; try clear hfz21_4; try clear hfz21_5; try clear hfz27_0; try clear hfz27_1; try clear hfz27_2; try clear hfz27_3; try clear hfz27_4; try clear hfz27_5; try clear hfz29_0; try clear hfz29_1; try clear hfz29_2; try clear hfz29_3; try clear hfz29_4; try clear hfz29_5; try clear hfz31_0; try clear hfz31_1; try clear hfz31_2; try clear hfz31_3; try clear hfz31_4; try clear hfz31_5; try clear hfz33_0; try clear hfz33_1; try clear hfz33_2; try clear hfz33_3; try clear hfz33_4; try clear hfz33_5; try clear hfz35_0; try clear hfz35_1; try clear hfz35_2; try clear hfz35_3; try clear hfz35_4; try clear hfz35_5; try clear hfz37_0; try clear hfz37_1; try clear hfz37_2; try clear hfz37_3; try clear hfz37_4; try clear hfz37_5; try clear hfz39_0; try clear hfz39_1; try clear hfz39_2; try clear hfz39_3; try clear hfz39_4; try clear hfz39_5; try clear hfz43_0; try clear hfz43_1; try clear hfz43_2; try clear hfz43_3; try clear hfz43_4; try clear hfz43_5; try clear hfz51_0; try clear hfz51_1; try clear hfz51_2; try clear hfz51_3; try clear hfz51_4; try clear hfz53_0; try clear hfz53_1; try clear hfz53_2; try clear hfz53_3; try clear hfz53_4; try clear hfz53_5; try clear p2
      obtain ⟨kq, x13_45, rfl, HA, HJ45, BK277, BK278, BK290, HB⟩ := hcut
      cases kq with
      | zero => exact absurd HA.out (by simp [skiffref16_Upload.j1])
      | succ kj45 =>
       have H := HA.out
       clear HA
       simp only [skiffref16_Upload.j1] at H
       by_cases c55 : a2 = x13_45
       ·rw [if_pos c55] at H
        have c55b0 : (a2 == x13_45) = true := beq_iff_eq.mpr c55
        have c55b1 : (a2 != x13_45) = false := bne_eq_false_iff_eq.mpr c55
        clear c55
        replace H := Option.bind_eq_some_iff.mp H
        obtain ⟨⟨t307, t308⟩, A560, H⟩ := H
        replace H : (if 0 ≤ (mn (t307.size : Int) (wrap64 (32 * x13_45))) then (if (mn (t307.size : Int) (wrap64 (32 * x13_45))) ≤ (mn (t307.size : Int) (wrap64 ((mn (t307.size : Int) (wrap64 (32 * x13_45))) + a3))) then (if (mn (t307.size : Int) (wrap64 ((mn (t307.size : Int) (wrap64 (32 * x13_45))) + a3))) ≤ (t307.size : Int) then (if ((t307.extract ((mn (t307.size : Int) (wrap64 (32 * x13_45))) : Int).toNat ((mn (t307.size : Int) (wrap64 ((mn (t307.size : Int) (wrap64 (32 * x13_45))) + a3))) : Int).toNat).size : Int) < 32 then ((skiffref16_NewDevice.f).bind fun bt309 => (some (bt309.1, bt309.2.1, bt309.2.2.1, bt309.2.2.2.1, bt309.2.2.2.2.1, bt309.2.2.2.2.2, t307.extract ((mn (t307.size : Int) (wrap64 (32 * x13_45))) : Int).toNat ((mn (t307.size : Int) (wrap64 ((mn (t307.size : Int) (wrap64 (32 * x13_45))) + a3))) : Int).toNat, 0))) else ((skiffref16_copyDevice.f a1_0 a1_1 a1_2 a1_3 a1_4 l1_5).bind fun bt317 => (some (6, bt317.2.1, mn (wrap64 (x13_45 + 1)) 16, bt317.2.2.2.1, bt317.2.2.2.2.1, bt317.2.2.2.2.2, t307.extract ((mn (t307.size : Int) (wrap64 (32 * x13_45))) : Int).toNat ((mn (t307.size : Int) (wrap64 ((mn (t307.size : Int) (wrap64 (32 * x13_45))) + a3))) : Int).toNat, 0)))) else (none)) else (none)) else (none)) = some (r1, r2, r3, r4, r5, r6, r7, r8) := H
        have A56 := Aside0.mk A560
        clear A560
        obtain ⟨ji57, hji57⟩ : ∃ j_ : Int, (mn (t307.size : Int) (wrap64 (32 * x13_45))) = j_ := ⟨_, rfl⟩
        replace H : (if 0 ≤ (ji57) then (if (ji57) ≤ (mn (t307.size : Int) (wrap64 ((ji57) + a3))) then (if (mn (t307.size : Int) (wrap64 ((ji57) + a3))) ≤ (t307.size : Int) then (if ((t307.extract ((ji57) : Int).toNat ((mn (t307.size : Int) (wrap64 ((ji57) + a3))) : Int).toNat).size : Int) < 32 then ((skiffref16_NewDevice.f).bind fun bt309 => (some (bt309.1, bt309.2.1, bt309.2.2.1, bt309.2.2.2.1, bt309.2.2.2.2.1, bt309.2.2.2.2.2, t307.extract ((ji57) : Int).toNat ((mn (t307.size : Int) (wrap64 ((ji57) + a3))) : Int).toNat, 0))) else ((skiffref16_copyDevice.f a1_0 a1_1 a1_2 a1_3 a1_4 l1_5).bind fun bt317 => (some (6, bt317.2.1, mn (wrap64 (x13_45 + 1)) 16, bt317.2.2.2.1, bt317.2.2.2.2.1, bt317.2.2.2.2.2, t307.extract ((ji57) : Int).toNat ((mn (t307.size : Int) (wrap64 ((ji57) + a3))) : Int).toNat, 0)))) else (none)) else (none)) else (none)) = some (r1, r2, r3, r4, r5, r6, r7, r8) := by first | (rw [hji57] at H; exact H) | (simp only [hji57] at H ⊢; exact H)
        (try rw [hji57] at A56)
        have hji57_ : (if (wrap64 (32 * x13_45)) < (t307.size : Int) then (wrap64 (32 * x13_45)) else (t307.size : Int)) = ji57 := hji57
        obtain ⟨ji58, hji58⟩ : ∃ j_ : Int, (mn (t307.size : Int) (wrap64 ((ji57) + a3))) = j_ := ⟨_, rfl⟩
        replace H : (if 0 ≤ (ji57) then (if (ji57) ≤ (ji58) then (if (ji58) ≤ (t307.size : Int) then (if ((t307.extract ((ji57) : Int).toNat ((ji58) : Int).toNat).size : Int) < 32 then ((skiffref16_NewDevice.f).bind fun bt309 => (some (bt309.1, bt309.2.1, bt309.2.2.1, bt309.2.2.2.1, bt309.2.2.2.2.1, bt309.2.2.2.2.2, t307.extract ((ji57) : Int).toNat ((ji58) : Int).toNat, 0))) else ((skiffref16_copyDevice.f a1_0 a1_1 a1_2 a1_3 a1_4 l1_5).bind fun bt317 => (some (6, bt317.2.1, mn (wrap64 (x13_45 + 1)) 16, bt317.2.2.2.1, bt317.2.2.2.2.1, bt317.2.2.2.2.2, t307.extract ((ji57) : Int).toNat ((ji58) : Int).toNat, 0)))) else (none)) else (none)) else (none)) = some (r1, r2, r3, r4, r5, r6, r7, r8) := by first | (rw [hji58] at H; exact H) | (simp only [hji58] at H ⊢; exact H)
        (try rw [hji58] at A56)
        have hji58_ : (if (wrap64 ((ji57) + a3)) < (t307.size : Int) then (wrap64 ((ji57) + a3)) else (t307.size : Int)) = ji58 := hji58
        by_cases c59 : 0 ≤ (ji57)
        case neg =>
         rw [if_neg c59] at H
         exact absurd H (by simp)
        rw [if_pos c59] at H
        have c59b0 := eq_true c59
        have c59b1 : decide (0 ≤ (ji57)) = true := decide_eq_true c59
        clear c59
        by_cases c60 : (ji57) ≤ (ji58)
        case neg =>
         rw [if_neg c60] at H
         exact absurd H (by simp)
        rw [if_pos c60] at H
        have c60b0 := eq_true c60
        have c60b1 : decide ((ji57) ≤ (ji58)) = true := decide_eq_true c60
        clear c60
        by_cases c61 : (ji58) ≤ (t307.size : Int)
        case neg =>
         rw [if_neg c61] at H
         exact absurd H (by simp)
        rw [if_pos c61] at H
        have c61b0 := eq_true c61
        have c61b1 : decide ((ji58) ≤ (t307.size : Int)) = true := decide_eq_true c61
        clear c61
        by_cases c62 : ((t307.extract ((ji57) : Int).toNat ((ji58) : Int).toNat).size : Int) < 32
        ·rw [if_pos c62] at H
         have c62b0 : decide (((t307.extract ((ji57) : Int).toNat ((ji58) : Int).toNat).size : Int) < 32) = true := decide_eq_true c62
         have c62b1 : decide ((t307.extract ((ji57) : Int).toNat ((ji58) : Int).toNat).size < 32) = true := decide_eq_true (by omega)
         clear c62
         replace H := Option.bind_eq_some_iff.mp H
         obtain ⟨⟨t309, t310, t311, t312, t313, t314⟩, A630, H⟩ := H
         replace H : (some (t309, t310, t311, t312, t313, t314, t307.extract ((ji57) : Int).toNat ((ji58) : Int).toNat, 0)) = some (r1, r2, r3, r4, r5, r6, r7, r8) := H
         have A63 := Aside0.mk A630
         clear A630
         simp only [Option.some.injEq, Prod.mk.injEq] at H
         obtain ⟨rfl, rfl, rfl, rfl, rfl, rfl, rfl, rfl⟩ := H
         have hnb64 := NB290_277.out
         have hnc64 := NB277_290.out
         have hnb65 := NB290_278.out
         have hnc65 := NB278_290.out
         obtain ⟨hcz66_0, hcz66_1, hcz66_2, hcz66_3, hcz66_4⟩ := kc5 BK290.out
         obtain ⟨hfz66_0, hfz66_1, hfz66_2, hfz66_3, hfz66_4⟩ := kf5 BK290.out
         go_upto_region 14 with (first | ((with_reducible refine gate_callee (f := 18) rfl ?_); refine goesL_ (some 64) rfl rfl Try.func18 (by kernel_rfl) rfl #[.string a0, .agg #[.int .i64 t285, .int .i64 t286, .int .i64 t287, .int .i64 t288]] rfl ka ?_; (with_reducible refine (skiffref1_ImageOf.calls a0 t285 t286 t287 t288 t307 t308 _ A56.out).mono ?_); rintro e w67 ⟨rfl, hb⟩; refine ⟨_, rfl, ?_⟩; have n0_ := Aside0.mk (kL BK277.out hb); have n1_ := Aside0.mk (kL BK278.out hb); have n2_ := Aside0.mk (kL BK290.out hb); have n3_ := Aside0.mk (below_step (kb3 HB.out GE277.out GE278.out GE290.out) hb); clear BK277; clear BK278; clear BK290; clear HB; have BK277 := n0_; have BK278 := n1_; have BK290 := n2_; have HB := n3_; clear n0_ n1_ n2_ n3_; (try clear hb); (try clear hb2); (try clear hk); (try clear hi)) | ((with_reducible refine gate_callee (f := 19) rfl ?_); refine goesL_ (some 84) rfl rfl Try.func19 (by kernel_rfl) rfl #[] rfl ka ?_; (with_reducible refine (skiffref16_NewDevice.calls  t309 t310 t311 t312 t313 t314 _ A63.out).mono ?_); rintro e w68 ⟨v315, rfl, ho0, hb⟩; refine ⟨_, rfl, ?_⟩; have n0_ := Aside0.mk (Kd.R_lower ho0 (below_size (kb3 HB.out GE277.out GE278.out GE290.out))); have n1_ := Aside0.mk (kL BK277.out hb); have n2_ := Aside0.mk (kL BK278.out hb); have n3_ := Aside0.mk (kL BK290.out hb); have n4_ := Aside0.mk (below_step (kb3 HB.out GE277.out GE278.out GE290.out) hb); clear BK277; clear BK278; clear BK290; clear HB; have HO316 := n0_; have BK277 := n1_; have BK278 := n2_; have BK290 := n3_; have HB := n4_; clear n0_ n1_ n2_ n3_ n4_; (try clear hb); (try clear hb2); (try clear hk); (try clear hi); (try clear ho0); have hnb69 := NB278_277.out; have hnc69 := NB277_278.out; obtain ⟨hcz70_0, hcz70_1, hcz70_2, hcz70_3, hcz70_4, hcz70_5⟩ := kc6 BK278.out; obtain ⟨hfz70_0, hfz70_1, hfz70_2, hfz70_3, hfz70_4, hfz70_5⟩ := kf6 BK278.out; obtain ⟨Ao71, co71, eo71⟩ := Kd.R_slice HO316.out; subst eo71))
         (try simp only [Act.put, List.setIfInBounds_toArray, List.set_cons_zero, List.set_cons_succ])
         obtain ⟨sy, hsy⟩ : ∃ z_, z_ = t307.extract ((ji57) : Int).toNat ((ji58) : Int).toNat := ⟨_, rfl⟩
         try rw [← hsy] at c62b0
         try rw [← hsy] at c62b1
         (try clear H)
         try rw [← hsy]
         have HSY := Aside0.mk hsy
         clear hsy
         go_wp2_with (first | ((with_reducible refine gate_callee (f := 18) rfl ?_); refine goesL_ (some 64) rfl rfl Try.func18 (by kernel_rfl) rfl #[.string a0, .agg #[.int .i64 t285, .int .i64 t286, .int .i64 t287, .int .i64 t288]] rfl ka ?_; (with_reducible refine (skiffref1_ImageOf.calls a0 t285 t286 t287 t288 t307 t308 _ A56.out).mono ?_); rintro e w67 ⟨rfl, hb⟩; refine ⟨_, rfl, ?_⟩; have n0_ := Aside0.mk (kL BK277.out hb); have n1_ := Aside0.mk (kL BK278.out hb); have n2_ := Aside0.mk (kL BK290.out hb); have n3_ := Aside0.mk (below_step (kb3 HB.out GE277.out GE278.out GE290.out) hb); clear BK277; clear BK278; clear BK290; clear HB; have BK277 := n0_; have BK278 := n1_; have BK290 := n2_; have HB := n3_; clear n0_ n1_ n2_ n3_; (try clear hb); (try clear hb2); (try clear hk); (try clear hi)) | ((with_reducible refine gate_callee (f := 19) rfl ?_); refine goesL_ (some 84) rfl rfl Try.func19 (by kernel_rfl) rfl #[] rfl ka ?_; (with_reducible refine (skiffref16_NewDevice.calls  t309 t310 t311 t312 t313 t314 _ A63.out).mono ?_); rintro e w68 ⟨v315, rfl, ho0, hb⟩; refine ⟨_, rfl, ?_⟩; have n0_ := Aside0.mk (Kd.R_lower ho0 (below_size (kb3 HB.out GE277.out GE278.out GE290.out))); have n1_ := Aside0.mk (kL BK277.out hb); have n2_ := Aside0.mk (kL BK278.out hb); have n3_ := Aside0.mk (kL BK290.out hb); have n4_ := Aside0.mk (below_step (kb3 HB.out GE277.out GE278.out GE290.out) hb); clear BK277; clear BK278; clear BK290; clear HB; have HO316 := n0_; have BK277 := n1_; have BK278 := n2_; have BK290 := n3_; have HB := n4_; clear n0_ n1_ n2_ n3_ n4_; (try clear hb); (try clear hb2); (try clear hk); (try clear hi); (try clear ho0); have hnb69 := NB278_277.out; have hnc69 := NB277_278.out; obtain ⟨hcz70_0, hcz70_1, hcz70_2, hcz70_3, hcz70_4, hcz70_5⟩ := kc6 BK278.out; obtain ⟨hfz70_0, hfz70_1, hfz70_2, hfz70_3, hfz70_4, hfz70_5⟩ := kf6 BK278.out; obtain ⟨Ao71, co71, eo71⟩ := Kd.R_slice HO316.out; subst eo71))
         have hsy := HSY.out
         clear HSY
         subst hsy
         refine bodyPost_ret (results_ctt rfl _ _ gb278 24 #[.int .i64 t309, .int .i64 t310, .int .i64 t311, .int .i64 t312, .int .i64 t313, .slice Ao71 t314.length co71] (0, 0) _ rfl (kP6 BK278.out) Try.underlying24 rfl (by kernel_rfl)) rfl ?_
         exact ⟨_, by first | rfl | (simp [errW_none, errW_some] <;> rfl) | (simp only [← hji57, ← hji58]; first | rfl | (simp [errW_none, errW_some] <;> rfl)) | (simp [*, errW_none, errW_some] <;> rfl), by (with_reducible repeat (first | apply Kd.R_alloc | apply Kd.R_drewN | apply Kd.R_drew)); exact Kd.R_mono (Kd.R_far (p := ⟨gb278, 5, none⟩) (Kd.R_far (p := ⟨gb278, 4, none⟩) (Kd.R_far (p := ⟨gb278, 3, none⟩) (Kd.R_far (p := ⟨gb278, 2, none⟩) (Kd.R_far (p := ⟨gb278, 1, none⟩) (Kd.R_far (p := ⟨gb278, 0, none⟩) (Kd.R_types HO316.out BK278.out (by decide)) (fun _ hk => hk.2) (.int .i64 t309)) (fun _ hk => hk.2) (.int .i64 t310)) (fun _ hk => hk.2) (.int .i64 t311)) (fun _ hk => hk.2) (.int .i64 t312)) (fun _ hk => hk.2) (.int .i64 t313)) (fun _ hk => hk.2) (.slice Ao71 t314.length co71)) (fun _ hk => trivial), kb3 HB.out GE277.out GE278.out GE290.out⟩
        ·rw [if_neg c62] at H
         have c62b0 : decide (((t307.extract ((ji57) : Int).toNat ((ji58) : Int).toNat).size : Int) < 32) = false := decide_eq_false c62
         have c62b1 : decide ((t307.extract ((ji57) : Int).toNat ((ji58) : Int).toNat).size < 32) = false := decide_eq_false (by omega)
         clear c62
         replace H := Option.bind_eq_some_iff.mp H
         obtain ⟨⟨t317, t318, t319, t320, t321, t322⟩, A720, H⟩ := H
         replace H : (some (6, t318, mn (wrap64 (x13_45 + 1)) 16, t320, t321, t322, t307.extract ((ji57) : Int).toNat ((ji58) : Int).toNat, 0)) = some (r1, r2, r3, r4, r5, r6, r7, r8) := H
         have A72 := Aside0.mk A720
         clear A720
         obtain ⟨ji73, hji73⟩ : ∃ j_ : Int, (mn (wrap64 (x13_45 + 1)) 16) = j_ := ⟨_, rfl⟩
         replace H : (some (6, t318, ji73, t320, t321, t322, t307.extract ((ji57) : Int).toNat ((ji58) : Int).toNat, 0)) = some (r1, r2, r3, r4, r5, r6, r7, r8) := by first | (rw [hji73] at H; exact H) | (simp only [hji73] at H ⊢; exact H)
         (try rw [hji73] at A56)
         (try rw [hji73] at A72)
         have hji73_ : (if 16 < (wrap64 (x13_45 + 1)) then 16 else (wrap64 (x13_45 + 1))) = ji73 := hji73
         simp only [Option.some.injEq, Prod.mk.injEq] at H
         obtain ⟨rfl, rfl, rfl, rfl, rfl, rfl, rfl, rfl⟩ := H
         have hnb74 := NB290_277.out
         have hnc74 := NB277_290.out
         have hnb75 := NB290_278.out
         have hnc75 := NB278_290.out
         obtain ⟨hcz76_0, hcz76_1, hcz76_2, hcz76_3, hcz76_4⟩ := kc5 BK290.out
         obtain ⟨hfz76_0, hfz76_1, hfz76_2, hfz76_3, hfz76_4⟩ := kf5 BK290.out
         go_upto_region 14 with (first | ((with_reducible refine gate_callee (f := 18) rfl ?_); refine goesL_ (some 64) rfl rfl Try.func18 (by kernel_rfl) rfl #[.string a0, .agg #[.int .i64 t285, .int .i64 t286, .int .i64 t287, .int .i64 t288]] rfl ka ?_; (with_reducible refine (skiffref1_ImageOf.calls a0 t285 t286 t287 t288 t307 t308 _ A56.out).mono ?_); rintro e w77 ⟨rfl, hb⟩; refine ⟨_, rfl, ?_⟩; have n0_ := Aside0.mk (kL BK277.out hb); have n1_ := Aside0.mk (kL BK278.out hb); have n2_ := Aside0.mk (kL BK290.out hb); have n3_ := Aside0.mk (below_step (kb3 HB.out GE277.out GE278.out GE290.out) hb); clear BK277; clear BK278; clear BK290; clear HB; have BK277 := n0_; have BK278 := n1_; have BK290 := n2_; have HB := n3_; clear n0_ n1_ n2_ n3_; (try clear hb); (try clear hb2); (try clear hk); (try clear hi); have hnb78 := NB277_278.out; have hnc78 := NB278_277.out; obtain ⟨hcz79_0, hcz79_1, hcz79_2, hcz79_3, hcz79_4, hcz79_5⟩ := kc6 BK277.out; obtain ⟨hfz79_0, hfz79_1, hfz79_2, hfz79_3, hfz79_4, hfz79_5⟩ := kf6 BK277.out) | ((with_reducible refine gate_callee (f := 33) rfl ?_); refine goesL_ (some 87) rfl rfl Try.func33 (by kernel_rfl) rfl #[.agg #[.int .i64 a1_0, .int .i64 a1_1, .int .i64 a1_2, .int .i64 a1_3, .int .i64 a1_4, .slice A1_5 l1_5.length c1_5]] rfl ka ?_; (with_reducible refine (skiffref16_copyDevice.calls a1_0 a1_1 a1_2 a1_3 a1_4 _ _ l1_5 t317 t318 t319 t320 t321 t322 _ ?side1 ?side2 A72.out).mono ?_); (case side1 => exact kC (Kd.C_below HR1_5.out HB.out)); (case side2 => exact HC1_5.out); rintro e w80 ⟨v323, rfl, ho0, hb⟩; refine ⟨_, rfl, ?_⟩; have n0_ := Aside0.mk (Kd.R_lower ho0 (below_size (kb3 HB.out GE277.out GE278.out GE290.out))); have n1_ := Aside0.mk (kL BK277.out hb); have n2_ := Aside0.mk (kL BK278.out hb); have n3_ := Aside0.mk (kL BK290.out hb); have n4_ := Aside0.mk (below_step (kb3 HB.out GE277.out GE278.out GE290.out) hb); clear BK277; clear BK278; clear BK290; clear HB; have HO324 := n0_; have BK277 := n1_; have BK278 := n2_; have BK290 := n3_; have HB := n4_; clear n0_ n1_ n2_ n3_ n4_; (try clear hb); (try clear hb2); (try clear hk); (try clear hi); (try clear ho0)) | ((with_reducible refine gate_dst (N := 17) rfl ?_); refine box_event ?hg (N := 17) ?hd (cs := #[.int .i64 0, .int .i64 0, .int .i64 0, .int .i64 0, .int .i64 0, .slice none 0 0]) (t := 24) ?hr ?_; (case hd => rfl); (case hg => rfl); (case hr => first | (go_simp; done) | (go_simp; rfl)); intro gb325 hg w81 hbox hb; have n0_ := Aside0.mk (Kd.R_below (kR HO324.out) hb); have n1_ := Aside0.mk (kL BK277.out hb); have n2_ := Aside0.mk (kL BK278.out hb); have n3_ := Aside0.mk (kL BK290.out hb); have n4_ := Aside0.mk (below_step (kb3 HB.out GE277.out GE278.out GE290.out) hb); have n5_ := Aside0.mk (hbox); have n6_ := Aside0.mk ((kz hg (below_size (kb3 HB.out GE277.out GE278.out GE290.out)) : w.heap.size ≤ gb325)); have n7_ := Aside0.mk ((kz hg (below_size (kb3 HB.out GE277.out GE278.out GE290.out)) : w.heap.size ≤ gb325)); have n8_ := Aside0.mk ((kN hg BK277.out : gb277 ≠ gb325)); have n9_ := Aside0.mk (((kN hg BK277.out).symm : gb325 ≠ gb277)); have n10_ := Aside0.mk ((kN hg BK278.out : gb278 ≠ gb325)); have n11_ := Aside0.mk (((kN hg BK278.out).symm : gb325 ≠ gb278)); have n12_ := Aside0.mk ((kN hg BK290.out : gb290 ≠ gb325)); have n13_ := Aside0.mk (((kN hg BK290.out).symm : gb325 ≠ gb290)); clear HO324; clear BK277; clear BK278; clear BK290; clear HB; have HO324 := n0_; have BK277 := n1_; have BK278 := n2_; have BK290 := n3_; have HB := n4_; have BK325 := n5_; have GW325 := n6_; have GE325 := n7_; have NB277_325 := n8_; have NB325_277 := n9_; have NB278_325 := n10_; have NB325_278 := n11_; have NB290_325 := n12_; have NB325_290 := n13_; clear n0_ n1_ n2_ n3_ n4_ n5_ n6_ n7_ n8_ n9_ n10_ n11_ n12_ n13_; clear hb hbox hg; have hnb82 := NB325_277.out; have hnc82 := NB277_325.out; have hnb83 := NB325_278.out; have hnc83 := NB278_325.out; have hnb84 := NB325_290.out; have hnc84 := NB290_325.out; obtain ⟨hcz85_0, hcz85_1, hcz85_2, hcz85_3, hcz85_4, hcz85_5⟩ := kc6 BK325.out; obtain ⟨hfz85_0, hfz85_1, hfz85_2, hfz85_3, hfz85_4, hfz85_5⟩ := kf6 BK325.out; obtain ⟨Ao86, co86, eo86⟩ := Kd.R_slice HO324.out; subst eo86; obtain ⟨hcz87_0, hcz87_1, hcz87_2, hcz87_3, hcz87_4, hcz87_5⟩ := kc6 BK278.out; obtain ⟨hfz87_0, hfz87_1, hfz87_2, hfz87_3, hfz87_4, hfz87_5⟩ := kf6 BK278.out))
         (try simp only [Act.put, List.setIfInBounds_toArray, List.set_cons_zero, List.set_cons_succ])
         obtain ⟨sy, hsy⟩ : ∃ z_, z_ = t307.extract ((ji57) : Int).toNat ((ji58) : Int).toNat := ⟨_, rfl⟩
         try rw [← hsy] at c62b0
         try rw [← hsy] at c62b1
         (try clear H)
         try rw [← hsy]
         have HSY := Aside0.mk hsy
         clear hsy
         go_upto_region 19 with (first | ((with_reducible refine gate_callee (f := 18) rfl ?_); refine goesL_ (some 64) rfl rfl Try.func18 (by kernel_rfl) rfl #[.string a0, .agg #[.int .i64 t285, .int .i64 t286, .int .i64 t287, .int .i64 t288]] rfl ka ?_; (with_reducible refine (skiffref1_ImageOf.calls a0 t285 t286 t287 t288 t307 t308 _ A56.out).mono ?_); rintro e w77 ⟨rfl, hb⟩; refine ⟨_, rfl, ?_⟩; have n0_ := Aside0.mk (kL BK277.out hb); have n1_ := Aside0.mk (kL BK278.out hb); have n2_ := Aside0.mk (kL BK290.out hb); have n3_ := Aside0.mk (below_step (kb3 HB.out GE277.out GE278.out GE290.out) hb); clear BK277; clear BK278; clear BK290; clear HB; have BK277 := n0_; have BK278 := n1_; have BK290 := n2_; have HB := n3_; clear n0_ n1_ n2_ n3_; (try clear hb); (try clear hb2); (try clear hk); (try clear hi); have hnb78 := NB277_278.out; have hnc78 := NB278_277.out; obtain ⟨hcz79_0, hcz79_1, hcz79_2, hcz79_3, hcz79_4, hcz79_5⟩ := kc6 BK277.out; obtain ⟨hfz79_0, hfz79_1, hfz79_2, hfz79_3, hfz79_4, hfz79_5⟩ := kf6 BK277.out) | ((with_reducible refine gate_callee (f := 33) rfl ?_); refine goesL_ (some 87) rfl rfl Try.func33 (by kernel_rfl) rfl #[.agg #[.int .i64 a1_0, .int .i64 a1_1, .int .i64 a1_2, .int .i64 a1_3, .int .i64 a1_4, .slice A1_5 l1_5.length c1_5]] rfl ka ?_; (with_reducible refine (skiffref16_copyDevice.calls a1_0 a1_1 a1_2 a1_3 a1_4 _ _ l1_5 t317 t318 t319 t320 t321 t322 _ ?side1 ?side2 A72.out).mono ?_); (case side1 => exact kC (Kd.C_below HR1_5.out HB.out)); (case side2 => exact HC1_5.out); rintro e w80 ⟨v323, rfl, ho0, hb⟩; refine ⟨_, rfl, ?_⟩; have n0_ := Aside0.mk (Kd.R_lower ho0 (below_size (kb3 HB.out GE277.out GE278.out GE290.out))); have n1_ := Aside0.mk (kL BK277.out hb); have n2_ := Aside0.mk (kL BK278.out hb); have n3_ := Aside0.mk (kL BK290.out hb); have n4_ := Aside0.mk (below_step (kb3 HB.out GE277.out GE278.out GE290.out) hb); clear BK277; clear BK278; clear BK290; clear HB; have HO324 := n0_; have BK277 := n1_; have BK278 := n2_; have BK290 := n3_; have HB := n4_; clear n0_ n1_ n2_ n3_ n4_; (try clear hb); (try clear hb2); (try clear hk); (try clear hi); (try clear ho0)) | ((with_reducible refine gate_dst (N := 17) rfl ?_); refine box_event ?hg (N := 17) ?hd (cs := #[.int .i64 0, .int .i64 0, .int .i64 0, .int .i64 0, .int .i64 0, .slice none 0 0]) (t := 24) ?hr ?_; (case hd => rfl); (case hg => rfl); (case hr => first | (go_simp; done) | (go_simp; rfl)); intro gb325 hg w81 hbox hb; have n0_ := Aside0.mk (Kd.R_below (kR HO324.out) hb); have n1_ := Aside0.mk (kL BK277.out hb); have n2_ := Aside0.mk (kL BK278.out hb); have n3_ := Aside0.mk (kL BK290.out hb); have n4_ := Aside0.mk (below_step (kb3 HB.out GE277.out GE278.out GE290.out) hb); have n5_ := Aside0.mk (hbox); have n6_ := Aside0.mk ((kz hg (below_size (kb3 HB.out GE277.out GE278.out GE290.out)) : w.heap.size ≤ gb325)); have n7_ := Aside0.mk ((kz hg (below_size (kb3 HB.out GE277.out GE278.out GE290.out)) : w.heap.size ≤ gb325)); have n8_ := Aside0.mk ((kN hg BK277.out : gb277 ≠ gb325)); have n9_ := Aside0.mk (((kN hg BK277.out).symm : gb325 ≠ gb277)); have n10_ := Aside0.mk ((kN hg BK278.out : gb278 ≠ gb325)); have n11_ := Aside0.mk (((kN hg BK278.out).symm : gb325 ≠ gb278)); have n12_ := Aside0.mk ((kN hg BK290.out : gb290 ≠ gb325)); have n13_ := Aside0.mk (((kN hg BK290.out).symm : gb325 ≠ gb290)); clear HO324; clear BK277; clear BK278; clear BK290; clear HB; have HO324 := n0_; have BK277 := n1_; have BK278 := n2_; have BK290 := n3_; have HB := n4_; have BK325 := n5_; have GW325 := n6_; have GE325 := n7_; have NB277_325 := n8_; have NB325_277 := n9_; have NB278_325 := n10_; have NB325_278 := n11_; have NB290_325 := n12_; have NB325_290 := n13_; clear n0_ n1_ n2_ n3_ n4_ n5_ n6_ n7_ n8_ n9_ n10_ n11_ n12_ n13_; clear hb hbox hg; have hnb82 := NB325_277.out; have hnc82 := NB277_325.out; have hnb83 := NB325_278.out; have hnc83 := NB278_325.out; have hnb84 := NB325_290.out; have hnc84 := NB290_325.out; obtain ⟨hcz85_0, hcz85_1, hcz85_2, hcz85_3, hcz85_4, hcz85_5⟩ := kc6 BK325.out; obtain ⟨hfz85_0, hfz85_1, hfz85_2, hfz85_3, hfz85_4, hfz85_5⟩ := kf6 BK325.out; obtain ⟨Ao86, co86, eo86⟩ := Kd.R_slice HO324.out; subst eo86; obtain ⟨hcz87_0, hcz87_1, hcz87_2, hcz87_3, hcz87_4, hcz87_5⟩ := kc6 BK278.out; obtain ⟨hfz87_0, hfz87_1, hfz87_2, hfz87_3, hfz87_4, hfz87_5⟩ := kf6 BK278.out))
         (try simp only [Act.put, List.setIfInBounds_toArray, List.set_cons_zero, List.set_cons_succ])
         have q1 : ((World.setCell (World.setCell (World.setCell (World.setCell (World.setCell (World.setCell (World.setCell (World.setCell w81 ⟨gb325, 0, none⟩ (.int .i64 t317)) ⟨gb325, 1, none⟩ (.int .i64 t318)) ⟨gb325, 2, none⟩ (.int .i64 t319)) ⟨gb325, 3, none⟩ (.int .i64 t320)) ⟨gb325, 4, none⟩ (.int .i64 t321)) ⟨gb325, 5, none⟩ (.slice Ao86 t322.length co86)) ⟨gb325, 0, none⟩ (.int .i64 6)) ⟨gb325, 2, none⟩ (.int .i64 ji73))).heap[gb325]? = some (.cells #[.int .i64 6, .int .i64 t318, .int .i64 ji73, .int .i64 t320, .int .i64 t321, .slice Ao86 t322.length co86] 24 (0, 0)) := by refine blk_put (cs := #[.int .i64 6, .int .i64 t318, .int .i64 t319, .int .i64 t320, .int .i64 t321, .slice Ao86 t322.length co86]) ?_ 2 _ rfl; refine blk_put (cs := #[.int .i64 t317, .int .i64 t318, .int .i64 t319, .int .i64 t320, .int .i64 t321, .slice Ao86 t322.length co86]) ?_ 0 _ rfl; refine blk_put (cs := #[.int .i64 t317, .int .i64 t318, .int .i64 t319, .int .i64 t320, .int .i64 t321, .slice none 0 0]) ?_ 5 _ rfl; refine blk_put (cs := #[.int .i64 t317, .int .i64 t318, .int .i64 t319, .int .i64 t320, .int .i64 0, .slice none 0 0]) ?_ 4 _ rfl; refine blk_put (cs := #[.int .i64 t317, .int .i64 t318, .int .i64 t319, .int .i64 0, .int .i64 0, .slice none 0 0]) ?_ 3 _ rfl; refine blk_put (cs := #[.int .i64 t317, .int .i64 t318, .int .i64 0, .int .i64 0, .int .i64 0, .slice none 0 0]) ?_ 2 _ rfl; refine blk_put (cs := #[.int .i64 t317, .int .i64 0, .int .i64 0, .int .i64 0, .int .i64 0, .slice none 0 0]) ?_ 1 _ rfl; refine blk_put (cs := #[.int .i64 0, .int .i64 0, .int .i64 0, .int .i64 0, .int .i64 0, .slice none 0 0]) ?_ 0 _ rfl; exact BK325.out
         have q2 : ((World.setCell (World.setCell (World.setCell (World.setCell (World.setCell (World.setCell (World.setCell (World.setCell w81 ⟨gb325, 0, none⟩ (.int .i64 t317)) ⟨gb325, 1, none⟩ (.int .i64 t318)) ⟨gb325, 2, none⟩ (.int .i64 t319)) ⟨gb325, 3, none⟩ (.int .i64 t320)) ⟨gb325, 4, none⟩ (.int .i64 t321)) ⟨gb325, 5, none⟩ (.slice Ao86 t322.length co86)) ⟨gb325, 0, none⟩ (.int .i64 6)) ⟨gb325, 2, none⟩ (.int .i64 ji73))).heap[gb278]? = some (.cells #[.int .i64 0, .int .i64 0, .int .i64 0, .int .i64 0, .int .i64 0, .slice none 0 0] 24 (0, 0)) := by refine blk_far ?_ NB278_325.out _; refine blk_far ?_ NB278_325.out _; refine blk_far ?_ NB278_325.out _; refine blk_far ?_ NB278_325.out _; refine blk_far ?_ NB278_325.out _; refine blk_far ?_ NB278_325.out _; refine blk_far ?_ NB278_325.out _; refine blk_far ?_ NB278_325.out _; exact BK278.out
         have q3 : Below w.heap.size w ((World.setCell (World.setCell (World.setCell (World.setCell (World.setCell (World.setCell (World.setCell (World.setCell w81 ⟨gb325, 0, none⟩ (.int .i64 t317)) ⟨gb325, 1, none⟩ (.int .i64 t318)) ⟨gb325, 2, none⟩ (.int .i64 t319)) ⟨gb325, 3, none⟩ (.int .i64 t320)) ⟨gb325, 4, none⟩ (.int .i64 t321)) ⟨gb325, 5, none⟩ (.slice Ao86 t322.length co86)) ⟨gb325, 0, none⟩ (.int .i64 6)) ⟨gb325, 2, none⟩ (.int .i64 ji73))) := by (with_reducible repeat (first | exact HB.out | refine below_set ?_ GE325.out))
         have q4 := Kd.R_mono (ok' := fun _ => True) (Kd.R_far (p := ⟨gb325, 2, none⟩) (Kd.R_far (p := ⟨gb325, 0, none⟩) (Kd.R_far (p := ⟨gb325, 5, none⟩) (Kd.R_far (p := ⟨gb325, 4, none⟩) (Kd.R_far (p := ⟨gb325, 3, none⟩) (Kd.R_far (p := ⟨gb325, 2, none⟩) (Kd.R_far (p := ⟨gb325, 1, none⟩) (Kd.R_far (p := ⟨gb325, 0, none⟩) (Kd.R_types HO324.out BK325.out (by decide)) (fun _ hk => hk.2) (.int .i64 t317)) (fun _ hk => hk.2) (.int .i64 t318)) (fun _ hk => hk.2) (.int .i64 t319)) (fun _ hk => hk.2) (.int .i64 t320)) (fun _ hk => hk.2) (.int .i64 t321)) (fun _ hk => hk.2) (.slice Ao86 t322.length co86)) (fun _ hk => hk.2) (.int .i64 6)) (fun _ hk => hk.2) (.int .i64 ji73)) (fun _ _ => trivial)
         (try clear hcz79_0)
         (try clear hcz79_1)
         (try clear hcz79_2)
         (try clear hcz79_3)
         (try clear hcz79_4)
         (try clear hcz79_5)
         (try clear hfz79_0)
         (try clear hfz79_1)
         (try clear hfz79_2)
         (try clear hfz79_3)
         (try clear hfz79_4)
         (try clear hfz79_5)
         (try clear hcz85_0)
         (try clear hcz85_1)
         (try clear hcz85_2)
         (try clear hcz85_3)
         (try clear hcz85_4)
         (try clear hcz85_5)
         (try clear hfz85_0)
         (try clear hfz85_1)
         (try clear hfz85_2)
         (try clear hfz85_3)
         (try clear hfz85_4)
         (try clear hfz85_5)
         (try clear hcz87_0)
         (try clear hcz87_1)
         (try clear hcz87_2)
         (try clear hcz87_3)
         (try clear hcz87_4)
         (try clear hcz87_5)
         (try clear hfz87_0)
         (try clear hfz87_1)
         (try clear hfz87_2)
         (try clear hfz87_3)
         (try clear hfz87_4)
         (try clear hfz87_5)
         generalize (World.setCell (World.setCell (World.setCell (World.setCell (World.setCell (World.setCell (World.setCell (World.setCell w81 ⟨gb325, 0, none⟩ (.int .i64 t317)) ⟨gb325, 1, none⟩ (.int .i64 t318)) ⟨gb325, 2, none⟩ (.int .i64 t319)) ⟨gb325, 3, none⟩ (.int .i64 t320)) ⟨gb325, 4, none⟩ (.int .i64 t321)) ⟨gb325, 5, none⟩ (.slice Ao86 t322.length co86)) ⟨gb325, 0, none⟩ (.int .i64 6)) ⟨gb325, 2, none⟩ (.int .i64 ji73)) = w9 at q1 q2 q3 q4 ⊢
         have hy0 : w9.cell? ⟨gb325, 0, none⟩ = some (.int .i64 6) := (blk_cell q1 0).trans rfl
         have hz0 : w9.cell? ⟨gb278, 0, none⟩ = some (.int .i64 0) := (blk_cell q2 0).trans rfl
         have hf0 := blk_frozen q2 0
         have he0 := blk_frozen q1 0
         have hy1 : w9.cell? ⟨gb325, 1, none⟩ = some (.int .i64 t318) := (blk_cell q1 1).trans rfl
         have hz1 : w9.cell? ⟨gb278, 1, none⟩ = some (.int .i64 0) := (blk_cell q2 1).trans rfl
         have hf1 := blk_frozen q2 1
         have he1 := blk_frozen q1 1
         have hy2 : w9.cell? ⟨gb325, 2, none⟩ = some (.int .i64 ji73) := (blk_cell q1 2).trans rfl
         have hz2 : w9.cell? ⟨gb278, 2, none⟩ = some (.int .i64 0) := (blk_cell q2 2).trans rfl
         have hf2 := blk_frozen q2 2
         have he2 := blk_frozen q1 2
         have hy3 : w9.cell? ⟨gb325, 3, none⟩ = some (.int .i64 t320) := (blk_cell q1 3).trans rfl
         have hz3 : w9.cell? ⟨gb278, 3, none⟩ = some (.int .i64 0) := (blk_cell q2 3).trans rfl
         have hf3 := blk_frozen q2 3
         have he3 := blk_frozen q1 3
         have hy4 : w9.cell? ⟨gb325, 4, none⟩ = some (.int .i64 t321) := (blk_cell q1 4).trans rfl
         have hz4 : w9.cell? ⟨gb278, 4, none⟩ = some (.int .i64 0) := (blk_cell q2 4).trans rfl
         have hf4 := blk_frozen q2 4
         have he4 := blk_frozen q1 4
         have hy5 : w9.cell? ⟨gb325, 5, none⟩ = some (.slice Ao86 t322.length co86) := (blk_cell q1 5).trans rfl
         have hz5 : w9.cell? ⟨gb278, 5, none⟩ = some (.slice none 0 0) := (blk_cell q2 5).trans rfl
         have hf5 := blk_frozen q2 5
         have he5 := blk_frozen q1 5
         have hn := NB278_325.out
         have hn2 := Ne.symm hn
         go_wp2
         have hsy := HSY.out
         clear HSY
         subst hsy
         refine bodyPost_ret (results_ctt rfl _ _ gb278 24 #[.int .i64 6, .int .i64 t318, .int .i64 ji73, .int .i64 t320, .int .i64 t321, .slice Ao86 t322.length co86] (0, 0) _ rfl (by refine blk_put (cs := #[.int .i64 6, .int .i64 t318, .int .i64 ji73, .int .i64 t320, .int .i64 t321, .slice none 0 0]) ?_ 5 _ rfl; refine blk_put (cs := #[.int .i64 6, .int .i64 t318, .int .i64 ji73, .int .i64 t320, .int .i64 0, .slice none 0 0]) ?_ 4 _ rfl; refine blk_put (cs := #[.int .i64 6, .int .i64 t318, .int .i64 ji73, .int .i64 0, .int .i64 0, .slice none 0 0]) ?_ 3 _ rfl; refine blk_put (cs := #[.int .i64 6, .int .i64 t318, .int .i64 0, .int .i64 0, .int .i64 0, .slice none 0 0]) ?_ 2 _ rfl; refine blk_put (cs := #[.int .i64 6, .int .i64 0, .int .i64 0, .int .i64 0, .int .i64 0, .slice none 0 0]) ?_ 1 _ rfl; refine blk_put (cs := #[.int .i64 0, .int .i64 0, .int .i64 0, .int .i64 0, .int .i64 0, .slice none 0 0]) ?_ 0 _ rfl; exact q2) Try.underlying24 rfl (by kernel_rfl)) rfl ?_
         exact ⟨_, by first | rfl | (simp [errW_none, errW_some] <;> rfl) | (simp only [← hji57, ← hji58, ← hji73]; first | rfl | (simp [errW_none, errW_some] <;> rfl)) | (simp [*, errW_none, errW_some] <;> rfl), Kd.R_mono (Kd.R_far (p := ⟨gb278, 5, none⟩) (Kd.R_far (p := ⟨gb278, 4, none⟩) (Kd.R_far (p := ⟨gb278, 3, none⟩) (Kd.R_far (p := ⟨gb278, 2, none⟩) (Kd.R_far (p := ⟨gb278, 1, none⟩) (Kd.R_far (p := ⟨gb278, 0, none⟩) (Kd.R_types q4 q2 (by decide)) (fun _ hk => hk.2) (.int .i64 6)) (fun _ hk => hk.2) (.int .i64 t318)) (fun _ hk => hk.2) (.int .i64 ji73)) (fun _ hk => hk.2) (.int .i64 t320)) (fun _ hk => hk.2) (.int .i64 t321)) (fun _ hk => hk.2) (.slice Ao86 t322.length co86)) (fun _ _ => trivial), by (with_reducible repeat (first | exact q3 | refine below_set ?_ GE278.out))⟩
       ·rw [if_neg c55] at H
        have c55b0 : (a2 == x13_45) = false := beq_eq_false_iff_ne.mpr c55
        have c55b1 : (a2 != x13_45) = true := bne_iff_ne.mpr c55
        replace H := Option.bind_eq_some_iff.mp H
        obtain ⟨⟨t299, t300, t301, t302, t303, t304⟩, A880, H⟩ := H
        replace H : (some (t299, t300, t301, t302, t303, t304, (⟨#[]⟩ : ByteArray), 0)) = some (r1, r2, r3, r4, r5, r6, r7, r8) := H
        have A88 := Aside0.mk A880
        clear A880
        simp only [Option.some.injEq, Prod.mk.injEq] at H
        obtain ⟨rfl, rfl, rfl, rfl, rfl, rfl, rfl, rfl⟩ := H
        go_wp2_with (first | ((with_reducible refine gate_callee (f := 32) rfl ?_); refine goesL_ (some 59) rfl rfl Try.func32 (by kernel_rfl) rfl #[.int .i64 4] rfl ka ?_; (with_reducible refine (skiffref16_failed.calls 4 t299 t300 t301 t302 t303 t304 _ A88.out).mono ?_); rintro e w89 ⟨v305, rfl, ho0, hb⟩; refine ⟨_, rfl, ?_⟩; have n0_ := Aside0.mk (Kd.R_lower ho0 (below_size (kb3 HB.out GE277.out GE278.out GE290.out))); have n1_ := Aside0.mk (kL BK277.out hb); have n2_ := Aside0.mk (kL BK278.out hb); have n3_ := Aside0.mk (kL BK290.out hb); have n4_ := Aside0.mk (below_step (kb3 HB.out GE277.out GE278.out GE290.out) hb); clear BK277; clear BK278; clear BK290; clear HB; have HO306 := n0_; have BK277 := n1_; have BK278 := n2_; have BK290 := n3_; have HB := n4_; clear n0_ n1_ n2_ n3_ n4_; (try clear hb); (try clear hb2); (try clear hk); (try clear hi); (try clear ho0); have hnb90 := NB278_277.out; have hnc90 := NB277_278.out; have hnb91 := NB278_290.out; have hnc91 := NB290_278.out; obtain ⟨hcz92_0, hcz92_1, hcz92_2, hcz92_3, hcz92_4, hcz92_5⟩ := kc6 BK278.out; obtain ⟨hfz92_0, hfz92_1, hfz92_2, hfz92_3, hfz92_4, hfz92_5⟩ := kf6 BK278.out; obtain ⟨Ao93, co93, eo93⟩ := Kd.R_slice HO306.out; subst eo93))
        refine bodyPost_ret (results_ctt rfl _ _ gb278 24 #[.int .i64 t299, .int .i64 t300, .int .i64 t301, .int .i64 t302, .int .i64 t303, .slice Ao93 t304.length co93] (0, 0) _ rfl (kP6 BK278.out) Try.underlying24 rfl (by kernel_rfl)) rfl ?_
        exact ⟨_, by first | rfl | (simp [errW_none, errW_some] <;> rfl) | (simp [*, errW_none, errW_some] <;> rfl), by (with_reducible repeat (first | apply Kd.R_alloc | apply Kd.R_drewN | apply Kd.R_drew)); exact Kd.R_mono (Kd.R_far (p := ⟨gb278, 5, none⟩) (Kd.R_far (p := ⟨gb278, 4, none⟩) (Kd.R_far (p := ⟨gb278, 3, none⟩) (Kd.R_far (p := ⟨gb278, 2, none⟩) (Kd.R_far (p := ⟨gb278, 1, none⟩) (Kd.R_far (p := ⟨gb278, 0, none⟩) (Kd.R_types HO306.out BK278.out (by decide)) (fun _ hk => hk.2) (.int .i64 t299)) (fun _ hk => hk.2) (.int .i64 t300)) (fun _ hk => hk.2) (.int .i64 t301)) (fun _ hk => hk.2) (.int .i64 t302)) (fun _ hk => hk.2) (.int .i64 t303)) (fun _ hk => hk.2) (.slice Ao93 t304.length co93)) (fun _ hk => trivial), kb3 HB.out GE277.out GE278.out GE290.out⟩
    ·rw [if_neg c45] at H
     have c45b0 : (t289 == 0) = false := beq_eq_false_iff_ne.mpr c45
     have c45b1 : (t289 != 0) = true := bne_iff_ne.mpr c45
     replace H := Option.bind_eq_some_iff.mp H
     obtain ⟨⟨t291, t292, t293, t294, t295, t296⟩, A940, H⟩ := H
     replace H : (some (t291, t292, t293, t294, t295, t296, (⟨#[]⟩ : ByteArray), 0)) = some (r1, r2, r3, r4, r5, r6, r7, r8) := H
     have A94 := Aside0.mk A940
     clear A940
     simp only [Option.some.injEq, Prod.mk.injEq] at H
     obtain ⟨rfl, rfl, rfl, rfl, rfl, rfl, rfl, rfl⟩ := H
     go_wp2_with (first | ((with_reducible refine gate_callee (f := 17) rfl ?_); refine goesL_ (some 45) rfl rfl Try.func17 (by kernel_rfl) rfl #[.string a0] rfl ka ?_; (with_reducible refine (skiffref1_Active.calls kj4 a0 t284 t285 t286 t287 t288 t289 _ A44.out).mono ?_); rintro e w95 ⟨rfl, hb⟩; refine ⟨_, rfl, ?_⟩; have n0_ := Aside0.mk (kL BK277.out hb); have n1_ := Aside0.mk (kL BK278.out hb); have n2_ := Aside0.mk (below_step (kb2 HB.out GE277.out GE278.out) hb); clear BK277; clear BK278; clear HB; have BK277 := n0_; have BK278 := n1_; have HB := n2_; clear n0_ n1_ n2_; (try clear hb); (try clear hb2); (try clear hk); (try clear hi)) | ((with_reducible refine gate_dst (N := 11) rfl ?_); refine box_event ?hg (N := 11) ?hd (cs := #[.int .i64 0, .int .i64 0, .int .i64 0, .int .i64 0, .int .i64 0]) (t := 43) ?hr ?_; (case hd => rfl); (case hg => rfl); (case hr => first | (go_simp; done) | (go_simp; rfl)); intro gb290 hg w96 hbox hb; have n0_ := Aside0.mk (kL BK277.out hb); have n1_ := Aside0.mk (kL BK278.out hb); have n2_ := Aside0.mk (below_step (kb2 HB.out GE277.out GE278.out) hb); have n3_ := Aside0.mk (hbox); have n4_ := Aside0.mk ((kz hg (below_size (kb2 HB.out GE277.out GE278.out)) : w.heap.size ≤ gb290)); have n5_ := Aside0.mk ((kz hg (below_size (kb2 HB.out GE277.out GE278.out)) : w.heap.size ≤ gb290)); have n6_ := Aside0.mk ((kN hg BK277.out : gb277 ≠ gb290)); have n7_ := Aside0.mk (((kN hg BK277.out).symm : gb290 ≠ gb277)); have n8_ := Aside0.mk ((kN hg BK278.out : gb278 ≠ gb290)); have n9_ := Aside0.mk (((kN hg BK278.out).symm : gb290 ≠ gb278)); clear BK277; clear BK278; clear HB; have BK277 := n0_; have BK278 := n1_; have HB := n2_; have BK290 := n3_; have GW290 := n4_; have GE290 := n5_; have NB277_290 := n6_; have NB290_277 := n7_; have NB278_290 := n8_; have NB290_278 := n9_; clear n0_ n1_ n2_ n3_ n4_ n5_ n6_ n7_ n8_ n9_; clear hb hbox hg; have hnb97 := NB290_277.out; have hnc97 := NB277_290.out; have hnb98 := NB290_278.out; have hnc98 := NB278_290.out; obtain ⟨hcz99_0, hcz99_1, hcz99_2, hcz99_3, hcz99_4⟩ := kc5 BK290.out; obtain ⟨hfz99_0, hfz99_1, hfz99_2, hfz99_3, hfz99_4⟩ := kf5 BK290.out) | ((with_reducible refine gate_callee (f := 32) rfl ?_); refine goesL_ (some 50) rfl rfl Try.func32 (by kernel_rfl) rfl #[.int .i64 2] rfl ka ?_; (with_reducible refine (skiffref16_failed.calls 2 t291 t292 t293 t294 t295 t296 _ A94.out).mono ?_); rintro e w100 ⟨v297, rfl, ho0, hb⟩; refine ⟨_, rfl, ?_⟩; have n0_ := Aside0.mk (Kd.R_lower ho0 (below_size (kb3 HB.out GE277.out GE278.out GE290.out))); have n1_ := Aside0.mk (blk_below (g := gb277) (o := .cells #[.int .i64 a1_0, .int .i64 a1_1, .int .i64 a1_2, .int .i64 a1_3, .int .i64 a1_4, .slice A1_5 l1_5.length c1_5] 24 (0, 0)) (kFa5 BK277.out NB277_290.out) hb); have n2_ := Aside0.mk (blk_below (g := gb278) (o := .cells #[.int .i64 0, .int .i64 0, .int .i64 0, .int .i64 0, .int .i64 0, .slice none 0 0] 24 (0, 0)) (kFa5 BK278.out NB278_290.out) hb); have n3_ := Aside0.mk (blk_below (g := gb290) (o := .cells #[.int .i64 t284, .int .i64 t285, .int .i64 t286, .int .i64 t287, .int .i64 t288] 43 (0, 0)) (kP5 BK290.out) hb); have n4_ := Aside0.mk (below_step (kb3 HB.out GE277.out GE278.out GE290.out) hb); clear BK277; clear BK278; clear BK290; clear HB; have HO298 := n0_; have BK277 := n1_; have BK278 := n2_; have BK290 := n3_; have HB := n4_; clear n0_ n1_ n2_ n3_ n4_; (try clear hb); (try clear hb2); (try clear hk); (try clear hi); (try clear ho0); have hnb101 := NB278_277.out; have hnc101 := NB277_278.out; obtain ⟨hcz102_0, hcz102_1, hcz102_2, hcz102_3, hcz102_4, hcz102_5⟩ := kc6 BK278.out; obtain ⟨hfz102_0, hfz102_1, hfz102_2, hfz102_3, hfz102_4, hfz102_5⟩ := kf6 BK278.out; obtain ⟨Ao103, co103, eo103⟩ := Kd.R_slice HO298.out; subst eo103))
     refine bodyPost_ret (results_ctt rfl _ _ gb278 24 #[.int .i64 t291, .int .i64 t292, .int .i64 t293, .int .i64 t294, .int .i64 t295, .slice Ao103 t296.length co103] (0, 0) _ rfl (kP6 BK278.out) Try.underlying24 rfl (by kernel_rfl)) rfl ?_
     exact ⟨_, by first | rfl | (simp [errW_none, errW_some] <;> rfl) | (simp [*, errW_none, errW_some] <;> rfl), by (with_reducible repeat (first | apply Kd.R_alloc | apply Kd.R_drewN | apply Kd.R_drew)); exact Kd.R_mono (Kd.R_far (p := ⟨gb278, 5, none⟩) (Kd.R_far (p := ⟨gb278, 4, none⟩) (Kd.R_far (p := ⟨gb278, 3, none⟩) (Kd.R_far (p := ⟨gb278, 2, none⟩) (Kd.R_far (p := ⟨gb278, 1, none⟩) (Kd.R_far (p := ⟨gb278, 0, none⟩) (Kd.R_types HO298.out BK278.out (by decide)) (fun _ hk => hk.2) (.int .i64 t291)) (fun _ hk => hk.2) (.int .i64 t292)) (fun _ hk => hk.2) (.int .i64 t293)) (fun _ hk => hk.2) (.int .i64 t294)) (fun _ hk => hk.2) (.int .i64 t295)) (fun _ hk => hk.2) (.slice Ao103 t296.length co103)) (fun _ hk => trivial), kb3 HB.out GE277.out GE278.out GE290.out⟩

/-! ### skifflaw0_SameOps: function 34 -/
def skifflaw0_SameOps.l0 : Nat → List (S68) → List (S68) → Int → Option (Bool)
 | 0, _, _, _ => none
 | k + 1, x0, x1, x5 => if x5 < (x0.length : Int) then (if 0 ≤ x5 then (if x5 < (x1.length : Int) then (if (!(((rd_T68 x0 x5).f0) == ((rd_T68 x1 x5).f0)) || (!(((rd_T68 x0 x5).f1) == ((rd_T68 x1 x5).f1)) || (!((((rd_T68 x0 x5).f2).toList) == (((rd_T68 x1 x5).f2).toList))))) = true then (some false) else (skifflaw0_SameOps.l0 k x0 x1 (wrap64 (x5 + 1)))) else (none)) else (none)) else (some true)
def skifflaw0_SameOps.f (k : Nat) (l0 : List (S68)) (l1 : List (S68)) : Option (Bool) := if (l0.length : Int) = (l1.length : Int) then (skifflaw0_SameOps.l0 k l0 l1 0) else (some false)
theorem skifflaw0_SameOps.mono_l : ∀ k, (∀ y0 y1 y2, LeO (skifflaw0_SameOps.l0 k y0 y1 y2) (skifflaw0_SameOps.l0 (k + 1) y0 y1 y2))
 | 0 => fun _ _ _ r h => by simp [skifflaw0_SameOps.l0] at h
 | k + 1 => by
  have ih0 := skifflaw0_SameOps.mono_l k
  ·intro y0 y1 y2
   unfold skifflaw0_SameOps.l0
   repeat' first
   | (with_reducible exact ih0 _ _ _)
   | (with_reducible exact LeO.refl _)
   | (with_reducible exact LeO.none _)
   | (with_reducible refine LeO.ite ?_ ?_)
   | (with_reducible refine LeO.bind ?_ (fun _ => ?_))
   | exact ih0 _ _ _
   | exact LeO.none _
   | refine LeO.ite ?_ ?_
   | refine LeO.bind ?_ (fun _ => ?_)
theorem skifflaw0_SameOps.mono : ∀ a0 a1 k, LeO (skifflaw0_SameOps.f k a0 a1) (skifflaw0_SameOps.f (k + 1) a0 a1) := by
 intro a0 a1 k
 have ih0 := skifflaw0_SameOps.mono_l k
 unfold skifflaw0_SameOps.f
 repeat' first
   | (with_reducible exact ih0 _ _ _)
   | (with_reducible exact LeO.refl _)
   | (with_reducible exact LeO.none _)
   | (with_reducible refine LeO.ite ?_ ?_)
   | (with_reducible refine LeO.bind ?_ (fun _ => ?_))
   | exact ih0 _ _ _
   | exact LeO.none _
   | refine LeO.ite ?_ ?_
   | refine LeO.bind ?_ (fun _ => ?_)
set_option maxHeartbeats 8000000 in
set_option maxRecDepth 100000 in
theorem skifflaw0_SameOps.calls (k : Nat) (A0 : Option Addr) (c0 : Nat) (l0 : List (S68)) (A1 : Option Addr) (c1 : Nat) (l1 : List (S68)) (r : Bool) (w : World) (hr0 : Kd.C k68 w A0 l0.length l0) (hc0 : l0.length ≤ c0) (hr1 : Kd.C k68 w A1 l1.length l1) (hc1 : l1.length ≤ c1) (h : skifflaw0_SameOps.f k l0 l1 = some r) :
  Calls Try.prog 34 #[.slice A0 l0.length c0, .slice A1 l1.length c1] w fun e w' => e = .returned (.bool r) ∧ Drawn0 w w' := by
 have hu68 := Try.underlying68
 have HR0 := Aside0.mk hr0
 have HC0 := Aside0.mk hc0
 clear hr0 hc0
 have HR1 := Aside0.mk hr1
 have HC1 := Aside0.mk hc1
 clear hr1 hc1
 have H : (if (l0.length : Int) = (l1.length : Int) then (skifflaw0_SameOps.l0 k l0 l1 0) else (some false)) = some r := h
 clear h
 by_cases c3 : (l0.length : Int) = (l1.length : Int)
 case neg =>
  rw [if_neg c3] at H
  have c3b0 : ((l0.length : Int) == (l1.length : Int)) = false := beq_eq_false_iff_ne.mpr c3
  have c3b1 : ((l0.length : Int) != (l1.length : Int)) = true := bne_iff_ne.mpr c3
  have c3b2 : (l0.length == l1.length) = false := by first | simpa using c3 | (simp at c3 ⊢; omega)
  obtain rfl := Option.some.inj H
  go_enter Try.func34, Try.ntmps34
  go_wp2
  repeat (go_quiet (fail); try go_wp2)
  go_ret
  exact ⟨by first | rfl | (simp; done) | (simp [*]; done), by repeat (first | exact Drawn0.refl _ | apply Drawn0.step)⟩
 rw [if_pos c3] at H
 have c3b0 : ((l0.length : Int) == (l1.length : Int)) = true := beq_iff_eq.mpr c3
 have c3b1 : ((l0.length : Int) != (l1.length : Int)) = false := bne_eq_false_iff_eq.mpr c3
 have c3b2 : (l0.length == l1.length) = true := by first | simpa using c3 | (simp at c3 ⊢; omega)
 clear c3
 have H' := Aside0.mk H
 clear H
 go_enter Try.func34, Try.ntmps34
 go_wp2
 repeat (go_quiet (fail); try go_wp2)
 go_loopg [5] k (fun kq v5 w' => ∃ (x5_1 : Int), v5 = .int .i64 x5_1 ∧ Aside0 (skifflaw0_SameOps.l0 kq l0 l1 x5_1 = some r) ∧ Aside0 (kq ≤ k) ∧ Drawn0 w w')
 case atStart => exact ⟨(0), (by first | rfl | (simp; done) | (simp [*]; done)), H', ⟨Nat.le_refl _⟩, by repeat (first | exact Drawn0.refl _ | apply Drawn0.step)⟩
 case round =>
  clear H'
  try clear c1; try clear p2; try clear c3; try clear c3b0; try clear c3b1; try clear c3b2
  obtain ⟨x5_1, rfl, HA, HK1, ⟨m1, rfl⟩⟩ := hrel
  cases gk with
  | zero => exact absurd HA.out (by simp [skifflaw0_SameOps.l0])
  | succ k1 =>
   have H := HA.out
   clear HA
   simp only [skifflaw0_SameOps.l0] at H
   by_cases c4 : x5_1 < (l0.length : Int)
   case neg =>
    rw [if_neg c4] at H
    have c4b0 : decide (x5_1 < (l0.length : Int)) = false := decide_eq_false c4
    clear c4
    obtain rfl := Option.some.inj H
    go_wp2
    repeat (go_quiet (fail); try go_wp2)
    go_ret
    exact ⟨by first | rfl | (simp; done) | (simp [*]; done), by repeat (first | exact Drawn0.refl _ | apply Drawn0.step)⟩
   rw [if_pos c4] at H
   have c4b0 : decide (x5_1 < (l0.length : Int)) = true := decide_eq_true c4
   clear c4
   by_cases c5 : 0 ≤ x5_1
   case neg =>
    rw [if_neg c5] at H
    exact absurd H (by simp)
   rw [if_pos c5] at H
   have c5b0 : decide (0 ≤ x5_1) = true := decide_eq_true c5
   clear c5
   by_cases c6 : x5_1 < (l1.length : Int)
   case neg =>
    rw [if_neg c6] at H
    exact absurd H (by simp)
   rw [if_pos c6] at H
   have c6b0 : decide (x5_1 < (l1.length : Int)) = true := decide_eq_true c6
   clear c6
   by_cases c7 : (!(((rd_T68 l0 x5_1).f0) == ((rd_T68 l1 x5_1).f0)) || (!(((rd_T68 l0 x5_1).f1) == ((rd_T68 l1 x5_1).f1)) || (!((((rd_T68 l0 x5_1).f2).toList) == (((rd_T68 l1 x5_1).f2).toList))))) = true
   ·rw [if_pos c7] at H
    have c7b0 : (!(((rd_T68 l0 x5_1).f0) == ((rd_T68 l1 x5_1).f0)) || (!(((rd_T68 l0 x5_1).f1) == ((rd_T68 l1 x5_1).f1)) || (!((((rd_T68 l0 x5_1).f2).toList) == (((rd_T68 l1 x5_1).f2).toList))))) = true := c7
    clear c7
    obtain rfl := Option.some.inj H
    have p326 : 0 ≤ (x5_1 : Int) := of_decide_eq_true (by first | (with_reducible assumption) | assumption)
    have q326 : x5_1 < (l0.length : Int) := of_decide_eq_true (by first | (with_reducible assumption) | assumption)
    obtain ⟨ad326, e326, hx326_0, hx326_1, hx326_2⟩ := at_T68 HR0.out x5_1 p326 q326
    cases e326
    replace p326 := eq_true p326
    replace q326 := eq_true q326
    have p327 : 0 ≤ (x5_1 : Int) := of_decide_eq_true (by first | (with_reducible assumption) | assumption)
    have q327 : x5_1 < (l1.length : Int) := of_decide_eq_true (by first | (with_reducible assumption) | assumption)
    obtain ⟨ad327, e327, hx327_0, hx327_1, hx327_2⟩ := at_T68 HR1.out x5_1 p327 q327
    cases e327
    replace p327 := eq_true p327
    replace q327 := eq_true q327
    go_wp2
    repeat (go_quiet (fail); try go_wp2)
    go_ret
    exact ⟨by first | rfl | (simp; done) | (simp [*]; done), by repeat (first | exact Drawn0.refl _ | apply Drawn0.step)⟩
   ·rw [if_neg c7] at H
    have c7b0 : (!(((rd_T68 l0 x5_1).f0) == ((rd_T68 l1 x5_1).f0)) || (!(((rd_T68 l0 x5_1).f1) == ((rd_T68 l1 x5_1).f1)) || (!((((rd_T68 l0 x5_1).f2).toList) == (((rd_T68 l1 x5_1).f2).toList))))) = false := by simpa using c7
    clear c7
    have H' := Aside0.mk H
    clear H
    have p326 : 0 ≤ (x5_1 : Int) := of_decide_eq_true (by first | (with_reducible assumption) | assumption)
    have q326 : x5_1 < (l0.length : Int) := of_decide_eq_true (by first | (with_reducible assumption) | assumption)
    obtain ⟨ad326, e326, hx326_0, hx326_1, hx326_2⟩ := at_T68 HR0.out x5_1 p326 q326
    cases e326
    replace p326 := eq_true p326
    replace q326 := eq_true q326
    have p327 : 0 ≤ (x5_1 : Int) := of_decide_eq_true (by first | (with_reducible assumption) | assumption)
    have q327 : x5_1 < (l1.length : Int) := of_decide_eq_true (by first | (with_reducible assumption) | assumption)
    obtain ⟨ad327, e327, hx327_0, hx327_1, hx327_2⟩ := at_T68 HR1.out x5_1 p327 q327
    cases e327
    replace p327 := eq_true p327
    replace q327 := eq_true q327
    go_wp2
    repeat (go_quiet (fail); try go_wp2)
    go_roundg k1
    case measure => have := HK1.out; omega
    case rel => exact ⟨(wrap64 (x5_1 + 1)), (by first | rfl | (simp; done) | (simp [*]; done)), H', ⟨by have := HK1.out; omega⟩, by repeat (first | exact Drawn0.refl _ | apply Drawn0.step)⟩

/-! ### skifflaw0_SameDevice: function 12 -/
def skifflaw0_SameDevice.f (k : Nat) (a0_0 : Int) (a0_1 : Int) (a0_2 : Int) (a0_3 : Int) (a0_4 : Int) (l0_5 : List (S68)) (a1_0 : Int) (a1_1 : Int) (a1_2 : Int) (a1_3 : Int) (a1_4 : Int) (l1_5 : List (S68)) : Option (Bool) := if a0_0 = a1_0 then (if a0_1 = a1_1 then (if a0_2 = a1_2 then (if a0_3 = a1_3 then (if a0_4 = a1_4 then ((skifflaw0_SameOps.f k l0_5 l1_5).bind fun t330 => (some t330)) else (some false)) else (some false)) else (some false)) else (some false)) else (some false)
theorem skifflaw0_SameDevice.mono : ∀ a0 a1 a2 a3 a4 a5 a6 a7 a8 a9 a10 a11 k, LeO (skifflaw0_SameDevice.f k a0 a1 a2 a3 a4 a5 a6 a7 a8 a9 a10 a11) (skifflaw0_SameDevice.f (k + 1) a0 a1 a2 a3 a4 a5 a6 a7 a8 a9 a10 a11) := by
 intro a0 a1 a2 a3 a4 a5 a6 a7 a8 a9 a10 a11 k
 unfold skifflaw0_SameDevice.f
 repeat' first
   | (with_reducible exact skifflaw0_SameOps.mono _ _ _)
   | (with_reducible exact LeO.refl _)
   | (with_reducible exact LeO.none _)
   | (with_reducible refine LeO.ite ?_ ?_)
   | (with_reducible refine LeO.bind ?_ (fun _ => ?_))
   | exact skifflaw0_SameOps.mono _ _ _
   | exact LeO.none _
   | refine LeO.ite ?_ ?_
   | refine LeO.bind ?_ (fun _ => ?_)
set_option maxHeartbeats 8000000 in
set_option maxRecDepth 100000 in
theorem skifflaw0_SameDevice.calls (k : Nat) (a0_0 : Int) (a0_1 : Int) (a0_2 : Int) (a0_3 : Int) (a0_4 : Int) (A0_5 : Option Addr) (c0_5 : Nat) (l0_5 : List (S68)) (a1_0 : Int) (a1_1 : Int) (a1_2 : Int) (a1_3 : Int) (a1_4 : Int) (A1_5 : Option Addr) (c1_5 : Nat) (l1_5 : List (S68)) (r : Bool) (w : World) (hr0_5 : Kd.C k68 w A0_5 l0_5.length l0_5) (hc0_5 : l0_5.length ≤ c0_5) (hr1_5 : Kd.C k68 w A1_5 l1_5.length l1_5) (hc1_5 : l1_5.length ≤ c1_5) (h : skifflaw0_SameDevice.f k a0_0 a0_1 a0_2 a0_3 a0_4 l0_5 a1_0 a1_1 a1_2 a1_3 a1_4 l1_5 = some r) :
  Calls Try.prog 12 #[.agg #[.int .i64 a0_0, .int .i64 a0_1, .int .i64 a0_2, .int .i64 a0_3, .int .i64 a0_4, .slice A0_5 l0_5.length c0_5], .agg #[.int .i64 a1_0, .int .i64 a1_1, .int .i64 a1_2, .int .i64 a1_3, .int .i64 a1_4, .slice A1_5 l1_5.length c1_5]] w fun e w' => e = .returned (.bool r) ∧ Below w.heap.size w w' := by
 have hu24 := Try.underlying24
 have HR0_5 := Aside0.mk hr0_5
 have HC0_5 := Aside0.mk hc0_5
 clear hr0_5 hc0_5
 have HR1_5 := Aside0.mk hr1_5
 have HC1_5 := Aside0.mk hc1_5
 clear hr1_5 hc1_5
 have HB := Aside0.mk (Below.refl w.heap.size w)
 have H : (if a0_0 = a1_0 then (if a0_1 = a1_1 then (if a0_2 = a1_2 then (if a0_3 = a1_3 then (if a0_4 = a1_4 then ((skifflaw0_SameOps.f k l0_5 l1_5).bind fun t330 => (some t330)) else (some false)) else (some false)) else (some false)) else (some false)) else (some false)) = some r := h
 clear h
 by_cases c3 : a0_0 = a1_0
 case neg =>
  rw [if_neg c3] at H
  have c3b0 : (a0_0 == a1_0) = false := beq_eq_false_iff_ne.mpr c3
  have c3b1 : (a0_0 != a1_0) = true := bne_iff_ne.mpr c3
  obtain rfl := Option.some.inj H
  go_enter Try.func12, Try.ntmps12
  go_wp2_with (first | ((with_reducible refine gate_dst (N := 2) rfl ?_); refine box_event ?hg (N := 2) ?hd (cs := #[.int .i64 a0_0, .int .i64 a0_1, .int .i64 a0_2, .int .i64 a0_3, .int .i64 a0_4, .slice A0_5 l0_5.length c0_5]) (t := 24) ?hr ?_; (case hd => rfl); (case hg => rfl); (case hr => first | (go_simp; done) | (go_simp; rfl)); intro gb328 hg w34 hbox hb; have n0_ := Aside0.mk (below_step (kb HB.out) hb); have n1_ := Aside0.mk (hbox); have n2_ := Aside0.mk ((kz hg (below_size (kb HB.out)) : w.heap.size ≤ gb328)); have n3_ := Aside0.mk ((kz hg (below_size (kb HB.out)) : w.heap.size ≤ gb328)); clear HB; have HB := n0_; have BK328 := n1_; have GW328 := n2_; have GE328 := n3_; clear n0_ n1_ n2_ n3_; clear hb hbox hg) | ((with_reducible refine gate_dst (N := 3) rfl ?_); refine box_event ?hg (N := 3) ?hd (cs := #[.int .i64 a1_0, .int .i64 a1_1, .int .i64 a1_2, .int .i64 a1_3, .int .i64 a1_4, .slice A1_5 l1_5.length c1_5]) (t := 24) ?hr ?_; (case hd => rfl); (case hg => rfl); (case hr => first | (go_simp; done) | (go_simp; rfl)); intro gb329 hg w35 hbox hb; have n0_ := Aside0.mk (kL BK328.out hb); have n1_ := Aside0.mk (below_step (kb1 HB.out GE328.out) hb); have n2_ := Aside0.mk (hbox); have n3_ := Aside0.mk ((kz hg (below_size (kb1 HB.out GE328.out)) : w.heap.size ≤ gb329)); have n4_ := Aside0.mk ((kz hg (below_size (kb1 HB.out GE328.out)) : w.heap.size ≤ gb329)); have n5_ := Aside0.mk ((kN hg BK328.out : gb328 ≠ gb329)); have n6_ := Aside0.mk (((kN hg BK328.out).symm : gb329 ≠ gb328)); clear BK328; clear HB; have BK328 := n0_; have HB := n1_; have BK329 := n2_; have GW329 := n3_; have GE329 := n4_; have NB328_329 := n5_; have NB329_328 := n6_; clear n0_ n1_ n2_ n3_ n4_ n5_ n6_; clear hb hbox hg; have hnb36 := NB328_329.out; have hnc36 := NB329_328.out; obtain ⟨hcz37_0, hcz37_1, hcz37_2, hcz37_3, hcz37_4, hcz37_5⟩ := kc6 BK328.out; obtain ⟨hfz37_0, hfz37_1, hfz37_2, hfz37_3, hfz37_4, hfz37_5⟩ := kf6 BK328.out; obtain ⟨hcz38_0, hcz38_1, hcz38_2, hcz38_3, hcz38_4, hcz38_5⟩ := kc6 BK329.out; obtain ⟨hfz38_0, hfz38_1, hfz38_2, hfz38_3, hfz38_4, hfz38_5⟩ := kf6 BK329.out))
  go_ret
  exact ⟨by first | rfl | (simp [errW_none, errW_some] <;> rfl) | (simp [*, errW_none, errW_some] <;> rfl), kb2 HB.out GE328.out GE329.out⟩
 rw [if_pos c3] at H
 have c3b0 : (a0_0 == a1_0) = true := beq_iff_eq.mpr c3
 have c3b1 : (a0_0 != a1_0) = false := bne_eq_false_iff_eq.mpr c3
 clear c3
 by_cases c4 : a0_1 = a1_1
 case neg =>
  rw [if_neg c4] at H
  have c4b0 : (a0_1 == a1_1) = false := beq_eq_false_iff_ne.mpr c4
  have c4b1 : (a0_1 != a1_1) = true := bne_iff_ne.mpr c4
  obtain rfl := Option.some.inj H
  go_enter Try.func12, Try.ntmps12
  go_wp2_with (first | ((with_reducible refine gate_dst (N := 2) rfl ?_); refine box_event ?hg (N := 2) ?hd (cs := #[.int .i64 a0_0, .int .i64 a0_1, .int .i64 a0_2, .int .i64 a0_3, .int .i64 a0_4, .slice A0_5 l0_5.length c0_5]) (t := 24) ?hr ?_; (case hd => rfl); (case hg => rfl); (case hr => first | (go_simp; done) | (go_simp; rfl)); intro gb328 hg w29 hbox hb; have n0_ := Aside0.mk (below_step (kb HB.out) hb); have n1_ := Aside0.mk (hbox); have n2_ := Aside0.mk ((kz hg (below_size (kb HB.out)) : w.heap.size ≤ gb328)); have n3_ := Aside0.mk ((kz hg (below_size (kb HB.out)) : w.heap.size ≤ gb328)); clear HB; have HB := n0_; have BK328 := n1_; have GW328 := n2_; have GE328 := n3_; clear n0_ n1_ n2_ n3_; clear hb hbox hg) | ((with_reducible refine gate_dst (N := 3) rfl ?_); refine box_event ?hg (N := 3) ?hd (cs := #[.int .i64 a1_0, .int .i64 a1_1, .int .i64 a1_2, .int .i64 a1_3, .int .i64 a1_4, .slice A1_5 l1_5.length c1_5]) (t := 24) ?hr ?_; (case hd => rfl); (case hg => rfl); (case hr => first | (go_simp; done) | (go_simp; rfl)); intro gb329 hg w30 hbox hb; have n0_ := Aside0.mk (kL BK328.out hb); have n1_ := Aside0.mk (below_step (kb1 HB.out GE328.out) hb); have n2_ := Aside0.mk (hbox); have n3_ := Aside0.mk ((kz hg (below_size (kb1 HB.out GE328.out)) : w.heap.size ≤ gb329)); have n4_ := Aside0.mk ((kz hg (below_size (kb1 HB.out GE328.out)) : w.heap.size ≤ gb329)); have n5_ := Aside0.mk ((kN hg BK328.out : gb328 ≠ gb329)); have n6_ := Aside0.mk (((kN hg BK328.out).symm : gb329 ≠ gb328)); clear BK328; clear HB; have BK328 := n0_; have HB := n1_; have BK329 := n2_; have GW329 := n3_; have GE329 := n4_; have NB328_329 := n5_; have NB329_328 := n6_; clear n0_ n1_ n2_ n3_ n4_ n5_ n6_; clear hb hbox hg; have hnb31 := NB328_329.out; have hnc31 := NB329_328.out; obtain ⟨hcz32_0, hcz32_1, hcz32_2, hcz32_3, hcz32_4, hcz32_5⟩ := kc6 BK328.out; obtain ⟨hfz32_0, hfz32_1, hfz32_2, hfz32_3, hfz32_4, hfz32_5⟩ := kf6 BK328.out; obtain ⟨hcz33_0, hcz33_1, hcz33_2, hcz33_3, hcz33_4, hcz33_5⟩ := kc6 BK329.out; obtain ⟨hfz33_0, hfz33_1, hfz33_2, hfz33_3, hfz33_4, hfz33_5⟩ := kf6 BK329.out))
  go_ret
  exact ⟨by first | rfl | (simp [errW_none, errW_some] <;> rfl) | (simp [*, errW_none, errW_some] <;> rfl), kb2 HB.out GE328.out GE329.out⟩
 rw [if_pos c4] at H
 have c4b0 : (a0_1 == a1_1) = true := beq_iff_eq.mpr c4
 have c4b1 : (a0_1 != a1_1) = false := bne_eq_false_iff_eq.mpr c4
 clear c4
 by_cases c5 : a0_2 = a1_2
 case neg =>
  rw [if_neg c5] at H
  have c5b0 : (a0_2 == a1_2) = false := beq_eq_false_iff_ne.mpr c5
  have c5b1 : (a0_2 != a1_2) = true := bne_iff_ne.mpr c5
  obtain rfl := Option.some.inj H
  go_enter Try.func12, Try.ntmps12
  go_wp2_with (first | ((with_reducible refine gate_dst (N := 2) rfl ?_); refine box_event ?hg (N := 2) ?hd (cs := #[.int .i64 a0_0, .int .i64 a0_1, .int .i64 a0_2, .int .i64 a0_3, .int .i64 a0_4, .slice A0_5 l0_5.length c0_5]) (t := 24) ?hr ?_; (case hd => rfl); (case hg => rfl); (case hr => first | (go_simp; done) | (go_simp; rfl)); intro gb328 hg w24 hbox hb; have n0_ := Aside0.mk (below_step (kb HB.out) hb); have n1_ := Aside0.mk (hbox); have n2_ := Aside0.mk ((kz hg (below_size (kb HB.out)) : w.heap.size ≤ gb328)); have n3_ := Aside0.mk ((kz hg (below_size (kb HB.out)) : w.heap.size ≤ gb328)); clear HB; have HB := n0_; have BK328 := n1_; have GW328 := n2_; have GE328 := n3_; clear n0_ n1_ n2_ n3_; clear hb hbox hg) | ((with_reducible refine gate_dst (N := 3) rfl ?_); refine box_event ?hg (N := 3) ?hd (cs := #[.int .i64 a1_0, .int .i64 a1_1, .int .i64 a1_2, .int .i64 a1_3, .int .i64 a1_4, .slice A1_5 l1_5.length c1_5]) (t := 24) ?hr ?_; (case hd => rfl); (case hg => rfl); (case hr => first | (go_simp; done) | (go_simp; rfl)); intro gb329 hg w25 hbox hb; have n0_ := Aside0.mk (kL BK328.out hb); have n1_ := Aside0.mk (below_step (kb1 HB.out GE328.out) hb); have n2_ := Aside0.mk (hbox); have n3_ := Aside0.mk ((kz hg (below_size (kb1 HB.out GE328.out)) : w.heap.size ≤ gb329)); have n4_ := Aside0.mk ((kz hg (below_size (kb1 HB.out GE328.out)) : w.heap.size ≤ gb329)); have n5_ := Aside0.mk ((kN hg BK328.out : gb328 ≠ gb329)); have n6_ := Aside0.mk (((kN hg BK328.out).symm : gb329 ≠ gb328)); clear BK328; clear HB; have BK328 := n0_; have HB := n1_; have BK329 := n2_; have GW329 := n3_; have GE329 := n4_; have NB328_329 := n5_; have NB329_328 := n6_; clear n0_ n1_ n2_ n3_ n4_ n5_ n6_; clear hb hbox hg; have hnb26 := NB328_329.out; have hnc26 := NB329_328.out; obtain ⟨hcz27_0, hcz27_1, hcz27_2, hcz27_3, hcz27_4, hcz27_5⟩ := kc6 BK328.out; obtain ⟨hfz27_0, hfz27_1, hfz27_2, hfz27_3, hfz27_4, hfz27_5⟩ := kf6 BK328.out; obtain ⟨hcz28_0, hcz28_1, hcz28_2, hcz28_3, hcz28_4, hcz28_5⟩ := kc6 BK329.out; obtain ⟨hfz28_0, hfz28_1, hfz28_2, hfz28_3, hfz28_4, hfz28_5⟩ := kf6 BK329.out))
  go_ret
  exact ⟨by first | rfl | (simp [errW_none, errW_some] <;> rfl) | (simp [*, errW_none, errW_some] <;> rfl), kb2 HB.out GE328.out GE329.out⟩
 rw [if_pos c5] at H
 have c5b0 : (a0_2 == a1_2) = true := beq_iff_eq.mpr c5
 have c5b1 : (a0_2 != a1_2) = false := bne_eq_false_iff_eq.mpr c5
 clear c5
 by_cases c6 : a0_3 = a1_3
 case neg =>
  rw [if_neg c6] at H
  have c6b0 : (a0_3 == a1_3) = false := beq_eq_false_iff_ne.mpr c6
  have c6b1 : (a0_3 != a1_3) = true := bne_iff_ne.mpr c6
  obtain rfl := Option.some.inj H
  go_enter Try.func12, Try.ntmps12
  go_wp2_with (first | ((with_reducible refine gate_dst (N := 2) rfl ?_); refine box_event ?hg (N := 2) ?hd (cs := #[.int .i64 a0_0, .int .i64 a0_1, .int .i64 a0_2, .int .i64 a0_3, .int .i64 a0_4, .slice A0_5 l0_5.length c0_5]) (t := 24) ?hr ?_; (case hd => rfl); (case hg => rfl); (case hr => first | (go_simp; done) | (go_simp; rfl)); intro gb328 hg w19 hbox hb; have n0_ := Aside0.mk (below_step (kb HB.out) hb); have n1_ := Aside0.mk (hbox); have n2_ := Aside0.mk ((kz hg (below_size (kb HB.out)) : w.heap.size ≤ gb328)); have n3_ := Aside0.mk ((kz hg (below_size (kb HB.out)) : w.heap.size ≤ gb328)); clear HB; have HB := n0_; have BK328 := n1_; have GW328 := n2_; have GE328 := n3_; clear n0_ n1_ n2_ n3_; clear hb hbox hg) | ((with_reducible refine gate_dst (N := 3) rfl ?_); refine box_event ?hg (N := 3) ?hd (cs := #[.int .i64 a1_0, .int .i64 a1_1, .int .i64 a1_2, .int .i64 a1_3, .int .i64 a1_4, .slice A1_5 l1_5.length c1_5]) (t := 24) ?hr ?_; (case hd => rfl); (case hg => rfl); (case hr => first | (go_simp; done) | (go_simp; rfl)); intro gb329 hg w20 hbox hb; have n0_ := Aside0.mk (kL BK328.out hb); have n1_ := Aside0.mk (below_step (kb1 HB.out GE328.out) hb); have n2_ := Aside0.mk (hbox); have n3_ := Aside0.mk ((kz hg (below_size (kb1 HB.out GE328.out)) : w.heap.size ≤ gb329)); have n4_ := Aside0.mk ((kz hg (below_size (kb1 HB.out GE328.out)) : w.heap.size ≤ gb329)); have n5_ := Aside0.mk ((kN hg BK328.out : gb328 ≠ gb329)); have n6_ := Aside0.mk (((kN hg BK328.out).symm : gb329 ≠ gb328)); clear BK328; clear HB; have BK328 := n0_; have HB := n1_; have BK329 := n2_; have GW329 := n3_; have GE329 := n4_; have NB328_329 := n5_; have NB329_328 := n6_; clear n0_ n1_ n2_ n3_ n4_ n5_ n6_; clear hb hbox hg; have hnb21 := NB328_329.out; have hnc21 := NB329_328.out; obtain ⟨hcz22_0, hcz22_1, hcz22_2, hcz22_3, hcz22_4, hcz22_5⟩ := kc6 BK328.out; obtain ⟨hfz22_0, hfz22_1, hfz22_2, hfz22_3, hfz22_4, hfz22_5⟩ := kf6 BK328.out; obtain ⟨hcz23_0, hcz23_1, hcz23_2, hcz23_3, hcz23_4, hcz23_5⟩ := kc6 BK329.out; obtain ⟨hfz23_0, hfz23_1, hfz23_2, hfz23_3, hfz23_4, hfz23_5⟩ := kf6 BK329.out))
  go_ret
  exact ⟨by first | rfl | (simp [errW_none, errW_some] <;> rfl) | (simp [*, errW_none, errW_some] <;> rfl), kb2 HB.out GE328.out GE329.out⟩
 rw [if_pos c6] at H
 have c6b0 : (a0_3 == a1_3) = true := beq_iff_eq.mpr c6
 have c6b1 : (a0_3 != a1_3) = false := bne_eq_false_iff_eq.mpr c6
 clear c6
 by_cases c7 : a0_4 = a1_4
 case neg =>
  rw [if_neg c7] at H
  have c7b0 : (a0_4 == a1_4) = false := beq_eq_false_iff_ne.mpr c7
  have c7b1 : (a0_4 != a1_4) = true := bne_iff_ne.mpr c7
  obtain rfl := Option.some.inj H
  go_enter Try.func12, Try.ntmps12
  go_wp2_with (first | ((with_reducible refine gate_dst (N := 2) rfl ?_); refine box_event ?hg (N := 2) ?hd (cs := #[.int .i64 a0_0, .int .i64 a0_1, .int .i64 a0_2, .int .i64 a0_3, .int .i64 a0_4, .slice A0_5 l0_5.length c0_5]) (t := 24) ?hr ?_; (case hd => rfl); (case hg => rfl); (case hr => first | (go_simp; done) | (go_simp; rfl)); intro gb328 hg w14 hbox hb; have n0_ := Aside0.mk (below_step (kb HB.out) hb); have n1_ := Aside0.mk (hbox); have n2_ := Aside0.mk ((kz hg (below_size (kb HB.out)) : w.heap.size ≤ gb328)); have n3_ := Aside0.mk ((kz hg (below_size (kb HB.out)) : w.heap.size ≤ gb328)); clear HB; have HB := n0_; have BK328 := n1_; have GW328 := n2_; have GE328 := n3_; clear n0_ n1_ n2_ n3_; clear hb hbox hg) | ((with_reducible refine gate_dst (N := 3) rfl ?_); refine box_event ?hg (N := 3) ?hd (cs := #[.int .i64 a1_0, .int .i64 a1_1, .int .i64 a1_2, .int .i64 a1_3, .int .i64 a1_4, .slice A1_5 l1_5.length c1_5]) (t := 24) ?hr ?_; (case hd => rfl); (case hg => rfl); (case hr => first | (go_simp; done) | (go_simp; rfl)); intro gb329 hg w15 hbox hb; have n0_ := Aside0.mk (kL BK328.out hb); have n1_ := Aside0.mk (below_step (kb1 HB.out GE328.out) hb); have n2_ := Aside0.mk (hbox); have n3_ := Aside0.mk ((kz hg (below_size (kb1 HB.out GE328.out)) : w.heap.size ≤ gb329)); have n4_ := Aside0.mk ((kz hg (below_size (kb1 HB.out GE328.out)) : w.heap.size ≤ gb329)); have n5_ := Aside0.mk ((kN hg BK328.out : gb328 ≠ gb329)); have n6_ := Aside0.mk (((kN hg BK328.out).symm : gb329 ≠ gb328)); clear BK328; clear HB; have BK328 := n0_; have HB := n1_; have BK329 := n2_; have GW329 := n3_; have GE329 := n4_; have NB328_329 := n5_; have NB329_328 := n6_; clear n0_ n1_ n2_ n3_ n4_ n5_ n6_; clear hb hbox hg; have hnb16 := NB328_329.out; have hnc16 := NB329_328.out; obtain ⟨hcz17_0, hcz17_1, hcz17_2, hcz17_3, hcz17_4, hcz17_5⟩ := kc6 BK328.out; obtain ⟨hfz17_0, hfz17_1, hfz17_2, hfz17_3, hfz17_4, hfz17_5⟩ := kf6 BK328.out; obtain ⟨hcz18_0, hcz18_1, hcz18_2, hcz18_3, hcz18_4, hcz18_5⟩ := kc6 BK329.out; obtain ⟨hfz18_0, hfz18_1, hfz18_2, hfz18_3, hfz18_4, hfz18_5⟩ := kf6 BK329.out))
  go_ret
  exact ⟨by first | rfl | (simp [errW_none, errW_some] <;> rfl) | (simp [*, errW_none, errW_some] <;> rfl), kb2 HB.out GE328.out GE329.out⟩
 rw [if_pos c7] at H
 have c7b0 : (a0_4 == a1_4) = true := beq_iff_eq.mpr c7
 have c7b1 : (a0_4 != a1_4) = false := bne_eq_false_iff_eq.mpr c7
 clear c7
 replace H := Option.bind_eq_some_iff.mp H
 obtain ⟨t330, A80, H⟩ := H
 replace H : (some t330) = some r := H
 have A8 := Aside0.mk A80
 clear A80
 obtain rfl := Option.some.inj H
 go_enter Try.func12, Try.ntmps12
 go_wp2_with (first | ((with_reducible refine gate_dst (N := 2) rfl ?_); refine box_event ?hg (N := 2) ?hd (cs := #[.int .i64 a0_0, .int .i64 a0_1, .int .i64 a0_2, .int .i64 a0_3, .int .i64 a0_4, .slice A0_5 l0_5.length c0_5]) (t := 24) ?hr ?_; (case hd => rfl); (case hg => rfl); (case hr => first | (go_simp; done) | (go_simp; rfl)); intro gb328 hg w9 hbox hb; have n0_ := Aside0.mk (below_step (kb HB.out) hb); have n1_ := Aside0.mk (hbox); have n2_ := Aside0.mk ((kz hg (below_size (kb HB.out)) : w.heap.size ≤ gb328)); have n3_ := Aside0.mk ((kz hg (below_size (kb HB.out)) : w.heap.size ≤ gb328)); clear HB; have HB := n0_; have BK328 := n1_; have GW328 := n2_; have GE328 := n3_; clear n0_ n1_ n2_ n3_; clear hb hbox hg) | ((with_reducible refine gate_dst (N := 3) rfl ?_); refine box_event ?hg (N := 3) ?hd (cs := #[.int .i64 a1_0, .int .i64 a1_1, .int .i64 a1_2, .int .i64 a1_3, .int .i64 a1_4, .slice A1_5 l1_5.length c1_5]) (t := 24) ?hr ?_; (case hd => rfl); (case hg => rfl); (case hr => first | (go_simp; done) | (go_simp; rfl)); intro gb329 hg w10 hbox hb; have n0_ := Aside0.mk (kL BK328.out hb); have n1_ := Aside0.mk (below_step (kb1 HB.out GE328.out) hb); have n2_ := Aside0.mk (hbox); have n3_ := Aside0.mk ((kz hg (below_size (kb1 HB.out GE328.out)) : w.heap.size ≤ gb329)); have n4_ := Aside0.mk ((kz hg (below_size (kb1 HB.out GE328.out)) : w.heap.size ≤ gb329)); have n5_ := Aside0.mk ((kN hg BK328.out : gb328 ≠ gb329)); have n6_ := Aside0.mk (((kN hg BK328.out).symm : gb329 ≠ gb328)); clear BK328; clear HB; have BK328 := n0_; have HB := n1_; have BK329 := n2_; have GW329 := n3_; have GE329 := n4_; have NB328_329 := n5_; have NB329_328 := n6_; clear n0_ n1_ n2_ n3_ n4_ n5_ n6_; clear hb hbox hg; have hnb11 := NB328_329.out; have hnc11 := NB329_328.out; obtain ⟨hcz12_0, hcz12_1, hcz12_2, hcz12_3, hcz12_4, hcz12_5⟩ := kc6 BK328.out; obtain ⟨hfz12_0, hfz12_1, hfz12_2, hfz12_3, hfz12_4, hfz12_5⟩ := kf6 BK328.out; obtain ⟨hcz13_0, hcz13_1, hcz13_2, hcz13_3, hcz13_4, hcz13_5⟩ := kc6 BK329.out; obtain ⟨hfz13_0, hfz13_1, hfz13_2, hfz13_3, hfz13_4, hfz13_5⟩ := kf6 BK329.out) | (go_at_call 34; (with_reducible refine (skifflaw0_SameOps.calls k _ _ l0_5 _ _ l1_5 t330 _ ?side1 ?side2 ?side3 ?side4 A8.out).mono ?_); (case side1 => exact kC (Kd.C_below HR0_5.out HB.out)); (case side2 => exact HC0_5.out); (case side3 => exact kC (Kd.C_below HR1_5.out HB.out)); (case side4 => exact HC1_5.out); rintro e w' ⟨rfl, ⟨nd, rfl⟩⟩))
 go_ret
 exact ⟨by first | rfl | (simp [errW_none, errW_some] <;> rfl) | (simp [*, errW_none, errW_some] <;> rfl), kb2 HB.out GE328.out GE329.out⟩

/-! ### skifflaw0_Num: function 13 -/
def skifflaw0_Num.f (a0 : Int) : Option (Int) := some a0
set_option maxHeartbeats 8000000 in
set_option maxRecDepth 100000 in
theorem skifflaw0_Num.calls (a0 : Int) (r : Int) (w : World) (h : skifflaw0_Num.f a0 = some r) :
  Calls Try.prog 13 #[.int .i64 a0] w fun e w' => e = .returned (.int .i64 r) ∧ Drawn0 w w' := by
 have H : (some a0) = some r := h
 clear h
 obtain rfl := Option.some.inj H
 go_enter Try.func13, Try.ntmps13
 go_wp2
 go_ret
 exact ⟨by first | rfl | (simp; done) | (simp [*]; done), by repeat (first | exact Drawn0.refl _ | apply Drawn0.step)⟩

/-! ### skifflaw0_SpoilOps: function 35 -/
def skifflaw0_SpoilOps.l0 : Nat → List (S68) → Int → Option ((List (S68)))
 | 0, _, _ => none
 | k + 1, x0, x2 => if x2 < (x0.length : Int) then (if 0 ≤ x2 then (skifflaw0_SpoilOps.l0 k (x0.set (x2 : Int).toNat (⟨(rd_T68 x0 x2).f0, Go.bits .xor .i64 ((rd_T68 x0 x2).f1) 90, (rd_T68 x0 x2).f2⟩ : S68)) (wrap64 (x2 + 1))) else (none)) else (some x0)
def skifflaw0_SpoilOps.f (k : Nat) (l0 : List (S68)) : Option ((List (S68))) := skifflaw0_SpoilOps.l0 k l0 0
set_option maxHeartbeats 8000000 in
set_option maxRecDepth 100000 in
theorem skifflaw0_SpoilOps.calls (k : Nat) (P0_ : Nat → Prop) (u9000_ : Value) (l0 : List (S68)) (r : List (S68)) (w0 w : World) (hB : Below w0.heap.size w0 w) (ho0 : Kd.R k68 68 w w0.heap.size P0_ u9000_ l0) (h : skifflaw0_SpoilOps.f k l0 = some r) :
  Calls Try.prog 35 #[u9000_] w fun e w' => e = .returned (.tuple #[]) ∧ Kd.R k68 68 w' w0.heap.size (fun k_ => (P0_ k_ ∨ w.heap.size ≤ k_)) u9000_ r ∧ Below w0.heap.size w0 w' ∧ Kept w w' (fun k_ => P0_ k_) := by
 have HO0 := Aside0.mk (show Kd.R k68 68 w w0.heap.size (fun k_ => (P0_ k_ ∨ w.heap.size ≤ k_)) u9000_ l0 from Kd.R_mono ho0 (fun k_ hk => (.inl hk)))
 have HK := Aside0.mk (Kept.refl w (fun k_ => P0_ k_))
 have HW0 := Aside0.mk hB.size
 have HB := Aside0.mk hB
 clear hB
 have H : (skifflaw0_SpoilOps.l0 k l0 0) = some r := h
 clear h
 have H' := Aside0.mk H
 clear H
 go_enter Try.func35, Try.ntmps35
 go_wp2
 go_loopg [2] k (fun kq v2 w' => ∃ (x0_1 : List (S68)) (x2_1 : Int), v2 = .int .i64 x2_1 ∧ Aside0 (skifflaw0_SpoilOps.l0 kq x0_1 x2_1 = some r) ∧ Aside0 (kq ≤ k) ∧ Aside0 (Kd.R k68 68 w' w0.heap.size (fun k_ => (P0_ k_ ∨ w.heap.size ≤ k_)) u9000_ x0_1) ∧ Aside0 (Kept w w' (fun k_ => P0_ k_)) ∧ Aside0 (Below w0.heap.size w0 w'))
 case atStart => exact ⟨(l0), (0), (by first | rfl | (simp; done) | (simp [*]; done)), H', ⟨Nat.le_refl _⟩, ⟨kR HO0.out⟩, ⟨kk HK.out⟩, ⟨kb HB.out⟩⟩
 case round =>
  clear H'
  obtain ⟨x0_1, x2_1, rfl, HA, HK1, HO_0, HK, HB⟩ := hrel
  cases gk with
  | zero => exact absurd HA.out (by simp [skifflaw0_SpoilOps.l0])
  | succ k1 =>
   have H := HA.out
   clear HA
   simp only [skifflaw0_SpoilOps.l0] at H
   by_cases c2 : x2_1 < (x0_1.length : Int)
   case neg =>
    rw [if_neg c2] at H
    have c2b0 : decide (x2_1 < (x0_1.length : Int)) = false := decide_eq_false c2
    clear c2
    obtain rfl := Option.some.inj H
    obtain ⟨Ao8, co8, eo8⟩ := Kd.R_slice HO_0.out
    subst eo8
    go_wp2
    first | go_end0 | ((try simp only [Exit.inBlock, Exit.then]); refine bodyPost_ret (results_none rfl _ _ _) rfl ?_)
    exact ⟨by first | rfl | (simp [errW_none, errW_some] <;> rfl) | (simp [*, errW_none, errW_some] <;> rfl), kR HO_0.out, kb HB.out, kk HK.out⟩
   rw [if_pos c2] at H
   have c2b0 : decide (x2_1 < (x0_1.length : Int)) = true := decide_eq_true c2
   clear c2
   by_cases c3 : 0 ≤ x2_1
   case neg =>
    rw [if_neg c3] at H
    exact absurd H (by simp)
   rw [if_pos c3] at H
   have c3b0 : decide (0 ≤ x2_1) = true := decide_eq_true c3
   clear c3
   obtain ⟨y332, hy332⟩ : ∃ y_ : List (S68), y_ = (x0_1.set (x2_1 : Int).toNat (⟨(rd_T68 x0_1 x2_1).f0, Go.bits .xor .i64 ((rd_T68 x0_1 x2_1).f1) 90, (rd_T68 x0_1 x2_1).f2⟩ : S68)) := ⟨_, rfl⟩
   replace H : (skifflaw0_SpoilOps.l0 k1 y332 (wrap64 (x2_1 + 1))) = some r := by first | (rw [hy332]; with_reducible exact H) | (have H2_ := (Option.bind_some _ _).symm.trans H; rw [hy332]; with_reducible exact H2_) | (have H2_ := (Option.bind_some _ _).symm.trans H; with_reducible exact H2_) | with_reducible exact H | (rw [hy332]; exact H) | exact H
   have Ny332 := Aside0.mk hy332
   clear hy332
   have H' := Aside0.mk H
   clear H
   obtain ⟨Ao5, co5, eo5⟩ := Kd.R_slice HO_0.out
   subst eo5
   have p331 : 0 ≤ (x2_1 : Int) := of_decide_eq_true (by first | (with_reducible assumption) | assumption)
   have q331 : x2_1 < (x0_1.length : Int) := of_decide_eq_true (by first | (with_reducible assumption) | assumption)
   obtain ⟨ad331, e331, hx331_0, hx331_1, hx331_2⟩ := at_T68 (Kd.R_reads' HO_0.out).2.2 x2_1 p331 q331
   cases e331
   replace p331 := eq_true p331
   replace q331 := eq_true q331
   have p4 : 0 ≤ (x2_1 : Int) := of_decide_eq_true (by first | (with_reducible assumption) | assumption)
   have q4 : (x2_1 : Int) < ((x0_1.length : Int) : Int) := of_decide_eq_true (by first | (with_reducible assumption) | assumption)
   obtain ⟨go4, co4, eo4, gb4, gl4, cl4, HG4⟩ := Kd.R_form HO_0.out (by omega)
   (first | cases eo4 | (injection eo4 with ea_ en_ ec_; (first | subst ea_ | (injection ea_ with ea_; subst ea_)); subst ec_; clear en_))
   have GB4 := Aside0.mk gb4
   have GG4 := Aside0.mk HG4
   clear gb4 gl4 HG4
   have HMgo4 := Aside0.mk (show (P0_ go4 ∨ w.heap.size ≤ go4) from (HO_0.out.1 _ rfl))
   (first | simp only [add_plain] at hx331_0 | skip)
   (first | simp only [add_plain] at hx331_1 | skip)
   (first | simp only [add_plain] at hx331_2 | skip)
   obtain ⟨ce4, hcl4, hM4, hcc4, hfr4⟩ := Kd.R_elem HO_0.out z68 (x2_1 : Int) p4 q4
   obtain rfl := k68_openM hM4
   have hx4_0 : wr.cell? ⟨go4, (x2_1 : Int).toNat * 3, none⟩ = some (.bool ((rd_T68 x0_1 x2_1).f0)) := hcc4 0 _ rfl
   have hx4_1 : wr.cell? ⟨go4, (x2_1 : Int).toNat * 3 + 1, none⟩ = some (.int .i64 ((rd_T68 x0_1 x2_1).f1)) := hcc4 1 _ rfl
   have hx4_2 : wr.cell? ⟨go4, (x2_1 : Int).toNat * 3 + 2, none⟩ = some (.string ((rd_T68 x0_1 x2_1).f2)) := hcc4 2 _ rfl
   have hf4_0 : wr.frozen? ⟨go4, (x2_1 : Int).toNat * 3, none⟩ = false := hfr4 0
   have hf4_1 : wr.frozen? ⟨go4, (x2_1 : Int).toNat * 3 + 1, none⟩ = false := hfr4 1
   have hf4_2 : wr.frozen? ⟨go4, (x2_1 : Int).toNat * 3 + 2, none⟩ = false := hfr4 2
   clear hcl4 hcc4 hfr4 hM4
   replace p4 := eq_true p4
   replace q4 := eq_true q4
   have HX6 := Aside0.mk (show Kd.R k68 68 wr w0.heap.size (fun k_ => (P0_ k_ ∨ w.heap.size ≤ k_)) (.slice (some ⟨go4, 0, none⟩) x0_1.length co5) x0_1 from (kR HO_0.out))
   obtain ⟨ce6, hcl6, hM6, hcc6, hfr6⟩ := Kd.R_elem HX6.out z68 (x2_1 : Int) (of_decide_eq_true (by first | (with_reducible assumption) | assumption)) (by have h_ : (x2_1 : Int) < ((x0_1.length : Int) : Int) := of_decide_eq_true (by first | (with_reducible assumption) | assumption); first | exact h_ | (have e_ := (Kd.R_reads' HO_0.out).1; omega) | simpa using h_)
   obtain rfl := k68_openM hM6
   have HP6 := Kd.R_seg HX6.out (x2_1 : Int) (of_decide_eq_true (by first | (with_reducible assumption) | assumption)) (by have h_ : (x2_1 : Int) < ((x0_1.length : Int) : Int) := of_decide_eq_true (by first | (with_reducible assumption) | assumption); first | exact h_ | (have e_ := (Kd.R_reads' HO_0.out).1; omega) | simpa using h_) (seg := [.int .i64 (Go.bits .xor .i64 ((rd_T68 x0_1 x2_1).f1) 90)]) (j := 1) hcl6 hcc6 (show 2 ≤ 3 from by decide) (x' := (⟨(rd_T68 x0_1 x2_1).f0, Go.bits .xor .i64 ((rd_T68 x0_1 x2_1).f1) 90, (rd_T68 x0_1 x2_1).f2⟩ : S68)) (k68_mkM _ _ _ (⟨(rd_T68 x0_1 x2_1).f0, Go.bits .xor .i64 ((rd_T68 x0_1 x2_1).f1) 90, (rd_T68 x0_1 x2_1).f2⟩ : S68) ) (fun _ hk => hk)
   have hx6_1 := hcc6 1 _ rfl
   (try simp only [show (k68).sz = 3 from rfl, Nat.mul_one, Nat.add_zero] at hx6_1)
   have hf6_1 := hfr6 1
   (try simp only [show (k68).sz = 3 from rfl, Nat.mul_one, Nat.add_zero] at hf6_1)
   clear hcl6 hcc6 hfr6 hM6
   go_wp2_with (first | ((with_reducible refine gate_store (t := 3) (p := 18) rfl ?_); refine store_event (t := 3) (p := 18) (v := ?vo_w7) (w1 := (wr.setCell ⟨go4, (x2_1 : Int).toNat * 3 + 1, none⟩ (.int .i64 (Go.bits .xor .i64 ((rd_T68 x0_1 x2_1).f1) 90)))) ?hg ?ho ?hn ?hr ?_; (case ho => rfl); (case hg => rfl); (case hn => rfl); (case hr => first | (go_simp; done) | (go_simp; rfl)); intro w7 hw; have hg : wr.grownBy w7 (some go4) := (by rw [hw]; exact HP6.2); have hp_ : Kd.R k68 68 w7 w0.heap.size (fun k_ => (P0_ k_ ∨ w.heap.size ≤ k_)) (.slice (some ⟨go4, 0, none⟩) x0_1.length co5) y332 := (by rw [hw, Ny332.out]; exact HP6.1); clear HP6; have n0_ := Aside0.mk (hp_); have n1_ := Aside0.mk ((by rw [hw]; exact below_set (HB.out) GB4.out : Below w0.heap.size w0 w7)); have n2_ := Aside0.mk (Kept.of_grown (S := (fun k_ => P0_ k_)) hg (kk HK.out) (fun k_ e_ => (HO_0.out.1 k_ e_))); clear HO_0; clear HB; clear HK; have HO_0 := n0_; have HB := n1_; have HK := n2_; clear n0_ n1_ n2_; clear hg hw hp_))
   go_roundg k1
   case measure => have := HK1.out; omega
   case rel => exact ⟨(y332), (wrap64 (x2_1 + 1)), (by first | rfl | (simp; done) | (simp [*]; done)), H', ⟨by have := HK1.out; omega⟩, ⟨kR HO_0.out⟩, ⟨kk HK.out⟩, ⟨kb HB.out⟩⟩

/-! ### skifflaw0_SpoilDevice: function 14 -/
def skifflaw0_SpoilDevice.f (k : Nat) (a0_0 : Int) (a0_1 : Int) (a0_2 : Int) (a0_3 : Int) (a0_4 : Int) (l0_5 : List (S68)) : Option ((List (S68))) := (skifflaw0_SpoilOps.f k l0_5).bind fun t334 => (some t334)
set_option maxHeartbeats 8000000 in
set_option maxRecDepth 100000 in
theorem skifflaw0_SpoilDevice.calls (k : Nat) (a0_0 : Int) (a0_1 : Int) (a0_2 : Int) (a0_3 : Int) (a0_4 : Int) (P0_5_ : Nat → Prop) (u9000_ : Value) (l0_5 : List (S68)) (r : List (S68)) (w0 w : World) (hB : Below w0.heap.size w0 w) (ho0_5 : Kd.R k68 68 w w0.heap.size P0_5_ u9000_ l0_5) (h : skifflaw0_SpoilDevice.f k a0_0 a0_1 a0_2 a0_3 a0_4 l0_5 = some r) :
  Calls Try.prog 14 #[.agg #[.int .i64 a0_0, .int .i64 a0_1, .int .i64 a0_2, .int .i64 a0_3, .int .i64 a0_4, u9000_]] w fun e w' => e = .returned (.tuple #[]) ∧ Kd.R k68 68 w' w0.heap.size (fun k_ => (P0_5_ k_ ∨ w.heap.size ≤ k_)) u9000_ r ∧ Below w0.heap.size w0 w' ∧ Kept w w' (fun k_ => P0_5_ k_) := by
 have hu24 := Try.underlying24
 have HO0_5 := Aside0.mk (show Kd.R k68 68 w w0.heap.size (fun k_ => (P0_5_ k_ ∨ w.heap.size ≤ k_)) u9000_ l0_5 from Kd.R_mono ho0_5 (fun k_ hk => (.inl hk)))
 have HK := Aside0.mk (Kept.refl w (fun k_ => P0_5_ k_))
 have HW0 := Aside0.mk hB.size
 have HB := Aside0.mk hB
 clear hB
 have H : ((skifflaw0_SpoilOps.f k l0_5).bind fun t334 => (some t334)) = some r := h
 clear h
 replace H := Option.bind_eq_some_iff.mp H
 obtain ⟨t334, A20, H⟩ := H
 replace H : (some t334) = some r := H
 have A2 := Aside0.mk A20
 clear A20
 obtain rfl := Option.some.inj H
 obtain ⟨Ao3, co3, eo3⟩ := Kd.R_slice HO0_5.out
 subst eo3
 go_enter Try.func14, Try.ntmps14
 go_wp2_with (first | ((with_reducible refine gate_dst (N := 1) rfl ?_); refine box_event ?hg (N := 1) ?hd (cs := #[.int .i64 a0_0, .int .i64 a0_1, .int .i64 a0_2, .int .i64 a0_3, .int .i64 a0_4, .slice Ao3 l0_5.length co3]) (t := 24) ?hr ?_; (case hd => rfl); (case hg => rfl); (case hr => first | (go_simp; done) | (go_simp; rfl)); intro gb333 hg w4 hbox hb; have n0_ := Aside0.mk (Kd.R_below (kR HO0_5.out) hb); have n1_ := Aside0.mk (Kept.below (S := (fun k_ => P0_5_ k_)) (kk HK.out) hb); have n2_ := Aside0.mk (below_step (kb HB.out) hb); have n3_ := Aside0.mk (hbox); have n4_ := Aside0.mk ((by rw [hg]; exact (by first | exact HK.out.1 | exact (show Kept w _ (fun k_ => P0_5_ k_) from kk HK.out).1) : w.heap.size ≤ gb333)); have n5_ := Aside0.mk ((kz hg (below_size (kb HB.out)) : w0.heap.size ≤ gb333)); clear HO0_5; clear HK; clear HB; have HO0_5 := n0_; have HK := n1_; have HB := n2_; have BK333 := n3_; have GW333 := n4_; have GE333 := n5_; clear n0_ n1_ n2_ n3_ n4_ n5_; clear hb hbox hg; obtain ⟨hcz5_0, hcz5_1, hcz5_2, hcz5_3, hcz5_4, hcz5_5⟩ := kc6 BK333.out; obtain ⟨hfz5_0, hfz5_1, hfz5_2, hfz5_3, hfz5_4, hfz5_5⟩ := kf6 BK333.out) | ((with_reducible refine gate_callee (f := 35) rfl ?_); refine goesL_ (some 4) rfl rfl Try.func35 (by kernel_rfl) rfl #[.slice Ao3 l0_5.length co3] rfl ka ?_; (with_reducible refine (skifflaw0_SpoilOps.calls k (fun k_ => some k_ = (.slice Ao3 l0_5.length co3 : Value).ownBlock) (.slice Ao3 l0_5.length co3) l0_5 t334 w0 _ ?side1 ?side2 A2.out).mono ?_); (case side1 => exact kb1 HB.out GE333.out); (case side2 => exact Kd.R_tight rfl HO0_5.out); rintro e w6 ⟨rfl, hy0, hb, hkp⟩; refine ⟨_, rfl, ?_⟩; have n0_ := Aside0.mk (Kd.R_reok rfl hy0 (fun k_ e_ => HO0_5.out.1 k_ e_)); have n1_ := Aside0.mk (blk_kept (kB BK333.out) hkp (fun hs_ => (fun e_ => (Kd.R_ne HO0_5.out BK333.out (by decide)) e_) hs_)); have n2_ := Aside0.mk (Kept.then_ (S := (fun k_ => P0_5_ k_)) (kk1 HK.out GW333.out) hkp (fun k_ hs_ => (fun e_ => (HO0_5.out.1 k_ e_.symm)) hs_)); have n3_ := Aside0.mk (hb); clear HO0_5; clear BK333; clear HK; clear HB; have HO0_5 := n0_; have BK333 := n1_; have HK := n2_; have HB := n3_; clear n0_ n1_ n2_ n3_; (try clear hb); (try clear hkp); (try clear hy0)))
 first | go_end0 | ((try simp only [Exit.inBlock, Exit.then]); refine bodyPost_ret (results_none rfl _ _ _) rfl ?_)
 exact ⟨by first | rfl | (simp [errW_none, errW_some] <;> rfl) | (simp [*, errW_none, errW_some] <;> rfl), kR HO0_5.out, kb1 HB.out GE333.out, kk1 HK.out GW333.out⟩

/-! ### skiffref1_Blank: function 36 -/
def skiffref1_Blank.f  : Option (ByteArray) := some (Skiff.mk Skiff.flash0)
theorem skiffref1_Blank.calls  (r : ByteArray) (w : World) (h : skiffref1_Blank.f  = some r) :
  Calls Try.prog 36 #[] w fun e w' => e = .returned (.string r) ∧ Below w.heap.size w w' :=
 Go.Proofs.Ytmidohjfajbpmaa.g_skiffref1_Blank  r w h

/-! ### skiffref1_full: function 62 -/
def skiffref1_full.f (a0 : Int) : Option (ByteArray) := Skiff.fulls a0
theorem skiffref1_full.calls (a0 : Int) (r : ByteArray) (w : World) (h : skiffref1_full.f a0 = some r) :
  Calls Try.prog 62 #[.int .i64 a0] w fun e w' => e = .returned (.string r) ∧ Below w.heap.size w w' :=
 Go.Proofs.Ytmidohjfajbpmaa.g_skiffref1_full a0 r w h

/-! ### skiffref1_Words: function 37 -/
mutual
def skiffref1_Words.j0 : Nat → Int → ByteArray → Bool → Option ((List (S68)) × Int)
 | 0, _, _, _ => none
 | k + 1, x0, x1, x23 => if x23 = true then (some (([] : List (S68)), 300)) else ((skiffref1_full.f ((4 - ((x1.size : Int) % 4)) % 4)).bind fun t336 => (if x1.size + t336.size ≤ 9223372036854775807 then (skiffref1_Words.l0 k x0 (x1 ++ t336) ([] : List (S68)) 0) else (none)))
def skiffref1_Words.l0 : Nat → Int → ByteArray → List (S68) → Int → Option ((List (S68)) × Int)
 | 0, _, _, _, _ => none
 | k + 1, x0, x6, x7, x8 => if x8 < (x6.size : Int) then (if 0 ≤ x8 then (if x8 ≤ (wrap64 (x8 + 4)) then (if (wrap64 (x8 + 4)) ≤ (x6.size : Int) then (if x7.length < 4398046511104 then (skiffref1_Words.l0 k x0 x6 (x7 ++ [(⟨false, wrap64 (x0 + x8), x6.extract (x8 : Int).toNat ((wrap64 (x8 + 4)) : Int).toNat⟩ : S68)]) (wrap64 (x8 + 4))) else (none)) else (none)) else (none)) else (none)) else (some (x7, 0))
end
def skiffref1_Words.f (k : Nat) (a0 : Int) (a1 : ByteArray) : Option ((List (S68)) × Int) := (skiffref1_upTo.f a0 0 768).bind fun t335 => (if t335 = true then (if (Int.tmod a0 4) = 0 then (skiffref1_Words.j0 k a0 a1 (decide ((a1.size : Int) > (wrap64 (768 - a0))))) else (skiffref1_Words.j0 k a0 a1 true)) else (skiffref1_Words.j0 k a0 a1 true))
theorem skiffref1_Words.mono_l : ∀ k, (∀ y0 y1 y2, LeO (skiffref1_Words.j0 k y0 y1 y2) (skiffref1_Words.j0 (k + 1) y0 y1 y2)) ∧ (∀ y0 y1 y2 y3, LeO (skiffref1_Words.l0 k y0 y1 y2 y3) (skiffref1_Words.l0 (k + 1) y0 y1 y2 y3))
 | 0 => ⟨fun _ _ _ r h => by simp [skiffref1_Words.j0] at h, fun _ _ _ _ r h => by simp [skiffref1_Words.l0] at h⟩
 | k + 1 => by
  obtain ⟨ih0, ih1⟩ := skiffref1_Words.mono_l k
  refine ⟨?_, ?_⟩
  ·intro y0 y1 y2
   unfold skiffref1_Words.j0
   repeat' first
   | (with_reducible exact ih0 _ _ _)
   | (with_reducible exact ih1 _ _ _ _)
   | (with_reducible exact LeO.refl _)
   | (with_reducible exact LeO.none _)
   | (with_reducible refine LeO.ite ?_ ?_)
   | (with_reducible refine LeO.bind ?_ (fun _ => ?_))
   | exact ih0 _ _ _
   | exact ih1 _ _ _ _
   | exact LeO.none _
   | refine LeO.ite ?_ ?_
   | refine LeO.bind ?_ (fun _ => ?_)
  ·intro y0 y1 y2 y3
   unfold skiffref1_Words.l0
   repeat' first
   | (with_reducible exact ih0 _ _ _)
   | (with_reducible exact ih1 _ _ _ _)
   | (with_reducible exact LeO.refl _)
   | (with_reducible exact LeO.none _)
   | (with_reducible refine LeO.ite ?_ ?_)
   | (with_reducible refine LeO.bind ?_ (fun _ => ?_))
   | exact ih0 _ _ _
   | exact ih1 _ _ _ _
   | exact LeO.none _
   | refine LeO.ite ?_ ?_
   | refine LeO.bind ?_ (fun _ => ?_)
theorem skiffref1_Words.mono : ∀ a0 a1 k, LeO (skiffref1_Words.f k a0 a1) (skiffref1_Words.f (k + 1) a0 a1) := by
 intro a0 a1 k
 obtain ⟨ih0, ih1⟩ := skiffref1_Words.mono_l k
 unfold skiffref1_Words.f
 repeat' first
   | (with_reducible exact ih0 _ _ _)
   | (with_reducible exact ih1 _ _ _ _)
   | (with_reducible exact LeO.refl _)
   | (with_reducible exact LeO.none _)
   | (with_reducible refine LeO.ite ?_ ?_)
   | (with_reducible refine LeO.bind ?_ (fun _ => ?_))
   | exact ih0 _ _ _
   | exact ih1 _ _ _ _
   | exact LeO.none _
   | refine LeO.ite ?_ ?_
   | refine LeO.bind ?_ (fun _ => ?_)
set_option maxHeartbeats 8000000 in
set_option maxRecDepth 100000 in
theorem skiffref1_Words.calls (k : Nat) (a0 : Int) (a1 : ByteArray) (r1 : List (S68)) (r2 : Int) (w : World) (h : skiffref1_Words.f k a0 a1 = some (r1, r2)) :
  Calls Try.prog 37 #[.int .i64 a0, .string a1] w fun e w' => ∃ v0_ : Value, e = .returned (.tuple #[v0_, .int .i64 r2]) ∧ Kd.R k68 68 w' w.heap.size (fun _ => True) v0_ r1 ∧ Below w.heap.size w w' := by
 have hu68 := Try.underlying68
 have HB := Aside0.mk (Below.refl w.heap.size w)
 have H : ((skiffref1_upTo.f a0 0 768).bind fun t335 => (if t335 = true then (if (Int.tmod a0 4) = 0 then (skiffref1_Words.j0 k a0 a1 (decide ((a1.size : Int) > (wrap64 (768 - a0))))) else (skiffref1_Words.j0 k a0 a1 true)) else (skiffref1_Words.j0 k a0 a1 true))) = some (r1, r2) := h
 clear h
 have HC3 := Aside0.mk H
 clear H
 go_enter Try.func37, Try.ntmps37
 go_upto_region 1 with (fail)
 go_cut [23] (fun v23 wc => ∃ (kq : Nat) (x23_2 : Bool), v23 = .bool x23_2 ∧ Aside0 (skiffref1_Words.j0 kq a0 a1 x23_2 = some (r1, r2)) ∧ Aside0 (kq ≤ k) ∧ Aside0 (Below w.heap.size w wc))
 case first =>
  have H := HC3.out
  clear HC3
  replace H := Option.bind_eq_some_iff.mp H
  obtain ⟨t335, A40, H⟩ := H
  replace H : (if t335 = true then (if (Int.tmod a0 4) = 0 then (skiffref1_Words.j0 k a0 a1 (decide ((a1.size : Int) > (wrap64 (768 - a0))))) else (skiffref1_Words.j0 k a0 a1 true)) else (skiffref1_Words.j0 k a0 a1 true)) = some (r1, r2) := H
  have A4 := Aside0.mk A40
  clear A40
  by_cases c5 : t335 = true
  case neg =>
   replace c5 := Bool.eq_false_iff.mpr c5
   subst c5
   have H1 : (skiffref1_Words.j0 k a0 a1 true) = some (r1, r2) := by rw [if_neg (show ¬ (false = true) by decide)] at H; exact H
   clear H; have H := H1; clear H1
   have H' := Aside0.mk H
   clear H
   go_wp2_with (first | ((with_reducible refine gate_callee (f := 45) rfl ?_); refine goesL_ (some 10) rfl rfl Try.func45 (by kernel_rfl) rfl #[.int .i64 a0, .int .i64 0, .int .i64 768] rfl ka ?_; (with_reducible refine (skiffref1_upTo.calls a0 0 768 false _ A4.out).mono ?_); rintro e w' ⟨rfl, ⟨nd, rfl⟩⟩; refine ⟨_, rfl, ?_⟩))
   go_meet
   case rel => exact ⟨_, (true), (by first | rfl | (simp; done) | (simp [*]; done)), H', ⟨by first | omega | exact Nat.le_refl _⟩, ⟨kb HB.out⟩⟩
  subst c5
  have H1 : (if (Int.tmod a0 4) = 0 then (skiffref1_Words.j0 k a0 a1 (decide ((a1.size : Int) > (wrap64 (768 - a0))))) else (skiffref1_Words.j0 k a0 a1 true)) = some (r1, r2) := by rw [if_pos rfl] at H; exact H
  clear H; have H := H1; clear H1
  by_cases c6 : (Int.tmod a0 4) = 0
  case neg =>
   rw [if_neg c6] at H
   have c6b0 : ((Int.tmod a0 4) == 0) = false := beq_eq_false_iff_ne.mpr c6
   have c6b1 : ((Int.tmod a0 4) != 0) = true := bne_iff_ne.mpr c6
   (first | rw [c6b0] | rw [c6b1] | (simp only [i64_w, i32_w]; rw [c6b0]) | skip)
   have H' := Aside0.mk H
   clear H
   go_wp2_with (first | ((with_reducible refine gate_callee (f := 45) rfl ?_); refine goesL_ (some 10) rfl rfl Try.func45 (by kernel_rfl) rfl #[.int .i64 a0, .int .i64 0, .int .i64 768] rfl ka ?_; (with_reducible refine (skiffref1_upTo.calls a0 0 768 true _ A4.out).mono ?_); rintro e w' ⟨rfl, ⟨nd, rfl⟩⟩; refine ⟨_, rfl, ?_⟩))
   go_meet
   case rel => exact ⟨_, (true), (by first | rfl | (simp; done) | (simp [*]; done)), H', ⟨by first | omega | exact Nat.le_refl _⟩, ⟨kb HB.out⟩⟩
  rw [if_pos c6] at H
  have c6b0 : ((Int.tmod a0 4) == 0) = true := beq_iff_eq.mpr c6
  have c6b1 : ((Int.tmod a0 4) != 0) = false := bne_eq_false_iff_eq.mpr c6
  clear c6
  (first | rw [c6b0] | rw [c6b1] | (simp only [i64_w, i32_w]; rw [c6b0]) | skip)
  have H' := Aside0.mk H
  clear H
  go_wp2_with (first | ((with_reducible refine gate_callee (f := 45) rfl ?_); refine goesL_ (some 10) rfl rfl Try.func45 (by kernel_rfl) rfl #[.int .i64 a0, .int .i64 0, .int .i64 768] rfl ka ?_; (with_reducible refine (skiffref1_upTo.calls a0 0 768 true _ A4.out).mono ?_); rintro e w' ⟨rfl, ⟨nd, rfl⟩⟩; refine ⟨_, rfl, ?_⟩))
  go_meet
  case rel => exact ⟨_, (decide ((a1.size : Int) > (wrap64 (768 - a0)))), (by first | rfl | (simp; done) | (simp [*]; done)), H', ⟨by first | omega | exact Nat.le_refl _⟩, ⟨kb HB.out⟩⟩
 case rest =>
  clear HC3
  try clear p2; try clear c3; try clear c4; try clear c5; try clear c6; try clear c6b0; try clear c6b1; try clear p6
  obtain ⟨kq, x23_2, rfl, HA, HJ2, HB⟩ := hcut
  cases kq with
  | zero => exact absurd HA.out (by simp [skiffref1_Words.j0])
  | succ kj2 =>
   have H := HA.out
   clear HA
   simp only [skiffref1_Words.j0] at H
   by_cases c7 : x23_2 = true
   ·subst c7
    have H1 : (some (([] : List (S68)), 300)) = some (r1, r2) := by rw [if_pos rfl] at H; exact H
    clear H; have H := H1; clear H1
    simp only [Option.some.injEq, Prod.mk.injEq] at H
    obtain ⟨rfl, rfl⟩ := H
    go_wp2
    go_ret2
    exact ⟨_, by first | rfl | (simp [errW_none, errW_some] <;> rfl) | (simp [*, errW_none, errW_some] <;> rfl), by first | exact Kd.R_nil _ _ _ _ _ | exact Kd.N_nil _ _ _ _ _ | exact Kd.V_nil _ _ _ _ _ | exact Kd.Q_nil _ _ _ _ _ | exact Kd.S_nil _ _ _ _ _, kb HB.out⟩
   ·replace c7 := Bool.eq_false_iff.mpr c7
    subst c7
    have H1 : ((skiffref1_full.f ((4 - ((a1.size : Int) % 4)) % 4)).bind fun t336 => (if a1.size + t336.size ≤ 9223372036854775807 then (skiffref1_Words.l0 kj2 a0 (a1 ++ t336) ([] : List (S68)) 0) else (none))) = some (r1, r2) := by rw [if_neg (show ¬ (false = true) by decide)] at H; exact H
    clear H; have H := H1; clear H1
    replace H := Option.bind_eq_some_iff.mp H
    obtain ⟨t336, A80, H⟩ := H
    replace H : (if a1.size + t336.size ≤ 9223372036854775807 then (skiffref1_Words.l0 kj2 a0 (a1 ++ t336) ([] : List (S68)) 0) else (none)) = some (r1, r2) := H
    have A8 := Aside0.mk A80
    clear A80
    by_cases c9 : a1.size + t336.size ≤ 9223372036854775807
    case neg =>
     rw [if_neg c9] at H
     exact absurd H (by simp)
    rw [if_pos c9] at H
    have c9b0 := eq_true c9
    have c9b1 : decide (a1.size + t336.size ≤ 9223372036854775807) = true := decide_eq_true c9
    try have c9b2 : (9223372036854775807 < a1.size + t336.size) = False := eq_false (Nat.not_lt.2 c9)
    have H' := Aside0.mk H
    clear H
    go_wp2_with (first | ((with_reducible refine gate_callee (f := 62) rfl ?_); refine goesL_ (some 30) rfl rfl Try.func62 (by kernel_rfl) rfl #[.int .i64 ((4 - ((a1.size : Int) % 4)) % 4)] rfl ka ?_; (with_reducible refine (skiffref1_full.calls ((4 - ((a1.size : Int) % 4)) % 4) t336 _ A8.out).mono ?_); rintro e w10 ⟨rfl, hb⟩; refine ⟨_, rfl, ?_⟩; have n0_ := Aside0.mk (below_step (kb HB.out) hb); clear HB; have HB := n0_; clear n0_; (try clear hb); (try clear hb2); (try clear hk); (try clear hi)))
    go_loopg [7, 8] kj2 (fun kq v7 v8 w' => ∃ (x7_2 : List (S68)) (x8_2 : Int), v8 = .int .i64 x8_2 ∧ Aside0 (skiffref1_Words.l0 kq a0 (a1 ++ t336) x7_2 x8_2 = some (r1, r2)) ∧ Aside0 (kq ≤ kj2) ∧ Aside0 (Kd.R k68 68 w' w.heap.size (fun _ => True) v7 x7_2) ∧ Aside0 (Below w.heap.size w w'))
    case atStart => exact ⟨(([] : List (S68))), (0), (by first | rfl | (simp; done) | (simp [*]; done)), H', ⟨Nat.le_refl _⟩, ⟨by first | exact Kd.R_nil _ _ _ _ _ | exact Kd.N_nil _ _ _ _ _ | exact Kd.V_nil _ _ _ _ _ | exact Kd.Q_nil _ _ _ _ _ | exact Kd.S_nil _ _ _ _ _⟩, ⟨kb HB.out⟩⟩
    case round =>
     clear H'
     try clear p2; try clear c3; try clear c4; try clear c5; try clear c6; try clear c6b0; try clear c6b1; try clear p6; try clear c7; try clear c9; try clear c9b0; try clear c9b1; try clear c9b2; try clear p2; try clear p6
     obtain ⟨x7_2, x8_2, rfl, HA, HK2, HO_7, HB⟩ := hrel
     cases gk with
     | zero => exact absurd HA.out (by simp [skiffref1_Words.l0])
     | succ k2 =>
      have H := HA.out
      clear HA
      simp only [skiffref1_Words.l0] at H
      by_cases c11 : x8_2 < ((a1 ++ t336).size : Int)
      case neg =>
       rw [if_neg c11] at H
       have c11z : ¬ (x8_2 < ((a1.size : Int) + (t336.size : Int))) := by first | simpa using c11 | (simp only [ByteArray.size_append, Int.natCast_add] at c11 ⊢; exact c11)
       (try (have c11y0 : decide (x8_2 < ((a1.size : Int) + (t336.size : Int))) = false := decide_eq_false c11z))
       clear c11z
       have c11b0 : decide (x8_2 < ((a1 ++ t336).size : Int)) = false := decide_eq_false c11
       clear c11
       simp only [Option.some.injEq, Prod.mk.injEq] at H
       obtain ⟨rfl, rfl⟩ := H
       go_wp2
       go_ret2
       exact ⟨_, by first | rfl | (simp [errW_none, errW_some] <;> rfl) | (simp [*, errW_none, errW_some] <;> rfl), kR HO_7.out, kb HB.out⟩
      rw [if_pos c11] at H
      have c11z : x8_2 < ((a1.size : Int) + (t336.size : Int)) := by first | simpa using c11 | (simp only [ByteArray.size_append, Int.natCast_add] at c11 ⊢; exact c11)
      (try (have c11y0 : decide (x8_2 < ((a1.size : Int) + (t336.size : Int))) = true := decide_eq_true c11z))
      clear c11z
      have c11b0 : decide (x8_2 < ((a1 ++ t336).size : Int)) = true := decide_eq_true c11
      clear c11
      by_cases c12 : 0 ≤ x8_2
      case neg =>
       rw [if_neg c12] at H
       exact absurd H (by simp)
      rw [if_pos c12] at H
      have c12b0 := eq_true c12
      have c12b1 : decide (0 ≤ x8_2) = true := decide_eq_true c12
      clear c12
      by_cases c13 : x8_2 ≤ (wrap64 (x8_2 + 4))
      case neg =>
       rw [if_neg c13] at H
       exact absurd H (by simp)
      rw [if_pos c13] at H
      have c13b0 := eq_true c13
      have c13b1 : decide (x8_2 ≤ (wrap64 (x8_2 + 4))) = true := decide_eq_true c13
      by_cases c14 : (wrap64 (x8_2 + 4)) ≤ ((a1 ++ t336).size : Int)
      case neg =>
       rw [if_neg c14] at H
       exact absurd H (by simp)
      rw [if_pos c14] at H
      have c14b0 := eq_true c14
      have c14b1 : decide ((wrap64 (x8_2 + 4)) ≤ ((a1 ++ t336).size : Int)) = true := decide_eq_true c14
      (try (have c14z0 : ((wrap64 (x8_2 + 4)) ≤ ((a1.size : Int) + (t336.size : Int))) = True := eq_true (by first | simpa using c14 | (simp only [ByteArray.size_append, Int.natCast_add] at c14 ⊢; exact c14))))
      (try (have c14z1 : decide ((wrap64 (x8_2 + 4)) ≤ ((a1.size : Int) + (t336.size : Int))) = true := decide_eq_true (by first | simpa using c14 | (simp only [ByteArray.size_append, Int.natCast_add] at c14 ⊢; exact c14))))
      by_cases c15 : x7_2.length < 4398046511104
      case neg =>
       rw [if_neg c15] at H
       exact absurd H (by simp)
      rw [if_pos c15] at H
      have LMc15 := Aside0.mk c15
      clear c15
      obtain ⟨y337, hy337⟩ : ∃ y_ : List (S68), y_ = (x7_2 ++ [(⟨false, wrap64 (a0 + x8_2), (a1 ++ t336).extract (x8_2 : Int).toNat ((wrap64 (x8_2 + 4)) : Int).toNat⟩ : S68)]) := ⟨_, rfl⟩
      replace H : (skiffref1_Words.l0 k2 a0 (a1 ++ t336) y337 (wrap64 (x8_2 + 4))) = some (r1, r2) := by first | (rw [hy337]; with_reducible exact H) | (have H2_ := (Option.bind_some _ _).symm.trans H; rw [hy337]; with_reducible exact H2_) | (have H2_ := (Option.bind_some _ _).symm.trans H; with_reducible exact H2_) | with_reducible exact H | (rw [hy337]; exact H) | exact H
      have Ny337 := Aside0.mk hy337
      clear hy337
      have H' := Aside0.mk H
      clear H
      go_wp2_with (first | ((with_reducible refine gate_builtin (b := .append) (xs := #[.tmp 38, .tmp 48]) rfl ?_); (try (refine gate_guard (by rfl) ?_; dsimp only)); at_builtin; refine Kd.R_append k68 (w0 := w) w.heap.size rfl (.tmp 38) (.tmp 48) 22 68 (.agg #[(.bool false), (.int .i64 0), (.string ⟨#[]⟩)]) 32 rfl Try.underlying22 info68 rfl (by decide) (by omega) u7 x7_2 (⟨false, wrap64 (a0 + x8_2), (a1 ++ t336).extract (x8_2 : Int).toNat ((wrap64 (x8_2 + 4)) : Int).toNat⟩ : S68) [.bool false, .int .i64 (wrap64 (a0 + x8_2)), .string ((a1 ++ t336).extract (x8_2 : Int).toNat ((wrap64 (x8_2 + 4)) : Int).toNat)] (fun _ => True) (fun _ => False) rfl rfl ?aP (fun _ hk => hk.elim) ?aF ?aO ?aB ?aS ?aL ?_; (case aP => exact k68_mkM _ _ _ (⟨false, wrap64 (a0 + x8_2), (a1 ++ t336).extract (x8_2 : Int).toNat ((wrap64 (x8_2 + 4)) : Int).toNat⟩ : S68)); (case aB => exact (kb HB.out)); (case aF => exact (fun _ _ => trivial)); (case aO => exact (kR HO_7.out)); (case aS => exact (below_size (kb HB.out))); (case aL => have := LMc15.out; omega); intro v338 w16 ho hb hg hat; rw [← Ny337.out] at ho; have n0_ := Aside0.mk (hb); have n1_ := Aside0.mk (ho); clear HB; clear HO_7; have HB := n0_; have HO339 := n1_; clear n0_ n1_; clear ho hb hg hat))
      go_roundg k2
      case measure => have := HJ2.out; have := HK2.out; omega
      case rel => exact ⟨(y337), (wrap64 (x8_2 + 4)), (by first | rfl | (simp; done) | (simp [*]; done)), H', ⟨by have := HJ2.out; have := HK2.out; omega⟩, ⟨kR HO339.out⟩, ⟨kb HB.out⟩⟩

/-! ### skiffref1_Worn: function 82 -/
def skiffref1_Worn.f (a0 : ByteArray) (a1 : Int) (a2 : Int) : Option (ByteArray × Int) := some (Skiff.tornPair (Skiff.worn (Skiff.bl a0) a1 a2))
theorem skiffref1_Worn.calls (a0 : ByteArray) (a1 : Int) (a2 : Int) (r1 : ByteArray) (r2 : Int) (w : World) (h : skiffref1_Worn.f a0 a1 a2 = some (r1, r2)) :
  Calls Try.prog 82 #[.string a0, .int .i64 a1, .int .i64 a2] w fun e w' => e = .returned (.tuple #[.string r1, .int .i64 r2]) ∧ Below w.heap.size w w' :=
 Go.Proofs.Ytmidohjfajbpmaa.g_skiffref1_Worn a0 a1 a2 r1 r2 w h

/-! ### skiffref1_Torn: function 83 -/
def skiffref1_Torn.f (a0 : ByteArray) (a1 : Int) (a2 : ByteArray) (a3 : Int) : Option (ByteArray × Int) := some (Skiff.tornPair (Skiff.torn (Skiff.bl a0) a1 (Skiff.bl a2) a3))
theorem skiffref1_Torn.calls (a0 : ByteArray) (a1 : Int) (a2 : ByteArray) (a3 : Int) (r1 : ByteArray) (r2 : Int) (w : World) (h : skiffref1_Torn.f a0 a1 a2 a3 = some (r1, r2)) :
  Calls Try.prog 83 #[.string a0, .int .i64 a1, .string a2, .int .i64 a3] w fun e w' => e = .returned (.tuple #[.string r1, .int .i64 r2]) ∧ Below w.heap.size w w' :=
 Go.Proofs.Ytmidohjfajbpmaa.g_skiffref1_Torn a0 a1 a2 a3 r1 r2 w h

/-! ### skiffref1_Cut: function 63 -/
def skiffref1_Cut.j0 : Nat → ByteArray → Int → Bool → Bool → Int → ByteArray → Option (ByteArray × Int)
 | 0, _, _, _, _, _, _ => none
 | k + 1, x0, x2, x20, x341000, x341001, x341002 => if x20 = true then (some ((⟨#[]⟩ : ByteArray), 300)) else (if x341000 = true then ((skiffref1_Worn.f x0 (wrap64 (Int.tdiv x341001 96)) x2).bind fun bt344 => (some (bt344.1, bt344.2))) else ((skiffref1_Torn.f x0 x341001 x341002 (mn x2 32)).bind fun bt346 => (some (bt346.1, bt346.2))))
def skiffref1_Cut.f (k : Nat) (a0 : ByteArray) (a1_0 : Bool) (a1_1 : Int) (a1_2 : ByteArray) (a2 : Int) : Option (ByteArray × Int) := (skiffref1_FlashMay.f a0).bind fun t341 => (if t341 = true then ((skiffref1_OpMay.f a1_0 a1_1 a1_2).bind fun t342 => (if t342 = true then ((skiffref1_upTo.f a2 0 96).bind fun t343 => (skiffref1_Cut.j0 k a0 a2 (!t343) a1_0 a1_1 a1_2)) else (skiffref1_Cut.j0 k a0 a2 true a1_0 a1_1 a1_2))) else (skiffref1_Cut.j0 k a0 a2 true a1_0 a1_1 a1_2))
theorem skiffref1_Cut.mono_l : ∀ k, (∀ y0 y1 y2 y3 y4 y5, LeO (skiffref1_Cut.j0 k y0 y1 y2 y3 y4 y5) (skiffref1_Cut.j0 (k + 1) y0 y1 y2 y3 y4 y5))
 | 0 => fun _ _ _ _ _ _ r h => by simp [skiffref1_Cut.j0] at h
 | k + 1 => by
  have ih0 := skiffref1_Cut.mono_l k
  ·intro y0 y1 y2 y3 y4 y5
   unfold skiffref1_Cut.j0
   repeat' first
   | (with_reducible exact ih0 _ _ _ _ _ _)
   | (with_reducible exact LeO.refl _)
   | (with_reducible exact LeO.none _)
   | (with_reducible refine LeO.ite ?_ ?_)
   | (with_reducible refine LeO.bind ?_ (fun _ => ?_))
   | exact ih0 _ _ _ _ _ _
   | exact LeO.none _
   | refine LeO.ite ?_ ?_
   | refine LeO.bind ?_ (fun _ => ?_)
theorem skiffref1_Cut.mono : ∀ a0 a1 a2 a3 a4 k, LeO (skiffref1_Cut.f k a0 a1 a2 a3 a4) (skiffref1_Cut.f (k + 1) a0 a1 a2 a3 a4) := by
 intro a0 a1 a2 a3 a4 k
 have ih0 := skiffref1_Cut.mono_l k
 unfold skiffref1_Cut.f
 repeat' first
   | (with_reducible exact ih0 _ _ _ _ _ _)
   | (with_reducible exact LeO.refl _)
   | (with_reducible exact LeO.none _)
   | (with_reducible refine LeO.ite ?_ ?_)
   | (with_reducible refine LeO.bind ?_ (fun _ => ?_))
   | exact ih0 _ _ _ _ _ _
   | exact LeO.none _
   | refine LeO.ite ?_ ?_
   | refine LeO.bind ?_ (fun _ => ?_)
set_option maxHeartbeats 8000000 in
set_option maxRecDepth 100000 in
theorem skiffref1_Cut.calls (k : Nat) (a0 : ByteArray) (a1_0 : Bool) (a1_1 : Int) (a1_2 : ByteArray) (a2 : Int) (r1 : ByteArray) (r2 : Int) (w : World) (h : skiffref1_Cut.f k a0 a1_0 a1_1 a1_2 a2 = some (r1, r2)) :
  Calls Try.prog 63 #[.string a0, .agg #[.bool a1_0, .int .i64 a1_1, .string a1_2], .int .i64 a2] w fun e w' => e = .returned (.tuple #[.string r1, .int .i64 r2]) ∧ Below w.heap.size w w' := by
 have hu68 := Try.underlying68
 have HB := Aside0.mk (Below.refl w.heap.size w)
 have H : ((skiffref1_FlashMay.f a0).bind fun t341 => (if t341 = true then ((skiffref1_OpMay.f a1_0 a1_1 a1_2).bind fun t342 => (if t342 = true then ((skiffref1_upTo.f a2 0 96).bind fun t343 => (skiffref1_Cut.j0 k a0 a2 (!t343) a1_0 a1_1 a1_2)) else (skiffref1_Cut.j0 k a0 a2 true a1_0 a1_1 a1_2))) else (skiffref1_Cut.j0 k a0 a2 true a1_0 a1_1 a1_2))) = some (r1, r2) := h
 clear h
 have HC4 := Aside0.mk H
 clear H
 go_enter Try.func63, Try.ntmps63
 go_upto_region 1 with (first | ((with_reducible refine gate_dst (N := 4) rfl ?_); refine box_event ?hg (N := 4) ?hd (cs := #[.bool a1_0, .int .i64 a1_1, .string a1_2]) (t := 68) ?hr ?_; (case hd => rfl); (case hg => rfl); (case hr => first | (go_simp; done) | (go_simp; rfl)); intro gb340 hg w5 hbox hb; have n0_ := Aside0.mk (below_step (kb HB.out) hb); have n1_ := Aside0.mk (hbox); have n2_ := Aside0.mk ((kz hg (below_size (kb HB.out)) : w.heap.size ≤ gb340)); have n3_ := Aside0.mk ((kz hg (below_size (kb HB.out)) : w.heap.size ≤ gb340)); clear HB; have HB := n0_; have BK340 := n1_; have GW340 := n2_; have GE340 := n3_; clear n0_ n1_ n2_ n3_; clear hb hbox hg))
 (try simp only [Act.put, List.setIfInBounds_toArray, List.set_cons_zero, List.set_cons_succ])
 go_cut [20] (fun v20 wc => ∃ (kq : Nat) (x20_3 : Bool), v20 = .bool x20_3 ∧ Aside0 (skiffref1_Cut.j0 kq a0 a2 x20_3 a1_0 a1_1 a1_2 = some (r1, r2)) ∧ Aside0 (kq ≤ k) ∧ Aside0 (wc.heap[gb340]? = some (.cells #[.bool a1_0, .int .i64 a1_1, .string a1_2] 68 (0, 0))) ∧ Aside0 (Below w.heap.size w wc))
 case first =>
  have H := HC4.out
  clear HC4
  replace H := Option.bind_eq_some_iff.mp H
  obtain ⟨t341, A60, H⟩ := H
  replace H : (if t341 = true then ((skiffref1_OpMay.f a1_0 a1_1 a1_2).bind fun t342 => (if t342 = true then ((skiffref1_upTo.f a2 0 96).bind fun t343 => (skiffref1_Cut.j0 k a0 a2 (!t343) a1_0 a1_1 a1_2)) else (skiffref1_Cut.j0 k a0 a2 true a1_0 a1_1 a1_2))) else (skiffref1_Cut.j0 k a0 a2 true a1_0 a1_1 a1_2)) = some (r1, r2) := H
  have A6 := Aside0.mk A60
  clear A60
  by_cases c7 : t341 = true
  case neg =>
   replace c7 := Bool.eq_false_iff.mpr c7
   subst c7
   have H1 : (skiffref1_Cut.j0 k a0 a2 true a1_0 a1_1 a1_2) = some (r1, r2) := by rw [if_neg (show ¬ (false = true) by decide)] at H; exact H
   clear H; have H := H1; clear H1
   have H' := Aside0.mk H
   clear H
   go_wp2_with (first | ((with_reducible refine gate_callee (f := 43) rfl ?_); refine goesL_ (some 9) rfl rfl Try.func43 (by kernel_rfl) rfl #[.string a0] rfl ka ?_; (with_reducible refine (skiffref1_FlashMay.calls a0 false _ A6.out).mono ?_); rintro e w' ⟨rfl, ⟨nd, rfl⟩⟩; refine ⟨_, rfl, ?_⟩))
   go_meet
   case rel => exact ⟨_, (true), (by first | rfl | (simp; done) | (simp [*]; done)), H', ⟨by first | omega | exact Nat.le_refl _⟩, ⟨kB BK340.out⟩, ⟨kb1 HB.out GE340.out⟩⟩
  subst c7
  have H1 : ((skiffref1_OpMay.f a1_0 a1_1 a1_2).bind fun t342 => (if t342 = true then ((skiffref1_upTo.f a2 0 96).bind fun t343 => (skiffref1_Cut.j0 k a0 a2 (!t343) a1_0 a1_1 a1_2)) else (skiffref1_Cut.j0 k a0 a2 true a1_0 a1_1 a1_2))) = some (r1, r2) := by rw [if_pos rfl] at H; exact H
  clear H; have H := H1; clear H1
  replace H := Option.bind_eq_some_iff.mp H
  obtain ⟨t342, A80, H⟩ := H
  replace H : (if t342 = true then ((skiffref1_upTo.f a2 0 96).bind fun t343 => (skiffref1_Cut.j0 k a0 a2 (!t343) a1_0 a1_1 a1_2)) else (skiffref1_Cut.j0 k a0 a2 true a1_0 a1_1 a1_2)) = some (r1, r2) := H
  have A8 := Aside0.mk A80
  clear A80
  by_cases c9 : t342 = true
  case neg =>
   replace c9 := Bool.eq_false_iff.mpr c9
   subst c9
   have H1 : (skiffref1_Cut.j0 k a0 a2 true a1_0 a1_1 a1_2) = some (r1, r2) := by rw [if_neg (show ¬ (false = true) by decide)] at H; exact H
   clear H; have H := H1; clear H1
   have H' := Aside0.mk H
   clear H
   go_wp2_with (first | ((with_reducible refine gate_callee (f := 43) rfl ?_); refine goesL_ (some 9) rfl rfl Try.func43 (by kernel_rfl) rfl #[.string a0] rfl ka ?_; (with_reducible refine (skiffref1_FlashMay.calls a0 true _ A6.out).mono ?_); rintro e w' ⟨rfl, ⟨nd, rfl⟩⟩; refine ⟨_, rfl, ?_⟩; obtain ⟨hcz13_0, hcz13_1, hcz13_2⟩ := kc3 BK340.out; obtain ⟨hfz13_0, hfz13_1, hfz13_2⟩ := kf3 BK340.out) | (go_at_call 79; (with_reducible refine (skiffref1_OpMay.calls a1_0 a1_1 a1_2 false _ A8.out).mono ?_); rintro e w14 ⟨rfl, hb⟩; have n0_ := Aside0.mk (kL BK340.out hb); have n1_ := Aside0.mk (below_step (kb1 HB.out GE340.out) hb); clear BK340; clear HB; have BK340 := n0_; have HB := n1_; clear n0_ n1_; (try clear hb); (try clear hb2); (try clear hk); (try clear hi)))
   go_meet
   case rel => exact ⟨_, (true), (by first | rfl | (simp; done) | (simp [*]; done)), H', ⟨by first | omega | exact Nat.le_refl _⟩, ⟨kB BK340.out⟩, ⟨kb1 HB.out GE340.out⟩⟩
  subst c9
  have H1 : ((skiffref1_upTo.f a2 0 96).bind fun t343 => (skiffref1_Cut.j0 k a0 a2 (!t343) a1_0 a1_1 a1_2)) = some (r1, r2) := by rw [if_pos rfl] at H; exact H
  clear H; have H := H1; clear H1
  replace H := Option.bind_eq_some_iff.mp H
  obtain ⟨t343, A100, H⟩ := H
  replace H : (skiffref1_Cut.j0 k a0 a2 (!t343) a1_0 a1_1 a1_2) = some (r1, r2) := H
  have A10 := Aside0.mk A100
  clear A100
  have H' := Aside0.mk H
  clear H
  go_wp2_with (first | ((with_reducible refine gate_callee (f := 43) rfl ?_); refine goesL_ (some 9) rfl rfl Try.func43 (by kernel_rfl) rfl #[.string a0] rfl ka ?_; (with_reducible refine (skiffref1_FlashMay.calls a0 true _ A6.out).mono ?_); rintro e w' ⟨rfl, ⟨nd, rfl⟩⟩; refine ⟨_, rfl, ?_⟩; obtain ⟨hcz11_0, hcz11_1, hcz11_2⟩ := kc3 BK340.out; obtain ⟨hfz11_0, hfz11_1, hfz11_2⟩ := kf3 BK340.out) | (go_at_call 79; (with_reducible refine (skiffref1_OpMay.calls a1_0 a1_1 a1_2 true _ A8.out).mono ?_); rintro e w12 ⟨rfl, hb⟩; have n0_ := Aside0.mk (kL BK340.out hb); have n1_ := Aside0.mk (below_step (kb1 HB.out GE340.out) hb); clear BK340; clear HB; have BK340 := n0_; have HB := n1_; clear n0_ n1_; (try clear hb); (try clear hb2); (try clear hk); (try clear hi)) | (go_at_call 45; (with_reducible refine (skiffref1_upTo.calls a2 0 96 t343 _ A10.out).mono ?_); rintro e w' ⟨rfl, ⟨nd, rfl⟩⟩))
  go_meet
  case rel => exact ⟨_, (!t343), (by first | rfl | (simp; done) | (simp [*]; done)), H', ⟨by first | omega | exact Nat.le_refl _⟩, ⟨kB BK340.out⟩, ⟨kb1 HB.out GE340.out⟩⟩
 case rest =>
  clear HC4
  try clear p2; try clear c4; try clear c6; try clear c7; try clear c9; try clear hcz11_0; try clear hcz11_1; try clear hcz11_2; try clear hcz13_0; try clear hcz13_1; try clear hcz13_2; try clear hfz11_0; try clear hfz11_1; try clear hfz11_2; try clear hfz13_0; try clear hfz13_1; try clear hfz13_2
  obtain ⟨kq, x20_3, rfl, HA, HJ3, BK340, HB⟩ := hcut
  cases kq with
  | zero => exact absurd HA.out (by simp [skiffref1_Cut.j0])
  | succ kj3 =>
   have H := HA.out
   clear HA
   simp only [skiffref1_Cut.j0] at H
   by_cases c15 : x20_3 = true
   ·subst c15
    have H1 : (some ((⟨#[]⟩ : ByteArray), 300)) = some (r1, r2) := by rw [if_pos rfl] at H; exact H
    clear H; have H := H1; clear H1
    simp only [Option.some.injEq, Prod.mk.injEq] at H
    obtain ⟨rfl, rfl⟩ := H
    go_wp2
    go_ret2
    exact ⟨by first | rfl | (simp [errW_none, errW_some] <;> rfl) | (simp [*, errW_none, errW_some] <;> rfl), kb1 HB.out GE340.out⟩
   ·replace c15 := Bool.eq_false_iff.mpr c15
    subst c15
    have H1 : (if a1_0 = true then ((skiffref1_Worn.f a0 (wrap64 (Int.tdiv a1_1 96)) a2).bind fun bt344 => (some (bt344.1, bt344.2))) else ((skiffref1_Torn.f a0 a1_1 a1_2 (mn a2 32)).bind fun bt346 => (some (bt346.1, bt346.2)))) = some (r1, r2) := by rw [if_neg (show ¬ (false = true) by decide)] at H; exact H
    clear H; have H := H1; clear H1
    by_cases c16 : a1_0 = true
    ·subst c16
     have H1 : ((skiffref1_Worn.f a0 (wrap64 (Int.tdiv a1_1 96)) a2).bind fun bt344 => (some (bt344.1, bt344.2))) = some (r1, r2) := by rw [if_pos rfl] at H; exact H
     clear H; have H := H1; clear H1
     replace H := Option.bind_eq_some_iff.mp H
     obtain ⟨⟨t344, t345⟩, A170, H⟩ := H
     replace H : (some (t344, t345)) = some (r1, r2) := H
     have A17 := Aside0.mk A170
     clear A170
     simp only [Option.some.injEq, Prod.mk.injEq] at H
     obtain ⟨rfl, rfl⟩ := H
     obtain ⟨hcz18_0, hcz18_1, hcz18_2⟩ := kc3 BK340.out
     obtain ⟨hfz18_0, hfz18_1, hfz18_2⟩ := kf3 BK340.out
     go_wp2_with (first | ((with_reducible refine gate_callee (f := 82) rfl ?_); refine goesL_ (some 28) rfl rfl Try.func82 (by kernel_rfl) rfl #[.string a0, .int .i64 (wrap64 (Int.tdiv a1_1 96)), .int .i64 a2] rfl ka ?_; (with_reducible refine (skiffref1_Worn.calls a0 (wrap64 (Int.tdiv a1_1 96)) a2 t344 t345 _ A17.out).mono ?_); rintro e w19 ⟨rfl, hb⟩; refine ⟨_, rfl, ?_⟩; have n0_ := Aside0.mk (kL BK340.out hb); have n1_ := Aside0.mk (below_step (kb1 HB.out GE340.out) hb); clear BK340; clear HB; have BK340 := n0_; have HB := n1_; clear n0_ n1_; (try clear hb); (try clear hb2); (try clear hk); (try clear hi)))
     go_ret2
     exact ⟨by first | rfl | (simp [errW_none, errW_some] <;> rfl) | (simp [*, errW_none, errW_some] <;> rfl), kb1 HB.out GE340.out⟩
    ·replace c16 := Bool.eq_false_iff.mpr c16
     subst c16
     have H1 : ((skiffref1_Torn.f a0 a1_1 a1_2 (mn a2 32)).bind fun bt346 => (some (bt346.1, bt346.2))) = some (r1, r2) := by rw [if_neg (show ¬ (false = true) by decide)] at H; exact H
     clear H; have H := H1; clear H1
     obtain ⟨ji20, hji20⟩ : ∃ j_ : Int, (mn a2 32) = j_ := ⟨_, rfl⟩
     replace H : ((skiffref1_Torn.f a0 a1_1 a1_2 (ji20)).bind fun bt346 => (some (bt346.1, bt346.2))) = some (r1, r2) := by first | (rw [hji20] at H; exact H) | (simp only [hji20] at H ⊢; exact H)
     have hji20_ : (if 32 < a2 then 32 else a2) = ji20 := hji20
     replace H := Option.bind_eq_some_iff.mp H
     obtain ⟨⟨t346, t347⟩, A210, H⟩ := H
     replace H : (some (t346, t347)) = some (r1, r2) := H
     have A21 := Aside0.mk A210
     clear A210
     simp only [Option.some.injEq, Prod.mk.injEq] at H
     obtain ⟨rfl, rfl⟩ := H
     obtain ⟨hcz22_0, hcz22_1, hcz22_2⟩ := kc3 BK340.out
     obtain ⟨hfz22_0, hfz22_1, hfz22_2⟩ := kf3 BK340.out
     go_wp2_with (first | ((with_reducible refine gate_callee (f := 83) rfl ?_); refine goesL_ (some 38) rfl rfl Try.func83 (by kernel_rfl) rfl #[.string a0, .int .i64 a1_1, .string a1_2, .int .i64 ji20] rfl (by (try simp only [List.map_toArray, List.map_cons, List.map_nil]); first | done | (simp only [hji20]; rfl) | rfl | (simp only [List.length_drop, List.length_take]; rfl)) ?_; (with_reducible refine (skiffref1_Torn.calls a0 a1_1 a1_2 ji20 t346 t347 _ A21.out).mono ?_); rintro e w23 ⟨rfl, hb⟩; refine ⟨_, rfl, ?_⟩; have n0_ := Aside0.mk (kL BK340.out hb); have n1_ := Aside0.mk (below_step (kb1 HB.out GE340.out) hb); clear BK340; clear HB; have BK340 := n0_; have HB := n1_; clear n0_ n1_; (try clear hb); (try clear hb2); (try clear hk); (try clear hi)))
     go_ret2
     exact ⟨by first | rfl | (simp [errW_none, errW_some] <;> rfl) | (simp only [← hji20]; first | rfl | (simp [errW_none, errW_some] <;> rfl)) | (simp [*, errW_none, errW_some] <;> rfl), kb1 HB.out GE340.out⟩

/-! ### skiffref1_Do: function 38 -/
def skiffref1_Do.f (k : Nat) (a0 : ByteArray) (a1_0 : Bool) (a1_1 : Int) (a1_2 : ByteArray) : Option (ByteArray × Int) := (skiffref1_Cut.f k a0 a1_0 a1_1 a1_2 96).bind fun bt349 => (some (bt349.1, bt349.2))
theorem skiffref1_Do.mono : ∀ a0 a1 a2 a3 k, LeO (skiffref1_Do.f k a0 a1 a2 a3) (skiffref1_Do.f (k + 1) a0 a1 a2 a3) := by
 intro a0 a1 a2 a3 k
 unfold skiffref1_Do.f
 repeat' first
   | (with_reducible exact skiffref1_Cut.mono _ _ _ _ _ _)
   | (with_reducible exact LeO.refl _)
   | (with_reducible exact LeO.none _)
   | (with_reducible refine LeO.ite ?_ ?_)
   | (with_reducible refine LeO.bind ?_ (fun _ => ?_))
   | exact skiffref1_Cut.mono _ _ _ _ _ _
   | exact LeO.none _
   | refine LeO.ite ?_ ?_
   | refine LeO.bind ?_ (fun _ => ?_)
set_option maxHeartbeats 8000000 in
set_option maxRecDepth 100000 in
theorem skiffref1_Do.calls (k : Nat) (a0 : ByteArray) (a1_0 : Bool) (a1_1 : Int) (a1_2 : ByteArray) (r1 : ByteArray) (r2 : Int) (w : World) (h : skiffref1_Do.f k a0 a1_0 a1_1 a1_2 = some (r1, r2)) :
  Calls Try.prog 38 #[.string a0, .agg #[.bool a1_0, .int .i64 a1_1, .string a1_2]] w fun e w' => e = .returned (.tuple #[.string r1, .int .i64 r2]) ∧ Below w.heap.size w w' := by
 have hu68 := Try.underlying68
 have HB := Aside0.mk (Below.refl w.heap.size w)
 have H : ((skiffref1_Cut.f k a0 a1_0 a1_1 a1_2 96).bind fun bt349 => (some (bt349.1, bt349.2))) = some (r1, r2) := h
 clear h
 replace H := Option.bind_eq_some_iff.mp H
 obtain ⟨⟨t349, t350⟩, A30, H⟩ := H
 replace H : (some (t349, t350)) = some (r1, r2) := H
 have A3 := Aside0.mk A30
 clear A30
 simp only [Option.some.injEq, Prod.mk.injEq] at H
 obtain ⟨rfl, rfl⟩ := H
 go_enter Try.func38, Try.ntmps38
 go_wp2_with (first | ((with_reducible refine gate_dst (N := 3) rfl ?_); refine box_event ?hg (N := 3) ?hd (cs := #[.bool a1_0, .int .i64 a1_1, .string a1_2]) (t := 68) ?hr ?_; (case hd => rfl); (case hg => rfl); (case hr => first | (go_simp; done) | (go_simp; rfl)); intro gb348 hg w4 hbox hb; have n0_ := Aside0.mk (below_step (kb HB.out) hb); have n1_ := Aside0.mk (hbox); have n2_ := Aside0.mk ((kz hg (below_size (kb HB.out)) : w.heap.size ≤ gb348)); have n3_ := Aside0.mk ((kz hg (below_size (kb HB.out)) : w.heap.size ≤ gb348)); clear HB; have HB := n0_; have BK348 := n1_; have GW348 := n2_; have GE348 := n3_; clear n0_ n1_ n2_ n3_; clear hb hbox hg; obtain ⟨hcz5_0, hcz5_1, hcz5_2⟩ := kc3 BK348.out; obtain ⟨hfz5_0, hfz5_1, hfz5_2⟩ := kf3 BK348.out) | ((with_reducible refine gate_callee (f := 63) rfl ?_); refine goesL_ (some 8) rfl rfl Try.func63 (by kernel_rfl) rfl #[.string a0, .agg #[.bool a1_0, .int .i64 a1_1, .string a1_2], .int .i64 96] rfl ka ?_; (with_reducible refine (skiffref1_Cut.calls k a0 a1_0 a1_1 a1_2 96 t349 t350 _ A3.out).mono ?_); rintro e w6 ⟨rfl, hb⟩; refine ⟨_, rfl, ?_⟩; have n0_ := Aside0.mk (kL BK348.out hb); have n1_ := Aside0.mk (below_step (kb1 HB.out GE348.out) hb); clear BK348; clear HB; have BK348 := n0_; have HB := n1_; clear n0_ n1_; (try clear hb); (try clear hb2); (try clear hk); (try clear hi)))
 go_ret2
 exact ⟨by first | rfl | (simp [errW_none, errW_some] <;> rfl) | (simp [*, errW_none, errW_some] <;> rfl), kb1 HB.out GE348.out⟩

end Go.Proofs.Ytmidohjfajbpmaa.P
