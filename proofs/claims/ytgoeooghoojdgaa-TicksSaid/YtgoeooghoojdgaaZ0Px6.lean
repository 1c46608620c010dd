-- written by wip/prt.py of this repo, by the kit's print, over contracts that are proved here by hand
import Derived.Test.YtgoeooghoojdgaaZ0Cz
import Derived.Test.YtgoeooghoojdgaaZ0GivTick
import Derived.Test.YtgoeooghoojdgaaZ0Px0
import Derived.Test.YtgoeooghoojdgaaZ0Px1
import Derived.Test.YtgoeooghoojdgaaZ0Px2
import Derived.Test.YtgoeooghoojdgaaZ0Px3
import Derived.Test.YtgoeooghoojdgaaZ0Px4
import Derived.Test.YtgoeooghoojdgaaZ0Px5
namespace Go.Proofs.Ytgoeooghoojdgaa.P
open Go.RowKit Go.Proofs.YtgoeooghoojdgaaW.PrintWords Go.Proofs.YtgoeooghoojdgaaW.PrintLast Go.Proofs.YtgoeooghoojdgaaW.PrintMore
attribute [local go_sem] max2_int min2_int max_two min_two max_three min_three max_four min_four   -- for this text's walks alone
set_option linter.unusedVariables false
set_option linter.unusedSimpArgs false

attribute [local go_sem high] eqA40
/-! ### skiffref16_Tick: function 11 -/
def skiffref16_Tick.j0 : Nat → ByteArray → Int → Int → Int → Int → Int → List (S40) → Int → Int → Int → Int → Int → List (S40) → Option (ByteArray × Int × Int × Int × Int × Int × (List (S40)) × Int)
 | 0, _, _, _, _, _, _, _, _, _, _, _, _, _ => none
 | k + 1, x0, x205000, x205001, x205002, x205003, x205004, x205005, x216000, x216001, x216002, x216003, x216004, x216005 => if (x216005.length : Int) > 0 then (some (x0, x216000, x216001, x216002, x216003, x216004, x216005, 0)) else (if x205000 = 5 then ((skiffref16_NewDevice.f).bind fun bt230 => (some (x0, bt230.1, bt230.2.1, bt230.2.2.1, bt230.2.2.2.1, bt230.2.2.2.2.1, bt230.2.2.2.2.2, 0))) else (some (x0, 1, x216001, x216002, x216003, x216004, x216005, 0)))
def skiffref16_Tick.f (k : Nat) (a0 : ByteArray) (a1_0 : Int) (a1_1 : Int) (a1_2 : Int) (a1_3 : Int) (a1_4 : Int) (l1_5 : List (S40)) : Option (ByteArray × Int × Int × Int × Int × Int × (List (S40)) × Int) := (skiffref16_both.f k a0 a1_0 a1_1 a1_2 a1_3 a1_4 l1_5).bind fun t206 => (if t206 = true then ((skiffref16_copyDevice.f a1_0 a1_1 a1_2 a1_3 a1_4 l1_5).bind fun bt207 => ((skiffref16_working.f a1_0 a1_1 a1_2 a1_3 a1_4 l1_5).bind fun t216 => (if t216 = true then (if (l1_5.length : Int) > 0 then (if 0 < (l1_5.length : Int) then ((skiffref1_Do.f k a0 ((rd_T40 l1_5 0).f0) ((rd_T40 l1_5 0).f1) ((rd_T40 l1_5 0).f2)).bind fun bt218 => ((some (([] : List (S40)) : List (S40))).bind fun y220 => (if 1 ≤ (l1_5.length : Int) then ((some (l1_5.drop 1 : List (S40))).bind fun y223 => (if y220.length + y223.length < 4398046511104 then (skiffref16_Tick.j0 k bt218.1 a1_0 a1_1 a1_2 a1_3 a1_4 l1_5 bt207.1 bt207.2.1 bt207.2.2.1 bt207.2.2.2.1 bt207.2.2.2.2.1 (y220 ++ y223)) else (none))) else (none)))) else (none)) else (skiffref16_Tick.j0 k a0 a1_0 a1_1 a1_2 a1_3 a1_4 l1_5 bt207.1 bt207.2.1 bt207.2.2.1 bt207.2.2.2.1 bt207.2.2.2.2.1 bt207.2.2.2.2.2)) else (some (a0, bt207.1, bt207.2.1, bt207.2.2.1, bt207.2.2.2.1, bt207.2.2.2.2.1, bt207.2.2.2.2.2, 0))))) else (some ((⟨#[]⟩ : ByteArray), 0, 0, 0, 0, 0, ([] : List (S40)), 1800)))
set_option maxHeartbeats 8000000 in
set_option maxRecDepth 100000 in
theorem skiffref16_Tick.calls (k : Nat) (a0 : ByteArray) (a1_0 : Int) (a1_1 : Int) (a1_2 : Int) (a1_3 : Int) (a1_4 : Int) (A1_5 : Option Addr) (c1_5 : Nat) (l1_5 : List (S40)) (r1 : ByteArray) (r2 : Int) (r3 : Int) (r4 : Int) (r5 : Int) (r6 : Int) (r7 : List (S40)) (r8 : Int) (w : World) (hr1_5 : Kd.C k40 w A1_5 l1_5.length l1_5) (hc1_5 : l1_5.length ≤ c1_5) (h : skiffref16_Tick.f k a0 a1_0 a1_1 a1_2 a1_3 a1_4 l1_5 = some (r1, r2, r3, r4, r5, r6, r7, r8)) :
  Calls Try.prog 11 #[.string a0, .agg #[.int .i64 a1_0, .int .i64 a1_1, .int .i64 a1_2, .int .i64 a1_3, .int .i64 a1_4, .slice A1_5 l1_5.length c1_5]] w fun e w' => ∃ v6_ : Value, e = .returned (.tuple #[.string r1, .agg #[.int .i64 r2, .int .i64 r3, .int .i64 r4, .int .i64 r5, .int .i64 r6, v6_], .int .i64 r8]) ∧ Kd.R k40 40 w' w.heap.size (fun _ => True) v6_ r7 ∧ Below w.heap.size w w' := by
 have hu24 := Try.underlying24
 have hu40 := Try.underlying40
 have HR1_5 := Aside0.mk hr1_5
 have HC1_5 := Aside0.mk hc1_5
 clear hr1_5 hc1_5
 have HB := Aside0.mk (Below.refl w.heap.size w)
 have H : ((skiffref16_both.f k a0 a1_0 a1_1 a1_2 a1_3 a1_4 l1_5).bind fun t206 => (if t206 = true then ((skiffref16_copyDevice.f a1_0 a1_1 a1_2 a1_3 a1_4 l1_5).bind fun bt207 => ((skiffref16_working.f a1_0 a1_1 a1_2 a1_3 a1_4 l1_5).bind fun t216 => (if t216 = true then (if (l1_5.length : Int) > 0 then (if 0 < (l1_5.length : Int) then ((skiffref1_Do.f k a0 ((rd_T40 l1_5 0).f0) ((rd_T40 l1_5 0).f1) ((rd_T40 l1_5 0).f2)).bind fun bt218 => ((some (([] : List (S40)) : List (S40))).bind fun y220 => (if 1 ≤ (l1_5.length : Int) then ((some (l1_5.drop 1 : List (S40))).bind fun y223 => (if y220.length + y223.length < 4398046511104 then (skiffref16_Tick.j0 k bt218.1 a1_0 a1_1 a1_2 a1_3 a1_4 l1_5 bt207.1 bt207.2.1 bt207.2.2.1 bt207.2.2.2.1 bt207.2.2.2.2.1 (y220 ++ y223)) else (none))) else (none)))) else (none)) else (skiffref16_Tick.j0 k a0 a1_0 a1_1 a1_2 a1_3 a1_4 l1_5 bt207.1 bt207.2.1 bt207.2.2.1 bt207.2.2.2.1 bt207.2.2.2.2.1 bt207.2.2.2.2.2)) else (some (a0, bt207.1, bt207.2.1, bt207.2.2.1, bt207.2.2.2.1, bt207.2.2.2.2.1, bt207.2.2.2.2.2, 0))))) else (some ((⟨#[]⟩ : ByteArray), 0, 0, 0, 0, 0, ([] : List (S40)), 1800)))) = some (r1, r2, r3, r4, r5, r6, r7, r8) := h
 clear h
 replace H := Option.bind_eq_some_iff.mp H
 obtain ⟨t206, A30, H⟩ := H
 replace H : (if t206 = true then ((skiffref16_copyDevice.f a1_0 a1_1 a1_2 a1_3 a1_4 l1_5).bind fun bt207 => ((skiffref16_working.f a1_0 a1_1 a1_2 a1_3 a1_4 l1_5).bind fun t216 => (if t216 = true then (if (l1_5.length : Int) > 0 then (if 0 < (l1_5.length : Int) then ((skiffref1_Do.f k a0 ((rd_T40 l1_5 0).f0) ((rd_T40 l1_5 0).f1) ((rd_T40 l1_5 0).f2)).bind fun bt218 => ((some (([] : List (S40)) : List (S40))).bind fun y220 => (if 1 ≤ (l1_5.length : Int) then ((some (l1_5.drop 1 : List (S40))).bind fun y223 => (if y220.length + y223.length < 4398046511104 then (skiffref16_Tick.j0 k bt218.1 a1_0 a1_1 a1_2 a1_3 a1_4 l1_5 bt207.1 bt207.2.1 bt207.2.2.1 bt207.2.2.2.1 bt207.2.2.2.2.1 (y220 ++ y223)) else (none))) else (none)))) else (none)) else (skiffref16_Tick.j0 k a0 a1_0 a1_1 a1_2 a1_3 a1_4 l1_5 bt207.1 bt207.2.1 bt207.2.2.1 bt207.2.2.2.1 bt207.2.2.2.2.1 bt207.2.2.2.2.2)) else (some (a0, bt207.1, bt207.2.1, bt207.2.2.1, bt207.2.2.2.1, bt207.2.2.2.2.1, bt207.2.2.2.2.2, 0))))) else (some ((⟨#[]⟩ : ByteArray), 0, 0, 0, 0, 0, ([] : List (S40)), 1800))) = some (r1, r2, r3, r4, r5, r6, r7, r8) := H
 have A3 := Aside0.mk A30
 clear A30
 by_cases c4 : t206 = true
 ·subst c4
  have H1 : ((skiffref16_copyDevice.f a1_0 a1_1 a1_2 a1_3 a1_4 l1_5).bind fun bt207 => ((skiffref16_working.f a1_0 a1_1 a1_2 a1_3 a1_4 l1_5).bind fun t216 => (if t216 = true then (if (l1_5.length : Int) > 0 then (if 0 < (l1_5.length : Int) then ((skiffref1_Do.f k a0 ((rd_T40 l1_5 0).f0) ((rd_T40 l1_5 0).f1) ((rd_T40 l1_5 0).f2)).bind fun bt218 => ((some (([] : List (S40)) : List (S40))).bind fun y220 => (if 1 ≤ (l1_5.length : Int) then ((some (l1_5.drop 1 : List (S40))).bind fun y223 => (if y220.length + y223.length < 4398046511104 then (skiffref16_Tick.j0 k bt218.1 a1_0 a1_1 a1_2 a1_3 a1_4 l1_5 bt207.1 bt207.2.1 bt207.2.2.1 bt207.2.2.2.1 bt207.2.2.2.2.1 (y220 ++ y223)) else (none))) else (none)))) else (none)) else (skiffref16_Tick.j0 k a0 a1_0 a1_1 a1_2 a1_3 a1_4 l1_5 bt207.1 bt207.2.1 bt207.2.2.1 bt207.2.2.2.1 bt207.2.2.2.2.1 bt207.2.2.2.2.2)) else (some (a0, bt207.1, bt207.2.1, bt207.2.2.1, bt207.2.2.2.1, bt207.2.2.2.2.1, bt207.2.2.2.2.2, 0))))) = some (r1, r2, r3, r4, r5, r6, r7, r8) := by rw [if_pos rfl] at H; exact H
  clear H; have H := H1; clear H1
  replace H := Option.bind_eq_some_iff.mp H
  obtain ⟨⟨t207, t208, t209, t210, t211, t212⟩, A50, H⟩ := H
  replace H : ((skiffref16_working.f a1_0 a1_1 a1_2 a1_3 a1_4 l1_5).bind fun t216 => (if t216 = true then (if (l1_5.length : Int) > 0 then (if 0 < (l1_5.length : Int) then ((skiffref1_Do.f k a0 ((rd_T40 l1_5 0).f0) ((rd_T40 l1_5 0).f1) ((rd_T40 l1_5 0).f2)).bind fun bt218 => ((some (([] : List (S40)) : List (S40))).bind fun y220 => (if 1 ≤ (l1_5.length : Int) then ((some (l1_5.drop 1 : List (S40))).bind fun y223 => (if y220.length + y223.length < 4398046511104 then (skiffref16_Tick.j0 k bt218.1 a1_0 a1_1 a1_2 a1_3 a1_4 l1_5 t207 t208 t209 t210 t211 (y220 ++ y223)) else (none))) else (none)))) else (none)) else (skiffref16_Tick.j0 k a0 a1_0 a1_1 a1_2 a1_3 a1_4 l1_5 t207 t208 t209 t210 t211 t212)) else (some (a0, t207, t208, t209, t210, t211, t212, 0)))) = some (r1, r2, r3, r4, r5, r6, r7, r8) := H
  have A5 := Aside0.mk A50
  clear A50
  replace H := Option.bind_eq_some_iff.mp H
  obtain ⟨t216, A60, H⟩ := H
  replace H : (if t216 = true then (if (l1_5.length : Int) > 0 then (if 0 < (l1_5.length : Int) then ((skiffref1_Do.f k a0 ((rd_T40 l1_5 0).f0) ((rd_T40 l1_5 0).f1) ((rd_T40 l1_5 0).f2)).bind fun bt218 => ((some (([] : List (S40)) : List (S40))).bind fun y220 => (if 1 ≤ (l1_5.length : Int) then ((some (l1_5.drop 1 : List (S40))).bind fun y223 => (if y220.length + y223.length < 4398046511104 then (skiffref16_Tick.j0 k bt218.1 a1_0 a1_1 a1_2 a1_3 a1_4 l1_5 t207 t208 t209 t210 t211 (y220 ++ y223)) else (none))) else (none)))) else (none)) else (skiffref16_Tick.j0 k a0 a1_0 a1_1 a1_2 a1_3 a1_4 l1_5 t207 t208 t209 t210 t211 t212)) else (some (a0, t207, t208, t209, t210, t211, t212, 0))) = some (r1, r2, r3, r4, r5, r6, r7, r8) := H
  have A6 := Aside0.mk A60
  clear A60
  by_cases c7 : t216 = true
  ·subst c7
   have H1 : (if (l1_5.length : Int) > 0 then (if 0 < (l1_5.length : Int) then ((skiffref1_Do.f k a0 ((rd_T40 l1_5 0).f0) ((rd_T40 l1_5 0).f1) ((rd_T40 l1_5 0).f2)).bind fun bt218 => ((some (([] : List (S40)) : List (S40))).bind fun y220 => (if 1 ≤ (l1_5.length : Int) then ((some (l1_5.drop 1 : List (S40))).bind fun y223 => (if y220.length + y223.length < 4398046511104 then (skiffref16_Tick.j0 k bt218.1 a1_0 a1_1 a1_2 a1_3 a1_4 l1_5 t207 t208 t209 t210 t211 (y220 ++ y223)) else (none))) else (none)))) else (none)) else (skiffref16_Tick.j0 k a0 a1_0 a1_1 a1_2 a1_3 a1_4 l1_5 t207 t208 t209 t210 t211 t212)) = some (r1, r2, r3, r4, r5, r6, r7, r8) := by rw [if_pos rfl] at H; exact H
   clear H; have H := H1; clear H1
   have HC8 := Aside0.mk H
   clear H
   go_enter Try.func11, Try.ntmps11
   go_upto_if 23 with (first | ((with_reducible refine gate_dst (N := 3) rfl ?_); refine box_event ?hg (N := 3) ?hd (cs := #[.int .i64 a1_0, .int .i64 a1_1, .int .i64 a1_2, .int .i64 a1_3, .int .i64 a1_4, .slice A1_5 l1_5.length c1_5]) (t := 24) ?hr ?_; (case hd => rfl); (case hg => rfl); (case hr => first | (go_simp; done) | (go_simp; rfl)); intro gb204 hg w9 hbox hb; have n0_ := Aside0.mk (below_step (kb HB.out) hb); have n1_ := Aside0.mk (hbox); have n2_ := Aside0.mk ((kz hg (below_size (kb HB.out)) : w.heap.size ≤ gb204)); have n3_ := Aside0.mk ((kz hg (below_size (kb HB.out)) : w.heap.size ≤ gb204)); clear HB; have HB := n0_; have BK204 := n1_; have GW204 := n2_; have GE204 := n3_; clear n0_ n1_ n2_ n3_; clear hb hbox hg) | ((with_reducible refine gate_dst (N := 5) rfl ?_); refine box_event ?hg (N := 5) ?hd (cs := #[.int .i64 0, .int .i64 0, .int .i64 0, .int .i64 0, .int .i64 0, .slice none 0 0]) (t := 24) ?hr ?_; (case hd => rfl); (case hg => rfl); (case hr => first | (go_simp; done) | (go_simp; rfl)); intro gb205 hg w10 hbox hb; have n0_ := Aside0.mk (kL BK204.out hb); have n1_ := Aside0.mk (below_step (kb1 HB.out GE204.out) hb); have n2_ := Aside0.mk (hbox); have n3_ := Aside0.mk ((kz hg (below_size (kb1 HB.out GE204.out)) : w.heap.size ≤ gb205)); have n4_ := Aside0.mk ((kz hg (below_size (kb1 HB.out GE204.out)) : w.heap.size ≤ gb205)); have n5_ := Aside0.mk ((kN hg BK204.out : gb204 ≠ gb205)); have n6_ := Aside0.mk (((kN hg BK204.out).symm : gb205 ≠ gb204)); clear BK204; clear HB; have BK204 := n0_; have HB := n1_; have BK205 := n2_; have GW205 := n3_; have GE205 := n4_; have NB204_205 := n5_; have NB205_204 := n6_; clear n0_ n1_ n2_ n3_ n4_ n5_ n6_; clear hb hbox hg; have hnb11 := NB204_205.out; have hnc11 := NB205_204.out; obtain ⟨hcz12_0, hcz12_1, hcz12_2, hcz12_3, hcz12_4, hcz12_5⟩ := kc6 BK204.out; obtain ⟨hfz12_0, hfz12_1, hfz12_2, hfz12_3, hfz12_4, hfz12_5⟩ := kf6 BK204.out) | ((with_reducible refine gate_callee (f := 31) rfl ?_); refine goesL_ (some 10) rfl rfl Try.func31 (by kernel_rfl) rfl #[.string a0, .agg #[.int .i64 a1_0, .int .i64 a1_1, .int .i64 a1_2, .int .i64 a1_3, .int .i64 a1_4, .slice A1_5 l1_5.length c1_5]] rfl ka ?_; (with_reducible refine (skiffref16_both.calls k a0 a1_0 a1_1 a1_2 a1_3 a1_4 _ _ l1_5 true _ ?side1 ?side2 A3.out).mono ?_); (case side1 => exact kC (Kd.C_below HR1_5.out HB.out)); (case side2 => exact HC1_5.out); rintro e w13 ⟨rfl, hb⟩; refine ⟨_, rfl, ?_⟩; have n0_ := Aside0.mk (kL BK204.out hb); have n1_ := Aside0.mk (kL BK205.out hb); have n2_ := Aside0.mk (below_step (kb2 HB.out GE204.out GE205.out) hb); clear BK204; clear BK205; clear HB; have BK204 := n0_; have BK205 := n1_; have HB := n2_; clear n0_ n1_ n2_; (try clear hb); (try clear hb2); (try clear hk); (try clear hi); obtain ⟨hcz14_0, hcz14_1, hcz14_2, hcz14_3, hcz14_4, hcz14_5⟩ := kc6 BK204.out; obtain ⟨hfz14_0, hfz14_1, hfz14_2, hfz14_3, hfz14_4, hfz14_5⟩ := kf6 BK204.out) | ((with_reducible refine gate_callee (f := 32) rfl ?_); refine goesL_ (some 14) rfl rfl Try.func32 (by kernel_rfl) rfl #[.agg #[.int .i64 a1_0, .int .i64 a1_1, .int .i64 a1_2, .int .i64 a1_3, .int .i64 a1_4, .slice A1_5 l1_5.length c1_5]] rfl ka ?_; (with_reducible refine (skiffref16_copyDevice.calls a1_0 a1_1 a1_2 a1_3 a1_4 _ _ l1_5 t207 t208 t209 t210 t211 t212 _ ?side1 ?side2 A5.out).mono ?_); (case side1 => exact kC (Kd.C_below HR1_5.out HB.out)); (case side2 => exact HC1_5.out); rintro e w15 ⟨v213, rfl, ho0, hb⟩; refine ⟨_, rfl, ?_⟩; have n0_ := Aside0.mk (Kd.R_lower ho0 (below_size (kb2 HB.out GE204.out GE205.out))); have n1_ := Aside0.mk (kL BK204.out hb); have n2_ := Aside0.mk (kL BK205.out hb); have n3_ := Aside0.mk (below_step (kb2 HB.out GE204.out GE205.out) hb); clear BK204; clear BK205; clear HB; have HO214 := n0_; have BK204 := n1_; have BK205 := n2_; have HB := n3_; clear n0_ n1_ n2_ n3_; (try clear hb); (try clear hb2); (try clear hk); (try clear hi); (try clear ho0)) | ((with_reducible refine gate_dst (N := 7) rfl ?_); refine box_event ?hg (N := 7) ?hd (cs := #[.int .i64 0, .int .i64 0, .int .i64 0, .int .i64 0, .int .i64 0, .slice none 0 0]) (t := 24) ?hr ?_; (case hd => rfl); (case hg => rfl); (case hr => first | (go_simp; done) | (go_simp; rfl)); intro gb215 hg w16 hbox hb; have n0_ := Aside0.mk (Kd.R_below (kR HO214.out) hb); have n1_ := Aside0.mk (kL BK204.out hb); have n2_ := Aside0.mk (kL BK205.out hb); have n3_ := Aside0.mk (below_step (kb2 HB.out GE204.out GE205.out) hb); have n4_ := Aside0.mk (hbox); have n5_ := Aside0.mk ((kz hg (below_size (kb2 HB.out GE204.out GE205.out)) : w.heap.size ≤ gb215)); have n6_ := Aside0.mk ((kz hg (below_size (kb2 HB.out GE204.out GE205.out)) : w.heap.size ≤ gb215)); have n7_ := Aside0.mk ((kN hg BK204.out : gb204 ≠ gb215)); have n8_ := Aside0.mk (((kN hg BK204.out).symm : gb215 ≠ gb204)); have n9_ := Aside0.mk ((kN hg BK205.out : gb205 ≠ gb215)); have n10_ := Aside0.mk (((kN hg BK205.out).symm : gb215 ≠ gb205)); clear HO214; clear BK204; clear BK205; clear HB; have HO214 := n0_; have BK204 := n1_; have BK205 := n2_; have HB := n3_; have BK215 := n4_; have GW215 := n5_; have GE215 := n6_; have NB204_215 := n7_; have NB215_204 := n8_; have NB205_215 := n9_; have NB215_205 := n10_; clear n0_ n1_ n2_ n3_ n4_ n5_ n6_ n7_ n8_ n9_ n10_; clear hb hbox hg; have hnb17 := NB215_204.out; have hnc17 := NB204_215.out; have hnb18 := NB215_205.out; have hnc18 := NB205_215.out; obtain ⟨hcz19_0, hcz19_1, hcz19_2, hcz19_3, hcz19_4, hcz19_5⟩ := kc6 BK215.out; obtain ⟨hfz19_0, hfz19_1, hfz19_2, hfz19_3, hfz19_4, hfz19_5⟩ := kf6 BK215.out; obtain ⟨Ao20, co20, eo20⟩ := Kd.R_slice HO214.out; subst eo20; obtain ⟨hcz21_0, hcz21_1, hcz21_2, hcz21_3, hcz21_4, hcz21_5⟩ := kc6 BK204.out; obtain ⟨hfz21_0, hfz21_1, hfz21_2, hfz21_3, hfz21_4, hfz21_5⟩ := kf6 BK204.out) | ((with_reducible refine gate_callee (f := 33) rfl ?_); refine goesL_ (some 16) rfl rfl Try.func33 (by kernel_rfl) rfl #[.agg #[.int .i64 a1_0, .int .i64 a1_1, .int .i64 a1_2, .int .i64 a1_3, .int .i64 a1_4, .slice A1_5 l1_5.length c1_5]] rfl ka ?_; (with_reducible refine (skiffref16_working.calls a1_0 a1_1 a1_2 a1_3 a1_4 _ _ l1_5 true _ ?side1 ?side2 A6.out).mono ?_); (case side1 => exact Kd.C_below HR1_5.out (kb3 HB.out GE204.out GE205.out GE215.out)); (case side2 => exact HC1_5.out); rintro e w22 ⟨rfl, hb⟩; refine ⟨_, rfl, ?_⟩; have n0_ := Aside0.mk (Kd.R_below (by (with_reducible repeat (first | apply Kd.R_alloc | apply Kd.R_drewN | apply Kd.R_drew)); exact (Kd.R_mono (Kd.R_far (p := ⟨gb215, 5, none⟩) (Kd.R_far (p := ⟨gb215, 4, none⟩) (Kd.R_far (p := ⟨gb215, 3, none⟩) (Kd.R_far (p := ⟨gb215, 2, none⟩) (Kd.R_far (p := ⟨gb215, 1, none⟩) (Kd.R_far (p := ⟨gb215, 0, none⟩) (Kd.R_types HO214.out BK215.out (by decide)) (fun _ hk => hk.2) (.int .i64 t207)) (fun _ hk => hk.2) (.int .i64 t208)) (fun _ hk => hk.2) (.int .i64 t209)) (fun _ hk => hk.2) (.int .i64 t210)) (fun _ hk => hk.2) (.int .i64 t211)) (fun _ hk => hk.2) (.slice Ao20 t212.length co20)) (fun _ h_ => h_.1))) hb); have n1_ := Aside0.mk (blk_below (g := gb204) (o := .cells #[.int .i64 a1_0, .int .i64 a1_1, .int .i64 a1_2, .int .i64 a1_3, .int .i64 a1_4, .slice A1_5 l1_5.length c1_5] 24 (0, 0)) (kFa6 BK204.out NB204_215.out) hb); have n2_ := Aside0.mk (blk_below (g := gb205) (o := .cells #[.int .i64 0, .int .i64 0, .int .i64 0, .int .i64 0, .int .i64 0, .slice none 0 0] 24 (0, 0)) (kFa6 BK205.out NB205_215.out) hb); have n3_ := Aside0.mk (blk_below (g := gb215) (o := .cells #[.int .i64 t207, .int .i64 t208, .int .i64 t209, .int .i64 t210, .int .i64 t211, .slice Ao20 t212.length co20] 24 (0, 0)) (kP6 BK215.out) hb); have n4_ := Aside0.mk (below_step (kb3 HB.out GE204.out GE205.out GE215.out) hb); clear HO214; clear BK204; clear BK205; clear BK215; clear HB; have HO214 := n0_; have BK204 := n1_; have BK205 := n2_; have BK215 := n3_; have HB := n4_; clear n0_ n1_ n2_ n3_ n4_; (try clear hb); (try clear hb2); (try clear hk); (try clear hi); obtain ⟨hcz23_0, hcz23_1, hcz23_2, hcz23_3, hcz23_4, hcz23_5⟩ := kc6 BK204.out; obtain ⟨hfz23_0, hfz23_1, hfz23_2, hfz23_3, hfz23_4, hfz23_5⟩ := kf6 BK204.out))
   (try simp only [Act.put, List.setIfInBounds_toArray, List.set_cons_zero, List.set_cons_succ])
   go_cut [0] (fun v0 wc => ∃ (kq : Nat) (x0_7 : ByteArray) (x216005_7 : List (S40)) (u216005 : Value), v0 = .string x0_7 ∧ Aside0 (skiffref16_Tick.j0 kq x0_7 a1_0 a1_1 a1_2 a1_3 a1_4 l1_5 t207 t208 t209 t210 t211 x216005_7 = some (r1, r2, r3, r4, r5, r6, r7, r8)) ∧ Aside0 (kq ≤ k) ∧ Aside0 (Kd.R k40 40 wc w.heap.size (fun _ => True) u216005 x216005_7) ∧ Aside0 (wc.heap[gb204]? = some (.cells #[.int .i64 a1_0, .int .i64 a1_1, .int .i64 a1_2, .int .i64 a1_3, .int .i64 a1_4, (.slice A1_5 l1_5.length c1_5)] 24 (0, 0))) ∧ Aside0 (wc.heap[gb205]? = some (.cells #[.int .i64 0, .int .i64 0, .int .i64 0, .int .i64 0, .int .i64 0, (.slice none 0 0)] 24 (0, 0))) ∧ Aside0 (wc.heap[gb215]? = some (.cells #[.int .i64 t207, .int .i64 t208, .int .i64 t209, .int .i64 t210, .int .i64 t211, u216005] 24 (0, 0))) ∧ Aside0 (Below w.heap.size w wc))
   case first =>
    have H := HC8.out
    clear HC8
    by_cases c24 : (l1_5.length : Int) > 0
    case neg =>
     rw [if_neg c24] at H
     have c24b0 : decide (0 < (l1_5.length : Int)) = false := decide_eq_false c24
     have c24b1 : decide (0 < l1_5.length) = false := decide_eq_false (by omega)
     clear c24
     (first | rw [c24b0] | rw [c24b1] | (simp only [i64_w, i32_w]; rw [c24b0]) | skip)
     have H' := Aside0.mk H
     clear H
     go_wp2
     go_meet
     case rel => exact ⟨_, (a0), (t212), (.slice Ao20 t212.length co20), (by first | rfl | (simp; done) | (simp [*]; done)), H', ⟨by first | omega | exact Nat.le_refl _⟩, ⟨kR HO214.out⟩, ⟨kB BK204.out⟩, ⟨kB BK205.out⟩, ⟨kB BK215.out⟩, ⟨kb3 HB.out GE204.out GE205.out GE215.out⟩⟩
    rw [if_pos c24] at H
    have c24b0 : decide (0 < (l1_5.length : Int)) = true := decide_eq_true c24
    have c24b1 : decide (0 < l1_5.length) = true := decide_eq_true (by omega)
    clear c24
    (first | rw [c24b0] | rw [c24b1] | (simp only [i64_w, i32_w]; rw [c24b0]) | skip)
    by_cases c25 : 0 < (l1_5.length : Int)
    case neg =>
     rw [if_neg c25] at H
     exact absurd H (by simp)
    rw [if_pos c25] at H
    have c25b0 : decide (0 < (l1_5.length : Int)) = true := decide_eq_true c25
    have c25b1 : decide (0 < l1_5.length) = true := decide_eq_true (by omega)
    clear c25
    replace H := Option.bind_eq_some_iff.mp H
    obtain ⟨⟨t218, t219⟩, A260, H⟩ := H
    replace H : ((some (([] : List (S40)) : List (S40))).bind fun y220 => (if 1 ≤ (l1_5.length : Int) then ((some (l1_5.drop 1 : List (S40))).bind fun y223 => (if y220.length + y223.length < 4398046511104 then (skiffref16_Tick.j0 k t218 a1_0 a1_1 a1_2 a1_3 a1_4 l1_5 t207 t208 t209 t210 t211 (y220 ++ y223)) else (none))) else (none))) = some (r1, r2, r3, r4, r5, r6, r7, r8) := H
    have A26 := Aside0.mk A260
    clear A260
    obtain ⟨y220, hy220⟩ : ∃ y_ : List (S40), y_ = (([] : List (S40))) := ⟨_, rfl⟩
    replace H : (if 1 ≤ (l1_5.length : Int) then ((some (l1_5.drop 1 : List (S40))).bind fun y223 => (if y220.length + y223.length < 4398046511104 then (skiffref16_Tick.j0 k t218 a1_0 a1_1 a1_2 a1_3 a1_4 l1_5 t207 t208 t209 t210 t211 (y220 ++ y223)) else (none))) else (none)) = some (r1, r2, r3, r4, r5, r6, r7, r8) := by first | (rw [hy220]; with_reducible exact H) | (have H2_ := (Option.bind_some _ _).symm.trans H; rw [hy220]; with_reducible exact H2_) | (have H2_ := (Option.bind_some _ _).symm.trans H; with_reducible exact H2_) | with_reducible exact H | (rw [hy220]; exact H) | exact H
    have Ny220 := Aside0.mk hy220
    clear hy220
    by_cases c27 : 1 ≤ (l1_5.length : Int)
    case neg =>
     rw [if_neg c27] at H
     exact absurd H (by simp)
    rw [if_pos c27] at H
    have c27b0 := eq_true c27
    have c27b1 : decide (1 ≤ (l1_5.length : Int)) = true := decide_eq_true c27
    clear c27
    obtain ⟨y223, hy223⟩ : ∃ y_ : List (S40), y_ = (l1_5.drop 1) := ⟨_, rfl⟩
    replace H : (if y220.length + y223.length < 4398046511104 then (skiffref16_Tick.j0 k t218 a1_0 a1_1 a1_2 a1_3 a1_4 l1_5 t207 t208 t209 t210 t211 (y220 ++ y223)) else (none)) = some (r1, r2, r3, r4, r5, r6, r7, r8) := by first | (rw [hy223]; with_reducible exact H) | (have H2_ := (Option.bind_some _ _).symm.trans H; rw [hy223]; with_reducible exact H2_) | (have H2_ := (Option.bind_some _ _).symm.trans H; with_reducible exact H2_) | with_reducible exact H | (rw [hy223]; exact H) | exact H
    have Ny223 := Aside0.mk hy223
    clear hy223
    by_cases c28 : y220.length + y223.length < 4398046511104
    case neg =>
     rw [if_neg c28] at H
     exact absurd H (by simp)
    rw [if_pos c28] at H
    have LMc28 := Aside0.mk c28
    clear c28
    obtain ⟨y227, hy227⟩ : ∃ y_ : List (S40), y_ = (y220 ++ y223) := ⟨_, rfl⟩
    replace H : (skiffref16_Tick.j0 k t218 a1_0 a1_1 a1_2 a1_3 a1_4 l1_5 t207 t208 t209 t210 t211 y227) = some (r1, r2, r3, r4, r5, r6, r7, r8) := by first | (rw [hy227]; with_reducible exact H) | (have H2_ := (Option.bind_some _ _).symm.trans H; rw [hy227]; with_reducible exact H2_) | (have H2_ := (Option.bind_some _ _).symm.trans H; with_reducible exact H2_) | with_reducible exact H | (rw [hy227]; exact H) | exact H
    have Ny227 := Aside0.mk hy227
    clear hy227
    have H' := Aside0.mk H
    clear H
    have hnb29 := NB204_205.out
    have hnc29 := NB205_204.out
    have hnb30 := NB204_215.out
    have hnc30 := NB215_204.out
    obtain ⟨hcz31_0, hcz31_1, hcz31_2, hcz31_3, hcz31_4, hcz31_5⟩ := kc6 BK204.out
    obtain ⟨hfz31_0, hfz31_1, hfz31_2, hfz31_3, hfz31_4, hfz31_5⟩ := kf6 BK204.out
    have p217 : 0 ≤ (0 : Int) := (by omega)
    have q217 : 0 < (l1_5.length : Int) := of_decide_eq_true (by first | (with_reducible assumption) | assumption)
    obtain ⟨ad217, e217, hx217_0, hx217_1, hx217_2⟩ := at_T40 HR1_5.out 0 p217 q217
    cases e217
    have qi217 : (0 < l1_5.length) = True := eq_true (by omega)
    (try rw [show ((0 : Int)).toNat = 0 from rfl] at hx217_0)
    (try rw [show 0 * 3 = 0 from rfl] at hx217_0)
    (try rw [Addr.add_zero'] at hx217_0)
    (try rw [show ((0 : Int)).toNat = 0 from rfl] at hx217_1)
    (try rw [show 0 * 3 = 0 from rfl] at hx217_1)
    (try rw [Addr.add_zero'] at hx217_1)
    (try rw [show ((0 : Int)).toNat = 0 from rfl] at hx217_2)
    (try rw [show 0 * 3 = 0 from rfl] at hx217_2)
    (try rw [Addr.add_zero'] at hx217_2)
    replace hx217_0 := (HB.out.cell (World.block_lt_of_cell? w _ hx217_0)).trans hx217_0
    replace hx217_1 := (HB.out.cell (World.block_lt_of_cell? w _ hx217_1)).trans hx217_1
    replace hx217_2 := (HB.out.cell (World.block_lt_of_cell? w _ hx217_2)).trans hx217_2
    replace p217 := eq_true p217
    replace q217 := eq_true q217
    go_wp2_with (first | ((with_reducible refine gate_callee (f := 20) rfl ?_); refine goesL_ (some 30) rfl rfl Try.func20 (by kernel_rfl) rfl #[.string a0, .agg #[.bool ((rd_T40 l1_5 0).f0), .int .i64 ((rd_T40 l1_5 0).f1), .string ((rd_T40 l1_5 0).f2)]] rfl ka ?_; (with_reducible refine (skiffref1_Do.calls k a0 ((rd_T40 l1_5 0).f0) ((rd_T40 l1_5 0).f1) ((rd_T40 l1_5 0).f2) t218 t219 _ A26.out).mono ?_); rintro e w32 ⟨rfl, hb⟩; refine ⟨_, rfl, ?_⟩; have n0_ := Aside0.mk (Kd.R_below (kR HO214.out) hb); have n1_ := Aside0.mk (kL BK204.out hb); have n2_ := Aside0.mk (kL BK205.out hb); have n3_ := Aside0.mk (kL BK215.out hb); have n4_ := Aside0.mk (below_step (kb3 HB.out GE204.out GE205.out GE215.out) hb); clear HO214; clear BK204; clear BK205; clear BK215; clear HB; have HO214 := n0_; have BK204 := n1_; have BK205 := n2_; have BK215 := n3_; have HB := n4_; clear n0_ n1_ n2_ n3_ n4_; (try clear hb); (try clear hb2); (try clear hk); (try clear hi)) | ((with_reducible refine gate_dst (N := 33) rfl ?_); refine Kd.R_lit k40 _ 40 ?hg (N := 33) ?hd (xs := ([] : List (S40))) (inner := []) (ok := fun _ => True) (okp := fun _ => True) ?hr ?hp (fun _ hk => hk) trivial (Below.refl _ _) (Nat.le_refl _) (by simp) ?_; (case hd => rfl); (case hg => rfl); (case hr => first | (go_simp; done) | (go_simp; rfl)); (case hp => exact (Reps.none _ _)); intro v221 w33 ho34 hb hg_ hnew_; clear hg_ hnew_; (first | rw [← Ny220.out] at ho34 | (simp only [Int.reduceToNat] at ho34; rw [← Ny220.out] at ho34)); have n0_ := Aside0.mk (Kd.R_elder' (kR HO214.out) (Kd.R_base ho34) hb); have n1_ := Aside0.mk (Kd.R_lower (Kd.R_new' ho34 (Kd.R_lt (kR HO214.out))) (below_size (kb3 HB.out GE204.out GE205.out GE215.out))); have n2_ := Aside0.mk (kL BK204.out hb); have n3_ := Aside0.mk (kL BK205.out hb); have n4_ := Aside0.mk (kL BK215.out hb); have n5_ := Aside0.mk (below_step (kb3 HB.out GE204.out GE205.out GE215.out) hb); clear HO214; clear BK204; clear BK205; clear BK215; clear HB; have HO214 := n0_; have HO222 := n1_; have BK204 := n2_; have BK205 := n3_; have BK215 := n4_; have HB := n5_; clear n0_ n1_ n2_ n3_ n4_ n5_; clear hb ho34; obtain ⟨hcz35_0, hcz35_1, hcz35_2, hcz35_3, hcz35_4, hcz35_5⟩ := kc6 BK204.out; obtain ⟨hfz35_0, hfz35_1, hfz35_2, hfz35_3, hfz35_4, hfz35_5⟩ := kf6 BK204.out; have q36 : (1 : Int) ≤ ((l1_5.length : Int) : Int) := of_decide_eq_true (by first | (with_reducible assumption) | assumption); obtain ⟨i036, hi036, _, hsz36, _⟩ := info_parts info40; have hroom36 : l1_5.length ≤ c1_5 := HC1_5.out; have hC36 : Kd.C k40 _ (some ad217) l1_5.length l1_5 := HR1_5.out; have hcut36 := cut_from (P := Try.prog) 22 40 .i64 Try.underlying22 hi036 3 hsz36 (some ad217) l1_5.length c1_5 1 (by omega) q36; have hr36 := Kd.C_drop (m := (1 : Int).toNat) (c := c1_5) hC36 (by omega) hroom36; obtain ⟨A36, hA36⟩ : ∃ A1, A1 = (if c1_5 = (1 : Int).toNat then (some ad217) else ((some ad217) : Option Addr).map (·.add ((1 : Int).toNat * 3))) := ⟨_, rfl⟩; obtain ⟨c36, hc36⟩ : ∃ c1, c1 = c1_5 - (1 : Int).toNat := ⟨_, rfl⟩; have hy36 : y223.length = l1_5.length - (1 : Int).toNat := (by rw [Ny223.out, List.length_drop] <;> omega); rw [show (l1_5).drop (1 : Int).toNat = y223 from Ny223.out.symm] at hr36; replace hr36 : Kd.C k40 _ A36 y223.length y223 := (by rw [hA36]; exact hr36); rw [← hy36, ← hA36, ← hc36] at hcut36; have HR226 := Aside0.mk hr36; have HC226 := Aside0.mk (show y223.length ≤ c36 from by rw [hy36, hc36]; exact Nat.sub_le_sub_right hroom36 _); clear hr36 hC36 hroom36 hi036 hsz36 hc36; have KY36 := Aside0.mk hy36; have KA36 := Aside0.mk hA36; clear hy36 hA36; replace q36 := eq_true q36) | ((with_reducible refine gate_builtin (b := .append) (xs := #[.tmp 33, .tmp 36]) rfl ?_); at_builtin; refine Kd.R_append_rows k40 (w0 := w) w.heap.size rfl (.tmp 33) (.tmp 36) 22 40 (.agg #[(.bool false), (.int .i64 0), (.string ⟨#[]⟩)]) 32 rfl Try.underlying22 info40 rfl (by decide) (by omega) v221 y220 y223 _ _ _ (fun k_ => some k_ ≠ (.slice Ao20 t212.length co20 : Value).ownBlock) (fun _ => False) rfl rfl ?aO ?aR (fun _ _ h => h) (fun _ h => h.elim) ?aF ?aB ?aS ?aL ?_; (case aR => exact kC (Kd.C_below HR226.out HB.out)); (case aB => exact (kb3 HB.out GE204.out GE205.out GE215.out)); (case aF => exact (fun k_ hk => Kd.fresh' (Kd.R_lt (kR HO214.out)) k_ hk)); (case aO => exact (by (with_reducible repeat (first | apply Kd.R_alloc | apply Kd.R_drewN | apply Kd.R_drew)); exact Kd.R_mono HO222.out (fun _ hk => hk.2))); (case aS => exact (below_size (kb3 HB.out GE204.out GE205.out GE215.out))); (case aL => have := LMc28.out; omega); intro v228 w37 ho hb hg hat; rw [← Ny227.out] at ho; have n0_ := Aside0.mk (blk_grown (g := gb204) (o := .cells #[.int .i64 a1_0, .int .i64 a1_1, .int .i64 a1_2, .int .i64 a1_3, .int .i64 a1_4, .slice (some ad217) l1_5.length c1_5] 24 (0, 0)) (kB BK204.out) hg (Kd.R_ne HO222.out BK204.out (by decide))); have n1_ := Aside0.mk (blk_grown (g := gb205) (o := .cells #[.int .i64 0, .int .i64 0, .int .i64 0, .int .i64 0, .int .i64 0, .slice none 0 0] 24 (0, 0)) (kB BK205.out) hg (Kd.R_ne HO222.out BK205.out (by decide))); have n2_ := Aside0.mk (Kd.R_after (ok := (fun _ => True)) (kR HO214.out) hg hat); have n3_ := Aside0.mk (blk_grown (g := gb215) (o := .cells #[.int .i64 t207, .int .i64 t208, .int .i64 t209, .int .i64 t210, .int .i64 t211, .slice Ao20 t212.length co20] 24 (0, 0)) (kB BK215.out) hg (Kd.R_ne HO222.out BK215.out (by decide))); have n4_ := Aside0.mk (hb); have n5_ := Aside0.mk (ho); clear BK204; clear BK205; clear HO214; clear BK215; clear HB; clear HO222; have BK204 := n0_; have BK205 := n1_; have HO214 := n2_; have BK215 := n3_; have HB := n4_; have HO229 := n5_; clear n0_ n1_ n2_ n3_ n4_ n5_; clear ho hb hg hat; obtain ⟨Ao38, co38, eo38⟩ := Kd.R_slice HO229.out; subst eo38; have hnb39 := NB215_205.out; have hnc39 := NB205_215.out; obtain ⟨hcz40_0, hcz40_1, hcz40_2, hcz40_3, hcz40_4, hcz40_5⟩ := kc6 BK215.out; obtain ⟨hfz40_0, hfz40_1, hfz40_2, hfz40_3, hfz40_4, hfz40_5⟩ := kf6 BK215.out))
    go_meet
    case rel => exact ⟨_, (t218), (y227), (.slice Ao38 y227.length co38), (by first | rfl | (simp; done) | (simp [*]; done)), H', ⟨by first | omega | exact Nat.le_refl _⟩, ⟨by (with_reducible repeat (first | apply Kd.R_alloc | apply Kd.R_drewN | apply Kd.R_drew)); exact Kd.R_mono (Kd.R_far (p := ⟨gb215, 5, none⟩) (Kd.R_types HO229.out BK215.out (by decide)) (fun _ hk => hk.2) (.slice Ao38 y227.length co38)) (fun _ hk => trivial)⟩, ⟨kFa1 BK204.out NB204_215.out⟩, ⟨kFa1 BK205.out NB205_215.out⟩, ⟨by (with_reducible repeat (first | refine blk_drewN ?_ _ | refine blk_drew ?_ | refine blk_alloc ?_ _)); refine blk_put (cs := #[.int .i64 t207, .int .i64 t208, .int .i64 t209, .int .i64 t210, .int .i64 t211, .slice Ao20 t212.length co20]) ?_ 5 _ rfl; (with_reducible repeat (first | refine blk_drewN ?_ _ | refine blk_drew ?_ | refine blk_alloc ?_ _)); exact BK215.out⟩, ⟨kb3 HB.out GE204.out GE205.out GE215.out⟩⟩
   case rest =>
    clear HC8
    try clear c1; try clear c2; try clear p2; try clear q2; try clear hx2; try clear qi2; try clear c3; try clear q3; try clear c4; try clear c7; try clear c11; try clear c17; try clear c18; try clear c20; try clear p21; try clear q21; try clear hx21; try clear qi21; try clear c24; try clear c24b0; try clear c24b1; try clear c25; try clear c25b0; try clear c25b1; try clear c27; try clear c27b0; try clear c27b1; try clear c28; try clear c29; try clear c30; try clear c31; try clear c32; try clear c33; try clear c36; try clear q36; try clear c39; try clear hcz12_0; try clear hcz12_1; try clear hcz12_2; try clear hcz12_3; try clear hcz12_4; try clear hcz12_5; try clear hcz14_0; try clear hcz14_1; try clear hcz14_2; try clear hcz14_3; try clear hcz14_4; try clear hcz14_5; try clear hcz19_0; try clear hcz19_1; try clear hcz19_2; try clear hcz19_3; try clear hcz19_4; try clear hcz19_5; try clear hcz21_0; try clear hcz21_1; try clear hcz21_2; try clear hcz21_3; try clear hcz21_4; try clear hcz21_5; try clear hcz23_0; try clear hcz23_1; try clear hcz23_2; try clear hcz23_3; try clear hcz23_4; try clear hcz23_5; try clear hcz31_0; try clear hcz31_1; try clear hcz31_2; try clear hcz31_3; try clear hcz31_4; try clear hcz31_5; try clear hcz35_0; try clear hcz35_1; try clear hcz35_2; try clear hcz35_3; try clear hcz35_4; try clear hcz35_5; try clear hcz40_0; try clear hcz40_1; try clear hcz40_2; try clear hcz40_3; try clear hcz40_4; try clear hcz40_5; try clear hfz12_0; try clear hfz12_1; try clear hfz12_2; try clear hfz12_3; try clear hfz12_4; try clear hfz12_5; try clear hfz14_0; try clear hfz14_1; try clear hfz14_2; try clear hfz14_3; try clear hfz14_4; try clear hfz14_5; try clear hfz19_0; try clear hfz19_1; try clear hfz19_2; try clear hfz19_3; try clear hfz19_4; try clear hfz19_5; try clear hfz21_0; try clear hfz21_1; try clear hfz21_2; try clear hfz21_3; try clear hfz21_4; try clear hfz21_5; try clear hfz23_0; try clear hfz23_1; try clear hfz23_2; try clear hfz23_3; try clear hfz23_4; try clear hfz23_5; try clear hfz31_0; try clear hfz31_1; try clear hfz31_2; try clear hfz31_3; try clear hfz31_4; try clear hfz31_5; try clear hfz35_0; try clear hfz35_1; try clear hfz35_2; try clear hfz35_3; try clear hfz35_4; try clear hfz35_5; try clear hfz40_0; try clear hfz40_1; try clear hfz40_2; try clear hfz40_3; try clear hfz40_4; try clear hfz40_5; try clear hx217_0; try clear hx217_1; try clear hx217_2; try clear p217; try clear q217; try clear q36
    obtain ⟨kq, x0_7, x216005_7, u216005, rfl, HA, HJ7, HO_216005, BK204, BK205, BK215, HB⟩ := hcut
    cases kq with
    | zero => exact absurd HA.out (by simp [skiffref16_Tick.j0])
    | succ kj7 =>
     have H := HA.out
     clear HA
     simp only [skiffref16_Tick.j0] at H
     by_cases c41 : (x216005_7.length : Int) > 0
     ·rw [if_pos c41] at H
      have c41b0 : decide (0 < (x216005_7.length : Int)) = true := decide_eq_true c41
      have c41b1 : decide (0 < x216005_7.length) = true := decide_eq_true (by omega)
      clear c41
      simp only [Option.some.injEq, Prod.mk.injEq] at H
      obtain ⟨rfl, rfl, rfl, rfl, rfl, rfl, rfl, rfl⟩ := H
      have hnb42 := NB215_204.out
      have hnc42 := NB204_215.out
      have hnb43 := NB215_205.out
      have hnc43 := NB205_215.out
      obtain ⟨hcz44_0, hcz44_1, hcz44_2, hcz44_3, hcz44_4, hcz44_5⟩ := kc6 BK215.out
      obtain ⟨hfz44_0, hfz44_1, hfz44_2, hfz44_3, hfz44_4, hfz44_5⟩ := kf6 BK215.out
      obtain ⟨Ao45, co45, eo45⟩ := Kd.R_slice HO_216005.out
      subst eo45
      try go_wp2
      have n0_ := Aside0.mk (Kd.R_drew HO_216005.out)
      have n1_ := Aside0.mk (blk_drew BK204.out)
      have n2_ := Aside0.mk (blk_drew BK205.out)
      have n3_ := Aside0.mk (blk_drew BK215.out)
      have n4_ := Aside0.mk (below_drew1 HB.out)
      clear HO_216005 BK204 BK205 BK215 HB; have HO_216005 := n0_; have BK204 := n1_; have BK205 := n2_; have BK215 := n3_; have HB := n4_; clear n0_ n1_ n2_ n3_ n4_
      refine start_ (n := 5) (S := fun w' => w'.cell? ⟨gb215, 0, none⟩ = some (.int .i64 t207) ∧ w'.cell? ⟨gb215, 1, none⟩ = some (.int .i64 t208) ∧ w'.cell? ⟨gb215, 2, none⟩ = some (.int .i64 t209) ∧ w'.cell? ⟨gb215, 3, none⟩ = some (.int .i64 t210) ∧ w'.cell? ⟨gb215, 4, none⟩ = some (.int .i64 t211) ∧ w'.cell? ⟨gb215, 5, none⟩ = some (.slice Ao45 x216005_7.length co45)) (ds := []) #[false, false, false, false, false] (by kernel_rfl) rfl rfl ⟨(blk_cell BK215.out 0).trans rfl, (blk_cell BK215.out 1).trans rfl, (blk_cell BK215.out 2).trans rfl, (blk_cell BK215.out 3).trans rfl, (blk_cell BK215.out 4).trans rfl, (blk_cell BK215.out 5).trans rfl⟩ (fun hHeld => ?_)
      generalize wc.drew = w46 at HO_216005 BK204 BK205 BK215 HB hHeld ⊢
      refine pure_ (i := 0) (N := some 43) (v := ?_) (a' := ?_) #[true, false, false, false, false] rfl rfl (by kernel_rfl) (fun _ _ _ h => h) (Or.inl ⟨by rfl, ?_⟩) ?_ ?_
      rotate_left
      ·intro w'
       go_simp
       with_reducible rfl
      rotate_left
      ·simp only [Act.put, List.setIfInBounds_toArray, List.set_cons_zero, List.set_cons_succ, i64_w, i32_w]
       rfl
      refine pure_ (i := 2) (N := some 4) (v := ?_) (a' := ?_) #[true, false, true, false, false] rfl rfl (by kernel_rfl) (fun _ _ _ h => h) (Or.inl ⟨by rfl, ?_⟩) ?_ ?_
      rotate_left
      ·intro w'
       go_simp
       with_reducible rfl
      rotate_left
      ·simp only [Act.put, List.setIfInBounds_toArray, List.set_cons_zero, List.set_cons_succ, i64_w, i32_w]
       rfl
      refine take_ (i := 1) (N := some 44) (v := ?_) (a' := ?_) #[true, true, true, false, false] rfl rfl (by kernel_rfl) (fun _ _ _ h => h) (Or.inl ⟨by rfl, ?_⟩) hHeld ?_ ?_
      rotate_left
      ·rintro w' ⟨s0, s1, s2, s3, s4, s5⟩
       go_simp
       with_reducible rfl
      rotate_left
      ·simp only [Act.put, List.setIfInBounds_toArray, List.set_cons_zero, List.set_cons_succ, i64_w, i32_w]
       rfl
      refine one_ (i := 3) (N := none) #[true, true, true, true, false] rfl rfl (by kernel_rfl) (by decide) (fun K hK => ?_)
      have hs47 : w46.cell? ⟨gb205, 0, none⟩ = some (.int .i64 0) := (blk_cell BK205.out 0).trans rfl
      have hfs47 := blk_frozen BK205.out 0
      have hns47_0 := NB204_205.out
      have hns47_2 := NB215_205.out
      have hms47_0 := NB205_204.out
      have hms47_2 := NB205_215.out
      have hs48 : w46.cell? ⟨gb205, 1, none⟩ = some (.int .i64 0) := (blk_cell BK205.out 1).trans rfl
      have hfs48 := blk_frozen BK205.out 1
      have hns48_0 := NB204_205.out
      have hns48_2 := NB215_205.out
      have hms48_0 := NB205_204.out
      have hms48_2 := NB205_215.out
      have hs49 : w46.cell? ⟨gb205, 2, none⟩ = some (.int .i64 0) := (blk_cell BK205.out 2).trans rfl
      have hfs49 := blk_frozen BK205.out 2
      have hns49_0 := NB204_205.out
      have hns49_2 := NB215_205.out
      have hms49_0 := NB205_204.out
      have hms49_2 := NB205_215.out
      have hs50 : w46.cell? ⟨gb205, 3, none⟩ = some (.int .i64 0) := (blk_cell BK205.out 3).trans rfl
      have hfs50 := blk_frozen BK205.out 3
      have hns50_0 := NB204_205.out
      have hns50_2 := NB215_205.out
      have hms50_0 := NB205_204.out
      have hms50_2 := NB205_215.out
      have hs51 : w46.cell? ⟨gb205, 4, none⟩ = some (.int .i64 0) := (blk_cell BK205.out 4).trans rfl
      have hfs51 := blk_frozen BK205.out 4
      have hns51_0 := NB204_205.out
      have hns51_2 := NB215_205.out
      have hms51_0 := NB205_204.out
      have hms51_2 := NB205_215.out
      have hs52 : w46.cell? ⟨gb205, 5, none⟩ = some (.slice none 0 0) := (blk_cell BK205.out 5).trans rfl
      have hfs52 := blk_frozen BK205.out 5
      have hns52_0 := NB204_205.out
      have hns52_2 := NB215_205.out
      have hms52_0 := NB205_204.out
      have hms52_2 := NB205_215.out
      refine skip_ (w1 := ?_) (by rfl) rfl ?_ ?_
      rotate_left
      ·go_simp
       rfl
      refine hK.out _ _ ⟨((cell_far (p := ⟨gb205, _, none⟩) NB215_205.out _).trans (((cell_far (p := ⟨gb205, _, none⟩) NB215_205.out _).trans (((cell_far (p := ⟨gb205, _, none⟩) NB215_205.out _).trans (((cell_far (p := ⟨gb205, _, none⟩) NB215_205.out _).trans (((cell_far (p := ⟨gb205, _, none⟩) NB215_205.out _).trans (((cell_far (p := ⟨gb205, _, none⟩) NB215_205.out _).trans (hHeld.1)))))))))))), ((cell_far (p := ⟨gb205, _, none⟩) NB215_205.out _).trans (((cell_far (p := ⟨gb205, _, none⟩) NB215_205.out _).trans (((cell_far (p := ⟨gb205, _, none⟩) NB215_205.out _).trans (((cell_far (p := ⟨gb205, _, none⟩) NB215_205.out _).trans (((cell_far (p := ⟨gb205, _, none⟩) NB215_205.out _).trans (((cell_far (p := ⟨gb205, _, none⟩) NB215_205.out _).trans (hHeld.2.1)))))))))))), ((cell_far (p := ⟨gb205, _, none⟩) NB215_205.out _).trans (((cell_far (p := ⟨gb205, _, none⟩) NB215_205.out _).trans (((cell_far (p := ⟨gb205, _, none⟩) NB215_205.out _).trans (((cell_far (p := ⟨gb205, _, none⟩) NB215_205.out _).trans (((cell_far (p := ⟨gb205, _, none⟩) NB215_205.out _).trans (((cell_far (p := ⟨gb205, _, none⟩) NB215_205.out _).trans (hHeld.2.2.1)))))))))))), ((cell_far (p := ⟨gb205, _, none⟩) NB215_205.out _).trans (((cell_far (p := ⟨gb205, _, none⟩) NB215_205.out _).trans (((cell_far (p := ⟨gb205, _, none⟩) NB215_205.out _).trans (((cell_far (p := ⟨gb205, _, none⟩) NB215_205.out _).trans (((cell_far (p := ⟨gb205, _, none⟩) NB215_205.out _).trans (((cell_far (p := ⟨gb205, _, none⟩) NB215_205.out _).trans (hHeld.2.2.2.1)))))))))))), ((cell_far (p := ⟨gb205, _, none⟩) NB215_205.out _).trans (((cell_far (p := ⟨gb205, _, none⟩) NB215_205.out _).trans (((cell_far (p := ⟨gb205, _, none⟩) NB215_205.out _).trans (((cell_far (p := ⟨gb205, _, none⟩) NB215_205.out _).trans (((cell_far (p := ⟨gb205, _, none⟩) NB215_205.out _).trans (((cell_far (p := ⟨gb205, _, none⟩) NB215_205.out _).trans (hHeld.2.2.2.2.1)))))))))))), ((cell_far (p := ⟨gb205, _, none⟩) NB215_205.out _).trans (((cell_far (p := ⟨gb205, _, none⟩) NB215_205.out _).trans (((cell_far (p := ⟨gb205, _, none⟩) NB215_205.out _).trans (((cell_far (p := ⟨gb205, _, none⟩) NB215_205.out _).trans (((cell_far (p := ⟨gb205, _, none⟩) NB215_205.out _).trans (((cell_far (p := ⟨gb205, _, none⟩) NB215_205.out _).trans (hHeld.2.2.2.2.2))))))))))))⟩ (fun hHeld => ?_)
      clear hK K
      refine pure_ (i := 4) (N := some 6) (v := ?_) (a' := ?_) #[true, true, true, true, true] rfl rfl (by kernel_rfl) (fun _ _ _ h => h) (Or.inl ⟨by rfl, ?_⟩) ?_ ?_
      rotate_left
      ·intro w'
       go_simp
       with_reducible rfl
      rotate_left
      ·simp only [Act.put, List.setIfInBounds_toArray, List.set_cons_zero, List.set_cons_succ, i64_w, i32_w]
       rfl
      refine done_ (by kernel_rfl) ?_
      try go_wp2
      refine bodyPost_ret (results_list (rs := [.tmp 4, .cell 5 24, .tmp 6]) rfl (by simp) (.tmp (.cell gb205 24 #[.int .i64 t207, .int .i64 t208, .int .i64 t209, .int .i64 t210, .int .i64 t211, .slice Ao45 x216005_7.length co45] (0, 0) _ rfl (kP6 BK205.out) Try.underlying24 rfl (by kernel_rfl) (.tmp .nil)))) rfl ?_
      exact ⟨_, by first | rfl | (simp [errW_none, errW_some] <;> rfl) | (simp [*, errW_none, errW_some] <;> rfl), by (with_reducible repeat (first | apply Kd.R_alloc | apply Kd.R_drewN | apply Kd.R_drew)); exact Kd.R_mono (Kd.R_far (p := ⟨gb205, 5, none⟩) (Kd.R_far (p := ⟨gb205, 4, none⟩) (Kd.R_far (p := ⟨gb205, 3, none⟩) (Kd.R_far (p := ⟨gb205, 2, none⟩) (Kd.R_far (p := ⟨gb205, 1, none⟩) (Kd.R_far (p := ⟨gb205, 0, none⟩) (Kd.R_types HO_216005.out BK205.out (by decide)) (fun _ hk => hk.2) (.int .i64 t207)) (fun _ hk => hk.2) (.int .i64 t208)) (fun _ hk => hk.2) (.int .i64 t209)) (fun _ hk => hk.2) (.int .i64 t210)) (fun _ hk => hk.2) (.int .i64 t211)) (fun _ hk => hk.2) (.slice Ao45 x216005_7.length co45)) (fun _ hk => trivial), kb3 HB.out GE204.out GE205.out GE215.out⟩
     ·rw [if_neg c41] at H
      have c41b0 : decide (0 < (x216005_7.length : Int)) = false := decide_eq_false c41
      have c41b1 : decide (0 < x216005_7.length) = false := decide_eq_false (by omega)
      clear c41
      by_cases c53 : a1_0 = 5
      ·rw [if_pos c53] at H
       have c53b0 : (a1_0 == 5) = true := beq_iff_eq.mpr c53
       have c53b1 : (a1_0 != 5) = false := bne_eq_false_iff_eq.mpr c53
       clear c53
       replace H := Option.bind_eq_some_iff.mp H
       obtain ⟨⟨t230, t231, t232, t233, t234, t235⟩, A540, H⟩ := H
       replace H : (some (x0_7, t230, t231, t232, t233, t234, t235, 0)) = some (r1, r2, r3, r4, r5, r6, r7, r8) := H
       have A54 := Aside0.mk A540
       clear A540
       simp only [Option.some.injEq, Prod.mk.injEq] at H
       obtain ⟨rfl, rfl, rfl, rfl, rfl, rfl, rfl, rfl⟩ := H
       have hnb55 := NB215_204.out
       have hnc55 := NB204_215.out
       have hnb56 := NB215_205.out
       have hnc56 := NB205_215.out
       obtain ⟨hcz57_0, hcz57_1, hcz57_2, hcz57_3, hcz57_4, hcz57_5⟩ := kc6 BK215.out
       obtain ⟨hfz57_0, hfz57_1, hfz57_2, hfz57_3, hfz57_4, hfz57_5⟩ := kf6 BK215.out
       obtain ⟨Ao58, co58, eo58⟩ := Kd.R_slice HO_216005.out
       subst eo58
       have hnb59 := NB204_205.out
       have hnc59 := NB205_204.out
       obtain ⟨hcz60_0, hcz60_1, hcz60_2, hcz60_3, hcz60_4, hcz60_5⟩ := kc6 BK204.out
       obtain ⟨hfz60_0, hfz60_1, hfz60_2, hfz60_3, hfz60_4, hfz60_5⟩ := kf6 BK204.out
       go_wp2_with (first | ((with_reducible refine gate_callee (f := 34) rfl ?_); refine goesL_ (some 49) rfl rfl Try.func34 (by kernel_rfl) rfl #[] rfl ka ?_; (with_reducible refine (skiffref16_NewDevice.calls  t230 t231 t232 t233 t234 t235 _ A54.out).mono ?_); rintro e w61 ⟨v236, rfl, ho0, hb⟩; refine ⟨_, rfl, ?_⟩; have n0_ := Aside0.mk (Kd.R_elder' (kR HO_216005.out) (Kd.R_base ho0) hb); have n1_ := Aside0.mk (Kd.R_lower (Kd.R_new' ho0 (Kd.R_lt (kR HO_216005.out))) (below_size (kb3 HB.out GE204.out GE205.out GE215.out))); have n2_ := Aside0.mk (kL BK204.out hb); have n3_ := Aside0.mk (kL BK205.out hb); have n4_ := Aside0.mk (kL BK215.out hb); have n5_ := Aside0.mk (below_step (kb3 HB.out GE204.out GE205.out GE215.out) hb); clear HO_216005; clear BK204; clear BK205; clear BK215; clear HB; have HO_216005 := n0_; have HO237 := n1_; have BK204 := n2_; have BK205 := n3_; have BK215 := n4_; have HB := n5_; clear n0_ n1_ n2_ n3_ n4_ n5_; (try clear hb); (try clear hb2); (try clear hk); (try clear hi); (try clear ho0); obtain ⟨hcz62_0, hcz62_1, hcz62_2, hcz62_3, hcz62_4, hcz62_5⟩ := kc6 BK205.out; obtain ⟨hfz62_0, hfz62_1, hfz62_2, hfz62_3, hfz62_4, hfz62_5⟩ := kf6 BK205.out; obtain ⟨Ao63, co63, eo63⟩ := Kd.R_slice HO237.out; subst eo63))
       refine bodyPost_ret (results_list (rs := [.tmp 4, .cell 5 24, .tmp 6]) rfl (by simp) (.tmp (.cell gb205 24 #[.int .i64 t230, .int .i64 t231, .int .i64 t232, .int .i64 t233, .int .i64 t234, .slice Ao63 t235.length co63] (0, 0) _ rfl (kP6 BK205.out) Try.underlying24 rfl (by kernel_rfl) (.tmp .nil)))) rfl ?_
       exact ⟨_, by first | rfl | (simp [errW_none, errW_some] <;> rfl) | (simp [*, errW_none, errW_some] <;> rfl), by (with_reducible repeat (first | apply Kd.R_alloc | apply Kd.R_drewN | apply Kd.R_drew)); exact Kd.R_mono (Kd.R_far (p := ⟨gb205, 5, none⟩) (Kd.R_far (p := ⟨gb205, 4, none⟩) (Kd.R_far (p := ⟨gb205, 3, none⟩) (Kd.R_far (p := ⟨gb205, 2, none⟩) (Kd.R_far (p := ⟨gb205, 1, none⟩) (Kd.R_far (p := ⟨gb205, 0, none⟩) (Kd.R_types HO237.out BK205.out (by decide)) (fun _ hk => hk.2) (.int .i64 t230)) (fun _ hk => hk.2) (.int .i64 t231)) (fun _ hk => hk.2) (.int .i64 t232)) (fun _ hk => hk.2) (.int .i64 t233)) (fun _ hk => hk.2) (.int .i64 t234)) (fun _ hk => hk.2) (.slice Ao63 t235.length co63)) (fun _ hk => trivial), kb3 HB.out GE204.out GE205.out GE215.out⟩
      ·rw [if_neg c53] at H
       have c53b0 : (a1_0 == 5) = false := beq_eq_false_iff_ne.mpr c53
       have c53b1 : (a1_0 != 5) = true := bne_iff_ne.mpr c53
       simp only [Option.some.injEq, Prod.mk.injEq] at H
       obtain ⟨rfl, rfl, rfl, rfl, rfl, rfl, rfl, rfl⟩ := H
       have hnb64 := NB215_204.out
       have hnc64 := NB204_215.out
       have hnb65 := NB215_205.out
       have hnc65 := NB205_215.out
       obtain ⟨hcz66_0, hcz66_1, hcz66_2, hcz66_3, hcz66_4, hcz66_5⟩ := kc6 BK215.out
       obtain ⟨hfz66_0, hfz66_1, hfz66_2, hfz66_3, hfz66_4, hfz66_5⟩ := kf6 BK215.out
       obtain ⟨Ao67, co67, eo67⟩ := Kd.R_slice HO_216005.out
       subst eo67
       have hnb68 := NB204_205.out
       have hnc68 := NB205_204.out
       obtain ⟨hcz69_0, hcz69_1, hcz69_2, hcz69_3, hcz69_4, hcz69_5⟩ := kc6 BK204.out
       obtain ⟨hfz69_0, hfz69_1, hfz69_2, hfz69_3, hfz69_4, hfz69_5⟩ := kf6 BK204.out
       try go_wp2
       have n0_ : Aside0 (Kd.R k40 40 (wc.setCell ⟨gb215, 0, none⟩ (.int .i64 1)) w.heap.size (fun _ => True) (.slice Ao67 x216005_7.length co67) x216005_7) := ⟨by (with_reducible repeat (first | apply Kd.R_alloc | apply Kd.R_drewN | apply Kd.R_drew)); exact Kd.R_mono (Kd.R_far (p := ⟨gb215, 0, none⟩) (Kd.R_types HO_216005.out BK215.out (by decide)) (fun _ hk => hk.2) (.int .i64 1)) (fun _ hk => trivial)⟩
       have n1_ : Aside0 ((wc.setCell ⟨gb215, 0, none⟩ (.int .i64 1)).heap[gb204]? = some (.cells #[.int .i64 a1_0, .int .i64 a1_1, .int .i64 a1_2, .int .i64 a1_3, .int .i64 a1_4, .slice A1_5 l1_5.length c1_5] 24 (0, 0))) := ⟨kFa1 BK204.out NB204_215.out⟩
       have n2_ : Aside0 ((wc.setCell ⟨gb215, 0, none⟩ (.int .i64 1)).heap[gb205]? = some (.cells #[.int .i64 0, .int .i64 0, .int .i64 0, .int .i64 0, .int .i64 0, .slice none 0 0] 24 (0, 0))) := ⟨kFa1 BK205.out NB205_215.out⟩
       have n3_ : Aside0 ((wc.setCell ⟨gb215, 0, none⟩ (.int .i64 1)).heap[gb215]? = some (.cells #[.int .i64 1, .int .i64 t208, .int .i64 t209, .int .i64 t210, .int .i64 t211, .slice Ao67 x216005_7.length co67] 24 (0, 0))) := ⟨by (with_reducible repeat (first | refine blk_drewN ?_ _ | refine blk_drew ?_ | refine blk_alloc ?_ _)); refine blk_put (cs := #[.int .i64 t207, .int .i64 t208, .int .i64 t209, .int .i64 t210, .int .i64 t211, .slice Ao67 x216005_7.length co67]) ?_ 0 _ rfl; (with_reducible repeat (first | refine blk_drewN ?_ _ | refine blk_drew ?_ | refine blk_alloc ?_ _)); exact BK215.out⟩
       have n4_ : Aside0 (Below w.heap.size w (wc.setCell ⟨gb215, 0, none⟩ (.int .i64 1))) := ⟨kb3 HB.out GE204.out GE205.out GE215.out⟩
       (try clear HO_216005)
       (try clear BK204)
       (try clear BK205)
       (try clear BK215)
       (try clear HB)
       generalize (wc.setCell ⟨gb215, 0, none⟩ (.int .i64 1)) = w70 at n0_ n1_ n2_ n3_ n4_ ⊢
       have HO_216005 := n0_; have BK204 := n1_; have BK205 := n2_; have BK215 := n3_; have HB := n4_; clear n0_ n1_ n2_ n3_ n4_
       have n0_ := Aside0.mk (Kd.R_drew HO_216005.out)
       have n1_ := Aside0.mk (blk_drew BK204.out)
       have n2_ := Aside0.mk (blk_drew BK205.out)
       have n3_ := Aside0.mk (blk_drew BK215.out)
       have n4_ := Aside0.mk (below_drew1 HB.out)
       clear HO_216005 BK204 BK205 BK215 HB; have HO_216005 := n0_; have BK204 := n1_; have BK205 := n2_; have BK215 := n3_; have HB := n4_; clear n0_ n1_ n2_ n3_ n4_
       refine start_ (n := 5) (S := fun w' => w'.cell? ⟨gb215, 0, none⟩ = some (.int .i64 1) ∧ w'.cell? ⟨gb215, 1, none⟩ = some (.int .i64 t208) ∧ w'.cell? ⟨gb215, 2, none⟩ = some (.int .i64 t209) ∧ w'.cell? ⟨gb215, 3, none⟩ = some (.int .i64 t210) ∧ w'.cell? ⟨gb215, 4, none⟩ = some (.int .i64 t211) ∧ w'.cell? ⟨gb215, 5, none⟩ = some (.slice Ao67 x216005_7.length co67)) (ds := []) #[false, false, false, false, false] (by kernel_rfl) rfl rfl ⟨(blk_cell BK215.out 0).trans rfl, (blk_cell BK215.out 1).trans rfl, (blk_cell BK215.out 2).trans rfl, (blk_cell BK215.out 3).trans rfl, (blk_cell BK215.out 4).trans rfl, (blk_cell BK215.out 5).trans rfl⟩ (fun hHeld => ?_)
       generalize w70.drew = w71 at HO_216005 BK204 BK205 BK215 HB hHeld ⊢
       refine pure_ (i := 0) (N := some 51) (v := ?_) (a' := ?_) #[true, false, false, false, false] rfl rfl (by kernel_rfl) (fun _ _ _ h => h) (Or.inl ⟨by rfl, ?_⟩) ?_ ?_
       rotate_left
       ·intro w'
        go_simp
        with_reducible rfl
       rotate_left
       ·simp only [Act.put, List.setIfInBounds_toArray, List.set_cons_zero, List.set_cons_succ, i64_w, i32_w]
        rfl
       refine pure_ (i := 2) (N := some 4) (v := ?_) (a' := ?_) #[true, false, true, false, false] rfl rfl (by kernel_rfl) (fun _ _ _ h => h) (Or.inl ⟨by rfl, ?_⟩) ?_ ?_
       rotate_left
       ·intro w'
        go_simp
        with_reducible rfl
       rotate_left
       ·simp only [Act.put, List.setIfInBounds_toArray, List.set_cons_zero, List.set_cons_succ, i64_w, i32_w]
        rfl
       refine take_ (i := 1) (N := some 52) (v := ?_) (a' := ?_) #[true, true, true, false, false] rfl rfl (by kernel_rfl) (fun _ _ _ h => h) (Or.inl ⟨by rfl, ?_⟩) hHeld ?_ ?_
       rotate_left
       ·rintro w' ⟨s0, s1, s2, s3, s4, s5⟩
        go_simp
        with_reducible rfl
       rotate_left
       ·simp only [Act.put, List.setIfInBounds_toArray, List.set_cons_zero, List.set_cons_succ, i64_w, i32_w]
        rfl
       refine one_ (i := 3) (N := none) #[true, true, true, true, false] rfl rfl (by kernel_rfl) (by decide) (fun K hK => ?_)
       have hs72 : w71.cell? ⟨gb205, 0, none⟩ = some (.int .i64 0) := (blk_cell BK205.out 0).trans rfl
       have hfs72 := blk_frozen BK205.out 0
       have hns72_0 := NB204_205.out
       have hns72_2 := NB215_205.out
       have hms72_0 := NB205_204.out
       have hms72_2 := NB205_215.out
       have hs73 : w71.cell? ⟨gb205, 1, none⟩ = some (.int .i64 0) := (blk_cell BK205.out 1).trans rfl
       have hfs73 := blk_frozen BK205.out 1
       have hns73_0 := NB204_205.out
       have hns73_2 := NB215_205.out
       have hms73_0 := NB205_204.out
       have hms73_2 := NB205_215.out
       have hs74 : w71.cell? ⟨gb205, 2, none⟩ = some (.int .i64 0) := (blk_cell BK205.out 2).trans rfl
       have hfs74 := blk_frozen BK205.out 2
       have hns74_0 := NB204_205.out
       have hns74_2 := NB215_205.out
       have hms74_0 := NB205_204.out
       have hms74_2 := NB205_215.out
       have hs75 : w71.cell? ⟨gb205, 3, none⟩ = some (.int .i64 0) := (blk_cell BK205.out 3).trans rfl
       have hfs75 := blk_frozen BK205.out 3
       have hns75_0 := NB204_205.out
       have hns75_2 := NB215_205.out
       have hms75_0 := NB205_204.out
       have hms75_2 := NB205_215.out
       have hs76 : w71.cell? ⟨gb205, 4, none⟩ = some (.int .i64 0) := (blk_cell BK205.out 4).trans rfl
       have hfs76 := blk_frozen BK205.out 4
       have hns76_0 := NB204_205.out
       have hns76_2 := NB215_205.out
       have hms76_0 := NB205_204.out
       have hms76_2 := NB205_215.out
       have hs77 : w71.cell? ⟨gb205, 5, none⟩ = some (.slice none 0 0) := (blk_cell BK205.out 5).trans rfl
       have hfs77 := blk_frozen BK205.out 5
       have hns77_0 := NB204_205.out
       have hns77_2 := NB215_205.out
       have hms77_0 := NB205_204.out
       have hms77_2 := NB205_215.out
       refine skip_ (w1 := ?_) (by rfl) rfl ?_ ?_
       rotate_left
       ·go_simp
        rfl
       refine hK.out _ _ ⟨((cell_far (p := ⟨gb205, _, none⟩) NB215_205.out _).trans (((cell_far (p := ⟨gb205, _, none⟩) NB215_205.out _).trans (((cell_far (p := ⟨gb205, _, none⟩) NB215_205.out _).trans (((cell_far (p := ⟨gb205, _, none⟩) NB215_205.out _).trans (((cell_far (p := ⟨gb205, _, none⟩) NB215_205.out _).trans (((cell_far (p := ⟨gb205, _, none⟩) NB215_205.out _).trans (hHeld.1)))))))))))), ((cell_far (p := ⟨gb205, _, none⟩) NB215_205.out _).trans (((cell_far (p := ⟨gb205, _, none⟩) NB215_205.out _).trans (((cell_far (p := ⟨gb205, _, none⟩) NB215_205.out _).trans (((cell_far (p := ⟨gb205, _, none⟩) NB215_205.out _).trans (((cell_far (p := ⟨gb205, _, none⟩) NB215_205.out _).trans (((cell_far (p := ⟨gb205, _, none⟩) NB215_205.out _).trans (hHeld.2.1)))))))))))), ((cell_far (p := ⟨gb205, _, none⟩) NB215_205.out _).trans (((cell_far (p := ⟨gb205, _, none⟩) NB215_205.out _).trans (((cell_far (p := ⟨gb205, _, none⟩) NB215_205.out _).trans (((cell_far (p := ⟨gb205, _, none⟩) NB215_205.out _).trans (((cell_far (p := ⟨gb205, _, none⟩) NB215_205.out _).trans (((cell_far (p := ⟨gb205, _, none⟩) NB215_205.out _).trans (hHeld.2.2.1)))))))))))), ((cell_far (p := ⟨gb205, _, none⟩) NB215_205.out _).trans (((cell_far (p := ⟨gb205, _, none⟩) NB215_205.out _).trans (((cell_far (p := ⟨gb205, _, none⟩) NB215_205.out _).trans (((cell_far (p := ⟨gb205, _, none⟩) NB215_205.out _).trans (((cell_far (p := ⟨gb205, _, none⟩) NB215_205.out _).trans (((cell_far (p := ⟨gb205, _, none⟩) NB215_205.out _).trans (hHeld.2.2.2.1)))))))))))), ((cell_far (p := ⟨gb205, _, none⟩) NB215_205.out _).trans (((cell_far (p := ⟨gb205, _, none⟩) NB215_205.out _).trans (((cell_far (p := ⟨gb205, _, none⟩) NB215_205.out _).trans (((cell_far (p := ⟨gb205, _, none⟩) NB215_205.out _).trans (((cell_far (p := ⟨gb205, _, none⟩) NB215_205.out _).trans (((cell_far (p := ⟨gb205, _, none⟩) NB215_205.out _).trans (hHeld.2.2.2.2.1)))))))))))), ((cell_far (p := ⟨gb205, _, none⟩) NB215_205.out _).trans (((cell_far (p := ⟨gb205, _, none⟩) NB215_205.out _).trans (((cell_far (p := ⟨gb205, _, none⟩) NB215_205.out _).trans (((cell_far (p := ⟨gb205, _, none⟩) NB215_205.out _).trans (((cell_far (p := ⟨gb205, _, none⟩) NB215_205.out _).trans (((cell_far (p := ⟨gb205, _, none⟩) NB215_205.out _).trans (hHeld.2.2.2.2.2))))))))))))⟩ (fun hHeld => ?_)
       clear hK K
       refine pure_ (i := 4) (N := some 6) (v := ?_) (a' := ?_) #[true, true, true, true, true] rfl rfl (by kernel_rfl) (fun _ _ _ h => h) (Or.inl ⟨by rfl, ?_⟩) ?_ ?_
       rotate_left
       ·intro w'
        go_simp
        with_reducible rfl
       rotate_left
       ·simp only [Act.put, List.setIfInBounds_toArray, List.set_cons_zero, List.set_cons_succ, i64_w, i32_w]
        rfl
       refine done_ (by kernel_rfl) ?_
       try go_wp2
       refine bodyPost_ret (results_list (rs := [.tmp 4, .cell 5 24, .tmp 6]) rfl (by simp) (.tmp (.cell gb205 24 #[.int .i64 1, .int .i64 t208, .int .i64 t209, .int .i64 t210, .int .i64 t211, .slice Ao67 x216005_7.length co67] (0, 0) _ rfl (kP6 BK205.out) Try.underlying24 rfl (by kernel_rfl) (.tmp .nil)))) rfl ?_
       exact ⟨_, by first | rfl | (simp [errW_none, errW_some] <;> rfl) | (simp [*, errW_none, errW_some] <;> rfl), by (with_reducible repeat (first | apply Kd.R_alloc | apply Kd.R_drewN | apply Kd.R_drew)); exact Kd.R_mono (Kd.R_far (p := ⟨gb205, 5, none⟩) (Kd.R_far (p := ⟨gb205, 4, none⟩) (Kd.R_far (p := ⟨gb205, 3, none⟩) (Kd.R_far (p := ⟨gb205, 2, none⟩) (Kd.R_far (p := ⟨gb205, 1, none⟩) (Kd.R_far (p := ⟨gb205, 0, none⟩) (Kd.R_types HO_216005.out BK205.out (by decide)) (fun _ hk => hk.2) (.int .i64 1)) (fun _ hk => hk.2) (.int .i64 t208)) (fun _ hk => hk.2) (.int .i64 t209)) (fun _ hk => hk.2) (.int .i64 t210)) (fun _ hk => hk.2) (.int .i64 t211)) (fun _ hk => hk.2) (.slice Ao67 x216005_7.length co67)) (fun _ hk => trivial), kb3 HB.out GE204.out GE205.out GE215.out⟩
  ·replace c7 := Bool.eq_false_iff.mpr c7
   subst c7
   have H1 : (some (a0, t207, t208, t209, t210, t211, t212, 0)) = some (r1, r2, r3, r4, r5, r6, r7, r8) := by rw [if_neg (show ¬ (false = true) by decide)] at H; exact H
   clear H; have H := H1; clear H1
   simp only [Option.some.injEq, Prod.mk.injEq] at H
   obtain ⟨rfl, rfl, rfl, rfl, rfl, rfl, rfl, rfl⟩ := H
   go_enter Try.func11, Try.ntmps11
   try go_wp2_with (first | ((with_reducible refine gate_dst (N := 3) rfl ?_); refine box_event ?hg (N := 3) ?hd (cs := #[.int .i64 a1_0, .int .i64 a1_1, .int .i64 a1_2, .int .i64 a1_3, .int .i64 a1_4, .slice A1_5 l1_5.length c1_5]) (t := 24) ?hr ?_; (case hd => rfl); (case hg => rfl); (case hr => first | (go_simp; done) | (go_simp; rfl)); intro gb204 hg w78 hbox hb; have n0_ := Aside0.mk (below_step (kb HB.out) hb); have n1_ := Aside0.mk (hbox); have n2_ := Aside0.mk ((kz hg (below_size (kb HB.out)) : w.heap.size ≤ gb204)); have n3_ := Aside0.mk ((kz hg (below_size (kb HB.out)) : w.heap.size ≤ gb204)); clear HB; have HB := n0_; have BK204 := n1_; have GW204 := n2_; have GE204 := n3_; clear n0_ n1_ n2_ n3_; clear hb hbox hg) | ((with_reducible refine gate_dst (N := 5) rfl ?_); refine box_event ?hg (N := 5) ?hd (cs := #[.int .i64 0, .int .i64 0, .int .i64 0, .int .i64 0, .int .i64 0, .slice none 0 0]) (t := 24) ?hr ?_; (case hd => rfl); (case hg => rfl); (case hr => first | (go_simp; done) | (go_simp; rfl)); intro gb205 hg w79 hbox hb; have n0_ := Aside0.mk (kL BK204.out hb); have n1_ := Aside0.mk (below_step (kb1 HB.out GE204.out) hb); have n2_ := Aside0.mk (hbox); have n3_ := Aside0.mk ((kz hg (below_size (kb1 HB.out GE204.out)) : w.heap.size ≤ gb205)); have n4_ := Aside0.mk ((kz hg (below_size (kb1 HB.out GE204.out)) : w.heap.size ≤ gb205)); have n5_ := Aside0.mk ((kN hg BK204.out : gb204 ≠ gb205)); have n6_ := Aside0.mk (((kN hg BK204.out).symm : gb205 ≠ gb204)); clear BK204; clear HB; have BK204 := n0_; have HB := n1_; have BK205 := n2_; have GW205 := n3_; have GE205 := n4_; have NB204_205 := n5_; have NB205_204 := n6_; clear n0_ n1_ n2_ n3_ n4_ n5_ n6_; clear hb hbox hg; have hnb80 := NB204_205.out; have hnc80 := NB205_204.out; obtain ⟨hcz81_0, hcz81_1, hcz81_2, hcz81_3, hcz81_4, hcz81_5⟩ := kc6 BK204.out; obtain ⟨hfz81_0, hfz81_1, hfz81_2, hfz81_3, hfz81_4, hfz81_5⟩ := kf6 BK204.out) | ((with_reducible refine gate_callee (f := 31) rfl ?_); refine goesL_ (some 10) rfl rfl Try.func31 (by kernel_rfl) rfl #[.string a0, .agg #[.int .i64 a1_0, .int .i64 a1_1, .int .i64 a1_2, .int .i64 a1_3, .int .i64 a1_4, .slice A1_5 l1_5.length c1_5]] rfl ka ?_; (with_reducible refine (skiffref16_both.calls k a0 a1_0 a1_1 a1_2 a1_3 a1_4 _ _ l1_5 true _ ?side1 ?side2 A3.out).mono ?_); (case side1 => exact kC (Kd.C_below HR1_5.out HB.out)); (case side2 => exact HC1_5.out); rintro e w82 ⟨rfl, hb⟩; refine ⟨_, rfl, ?_⟩; have n0_ := Aside0.mk (kL BK204.out hb); have n1_ := Aside0.mk (kL BK205.out hb); have n2_ := Aside0.mk (below_step (kb2 HB.out GE204.out GE205.out) hb); clear BK204; clear BK205; clear HB; have BK204 := n0_; have BK205 := n1_; have HB := n2_; clear n0_ n1_ n2_; (try clear hb); (try clear hb2); (try clear hk); (try clear hi); obtain ⟨hcz83_0, hcz83_1, hcz83_2, hcz83_3, hcz83_4, hcz83_5⟩ := kc6 BK204.out; obtain ⟨hfz83_0, hfz83_1, hfz83_2, hfz83_3, hfz83_4, hfz83_5⟩ := kf6 BK204.out) | ((with_reducible refine gate_callee (f := 32) rfl ?_); refine goesL_ (some 14) rfl rfl Try.func32 (by kernel_rfl) rfl #[.agg #[.int .i64 a1_0, .int .i64 a1_1, .int .i64 a1_2, .int .i64 a1_3, .int .i64 a1_4, .slice A1_5 l1_5.length c1_5]] rfl ka ?_; (with_reducible refine (skiffref16_copyDevice.calls a1_0 a1_1 a1_2 a1_3 a1_4 _ _ l1_5 t207 t208 t209 t210 t211 t212 _ ?side1 ?side2 A5.out).mono ?_); (case side1 => exact kC (Kd.C_below HR1_5.out HB.out)); (case side2 => exact HC1_5.out); rintro e w84 ⟨v213, rfl, ho0, hb⟩; refine ⟨_, rfl, ?_⟩; have n0_ := Aside0.mk (Kd.R_lower ho0 (below_size (kb2 HB.out GE204.out GE205.out))); have n1_ := Aside0.mk (kL BK204.out hb); have n2_ := Aside0.mk (kL BK205.out hb); have n3_ := Aside0.mk (below_step (kb2 HB.out GE204.out GE205.out) hb); clear BK204; clear BK205; clear HB; have HO214 := n0_; have BK204 := n1_; have BK205 := n2_; have HB := n3_; clear n0_ n1_ n2_ n3_; (try clear hb); (try clear hb2); (try clear hk); (try clear hi); (try clear ho0)) | ((with_reducible refine gate_dst (N := 7) rfl ?_); refine box_event ?hg (N := 7) ?hd (cs := #[.int .i64 0, .int .i64 0, .int .i64 0, .int .i64 0, .int .i64 0, .slice none 0 0]) (t := 24) ?hr ?_; (case hd => rfl); (case hg => rfl); (case hr => first | (go_simp; done) | (go_simp; rfl)); intro gb215 hg w85 hbox hb; have n0_ := Aside0.mk (Kd.R_below (kR HO214.out) hb); have n1_ := Aside0.mk (kL BK204.out hb); have n2_ := Aside0.mk (kL BK205.out hb); have n3_ := Aside0.mk (below_step (kb2 HB.out GE204.out GE205.out) hb); have n4_ := Aside0.mk (hbox); have n5_ := Aside0.mk ((kz hg (below_size (kb2 HB.out GE204.out GE205.out)) : w.heap.size ≤ gb215)); have n6_ := Aside0.mk ((kz hg (below_size (kb2 HB.out GE204.out GE205.out)) : w.heap.size ≤ gb215)); have n7_ := Aside0.mk ((kN hg BK204.out : gb204 ≠ gb215)); have n8_ := Aside0.mk (((kN hg BK204.out).symm : gb215 ≠ gb204)); have n9_ := Aside0.mk ((kN hg BK205.out : gb205 ≠ gb215)); have n10_ := Aside0.mk (((kN hg BK205.out).symm : gb215 ≠ gb205)); clear HO214; clear BK204; clear BK205; clear HB; have HO214 := n0_; have BK204 := n1_; have BK205 := n2_; have HB := n3_; have BK215 := n4_; have GW215 := n5_; have GE215 := n6_; have NB204_215 := n7_; have NB215_204 := n8_; have NB205_215 := n9_; have NB215_205 := n10_; clear n0_ n1_ n2_ n3_ n4_ n5_ n6_ n7_ n8_ n9_ n10_; clear hb hbox hg; have hnb86 := NB215_204.out; have hnc86 := NB204_215.out; have hnb87 := NB215_205.out; have hnc87 := NB205_215.out; obtain ⟨hcz88_0, hcz88_1, hcz88_2, hcz88_3, hcz88_4, hcz88_5⟩ := kc6 BK215.out; obtain ⟨hfz88_0, hfz88_1, hfz88_2, hfz88_3, hfz88_4, hfz88_5⟩ := kf6 BK215.out; obtain ⟨Ao89, co89, eo89⟩ := Kd.R_slice HO214.out; subst eo89; obtain ⟨hcz90_0, hcz90_1, hcz90_2, hcz90_3, hcz90_4, hcz90_5⟩ := kc6 BK204.out; obtain ⟨hfz90_0, hfz90_1, hfz90_2, hfz90_3, hfz90_4, hfz90_5⟩ := kf6 BK204.out) | ((with_reducible refine gate_callee (f := 33) rfl ?_); refine goesL_ (some 16) rfl rfl Try.func33 (by kernel_rfl) rfl #[.agg #[.int .i64 a1_0, .int .i64 a1_1, .int .i64 a1_2, .int .i64 a1_3, .int .i64 a1_4, .slice A1_5 l1_5.length c1_5]] rfl ka ?_; (with_reducible refine (skiffref16_working.calls a1_0 a1_1 a1_2 a1_3 a1_4 _ _ l1_5 false _ ?side1 ?side2 A6.out).mono ?_); (case side1 => exact Kd.C_below HR1_5.out (kb3 HB.out GE204.out GE205.out GE215.out)); (case side2 => exact HC1_5.out); rintro e w91 ⟨rfl, hb⟩; refine ⟨_, rfl, ?_⟩; have n0_ := Aside0.mk (Kd.R_below (by (with_reducible repeat (first | apply Kd.R_alloc | apply Kd.R_drewN | apply Kd.R_drew)); exact (Kd.R_mono (Kd.R_far (p := ⟨gb215, 5, none⟩) (Kd.R_far (p := ⟨gb215, 4, none⟩) (Kd.R_far (p := ⟨gb215, 3, none⟩) (Kd.R_far (p := ⟨gb215, 2, none⟩) (Kd.R_far (p := ⟨gb215, 1, none⟩) (Kd.R_far (p := ⟨gb215, 0, none⟩) (Kd.R_types HO214.out BK215.out (by decide)) (fun _ hk => hk.2) (.int .i64 t207)) (fun _ hk => hk.2) (.int .i64 t208)) (fun _ hk => hk.2) (.int .i64 t209)) (fun _ hk => hk.2) (.int .i64 t210)) (fun _ hk => hk.2) (.int .i64 t211)) (fun _ hk => hk.2) (.slice Ao89 t212.length co89)) (fun _ h_ => h_.1))) hb); have n1_ := Aside0.mk (blk_below (g := gb204) (o := .cells #[.int .i64 a1_0, .int .i64 a1_1, .int .i64 a1_2, .int .i64 a1_3, .int .i64 a1_4, .slice A1_5 l1_5.length c1_5] 24 (0, 0)) (kFa6 BK204.out NB204_215.out) hb); have n2_ := Aside0.mk (blk_below (g := gb205) (o := .cells #[.int .i64 0, .int .i64 0, .int .i64 0, .int .i64 0, .int .i64 0, .slice none 0 0] 24 (0, 0)) (kFa6 BK205.out NB205_215.out) hb); have n3_ := Aside0.mk (blk_below (g := gb215) (o := .cells #[.int .i64 t207, .int .i64 t208, .int .i64 t209, .int .i64 t210, .int .i64 t211, .slice Ao89 t212.length co89] 24 (0, 0)) (kP6 BK215.out) hb); have n4_ := Aside0.mk (below_step (kb3 HB.out GE204.out GE205.out GE215.out) hb); clear HO214; clear BK204; clear BK205; clear BK215; clear HB; have HO214 := n0_; have BK204 := n1_; have BK205 := n2_; have BK215 := n3_; have HB := n4_; clear n0_ n1_ n2_ n3_ n4_; (try clear hb); (try clear hb2); (try clear hk); (try clear hi)))
   have n0_ := Aside0.mk (Kd.R_drew HO214.out)
   have n1_ := Aside0.mk (blk_drew BK204.out)
   have n2_ := Aside0.mk (blk_drew BK205.out)
   have n3_ := Aside0.mk (blk_drew BK215.out)
   have n4_ := Aside0.mk (below_drew1 HB.out)
   clear HO214 BK204 BK205 BK215 HB; have HO214 := n0_; have BK204 := n1_; have BK205 := n2_; have BK215 := n3_; have HB := n4_; clear n0_ n1_ n2_ n3_ n4_
   refine start_ (n := 5) (S := fun w' => w'.cell? ⟨gb215, 0, none⟩ = some (.int .i64 t207) ∧ w'.cell? ⟨gb215, 1, none⟩ = some (.int .i64 t208) ∧ w'.cell? ⟨gb215, 2, none⟩ = some (.int .i64 t209) ∧ w'.cell? ⟨gb215, 3, none⟩ = some (.int .i64 t210) ∧ w'.cell? ⟨gb215, 4, none⟩ = some (.int .i64 t211) ∧ w'.cell? ⟨gb215, 5, none⟩ = some (.slice Ao89 t212.length co89)) (ds := []) #[false, false, false, false, false] (by kernel_rfl) rfl rfl ⟨(blk_cell BK215.out 0).trans rfl, (blk_cell BK215.out 1).trans rfl, (blk_cell BK215.out 2).trans rfl, (blk_cell BK215.out 3).trans rfl, (blk_cell BK215.out 4).trans rfl, (blk_cell BK215.out 5).trans rfl⟩ (fun hHeld => ?_)
   generalize w91.drew = w92 at HO214 BK204 BK205 BK215 HB hHeld ⊢
   refine pure_ (i := 0) (N := some 18) (v := ?_) (a' := ?_) #[true, false, false, false, false] rfl rfl (by kernel_rfl) (fun _ _ _ h => h) (Or.inl ⟨by rfl, ?_⟩) ?_ ?_
   rotate_left
   ·intro w'
    go_simp
    with_reducible rfl
   rotate_left
   ·simp only [Act.put, List.setIfInBounds_toArray, List.set_cons_zero, List.set_cons_succ, i64_w, i32_w]
    rfl
   refine pure_ (i := 2) (N := some 4) (v := ?_) (a' := ?_) #[true, false, true, false, false] rfl rfl (by kernel_rfl) (fun _ _ _ h => h) (Or.inl ⟨by rfl, ?_⟩) ?_ ?_
   rotate_left
   ·intro w'
    go_simp
    with_reducible rfl
   rotate_left
   ·simp only [Act.put, List.setIfInBounds_toArray, List.set_cons_zero, List.set_cons_succ, i64_w, i32_w]
    rfl
   refine take_ (i := 1) (N := some 19) (v := ?_) (a' := ?_) #[true, true, true, false, false] rfl rfl (by kernel_rfl) (fun _ _ _ h => h) (Or.inl ⟨by rfl, ?_⟩) hHeld ?_ ?_
   rotate_left
   ·rintro w' ⟨s0, s1, s2, s3, s4, s5⟩
    go_simp
    with_reducible rfl
   rotate_left
   ·simp only [Act.put, List.setIfInBounds_toArray, List.set_cons_zero, List.set_cons_succ, i64_w, i32_w]
    rfl
   refine one_ (i := 3) (N := none) #[true, true, true, true, false] rfl rfl (by kernel_rfl) (by decide) (fun K hK => ?_)
   have hs93 : w92.cell? ⟨gb205, 0, none⟩ = some (.int .i64 0) := (blk_cell BK205.out 0).trans rfl
   have hfs93 := blk_frozen BK205.out 0
   have hns93_0 := NB204_205.out
   have hns93_2 := NB215_205.out
   have hms93_0 := NB205_204.out
   have hms93_2 := NB205_215.out
   have hs94 : w92.cell? ⟨gb205, 1, none⟩ = some (.int .i64 0) := (blk_cell BK205.out 1).trans rfl
   have hfs94 := blk_frozen BK205.out 1
   have hns94_0 := NB204_205.out
   have hns94_2 := NB215_205.out
   have hms94_0 := NB205_204.out
   have hms94_2 := NB205_215.out
   have hs95 : w92.cell? ⟨gb205, 2, none⟩ = some (.int .i64 0) := (blk_cell BK205.out 2).trans rfl
   have hfs95 := blk_frozen BK205.out 2
   have hns95_0 := NB204_205.out
   have hns95_2 := NB215_205.out
   have hms95_0 := NB205_204.out
   have hms95_2 := NB205_215.out
   have hs96 : w92.cell? ⟨gb205, 3, none⟩ = some (.int .i64 0) := (blk_cell BK205.out 3).trans rfl
   have hfs96 := blk_frozen BK205.out 3
   have hns96_0 := NB204_205.out
   have hns96_2 := NB215_205.out
   have hms96_0 := NB205_204.out
   have hms96_2 := NB205_215.out
   have hs97 : w92.cell? ⟨gb205, 4, none⟩ = some (.int .i64 0) := (blk_cell BK205.out 4).trans rfl
   have hfs97 := blk_frozen BK205.out 4
   have hns97_0 := NB204_205.out
   have hns97_2 := NB215_205.out
   have hms97_0 := NB205_204.out
   have hms97_2 := NB205_215.out
   have hs98 : w92.cell? ⟨gb205, 5, none⟩ = some (.slice none 0 0) := (blk_cell BK205.out 5).trans rfl
   have hfs98 := blk_frozen BK205.out 5
   have hns98_0 := NB204_205.out
   have hns98_2 := NB215_205.out
   have hms98_0 := NB205_204.out
   have hms98_2 := NB205_215.out
   refine skip_ (w1 := ?_) (by rfl) rfl ?_ ?_
   rotate_left
   ·go_simp
    rfl
   refine hK.out _ _ ⟨((cell_far (p := ⟨gb205, _, none⟩) NB215_205.out _).trans (((cell_far (p := ⟨gb205, _, none⟩) NB215_205.out _).trans (((cell_far (p := ⟨gb205, _, none⟩) NB215_205.out _).trans (((cell_far (p := ⟨gb205, _, none⟩) NB215_205.out _).trans (((cell_far (p := ⟨gb205, _, none⟩) NB215_205.out _).trans (((cell_far (p := ⟨gb205, _, none⟩) NB215_205.out _).trans (hHeld.1)))))))))))), ((cell_far (p := ⟨gb205, _, none⟩) NB215_205.out _).trans (((cell_far (p := ⟨gb205, _, none⟩) NB215_205.out _).trans (((cell_far (p := ⟨gb205, _, none⟩) NB215_205.out _).trans (((cell_far (p := ⟨gb205, _, none⟩) NB215_205.out _).trans (((cell_far (p := ⟨gb205, _, none⟩) NB215_205.out _).trans (((cell_far (p := ⟨gb205, _, none⟩) NB215_205.out _).trans (hHeld.2.1)))))))))))), ((cell_far (p := ⟨gb205, _, none⟩) NB215_205.out _).trans (((cell_far (p := ⟨gb205, _, none⟩) NB215_205.out _).trans (((cell_far (p := ⟨gb205, _, none⟩) NB215_205.out _).trans (((cell_far (p := ⟨gb205, _, none⟩) NB215_205.out _).trans (((cell_far (p := ⟨gb205, _, none⟩) NB215_205.out _).trans (((cell_far (p := ⟨gb205, _, none⟩) NB215_205.out _).trans (hHeld.2.2.1)))))))))))), ((cell_far (p := ⟨gb205, _, none⟩) NB215_205.out _).trans (((cell_far (p := ⟨gb205, _, none⟩) NB215_205.out _).trans (((cell_far (p := ⟨gb205, _, none⟩) NB215_205.out _).trans (((cell_far (p := ⟨gb205, _, none⟩) NB215_205.out _).trans (((cell_far (p := ⟨gb205, _, none⟩) NB215_205.out _).trans (((cell_far (p := ⟨gb205, _, none⟩) NB215_205.out _).trans (hHeld.2.2.2.1)))))))))))), ((cell_far (p := ⟨gb205, _, none⟩) NB215_205.out _).trans (((cell_far (p := ⟨gb205, _, none⟩) NB215_205.out _).trans (((cell_far (p := ⟨gb205, _, none⟩) NB215_205.out _).trans (((cell_far (p := ⟨gb205, _, none⟩) NB215_205.out _).trans (((cell_far (p := ⟨gb205, _, none⟩) NB215_205.out _).trans (((cell_far (p := ⟨gb205, _, none⟩) NB215_205.out _).trans (hHeld.2.2.2.2.1)))))))))))), ((cell_far (p := ⟨gb205, _, none⟩) NB215_205.out _).trans (((cell_far (p := ⟨gb205, _, none⟩) NB215_205.out _).trans (((cell_far (p := ⟨gb205, _, none⟩) NB215_205.out _).trans (((cell_far (p := ⟨gb205, _, none⟩) NB215_205.out _).trans (((cell_far (p := ⟨gb205, _, none⟩) NB215_205.out _).trans (((cell_far (p := ⟨gb205, _, none⟩) NB215_205.out _).trans (hHeld.2.2.2.2.2))))))))))))⟩ (fun hHeld => ?_)
   clear hK K
   refine pure_ (i := 4) (N := some 6) (v := ?_) (a' := ?_) #[true, true, true, true, true] rfl rfl (by kernel_rfl) (fun _ _ _ h => h) (Or.inl ⟨by rfl, ?_⟩) ?_ ?_
   rotate_left
   ·intro w'
    go_simp
    with_reducible rfl
   rotate_left
   ·simp only [Act.put, List.setIfInBounds_toArray, List.set_cons_zero, List.set_cons_succ, i64_w, i32_w]
    rfl
   refine done_ (by kernel_rfl) ?_
   try go_wp2
   refine bodyPost_ret (results_list (rs := [.tmp 4, .cell 5 24, .tmp 6]) rfl (by simp) (.tmp (.cell gb205 24 #[.int .i64 t207, .int .i64 t208, .int .i64 t209, .int .i64 t210, .int .i64 t211, .slice Ao89 t212.length co89] (0, 0) _ rfl (kP6 BK205.out) Try.underlying24 rfl (by kernel_rfl) (.tmp .nil)))) rfl ?_
   exact ⟨_, by first | rfl | (simp [errW_none, errW_some] <;> rfl) | (simp [*, errW_none, errW_some] <;> rfl), by (with_reducible repeat (first | apply Kd.R_alloc | apply Kd.R_drewN | apply Kd.R_drew)); exact Kd.R_mono (Kd.R_far (p := ⟨gb205, 5, none⟩) (Kd.R_far (p := ⟨gb205, 4, none⟩) (Kd.R_far (p := ⟨gb205, 3, none⟩) (Kd.R_far (p := ⟨gb205, 2, none⟩) (Kd.R_far (p := ⟨gb205, 1, none⟩) (Kd.R_far (p := ⟨gb205, 0, none⟩) (Kd.R_types HO214.out BK205.out (by decide)) (fun _ hk => hk.2) (.int .i64 t207)) (fun _ hk => hk.2) (.int .i64 t208)) (fun _ hk => hk.2) (.int .i64 t209)) (fun _ hk => hk.2) (.int .i64 t210)) (fun _ hk => hk.2) (.int .i64 t211)) (fun _ hk => hk.2) (.slice Ao89 t212.length co89)) (fun _ hk => trivial), kb3 HB.out GE204.out GE205.out GE215.out⟩
 ·replace c4 := Bool.eq_false_iff.mpr c4
  subst c4
  have H1 : (some ((⟨#[]⟩ : ByteArray), 0, 0, 0, 0, 0, ([] : List (S40)), 1800)) = some (r1, r2, r3, r4, r5, r6, r7, r8) := by rw [if_neg (show ¬ (false = true) by decide)] at H; exact H
  clear H; have H := H1; clear H1
  simp only [Option.some.injEq, Prod.mk.injEq] at H
  obtain ⟨rfl, rfl, rfl, rfl, rfl, rfl, rfl, rfl⟩ := H
  go_enter Try.func11, Try.ntmps11
  go_wp2_with (first | ((with_reducible refine gate_dst (N := 3) rfl ?_); refine box_event ?hg (N := 3) ?hd (cs := #[.int .i64 a1_0, .int .i64 a1_1, .int .i64 a1_2, .int .i64 a1_3, .int .i64 a1_4, .slice A1_5 l1_5.length c1_5]) (t := 24) ?hr ?_; (case hd => rfl); (case hg => rfl); (case hr => first | (go_simp; done) | (go_simp; rfl)); intro gb204 hg w99 hbox hb; have n0_ := Aside0.mk (below_step (kb HB.out) hb); have n1_ := Aside0.mk (hbox); have n2_ := Aside0.mk ((kz hg (below_size (kb HB.out)) : w.heap.size ≤ gb204)); have n3_ := Aside0.mk ((kz hg (below_size (kb HB.out)) : w.heap.size ≤ gb204)); clear HB; have HB := n0_; have BK204 := n1_; have GW204 := n2_; have GE204 := n3_; clear n0_ n1_ n2_ n3_; clear hb hbox hg) | ((with_reducible refine gate_dst (N := 5) rfl ?_); refine box_event ?hg (N := 5) ?hd (cs := #[.int .i64 0, .int .i64 0, .int .i64 0, .int .i64 0, .int .i64 0, .slice none 0 0]) (t := 24) ?hr ?_; (case hd => rfl); (case hg => rfl); (case hr => first | (go_simp; done) | (go_simp; rfl)); intro gb205 hg w100 hbox hb; have n0_ := Aside0.mk (kL BK204.out hb); have n1_ := Aside0.mk (below_step (kb1 HB.out GE204.out) hb); have n2_ := Aside0.mk (hbox); have n3_ := Aside0.mk ((kz hg (below_size (kb1 HB.out GE204.out)) : w.heap.size ≤ gb205)); have n4_ := Aside0.mk ((kz hg (below_size (kb1 HB.out GE204.out)) : w.heap.size ≤ gb205)); have n5_ := Aside0.mk ((kN hg BK204.out : gb204 ≠ gb205)); have n6_ := Aside0.mk (((kN hg BK204.out).symm : gb205 ≠ gb204)); clear BK204; clear HB; have BK204 := n0_; have HB := n1_; have BK205 := n2_; have GW205 := n3_; have GE205 := n4_; have NB204_205 := n5_; have NB205_204 := n6_; clear n0_ n1_ n2_ n3_ n4_ n5_ n6_; clear hb hbox hg; have hnb101 := NB204_205.out; have hnc101 := NB205_204.out; obtain ⟨hcz102_0, hcz102_1, hcz102_2, hcz102_3, hcz102_4, hcz102_5⟩ := kc6 BK204.out; obtain ⟨hfz102_0, hfz102_1, hfz102_2, hfz102_3, hfz102_4, hfz102_5⟩ := kf6 BK204.out) | ((with_reducible refine gate_callee (f := 31) rfl ?_); refine goesL_ (some 10) rfl rfl Try.func31 (by kernel_rfl) rfl #[.string a0, .agg #[.int .i64 a1_0, .int .i64 a1_1, .int .i64 a1_2, .int .i64 a1_3, .int .i64 a1_4, .slice A1_5 l1_5.length c1_5]] rfl ka ?_; (with_reducible refine (skiffref16_both.calls k a0 a1_0 a1_1 a1_2 a1_3 a1_4 _ _ l1_5 false _ ?side1 ?side2 A3.out).mono ?_); (case side1 => exact kC (Kd.C_below HR1_5.out HB.out)); (case side2 => exact HC1_5.out); rintro e w103 ⟨rfl, hb⟩; refine ⟨_, rfl, ?_⟩; have n0_ := Aside0.mk (kL BK204.out hb); have n1_ := Aside0.mk (kL BK205.out hb); have n2_ := Aside0.mk (below_step (kb2 HB.out GE204.out GE205.out) hb); clear BK204; clear BK205; clear HB; have BK204 := n0_; have BK205 := n1_; have HB := n2_; clear n0_ n1_ n2_; (try clear hb); (try clear hb2); (try clear hk); (try clear hi); obtain ⟨hcz104_0, hcz104_1, hcz104_2, hcz104_3, hcz104_4, hcz104_5⟩ := kc6 BK205.out; obtain ⟨hfz104_0, hfz104_1, hfz104_2, hfz104_3, hfz104_4, hfz104_5⟩ := kf6 BK205.out))
  refine bodyPost_ret (results_list (rs := [.tmp 4, .cell 5 24, .tmp 6]) rfl (by simp) (.tmp (.cell gb205 24 #[.int .i64 0, .int .i64 0, .int .i64 0, .int .i64 0, .int .i64 0, .slice none 0 0] (0, 0) _ rfl (kP6 BK205.out) Try.underlying24 rfl (by kernel_rfl) (.tmp .nil)))) rfl ?_
  exact ⟨_, by first | rfl | (simp [errW_none, errW_some] <;> rfl) | (simp [*, errW_none, errW_some] <;> rfl), by first | exact Kd.R_nil _ _ _ _ _ | exact Kd.N_nil _ _ _ _ _ | exact Kd.V_nil _ _ _ _ _ | exact Kd.Q_nil _ _ _ _ _ | exact Kd.S_nil _ _ _ _ _, kb2 HB.out GE204.out GE205.out⟩

/-! ### tick_Cut: function 12 -/
mutual
def tick_Cut.j0 : Nat → ByteArray → Int → Bool → Int → Int → Int → Int → Int → List (S40) → Option (ByteArray × Int × Int × Int × Int × Int × (List (S40)) × Int)
 | 0, _, _, _, _, _, _, _, _, _ => none
 | k + 1, x0, x2, x24, x239000, x239001, x239002, x239003, x239004, x239005 => if x24 = true then (some ((⟨#[]⟩ : ByteArray), 0, 0, 0, 0, 0, ([] : List (S40)), 1800)) else ((tick_Works.f x239000 x239001 x239002 x239003 x239004 x239005).bind fun t242 => (if t242 = true then (tick_Cut.j1 k x0 x2 (decide ((x239005.length : Int) > 0)) x239000 x239001 x239002 x239003 x239004 x239005) else (tick_Cut.j1 k x0 x2 false x239000 x239001 x239002 x239003 x239004 x239005)))
def tick_Cut.j1 : Nat → ByteArray → Int → Bool → Int → Int → Int → Int → Int → List (S40) → Option (ByteArray × Int × Int × Int × Int × Int × (List (S40)) × Int)
 | 0, _, _, _, _, _, _, _, _, _ => none
 | k + 1, x0, x2, x32, x239000, x239001, x239002, x239003, x239004, x239005 => if x32 = true then (if 0 < (x239005.length : Int) then ((ops_Cut.f k x0 ((rd_T40 x239005 0).f0) ((rd_T40 x239005 0).f1) ((rd_T40 x239005 0).f2) x2).bind fun bt244 => ((device_New.f).bind fun bt246 => (some (bt244.1, bt246.1, bt246.2.1, bt246.2.2.1, bt246.2.2.2.1, bt246.2.2.2.2.1, bt246.2.2.2.2.2, 0)))) else (none)) else ((device_New.f).bind fun bt254 => (some (x0, bt254.1, bt254.2.1, bt254.2.2.1, bt254.2.2.2.1, bt254.2.2.2.2.1, bt254.2.2.2.2.2, 0)))
end
def tick_Cut.f (k : Nat) (a0 : ByteArray) (a1_0 : Int) (a1_1 : Int) (a1_2 : Int) (a1_3 : Int) (a1_4 : Int) (l1_5 : List (S40)) (a2 : Int) : Option (ByteArray × Int × Int × Int × Int × Int × (List (S40)) × Int) := (nor_May.f a0).bind fun t240 => (if t240 = true then ((device_May.f a1_0 a1_1 a1_2 a1_3 a1_4 l1_5).bind fun t241 => (if t241 = true then (if a2 < 0 then (tick_Cut.j0 k a0 a2 true a1_0 a1_1 a1_2 a1_3 a1_4 l1_5) else (tick_Cut.j0 k a0 a2 (decide (a2 > 96)) a1_0 a1_1 a1_2 a1_3 a1_4 l1_5)) else (tick_Cut.j0 k a0 a2 true a1_0 a1_1 a1_2 a1_3 a1_4 l1_5))) else (tick_Cut.j0 k a0 a2 true a1_0 a1_1 a1_2 a1_3 a1_4 l1_5))
theorem tick_Cut.mono_l : ∀ k, (∀ y0 y1 y2 y3 y4 y5 y6 y7 y8, LeO (tick_Cut.j0 k y0 y1 y2 y3 y4 y5 y6 y7 y8) (tick_Cut.j0 (k + 1) y0 y1 y2 y3 y4 y5 y6 y7 y8)) ∧ (∀ y0 y1 y2 y3 y4 y5 y6 y7 y8, LeO (tick_Cut.j1 k y0 y1 y2 y3 y4 y5 y6 y7 y8) (tick_Cut.j1 (k + 1) y0 y1 y2 y3 y4 y5 y6 y7 y8))
 | 0 => ⟨fun _ _ _ _ _ _ _ _ _ r h => by simp [tick_Cut.j0] at h, fun _ _ _ _ _ _ _ _ _ r h => by simp [tick_Cut.j1] at h⟩
 | k + 1 => by
  obtain ⟨ih0, ih1⟩ := tick_Cut.mono_l k
  refine ⟨?_, ?_⟩
  ·intro y0 y1 y2 y3 y4 y5 y6 y7 y8
   unfold tick_Cut.j0
   repeat' first
   | (with_reducible exact ih0 _ _ _ _ _ _ _ _ _)
   | (with_reducible exact ih1 _ _ _ _ _ _ _ _ _)
   | (with_reducible exact ops_Cut.mono _ _ _ _ _ _)
   | (with_reducible exact LeO.refl _)
   | (with_reducible exact LeO.none _)
   | (with_reducible refine LeO.ite ?_ ?_)
   | (with_reducible refine LeO.bind ?_ (fun _ => ?_))
   | exact ih0 _ _ _ _ _ _ _ _ _
   | exact ih1 _ _ _ _ _ _ _ _ _
   | exact ops_Cut.mono _ _ _ _ _ _
   | exact LeO.none _
   | refine LeO.ite ?_ ?_
   | refine LeO.bind ?_ (fun _ => ?_)
  ·intro y0 y1 y2 y3 y4 y5 y6 y7 y8
   unfold tick_Cut.j1
   repeat' first
   | (with_reducible exact ih0 _ _ _ _ _ _ _ _ _)
   | (with_reducible exact ih1 _ _ _ _ _ _ _ _ _)
   | (with_reducible exact ops_Cut.mono _ _ _ _ _ _)
   | (with_reducible exact LeO.refl _)
   | (with_reducible exact LeO.none _)
   | (with_reducible refine LeO.ite ?_ ?_)
   | (with_reducible refine LeO.bind ?_ (fun _ => ?_))
   | exact ih0 _ _ _ _ _ _ _ _ _
   | exact ih1 _ _ _ _ _ _ _ _ _
   | exact ops_Cut.mono _ _ _ _ _ _
   | exact LeO.none _
   | refine LeO.ite ?_ ?_
   | refine LeO.bind ?_ (fun _ => ?_)
theorem tick_Cut.mono : ∀ a0 a1 a2 a3 a4 a5 a6 a7 k, LeO (tick_Cut.f k a0 a1 a2 a3 a4 a5 a6 a7) (tick_Cut.f (k + 1) a0 a1 a2 a3 a4 a5 a6 a7) := by
 intro a0 a1 a2 a3 a4 a5 a6 a7 k
 obtain ⟨ih0, ih1⟩ := tick_Cut.mono_l k
 unfold tick_Cut.f
 repeat' first
   | (with_reducible exact ih0 _ _ _ _ _ _ _ _ _)
   | (with_reducible exact ih1 _ _ _ _ _ _ _ _ _)
   | (with_reducible exact ops_Cut.mono _ _ _ _ _ _)
   | (with_reducible exact LeO.refl _)
   | (with_reducible exact LeO.none _)
   | (with_reducible refine LeO.ite ?_ ?_)
   | (with_reducible refine LeO.bind ?_ (fun _ => ?_))
   | exact ih0 _ _ _ _ _ _ _ _ _
   | exact ih1 _ _ _ _ _ _ _ _ _
   | exact ops_Cut.mono _ _ _ _ _ _
   | exact LeO.none _
   | refine LeO.ite ?_ ?_
   | refine LeO.bind ?_ (fun _ => ?_)
set_option maxHeartbeats 8000000 in
set_option maxRecDepth 100000 in
theorem tick_Cut.calls (k : Nat) (a0 : ByteArray) (a1_0 : Int) (a1_1 : Int) (a1_2 : Int) (a1_3 : Int) (a1_4 : Int) (A1_5 : Option Addr) (c1_5 : Nat) (l1_5 : List (S40)) (a2 : Int) (r1 : ByteArray) (r2 : Int) (r3 : Int) (r4 : Int) (r5 : Int) (r6 : Int) (r7 : List (S40)) (r8 : Int) (w : World) (hr1_5 : Kd.C k40 w A1_5 l1_5.length l1_5) (hc1_5 : l1_5.length ≤ c1_5) (h : tick_Cut.f k a0 a1_0 a1_1 a1_2 a1_3 a1_4 l1_5 a2 = some (r1, r2, r3, r4, r5, r6, r7, r8)) :
  Calls Try.prog 12 #[.string a0, .agg #[.int .i64 a1_0, .int .i64 a1_1, .int .i64 a1_2, .int .i64 a1_3, .int .i64 a1_4, .slice A1_5 l1_5.length c1_5], .int .i64 a2] w fun e w' => ∃ v6_ : Value, e = .returned (.tuple #[.string r1, .agg #[.int .i64 r2, .int .i64 r3, .int .i64 r4, .int .i64 r5, .int .i64 r6, v6_], .int .i64 r8]) ∧ Kd.R k40 40 w' w.heap.size (fun _ => True) v6_ r7 ∧ Below w.heap.size w w' := by
 have hu24 := Try.underlying24
 have hu40 := Try.underlying40
 have HR1_5 := Aside0.mk hr1_5
 have HC1_5 := Aside0.mk hc1_5
 clear hr1_5 hc1_5
 have HB := Aside0.mk (Below.refl w.heap.size w)
 have H : ((nor_May.f a0).bind fun t240 => (if t240 = true then ((device_May.f a1_0 a1_1 a1_2 a1_3 a1_4 l1_5).bind fun t241 => (if t241 = true then (if a2 < 0 then (tick_Cut.j0 k a0 a2 true a1_0 a1_1 a1_2 a1_3 a1_4 l1_5) else (tick_Cut.j0 k a0 a2 (decide (a2 > 96)) a1_0 a1_1 a1_2 a1_3 a1_4 l1_5)) else (tick_Cut.j0 k a0 a2 true a1_0 a1_1 a1_2 a1_3 a1_4 l1_5))) else (tick_Cut.j0 k a0 a2 true a1_0 a1_1 a1_2 a1_3 a1_4 l1_5))) = some (r1, r2, r3, r4, r5, r6, r7, r8) := h
 clear h
 have HC4 := Aside0.mk H
 clear H
 go_enter Try.func12, Try.ntmps12
 go_upto_region 1 with (first | ((with_reducible refine gate_dst (N := 4) rfl ?_); (try (refine gate_guard (by rfl) ?_; dsimp only)); refine box_event ?hg (N := 4) ?hd (cs := #[.int .i64 a1_0, .int .i64 a1_1, .int .i64 a1_2, .int .i64 a1_3, .int .i64 a1_4, .slice A1_5 l1_5.length c1_5]) (t := 24) ?hr ?_; (case hd => rfl); (case hg => rfl); (case hr => first | (go_simp; done) | (go_simp; rfl)); intro gb238 hg w5 hbox hb; have n0_ := Aside0.mk (below_step (kb HB.out) hb); have n1_ := Aside0.mk (hbox); have n2_ := Aside0.mk ((kz hg (below_size (kb HB.out)) : w.heap.size ≤ gb238)); have n3_ := Aside0.mk ((kz hg (below_size (kb HB.out)) : w.heap.size ≤ gb238)); clear HB; have HB := n0_; have BK238 := n1_; have GW238 := n2_; have GE238 := n3_; clear n0_ n1_ n2_ n3_; clear hb hbox hg) | ((with_reducible refine gate_dst (N := 7) rfl ?_); (try (refine gate_guard (by rfl) ?_; dsimp only)); refine box_event ?hg (N := 7) ?hd (cs := #[.int .i64 0, .int .i64 0, .int .i64 0, .int .i64 0, .int .i64 0, .slice none 0 0]) (t := 24) ?hr ?_; (case hd => rfl); (case hg => rfl); (case hr => first | (go_simp; done) | (go_simp; rfl)); intro gb239 hg w6 hbox hb; have n0_ := Aside0.mk (kL BK238.out hb); have n1_ := Aside0.mk (below_step (kb1 HB.out GE238.out) hb); have n2_ := Aside0.mk (hbox); have n3_ := Aside0.mk ((kz hg (below_size (kb1 HB.out GE238.out)) : w.heap.size ≤ gb239)); have n4_ := Aside0.mk ((kz hg (below_size (kb1 HB.out GE238.out)) : w.heap.size ≤ gb239)); have n5_ := Aside0.mk ((kN hg BK238.out : gb238 ≠ gb239)); have n6_ := Aside0.mk (((kN hg BK238.out).symm : gb239 ≠ gb238)); clear BK238; clear HB; have BK238 := n0_; have HB := n1_; have BK239 := n2_; have GW239 := n3_; have GE239 := n4_; have NB238_239 := n5_; have NB239_238 := n6_; clear n0_ n1_ n2_ n3_ n4_ n5_ n6_; clear hb hbox hg))
 (try simp only [Act.put, List.setIfInBounds_toArray, List.set_cons_zero, List.set_cons_succ])
 go_cut [24] (fun v24 wc => ∃ (kq : Nat) (x24_3 : Bool), v24 = .bool x24_3 ∧ Aside0 (tick_Cut.j0 kq a0 a2 x24_3 a1_0 a1_1 a1_2 a1_3 a1_4 l1_5 = some (r1, r2, r3, r4, r5, r6, r7, r8)) ∧ Aside0 (kq ≤ k) ∧ Aside0 (wc.heap[gb238]? = some (.cells #[.int .i64 a1_0, .int .i64 a1_1, .int .i64 a1_2, .int .i64 a1_3, .int .i64 a1_4, (.slice A1_5 l1_5.length c1_5)] 24 (0, 0))) ∧ Aside0 (wc.heap[gb239]? = some (.cells #[.int .i64 0, .int .i64 0, .int .i64 0, .int .i64 0, .int .i64 0, (.slice none 0 0)] 24 (0, 0))) ∧ Aside0 (Below w.heap.size w wc))
 case first =>
  have H := HC4.out
  clear HC4
  replace H := Option.bind_eq_some_iff.mp H
  obtain ⟨t240, A70, H⟩ := H
  replace H : (if t240 = true then ((device_May.f a1_0 a1_1 a1_2 a1_3 a1_4 l1_5).bind fun t241 => (if t241 = true then (if a2 < 0 then (tick_Cut.j0 k a0 a2 true a1_0 a1_1 a1_2 a1_3 a1_4 l1_5) else (tick_Cut.j0 k a0 a2 (decide (a2 > 96)) a1_0 a1_1 a1_2 a1_3 a1_4 l1_5)) else (tick_Cut.j0 k a0 a2 true a1_0 a1_1 a1_2 a1_3 a1_4 l1_5))) else (tick_Cut.j0 k a0 a2 true a1_0 a1_1 a1_2 a1_3 a1_4 l1_5)) = some (r1, r2, r3, r4, r5, r6, r7, r8) := H
  have A7 := Aside0.mk A70
  clear A70
  by_cases c8 : t240 = true
  case neg =>
   replace c8 := Bool.eq_false_iff.mpr c8
   subst c8
   have H1 : (tick_Cut.j0 k a0 a2 true a1_0 a1_1 a1_2 a1_3 a1_4 l1_5) = some (r1, r2, r3, r4, r5, r6, r7, r8) := by rw [if_neg (show ¬ (false = true) by decide)] at H; exact H
   clear H; have H := H1; clear H1
   have H' := Aside0.mk H
   clear H
   go_wp2_with (first | ((with_reducible refine gate_callee (f := 25) rfl ?_); refine goesL_ (some 10) rfl rfl Try.func25 (by kernel_rfl) rfl #[.string a0] rfl ka ?_; (with_reducible refine (nor_May.calls a0 false _ A7.out).mono ?_); rintro e w' ⟨rfl, ⟨nd, rfl⟩⟩; refine ⟨_, rfl, ?_⟩))
   go_meet
   case rel => exact ⟨_, (true), (by first | rfl | (simp; done) | (simp [*]; done)), H', ⟨by first | omega | exact Nat.le_refl _⟩, ⟨kB BK238.out⟩, ⟨kB BK239.out⟩, ⟨kb2 HB.out GE238.out GE239.out⟩⟩
  subst c8
  have H1 : ((device_May.f a1_0 a1_1 a1_2 a1_3 a1_4 l1_5).bind fun t241 => (if t241 = true then (if a2 < 0 then (tick_Cut.j0 k a0 a2 true a1_0 a1_1 a1_2 a1_3 a1_4 l1_5) else (tick_Cut.j0 k a0 a2 (decide (a2 > 96)) a1_0 a1_1 a1_2 a1_3 a1_4 l1_5)) else (tick_Cut.j0 k a0 a2 true a1_0 a1_1 a1_2 a1_3 a1_4 l1_5))) = some (r1, r2, r3, r4, r5, r6, r7, r8) := by rw [if_pos rfl] at H; exact H
  clear H; have H := H1; clear H1
  replace H := Option.bind_eq_some_iff.mp H
  obtain ⟨t241, A90, H⟩ := H
  replace H : (if t241 = true then (if a2 < 0 then (tick_Cut.j0 k a0 a2 true a1_0 a1_1 a1_2 a1_3 a1_4 l1_5) else (tick_Cut.j0 k a0 a2 (decide (a2 > 96)) a1_0 a1_1 a1_2 a1_3 a1_4 l1_5)) else (tick_Cut.j0 k a0 a2 true a1_0 a1_1 a1_2 a1_3 a1_4 l1_5)) = some (r1, r2, r3, r4, r5, r6, r7, r8) := H
  have A9 := Aside0.mk A90
  clear A90
  by_cases c10 : t241 = true
  case neg =>
   replace c10 := Bool.eq_false_iff.mpr c10
   subst c10
   have H1 : (tick_Cut.j0 k a0 a2 true a1_0 a1_1 a1_2 a1_3 a1_4 l1_5) = some (r1, r2, r3, r4, r5, r6, r7, r8) := by rw [if_neg (show ¬ (false = true) by decide)] at H; exact H
   clear H; have H := H1; clear H1
   have H' := Aside0.mk H
   clear H
   go_wp2_with (first | ((with_reducible refine gate_callee (f := 25) rfl ?_); refine goesL_ (some 10) rfl rfl Try.func25 (by kernel_rfl) rfl #[.string a0] rfl ka ?_; (with_reducible refine (nor_May.calls a0 true _ A7.out).mono ?_); rintro e w' ⟨rfl, ⟨nd, rfl⟩⟩; refine ⟨_, rfl, ?_⟩; have hnb18 := NB238_239.out; have hnc18 := NB239_238.out; obtain ⟨hcz19_0, hcz19_1, hcz19_2, hcz19_3, hcz19_4, hcz19_5⟩ := kc6 BK238.out; obtain ⟨hfz19_0, hfz19_1, hfz19_2, hfz19_3, hfz19_4, hfz19_5⟩ := kf6 BK238.out) | (go_at_call 26; (with_reducible refine (device_May.calls a1_0 a1_1 a1_2 a1_3 a1_4 _ _ l1_5 false _ ?side1 ?side2 A9.out).mono ?_); (case side1 => repeat (first | exact (Kd.C_below HR1_5.out (kb2 HB.out GE238.out GE239.out)) | (with_reducible refine Kd.C_alloc ?_ _) | (with_reducible refine Kd.C_drewN ?_ _) | (with_reducible refine Kd.C_drew ?_))); (case side2 => exact HC1_5.out); rintro e w20 ⟨rfl, hb⟩; have n0_ := Aside0.mk (kL BK238.out hb); have n1_ := Aside0.mk (kL BK239.out hb); have n2_ := Aside0.mk (below_step (kb2 HB.out GE238.out GE239.out) hb); clear BK238; clear BK239; clear HB; have BK238 := n0_; have BK239 := n1_; have HB := n2_; clear n0_ n1_ n2_; (try clear hb); (try clear hb2); (try clear hk); (try clear hi)))
   go_meet
   case rel => exact ⟨_, (true), (by first | rfl | (simp; done) | (simp [*]; done)), H', ⟨by first | omega | exact Nat.le_refl _⟩, ⟨kB BK238.out⟩, ⟨kB BK239.out⟩, ⟨kb2 HB.out GE238.out GE239.out⟩⟩
  subst c10
  have H1 : (if a2 < 0 then (tick_Cut.j0 k a0 a2 true a1_0 a1_1 a1_2 a1_3 a1_4 l1_5) else (tick_Cut.j0 k a0 a2 (decide (a2 > 96)) a1_0 a1_1 a1_2 a1_3 a1_4 l1_5)) = some (r1, r2, r3, r4, r5, r6, r7, r8) := by rw [if_pos rfl] at H; exact H
  clear H; have H := H1; clear H1
  by_cases c11 : a2 < 0
  case neg =>
   rw [if_neg c11] at H
   have c11b0 : decide (a2 < 0) = false := decide_eq_false c11
   clear c11
   (first | rw [c11b0] | rw [c11b1] | (simp only [i64_w, i32_w]; rw [c11b0]) | skip)
   have H' := Aside0.mk H
   clear H
   go_wp2_with (first | ((with_reducible refine gate_callee (f := 25) rfl ?_); refine goesL_ (some 10) rfl rfl Try.func25 (by kernel_rfl) rfl #[.string a0] rfl ka ?_; (with_reducible refine (nor_May.calls a0 true _ A7.out).mono ?_); rintro e w' ⟨rfl, ⟨nd, rfl⟩⟩; refine ⟨_, rfl, ?_⟩; have hnb15 := NB238_239.out; have hnc15 := NB239_238.out; obtain ⟨hcz16_0, hcz16_1, hcz16_2, hcz16_3, hcz16_4, hcz16_5⟩ := kc6 BK238.out; obtain ⟨hfz16_0, hfz16_1, hfz16_2, hfz16_3, hfz16_4, hfz16_5⟩ := kf6 BK238.out) | (go_at_call 26; (with_reducible refine (device_May.calls a1_0 a1_1 a1_2 a1_3 a1_4 _ _ l1_5 true _ ?side1 ?side2 A9.out).mono ?_); (case side1 => repeat (first | exact (Kd.C_below HR1_5.out (kb2 HB.out GE238.out GE239.out)) | (with_reducible refine Kd.C_alloc ?_ _) | (with_reducible refine Kd.C_drewN ?_ _) | (with_reducible refine Kd.C_drew ?_))); (case side2 => exact HC1_5.out); rintro e w17 ⟨rfl, hb⟩; have n0_ := Aside0.mk (kL BK238.out hb); have n1_ := Aside0.mk (kL BK239.out hb); have n2_ := Aside0.mk (below_step (kb2 HB.out GE238.out GE239.out) hb); clear BK238; clear BK239; clear HB; have BK238 := n0_; have BK239 := n1_; have HB := n2_; clear n0_ n1_ n2_; (try clear hb); (try clear hb2); (try clear hk); (try clear hi)))
   go_meet
   case rel => exact ⟨_, (decide (a2 > 96)), (by first | rfl | (simp; done) | (simp [*]; done)), H', ⟨by first | omega | exact Nat.le_refl _⟩, ⟨kB BK238.out⟩, ⟨kB BK239.out⟩, ⟨kb2 HB.out GE238.out GE239.out⟩⟩
  rw [if_pos c11] at H
  have c11b0 : decide (a2 < 0) = true := decide_eq_true c11
  clear c11
  (first | rw [c11b0] | rw [c11b1] | (simp only [i64_w, i32_w]; rw [c11b0]) | skip)
  have H' := Aside0.mk H
  clear H
  go_wp2_with (first | ((with_reducible refine gate_callee (f := 25) rfl ?_); refine goesL_ (some 10) rfl rfl Try.func25 (by kernel_rfl) rfl #[.string a0] rfl ka ?_; (with_reducible refine (nor_May.calls a0 true _ A7.out).mono ?_); rintro e w' ⟨rfl, ⟨nd, rfl⟩⟩; refine ⟨_, rfl, ?_⟩; have hnb12 := NB238_239.out; have hnc12 := NB239_238.out; obtain ⟨hcz13_0, hcz13_1, hcz13_2, hcz13_3, hcz13_4, hcz13_5⟩ := kc6 BK238.out; obtain ⟨hfz13_0, hfz13_1, hfz13_2, hfz13_3, hfz13_4, hfz13_5⟩ := kf6 BK238.out) | (go_at_call 26; (with_reducible refine (device_May.calls a1_0 a1_1 a1_2 a1_3 a1_4 _ _ l1_5 true _ ?side1 ?side2 A9.out).mono ?_); (case side1 => repeat (first | exact (Kd.C_below HR1_5.out (kb2 HB.out GE238.out GE239.out)) | (with_reducible refine Kd.C_alloc ?_ _) | (with_reducible refine Kd.C_drewN ?_ _) | (with_reducible refine Kd.C_drew ?_))); (case side2 => exact HC1_5.out); rintro e w14 ⟨rfl, hb⟩; have n0_ := Aside0.mk (kL BK238.out hb); have n1_ := Aside0.mk (kL BK239.out hb); have n2_ := Aside0.mk (below_step (kb2 HB.out GE238.out GE239.out) hb); clear BK238; clear BK239; clear HB; have BK238 := n0_; have BK239 := n1_; have HB := n2_; clear n0_ n1_ n2_; (try clear hb); (try clear hb2); (try clear hk); (try clear hi)))
  go_meet
  case rel => exact ⟨_, (true), (by first | rfl | (simp; done) | (simp [*]; done)), H', ⟨by first | omega | exact Nat.le_refl _⟩, ⟨kB BK238.out⟩, ⟨kB BK239.out⟩, ⟨kb2 HB.out GE238.out GE239.out⟩⟩
 case rest =>
  clear HC4
  try clear c1; try clear c2; try clear p2; try clear c8; try clear c10; try clear c11; try clear c11b0; try clear c12; try clear c15; try clear c18; try clear hcz13_0; try clear hcz13_1; try clear hcz13_2; try clear hcz13_3; try clear hcz13_4; try clear hcz13_5; try clear hcz16_0; try clear hcz16_1; try clear hcz16_2; try clear hcz16_3; try clear hcz16_4; try clear hcz16_5; try clear hcz19_0; try clear hcz19_1; try clear hcz19_2; try clear hcz19_3; try clear hcz19_4; try clear hcz19_5; try clear hfz13_0; try clear hfz13_1; try clear hfz13_2; try clear hfz13_3; try clear hfz13_4; try clear hfz13_5; try clear hfz16_0; try clear hfz16_1; try clear hfz16_2; try clear hfz16_3; try clear hfz16_4; try clear hfz16_5; try clear hfz19_0; try clear hfz19_1; try clear hfz19_2; try clear hfz19_3; try clear hfz19_4; try clear hfz19_5
  obtain ⟨kq, x24_3, rfl, HA, HJ3, BK238, BK239, HB⟩ := hcut
  cases kq with
  | zero => exact absurd HA.out (by simp [tick_Cut.j0])
  | succ kj3 =>
   have H := HA.out
   clear HA
   simp only [tick_Cut.j0] at H
   by_cases c21 : x24_3 = true
   ·subst c21
    have H1 : (some ((⟨#[]⟩ : ByteArray), 0, 0, 0, 0, 0, ([] : List (S40)), 1800)) = some (r1, r2, r3, r4, r5, r6, r7, r8) := by rw [if_pos rfl] at H; exact H
    clear H; have H := H1; clear H1
    simp only [Option.some.injEq, Prod.mk.injEq] at H
    obtain ⟨rfl, rfl, rfl, rfl, rfl, rfl, rfl, rfl⟩ := H
    have hnb22 := NB239_238.out
    have hnc22 := NB238_239.out
    obtain ⟨hcz23_0, hcz23_1, hcz23_2, hcz23_3, hcz23_4, hcz23_5⟩ := kc6 BK239.out
    obtain ⟨hfz23_0, hfz23_1, hfz23_2, hfz23_3, hfz23_4, hfz23_5⟩ := kf6 BK239.out
    go_wp2
    refine bodyPost_ret (results_list (rs := [.tmp 6, .cell 7 24, .tmp 8]) rfl (by simp) (.tmp (.cell gb239 24 #[.int .i64 0, .int .i64 0, .int .i64 0, .int .i64 0, .int .i64 0, .slice none 0 0] (0, 0) _ rfl (kP6 BK239.out) Try.underlying24 rfl (by kernel_rfl) (.tmp .nil)))) rfl ?_
    exact ⟨_, by first | rfl | (simp [errW_none, errW_some] <;> rfl) | (simp [*, errW_none, errW_some] <;> rfl), by first | exact Kd.R_nil _ _ _ _ _ | exact Kd.N_nil _ _ _ _ _ | exact Kd.V_nil _ _ _ _ _ | exact Kd.Q_nil _ _ _ _ _ | exact Kd.S_nil _ _ _ _ _, kb2 HB.out GE238.out GE239.out⟩
   ·replace c21 := Bool.eq_false_iff.mpr c21
    subst c21
    have H1 : ((tick_Works.f a1_0 a1_1 a1_2 a1_3 a1_4 l1_5).bind fun t242 => (if t242 = true then (tick_Cut.j1 kj3 a0 a2 (decide ((l1_5.length : Int) > 0)) a1_0 a1_1 a1_2 a1_3 a1_4 l1_5) else (tick_Cut.j1 kj3 a0 a2 false a1_0 a1_1 a1_2 a1_3 a1_4 l1_5))) = some (r1, r2, r3, r4, r5, r6, r7, r8) := by rw [if_neg (show ¬ (false = true) by decide)] at H; exact H
    clear H; have H := H1; clear H1
    have HC24 := Aside0.mk H
    clear H
    have hnb25 := NB238_239.out
    have hnc25 := NB239_238.out
    obtain ⟨hcz26_0, hcz26_1, hcz26_2, hcz26_3, hcz26_4, hcz26_5⟩ := kc6 BK238.out
    obtain ⟨hfz26_0, hfz26_1, hfz26_2, hfz26_3, hfz26_4, hfz26_5⟩ := kf6 BK238.out
    go_upto_region 3 with (fail)
    go_cut [32] (fun v32 wc => ∃ (kq : Nat) (x32_23 : Bool), v32 = .bool x32_23 ∧ Aside0 (tick_Cut.j1 kq a0 a2 x32_23 a1_0 a1_1 a1_2 a1_3 a1_4 l1_5 = some (r1, r2, r3, r4, r5, r6, r7, r8)) ∧ Aside0 (kq ≤ kj3) ∧ Aside0 (wc.heap[gb238]? = some (.cells #[.int .i64 a1_0, .int .i64 a1_1, .int .i64 a1_2, .int .i64 a1_3, .int .i64 a1_4, (.slice A1_5 l1_5.length c1_5)] 24 (0, 0))) ∧ Aside0 (wc.heap[gb239]? = some (.cells #[.int .i64 0, .int .i64 0, .int .i64 0, .int .i64 0, .int .i64 0, (.slice none 0 0)] 24 (0, 0))) ∧ Aside0 (Below w.heap.size w wc))
    case first =>
     have H := HC24.out
     clear HC24
     replace H := Option.bind_eq_some_iff.mp H
     obtain ⟨t242, A270, H⟩ := H
     replace H : (if t242 = true then (tick_Cut.j1 kj3 a0 a2 (decide ((l1_5.length : Int) > 0)) a1_0 a1_1 a1_2 a1_3 a1_4 l1_5) else (tick_Cut.j1 kj3 a0 a2 false a1_0 a1_1 a1_2 a1_3 a1_4 l1_5)) = some (r1, r2, r3, r4, r5, r6, r7, r8) := H
     have A27 := Aside0.mk A270
     clear A270
     by_cases c28 : t242 = true
     case neg =>
      replace c28 := Bool.eq_false_iff.mpr c28
      subst c28
      have H1 : (tick_Cut.j1 kj3 a0 a2 false a1_0 a1_1 a1_2 a1_3 a1_4 l1_5) = some (r1, r2, r3, r4, r5, r6, r7, r8) := by rw [if_neg (show ¬ (false = true) by decide)] at H; exact H
      clear H; have H := H1; clear H1
      have H' := Aside0.mk H
      clear H
      go_wp2_with (first | ((with_reducible refine gate_callee (f := 28) rfl ?_); refine goesL_ (some 26) rfl rfl Try.func28 (by kernel_rfl) rfl #[.pointer (some ⟨gb238, 0, none⟩)] rfl ka ?_; (refine (tick_Works.ptr a1_0 a1_1 a1_2 a1_3 a1_4 l1_5 false gb238 (cs := #[.int .i64 a1_0, .int .i64 a1_1, .int .i64 a1_2, .int .i64 a1_3, .int .i64 a1_4, .slice A1_5 l1_5.length c1_5]) (t := 24) _ ?hcell rfl A27.out).mono ?_); (case hcell => exact (kB BK238.out)); rintro e w32 ⟨rfl, hb⟩; refine ⟨_, rfl, ?_⟩; have n0_ := Aside0.mk (kL BK238.out hb); have n1_ := Aside0.mk (kL BK239.out hb); have n2_ := Aside0.mk (below_step (kb2 HB.out GE238.out GE239.out) hb); clear BK238; clear BK239; clear HB; have BK238 := n0_; have BK239 := n1_; have HB := n2_; clear n0_ n1_ n2_; (try clear hb); (try clear hb2); (try clear hk); (try clear hi)))
      go_meet
      case rel => exact ⟨_, (false), (by first | rfl | (simp; done) | (simp [*]; done)), H', ⟨by have := HJ3.out; first | omega | exact Nat.le_refl _⟩, ⟨kB BK238.out⟩, ⟨kB BK239.out⟩, ⟨kb2 HB.out GE238.out GE239.out⟩⟩
     subst c28
     have H1 : (tick_Cut.j1 kj3 a0 a2 (decide ((l1_5.length : Int) > 0)) a1_0 a1_1 a1_2 a1_3 a1_4 l1_5) = some (r1, r2, r3, r4, r5, r6, r7, r8) := by rw [if_pos rfl] at H; exact H
     clear H; have H := H1; clear H1
     have H' := Aside0.mk H
     clear H
     go_wp2_with (first | ((with_reducible refine gate_callee (f := 28) rfl ?_); refine goesL_ (some 26) rfl rfl Try.func28 (by kernel_rfl) rfl #[.pointer (some ⟨gb238, 0, none⟩)] rfl ka ?_; (refine (tick_Works.ptr a1_0 a1_1 a1_2 a1_3 a1_4 l1_5 true gb238 (cs := #[.int .i64 a1_0, .int .i64 a1_1, .int .i64 a1_2, .int .i64 a1_3, .int .i64 a1_4, .slice A1_5 l1_5.length c1_5]) (t := 24) _ ?hcell rfl A27.out).mono ?_); (case hcell => exact (kB BK238.out)); rintro e w29 ⟨rfl, hb⟩; refine ⟨_, rfl, ?_⟩; have n0_ := Aside0.mk (kL BK238.out hb); have n1_ := Aside0.mk (kL BK239.out hb); have n2_ := Aside0.mk (below_step (kb2 HB.out GE238.out GE239.out) hb); clear BK238; clear BK239; clear HB; have BK238 := n0_; have BK239 := n1_; have HB := n2_; clear n0_ n1_ n2_; (try clear hb); (try clear hb2); (try clear hk); (try clear hi); have hnb30 := NB238_239.out; have hnc30 := NB239_238.out; obtain ⟨hcz31_0, hcz31_1, hcz31_2, hcz31_3, hcz31_4, hcz31_5⟩ := kc6 BK238.out; obtain ⟨hfz31_0, hfz31_1, hfz31_2, hfz31_3, hfz31_4, hfz31_5⟩ := kf6 BK238.out))
     go_meet
     case rel => exact ⟨_, (decide ((l1_5.length : Int) > 0)), (by first | rfl | (simp; done) | (simp [*]; done)), H', ⟨by have := HJ3.out; first | omega | exact Nat.le_refl _⟩, ⟨kB BK238.out⟩, ⟨kB BK239.out⟩, ⟨kb2 HB.out GE238.out GE239.out⟩⟩
    case rest =>
     clear HC24
     try clear c1; try clear c2; try clear p2; try clear c3; try clear c8; try clear c10; try clear c11; try clear c11b0; try clear c12; try clear c15; try clear c18; try clear c21; try clear c22; try clear c25; try clear c28; try clear c30; try clear hcz13_0; try clear hcz13_1; try clear hcz13_2; try clear hcz13_3; try clear hcz13_4; try clear hcz13_5; try clear hcz16_0; try clear hcz16_1; try clear hcz16_2; try clear hcz16_3; try clear hcz16_4; try clear hcz16_5; try clear hcz19_0; try clear hcz19_1; try clear hcz19_2; try clear hcz19_3; try clear hcz19_4; try clear hcz19_5; try clear hcz23_0; try clear hcz23_1; try clear hcz23_2; try clear hcz23_3; try clear hcz23_4; try clear hcz23_5; try clear hcz26_0; try clear hcz26_1; try clear hcz26_2; try clear hcz26_3; try clear hcz26_4; try clear hcz26_5; try clear hcz31_0; try clear hcz31_1; try clear hcz31_2; try clear hcz31_3; try clear hcz31_4; try clear hcz31_5; try clear hfz13_0; try clear hfz13_1; try clear hfz13_2; try clear hfz13_3; try clear hfz13_4; try clear hfz13_5; try clear hfz16_0; try clear hfz16_1; try clear hfz16_2; try clear hfz16_3; try clear hfz16_4; try clear hfz16_5; try clear hfz19_0; try clear hfz19_1; try clear hfz19_2; try clear hfz19_3; try clear hfz19_4; try clear hfz19_5; try clear hfz23_0; try clear hfz23_1; try clear hfz23_2; try clear hfz23_3; try clear hfz23_4; try clear hfz23_5; try clear hfz26_0; try clear hfz26_1; try clear hfz26_2; try clear hfz26_3; try clear hfz26_4; try clear hfz26_5; try clear hfz31_0; try clear hfz31_1; try clear hfz31_2; try clear hfz31_3; try clear hfz31_4; try clear hfz31_5; try clear p2
     obtain ⟨kq, x32_23, rfl, HA, HJ23, BK238, BK239, HB⟩ := hcut
     cases kq with
     | zero => exact absurd HA.out (by simp [tick_Cut.j1])
     | succ kj23 =>
      have H := HA.out
      clear HA
      simp only [tick_Cut.j1] at H
      by_cases c33 : x32_23 = true
      ·subst c33
       have H1 : (if 0 < (l1_5.length : Int) then ((ops_Cut.f kj23 a0 ((rd_T40 l1_5 0).f0) ((rd_T40 l1_5 0).f1) ((rd_T40 l1_5 0).f2) a2).bind fun bt244 => ((device_New.f).bind fun bt246 => (some (bt244.1, bt246.1, bt246.2.1, bt246.2.2.1, bt246.2.2.2.1, bt246.2.2.2.2.1, bt246.2.2.2.2.2, 0)))) else (none)) = some (r1, r2, r3, r4, r5, r6, r7, r8) := by rw [if_pos rfl] at H; exact H
       clear H; have H := H1; clear H1
       by_cases c34 : 0 < (l1_5.length : Int)
       case neg =>
        rw [if_neg c34] at H
        exact absurd H (by simp)
       rw [if_pos c34] at H
       have c34b0 : decide (0 < (l1_5.length : Int)) = true := decide_eq_true c34
       have c34b1 : decide (0 < l1_5.length) = true := decide_eq_true (by omega)
       clear c34
       replace H := Option.bind_eq_some_iff.mp H
       obtain ⟨⟨t244, t245⟩, A350, H⟩ := H
       replace H : ((device_New.f).bind fun bt246 => (some (t244, bt246.1, bt246.2.1, bt246.2.2.1, bt246.2.2.2.1, bt246.2.2.2.2.1, bt246.2.2.2.2.2, 0))) = some (r1, r2, r3, r4, r5, r6, r7, r8) := H
       have A35 := Aside0.mk A350
       clear A350
       replace H := Option.bind_eq_some_iff.mp H
       obtain ⟨⟨t246, t247, t248, t249, t250, t251⟩, A360, H⟩ := H
       replace H : (some (t244, t246, t247, t248, t249, t250, t251, 0)) = some (r1, r2, r3, r4, r5, r6, r7, r8) := H
       have A36 := Aside0.mk A360
       clear A360
       simp only [Option.some.injEq, Prod.mk.injEq] at H
       obtain ⟨rfl, rfl, rfl, rfl, rfl, rfl, rfl, rfl⟩ := H
       have hnb37 := NB238_239.out
       have hnc37 := NB239_238.out
       obtain ⟨hcz38_0, hcz38_1, hcz38_2, hcz38_3, hcz38_4, hcz38_5⟩ := kc6 BK238.out
       obtain ⟨hfz38_0, hfz38_1, hfz38_2, hfz38_3, hfz38_4, hfz38_5⟩ := kf6 BK238.out
       have p243 : 0 ≤ (0 : Int) := (by omega)
       have q243 : 0 < (l1_5.length : Int) := of_decide_eq_true (by first | (with_reducible assumption) | assumption)
       obtain ⟨ad243, e243, hx243_0, hx243_1, hx243_2⟩ := at_T40 HR1_5.out 0 p243 q243
       cases e243
       have qi243 : (0 < l1_5.length) = True := eq_true (by omega)
       (try rw [show ((0 : Int)).toNat = 0 from rfl] at hx243_0)
       (try rw [show 0 * 3 = 0 from rfl] at hx243_0)
       (try rw [Addr.add_zero'] at hx243_0)
       (try rw [show ((0 : Int)).toNat = 0 from rfl] at hx243_1)
       (try rw [show 0 * 3 = 0 from rfl] at hx243_1)
       (try rw [Addr.add_zero'] at hx243_1)
       (try rw [show ((0 : Int)).toNat = 0 from rfl] at hx243_2)
       (try rw [show 0 * 3 = 0 from rfl] at hx243_2)
       (try rw [Addr.add_zero'] at hx243_2)
       replace hx243_0 := (HB.out.cell (World.block_lt_of_cell? w _ hx243_0)).trans hx243_0
       replace hx243_1 := (HB.out.cell (World.block_lt_of_cell? w _ hx243_1)).trans hx243_1
       replace hx243_2 := (HB.out.cell (World.block_lt_of_cell? w _ hx243_2)).trans hx243_2
       replace p243 := eq_true p243
       replace q243 := eq_true q243
       go_wp2_with (first | ((with_reducible refine gate_callee (f := 35) rfl ?_); refine goesL_ (some 40) rfl rfl Try.func35 (by kernel_rfl) rfl #[.string a0, .agg #[.bool ((rd_T40 l1_5 0).f0), .int .i64 ((rd_T40 l1_5 0).f1), .string ((rd_T40 l1_5 0).f2)], .int .i64 a2] rfl ka ?_; (with_reducible refine (ops_Cut.calls kj23 a0 ((rd_T40 l1_5 0).f0) ((rd_T40 l1_5 0).f1) ((rd_T40 l1_5 0).f2) a2 t244 t245 _ A35.out).mono ?_); rintro e w39 ⟨rfl, hb⟩; refine ⟨_, rfl, ?_⟩; have n0_ := Aside0.mk (kL BK238.out hb); have n1_ := Aside0.mk (kL BK239.out hb); have n2_ := Aside0.mk (below_step (kb2 HB.out GE238.out GE239.out) hb); clear BK238; clear BK239; clear HB; have BK238 := n0_; have BK239 := n1_; have HB := n2_; clear n0_ n1_ n2_; (try clear hb); (try clear hb2); (try clear hk); (try clear hi)) | ((with_reducible refine gate_callee (f := 30) rfl ?_); refine goesL_ (some 44) rfl rfl Try.func30 (by kernel_rfl) rfl #[] rfl ka ?_; (with_reducible refine (device_New.calls  t246 t247 t248 t249 t250 t251 _ A36.out).mono ?_); rintro e w40 ⟨v252, rfl, ho0, hb⟩; refine ⟨_, rfl, ?_⟩; have n0_ := Aside0.mk (Kd.R_lower ho0 (below_size (kb2 HB.out GE238.out GE239.out))); have n1_ := Aside0.mk (kL BK238.out hb); have n2_ := Aside0.mk (kL BK239.out hb); have n3_ := Aside0.mk (below_step (kb2 HB.out GE238.out GE239.out) hb); clear BK238; clear BK239; clear HB; have HO253 := n0_; have BK238 := n1_; have BK239 := n2_; have HB := n3_; clear n0_ n1_ n2_ n3_; (try clear hb); (try clear hb2); (try clear hk); (try clear hi); (try clear ho0); obtain ⟨hcz41_0, hcz41_1, hcz41_2, hcz41_3, hcz41_4, hcz41_5⟩ := kc6 BK239.out; obtain ⟨hfz41_0, hfz41_1, hfz41_2, hfz41_3, hfz41_4, hfz41_5⟩ := kf6 BK239.out; obtain ⟨Ao42, co42, eo42⟩ := Kd.R_slice HO253.out; subst eo42))
       refine bodyPost_ret (results_list (rs := [.tmp 6, .cell 7 24, .tmp 8]) rfl (by simp) (.tmp (.cell gb239 24 #[.int .i64 t246, .int .i64 t247, .int .i64 t248, .int .i64 t249, .int .i64 t250, .slice Ao42 t251.length co42] (0, 0) _ rfl (kP6 BK239.out) Try.underlying24 rfl (by kernel_rfl) (.tmp .nil)))) rfl ?_
       exact ⟨_, by first | rfl | (simp [errW_none, errW_some] <;> rfl) | (simp [*, errW_none, errW_some] <;> rfl), by (with_reducible repeat (first | apply Kd.R_alloc | apply Kd.R_drewN | apply Kd.R_drew)); exact Kd.R_mono (Kd.R_far (p := ⟨gb239, 5, none⟩) (Kd.R_far (p := ⟨gb239, 4, none⟩) (Kd.R_far (p := ⟨gb239, 3, none⟩) (Kd.R_far (p := ⟨gb239, 2, none⟩) (Kd.R_far (p := ⟨gb239, 1, none⟩) (Kd.R_far (p := ⟨gb239, 0, none⟩) (Kd.R_types HO253.out BK239.out (by decide)) (fun _ hk => hk.2) (.int .i64 t246)) (fun _ hk => hk.2) (.int .i64 t247)) (fun _ hk => hk.2) (.int .i64 t248)) (fun _ hk => hk.2) (.int .i64 t249)) (fun _ hk => hk.2) (.int .i64 t250)) (fun _ hk => hk.2) (.slice Ao42 t251.length co42)) (fun _ hk => trivial), kb2 HB.out GE238.out GE239.out⟩
      ·replace c33 := Bool.eq_false_iff.mpr c33
       subst c33
       have H1 : ((device_New.f).bind fun bt254 => (some (a0, bt254.1, bt254.2.1, bt254.2.2.1, bt254.2.2.2.1, bt254.2.2.2.2.1, bt254.2.2.2.2.2, 0))) = some (r1, r2, r3, r4, r5, r6, r7, r8) := by rw [if_neg (show ¬ (false = true) by decide)] at H; exact H
       clear H; have H := H1; clear H1
       replace H := Option.bind_eq_some_iff.mp H
       obtain ⟨⟨t254, t255, t256, t257, t258, t259⟩, A430, H⟩ := H
       replace H : (some (a0, t254, t255, t256, t257, t258, t259, 0)) = some (r1, r2, r3, r4, r5, r6, r7, r8) := H
       have A43 := Aside0.mk A430
       clear A430
       simp only [Option.some.injEq, Prod.mk.injEq] at H
       obtain ⟨rfl, rfl, rfl, rfl, rfl, rfl, rfl, rfl⟩ := H
       go_wp2_with (first | ((with_reducible refine gate_callee (f := 30) rfl ?_); refine goesL_ (some 44) rfl rfl Try.func30 (by kernel_rfl) rfl #[] rfl ka ?_; (with_reducible refine (device_New.calls  t254 t255 t256 t257 t258 t259 _ A43.out).mono ?_); rintro e w44 ⟨v260, rfl, ho0, hb⟩; refine ⟨_, rfl, ?_⟩; have n0_ := Aside0.mk (Kd.R_lower ho0 (below_size (kb2 HB.out GE238.out GE239.out))); have n1_ := Aside0.mk (kL BK238.out hb); have n2_ := Aside0.mk (kL BK239.out hb); have n3_ := Aside0.mk (below_step (kb2 HB.out GE238.out GE239.out) hb); clear BK238; clear BK239; clear HB; have HO261 := n0_; have BK238 := n1_; have BK239 := n2_; have HB := n3_; clear n0_ n1_ n2_ n3_; (try clear hb); (try clear hb2); (try clear hk); (try clear hi); (try clear ho0); have hnb45 := NB239_238.out; have hnc45 := NB238_239.out; obtain ⟨hcz46_0, hcz46_1, hcz46_2, hcz46_3, hcz46_4, hcz46_5⟩ := kc6 BK239.out; obtain ⟨hfz46_0, hfz46_1, hfz46_2, hfz46_3, hfz46_4, hfz46_5⟩ := kf6 BK239.out; obtain ⟨Ao47, co47, eo47⟩ := Kd.R_slice HO261.out; subst eo47))
       refine bodyPost_ret (results_list (rs := [.tmp 6, .cell 7 24, .tmp 8]) rfl (by simp) (.tmp (.cell gb239 24 #[.int .i64 t254, .int .i64 t255, .int .i64 t256, .int .i64 t257, .int .i64 t258, .slice Ao47 t259.length co47] (0, 0) _ rfl (kP6 BK239.out) Try.underlying24 rfl (by kernel_rfl) (.tmp .nil)))) rfl ?_
       exact ⟨_, by first | rfl | (simp [errW_none, errW_some] <;> rfl) | (simp [*, errW_none, errW_some] <;> rfl), by (with_reducible repeat (first | apply Kd.R_alloc | apply Kd.R_drewN | apply Kd.R_drew)); exact Kd.R_mono (Kd.R_far (p := ⟨gb239, 5, none⟩) (Kd.R_far (p := ⟨gb239, 4, none⟩) (Kd.R_far (p := ⟨gb239, 3, none⟩) (Kd.R_far (p := ⟨gb239, 2, none⟩) (Kd.R_far (p := ⟨gb239, 1, none⟩) (Kd.R_far (p := ⟨gb239, 0, none⟩) (Kd.R_types HO261.out BK239.out (by decide)) (fun _ hk => hk.2) (.int .i64 t254)) (fun _ hk => hk.2) (.int .i64 t255)) (fun _ hk => hk.2) (.int .i64 t256)) (fun _ hk => hk.2) (.int .i64 t257)) (fun _ hk => hk.2) (.int .i64 t258)) (fun _ hk => hk.2) (.slice Ao47 t259.length co47)) (fun _ hk => trivial), kb2 HB.out GE238.out GE239.out⟩

/-! ### skiffref16_CutDevice: function 13 -/
mutual
def skiffref16_CutDevice.j0 : Nat → ByteArray → Int → Bool → Int → Int → Int → Int → Int → List (S40) → Option (ByteArray × Int × Int × Int × Int × Int × (List (S40)) × Int)
 | 0, _, _, _, _, _, _, _, _, _ => none
 | k + 1, x0, x2, x17, x263000, x263001, x263002, x263003, x263004, x263005 => if x17 = true then (some ((⟨#[]⟩ : ByteArray), 0, 0, 0, 0, 0, ([] : List (S40)), 1800)) else ((skiffref16_working.f x263000 x263001 x263002 x263003 x263004 x263005).bind fun t266 => (if t266 = true then (skiffref16_CutDevice.j1 k x0 x2 (decide ((x263005.length : Int) > 0)) x263000 x263001 x263002 x263003 x263004 x263005) else (skiffref16_CutDevice.j1 k x0 x2 false x263000 x263001 x263002 x263003 x263004 x263005)))
def skiffref16_CutDevice.j1 : Nat → ByteArray → Int → Bool → Int → Int → Int → Int → Int → List (S40) → Option (ByteArray × Int × Int × Int × Int × Int × (List (S40)) × Int)
 | 0, _, _, _, _, _, _, _, _, _ => none
 | k + 1, x0, x2, x26, x263000, x263001, x263002, x263003, x263004, x263005 => if x26 = true then (if 0 < (x263005.length : Int) then ((skiffref1_Cut.f k x0 ((rd_T40 x263005 0).f0) ((rd_T40 x263005 0).f1) ((rd_T40 x263005 0).f2) x2).bind fun bt268 => ((skiffref16_NewDevice.f).bind fun bt270 => (some (bt268.1, bt270.1, bt270.2.1, bt270.2.2.1, bt270.2.2.2.1, bt270.2.2.2.2.1, bt270.2.2.2.2.2, 0)))) else (none)) else ((skiffref16_NewDevice.f).bind fun bt278 => (some (x0, bt278.1, bt278.2.1, bt278.2.2.1, bt278.2.2.2.1, bt278.2.2.2.2.1, bt278.2.2.2.2.2, 0)))
end
def skiffref16_CutDevice.f (k : Nat) (a0 : ByteArray) (a1_0 : Int) (a1_1 : Int) (a1_2 : Int) (a1_3 : Int) (a1_4 : Int) (l1_5 : List (S40)) (a2 : Int) : Option (ByteArray × Int × Int × Int × Int × Int × (List (S40)) × Int) := (skiffref16_both.f k a0 a1_0 a1_1 a1_2 a1_3 a1_4 l1_5).bind fun t264 => (if t264 = true then ((skiffref16_upTo.f a2 0 96).bind fun t265 => (skiffref16_CutDevice.j0 k a0 a2 (!t265) a1_0 a1_1 a1_2 a1_3 a1_4 l1_5)) else (skiffref16_CutDevice.j0 k a0 a2 true a1_0 a1_1 a1_2 a1_3 a1_4 l1_5))
set_option maxHeartbeats 8000000 in
set_option maxRecDepth 100000 in
theorem skiffref16_CutDevice.calls (k : Nat) (a0 : ByteArray) (a1_0 : Int) (a1_1 : Int) (a1_2 : Int) (a1_3 : Int) (a1_4 : Int) (A1_5 : Option Addr) (c1_5 : Nat) (l1_5 : List (S40)) (a2 : Int) (r1 : ByteArray) (r2 : Int) (r3 : Int) (r4 : Int) (r5 : Int) (r6 : Int) (r7 : List (S40)) (r8 : Int) (w : World) (hr1_5 : Kd.C k40 w A1_5 l1_5.length l1_5) (hc1_5 : l1_5.length ≤ c1_5) (h : skiffref16_CutDevice.f k a0 a1_0 a1_1 a1_2 a1_3 a1_4 l1_5 a2 = some (r1, r2, r3, r4, r5, r6, r7, r8)) :
  Calls Try.prog 13 #[.string a0, .agg #[.int .i64 a1_0, .int .i64 a1_1, .int .i64 a1_2, .int .i64 a1_3, .int .i64 a1_4, .slice A1_5 l1_5.length c1_5], .int .i64 a2] w fun e w' => ∃ v6_ : Value, e = .returned (.tuple #[.string r1, .agg #[.int .i64 r2, .int .i64 r3, .int .i64 r4, .int .i64 r5, .int .i64 r6, v6_], .int .i64 r8]) ∧ Kd.R k40 40 w' w.heap.size (fun _ => True) v6_ r7 ∧ Below w.heap.size w w' := by
 have hu24 := Try.underlying24
 have hu40 := Try.underlying40
 have HR1_5 := Aside0.mk hr1_5
 have HC1_5 := Aside0.mk hc1_5
 clear hr1_5 hc1_5
 have HB := Aside0.mk (Below.refl w.heap.size w)
 have H : ((skiffref16_both.f k a0 a1_0 a1_1 a1_2 a1_3 a1_4 l1_5).bind fun t264 => (if t264 = true then ((skiffref16_upTo.f a2 0 96).bind fun t265 => (skiffref16_CutDevice.j0 k a0 a2 (!t265) a1_0 a1_1 a1_2 a1_3 a1_4 l1_5)) else (skiffref16_CutDevice.j0 k a0 a2 true a1_0 a1_1 a1_2 a1_3 a1_4 l1_5))) = some (r1, r2, r3, r4, r5, r6, r7, r8) := h
 clear h
 have HC4 := Aside0.mk H
 clear H
 go_enter Try.func13, Try.ntmps13
 go_upto_region 1 with (first | ((with_reducible refine gate_dst (N := 4) rfl ?_); (try (refine gate_guard (by rfl) ?_; dsimp only)); refine box_event ?hg (N := 4) ?hd (cs := #[.int .i64 a1_0, .int .i64 a1_1, .int .i64 a1_2, .int .i64 a1_3, .int .i64 a1_4, .slice A1_5 l1_5.length c1_5]) (t := 24) ?hr ?_; (case hd => rfl); (case hg => rfl); (case hr => first | (go_simp; done) | (go_simp; rfl)); intro gb262 hg w5 hbox hb; have n0_ := Aside0.mk (below_step (kb HB.out) hb); have n1_ := Aside0.mk (hbox); have n2_ := Aside0.mk ((kz hg (below_size (kb HB.out)) : w.heap.size ≤ gb262)); have n3_ := Aside0.mk ((kz hg (below_size (kb HB.out)) : w.heap.size ≤ gb262)); clear HB; have HB := n0_; have BK262 := n1_; have GW262 := n2_; have GE262 := n3_; clear n0_ n1_ n2_ n3_; clear hb hbox hg) | ((with_reducible refine gate_dst (N := 7) rfl ?_); (try (refine gate_guard (by rfl) ?_; dsimp only)); refine box_event ?hg (N := 7) ?hd (cs := #[.int .i64 0, .int .i64 0, .int .i64 0, .int .i64 0, .int .i64 0, .slice none 0 0]) (t := 24) ?hr ?_; (case hd => rfl); (case hg => rfl); (case hr => first | (go_simp; done) | (go_simp; rfl)); intro gb263 hg w6 hbox hb; have n0_ := Aside0.mk (kL BK262.out hb); have n1_ := Aside0.mk (below_step (kb1 HB.out GE262.out) hb); have n2_ := Aside0.mk (hbox); have n3_ := Aside0.mk ((kz hg (below_size (kb1 HB.out GE262.out)) : w.heap.size ≤ gb263)); have n4_ := Aside0.mk ((kz hg (below_size (kb1 HB.out GE262.out)) : w.heap.size ≤ gb263)); have n5_ := Aside0.mk ((kN hg BK262.out : gb262 ≠ gb263)); have n6_ := Aside0.mk (((kN hg BK262.out).symm : gb263 ≠ gb262)); clear BK262; clear HB; have BK262 := n0_; have HB := n1_; have BK263 := n2_; have GW263 := n3_; have GE263 := n4_; have NB262_263 := n5_; have NB263_262 := n6_; clear n0_ n1_ n2_ n3_ n4_ n5_ n6_; clear hb hbox hg))
 (try simp only [Act.put, List.setIfInBounds_toArray, List.set_cons_zero, List.set_cons_succ])
 go_cut [17] (fun v17 wc => ∃ (kq : Nat) (x17_3 : Bool), v17 = .bool x17_3 ∧ Aside0 (skiffref16_CutDevice.j0 kq a0 a2 x17_3 a1_0 a1_1 a1_2 a1_3 a1_4 l1_5 = some (r1, r2, r3, r4, r5, r6, r7, r8)) ∧ Aside0 (kq ≤ k) ∧ Aside0 (wc.heap[gb262]? = some (.cells #[.int .i64 a1_0, .int .i64 a1_1, .int .i64 a1_2, .int .i64 a1_3, .int .i64 a1_4, (.slice A1_5 l1_5.length c1_5)] 24 (0, 0))) ∧ Aside0 (wc.heap[gb263]? = some (.cells #[.int .i64 0, .int .i64 0, .int .i64 0, .int .i64 0, .int .i64 0, (.slice none 0 0)] 24 (0, 0))) ∧ Aside0 (Below w.heap.size w wc))
 case first =>
  have H := HC4.out
  clear HC4
  replace H := Option.bind_eq_some_iff.mp H
  obtain ⟨t264, A70, H⟩ := H
  replace H : (if t264 = true then ((skiffref16_upTo.f a2 0 96).bind fun t265 => (skiffref16_CutDevice.j0 k a0 a2 (!t265) a1_0 a1_1 a1_2 a1_3 a1_4 l1_5)) else (skiffref16_CutDevice.j0 k a0 a2 true a1_0 a1_1 a1_2 a1_3 a1_4 l1_5)) = some (r1, r2, r3, r4, r5, r6, r7, r8) := H
  have A7 := Aside0.mk A70
  clear A70
  by_cases c8 : t264 = true
  ·subst c8
   have H1 : ((skiffref16_upTo.f a2 0 96).bind fun t265 => (skiffref16_CutDevice.j0 k a0 a2 (!t265) a1_0 a1_1 a1_2 a1_3 a1_4 l1_5)) = some (r1, r2, r3, r4, r5, r6, r7, r8) := by rw [if_pos rfl] at H; exact H
   clear H; have H := H1; clear H1
   replace H := Option.bind_eq_some_iff.mp H
   obtain ⟨t265, A90, H⟩ := H
   replace H : (skiffref16_CutDevice.j0 k a0 a2 (!t265) a1_0 a1_1 a1_2 a1_3 a1_4 l1_5) = some (r1, r2, r3, r4, r5, r6, r7, r8) := H
   have A9 := Aside0.mk A90
   clear A90
   have H' := Aside0.mk H
   clear H
   have hnb10 := NB262_263.out
   have hnc10 := NB263_262.out
   obtain ⟨hcz11_0, hcz11_1, hcz11_2, hcz11_3, hcz11_4, hcz11_5⟩ := kc6 BK262.out
   obtain ⟨hfz11_0, hfz11_1, hfz11_2, hfz11_3, hfz11_4, hfz11_5⟩ := kf6 BK262.out
   go_wp2_with (first | ((with_reducible refine gate_callee (f := 31) rfl ?_); refine goesL_ (some 11) rfl rfl Try.func31 (by kernel_rfl) rfl #[.string a0, .agg #[.int .i64 a1_0, .int .i64 a1_1, .int .i64 a1_2, .int .i64 a1_3, .int .i64 a1_4, .slice A1_5 l1_5.length c1_5]] rfl ka ?_; (with_reducible refine (skiffref16_both.calls k a0 a1_0 a1_1 a1_2 a1_3 a1_4 _ _ l1_5 true _ ?side1 ?side2 A7.out).mono ?_); (case side1 => exact kC (Kd.C_below HR1_5.out HB.out)); (case side2 => exact HC1_5.out); rintro e w12 ⟨rfl, hb⟩; refine ⟨_, rfl, ?_⟩; have n0_ := Aside0.mk (kL BK262.out hb); have n1_ := Aside0.mk (kL BK263.out hb); have n2_ := Aside0.mk (below_step (kb2 HB.out GE262.out GE263.out) hb); clear BK262; clear BK263; clear HB; have BK262 := n0_; have BK263 := n1_; have HB := n2_; clear n0_ n1_ n2_; (try clear hb); (try clear hb2); (try clear hk); (try clear hi)) | (go_at_call 36; (with_reducible refine (skiffref16_upTo.calls a2 0 96 t265 _ A9.out).mono ?_); rintro e w' ⟨rfl, ⟨nd, rfl⟩⟩))
   go_meet
   case rel => exact ⟨_, (!t265), (by first | rfl | (simp; done) | (simp [*]; done)), H', ⟨by first | omega | exact Nat.le_refl _⟩, ⟨kB BK262.out⟩, ⟨kB BK263.out⟩, ⟨kb2 HB.out GE262.out GE263.out⟩⟩
  ·replace c8 := Bool.eq_false_iff.mpr c8
   subst c8
   have H1 : (skiffref16_CutDevice.j0 k a0 a2 true a1_0 a1_1 a1_2 a1_3 a1_4 l1_5) = some (r1, r2, r3, r4, r5, r6, r7, r8) := by rw [if_neg (show ¬ (false = true) by decide)] at H; exact H
   clear H; have H := H1; clear H1
   have H' := Aside0.mk H
   clear H
   have hnb13 := NB262_263.out
   have hnc13 := NB263_262.out
   obtain ⟨hcz14_0, hcz14_1, hcz14_2, hcz14_3, hcz14_4, hcz14_5⟩ := kc6 BK262.out
   obtain ⟨hfz14_0, hfz14_1, hfz14_2, hfz14_3, hfz14_4, hfz14_5⟩ := kf6 BK262.out
   go_wp2_with (first | ((with_reducible refine gate_callee (f := 31) rfl ?_); refine goesL_ (some 11) rfl rfl Try.func31 (by kernel_rfl) rfl #[.string a0, .agg #[.int .i64 a1_0, .int .i64 a1_1, .int .i64 a1_2, .int .i64 a1_3, .int .i64 a1_4, .slice A1_5 l1_5.length c1_5]] rfl ka ?_; (with_reducible refine (skiffref16_both.calls k a0 a1_0 a1_1 a1_2 a1_3 a1_4 _ _ l1_5 false _ ?side1 ?side2 A7.out).mono ?_); (case side1 => exact kC (Kd.C_below HR1_5.out HB.out)); (case side2 => exact HC1_5.out); rintro e w15 ⟨rfl, hb⟩; refine ⟨_, rfl, ?_⟩; have n0_ := Aside0.mk (kL BK262.out hb); have n1_ := Aside0.mk (kL BK263.out hb); have n2_ := Aside0.mk (below_step (kb2 HB.out GE262.out GE263.out) hb); clear BK262; clear BK263; clear HB; have BK262 := n0_; have BK263 := n1_; have HB := n2_; clear n0_ n1_ n2_; (try clear hb); (try clear hb2); (try clear hk); (try clear hi)))
   go_meet
   case rel => exact ⟨_, (true), (by first | rfl | (simp; done) | (simp [*]; done)), H', ⟨by first | omega | exact Nat.le_refl _⟩, ⟨kB BK262.out⟩, ⟨kB BK263.out⟩, ⟨kb2 HB.out GE262.out GE263.out⟩⟩
 case rest =>
  clear HC4
  try clear c1; try clear p2; try clear c3; try clear c8; try clear c10; try clear c13; try clear hcz11_0; try clear hcz11_1; try clear hcz11_2; try clear hcz11_3; try clear hcz11_4; try clear hcz11_5; try clear hcz14_0; try clear hcz14_1; try clear hcz14_2; try clear hcz14_3; try clear hcz14_4; try clear hcz14_5; try clear hfz11_0; try clear hfz11_1; try clear hfz11_2; try clear hfz11_3; try clear hfz11_4; try clear hfz11_5; try clear hfz14_0; try clear hfz14_1; try clear hfz14_2; try clear hfz14_3; try clear hfz14_4; try clear hfz14_5
  obtain ⟨kq, x17_3, rfl, HA, HJ3, BK262, BK263, HB⟩ := hcut
  cases kq with
  | zero => exact absurd HA.out (by simp [skiffref16_CutDevice.j0])
  | succ kj3 =>
   have H := HA.out
   clear HA
   simp only [skiffref16_CutDevice.j0] at H
   by_cases c16 : x17_3 = true
   ·subst c16
    have H1 : (some ((⟨#[]⟩ : ByteArray), 0, 0, 0, 0, 0, ([] : List (S40)), 1800)) = some (r1, r2, r3, r4, r5, r6, r7, r8) := by rw [if_pos rfl] at H; exact H
    clear H; have H := H1; clear H1
    simp only [Option.some.injEq, Prod.mk.injEq] at H
    obtain ⟨rfl, rfl, rfl, rfl, rfl, rfl, rfl, rfl⟩ := H
    have hnb17 := NB263_262.out
    have hnc17 := NB262_263.out
    obtain ⟨hcz18_0, hcz18_1, hcz18_2, hcz18_3, hcz18_4, hcz18_5⟩ := kc6 BK263.out
    obtain ⟨hfz18_0, hfz18_1, hfz18_2, hfz18_3, hfz18_4, hfz18_5⟩ := kf6 BK263.out
    go_wp2
    refine bodyPost_ret (results_list (rs := [.tmp 6, .cell 7 24, .tmp 8]) rfl (by simp) (.tmp (.cell gb263 24 #[.int .i64 0, .int .i64 0, .int .i64 0, .int .i64 0, .int .i64 0, .slice none 0 0] (0, 0) _ rfl (kP6 BK263.out) Try.underlying24 rfl (by kernel_rfl) (.tmp .nil)))) rfl ?_
    exact ⟨_, by first | rfl | (simp [errW_none, errW_some] <;> rfl) | (simp [*, errW_none, errW_some] <;> rfl), by first | exact Kd.R_nil _ _ _ _ _ | exact Kd.N_nil _ _ _ _ _ | exact Kd.V_nil _ _ _ _ _ | exact Kd.Q_nil _ _ _ _ _ | exact Kd.S_nil _ _ _ _ _, kb2 HB.out GE262.out GE263.out⟩
   ·replace c16 := Bool.eq_false_iff.mpr c16
    subst c16
    have H1 : ((skiffref16_working.f a1_0 a1_1 a1_2 a1_3 a1_4 l1_5).bind fun t266 => (if t266 = true then (skiffref16_CutDevice.j1 kj3 a0 a2 (decide ((l1_5.length : Int) > 0)) a1_0 a1_1 a1_2 a1_3 a1_4 l1_5) else (skiffref16_CutDevice.j1 kj3 a0 a2 false a1_0 a1_1 a1_2 a1_3 a1_4 l1_5))) = some (r1, r2, r3, r4, r5, r6, r7, r8) := by rw [if_neg (show ¬ (false = true) by decide)] at H; exact H
    clear H; have H := H1; clear H1
    have HC19 := Aside0.mk H
    clear H
    go_upto_region 3 with (fail)
    go_cut [26] (fun v26 wc => ∃ (kq : Nat) (x26_18 : Bool), v26 = .bool x26_18 ∧ Aside0 (skiffref16_CutDevice.j1 kq a0 a2 x26_18 a1_0 a1_1 a1_2 a1_3 a1_4 l1_5 = some (r1, r2, r3, r4, r5, r6, r7, r8)) ∧ Aside0 (kq ≤ kj3) ∧ Aside0 (wc.heap[gb262]? = some (.cells #[.int .i64 a1_0, .int .i64 a1_1, .int .i64 a1_2, .int .i64 a1_3, .int .i64 a1_4, (.slice A1_5 l1_5.length c1_5)] 24 (0, 0))) ∧ Aside0 (wc.heap[gb263]? = some (.cells #[.int .i64 0, .int .i64 0, .int .i64 0, .int .i64 0, .int .i64 0, (.slice none 0 0)] 24 (0, 0))) ∧ Aside0 (Below w.heap.size w wc))
    case first =>
     have H := HC19.out
     clear HC19
     replace H := Option.bind_eq_some_iff.mp H
     obtain ⟨t266, A200, H⟩ := H
     replace H : (if t266 = true then (skiffref16_CutDevice.j1 kj3 a0 a2 (decide ((l1_5.length : Int) > 0)) a1_0 a1_1 a1_2 a1_3 a1_4 l1_5) else (skiffref16_CutDevice.j1 kj3 a0 a2 false a1_0 a1_1 a1_2 a1_3 a1_4 l1_5)) = some (r1, r2, r3, r4, r5, r6, r7, r8) := H
     have A20 := Aside0.mk A200
     clear A200
     by_cases c21 : t266 = true
     ·subst c21
      have H1 : (skiffref16_CutDevice.j1 kj3 a0 a2 (decide ((l1_5.length : Int) > 0)) a1_0 a1_1 a1_2 a1_3 a1_4 l1_5) = some (r1, r2, r3, r4, r5, r6, r7, r8) := by rw [if_pos rfl] at H; exact H
      clear H; have H := H1; clear H1
      have H' := Aside0.mk H
      clear H
      have hnb22 := NB262_263.out
      have hnc22 := NB263_262.out
      obtain ⟨hcz23_0, hcz23_1, hcz23_2, hcz23_3, hcz23_4, hcz23_5⟩ := kc6 BK262.out
      obtain ⟨hfz23_0, hfz23_1, hfz23_2, hfz23_3, hfz23_4, hfz23_5⟩ := kf6 BK262.out
      go_wp2_with (first | ((with_reducible refine gate_callee (f := 33) rfl ?_); refine goesL_ (some 20) rfl rfl Try.func33 (by kernel_rfl) rfl #[.agg #[.int .i64 a1_0, .int .i64 a1_1, .int .i64 a1_2, .int .i64 a1_3, .int .i64 a1_4, .slice A1_5 l1_5.length c1_5]] rfl ka ?_; (with_reducible refine (skiffref16_working.calls a1_0 a1_1 a1_2 a1_3 a1_4 _ _ l1_5 true _ ?side1 ?side2 A20.out).mono ?_); (case side1 => exact kC (Kd.C_below HR1_5.out HB.out)); (case side2 => exact HC1_5.out); rintro e w24 ⟨rfl, hb⟩; refine ⟨_, rfl, ?_⟩; have n0_ := Aside0.mk (kL BK262.out hb); have n1_ := Aside0.mk (kL BK263.out hb); have n2_ := Aside0.mk (below_step (kb2 HB.out GE262.out GE263.out) hb); clear BK262; clear BK263; clear HB; have BK262 := n0_; have BK263 := n1_; have HB := n2_; clear n0_ n1_ n2_; (try clear hb); (try clear hb2); (try clear hk); (try clear hi); obtain ⟨hcz25_0, hcz25_1, hcz25_2, hcz25_3, hcz25_4, hcz25_5⟩ := kc6 BK262.out; obtain ⟨hfz25_0, hfz25_1, hfz25_2, hfz25_3, hfz25_4, hfz25_5⟩ := kf6 BK262.out))
      go_meet
      case rel => exact ⟨_, (decide ((l1_5.length : Int) > 0)), (by first | rfl | (simp; done) | (simp [*]; done)), H', ⟨by have := HJ3.out; first | omega | exact Nat.le_refl _⟩, ⟨kB BK262.out⟩, ⟨kB BK263.out⟩, ⟨kb2 HB.out GE262.out GE263.out⟩⟩
     ·replace c21 := Bool.eq_false_iff.mpr c21
      subst c21
      have H1 : (skiffref16_CutDevice.j1 kj3 a0 a2 false a1_0 a1_1 a1_2 a1_3 a1_4 l1_5) = some (r1, r2, r3, r4, r5, r6, r7, r8) := by rw [if_neg (show ¬ (false = true) by decide)] at H; exact H
      clear H; have H := H1; clear H1
      have H' := Aside0.mk H
      clear H
      have hnb26 := NB262_263.out
      have hnc26 := NB263_262.out
      obtain ⟨hcz27_0, hcz27_1, hcz27_2, hcz27_3, hcz27_4, hcz27_5⟩ := kc6 BK262.out
      obtain ⟨hfz27_0, hfz27_1, hfz27_2, hfz27_3, hfz27_4, hfz27_5⟩ := kf6 BK262.out
      go_wp2_with (first | ((with_reducible refine gate_callee (f := 33) rfl ?_); refine goesL_ (some 20) rfl rfl Try.func33 (by kernel_rfl) rfl #[.agg #[.int .i64 a1_0, .int .i64 a1_1, .int .i64 a1_2, .int .i64 a1_3, .int .i64 a1_4, .slice A1_5 l1_5.length c1_5]] rfl ka ?_; (with_reducible refine (skiffref16_working.calls a1_0 a1_1 a1_2 a1_3 a1_4 _ _ l1_5 false _ ?side1 ?side2 A20.out).mono ?_); (case side1 => exact kC (Kd.C_below HR1_5.out HB.out)); (case side2 => exact HC1_5.out); rintro e w28 ⟨rfl, hb⟩; refine ⟨_, rfl, ?_⟩; have n0_ := Aside0.mk (kL BK262.out hb); have n1_ := Aside0.mk (kL BK263.out hb); have n2_ := Aside0.mk (below_step (kb2 HB.out GE262.out GE263.out) hb); clear BK262; clear BK263; clear HB; have BK262 := n0_; have BK263 := n1_; have HB := n2_; clear n0_ n1_ n2_; (try clear hb); (try clear hb2); (try clear hk); (try clear hi)))
      go_meet
      case rel => exact ⟨_, (false), (by first | rfl | (simp; done) | (simp [*]; done)), H', ⟨by have := HJ3.out; first | omega | exact Nat.le_refl _⟩, ⟨kB BK262.out⟩, ⟨kB BK263.out⟩, ⟨kb2 HB.out GE262.out GE263.out⟩⟩
    case rest =>
     clear HC19
     try clear c1; try clear c2; try clear p2; try clear c3; try clear c8; try clear c10; try clear c13; try clear c16; try clear c17; try clear c21; try clear c22; try clear c26; try clear hcz11_0; try clear hcz11_1; try clear hcz11_2; try clear hcz11_3; try clear hcz11_4; try clear hcz11_5; try clear hcz14_0; try clear hcz14_1; try clear hcz14_2; try clear hcz14_3; try clear hcz14_4; try clear hcz14_5; try clear hcz18_0; try clear hcz18_1; try clear hcz18_2; try clear hcz18_3; try clear hcz18_4; try clear hcz18_5; try clear hcz23_0; try clear hcz23_1; try clear hcz23_2; try clear hcz23_3; try clear hcz23_4; try clear hcz23_5; try clear hcz25_0; try clear hcz25_1; try clear hcz25_2; try clear hcz25_3; try clear hcz25_4; try clear hcz25_5; try clear hcz27_0; try clear hcz27_1; try clear hcz27_2; try clear hcz27_3; try clear hcz27_4; try clear hcz27_5; try clear hfz11_0; try clear hfz11_1; try clear hfz11_2; try clear hfz11_3; try clear hfz11_4; try clear hfz11_5; try clear hfz14_0; try clear hfz14_1; try clear hfz14_2; try clear hfz14_3; try clear hfz14_4; try clear hfz14_5; try clear hfz18_0; try clear hfz18_1; try clear hfz18_2; try clear hfz18_3; try clear hfz18_4; try clear hfz18_5; try clear hfz23_0; try clear hfz23_1; try clear hfz23_2; try clear hfz23_3; try clear hfz23_4; try clear hfz23_5; try clear hfz25_0; try clear hfz25_1; try clear hfz25_2; try clear hfz25_3; try clear hfz25_4; try clear hfz25_5; try clear hfz27_0; try clear hfz27_1; try clear hfz27_2; try clear hfz27_3; try clear hfz27_4; try clear hfz27_5; try clear p2
     obtain ⟨kq, x26_18, rfl, HA, HJ18, BK262, BK263, HB⟩ := hcut
     cases kq with
     | zero => exact absurd HA.out (by simp [skiffref16_CutDevice.j1])
     | succ kj18 =>
      have H := HA.out
      clear HA
      simp only [skiffref16_CutDevice.j1] at H
      by_cases c29 : x26_18 = true
      ·subst c29
       have H1 : (if 0 < (l1_5.length : Int) then ((skiffref1_Cut.f kj18 a0 ((rd_T40 l1_5 0).f0) ((rd_T40 l1_5 0).f1) ((rd_T40 l1_5 0).f2) a2).bind fun bt268 => ((skiffref16_NewDevice.f).bind fun bt270 => (some (bt268.1, bt270.1, bt270.2.1, bt270.2.2.1, bt270.2.2.2.1, bt270.2.2.2.2.1, bt270.2.2.2.2.2, 0)))) else (none)) = some (r1, r2, r3, r4, r5, r6, r7, r8) := by rw [if_pos rfl] at H; exact H
       clear H; have H := H1; clear H1
       by_cases c30 : 0 < (l1_5.length : Int)
       case neg =>
        rw [if_neg c30] at H
        exact absurd H (by simp)
       rw [if_pos c30] at H
       have c30b0 : decide (0 < (l1_5.length : Int)) = true := decide_eq_true c30
       have c30b1 : decide (0 < l1_5.length) = true := decide_eq_true (by omega)
       clear c30
       replace H := Option.bind_eq_some_iff.mp H
       obtain ⟨⟨t268, t269⟩, A310, H⟩ := H
       replace H : ((skiffref16_NewDevice.f).bind fun bt270 => (some (t268, bt270.1, bt270.2.1, bt270.2.2.1, bt270.2.2.2.1, bt270.2.2.2.2.1, bt270.2.2.2.2.2, 0))) = some (r1, r2, r3, r4, r5, r6, r7, r8) := H
       have A31 := Aside0.mk A310
       clear A310
       replace H := Option.bind_eq_some_iff.mp H
       obtain ⟨⟨t270, t271, t272, t273, t274, t275⟩, A320, H⟩ := H
       replace H : (some (t268, t270, t271, t272, t273, t274, t275, 0)) = some (r1, r2, r3, r4, r5, r6, r7, r8) := H
       have A32 := Aside0.mk A320
       clear A320
       simp only [Option.some.injEq, Prod.mk.injEq] at H
       obtain ⟨rfl, rfl, rfl, rfl, rfl, rfl, rfl, rfl⟩ := H
       have hnb33 := NB262_263.out
       have hnc33 := NB263_262.out
       obtain ⟨hcz34_0, hcz34_1, hcz34_2, hcz34_3, hcz34_4, hcz34_5⟩ := kc6 BK262.out
       obtain ⟨hfz34_0, hfz34_1, hfz34_2, hfz34_3, hfz34_4, hfz34_5⟩ := kf6 BK262.out
       have p267 : 0 ≤ (0 : Int) := (by omega)
       have q267 : 0 < (l1_5.length : Int) := of_decide_eq_true (by first | (with_reducible assumption) | assumption)
       obtain ⟨ad267, e267, hx267_0, hx267_1, hx267_2⟩ := at_T40 HR1_5.out 0 p267 q267
       cases e267
       have qi267 : (0 < l1_5.length) = True := eq_true (by omega)
       (try rw [show ((0 : Int)).toNat = 0 from rfl] at hx267_0)
       (try rw [show 0 * 3 = 0 from rfl] at hx267_0)
       (try rw [Addr.add_zero'] at hx267_0)
       (try rw [show ((0 : Int)).toNat = 0 from rfl] at hx267_1)
       (try rw [show 0 * 3 = 0 from rfl] at hx267_1)
       (try rw [Addr.add_zero'] at hx267_1)
       (try rw [show ((0 : Int)).toNat = 0 from rfl] at hx267_2)
       (try rw [show 0 * 3 = 0 from rfl] at hx267_2)
       (try rw [Addr.add_zero'] at hx267_2)
       replace hx267_0 := (HB.out.cell (World.block_lt_of_cell? w _ hx267_0)).trans hx267_0
       replace hx267_1 := (HB.out.cell (World.block_lt_of_cell? w _ hx267_1)).trans hx267_1
       replace hx267_2 := (HB.out.cell (World.block_lt_of_cell? w _ hx267_2)).trans hx267_2
       replace p267 := eq_true p267
       replace q267 := eq_true q267
       go_wp2_with (first | ((with_reducible refine gate_callee (f := 37) rfl ?_); refine goesL_ (some 34) rfl rfl Try.func37 (by kernel_rfl) rfl #[.string a0, .agg #[.bool ((rd_T40 l1_5 0).f0), .int .i64 ((rd_T40 l1_5 0).f1), .string ((rd_T40 l1_5 0).f2)], .int .i64 a2] rfl ka ?_; (with_reducible refine (skiffref1_Cut.calls kj18 a0 ((rd_T40 l1_5 0).f0) ((rd_T40 l1_5 0).f1) ((rd_T40 l1_5 0).f2) a2 t268 t269 _ A31.out).mono ?_); rintro e w35 ⟨rfl, hb⟩; refine ⟨_, rfl, ?_⟩; have n0_ := Aside0.mk (kL BK262.out hb); have n1_ := Aside0.mk (kL BK263.out hb); have n2_ := Aside0.mk (below_step (kb2 HB.out GE262.out GE263.out) hb); clear BK262; clear BK263; clear HB; have BK262 := n0_; have BK263 := n1_; have HB := n2_; clear n0_ n1_ n2_; (try clear hb); (try clear hb2); (try clear hk); (try clear hi)) | ((with_reducible refine gate_callee (f := 34) rfl ?_); refine goesL_ (some 38) rfl rfl Try.func34 (by kernel_rfl) rfl #[] rfl ka ?_; (with_reducible refine (skiffref16_NewDevice.calls  t270 t271 t272 t273 t274 t275 _ A32.out).mono ?_); rintro e w36 ⟨v276, rfl, ho0, hb⟩; refine ⟨_, rfl, ?_⟩; have n0_ := Aside0.mk (Kd.R_lower ho0 (below_size (kb2 HB.out GE262.out GE263.out))); have n1_ := Aside0.mk (kL BK262.out hb); have n2_ := Aside0.mk (kL BK263.out hb); have n3_ := Aside0.mk (below_step (kb2 HB.out GE262.out GE263.out) hb); clear BK262; clear BK263; clear HB; have HO277 := n0_; have BK262 := n1_; have BK263 := n2_; have HB := n3_; clear n0_ n1_ n2_ n3_; (try clear hb); (try clear hb2); (try clear hk); (try clear hi); (try clear ho0); obtain ⟨hcz37_0, hcz37_1, hcz37_2, hcz37_3, hcz37_4, hcz37_5⟩ := kc6 BK263.out; obtain ⟨hfz37_0, hfz37_1, hfz37_2, hfz37_3, hfz37_4, hfz37_5⟩ := kf6 BK263.out; obtain ⟨Ao38, co38, eo38⟩ := Kd.R_slice HO277.out; subst eo38))
       refine bodyPost_ret (results_list (rs := [.tmp 6, .cell 7 24, .tmp 8]) rfl (by simp) (.tmp (.cell gb263 24 #[.int .i64 t270, .int .i64 t271, .int .i64 t272, .int .i64 t273, .int .i64 t274, .slice Ao38 t275.length co38] (0, 0) _ rfl (kP6 BK263.out) Try.underlying24 rfl (by kernel_rfl) (.tmp .nil)))) rfl ?_
       exact ⟨_, by first | rfl | (simp [errW_none, errW_some] <;> rfl) | (simp [*, errW_none, errW_some] <;> rfl), by (with_reducible repeat (first | apply Kd.R_alloc | apply Kd.R_drewN | apply Kd.R_drew)); exact Kd.R_mono (Kd.R_far (p := ⟨gb263, 5, none⟩) (Kd.R_far (p := ⟨gb263, 4, none⟩) (Kd.R_far (p := ⟨gb263, 3, none⟩) (Kd.R_far (p := ⟨gb263, 2, none⟩) (Kd.R_far (p := ⟨gb263, 1, none⟩) (Kd.R_far (p := ⟨gb263, 0, none⟩) (Kd.R_types HO277.out BK263.out (by decide)) (fun _ hk => hk.2) (.int .i64 t270)) (fun _ hk => hk.2) (.int .i64 t271)) (fun _ hk => hk.2) (.int .i64 t272)) (fun _ hk => hk.2) (.int .i64 t273)) (fun _ hk => hk.2) (.int .i64 t274)) (fun _ hk => hk.2) (.slice Ao38 t275.length co38)) (fun _ hk => trivial), kb2 HB.out GE262.out GE263.out⟩
      ·replace c29 := Bool.eq_false_iff.mpr c29
       subst c29
       have H1 : ((skiffref16_NewDevice.f).bind fun bt278 => (some (a0, bt278.1, bt278.2.1, bt278.2.2.1, bt278.2.2.2.1, bt278.2.2.2.2.1, bt278.2.2.2.2.2, 0))) = some (r1, r2, r3, r4, r5, r6, r7, r8) := by rw [if_neg (show ¬ (false = true) by decide)] at H; exact H
       clear H; have H := H1; clear H1
       replace H := Option.bind_eq_some_iff.mp H
       obtain ⟨⟨t278, t279, t280, t281, t282, t283⟩, A390, H⟩ := H
       replace H : (some (a0, t278, t279, t280, t281, t282, t283, 0)) = some (r1, r2, r3, r4, r5, r6, r7, r8) := H
       have A39 := Aside0.mk A390
       clear A390
       simp only [Option.some.injEq, Prod.mk.injEq] at H
       obtain ⟨rfl, rfl, rfl, rfl, rfl, rfl, rfl, rfl⟩ := H
       go_wp2_with (first | ((with_reducible refine gate_callee (f := 34) rfl ?_); refine goesL_ (some 38) rfl rfl Try.func34 (by kernel_rfl) rfl #[] rfl ka ?_; (with_reducible refine (skiffref16_NewDevice.calls  t278 t279 t280 t281 t282 t283 _ A39.out).mono ?_); rintro e w40 ⟨v284, rfl, ho0, hb⟩; refine ⟨_, rfl, ?_⟩; have n0_ := Aside0.mk (Kd.R_lower ho0 (below_size (kb2 HB.out GE262.out GE263.out))); have n1_ := Aside0.mk (kL BK262.out hb); have n2_ := Aside0.mk (kL BK263.out hb); have n3_ := Aside0.mk (below_step (kb2 HB.out GE262.out GE263.out) hb); clear BK262; clear BK263; clear HB; have HO285 := n0_; have BK262 := n1_; have BK263 := n2_; have HB := n3_; clear n0_ n1_ n2_ n3_; (try clear hb); (try clear hb2); (try clear hk); (try clear hi); (try clear ho0); have hnb41 := NB263_262.out; have hnc41 := NB262_263.out; obtain ⟨hcz42_0, hcz42_1, hcz42_2, hcz42_3, hcz42_4, hcz42_5⟩ := kc6 BK263.out; obtain ⟨hfz42_0, hfz42_1, hfz42_2, hfz42_3, hfz42_4, hfz42_5⟩ := kf6 BK263.out; obtain ⟨Ao43, co43, eo43⟩ := Kd.R_slice HO285.out; subst eo43))
       refine bodyPost_ret (results_list (rs := [.tmp 6, .cell 7 24, .tmp 8]) rfl (by simp) (.tmp (.cell gb263 24 #[.int .i64 t278, .int .i64 t279, .int .i64 t280, .int .i64 t281, .int .i64 t282, .slice Ao43 t283.length co43] (0, 0) _ rfl (kP6 BK263.out) Try.underlying24 rfl (by kernel_rfl) (.tmp .nil)))) rfl ?_
       exact ⟨_, by first | rfl | (simp [errW_none, errW_some] <;> rfl) | (simp [*, errW_none, errW_some] <;> rfl), by (with_reducible repeat (first | apply Kd.R_alloc | apply Kd.R_drewN | apply Kd.R_drew)); exact Kd.R_mono (Kd.R_far (p := ⟨gb263, 5, none⟩) (Kd.R_far (p := ⟨gb263, 4, none⟩) (Kd.R_far (p := ⟨gb263, 3, none⟩) (Kd.R_far (p := ⟨gb263, 2, none⟩) (Kd.R_far (p := ⟨gb263, 1, none⟩) (Kd.R_far (p := ⟨gb263, 0, none⟩) (Kd.R_types HO285.out BK263.out (by decide)) (fun _ hk => hk.2) (.int .i64 t278)) (fun _ hk => hk.2) (.int .i64 t279)) (fun _ hk => hk.2) (.int .i64 t280)) (fun _ hk => hk.2) (.int .i64 t281)) (fun _ hk => hk.2) (.int .i64 t282)) (fun _ hk => hk.2) (.slice Ao43 t283.length co43)) (fun _ hk => trivial), kb2 HB.out GE262.out GE263.out⟩

/-! ### skifflaw0_SameOps: function 38 -/
def skifflaw0_SameOps.l0 : Nat → List (S40) → List (S40) → Int → Option (Bool)
 | 0, _, _, _ => none
 | k + 1, x0, x1, x5 => if x5 < (x0.length : Int) then (if 0 ≤ x5 then (if x5 < (x1.length : Int) then (if (!(((rd_T40 x0 x5).f0) == ((rd_T40 x1 x5).f0)) || (!(((rd_T40 x0 x5).f1) == ((rd_T40 x1 x5).f1)) || (!((((rd_T40 x0 x5).f2).toList) == (((rd_T40 x1 x5).f2).toList))))) = true then (some false) else (skifflaw0_SameOps.l0 k x0 x1 (wrap64 (x5 + 1)))) else (none)) else (none)) else (some true)
def skifflaw0_SameOps.f (k : Nat) (l0 : List (S40)) (l1 : List (S40)) : Option (Bool) := if (l0.length : Int) = (l1.length : Int) then (skifflaw0_SameOps.l0 k l0 l1 0) else (some false)
theorem skifflaw0_SameOps.mono_l : ∀ k, (∀ y0 y1 y2, LeO (skifflaw0_SameOps.l0 k y0 y1 y2) (skifflaw0_SameOps.l0 (k + 1) y0 y1 y2))
 | 0 => fun _ _ _ r h => by simp [skifflaw0_SameOps.l0] at h
 | k + 1 => by
  have ih0 := skifflaw0_SameOps.mono_l k
  ·intro y0 y1 y2
   unfold skifflaw0_SameOps.l0
   repeat' first
   | (with_reducible exact ih0 _ _ _)
   | (with_reducible exact LeO.refl _)
   | (with_reducible exact LeO.none _)
   | (with_reducible refine LeO.ite ?_ ?_)
   | (with_reducible refine LeO.bind ?_ (fun _ => ?_))
   | exact ih0 _ _ _
   | exact LeO.none _
   | refine LeO.ite ?_ ?_
   | refine LeO.bind ?_ (fun _ => ?_)
theorem skifflaw0_SameOps.mono : ∀ a0 a1 k, LeO (skifflaw0_SameOps.f k a0 a1) (skifflaw0_SameOps.f (k + 1) a0 a1) := by
 intro a0 a1 k
 have ih0 := skifflaw0_SameOps.mono_l k
 unfold skifflaw0_SameOps.f
 repeat' first
   | (with_reducible exact ih0 _ _ _)
   | (with_reducible exact LeO.refl _)
   | (with_reducible exact LeO.none _)
   | (with_reducible refine LeO.ite ?_ ?_)
   | (with_reducible refine LeO.bind ?_ (fun _ => ?_))
   | exact ih0 _ _ _
   | exact LeO.none _
   | refine LeO.ite ?_ ?_
   | refine LeO.bind ?_ (fun _ => ?_)
set_option maxHeartbeats 8000000 in
set_option maxRecDepth 100000 in
theorem skifflaw0_SameOps.calls (k : Nat) (A0 : Option Addr) (c0 : Nat) (l0 : List (S40)) (A1 : Option Addr) (c1 : Nat) (l1 : List (S40)) (r : Bool) (w : World) (hr0 : Kd.C k40 w A0 l0.length l0) (hc0 : l0.length ≤ c0) (hr1 : Kd.C k40 w A1 l1.length l1) (hc1 : l1.length ≤ c1) (h : skifflaw0_SameOps.f k l0 l1 = some r) :
  Calls Try.prog 38 #[.slice A0 l0.length c0, .slice A1 l1.length c1] w fun e w' => e = .returned (.bool r) ∧ Drawn0 w w' := by
 have hu40 := Try.underlying40
 have HR0 := Aside0.mk hr0
 have HC0 := Aside0.mk hc0
 clear hr0 hc0
 have HR1 := Aside0.mk hr1
 have HC1 := Aside0.mk hc1
 clear hr1 hc1
 have H : (if (l0.length : Int) = (l1.length : Int) then (skifflaw0_SameOps.l0 k l0 l1 0) else (some false)) = some r := h
 clear h
 by_cases c3 : (l0.length : Int) = (l1.length : Int)
 case neg =>
  rw [if_neg c3] at H
  have c3b0 : ((l0.length : Int) == (l1.length : Int)) = false := beq_eq_false_iff_ne.mpr c3
  have c3b1 : ((l0.length : Int) != (l1.length : Int)) = true := bne_iff_ne.mpr c3
  have c3b2 : (l0.length == l1.length) = false := by first | simpa using c3 | (simp at c3 ⊢; omega)
  obtain rfl := Option.some.inj H
  go_enter Try.func38, Try.ntmps38
  go_wp2
  repeat (go_quiet (fail); try go_wp2)
  go_ret
  exact ⟨by first | rfl | (simp; done) | (simp [*]; done), by repeat (first | exact Drawn0.refl _ | apply Drawn0.step)⟩
 rw [if_pos c3] at H
 have c3b0 : ((l0.length : Int) == (l1.length : Int)) = true := beq_iff_eq.mpr c3
 have c3b1 : ((l0.length : Int) != (l1.length : Int)) = false := bne_eq_false_iff_eq.mpr c3
 have c3b2 : (l0.length == l1.length) = true := by first | simpa using c3 | (simp at c3 ⊢; omega)
 clear c3
 have H' := Aside0.mk H
 clear H
 go_enter Try.func38, Try.ntmps38
 go_wp2
 repeat (go_quiet (fail); try go_wp2)
 go_loopg [5] k (fun kq v5 w' => ∃ (x5_1 : Int), v5 = .int .i64 x5_1 ∧ Aside0 (skifflaw0_SameOps.l0 kq l0 l1 x5_1 = some r) ∧ Aside0 (kq ≤ k) ∧ Drawn0 w w')
 case atStart => exact ⟨(0), (by first | rfl | (simp; done) | (simp [*]; done)), H', ⟨Nat.le_refl _⟩, by repeat (first | exact Drawn0.refl _ | apply Drawn0.step)⟩
 case round =>
  clear H'
  try clear c1; try clear p2; try clear c3; try clear c3b0; try clear c3b1; try clear c3b2
  obtain ⟨x5_1, rfl, HA, HK1, ⟨m1, rfl⟩⟩ := hrel
  cases gk with
  | zero => exact absurd HA.out (by simp [skifflaw0_SameOps.l0])
  | succ k1 =>
   have H := HA.out
   clear HA
   simp only [skifflaw0_SameOps.l0] at H
   by_cases c4 : x5_1 < (l0.length : Int)
   case neg =>
    rw [if_neg c4] at H
    have c4b0 : decide (x5_1 < (l0.length : Int)) = false := decide_eq_false c4
    clear c4
    obtain rfl := Option.some.inj H
    go_wp2
    repeat (go_quiet (fail); try go_wp2)
    go_ret
    exact ⟨by first | rfl | (simp; done) | (simp [*]; done), by repeat (first | exact Drawn0.refl _ | apply Drawn0.step)⟩
   rw [if_pos c4] at H
   have c4b0 : decide (x5_1 < (l0.length : Int)) = true := decide_eq_true c4
   clear c4
   by_cases c5 : 0 ≤ x5_1
   case neg =>
    rw [if_neg c5] at H
    exact absurd H (by simp)
   rw [if_pos c5] at H
   have c5b0 : decide (0 ≤ x5_1) = true := decide_eq_true c5
   clear c5
   by_cases c6 : x5_1 < (l1.length : Int)
   case neg =>
    rw [if_neg c6] at H
    exact absurd H (by simp)
   rw [if_pos c6] at H
   have c6b0 : decide (x5_1 < (l1.length : Int)) = true := decide_eq_true c6
   clear c6
   by_cases c7 : (!(((rd_T40 l0 x5_1).f0) == ((rd_T40 l1 x5_1).f0)) || (!(((rd_T40 l0 x5_1).f1) == ((rd_T40 l1 x5_1).f1)) || (!((((rd_T40 l0 x5_1).f2).toList) == (((rd_T40 l1 x5_1).f2).toList))))) = true
   ·rw [if_pos c7] at H
    have c7b0 : (!(((rd_T40 l0 x5_1).f0) == ((rd_T40 l1 x5_1).f0)) || (!(((rd_T40 l0 x5_1).f1) == ((rd_T40 l1 x5_1).f1)) || (!((((rd_T40 l0 x5_1).f2).toList) == (((rd_T40 l1 x5_1).f2).toList))))) = true := c7
    clear c7
    obtain rfl := Option.some.inj H
    have p286 : 0 ≤ (x5_1 : Int) := of_decide_eq_true (by first | (with_reducible assumption) | assumption)
    have q286 : x5_1 < (l0.length : Int) := of_decide_eq_true (by first | (with_reducible assumption) | assumption)
    obtain ⟨ad286, e286, hx286_0, hx286_1, hx286_2⟩ := at_T40 HR0.out x5_1 p286 q286
    cases e286
    replace p286 := eq_true p286
    replace q286 := eq_true q286
    have p287 : 0 ≤ (x5_1 : Int) := of_decide_eq_true (by first | (with_reducible assumption) | assumption)
    have q287 : x5_1 < (l1.length : Int) := of_decide_eq_true (by first | (with_reducible assumption) | assumption)
    obtain ⟨ad287, e287, hx287_0, hx287_1, hx287_2⟩ := at_T40 HR1.out x5_1 p287 q287
    cases e287
    replace p287 := eq_true p287
    replace q287 := eq_true q287
    go_wp2
    repeat (go_quiet (fail); try go_wp2)
    go_ret
    exact ⟨by first | rfl | (simp; done) | (simp [*]; done), by repeat (first | exact Drawn0.refl _ | apply Drawn0.step)⟩
   ·rw [if_neg c7] at H
    have c7b0 : (!(((rd_T40 l0 x5_1).f0) == ((rd_T40 l1 x5_1).f0)) || (!(((rd_T40 l0 x5_1).f1) == ((rd_T40 l1 x5_1).f1)) || (!((((rd_T40 l0 x5_1).f2).toList) == (((rd_T40 l1 x5_1).f2).toList))))) = false := by simpa using c7
    clear c7
    have H' := Aside0.mk H
    clear H
    have p286 : 0 ≤ (x5_1 : Int) := of_decide_eq_true (by first | (with_reducible assumption) | assumption)
    have q286 : x5_1 < (l0.length : Int) := of_decide_eq_true (by first | (with_reducible assumption) | assumption)
    obtain ⟨ad286, e286, hx286_0, hx286_1, hx286_2⟩ := at_T40 HR0.out x5_1 p286 q286
    cases e286
    replace p286 := eq_true p286
    replace q286 := eq_true q286
    have p287 : 0 ≤ (x5_1 : Int) := of_decide_eq_true (by first | (with_reducible assumption) | assumption)
    have q287 : x5_1 < (l1.length : Int) := of_decide_eq_true (by first | (with_reducible assumption) | assumption)
    obtain ⟨ad287, e287, hx287_0, hx287_1, hx287_2⟩ := at_T40 HR1.out x5_1 p287 q287
    cases e287
    replace p287 := eq_true p287
    replace q287 := eq_true q287
    go_wp2
    repeat (go_quiet (fail); try go_wp2)
    go_roundg k1
    case measure => have := HK1.out; omega
    case rel => exact ⟨(wrap64 (x5_1 + 1)), (by first | rfl | (simp; done) | (simp [*]; done)), H', ⟨by have := HK1.out; omega⟩, by repeat (first | exact Drawn0.refl _ | apply Drawn0.step)⟩

/-! ### skifflaw0_SameDevice: function 14 -/
def skifflaw0_SameDevice.f (k : Nat) (a0_0 : Int) (a0_1 : Int) (a0_2 : Int) (a0_3 : Int) (a0_4 : Int) (l0_5 : List (S40)) (a1_0 : Int) (a1_1 : Int) (a1_2 : Int) (a1_3 : Int) (a1_4 : Int) (l1_5 : List (S40)) : Option (Bool) := if a0_0 = a1_0 then (if a0_1 = a1_1 then (if a0_2 = a1_2 then (if a0_3 = a1_3 then (if a0_4 = a1_4 then ((skifflaw0_SameOps.f k l0_5 l1_5).bind fun t290 => (some t290)) else (some false)) else (some false)) else (some false)) else (some false)) else (some false)
theorem skifflaw0_SameDevice.mono : ∀ a0 a1 a2 a3 a4 a5 a6 a7 a8 a9 a10 a11 k, LeO (skifflaw0_SameDevice.f k a0 a1 a2 a3 a4 a5 a6 a7 a8 a9 a10 a11) (skifflaw0_SameDevice.f (k + 1) a0 a1 a2 a3 a4 a5 a6 a7 a8 a9 a10 a11) := by
 intro a0 a1 a2 a3 a4 a5 a6 a7 a8 a9 a10 a11 k
 unfold skifflaw0_SameDevice.f
 repeat' first
   | (with_reducible exact skifflaw0_SameOps.mono _ _ _)
   | (with_reducible exact LeO.refl _)
   | (with_reducible exact LeO.none _)
   | (with_reducible refine LeO.ite ?_ ?_)
   | (with_reducible refine LeO.bind ?_ (fun _ => ?_))
   | exact skifflaw0_SameOps.mono _ _ _
   | exact LeO.none _
   | refine LeO.ite ?_ ?_
   | refine LeO.bind ?_ (fun _ => ?_)
set_option maxHeartbeats 8000000 in
set_option maxRecDepth 100000 in
theorem skifflaw0_SameDevice.calls (k : Nat) (a0_0 : Int) (a0_1 : Int) (a0_2 : Int) (a0_3 : Int) (a0_4 : Int) (A0_5 : Option Addr) (c0_5 : Nat) (l0_5 : List (S40)) (a1_0 : Int) (a1_1 : Int) (a1_2 : Int) (a1_3 : Int) (a1_4 : Int) (A1_5 : Option Addr) (c1_5 : Nat) (l1_5 : List (S40)) (r : Bool) (w : World) (hr0_5 : Kd.C k40 w A0_5 l0_5.length l0_5) (hc0_5 : l0_5.length ≤ c0_5) (hr1_5 : Kd.C k40 w A1_5 l1_5.length l1_5) (hc1_5 : l1_5.length ≤ c1_5) (h : skifflaw0_SameDevice.f k a0_0 a0_1 a0_2 a0_3 a0_4 l0_5 a1_0 a1_1 a1_2 a1_3 a1_4 l1_5 = some r) :
  Calls Try.prog 14 #[.agg #[.int .i64 a0_0, .int .i64 a0_1, .int .i64 a0_2, .int .i64 a0_3, .int .i64 a0_4, .slice A0_5 l0_5.length c0_5], .agg #[.int .i64 a1_0, .int .i64 a1_1, .int .i64 a1_2, .int .i64 a1_3, .int .i64 a1_4, .slice A1_5 l1_5.length c1_5]] w fun e w' => e = .returned (.bool r) ∧ Below w.heap.size w w' := by
 have hu24 := Try.underlying24
 have HR0_5 := Aside0.mk hr0_5
 have HC0_5 := Aside0.mk hc0_5
 clear hr0_5 hc0_5
 have HR1_5 := Aside0.mk hr1_5
 have HC1_5 := Aside0.mk hc1_5
 clear hr1_5 hc1_5
 have HB := Aside0.mk (Below.refl w.heap.size w)
 have H : (if a0_0 = a1_0 then (if a0_1 = a1_1 then (if a0_2 = a1_2 then (if a0_3 = a1_3 then (if a0_4 = a1_4 then ((skifflaw0_SameOps.f k l0_5 l1_5).bind fun t290 => (some t290)) else (some false)) else (some false)) else (some false)) else (some false)) else (some false)) = some r := h
 clear h
 by_cases c3 : a0_0 = a1_0
 case neg =>
  rw [if_neg c3] at H
  have c3b0 : (a0_0 == a1_0) = false := beq_eq_false_iff_ne.mpr c3
  have c3b1 : (a0_0 != a1_0) = true := bne_iff_ne.mpr c3
  obtain rfl := Option.some.inj H
  go_enter Try.func14, Try.ntmps14
  go_wp2_with (first | ((with_reducible refine gate_dst (N := 2) rfl ?_); refine box_event ?hg (N := 2) ?hd (cs := #[.int .i64 a0_0, .int .i64 a0_1, .int .i64 a0_2, .int .i64 a0_3, .int .i64 a0_4, .slice A0_5 l0_5.length c0_5]) (t := 24) ?hr ?_; (case hd => rfl); (case hg => rfl); (case hr => first | (go_simp; done) | (go_simp; rfl)); intro gb288 hg w34 hbox hb; have n0_ := Aside0.mk (below_step (kb HB.out) hb); have n1_ := Aside0.mk (hbox); have n2_ := Aside0.mk ((kz hg (below_size (kb HB.out)) : w.heap.size ≤ gb288)); have n3_ := Aside0.mk ((kz hg (below_size (kb HB.out)) : w.heap.size ≤ gb288)); clear HB; have HB := n0_; have BK288 := n1_; have GW288 := n2_; have GE288 := n3_; clear n0_ n1_ n2_ n3_; clear hb hbox hg) | ((with_reducible refine gate_dst (N := 3) rfl ?_); refine box_event ?hg (N := 3) ?hd (cs := #[.int .i64 a1_0, .int .i64 a1_1, .int .i64 a1_2, .int .i64 a1_3, .int .i64 a1_4, .slice A1_5 l1_5.length c1_5]) (t := 24) ?hr ?_; (case hd => rfl); (case hg => rfl); (case hr => first | (go_simp; done) | (go_simp; rfl)); intro gb289 hg w35 hbox hb; have n0_ := Aside0.mk (kL BK288.out hb); have n1_ := Aside0.mk (below_step (kb1 HB.out GE288.out) hb); have n2_ := Aside0.mk (hbox); have n3_ := Aside0.mk ((kz hg (below_size (kb1 HB.out GE288.out)) : w.heap.size ≤ gb289)); have n4_ := Aside0.mk ((kz hg (below_size (kb1 HB.out GE288.out)) : w.heap.size ≤ gb289)); have n5_ := Aside0.mk ((kN hg BK288.out : gb288 ≠ gb289)); have n6_ := Aside0.mk (((kN hg BK288.out).symm : gb289 ≠ gb288)); clear BK288; clear HB; have BK288 := n0_; have HB := n1_; have BK289 := n2_; have GW289 := n3_; have GE289 := n4_; have NB288_289 := n5_; have NB289_288 := n6_; clear n0_ n1_ n2_ n3_ n4_ n5_ n6_; clear hb hbox hg; have hnb36 := NB288_289.out; have hnc36 := NB289_288.out; obtain ⟨hcz37_0, hcz37_1, hcz37_2, hcz37_3, hcz37_4, hcz37_5⟩ := kc6 BK288.out; obtain ⟨hfz37_0, hfz37_1, hfz37_2, hfz37_3, hfz37_4, hfz37_5⟩ := kf6 BK288.out; obtain ⟨hcz38_0, hcz38_1, hcz38_2, hcz38_3, hcz38_4, hcz38_5⟩ := kc6 BK289.out; obtain ⟨hfz38_0, hfz38_1, hfz38_2, hfz38_3, hfz38_4, hfz38_5⟩ := kf6 BK289.out))
  go_ret
  exact ⟨by first | rfl | (simp [errW_none, errW_some] <;> rfl) | (simp [*, errW_none, errW_some] <;> rfl), kb2 HB.out GE288.out GE289.out⟩
 rw [if_pos c3] at H
 have c3b0 : (a0_0 == a1_0) = true := beq_iff_eq.mpr c3
 have c3b1 : (a0_0 != a1_0) = false := bne_eq_false_iff_eq.mpr c3
 clear c3
 by_cases c4 : a0_1 = a1_1
 case neg =>
  rw [if_neg c4] at H
  have c4b0 : (a0_1 == a1_1) = false := beq_eq_false_iff_ne.mpr c4
  have c4b1 : (a0_1 != a1_1) = true := bne_iff_ne.mpr c4
  obtain rfl := Option.some.inj H
  go_enter Try.func14, Try.ntmps14
  go_wp2_with (first | ((with_reducible refine gate_dst (N := 2) rfl ?_); refine box_event ?hg (N := 2) ?hd (cs := #[.int .i64 a0_0, .int .i64 a0_1, .int .i64 a0_2, .int .i64 a0_3, .int .i64 a0_4, .slice A0_5 l0_5.length c0_5]) (t := 24) ?hr ?_; (case hd => rfl); (case hg => rfl); (case hr => first | (go_simp; done) | (go_simp; rfl)); intro gb288 hg w29 hbox hb; have n0_ := Aside0.mk (below_step (kb HB.out) hb); have n1_ := Aside0.mk (hbox); have n2_ := Aside0.mk ((kz hg (below_size (kb HB.out)) : w.heap.size ≤ gb288)); have n3_ := Aside0.mk ((kz hg (below_size (kb HB.out)) : w.heap.size ≤ gb288)); clear HB; have HB := n0_; have BK288 := n1_; have GW288 := n2_; have GE288 := n3_; clear n0_ n1_ n2_ n3_; clear hb hbox hg) | ((with_reducible refine gate_dst (N := 3) rfl ?_); refine box_event ?hg (N := 3) ?hd (cs := #[.int .i64 a1_0, .int .i64 a1_1, .int .i64 a1_2, .int .i64 a1_3, .int .i64 a1_4, .slice A1_5 l1_5.length c1_5]) (t := 24) ?hr ?_; (case hd => rfl); (case hg => rfl); (case hr => first | (go_simp; done) | (go_simp; rfl)); intro gb289 hg w30 hbox hb; have n0_ := Aside0.mk (kL BK288.out hb); have n1_ := Aside0.mk (below_step (kb1 HB.out GE288.out) hb); have n2_ := Aside0.mk (hbox); have n3_ := Aside0.mk ((kz hg (below_size (kb1 HB.out GE288.out)) : w.heap.size ≤ gb289)); have n4_ := Aside0.mk ((kz hg (below_size (kb1 HB.out GE288.out)) : w.heap.size ≤ gb289)); have n5_ := Aside0.mk ((kN hg BK288.out : gb288 ≠ gb289)); have n6_ := Aside0.mk (((kN hg BK288.out).symm : gb289 ≠ gb288)); clear BK288; clear HB; have BK288 := n0_; have HB := n1_; have BK289 := n2_; have GW289 := n3_; have GE289 := n4_; have NB288_289 := n5_; have NB289_288 := n6_; clear n0_ n1_ n2_ n3_ n4_ n5_ n6_; clear hb hbox hg; have hnb31 := NB288_289.out; have hnc31 := NB289_288.out; obtain ⟨hcz32_0, hcz32_1, hcz32_2, hcz32_3, hcz32_4, hcz32_5⟩ := kc6 BK288.out; obtain ⟨hfz32_0, hfz32_1, hfz32_2, hfz32_3, hfz32_4, hfz32_5⟩ := kf6 BK288.out; obtain ⟨hcz33_0, hcz33_1, hcz33_2, hcz33_3, hcz33_4, hcz33_5⟩ := kc6 BK289.out; obtain ⟨hfz33_0, hfz33_1, hfz33_2, hfz33_3, hfz33_4, hfz33_5⟩ := kf6 BK289.out))
  go_ret
  exact ⟨by first | rfl | (simp [errW_none, errW_some] <;> rfl) | (simp [*, errW_none, errW_some] <;> rfl), kb2 HB.out GE288.out GE289.out⟩
 rw [if_pos c4] at H
 have c4b0 : (a0_1 == a1_1) = true := beq_iff_eq.mpr c4
 have c4b1 : (a0_1 != a1_1) = false := bne_eq_false_iff_eq.mpr c4
 clear c4
 by_cases c5 : a0_2 = a1_2
 case neg =>
  rw [if_neg c5] at H
  have c5b0 : (a0_2 == a1_2) = false := beq_eq_false_iff_ne.mpr c5
  have c5b1 : (a0_2 != a1_2) = true := bne_iff_ne.mpr c5
  obtain rfl := Option.some.inj H
  go_enter Try.func14, Try.ntmps14
  go_wp2_with (first | ((with_reducible refine gate_dst (N := 2) rfl ?_); refine box_event ?hg (N := 2) ?hd (cs := #[.int .i64 a0_0, .int .i64 a0_1, .int .i64 a0_2, .int .i64 a0_3, .int .i64 a0_4, .slice A0_5 l0_5.length c0_5]) (t := 24) ?hr ?_; (case hd => rfl); (case hg => rfl); (case hr => first | (go_simp; done) | (go_simp; rfl)); intro gb288 hg w24 hbox hb; have n0_ := Aside0.mk (below_step (kb HB.out) hb); have n1_ := Aside0.mk (hbox); have n2_ := Aside0.mk ((kz hg (below_size (kb HB.out)) : w.heap.size ≤ gb288)); have n3_ := Aside0.mk ((kz hg (below_size (kb HB.out)) : w.heap.size ≤ gb288)); clear HB; have HB := n0_; have BK288 := n1_; have GW288 := n2_; have GE288 := n3_; clear n0_ n1_ n2_ n3_; clear hb hbox hg) | ((with_reducible refine gate_dst (N := 3) rfl ?_); refine box_event ?hg (N := 3) ?hd (cs := #[.int .i64 a1_0, .int .i64 a1_1, .int .i64 a1_2, .int .i64 a1_3, .int .i64 a1_4, .slice A1_5 l1_5.length c1_5]) (t := 24) ?hr ?_; (case hd => rfl); (case hg => rfl); (case hr => first | (go_simp; done) | (go_simp; rfl)); intro gb289 hg w25 hbox hb; have n0_ := Aside0.mk (kL BK288.out hb); have n1_ := Aside0.mk (below_step (kb1 HB.out GE288.out) hb); have n2_ := Aside0.mk (hbox); have n3_ := Aside0.mk ((kz hg (below_size (kb1 HB.out GE288.out)) : w.heap.size ≤ gb289)); have n4_ := Aside0.mk ((kz hg (below_size (kb1 HB.out GE288.out)) : w.heap.size ≤ gb289)); have n5_ := Aside0.mk ((kN hg BK288.out : gb288 ≠ gb289)); have n6_ := Aside0.mk (((kN hg BK288.out).symm : gb289 ≠ gb288)); clear BK288; clear HB; have BK288 := n0_; have HB := n1_; have BK289 := n2_; have GW289 := n3_; have GE289 := n4_; have NB288_289 := n5_; have NB289_288 := n6_; clear n0_ n1_ n2_ n3_ n4_ n5_ n6_; clear hb hbox hg; have hnb26 := NB288_289.out; have hnc26 := NB289_288.out; obtain ⟨hcz27_0, hcz27_1, hcz27_2, hcz27_3, hcz27_4, hcz27_5⟩ := kc6 BK288.out; obtain ⟨hfz27_0, hfz27_1, hfz27_2, hfz27_3, hfz27_4, hfz27_5⟩ := kf6 BK288.out; obtain ⟨hcz28_0, hcz28_1, hcz28_2, hcz28_3, hcz28_4, hcz28_5⟩ := kc6 BK289.out; obtain ⟨hfz28_0, hfz28_1, hfz28_2, hfz28_3, hfz28_4, hfz28_5⟩ := kf6 BK289.out))
  go_ret
  exact ⟨by first | rfl | (simp [errW_none, errW_some] <;> rfl) | (simp [*, errW_none, errW_some] <;> rfl), kb2 HB.out GE288.out GE289.out⟩
 rw [if_pos c5] at H
 have c5b0 : (a0_2 == a1_2) = true := beq_iff_eq.mpr c5
 have c5b1 : (a0_2 != a1_2) = false := bne_eq_false_iff_eq.mpr c5
 clear c5
 by_cases c6 : a0_3 = a1_3
 case neg =>
  rw [if_neg c6] at H
  have c6b0 : (a0_3 == a1_3) = false := beq_eq_false_iff_ne.mpr c6
  have c6b1 : (a0_3 != a1_3) = true := bne_iff_ne.mpr c6
  obtain rfl := Option.some.inj H
  go_enter Try.func14, Try.ntmps14
  go_wp2_with (first | ((with_reducible refine gate_dst (N := 2) rfl ?_); refine box_event ?hg (N := 2) ?hd (cs := #[.int .i64 a0_0, .int .i64 a0_1, .int .i64 a0_2, .int .i64 a0_3, .int .i64 a0_4, .slice A0_5 l0_5.length c0_5]) (t := 24) ?hr ?_; (case hd => rfl); (case hg => rfl); (case hr => first | (go_simp; done) | (go_simp; rfl)); intro gb288 hg w19 hbox hb; have n0_ := Aside0.mk (below_step (kb HB.out) hb); have n1_ := Aside0.mk (hbox); have n2_ := Aside0.mk ((kz hg (below_size (kb HB.out)) : w.heap.size ≤ gb288)); have n3_ := Aside0.mk ((kz hg (below_size (kb HB.out)) : w.heap.size ≤ gb288)); clear HB; have HB := n0_; have BK288 := n1_; have GW288 := n2_; have GE288 := n3_; clear n0_ n1_ n2_ n3_; clear hb hbox hg) | ((with_reducible refine gate_dst (N := 3) rfl ?_); refine box_event ?hg (N := 3) ?hd (cs := #[.int .i64 a1_0, .int .i64 a1_1, .int .i64 a1_2, .int .i64 a1_3, .int .i64 a1_4, .slice A1_5 l1_5.length c1_5]) (t := 24) ?hr ?_; (case hd => rfl); (case hg => rfl); (case hr => first | (go_simp; done) | (go_simp; rfl)); intro gb289 hg w20 hbox hb; have n0_ := Aside0.mk (kL BK288.out hb); have n1_ := Aside0.mk (below_step (kb1 HB.out GE288.out) hb); have n2_ := Aside0.mk (hbox); have n3_ := Aside0.mk ((kz hg (below_size (kb1 HB.out GE288.out)) : w.heap.size ≤ gb289)); have n4_ := Aside0.mk ((kz hg (below_size (kb1 HB.out GE288.out)) : w.heap.size ≤ gb289)); have n5_ := Aside0.mk ((kN hg BK288.out : gb288 ≠ gb289)); have n6_ := Aside0.mk (((kN hg BK288.out).symm : gb289 ≠ gb288)); clear BK288; clear HB; have BK288 := n0_; have HB := n1_; have BK289 := n2_; have GW289 := n3_; have GE289 := n4_; have NB288_289 := n5_; have NB289_288 := n6_; clear n0_ n1_ n2_ n3_ n4_ n5_ n6_; clear hb hbox hg; have hnb21 := NB288_289.out; have hnc21 := NB289_288.out; obtain ⟨hcz22_0, hcz22_1, hcz22_2, hcz22_3, hcz22_4, hcz22_5⟩ := kc6 BK288.out; obtain ⟨hfz22_0, hfz22_1, hfz22_2, hfz22_3, hfz22_4, hfz22_5⟩ := kf6 BK288.out; obtain ⟨hcz23_0, hcz23_1, hcz23_2, hcz23_3, hcz23_4, hcz23_5⟩ := kc6 BK289.out; obtain ⟨hfz23_0, hfz23_1, hfz23_2, hfz23_3, hfz23_4, hfz23_5⟩ := kf6 BK289.out))
  go_ret
  exact ⟨by first | rfl | (simp [errW_none, errW_some] <;> rfl) | (simp [*, errW_none, errW_some] <;> rfl), kb2 HB.out GE288.out GE289.out⟩
 rw [if_pos c6] at H
 have c6b0 : (a0_3 == a1_3) = true := beq_iff_eq.mpr c6
 have c6b1 : (a0_3 != a1_3) = false := bne_eq_false_iff_eq.mpr c6
 clear c6
 by_cases c7 : a0_4 = a1_4
 case neg =>
  rw [if_neg c7] at H
  have c7b0 : (a0_4 == a1_4) = false := beq_eq_false_iff_ne.mpr c7
  have c7b1 : (a0_4 != a1_4) = true := bne_iff_ne.mpr c7
  obtain rfl := Option.some.inj H
  go_enter Try.func14, Try.ntmps14
  go_wp2_with (first | ((with_reducible refine gate_dst (N := 2) rfl ?_); refine box_event ?hg (N := 2) ?hd (cs := #[.int .i64 a0_0, .int .i64 a0_1, .int .i64 a0_2, .int .i64 a0_3, .int .i64 a0_4, .slice A0_5 l0_5.length c0_5]) (t := 24) ?hr ?_; (case hd => rfl); (case hg => rfl); (case hr => first | (go_simp; done) | (go_simp; rfl)); intro gb288 hg w14 hbox hb; have n0_ := Aside0.mk (below_step (kb HB.out) hb); have n1_ := Aside0.mk (hbox); have n2_ := Aside0.mk ((kz hg (below_size (kb HB.out)) : w.heap.size ≤ gb288)); have n3_ := Aside0.mk ((kz hg (below_size (kb HB.out)) : w.heap.size ≤ gb288)); clear HB; have HB := n0_; have BK288 := n1_; have GW288 := n2_; have GE288 := n3_; clear n0_ n1_ n2_ n3_; clear hb hbox hg) | ((with_reducible refine gate_dst (N := 3) rfl ?_); refine box_event ?hg (N := 3) ?hd (cs := #[.int .i64 a1_0, .int .i64 a1_1, .int .i64 a1_2, .int .i64 a1_3, .int .i64 a1_4, .slice A1_5 l1_5.length c1_5]) (t := 24) ?hr ?_; (case hd => rfl); (case hg => rfl); (case hr => first | (go_simp; done) | (go_simp; rfl)); intro gb289 hg w15 hbox hb; have n0_ := Aside0.mk (kL BK288.out hb); have n1_ := Aside0.mk (below_step (kb1 HB.out GE288.out) hb); have n2_ := Aside0.mk (hbox); have n3_ := Aside0.mk ((kz hg (below_size (kb1 HB.out GE288.out)) : w.heap.size ≤ gb289)); have n4_ := Aside0.mk ((kz hg (below_size (kb1 HB.out GE288.out)) : w.heap.size ≤ gb289)); have n5_ := Aside0.mk ((kN hg BK288.out : gb288 ≠ gb289)); have n6_ := Aside0.mk (((kN hg BK288.out).symm : gb289 ≠ gb288)); clear BK288; clear HB; have BK288 := n0_; have HB := n1_; have BK289 := n2_; have GW289 := n3_; have GE289 := n4_; have NB288_289 := n5_; have NB289_288 := n6_; clear n0_ n1_ n2_ n3_ n4_ n5_ n6_; clear hb hbox hg; have hnb16 := NB288_289.out; have hnc16 := NB289_288.out; obtain ⟨hcz17_0, hcz17_1, hcz17_2, hcz17_3, hcz17_4, hcz17_5⟩ := kc6 BK288.out; obtain ⟨hfz17_0, hfz17_1, hfz17_2, hfz17_3, hfz17_4, hfz17_5⟩ := kf6 BK288.out; obtain ⟨hcz18_0, hcz18_1, hcz18_2, hcz18_3, hcz18_4, hcz18_5⟩ := kc6 BK289.out; obtain ⟨hfz18_0, hfz18_1, hfz18_2, hfz18_3, hfz18_4, hfz18_5⟩ := kf6 BK289.out))
  go_ret
  exact ⟨by first | rfl | (simp [errW_none, errW_some] <;> rfl) | (simp [*, errW_none, errW_some] <;> rfl), kb2 HB.out GE288.out GE289.out⟩
 rw [if_pos c7] at H
 have c7b0 : (a0_4 == a1_4) = true := beq_iff_eq.mpr c7
 have c7b1 : (a0_4 != a1_4) = false := bne_eq_false_iff_eq.mpr c7
 clear c7
 replace H := Option.bind_eq_some_iff.mp H
 obtain ⟨t290, A80, H⟩ := H
 replace H : (some t290) = some r := H
 have A8 := Aside0.mk A80
 clear A80
 obtain rfl := Option.some.inj H
 go_enter Try.func14, Try.ntmps14
 go_wp2_with (first | ((with_reducible refine gate_dst (N := 2) rfl ?_); refine box_event ?hg (N := 2) ?hd (cs := #[.int .i64 a0_0, .int .i64 a0_1, .int .i64 a0_2, .int .i64 a0_3, .int .i64 a0_4, .slice A0_5 l0_5.length c0_5]) (t := 24) ?hr ?_; (case hd => rfl); (case hg => rfl); (case hr => first | (go_simp; done) | (go_simp; rfl)); intro gb288 hg w9 hbox hb; have n0_ := Aside0.mk (below_step (kb HB.out) hb); have n1_ := Aside0.mk (hbox); have n2_ := Aside0.mk ((kz hg (below_size (kb HB.out)) : w.heap.size ≤ gb288)); have n3_ := Aside0.mk ((kz hg (below_size (kb HB.out)) : w.heap.size ≤ gb288)); clear HB; have HB := n0_; have BK288 := n1_; have GW288 := n2_; have GE288 := n3_; clear n0_ n1_ n2_ n3_; clear hb hbox hg) | ((with_reducible refine gate_dst (N := 3) rfl ?_); refine box_event ?hg (N := 3) ?hd (cs := #[.int .i64 a1_0, .int .i64 a1_1, .int .i64 a1_2, .int .i64 a1_3, .int .i64 a1_4, .slice A1_5 l1_5.length c1_5]) (t := 24) ?hr ?_; (case hd => rfl); (case hg => rfl); (case hr => first | (go_simp; done) | (go_simp; rfl)); intro gb289 hg w10 hbox hb; have n0_ := Aside0.mk (kL BK288.out hb); have n1_ := Aside0.mk (below_step (kb1 HB.out GE288.out) hb); have n2_ := Aside0.mk (hbox); have n3_ := Aside0.mk ((kz hg (below_size (kb1 HB.out GE288.out)) : w.heap.size ≤ gb289)); have n4_ := Aside0.mk ((kz hg (below_size (kb1 HB.out GE288.out)) : w.heap.size ≤ gb289)); have n5_ := Aside0.mk ((kN hg BK288.out : gb288 ≠ gb289)); have n6_ := Aside0.mk (((kN hg BK288.out).symm : gb289 ≠ gb288)); clear BK288; clear HB; have BK288 := n0_; have HB := n1_; have BK289 := n2_; have GW289 := n3_; have GE289 := n4_; have NB288_289 := n5_; have NB289_288 := n6_; clear n0_ n1_ n2_ n3_ n4_ n5_ n6_; clear hb hbox hg; have hnb11 := NB288_289.out; have hnc11 := NB289_288.out; obtain ⟨hcz12_0, hcz12_1, hcz12_2, hcz12_3, hcz12_4, hcz12_5⟩ := kc6 BK288.out; obtain ⟨hfz12_0, hfz12_1, hfz12_2, hfz12_3, hfz12_4, hfz12_5⟩ := kf6 BK288.out; obtain ⟨hcz13_0, hcz13_1, hcz13_2, hcz13_3, hcz13_4, hcz13_5⟩ := kc6 BK289.out; obtain ⟨hfz13_0, hfz13_1, hfz13_2, hfz13_3, hfz13_4, hfz13_5⟩ := kf6 BK289.out) | (go_at_call 38; (with_reducible refine (skifflaw0_SameOps.calls k _ _ l0_5 _ _ l1_5 t290 _ ?side1 ?side2 ?side3 ?side4 A8.out).mono ?_); (case side1 => exact kC (Kd.C_below HR0_5.out HB.out)); (case side2 => exact HC0_5.out); (case side3 => exact kC (Kd.C_below HR1_5.out HB.out)); (case side4 => exact HC1_5.out); rintro e w' ⟨rfl, ⟨nd, rfl⟩⟩))
 go_ret
 exact ⟨by first | rfl | (simp [errW_none, errW_some] <;> rfl) | (simp [*, errW_none, errW_some] <;> rfl), kb2 HB.out GE288.out GE289.out⟩

end Go.Proofs.Ytgoeooghoojdgaa.P
