/- slices.ContainsFunc over steps, of the function that tells an odd one. -/
import Derived.Test.YtgoeooghoojdgaaZ2HandA
import Derived.Test.YtgoeooghoojdgaaZ2Px2
set_option linter.unusedVariables false
set_option linter.unusedSimpArgs false
set_option maxHeartbeats 4000000
namespace Go.Proofs.Ytgoeooghoojdgaa.P
open Go.RowKit Go.Proofs.YtgoeooghoojdgaaW.PrintWords Go.Proofs.YtgoeooghoojdgaaW.PrintLast Go.Proofs.YtgoeooghoojdgaaW.PrintMore

theorem asExt {P : Program} {f : FuncId} {args : Array Value} {w : World} {v : Ending} (h : Calls P f args w fun e w' => e = v ∧ Below w.heap.size w w') : Calls P f args w fun e w' => e = v ∧ Ext w w' := h
abbrev OpS := S40
theorem bind_ex {α β : Type} {x : Option α} {f : α → Option β} (h : ∃ a, x = some a) (k : ∀ a, ∃ b, f a = some b) : ∃ b, x.bind f = some b := by
  obtain ⟨a, rfl⟩ := h; exact k a
theorem ite_ex {α : Type} {c : Prop} [Decidable c] {x y : Option α} (h : ∃ a, x = some a) (k : ∃ a, y = some a) : ∃ a, (if c then x else y) = some a := by
  split; exact h; exact k
theorem mayOp_some (e : Bool) (a : Int) (t : ByteArray) : ∃ b, ops_May.f e a t = some b := by
  unfold ops_May.f nor_Sector.f nor_Begins.f
  repeat' first | exact ⟨_, rfl⟩ | refine ite_ex ?_ ?_ | refine bind_ex ?_ (fun _ => ?_)
def oddB (o : OpS) : Bool := !((ops_May.f o.f0 o.f1 o.f2).getD true)
theorem odd_calls (o : OpS) (w : World) :
    Calls Try.prog 47 #[.agg #[.bool o.f0, .int .i64 o.f1, .string o.f2]] w fun e w' => e = .returned (.bool (oddB o)) ∧ Ext w w' := by
  obtain ⟨b, hb⟩ := mayOp_some o.f0 o.f1 o.f2
  have ho : oddB o = !b := by unfold oddB; rw [hb]; rfl
  have P1 := Lib.hid (fun w => asExt (ops_May.calls o.f0 o.f1 o.f2 b w hb))
  rw [ho]
  clear ho hb
  go_enter Try.func47, Try.ntmps47
  go_wp2_with fail
  refine (P1.out _).mono ?_
  rintro e w1 ⟨rfl, B1⟩
  go_wp2
  go_ret
  exact ⟨rfl, (by repeat (first | (with_reducible exact Ext.refl _) | (with_reducible assumption) | (with_reducible refine Ext.drewN ?_ _) | (with_reducible refine Ext.drew ?_) | (with_reducible refine Ext.alloc ?_ _) | (with_reducible refine Ext.setCell ?_ (by first | exact Nat.le_refl _ | (simp <;> omega)) _) | (with_reducible refine Ext.trans ?_ (by with_reducible assumption))))⟩
set_option maxRecDepth 100000 in
theorem index_calls (A : Option Addr) (c : Nat) (l : List OpS) (w : World) (hr : Kd.C k40 w A l.length l) (hl : l.length ≤ 4611686018427387904) :
    Calls Try.prog 65 #[.slice A l.length c, .func (.func 47) #[] #[]] w fun e w' => (∃ r : Int, e = .returned (.int .i64 r) ∧ decide (0 ≤ r) = l.any oddB) ∧ Ext w w' := by
  have HR := Lib.hid hr
  clear hr
  obtain ⟨B, hB⟩ : ∃ B, l.any oddB = B := ⟨_, rfl⟩
  rw [hB]
  have HB := Lib.hid hB
  clear hB
  have hu40 := Try.underlying40
  go_enter Try.func65, Try.ntmps65
  go_wp2
  go_loopw [8] (fun i wr => ∃ j : Nat, j ≤ l.length ∧ i = .int .i64 (j : Int) ∧ Hid (∀ k (h : k < l.length), k < j → oddB l[k] = false) ∧ Hid (Ext w wr)) (fun i _ => l.length - (intOf i).toNat)
  case atStart => exact ⟨0, by omega, rfl, Lib.hid (fun k _ h => by omega), Lib.hid (Ext.refl w)⟩
  case round =>
    obtain ⟨j, hj, rfl, HJ, HE⟩ := hrel
    by_cases c : j < l.length
    · obtain ⟨ad, e1, x0, x1, x2⟩ := at_T40 HR.out (j : Int) (by omega) (by omega)
      cases e1
      replace x0 := HE.out.cell x0
      replace x1 := HE.out.cell x1
      replace x2 := HE.out.cell x2
      have hrd : rd_T40 l (j : Int) = l[j] := by
        unfold rd_T40
        rw [Int.toNat_natCast, List.getD_eq_getElem?_getD, List.getElem?_eq_getElem c]; rfl
      rw [Int.toNat_natCast] at x0 x1 x2
      rw [hrd] at x0 x1 x2
      obtain ⟨o, ho⟩ : ∃ o, l[j] = o := ⟨_, rfl⟩
      rw [ho] at x0 x1 x2
      have P1 := Lib.hid (fun w => odd_calls o w)
      cases hb : oddB o
      · rw [hb] at P1
        have HJ2 : Hid (∀ k (h : k < l.length), k < j + 1 → oddB l[k] = false) := Lib.hid (fun k h hk => by
          by_cases e : k = j
          · subst e; rw [ho]; exact hb
          · exact HJ.out k h (by omega))
        clear hb HJ ho hrd
        go_wp2_with fail
        refine (P1.out _).mono ?_
        rintro e w1 ⟨rfl, B1⟩
        go_wp2
        go_round
        case rel => exact ⟨j + 1, by omega, by go_num, HJ2, Lib.hid (HE.out.trans (by first | exact B1 | exact (by repeat (first | (with_reducible exact Ext.refl _) | (with_reducible assumption) | (with_reducible refine Ext.drewN ?_ _) | (with_reducible refine Ext.drew ?_) | (with_reducible refine Ext.alloc ?_ _) | (with_reducible refine Ext.setCell ?_ (by first | exact Nat.le_refl _ | (simp <;> omega)) _) | (with_reducible refine Ext.trans ?_ (by with_reducible assumption))))))⟩
        case measure => simp [intOf]; omega
      · rw [hb] at P1
        have hA : l.any oddB = true := List.any_eq_true.2 ⟨o, by rw [← ho]; exact List.getElem_mem c, hb⟩
        rw [HB.out] at hA
        have HA := Lib.hid hA
        clear hb HJ ho hrd hA
        go_wp2_with fail
        refine (P1.out _).mono ?_
        rintro e w1 ⟨rfl, B1⟩
        go_wp2
        go_ret
        exact ⟨⟨_, rfl, by rw [HA.out]; simp⟩, HE.out.trans (by first | exact B1 | exact (by repeat (first | (with_reducible exact Ext.refl _) | (with_reducible assumption) | (with_reducible refine Ext.drewN ?_ _) | (with_reducible refine Ext.drew ?_) | (with_reducible refine Ext.alloc ?_ _) | (with_reducible refine Ext.setCell ?_ (by first | exact Nat.le_refl _ | (simp <;> omega)) _) | (with_reducible refine Ext.trans ?_ (by with_reducible assumption)))))⟩
    · obtain rfl : j = l.length := by omega
      have hA : l.any oddB = false := by
        rw [Bool.eq_false_iff]
        intro h
        obtain ⟨o, h1, h2⟩ := List.any_eq_true.1 h
        obtain ⟨k, hk, rfl⟩ := List.getElem_of_mem h1
        rw [HJ.out k hk hk] at h2
        cases h2
      rw [HB.out] at hA
      have HA := Lib.hid hA
      clear hA HJ
      go_wp2
      go_ret
      exact ⟨⟨_, rfl, by rw [HA.out]; simp⟩, HE.out⟩
theorem slices_ContainsFunc_Op.calls (A0 : Option Addr) (c0 : Nat) (l0 : List OpS) (r : Bool) (w : World) (hr0 : Kd.C k40 w A0 l0.length l0) (hc0 : l0.length ≤ c0) (h : slices_ContainsFunc_Op.f l0 = some r) :
    Calls Try.prog 53 #[.slice A0 l0.length c0, .func (.func 47) #[] #[]] w fun e w' => e = .returned (.bool r) ∧ Below w.heap.size w w' := by
  unfold slices_ContainsFunc_Op.f at h
  split at h
  case isFalse => cases h
  rename_i hl
  have hr : l0.any oddB = r := Option.some.inj h
  have P1 := Lib.hid (fun w h => index_calls A0 c0 l0 w h hl)
  rw [hr] at P1
  have HR := Lib.hid hr0
  clear h hr0 hr
  go_enter Try.func53, Try.ntmps53
  go_wp2_with fail
  refine (P1.out _ HR.out).mono ?_
  rintro e w1 ⟨⟨i, rfl, hi⟩, B1⟩
  have HI := Lib.hid hi
  clear hi
  go_wp2
  go_ret
  exact ⟨by first | rfl | (simp; done) | (rw [HI.out]; done) | (simp [HI.out]), B1⟩

end Go.Proofs.Ytgoeooghoojdgaa.P
