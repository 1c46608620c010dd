/- Texts of this claim, laid together. -/
import Derived.Lib.LazyBuf
import Derived.Test.YtmidohjfajbpmaaZ0Cz
import Derived.Test.YtmidohjfajbpmaaZ0M22
import Derived.Test.YtmidohjfajbpmaaZ0M23
import Derived.Test.YtmidohjfajbpmaaZ0Px5
import Derived.Test.YtmidohjfajbpmaaZ0WGuard
section
set_option linter.unusedVariables false
set_option linter.unusedSimpArgs false
set_option maxHeartbeats 4000000
namespace Go.Proofs.Ytmidohjfajbpmaa
open Go.RowKit Go.Proofs.YtmidohjfajbpmaaW.PrintWords Go.Proofs.YtmidohjfajbpmaaW.PrintMore Go.Proofs.YtmidohjfajbpmaaW.PrintLast

abbrev pz : Plc := P.z43
def pkey (p : Plc) : Int := p.f1.f0 * 1000 + p.f0
/-- The heap's state: a queue's variable g, its row. -/
structure StH (w0 : World) (g : Nat) (A : Option Addr) (c : Nat) (l : List Plc) (w : World) : Prop where
  below : Below w0.heap.size w0 w
  row : Kd.R P.k43 43 w w0.heap.size (fun k => some k = (Value.slice A l.length c).ownBlock) (.slice A l.length c) l
  box : w.heap[g]? = some (.cells #[.slice A l.length c] 82 (0, 0))
  mine : w0.heap.size ≤ g
  apart : some g ≠ (Value.slice A l.length c).ownBlock
theorem StH.cell {w0 g A c l w} (h : StH w0 g A c l w) : w.cell? ⟨g, 0, none⟩ = some (.slice A l.length c) := (blk_cell h.box 0).trans rfl
theorem StH.step {w0 g A c l w w'} (h : StH w0 g A c l w) (hb : Below w.heap.size w w') : StH w0 g A c l w' where
  below := h.below.trans (hb.mono h.below.size)
  row := Kd.R_below h.row hb
  box := blk_below h.box hb
  mine := h.mine
  apart := h.apart
/-- Places as a flash has them. -/
def Ats (l : List Plc) : Prop := ∀ p ∈ l, 0 ≤ p.f0 ∧ p.f0 < 192
theorem less_f (l : List Plc) (hl : Ats l) (i j : Nat) (hi : i < l.length) (hj : j < l.length) : P.choose_queue_Less.f l i j = some (decide (pkey (l.getD i pz) > pkey (l.getD j pz))) := by
  have mem : ∀ k (hk : k < l.length), l.getD k pz ∈ l := fun k hk => by rw [List.getD_eq_getElem?_getD, List.getElem?_eq_getElem hk]; exact List.getElem_mem hk
  have ri : P.rd_T43 l (i : Int) = l.getD i pz := rfl
  have rj : P.rd_T43 l (j : Int) = l.getD j pz := rfl
  have ai := hl _ (mem i hi)
  have aj := hl _ (mem j hj)
  unfold P.choose_queue_Less.f
  rw [if_pos (by omega), if_pos (by omega), if_pos (by omega), if_pos (by omega), ri, rj]
  generalize l.getD i pz = p at ai
  generalize l.getD j pz = q at aj
  unfold pkey
  by_cases h : p.f1.f0 = q.f1.f0
  · rw [if_pos h]
    congr 1
    rw [decide_eq_decide]
    omega
  · rw [if_neg h]
    congr 1
    rw [decide_eq_decide]
    omega
theorem hless_calls {w0 g A c l w} (h : StH w0 g A c l w) (hl : Ats l) (i j : Nat) (hi : i < l.length) (hj : j < l.length) :
    Calls Try.prog 107 #[.slice A l.length c, .int .i64 i, .int .i64 j] w fun e w' => e = .returned (.bool (decide (pkey (l.getD i pz) > pkey (l.getD j pz)))) ∧ StH w0 g A c l w' :=
  (P.choose_queue_Less.calls A c l i j _ w (Kd.R_reads' h.row).2.2 (Kd.R_reads' h.row).2.1 (less_f l hl i j hi hj)).mono fun e w' ⟨he, hb⟩ => ⟨he, h.step hb⟩
theorem swap_f (l : List Plc) (i j : Nat) (hi : i < l.length) (hj : j < l.length) : P.choose_queue_Swap.f l i j = some (Hp.swp pz l i j) := by
  unfold P.choose_queue_Swap.f
  rw [if_pos (by omega), if_pos (by omega), if_pos (by omega), if_pos (by omega)]; rfl
theorem hswap_calls {w0 g A c l w} (h : StH w0 g A c l w) (i j : Nat) (hi : i < l.length) (hj : j < l.length) :
    Calls Try.prog 108 #[.slice A l.length c, .int .i64 i, .int .i64 j] w fun e w' => e = .returned (.tuple #[]) ∧ StH w0 g A c (Hp.swp pz l i j) w' :=
  (P.choose_queue_Swap.calls _ _ l i j _ w0 w h.below h.row (swap_f l i j hi hj)).mono fun e w' ⟨he, hr, hb, hk⟩ => by
    have hlt : g < w.heap.size := by
      rcases Nat.lt_or_ge g w.heap.size with h1 | h1
      · exact h1
      · have := h.box; rw [Array.getElem?_eq_none h1] at this; cases this
    refine ⟨he, ⟨hb, ?_, ?_, h.mine, ?_⟩⟩
    · rw [Hp.swp_length]
      exact Kd.R_tight rfl hr
    · rw [Hp.swp_length, hk.2 g hlt (fun e => h.apart e)]
      exact h.box
    · rw [Hp.swp_length]; exact h.apart
theorem hlen_calls {w0 g A c l w} (h : StH w0 g A c l w) : Calls Try.prog 55 #[.slice A l.length c] w fun e w' => e = .returned (.int .i64 (l.length : Int)) ∧ StH w0 g A c l w' :=
  (P.choose_queue_Len.calls A c l _ w (Kd.R_reads' h.row).2.2 (Kd.R_reads' h.row).2.1 rfl).mono fun e w' ⟨he, hd⟩ => ⟨he, by
    obtain ⟨n, rfl⟩ := hd.out
    exact h.step (pw_below_drewN (Below.refl _ _) n)⟩

/-- A call of Less through the interface. -/
theorem inv_less {w0 g A c l} (i j : Nat) {ix jx : Int} {W : World} {ops : Array Oper} {rest : List Oper} {o : Oper} {a : Act} {Q : Exit → Act → World → Prop} (hg : o.guard = none) {r x y : Operand} {ts : Array TypeId}
    (hop : o.op = Op.call { callee := Callee.invoke r "Less", args := #[x, y], argTypes := ts }) (hr : a.eval r = .iface 84 (.pointer (some ⟨g, 0, none⟩))) (hx : a.eval x = .int .i64 ix) (hy : a.eval y = .int .i64 jx) (ei : ix = i) (ej : jx = j)
    (S : StH w0 g A c l W) (hl : Ats l) (hi : i < l.length) (hj : j < l.length) (hK : ∀ w', StH w0 g A c l w' → wpList Try.prog ops Q rest (a.put o.dst (.bool (decide (pkey (l.getD i pz) > pkey (l.getD j pz))))) w') : wpList Try.prog ops Q (o :: rest) a W := by
  subst ei ej
  refine wpList_plain hg fun K hK' => ?_
  have m0 := fun n => que_less n g _ W S.cell
  have eL : ∀ args w, (callFunc 107 args).run Try.prog w = .ok (.enter 107 args) w := enters_ Try.func107 (by kernel_rfl) rfl
  have hrun : (execOp a.eval o).run Try.prog W = .ok (.enter 107 #[.slice A l.length c, .int .i64 i, .int .i64 j]) W := by
    generalize a.eval = ρ at hr hx hy
    simp [execOp, hop, resolve, invoke, callMethod, go_sem, hr, hx, hy, m0, eL]
  unfold Oper.wp
  rw [hrun, Oper.upon_enter]
  refine (hless_calls S hl i j hi hj).mono ?_
  rintro e w' ⟨rfl, S'⟩
  exact hK' _ _ (hK _ S')
theorem inv_swap {w0 g A c l} (i j : Nat) {ix jx : Int} {W : World} {ops : Array Oper} {rest : List Oper} {o : Oper} {a : Act} {Q : Exit → Act → World → Prop} (hg : o.guard = none) {r x y : Operand} {ts : Array TypeId}
    (hop : o.op = Op.call { callee := Callee.invoke r "Swap", args := #[x, y], argTypes := ts }) (hr : a.eval r = .iface 84 (.pointer (some ⟨g, 0, none⟩))) (hx : a.eval x = .int .i64 ix) (hy : a.eval y = .int .i64 jx) (ei : ix = i) (ej : jx = j)
    (S : StH w0 g A c l W) (hi : i < l.length) (hj : j < l.length) (hK : ∀ w', StH w0 g A c (Hp.swp pz l i j) w' → wpList Try.prog ops Q rest (a.put o.dst (.tuple #[])) w') : wpList Try.prog ops Q (o :: rest) a W := by
  subst ei ej
  refine wpList_plain hg fun K hK' => ?_
  have m0 := fun n => que_swap n g _ W S.cell
  have eL : ∀ args w, (callFunc 108 args).run Try.prog w = .ok (.enter 108 args) w := enters_ Try.func108 (by kernel_rfl) rfl
  have hrun : (execOp a.eval o).run Try.prog W = .ok (.enter 108 #[.slice A l.length c, .int .i64 i, .int .i64 j]) W := by
    generalize a.eval = ρ at hr hx hy
    simp [execOp, hop, resolve, invoke, callMethod, go_sem, hr, hx, hy, m0, eL]
  unfold Oper.wp
  rw [hrun, Oper.upon_enter]
  refine (hswap_calls S i j hi hj).mono ?_
  rintro e w' ⟨rfl, S'⟩
  exact hK' _ _ (hK _ S')
theorem inv_len {w0 g A c l} {W : World} {ops : Array Oper} {rest : List Oper} {o : Oper} {a : Act} {Q : Exit → Act → World → Prop} (hg : o.guard = none) {r : Operand} {ts : Array TypeId}
    (hop : o.op = Op.call { callee := Callee.invoke r "Len", args := #[], argTypes := ts }) (hr : a.eval r = .iface 84 (.pointer (some ⟨g, 0, none⟩)))
    (S : StH w0 g A c l W) (hK : ∀ w', StH w0 g A c l w' → wpList Try.prog ops Q rest (a.put o.dst (.int .i64 (l.length : Int))) w') : wpList Try.prog ops Q (o :: rest) a W := by
  refine wpList_plain hg fun K hK' => ?_
  have m0 := fun n => que_len n g _ W S.cell
  have eL : ∀ args w, (callFunc 55 args).run Try.prog w = .ok (.enter 55 args) w := enters_ Try.func55 (by kernel_rfl) rfl
  have hrun : (execOp a.eval o).run Try.prog W = .ok (.enter 55 #[.slice A l.length c]) W := by
    generalize a.eval = ρ at hr
    simp [execOp, hop, resolve, invoke, callMethod, go_sem, hr, m0, eL]
  unfold Oper.wp
  rw [hrun, Oper.upon_enter]
  refine (hlen_calls S).mono ?_
  rintro e w' ⟨rfl, S'⟩
  exact hK' _ _ (hK _ S')

end Go.Proofs.Ytmidohjfajbpmaa
end
section
set_option linter.unusedVariables false
set_option linter.unusedSimpArgs false
set_option maxHeartbeats 4000000
namespace Go.Proofs.Ytmidohjfajbpmaa
open Go.RowKit Go.Proofs.YtmidohjfajbpmaaW.PrintWords Go.Proofs.YtmidohjfajbpmaaW.PrintMore Go.Proofs.YtmidohjfajbpmaaW.PrintLast

def IsB (e : Ending) : Prop := ∃ b, e = .returned (.bool b)
theorem swp_ats (l : List Plc) (hl : Ats l) (i j : Nat) (hi : i < l.length) (hj : j < l.length) : Ats (Hp.swp pz l i j) := fun p hp => hl p ((Hp.swp_perm pz l i j hi hj).mem_iff.1 hp)
theorem hdown_calls {w0 g A c l w} (h : StH w0 g A c l w) (hl : Ats l) (hc : l.length < 4611686018427387904) (i n : Nat) (hi : i ≤ n) (hn : n ≤ l.length) :
    Calls Try.prog 75 #[.iface 84 (.pointer (some ⟨g, 0, none⟩)), .int .i64 i, .int .i64 n] w fun e w' => IsB e ∧ StH w0 g A c (Hp.down pz pkey n n i l) w' := by
  go_enter Try.func75, Try.ntmps75
  go_wp2
  go_loopg [7] n (fun kx s7 wr => ∃ (r : Nat) (lk : List Plc), s7 = .int .i64 r ∧ r ≤ n ∧ n ≤ r + kx ∧ lk.length = l.length ∧ Ats lk ∧ Aside (StH w0 g A c lk wr) ∧ Hid (Hp.down pz pkey n kx r lk = Hp.down pz pkey n n i l))
  case atStart => exact ⟨i, l, rfl, hi, by omega, rfl, hl, h, rfl⟩
  case round =>
    obtain ⟨r, lk, rfl, hr, hk, hll, hal, S, HE⟩ := hrel
    have hrn : r < 4611686018427387904 := by omega
    by_cases h1 : n ≤ 2 * r + 1
    · have h1z : (n : Int) ≤ 2 * (r : Int) + 1 := by omega
      have HE2 := HE.out
      rw [Hp.down_stop pz pkey n gk r lk h1] at HE2
      have HE3 := Lib.hid HE2
      clear HE HE2
      go_wp2
      go_ret
      exact ⟨⟨_, rfl⟩, by rw [← HE3.out]; exact S.out⟩
    have h1z : ¬ ((n : Int) ≤ 2 * (r : Int) + 1) := by omega
    obtain ⟨kx, rfl⟩ : ∃ k, gk = k + 1 := ⟨gk - 1, by omega⟩
    have HC := Lib.hid h1
    have h0z : ¬ (2 * (r : Int) + 1 < 0) := by omega
    by_cases h2 : 2 * r + 2 < n
    · have h2z : 2 * (r : Int) + 1 + 1 < (n : Int) := by omega
      cases hL : decide (pkey (lk.getD (2 * r + 2) pz) > pkey (lk.getD (2 * r + 1) pz)) with
      | true =>
        have HL := Lib.hid hL
        have HJ := Lib.hid (Hp.child_right pz pkey n r lk h2 hL)
        clear hL
        cases hG : decide (pkey (lk.getD (2 * r + 2) pz) > pkey (lk.getD r pz)) with
        | true =>
          have HG := Lib.hid hG
          have HE2 := Lib.hid ((Hp.down_go pz pkey n kx r lk _ HC.out HJ.out (of_decide_eq_true hG)).symm.trans HE.out)
          clear hG HE HJ HC
          go_wp2_with (first | ((with_reducible refine gate_dst (N := 32) rfl ?_); refine gate_guard (by rfl) ?_; refine inv_less (2 * r + 2) (2 * r + 1) rfl rfl rfl rfl rfl ?e1 ?e2 S.out hal (by omega) (by omega) ?_; (case e1 => omega); (case e2 => omega); intro w1 S1; rw [HL.out]; have T1 : Aside _ := S1; clear S S1; have S := T1; clear T1 HL) | ((with_reducible refine gate_dst (N := 38) rfl ?_); refine inv_less (2 * r + 2) r rfl rfl rfl rfl rfl ?e1 ?e2 S.out hal (by omega) (by omega) ?_; (case e1 => omega); (case e2 => omega); intro w2 S1; rw [HG.out]; have T1 : Aside _ := S1; clear S S1; have S := T1; clear T1 HG) | ((with_reducible refine gate_dst (N := 43) rfl ?_); refine inv_swap r (2 * r + 2) rfl rfl rfl rfl rfl ?e1 ?e2 S.out (by omega) (by omega) ?_; (case e1 => omega); (case e2 => omega); intro w3 S1; have T1 : Aside _ := S1; clear S S1; have S := T1; clear T1))
          go_roundg kx
          case measure => omega
          case rel => exact ⟨2 * r + 2, Hp.swp pz lk r (2 * r + 2), by first | rfl | (congr 1; omega), by omega, by omega, by rw [Hp.swp_length]; exact hll, swp_ats lk hal r (2 * r + 2) (by omega) (by omega), S, HE2⟩
        | false =>
          have HG := Lib.hid hG
          have HE2 := Lib.hid ((Hp.down_halt pz pkey n kx r lk _ HC.out HJ.out (of_decide_eq_false hG)).symm.trans HE.out)
          clear hG HE HJ HC
          go_wp2_with (first | ((with_reducible refine gate_dst (N := 32) rfl ?_); refine gate_guard (by rfl) ?_; refine inv_less (2 * r + 2) (2 * r + 1) rfl rfl rfl rfl rfl ?e1 ?e2 S.out hal (by omega) (by omega) ?_; (case e1 => omega); (case e2 => omega); intro w1 S1; rw [HL.out]; have T1 : Aside _ := S1; clear S S1; have S := T1; clear T1 HL) | ((with_reducible refine gate_dst (N := 38) rfl ?_); refine inv_less (2 * r + 2) r rfl rfl rfl rfl rfl ?e1 ?e2 S.out hal (by omega) (by omega) ?_; (case e1 => omega); (case e2 => omega); intro w2 S1; rw [HG.out]; have T1 : Aside _ := S1; clear S S1; have S := T1; clear T1 HG))
          go_ret
          exact ⟨⟨_, rfl⟩, by rw [← HE2.out]; exact S.out⟩
      | false =>
        have HL := Lib.hid hL
        have HJ := Lib.hid (Hp.child_left pz pkey n r lk (fun _ => hL))
        clear hL
        cases hG : decide (pkey (lk.getD (2 * r + 1) pz) > pkey (lk.getD r pz)) with
        | true =>
          have HG := Lib.hid hG
          have HE2 := Lib.hid ((Hp.down_go pz pkey n kx r lk _ HC.out HJ.out (of_decide_eq_true hG)).symm.trans HE.out)
          clear hG HE HJ HC
          go_wp2_with (first | ((with_reducible refine gate_dst (N := 32) rfl ?_); refine gate_guard (by rfl) ?_; refine inv_less (2 * r + 2) (2 * r + 1) rfl rfl rfl rfl rfl ?e1 ?e2 S.out hal (by omega) (by omega) ?_; (case e1 => omega); (case e2 => omega); intro w1 S1; rw [HL.out]; have T1 : Aside _ := S1; clear S S1; have S := T1; clear T1 HL) | ((with_reducible refine gate_dst (N := 38) rfl ?_); refine inv_less (2 * r + 1) r rfl rfl rfl rfl rfl ?e1 ?e2 S.out hal (by omega) (by omega) ?_; (case e1 => omega); (case e2 => omega); intro w2 S1; rw [HG.out]; have T1 : Aside _ := S1; clear S S1; have S := T1; clear T1 HG) | ((with_reducible refine gate_dst (N := 43) rfl ?_); refine inv_swap r (2 * r + 1) rfl rfl rfl rfl rfl ?e1 ?e2 S.out (by omega) (by omega) ?_; (case e1 => omega); (case e2 => omega); intro w3 S1; have T1 : Aside _ := S1; clear S S1; have S := T1; clear T1))
          go_roundg kx
          case measure => omega
          case rel => exact ⟨2 * r + 1, Hp.swp pz lk r (2 * r + 1), by first | rfl | (congr 1; omega), by omega, by omega, by rw [Hp.swp_length]; exact hll, swp_ats lk hal r (2 * r + 1) (by omega) (by omega), S, HE2⟩
        | false =>
          have HG := Lib.hid hG
          have HE2 := Lib.hid ((Hp.down_halt pz pkey n kx r lk _ HC.out HJ.out (of_decide_eq_false hG)).symm.trans HE.out)
          clear hG HE HJ HC
          go_wp2_with (first | ((with_reducible refine gate_dst (N := 32) rfl ?_); refine gate_guard (by rfl) ?_; refine inv_less (2 * r + 2) (2 * r + 1) rfl rfl rfl rfl rfl ?e1 ?e2 S.out hal (by omega) (by omega) ?_; (case e1 => omega); (case e2 => omega); intro w1 S1; rw [HL.out]; have T1 : Aside _ := S1; clear S S1; have S := T1; clear T1 HL) | ((with_reducible refine gate_dst (N := 38) rfl ?_); refine inv_less (2 * r + 1) r rfl rfl rfl rfl rfl ?e1 ?e2 S.out hal (by omega) (by omega) ?_; (case e1 => omega); (case e2 => omega); intro w2 S1; rw [HG.out]; have T1 : Aside _ := S1; clear S S1; have S := T1; clear T1 HG))
          go_ret
          exact ⟨⟨_, rfl⟩, by rw [← HE2.out]; exact S.out⟩
    · have h2z : ¬ (2 * (r : Int) + 1 + 1 < (n : Int)) := by omega
      have HJ := Lib.hid (Hp.child_left pz pkey n r lk (fun h => absurd h h2))
      cases hG : decide (pkey (lk.getD (2 * r + 1) pz) > pkey (lk.getD r pz)) with
      | true =>
        have HG := Lib.hid hG
        have HE2 := Lib.hid ((Hp.down_go pz pkey n kx r lk _ HC.out HJ.out (of_decide_eq_true hG)).symm.trans HE.out)
        clear hG HE HJ HC
        go_wp2_with (first | ((with_reducible refine gate_dst (N := 38) rfl ?_); refine inv_less (2 * r + 1) r rfl rfl rfl rfl rfl ?e1 ?e2 S.out hal (by omega) (by omega) ?_; (case e1 => omega); (case e2 => omega); intro w2 S1; rw [HG.out]; have T1 : Aside _ := S1; clear S S1; have S := T1; clear T1 HG) | ((with_reducible refine gate_dst (N := 43) rfl ?_); refine inv_swap r (2 * r + 1) rfl rfl rfl rfl rfl ?e1 ?e2 S.out (by omega) (by omega) ?_; (case e1 => omega); (case e2 => omega); intro w3 S1; have T1 : Aside _ := S1; clear S S1; have S := T1; clear T1))
        go_roundg kx
        case measure => omega
        case rel => exact ⟨2 * r + 1, Hp.swp pz lk r (2 * r + 1), by first | rfl | (congr 1; omega), by omega, by omega, by rw [Hp.swp_length]; exact hll, swp_ats lk hal r (2 * r + 1) (by omega) (by omega), S, HE2⟩
      | false =>
        have HG := Lib.hid hG
        have HE2 := Lib.hid ((Hp.down_halt pz pkey n kx r lk _ HC.out HJ.out (of_decide_eq_false hG)).symm.trans HE.out)
        clear hG HE HJ HC
        go_wp2_with (first | ((with_reducible refine gate_dst (N := 38) rfl ?_); refine inv_less (2 * r + 1) r rfl rfl rfl rfl rfl ?e1 ?e2 S.out hal (by omega) (by omega) ?_; (case e1 => omega); (case e2 => omega); intro w2 S1; rw [HG.out]; have T1 : Aside _ := S1; clear S S1; have S := T1; clear T1 HG))
        go_ret
        exact ⟨⟨_, rfl⟩, by rw [← HE2.out]; exact S.out⟩

end Go.Proofs.Ytmidohjfajbpmaa
end
section
set_option linter.unusedVariables false
set_option linter.unusedSimpArgs false
set_option maxHeartbeats 4000000
namespace Go.Proofs.Ytmidohjfajbpmaa
open Go.RowKit Go.Proofs.YtmidohjfajbpmaaW.PrintWords Go.Proofs.YtmidohjfajbpmaaW.PrintMore Go.Proofs.YtmidohjfajbpmaaW.PrintLast

theorem down_ats (l : List Plc) (hl : Ats l) (n f i : Nat) (hn : n ≤ l.length) (hi : i < n) : Ats (Hp.down pz pkey n f i l) := fun p hp => hl p ((Hp.down_perm pz pkey n f i l hn hi).mem_iff.1 hp)
theorem hinit_calls {w0 g A c l w} (h : StH w0 g A c l w) (hl : Ats l) (hc : l.length < 4611686018427387904) :
    Calls Try.prog 54 #[.iface 84 (.pointer (some ⟨g, 0, none⟩))] w fun e w' => e = .returned (.tuple #[]) ∧ StH w0 g A c (Hp.init pz pkey l.length (l.length / 2) l) w' := by
  go_enter Try.func54, Try.ntmps54
  have S : Aside _ := h
  clear h
  go_wp2_with (first | ((with_reducible refine gate_dst (N := 5) rfl ?_); refine inv_len rfl rfl rfl S.out ?_; intro w1 S1; have T1 : Aside _ := S1; clear S S1; have S := T1; clear T1))
  go_loopg [3] (l.length / 2) (fun kx s3 wr => ∃ (lk : List Plc), s3 = .int .i64 ((kx : Int) - 1) ∧ kx ≤ l.length / 2 ∧ lk.length = l.length ∧ Ats lk ∧ Aside (StH w0 g A c lk wr) ∧ Hid (Hp.init pz pkey l.length kx lk = Hp.init pz pkey l.length (l.length / 2) l))
  case atStart => exact ⟨l, by congr 1, Nat.le_refl _, rfl, hl, S, rfl⟩
  case round =>
    obtain ⟨lk, rfl, hk, hll, hal, S, HE⟩ := hrel
    cases gk with
    | zero =>
      have HE3 := Lib.hid (show lk = _ from HE.out)
      clear HE
      go_wp2
      go_end0
      exact ⟨rfl, by rw [← HE3.out]; exact S.out⟩
    | succ kx =>
      have e1 : ((kx + 1 : Nat) : Int) - 1 = (kx : Int) := by omega
      rw [e1]
      clear e1
      have hz : (0 : Int) ≤ (kx : Int) := by omega
      have HE3 := Lib.hid (show Hp.init pz pkey l.length kx (Hp.down pz pkey l.length l.length kx lk) = _ from HE.out)
      clear HE
      go_wp2_with ((go_at_call 75); refine (hdown_calls S.out hal (by omega) kx l.length (by omega) (by omega)).mono ?_; rintro e w' ⟨⟨b, rfl⟩, S1⟩; have T1 : Aside _ := S1; clear S S1; have S := T1; clear T1)
      go_roundg kx
      case measure => omega
      case rel => exact ⟨Hp.down pz pkey l.length l.length kx lk, rfl, by omega, by rw [Hp.down_length]; exact hll, down_ats lk hal _ _ _ (by omega) (by omega), S, HE3⟩

end Go.Proofs.Ytmidohjfajbpmaa
end
section
set_option linter.unusedVariables false
set_option linter.unusedSimpArgs false
set_option maxHeartbeats 4000000
namespace Go.Proofs.Ytmidohjfajbpmaa
open Go.RowKit Go.Proofs.YtmidohjfajbpmaaW.PrintWords Go.Proofs.YtmidohjfajbpmaaW.PrintMore Go.Proofs.YtmidohjfajbpmaaW.PrintLast

theorem own_len (A : Option Addr) (n m c : Nat) : (Value.slice A n c).ownBlock = (Value.slice A m c).ownBlock := by
  cases A with
  | none => rfl
  | some a => rfl
theorem StH.glt {w0 g A c l w} (h : StH w0 g A c l w) : g < w.heap.size := blk_lt h.box
theorem StH.olt {w0 g A c l w} (h : StH w0 g A c l w) (k : Nat) (hk : (Value.slice A l.length c).ownBlock = some k) : k < w.heap.size := by
  obtain ⟨h0, inner, ho, hr⟩ := h.row
  exact own_lt ho k hk
theorem StH.far {w0 g A c l w} (h : StH w0 g A c l w) {gb : Nat} (h1 : g ≠ gb) (h2 : some gb ≠ (Value.slice A l.length c).ownBlock) (h3 : w0.heap.size ≤ gb) (i : Nat) (u : Value) : StH w0 g A c l (w.setCell ⟨gb, i, none⟩ u) where
  below := below_set h.below h3
  row := Kd.R_far h.row (fun k hk e => h2 (by rw [← hk]; exact congrArg some e.symm)) u
  box := blk_far h.box h1 u
  mine := h.mine
  apart := h.apart
theorem StH.cut {w0 g A c l w} (h : StH w0 g A c l w) (m : Nat) (hm : m ≤ l.length) : StH w0 g A c (l.take m) (w.setCell ⟨g, 0, none⟩ (.slice A m c)) := by
  have hl : (l.take m).length = m := by rw [List.length_take]; omega
  refine ⟨below_set h.below h.mine, ?_, ?_, h.mine, ?_⟩
  · rw [hl]
    refine Kd.R_mono (Kd.R_far (Kd.R_take h.row hm) (fun k hk e => h.apart (by rw [← hk]; exact congrArg some e.symm)) _) (fun k hk => ?_)
    rw [hk]; exact own_len A _ _ c
  · rw [hl]; exact blk_set h.box 0 _
  · rw [hl, own_len A m l.length c]; exact h.apart
def pval (p : Plc) : Value := .agg #[.int .i64 p.f0, .int .i64 p.f1.f0, .int .i64 p.f1.f1, .int .i64 p.f1.f2, .int .i64 p.f1.f3]
theorem qpop_calls {w0 g A c l w} (h : StH w0 g A c l w) (hl : l ≠ []) (hc : l.length < 4611686018427387904) :
    Calls Try.prog 109 #[.pointer (some ⟨g, 0, none⟩)] w fun e w' => e = .returned (.iface 43 (pval (l.getD (l.length - 1) pz))) ∧ StH w0 g A c (l.take (l.length - 1)) w' := by
  obtain ⟨m, hm⟩ : ∃ m, l.length = m + 1 := ⟨l.length - 1, by have := List.length_pos_iff.2 hl; omega⟩
  have hpv : pval (l.getD (l.length - 1) pz) = .agg #[.int .i64 (P.rd_T43 l (m : Int)).f0, .int .i64 (P.rd_T43 l (m : Int)).f1.f0, .int .i64 (P.rd_T43 l (m : Int)).f1.f1, .int .i64 (P.rd_T43 l (m : Int)).f1.f2, .int .i64 (P.rd_T43 l (m : Int)).f1.f3] := by
    rw [hm]; rfl
  rw [hpv]
  clear hpv
  have S := Aside0.mk h
  obtain ⟨ad, e1, hx0, hx1, hx2, hx3, hx4⟩ := P.at_T43 (Kd.R_reads' h.row).2.2 (m : Int) (by omega) (by omega)
  subst e1
  have hg := h.cell
  rw [hm] at hg
  have hf : w.frozen? ⟨g, 0, none⟩ = false := blk_frozen h.box 0
  have hlc : l.length ≤ c := (Kd.R_reads' h.row).2.1
  rw [hm] at hlc
  have hmc : m ≤ c := by omega
  have hmc2 : (m : Int) ≤ (c : Int) := by omega
  clear h hlc
  have hc2 := hc
  rw [hm] at hc2
  have hmi : ((m : Int) < (m : Int) + 1) = True := eq_true (by omega)
  simp only [Int.toNat_natCast] at hx0 hx1 hx2 hx3 hx4
  generalize P.rd_T43 l (m : Int) = p at hx0 hx1 hx2 hx3 hx4 ⊢
  go_enter Try.func109, Try.ntmps109
  go_wp2_with (first | ((with_reducible refine gate_dst (N := 4) rfl ?_); refine box_event ?hg (N := 4) ?hd (cs := #[.int .i64 0, .int .i64 0, .int .i64 0, .int .i64 0, .int .i64 0]) (t := 43) ?hr ?_; (case hd => rfl); (case hg => rfl); (case hr => first | (go_simp; done) | (go_simp; rfl)); intro gb hgb W hbox hb; have S2 := Aside0.mk (S.out.step hb); have G1 := Aside0.mk (show g ≠ gb from fun e => absurd S.out.glt (by omega)); have G2 := Aside0.mk (show some gb ≠ (Value.slice (some ad) l.length c).ownBlock from fun e => absurd (S.out.olt gb e.symm) (by omega)); have G3 := Aside0.mk (show _ ≤ gb from by rw [hgb]; exact S.out.below.size); have BX := Aside0.mk hbox; clear hx0 hx1 hx2 hx3 hx4 hg hf hgb hb hbox; have hcz0 : W.cell? ⟨gb, 0, none⟩ = some (.int .i64 0) := (blk_cell BX.out 0).trans rfl; have hcz1 : W.cell? ⟨gb, 1, none⟩ = some (.int .i64 0) := (blk_cell BX.out 1).trans rfl; have hcz2 : W.cell? ⟨gb, 2, none⟩ = some (.int .i64 0) := (blk_cell BX.out 2).trans rfl; have hcz3 : W.cell? ⟨gb, 3, none⟩ = some (.int .i64 0) := (blk_cell BX.out 3).trans rfl; have hcz4 : W.cell? ⟨gb, 4, none⟩ = some (.int .i64 0) := (blk_cell BX.out 4).trans rfl; have hfz0 := blk_frozen BX.out 0; have hfz1 := blk_frozen BX.out 1; have hfz2 := blk_frozen BX.out 2; have hfz3 := blk_frozen BX.out 3; have hfz4 := blk_frozen BX.out 4) | ((with_reducible refine gate_dst (N := 19) rfl ?_); (have S3 := Aside0.mk (show StH w0 g (some ad) c l (World.setCell (World.setCell (World.setCell (World.setCell (World.setCell W ⟨gb, 0, none⟩ (Value.int IntKind.i64 p.f0)) ⟨gb, 1, none⟩ (Value.int IntKind.i64 p.f1.f0)) ⟨gb, 2, none⟩ (Value.int IntKind.i64 p.f1.f1)) ⟨gb, 3, none⟩ (Value.int IntKind.i64 p.f1.f2)) ⟨gb, 4, none⟩ (Value.int IntKind.i64 p.f1.f3)) from (((((S2.out.far G1.out G2.out G3.out 0 _).far G1.out G2.out G3.out 1 _).far G1.out G2.out G3.out 2 _).far G1.out G2.out G3.out 3 _).far G1.out G2.out G3.out 4 _))); (have BX3 := Aside0.mk (show (World.heap (World.setCell (World.setCell (World.setCell (World.setCell (World.setCell W ⟨gb, 0, none⟩ (Value.int IntKind.i64 p.f0)) ⟨gb, 1, none⟩ (Value.int IntKind.i64 p.f1.f0)) ⟨gb, 2, none⟩ (Value.int IntKind.i64 p.f1.f1)) ⟨gb, 3, none⟩ (Value.int IntKind.i64 p.f1.f2)) ⟨gb, 4, none⟩ (Value.int IntKind.i64 p.f1.f3)))[gb]? = some (.cells #[.int .i64 p.f0, .int .i64 p.f1.f0, .int .i64 p.f1.f1, .int .i64 p.f1.f2, .int .i64 p.f1.f3] 43 (0, 0)) from (blk_set (blk_set (blk_set (blk_set (blk_set BX.out 0 _) 1 _) 2 _) 3 _) 4 _))); clear hcz0 hcz1 hcz2 hcz3 hcz4 hfz0 hfz1 hfz2 hfz3 hfz4; (generalize (World.setCell (World.setCell (World.setCell (World.setCell (World.setCell W ⟨gb, 0, none⟩ (Value.int IntKind.i64 p.f0)) ⟨gb, 1, none⟩ (Value.int IntKind.i64 p.f1.f0)) ⟨gb, 2, none⟩ (Value.int IntKind.i64 p.f1.f1)) ⟨gb, 3, none⟩ (Value.int IntKind.i64 p.f1.f2)) ⟨gb, 4, none⟩ (Value.int IntKind.i64 p.f1.f3)) = W2 at S3 BX3 ⊢); (have hg2 : W2.cell? ⟨g, 0, none⟩ = some (.slice (some ad) (m + 1) c) := by (rw [← hm]); exact S3.out.cell); (have hf2 : W2.frozen? ⟨g, 0, none⟩ = false := blk_frozen S3.out.box 0)) | ((with_reducible refine gate_dst (N := 23) rfl ?_); have S4 := Aside0.mk (S3.out.cut m (by omega)); have BX4 := Aside0.mk (blk_far BX3.out (p := ⟨g, 0, none⟩) G1.out.symm (.slice (some ad) m c)); clear hg2 hf2; generalize (World.setCell W2 ⟨g, 0, none⟩ (.slice (some ad) m c)) = W3 at S4 BX4 ⊢; have hy0 : W3.cell? ⟨gb, 0, none⟩ = some (.int .i64 p.f0) := (blk_cell BX4.out 0).trans rfl; have hy1 : W3.cell? ⟨gb, 1, none⟩ = some (.int .i64 p.f1.f0) := (blk_cell BX4.out 1).trans rfl; have hy2 : W3.cell? ⟨gb, 2, none⟩ = some (.int .i64 p.f1.f1) := (blk_cell BX4.out 2).trans rfl; have hy3 : W3.cell? ⟨gb, 3, none⟩ = some (.int .i64 p.f1.f2) := (blk_cell BX4.out 3).trans rfl; have hy4 : W3.cell? ⟨gb, 4, none⟩ = some (.int .i64 p.f1.f3) := (blk_cell BX4.out 4).trans rfl))
  go_ret
  exact ⟨rfl, by rw [hm, Nat.add_sub_cancel]; exact S4.out⟩

theorem inv_pop {w0 g A c l} {W : World} {ops : Array Oper} {rest : List Oper} {o : Oper} {a : Act} {Q : Exit → Act → World → Prop} (hg : o.guard = none) {r : Operand} {ts : Array TypeId}
    (hop : o.op = Op.call { callee := Callee.invoke r "Pop", args := #[], argTypes := ts }) (hr : a.eval r = .iface 84 (.pointer (some ⟨g, 0, none⟩)))
    (S : StH w0 g A c l W) (hl : l ≠ []) (hc : l.length < 4611686018427387904) (v : Value) (hv : pval (l.getD (l.length - 1) pz) = v) (hK : ∀ w', StH w0 g A c (l.take (l.length - 1)) w' → wpList Try.prog ops Q rest (a.put o.dst (.iface 43 v)) w') : wpList Try.prog ops Q (o :: rest) a W := by
  subst hv
  refine wpList_plain hg fun K hK' => ?_
  have m0 := fun n => que_pop n g W
  have eL : ∀ args w, (callFunc 109 args).run Try.prog w = .ok (.enter 109 args) w := enters_ Try.func109 (by kernel_rfl) rfl
  have hrun : (execOp a.eval o).run Try.prog W = .ok (.enter 109 #[.pointer (some ⟨g, 0, none⟩)]) W := by
    generalize a.eval = ρ at hr
    simp [execOp, hop, resolve, invoke, callMethod, go_sem, hr, m0, eL]
  unfold Oper.wp
  rw [hrun, Oper.upon_enter]
  refine (qpop_calls S hl hc).mono ?_
  rintro e w' ⟨rfl, S'⟩
  exact hK' _ _ (hK _ S')
theorem hpop_calls {w0 g A c l w} (h : StH w0 g A c l w) (hal : Ats l) (hl : l ≠ []) (hc : l.length < 4611686018427387904) :
    Calls Try.prog 56 #[.iface 84 (.pointer (some ⟨g, 0, none⟩))] w fun e w' => e = .returned (.iface 43 (pval (l.getD 0 pz))) ∧ StH w0 g A c (Hp.rest pz pkey l) w' := by
  have hp : 0 < l.length := List.length_pos_iff.2 hl
  have he : pval (l.getD 0 pz) = pval ((Hp.popped pz pkey l).getD ((Hp.popped pz pkey l).length - 1) pz) := by rw [Hp.popped_length, Hp.popped_last pz pkey l hl]
  have hr : Hp.rest pz pkey l = (Hp.popped pz pkey l).take ((Hp.popped pz pkey l).length - 1) := by rw [Hp.popped_length]; rfl
  have hpl := Hp.popped_length pz pkey l
  have hpn : Hp.popped pz pkey l ≠ [] := fun e => by rw [e] at hpl; exact absurd hpl (by simp only [List.length_nil]; omega)
  rw [he, hr]
  obtain ⟨m, hm⟩ : ∃ m, l.length = m + 1 := ⟨l.length - 1, by omega⟩
  have S : Aside _ := h
  clear h he hr
  generalize hv : pval ((Hp.popped pz pkey l).getD ((Hp.popped pz pkey l).length - 1) pz) = v
  have HV := Lib.hid hv
  clear hv
  go_enter Try.func56, Try.ntmps56
  go_wp2_with (first | ((with_reducible refine gate_dst (N := 5) rfl ?_); refine inv_len rfl rfl rfl S.out ?_; intro w1 S1; have T1 : Aside _ := S1; clear S S1; have S := T1; clear T1) | ((with_reducible refine gate_dst (N := 9) rfl ?_); refine inv_swap 0 (l.length - 1) rfl rfl rfl rfl rfl ?e1 ?e2 S.out (by omega) (by omega) ?_; (case e1 => omega); (case e2 => omega); intro w3 S1; have T1 : Aside _ := S1; clear S S1; have S := T1; clear T1) | (go_at_call 75; refine (calls_of_args ?hargs ((hdown_calls S.out (swp_ats l hal 0 (l.length - 1) (by omega) (by omega)) (by rw [Hp.swp_length]; exact hc) 0 (l.length - 1) (by omega) (by rw [Hp.swp_length]; omega)).mono ?_)); (case hargs => rw [show l.length - 1 = m by omega]; rfl); rintro e w' ⟨⟨b, rfl⟩, S1⟩; have T1 : Aside (StH w0 g A c (Hp.popped pz pkey l) w') := S1; clear S S1; have S := T1; clear T1) | ((with_reducible refine gate_dst (N := 14) rfl ?_); refine inv_pop rfl rfl rfl S.out hpn (by omega) v HV.out ?_; intro w4 S1; have T1 : Aside _ := S1; clear S S1; have S := T1; clear T1))
  go_ret
  exact ⟨rfl, S.out⟩

end Go.Proofs.Ytmidohjfajbpmaa
end
section
set_option linter.unusedVariables false
set_option linter.unusedSimpArgs false
set_option maxHeartbeats 4000000
namespace Go.Proofs.Ytmidohjfajbpmaa

abbrev Asc (l : List Plc) : Prop := l.Pairwise (fun p q => p.f0 < q.f0)
def stepB (good : Plc → Bool) (b : Option Plc) (p : Plc) : Option Plc := if (good p && (b.all fun q => decide (q.f1.f0 ≤ p.f1.f0))) = true then some p else b
theorem step_best (good : Plc → Bool) (l : List Plc) (p : Plc) (b : Option Plc) (hl : Ats (l ++ [p])) (ha : Asc (l ++ [p])) (hb : Hp.Best pkey good l b) : Hp.Best pkey good (l ++ [p]) (stepB good b p) := by
  have hp := hl p (by simp)
  unfold stepB
  cases hg : good p with
  | false =>
    simp only [Bool.false_and, Bool.false_eq_true, if_false]
    cases b with
    | none =>
      intro x hx
      rcases List.mem_append.1 hx with h | h
      · exact hb x h
      · rw [List.mem_singleton.1 h]; exact hg
    | some q =>
      refine ⟨List.mem_append_left _ hb.1, hb.2.1, fun x hx hgx => ?_⟩
      rcases List.mem_append.1 hx with h | h
      · exact hb.2.2 x h hgx
      · rw [List.mem_singleton.1 h, hg] at hgx; cases hgx
  | true =>
    simp only [Bool.true_and]
    cases b with
    | none =>
      simp only [Option.all_none, if_true]
      refine ⟨by simp, hg, fun x hx hgx => ?_⟩
      rcases List.mem_append.1 hx with h | h
      · have := hb x h; rw [hgx] at this; cases this
      · rw [List.mem_singleton.1 h]; exact Int.le_refl _
    | some q =>
      have hq := hl q (List.mem_append_left _ hb.1)
      have hqp : q.f0 < p.f0 := (List.pairwise_append.1 ha).2.2 q hb.1 p (by simp)
      simp only [Option.all_some]
      by_cases hs : q.f1.f0 ≤ p.f1.f0
      · rw [if_pos (decide_eq_true hs)]
        have hk : pkey q ≤ pkey p := by unfold pkey; omega
        refine ⟨by simp, hg, fun x hx hgx => ?_⟩
        rcases List.mem_append.1 hx with h | h
        · exact Int.le_trans (hb.2.2 x h hgx) hk
        · rw [List.mem_singleton.1 h]; exact Int.le_refl _
      · rw [if_neg (fun h => hs (of_decide_eq_true h))]
        have hk : pkey p ≤ pkey q := by unfold pkey; omega
        refine ⟨List.mem_append_left _ hb.1, hb.2.1, fun x hx hgx => ?_⟩
        rcases List.mem_append.1 hx with h | h
        · exact hb.2.2 x h hgx
        · rw [List.mem_singleton.1 h]; exact hk
theorem fold_best (good : Plc → Bool) : ∀ (l2 l1 : List Plc) (b : Option Plc), Ats (l1 ++ l2) → Asc (l1 ++ l2) → Hp.Best pkey good l1 b → Hp.Best pkey good (l1 ++ l2) (l2.foldl (stepB good) b)
  | [], l1, b, _, _, hb => by rw [List.append_nil]; exact hb
  | p :: l2, l1, b, hl, ha, hb => by
    rw [List.append_cons] at hl ha ⊢
    rw [List.foldl_cons]
    exact fold_best good l2 (l1 ++ [p]) _ hl ha (step_best good l1 p b (fun x hx => hl x (List.mem_append_left _ hx)) (List.pairwise_append.1 ha).1 hb)
theorem asc_inj : ∀ {l : List Plc}, Asc l → ∀ {p q}, p ∈ l → q ∈ l → p.f0 = q.f0 → p = q
  | [], _, _, _, h, _, _ => by cases h
  | x :: l, ha, p, q, hp, hq, he => by
    have h1 := List.pairwise_cons.1 ha
    rcases List.mem_cons.1 hp with rfl | hp'
    · rcases List.mem_cons.1 hq with rfl | hq'
      · rfl
      · have := h1.1 q hq'; omega
    · rcases List.mem_cons.1 hq with rfl | hq'
      · have := h1.1 p hp'; omega
      · exact asc_inj h1.2 hp' hq' he
theorem best_unique {good : Plc → Bool} {l : List Plc} (hl : Ats l) (ha : Asc l) {o1 o2 : Option Plc} (h1 : Hp.Best pkey good l o1) (h2 : Hp.Best pkey good l o2) : o1 = o2 := by
  cases o1 with
  | none =>
    cases o2 with
    | none => rfl
    | some q => have := h1 q h2.1; rw [h2.2.1] at this; cases this
  | some p =>
    cases o2 with
    | none => have := h2 p h1.1; rw [h1.2.1] at this; cases this
    | some q =>
      have e1 := h1.2.2 q h2.1 h2.2.1
      have e2 := h2.2.2 p h1.1 h1.2.1
      have b1 := hl p h1.1
      have b2 := hl q h2.1
      rw [asc_inj ha h1.1 h2.1 (by unfold pkey at e1 e2; omega)]
theorem best_perm {good : Plc → Bool} {l l' : List Plc} (hp : l'.Perm l) {o : Option Plc} (h : Hp.Best pkey good l' o) : Hp.Best pkey good l o := by
  cases o with
  | none => exact fun x hx => h x (hp.mem_iff.2 hx)
  | some p => exact ⟨hp.mem_iff.1 h.1, h.2.1, fun x hx hg => h.2.2 x (hp.mem_iff.2 hx) hg⟩
theorem foldM_some (G : Plc → Option (Bool × Int)) : ∀ (l : List Plc) (b r : Option Plc), l.foldlM (fun (b : Option Plc) p => (G p).bind fun g => some (if g.1 && (b.all fun q => decide (q.f1.f0 ≤ p.f1.f0)) then some p else b)) b = some r →
    (∀ p ∈ l, ∃ g, G p = some g) ∧ r = l.foldl (stepB (fun p => ((G p).map (·.1)).getD false)) b
  | [], b, r, h => by
    rw [List.foldlM_nil] at h
    exact ⟨fun p hp => (by cases hp), (Option.some.inj h).symm⟩
  | p :: l, b, r, h => by
    rw [List.foldlM_cons] at h
    cases hg : G p with
    | none => rw [hg] at h; cases h
    | some g =>
      rw [hg] at h
      have := foldM_some G l _ r h
      refine ⟨fun q hq => ?_, ?_⟩
      · rcases List.mem_cons.1 hq with rfl | hq'
        · exact ⟨g, hg⟩
        · exact this.1 q hq'
      · rw [this.2, List.foldl_cons]
        congr 1
        unfold stepB
        show _ = if (((G p).map (·.1)).getD false && (b.all fun q => decide (q.f1.f0 ≤ p.f1.f0))) = true then some p else b
        rw [hg]
        rfl
theorem pick_fold (good : Plc → Bool) (l : List Plc) (hl : Ats l) (ha : Asc l) : Hp.pick pz pkey good l.length (Hp.init pz pkey l.length (l.length / 2) l) = l.foldl (stepB good) none := by
  have hlen := Hp.init_length pz pkey l.length (l.length / 2) l
  have hh := Hp.init_heap pz pkey l.length (l.length / 2) l (Nat.le_refl _) (by omega) (fun k hk c hc hn => by omega)
  refine best_unique hl ha (best_perm (Hp.init_perm pz pkey l.length (l.length / 2) l (Nat.le_refl _) (by omega)) (Hp.pick_best pz pkey good l.length _ (by omega) (by rw [hlen]; exact hh))) ?_
  exact fold_best good l [] none (by simpa using hl) (by simpa using ha) (fun x hx => by cases hx)
end Go.Proofs.Ytmidohjfajbpmaa
end
section
set_option linter.unusedVariables false
set_option linter.unusedSimpArgs false
set_option maxHeartbeats 4000000
namespace Go.Proofs.Ytmidohjfajbpmaa.P
open Go.RowKit Go.Proofs.YtmidohjfajbpmaaW.PrintWords Go.Proofs.YtmidohjfajbpmaaW.PrintMore Go.Proofs.YtmidohjfajbpmaaW.PrintLast

/-- Is the place's image good? -/
def goodP (a0 : ByteArray) (p : Plc) : Bool := ((image_Good.f a0 p.f1.f0 p.f1.f1 p.f1.f2 p.f1.f3).map (·.1)).getD false
def actOut (b : Option Plc) : Int × Int × Int × Int × Int × Int := match b with | none => (0, 0, 0, 0, 0, 701) | some p => (p.f0, p.f1.f0, p.f1.f1, p.f1.f2, p.f1.f3, 0)
def actVal (b : Option Plc) : Value := match b with | none => .tuple #[.agg #[.int .i64 0, .int .i64 0, .int .i64 0, .int .i64 0, .int .i64 0], .int .i64 701] | some p => .tuple #[pval p, .int .i64 0]
theorem active_facts {a0 : ByteArray} {r : Int × Int × Int × Int × Int × Int} (h : choose_Active.f a0 = some r) :
    (journal_Scan.f 300 a0 = some ([], 500) ∧ r = (0, 0, 0, 0, 0, 700)) ∨ ∃ l : List Plc, journal_Scan.f 300 a0 = some (l, 0) ∧ l.length ≤ 8 ∧ Ats l ∧ (∀ p ∈ l, ∃ g, image_Good.f a0 p.f1.f0 p.f1.f1 p.f1.f2 p.f1.f3 = some g) ∧ r = actOut (Hp.pick pz pkey (goodP a0) l.length (Hp.init pz pkey l.length (l.length / 2) l)) := by
  unfold choose_Active.f at h
  rw [scan_f a0 300 (by omega)] at h ⊢
  by_cases hs : a0.size = 768
  · rw [if_pos hs] at h ⊢
    refine .inr ⟨scanTo a0 8, rfl, scanTo_len a0 8, fun p hp => by have := scanTo_at hp; omega, ?_⟩
    simp only [Option.bind_some, if_true] at h
    cases hf : (scanTo a0 8).foldlM (fun (b : Option Plc) p => (image_Good.f a0 p.f1.f0 p.f1.f1 p.f1.f2 p.f1.f3).bind fun g => some (if g.1 && (b.all fun q => decide (q.f1.f0 ≤ p.f1.f0)) then some p else b)) none with
    | none => rw [hf] at h; cases h
    | some b =>
      rw [hf] at h
      have := foldM_some (fun p => image_Good.f a0 p.f1.f0 p.f1.f1 p.f1.f2 p.f1.f3) _ _ _ hf
      refine ⟨this.1, ?_⟩
      rw [pick_fold (goodP a0) _ (fun p hp => by have := scanTo_at hp; omega) (scanTo_asc a0 8), show (scanTo a0 8).foldl (stepB (goodP a0)) none = b from this.2.symm]
      exact (Option.some.inj h).symm
  · rw [if_neg hs] at h ⊢
    exact .inl ⟨rfl, (Option.some.inj h).symm⟩

set_option maxHeartbeats 8000000 in
set_option maxRecDepth 100000 in
theorem choose_Active.calls (a0 : ByteArray) (r1 r2 r3 r4 r5 r6 : Int) (w : World) (h : choose_Active.f a0 = some (r1, r2, r3, r4, r5, r6)) :
    Calls Try.prog 25 #[.string a0] w fun e w' => e = .returned (.tuple #[.agg #[.int .i64 r1, .int .i64 r2, .int .i64 r3, .int .i64 r4, .int .i64 r5], .int .i64 r6]) ∧ Below w.heap.size w w' := by
  rcases active_facts h with ⟨hS, hr⟩ | ⟨l, hS, hl8, hal, hgd, hr⟩
  · simp only [Prod.mk.injEq] at hr
    obtain ⟨rfl, rfl, rfl, rfl, rfl, rfl⟩ := hr
    clear h
    have HS := Lib.hid hS
    have TK := Aside0.mk True.intro
    clear hS
    go_enter Try.func25, Try.ntmps25
    go_wp2_with (first | ((with_reducible refine gate_dst (N := 2) rfl ?_); refine box_event ?hg (N := 2) ?hd (cs := #[.int .i64 0, .int .i64 0, .int .i64 0, .int .i64 0, .int .i64 0]) (t := 43) ?hr ?_; (case hd => rfl); (case hg => rfl); (case hr => first | (go_simp; done) | (go_simp; rfl)); intro gb hgb w1 hbox hb; have GE := Aside0.mk (show w.heap.size ≤ gb from Nat.le_of_eq hgb.symm); have GL := Aside0.mk (blk_lt hbox); have BK := Aside0.mk hbox; have HB1 := Aside0.mk hb; clear hgb hb hbox) | (go_at_call 53; refine (journal_Scan.calls 300 a0 [] 500 w1 HS.out).mono ?_; rintro e w2 ⟨v0, rfl, ho0, hb⟩; have T1 := Aside0.mk (blk_below BK.out hb); have T2 := Aside0.mk (HB1.out.trans (hb.mono HB1.out.size)); clear BK HB1 ho0 hb; have BK := T1; have HB1 := T2; clear T1 T2) | ((with_reducible refine gate_store (p := 2) rfl ?_); clear TK; have hcz0 : w2.cell? ⟨gb, 0, none⟩ = some (.int .i64 0) := (blk_cell BK.out 0).trans rfl; have hcy0 : w2.frozen? ⟨gb, 0, none⟩ = false := blk_frozen BK.out 0; have hcz1 : w2.cell? ⟨gb, 1, none⟩ = some (.int .i64 0) := (blk_cell BK.out 1).trans rfl; have hcy1 : w2.frozen? ⟨gb, 1, none⟩ = false := blk_frozen BK.out 1; have hcz2 : w2.cell? ⟨gb, 2, none⟩ = some (.int .i64 0) := (blk_cell BK.out 2).trans rfl; have hcy2 : w2.frozen? ⟨gb, 2, none⟩ = false := blk_frozen BK.out 2; have hcz3 : w2.cell? ⟨gb, 3, none⟩ = some (.int .i64 0) := (blk_cell BK.out 3).trans rfl; have hcy3 : w2.frozen? ⟨gb, 3, none⟩ = false := blk_frozen BK.out 3; have hcz4 : w2.cell? ⟨gb, 4, none⟩ = some (.int .i64 0) := (blk_cell BK.out 4).trans rfl; have hcy4 : w2.frozen? ⟨gb, 4, none⟩ = false := blk_frozen BK.out 4))
    refine bodyPost_ret (results_ct rfl _ _ gb 43 #[.int .i64 0, .int .i64 0, .int .i64 0, .int .i64 0, .int .i64 0] (0, 0) _ rfl (by refine blk_put (cs := #[.int .i64 0, .int .i64 0, .int .i64 0, .int .i64 0, .int .i64 0]) ?_ 4 _ rfl; refine blk_put (cs := #[.int .i64 0, .int .i64 0, .int .i64 0, .int .i64 0, .int .i64 0]) ?_ 3 _ rfl; refine blk_put (cs := #[.int .i64 0, .int .i64 0, .int .i64 0, .int .i64 0, .int .i64 0]) ?_ 2 _ rfl; refine blk_put (cs := #[.int .i64 0, .int .i64 0, .int .i64 0, .int .i64 0, .int .i64 0]) ?_ 1 _ rfl; refine blk_put (cs := #[.int .i64 0, .int .i64 0, .int .i64 0, .int .i64 0, .int .i64 0]) ?_ 0 _ rfl; exact BK.out) Try.underlying43 rfl (by kernel_rfl)) rfl ?_
    exact ⟨rfl, by repeat (first | (with_reducible exact HB1.out) | refine below_set ?_ GE.out)⟩
  · have HS := Lib.hid hS
    generalize hb : Hp.pick pz pkey (goodP a0) l.length (Hp.init pz pkey l.length (l.length / 2) l) = b at hr
    have hv : Value.tuple #[.agg #[.int .i64 r1, .int .i64 r2, .int .i64 r3, .int .i64 r4, .int .i64 r5], .int .i64 r6] = actVal b := by
      cases b with
      | none => simp only [actOut, Prod.mk.injEq] at hr; obtain ⟨rfl, rfl, rfl, rfl, rfl, rfl⟩ := hr; rfl
      | some p => simp only [actOut, Prod.mk.injEq] at hr; obtain ⟨rfl, rfl, rfl, rfl, rfl, rfl⟩ := hr; rfl
    rw [hv]
    have HPB := Lib.hid hb
    have hu25 := Try.underlying43
    have hu23 := Try.underlying41
    have hta : ∀ (v : Value) (w : World), Sem.run Try.prog (Instr.typeAssert (.iface 43 v) 20 43 false) w = .ok v w := by intro v w; kernel_rfl
    have TK := Aside0.mk True.intro
    have HGD := Lib.hid hgd
    have TKb := Aside0.mk True.intro
    clear hS hr h hgd hv hb
    go_enter Try.func25, Try.ntmps25
    go_wp2_with (first | ((with_reducible refine gate_dst (N := 2) rfl ?_); refine box_event ?hg (N := 2) ?hd (cs := #[.int .i64 0, .int .i64 0, .int .i64 0, .int .i64 0, .int .i64 0]) (t := 43) ?hr ?_; (case hd => rfl); (case hg => rfl); (case hr => first | (go_simp; done) | (go_simp; rfl)); intro gb hgb w1 hbox hb; have GE := Aside0.mk (show w.heap.size ≤ gb from Nat.le_of_eq hgb.symm); have GL := Aside0.mk (blk_lt hbox); have BK := Aside0.mk hbox; have HB1 := Aside0.mk hb; clear hgb hb hbox) | (go_at_call 53; refine (journal_Scan.calls 300 a0 l 0 w1 HS.out).mono ?_; rintro e w2 ⟨v0, rfl, ho0, hb⟩; obtain ⟨A, c, rfl, hlc, hC⟩ := Kd.R_reads ho0; have RW := Aside0.mk ho0; have B2 := Aside0.mk hb; clear ho0 hb hlc hC) | ((with_reducible refine gate_dst (N := 6) rfl ?_); refine box_event ?hg (N := 6) ?hd (cs := #[.slice none 0 0]) (t := 82) ?hr ?_; (case hd => rfl); (case hg => rfl); (case hr => first | (go_simp; done) | (go_simp; rfl)); intro g hg w3 hbox hb; have RW3 := Aside0.mk (Kd.R_tight rfl (Kd.R_below RW.out hb)); have B3 := Aside0.mk (B2.out.trans (hb.mono B2.out.size)); have GM := Aside0.mk (show w1.heap.size ≤ g from by rw [hg]; exact B2.out.size); have GA := Aside0.mk (show some g ≠ (Value.slice A l.length c).ownBlock from fun e => by obtain ⟨_, inner, ho, _⟩ := RW.out; exact absurd (own_lt ho g e.symm) (by omega)); have BG := Aside0.mk hbox; clear hg hb hbox RW B2; have hgz : w3.cell? ⟨g, 0, none⟩ = some (.slice none 0 0) := (blk_cell BG.out 0).trans rfl; have hgy : w3.frozen? ⟨g, 0, none⟩ = false := blk_frozen BG.out 0) | (go_at_call 54; have S0 : Aside (StH w1 g A c l (World.setCell w3 ⟨g, 0, none⟩ (.slice A l.length c))) := (⟨below_set B3.out GM.out, Kd.R_mono (Kd.R_far RW3.out (fun k hk e => GA.out (by rw [← hk]; exact congrArg some e.symm)) _) (fun _ hk => hk), blk_set BG.out 0 _, GM.out, GA.out⟩ : StH w1 g A c l (World.setCell w3 ⟨g, 0, none⟩ (.slice A l.length c))); clear RW3 B3 GM GA BG hgz hgy; refine (hinit_calls S0.out hal (by omega)).mono ?_; rintro e w4 ⟨rfl, S1⟩; have S : Aside _ := S1; clear S0 S1))
    go_loopg [3] l.length (fun kx s3 wr => s3 = .int .i64 0 ∧ ∃ lk : List Plc, lk.length ≤ kx ∧ lk.length ≤ 8 ∧ Ats lk ∧ Aside (StH w1 g A c lk wr) ∧ Hid (∀ p ∈ lk, p ∈ l) ∧ Hid (Hp.pick pz pkey (goodP a0) kx lk = b))
    case atStart =>
      exact ⟨rfl, Hp.init pz pkey l.length (l.length / 2) l, by rw [Hp.init_length]; exact Nat.le_refl _, by rw [Hp.init_length]; exact hl8, fun p hp => hal p ((Hp.init_perm pz pkey l.length (l.length / 2) l (Nat.le_refl _) (by omega)).mem_iff.1 hp), S, fun p hp => (Hp.init_perm pz pkey l.length (l.length / 2) l (Nat.le_refl _) (by omega)).mem_iff.1 hp, HPB⟩
    case round =>
      obtain ⟨rfl, lk, hk, h8, hal, S, HM, HE⟩ := hrel
      have hgz := S.out.cell
      by_cases h0 : lk.length = 0
      · have HN := Lib.hid h0
        have HBN : Hid (b = none) := by
          rw [← HE.out]
          cases gk with
          | zero => exact rfl
          | succ k => exact (show Hp.pick pz pkey (goodP a0) (k + 1) lk = none from by rw [Hp.pick, if_pos h0])
        rw [h0] at hgz
        clear h0 hk h8 HE
        go_wp2_with (first | (go_at_call 55; refine calls_of_args ?ha ((hlen_calls S.out).mono ?_); (case ha => rw [HN.out]); rintro e w5 ⟨rfl, S1⟩; rw [HN.out]; clear hgz; have T1 : Aside _ := S1; clear S S1; have S := T1; clear T1) | ((with_reducible refine gate_dst (N := 36) rfl ?_); clear TK; have BK2 := Aside0.mk (blk_below BK.out S.out.below); have hcz0 : w5.cell? ⟨gb, 0, none⟩ = some (.int .i64 0) := (blk_cell BK2.out 0).trans rfl; have hcy0 : w5.frozen? ⟨gb, 0, none⟩ = false := blk_frozen BK2.out 0; have hcz1 : w5.cell? ⟨gb, 1, none⟩ = some (.int .i64 0) := (blk_cell BK2.out 1).trans rfl; have hcy1 : w5.frozen? ⟨gb, 1, none⟩ = false := blk_frozen BK2.out 1; have hcz2 : w5.cell? ⟨gb, 2, none⟩ = some (.int .i64 0) := (blk_cell BK2.out 2).trans rfl; have hcy2 : w5.frozen? ⟨gb, 2, none⟩ = false := blk_frozen BK2.out 2; have hcz3 : w5.cell? ⟨gb, 3, none⟩ = some (.int .i64 0) := (blk_cell BK2.out 3).trans rfl; have hcy3 : w5.frozen? ⟨gb, 3, none⟩ = false := blk_frozen BK2.out 3; have hcz4 : w5.cell? ⟨gb, 4, none⟩ = some (.int .i64 0) := (blk_cell BK2.out 4).trans rfl; have hcy4 : w5.frozen? ⟨gb, 4, none⟩ = false := blk_frozen BK2.out 4))
        refine bodyPost_ret (results_ct rfl _ _ gb 43 #[.int .i64 0, .int .i64 0, .int .i64 0, .int .i64 0, .int .i64 0] (0, 0) _ rfl (by refine blk_put (cs := #[.int .i64 0, .int .i64 0, .int .i64 0, .int .i64 0, .int .i64 0]) ?_ 4 _ rfl; refine blk_put (cs := #[.int .i64 0, .int .i64 0, .int .i64 0, .int .i64 0, .int .i64 0]) ?_ 3 _ rfl; refine blk_put (cs := #[.int .i64 0, .int .i64 0, .int .i64 0, .int .i64 0, .int .i64 0]) ?_ 2 _ rfl; refine blk_put (cs := #[.int .i64 0, .int .i64 0, .int .i64 0, .int .i64 0, .int .i64 0]) ?_ 1 _ rfl; refine blk_put (cs := #[.int .i64 0, .int .i64 0, .int .i64 0, .int .i64 0, .int .i64 0]) ?_ 0 _ rfl; exact BK2.out) Try.underlying43 rfl (by kernel_rfl)) rfl ?_
        exact ⟨by rw [HBN.out]; rfl, by repeat (first | (with_reducible exact (HB1.out.trans (S.out.below.mono HB1.out.size))) | refine below_set ?_ GE.out)⟩
      · obtain ⟨m, hm⟩ : ∃ m, lk.length = m + 1 := ⟨lk.length - 1, by omega⟩
        have hne : lk ≠ [] := fun e => h0 (by rw [e]; rfl)
        have hmem : lk.getD 0 pz ∈ lk := by rw [List.getD_eq_getElem?_getD, List.getElem?_eq_getElem (by omega)]; exact List.getElem_mem _
        obtain ⟨⟨gr, ge⟩, hg⟩ := HGD.out _ (HM.out _ hmem)
        obtain ⟨k, rfl⟩ : ∃ k, gk = k + 1 := ⟨gk - 1, by omega⟩
        have he := HE.out
        rw [Hp.pick, if_neg h0] at he
        have hgood : goodP a0 (lk.getD 0 pz) = gr := by unfold goodP; rw [hg]; rfl
        rw [hgood] at he
        have hsub : ∀ p ∈ Hp.rest pz pkey lk, p ∈ lk := Hp.rest_sub pz pkey lk hne
        generalize hp : lk.getD 0 pz = p at hg he
        have HP := Lib.hid hp
        have HN := Lib.hid hm
        have HG := Lib.hid hg
        have HNE := Lib.hid hne
        have HSB := Lib.hid hsub
        have hrl := Lib.hid (Hp.rest_length pz pkey lk)
        rw [hm] at hgz
        cases gr with
        | true =>
          have HBN : Hid (b = some p) := he.symm
          clear he hmem hg hgood hp h0 hk hm HE hne hsub
          go_wp2_with (first | (go_at_call 55; refine calls_of_args ?ha ((hlen_calls S.out).mono ?_); (case ha => rw [HN.out]); rintro e w5 ⟨rfl, S1⟩; rw [HN.out]; clear hgz; have T1 : Aside _ := S1; clear S S1; have S := T1; clear T1) | (go_at_call 56; refine (hpop_calls S.out hal HNE.out (by omega)).mono ?_; rintro e w6 ⟨rfl, S1⟩; rw [HP.out]; simp only [pval]; have T1 : Aside _ := S1; clear S S1; have S := T1; clear T1) | ((with_reducible refine gate_dst (N := 7) rfl ?_); refine box_event ?hg (N := 7) ?hd (cs := #[.int .i64 0, .int .i64 0, .int .i64 0, .int .i64 0, .int .i64 0]) (t := 43) ?hr ?_; (case hd => rfl); (case hg => rfl); (case hr => first | (go_simp; done) | (go_simp; rfl)); intro gp hgp W7 hbox hb; have G1 := Aside0.mk (show g ≠ gp from fun e => absurd S.out.glt (by omega)); have G2 := Aside0.mk (show some gp ≠ (Value.slice A (Hp.rest pz pkey lk).length c).ownBlock from fun e => absurd (S.out.olt gp e.symm) (by omega)); have G3 := Aside0.mk (show w1.heap.size ≤ gp from by rw [hgp]; exact S.out.below.size); have BX := Aside0.mk hbox; have S1 := S.out.step hb; clear hgp hb hbox; have T1 : Aside _ := S1; clear S S1; have S := T1; clear T1; have hpz0 : W7.cell? ⟨gp, 0, none⟩ = some (.int .i64 0) := (blk_cell BX.out 0).trans rfl; have hpy0 : W7.frozen? ⟨gp, 0, none⟩ = false := blk_frozen BX.out 0; have hpz1 : W7.cell? ⟨gp, 1, none⟩ = some (.int .i64 0) := (blk_cell BX.out 1).trans rfl; have hpy1 : W7.frozen? ⟨gp, 1, none⟩ = false := blk_frozen BX.out 1; have hpz2 : W7.cell? ⟨gp, 2, none⟩ = some (.int .i64 0) := (blk_cell BX.out 2).trans rfl; have hpy2 : W7.frozen? ⟨gp, 2, none⟩ = false := blk_frozen BX.out 2; have hpz3 : W7.cell? ⟨gp, 3, none⟩ = some (.int .i64 0) := (blk_cell BX.out 3).trans rfl; have hpy3 : W7.frozen? ⟨gp, 3, none⟩ = false := blk_frozen BX.out 3; have hpz4 : W7.cell? ⟨gp, 4, none⟩ = some (.int .i64 0) := (blk_cell BX.out 4).trans rfl; have hpy4 : W7.frozen? ⟨gp, 4, none⟩ = false := blk_frozen BX.out 4) | ((with_reducible refine gate_dst (N := 29) rfl ?_); clear TKb; have S3 := Aside0.mk (show StH w1 g A c (Hp.rest pz pkey lk) (World.setCell (World.setCell (World.setCell (World.setCell (World.setCell W7 ⟨gp, 0, none⟩ (Value.int IntKind.i64 p.f0)) ⟨gp, 1, none⟩ (Value.int IntKind.i64 p.f1.f0)) ⟨gp, 2, none⟩ (Value.int IntKind.i64 p.f1.f1)) ⟨gp, 3, none⟩ (Value.int IntKind.i64 p.f1.f2)) ⟨gp, 4, none⟩ (Value.int IntKind.i64 p.f1.f3)) from (((((S.out.far G1.out G2.out G3.out 0 _).far G1.out G2.out G3.out 1 _).far G1.out G2.out G3.out 2 _).far G1.out G2.out G3.out 3 _).far G1.out G2.out G3.out 4 _)); have BX3 := Aside0.mk (show (World.heap (World.setCell (World.setCell (World.setCell (World.setCell (World.setCell W7 ⟨gp, 0, none⟩ (Value.int IntKind.i64 p.f0)) ⟨gp, 1, none⟩ (Value.int IntKind.i64 p.f1.f0)) ⟨gp, 2, none⟩ (Value.int IntKind.i64 p.f1.f1)) ⟨gp, 3, none⟩ (Value.int IntKind.i64 p.f1.f2)) ⟨gp, 4, none⟩ (Value.int IntKind.i64 p.f1.f3)))[gp]? = some (.cells #[.int .i64 p.f0, .int .i64 p.f1.f0, .int .i64 p.f1.f1, .int .i64 p.f1.f2, .int .i64 p.f1.f3] 43 (0, 0)) from (by refine blk_put (cs := #[.int .i64 p.f0, .int .i64 p.f1.f0, .int .i64 p.f1.f1, .int .i64 p.f1.f2, .int .i64 0]) ?_ 4 _ rfl; refine blk_put (cs := #[.int .i64 p.f0, .int .i64 p.f1.f0, .int .i64 p.f1.f1, .int .i64 0, .int .i64 0]) ?_ 3 _ rfl; refine blk_put (cs := #[.int .i64 p.f0, .int .i64 p.f1.f0, .int .i64 0, .int .i64 0, .int .i64 0]) ?_ 2 _ rfl; refine blk_put (cs := #[.int .i64 p.f0, .int .i64 0, .int .i64 0, .int .i64 0, .int .i64 0]) ?_ 1 _ rfl; refine blk_put (cs := #[.int .i64 0, .int .i64 0, .int .i64 0, .int .i64 0, .int .i64 0]) ?_ 0 _ rfl; exact BX.out)); clear S BX hpz0 hpy0 hpz1 hpy1 hpz2 hpy2 hpz3 hpy3 hpz4 hpy4; generalize (World.setCell (World.setCell (World.setCell (World.setCell (World.setCell W7 ⟨gp, 0, none⟩ (Value.int IntKind.i64 p.f0)) ⟨gp, 1, none⟩ (Value.int IntKind.i64 p.f1.f0)) ⟨gp, 2, none⟩ (Value.int IntKind.i64 p.f1.f1)) ⟨gp, 3, none⟩ (Value.int IntKind.i64 p.f1.f2)) ⟨gp, 4, none⟩ (Value.int IntKind.i64 p.f1.f3)) = W8 at S3 BX3 ⊢; have S : Aside _ := S3.out; have hqz0 : W8.cell? ⟨gp, 0, none⟩ = some (.int .i64 p.f0) := (blk_cell BX3.out 0).trans rfl; have hqz1 : W8.cell? ⟨gp, 1, none⟩ = some (.int .i64 p.f1.f0) := (blk_cell BX3.out 1).trans rfl; have hqz2 : W8.cell? ⟨gp, 2, none⟩ = some (.int .i64 p.f1.f1) := (blk_cell BX3.out 2).trans rfl; have hqz3 : W8.cell? ⟨gp, 3, none⟩ = some (.int .i64 p.f1.f2) := (blk_cell BX3.out 3).trans rfl; have hqz4 : W8.cell? ⟨gp, 4, none⟩ = some (.int .i64 p.f1.f3) := (blk_cell BX3.out 4).trans rfl; clear S3) | (go_at_call 57; refine (image_Good.calls a0 p.f1.f0 p.f1.f1 p.f1.f2 p.f1.f3 true ge _ HG.out).mono ?_; rintro e w9 ⟨rfl, hb⟩; have S1 := S.out.step hb; have BX4 := Aside0.mk (blk_below BX3.out hb); clear hb BX3 hqz0 hqz1 hqz2 hqz3 hqz4; have T1 : Aside _ := S1; clear S S1; have S := T1; clear T1; have hrz0 : w9.cell? ⟨gp, 0, none⟩ = some (.int .i64 p.f0) := (blk_cell BX4.out 0).trans rfl; have hrz1 : w9.cell? ⟨gp, 1, none⟩ = some (.int .i64 p.f1.f0) := (blk_cell BX4.out 1).trans rfl; have hrz2 : w9.cell? ⟨gp, 2, none⟩ = some (.int .i64 p.f1.f1) := (blk_cell BX4.out 2).trans rfl; have hrz3 : w9.cell? ⟨gp, 3, none⟩ = some (.int .i64 p.f1.f2) := (blk_cell BX4.out 3).trans rfl; have hrz4 : w9.cell? ⟨gp, 4, none⟩ = some (.int .i64 p.f1.f3) := (blk_cell BX4.out 4).trans rfl; have BK2 := Aside0.mk (blk_below BK.out S.out.below); have hcz0 : w9.cell? ⟨gb, 0, none⟩ = some (.int .i64 0) := (blk_cell BK2.out 0).trans rfl; have hcy0 : w9.frozen? ⟨gb, 0, none⟩ = false := blk_frozen BK2.out 0; have hcz1 : w9.cell? ⟨gb, 1, none⟩ = some (.int .i64 0) := (blk_cell BK2.out 1).trans rfl; have hcy1 : w9.frozen? ⟨gb, 1, none⟩ = false := blk_frozen BK2.out 1; have hcz2 : w9.cell? ⟨gb, 2, none⟩ = some (.int .i64 0) := (blk_cell BK2.out 2).trans rfl; have hcy2 : w9.frozen? ⟨gb, 2, none⟩ = false := blk_frozen BK2.out 2; have hcz3 : w9.cell? ⟨gb, 3, none⟩ = some (.int .i64 0) := (blk_cell BK2.out 3).trans rfl; have hcy3 : w9.frozen? ⟨gb, 3, none⟩ = false := blk_frozen BK2.out 3; have hcz4 : w9.cell? ⟨gb, 4, none⟩ = some (.int .i64 0) := (blk_cell BK2.out 4).trans rfl; have hcy4 : w9.frozen? ⟨gb, 4, none⟩ = false := blk_frozen BK2.out 4))
          refine bodyPost_ret (results_ct rfl _ _ gb 43 #[.int .i64 p.f0, .int .i64 p.f1.f0, .int .i64 p.f1.f1, .int .i64 p.f1.f2, .int .i64 p.f1.f3] (0, 0) _ rfl (by refine blk_put (cs := #[.int .i64 p.f0, .int .i64 p.f1.f0, .int .i64 p.f1.f1, .int .i64 p.f1.f2, .int .i64 0]) ?_ 4 _ rfl; refine blk_put (cs := #[.int .i64 p.f0, .int .i64 p.f1.f0, .int .i64 p.f1.f1, .int .i64 0, .int .i64 0]) ?_ 3 _ rfl; refine blk_put (cs := #[.int .i64 p.f0, .int .i64 p.f1.f0, .int .i64 0, .int .i64 0, .int .i64 0]) ?_ 2 _ rfl; refine blk_put (cs := #[.int .i64 p.f0, .int .i64 0, .int .i64 0, .int .i64 0, .int .i64 0]) ?_ 1 _ rfl; refine blk_put (cs := #[.int .i64 0, .int .i64 0, .int .i64 0, .int .i64 0, .int .i64 0]) ?_ 0 _ rfl; exact BK2.out) Try.underlying43 rfl (by kernel_rfl)) rfl ?_
          exact ⟨by rw [HBN.out]; rfl, by repeat (first | (with_reducible exact (HB1.out.trans (S.out.below.mono HB1.out.size))) | refine below_set ?_ GE.out)⟩
        | false =>
          have HE2 : Hid (Hp.pick pz pkey (goodP a0) k (Hp.rest pz pkey lk) = b) := he
          clear he hmem hg hgood hp h0 hm HE hne hsub
          go_wp2_with (first | (go_at_call 55; refine calls_of_args ?ha ((hlen_calls S.out).mono ?_); (case ha => rw [HN.out]); rintro e w5 ⟨rfl, S1⟩; rw [HN.out]; clear hgz; have T1 : Aside _ := S1; clear S S1; have S := T1; clear T1) | (go_at_call 56; refine (hpop_calls S.out hal HNE.out (by omega)).mono ?_; rintro e w6 ⟨rfl, S1⟩; rw [HP.out]; simp only [pval]; have T1 : Aside _ := S1; clear S S1; have S := T1; clear T1) | ((with_reducible refine gate_dst (N := 7) rfl ?_); refine box_event ?hg (N := 7) ?hd (cs := #[.int .i64 0, .int .i64 0, .int .i64 0, .int .i64 0, .int .i64 0]) (t := 43) ?hr ?_; (case hd => rfl); (case hg => rfl); (case hr => first | (go_simp; done) | (go_simp; rfl)); intro gp hgp W7 hbox hb; have G1 := Aside0.mk (show g ≠ gp from fun e => absurd S.out.glt (by omega)); have G2 := Aside0.mk (show some gp ≠ (Value.slice A (Hp.rest pz pkey lk).length c).ownBlock from fun e => absurd (S.out.olt gp e.symm) (by omega)); have G3 := Aside0.mk (show w1.heap.size ≤ gp from by rw [hgp]; exact S.out.below.size); have BX := Aside0.mk hbox; have S1 := S.out.step hb; clear hgp hb hbox; have T1 : Aside _ := S1; clear S S1; have S := T1; clear T1; have hpz0 : W7.cell? ⟨gp, 0, none⟩ = some (.int .i64 0) := (blk_cell BX.out 0).trans rfl; have hpy0 : W7.frozen? ⟨gp, 0, none⟩ = false := blk_frozen BX.out 0; have hpz1 : W7.cell? ⟨gp, 1, none⟩ = some (.int .i64 0) := (blk_cell BX.out 1).trans rfl; have hpy1 : W7.frozen? ⟨gp, 1, none⟩ = false := blk_frozen BX.out 1; have hpz2 : W7.cell? ⟨gp, 2, none⟩ = some (.int .i64 0) := (blk_cell BX.out 2).trans rfl; have hpy2 : W7.frozen? ⟨gp, 2, none⟩ = false := blk_frozen BX.out 2; have hpz3 : W7.cell? ⟨gp, 3, none⟩ = some (.int .i64 0) := (blk_cell BX.out 3).trans rfl; have hpy3 : W7.frozen? ⟨gp, 3, none⟩ = false := blk_frozen BX.out 3; have hpz4 : W7.cell? ⟨gp, 4, none⟩ = some (.int .i64 0) := (blk_cell BX.out 4).trans rfl; have hpy4 : W7.frozen? ⟨gp, 4, none⟩ = false := blk_frozen BX.out 4) | ((with_reducible refine gate_dst (N := 29) rfl ?_); clear TKb; have S3 := Aside0.mk (show StH w1 g A c (Hp.rest pz pkey lk) (World.setCell (World.setCell (World.setCell (World.setCell (World.setCell W7 ⟨gp, 0, none⟩ (Value.int IntKind.i64 p.f0)) ⟨gp, 1, none⟩ (Value.int IntKind.i64 p.f1.f0)) ⟨gp, 2, none⟩ (Value.int IntKind.i64 p.f1.f1)) ⟨gp, 3, none⟩ (Value.int IntKind.i64 p.f1.f2)) ⟨gp, 4, none⟩ (Value.int IntKind.i64 p.f1.f3)) from (((((S.out.far G1.out G2.out G3.out 0 _).far G1.out G2.out G3.out 1 _).far G1.out G2.out G3.out 2 _).far G1.out G2.out G3.out 3 _).far G1.out G2.out G3.out 4 _)); have BX3 := Aside0.mk (show (World.heap (World.setCell (World.setCell (World.setCell (World.setCell (World.setCell W7 ⟨gp, 0, none⟩ (Value.int IntKind.i64 p.f0)) ⟨gp, 1, none⟩ (Value.int IntKind.i64 p.f1.f0)) ⟨gp, 2, none⟩ (Value.int IntKind.i64 p.f1.f1)) ⟨gp, 3, none⟩ (Value.int IntKind.i64 p.f1.f2)) ⟨gp, 4, none⟩ (Value.int IntKind.i64 p.f1.f3)))[gp]? = some (.cells #[.int .i64 p.f0, .int .i64 p.f1.f0, .int .i64 p.f1.f1, .int .i64 p.f1.f2, .int .i64 p.f1.f3] 43 (0, 0)) from (by refine blk_put (cs := #[.int .i64 p.f0, .int .i64 p.f1.f0, .int .i64 p.f1.f1, .int .i64 p.f1.f2, .int .i64 0]) ?_ 4 _ rfl; refine blk_put (cs := #[.int .i64 p.f0, .int .i64 p.f1.f0, .int .i64 p.f1.f1, .int .i64 0, .int .i64 0]) ?_ 3 _ rfl; refine blk_put (cs := #[.int .i64 p.f0, .int .i64 p.f1.f0, .int .i64 0, .int .i64 0, .int .i64 0]) ?_ 2 _ rfl; refine blk_put (cs := #[.int .i64 p.f0, .int .i64 0, .int .i64 0, .int .i64 0, .int .i64 0]) ?_ 1 _ rfl; refine blk_put (cs := #[.int .i64 0, .int .i64 0, .int .i64 0, .int .i64 0, .int .i64 0]) ?_ 0 _ rfl; exact BX.out)); clear S BX hpz0 hpy0 hpz1 hpy1 hpz2 hpy2 hpz3 hpy3 hpz4 hpy4; generalize (World.setCell (World.setCell (World.setCell (World.setCell (World.setCell W7 ⟨gp, 0, none⟩ (Value.int IntKind.i64 p.f0)) ⟨gp, 1, none⟩ (Value.int IntKind.i64 p.f1.f0)) ⟨gp, 2, none⟩ (Value.int IntKind.i64 p.f1.f1)) ⟨gp, 3, none⟩ (Value.int IntKind.i64 p.f1.f2)) ⟨gp, 4, none⟩ (Value.int IntKind.i64 p.f1.f3)) = W8 at S3 BX3 ⊢; have S : Aside _ := S3.out; have hqz0 : W8.cell? ⟨gp, 0, none⟩ = some (.int .i64 p.f0) := (blk_cell BX3.out 0).trans rfl; have hqz1 : W8.cell? ⟨gp, 1, none⟩ = some (.int .i64 p.f1.f0) := (blk_cell BX3.out 1).trans rfl; have hqz2 : W8.cell? ⟨gp, 2, none⟩ = some (.int .i64 p.f1.f1) := (blk_cell BX3.out 2).trans rfl; have hqz3 : W8.cell? ⟨gp, 3, none⟩ = some (.int .i64 p.f1.f2) := (blk_cell BX3.out 3).trans rfl; have hqz4 : W8.cell? ⟨gp, 4, none⟩ = some (.int .i64 p.f1.f3) := (blk_cell BX3.out 4).trans rfl; clear S3) | (go_at_call 57; refine (image_Good.calls a0 p.f1.f0 p.f1.f1 p.f1.f2 p.f1.f3 false ge _ HG.out).mono ?_; rintro e w9 ⟨rfl, hb⟩; have S1 := S.out.step hb; have BX4 := Aside0.mk (blk_below BX3.out hb); clear hb BX3 hqz0 hqz1 hqz2 hqz3 hqz4; have T1 : Aside _ := S1; clear S S1; have S := T1; clear T1; clear BX4))
          go_roundg k
          case measure => omega
          case rel => exact ⟨rfl, Hp.rest pz pkey lk, by rw [hrl.out]; omega, by rw [hrl.out]; omega, fun p hp => hal p (HSB.out p hp), S, fun p hp => HM.out p (HSB.out p hp), HE2⟩

end Go.Proofs.Ytmidohjfajbpmaa.P
end
section
namespace Go.Proofs.Ytmidohjfajbpmaa.P
open Go.RowKit Go.Proofs.YtmidohjfajbpmaaW.PrintWords Go.Proofs.YtmidohjfajbpmaaW.PrintLast Go.Proofs.YtmidohjfajbpmaaW.PrintMore
attribute [local go_sem] max2_int min2_int max_two min_two max_three min_three max_four min_four   -- for this text's walks alone
set_option linter.unusedVariables false
set_option linter.unusedSimpArgs false

/-! ### device_New: function 29 -/
def device_New.f  : Option (Int × Int × Int × Int × Int × (List (S68))) := some (0, 0, 0, 0, 0, ([] : List (S68)))
set_option maxHeartbeats 8000000 in
set_option maxRecDepth 100000 in
theorem device_New.calls  (r1 : Int) (r2 : Int) (r3 : Int) (r4 : Int) (r5 : Int) (r6 : List (S68)) (w : World) (h : device_New.f  = some (r1, r2, r3, r4, r5, r6)) :
  Calls Try.prog 29 #[] w fun e w' => ∃ v5_ : Value, e = .returned (.agg #[.int .i64 r1, .int .i64 r2, .int .i64 r3, .int .i64 r4, .int .i64 r5, v5_]) ∧ Kd.R k68 68 w' w.heap.size (fun _ => True) v5_ r6 ∧ Below w.heap.size w w' := by
 have hu24 := Try.underlying24
 have HB := Aside0.mk (Below.refl w.heap.size w)
 have H : (some (0, 0, 0, 0, 0, ([] : List (S68)))) = some (r1, r2, r3, r4, r5, r6) := h
 clear h
 simp only [Option.some.injEq, Prod.mk.injEq] at H
 obtain ⟨rfl, rfl, rfl, rfl, rfl, rfl⟩ := H
 go_enter Try.func29, Try.ntmps29
 go_wp2_with (first | ((with_reducible refine gate_dst (N := 0) rfl ?_); refine box_event ?hg (N := 0) ?hd (cs := #[.int .i64 0, .int .i64 0, .int .i64 0, .int .i64 0, .int .i64 0, .slice none 0 0]) (t := 24) ?hr ?_; (case hd => rfl); (case hg => rfl); (case hr => first | (go_simp; done) | (go_simp; rfl)); intro gb153 hg w1 hbox hb; have n0_ := Aside0.mk (below_step (kb HB.out) hb); have n1_ := Aside0.mk (hbox); have n2_ := Aside0.mk ((kz hg (below_size (kb HB.out)) : w.heap.size ≤ gb153)); have n3_ := Aside0.mk ((kz hg (below_size (kb HB.out)) : w.heap.size ≤ gb153)); clear HB; have HB := n0_; have BK153 := n1_; have GW153 := n2_; have GE153 := n3_; clear n0_ n1_ n2_ n3_; clear hb hbox hg; obtain ⟨hcz2_0, hcz2_1, hcz2_2, hcz2_3, hcz2_4, hcz2_5⟩ := kc6 BK153.out; obtain ⟨hfz2_0, hfz2_1, hfz2_2, hfz2_3, hfz2_4, hfz2_5⟩ := kf6 BK153.out))
 refine bodyPost_ret (results_cell_row rfl _ _ gb153 24 #[.int .i64 0, .int .i64 0, .int .i64 0, .int .i64 0, .int .i64 0, .slice none 0 0] (0, 0) _ rfl (kP6 BK153.out) Try.underlying24 rfl (by kernel_rfl)) rfl ?_
 exact ⟨_, by first | rfl | (simp [errW_none, errW_some] <;> rfl) | (simp [*, errW_none, errW_some] <;> rfl), by first | exact Kd.R_nil _ _ _ _ _ | exact Kd.N_nil _ _ _ _ _ | exact Kd.V_nil _ _ _ _ _ | exact Kd.Q_nil _ _ _ _ _ | exact Kd.S_nil _ _ _ _ _, kb1 HB.out GE153.out⟩

/-! ### device_Failed: function 26 -/
def device_Failed.f (a0 : Int) : Option (Int × Int × Int × Int × Int × (List (S68))) := (device_New.f).bind fun bt155 => (some (7, a0, bt155.2.2.1, bt155.2.2.2.1, bt155.2.2.2.2.1, bt155.2.2.2.2.2))
set_option maxHeartbeats 8000000 in
set_option maxRecDepth 100000 in
theorem device_Failed.calls (a0 : Int) (r1 : Int) (r2 : Int) (r3 : Int) (r4 : Int) (r5 : Int) (r6 : List (S68)) (w : World) (h : device_Failed.f a0 = some (r1, r2, r3, r4, r5, r6)) :
  Calls Try.prog 26 #[.int .i64 a0] w fun e w' => ∃ v5_ : Value, e = .returned (.agg #[.int .i64 r1, .int .i64 r2, .int .i64 r3, .int .i64 r4, .int .i64 r5, v5_]) ∧ Kd.R k68 68 w' w.heap.size (fun _ => True) v5_ r6 ∧ Below w.heap.size w w' := by
 have hu24 := Try.underlying24
 have HB := Aside0.mk (Below.refl w.heap.size w)
 have H : ((device_New.f).bind fun bt155 => (some (7, a0, bt155.2.2.1, bt155.2.2.2.1, bt155.2.2.2.2.1, bt155.2.2.2.2.2))) = some (r1, r2, r3, r4, r5, r6) := h
 clear h
 replace H := Option.bind_eq_some_iff.mp H
 obtain ⟨⟨t155, t156, t157, t158, t159, t160⟩, A20, H⟩ := H
 replace H : (some (7, a0, t157, t158, t159, t160)) = some (r1, r2, r3, r4, r5, r6) := H
 have A2 := Aside0.mk A20
 clear A20
 simp only [Option.some.injEq, Prod.mk.injEq] at H
 obtain ⟨rfl, rfl, rfl, rfl, rfl, rfl⟩ := H
 go_enter Try.func26, Try.ntmps26
 go_upto_region 3 with (first | ((with_reducible refine gate_dst (N := 2) rfl ?_); refine box_event ?hg (N := 2) ?hd (cs := #[.int .i64 0, .int .i64 0, .int .i64 0, .int .i64 0, .int .i64 0, .slice none 0 0]) (t := 24) ?hr ?_; (case hd => rfl); (case hg => rfl); (case hr => first | (go_simp; done) | (go_simp; rfl)); intro gb154 hg w3 hbox hb; have n0_ := Aside0.mk (below_step (kb HB.out) hb); have n1_ := Aside0.mk (hbox); have n2_ := Aside0.mk ((kz hg (below_size (kb HB.out)) : w.heap.size ≤ gb154)); have n3_ := Aside0.mk ((kz hg (below_size (kb HB.out)) : w.heap.size ≤ gb154)); clear HB; have HB := n0_; have BK154 := n1_; have GW154 := n2_; have GE154 := n3_; clear n0_ n1_ n2_ n3_; clear hb hbox hg) | ((with_reducible refine gate_callee (f := 29) rfl ?_); refine goesL_ (some 4) rfl rfl Try.func29 (by kernel_rfl) rfl #[] rfl ka ?_; (with_reducible refine (device_New.calls  t155 t156 t157 t158 t159 t160 _ A2.out).mono ?_); rintro e w4 ⟨v161, rfl, ho0, hb⟩; refine ⟨_, rfl, ?_⟩; have n0_ := Aside0.mk (Kd.R_lower ho0 (below_size (kb1 HB.out GE154.out))); have n1_ := Aside0.mk (kL BK154.out hb); have n2_ := Aside0.mk (below_step (kb1 HB.out GE154.out) hb); clear BK154; clear HB; have HO162 := n0_; have BK154 := n1_; have HB := n2_; clear n0_ n1_ n2_; (try clear hb); (try clear hb2); (try clear hk); (try clear hi); (try clear ho0)) | ((with_reducible refine gate_dst (N := 3) rfl ?_); refine box_event ?hg (N := 3) ?hd (cs := #[.int .i64 0, .int .i64 0, .int .i64 0, .int .i64 0, .int .i64 0, .slice none 0 0]) (t := 24) ?hr ?_; (case hd => rfl); (case hg => rfl); (case hr => first | (go_simp; done) | (go_simp; rfl)); intro gb163 hg w5 hbox hb; have n0_ := Aside0.mk (Kd.R_below (kR HO162.out) hb); have n1_ := Aside0.mk (kL BK154.out hb); have n2_ := Aside0.mk (below_step (kb1 HB.out GE154.out) hb); have n3_ := Aside0.mk (hbox); have n4_ := Aside0.mk ((kz hg (below_size (kb1 HB.out GE154.out)) : w.heap.size ≤ gb163)); have n5_ := Aside0.mk ((kz hg (below_size (kb1 HB.out GE154.out)) : w.heap.size ≤ gb163)); have n6_ := Aside0.mk ((kN hg BK154.out : gb154 ≠ gb163)); have n7_ := Aside0.mk (((kN hg BK154.out).symm : gb163 ≠ gb154)); clear HO162; clear BK154; clear HB; have HO162 := n0_; have BK154 := n1_; have HB := n2_; have BK163 := n3_; have GW163 := n4_; have GE163 := n5_; have NB154_163 := n6_; have NB163_154 := n7_; clear n0_ n1_ n2_ n3_ n4_ n5_ n6_ n7_; clear hb hbox hg; have hnb6 := NB163_154.out; have hnc6 := NB154_163.out; obtain ⟨hcz7_0, hcz7_1, hcz7_2, hcz7_3, hcz7_4, hcz7_5⟩ := kc6 BK163.out; obtain ⟨hfz7_0, hfz7_1, hfz7_2, hfz7_3, hfz7_4, hfz7_5⟩ := kf6 BK163.out; obtain ⟨Ao8, co8, eo8⟩ := Kd.R_slice HO162.out; subst eo8; obtain ⟨hcz9_0, hcz9_1, hcz9_2, hcz9_3, hcz9_4, hcz9_5⟩ := kc6 BK154.out; obtain ⟨hfz9_0, hfz9_1, hfz9_2, hfz9_3, hfz9_4, hfz9_5⟩ := kf6 BK154.out))
 (try simp only [Act.put, List.setIfInBounds_toArray, List.set_cons_zero, List.set_cons_succ])
 have q1 : ((World.setCell (World.setCell (World.setCell (World.setCell (World.setCell (World.setCell (World.setCell (World.setCell w5 ⟨gb163, 0, none⟩ (.int .i64 t155)) ⟨gb163, 1, none⟩ (.int .i64 t156)) ⟨gb163, 2, none⟩ (.int .i64 t157)) ⟨gb163, 3, none⟩ (.int .i64 t158)) ⟨gb163, 4, none⟩ (.int .i64 t159)) ⟨gb163, 5, none⟩ (.slice Ao8 t160.length co8)) ⟨gb163, 0, none⟩ (.int .i64 7)) ⟨gb163, 1, none⟩ (.int .i64 a0))).heap[gb163]? = some (.cells #[.int .i64 7, .int .i64 a0, .int .i64 t157, .int .i64 t158, .int .i64 t159, .slice Ao8 t160.length co8] 24 (0, 0)) := by refine blk_put (cs := #[.int .i64 7, .int .i64 t156, .int .i64 t157, .int .i64 t158, .int .i64 t159, .slice Ao8 t160.length co8]) ?_ 1 _ rfl; refine blk_put (cs := #[.int .i64 t155, .int .i64 t156, .int .i64 t157, .int .i64 t158, .int .i64 t159, .slice Ao8 t160.length co8]) ?_ 0 _ rfl; refine blk_put (cs := #[.int .i64 t155, .int .i64 t156, .int .i64 t157, .int .i64 t158, .int .i64 t159, .slice none 0 0]) ?_ 5 _ rfl; refine blk_put (cs := #[.int .i64 t155, .int .i64 t156, .int .i64 t157, .int .i64 t158, .int .i64 0, .slice none 0 0]) ?_ 4 _ rfl; refine blk_put (cs := #[.int .i64 t155, .int .i64 t156, .int .i64 t157, .int .i64 0, .int .i64 0, .slice none 0 0]) ?_ 3 _ rfl; refine blk_put (cs := #[.int .i64 t155, .int .i64 t156, .int .i64 0, .int .i64 0, .int .i64 0, .slice none 0 0]) ?_ 2 _ rfl; refine blk_put (cs := #[.int .i64 t155, .int .i64 0, .int .i64 0, .int .i64 0, .int .i64 0, .slice none 0 0]) ?_ 1 _ rfl; refine blk_put (cs := #[.int .i64 0, .int .i64 0, .int .i64 0, .int .i64 0, .int .i64 0, .slice none 0 0]) ?_ 0 _ rfl; exact BK163.out
 have q2 : ((World.setCell (World.setCell (World.setCell (World.setCell (World.setCell (World.setCell (World.setCell (World.setCell w5 ⟨gb163, 0, none⟩ (.int .i64 t155)) ⟨gb163, 1, none⟩ (.int .i64 t156)) ⟨gb163, 2, none⟩ (.int .i64 t157)) ⟨gb163, 3, none⟩ (.int .i64 t158)) ⟨gb163, 4, none⟩ (.int .i64 t159)) ⟨gb163, 5, none⟩ (.slice Ao8 t160.length co8)) ⟨gb163, 0, none⟩ (.int .i64 7)) ⟨gb163, 1, none⟩ (.int .i64 a0))).heap[gb154]? = some (.cells #[.int .i64 0, .int .i64 0, .int .i64 0, .int .i64 0, .int .i64 0, .slice none 0 0] 24 (0, 0)) := by refine blk_far ?_ NB154_163.out _; refine blk_far ?_ NB154_163.out _; refine blk_far ?_ NB154_163.out _; refine blk_far ?_ NB154_163.out _; refine blk_far ?_ NB154_163.out _; refine blk_far ?_ NB154_163.out _; refine blk_far ?_ NB154_163.out _; refine blk_far ?_ NB154_163.out _; exact BK154.out
 have q3 : Below w.heap.size w ((World.setCell (World.setCell (World.setCell (World.setCell (World.setCell (World.setCell (World.setCell (World.setCell w5 ⟨gb163, 0, none⟩ (.int .i64 t155)) ⟨gb163, 1, none⟩ (.int .i64 t156)) ⟨gb163, 2, none⟩ (.int .i64 t157)) ⟨gb163, 3, none⟩ (.int .i64 t158)) ⟨gb163, 4, none⟩ (.int .i64 t159)) ⟨gb163, 5, none⟩ (.slice Ao8 t160.length co8)) ⟨gb163, 0, none⟩ (.int .i64 7)) ⟨gb163, 1, none⟩ (.int .i64 a0))) := by (with_reducible repeat (first | exact HB.out | refine below_set ?_ GE163.out))
 have q4 : Kd.R k68 68 ((World.setCell (World.setCell (World.setCell (World.setCell (World.setCell (World.setCell (World.setCell (World.setCell w5 ⟨gb163, 0, none⟩ (.int .i64 t155)) ⟨gb163, 1, none⟩ (.int .i64 t156)) ⟨gb163, 2, none⟩ (.int .i64 t157)) ⟨gb163, 3, none⟩ (.int .i64 t158)) ⟨gb163, 4, none⟩ (.int .i64 t159)) ⟨gb163, 5, none⟩ (.slice Ao8 t160.length co8)) ⟨gb163, 0, none⟩ (.int .i64 7)) ⟨gb163, 1, none⟩ (.int .i64 a0))) w.heap.size (fun _ => True) (.slice Ao8 t160.length co8) t160 := Kd.R_mono (Kd.R_far (p := ⟨gb163, 1, none⟩) (Kd.R_far (p := ⟨gb163, 0, none⟩) (Kd.R_far (p := ⟨gb163, 5, none⟩) (Kd.R_far (p := ⟨gb163, 4, none⟩) (Kd.R_far (p := ⟨gb163, 3, none⟩) (Kd.R_far (p := ⟨gb163, 2, none⟩) (Kd.R_far (p := ⟨gb163, 1, none⟩) (Kd.R_far (p := ⟨gb163, 0, none⟩) (Kd.R_types HO162.out BK163.out (by decide)) (fun _ hk => hk.2) (.int .i64 t155)) (fun _ hk => hk.2) (.int .i64 t156)) (fun _ hk => hk.2) (.int .i64 t157)) (fun _ hk => hk.2) (.int .i64 t158)) (fun _ hk => hk.2) (.int .i64 t159)) (fun _ hk => hk.2) (.slice Ao8 t160.length co8)) (fun _ hk => hk.2) (.int .i64 7)) (fun _ hk => hk.2) (.int .i64 a0)) (fun _ _ => trivial)
 clear hcz7_0 hcz7_1 hcz7_2 hcz7_3 hcz7_4 hcz7_5 hfz7_0 hfz7_1 hfz7_2 hfz7_3 hfz7_4 hfz7_5 hcz9_0 hcz9_1 hcz9_2 hcz9_3 hcz9_4 hcz9_5 hfz9_0 hfz9_1 hfz9_2 hfz9_3 hfz9_4 hfz9_5
 generalize (World.setCell (World.setCell (World.setCell (World.setCell (World.setCell (World.setCell (World.setCell (World.setCell w5 ⟨gb163, 0, none⟩ (.int .i64 t155)) ⟨gb163, 1, none⟩ (.int .i64 t156)) ⟨gb163, 2, none⟩ (.int .i64 t157)) ⟨gb163, 3, none⟩ (.int .i64 t158)) ⟨gb163, 4, none⟩ (.int .i64 t159)) ⟨gb163, 5, none⟩ (.slice Ao8 t160.length co8)) ⟨gb163, 0, none⟩ (.int .i64 7)) ⟨gb163, 1, none⟩ (.int .i64 a0)) = w9 at q1 q2 q3 q4 ⊢
 have hy0 : w9.cell? ⟨gb163, 0, none⟩ = some (.int .i64 7) := (blk_cell q1 0).trans rfl
 have hz0 : w9.cell? ⟨gb154, 0, none⟩ = some (.int .i64 0) := (blk_cell q2 0).trans rfl
 have hf0 := blk_frozen q2 0
 have he0 := blk_frozen q1 0
 have hy1 : w9.cell? ⟨gb163, 1, none⟩ = some (.int .i64 a0) := (blk_cell q1 1).trans rfl
 have hz1 : w9.cell? ⟨gb154, 1, none⟩ = some (.int .i64 0) := (blk_cell q2 1).trans rfl
 have hf1 := blk_frozen q2 1
 have he1 := blk_frozen q1 1
 have hy2 : w9.cell? ⟨gb163, 2, none⟩ = some (.int .i64 t157) := (blk_cell q1 2).trans rfl
 have hz2 : w9.cell? ⟨gb154, 2, none⟩ = some (.int .i64 0) := (blk_cell q2 2).trans rfl
 have hf2 := blk_frozen q2 2
 have he2 := blk_frozen q1 2
 have hy3 : w9.cell? ⟨gb163, 3, none⟩ = some (.int .i64 t158) := (blk_cell q1 3).trans rfl
 have hz3 : w9.cell? ⟨gb154, 3, none⟩ = some (.int .i64 0) := (blk_cell q2 3).trans rfl
 have hf3 := blk_frozen q2 3
 have he3 := blk_frozen q1 3
 have hy4 : w9.cell? ⟨gb163, 4, none⟩ = some (.int .i64 t159) := (blk_cell q1 4).trans rfl
 have hz4 : w9.cell? ⟨gb154, 4, none⟩ = some (.int .i64 0) := (blk_cell q2 4).trans rfl
 have hf4 := blk_frozen q2 4
 have he4 := blk_frozen q1 4
 have hy5 : w9.cell? ⟨gb163, 5, none⟩ = some (.slice Ao8 t160.length co8) := (blk_cell q1 5).trans rfl
 have hz5 : w9.cell? ⟨gb154, 5, none⟩ = some (.slice none 0 0) := (blk_cell q2 5).trans rfl
 have hf5 := blk_frozen q2 5
 have he5 := blk_frozen q1 5
 have hn := NB154_163.out
 have hn2 := Ne.symm hn
 go_wp2
 refine bodyPost_ret (results_cell_row rfl _ _ gb154 24 #[.int .i64 7, .int .i64 a0, .int .i64 t157, .int .i64 t158, .int .i64 t159, .slice Ao8 t160.length co8] (0, 0) _ rfl (by refine blk_put (cs := #[.int .i64 7, .int .i64 a0, .int .i64 t157, .int .i64 t158, .int .i64 t159, .slice none 0 0]) ?_ 5 _ rfl; refine blk_put (cs := #[.int .i64 7, .int .i64 a0, .int .i64 t157, .int .i64 t158, .int .i64 0, .slice none 0 0]) ?_ 4 _ rfl; refine blk_put (cs := #[.int .i64 7, .int .i64 a0, .int .i64 t157, .int .i64 0, .int .i64 0, .slice none 0 0]) ?_ 3 _ rfl; refine blk_put (cs := #[.int .i64 7, .int .i64 a0, .int .i64 0, .int .i64 0, .int .i64 0, .slice none 0 0]) ?_ 2 _ rfl; refine blk_put (cs := #[.int .i64 7, .int .i64 0, .int .i64 0, .int .i64 0, .int .i64 0, .slice none 0 0]) ?_ 1 _ rfl; refine blk_put (cs := #[.int .i64 0, .int .i64 0, .int .i64 0, .int .i64 0, .int .i64 0, .slice none 0 0]) ?_ 0 _ rfl; exact q2) Try.underlying24 rfl (by kernel_rfl)) rfl ?_
 exact ⟨_, rfl, Kd.R_mono (Kd.R_far (p := ⟨gb154, 5, none⟩) (Kd.R_far (p := ⟨gb154, 4, none⟩) (Kd.R_far (p := ⟨gb154, 3, none⟩) (Kd.R_far (p := ⟨gb154, 2, none⟩) (Kd.R_far (p := ⟨gb154, 1, none⟩) (Kd.R_far (p := ⟨gb154, 0, none⟩) (Kd.R_types q4 q2 (by decide)) (fun _ hk => hk.2) (.int .i64 7)) (fun _ hk => hk.2) (.int .i64 a0)) (fun _ hk => hk.2) (.int .i64 t157)) (fun _ hk => hk.2) (.int .i64 t158)) (fun _ hk => hk.2) (.int .i64 t159)) (fun _ hk => hk.2) (.slice Ao8 t160.length co8)) (fun _ _ => trivial), by (with_reducible repeat (first | exact q3 | refine below_set ?_ GE154.out))⟩

-- its contract: by hand
/-! ### slices_Clone_Op: function 58 -/
def slices_Clone_Op.f (l0 : List (S68)) : Option ((List (S68))) := if l0.length < 4398046511104 then some l0 else none

end Go.Proofs.Ytmidohjfajbpmaa.P
end
section
set_option linter.unusedVariables false
set_option linter.unusedSimpArgs false
set_option maxHeartbeats 4000000
namespace Go.Proofs.Ytmidohjfajbpmaa.P
open Go.RowKit Go.Proofs.YtmidohjfajbpmaaW.PrintWords Go.Proofs.YtmidohjfajbpmaaW.PrintLast Go.Proofs.YtmidohjfajbpmaaW.PrintMore

theorem row_none {α : Type} {d : Kd α} {w : World} {n : Nat} {l : List α} (h : d.C w none n l) : l = [] := by
  have h3 := h.2.2
  rcases Nat.eq_zero_or_pos n with e | e
  · exact List.eq_nil_of_length_eq_zero (h.1.trans e)
  · obtain ⟨ad, e2, _⟩ := h3 e
    cases e2
set_option maxRecDepth 100000 in
theorem slices_Clone_Op.calls (A0 : Option Addr) (c0 : Nat) (l0 : List (S68)) (r : List (S68)) (w : World) (hr0 : Kd.C k68 w A0 l0.length l0) (hc0 : l0.length ≤ c0) (h : slices_Clone_Op.f l0 = some r) :
    Calls Try.prog 58 #[.slice A0 l0.length c0] w fun e w' => ∃ v0_ : Value, e = .returned (v0_) ∧ Kd.R k68 68 w' w.heap.size (fun _ => True) v0_ r ∧ Below w.heap.size w w' := by
  unfold slices_Clone_Op.f at h
  split at h
  case isFalse => cases h
  rename_i hl
  obtain rfl := Option.some.inj h
  clear h
  cases A0 with
  | none =>
    obtain rfl := row_none hr0
    clear hr0 hl
    simp only [List.length_nil]
    have kn := fun (w : World) => run_eql_slice_nil (P := Try.prog) w 22 68 none 0 c0 Try.underlying22
    go_enter Try.func58, Try.ntmps58
    go_wp2
    go_ret
    exact ⟨_, rfl, Kd.R_nil _ _ _ _ _, Below.refl _ _⟩
  | some ad =>
    have hu22 := Try.underlying22
    have HR0 := Aside0.mk hr0
    have LM := Aside0.mk hl
    clear hr0 hl
    have HB := Aside0.mk (Below.refl w.heap.size w)
    have kn := fun (w : World) => run_eql_slice_nil (P := Try.prog) w 22 68 (some ad) l0.length c0 Try.underlying22
    go_enter Try.func58, Try.ntmps58
    go_wp2_with (first | ((with_reducible refine gate_dst (N := 5) rfl ?_); refine Kd.R_lit k68 _ 68 ?hg (N := 5) ?hd (xs := ([] : List (S68))) (inner := []) (ok := fun _ => True) (okp := fun _ => True) ?hr ?hp (fun _ hk => hk) trivial (Below.refl _ _) (Nat.le_refl _) (by simp) ?_; (case hd => rfl); (case hg => rfl); (case hr => first | (go_simp; done) | (go_simp; rfl)); (case hp => exact (Reps.none _ _)); intro v169 w5 ho6 hb hg_ hnew_; clear hg_ hnew_; have n0_ := Aside0.mk (Kd.R_lower ho6 (below_size (by repeat (first | (with_reducible first | exact HB.out | apply below_alloc | apply pw_below_drewN | apply below_drew1) | exact HB.out)))); have n3_ := Aside0.mk (below_step (by repeat (first | (with_reducible first | exact HB.out | apply below_alloc | apply pw_below_drewN | apply below_drew1) | exact HB.out)) hb); clear HB; have HO170 := n0_; have HB := n3_; clear n0_ n3_; clear hb ho6) | ((with_reducible refine gate_builtin (b := .append) (xs := #[.tmp 5, .tmp 6]) rfl ?_); at_builtin; refine Kd.R_append_rows k68 (w0 := w) w.heap.size rfl (.tmp 5) (.tmp 6) 22 68 (.agg #[(.bool false), (.int .i64 0), (.string ⟨#[]⟩)]) 32 rfl Try.underlying22 info68 rfl (by decide) (by omega) v169 [] l0 _ _ _ (fun _ => True) (fun _ => False) rfl rfl ?aO ?aR (fun _ _ h => h) (fun _ h => h.elim) ?aF ?aB ?aS ?aL ?_; (case aR => repeat (first | exact (Kd.C_below HR0.out HB.out) | (with_reducible refine Kd.C_alloc ?_ _) | (with_reducible refine Kd.C_drewN ?_ _) | (with_reducible refine Kd.C_drew ?_))); (case aB => exact (by repeat (first | (with_reducible first | exact HB.out | apply below_alloc | apply pw_below_drewN | apply below_drew1) | exact HB.out))); (case aF => exact (fun _ _ => trivial)); (case aO => exact (by (with_reducible repeat (first | apply Kd.R_alloc | apply Kd.R_drewN | apply Kd.R_drew)); exact HO170.out)); (case aS => exact (below_size (by repeat (first | (with_reducible first | exact HB.out | apply below_alloc | apply pw_below_drewN | apply below_drew1) | exact HB.out)))); (case aL => have := LM.out; simp only [List.length_nil]; omega); intro v172 w9 ho hb hg hat; have n2_ := Aside0.mk (hb); have n3_ := Aside0.mk (ho); clear HB; clear HO170; have HB := n2_; have HO173 := n3_; clear n2_ n3_; clear ho hb hg hat))
    go_ret
    exact ⟨_, by first | rfl | (simp; done), HO173.out, by repeat (first | (with_reducible first | exact HB.out | apply below_alloc | apply pw_below_drewN | apply below_drew1) | exact HB.out)⟩

end Go.Proofs.Ytmidohjfajbpmaa.P
end
section
namespace Go.Proofs.Ytmidohjfajbpmaa.P
open Go.RowKit Go.Proofs.YtmidohjfajbpmaaW.PrintWords Go.Proofs.YtmidohjfajbpmaaW.PrintLast Go.Proofs.YtmidohjfajbpmaaW.PrintMore
attribute [local go_sem] max2_int min2_int max_two min_two max_three min_three max_four min_four   -- for this text's walks alone
set_option linter.unusedVariables false
set_option linter.unusedSimpArgs false

/-! ### device_Copy: function 27 -/
def device_Copy.f (a0_0 : Int) (a0_1 : Int) (a0_2 : Int) (a0_3 : Int) (a0_4 : Int) (l0_5 : List (S68)) : Option (Int × Int × Int × Int × Int × (List (S68))) := (slices_Clone_Op.f l0_5).bind fun t166 => (some (a0_0, a0_1, a0_2, a0_3, a0_4, t166))
set_option maxHeartbeats 8000000 in
set_option maxRecDepth 100000 in
theorem device_Copy.calls (a0_0 : Int) (a0_1 : Int) (a0_2 : Int) (a0_3 : Int) (a0_4 : Int) (A0_5 : Option Addr) (c0_5 : Nat) (l0_5 : List (S68)) (r1 : Int) (r2 : Int) (r3 : Int) (r4 : Int) (r5 : Int) (r6 : List (S68)) (w : World) (hr0_5 : Kd.C k68 w A0_5 l0_5.length l0_5) (hc0_5 : l0_5.length ≤ c0_5) (h : device_Copy.f a0_0 a0_1 a0_2 a0_3 a0_4 l0_5 = some (r1, r2, r3, r4, r5, r6)) :
  Calls Try.prog 27 #[.agg #[.int .i64 a0_0, .int .i64 a0_1, .int .i64 a0_2, .int .i64 a0_3, .int .i64 a0_4, .slice A0_5 l0_5.length c0_5]] w fun e w' => ∃ v5_ : Value, e = .returned (.agg #[.int .i64 r1, .int .i64 r2, .int .i64 r3, .int .i64 r4, .int .i64 r5, v5_]) ∧ Kd.R k68 68 w' w.heap.size (fun _ => True) v5_ r6 ∧ Below w.heap.size w w' := by
 have hu24 := Try.underlying24
 have HR0_5 := Aside0.mk hr0_5
 have HC0_5 := Aside0.mk hc0_5
 clear hr0_5 hc0_5
 have HB := Aside0.mk (Below.refl w.heap.size w)
 have H : ((slices_Clone_Op.f l0_5).bind fun t166 => (some (a0_0, a0_1, a0_2, a0_3, a0_4, t166))) = some (r1, r2, r3, r4, r5, r6) := h
 clear h
 replace H := Option.bind_eq_some_iff.mp H
 obtain ⟨t166, A20, H⟩ := H
 replace H : (some (a0_0, a0_1, a0_2, a0_3, a0_4, t166)) = some (r1, r2, r3, r4, r5, r6) := H
 have A2 := Aside0.mk A20
 clear A20
 simp only [Option.some.injEq, Prod.mk.injEq] at H
 obtain ⟨rfl, rfl, rfl, rfl, rfl, rfl⟩ := H
 go_enter Try.func27, Try.ntmps27
 go_wp2_with (first | ((with_reducible refine gate_dst (N := 1) rfl ?_); refine box_event ?hg (N := 1) ?hd (cs := #[.int .i64 a0_0, .int .i64 a0_1, .int .i64 a0_2, .int .i64 a0_3, .int .i64 a0_4, .slice A0_5 l0_5.length c0_5]) (t := 24) ?hr ?_; (case hd => rfl); (case hg => rfl); (case hr => first | (go_simp; done) | (go_simp; rfl)); intro gb164 hg w3 hbox hb; have n0_ := Aside0.mk (below_step (kb HB.out) hb); have n1_ := Aside0.mk (hbox); have n2_ := Aside0.mk ((kz hg (below_size (kb HB.out)) : w.heap.size ≤ gb164)); have n3_ := Aside0.mk ((kz hg (below_size (kb HB.out)) : w.heap.size ≤ gb164)); clear HB; have HB := n0_; have BK164 := n1_; have GW164 := n2_; have GE164 := n3_; clear n0_ n1_ n2_ n3_; clear hb hbox hg) | ((with_reducible refine gate_dst (N := 2) rfl ?_); refine box_event ?hg (N := 2) ?hd (cs := #[.int .i64 0, .int .i64 0, .int .i64 0, .int .i64 0, .int .i64 0, .slice none 0 0]) (t := 24) ?hr ?_; (case hd => rfl); (case hg => rfl); (case hr => first | (go_simp; done) | (go_simp; rfl)); intro gb165 hg w4 hbox hb; have n0_ := Aside0.mk (kL BK164.out hb); have n1_ := Aside0.mk (below_step (kb1 HB.out GE164.out) hb); have n2_ := Aside0.mk (hbox); have n3_ := Aside0.mk ((kz hg (below_size (kb1 HB.out GE164.out)) : w.heap.size ≤ gb165)); have n4_ := Aside0.mk ((kz hg (below_size (kb1 HB.out GE164.out)) : w.heap.size ≤ gb165)); have n5_ := Aside0.mk ((kN hg BK164.out : gb164 ≠ gb165)); have n6_ := Aside0.mk (((kN hg BK164.out).symm : gb165 ≠ gb164)); clear BK164; clear HB; have BK164 := n0_; have HB := n1_; have BK165 := n2_; have GW165 := n3_; have GE165 := n4_; have NB164_165 := n5_; have NB165_164 := n6_; clear n0_ n1_ n2_ n3_ n4_ n5_ n6_; clear hb hbox hg; have hnb5 := NB164_165.out; have hnc5 := NB165_164.out; obtain ⟨hcz6_0, hcz6_1, hcz6_2, hcz6_3, hcz6_4, hcz6_5⟩ := kc6 BK164.out; obtain ⟨hfz6_0, hfz6_1, hfz6_2, hfz6_3, hfz6_4, hfz6_5⟩ := kf6 BK164.out) | ((with_reducible refine gate_callee (f := 58) rfl ?_); refine goesL_ (some 5) rfl rfl Try.func58 (by kernel_rfl) rfl #[.slice A0_5 l0_5.length c0_5] rfl ka ?_; (with_reducible refine (slices_Clone_Op.calls _ _ l0_5 t166 _ ?side1 ?side2 A2.out).mono ?_); (case side1 => exact kC (Kd.C_below HR0_5.out HB.out)); (case side2 => exact HC0_5.out); rintro e w7 ⟨v167, rfl, ho0, hb⟩; refine ⟨_, rfl, ?_⟩; have n0_ := Aside0.mk (Kd.R_lower ho0 (below_size (kb2 HB.out GE164.out GE165.out))); have n1_ := Aside0.mk (kL BK164.out hb); have n2_ := Aside0.mk (kL BK165.out hb); have n3_ := Aside0.mk (below_step (kb2 HB.out GE164.out GE165.out) hb); clear BK164; clear BK165; clear HB; have HO168 := n0_; have BK164 := n1_; have BK165 := n2_; have HB := n3_; clear n0_ n1_ n2_ n3_; (try clear hb); (try clear hb2); (try clear hk); (try clear hi); (try clear ho0); obtain ⟨Ao8, co8, eo8⟩ := Kd.R_slice HO168.out; subst eo8; obtain ⟨hcz9_0, hcz9_1, hcz9_2, hcz9_3, hcz9_4, hcz9_5⟩ := kc6 BK164.out; obtain ⟨hfz9_0, hfz9_1, hfz9_2, hfz9_3, hfz9_4, hfz9_5⟩ := kf6 BK164.out; obtain ⟨hcz10_0, hcz10_1, hcz10_2, hcz10_3, hcz10_4, hcz10_5⟩ := kc6 BK165.out; obtain ⟨hfz10_0, hfz10_1, hfz10_2, hfz10_3, hfz10_4, hfz10_5⟩ := kf6 BK165.out))
 refine bodyPost_ret (results_cell_row rfl _ _ gb165 24 #[.int .i64 a0_0, .int .i64 a0_1, .int .i64 a0_2, .int .i64 a0_3, .int .i64 a0_4, .slice Ao8 t166.length co8] (0, 0) _ rfl (by (with_reducible repeat (first | refine blk_drewN ?_ _ | refine blk_drew ?_ | refine blk_alloc ?_ _)); refine blk_put (cs := #[.int .i64 a0_0, .int .i64 a0_1, .int .i64 a0_2, .int .i64 a0_3, .int .i64 a0_4, .slice none 0 0]) ?_ 5 _ rfl; (with_reducible repeat (first | refine blk_drewN ?_ _ | refine blk_drew ?_ | refine blk_alloc ?_ _)); refine blk_put (cs := #[.int .i64 a0_0, .int .i64 a0_1, .int .i64 a0_2, .int .i64 a0_3, .int .i64 0, .slice none 0 0]) ?_ 4 _ rfl; (with_reducible repeat (first | refine blk_drewN ?_ _ | refine blk_drew ?_ | refine blk_alloc ?_ _)); refine blk_put (cs := #[.int .i64 a0_0, .int .i64 a0_1, .int .i64 a0_2, .int .i64 0, .int .i64 0, .slice none 0 0]) ?_ 3 _ rfl; (with_reducible repeat (first | refine blk_drewN ?_ _ | refine blk_drew ?_ | refine blk_alloc ?_ _)); refine blk_put (cs := #[.int .i64 a0_0, .int .i64 a0_1, .int .i64 0, .int .i64 0, .int .i64 0, .slice none 0 0]) ?_ 2 _ rfl; (with_reducible repeat (first | refine blk_drewN ?_ _ | refine blk_drew ?_ | refine blk_alloc ?_ _)); refine blk_put (cs := #[.int .i64 a0_0, .int .i64 0, .int .i64 0, .int .i64 0, .int .i64 0, .slice none 0 0]) ?_ 1 _ rfl; (with_reducible repeat (first | refine blk_drewN ?_ _ | refine blk_drew ?_ | refine blk_alloc ?_ _)); refine blk_put (cs := #[.int .i64 0, .int .i64 0, .int .i64 0, .int .i64 0, .int .i64 0, .slice none 0 0]) ?_ 0 _ rfl; (with_reducible repeat (first | refine blk_drewN ?_ _ | refine blk_drew ?_ | refine blk_alloc ?_ _)); refine blk_far ?_ NB165_164.out _; (with_reducible repeat (first | refine blk_drewN ?_ _ | refine blk_drew ?_ | refine blk_alloc ?_ _)); exact BK165.out) Try.underlying24 rfl (by kernel_rfl)) rfl ?_
 exact ⟨_, by first | rfl | (simp [errW_none, errW_some] <;> rfl) | (simp [*, errW_none, errW_some] <;> rfl), by (with_reducible repeat (first | apply Kd.R_alloc | apply Kd.R_drewN | apply Kd.R_drew)); exact Kd.R_mono (Kd.R_far (p := ⟨gb165, 5, none⟩) (Kd.R_far (p := ⟨gb165, 4, none⟩) (Kd.R_far (p := ⟨gb165, 3, none⟩) (Kd.R_far (p := ⟨gb165, 2, none⟩) (Kd.R_far (p := ⟨gb165, 1, none⟩) (Kd.R_far (p := ⟨gb165, 0, none⟩) (Kd.R_far (p := ⟨gb164, 5, none⟩) (Kd.R_types (Kd.R_types HO168.out BK164.out (by decide)) BK165.out (by decide)) (fun _ hk => hk.1.2) (.slice Ao8 t166.length co8)) (fun _ hk => hk.2) (.int .i64 a0_0)) (fun _ hk => hk.2) (.int .i64 a0_1)) (fun _ hk => hk.2) (.int .i64 a0_2)) (fun _ hk => hk.2) (.int .i64 a0_3)) (fun _ hk => hk.2) (.int .i64 a0_4)) (fun _ hk => hk.2) (.slice Ao8 t166.length co8)) (fun _ hk => trivial), kb2 HB.out GE164.out GE165.out⟩

/-! ### upload_Give: function 10 -/
mutual
def upload_Give.j0 : Nat → ByteArray → Int → Int → Bool → Int → Int → Int → Int → Int → List (S68) → Option (Int × Int × Int × Int × Int × (List (S68)) × ByteArray × Int)
 | 0, _, _, _, _, _, _, _, _, _, _ => none
 | k + 1, x0, x2, x3, x43, x170000, x170001, x170002, x170003, x170004, x170005 => if x43 = true then (some (0, 0, 0, 0, 0, ([] : List (S68)), (⟨#[]⟩ : ByteArray), 2000)) else ((choose_Active.f x0).bind fun bt177 => (if bt177.2.2.2.2.2 = 0 then ((device_Copy.f x170000 x170001 x170002 x170003 x170004 x170005).bind fun bt192 => (if x170000 = 0 then (upload_Give.j1 k x0 x2 x3 bt177.1 bt177.2.1 bt177.2.2.1 bt177.2.2.2.1 bt177.2.2.2.2.1 bt192.1 bt192.2.1 0 bt192.2.2.2.1 bt192.2.2.2.2.1 bt192.2.2.2.2.2) else (upload_Give.j1 k x0 x2 x3 bt177.1 bt177.2.1 bt177.2.2.1 bt177.2.2.2.1 bt177.2.2.2.2.1 bt192.1 bt192.2.1 bt192.2.2.1 bt192.2.2.2.1 bt192.2.2.2.2.1 bt192.2.2.2.2.2))) else ((device_Failed.f 2).bind fun bt184 => (some (bt184.1, bt184.2.1, bt184.2.2.1, bt184.2.2.2.1, bt184.2.2.2.2.1, bt184.2.2.2.2.2, (⟨#[]⟩ : ByteArray), 0)))))
def upload_Give.j1 : Nat → ByteArray → Int → Int → Int → Int → Int → Int → Int → Int → Int → Int → Int → Int → List (S68) → Option (Int × Int × Int × Int × Int × (List (S68)) × ByteArray × Int)
 | 0, _, _, _, _, _, _, _, _, _, _, _, _, _, _ => none
 | k + 1, x0, x2, x3, x184000, x184001, x184002, x184003, x184004, x201000, x201001, x201002, x201003, x201004, x201005 => if x2 = x201002 then ((image_Of.f x0 x184001 x184002 x184003 x184004).bind fun bt209 => (if 0 ≤ (mn (wrap64 (32 * x201002)) (bt209.1.size : Int)) then (if (mn (wrap64 (32 * x201002)) (bt209.1.size : Int)) ≤ (bt209.1.size : Int) then (if 0 ≤ (mn x3 ((bt209.1.extract ((mn (wrap64 (32 * x201002)) (bt209.1.size : Int)) : Int).toNat bt209.1.size).size : Int)) then (if (mn x3 ((bt209.1.extract ((mn (wrap64 (32 * x201002)) (bt209.1.size : Int)) : Int).toNat bt209.1.size).size : Int)) ≤ ((bt209.1.extract ((mn (wrap64 (32 * x201002)) (bt209.1.size : Int)) : Int).toNat bt209.1.size).size : Int) then (if (((bt209.1.extract ((mn (wrap64 (32 * x201002)) (bt209.1.size : Int)) : Int).toNat bt209.1.size).extract 0 ((mn x3 ((bt209.1.extract ((mn (wrap64 (32 * x201002)) (bt209.1.size : Int)) : Int).toNat bt209.1.size).size : Int)) : Int).toNat).size : Int) < 32 then ((device_New.f).bind fun bt211 => (some (bt211.1, bt211.2.1, bt211.2.2.1, bt211.2.2.2.1, bt211.2.2.2.2.1, bt211.2.2.2.2.2, (bt209.1.extract ((mn (wrap64 (32 * x201002)) (bt209.1.size : Int)) : Int).toNat bt209.1.size).extract 0 ((mn x3 ((bt209.1.extract ((mn (wrap64 (32 * x201002)) (bt209.1.size : Int)) : Int).toNat bt209.1.size).size : Int)) : Int).toNat, 0))) else (some (6, x201001, mn (wrap64 (x201002 + 1)) 16, x201003, x201004, x201005, (bt209.1.extract ((mn (wrap64 (32 * x201002)) (bt209.1.size : Int)) : Int).toNat bt209.1.size).extract 0 ((mn x3 ((bt209.1.extract ((mn (wrap64 (32 * x201002)) (bt209.1.size : Int)) : Int).toNat bt209.1.size).size : Int)) : Int).toNat, 0))) else (none)) else (none)) else (none)) else (none))) else ((device_Failed.f 4).bind fun bt201 => (some (bt201.1, bt201.2.1, bt201.2.2.1, bt201.2.2.2.1, bt201.2.2.2.2.1, bt201.2.2.2.2.2, (⟨#[]⟩ : ByteArray), 0)))
end
def upload_Give.f (k : Nat) (a0 : ByteArray) (a1_0 : Int) (a1_1 : Int) (a1_2 : Int) (a1_3 : Int) (a1_4 : Int) (l1_5 : List (S68)) (a2 : Int) (a3 : Int) : Option (Int × Int × Int × Int × Int × (List (S68)) × ByteArray × Int) := (nor_May.f a0).bind fun t171 => (if t171 = true then ((device_May.f a1_0 a1_1 a1_2 a1_3 a1_4 l1_5).bind fun t172 => (if t172 = true then (if a1_0 = 0 then ((setup_Value.f a2).bind fun t173 => (if t173 = true then ((setup_Length.f a3).bind fun t174 => (upload_Give.j0 k a0 a2 a3 (!t174) a1_0 a1_1 a1_2 a1_3 a1_4 l1_5)) else (upload_Give.j0 k a0 a2 a3 true a1_0 a1_1 a1_2 a1_3 a1_4 l1_5))) else (if a1_0 = 6 then ((setup_Value.f a2).bind fun t175 => (if t175 = true then ((setup_Length.f a3).bind fun t176 => (upload_Give.j0 k a0 a2 a3 (!t176) a1_0 a1_1 a1_2 a1_3 a1_4 l1_5)) else (upload_Give.j0 k a0 a2 a3 true a1_0 a1_1 a1_2 a1_3 a1_4 l1_5))) else (upload_Give.j0 k a0 a2 a3 true a1_0 a1_1 a1_2 a1_3 a1_4 l1_5))) else (upload_Give.j0 k a0 a2 a3 true a1_0 a1_1 a1_2 a1_3 a1_4 l1_5))) else (upload_Give.j0 k a0 a2 a3 true a1_0 a1_1 a1_2 a1_3 a1_4 l1_5))
theorem upload_Give.mono_l : ∀ k, (∀ y0 y1 y2 y3 y4 y5 y6 y7 y8 y9, LeO (upload_Give.j0 k y0 y1 y2 y3 y4 y5 y6 y7 y8 y9) (upload_Give.j0 (k + 1) y0 y1 y2 y3 y4 y5 y6 y7 y8 y9)) ∧ (∀ y0 y1 y2 y3 y4 y5 y6 y7 y8 y9 y10 y11 y12 y13, LeO (upload_Give.j1 k y0 y1 y2 y3 y4 y5 y6 y7 y8 y9 y10 y11 y12 y13) (upload_Give.j1 (k + 1) y0 y1 y2 y3 y4 y5 y6 y7 y8 y9 y10 y11 y12 y13))
 | 0 => ⟨fun _ _ _ _ _ _ _ _ _ _ r h => by simp [upload_Give.j0] at h, fun _ _ _ _ _ _ _ _ _ _ _ _ _ _ r h => by simp [upload_Give.j1] at h⟩
 | k + 1 => by
  obtain ⟨ih0, ih1⟩ := upload_Give.mono_l k
  refine ⟨?_, ?_⟩
  ·intro y0 y1 y2 y3 y4 y5 y6 y7 y8 y9
   unfold upload_Give.j0
   repeat' first
   | (with_reducible exact ih0 _ _ _ _ _ _ _ _ _ _)
   | (with_reducible exact ih1 _ _ _ _ _ _ _ _ _ _ _ _ _ _)
   | (with_reducible exact LeO.refl _)
   | (with_reducible exact LeO.none _)
   | (with_reducible refine LeO.ite ?_ ?_)
   | (with_reducible refine LeO.bind ?_ (fun _ => ?_))
   | exact ih0 _ _ _ _ _ _ _ _ _ _
   | exact ih1 _ _ _ _ _ _ _ _ _ _ _ _ _ _
   | exact LeO.none _
   | refine LeO.ite ?_ ?_
   | refine LeO.bind ?_ (fun _ => ?_)
  ·intro y0 y1 y2 y3 y4 y5 y6 y7 y8 y9 y10 y11 y12 y13
   unfold upload_Give.j1
   repeat' first
   | (with_reducible exact ih0 _ _ _ _ _ _ _ _ _ _)
   | (with_reducible exact ih1 _ _ _ _ _ _ _ _ _ _ _ _ _ _)
   | (with_reducible exact LeO.refl _)
   | (with_reducible exact LeO.none _)
   | (with_reducible refine LeO.ite ?_ ?_)
   | (with_reducible refine LeO.bind ?_ (fun _ => ?_))
   | exact ih0 _ _ _ _ _ _ _ _ _ _
   | exact ih1 _ _ _ _ _ _ _ _ _ _ _ _ _ _
   | exact LeO.none _
   | refine LeO.ite ?_ ?_
   | refine LeO.bind ?_ (fun _ => ?_)
theorem upload_Give.mono : ∀ a0 a1 a2 a3 a4 a5 a6 a7 a8 k, LeO (upload_Give.f k a0 a1 a2 a3 a4 a5 a6 a7 a8) (upload_Give.f (k + 1) a0 a1 a2 a3 a4 a5 a6 a7 a8) := by
 intro a0 a1 a2 a3 a4 a5 a6 a7 a8 k
 obtain ⟨ih0, ih1⟩ := upload_Give.mono_l k
 unfold upload_Give.f
 repeat' first
   | (with_reducible exact ih0 _ _ _ _ _ _ _ _ _ _)
   | (with_reducible exact ih1 _ _ _ _ _ _ _ _ _ _ _ _ _ _)
   | (with_reducible exact LeO.refl _)
   | (with_reducible exact LeO.none _)
   | (with_reducible refine LeO.ite ?_ ?_)
   | (with_reducible refine LeO.bind ?_ (fun _ => ?_))
   | exact ih0 _ _ _ _ _ _ _ _ _ _
   | exact ih1 _ _ _ _ _ _ _ _ _ _ _ _ _ _
   | exact LeO.none _
   | refine LeO.ite ?_ ?_
   | refine LeO.bind ?_ (fun _ => ?_)
set_option maxHeartbeats 8000000 in
set_option maxRecDepth 100000 in
theorem upload_Give.calls (k : Nat) (a0 : ByteArray) (a1_0 : Int) (a1_1 : Int) (a1_2 : Int) (a1_3 : Int) (a1_4 : Int) (A1_5 : Option Addr) (c1_5 : Nat) (l1_5 : List (S68)) (a2 : Int) (a3 : Int) (r1 : Int) (r2 : Int) (r3 : Int) (r4 : Int) (r5 : Int) (r6 : List (S68)) (r7 : ByteArray) (r8 : Int) (w : World) (hr1_5 : Kd.C k68 w A1_5 l1_5.length l1_5) (hc1_5 : l1_5.length ≤ c1_5) (h : upload_Give.f k a0 a1_0 a1_1 a1_2 a1_3 a1_4 l1_5 a2 a3 = some (r1, r2, r3, r4, r5, r6, r7, r8)) :
  Calls Try.prog 10 #[.string a0, .agg #[.int .i64 a1_0, .int .i64 a1_1, .int .i64 a1_2, .int .i64 a1_3, .int .i64 a1_4, .slice A1_5 l1_5.length c1_5], .int .i64 a2, .int .i64 a3] w fun e w' => ∃ v5_ : Value, e = .returned (.tuple #[.agg #[.int .i64 r1, .int .i64 r2, .int .i64 r3, .int .i64 r4, .int .i64 r5, v5_], .string r7, .int .i64 r8]) ∧ Kd.R k68 68 w' w.heap.size (fun _ => True) v5_ r6 ∧ Below w.heap.size w w' := by
 have hu24 := Try.underlying24
 have hu43 := Try.underlying43
 have hu41 := Try.underlying41
 have HR1_5 := Aside0.mk hr1_5
 have HC1_5 := Aside0.mk hc1_5
 clear hr1_5 hc1_5
 have HB := Aside0.mk (Below.refl w.heap.size w)
 have H : ((nor_May.f a0).bind fun t171 => (if t171 = true then ((device_May.f a1_0 a1_1 a1_2 a1_3 a1_4 l1_5).bind fun t172 => (if t172 = true then (if a1_0 = 0 then ((setup_Value.f a2).bind fun t173 => (if t173 = true then ((setup_Length.f a3).bind fun t174 => (upload_Give.j0 k a0 a2 a3 (!t174) a1_0 a1_1 a1_2 a1_3 a1_4 l1_5)) else (upload_Give.j0 k a0 a2 a3 true a1_0 a1_1 a1_2 a1_3 a1_4 l1_5))) else (if a1_0 = 6 then ((setup_Value.f a2).bind fun t175 => (if t175 = true then ((setup_Length.f a3).bind fun t176 => (upload_Give.j0 k a0 a2 a3 (!t176) a1_0 a1_1 a1_2 a1_3 a1_4 l1_5)) else (upload_Give.j0 k a0 a2 a3 true a1_0 a1_1 a1_2 a1_3 a1_4 l1_5))) else (upload_Give.j0 k a0 a2 a3 true a1_0 a1_1 a1_2 a1_3 a1_4 l1_5))) else (upload_Give.j0 k a0 a2 a3 true a1_0 a1_1 a1_2 a1_3 a1_4 l1_5))) else (upload_Give.j0 k a0 a2 a3 true a1_0 a1_1 a1_2 a1_3 a1_4 l1_5))) = some (r1, r2, r3, r4, r5, r6, r7, r8) := h
 clear h
 have HC5 := Aside0.mk H
 clear H
 go_enter Try.func10, Try.ntmps10
 go_upto_region 1 with (first | ((with_reducible refine gate_dst (N := 5) rfl ?_); refine box_event ?hg (N := 5) ?hd (cs := #[.int .i64 a1_0, .int .i64 a1_1, .int .i64 a1_2, .int .i64 a1_3, .int .i64 a1_4, .slice A1_5 l1_5.length c1_5]) (t := 24) ?hr ?_; (case hd => rfl); (case hg => rfl); (case hr => first | (go_simp; done) | (go_simp; rfl)); intro gb169 hg w6 hbox hb; have n0_ := Aside0.mk (below_step (kb HB.out) hb); have n1_ := Aside0.mk (hbox); have n2_ := Aside0.mk ((kz hg (below_size (kb HB.out)) : w.heap.size ≤ gb169)); have n3_ := Aside0.mk ((kz hg (below_size (kb HB.out)) : w.heap.size ≤ gb169)); clear HB; have HB := n0_; have BK169 := n1_; have GW169 := n2_; have GE169 := n3_; clear n0_ n1_ n2_ n3_; clear hb hbox hg) | ((with_reducible refine gate_dst (N := 8) rfl ?_); refine box_event ?hg (N := 8) ?hd (cs := #[.int .i64 0, .int .i64 0, .int .i64 0, .int .i64 0, .int .i64 0, .slice none 0 0]) (t := 24) ?hr ?_; (case hd => rfl); (case hg => rfl); (case hr => first | (go_simp; done) | (go_simp; rfl)); intro gb170 hg w7 hbox hb; have n0_ := Aside0.mk (kL BK169.out hb); have n1_ := Aside0.mk (below_step (kb1 HB.out GE169.out) hb); have n2_ := Aside0.mk (hbox); have n3_ := Aside0.mk ((kz hg (below_size (kb1 HB.out GE169.out)) : w.heap.size ≤ gb170)); have n4_ := Aside0.mk ((kz hg (below_size (kb1 HB.out GE169.out)) : w.heap.size ≤ gb170)); have n5_ := Aside0.mk ((kN hg BK169.out : gb169 ≠ gb170)); have n6_ := Aside0.mk (((kN hg BK169.out).symm : gb170 ≠ gb169)); clear BK169; clear HB; have BK169 := n0_; have HB := n1_; have BK170 := n2_; have GW170 := n3_; have GE170 := n4_; have NB169_170 := n5_; have NB170_169 := n6_; clear n0_ n1_ n2_ n3_ n4_ n5_ n6_; clear hb hbox hg))
 (try simp only [Act.put, List.setIfInBounds_toArray, List.set_cons_zero, List.set_cons_succ])
 go_cut [43] (fun v43 wc => ∃ (kq : Nat) (x43_4 : Bool), v43 = .bool x43_4 ∧ Aside0 (upload_Give.j0 kq a0 a2 a3 x43_4 a1_0 a1_1 a1_2 a1_3 a1_4 l1_5 = some (r1, r2, r3, r4, r5, r6, r7, r8)) ∧ Aside0 (kq ≤ k) ∧ Aside0 (wc.heap[gb169]? = some (.cells #[.int .i64 a1_0, .int .i64 a1_1, .int .i64 a1_2, .int .i64 a1_3, .int .i64 a1_4, (.slice A1_5 l1_5.length c1_5)] 24 (0, 0))) ∧ Aside0 (wc.heap[gb170]? = some (.cells #[.int .i64 0, .int .i64 0, .int .i64 0, .int .i64 0, .int .i64 0, (.slice none 0 0)] 24 (0, 0))) ∧ Aside0 (Below w.heap.size w wc))
 case first =>
  have H := HC5.out
  clear HC5
  replace H := Option.bind_eq_some_iff.mp H
  obtain ⟨t171, A80, H⟩ := H
  replace H : (if t171 = true then ((device_May.f a1_0 a1_1 a1_2 a1_3 a1_4 l1_5).bind fun t172 => (if t172 = true then (if a1_0 = 0 then ((setup_Value.f a2).bind fun t173 => (if t173 = true then ((setup_Length.f a3).bind fun t174 => (upload_Give.j0 k a0 a2 a3 (!t174) a1_0 a1_1 a1_2 a1_3 a1_4 l1_5)) else (upload_Give.j0 k a0 a2 a3 true a1_0 a1_1 a1_2 a1_3 a1_4 l1_5))) else (if a1_0 = 6 then ((setup_Value.f a2).bind fun t175 => (if t175 = true then ((setup_Length.f a3).bind fun t176 => (upload_Give.j0 k a0 a2 a3 (!t176) a1_0 a1_1 a1_2 a1_3 a1_4 l1_5)) else (upload_Give.j0 k a0 a2 a3 true a1_0 a1_1 a1_2 a1_3 a1_4 l1_5))) else (upload_Give.j0 k a0 a2 a3 true a1_0 a1_1 a1_2 a1_3 a1_4 l1_5))) else (upload_Give.j0 k a0 a2 a3 true a1_0 a1_1 a1_2 a1_3 a1_4 l1_5))) else (upload_Give.j0 k a0 a2 a3 true a1_0 a1_1 a1_2 a1_3 a1_4 l1_5)) = some (r1, r2, r3, r4, r5, r6, r7, r8) := H
  have A8 := Aside0.mk A80
  clear A80
  by_cases c9 : t171 = true
  case neg =>
   replace c9 := Bool.eq_false_iff.mpr c9
   subst c9
   have H1 : (upload_Give.j0 k a0 a2 a3 true a1_0 a1_1 a1_2 a1_3 a1_4 l1_5) = some (r1, r2, r3, r4, r5, r6, r7, r8) := by rw [if_neg (show ¬ (false = true) by decide)] at H; exact H
   clear H; have H := H1; clear H1
   have H' := Aside0.mk H
   clear H
   go_wp2_with (first | ((with_reducible refine gate_callee (f := 21) rfl ?_); refine goesL_ (some 17) rfl rfl Try.func21 (by kernel_rfl) rfl #[.string a0] rfl ka ?_; (with_reducible refine (nor_May.calls a0 false _ A8.out).mono ?_); rintro e w' ⟨rfl, ⟨nd, rfl⟩⟩; refine ⟨_, rfl, ?_⟩))
   go_meet
   case rel => exact ⟨_, (true), (by first | rfl | (simp; done) | (simp [*]; done)), H', ⟨by first | omega | exact Nat.le_refl _⟩, ⟨kB BK169.out⟩, ⟨kB BK170.out⟩, ⟨kb2 HB.out GE169.out GE170.out⟩⟩
  subst c9
  have H1 : ((device_May.f a1_0 a1_1 a1_2 a1_3 a1_4 l1_5).bind fun t172 => (if t172 = true then (if a1_0 = 0 then ((setup_Value.f a2).bind fun t173 => (if t173 = true then ((setup_Length.f a3).bind fun t174 => (upload_Give.j0 k a0 a2 a3 (!t174) a1_0 a1_1 a1_2 a1_3 a1_4 l1_5)) else (upload_Give.j0 k a0 a2 a3 true a1_0 a1_1 a1_2 a1_3 a1_4 l1_5))) else (if a1_0 = 6 then ((setup_Value.f a2).bind fun t175 => (if t175 = true then ((setup_Length.f a3).bind fun t176 => (upload_Give.j0 k a0 a2 a3 (!t176) a1_0 a1_1 a1_2 a1_3 a1_4 l1_5)) else (upload_Give.j0 k a0 a2 a3 true a1_0 a1_1 a1_2 a1_3 a1_4 l1_5))) else (upload_Give.j0 k a0 a2 a3 true a1_0 a1_1 a1_2 a1_3 a1_4 l1_5))) else (upload_Give.j0 k a0 a2 a3 true a1_0 a1_1 a1_2 a1_3 a1_4 l1_5))) = some (r1, r2, r3, r4, r5, r6, r7, r8) := by rw [if_pos rfl] at H; exact H
  clear H; have H := H1; clear H1
  replace H := Option.bind_eq_some_iff.mp H
  obtain ⟨t172, A100, H⟩ := H
  replace H : (if t172 = true then (if a1_0 = 0 then ((setup_Value.f a2).bind fun t173 => (if t173 = true then ((setup_Length.f a3).bind fun t174 => (upload_Give.j0 k a0 a2 a3 (!t174) a1_0 a1_1 a1_2 a1_3 a1_4 l1_5)) else (upload_Give.j0 k a0 a2 a3 true a1_0 a1_1 a1_2 a1_3 a1_4 l1_5))) else (if a1_0 = 6 then ((setup_Value.f a2).bind fun t175 => (if t175 = true then ((setup_Length.f a3).bind fun t176 => (upload_Give.j0 k a0 a2 a3 (!t176) a1_0 a1_1 a1_2 a1_3 a1_4 l1_5)) else (upload_Give.j0 k a0 a2 a3 true a1_0 a1_1 a1_2 a1_3 a1_4 l1_5))) else (upload_Give.j0 k a0 a2 a3 true a1_0 a1_1 a1_2 a1_3 a1_4 l1_5))) else (upload_Give.j0 k a0 a2 a3 true a1_0 a1_1 a1_2 a1_3 a1_4 l1_5)) = some (r1, r2, r3, r4, r5, r6, r7, r8) := H
  have A10 := Aside0.mk A100
  clear A100
  by_cases c11 : t172 = true
  case neg =>
   replace c11 := Bool.eq_false_iff.mpr c11
   subst c11
   have H1 : (upload_Give.j0 k a0 a2 a3 true a1_0 a1_1 a1_2 a1_3 a1_4 l1_5) = some (r1, r2, r3, r4, r5, r6, r7, r8) := by rw [if_neg (show ¬ (false = true) by decide)] at H; exact H
   clear H; have H := H1; clear H1
   have H' := Aside0.mk H
   clear H
   go_wp2_with (first | ((with_reducible refine gate_callee (f := 21) rfl ?_); refine goesL_ (some 17) rfl rfl Try.func21 (by kernel_rfl) rfl #[.string a0] rfl ka ?_; (with_reducible refine (nor_May.calls a0 true _ A8.out).mono ?_); rintro e w' ⟨rfl, ⟨nd, rfl⟩⟩; refine ⟨_, rfl, ?_⟩; have hnb40 := NB169_170.out; have hnc40 := NB170_169.out; obtain ⟨hcz41_0, hcz41_1, hcz41_2, hcz41_3, hcz41_4, hcz41_5⟩ := kc6 BK169.out; obtain ⟨hfz41_0, hfz41_1, hfz41_2, hfz41_3, hfz41_4, hfz41_5⟩ := kf6 BK169.out) | (go_at_call 22; (with_reducible refine (device_May.calls a1_0 a1_1 a1_2 a1_3 a1_4 _ _ l1_5 false _ ?side1 ?side2 A10.out).mono ?_); (case side1 => repeat (first | exact (Kd.C_below HR1_5.out (kb2 HB.out GE169.out GE170.out)) | (with_reducible refine Kd.C_alloc ?_ _) | (with_reducible refine Kd.C_drewN ?_ _) | (with_reducible refine Kd.C_drew ?_))); (case side2 => exact HC1_5.out); rintro e w42 ⟨rfl, hb⟩; have n0_ := Aside0.mk (kL BK169.out hb); have n1_ := Aside0.mk (kL BK170.out hb); have n2_ := Aside0.mk (below_step (kb2 HB.out GE169.out GE170.out) hb); clear BK169; clear BK170; clear HB; have BK169 := n0_; have BK170 := n1_; have HB := n2_; clear n0_ n1_ n2_; (try clear hb); (try clear hb2); (try clear hk); (try clear hi)))
   go_meet
   case rel => exact ⟨_, (true), (by first | rfl | (simp; done) | (simp [*]; done)), H', ⟨by first | omega | exact Nat.le_refl _⟩, ⟨kB BK169.out⟩, ⟨kB BK170.out⟩, ⟨kb2 HB.out GE169.out GE170.out⟩⟩
  subst c11
  have H1 : (if a1_0 = 0 then ((setup_Value.f a2).bind fun t173 => (if t173 = true then ((setup_Length.f a3).bind fun t174 => (upload_Give.j0 k a0 a2 a3 (!t174) a1_0 a1_1 a1_2 a1_3 a1_4 l1_5)) else (upload_Give.j0 k a0 a2 a3 true a1_0 a1_1 a1_2 a1_3 a1_4 l1_5))) else (if a1_0 = 6 then ((setup_Value.f a2).bind fun t175 => (if t175 = true then ((setup_Length.f a3).bind fun t176 => (upload_Give.j0 k a0 a2 a3 (!t176) a1_0 a1_1 a1_2 a1_3 a1_4 l1_5)) else (upload_Give.j0 k a0 a2 a3 true a1_0 a1_1 a1_2 a1_3 a1_4 l1_5))) else (upload_Give.j0 k a0 a2 a3 true a1_0 a1_1 a1_2 a1_3 a1_4 l1_5))) = some (r1, r2, r3, r4, r5, r6, r7, r8) := by rw [if_pos rfl] at H; exact H
  clear H; have H := H1; clear H1
  by_cases c12 : a1_0 = 0
  ·rw [if_pos c12] at H
   have c12b0 : (a1_0 == 0) = true := beq_iff_eq.mpr c12
   have c12b1 : (a1_0 != 0) = false := bne_eq_false_iff_eq.mpr c12
   clear c12
   (first | rw [c12b0] | rw [c12b1] | (simp only [i64_w, i32_w]; rw [c12b0]) | skip)
   replace H := Option.bind_eq_some_iff.mp H
   obtain ⟨t173, A130, H⟩ := H
   replace H : (if t173 = true then ((setup_Length.f a3).bind fun t174 => (upload_Give.j0 k a0 a2 a3 (!t174) a1_0 a1_1 a1_2 a1_3 a1_4 l1_5)) else (upload_Give.j0 k a0 a2 a3 true a1_0 a1_1 a1_2 a1_3 a1_4 l1_5)) = some (r1, r2, r3, r4, r5, r6, r7, r8) := H
   have A13 := Aside0.mk A130
   clear A130
   by_cases c14 : t173 = true
   case neg =>
    replace c14 := Bool.eq_false_iff.mpr c14
    subst c14
    have H1 : (upload_Give.j0 k a0 a2 a3 true a1_0 a1_1 a1_2 a1_3 a1_4 l1_5) = some (r1, r2, r3, r4, r5, r6, r7, r8) := by rw [if_neg (show ¬ (false = true) by decide)] at H; exact H
    clear H; have H := H1; clear H1
    have H' := Aside0.mk H
    clear H
    go_wp2_with (first | ((with_reducible refine gate_callee (f := 21) rfl ?_); refine goesL_ (some 17) rfl rfl Try.func21 (by kernel_rfl) rfl #[.string a0] rfl ka ?_; (with_reducible refine (nor_May.calls a0 true _ A8.out).mono ?_); rintro e w' ⟨rfl, ⟨nd, rfl⟩⟩; refine ⟨_, rfl, ?_⟩; have hnb20 := NB169_170.out; have hnc20 := NB170_169.out; obtain ⟨hcz21_0, hcz21_1, hcz21_2, hcz21_3, hcz21_4, hcz21_5⟩ := kc6 BK169.out; obtain ⟨hfz21_0, hfz21_1, hfz21_2, hfz21_3, hfz21_4, hfz21_5⟩ := kf6 BK169.out) | (go_at_call 22; (with_reducible refine (device_May.calls a1_0 a1_1 a1_2 a1_3 a1_4 _ _ l1_5 true _ ?side1 ?side2 A10.out).mono ?_); (case side1 => repeat (first | exact (Kd.C_below HR1_5.out (kb2 HB.out GE169.out GE170.out)) | (with_reducible refine Kd.C_alloc ?_ _) | (with_reducible refine Kd.C_drewN ?_ _) | (with_reducible refine Kd.C_drew ?_))); (case side2 => exact HC1_5.out); rintro e w22 ⟨rfl, hb⟩; have n0_ := Aside0.mk (kL BK169.out hb); have n1_ := Aside0.mk (kL BK170.out hb); have n2_ := Aside0.mk (below_step (kb2 HB.out GE169.out GE170.out) hb); clear BK169; clear BK170; clear HB; have BK169 := n0_; have BK170 := n1_; have HB := n2_; clear n0_ n1_ n2_; (try clear hb); (try clear hb2); (try clear hk); (try clear hi); obtain ⟨hcz23_0, hcz23_1, hcz23_2, hcz23_3, hcz23_4, hcz23_5⟩ := kc6 BK169.out; obtain ⟨hfz23_0, hfz23_1, hfz23_2, hfz23_3, hfz23_4, hfz23_5⟩ := kf6 BK169.out) | (go_at_call 23; (with_reducible refine (setup_Value.calls a2 false _ A13.out).mono ?_); rintro e w' ⟨rfl, ⟨nd, rfl⟩⟩))
    go_meet
    case rel => exact ⟨_, (true), (by first | rfl | (simp; done) | (simp [*]; done)), H', ⟨by first | omega | exact Nat.le_refl _⟩, ⟨kB BK169.out⟩, ⟨kB BK170.out⟩, ⟨kb2 HB.out GE169.out GE170.out⟩⟩
   subst c14
   have H1 : ((setup_Length.f a3).bind fun t174 => (upload_Give.j0 k a0 a2 a3 (!t174) a1_0 a1_1 a1_2 a1_3 a1_4 l1_5)) = some (r1, r2, r3, r4, r5, r6, r7, r8) := by rw [if_pos rfl] at H; exact H
   clear H; have H := H1; clear H1
   replace H := Option.bind_eq_some_iff.mp H
   obtain ⟨t174, A150, H⟩ := H
   replace H : (upload_Give.j0 k a0 a2 a3 (!t174) a1_0 a1_1 a1_2 a1_3 a1_4 l1_5) = some (r1, r2, r3, r4, r5, r6, r7, r8) := H
   have A15 := Aside0.mk A150
   clear A150
   have H' := Aside0.mk H
   clear H
   go_wp2_with (first | ((with_reducible refine gate_callee (f := 21) rfl ?_); refine goesL_ (some 17) rfl rfl Try.func21 (by kernel_rfl) rfl #[.string a0] rfl ka ?_; (with_reducible refine (nor_May.calls a0 true _ A8.out).mono ?_); rintro e w' ⟨rfl, ⟨nd, rfl⟩⟩; refine ⟨_, rfl, ?_⟩; have hnb16 := NB169_170.out; have hnc16 := NB170_169.out; obtain ⟨hcz17_0, hcz17_1, hcz17_2, hcz17_3, hcz17_4, hcz17_5⟩ := kc6 BK169.out; obtain ⟨hfz17_0, hfz17_1, hfz17_2, hfz17_3, hfz17_4, hfz17_5⟩ := kf6 BK169.out) | (go_at_call 22; (with_reducible refine (device_May.calls a1_0 a1_1 a1_2 a1_3 a1_4 _ _ l1_5 true _ ?side1 ?side2 A10.out).mono ?_); (case side1 => repeat (first | exact (Kd.C_below HR1_5.out (kb2 HB.out GE169.out GE170.out)) | (with_reducible refine Kd.C_alloc ?_ _) | (with_reducible refine Kd.C_drewN ?_ _) | (with_reducible refine Kd.C_drew ?_))); (case side2 => exact HC1_5.out); rintro e w18 ⟨rfl, hb⟩; have n0_ := Aside0.mk (kL BK169.out hb); have n1_ := Aside0.mk (kL BK170.out hb); have n2_ := Aside0.mk (below_step (kb2 HB.out GE169.out GE170.out) hb); clear BK169; clear BK170; clear HB; have BK169 := n0_; have BK170 := n1_; have HB := n2_; clear n0_ n1_ n2_; (try clear hb); (try clear hb2); (try clear hk); (try clear hi); obtain ⟨hcz19_0, hcz19_1, hcz19_2, hcz19_3, hcz19_4, hcz19_5⟩ := kc6 BK169.out; obtain ⟨hfz19_0, hfz19_1, hfz19_2, hfz19_3, hfz19_4, hfz19_5⟩ := kf6 BK169.out) | (go_at_call 23; (with_reducible refine (setup_Value.calls a2 true _ A13.out).mono ?_); rintro e w' ⟨rfl, ⟨nd, rfl⟩⟩) | (go_at_call 24; (with_reducible refine (setup_Length.calls a3 t174 _ A15.out).mono ?_); rintro e w' ⟨rfl, ⟨nd, rfl⟩⟩))
   go_meet
   case rel => exact ⟨_, (!t174), (by first | rfl | (simp; done) | (simp [*]; done)), H', ⟨by first | omega | exact Nat.le_refl _⟩, ⟨kB BK169.out⟩, ⟨kB BK170.out⟩, ⟨kb2 HB.out GE169.out GE170.out⟩⟩
  ·rw [if_neg c12] at H
   have c12b0 : (a1_0 == 0) = false := beq_eq_false_iff_ne.mpr c12
   have c12b1 : (a1_0 != 0) = true := bne_iff_ne.mpr c12
   (first | rw [c12b0] | rw [c12b1] | (simp only [i64_w, i32_w]; rw [c12b0]) | skip)
   by_cases c24 : a1_0 = 6
   case neg =>
    rw [if_neg c24] at H
    have c24b0 : (a1_0 == 6) = false := beq_eq_false_iff_ne.mpr c24
    have c24b1 : (a1_0 != 6) = true := bne_iff_ne.mpr c24
    have H' := Aside0.mk H
    clear H
    go_wp2_with (first | ((with_reducible refine gate_callee (f := 21) rfl ?_); refine goesL_ (some 17) rfl rfl Try.func21 (by kernel_rfl) rfl #[.string a0] rfl ka ?_; (with_reducible refine (nor_May.calls a0 true _ A8.out).mono ?_); rintro e w' ⟨rfl, ⟨nd, rfl⟩⟩; refine ⟨_, rfl, ?_⟩; have hnb36 := NB169_170.out; have hnc36 := NB170_169.out; obtain ⟨hcz37_0, hcz37_1, hcz37_2, hcz37_3, hcz37_4, hcz37_5⟩ := kc6 BK169.out; obtain ⟨hfz37_0, hfz37_1, hfz37_2, hfz37_3, hfz37_4, hfz37_5⟩ := kf6 BK169.out) | (go_at_call 22; (with_reducible refine (device_May.calls a1_0 a1_1 a1_2 a1_3 a1_4 _ _ l1_5 true _ ?side1 ?side2 A10.out).mono ?_); (case side1 => repeat (first | exact (Kd.C_below HR1_5.out (kb2 HB.out GE169.out GE170.out)) | (with_reducible refine Kd.C_alloc ?_ _) | (with_reducible refine Kd.C_drewN ?_ _) | (with_reducible refine Kd.C_drew ?_))); (case side2 => exact HC1_5.out); rintro e w38 ⟨rfl, hb⟩; have n0_ := Aside0.mk (kL BK169.out hb); have n1_ := Aside0.mk (kL BK170.out hb); have n2_ := Aside0.mk (below_step (kb2 HB.out GE169.out GE170.out) hb); clear BK169; clear BK170; clear HB; have BK169 := n0_; have BK170 := n1_; have HB := n2_; clear n0_ n1_ n2_; (try clear hb); (try clear hb2); (try clear hk); (try clear hi); obtain ⟨hcz39_0, hcz39_1, hcz39_2, hcz39_3, hcz39_4, hcz39_5⟩ := kc6 BK169.out; obtain ⟨hfz39_0, hfz39_1, hfz39_2, hfz39_3, hfz39_4, hfz39_5⟩ := kf6 BK169.out))
    go_meet
    case rel => exact ⟨_, (true), (by first | rfl | (simp; done) | (simp [*]; done)), H', ⟨by first | omega | exact Nat.le_refl _⟩, ⟨kB BK169.out⟩, ⟨kB BK170.out⟩, ⟨kb2 HB.out GE169.out GE170.out⟩⟩
   rw [if_pos c24] at H
   have c24b0 : (a1_0 == 6) = true := beq_iff_eq.mpr c24
   have c24b1 : (a1_0 != 6) = false := bne_eq_false_iff_eq.mpr c24
   clear c24
   replace H := Option.bind_eq_some_iff.mp H
   obtain ⟨t175, A250, H⟩ := H
   replace H : (if t175 = true then ((setup_Length.f a3).bind fun t176 => (upload_Give.j0 k a0 a2 a3 (!t176) a1_0 a1_1 a1_2 a1_3 a1_4 l1_5)) else (upload_Give.j0 k a0 a2 a3 true a1_0 a1_1 a1_2 a1_3 a1_4 l1_5)) = some (r1, r2, r3, r4, r5, r6, r7, r8) := H
   have A25 := Aside0.mk A250
   clear A250
   by_cases c26 : t175 = true
   case neg =>
    replace c26 := Bool.eq_false_iff.mpr c26
    subst c26
    have H1 : (upload_Give.j0 k a0 a2 a3 true a1_0 a1_1 a1_2 a1_3 a1_4 l1_5) = some (r1, r2, r3, r4, r5, r6, r7, r8) := by rw [if_neg (show ¬ (false = true) by decide)] at H; exact H
    clear H; have H := H1; clear H1
    have H' := Aside0.mk H
    clear H
    go_wp2_with (first | ((with_reducible refine gate_callee (f := 21) rfl ?_); refine goesL_ (some 17) rfl rfl Try.func21 (by kernel_rfl) rfl #[.string a0] rfl ka ?_; (with_reducible refine (nor_May.calls a0 true _ A8.out).mono ?_); rintro e w' ⟨rfl, ⟨nd, rfl⟩⟩; refine ⟨_, rfl, ?_⟩; have hnb32 := NB169_170.out; have hnc32 := NB170_169.out; obtain ⟨hcz33_0, hcz33_1, hcz33_2, hcz33_3, hcz33_4, hcz33_5⟩ := kc6 BK169.out; obtain ⟨hfz33_0, hfz33_1, hfz33_2, hfz33_3, hfz33_4, hfz33_5⟩ := kf6 BK169.out) | (go_at_call 22; (with_reducible refine (device_May.calls a1_0 a1_1 a1_2 a1_3 a1_4 _ _ l1_5 true _ ?side1 ?side2 A10.out).mono ?_); (case side1 => repeat (first | exact (Kd.C_below HR1_5.out (kb2 HB.out GE169.out GE170.out)) | (with_reducible refine Kd.C_alloc ?_ _) | (with_reducible refine Kd.C_drewN ?_ _) | (with_reducible refine Kd.C_drew ?_))); (case side2 => exact HC1_5.out); rintro e w34 ⟨rfl, hb⟩; have n0_ := Aside0.mk (kL BK169.out hb); have n1_ := Aside0.mk (kL BK170.out hb); have n2_ := Aside0.mk (below_step (kb2 HB.out GE169.out GE170.out) hb); clear BK169; clear BK170; clear HB; have BK169 := n0_; have BK170 := n1_; have HB := n2_; clear n0_ n1_ n2_; (try clear hb); (try clear hb2); (try clear hk); (try clear hi); obtain ⟨hcz35_0, hcz35_1, hcz35_2, hcz35_3, hcz35_4, hcz35_5⟩ := kc6 BK169.out; obtain ⟨hfz35_0, hfz35_1, hfz35_2, hfz35_3, hfz35_4, hfz35_5⟩ := kf6 BK169.out) | (go_at_call 23; (with_reducible refine (setup_Value.calls a2 false _ A25.out).mono ?_); rintro e w' ⟨rfl, ⟨nd, rfl⟩⟩))
    go_meet
    case rel => exact ⟨_, (true), (by first | rfl | (simp; done) | (simp [*]; done)), H', ⟨by first | omega | exact Nat.le_refl _⟩, ⟨kB BK169.out⟩, ⟨kB BK170.out⟩, ⟨kb2 HB.out GE169.out GE170.out⟩⟩
   subst c26
   have H1 : ((setup_Length.f a3).bind fun t176 => (upload_Give.j0 k a0 a2 a3 (!t176) a1_0 a1_1 a1_2 a1_3 a1_4 l1_5)) = some (r1, r2, r3, r4, r5, r6, r7, r8) := by rw [if_pos rfl] at H; exact H
   clear H; have H := H1; clear H1
   replace H := Option.bind_eq_some_iff.mp H
   obtain ⟨t176, A270, H⟩ := H
   replace H : (upload_Give.j0 k a0 a2 a3 (!t176) a1_0 a1_1 a1_2 a1_3 a1_4 l1_5) = some (r1, r2, r3, r4, r5, r6, r7, r8) := H
   have A27 := Aside0.mk A270
   clear A270
   have H' := Aside0.mk H
   clear H
   go_wp2_with (first | ((with_reducible refine gate_callee (f := 21) rfl ?_); refine goesL_ (some 17) rfl rfl Try.func21 (by kernel_rfl) rfl #[.string a0] rfl ka ?_; (with_reducible refine (nor_May.calls a0 true _ A8.out).mono ?_); rintro e w' ⟨rfl, ⟨nd, rfl⟩⟩; refine ⟨_, rfl, ?_⟩; have hnb28 := NB169_170.out; have hnc28 := NB170_169.out; obtain ⟨hcz29_0, hcz29_1, hcz29_2, hcz29_3, hcz29_4, hcz29_5⟩ := kc6 BK169.out; obtain ⟨hfz29_0, hfz29_1, hfz29_2, hfz29_3, hfz29_4, hfz29_5⟩ := kf6 BK169.out) | (go_at_call 22; (with_reducible refine (device_May.calls a1_0 a1_1 a1_2 a1_3 a1_4 _ _ l1_5 true _ ?side1 ?side2 A10.out).mono ?_); (case side1 => repeat (first | exact (Kd.C_below HR1_5.out (kb2 HB.out GE169.out GE170.out)) | (with_reducible refine Kd.C_alloc ?_ _) | (with_reducible refine Kd.C_drewN ?_ _) | (with_reducible refine Kd.C_drew ?_))); (case side2 => exact HC1_5.out); rintro e w30 ⟨rfl, hb⟩; have n0_ := Aside0.mk (kL BK169.out hb); have n1_ := Aside0.mk (kL BK170.out hb); have n2_ := Aside0.mk (below_step (kb2 HB.out GE169.out GE170.out) hb); clear BK169; clear BK170; clear HB; have BK169 := n0_; have BK170 := n1_; have HB := n2_; clear n0_ n1_ n2_; (try clear hb); (try clear hb2); (try clear hk); (try clear hi); obtain ⟨hcz31_0, hcz31_1, hcz31_2, hcz31_3, hcz31_4, hcz31_5⟩ := kc6 BK169.out; obtain ⟨hfz31_0, hfz31_1, hfz31_2, hfz31_3, hfz31_4, hfz31_5⟩ := kf6 BK169.out) | (go_at_call 23; (with_reducible refine (setup_Value.calls a2 true _ A25.out).mono ?_); rintro e w' ⟨rfl, ⟨nd, rfl⟩⟩) | (go_at_call 24; (with_reducible refine (setup_Length.calls a3 t176 _ A27.out).mono ?_); rintro e w' ⟨rfl, ⟨nd, rfl⟩⟩))
   go_meet
   case rel => exact ⟨_, (!t176), (by first | rfl | (simp; done) | (simp [*]; done)), H', ⟨by first | omega | exact Nat.le_refl _⟩, ⟨kB BK169.out⟩, ⟨kB BK170.out⟩, ⟨kb2 HB.out GE169.out GE170.out⟩⟩
 case rest =>
  clear HC5
  try clear c1; try clear c2; try clear p2; try clear c3; try clear c4; try clear c9; try clear c10; try clear c11; try clear c12; try clear c12b0; try clear c12b1; try clear c14; try clear c16; try clear c20; try clear c21; try clear c24; try clear c24b0; try clear c24b1; try clear c26; try clear c28; try clear c32; try clear c36; try clear c40; try clear hcz17_0; try clear hcz17_1; try clear hcz17_2; try clear hcz17_3; try clear hcz17_4; try clear hcz17_5; try clear hcz19_0; try clear hcz19_1; try clear hcz19_2; try clear hcz19_3; try clear hcz19_4; try clear hcz19_5; try clear hcz21_0; try clear hcz21_1; try clear hcz21_2; try clear hcz21_3; try clear hcz21_4; try clear hcz21_5; try clear hcz23_0; try clear hcz23_1; try clear hcz23_2; try clear hcz23_3; try clear hcz23_4; try clear hcz23_5; try clear hcz29_0; try clear hcz29_1; try clear hcz29_2; try clear hcz29_3; try clear hcz29_4; try clear hcz29_5; try clear hcz31_0; try clear hcz31_1; try clear hcz31_2; try clear hcz31_3; try clear hcz31_4; try clear hcz31_5; try clear hcz33_0; try clear hcz33_1; try clear hcz33_2; try clear hcz33_3; try clear hcz33_4; try clear hcz33_5; try clear hcz35_0; try clear hcz35_1; try clear hcz35_2; try clear hcz35_3; try clear hcz35_4; try clear hcz35_5; try clear hcz37_0; try clear hcz37_1; try clear hcz37_2; try clear hcz37_3; try clear hcz37_4; try clear hcz37_5; try clear hcz39_0; try clear hcz39_1; try clear hcz39_2; try clear hcz39_3; try clear hcz39_4; try clear hcz39_5; try clear hcz41_0; try clear hcz41_1; try clear hcz41_2; try clear hcz41_3; try clear hcz41_4; try clear hcz41_5; try clear hfz17_0; try clear hfz17_1; try clear hfz17_2; try clear hfz17_3; try clear hfz17_4; try clear hfz17_5; try clear hfz19_0; try clear hfz19_1; try clear hfz19_2; try clear hfz19_3; try clear hfz19_4; try clear hfz19_5; try clear hfz21_0; try clear hfz21_1; try clear hfz21_2; try clear hfz21_3; try clear hfz21_4; try clear hfz21_5; try clear hfz23_0; try clear hfz23_1; try clear hfz23_2; try clear hfz23_3; try clear hfz23_4; try clear hfz23_5; try clear hfz29_0; try clear hfz29_1; try clear hfz29_2; try clear hfz29_3; try clear hfz29_4; try clear hfz29_5; try clear hfz31_0; try clear hfz31_1; try clear hfz31_2; try clear hfz31_3; try clear hfz31_4; try clear hfz31_5; try clear hfz33_0; try clear hfz33_1; try clear hfz33_2; try clear hfz33_3; try clear hfz33_4; try clear hfz33_5; try clear hfz35_0; try clear hfz35_1; try clear hfz35_2; try clear hfz35_3; try clear hfz35_4; try clear hfz35_5; try clear hfz37_0; try clear hfz37_1; try clear hfz37_2; try clear hfz37_3; try clear hfz37_4; try clear hfz37_5; try clear hfz39_0; try clear hfz39_1; try clear hfz39_2; try clear hfz39_3; try clear hfz39_4; try clear hfz39_5; try clear hfz41_0; try clear hfz41_1; try clear hfz41_2; try clear hfz41_3; try clear hfz41_4; try clear hfz41_5
  obtain ⟨kq, x43_4, rfl, HA, HJ4, BK169, BK170, HB⟩ := hcut
  cases kq with
  | zero => exact absurd HA.out (by simp [upload_Give.j0])
  | succ kj4 =>
   have H := HA.out
   clear HA
   simp only [upload_Give.j0] at H
   by_cases c43 : x43_4 = true
   ·subst c43
    have H1 : (some (0, 0, 0, 0, 0, ([] : List (S68)), (⟨#[]⟩ : ByteArray), 2000)) = some (r1, r2, r3, r4, r5, r6, r7, r8) := by rw [if_pos rfl] at H; exact H
    clear H; have H := H1; clear H1
    simp only [Option.some.injEq, Prod.mk.injEq] at H
    obtain ⟨rfl, rfl, rfl, rfl, rfl, rfl, rfl, rfl⟩ := H
    have hnb44 := NB170_169.out
    have hnc44 := NB169_170.out
    obtain ⟨hcz45_0, hcz45_1, hcz45_2, hcz45_3, hcz45_4, hcz45_5⟩ := kc6 BK170.out
    obtain ⟨hfz45_0, hfz45_1, hfz45_2, hfz45_3, hfz45_4, hfz45_5⟩ := kf6 BK170.out
    go_wp2
    refine bodyPost_ret (results_ctt rfl _ _ gb170 24 #[.int .i64 0, .int .i64 0, .int .i64 0, .int .i64 0, .int .i64 0, .slice none 0 0] (0, 0) _ rfl (kP6 BK170.out) Try.underlying24 rfl (by kernel_rfl)) rfl ?_
    exact ⟨_, by first | rfl | (simp [errW_none, errW_some] <;> rfl) | (simp [*, errW_none, errW_some] <;> rfl), by first | exact Kd.R_nil _ _ _ _ _ | exact Kd.N_nil _ _ _ _ _ | exact Kd.V_nil _ _ _ _ _ | exact Kd.Q_nil _ _ _ _ _ | exact Kd.S_nil _ _ _ _ _, kb2 HB.out GE169.out GE170.out⟩
   ·replace c43 := Bool.eq_false_iff.mpr c43
    subst c43
    have H1 : ((choose_Active.f a0).bind fun bt177 => (if bt177.2.2.2.2.2 = 0 then ((device_Copy.f a1_0 a1_1 a1_2 a1_3 a1_4 l1_5).bind fun bt192 => (if a1_0 = 0 then (upload_Give.j1 kj4 a0 a2 a3 bt177.1 bt177.2.1 bt177.2.2.1 bt177.2.2.2.1 bt177.2.2.2.2.1 bt192.1 bt192.2.1 0 bt192.2.2.2.1 bt192.2.2.2.2.1 bt192.2.2.2.2.2) else (upload_Give.j1 kj4 a0 a2 a3 bt177.1 bt177.2.1 bt177.2.2.1 bt177.2.2.2.1 bt177.2.2.2.2.1 bt192.1 bt192.2.1 bt192.2.2.1 bt192.2.2.2.1 bt192.2.2.2.2.1 bt192.2.2.2.2.2))) else ((device_Failed.f 2).bind fun bt184 => (some (bt184.1, bt184.2.1, bt184.2.2.1, bt184.2.2.2.1, bt184.2.2.2.2.1, bt184.2.2.2.2.2, (⟨#[]⟩ : ByteArray), 0))))) = some (r1, r2, r3, r4, r5, r6, r7, r8) := by rw [if_neg (show ¬ (false = true) by decide)] at H; exact H
    clear H; have H := H1; clear H1
    replace H := Option.bind_eq_some_iff.mp H
    obtain ⟨⟨t177, t178, t179, t180, t181, t182⟩, A460, H⟩ := H
    replace H : (if t182 = 0 then ((device_Copy.f a1_0 a1_1 a1_2 a1_3 a1_4 l1_5).bind fun bt192 => (if a1_0 = 0 then (upload_Give.j1 kj4 a0 a2 a3 t177 t178 t179 t180 t181 bt192.1 bt192.2.1 0 bt192.2.2.2.1 bt192.2.2.2.2.1 bt192.2.2.2.2.2) else (upload_Give.j1 kj4 a0 a2 a3 t177 t178 t179 t180 t181 bt192.1 bt192.2.1 bt192.2.2.1 bt192.2.2.2.1 bt192.2.2.2.2.1 bt192.2.2.2.2.2))) else ((device_Failed.f 2).bind fun bt184 => (some (bt184.1, bt184.2.1, bt184.2.2.1, bt184.2.2.2.1, bt184.2.2.2.2.1, bt184.2.2.2.2.2, (⟨#[]⟩ : ByteArray), 0)))) = some (r1, r2, r3, r4, r5, r6, r7, r8) := H
    have A46 := Aside0.mk A460
    clear A460
    by_cases c47 : t182 = 0
    ·rw [if_pos c47] at H
     have c47b0 : (t182 == 0) = true := beq_iff_eq.mpr c47
     have c47b1 : (t182 != 0) = false := bne_eq_false_iff_eq.mpr c47
     clear c47
     replace H := Option.bind_eq_some_iff.mp H
     obtain ⟨⟨t192, t193, t194, t195, t196, t197⟩, A480, H⟩ := H
     replace H : (if a1_0 = 0 then (upload_Give.j1 kj4 a0 a2 a3 t177 t178 t179 t180 t181 t192 t193 0 t195 t196 t197) else (upload_Give.j1 kj4 a0 a2 a3 t177 t178 t179 t180 t181 t192 t193 t194 t195 t196 t197)) = some (r1, r2, r3, r4, r5, r6, r7, r8) := H
     have A48 := Aside0.mk A480
     clear A480
     have HC49 := Aside0.mk H
     clear H
     go_upto_if 57 with (first | ((with_reducible refine gate_callee (f := 25) rfl ?_); refine goesL_ (some 47) rfl rfl Try.func25 (by kernel_rfl) rfl #[.string a0] rfl ka ?_; (with_reducible refine (choose_Active.calls a0 t177 t178 t179 t180 t181 t182 _ A46.out).mono ?_); rintro e w50 ⟨rfl, hb⟩; refine ⟨_, rfl, ?_⟩; have n0_ := Aside0.mk (kL BK169.out hb); have n1_ := Aside0.mk (kL BK170.out hb); have n2_ := Aside0.mk (below_step (kb2 HB.out GE169.out GE170.out) hb); clear BK169; clear BK170; clear HB; have BK169 := n0_; have BK170 := n1_; have HB := n2_; clear n0_ n1_ n2_; (try clear hb); (try clear hb2); (try clear hk); (try clear hi)) | ((with_reducible refine gate_dst (N := 11) rfl ?_); refine box_event ?hg (N := 11) ?hd (cs := #[.int .i64 0, .int .i64 0, .int .i64 0, .int .i64 0, .int .i64 0]) (t := 43) ?hr ?_; (case hd => rfl); (case hg => rfl); (case hr => first | (go_simp; done) | (go_simp; rfl)); intro gb183 hg w51 hbox hb; have n0_ := Aside0.mk (kL BK169.out hb); have n1_ := Aside0.mk (kL BK170.out hb); have n2_ := Aside0.mk (below_step (kb2 HB.out GE169.out GE170.out) hb); have n3_ := Aside0.mk (hbox); have n4_ := Aside0.mk ((kz hg (below_size (kb2 HB.out GE169.out GE170.out)) : w.heap.size ≤ gb183)); have n5_ := Aside0.mk ((kz hg (below_size (kb2 HB.out GE169.out GE170.out)) : w.heap.size ≤ gb183)); have n6_ := Aside0.mk ((kN hg BK169.out : gb169 ≠ gb183)); have n7_ := Aside0.mk (((kN hg BK169.out).symm : gb183 ≠ gb169)); have n8_ := Aside0.mk ((kN hg BK170.out : gb170 ≠ gb183)); have n9_ := Aside0.mk (((kN hg BK170.out).symm : gb183 ≠ gb170)); clear BK169; clear BK170; clear HB; have BK169 := n0_; have BK170 := n1_; have HB := n2_; have BK183 := n3_; have GW183 := n4_; have GE183 := n5_; have NB169_183 := n6_; have NB183_169 := n7_; have NB170_183 := n8_; have NB183_170 := n9_; clear n0_ n1_ n2_ n3_ n4_ n5_ n6_ n7_ n8_ n9_; clear hb hbox hg; have hnb52 := NB183_169.out; have hnc52 := NB169_183.out; have hnb53 := NB183_170.out; have hnc53 := NB170_183.out; obtain ⟨hcz54_0, hcz54_1, hcz54_2, hcz54_3, hcz54_4⟩ := kc5 BK183.out; obtain ⟨hfz54_0, hfz54_1, hfz54_2, hfz54_3, hfz54_4⟩ := kf5 BK183.out; have hnb55 := NB169_170.out; have hnc55 := NB170_169.out; obtain ⟨hcz56_0, hcz56_1, hcz56_2, hcz56_3, hcz56_4, hcz56_5⟩ := kc6 BK169.out; obtain ⟨hfz56_0, hfz56_1, hfz56_2, hfz56_3, hfz56_4, hfz56_5⟩ := kf6 BK169.out) | ((with_reducible refine gate_callee (f := 27) rfl ?_); refine goesL_ (some 54) rfl rfl Try.func27 (by kernel_rfl) rfl #[.agg #[.int .i64 a1_0, .int .i64 a1_1, .int .i64 a1_2, .int .i64 a1_3, .int .i64 a1_4, .slice A1_5 l1_5.length c1_5]] rfl ka ?_; (with_reducible refine (device_Copy.calls a1_0 a1_1 a1_2 a1_3 a1_4 _ _ l1_5 t192 t193 t194 t195 t196 t197 _ ?side1 ?side2 A48.out).mono ?_); (case side1 => exact Kd.C_below HR1_5.out (kb3 HB.out GE169.out GE170.out GE183.out)); (case side2 => exact HC1_5.out); rintro e w57 ⟨v198, rfl, ho0, hb⟩; refine ⟨_, rfl, ?_⟩; have n0_ := Aside0.mk (Kd.R_lower ho0 (below_size (kb3 HB.out GE169.out GE170.out GE183.out))); have n1_ := Aside0.mk (blk_below (g := gb169) (o := .cells #[.int .i64 a1_0, .int .i64 a1_1, .int .i64 a1_2, .int .i64 a1_3, .int .i64 a1_4, .slice A1_5 l1_5.length c1_5] 24 (0, 0)) (kFa5 BK169.out NB169_183.out) hb); have n2_ := Aside0.mk (blk_below (g := gb170) (o := .cells #[.int .i64 0, .int .i64 0, .int .i64 0, .int .i64 0, .int .i64 0, .slice none 0 0] 24 (0, 0)) (kFa5 BK170.out NB170_183.out) hb); have n3_ := Aside0.mk (blk_below (g := gb183) (o := .cells #[.int .i64 t177, .int .i64 t178, .int .i64 t179, .int .i64 t180, .int .i64 t181] 43 (0, 0)) (kP5 BK183.out) hb); have n4_ := Aside0.mk (below_step (kb3 HB.out GE169.out GE170.out GE183.out) hb); clear BK169; clear BK170; clear BK183; clear HB; have HO199 := n0_; have BK169 := n1_; have BK170 := n2_; have BK183 := n3_; have HB := n4_; clear n0_ n1_ n2_ n3_ n4_; (try clear hb); (try clear hb2); (try clear hk); (try clear hi); (try clear ho0)) | ((with_reducible refine gate_dst (N := 13) rfl ?_); refine box_event ?hg (N := 13) ?hd (cs := #[.int .i64 0, .int .i64 0, .int .i64 0, .int .i64 0, .int .i64 0, .slice none 0 0]) (t := 24) ?hr ?_; (case hd => rfl); (case hg => rfl); (case hr => first | (go_simp; done) | (go_simp; rfl)); intro gb200 hg w58 hbox hb; have n0_ := Aside0.mk (Kd.R_below (kR HO199.out) hb); have n1_ := Aside0.mk (kL BK169.out hb); have n2_ := Aside0.mk (kL BK170.out hb); have n3_ := Aside0.mk (kL BK183.out hb); have n4_ := Aside0.mk (below_step (kb3 HB.out GE169.out GE170.out GE183.out) hb); have n5_ := Aside0.mk (hbox); have n6_ := Aside0.mk ((kz hg (below_size (kb3 HB.out GE169.out GE170.out GE183.out)) : w.heap.size ≤ gb200)); have n7_ := Aside0.mk ((kz hg (below_size (kb3 HB.out GE169.out GE170.out GE183.out)) : w.heap.size ≤ gb200)); have n8_ := Aside0.mk ((kN hg BK169.out : gb169 ≠ gb200)); have n9_ := Aside0.mk (((kN hg BK169.out).symm : gb200 ≠ gb169)); have n10_ := Aside0.mk ((kN hg BK170.out : gb170 ≠ gb200)); have n11_ := Aside0.mk (((kN hg BK170.out).symm : gb200 ≠ gb170)); have n12_ := Aside0.mk ((kN hg BK183.out : gb183 ≠ gb200)); have n13_ := Aside0.mk (((kN hg BK183.out).symm : gb200 ≠ gb183)); clear HO199; clear BK169; clear BK170; clear BK183; clear HB; have HO199 := n0_; have BK169 := n1_; have BK170 := n2_; have BK183 := n3_; have HB := n4_; have BK200 := n5_; have GW200 := n6_; have GE200 := n7_; have NB169_200 := n8_; have NB200_169 := n9_; have NB170_200 := n10_; have NB200_170 := n11_; have NB183_200 := n12_; have NB200_183 := n13_; clear n0_ n1_ n2_ n3_ n4_ n5_ n6_ n7_ n8_ n9_ n10_ n11_ n12_ n13_; clear hb hbox hg; have hnb59 := NB200_169.out; have hnc59 := NB169_200.out; have hnb60 := NB200_170.out; have hnc60 := NB170_200.out; have hnb61 := NB200_183.out; have hnc61 := NB183_200.out; obtain ⟨hcz62_0, hcz62_1, hcz62_2, hcz62_3, hcz62_4, hcz62_5⟩ := kc6 BK200.out; obtain ⟨hfz62_0, hfz62_1, hfz62_2, hfz62_3, hfz62_4, hfz62_5⟩ := kf6 BK200.out; obtain ⟨Ao63, co63, eo63⟩ := Kd.R_slice HO199.out; subst eo63; obtain ⟨hcz64_0, hcz64_1, hcz64_2, hcz64_3, hcz64_4, hcz64_5⟩ := kc6 BK169.out; obtain ⟨hfz64_0, hfz64_1, hfz64_2, hfz64_3, hfz64_4, hfz64_5⟩ := kf6 BK169.out))
     (try simp only [Act.put, List.setIfInBounds_toArray, List.set_cons_zero, List.set_cons_succ])
     go_cut [] (fun wc => ∃ (kq : Nat) (x201002_48 : Int), Aside0 (upload_Give.j1 kq a0 a2 a3 t177 t178 t179 t180 t181 t192 t193 x201002_48 t195 t196 t197 = some (r1, r2, r3, r4, r5, r6, r7, r8)) ∧ Aside0 (kq ≤ kj4) ∧ Aside0 (Kd.R k68 68 wc w.heap.size (fun _ => True) (.slice Ao63 t197.length co63) t197) ∧ Aside0 (wc.heap[gb169]? = some (.cells #[.int .i64 a1_0, .int .i64 a1_1, .int .i64 a1_2, .int .i64 a1_3, .int .i64 a1_4, (.slice A1_5 l1_5.length c1_5)] 24 (0, 0))) ∧ Aside0 (wc.heap[gb170]? = some (.cells #[.int .i64 0, .int .i64 0, .int .i64 0, .int .i64 0, .int .i64 0, (.slice none 0 0)] 24 (0, 0))) ∧ Aside0 (wc.heap[gb183]? = some (.cells #[.int .i64 t177, .int .i64 t178, .int .i64 t179, .int .i64 t180, .int .i64 t181] 43 (0, 0))) ∧ Aside0 (wc.heap[gb200]? = some (.cells #[.int .i64 t192, .int .i64 t193, .int .i64 x201002_48, .int .i64 t195, .int .i64 t196, (.slice Ao63 t197.length co63)] 24 (0, 0))) ∧ Aside0 (Below w.heap.size w wc))
     case first =>
      have H := HC49.out
      clear HC49
      by_cases c65 : a1_0 = 0
      case neg =>
       rw [if_neg c65] at H
       have c65b0 : (a1_0 == 0) = false := beq_eq_false_iff_ne.mpr c65
       have c65b1 : (a1_0 != 0) = true := bne_iff_ne.mpr c65
       (first | rw [c65b0] | rw [c65b1] | (simp only [i64_w, i32_w]; rw [c65b0]) | skip)
       have H' := Aside0.mk H
       clear H
       go_wp2
       go_meet
       case rel => exact ⟨_, (t194), H', ⟨by have := HJ4.out; first | omega | exact Nat.le_refl _⟩, ⟨by (with_reducible repeat (first | apply Kd.R_alloc | apply Kd.R_drewN | apply Kd.R_drew)); exact Kd.R_mono (Kd.R_far (p := ⟨gb200, 5, none⟩) (Kd.R_far (p := ⟨gb200, 4, none⟩) (Kd.R_far (p := ⟨gb200, 3, none⟩) (Kd.R_far (p := ⟨gb200, 2, none⟩) (Kd.R_far (p := ⟨gb200, 1, none⟩) (Kd.R_far (p := ⟨gb200, 0, none⟩) (Kd.R_types HO199.out BK200.out (by decide)) (fun _ hk => hk.2) (.int .i64 t192)) (fun _ hk => hk.2) (.int .i64 t193)) (fun _ hk => hk.2) (.int .i64 t194)) (fun _ hk => hk.2) (.int .i64 t195)) (fun _ hk => hk.2) (.int .i64 t196)) (fun _ hk => hk.2) (.slice Ao63 t197.length co63)) (fun _ hk => trivial)⟩, ⟨kFa6 BK169.out NB169_200.out⟩, ⟨kFa6 BK170.out NB170_200.out⟩, ⟨kFa6 BK183.out NB183_200.out⟩, ⟨kP6 BK200.out⟩, ⟨kb4 HB.out GE169.out GE170.out GE183.out GE200.out⟩⟩
      rw [if_pos c65] at H
      have c65b0 : (a1_0 == 0) = true := beq_iff_eq.mpr c65
      have c65b1 : (a1_0 != 0) = false := bne_eq_false_iff_eq.mpr c65
      clear c65
      (first | rw [c65b0] | rw [c65b1] | (simp only [i64_w, i32_w]; rw [c65b0]) | skip)
      have H' := Aside0.mk H
      clear H
      have hnb66 := NB200_169.out
      have hnc66 := NB169_200.out
      have hnb67 := NB200_170.out
      have hnc67 := NB170_200.out
      have hnb68 := NB200_183.out
      have hnc68 := NB183_200.out
      obtain ⟨hcz69_0, hcz69_1, hcz69_2, hcz69_3, hcz69_4, hcz69_5⟩ := kc6 BK200.out
      obtain ⟨hfz69_0, hfz69_1, hfz69_2, hfz69_3, hfz69_4, hfz69_5⟩ := kf6 BK200.out
      go_wp2
      go_meet
      case rel => exact ⟨_, (0), H', ⟨by have := HJ4.out; first | omega | exact Nat.le_refl _⟩, ⟨by (with_reducible repeat (first | apply Kd.R_alloc | apply Kd.R_drewN | apply Kd.R_drew)); exact Kd.R_mono (Kd.R_far (p := ⟨gb200, 2, none⟩) (Kd.R_far (p := ⟨gb200, 5, none⟩) (Kd.R_far (p := ⟨gb200, 4, none⟩) (Kd.R_far (p := ⟨gb200, 3, none⟩) (Kd.R_far (p := ⟨gb200, 2, none⟩) (Kd.R_far (p := ⟨gb200, 1, none⟩) (Kd.R_far (p := ⟨gb200, 0, none⟩) (Kd.R_types HO199.out BK200.out (by decide)) (fun _ hk => hk.2) (.int .i64 t192)) (fun _ hk => hk.2) (.int .i64 t193)) (fun _ hk => hk.2) (.int .i64 t194)) (fun _ hk => hk.2) (.int .i64 t195)) (fun _ hk => hk.2) (.int .i64 t196)) (fun _ hk => hk.2) (.slice Ao63 t197.length co63)) (fun _ hk => hk.2) (.int .i64 0)) (fun _ hk => trivial)⟩, ⟨kFa7 BK169.out NB169_200.out⟩, ⟨kFa7 BK170.out NB170_200.out⟩, ⟨kFa7 BK183.out NB183_200.out⟩, ⟨by (with_reducible repeat (first | refine blk_drewN ?_ _ | refine blk_drew ?_ | refine blk_alloc ?_ _)); refine blk_put (cs := #[.int .i64 t192, .int .i64 t193, .int .i64 t194, .int .i64 t195, .int .i64 t196, .slice Ao63 t197.length co63]) ?_ 2 _ rfl; (with_reducible repeat (first | refine blk_drewN ?_ _ | refine blk_drew ?_ | refine blk_alloc ?_ _)); refine blk_put (cs := #[.int .i64 t192, .int .i64 t193, .int .i64 t194, .int .i64 t195, .int .i64 t196, .slice none 0 0]) ?_ 5 _ rfl; (with_reducible repeat (first | refine blk_drewN ?_ _ | refine blk_drew ?_ | refine blk_alloc ?_ _)); refine blk_put (cs := #[.int .i64 t192, .int .i64 t193, .int .i64 t194, .int .i64 t195, .int .i64 0, .slice none 0 0]) ?_ 4 _ rfl; (with_reducible repeat (first | refine blk_drewN ?_ _ | refine blk_drew ?_ | refine blk_alloc ?_ _)); refine blk_put (cs := #[.int .i64 t192, .int .i64 t193, .int .i64 t194, .int .i64 0, .int .i64 0, .slice none 0 0]) ?_ 3 _ rfl; (with_reducible repeat (first | refine blk_drewN ?_ _ | refine blk_drew ?_ | refine blk_alloc ?_ _)); refine blk_put (cs := #[.int .i64 t192, .int .i64 t193, .int .i64 0, .int .i64 0, .int .i64 0, .slice none 0 0]) ?_ 2 _ rfl; (with_reducible repeat (first | refine blk_drewN ?_ _ | refine blk_drew ?_ | refine blk_alloc ?_ _)); refine blk_put (cs := #[.int .i64 t192, .int .i64 0, .int .i64 0, .int .i64 0, .int .i64 0, .slice none 0 0]) ?_ 1 _ rfl; (with_reducible repeat (first | refine blk_drewN ?_ _ | refine blk_drew ?_ | refine blk_alloc ?_ _)); refine blk_put (cs := #[.int .i64 0, .int .i64 0, .int .i64 0, .int .i64 0, .int .i64 0, .slice none 0 0]) ?_ 0 _ rfl; (with_reducible repeat (first | refine blk_drewN ?_ _ | refine blk_drew ?_ | refine blk_alloc ?_ _)); exact BK200.out⟩, ⟨kb4 HB.out GE169.out GE170.out GE183.out GE200.out⟩⟩
     case rest =>
      clear HC49
      try clear c1; try clear c2; try clear p2; try clear c3; try clear c4; try clear c5; try clear c6; try clear c9; try clear c10; try clear c11; try clear c12; try clear c12b0; try clear c12b1; try clear c14; try clear c16; try clear c20; try clear c21; try clear c24; try clear c24b0; try clear c24b1; try clear c25; try clear c26; try clear c27; try clear c28; try clear c32; try clear c36; try clear c40; try clear c43; try clear c44; try clear c47; try clear c47b0; try clear c47b1; try clear c52; try clear c53; try clear c55; try clear c59; try clear c60; try clear c61; try clear c65; try clear c65b0; try clear c65b1; try clear c66; try clear c67; try clear c68; try clear hcz17_0; try clear hcz17_1; try clear hcz17_2; try clear hcz17_3; try clear hcz17_4; try clear hcz17_5; try clear hcz19_0; try clear hcz19_1; try clear hcz19_2; try clear hcz19_3; try clear hcz19_4; try clear hcz19_5; try clear hcz21_0; try clear hcz21_1; try clear hcz21_2; try clear hcz21_3; try clear hcz21_4; try clear hcz21_5; try clear hcz23_0; try clear hcz23_1; try clear hcz23_2; try clear hcz23_3; try clear hcz23_4; try clear hcz23_5; try clear hcz29_0; try clear hcz29_1; try clear hcz29_2; try clear hcz29_3; try clear hcz29_4; try clear hcz29_5; try clear hcz31_0; try clear hcz31_1; try clear hcz31_2; try clear hcz31_3; try clear hcz31_4; try clear hcz31_5; try clear hcz33_0; try clear hcz33_1; try clear hcz33_2; try clear hcz33_3; try clear hcz33_4; try clear hcz33_5; try clear hcz35_0; try clear hcz35_1; try clear hcz35_2; try clear hcz35_3; try clear hcz35_4; try clear hcz35_5; try clear hcz37_0; try clear hcz37_1; try clear hcz37_2; try clear hcz37_3; try clear hcz37_4; try clear hcz37_5; try clear hcz39_0; try clear hcz39_1; try clear hcz39_2; try clear hcz39_3; try clear hcz39_4; try clear hcz39_5; try clear hcz41_0; try clear hcz41_1; try clear hcz41_2; try clear hcz41_3; try clear hcz41_4; try clear hcz41_5; try clear hcz45_0; try clear hcz45_1; try clear hcz45_2; try clear hcz45_3; try clear hcz45_4; try clear hcz45_5; try clear hcz54_0; try clear hcz54_1; try clear hcz54_2; try clear hcz54_3; try clear hcz54_4; try clear hcz56_0; try clear hcz56_1; try clear hcz56_2; try clear hcz56_3; try clear hcz56_4; try clear hcz56_5; try clear hcz62_0; try clear hcz62_1; try clear hcz62_2; try clear hcz62_3; try clear hcz62_4; try clear hcz62_5; try clear hcz64_0; try clear hcz64_1; try clear hcz64_2; try clear hcz64_3; try clear hcz64_4; try clear hcz64_5; try clear hcz69_0; try clear hcz69_1; try clear hcz69_2; try clear hcz69_3; try clear hcz69_4; try clear hcz69_5; try clear hfz17_0; try clear hfz17_1; try clear hfz17_2; try clear hfz17_3; try clear hfz17_4; try clear hfz17_5; try clear hfz19_0; try clear hfz19_1; try clear hfz19_2; try clear hfz19_3; try clear hfz19_4; try clear hfz19_5; try clear hfz21_0; try clear hfz21_1; try clear hfz21_2; try clear hfz21_3; try clear hfz21_4; try clear hfz21_5; try clear hfz23_0; try clear hfz23_1; try clear hfz23_2; try clear hfz23_3; try clear hfz23_4; try clear hfz23_5; try clear hfz29_0; try clear hfz29_1; try clear hfz29_2; try clear hfz29_3; try clear hfz29_4; try clear hfz29_5; try clear hfz31_0; try clear hfz31_1; try clear hfz31_2; try clear hfz31_3; try clear hfz31_4; try clear hfz31_5; try clear hfz33_0; try clear hfz33_1; try clear hfz33_2; try clear hfz33_3; try clear hfz33_4; try clear hfz33_5; try clear hfz35_0; try clear hfz35_1; try clear hfz35_2; try clear hfz35_3; try clear hfz35_4; try clear hfz35_5; try clear hfz37_0; try clear hfz37_1; try clear hfz37_2; try clear hfz37_3; try clear hfz37_4; try clear hfz37_5; try clear hfz39_0; try clear hfz39_1; try clear hfz39_2; try clear hfz39_3; try clear hfz39_4; try clear hfz39_5; try clear hfz41_0; try clear hfz41_1; try clear hfz41_2; try clear hfz41_3; try clear hfz41_4; try clear hfz41_5; try clear hfz45_0; try clear hfz45_1; try clear hfz45_2; try clear hfz45_3; try clear hfz45_4; try clear hfz45_5; try clear hfz54_0; try clear hfz54_1; try clear hfz54_2; try clear hfz54_3; try clear hfz54_4; try clear hfz56_0; try clear hfz56_1; try clear hfz56_2; try clear hfz56_3; try clear hfz56_4; try clear hfz56_5; try clear hfz62_0; try clear hfz62_1; try clear hfz62_2; try clear hfz62_3; try clear hfz62_4; try clear hfz62_5; try clear hfz64_0; try clear hfz64_1; try clear hfz64_2; try clear hfz64_3; try clear hfz64_4; try clear hfz64_5; try clear hfz69_0; try clear hfz69_1; try clear hfz69_2; try clear hfz69_3; try clear hfz69_4; try clear hfz69_5; try clear p2
      obtain ⟨kq, x201002_48, HA, HJ48, HO_201005, BK169, BK170, BK183, BK200, HB⟩ := hcut
      cases kq with
      | zero => exact absurd HA.out (by simp [upload_Give.j1])
      | succ kj48 =>
       have H := HA.out
       clear HA
       simp only [upload_Give.j1] at H
       by_cases c70 : a2 = x201002_48
       ·rw [if_pos c70] at H
        have c70b0 : (a2 == x201002_48) = true := beq_iff_eq.mpr c70
        have c70b1 : (a2 != x201002_48) = false := bne_eq_false_iff_eq.mpr c70
        clear c70
        replace H := Option.bind_eq_some_iff.mp H
        obtain ⟨⟨t209, t210⟩, A710, H⟩ := H
        replace H : (if 0 ≤ (mn (wrap64 (32 * x201002_48)) (t209.size : Int)) then (if (mn (wrap64 (32 * x201002_48)) (t209.size : Int)) ≤ (t209.size : Int) then (if 0 ≤ (mn a3 ((t209.extract ((mn (wrap64 (32 * x201002_48)) (t209.size : Int)) : Int).toNat t209.size).size : Int)) then (if (mn a3 ((t209.extract ((mn (wrap64 (32 * x201002_48)) (t209.size : Int)) : Int).toNat t209.size).size : Int)) ≤ ((t209.extract ((mn (wrap64 (32 * x201002_48)) (t209.size : Int)) : Int).toNat t209.size).size : Int) then (if (((t209.extract ((mn (wrap64 (32 * x201002_48)) (t209.size : Int)) : Int).toNat t209.size).extract 0 ((mn a3 ((t209.extract ((mn (wrap64 (32 * x201002_48)) (t209.size : Int)) : Int).toNat t209.size).size : Int)) : Int).toNat).size : Int) < 32 then ((device_New.f).bind fun bt211 => (some (bt211.1, bt211.2.1, bt211.2.2.1, bt211.2.2.2.1, bt211.2.2.2.2.1, bt211.2.2.2.2.2, (t209.extract ((mn (wrap64 (32 * x201002_48)) (t209.size : Int)) : Int).toNat t209.size).extract 0 ((mn a3 ((t209.extract ((mn (wrap64 (32 * x201002_48)) (t209.size : Int)) : Int).toNat t209.size).size : Int)) : Int).toNat, 0))) else (some (6, t193, mn (wrap64 (x201002_48 + 1)) 16, t195, t196, t197, (t209.extract ((mn (wrap64 (32 * x201002_48)) (t209.size : Int)) : Int).toNat t209.size).extract 0 ((mn a3 ((t209.extract ((mn (wrap64 (32 * x201002_48)) (t209.size : Int)) : Int).toNat t209.size).size : Int)) : Int).toNat, 0))) else (none)) else (none)) else (none)) else (none)) = some (r1, r2, r3, r4, r5, r6, r7, r8) := H
        have A71 := Aside0.mk A710
        clear A710
        obtain ⟨ji72, hji72⟩ : ∃ j_ : Int, (mn (wrap64 (32 * x201002_48)) (t209.size : Int)) = j_ := ⟨_, rfl⟩
        replace H : (if 0 ≤ (ji72) then (if (ji72) ≤ (t209.size : Int) then (if 0 ≤ (mn a3 ((t209.extract ((ji72) : Int).toNat t209.size).size : Int)) then (if (mn a3 ((t209.extract ((ji72) : Int).toNat t209.size).size : Int)) ≤ ((t209.extract ((ji72) : Int).toNat t209.size).size : Int) then (if (((t209.extract ((ji72) : Int).toNat t209.size).extract 0 ((mn a3 ((t209.extract ((ji72) : Int).toNat t209.size).size : Int)) : Int).toNat).size : Int) < 32 then ((device_New.f).bind fun bt211 => (some (bt211.1, bt211.2.1, bt211.2.2.1, bt211.2.2.2.1, bt211.2.2.2.2.1, bt211.2.2.2.2.2, (t209.extract ((ji72) : Int).toNat t209.size).extract 0 ((mn a3 ((t209.extract ((ji72) : Int).toNat t209.size).size : Int)) : Int).toNat, 0))) else (some (6, t193, mn (wrap64 (x201002_48 + 1)) 16, t195, t196, t197, (t209.extract ((ji72) : Int).toNat t209.size).extract 0 ((mn a3 ((t209.extract ((ji72) : Int).toNat t209.size).size : Int)) : Int).toNat, 0))) else (none)) else (none)) else (none)) else (none)) = some (r1, r2, r3, r4, r5, r6, r7, r8) := by first | (rw [hji72] at H; exact H) | (simp only [hji72] at H ⊢; exact H)
        (try rw [hji72] at A71)
        have hji72_ : (if (t209.size : Int) < (wrap64 (32 * x201002_48)) then (t209.size : Int) else (wrap64 (32 * x201002_48))) = ji72 := hji72
        by_cases c73 : 0 ≤ (ji72)
        case neg =>
         rw [if_neg c73] at H
         exact absurd H (by simp)
        rw [if_pos c73] at H
        have c73b0 := eq_true c73
        have c73b1 : decide (0 ≤ (ji72)) = true := decide_eq_true c73
        clear c73
        by_cases c74 : (ji72) ≤ (t209.size : Int)
        case neg =>
         rw [if_neg c74] at H
         exact absurd H (by simp)
        rw [if_pos c74] at H
        have c74b0 := eq_true c74
        have c74b1 : decide ((ji72) ≤ (t209.size : Int)) = true := decide_eq_true c74
        clear c74
        obtain ⟨ji75, hji75⟩ : ∃ j_ : Int, (mn a3 ((t209.extract ((ji72) : Int).toNat t209.size).size : Int)) = j_ := ⟨_, rfl⟩
        replace H : (if 0 ≤ (ji75) then (if (ji75) ≤ ((t209.extract ((ji72) : Int).toNat t209.size).size : Int) then (if (((t209.extract ((ji72) : Int).toNat t209.size).extract 0 ((ji75) : Int).toNat).size : Int) < 32 then ((device_New.f).bind fun bt211 => (some (bt211.1, bt211.2.1, bt211.2.2.1, bt211.2.2.2.1, bt211.2.2.2.2.1, bt211.2.2.2.2.2, (t209.extract ((ji72) : Int).toNat t209.size).extract 0 ((ji75) : Int).toNat, 0))) else (some (6, t193, mn (wrap64 (x201002_48 + 1)) 16, t195, t196, t197, (t209.extract ((ji72) : Int).toNat t209.size).extract 0 ((ji75) : Int).toNat, 0))) else (none)) else (none)) = some (r1, r2, r3, r4, r5, r6, r7, r8) := by first | (rw [hji75] at H; exact H) | (simp only [hji75] at H ⊢; exact H)
        (try rw [hji75] at A71)
        have hji75_ : (if ((t209.extract ((ji72) : Int).toNat t209.size).size : Int) < a3 then ((t209.extract ((ji72) : Int).toNat t209.size).size : Int) else a3) = ji75 := hji75
        by_cases c76 : 0 ≤ (ji75)
        case neg =>
         rw [if_neg c76] at H
         exact absurd H (by simp)
        rw [if_pos c76] at H
        have c76b0 := eq_true c76
        have c76b1 : decide (0 ≤ (ji75)) = true := decide_eq_true c76
        clear c76
        by_cases c77 : (ji75) ≤ ((t209.extract ((ji72) : Int).toNat t209.size).size : Int)
        case neg =>
         rw [if_neg c77] at H
         exact absurd H (by simp)
        rw [if_pos c77] at H
        have c77b0 := eq_true c77
        have c77b1 : decide ((ji75) ≤ ((t209.extract ((ji72) : Int).toNat t209.size).size : Int)) = true := decide_eq_true c77
        clear c77
        by_cases c78 : (((t209.extract ((ji72) : Int).toNat t209.size).extract 0 ((ji75) : Int).toNat).size : Int) < 32
        ·rw [if_pos c78] at H
         have c78b0 : decide ((((t209.extract ((ji72) : Int).toNat t209.size).extract 0 ((ji75) : Int).toNat).size : Int) < 32) = true := decide_eq_true c78
         have c78b1 : decide (((t209.extract ((ji72) : Int).toNat t209.size).extract 0 ((ji75) : Int).toNat).size < 32) = true := decide_eq_true (by omega)
         clear c78
         replace H := Option.bind_eq_some_iff.mp H
         obtain ⟨⟨t211, t212, t213, t214, t215, t216⟩, A790, H⟩ := H
         replace H : (some (t211, t212, t213, t214, t215, t216, (t209.extract ((ji72) : Int).toNat t209.size).extract 0 ((ji75) : Int).toNat, 0)) = some (r1, r2, r3, r4, r5, r6, r7, r8) := H
         have A79 := Aside0.mk A790
         clear A790
         simp only [Option.some.injEq, Prod.mk.injEq] at H
         obtain ⟨rfl, rfl, rfl, rfl, rfl, rfl, rfl, rfl⟩ := H
         have hnb80 := NB200_169.out
         have hnc80 := NB169_200.out
         have hnb81 := NB200_170.out
         have hnc81 := NB170_200.out
         have hnb82 := NB200_183.out
         have hnc82 := NB183_200.out
         obtain ⟨hcz83_0, hcz83_1, hcz83_2, hcz83_3, hcz83_4, hcz83_5⟩ := kc6 BK200.out
         obtain ⟨hfz83_0, hfz83_1, hfz83_2, hfz83_3, hfz83_4, hfz83_5⟩ := kf6 BK200.out
         have hnb84 := NB183_169.out
         have hnc84 := NB169_183.out
         have hnb85 := NB183_170.out
         have hnc85 := NB170_183.out
         obtain ⟨hcz86_0, hcz86_1, hcz86_2, hcz86_3, hcz86_4⟩ := kc5 BK183.out
         obtain ⟨hfz86_0, hfz86_1, hfz86_2, hfz86_3, hfz86_4⟩ := kf5 BK183.out
         go_upto_region 13 with (first | ((with_reducible refine gate_callee (f := 28) rfl ?_); refine goesL_ (some 68) rfl rfl Try.func28 (by kernel_rfl) rfl #[.string a0, .agg #[.int .i64 t178, .int .i64 t179, .int .i64 t180, .int .i64 t181]] rfl ka ?_; (with_reducible refine (image_Of.calls a0 t178 t179 t180 t181 t209 t210 _ A71.out).mono ?_); rintro e w87 ⟨rfl, hb⟩; refine ⟨_, rfl, ?_⟩; have n0_ := Aside0.mk (Kd.R_below (kR HO_201005.out) hb); have n1_ := Aside0.mk (kL BK169.out hb); have n2_ := Aside0.mk (kL BK170.out hb); have n3_ := Aside0.mk (kL BK183.out hb); have n4_ := Aside0.mk (kL BK200.out hb); have n5_ := Aside0.mk (below_step (kb4 HB.out GE169.out GE170.out GE183.out GE200.out) hb); clear HO_201005; clear BK169; clear BK170; clear BK183; clear BK200; clear HB; have HO_201005 := n0_; have BK169 := n1_; have BK170 := n2_; have BK183 := n3_; have BK200 := n4_; have HB := n5_; clear n0_ n1_ n2_ n3_ n4_ n5_; (try clear hb); (try clear hb2); (try clear hk); (try clear hi); obtain ⟨hcz88_0, hcz88_1, hcz88_2, hcz88_3, hcz88_4, hcz88_5⟩ := kc6 BK200.out; obtain ⟨hfz88_0, hfz88_1, hfz88_2, hfz88_3, hfz88_4, hfz88_5⟩ := kf6 BK200.out) | ((with_reducible refine gate_callee (f := 29) rfl ?_); refine goesL_ (some 88) rfl rfl Try.func29 (by kernel_rfl) rfl #[] rfl ka ?_; (with_reducible refine (device_New.calls  t211 t212 t213 t214 t215 t216 _ A79.out).mono ?_); rintro e w89 ⟨v217, rfl, ho0, hb⟩; refine ⟨_, rfl, ?_⟩; have n0_ := Aside0.mk (Kd.R_elder' (kR HO_201005.out) (Kd.R_base ho0) hb); have n1_ := Aside0.mk (Kd.R_lower (Kd.R_new' ho0 (Kd.R_lt (kR HO_201005.out))) (below_size (kb4 HB.out GE169.out GE170.out GE183.out GE200.out))); have n2_ := Aside0.mk (kL BK169.out hb); have n3_ := Aside0.mk (kL BK170.out hb); have n4_ := Aside0.mk (kL BK183.out hb); have n5_ := Aside0.mk (kL BK200.out hb); have n6_ := Aside0.mk (below_step (kb4 HB.out GE169.out GE170.out GE183.out GE200.out) hb); clear HO_201005; clear BK169; clear BK170; clear BK183; clear BK200; clear HB; have HO_201005 := n0_; have HO218 := n1_; have BK169 := n2_; have BK170 := n3_; have BK183 := n4_; have BK200 := n5_; have HB := n6_; clear n0_ n1_ n2_ n3_ n4_ n5_ n6_; (try clear hb); (try clear hb2); (try clear hk); (try clear hi); (try clear ho0); have hnb90 := NB170_169.out; have hnc90 := NB169_170.out; obtain ⟨hcz91_0, hcz91_1, hcz91_2, hcz91_3, hcz91_4, hcz91_5⟩ := kc6 BK170.out; obtain ⟨hfz91_0, hfz91_1, hfz91_2, hfz91_3, hfz91_4, hfz91_5⟩ := kf6 BK170.out; obtain ⟨Ao92, co92, eo92⟩ := Kd.R_slice HO218.out; subst eo92))
         (try simp only [Act.put, List.setIfInBounds_toArray, List.set_cons_zero, List.set_cons_succ])
         obtain ⟨sx, hsx⟩ : ∃ z_, z_ = t209.extract ((ji72) : Int).toNat t209.size := ⟨_, rfl⟩
         try rw [← hsx] at hji75
         try rw [← hsx] at hji75_
         try rw [← hsx] at c76b0
         try rw [← hsx] at c76b1
         try rw [← hsx] at c77b0
         try rw [← hsx] at c77b1
         try rw [← hsx] at c78b0
         try rw [← hsx] at c78b1
         (try clear H)
         try rw [← hsx]
         try simp only [← hsx]
         have HSX := Aside0.mk hsx
         clear hsx
         go_upto_region 14 with (fail)
         (try simp only [Act.put, List.setIfInBounds_toArray, List.set_cons_zero, List.set_cons_succ])
         obtain ⟨sy, hsy⟩ : ∃ z_, z_ = sx.extract 0 ((ji75) : Int).toNat := ⟨_, rfl⟩
         try rw [← hsy] at c78b0
         try rw [← hsy] at c78b1
         try rw [← hsy]
         have HSY := Aside0.mk hsy
         clear hsy
         go_wp2_with (first | ((with_reducible refine gate_callee (f := 28) rfl ?_); refine goesL_ (some 68) rfl rfl Try.func28 (by kernel_rfl) rfl #[.string a0, .agg #[.int .i64 t178, .int .i64 t179, .int .i64 t180, .int .i64 t181]] rfl ka ?_; (with_reducible refine (image_Of.calls a0 t178 t179 t180 t181 t209 t210 _ A71.out).mono ?_); rintro e w87 ⟨rfl, hb⟩; refine ⟨_, rfl, ?_⟩; have n0_ := Aside0.mk (Kd.R_below (kR HO_201005.out) hb); have n1_ := Aside0.mk (kL BK169.out hb); have n2_ := Aside0.mk (kL BK170.out hb); have n3_ := Aside0.mk (kL BK183.out hb); have n4_ := Aside0.mk (kL BK200.out hb); have n5_ := Aside0.mk (below_step (kb4 HB.out GE169.out GE170.out GE183.out GE200.out) hb); clear HO_201005; clear BK169; clear BK170; clear BK183; clear BK200; clear HB; have HO_201005 := n0_; have BK169 := n1_; have BK170 := n2_; have BK183 := n3_; have BK200 := n4_; have HB := n5_; clear n0_ n1_ n2_ n3_ n4_ n5_; (try clear hb); (try clear hb2); (try clear hk); (try clear hi); obtain ⟨hcz88_0, hcz88_1, hcz88_2, hcz88_3, hcz88_4, hcz88_5⟩ := kc6 BK200.out; obtain ⟨hfz88_0, hfz88_1, hfz88_2, hfz88_3, hfz88_4, hfz88_5⟩ := kf6 BK200.out) | ((with_reducible refine gate_callee (f := 29) rfl ?_); refine goesL_ (some 88) rfl rfl Try.func29 (by kernel_rfl) rfl #[] rfl ka ?_; (with_reducible refine (device_New.calls  t211 t212 t213 t214 t215 t216 _ A79.out).mono ?_); rintro e w89 ⟨v217, rfl, ho0, hb⟩; refine ⟨_, rfl, ?_⟩; have n0_ := Aside0.mk (Kd.R_elder' (kR HO_201005.out) (Kd.R_base ho0) hb); have n1_ := Aside0.mk (Kd.R_lower (Kd.R_new' ho0 (Kd.R_lt (kR HO_201005.out))) (below_size (kb4 HB.out GE169.out GE170.out GE183.out GE200.out))); have n2_ := Aside0.mk (kL BK169.out hb); have n3_ := Aside0.mk (kL BK170.out hb); have n4_ := Aside0.mk (kL BK183.out hb); have n5_ := Aside0.mk (kL BK200.out hb); have n6_ := Aside0.mk (below_step (kb4 HB.out GE169.out GE170.out GE183.out GE200.out) hb); clear HO_201005; clear BK169; clear BK170; clear BK183; clear BK200; clear HB; have HO_201005 := n0_; have HO218 := n1_; have BK169 := n2_; have BK170 := n3_; have BK183 := n4_; have BK200 := n5_; have HB := n6_; clear n0_ n1_ n2_ n3_ n4_ n5_ n6_; (try clear hb); (try clear hb2); (try clear hk); (try clear hi); (try clear ho0); have hnb90 := NB170_169.out; have hnc90 := NB169_170.out; obtain ⟨hcz91_0, hcz91_1, hcz91_2, hcz91_3, hcz91_4, hcz91_5⟩ := kc6 BK170.out; obtain ⟨hfz91_0, hfz91_1, hfz91_2, hfz91_3, hfz91_4, hfz91_5⟩ := kf6 BK170.out; obtain ⟨Ao92, co92, eo92⟩ := Kd.R_slice HO218.out; subst eo92))
         have hsy := HSY.out
         clear HSY
         subst hsy
         have hsx := HSX.out
         clear HSX
         subst hsx
         refine bodyPost_ret (results_ctt rfl _ _ gb170 24 #[.int .i64 t211, .int .i64 t212, .int .i64 t213, .int .i64 t214, .int .i64 t215, .slice Ao92 t216.length co92] (0, 0) _ rfl (kP6 BK170.out) Try.underlying24 rfl (by kernel_rfl)) rfl ?_
         exact ⟨_, by first | rfl | (simp [errW_none, errW_some] <;> rfl) | (simp only [← hji72, ← hji75]; first | rfl | (simp [errW_none, errW_some] <;> rfl)) | (simp [*, errW_none, errW_some] <;> rfl), by (with_reducible repeat (first | apply Kd.R_alloc | apply Kd.R_drewN | apply Kd.R_drew)); exact Kd.R_mono (Kd.R_far (p := ⟨gb170, 5, none⟩) (Kd.R_far (p := ⟨gb170, 4, none⟩) (Kd.R_far (p := ⟨gb170, 3, none⟩) (Kd.R_far (p := ⟨gb170, 2, none⟩) (Kd.R_far (p := ⟨gb170, 1, none⟩) (Kd.R_far (p := ⟨gb170, 0, none⟩) (Kd.R_types HO218.out BK170.out (by decide)) (fun _ hk => hk.2) (.int .i64 t211)) (fun _ hk => hk.2) (.int .i64 t212)) (fun _ hk => hk.2) (.int .i64 t213)) (fun _ hk => hk.2) (.int .i64 t214)) (fun _ hk => hk.2) (.int .i64 t215)) (fun _ hk => hk.2) (.slice Ao92 t216.length co92)) (fun _ hk => trivial), kb4 HB.out GE169.out GE170.out GE183.out GE200.out⟩
        ·rw [if_neg c78] at H
         have c78b0 : decide ((((t209.extract ((ji72) : Int).toNat t209.size).extract 0 ((ji75) : Int).toNat).size : Int) < 32) = false := decide_eq_false c78
         have c78b1 : decide (((t209.extract ((ji72) : Int).toNat t209.size).extract 0 ((ji75) : Int).toNat).size < 32) = false := decide_eq_false (by omega)
         clear c78
         obtain ⟨ji93, hji93⟩ : ∃ j_ : Int, (mn (wrap64 (x201002_48 + 1)) 16) = j_ := ⟨_, rfl⟩
         replace H : (some (6, t193, ji93, t195, t196, t197, (t209.extract ((ji72) : Int).toNat t209.size).extract 0 ((ji75) : Int).toNat, 0)) = some (r1, r2, r3, r4, r5, r6, r7, r8) := by first | (rw [hji93] at H; exact H) | (simp only [hji93] at H ⊢; exact H)
         (try rw [hji93] at A71)
         have hji93_ : (if 16 < (wrap64 (x201002_48 + 1)) then 16 else (wrap64 (x201002_48 + 1))) = ji93 := hji93
         simp only [Option.some.injEq, Prod.mk.injEq] at H
         obtain ⟨rfl, rfl, rfl, rfl, rfl, rfl, rfl, rfl⟩ := H
         have hnb94 := NB200_169.out
         have hnc94 := NB169_200.out
         have hnb95 := NB200_170.out
         have hnc95 := NB170_200.out
         have hnb96 := NB200_183.out
         have hnc96 := NB183_200.out
         obtain ⟨hcz97_0, hcz97_1, hcz97_2, hcz97_3, hcz97_4, hcz97_5⟩ := kc6 BK200.out
         obtain ⟨hfz97_0, hfz97_1, hfz97_2, hfz97_3, hfz97_4, hfz97_5⟩ := kf6 BK200.out
         have hnb98 := NB183_169.out
         have hnc98 := NB169_183.out
         have hnb99 := NB183_170.out
         have hnc99 := NB170_183.out
         obtain ⟨hcz100_0, hcz100_1, hcz100_2, hcz100_3, hcz100_4⟩ := kc5 BK183.out
         obtain ⟨hfz100_0, hfz100_1, hfz100_2, hfz100_3, hfz100_4⟩ := kf5 BK183.out
         go_upto_region 13 with (first | ((with_reducible refine gate_callee (f := 28) rfl ?_); refine goesL_ (some 68) rfl rfl Try.func28 (by kernel_rfl) rfl #[.string a0, .agg #[.int .i64 t178, .int .i64 t179, .int .i64 t180, .int .i64 t181]] rfl ka ?_; (with_reducible refine (image_Of.calls a0 t178 t179 t180 t181 t209 t210 _ A71.out).mono ?_); rintro e w101 ⟨rfl, hb⟩; refine ⟨_, rfl, ?_⟩; have n0_ := Aside0.mk (Kd.R_below (kR HO_201005.out) hb); have n1_ := Aside0.mk (kL BK169.out hb); have n2_ := Aside0.mk (kL BK170.out hb); have n3_ := Aside0.mk (kL BK183.out hb); have n4_ := Aside0.mk (kL BK200.out hb); have n5_ := Aside0.mk (below_step (kb4 HB.out GE169.out GE170.out GE183.out GE200.out) hb); clear HO_201005; clear BK169; clear BK170; clear BK183; clear BK200; clear HB; have HO_201005 := n0_; have BK169 := n1_; have BK170 := n2_; have BK183 := n3_; have BK200 := n4_; have HB := n5_; clear n0_ n1_ n2_ n3_ n4_ n5_; (try clear hb); (try clear hb2); (try clear hk); (try clear hi); obtain ⟨hcz102_0, hcz102_1, hcz102_2, hcz102_3, hcz102_4, hcz102_5⟩ := kc6 BK200.out; obtain ⟨hfz102_0, hfz102_1, hfz102_2, hfz102_3, hfz102_4, hfz102_5⟩ := kf6 BK200.out; have hnb103 := NB170_169.out; have hnc103 := NB169_170.out; obtain ⟨hcz104_0, hcz104_1, hcz104_2, hcz104_3, hcz104_4, hcz104_5⟩ := kc6 BK170.out; obtain ⟨hfz104_0, hfz104_1, hfz104_2, hfz104_3, hfz104_4, hfz104_5⟩ := kf6 BK170.out))
         (try simp only [Act.put, List.setIfInBounds_toArray, List.set_cons_zero, List.set_cons_succ])
         obtain ⟨sx, hsx⟩ : ∃ z_, z_ = t209.extract ((ji72) : Int).toNat t209.size := ⟨_, rfl⟩
         try rw [← hsx] at hji75
         try rw [← hsx] at hji75_
         try rw [← hsx] at c76b0
         try rw [← hsx] at c76b1
         try rw [← hsx] at c77b0
         try rw [← hsx] at c77b1
         try rw [← hsx] at c78b0
         try rw [← hsx] at c78b1
         (try clear H)
         try rw [← hsx]
         try simp only [← hsx]
         have HSX := Aside0.mk hsx
         clear hsx
         go_upto_region 14 with (fail)
         (try simp only [Act.put, List.setIfInBounds_toArray, List.set_cons_zero, List.set_cons_succ])
         obtain ⟨sy, hsy⟩ : ∃ z_, z_ = sx.extract 0 ((ji75) : Int).toNat := ⟨_, rfl⟩
         try rw [← hsy] at c78b0
         try rw [← hsy] at c78b1
         try rw [← hsy]
         have HSY := Aside0.mk hsy
         clear hsy
         go_wp2_with (first | ((with_reducible refine gate_callee (f := 28) rfl ?_); refine goesL_ (some 68) rfl rfl Try.func28 (by kernel_rfl) rfl #[.string a0, .agg #[.int .i64 t178, .int .i64 t179, .int .i64 t180, .int .i64 t181]] rfl ka ?_; (with_reducible refine (image_Of.calls a0 t178 t179 t180 t181 t209 t210 _ A71.out).mono ?_); rintro e w101 ⟨rfl, hb⟩; refine ⟨_, rfl, ?_⟩; have n0_ := Aside0.mk (Kd.R_below (kR HO_201005.out) hb); have n1_ := Aside0.mk (kL BK169.out hb); have n2_ := Aside0.mk (kL BK170.out hb); have n3_ := Aside0.mk (kL BK183.out hb); have n4_ := Aside0.mk (kL BK200.out hb); have n5_ := Aside0.mk (below_step (kb4 HB.out GE169.out GE170.out GE183.out GE200.out) hb); clear HO_201005; clear BK169; clear BK170; clear BK183; clear BK200; clear HB; have HO_201005 := n0_; have BK169 := n1_; have BK170 := n2_; have BK183 := n3_; have BK200 := n4_; have HB := n5_; clear n0_ n1_ n2_ n3_ n4_ n5_; (try clear hb); (try clear hb2); (try clear hk); (try clear hi); obtain ⟨hcz102_0, hcz102_1, hcz102_2, hcz102_3, hcz102_4, hcz102_5⟩ := kc6 BK200.out; obtain ⟨hfz102_0, hfz102_1, hfz102_2, hfz102_3, hfz102_4, hfz102_5⟩ := kf6 BK200.out; have hnb103 := NB170_169.out; have hnc103 := NB169_170.out; obtain ⟨hcz104_0, hcz104_1, hcz104_2, hcz104_3, hcz104_4, hcz104_5⟩ := kc6 BK170.out; obtain ⟨hfz104_0, hfz104_1, hfz104_2, hfz104_3, hfz104_4, hfz104_5⟩ := kf6 BK170.out))
         have hsy := HSY.out
         clear HSY
         subst hsy
         have hsx := HSX.out
         clear HSX
         subst hsx
         refine bodyPost_ret (results_ctt rfl _ _ gb170 24 #[.int .i64 6, .int .i64 t193, .int .i64 ji93, .int .i64 t195, .int .i64 t196, .slice Ao63 t197.length co63] (0, 0) _ rfl (by (with_reducible repeat (first | refine blk_drewN ?_ _ | refine blk_drew ?_ | refine blk_alloc ?_ _)); refine blk_put (cs := #[.int .i64 6, .int .i64 t193, .int .i64 ji93, .int .i64 t195, .int .i64 t196, .slice none 0 0]) ?_ 5 _ rfl; (with_reducible repeat (first | refine blk_drewN ?_ _ | refine blk_drew ?_ | refine blk_alloc ?_ _)); refine blk_put (cs := #[.int .i64 6, .int .i64 t193, .int .i64 ji93, .int .i64 t195, .int .i64 0, .slice none 0 0]) ?_ 4 _ rfl; (with_reducible repeat (first | refine blk_drewN ?_ _ | refine blk_drew ?_ | refine blk_alloc ?_ _)); refine blk_put (cs := #[.int .i64 6, .int .i64 t193, .int .i64 ji93, .int .i64 0, .int .i64 0, .slice none 0 0]) ?_ 3 _ rfl; (with_reducible repeat (first | refine blk_drewN ?_ _ | refine blk_drew ?_ | refine blk_alloc ?_ _)); refine blk_put (cs := #[.int .i64 6, .int .i64 t193, .int .i64 0, .int .i64 0, .int .i64 0, .slice none 0 0]) ?_ 2 _ rfl; (with_reducible repeat (first | refine blk_drewN ?_ _ | refine blk_drew ?_ | refine blk_alloc ?_ _)); refine blk_put (cs := #[.int .i64 6, .int .i64 0, .int .i64 0, .int .i64 0, .int .i64 0, .slice none 0 0]) ?_ 1 _ rfl; (with_reducible repeat (first | refine blk_drewN ?_ _ | refine blk_drew ?_ | refine blk_alloc ?_ _)); refine blk_put (cs := #[.int .i64 0, .int .i64 0, .int .i64 0, .int .i64 0, .int .i64 0, .slice none 0 0]) ?_ 0 _ rfl; (with_reducible repeat (first | refine blk_drewN ?_ _ | refine blk_drew ?_ | refine blk_alloc ?_ _)); refine blk_far ?_ NB170_200.out _; (with_reducible repeat (first | refine blk_drewN ?_ _ | refine blk_drew ?_ | refine blk_alloc ?_ _)); refine blk_far ?_ NB170_200.out _; (with_reducible repeat (first | refine blk_drewN ?_ _ | refine blk_drew ?_ | refine blk_alloc ?_ _)); exact BK170.out) Try.underlying24 rfl (by kernel_rfl)) rfl ?_
         exact ⟨_, by first | rfl | (simp [errW_none, errW_some] <;> rfl) | (simp only [← hji72, ← hji75, ← hji93]; first | rfl | (simp [errW_none, errW_some] <;> rfl)) | (simp [*, errW_none, errW_some] <;> rfl), by (with_reducible repeat (first | apply Kd.R_alloc | apply Kd.R_drewN | apply Kd.R_drew)); exact Kd.R_mono (Kd.R_far (p := ⟨gb170, 5, none⟩) (Kd.R_far (p := ⟨gb170, 4, none⟩) (Kd.R_far (p := ⟨gb170, 3, none⟩) (Kd.R_far (p := ⟨gb170, 2, none⟩) (Kd.R_far (p := ⟨gb170, 1, none⟩) (Kd.R_far (p := ⟨gb170, 0, none⟩) (Kd.R_far (p := ⟨gb200, 2, none⟩) (Kd.R_far (p := ⟨gb200, 0, none⟩) (Kd.R_types (Kd.R_types HO_201005.out BK200.out (by decide)) BK170.out (by decide)) (fun _ hk => hk.1.2) (.int .i64 6)) (fun _ hk => hk.1.2) (.int .i64 ji93)) (fun _ hk => hk.2) (.int .i64 6)) (fun _ hk => hk.2) (.int .i64 t193)) (fun _ hk => hk.2) (.int .i64 ji93)) (fun _ hk => hk.2) (.int .i64 t195)) (fun _ hk => hk.2) (.int .i64 t196)) (fun _ hk => hk.2) (.slice Ao63 t197.length co63)) (fun _ hk => trivial), kb4 HB.out GE169.out GE170.out GE183.out GE200.out⟩
       ·rw [if_neg c70] at H
        have c70b0 : (a2 == x201002_48) = false := beq_eq_false_iff_ne.mpr c70
        have c70b1 : (a2 != x201002_48) = true := bne_iff_ne.mpr c70
        replace H := Option.bind_eq_some_iff.mp H
        obtain ⟨⟨t201, t202, t203, t204, t205, t206⟩, A1050, H⟩ := H
        replace H : (some (t201, t202, t203, t204, t205, t206, (⟨#[]⟩ : ByteArray), 0)) = some (r1, r2, r3, r4, r5, r6, r7, r8) := H
        have A105 := Aside0.mk A1050
        clear A1050
        simp only [Option.some.injEq, Prod.mk.injEq] at H
        obtain ⟨rfl, rfl, rfl, rfl, rfl, rfl, rfl, rfl⟩ := H
        have hnb106 := NB200_169.out
        have hnc106 := NB169_200.out
        have hnb107 := NB200_170.out
        have hnc107 := NB170_200.out
        have hnb108 := NB200_183.out
        have hnc108 := NB183_200.out
        obtain ⟨hcz109_0, hcz109_1, hcz109_2, hcz109_3, hcz109_4, hcz109_5⟩ := kc6 BK200.out
        obtain ⟨hfz109_0, hfz109_1, hfz109_2, hfz109_3, hfz109_4, hfz109_5⟩ := kf6 BK200.out
        go_wp2_with (first | ((with_reducible refine gate_callee (f := 26) rfl ?_); refine goesL_ (some 63) rfl rfl Try.func26 (by kernel_rfl) rfl #[.int .i64 4] rfl ka ?_; (with_reducible refine (device_Failed.calls 4 t201 t202 t203 t204 t205 t206 _ A105.out).mono ?_); rintro e w110 ⟨v207, rfl, ho0, hb⟩; refine ⟨_, rfl, ?_⟩; have n0_ := Aside0.mk (Kd.R_elder' (kR HO_201005.out) (Kd.R_base ho0) hb); have n1_ := Aside0.mk (Kd.R_lower (Kd.R_new' ho0 (Kd.R_lt (kR HO_201005.out))) (below_size (kb4 HB.out GE169.out GE170.out GE183.out GE200.out))); have n2_ := Aside0.mk (kL BK169.out hb); have n3_ := Aside0.mk (kL BK170.out hb); have n4_ := Aside0.mk (kL BK183.out hb); have n5_ := Aside0.mk (kL BK200.out hb); have n6_ := Aside0.mk (below_step (kb4 HB.out GE169.out GE170.out GE183.out GE200.out) hb); clear HO_201005; clear BK169; clear BK170; clear BK183; clear BK200; clear HB; have HO_201005 := n0_; have HO208 := n1_; have BK169 := n2_; have BK170 := n3_; have BK183 := n4_; have BK200 := n5_; have HB := n6_; clear n0_ n1_ n2_ n3_ n4_ n5_ n6_; (try clear hb); (try clear hb2); (try clear hk); (try clear hi); (try clear ho0); have hnb111 := NB170_169.out; have hnc111 := NB169_170.out; have hnb112 := NB170_183.out; have hnc112 := NB183_170.out; obtain ⟨hcz113_0, hcz113_1, hcz113_2, hcz113_3, hcz113_4, hcz113_5⟩ := kc6 BK170.out; obtain ⟨hfz113_0, hfz113_1, hfz113_2, hfz113_3, hfz113_4, hfz113_5⟩ := kf6 BK170.out; obtain ⟨Ao114, co114, eo114⟩ := Kd.R_slice HO208.out; subst eo114))
        refine bodyPost_ret (results_ctt rfl _ _ gb170 24 #[.int .i64 t201, .int .i64 t202, .int .i64 t203, .int .i64 t204, .int .i64 t205, .slice Ao114 t206.length co114] (0, 0) _ rfl (kP6 BK170.out) Try.underlying24 rfl (by kernel_rfl)) rfl ?_
        exact ⟨_, by first | rfl | (simp [errW_none, errW_some] <;> rfl) | (simp [*, errW_none, errW_some] <;> rfl), by (with_reducible repeat (first | apply Kd.R_alloc | apply Kd.R_drewN | apply Kd.R_drew)); exact Kd.R_mono (Kd.R_far (p := ⟨gb170, 5, none⟩) (Kd.R_far (p := ⟨gb170, 4, none⟩) (Kd.R_far (p := ⟨gb170, 3, none⟩) (Kd.R_far (p := ⟨gb170, 2, none⟩) (Kd.R_far (p := ⟨gb170, 1, none⟩) (Kd.R_far (p := ⟨gb170, 0, none⟩) (Kd.R_types HO208.out BK170.out (by decide)) (fun _ hk => hk.2) (.int .i64 t201)) (fun _ hk => hk.2) (.int .i64 t202)) (fun _ hk => hk.2) (.int .i64 t203)) (fun _ hk => hk.2) (.int .i64 t204)) (fun _ hk => hk.2) (.int .i64 t205)) (fun _ hk => hk.2) (.slice Ao114 t206.length co114)) (fun _ hk => trivial), kb4 HB.out GE169.out GE170.out GE183.out GE200.out⟩
    ·rw [if_neg c47] at H
     have c47b0 : (t182 == 0) = false := beq_eq_false_iff_ne.mpr c47
     have c47b1 : (t182 != 0) = true := bne_iff_ne.mpr c47
     replace H := Option.bind_eq_some_iff.mp H
     obtain ⟨⟨t184, t185, t186, t187, t188, t189⟩, A1150, H⟩ := H
     replace H : (some (t184, t185, t186, t187, t188, t189, (⟨#[]⟩ : ByteArray), 0)) = some (r1, r2, r3, r4, r5, r6, r7, r8) := H
     have A115 := Aside0.mk A1150
     clear A1150
     simp only [Option.some.injEq, Prod.mk.injEq] at H
     obtain ⟨rfl, rfl, rfl, rfl, rfl, rfl, rfl, rfl⟩ := H
     go_wp2_with (first | ((with_reducible refine gate_callee (f := 25) rfl ?_); refine goesL_ (some 47) rfl rfl Try.func25 (by kernel_rfl) rfl #[.string a0] rfl ka ?_; (with_reducible refine (choose_Active.calls a0 t177 t178 t179 t180 t181 t182 _ A46.out).mono ?_); rintro e w116 ⟨rfl, hb⟩; refine ⟨_, rfl, ?_⟩; have n0_ := Aside0.mk (kL BK169.out hb); have n1_ := Aside0.mk (kL BK170.out hb); have n2_ := Aside0.mk (below_step (kb2 HB.out GE169.out GE170.out) hb); clear BK169; clear BK170; clear HB; have BK169 := n0_; have BK170 := n1_; have HB := n2_; clear n0_ n1_ n2_; (try clear hb); (try clear hb2); (try clear hk); (try clear hi)) | ((with_reducible refine gate_dst (N := 11) rfl ?_); refine box_event ?hg (N := 11) ?hd (cs := #[.int .i64 0, .int .i64 0, .int .i64 0, .int .i64 0, .int .i64 0]) (t := 43) ?hr ?_; (case hd => rfl); (case hg => rfl); (case hr => first | (go_simp; done) | (go_simp; rfl)); intro gb183 hg w117 hbox hb; have n0_ := Aside0.mk (kL BK169.out hb); have n1_ := Aside0.mk (kL BK170.out hb); have n2_ := Aside0.mk (below_step (kb2 HB.out GE169.out GE170.out) hb); have n3_ := Aside0.mk (hbox); have n4_ := Aside0.mk ((kz hg (below_size (kb2 HB.out GE169.out GE170.out)) : w.heap.size ≤ gb183)); have n5_ := Aside0.mk ((kz hg (below_size (kb2 HB.out GE169.out GE170.out)) : w.heap.size ≤ gb183)); have n6_ := Aside0.mk ((kN hg BK169.out : gb169 ≠ gb183)); have n7_ := Aside0.mk (((kN hg BK169.out).symm : gb183 ≠ gb169)); have n8_ := Aside0.mk ((kN hg BK170.out : gb170 ≠ gb183)); have n9_ := Aside0.mk (((kN hg BK170.out).symm : gb183 ≠ gb170)); clear BK169; clear BK170; clear HB; have BK169 := n0_; have BK170 := n1_; have HB := n2_; have BK183 := n3_; have GW183 := n4_; have GE183 := n5_; have NB169_183 := n6_; have NB183_169 := n7_; have NB170_183 := n8_; have NB183_170 := n9_; clear n0_ n1_ n2_ n3_ n4_ n5_ n6_ n7_ n8_ n9_; clear hb hbox hg; have hnb118 := NB183_169.out; have hnc118 := NB169_183.out; have hnb119 := NB183_170.out; have hnc119 := NB170_183.out; obtain ⟨hcz120_0, hcz120_1, hcz120_2, hcz120_3, hcz120_4⟩ := kc5 BK183.out; obtain ⟨hfz120_0, hfz120_1, hfz120_2, hfz120_3, hfz120_4⟩ := kf5 BK183.out) | ((with_reducible refine gate_callee (f := 26) rfl ?_); refine goesL_ (some 52) rfl rfl Try.func26 (by kernel_rfl) rfl #[.int .i64 2] rfl ka ?_; (with_reducible refine (device_Failed.calls 2 t184 t185 t186 t187 t188 t189 _ A115.out).mono ?_); rintro e w121 ⟨v190, rfl, ho0, hb⟩; refine ⟨_, rfl, ?_⟩; have n0_ := Aside0.mk (Kd.R_lower ho0 (below_size (kb3 HB.out GE169.out GE170.out GE183.out))); have n1_ := Aside0.mk (blk_below (g := gb169) (o := .cells #[.int .i64 a1_0, .int .i64 a1_1, .int .i64 a1_2, .int .i64 a1_3, .int .i64 a1_4, .slice A1_5 l1_5.length c1_5] 24 (0, 0)) (kFa5 BK169.out NB169_183.out) hb); have n2_ := Aside0.mk (blk_below (g := gb170) (o := .cells #[.int .i64 0, .int .i64 0, .int .i64 0, .int .i64 0, .int .i64 0, .slice none 0 0] 24 (0, 0)) (kFa5 BK170.out NB170_183.out) hb); have n3_ := Aside0.mk (blk_below (g := gb183) (o := .cells #[.int .i64 t177, .int .i64 t178, .int .i64 t179, .int .i64 t180, .int .i64 t181] 43 (0, 0)) (kP5 BK183.out) hb); have n4_ := Aside0.mk (below_step (kb3 HB.out GE169.out GE170.out GE183.out) hb); clear BK169; clear BK170; clear BK183; clear HB; have HO191 := n0_; have BK169 := n1_; have BK170 := n2_; have BK183 := n3_; have HB := n4_; clear n0_ n1_ n2_ n3_ n4_; (try clear hb); (try clear hb2); (try clear hk); (try clear hi); (try clear ho0); have hnb122 := NB170_169.out; have hnc122 := NB169_170.out; obtain ⟨hcz123_0, hcz123_1, hcz123_2, hcz123_3, hcz123_4, hcz123_5⟩ := kc6 BK170.out; obtain ⟨hfz123_0, hfz123_1, hfz123_2, hfz123_3, hfz123_4, hfz123_5⟩ := kf6 BK170.out; obtain ⟨Ao124, co124, eo124⟩ := Kd.R_slice HO191.out; subst eo124))
     refine bodyPost_ret (results_ctt rfl _ _ gb170 24 #[.int .i64 t184, .int .i64 t185, .int .i64 t186, .int .i64 t187, .int .i64 t188, .slice Ao124 t189.length co124] (0, 0) _ rfl (kP6 BK170.out) Try.underlying24 rfl (by kernel_rfl)) rfl ?_
     exact ⟨_, by first | rfl | (simp [errW_none, errW_some] <;> rfl) | (simp [*, errW_none, errW_some] <;> rfl), by (with_reducible repeat (first | apply Kd.R_alloc | apply Kd.R_drewN | apply Kd.R_drew)); exact Kd.R_mono (Kd.R_far (p := ⟨gb170, 5, none⟩) (Kd.R_far (p := ⟨gb170, 4, none⟩) (Kd.R_far (p := ⟨gb170, 3, none⟩) (Kd.R_far (p := ⟨gb170, 2, none⟩) (Kd.R_far (p := ⟨gb170, 1, none⟩) (Kd.R_far (p := ⟨gb170, 0, none⟩) (Kd.R_types HO191.out BK170.out (by decide)) (fun _ hk => hk.2) (.int .i64 t184)) (fun _ hk => hk.2) (.int .i64 t185)) (fun _ hk => hk.2) (.int .i64 t186)) (fun _ hk => hk.2) (.int .i64 t187)) (fun _ hk => hk.2) (.int .i64 t188)) (fun _ hk => hk.2) (.slice Ao124 t189.length co124)) (fun _ hk => trivial), kb3 HB.out GE169.out GE170.out GE183.out⟩

/-! ### skiffref1_FlashMay: function 43 -/
def skiffref1_FlashMay.f (a0 : ByteArray) : Option (Bool) := some ((a0.size : Int) == 768)
set_option maxHeartbeats 8000000 in
set_option maxRecDepth 100000 in
theorem skiffref1_FlashMay.calls (a0 : ByteArray) (r : Bool) (w : World) (h : skiffref1_FlashMay.f a0 = some r) :
  Calls Try.prog 43 #[.string a0] w fun e w' => e = .returned (.bool r) ∧ Drawn0 w w' := by
 have H : (some ((a0.size : Int) == 768)) = some r := h
 clear h
 obtain rfl := Option.some.inj H
 go_enter Try.func43, Try.ntmps43
 go_wp2
 go_ret
 exact ⟨by first | rfl | (simp; done) | (simp [*]; done), by repeat (first | exact Drawn0.refl _ | apply Drawn0.step)⟩

/-! ### skiffref1_GetEntry: function 68 -/
def skiffref1_GetEntry.f (a0 : ByteArray) : Option (Int × Int × Int × Int × Int) := some (Skiff.getTup (Skiff.bl a0))
theorem skiffref1_GetEntry.calls (a0 : ByteArray) (r1 : Int) (r2 : Int) (r3 : Int) (r4 : Int) (r5 : Int) (w : World) (h : skiffref1_GetEntry.f a0 = some (r1, r2, r3, r4, r5)) :
  Calls Try.prog 68 #[.string a0] w fun e w' => e = .returned (.tuple #[.agg #[.int .i64 r1, .int .i64 r2, .int .i64 r3, .int .i64 r4], .int .i64 r5]) ∧ Below w.heap.size w w' :=
 Go.Proofs.Ytmidohjfajbpmaa.g_skiffref1_GetEntry a0 r1 r2 r3 r4 r5 w h

/-! ### skiffref1_Scan: function 41 -/
mutual
def skiffref1_Scan.l0 : Nat → ByteArray → List (S43) → Int → Option ((List (S43)) × Int)
 | 0, _, _, _ => none
 | k + 1, x0, x4, x5 => if x5 < 2 then (skiffref1_Scan.l1 k x0 x4 x5 (wrap64 (x5 * 96))) else (some (x4, 0))
def skiffref1_Scan.l1 : Nat → ByteArray → List (S43) → Int → Int → Option ((List (S43)) × Int)
 | 0, _, _, _, _ => none
 | k + 1, x0, x4, x5, x6 => if (wrap64 (x6 + 24)) ≤ (wrap64 ((wrap64 (x5 + 1)) * 96)) then (if 0 ≤ x6 then (if x6 ≤ (wrap64 (x6 + 24)) then (if (wrap64 (x6 + 24)) ≤ (x0.size : Int) then ((skiffref1_GetEntry.f (x0.extract (x6 : Int).toNat ((wrap64 (x6 + 24)) : Int).toNat)).bind fun bt220 => (if bt220.2.2.2.2 = 0 then (if x4.length < 3518437208883 then (skiffref1_Scan.l1 k x0 (x4 ++ [(⟨x6, (⟨bt220.1, bt220.2.1, bt220.2.2.1, bt220.2.2.2.1⟩ : S41)⟩ : S43)]) x5 (wrap64 (x6 + 24))) else (none)) else (skiffref1_Scan.l1 k x0 x4 x5 (wrap64 (x6 + 24))))) else (none)) else (none)) else (none)) else (skiffref1_Scan.l0 k x0 x4 (wrap64 (x5 + 1)))
end
def skiffref1_Scan.f (k : Nat) (a0 : ByteArray) : Option ((List (S43)) × Int) := (skiffref1_FlashMay.f a0).bind fun t219 => (if t219 = true then (skiffref1_Scan.l0 k a0 ([] : List (S43)) 0) else (some (([] : List (S43)), 500)))
theorem skiffref1_Scan.mono_l : ∀ k, (∀ y0 y1 y2, LeO (skiffref1_Scan.l0 k y0 y1 y2) (skiffref1_Scan.l0 (k + 1) y0 y1 y2)) ∧ (∀ y0 y1 y2 y3, LeO (skiffref1_Scan.l1 k y0 y1 y2 y3) (skiffref1_Scan.l1 (k + 1) y0 y1 y2 y3))
 | 0 => ⟨fun _ _ _ r h => by simp [skiffref1_Scan.l0] at h, fun _ _ _ _ r h => by simp [skiffref1_Scan.l1] at h⟩
 | k + 1 => by
  obtain ⟨ih0, ih1⟩ := skiffref1_Scan.mono_l k
  refine ⟨?_, ?_⟩
  ·intro y0 y1 y2
   unfold skiffref1_Scan.l0
   repeat' first
   | (with_reducible exact ih0 _ _ _)
   | (with_reducible exact ih1 _ _ _ _)
   | (with_reducible exact LeO.refl _)
   | (with_reducible exact LeO.none _)
   | (with_reducible refine LeO.ite ?_ ?_)
   | (with_reducible refine LeO.bind ?_ (fun _ => ?_))
   | exact ih0 _ _ _
   | exact ih1 _ _ _ _
   | exact LeO.none _
   | refine LeO.ite ?_ ?_
   | refine LeO.bind ?_ (fun _ => ?_)
  ·intro y0 y1 y2 y3
   unfold skiffref1_Scan.l1
   repeat' first
   | (with_reducible exact ih0 _ _ _)
   | (with_reducible exact ih1 _ _ _ _)
   | (with_reducible exact LeO.refl _)
   | (with_reducible exact LeO.none _)
   | (with_reducible refine LeO.ite ?_ ?_)
   | (with_reducible refine LeO.bind ?_ (fun _ => ?_))
   | exact ih0 _ _ _
   | exact ih1 _ _ _ _
   | exact LeO.none _
   | refine LeO.ite ?_ ?_
   | refine LeO.bind ?_ (fun _ => ?_)
theorem skiffref1_Scan.mono : ∀ a0 k, LeO (skiffref1_Scan.f k a0) (skiffref1_Scan.f (k + 1) a0) := by
 intro a0 k
 obtain ⟨ih0, ih1⟩ := skiffref1_Scan.mono_l k
 unfold skiffref1_Scan.f
 repeat' first
   | (with_reducible exact ih0 _ _ _)
   | (with_reducible exact ih1 _ _ _ _)
   | (with_reducible exact LeO.refl _)
   | (with_reducible exact LeO.none _)
   | (with_reducible refine LeO.ite ?_ ?_)
   | (with_reducible refine LeO.bind ?_ (fun _ => ?_))
   | exact ih0 _ _ _
   | exact ih1 _ _ _ _
   | exact LeO.none _
   | refine LeO.ite ?_ ?_
   | refine LeO.bind ?_ (fun _ => ?_)
set_option maxHeartbeats 8000000 in
set_option maxRecDepth 100000 in
theorem skiffref1_Scan.calls (k : Nat) (a0 : ByteArray) (r1 : List (S43)) (r2 : Int) (w : World) (h : skiffref1_Scan.f k a0 = some (r1, r2)) :
  Calls Try.prog 41 #[.string a0] w fun e w' => ∃ v0_ : Value, e = .returned (.tuple #[v0_, .int .i64 r2]) ∧ Kd.R k43 43 w' w.heap.size (fun _ => True) v0_ r1 ∧ Below w.heap.size w w' := by
 have hu41 := Try.underlying41
 have hu43 := Try.underlying43
 have HB := Aside0.mk (Below.refl w.heap.size w)
 have H : ((skiffref1_FlashMay.f a0).bind fun t219 => (if t219 = true then (skiffref1_Scan.l0 k a0 ([] : List (S43)) 0) else (some (([] : List (S43)), 500)))) = some (r1, r2) := h
 clear h
 replace H := Option.bind_eq_some_iff.mp H
 obtain ⟨t219, A20, H⟩ := H
 replace H : (if t219 = true then (skiffref1_Scan.l0 k a0 ([] : List (S43)) 0) else (some (([] : List (S43)), 500))) = some (r1, r2) := H
 have A2 := Aside0.mk A20
 clear A20
 by_cases c3 : t219 = true
 ·subst c3
  have H1 : (skiffref1_Scan.l0 k a0 ([] : List (S43)) 0) = some (r1, r2) := by rw [if_pos rfl] at H; exact H
  clear H; have H := H1; clear H1
  have H' := Aside0.mk H
  clear H
  go_enter Try.func41, Try.ntmps41
  go_wp2_with (first | ((with_reducible refine gate_callee (f := 43) rfl ?_); refine goesL_ (some 10) rfl rfl Try.func43 (by kernel_rfl) rfl #[.string a0] rfl ka ?_; (with_reducible refine (skiffref1_FlashMay.calls a0 true _ A2.out).mono ?_); rintro e w' ⟨rfl, ⟨nd, rfl⟩⟩; refine ⟨_, rfl, ?_⟩))
  go_loopg [4, 5] k (fun kq v4 v5 w' => ∃ (x4_1 : List (S43)) (x5_1 : Int), v5 = .int .i64 x5_1 ∧ Aside0 (skiffref1_Scan.l0 kq a0 x4_1 x5_1 = some (r1, r2)) ∧ Aside0 (kq ≤ k) ∧ Aside0 (Kd.R k43 43 w' w.heap.size (fun _ => True) v4 x4_1) ∧ Aside0 (Below w.heap.size w w'))
  case atStart => exact ⟨(([] : List (S43))), (0), (by first | rfl | (simp; done) | (simp [*]; done)), H', ⟨Nat.le_refl _⟩, ⟨by first | exact Kd.R_nil _ _ _ _ _ | exact Kd.N_nil _ _ _ _ _ | exact Kd.V_nil _ _ _ _ _ | exact Kd.Q_nil _ _ _ _ _ | exact Kd.S_nil _ _ _ _ _⟩, ⟨kb HB.out⟩⟩
  case round =>
   clear H'
   try clear p2; try clear c3
   obtain ⟨x4_1, x5_1, rfl, HA, HK1, HO_4, HB⟩ := hrel
   cases gk with
   | zero => exact absurd HA.out (by simp [skiffref1_Scan.l0])
   | succ k1 =>
    have H := HA.out
    clear HA
    simp only [skiffref1_Scan.l0] at H
    by_cases c4 : x5_1 < 2
    case neg =>
     rw [if_neg c4] at H
     have c4b0 : decide (x5_1 < 2) = false := decide_eq_false c4
     clear c4
     simp only [Option.some.injEq, Prod.mk.injEq] at H
     obtain ⟨rfl, rfl⟩ := H
     go_wp2
     go_ret2
     exact ⟨_, by first | rfl | (simp [errW_none, errW_some] <;> rfl) | (simp [*, errW_none, errW_some] <;> rfl), kR HO_4.out, kb HB.out⟩
    rw [if_pos c4] at H
    have c4b0 : decide (x5_1 < 2) = true := decide_eq_true c4
    clear c4
    have H' := Aside0.mk H
    clear H
    go_wp2
    go_loopg [4, 6] k1 (fun kq v4 v6 w' => ∃ (x4_2 : List (S43)) (x6_2 : Int), v6 = .int .i64 x6_2 ∧ Aside0 (skiffref1_Scan.l1 kq a0 x4_2 x5_1 x6_2 = some (r1, r2)) ∧ Aside0 (kq ≤ k1) ∧ Aside0 (Kd.R k43 43 w' w.heap.size (fun _ => True) v4 x4_2) ∧ Aside0 (Below w.heap.size w w'))
    case atStart => exact ⟨(x4_1), (wrap64 (x5_1 * 96)), (by first | rfl | (simp; done) | (simp [*]; done)), H', ⟨Nat.le_refl _⟩, ⟨kR HO_4.out⟩, ⟨kb HB.out⟩⟩
    case round =>
     clear H'
     try clear p2; try clear c3; try clear c4; try clear c4b0; try clear p2
     obtain ⟨x4_2, x6_2, rfl, HA, HK2, HO_4, HB⟩ := hrel
     cases gk with
     | zero => exact absurd HA.out (by simp [skiffref1_Scan.l1])
     | succ k2 =>
      have H := HA.out
      clear HA
      simp only [skiffref1_Scan.l1] at H
      by_cases c5 : (wrap64 (x6_2 + 24)) ≤ (wrap64 ((wrap64 (x5_1 + 1)) * 96))
      case neg =>
       rw [if_neg c5] at H
       have c5b0 : decide ((wrap64 (x6_2 + 24)) ≤ (wrap64 ((wrap64 (x5_1 + 1)) * 96))) = false := decide_eq_false c5
       clear c5
       have H' := Aside0.mk H
       clear H
       go_wp2
       go_roundg k2
       case measure => have := HK1.out; have := HK2.out; omega
       case rel => exact ⟨(x4_2), (wrap64 (x5_1 + 1)), (by first | rfl | (simp; done) | (simp [*]; done)), H', ⟨by have := HK1.out; have := HK2.out; omega⟩, ⟨kR HO_4.out⟩, ⟨kb HB.out⟩⟩
      rw [if_pos c5] at H
      have c5b0 : decide ((wrap64 (x6_2 + 24)) ≤ (wrap64 ((wrap64 (x5_1 + 1)) * 96))) = true := decide_eq_true c5
      clear c5
      by_cases c6 : 0 ≤ x6_2
      case neg =>
       rw [if_neg c6] at H
       exact absurd H (by simp)
      rw [if_pos c6] at H
      have c6b0 := eq_true c6
      have c6b1 : decide (0 ≤ x6_2) = true := decide_eq_true c6
      clear c6
      by_cases c7 : x6_2 ≤ (wrap64 (x6_2 + 24))
      case neg =>
       rw [if_neg c7] at H
       exact absurd H (by simp)
      rw [if_pos c7] at H
      have c7b0 := eq_true c7
      have c7b1 : decide (x6_2 ≤ (wrap64 (x6_2 + 24))) = true := decide_eq_true c7
      by_cases c8 : (wrap64 (x6_2 + 24)) ≤ (a0.size : Int)
      case neg =>
       rw [if_neg c8] at H
       exact absurd H (by simp)
      rw [if_pos c8] at H
      have c8b0 := eq_true c8
      have c8b1 : decide ((wrap64 (x6_2 + 24)) ≤ (a0.size : Int)) = true := decide_eq_true c8
      replace H := Option.bind_eq_some_iff.mp H
      obtain ⟨⟨t220, t221, t222, t223, t224⟩, A90, H⟩ := H
      replace H : (if t224 = 0 then (if x4_2.length < 3518437208883 then (skiffref1_Scan.l1 k2 a0 (x4_2 ++ [(⟨x6_2, (⟨t220, t221, t222, t223⟩ : S41)⟩ : S43)]) x5_1 (wrap64 (x6_2 + 24))) else (none)) else (skiffref1_Scan.l1 k2 a0 x4_2 x5_1 (wrap64 (x6_2 + 24)))) = some (r1, r2) := H
      have A9 := Aside0.mk A90
      clear A90
      by_cases c10 : t224 = 0
      case neg =>
       rw [if_neg c10] at H
       have c10b0 : (t224 == 0) = false := beq_eq_false_iff_ne.mpr c10
       have c10b1 : (t224 != 0) = true := bne_iff_ne.mpr c10
       have H' := Aside0.mk H
       clear H
       go_wp2_with (first | ((with_reducible refine gate_callee (f := 68) rfl ?_); refine goesL_ (some 32) rfl rfl Try.func68 (by kernel_rfl) rfl #[.string (a0.extract (x6_2 : Int).toNat ((wrap64 (x6_2 + 24)) : Int).toNat)] rfl ka ?_; (with_reducible refine (skiffref1_GetEntry.calls (a0.extract (x6_2 : Int).toNat ((wrap64 (x6_2 + 24)) : Int).toNat) t220 t221 t222 t223 t224 _ A9.out).mono ?_); rintro e w16 ⟨rfl, hb⟩; refine ⟨_, rfl, ?_⟩; have n0_ := Aside0.mk (Kd.R_below (kR HO_4.out) hb); have n1_ := Aside0.mk (below_step (kb HB.out) hb); clear HO_4; clear HB; have HO_4 := n0_; have HB := n1_; clear n0_ n1_; (try clear hb); (try clear hb2); (try clear hk); (try clear hi)) | ((with_reducible refine gate_dst (N := 7) rfl ?_); refine box_event ?hg (N := 7) ?hd (cs := #[.int .i64 0, .int .i64 0, .int .i64 0, .int .i64 0]) (t := 41) ?hr ?_; (case hd => rfl); (case hg => rfl); (case hr => first | (go_simp; done) | (go_simp; rfl)); intro gb225 hg w17 hbox hb; have n0_ := Aside0.mk (Kd.R_below (kR HO_4.out) hb); have n1_ := Aside0.mk (below_step (kb HB.out) hb); have n2_ := Aside0.mk (hbox); have n3_ := Aside0.mk ((kz hg (below_size (kb HB.out)) : w.heap.size ≤ gb225)); have n4_ := Aside0.mk ((kz hg (below_size (kb HB.out)) : w.heap.size ≤ gb225)); clear HO_4; clear HB; have HO_4 := n0_; have HB := n1_; have BK225 := n2_; have GW225 := n3_; have GE225 := n4_; clear n0_ n1_ n2_ n3_ n4_; clear hb hbox hg; obtain ⟨hcz18_0, hcz18_1, hcz18_2, hcz18_3⟩ := kc4 BK225.out; obtain ⟨hfz18_0, hfz18_1, hfz18_2, hfz18_3⟩ := kf4 BK225.out))
       go_roundg k2
       case measure => have := HK1.out; have := HK2.out; omega
       case rel => exact ⟨(x4_2), (wrap64 (x6_2 + 24)), (by first | rfl | (simp; done) | (simp [*]; done)), H', ⟨by have := HK1.out; have := HK2.out; omega⟩, ⟨by (with_reducible repeat (first | apply Kd.R_alloc | apply Kd.R_drewN | apply Kd.R_drew)); exact Kd.R_mono (Kd.R_far (p := ⟨gb225, 3, none⟩) (Kd.R_far (p := ⟨gb225, 2, none⟩) (Kd.R_far (p := ⟨gb225, 1, none⟩) (Kd.R_far (p := ⟨gb225, 0, none⟩) (Kd.R_types HO_4.out BK225.out (by decide)) (fun _ hk => hk.2) (.int .i64 t220)) (fun _ hk => hk.2) (.int .i64 t221)) (fun _ hk => hk.2) (.int .i64 t222)) (fun _ hk => hk.2) (.int .i64 t223)) (fun _ hk => trivial)⟩, ⟨kb1 HB.out GE225.out⟩⟩
      rw [if_pos c10] at H
      have c10b0 : (t224 == 0) = true := beq_iff_eq.mpr c10
      have c10b1 : (t224 != 0) = false := bne_eq_false_iff_eq.mpr c10
      clear c10
      by_cases c11 : x4_2.length < 3518437208883
      case neg =>
       rw [if_neg c11] at H
       exact absurd H (by simp)
      rw [if_pos c11] at H
      have LMc11 := Aside0.mk c11
      clear c11
      obtain ⟨y226, hy226⟩ : ∃ y_ : List (S43), y_ = (x4_2 ++ [(⟨x6_2, (⟨t220, t221, t222, t223⟩ : S41)⟩ : S43)]) := ⟨_, rfl⟩
      replace H : (skiffref1_Scan.l1 k2 a0 y226 x5_1 (wrap64 (x6_2 + 24))) = some (r1, r2) := by first | (rw [hy226]; with_reducible exact H) | (have H2_ := (Option.bind_some _ _).symm.trans H; rw [hy226]; with_reducible exact H2_) | (have H2_ := (Option.bind_some _ _).symm.trans H; with_reducible exact H2_) | with_reducible exact H | (rw [hy226]; exact H) | exact H
      have Ny226 := Aside0.mk hy226
      clear hy226
      have H' := Aside0.mk H
      clear H
      go_wp2_with (first | ((with_reducible refine gate_callee (f := 68) rfl ?_); refine goesL_ (some 32) rfl rfl Try.func68 (by kernel_rfl) rfl #[.string (a0.extract (x6_2 : Int).toNat ((wrap64 (x6_2 + 24)) : Int).toNat)] rfl ka ?_; (with_reducible refine (skiffref1_GetEntry.calls (a0.extract (x6_2 : Int).toNat ((wrap64 (x6_2 + 24)) : Int).toNat) t220 t221 t222 t223 t224 _ A9.out).mono ?_); rintro e w12 ⟨rfl, hb⟩; refine ⟨_, rfl, ?_⟩; have n0_ := Aside0.mk (Kd.R_below (kR HO_4.out) hb); have n1_ := Aside0.mk (below_step (kb HB.out) hb); clear HO_4; clear HB; have HO_4 := n0_; have HB := n1_; clear n0_ n1_; (try clear hb); (try clear hb2); (try clear hk); (try clear hi)) | ((with_reducible refine gate_dst (N := 7) rfl ?_); refine box_event ?hg (N := 7) ?hd (cs := #[.int .i64 0, .int .i64 0, .int .i64 0, .int .i64 0]) (t := 41) ?hr ?_; (case hd => rfl); (case hg => rfl); (case hr => first | (go_simp; done) | (go_simp; rfl)); intro gb225 hg w13 hbox hb; have n0_ := Aside0.mk (Kd.R_below (kR HO_4.out) hb); have n1_ := Aside0.mk (below_step (kb HB.out) hb); have n2_ := Aside0.mk (hbox); have n3_ := Aside0.mk ((kz hg (below_size (kb HB.out)) : w.heap.size ≤ gb225)); have n4_ := Aside0.mk ((kz hg (below_size (kb HB.out)) : w.heap.size ≤ gb225)); clear HO_4; clear HB; have HO_4 := n0_; have HB := n1_; have BK225 := n2_; have GW225 := n3_; have GE225 := n4_; clear n0_ n1_ n2_ n3_ n4_; clear hb hbox hg; obtain ⟨hcz14_0, hcz14_1, hcz14_2, hcz14_3⟩ := kc4 BK225.out; obtain ⟨hfz14_0, hfz14_1, hfz14_2, hfz14_3⟩ := kf4 BK225.out) | ((with_reducible refine gate_builtin (b := .append) (xs := #[.tmp 37, .tmp 41]) rfl ?_); at_builtin; refine Kd.R_append k43 (w0 := w) w.heap.size rfl (.tmp 37) (.tmp 41) 72 43 (.agg #[(.int .i64 0), (.int .i64 0), (.int .i64 0), (.int .i64 0), (.int .i64 0)]) 40 rfl Try.underlying72 info43 rfl (by decide) (by omega) u4 x4_2 (⟨x6_2, (⟨t220, t221, t222, t223⟩ : S41)⟩ : S43) [.int .i64 x6_2, .int .i64 t220, .int .i64 t221, .int .i64 t222, .int .i64 t223] (fun _ => True) (fun _ => False) rfl (by first | (go_simp; done) | (go_simp; rfl)) ?aP (fun _ hk => hk.elim) ?aF ?aO ?aB ?aS ?aL ?_; (case aP => exact k43_mkM _ _ _ (⟨x6_2, (⟨t220, t221, t222, t223⟩ : S41)⟩ : S43)); (case aB => exact (kb1 HB.out GE225.out)); (case aF => exact (fun _ _ => trivial)); (case aO => exact (by (with_reducible repeat (first | apply Kd.R_alloc | apply Kd.R_drewN | apply Kd.R_drew)); exact Kd.R_mono (Kd.R_far (p := ⟨gb225, 3, none⟩) (Kd.R_far (p := ⟨gb225, 2, none⟩) (Kd.R_far (p := ⟨gb225, 1, none⟩) (Kd.R_far (p := ⟨gb225, 0, none⟩) (Kd.R_types HO_4.out BK225.out (by decide)) (fun _ hk => hk.2) (.int .i64 t220)) (fun _ hk => hk.2) (.int .i64 t221)) (fun _ hk => hk.2) (.int .i64 t222)) (fun _ hk => hk.2) (.int .i64 t223)) (fun _ hk => trivial))); (case aS => exact (below_size (kb1 HB.out GE225.out))); (case aL => have := LMc11.out; omega); intro v227 w15 ho hb hg hat; rw [← Ny226.out] at ho; have n0_ := Aside0.mk (blk_grown (g := gb225) (o := .cells #[.int .i64 t220, .int .i64 t221, .int .i64 t222, .int .i64 t223] 41 (0, 0)) (kP4 BK225.out) hg (Kd.R_ne HO_4.out BK225.out (by decide))); have n1_ := Aside0.mk (hb); have n2_ := Aside0.mk (ho); clear BK225; clear HB; clear HO_4; have BK225 := n0_; have HB := n1_; have HO228 := n2_; clear n0_ n1_ n2_; clear ho hb hg hat))
      go_roundg k2
      case measure => have := HK1.out; have := HK2.out; omega
      case rel => exact ⟨(y226), (wrap64 (x6_2 + 24)), (by first | rfl | (simp; done) | (simp [*]; done)), H', ⟨by have := HK1.out; have := HK2.out; omega⟩, ⟨kR HO228.out⟩, ⟨kb1 HB.out GE225.out⟩⟩
 ·replace c3 := Bool.eq_false_iff.mpr c3
  subst c3
  have H1 : (some (([] : List (S43)), 500)) = some (r1, r2) := by rw [if_neg (show ¬ (false = true) by decide)] at H; exact H
  clear H; have H := H1; clear H1
  simp only [Option.some.injEq, Prod.mk.injEq] at H
  obtain ⟨rfl, rfl⟩ := H
  go_enter Try.func41, Try.ntmps41
  go_wp2_with (first | ((with_reducible refine gate_callee (f := 43) rfl ?_); refine goesL_ (some 10) rfl rfl Try.func43 (by kernel_rfl) rfl #[.string a0] rfl ka ?_; (with_reducible refine (skiffref1_FlashMay.calls a0 false _ A2.out).mono ?_); rintro e w' ⟨rfl, ⟨nd, rfl⟩⟩; refine ⟨_, rfl, ?_⟩))
  go_ret2
  exact ⟨_, by first | rfl | (simp [errW_none, errW_some] <;> rfl) | (simp [*, errW_none, errW_some] <;> rfl), by first | exact Kd.R_nil _ _ _ _ _ | exact Kd.N_nil _ _ _ _ _ | exact Kd.V_nil _ _ _ _ _ | exact Kd.Q_nil _ _ _ _ _ | exact Kd.S_nil _ _ _ _ _, kb HB.out⟩

/-! ### skiffref1_upTo: function 45 -/
def skiffref1_upTo.f (a0 : Int) (a1 : Int) (a2 : Int) : Option (Bool) := if a0 ≥ a1 then (some (decide (a0 ≤ a2))) else (some false)
set_option maxHeartbeats 8000000 in
set_option maxRecDepth 100000 in
theorem skiffref1_upTo.calls (a0 : Int) (a1 : Int) (a2 : Int) (r : Bool) (w : World) (h : skiffref1_upTo.f a0 a1 a2 = some r) :
  Calls Try.prog 45 #[.int .i64 a0, .int .i64 a1, .int .i64 a2] w fun e w' => e = .returned (.bool r) ∧ Drawn0 w w' := by
 have H : (if a0 ≥ a1 then (some (decide (a0 ≤ a2))) else (some false)) = some r := h
 clear h
 by_cases c4 : a0 ≥ a1
 case neg =>
  rw [if_neg c4] at H
  have c4b0 : decide (a1 ≤ a0) = false := decide_eq_false c4
  clear c4
  obtain rfl := Option.some.inj H
  go_enter Try.func45, Try.ntmps45
  go_wp2
  go_ret
  exact ⟨by first | rfl | (simp; done) | (simp [*]; done), by repeat (first | exact Drawn0.refl _ | apply Drawn0.step)⟩
 rw [if_pos c4] at H
 have c4b0 : decide (a1 ≤ a0) = true := decide_eq_true c4
 clear c4
 obtain rfl := Option.some.inj H
 go_enter Try.func45, Try.ntmps45
 go_wp2
 go_ret
 exact ⟨by first | rfl | (simp; done) | (simp [*]; done), by repeat (first | exact Drawn0.refl _ | apply Drawn0.step)⟩

/-! ### skiffref1_Base: function 20 -/
def skiffref1_Base.f (a0 : Int) : Option (Int × Int) := (skiffref1_upTo.f a0 0 1).bind fun t229 => (if t229 = true then (some (wrap64 ((wrap64 (2 + (wrap64 (3 * a0)))) * 96), 0)) else (some (0, 600)))
set_option maxHeartbeats 8000000 in
set_option maxRecDepth 100000 in
theorem skiffref1_Base.calls (a0 : Int) (r1 : Int) (r2 : Int) (w : World) (h : skiffref1_Base.f a0 = some (r1, r2)) :
  Calls Try.prog 20 #[.int .i64 a0] w fun e w' => e = .returned (.tuple #[.int .i64 r1, .int .i64 r2]) ∧ Drawn0 w w' := by
 have H : ((skiffref1_upTo.f a0 0 1).bind fun t229 => (if t229 = true then (some (wrap64 ((wrap64 (2 + (wrap64 (3 * a0)))) * 96), 0)) else (some (0, 600)))) = some (r1, r2) := h
 clear h
 replace H := Option.bind_eq_some_iff.mp H
 obtain ⟨t229, A20, H⟩ := H
 replace H : (if t229 = true then (some (wrap64 ((wrap64 (2 + (wrap64 (3 * a0)))) * 96), 0)) else (some (0, 600))) = some (r1, r2) := H
 have A2 := Aside0.mk A20
 clear A20
 by_cases c3 : t229 = true
 ·subst c3
  have H1 : (some (wrap64 ((wrap64 (2 + (wrap64 (3 * a0)))) * 96), 0)) = some (r1, r2) := by rw [if_pos rfl] at H; exact H
  clear H; have H := H1; clear H1
  simp only [Option.some.injEq, Prod.mk.injEq] at H
  obtain ⟨rfl, rfl⟩ := H
  go_enter Try.func20, Try.ntmps20
  go_wp2_with (first | ((with_reducible refine gate_callee (f := 45) rfl ?_); refine goesL_ (some 5) rfl rfl Try.func45 (by kernel_rfl) rfl #[.int .i64 a0, .int .i64 0, .int .i64 1] rfl ka ?_; (with_reducible refine (skiffref1_upTo.calls a0 0 1 true _ A2.out).mono ?_); rintro e w' ⟨rfl, ⟨nd, rfl⟩⟩; refine ⟨_, rfl, ?_⟩))
  go_ret2
  exact ⟨by first | rfl | (simp; done) | (simp [*]; done), by repeat (first | exact Drawn0.refl _ | apply Drawn0.step)⟩
 ·replace c3 := Bool.eq_false_iff.mpr c3
  subst c3
  have H1 : (some (0, 600)) = some (r1, r2) := by rw [if_neg (show ¬ (false = true) by decide)] at H; exact H
  clear H; have H := H1; clear H1
  simp only [Option.some.injEq, Prod.mk.injEq] at H
  obtain ⟨rfl, rfl⟩ := H
  go_enter Try.func20, Try.ntmps20
  go_wp2_with (first | ((with_reducible refine gate_callee (f := 45) rfl ?_); refine goesL_ (some 5) rfl rfl Try.func45 (by kernel_rfl) rfl #[.int .i64 a0, .int .i64 0, .int .i64 1] rfl ka ?_; (with_reducible refine (skiffref1_upTo.calls a0 0 1 false _ A2.out).mono ?_); rintro e w' ⟨rfl, ⟨nd, rfl⟩⟩; refine ⟨_, rfl, ?_⟩))
  go_ret2
  exact ⟨by first | rfl | (simp; done) | (simp [*]; done), by repeat (first | exact Drawn0.refl _ | apply Drawn0.step)⟩

/-! ### skiffref1_RecordMay: function 44 -/
def skiffref1_RecordMay.f (a0_0 : Int) (a0_1 : Int) (a0_2 : Int) (a0_3 : Int) : Option (Bool) := some (Skiff.recMay ⟨a0_0, a0_1, a0_2, a0_3⟩)
theorem skiffref1_RecordMay.calls (a0_0 : Int) (a0_1 : Int) (a0_2 : Int) (a0_3 : Int) (r : Bool) (w : World) (h : skiffref1_RecordMay.f a0_0 a0_1 a0_2 a0_3 = some r) :
  Calls Try.prog 44 #[.agg #[.int .i64 a0_0, .int .i64 a0_1, .int .i64 a0_2, .int .i64 a0_3]] w fun e w' => e = .returned (.bool r) ∧ Below w.heap.size w w' :=
 Go.Proofs.Ytmidohjfajbpmaa.g_skiffref1_RecordMay a0_0 a0_1 a0_2 a0_3 r w h

/-! ### skiffref1_ImageOf: function 18 -/
def skiffref1_ImageOf.f (a0 : ByteArray) (a1_0 : Int) (a1_1 : Int) (a1_2 : Int) (a1_3 : Int) : Option (ByteArray × Int) := (skiffref1_FlashMay.f a0).bind fun t231 => (if t231 = true then ((skiffref1_RecordMay.f a1_0 a1_1 a1_2 a1_3).bind fun t232 => (if t232 = true then ((skiffref1_Base.f a1_1).bind fun bt233 => (if 0 ≤ bt233.1 then (if bt233.1 ≤ (wrap64 (bt233.1 + a1_2)) then (if (wrap64 (bt233.1 + a1_2)) ≤ (a0.size : Int) then (some (a0.extract (bt233.1 : Int).toNat ((wrap64 (bt233.1 + a1_2)) : Int).toNat, 0)) else (none)) else (none)) else (none))) else (some ((⟨#[]⟩ : ByteArray), 600)))) else (some ((⟨#[]⟩ : ByteArray), 600)))
set_option maxHeartbeats 8000000 in
set_option maxRecDepth 100000 in
theorem skiffref1_ImageOf.calls (a0 : ByteArray) (a1_0 : Int) (a1_1 : Int) (a1_2 : Int) (a1_3 : Int) (r1 : ByteArray) (r2 : Int) (w : World) (h : skiffref1_ImageOf.f a0 a1_0 a1_1 a1_2 a1_3 = some (r1, r2)) :
  Calls Try.prog 18 #[.string a0, .agg #[.int .i64 a1_0, .int .i64 a1_1, .int .i64 a1_2, .int .i64 a1_3]] w fun e w' => e = .returned (.tuple #[.string r1, .int .i64 r2]) ∧ Below w.heap.size w w' := by
 have hu41 := Try.underlying41
 have HB := Aside0.mk (Below.refl w.heap.size w)
 have H : ((skiffref1_FlashMay.f a0).bind fun t231 => (if t231 = true then ((skiffref1_RecordMay.f a1_0 a1_1 a1_2 a1_3).bind fun t232 => (if t232 = true then ((skiffref1_Base.f a1_1).bind fun bt233 => (if 0 ≤ bt233.1 then (if bt233.1 ≤ (wrap64 (bt233.1 + a1_2)) then (if (wrap64 (bt233.1 + a1_2)) ≤ (a0.size : Int) then (some (a0.extract (bt233.1 : Int).toNat ((wrap64 (bt233.1 + a1_2)) : Int).toNat, 0)) else (none)) else (none)) else (none))) else (some ((⟨#[]⟩ : ByteArray), 600)))) else (some ((⟨#[]⟩ : ByteArray), 600)))) = some (r1, r2) := h
 clear h
 replace H := Option.bind_eq_some_iff.mp H
 obtain ⟨t231, A30, H⟩ := H
 replace H : (if t231 = true then ((skiffref1_RecordMay.f a1_0 a1_1 a1_2 a1_3).bind fun t232 => (if t232 = true then ((skiffref1_Base.f a1_1).bind fun bt233 => (if 0 ≤ bt233.1 then (if bt233.1 ≤ (wrap64 (bt233.1 + a1_2)) then (if (wrap64 (bt233.1 + a1_2)) ≤ (a0.size : Int) then (some (a0.extract (bt233.1 : Int).toNat ((wrap64 (bt233.1 + a1_2)) : Int).toNat, 0)) else (none)) else (none)) else (none))) else (some ((⟨#[]⟩ : ByteArray), 600)))) else (some ((⟨#[]⟩ : ByteArray), 600))) = some (r1, r2) := H
 have A3 := Aside0.mk A30
 clear A30
 by_cases c4 : t231 = true
 ·subst c4
  have H1 : ((skiffref1_RecordMay.f a1_0 a1_1 a1_2 a1_3).bind fun t232 => (if t232 = true then ((skiffref1_Base.f a1_1).bind fun bt233 => (if 0 ≤ bt233.1 then (if bt233.1 ≤ (wrap64 (bt233.1 + a1_2)) then (if (wrap64 (bt233.1 + a1_2)) ≤ (a0.size : Int) then (some (a0.extract (bt233.1 : Int).toNat ((wrap64 (bt233.1 + a1_2)) : Int).toNat, 0)) else (none)) else (none)) else (none))) else (some ((⟨#[]⟩ : ByteArray), 600)))) = some (r1, r2) := by rw [if_pos rfl] at H; exact H
  clear H; have H := H1; clear H1
  replace H := Option.bind_eq_some_iff.mp H
  obtain ⟨t232, A50, H⟩ := H
  replace H : (if t232 = true then ((skiffref1_Base.f a1_1).bind fun bt233 => (if 0 ≤ bt233.1 then (if bt233.1 ≤ (wrap64 (bt233.1 + a1_2)) then (if (wrap64 (bt233.1 + a1_2)) ≤ (a0.size : Int) then (some (a0.extract (bt233.1 : Int).toNat ((wrap64 (bt233.1 + a1_2)) : Int).toNat, 0)) else (none)) else (none)) else (none))) else (some ((⟨#[]⟩ : ByteArray), 600))) = some (r1, r2) := H
  have A5 := Aside0.mk A50
  clear A50
  by_cases c6 : t232 = true
  ·subst c6
   have H1 : ((skiffref1_Base.f a1_1).bind fun bt233 => (if 0 ≤ bt233.1 then (if bt233.1 ≤ (wrap64 (bt233.1 + a1_2)) then (if (wrap64 (bt233.1 + a1_2)) ≤ (a0.size : Int) then (some (a0.extract (bt233.1 : Int).toNat ((wrap64 (bt233.1 + a1_2)) : Int).toNat, 0)) else (none)) else (none)) else (none))) = some (r1, r2) := by rw [if_pos rfl] at H; exact H
   clear H; have H := H1; clear H1
   replace H := Option.bind_eq_some_iff.mp H
   obtain ⟨⟨t233, t234⟩, A70, H⟩ := H
   replace H : (if 0 ≤ t233 then (if t233 ≤ (wrap64 (t233 + a1_2)) then (if (wrap64 (t233 + a1_2)) ≤ (a0.size : Int) then (some (a0.extract (t233 : Int).toNat ((wrap64 (t233 + a1_2)) : Int).toNat, 0)) else (none)) else (none)) else (none)) = some (r1, r2) := H
   have A7 := Aside0.mk A70
   clear A70
   by_cases c8 : 0 ≤ t233
   case neg =>
    rw [if_neg c8] at H
    exact absurd H (by simp)
   rw [if_pos c8] at H
   have c8b0 := eq_true c8
   have c8b1 : decide (0 ≤ t233) = true := decide_eq_true c8
   clear c8
   by_cases c9 : t233 ≤ (wrap64 (t233 + a1_2))
   case neg =>
    rw [if_neg c9] at H
    exact absurd H (by simp)
   rw [if_pos c9] at H
   have c9b0 := eq_true c9
   have c9b1 : decide (t233 ≤ (wrap64 (t233 + a1_2))) = true := decide_eq_true c9
   by_cases c10 : (wrap64 (t233 + a1_2)) ≤ (a0.size : Int)
   case neg =>
    rw [if_neg c10] at H
    exact absurd H (by simp)
   rw [if_pos c10] at H
   have c10b0 := eq_true c10
   have c10b1 : decide ((wrap64 (t233 + a1_2)) ≤ (a0.size : Int)) = true := decide_eq_true c10
   simp only [Option.some.injEq, Prod.mk.injEq] at H
   obtain ⟨rfl, rfl⟩ := H
   go_enter Try.func18, Try.ntmps18
   go_wp2_with (first | ((with_reducible refine gate_dst (N := 3) rfl ?_); refine box_event ?hg (N := 3) ?hd (cs := #[.int .i64 a1_0, .int .i64 a1_1, .int .i64 a1_2, .int .i64 a1_3]) (t := 41) ?hr ?_; (case hd => rfl); (case hg => rfl); (case hr => first | (go_simp; done) | (go_simp; rfl)); intro gb230 hg w11 hbox hb; have n0_ := Aside0.mk (below_step (kb HB.out) hb); have n1_ := Aside0.mk (hbox); have n2_ := Aside0.mk ((kz hg (below_size (kb HB.out)) : w.heap.size ≤ gb230)); have n3_ := Aside0.mk ((kz hg (below_size (kb HB.out)) : w.heap.size ≤ gb230)); clear HB; have HB := n0_; have BK230 := n1_; have GW230 := n2_; have GE230 := n3_; clear n0_ n1_ n2_ n3_; clear hb hbox hg) | ((with_reducible refine gate_callee (f := 43) rfl ?_); refine goesL_ (some 9) rfl rfl Try.func43 (by kernel_rfl) rfl #[.string a0] rfl ka ?_; (with_reducible refine (skiffref1_FlashMay.calls a0 true _ A3.out).mono ?_); rintro e w' ⟨rfl, ⟨nd, rfl⟩⟩; refine ⟨_, rfl, ?_⟩; obtain ⟨hcz12_0, hcz12_1, hcz12_2, hcz12_3⟩ := kc4 BK230.out; obtain ⟨hfz12_0, hfz12_1, hfz12_2, hfz12_3⟩ := kf4 BK230.out) | (go_at_call 44; (with_reducible refine (skiffref1_RecordMay.calls a1_0 a1_1 a1_2 a1_3 true _ A5.out).mono ?_); rintro e w13 ⟨rfl, hb⟩; have n0_ := Aside0.mk (kL BK230.out hb); have n1_ := Aside0.mk (below_step (kb1 HB.out GE230.out) hb); clear BK230; clear HB; have BK230 := n0_; have HB := n1_; clear n0_ n1_; (try clear hb); (try clear hb2); (try clear hk); (try clear hi); obtain ⟨hcz14_0, hcz14_1, hcz14_2, hcz14_3⟩ := kc4 BK230.out; obtain ⟨hfz14_0, hfz14_1, hfz14_2, hfz14_3⟩ := kf4 BK230.out) | ((with_reducible refine gate_callee (f := 20) rfl ?_); refine goesL_ (some 19) rfl rfl Try.func20 (by kernel_rfl) rfl #[.int .i64 a1_1] rfl ka ?_; (with_reducible refine (skiffref1_Base.calls a1_1 t233 t234 _ A7.out).mono ?_); rintro e w' ⟨rfl, ⟨nd, rfl⟩⟩; refine ⟨_, rfl, ?_⟩))
   go_ret2
   exact ⟨by first | rfl | (simp [errW_none, errW_some] <;> rfl) | (simp [*, errW_none, errW_some] <;> rfl), kb1 HB.out GE230.out⟩
  ·replace c6 := Bool.eq_false_iff.mpr c6
   subst c6
   have H1 : (some ((⟨#[]⟩ : ByteArray), 600)) = some (r1, r2) := by rw [if_neg (show ¬ (false = true) by decide)] at H; exact H
   clear H; have H := H1; clear H1
   simp only [Option.some.injEq, Prod.mk.injEq] at H
   obtain ⟨rfl, rfl⟩ := H
   go_enter Try.func18, Try.ntmps18
   go_wp2_with (first | ((with_reducible refine gate_dst (N := 3) rfl ?_); refine box_event ?hg (N := 3) ?hd (cs := #[.int .i64 a1_0, .int .i64 a1_1, .int .i64 a1_2, .int .i64 a1_3]) (t := 41) ?hr ?_; (case hd => rfl); (case hg => rfl); (case hr => first | (go_simp; done) | (go_simp; rfl)); intro gb230 hg w15 hbox hb; have n0_ := Aside0.mk (below_step (kb HB.out) hb); have n1_ := Aside0.mk (hbox); have n2_ := Aside0.mk ((kz hg (below_size (kb HB.out)) : w.heap.size ≤ gb230)); have n3_ := Aside0.mk ((kz hg (below_size (kb HB.out)) : w.heap.size ≤ gb230)); clear HB; have HB := n0_; have BK230 := n1_; have GW230 := n2_; have GE230 := n3_; clear n0_ n1_ n2_ n3_; clear hb hbox hg) | ((with_reducible refine gate_callee (f := 43) rfl ?_); refine goesL_ (some 9) rfl rfl Try.func43 (by kernel_rfl) rfl #[.string a0] rfl ka ?_; (with_reducible refine (skiffref1_FlashMay.calls a0 true _ A3.out).mono ?_); rintro e w' ⟨rfl, ⟨nd, rfl⟩⟩; refine ⟨_, rfl, ?_⟩; obtain ⟨hcz16_0, hcz16_1, hcz16_2, hcz16_3⟩ := kc4 BK230.out; obtain ⟨hfz16_0, hfz16_1, hfz16_2, hfz16_3⟩ := kf4 BK230.out) | (go_at_call 44; (with_reducible refine (skiffref1_RecordMay.calls a1_0 a1_1 a1_2 a1_3 false _ A5.out).mono ?_); rintro e w17 ⟨rfl, hb⟩; have n0_ := Aside0.mk (kL BK230.out hb); have n1_ := Aside0.mk (below_step (kb1 HB.out GE230.out) hb); clear BK230; clear HB; have BK230 := n0_; have HB := n1_; clear n0_ n1_; (try clear hb); (try clear hb2); (try clear hk); (try clear hi)))
   go_ret2
   exact ⟨by first | rfl | (simp [errW_none, errW_some] <;> rfl) | (simp [*, errW_none, errW_some] <;> rfl), kb1 HB.out GE230.out⟩
 ·replace c4 := Bool.eq_false_iff.mpr c4
  subst c4
  have H1 : (some ((⟨#[]⟩ : ByteArray), 600)) = some (r1, r2) := by rw [if_neg (show ¬ (false = true) by decide)] at H; exact H
  clear H; have H := H1; clear H1
  simp only [Option.some.injEq, Prod.mk.injEq] at H
  obtain ⟨rfl, rfl⟩ := H
  go_enter Try.func18, Try.ntmps18
  go_wp2_with (first | ((with_reducible refine gate_dst (N := 3) rfl ?_); refine box_event ?hg (N := 3) ?hd (cs := #[.int .i64 a1_0, .int .i64 a1_1, .int .i64 a1_2, .int .i64 a1_3]) (t := 41) ?hr ?_; (case hd => rfl); (case hg => rfl); (case hr => first | (go_simp; done) | (go_simp; rfl)); intro gb230 hg w18 hbox hb; have n0_ := Aside0.mk (below_step (kb HB.out) hb); have n1_ := Aside0.mk (hbox); have n2_ := Aside0.mk ((kz hg (below_size (kb HB.out)) : w.heap.size ≤ gb230)); have n3_ := Aside0.mk ((kz hg (below_size (kb HB.out)) : w.heap.size ≤ gb230)); clear HB; have HB := n0_; have BK230 := n1_; have GW230 := n2_; have GE230 := n3_; clear n0_ n1_ n2_ n3_; clear hb hbox hg) | ((with_reducible refine gate_callee (f := 43) rfl ?_); refine goesL_ (some 9) rfl rfl Try.func43 (by kernel_rfl) rfl #[.string a0] rfl ka ?_; (with_reducible refine (skiffref1_FlashMay.calls a0 false _ A3.out).mono ?_); rintro e w' ⟨rfl, ⟨nd, rfl⟩⟩; refine ⟨_, rfl, ?_⟩))
  go_ret2
  exact ⟨by first | rfl | (simp [errW_none, errW_some] <;> rfl) | (simp [*, errW_none, errW_some] <;> rfl), kb1 HB.out GE230.out⟩

/-! ### skiffref1_Crc: function 65 -/
def skiffref1_Crc.f (a0 : ByteArray) : Option (Int) := Skiff.sums a0
theorem skiffref1_Crc.calls (a0 : ByteArray) (r : Int) (w : World) (h : skiffref1_Crc.f a0 = some r) :
  Calls Try.prog 65 #[.string a0] w fun e w' => e = .returned (.int .i64 r) ∧ Below w.heap.size w w' :=
 Go.Proofs.Ytmidohjfajbpmaa.g_skiffref1_Crc a0 r w h

/-! ### skiffref1_Good: function 42 -/
def skiffref1_Good.f (a0 : ByteArray) (a1_0 : Int) (a1_1 : Int) (a1_2 : Int) (a1_3 : Int) : Option (Bool × Int) := (skiffref1_ImageOf.f a0 a1_0 a1_1 a1_2 a1_3).bind fun bt236 => (if bt236.2 = 0 then ((skiffref1_Crc.f bt236.1).bind fun t238 => (some ((t238 == a1_3), bt236.2))) else (some (false, bt236.2)))
def skiffref1_Good.T2 : Bool × List (List Nat × List Nat) := (true, [([], []), ([0], [0]), ([1], [1]), ([2], [2]), ([3, 2, 2], [2, 3]), ([2], [2]), ([5, 2], [2, 5]), ([4, 6, 2], [2, 4, 6]), ([2, 7], [2, 7]), ([], []), ([8, 4, 0, 1, 2, 3, 4, 5, 6, 7, 8], [8]), ([9, 10, 0, 1, 2, 3, 4, 5, 6, 7, 8, 9, 10], [9])])
def skiffref1_Good.B2 : List Nat := [0, 1, 3, 7, 15, 7, 39, 127, 255, 0, 511, 2047]
theorem skiffref1_Good.tab2 : rtab .any (opsOf Try.f42 2) = skiffref1_Good.T2 := by kernel_rfl
theorem skiffref1_Good.bits2 : waitsOk skiffref1_Good.T2.2 skiffref1_Good.B2 = true := by kernel_rfl
set_option maxHeartbeats 8000000 in
set_option maxRecDepth 100000 in
theorem skiffref1_Good.calls (a0 : ByteArray) (a1_0 : Int) (a1_1 : Int) (a1_2 : Int) (a1_3 : Int) (r1 : Bool) (r2 : Int) (w : World) (h : skiffref1_Good.f a0 a1_0 a1_1 a1_2 a1_3 = some (r1, r2)) :
  Calls Try.prog 42 #[.string a0, .agg #[.int .i64 a1_0, .int .i64 a1_1, .int .i64 a1_2, .int .i64 a1_3]] w fun e w' => e = .returned (.tuple #[.bool r1, .int .i64 r2]) ∧ Below w.heap.size w w' := by
 have hu41 := Try.underlying41
 have HB := Aside0.mk (Below.refl w.heap.size w)
 have H : ((skiffref1_ImageOf.f a0 a1_0 a1_1 a1_2 a1_3).bind fun bt236 => (if bt236.2 = 0 then ((skiffref1_Crc.f bt236.1).bind fun t238 => (some ((t238 == a1_3), bt236.2))) else (some (false, bt236.2)))) = some (r1, r2) := h
 clear h
 replace H := Option.bind_eq_some_iff.mp H
 obtain ⟨⟨t236, t237⟩, A30, H⟩ := H
 replace H : (if t237 = 0 then ((skiffref1_Crc.f t236).bind fun t238 => (some ((t238 == a1_3), t237))) else (some (false, t237))) = some (r1, r2) := H
 have A3 := Aside0.mk A30
 clear A30
 by_cases c4 : t237 = 0
 ·rw [if_pos c4] at H
  have c4b0 : (t237 == 0) = true := beq_iff_eq.mpr c4
  have c4b1 : (t237 != 0) = false := bne_eq_false_iff_eq.mpr c4
  clear c4
  replace H := Option.bind_eq_some_iff.mp H
  obtain ⟨t238, A50, H⟩ := H
  replace H : (some ((t238 == a1_3), t237)) = some (r1, r2) := H
  have A5 := Aside0.mk A50
  clear A50
  simp only [Option.some.injEq, Prod.mk.injEq] at H
  obtain ⟨rfl, rfl⟩ := H
  go_enter Try.func42, Try.ntmps42
  try go_wp2_with (first | ((with_reducible refine gate_dst (N := 3) rfl ?_); refine box_event ?hg (N := 3) ?hd (cs := #[.int .i64 a1_0, .int .i64 a1_1, .int .i64 a1_2, .int .i64 a1_3]) (t := 41) ?hr ?_; (case hd => rfl); (case hg => rfl); (case hr => first | (go_simp; done) | (go_simp; rfl)); intro gb235 hg w6 hbox hb; have n0_ := Aside0.mk (below_step (kb HB.out) hb); have n1_ := Aside0.mk (hbox); have n2_ := Aside0.mk ((kz hg (below_size (kb HB.out)) : w.heap.size ≤ gb235)); have n3_ := Aside0.mk ((kz hg (below_size (kb HB.out)) : w.heap.size ≤ gb235)); clear HB; have HB := n0_; have BK235 := n1_; have GW235 := n2_; have GE235 := n3_; clear n0_ n1_ n2_ n3_; clear hb hbox hg; obtain ⟨hcz7_0, hcz7_1, hcz7_2, hcz7_3⟩ := kc4 BK235.out; obtain ⟨hfz7_0, hfz7_1, hfz7_2, hfz7_3⟩ := kf4 BK235.out) | ((with_reducible refine gate_callee (f := 18) rfl ?_); refine goesL_ (some 11) rfl rfl Try.func18 (by kernel_rfl) rfl #[.string a0, .agg #[.int .i64 a1_0, .int .i64 a1_1, .int .i64 a1_2, .int .i64 a1_3]] rfl ka ?_; (with_reducible refine (skiffref1_ImageOf.calls a0 a1_0 a1_1 a1_2 a1_3 t236 t237 _ A3.out).mono ?_); rintro e w8 ⟨rfl, hb⟩; refine ⟨_, rfl, ?_⟩; have n0_ := Aside0.mk (kL BK235.out hb); have n1_ := Aside0.mk (below_step (kb1 HB.out GE235.out) hb); clear BK235; clear HB; have BK235 := n0_; have HB := n1_; clear n0_ n1_; (try clear hb); (try clear hb2); (try clear hk); (try clear hi)))
  have n0_ := Aside0.mk (blk_drew BK235.out)
  have n1_ := Aside0.mk (below_drew1 HB.out)
  clear BK235 HB; have BK235 := n0_; have HB := n1_; clear n0_ n1_
  refine start_ (n := 12) (S := fun w' => w'.cell? ⟨gb235, 0, none⟩ = some (.int .i64 a1_0) ∧ w'.cell? ⟨gb235, 1, none⟩ = some (.int .i64 a1_1) ∧ w'.cell? ⟨gb235, 2, none⟩ = some (.int .i64 a1_2) ∧ w'.cell? ⟨gb235, 3, none⟩ = some (.int .i64 a1_3)) (ds := []) #[false, false, false, false, false, false, false, false, false, false, false, false] (by kernel_rfl) rfl rfl ⟨(blk_cell BK235.out 0).trans rfl, (blk_cell BK235.out 1).trans rfl, (blk_cell BK235.out 2).trans rfl, (blk_cell BK235.out 3).trans rfl⟩ (fun hHeld => ?_); refine with_tabW skiffref1_Good.tab2 skiffref1_Good.bits2 (fun HT_ HW_ => ?_)
  generalize w8.drew = w9 at BK235 HB hHeld ⊢
  refine pure_ (i := 0) (N := some 14) (v := ?_) (a' := ?_) #[true, false, false, false, false, false, false, false, false, false, false, false] rfl rfl (any_of HT_.out (by kernel_rfl)) (fun _ _ _ h => h) (Or.inl ⟨by rfl, ?_⟩) ?_ ?_
  rotate_left
  ·intro w'
   go_simp
   with_reducible rfl
  rotate_left
  ·simp only [Act.put, List.setIfInBounds_toArray, List.set_cons_zero, List.set_cons_succ, i64_w, i32_w]
   rfl
  refine pure_ (i := 1) (N := some 15) (v := ?_) (a' := ?_) #[true, true, false, false, false, false, false, false, false, false, false, false] rfl rfl (any_of HT_.out (by kernel_rfl)) (fun _ _ _ h => h) (Or.inl ⟨by rfl, ?_⟩) ?_ ?_
  rotate_left
  ·intro w'
   go_simp
   with_reducible rfl
  rotate_left
  ·simp only [Act.put, List.setIfInBounds_toArray, List.set_cons_zero, List.set_cons_succ, i64_w, i32_w]
   rfl
  refine pure_ (i := 2) (N := some 16) (v := ?_) (a' := ?_) #[true, true, true, false, false, false, false, false, false, false, false, false] rfl rfl (any_of HT_.out (by kernel_rfl)) (fun _ _ _ h => h) (Or.inl ⟨by rfl, ?_⟩) ?_ ?_
  rotate_left
  ·intro w'
   go_simp
   with_reducible rfl
  rotate_left
  ·simp only [Act.put, List.setIfInBounds_toArray, List.set_cons_zero, List.set_cons_succ, i64_w, i32_w]
   rfl
  refine pure_ (i := 3) (N := some 17) (v := ?_) (a' := ?_) #[true, true, true, true, false, false, false, false, false, false, false, false] rfl rfl (any_of HT_.out (by kernel_rfl)) (fun _ _ _ h => h) (Or.inl ⟨by rfl, ?_⟩) ?_ ?_
  rotate_left
  ·intro w'
   go_simp
   with_reducible rfl
  rotate_left
  ·simp only [Act.put, List.setIfInBounds_toArray, List.set_cons_zero, List.set_cons_succ, i64_w, i32_w]
   rfl
  refine pure_ (i := 5) (N := some 19) (v := ?_) (a' := ?_) #[true, true, true, true, false, true, false, false, false, false, false, false] rfl rfl (any_of HT_.out (by kernel_rfl)) (fun _ _ _ h => h) (Or.inl ⟨by rfl, ?_⟩) ?_ ?_
  rotate_left
  ·intro w'
   go_simp
   with_reducible rfl
  rotate_left
  ·simp only [Act.put, List.setIfInBounds_toArray, List.set_cons_zero, List.set_cons_succ, i64_w, i32_w]
   rfl
  refine pure_ (i := 9) (N := some 23) (v := ?_) (a' := ?_) #[true, true, true, true, false, true, false, false, false, true, false, false] rfl rfl (any_of HT_.out (by kernel_rfl)) (fun _ _ _ h => h) (Or.inl ⟨by rfl, ?_⟩) ?_ ?_
  rotate_left
  ·intro w'
   go_simp
   with_reducible rfl
  rotate_left
  ·simp only [Act.put, List.setIfInBounds_toArray, List.set_cons_zero, List.set_cons_succ, i64_w, i32_w]
   rfl
  refine take_ (i := 6) (N := some 20) (v := ?_) (a' := ?_) #[true, true, true, true, false, true, true, false, false, true, false, false] rfl rfl (take_ofW HT_.out HW_.out (by kernel_rfl)) (fun _ _ _ h => h) (Or.inl ⟨by rfl, ?_⟩) hHeld ?_ ?_
  rotate_left
  ·rintro w' ⟨s0, s1, s2, s3⟩
   go_simp
   with_reducible rfl
  rotate_left
  ·simp only [Act.put, List.setIfInBounds_toArray, List.set_cons_zero, List.set_cons_succ, i64_w, i32_w]
   rfl
  refine one_ (i := 4) (N := some 18) #[true, true, true, true, true, true, true, false, false, true, false, false] rfl rfl (one_of HT_.out (by kernel_rfl)) (by decide) (fun K hK => ?_)
  refine goes_ Try.func65 (by kernel_rfl) rfl #[.string t236] (by rfl) rfl rfl ka ?_
  with_reducible refine (skiffref1_Crc.calls t236 t238 _ A5.out).mono ?_
  rintro e w10 ⟨rfl, hb⟩
  refine ⟨_, rfl, ?_⟩
  have n0_ := Aside0.mk (kL BK235.out hb)
  have n1_ := Aside0.mk (below_step (kb1 HB.out GE235.out) hb)
  clear BK235 HB; have BK235 := n0_; have HB := n1_; clear n0_ n1_
  (try clear hb)
  (try clear hb2)
  (try clear hk)
  (try clear hi)
  refine hK.out _ _ ⟨(blk_cell BK235.out 0).trans rfl, (blk_cell BK235.out 1).trans rfl, (blk_cell BK235.out 2).trans rfl, (blk_cell BK235.out 3).trans rfl⟩ (fun hHeld => ?_)
  clear hK K
  refine norm_ (a' := ?_) ?_ ?_
  rotate_left
  ·show Act.put _ (some 18) _ = _
   simp only [Act.put, List.setIfInBounds_toArray, List.set_cons_zero, List.set_cons_succ, i64_w, i32_w]
   rfl
  refine pure_ (i := 7) (N := some 21) (v := ?_) (a' := ?_) #[true, true, true, true, true, true, true, true, false, true, false, false] rfl rfl (any_of HT_.out (by kernel_rfl)) (fun _ _ _ h => h) (Or.inl ⟨by rfl, ?_⟩) ?_ ?_
  rotate_left
  ·intro w'
   go_simp
   with_reducible rfl
  rotate_left
  ·simp only [Act.put, List.setIfInBounds_toArray, List.set_cons_zero, List.set_cons_succ, i64_w, i32_w]
   rfl
  refine pure_ (i := 8) (N := some 22) (v := ?_) (a' := ?_) #[true, true, true, true, true, true, true, true, true, true, false, false] rfl rfl (any_of HT_.out (by kernel_rfl)) (fun _ _ _ h => h) (Or.inl ⟨by rfl, ?_⟩) ?_ ?_
  rotate_left
  ·intro w'
   go_simp
   with_reducible rfl
  rotate_left
  ·simp only [Act.put, List.setIfInBounds_toArray, List.set_cons_zero, List.set_cons_succ, i64_w, i32_w]
   rfl
  refine pure_ (i := 10) (N := some 4) (v := ?_) (a' := ?_) #[true, true, true, true, true, true, true, true, true, true, true, false] rfl rfl (any_of HT_.out (by kernel_rfl)) (fun _ _ _ h => h) (Or.inl ⟨by rfl, ?_⟩) ?_ ?_
  rotate_left
  ·intro w'
   go_simp
   with_reducible rfl
  rotate_left
  ·simp only [Act.put, List.setIfInBounds_toArray, List.set_cons_zero, List.set_cons_succ, i64_w, i32_w]
   rfl
  refine pure_ (i := 11) (N := some 5) (v := ?_) (a' := ?_) #[true, true, true, true, true, true, true, true, true, true, true, true] rfl rfl (any_of HT_.out (by kernel_rfl)) (fun _ _ _ h => h) (Or.inl ⟨by rfl, ?_⟩) ?_ ?_
  rotate_left
  ·intro w'
   go_simp
   with_reducible rfl
  rotate_left
  ·simp only [Act.put, List.setIfInBounds_toArray, List.set_cons_zero, List.set_cons_succ, i64_w, i32_w]
   rfl
  refine done_ (done_of HT_.out (by kernel_rfl)) ?_
  try go_wp2
  go_ret2
  exact ⟨by first | rfl | (simp [errW_none, errW_some] <;> rfl) | (simp [*, errW_none, errW_some] <;> rfl), kb1 HB.out GE235.out⟩
 ·rw [if_neg c4] at H
  have c4b0 : (t237 == 0) = false := beq_eq_false_iff_ne.mpr c4
  have c4b1 : (t237 != 0) = true := bne_iff_ne.mpr c4
  simp only [Option.some.injEq, Prod.mk.injEq] at H
  obtain ⟨rfl, rfl⟩ := H
  go_enter Try.func42, Try.ntmps42
  try go_wp2_with (first | ((with_reducible refine gate_dst (N := 3) rfl ?_); refine box_event ?hg (N := 3) ?hd (cs := #[.int .i64 a1_0, .int .i64 a1_1, .int .i64 a1_2, .int .i64 a1_3]) (t := 41) ?hr ?_; (case hd => rfl); (case hg => rfl); (case hr => first | (go_simp; done) | (go_simp; rfl)); intro gb235 hg w11 hbox hb; have n0_ := Aside0.mk (below_step (kb HB.out) hb); have n1_ := Aside0.mk (hbox); have n2_ := Aside0.mk ((kz hg (below_size (kb HB.out)) : w.heap.size ≤ gb235)); have n3_ := Aside0.mk ((kz hg (below_size (kb HB.out)) : w.heap.size ≤ gb235)); clear HB; have HB := n0_; have BK235 := n1_; have GW235 := n2_; have GE235 := n3_; clear n0_ n1_ n2_ n3_; clear hb hbox hg; obtain ⟨hcz12_0, hcz12_1, hcz12_2, hcz12_3⟩ := kc4 BK235.out; obtain ⟨hfz12_0, hfz12_1, hfz12_2, hfz12_3⟩ := kf4 BK235.out) | ((with_reducible refine gate_callee (f := 18) rfl ?_); refine goesL_ (some 11) rfl rfl Try.func18 (by kernel_rfl) rfl #[.string a0, .agg #[.int .i64 a1_0, .int .i64 a1_1, .int .i64 a1_2, .int .i64 a1_3]] rfl ka ?_; (with_reducible refine (skiffref1_ImageOf.calls a0 a1_0 a1_1 a1_2 a1_3 t236 t237 _ A3.out).mono ?_); rintro e w13 ⟨rfl, hb⟩; refine ⟨_, rfl, ?_⟩; have n0_ := Aside0.mk (kL BK235.out hb); have n1_ := Aside0.mk (below_step (kb1 HB.out GE235.out) hb); clear BK235; clear HB; have BK235 := n0_; have HB := n1_; clear n0_ n1_; (try clear hb); (try clear hb2); (try clear hk); (try clear hi)))
  have n0_ := Aside0.mk (blk_drew BK235.out)
  have n1_ := Aside0.mk (below_drew1 HB.out)
  clear BK235 HB; have BK235 := n0_; have HB := n1_; clear n0_ n1_
  refine start_ (n := 12) (S := fun w' => True) (ds := []) #[false, false, false, false, false, false, false, false, false, false, false, false] (by kernel_rfl) rfl rfl trivial (fun hHeld => ?_); refine with_tabW skiffref1_Good.tab2 skiffref1_Good.bits2 (fun HT_ HW_ => ?_)
  generalize w13.drew = w14 at BK235 HB hHeld ⊢
  refine pure_ (i := 0) (N := some 14) (v := ?_) (a' := ?_) #[true, false, false, false, false, false, false, false, false, false, false, false] rfl rfl (any_of HT_.out (by kernel_rfl)) (fun _ _ _ h => h) (Or.inl ⟨by rfl, ?_⟩) ?_ ?_
  rotate_left
  ·intro w'
   go_simp
   with_reducible rfl
  rotate_left
  ·simp only [Act.put, List.setIfInBounds_toArray, List.set_cons_zero, List.set_cons_succ, i64_w, i32_w]
   rfl
  refine pure_ (i := 1) (N := some 15) (v := ?_) (a' := ?_) #[true, true, false, false, false, false, false, false, false, false, false, false] rfl rfl (any_of HT_.out (by kernel_rfl)) (fun _ _ _ h => h) (Or.inl ⟨by rfl, ?_⟩) ?_ ?_
  rotate_left
  ·intro w'
   go_simp
   with_reducible rfl
  rotate_left
  ·simp only [Act.put, List.setIfInBounds_toArray, List.set_cons_zero, List.set_cons_succ, i64_w, i32_w]
   rfl
  refine pure_ (i := 2) (N := some 16) (v := ?_) (a' := ?_) #[true, true, true, false, false, false, false, false, false, false, false, false] rfl rfl (any_of HT_.out (by kernel_rfl)) (fun _ _ _ h => h) (Or.inl ⟨by rfl, ?_⟩) ?_ ?_
  rotate_left
  ·intro w'
   go_simp
   with_reducible rfl
  rotate_left
  ·simp only [Act.put, List.setIfInBounds_toArray, List.set_cons_zero, List.set_cons_succ, i64_w, i32_w]
   rfl
  refine pure_ (i := 3) (N := some 17) (v := undef) (a' := ?_) #[true, true, true, true, false, false, false, false, false, false, false, false] rfl rfl (any_of HT_.out (by kernel_rfl)) (fun _ _ _ h => h) (Or.inr ⟨by rfl, rfl⟩) ?_ ?_
  rotate_left
  ·simp only [Act.put, List.setIfInBounds_toArray, List.set_cons_zero, List.set_cons_succ, i64_w, i32_w]
   rfl
  refine pure_ (i := 4) (N := some 18) (v := undef) (a' := ?_) #[true, true, true, true, true, false, false, false, false, false, false, false] rfl rfl (any_of HT_.out (by kernel_rfl)) (fun _ _ _ h => h) (Or.inr ⟨by rfl, rfl⟩) ?_ ?_
  rotate_left
  ·simp only [Act.put, List.setIfInBounds_toArray, List.set_cons_zero, List.set_cons_succ, i64_w, i32_w]
   rfl
  refine pure_ (i := 5) (N := some 19) (v := undef) (a' := ?_) #[true, true, true, true, true, true, false, false, false, false, false, false] rfl rfl (any_of HT_.out (by kernel_rfl)) (fun _ _ _ h => h) (Or.inr ⟨by rfl, rfl⟩) ?_ ?_
  rotate_left
  ·simp only [Act.put, List.setIfInBounds_toArray, List.set_cons_zero, List.set_cons_succ, i64_w, i32_w]
   rfl
  refine pure_ (i := 6) (N := some 20) (v := undef) (a' := ?_) #[true, true, true, true, true, true, true, false, false, false, false, false] rfl rfl (any_of HT_.out (by kernel_rfl)) (fun _ _ _ h => h) (Or.inr ⟨by rfl, rfl⟩) ?_ ?_
  rotate_left
  ·simp only [Act.put, List.setIfInBounds_toArray, List.set_cons_zero, List.set_cons_succ, i64_w, i32_w]
   rfl
  refine pure_ (i := 7) (N := some 21) (v := undef) (a' := ?_) #[true, true, true, true, true, true, true, true, false, false, false, false] rfl rfl (any_of HT_.out (by kernel_rfl)) (fun _ _ _ h => h) (Or.inr ⟨by rfl, rfl⟩) ?_ ?_
  rotate_left
  ·simp only [Act.put, List.setIfInBounds_toArray, List.set_cons_zero, List.set_cons_succ, i64_w, i32_w]
   rfl
  refine pure_ (i := 8) (N := some 22) (v := ?_) (a' := ?_) #[true, true, true, true, true, true, true, true, true, false, false, false] rfl rfl (any_of HT_.out (by kernel_rfl)) (fun _ _ _ h => h) (Or.inl ⟨by rfl, ?_⟩) ?_ ?_
  rotate_left
  ·intro w'
   go_simp
   with_reducible rfl
  rotate_left
  ·simp only [Act.put, List.setIfInBounds_toArray, List.set_cons_zero, List.set_cons_succ, i64_w, i32_w]
   rfl
  refine pure_ (i := 9) (N := some 23) (v := ?_) (a' := ?_) #[true, true, true, true, true, true, true, true, true, true, false, false] rfl rfl (any_of HT_.out (by kernel_rfl)) (fun _ _ _ h => h) (Or.inl ⟨by rfl, ?_⟩) ?_ ?_
  rotate_left
  ·intro w'
   go_simp
   with_reducible rfl
  rotate_left
  ·simp only [Act.put, List.setIfInBounds_toArray, List.set_cons_zero, List.set_cons_succ, i64_w, i32_w]
   rfl
  refine pure_ (i := 10) (N := some 4) (v := ?_) (a' := ?_) #[true, true, true, true, true, true, true, true, true, true, true, false] rfl rfl (any_of HT_.out (by kernel_rfl)) (fun _ _ _ h => h) (Or.inl ⟨by rfl, ?_⟩) ?_ ?_
  rotate_left
  ·intro w'
   go_simp
   with_reducible rfl
  rotate_left
  ·simp only [Act.put, List.setIfInBounds_toArray, List.set_cons_zero, List.set_cons_succ, i64_w, i32_w]
   rfl
  refine pure_ (i := 11) (N := some 5) (v := ?_) (a' := ?_) #[true, true, true, true, true, true, true, true, true, true, true, true] rfl rfl (any_of HT_.out (by kernel_rfl)) (fun _ _ _ h => h) (Or.inl ⟨by rfl, ?_⟩) ?_ ?_
  rotate_left
  ·intro w'
   go_simp
   with_reducible rfl
  rotate_left
  ·simp only [Act.put, List.setIfInBounds_toArray, List.set_cons_zero, List.set_cons_succ, i64_w, i32_w]
   rfl
  refine done_ (done_of HT_.out (by kernel_rfl)) ?_
  try go_wp2
  go_ret2
  exact ⟨by first | rfl | (simp [errW_none, errW_some] <;> rfl) | (simp [*, errW_none, errW_some] <;> rfl), kb1 HB.out GE235.out⟩

end Go.Proofs.Ytmidohjfajbpmaa.P
end
