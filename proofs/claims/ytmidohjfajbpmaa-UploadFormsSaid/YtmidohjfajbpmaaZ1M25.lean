/- Texts of this claim, laid together. -/
import Derived.Lib.LazyBuf
import Derived.Test.YtmidohjfajbpmaaZ1Cz
import Derived.Test.YtmidohjfajbpmaaZ1M22
import Derived.Test.YtmidohjfajbpmaaZ1M23
import Derived.Test.YtmidohjfajbpmaaZ1Px5
import Derived.Test.YtmidohjfajbpmaaZ1WGuard
section
set_option linter.unusedVariables false
set_option linter.unusedSimpArgs false
set_option maxHeartbeats 4000000
namespace Go.Proofs.Ytmidohjfajbpmaa
open Go.RowKit Go.Proofs.YtmidohjfajbpmaaW.PrintWords Go.Proofs.YtmidohjfajbpmaaW.PrintMore Go.Proofs.YtmidohjfajbpmaaW.PrintLast

abbrev pz : Plc := P.z43
def pkey (p : Plc) : Int := p.f1.f0 * 1000 + p.f0
/-- The heap's state: a queue's variable g, its row. -/
structure StH (w0 : World) (g : Nat) (A : Option Addr) (c : Nat) (l : List Plc) (w : World) : Prop where
  below : Below w0.heap.size w0 w
  row : Kd.R P.k43 43 w w0.heap.size (fun k => some k = (Value.slice A l.length c).ownBlock) (.slice A l.length c) l
  box : w.heap[g]? = some (.cells #[.slice A l.length c] 82 (0, 0))
  mine : w0.heap.size ≤ g
  apart : some g ≠ (Value.slice A l.length c).ownBlock
theorem StH.cell {w0 g A c l w} (h : StH w0 g A c l w) : w.cell? ⟨g, 0, none⟩ = some (.slice A l.length c) := (blk_cell h.box 0).trans rfl
theorem StH.step {w0 g A c l w w'} (h : StH w0 g A c l w) (hb : Below w.heap.size w w') : StH w0 g A c l w' where
  below := h.below.trans (hb.mono h.below.size)
  row := Kd.R_below h.row hb
  box := blk_below h.box hb
  mine := h.mine
  apart := h.apart
/-- Places as a flash has them. -/
def Ats (l : List Plc) : Prop := ∀ p ∈ l, 0 ≤ p.f0 ∧ p.f0 < 192
theorem less_f (l : List Plc) (hl : Ats l) (i j : Nat) (hi : i < l.length) (hj : j < l.length) : P.choose_queue_Less.f l i j = some (decide (pkey (l.getD i pz) > pkey (l.getD j pz))) := by
  have mem : ∀ k (hk : k < l.length), l.getD k pz ∈ l := fun k hk => by rw [List.getD_eq_getElem?_getD, List.getElem?_eq_getElem hk]; exact List.getElem_mem hk
  have ri : P.rd_T43 l (i : Int) = l.getD i pz := rfl
  have rj : P.rd_T43 l (j : Int) = l.getD j pz := rfl
  have ai := hl _ (mem i hi)
  have aj := hl _ (mem j hj)
  unfold P.choose_queue_Less.f
  rw [if_pos (by omega), if_pos (by omega), if_pos (by omega), if_pos (by omega), ri, rj]
  generalize l.getD i pz = p at ai
  generalize l.getD j pz = q at aj
  unfold pkey
  by_cases h : p.f1.f0 = q.f1.f0
  · rw [if_pos h]
    congr 1
    rw [decide_eq_decide]
    omega
  · rw [if_neg h]
    congr 1
    rw [decide_eq_decide]
    omega
theorem hless_calls {w0 g A c l w} (h : StH w0 g A c l w) (hl : Ats l) (i j : Nat) (hi : i < l.length) (hj : j < l.length) :
    Calls Try.prog 107 #[.slice A l.length c, .int .i64 i, .int .i64 j] w fun e w' => e = .returned (.bool (decide (pkey (l.getD i pz) > pkey (l.getD j pz)))) ∧ StH w0 g A c l w' :=
  (P.choose_queue_Less.calls A c l i j _ w (Kd.R_reads' h.row).2.2 (Kd.R_reads' h.row).2.1 (less_f l hl i j hi hj)).mono fun e w' ⟨he, hb⟩ => ⟨he, h.step hb⟩
theorem swap_f (l : List Plc) (i j : Nat) (hi : i < l.length) (hj : j < l.length) : P.choose_queue_Swap.f l i j = some (Hp.swp pz l i j) := by
  unfold P.choose_queue_Swap.f
  rw [if_pos (by omega), if_pos (by omega), if_pos (by omega), if_pos (by omega)]; rfl
theorem hswap_calls {w0 g A c l w} (h : StH w0 g A c l w) (i j : Nat) (hi : i < l.length) (hj : j < l.length) :
    Calls Try.prog 108 #[.slice A l.length c, .int .i64 i, .int .i64 j] w fun e w' => e = .returned (.tuple #[]) ∧ StH w0 g A c (Hp.swp pz l i j) w' :=
  (P.choose_queue_Swap.calls _ _ l i j _ w0 w h.below h.row (swap_f l i j hi hj)).mono fun e w' ⟨he, hr, hb, hk⟩ => by
    have hlt : g < w.heap.size := by
      rcases Nat.lt_or_ge g w.heap.size with h1 | h1
      · exact h1
      · have := h.box; rw [Array.getElem?_eq_none h1] at this; cases this
    refine ⟨he, ⟨hb, ?_, ?_, h.mine, ?_⟩⟩
    · rw [Hp.swp_length]
      exact Kd.R_tight rfl hr
    · rw [Hp.swp_length, hk.2 g hlt (fun e => h.apart e)]
      exact h.box
    · rw [Hp.swp_length]; exact h.apart
theorem hlen_calls {w0 g A c l w} (h : StH w0 g A c l w) : Calls Try.prog 55 #[.slice A l.length c] w fun e w' => e = .returned (.int .i64 (l.length : Int)) ∧ StH w0 g A c l w' :=
  (P.choose_queue_Len.calls A c l _ w (Kd.R_reads' h.row).2.2 (Kd.R_reads' h.row).2.1 rfl).mono fun e w' ⟨he, hd⟩ => ⟨he, by
    obtain ⟨n, rfl⟩ := hd.out
    exact h.step (pw_below_drewN (Below.refl _ _) n)⟩

/-- A call of Less through the interface. -/
theorem inv_less {w0 g A c l} (i j : Nat) {ix jx : Int} {W : World} {ops : Array Oper} {rest : List Oper} {o : Oper} {a : Act} {Q : Exit → Act → World → Prop} (hg : o.guard = none) {r x y : Operand} {ts : Array TypeId}
    (hop : o.op = Op.call { callee := Callee.invoke r "Less", args := #[x, y], argTypes := ts }) (hr : a.eval r = .iface 84 (.pointer (some ⟨g, 0, none⟩))) (hx : a.eval x = .int .i64 ix) (hy : a.eval y = .int .i64 jx) (ei : ix = i) (ej : jx = j)
    (S : StH w0 g A c l W) (hl : Ats l) (hi : i < l.length) (hj : j < l.length) (hK : ∀ w', StH w0 g A c l w' → wpList Try.prog ops Q rest (a.put o.dst (.bool (decide (pkey (l.getD i pz) > pkey (l.getD j pz))))) w') : wpList Try.prog ops Q (o :: rest) a W := by
  subst ei ej
  refine wpList_plain hg fun K hK' => ?_
  have m0 := fun n => que_less n g _ W S.cell
  have eL : ∀ args w, (callFunc 107 args).run Try.prog w = .ok (.enter 107 args) w := enters_ Try.func107 (by kernel_rfl) rfl
  have hrun : (execOp a.eval o).run Try.prog W = .ok (.enter 107 #[.slice A l.length c, .int .i64 i, .int .i64 j]) W := by
    generalize a.eval = ρ at hr hx hy
    simp [execOp, hop, resolve, invoke, callMethod, go_sem, hr, hx, hy, m0, eL]
  unfold Oper.wp
  rw [hrun, Oper.upon_enter]
  refine (hless_calls S hl i j hi hj).mono ?_
  rintro e w' ⟨rfl, S'⟩
  exact hK' _ _ (hK _ S')
theorem inv_swap {w0 g A c l} (i j : Nat) {ix jx : Int} {W : World} {ops : Array Oper} {rest : List Oper} {o : Oper} {a : Act} {Q : Exit → Act → World → Prop} (hg : o.guard = none) {r x y : Operand} {ts : Array TypeId}
    (hop : o.op = Op.call { callee := Callee.invoke r "Swap", args := #[x, y], argTypes := ts }) (hr : a.eval r = .iface 84 (.pointer (some ⟨g, 0, none⟩))) (hx : a.eval x = .int .i64 ix) (hy : a.eval y = .int .i64 jx) (ei : ix = i) (ej : jx = j)
    (S : StH w0 g A c l W) (hi : i < l.length) (hj : j < l.length) (hK : ∀ w', StH w0 g A c (Hp.swp pz l i j) w' → wpList Try.prog ops Q rest (a.put o.dst (.tuple #[])) w') : wpList Try.prog ops Q (o :: rest) a W := by
  subst ei ej
  refine wpList_plain hg fun K hK' => ?_
  have m0 := fun n => que_swap n g _ W S.cell
  have eL : ∀ args w, (callFunc 108 args).run Try.prog w = .ok (.enter 108 args) w := enters_ Try.func108 (by kernel_rfl) rfl
  have hrun : (execOp a.eval o).run Try.prog W = .ok (.enter 108 #[.slice A l.length c, .int .i64 i, .int .i64 j]) W := by
    generalize a.eval = ρ at hr hx hy
    simp [execOp, hop, resolve, invoke, callMethod, go_sem, hr, hx, hy, m0, eL]
  unfold Oper.wp
  rw [hrun, Oper.upon_enter]
  refine (hswap_calls S i j hi hj).mono ?_
  rintro e w' ⟨rfl, S'⟩
  exact hK' _ _ (hK _ S')
theorem inv_len {w0 g A c l} {W : World} {ops : Array Oper} {rest : List Oper} {o : Oper} {a : Act} {Q : Exit → Act → World → Prop} (hg : o.guard = none) {r : Operand} {ts : Array TypeId}
    (hop : o.op = Op.call { callee := Callee.invoke r "Len", args := #[], argTypes := ts }) (hr : a.eval r = .iface 84 (.pointer (some ⟨g, 0, none⟩)))
    (S : StH w0 g A c l W) (hK : ∀ w', StH w0 g A c l w' → wpList Try.prog ops Q rest (a.put o.dst (.int .i64 (l.length : Int))) w') : wpList Try.prog ops Q (o :: rest) a W := by
  refine wpList_plain hg fun K hK' => ?_
  have m0 := fun n => que_len n g _ W S.cell
  have eL : ∀ args w, (callFunc 55 args).run Try.prog w = .ok (.enter 55 args) w := enters_ Try.func55 (by kernel_rfl) rfl
  have hrun : (execOp a.eval o).run Try.prog W = .ok (.enter 55 #[.slice A l.length c]) W := by
    generalize a.eval = ρ at hr
    simp [execOp, hop, resolve, invoke, callMethod, go_sem, hr, m0, eL]
  unfold Oper.wp
  rw [hrun, Oper.upon_enter]
  refine (hlen_calls S).mono ?_
  rintro e w' ⟨rfl, S'⟩
  exact hK' _ _ (hK _ S')

end Go.Proofs.Ytmidohjfajbpmaa
end
section
set_option linter.unusedVariables false
set_option linter.unusedSimpArgs false
set_option maxHeartbeats 4000000
namespace Go.Proofs.Ytmidohjfajbpmaa
open Go.RowKit Go.Proofs.YtmidohjfajbpmaaW.PrintWords Go.Proofs.YtmidohjfajbpmaaW.PrintMore Go.Proofs.YtmidohjfajbpmaaW.PrintLast

def IsB (e : Ending) : Prop := ∃ b, e = .returned (.bool b)
theorem swp_ats (l : List Plc) (hl : Ats l) (i j : Nat) (hi : i < l.length) (hj : j < l.length) : Ats (Hp.swp pz l i j) := fun p hp => hl p ((Hp.swp_perm pz l i j hi hj).mem_iff.1 hp)
theorem hdown_calls {w0 g A c l w} (h : StH w0 g A c l w) (hl : Ats l) (hc : l.length < 4611686018427387904) (i n : Nat) (hi : i ≤ n) (hn : n ≤ l.length) :
    Calls Try.prog 75 #[.iface 84 (.pointer (some ⟨g, 0, none⟩)), .int .i64 i, .int .i64 n] w fun e w' => IsB e ∧ StH w0 g A c (Hp.down pz pkey n n i l) w' := by
  go_enter Try.func75, Try.ntmps75
  go_wp2
  go_loopg [7] n (fun kx s7 wr => ∃ (r : Nat) (lk : List Plc), s7 = .int .i64 r ∧ r ≤ n ∧ n ≤ r + kx ∧ lk.length = l.length ∧ Ats lk ∧ Aside (StH w0 g A c lk wr) ∧ Hid (Hp.down pz pkey n kx r lk = Hp.down pz pkey n n i l))
  case atStart => exact ⟨i, l, rfl, hi, by omega, rfl, hl, h, rfl⟩
  case round =>
    obtain ⟨r, lk, rfl, hr, hk, hll, hal, S, HE⟩ := hrel
    have hrn : r < 4611686018427387904 := by omega
    by_cases h1 : n ≤ 2 * r + 1
    · have h1z : (n : Int) ≤ 2 * (r : Int) + 1 := by omega
      have HE2 := HE.out
      rw [Hp.down_stop pz pkey n gk r lk h1] at HE2
      have HE3 := Lib.hid HE2
      clear HE HE2
      go_wp2
      go_ret
      exact ⟨⟨_, rfl⟩, by rw [← HE3.out]; exact S.out⟩
    have h1z : ¬ ((n : Int) ≤ 2 * (r : Int) + 1) := by omega
    obtain ⟨kx, rfl⟩ : ∃ k, gk = k + 1 := ⟨gk - 1, by omega⟩
    have HC := Lib.hid h1
    have h0z : ¬ (2 * (r : Int) + 1 < 0) := by omega
    by_cases h2 : 2 * r + 2 < n
    · have h2z : 2 * (r : Int) + 1 + 1 < (n : Int) := by omega
      cases hL : decide (pkey (lk.getD (2 * r + 2) pz) > pkey (lk.getD (2 * r + 1) pz)) with
      | true =>
        have HL := Lib.hid hL
        have HJ := Lib.hid (Hp.child_right pz pkey n r lk h2 hL)
        clear hL
        cases hG : decide (pkey (lk.getD (2 * r + 2) pz) > pkey (lk.getD r pz)) with
        | true =>
          have HG := Lib.hid hG
          have HE2 := Lib.hid ((Hp.down_go pz pkey n kx r lk _ HC.out HJ.out (of_decide_eq_true hG)).symm.trans HE.out)
          clear hG HE HJ HC
          go_wp2_with (first | ((with_reducible refine gate_dst (N := 32) rfl ?_); refine gate_guard (by rfl) ?_; refine inv_less (2 * r + 2) (2 * r + 1) rfl rfl rfl rfl rfl ?e1 ?e2 S.out hal (by omega) (by omega) ?_; (case e1 => omega); (case e2 => omega); intro w1 S1; rw [HL.out]; have T1 : Aside _ := S1; clear S S1; have S := T1; clear T1 HL) | ((with_reducible refine gate_dst (N := 38) rfl ?_); refine inv_less (2 * r + 2) r rfl rfl rfl rfl rfl ?e1 ?e2 S.out hal (by omega) (by omega) ?_; (case e1 => omega); (case e2 => omega); intro w2 S1; rw [HG.out]; have T1 : Aside _ := S1; clear S S1; have S := T1; clear T1 HG) | ((with_reducible refine gate_dst (N := 43) rfl ?_); refine inv_swap r (2 * r + 2) rfl rfl rfl rfl rfl ?e1 ?e2 S.out (by omega) (by omega) ?_; (case e1 => omega); (case e2 => omega); intro w3 S1; have T1 : Aside _ := S1; clear S S1; have S := T1; clear T1))
          go_roundg kx
          case measure => omega
          case rel => exact ⟨2 * r + 2, Hp.swp pz lk r (2 * r + 2), by first | rfl | (congr 1; omega), by omega, by omega, by rw [Hp.swp_length]; exact hll, swp_ats lk hal r (2 * r + 2) (by omega) (by omega), S, HE2⟩
        | false =>
          have HG := Lib.hid hG
          have HE2 := Lib.hid ((Hp.down_halt pz pkey n kx r lk _ HC.out HJ.out (of_decide_eq_false hG)).symm.trans HE.out)
          clear hG HE HJ HC
          go_wp2_with (first | ((with_reducible refine gate_dst (N := 32) rfl ?_); refine gate_guard (by rfl) ?_; refine inv_less (2 * r + 2) (2 * r + 1) rfl rfl rfl rfl rfl ?e1 ?e2 S.out hal (by omega) (by omega) ?_; (case e1 => omega); (case e2 => omega); intro w1 S1; rw [HL.out]; have T1 : Aside _ := S1; clear S S1; have S := T1; clear T1 HL) | ((with_reducible refine gate_dst (N := 38) rfl ?_); refine inv_less (2 * r + 2) r rfl rfl rfl rfl rfl ?e1 ?e2 S.out hal (by omega) (by omega) ?_; (case e1 => omega); (case e2 => omega); intro w2 S1; rw [HG.out]; have T1 : Aside _ := S1; clear S S1; have S := T1; clear T1 HG))
          go_ret
          exact ⟨⟨_, rfl⟩, by rw [← HE2.out]; exact S.out⟩
      | false =>
        have HL := Lib.hid hL
        have HJ := Lib.hid (Hp.child_left pz pkey n r lk (fun _ => hL))
        clear hL
        cases hG : decide (pkey (lk.getD (2 * r + 1) pz) > pkey (lk.getD r pz)) with
        | true =>
          have HG := Lib.hid hG
          have HE2 := Lib.hid ((Hp.down_go pz pkey n kx r lk _ HC.out HJ.out (of_decide_eq_true hG)).symm.trans HE.out)
          clear hG HE HJ HC
          go_wp2_with (first | ((with_reducible refine gate_dst (N := 32) rfl ?_); refine gate_guard (by rfl) ?_; refine inv_less (2 * r + 2) (2 * r + 1) rfl rfl rfl rfl rfl ?e1 ?e2 S.out hal (by omega) (by omega) ?_; (case e1 => omega); (case e2 => omega); intro w1 S1; rw [HL.out]; have T1 : Aside _ := S1; clear S S1; have S := T1; clear T1 HL) | ((with_reducible refine gate_dst (N := 38) rfl ?_); refine inv_less (2 * r + 1) r rfl rfl rfl rfl rfl ?e1 ?e2 S.out hal (by omega) (by omega) ?_; (case e1 => omega); (case e2 => omega); intro w2 S1; rw [HG.out]; have T1 : Aside _ := S1; clear S S1; have S := T1; clear T1 HG) | ((with_reducible refine gate_dst (N := 43) rfl ?_); refine inv_swap r (2 * r + 1) rfl rfl rfl rfl rfl ?e1 ?e2 S.out (by omega) (by omega) ?_; (case e1 => omega); (case e2 => omega); intro w3 S1; have T1 : Aside _ := S1; clear S S1; have S := T1; clear T1))
          go_roundg kx
          case measure => omega
          case rel => exact ⟨2 * r + 1, Hp.swp pz lk r (2 * r + 1), by first | rfl | (congr 1; omega), by omega, by omega, by rw [Hp.swp_length]; exact hll, swp_ats lk hal r (2 * r + 1) (by omega) (by omega), S, HE2⟩
        | false =>
          have HG := Lib.hid hG
          have HE2 := Lib.hid ((Hp.down_halt pz pkey n kx r lk _ HC.out HJ.out (of_decide_eq_false hG)).symm.trans HE.out)
          clear hG HE HJ HC
          go_wp2_with (first | ((with_reducible refine gate_dst (N := 32) rfl ?_); refine gate_guard (by rfl) ?_; refine inv_less (2 * r + 2) (2 * r + 1) rfl rfl rfl rfl rfl ?e1 ?e2 S.out hal (by omega) (by omega) ?_; (case e1 => omega); (case e2 => omega); intro w1 S1; rw [HL.out]; have T1 : Aside _ := S1; clear S S1; have S := T1; clear T1 HL) | ((with_reducible refine gate_dst (N := 38) rfl ?_); refine inv_less (2 * r + 1) r rfl rfl rfl rfl rfl ?e1 ?e2 S.out hal (by omega) (by omega) ?_; (case e1 => omega); (case e2 => omega); intro w2 S1; rw [HG.out]; have T1 : Aside _ := S1; clear S S1; have S := T1; clear T1 HG))
          go_ret
          exact ⟨⟨_, rfl⟩, by rw [← HE2.out]; exact S.out⟩
    · have h2z : ¬ (2 * (r : Int) + 1 + 1 < (n : Int)) := by omega
      have HJ := Lib.hid (Hp.child_left pz pkey n r lk (fun h => absurd h h2))
      cases hG : decide (pkey (lk.getD (2 * r + 1) pz) > pkey (lk.getD r pz)) with
      | true =>
        have HG := Lib.hid hG
        have HE2 := Lib.hid ((Hp.down_go pz pkey n kx r lk _ HC.out HJ.out (of_decide_eq_true hG)).symm.trans HE.out)
        clear hG HE HJ HC
        go_wp2_with (first | ((with_reducible refine gate_dst (N := 38) rfl ?_); refine inv_less (2 * r + 1) r rfl rfl rfl rfl rfl ?e1 ?e2 S.out hal (by omega) (by omega) ?_; (case e1 => omega); (case e2 => omega); intro w2 S1; rw [HG.out]; have T1 : Aside _ := S1; clear S S1; have S := T1; clear T1 HG) | ((with_reducible refine gate_dst (N := 43) rfl ?_); refine inv_swap r (2 * r + 1) rfl rfl rfl rfl rfl ?e1 ?e2 S.out (by omega) (by omega) ?_; (case e1 => omega); (case e2 => omega); intro w3 S1; have T1 : Aside _ := S1; clear S S1; have S := T1; clear T1))
        go_roundg kx
        case measure => omega
        case rel => exact ⟨2 * r + 1, Hp.swp pz lk r (2 * r + 1), by first | rfl | (congr 1; omega), by omega, by omega, by rw [Hp.swp_length]; exact hll, swp_ats lk hal r (2 * r + 1) (by omega) (by omega), S, HE2⟩
      | false =>
        have HG := Lib.hid hG
        have HE2 := Lib.hid ((Hp.down_halt pz pkey n kx r lk _ HC.out HJ.out (of_decide_eq_false hG)).symm.trans HE.out)
        clear hG HE HJ HC
        go_wp2_with (first | ((with_reducible refine gate_dst (N := 38) rfl ?_); refine inv_less (2 * r + 1) r rfl rfl rfl rfl rfl ?e1 ?e2 S.out hal (by omega) (by omega) ?_; (case e1 => omega); (case e2 => omega); intro w2 S1; rw [HG.out]; have T1 : Aside _ := S1; clear S S1; have S := T1; clear T1 HG))
        go_ret
        exact ⟨⟨_, rfl⟩, by rw [← HE2.out]; exact S.out⟩

end Go.Proofs.Ytmidohjfajbpmaa
end
section
set_option linter.unusedVariables false
set_option linter.unusedSimpArgs false
set_option maxHeartbeats 4000000
namespace Go.Proofs.Ytmidohjfajbpmaa
open Go.RowKit Go.Proofs.YtmidohjfajbpmaaW.PrintWords Go.Proofs.YtmidohjfajbpmaaW.PrintMore Go.Proofs.YtmidohjfajbpmaaW.PrintLast

theorem down_ats (l : List Plc) (hl : Ats l) (n f i : Nat) (hn : n ≤ l.length) (hi : i < n) : Ats (Hp.down pz pkey n f i l) := fun p hp => hl p ((Hp.down_perm pz pkey n f i l hn hi).mem_iff.1 hp)
theorem hinit_calls {w0 g A c l w} (h : StH w0 g A c l w) (hl : Ats l) (hc : l.length < 4611686018427387904) :
    Calls Try.prog 54 #[.iface 84 (.pointer (some ⟨g, 0, none⟩))] w fun e w' => e = .returned (.tuple #[]) ∧ StH w0 g A c (Hp.init pz pkey l.length (l.length / 2) l) w' := by
  go_enter Try.func54, Try.ntmps54
  have S : Aside _ := h
  clear h
  go_wp2_with (first | ((with_reducible refine gate_dst (N := 5) rfl ?_); refine inv_len rfl rfl rfl S.out ?_; intro w1 S1; have T1 : Aside _ := S1; clear S S1; have S := T1; clear T1))
  go_loopg [3] (l.length / 2) (fun kx s3 wr => ∃ (lk : List Plc), s3 = .int .i64 ((kx : Int) - 1) ∧ kx ≤ l.length / 2 ∧ lk.length = l.length ∧ Ats lk ∧ Aside (StH w0 g A c lk wr) ∧ Hid (Hp.init pz pkey l.length kx lk = Hp.init pz pkey l.length (l.length / 2) l))
  case atStart => exact ⟨l, by congr 1, Nat.le_refl _, rfl, hl, S, rfl⟩
  case round =>
    obtain ⟨lk, rfl, hk, hll, hal, S, HE⟩ := hrel
    cases gk with
    | zero =>
      have HE3 := Lib.hid (show lk = _ from HE.out)
      clear HE
      go_wp2
      go_end0
      exact ⟨rfl, by rw [← HE3.out]; exact S.out⟩
    | succ kx =>
      have e1 : ((kx + 1 : Nat) : Int) - 1 = (kx : Int) := by omega
      rw [e1]
      clear e1
      have hz : (0 : Int) ≤ (kx : Int) := by omega
      have HE3 := Lib.hid (show Hp.init pz pkey l.length kx (Hp.down pz pkey l.length l.length kx lk) = _ from HE.out)
      clear HE
      go_wp2_with ((go_at_call 75); refine (hdown_calls S.out hal (by omega) kx l.length (by omega) (by omega)).mono ?_; rintro e w' ⟨⟨b, rfl⟩, S1⟩; have T1 : Aside _ := S1; clear S S1; have S := T1; clear T1)
      go_roundg kx
      case measure => omega
      case rel => exact ⟨Hp.down pz pkey l.length l.length kx lk, rfl, by omega, by rw [Hp.down_length]; exact hll, down_ats lk hal _ _ _ (by omega) (by omega), S, HE3⟩

end Go.Proofs.Ytmidohjfajbpmaa
end
section
set_option linter.unusedVariables false
set_option linter.unusedSimpArgs false
set_option maxHeartbeats 4000000
namespace Go.Proofs.Ytmidohjfajbpmaa
open Go.RowKit Go.Proofs.YtmidohjfajbpmaaW.PrintWords Go.Proofs.YtmidohjfajbpmaaW.PrintMore Go.Proofs.YtmidohjfajbpmaaW.PrintLast

theorem own_len (A : Option Addr) (n m c : Nat) : (Value.slice A n c).ownBlock = (Value.slice A m c).ownBlock := by
  cases A with
  | none => rfl
  | some a => rfl
theorem StH.glt {w0 g A c l w} (h : StH w0 g A c l w) : g < w.heap.size := blk_lt h.box
theorem StH.olt {w0 g A c l w} (h : StH w0 g A c l w) (k : Nat) (hk : (Value.slice A l.length c).ownBlock = some k) : k < w.heap.size := by
  obtain ⟨h0, inner, ho, hr⟩ := h.row
  exact own_lt ho k hk
theorem StH.far {w0 g A c l w} (h : StH w0 g A c l w) {gb : Nat} (h1 : g ≠ gb) (h2 : some gb ≠ (Value.slice A l.length c).ownBlock) (h3 : w0.heap.size ≤ gb) (i : Nat) (u : Value) : StH w0 g A c l (w.setCell ⟨gb, i, none⟩ u) where
  below := below_set h.below h3
  row := Kd.R_far h.row (fun k hk e => h2 (by rw [← hk]; exact congrArg some e.symm)) u
  box := blk_far h.box h1 u
  mine := h.mine
  apart := h.apart
theorem StH.cut {w0 g A c l w} (h : StH w0 g A c l w) (m : Nat) (hm : m ≤ l.length) : StH w0 g A c (l.take m) (w.setCell ⟨g, 0, none⟩ (.slice A m c)) := by
  have hl : (l.take m).length = m := by rw [List.length_take]; omega
  refine ⟨below_set h.below h.mine, ?_, ?_, h.mine, ?_⟩
  · rw [hl]
    refine Kd.R_mono (Kd.R_far (Kd.R_take h.row hm) (fun k hk e => h.apart (by rw [← hk]; exact congrArg some e.symm)) _) (fun k hk => ?_)
    rw [hk]; exact own_len A _ _ c
  · rw [hl]; exact blk_set h.box 0 _
  · rw [hl, own_len A m l.length c]; exact h.apart
def pval (p : Plc) : Value := .agg #[.int .i64 p.f0, .int .i64 p.f1.f0, .int .i64 p.f1.f1, .int .i64 p.f1.f2, .int .i64 p.f1.f3]
theorem qpop_calls {w0 g A c l w} (h : StH w0 g A c l w) (hl : l ≠ []) (hc : l.length < 4611686018427387904) :
    Calls Try.prog 109 #[.pointer (some ⟨g, 0, none⟩)] w fun e w' => e = .returned (.iface 43 (pval (l.getD (l.length - 1) pz))) ∧ StH w0 g A c (l.take (l.length - 1)) w' := by
  obtain ⟨m, hm⟩ : ∃ m, l.length = m + 1 := ⟨l.length - 1, by have := List.length_pos_iff.2 hl; omega⟩
  have hpv : pval (l.getD (l.length - 1) pz) = .agg #[.int .i64 (P.rd_T43 l (m : Int)).f0, .int .i64 (P.rd_T43 l (m : Int)).f1.f0, .int .i64 (P.rd_T43 l (m : Int)).f1.f1, .int .i64 (P.rd_T43 l (m : Int)).f1.f2, .int .i64 (P.rd_T43 l (m : Int)).f1.f3] := by
    rw [hm]; rfl
  rw [hpv]
  clear hpv
  have S := Aside0.mk h
  obtain ⟨ad, e1, hx0, hx1, hx2, hx3, hx4⟩ := P.at_T43 (Kd.R_reads' h.row).2.2 (m : Int) (by omega) (by omega)
  subst e1
  have hg := h.cell
  rw [hm] at hg
  have hf : w.frozen? ⟨g, 0, none⟩ = false := blk_frozen h.box 0
  have hlc : l.length ≤ c := (Kd.R_reads' h.row).2.1
  rw [hm] at hlc
  have hmc : m ≤ c := by omega
  have hmc2 : (m : Int) ≤ (c : Int) := by omega
  clear h hlc
  have hc2 := hc
  rw [hm] at hc2
  have hmi : ((m : Int) < (m : Int) + 1) = True := eq_true (by omega)
  simp only [Int.toNat_natCast] at hx0 hx1 hx2 hx3 hx4
  generalize P.rd_T43 l (m : Int) = p at hx0 hx1 hx2 hx3 hx4 ⊢
  go_enter Try.func109, Try.ntmps109
  go_wp2_with (first | ((with_reducible refine gate_dst (N := 4) rfl ?_); refine box_event ?hg (N := 4) ?hd (cs := #[.int .i64 0, .int .i64 0, .int .i64 0, .int .i64 0, .int .i64 0]) (t := 43) ?hr ?_; (case hd => rfl); (case hg => rfl); (case hr => first | (go_simp; done) | (go_simp; rfl)); intro gb hgb W hbox hb; have S2 := Aside0.mk (S.out.step hb); have G1 := Aside0.mk (show g ≠ gb from fun e => absurd S.out.glt (by omega)); have G2 := Aside0.mk (show some gb ≠ (Value.slice (some ad) l.length c).ownBlock from fun e => absurd (S.out.olt gb e.symm) (by omega)); have G3 := Aside0.mk (show _ ≤ gb from by rw [hgb]; exact S.out.below.size); have BX := Aside0.mk hbox; clear hx0 hx1 hx2 hx3 hx4 hg hf hgb hb hbox; have hcz0 : W.cell? ⟨gb, 0, none⟩ = some (.int .i64 0) := (blk_cell BX.out 0).trans rfl; have hcz1 : W.cell? ⟨gb, 1, none⟩ = some (.int .i64 0) := (blk_cell BX.out 1).trans rfl; have hcz2 : W.cell? ⟨gb, 2, none⟩ = some (.int .i64 0) := (blk_cell BX.out 2).trans rfl; have hcz3 : W.cell? ⟨gb, 3, none⟩ = some (.int .i64 0) := (blk_cell BX.out 3).trans rfl; have hcz4 : W.cell? ⟨gb, 4, none⟩ = some (.int .i64 0) := (blk_cell BX.out 4).trans rfl; have hfz0 := blk_frozen BX.out 0; have hfz1 := blk_frozen BX.out 1; have hfz2 := blk_frozen BX.out 2; have hfz3 := blk_frozen BX.out 3; have hfz4 := blk_frozen BX.out 4) | ((with_reducible refine gate_dst (N := 19) rfl ?_); (have S3 := Aside0.mk (show StH w0 g (some ad) c l (World.setCell (World.setCell (World.setCell (World.setCell (World.setCell W ⟨gb, 0, none⟩ (Value.int IntKind.i64 p.f0)) ⟨gb, 1, none⟩ (Value.int IntKind.i64 p.f1.f0)) ⟨gb, 2, none⟩ (Value.int IntKind.i64 p.f1.f1)) ⟨gb, 3, none⟩ (Value.int IntKind.i64 p.f1.f2)) ⟨gb, 4, none⟩ (Value.int IntKind.i64 p.f1.f3)) from (((((S2.out.far G1.out G2.out G3.out 0 _).far G1.out G2.out G3.out 1 _).far G1.out G2.out G3.out 2 _).far G1.out G2.out G3.out 3 _).far G1.out G2.out G3.out 4 _))); (have BX3 := Aside0.mk (show (World.heap (World.setCell (World.setCell (World.setCell (World.setCell (World.setCell W ⟨gb, 0, none⟩ (Value.int IntKind.i64 p.f0)) ⟨gb, 1, none⟩ (Value.int IntKind.i64 p.f1.f0)) ⟨gb, 2, none⟩ (Value.int IntKind.i64 p.f1.f1)) ⟨gb, 3, none⟩ (Value.int IntKind.i64 p.f1.f2)) ⟨gb, 4, none⟩ (Value.int IntKind.i64 p.f1.f3)))[gb]? = some (.cells #[.int .i64 p.f0, .int .i64 p.f1.f0, .int .i64 p.f1.f1, .int .i64 p.f1.f2, .int .i64 p.f1.f3] 43 (0, 0)) from (blk_set (blk_set (blk_set (blk_set (blk_set BX.out 0 _) 1 _) 2 _) 3 _) 4 _))); clear hcz0 hcz1 hcz2 hcz3 hcz4 hfz0 hfz1 hfz2 hfz3 hfz4; (generalize (World.setCell (World.setCell (World.setCell (World.setCell (World.setCell W ⟨gb, 0, none⟩ (Value.int IntKind.i64 p.f0)) ⟨gb, 1, none⟩ (Value.int IntKind.i64 p.f1.f0)) ⟨gb, 2, none⟩ (Value.int IntKind.i64 p.f1.f1)) ⟨gb, 3, none⟩ (Value.int IntKind.i64 p.f1.f2)) ⟨gb, 4, none⟩ (Value.int IntKind.i64 p.f1.f3)) = W2 at S3 BX3 ⊢); (have hg2 : W2.cell? ⟨g, 0, none⟩ = some (.slice (some ad) (m + 1) c) := by (rw [← hm]); exact S3.out.cell); (have hf2 : W2.frozen? ⟨g, 0, none⟩ = false := blk_frozen S3.out.box 0)) | ((with_reducible refine gate_dst (N := 23) rfl ?_); have S4 := Aside0.mk (S3.out.cut m (by omega)); have BX4 := Aside0.mk (blk_far BX3.out (p := ⟨g, 0, none⟩) G1.out.symm (.slice (some ad) m c)); clear hg2 hf2; generalize (World.setCell W2 ⟨g, 0, none⟩ (.slice (some ad) m c)) = W3 at S4 BX4 ⊢; have hy0 : W3.cell? ⟨gb, 0, none⟩ = some (.int .i64 p.f0) := (blk_cell BX4.out 0).trans rfl; have hy1 : W3.cell? ⟨gb, 1, none⟩ = some (.int .i64 p.f1.f0) := (blk_cell BX4.out 1).trans rfl; have hy2 : W3.cell? ⟨gb, 2, none⟩ = some (.int .i64 p.f1.f1) := (blk_cell BX4.out 2).trans rfl; have hy3 : W3.cell? ⟨gb, 3, none⟩ = some (.int .i64 p.f1.f2) := (blk_cell BX4.out 3).trans rfl; have hy4 : W3.cell? ⟨gb, 4, none⟩ = some (.int .i64 p.f1.f3) := (blk_cell BX4.out 4).trans rfl))
  go_ret
  exact ⟨rfl, by rw [hm, Nat.add_sub_cancel]; exact S4.out⟩

theorem inv_pop {w0 g A c l} {W : World} {ops : Array Oper} {rest : List Oper} {o : Oper} {a : Act} {Q : Exit → Act → World → Prop} (hg : o.guard = none) {r : Operand} {ts : Array TypeId}
    (hop : o.op = Op.call { callee := Callee.invoke r "Pop", args := #[], argTypes := ts }) (hr : a.eval r = .iface 84 (.pointer (some ⟨g, 0, none⟩)))
    (S : StH w0 g A c l W) (hl : l ≠ []) (hc : l.length < 4611686018427387904) (v : Value) (hv : pval (l.getD (l.length - 1) pz) = v) (hK : ∀ w', StH w0 g A c (l.take (l.length - 1)) w' → wpList Try.prog ops Q rest (a.put o.dst (.iface 43 v)) w') : wpList Try.prog ops Q (o :: rest) a W := by
  subst hv
  refine wpList_plain hg fun K hK' => ?_
  have m0 := fun n => que_pop n g W
  have eL : ∀ args w, (callFunc 109 args).run Try.prog w = .ok (.enter 109 args) w := enters_ Try.func109 (by kernel_rfl) rfl
  have hrun : (execOp a.eval o).run Try.prog W = .ok (.enter 109 #[.pointer (some ⟨g, 0, none⟩)]) W := by
    generalize a.eval = ρ at hr
    simp [execOp, hop, resolve, invoke, callMethod, go_sem, hr, m0, eL]
  unfold Oper.wp
  rw [hrun, Oper.upon_enter]
  refine (qpop_calls S hl hc).mono ?_
  rintro e w' ⟨rfl, S'⟩
  exact hK' _ _ (hK _ S')
theorem hpop_calls {w0 g A c l w} (h : StH w0 g A c l w) (hal : Ats l) (hl : l ≠ []) (hc : l.length < 4611686018427387904) :
    Calls Try.prog 56 #[.iface 84 (.pointer (some ⟨g, 0, none⟩))] w fun e w' => e = .returned (.iface 43 (pval (l.getD 0 pz))) ∧ StH w0 g A c (Hp.rest pz pkey l) w' := by
  have hp : 0 < l.length := List.length_pos_iff.2 hl
  have he : pval (l.getD 0 pz) = pval ((Hp.popped pz pkey l).getD ((Hp.popped pz pkey l).length - 1) pz) := by rw [Hp.popped_length, Hp.popped_last pz pkey l hl]
  have hr : Hp.rest pz pkey l = (Hp.popped pz pkey l).take ((Hp.popped pz pkey l).length - 1) := by rw [Hp.popped_length]; rfl
  have hpl := Hp.popped_length pz pkey l
  have hpn : Hp.popped pz pkey l ≠ [] := fun e => by rw [e] at hpl; exact absurd hpl (by simp only [List.length_nil]; omega)
  rw [he, hr]
  obtain ⟨m, hm⟩ : ∃ m, l.length = m + 1 := ⟨l.length - 1, by omega⟩
  have S : Aside _ := h
  clear h he hr
  generalize hv : pval ((Hp.popped pz pkey l).getD ((Hp.popped pz pkey l).length - 1) pz) = v
  have HV := Lib.hid hv
  clear hv
  go_enter Try.func56, Try.ntmps56
  go_wp2_with (first | ((with_reducible refine gate_dst (N := 5) rfl ?_); refine inv_len rfl rfl rfl S.out ?_; intro w1 S1; have T1 : Aside _ := S1; clear S S1; have S := T1; clear T1) | ((with_reducible refine gate_dst (N := 9) rfl ?_); refine inv_swap 0 (l.length - 1) rfl rfl rfl rfl rfl ?e1 ?e2 S.out (by omega) (by omega) ?_; (case e1 => omega); (case e2 => omega); intro w3 S1; have T1 : Aside _ := S1; clear S S1; have S := T1; clear T1) | (go_at_call 75; refine (calls_of_args ?hargs ((hdown_calls S.out (swp_ats l hal 0 (l.length - 1) (by omega) (by omega)) (by rw [Hp.swp_length]; exact hc) 0 (l.length - 1) (by omega) (by rw [Hp.swp_length]; omega)).mono ?_)); (case hargs => rw [show l.length - 1 = m by omega]; rfl); rintro e w' ⟨⟨b, rfl⟩, S1⟩; have T1 : Aside (StH w0 g A c (Hp.popped pz pkey l) w') := S1; clear S S1; have S := T1; clear T1) | ((with_reducible refine gate_dst (N := 14) rfl ?_); refine inv_pop rfl rfl rfl S.out hpn (by omega) v HV.out ?_; intro w4 S1; have T1 : Aside _ := S1; clear S S1; have S := T1; clear T1))
  go_ret
  exact ⟨rfl, S.out⟩

end Go.Proofs.Ytmidohjfajbpmaa
end
section
set_option linter.unusedVariables false
set_option linter.unusedSimpArgs false
set_option maxHeartbeats 4000000
namespace Go.Proofs.Ytmidohjfajbpmaa

abbrev Asc (l : List Plc) : Prop := l.Pairwise (fun p q => p.f0 < q.f0)
def stepB (good : Plc → Bool) (b : Option Plc) (p : Plc) : Option Plc := if (good p && (b.all fun q => decide (q.f1.f0 ≤ p.f1.f0))) = true then some p else b
theorem step_best (good : Plc → Bool) (l : List Plc) (p : Plc) (b : Option Plc) (hl : Ats (l ++ [p])) (ha : Asc (l ++ [p])) (hb : Hp.Best pkey good l b) : Hp.Best pkey good (l ++ [p]) (stepB good b p) := by
  have hp := hl p (by simp)
  unfold stepB
  cases hg : good p with
  | false =>
    simp only [Bool.false_and, Bool.false_eq_true, if_false]
    cases b with
    | none =>
      intro x hx
      rcases List.mem_append.1 hx with h | h
      · exact hb x h
      · rw [List.mem_singleton.1 h]; exact hg
    | some q =>
      refine ⟨List.mem_append_left _ hb.1, hb.2.1, fun x hx hgx => ?_⟩
      rcases List.mem_append.1 hx with h | h
      · exact hb.2.2 x h hgx
      · rw [List.mem_singleton.1 h, hg] at hgx; cases hgx
  | true =>
    simp only [Bool.true_and]
    cases b with
    | none =>
      simp only [Option.all_none, if_true]
      refine ⟨by simp, hg, fun x hx hgx => ?_⟩
      rcases List.mem_append.1 hx with h | h
      · have := hb x h; rw [hgx] at this; cases this
      · rw [List.mem_singleton.1 h]; exact Int.le_refl _
    | some q =>
      have hq := hl q (List.mem_append_left _ hb.1)
      have hqp : q.f0 < p.f0 := (List.pairwise_append.1 ha).2.2 q hb.1 p (by simp)
      simp only [Option.all_some]
      by_cases hs : q.f1.f0 ≤ p.f1.f0
      · rw [if_pos (decide_eq_true hs)]
        have hk : pkey q ≤ pkey p := by unfold pkey; omega
        refine ⟨by simp, hg, fun x hx hgx => ?_⟩
        rcases List.mem_append.1 hx with h | h
        · exact Int.le_trans (hb.2.2 x h hgx) hk
        · rw [List.mem_singleton.1 h]; exact Int.le_refl _
      · rw [if_neg (fun h => hs (of_decide_eq_true h))]
        have hk : pkey p ≤ pkey q := by unfold pkey; omega
        refine ⟨List.mem_append_left _ hb.1, hb.2.1, fun x hx hgx => ?_⟩
        rcases List.mem_append.1 hx with h | h
        · exact hb.2.2 x h hgx
        · rw [List.mem_singleton.1 h]; exact hk
theorem fold_best (good : Plc → Bool) : ∀ (l2 l1 : List Plc) (b : Option Plc), Ats (l1 ++ l2) → Asc (l1 ++ l2) → Hp.Best pkey good l1 b → Hp.Best pkey good (l1 ++ l2) (l2.foldl (stepB good) b)
  | [], l1, b, _, _, hb => by rw [List.append_nil]; exact hb
  | p :: l2, l1, b, hl, ha, hb => by
    rw [List.append_cons] at hl ha ⊢
    rw [List.foldl_cons]
    exact fold_best good l2 (l1 ++ [p]) _ hl ha (step_best good l1 p b (fun x hx => hl x (List.mem_append_left _ hx)) (List.pairwise_append.1 ha).1 hb)
theorem asc_inj : ∀ {l : List Plc}, Asc l → ∀ {p q}, p ∈ l → q ∈ l → p.f0 = q.f0 → p = q
  | [], _, _, _, h, _, _ => by cases h
  | x :: l, ha, p, q, hp, hq, he => by
    have h1 := List.pairwise_cons.1 ha
    rcases List.mem_cons.1 hp with rfl | hp'
    · rcases List.mem_cons.1 hq with rfl | hq'
      · rfl
      · have := h1.1 q hq'; omega
    · rcases List.mem_cons.1 hq with rfl | hq'
      · have := h1.1 p hp'; omega
      · exact asc_inj h1.2 hp' hq' he
theorem best_unique {good : Plc → Bool} {l : List Plc} (hl : Ats l) (ha : Asc l) {o1 o2 : Option Plc} (h1 : Hp.Best pkey good l o1) (h2 : Hp.Best pkey good l o2) : o1 = o2 := by
  cases o1 with
  | none =>
    cases o2 with
    | none => rfl
    | some q => have := h1 q h2.1; rw [h2.2.1] at this; cases this
  | some p =>
    cases o2 with
    | none => have := h2 p h1.1; rw [h1.2.1] at this; cases this
    | some q =>
      have e1 := h1.2.2 q h2.1 h2.2.1
      have e2 := h2.2.2 p h1.1 h1.2.1
      have b1 := hl p h1.1
      have b2 := hl q h2.1
      rw [asc_inj ha h1.1 h2.1 (by unfold pkey at e1 e2; omega)]
theorem best_perm {good : Plc → Bool} {l l' : List Plc} (hp : l'.Perm l) {o : Option Plc} (h : Hp.Best pkey good l' o) : Hp.Best pkey good l o := by
  cases o with
  | none => exact fun x hx => h x (hp.mem_iff.2 hx)
  | some p => exact ⟨hp.mem_iff.1 h.1, h.2.1, fun x hx hg => h.2.2 x (hp.mem_iff.2 hx) hg⟩
theorem foldM_some (G : Plc → Option (Bool × Int)) : ∀ (l : List Plc) (b r : Option Plc), l.foldlM (fun (b : Option Plc) p => (G p).bind fun g => some (if g.1 && (b.all fun q => decide (q.f1.f0 ≤ p.f1.f0)) then some p else b)) b = some r →
    (∀ p ∈ l, ∃ g, G p = some g) ∧ r = l.foldl (stepB (fun p => ((G p).map (·.1)).getD false)) b
  | [], b, r, h => by
    rw [List.foldlM_nil] at h
    exact ⟨fun p hp => (by cases hp), (Option.some.inj h).symm⟩
  | p :: l, b, r, h => by
    rw [List.foldlM_cons] at h
    cases hg : G p with
    | none => rw [hg] at h; cases h
    | some g =>
      rw [hg] at h
      have := foldM_some G l _ r h
      refine ⟨fun q hq => ?_, ?_⟩
      · rcases List.mem_cons.1 hq with rfl | hq'
        · exact ⟨g, hg⟩
        · exact this.1 q hq'
      · rw [this.2, List.foldl_cons]
        congr 1
        unfold stepB
        show _ = if (((G p).map (·.1)).getD false && (b.all fun q => decide (q.f1.f0 ≤ p.f1.f0))) = true then some p else b
        rw [hg]
        rfl
theorem pick_fold (good : Plc → Bool) (l : List Plc) (hl : Ats l) (ha : Asc l) : Hp.pick pz pkey good l.length (Hp.init pz pkey l.length (l.length / 2) l) = l.foldl (stepB good) none := by
  have hlen := Hp.init_length pz pkey l.length (l.length / 2) l
  have hh := Hp.init_heap pz pkey l.length (l.length / 2) l (Nat.le_refl _) (by omega) (fun k hk c hc hn => by omega)
  refine best_unique hl ha (best_perm (Hp.init_perm pz pkey l.length (l.length / 2) l (Nat.le_refl _) (by omega)) (Hp.pick_best pz pkey good l.length _ (by omega) (by rw [hlen]; exact hh))) ?_
  exact fold_best good l [] none (by simpa using hl) (by simpa using ha) (fun x hx => by cases hx)
end Go.Proofs.Ytmidohjfajbpmaa
end
section
set_option linter.unusedVariables false
set_option linter.unusedSimpArgs false
set_option maxHeartbeats 4000000
namespace Go.Proofs.Ytmidohjfajbpmaa.P
open Go.RowKit Go.Proofs.YtmidohjfajbpmaaW.PrintWords Go.Proofs.YtmidohjfajbpmaaW.PrintMore Go.Proofs.YtmidohjfajbpmaaW.PrintLast

/-- Is the place's image good? -/
def goodP (a0 : ByteArray) (p : Plc) : Bool := ((image_Good.f a0 p.f1.f0 p.f1.f1 p.f1.f2 p.f1.f3).map (·.1)).getD false
def actOut (b : Option Plc) : Int × Int × Int × Int × Int × Int := match b with | none => (0, 0, 0, 0, 0, 701) | some p => (p.f0, p.f1.f0, p.f1.f1, p.f1.f2, p.f1.f3, 0)
def actVal (b : Option Plc) : Value := match b with | none => .tuple #[.agg #[.int .i64 0, .int .i64 0, .int .i64 0, .int .i64 0, .int .i64 0], .int .i64 701] | some p => .tuple #[pval p, .int .i64 0]
theorem active_facts {a0 : ByteArray} {r : Int × Int × Int × Int × Int × Int} (h : choose_Active.f a0 = some r) :
    (journal_Scan.f 300 a0 = some ([], 500) ∧ r = (0, 0, 0, 0, 0, 700)) ∨ ∃ l : List Plc, journal_Scan.f 300 a0 = some (l, 0) ∧ l.length ≤ 8 ∧ Ats l ∧ (∀ p ∈ l, ∃ g, image_Good.f a0 p.f1.f0 p.f1.f1 p.f1.f2 p.f1.f3 = some g) ∧ r = actOut (Hp.pick pz pkey (goodP a0) l.length (Hp.init pz pkey l.length (l.length / 2) l)) := by
  unfold choose_Active.f at h
  rw [scan_f a0 300 (by omega)] at h ⊢
  by_cases hs : a0.size = 768
  · rw [if_pos hs] at h ⊢
    refine .inr ⟨scanTo a0 8, rfl, scanTo_len a0 8, fun p hp => by have := scanTo_at hp; omega, ?_⟩
    simp only [Option.bind_some, if_true] at h
    cases hf : (scanTo a0 8).foldlM (fun (b : Option Plc) p => (image_Good.f a0 p.f1.f0 p.f1.f1 p.f1.f2 p.f1.f3).bind fun g => some (if g.1 && (b.all fun q => decide (q.f1.f0 ≤ p.f1.f0)) then some p else b)) none with
    | none => rw [hf] at h; cases h
    | some b =>
      rw [hf] at h
      have := foldM_some (fun p => image_Good.f a0 p.f1.f0 p.f1.f1 p.f1.f2 p.f1.f3) _ _ _ hf
      refine ⟨this.1, ?_⟩
      rw [pick_fold (goodP a0) _ (fun p hp => by have := scanTo_at hp; omega) (scanTo_asc a0 8), show (scanTo a0 8).foldl (stepB (goodP a0)) none = b from this.2.symm]
      exact (Option.some.inj h).symm
  · rw [if_neg hs] at h ⊢
    exact .inl ⟨rfl, (Option.some.inj h).symm⟩

set_option maxHeartbeats 8000000 in
set_option maxRecDepth 100000 in
theorem choose_Active.calls (a0 : ByteArray) (r1 r2 r3 r4 r5 r6 : Int) (w : World) (h : choose_Active.f a0 = some (r1, r2, r3, r4, r5, r6)) :
    Calls Try.prog 25 #[.string a0] w fun e w' => e = .returned (.tuple #[.agg #[.int .i64 r1, .int .i64 r2, .int .i64 r3, .int .i64 r4, .int .i64 r5], .int .i64 r6]) ∧ Below w.heap.size w w' := by
  rcases active_facts h with ⟨hS, hr⟩ | ⟨l, hS, hl8, hal, hgd, hr⟩
  · simp only [Prod.mk.injEq] at hr
    obtain ⟨rfl, rfl, rfl, rfl, rfl, rfl⟩ := hr
    clear h
    have HS := Lib.hid hS
    have TK := Aside0.mk True.intro
    clear hS
    go_enter Try.func25, Try.ntmps25
    go_wp2_with (first | ((with_reducible refine gate_dst (N := 2) rfl ?_); refine box_event ?hg (N := 2) ?hd (cs := #[.int .i64 0, .int .i64 0, .int .i64 0, .int .i64 0, .int .i64 0]) (t := 43) ?hr ?_; (case hd => rfl); (case hg => rfl); (case hr => first | (go_simp; done) | (go_simp; rfl)); intro gb hgb w1 hbox hb; have GE := Aside0.mk (show w.heap.size ≤ gb from Nat.le_of_eq hgb.symm); have GL := Aside0.mk (blk_lt hbox); have BK := Aside0.mk hbox; have HB1 := Aside0.mk hb; clear hgb hb hbox) | (go_at_call 53; refine (journal_Scan.calls 300 a0 [] 500 w1 HS.out).mono ?_; rintro e w2 ⟨v0, rfl, ho0, hb⟩; have T1 := Aside0.mk (blk_below BK.out hb); have T2 := Aside0.mk (HB1.out.trans (hb.mono HB1.out.size)); clear BK HB1 ho0 hb; have BK := T1; have HB1 := T2; clear T1 T2) | ((with_reducible refine gate_store (p := 2) rfl ?_); clear TK; have hcz0 : w2.cell? ⟨gb, 0, none⟩ = some (.int .i64 0) := (blk_cell BK.out 0).trans rfl; have hcy0 : w2.frozen? ⟨gb, 0, none⟩ = false := blk_frozen BK.out 0; have hcz1 : w2.cell? ⟨gb, 1, none⟩ = some (.int .i64 0) := (blk_cell BK.out 1).trans rfl; have hcy1 : w2.frozen? ⟨gb, 1, none⟩ = false := blk_frozen BK.out 1; have hcz2 : w2.cell? ⟨gb, 2, none⟩ = some (.int .i64 0) := (blk_cell BK.out 2).trans rfl; have hcy2 : w2.frozen? ⟨gb, 2, none⟩ = false := blk_frozen BK.out 2; have hcz3 : w2.cell? ⟨gb, 3, none⟩ = some (.int .i64 0) := (blk_cell BK.out 3).trans rfl; have hcy3 : w2.frozen? ⟨gb, 3, none⟩ = false := blk_frozen BK.out 3; have hcz4 : w2.cell? ⟨gb, 4, none⟩ = some (.int .i64 0) := (blk_cell BK.out 4).trans rfl; have hcy4 : w2.frozen? ⟨gb, 4, none⟩ = false := blk_frozen BK.out 4))
    refine bodyPost_ret (results_ct rfl _ _ gb 43 #[.int .i64 0, .int .i64 0, .int .i64 0, .int .i64 0, .int .i64 0] (0, 0) _ rfl (by refine blk_put (cs := #[.int .i64 0, .int .i64 0, .int .i64 0, .int .i64 0, .int .i64 0]) ?_ 4 _ rfl; refine blk_put (cs := #[.int .i64 0, .int .i64 0, .int .i64 0, .int .i64 0, .int .i64 0]) ?_ 3 _ rfl; refine blk_put (cs := #[.int .i64 0, .int .i64 0, .int .i64 0, .int .i64 0, .int .i64 0]) ?_ 2 _ rfl; refine blk_put (cs := #[.int .i64 0, .int .i64 0, .int .i64 0, .int .i64 0, .int .i64 0]) ?_ 1 _ rfl; refine blk_put (cs := #[.int .i64 0, .int .i64 0, .int .i64 0, .int .i64 0, .int .i64 0]) ?_ 0 _ rfl; exact BK.out) Try.underlying43 rfl (by kernel_rfl)) rfl ?_
    exact ⟨rfl, by repeat (first | (with_reducible exact HB1.out) | refine below_set ?_ GE.out)⟩
  · have HS := Lib.hid hS
    generalize hb : Hp.pick pz pkey (goodP a0) l.length (Hp.init pz pkey l.length (l.length / 2) l) = b at hr
    have hv : Value.tuple #[.agg #[.int .i64 r1, .int .i64 r2, .int .i64 r3, .int .i64 r4, .int .i64 r5], .int .i64 r6] = actVal b := by
      cases b with
      | none => simp only [actOut, Prod.mk.injEq] at hr; obtain ⟨rfl, rfl, rfl, rfl, rfl, rfl⟩ := hr; rfl
      | some p => simp only [actOut, Prod.mk.injEq] at hr; obtain ⟨rfl, rfl, rfl, rfl, rfl, rfl⟩ := hr; rfl
    rw [hv]
    have HPB := Lib.hid hb
    have hu25 := Try.underlying43
    have hu23 := Try.underlying41
    have hta : ∀ (v : Value) (w : World), Sem.run Try.prog (Instr.typeAssert (.iface 43 v) 20 43 false) w = .ok v w := by intro v w; kernel_rfl
    have TK := Aside0.mk True.intro
    have HGD := Lib.hid hgd
    have TKb := Aside0.mk True.intro
    clear hS hr h hgd hv hb
    go_enter Try.func25, Try.ntmps25
    go_wp2_with (first | ((with_reducible refine gate_dst (N := 2) rfl ?_); refine box_event ?hg (N := 2) ?hd (cs := #[.int .i64 0, .int .i64 0, .int .i64 0, .int .i64 0, .int .i64 0]) (t := 43) ?hr ?_; (case hd => rfl); (case hg => rfl); (case hr => first | (go_simp; done) | (go_simp; rfl)); intro gb hgb w1 hbox hb; have GE := Aside0.mk (show w.heap.size ≤ gb from Nat.le_of_eq hgb.symm); have GL := Aside0.mk (blk_lt hbox); have BK := Aside0.mk hbox; have HB1 := Aside0.mk hb; clear hgb hb hbox) | (go_at_call 53; refine (journal_Scan.calls 300 a0 l 0 w1 HS.out).mono ?_; rintro e w2 ⟨v0, rfl, ho0, hb⟩; obtain ⟨A, c, rfl, hlc, hC⟩ := Kd.R_reads ho0; have RW := Aside0.mk ho0; have B2 := Aside0.mk hb; clear ho0 hb hlc hC) | ((with_reducible refine gate_dst (N := 6) rfl ?_); refine box_event ?hg (N := 6) ?hd (cs := #[.slice none 0 0]) (t := 82) ?hr ?_; (case hd => rfl); (case hg => rfl); (case hr => first | (go_simp; done) | (go_simp; rfl)); intro g hg w3 hbox hb; have RW3 := Aside0.mk (Kd.R_tight rfl (Kd.R_below RW.out hb)); have B3 := Aside0.mk (B2.out.trans (hb.mono B2.out.size)); have GM := Aside0.mk (show w1.heap.size ≤ g from by rw [hg]; exact B2.out.size); have GA := Aside0.mk (show some g ≠ (Value.slice A l.length c).ownBlock from fun e => by obtain ⟨_, inner, ho, _⟩ := RW.out; exact absurd (own_lt ho g e.symm) (by omega)); have BG := Aside0.mk hbox; clear hg hb hbox RW B2; have hgz : w3.cell? ⟨g, 0, none⟩ = some (.slice none 0 0) := (blk_cell BG.out 0).trans rfl; have hgy : w3.frozen? ⟨g, 0, none⟩ = false := blk_frozen BG.out 0) | (go_at_call 54; have S0 : Aside (StH w1 g A c l (World.setCell w3 ⟨g, 0, none⟩ (.slice A l.length c))) := (⟨below_set B3.out GM.out, Kd.R_mono (Kd.R_far RW3.out (fun k hk e => GA.out (by rw [← hk]; exact congrArg some e.symm)) _) (fun _ hk => hk), blk_set BG.out 0 _, GM.out, GA.out⟩ : StH w1 g A c l (World.setCell w3 ⟨g, 0, none⟩ (.slice A l.length c))); clear RW3 B3 GM GA BG hgz hgy; refine (hinit_calls S0.out hal (by omega)).mono ?_; rintro e w4 ⟨rfl, S1⟩; have S : Aside _ := S1; clear S0 S1))
    go_loopg [3] l.length (fun kx s3 wr => s3 = .int .i64 0 ∧ ∃ lk : List Plc, lk.length ≤ kx ∧ lk.length ≤ 8 ∧ Ats lk ∧ Aside (StH w1 g A c lk wr) ∧ Hid (∀ p ∈ lk, p ∈ l) ∧ Hid (Hp.pick pz pkey (goodP a0) kx lk = b))
    case atStart =>
      exact ⟨rfl, Hp.init pz pkey l.length (l.length / 2) l, by rw [Hp.init_length]; exact Nat.le_refl _, by rw [Hp.init_length]; exact hl8, fun p hp => hal p ((Hp.init_perm pz pkey l.length (l.length / 2) l (Nat.le_refl _) (by omega)).mem_iff.1 hp), S, fun p hp => (Hp.init_perm pz pkey l.length (l.length / 2) l (Nat.le_refl _) (by omega)).mem_iff.1 hp, HPB⟩
    case round =>
      obtain ⟨rfl, lk, hk, h8, hal, S, HM, HE⟩ := hrel
      have hgz := S.out.cell
      by_cases h0 : lk.length = 0
      · have HN := Lib.hid h0
        have HBN : Hid (b = none) := by
          rw [← HE.out]
          cases gk with
          | zero => exact rfl
          | succ k => exact (show Hp.pick pz pkey (goodP a0) (k + 1) lk = none from by rw [Hp.pick, if_pos h0])
        rw [h0] at hgz
        clear h0 hk h8 HE
        go_wp2_with (first | (go_at_call 55; refine calls_of_args ?ha ((hlen_calls S.out).mono ?_); (case ha => rw [HN.out]); rintro e w5 ⟨rfl, S1⟩; rw [HN.out]; clear hgz; have T1 : Aside _ := S1; clear S S1; have S := T1; clear T1) | ((with_reducible refine gate_dst (N := 36) rfl ?_); clear TK; have BK2 := Aside0.mk (blk_below BK.out S.out.below); have hcz0 : w5.cell? ⟨gb, 0, none⟩ = some (.int .i64 0) := (blk_cell BK2.out 0).trans rfl; have hcy0 : w5.frozen? ⟨gb, 0, none⟩ = false := blk_frozen BK2.out 0; have hcz1 : w5.cell? ⟨gb, 1, none⟩ = some (.int .i64 0) := (blk_cell BK2.out 1).trans rfl; have hcy1 : w5.frozen? ⟨gb, 1, none⟩ = false := blk_frozen BK2.out 1; have hcz2 : w5.cell? ⟨gb, 2, none⟩ = some (.int .i64 0) := (blk_cell BK2.out 2).trans rfl; have hcy2 : w5.frozen? ⟨gb, 2, none⟩ = false := blk_frozen BK2.out 2; have hcz3 : w5.cell? ⟨gb, 3, none⟩ = some (.int .i64 0) := (blk_cell BK2.out 3).trans rfl; have hcy3 : w5.frozen? ⟨gb, 3, none⟩ = false := blk_frozen BK2.out 3; have hcz4 : w5.cell? ⟨gb, 4, none⟩ = some (.int .i64 0) := (blk_cell BK2.out 4).trans rfl; have hcy4 : w5.frozen? ⟨gb, 4, none⟩ = false := blk_frozen BK2.out 4))
        refine bodyPost_ret (results_ct rfl _ _ gb 43 #[.int .i64 0, .int .i64 0, .int .i64 0, .int .i64 0, .int .i64 0] (0, 0) _ rfl (by refine blk_put (cs := #[.int .i64 0, .int .i64 0, .int .i64 0, .int .i64 0, .int .i64 0]) ?_ 4 _ rfl; refine blk_put (cs := #[.int .i64 0, .int .i64 0, .int .i64 0, .int .i64 0, .int .i64 0]) ?_ 3 _ rfl; refine blk_put (cs := #[.int .i64 0, .int .i64 0, .int .i64 0, .int .i64 0, .int .i64 0]) ?_ 2 _ rfl; refine blk_put (cs := #[.int .i64 0, .int .i64 0, .int .i64 0, .int .i64 0, .int .i64 0]) ?_ 1 _ rfl; refine blk_put (cs := #[.int .i64 0, .int .i64 0, .int .i64 0, .int .i64 0, .int .i64 0]) ?_ 0 _ rfl; exact BK2.out) Try.underlying43 rfl (by kernel_rfl)) rfl ?_
        exact ⟨by rw [HBN.out]; rfl, by repeat (first | (with_reducible exact (HB1.out.trans (S.out.below.mono HB1.out.size))) | refine below_set ?_ GE.out)⟩
      · obtain ⟨m, hm⟩ : ∃ m, lk.length = m + 1 := ⟨lk.length - 1, by omega⟩
        have hne : lk ≠ [] := fun e => h0 (by rw [e]; rfl)
        have hmem : lk.getD 0 pz ∈ lk := by rw [List.getD_eq_getElem?_getD, List.getElem?_eq_getElem (by omega)]; exact List.getElem_mem _
        obtain ⟨⟨gr, ge⟩, hg⟩ := HGD.out _ (HM.out _ hmem)
        obtain ⟨k, rfl⟩ : ∃ k, gk = k + 1 := ⟨gk - 1, by omega⟩
        have he := HE.out
        rw [Hp.pick, if_neg h0] at he
        have hgood : goodP a0 (lk.getD 0 pz) = gr := by unfold goodP; rw [hg]; rfl
        rw [hgood] at he
        have hsub : ∀ p ∈ Hp.rest pz pkey lk, p ∈ lk := Hp.rest_sub pz pkey lk hne
        generalize hp : lk.getD 0 pz = p at hg he
        have HP := Lib.hid hp
        have HN := Lib.hid hm
        have HG := Lib.hid hg
        have HNE := Lib.hid hne
        have HSB := Lib.hid hsub
        have hrl := Lib.hid (Hp.rest_length pz pkey lk)
        rw [hm] at hgz
        cases gr with
        | true =>
          have HBN : Hid (b = some p) := he.symm
          clear he hmem hg hgood hp h0 hk hm HE hne hsub
          go_wp2_with (first | (go_at_call 55; refine calls_of_args ?ha ((hlen_calls S.out).mono ?_); (case ha => rw [HN.out]); rintro e w5 ⟨rfl, S1⟩; rw [HN.out]; clear hgz; have T1 : Aside _ := S1; clear S S1; have S := T1; clear T1) | (go_at_call 56; refine (hpop_calls S.out hal HNE.out (by omega)).mono ?_; rintro e w6 ⟨rfl, S1⟩; rw [HP.out]; simp only [pval]; have T1 : Aside _ := S1; clear S S1; have S := T1; clear T1) | ((with_reducible refine gate_dst (N := 7) rfl ?_); refine box_event ?hg (N := 7) ?hd (cs := #[.int .i64 0, .int .i64 0, .int .i64 0, .int .i64 0, .int .i64 0]) (t := 43) ?hr ?_; (case hd => rfl); (case hg => rfl); (case hr => first | (go_simp; done) | (go_simp; rfl)); intro gp hgp W7 hbox hb; have G1 := Aside0.mk (show g ≠ gp from fun e => absurd S.out.glt (by omega)); have G2 := Aside0.mk (show some gp ≠ (Value.slice A (Hp.rest pz pkey lk).length c).ownBlock from fun e => absurd (S.out.olt gp e.symm) (by omega)); have G3 := Aside0.mk (show w1.heap.size ≤ gp from by rw [hgp]; exact S.out.below.size); have BX := Aside0.mk hbox; have S1 := S.out.step hb; clear hgp hb hbox; have T1 : Aside _ := S1; clear S S1; have S := T1; clear T1; have hpz0 : W7.cell? ⟨gp, 0, none⟩ = some (.int .i64 0) := (blk_cell BX.out 0).trans rfl; have hpy0 : W7.frozen? ⟨gp, 0, none⟩ = false := blk_frozen BX.out 0; have hpz1 : W7.cell? ⟨gp, 1, none⟩ = some (.int .i64 0) := (blk_cell BX.out 1).trans rfl; have hpy1 : W7.frozen? ⟨gp, 1, none⟩ = false := blk_frozen BX.out 1; have hpz2 : W7.cell? ⟨gp, 2, none⟩ = some (.int .i64 0) := (blk_cell BX.out 2).trans rfl; have hpy2 : W7.frozen? ⟨gp, 2, none⟩ = false := blk_frozen BX.out 2; have hpz3 : W7.cell? ⟨gp, 3, none⟩ = some (.int .i64 0) := (blk_cell BX.out 3).trans rfl; have hpy3 : W7.frozen? ⟨gp, 3, none⟩ = false := blk_frozen BX.out 3; have hpz4 : W7.cell? ⟨gp, 4, none⟩ = some (.int .i64 0) := (blk_cell BX.out 4).trans rfl; have hpy4 : W7.frozen? ⟨gp, 4, none⟩ = false := blk_frozen BX.out 4) | ((with_reducible refine gate_dst (N := 29) rfl ?_); clear TKb; have S3 := Aside0.mk (show StH w1 g A c (Hp.rest pz pkey lk) (World.setCell (World.setCell (World.setCell (World.setCell (World.setCell W7 ⟨gp, 0, none⟩ (Value.int IntKind.i64 p.f0)) ⟨gp, 1, none⟩ (Value.int IntKind.i64 p.f1.f0)) ⟨gp, 2, none⟩ (Value.int IntKind.i64 p.f1.f1)) ⟨gp, 3, none⟩ (Value.int IntKind.i64 p.f1.f2)) ⟨gp, 4, none⟩ (Value.int IntKind.i64 p.f1.f3)) from (((((S.out.far G1.out G2.out G3.out 0 _).far G1.out G2.out G3.out 1 _).far G1.out G2.out G3.out 2 _).far G1.out G2.out G3.out 3 _).far G1.out G2.out G3.out 4 _)); have BX3 := Aside0.mk (show (World.heap (World.setCell (World.setCell (World.setCell (World.setCell (World.setCell W7 ⟨gp, 0, none⟩ (Value.int IntKind.i64 p.f0)) ⟨gp, 1, none⟩ (Value.int IntKind.i64 p.f1.f0)) ⟨gp, 2, none⟩ (Value.int IntKind.i64 p.f1.f1)) ⟨gp, 3, none⟩ (Value.int IntKind.i64 p.f1.f2)) ⟨gp, 4, none⟩ (Value.int IntKind.i64 p.f1.f3)))[gp]? = some (.cells #[.int .i64 p.f0, .int .i64 p.f1.f0, .int .i64 p.f1.f1, .int .i64 p.f1.f2, .int .i64 p.f1.f3] 43 (0, 0)) from (by refine blk_put (cs := #[.int .i64 p.f0, .int .i64 p.f1.f0, .int .i64 p.f1.f1, .int .i64 p.f1.f2, .int .i64 0]) ?_ 4 _ rfl; refine blk_put (cs := #[.int .i64 p.f0, .int .i64 p.f1.f0, .int .i64 p.f1.f1, .int .i64 0, .int .i64 0]) ?_ 3 _ rfl; refine blk_put (cs := #[.int .i64 p.f0, .int .i64 p.f1.f0, .int .i64 0, .int .i64 0, .int .i64 0]) ?_ 2 _ rfl; refine blk_put (cs := #[.int .i64 p.f0, .int .i64 0, .int .i64 0, .int .i64 0, .int .i64 0]) ?_ 1 _ rfl; refine blk_put (cs := #[.int .i64 0, .int .i64 0, .int .i64 0, .int .i64 0, .int .i64 0]) ?_ 0 _ rfl; exact BX.out)); clear S BX hpz0 hpy0 hpz1 hpy1 hpz2 hpy2 hpz3 hpy3 hpz4 hpy4; generalize (World.setCell (World.setCell (World.setCell (World.setCell (World.setCell W7 ⟨gp, 0, none⟩ (Value.int IntKind.i64 p.f0)) ⟨gp, 1, none⟩ (Value.int IntKind.i64 p.f1.f0)) ⟨gp, 2, none⟩ (Value.int IntKind.i64 p.f1.f1)) ⟨gp, 3, none⟩ (Value.int IntKind.i64 p.f1.f2)) ⟨gp, 4, none⟩ (Value.int IntKind.i64 p.f1.f3)) = W8 at S3 BX3 ⊢; have S : Aside _ := S3.out; have hqz0 : W8.cell? ⟨gp, 0, none⟩ = some (.int .i64 p.f0) := (blk_cell BX3.out 0).trans rfl; have hqz1 : W8.cell? ⟨gp, 1, none⟩ = some (.int .i64 p.f1.f0) := (blk_cell BX3.out 1).trans rfl; have hqz2 : W8.cell? ⟨gp, 2, none⟩ = some (.int .i64 p.f1.f1) := (blk_cell BX3.out 2).trans rfl; have hqz3 : W8.cell? ⟨gp, 3, none⟩ = some (.int .i64 p.f1.f2) := (blk_cell BX3.out 3).trans rfl; have hqz4 : W8.cell? ⟨gp, 4, none⟩ = some (.int .i64 p.f1.f3) := (blk_cell BX3.out 4).trans rfl; clear S3) | (go_at_call 57; refine (image_Good.calls a0 p.f1.f0 p.f1.f1 p.f1.f2 p.f1.f3 true ge _ HG.out).mono ?_; rintro e w9 ⟨rfl, hb⟩; have S1 := S.out.step hb; have BX4 := Aside0.mk (blk_below BX3.out hb); clear hb BX3 hqz0 hqz1 hqz2 hqz3 hqz4; have T1 : Aside _ := S1; clear S S1; have S := T1; clear T1; have hrz0 : w9.cell? ⟨gp, 0, none⟩ = some (.int .i64 p.f0) := (blk_cell BX4.out 0).trans rfl; have hrz1 : w9.cell? ⟨gp, 1, none⟩ = some (.int .i64 p.f1.f0) := (blk_cell BX4.out 1).trans rfl; have hrz2 : w9.cell? ⟨gp, 2, none⟩ = some (.int .i64 p.f1.f1) := (blk_cell BX4.out 2).trans rfl; have hrz3 : w9.cell? ⟨gp, 3, none⟩ = some (.int .i64 p.f1.f2) := (blk_cell BX4.out 3).trans rfl; have hrz4 : w9.cell? ⟨gp, 4, none⟩ = some (.int .i64 p.f1.f3) := (blk_cell BX4.out 4).trans rfl; have BK2 := Aside0.mk (blk_below BK.out S.out.below); have hcz0 : w9.cell? ⟨gb, 0, none⟩ = some (.int .i64 0) := (blk_cell BK2.out 0).trans rfl; have hcy0 : w9.frozen? ⟨gb, 0, none⟩ = false := blk_frozen BK2.out 0; have hcz1 : w9.cell? ⟨gb, 1, none⟩ = some (.int .i64 0) := (blk_cell BK2.out 1).trans rfl; have hcy1 : w9.frozen? ⟨gb, 1, none⟩ = false := blk_frozen BK2.out 1; have hcz2 : w9.cell? ⟨gb, 2, none⟩ = some (.int .i64 0) := (blk_cell BK2.out 2).trans rfl; have hcy2 : w9.frozen? ⟨gb, 2, none⟩ = false := blk_frozen BK2.out 2; have hcz3 : w9.cell? ⟨gb, 3, none⟩ = some (.int .i64 0) := (blk_cell BK2.out 3).trans rfl; have hcy3 : w9.frozen? ⟨gb, 3, none⟩ = false := blk_frozen BK2.out 3; have hcz4 : w9.cell? ⟨gb, 4, none⟩ = some (.int .i64 0) := (blk_cell BK2.out 4).trans rfl; have hcy4 : w9.frozen? ⟨gb, 4, none⟩ = false := blk_frozen BK2.out 4))
          refine bodyPost_ret (results_ct rfl _ _ gb 43 #[.int .i64 p.f0, .int .i64 p.f1.f0, .int .i64 p.f1.f1, .int .i64 p.f1.f2, .int .i64 p.f1.f3] (0, 0) _ rfl (by refine blk_put (cs := #[.int .i64 p.f0, .int .i64 p.f1.f0, .int .i64 p.f1.f1, .int .i64 p.f1.f2, .int .i64 0]) ?_ 4 _ rfl; refine blk_put (cs := #[.int .i64 p.f0, .int .i64 p.f1.f0, .int .i64 p.f1.f1, .int .i64 0, .int .i64 0]) ?_ 3 _ rfl; refine blk_put (cs := #[.int .i64 p.f0, .int .i64 p.f1.f0, .int .i64 0, .int .i64 0, .int .i64 0]) ?_ 2 _ rfl; refine blk_put (cs := #[.int .i64 p.f0, .int .i64 0, .int .i64 0, .int .i64 0, .int .i64 0]) ?_ 1 _ rfl; refine blk_put (cs := #[.int .i64 0, .int .i64 0, .int .i64 0, .int .i64 0, .int .i64 0]) ?_ 0 _ rfl; exact BK2.out) Try.underlying43 rfl (by kernel_rfl)) rfl ?_
          exact ⟨by rw [HBN.out]; rfl, by repeat (first | (with_reducible exact (HB1.out.trans (S.out.below.mono HB1.out.size))) | refine below_set ?_ GE.out)⟩
        | false =>
          have HE2 : Hid (Hp.pick pz pkey (goodP a0) k (Hp.rest pz pkey lk) = b) := he
          clear he hmem hg hgood hp h0 hm HE hne hsub
          go_wp2_with (first | (go_at_call 55; refine calls_of_args ?ha ((hlen_calls S.out).mono ?_); (case ha => rw [HN.out]); rintro e w5 ⟨rfl, S1⟩; rw [HN.out]; clear hgz; have T1 : Aside _ := S1; clear S S1; have S := T1; clear T1) | (go_at_call 56; refine (hpop_calls S.out hal HNE.out (by omega)).mono ?_; rintro e w6 ⟨rfl, S1⟩; rw [HP.out]; simp only [pval]; have T1 : Aside _ := S1; clear S S1; have S := T1; clear T1) | ((with_reducible refine gate_dst (N := 7) rfl ?_); refine box_event ?hg (N := 7) ?hd (cs := #[.int .i64 0, .int .i64 0, .int .i64 0, .int .i64 0, .int .i64 0]) (t := 43) ?hr ?_; (case hd => rfl); (case hg => rfl); (case hr => first | (go_simp; done) | (go_simp; rfl)); intro gp hgp W7 hbox hb; have G1 := Aside0.mk (show g ≠ gp from fun e => absurd S.out.glt (by omega)); have G2 := Aside0.mk (show some gp ≠ (Value.slice A (Hp.rest pz pkey lk).length c).ownBlock from fun e => absurd (S.out.olt gp e.symm) (by omega)); have G3 := Aside0.mk (show w1.heap.size ≤ gp from by rw [hgp]; exact S.out.below.size); have BX := Aside0.mk hbox; have S1 := S.out.step hb; clear hgp hb hbox; have T1 : Aside _ := S1; clear S S1; have S := T1; clear T1; have hpz0 : W7.cell? ⟨gp, 0, none⟩ = some (.int .i64 0) := (blk_cell BX.out 0).trans rfl; have hpy0 : W7.frozen? ⟨gp, 0, none⟩ = false := blk_frozen BX.out 0; have hpz1 : W7.cell? ⟨gp, 1, none⟩ = some (.int .i64 0) := (blk_cell BX.out 1).trans rfl; have hpy1 : W7.frozen? ⟨gp, 1, none⟩ = false := blk_frozen BX.out 1; have hpz2 : W7.cell? ⟨gp, 2, none⟩ = some (.int .i64 0) := (blk_cell BX.out 2).trans rfl; have hpy2 : W7.frozen? ⟨gp, 2, none⟩ = false := blk_frozen BX.out 2; have hpz3 : W7.cell? ⟨gp, 3, none⟩ = some (.int .i64 0) := (blk_cell BX.out 3).trans rfl; have hpy3 : W7.frozen? ⟨gp, 3, none⟩ = false := blk_frozen BX.out 3; have hpz4 : W7.cell? ⟨gp, 4, none⟩ = some (.int .i64 0) := (blk_cell BX.out 4).trans rfl; have hpy4 : W7.frozen? ⟨gp, 4, none⟩ = false := blk_frozen BX.out 4) | ((with_reducible refine gate_dst (N := 29) rfl ?_); clear TKb; have S3 := Aside0.mk (show StH w1 g A c (Hp.rest pz pkey lk) (World.setCell (World.setCell (World.setCell (World.setCell (World.setCell W7 ⟨gp, 0, none⟩ (Value.int IntKind.i64 p.f0)) ⟨gp, 1, none⟩ (Value.int IntKind.i64 p.f1.f0)) ⟨gp, 2, none⟩ (Value.int IntKind.i64 p.f1.f1)) ⟨gp, 3, none⟩ (Value.int IntKind.i64 p.f1.f2)) ⟨gp, 4, none⟩ (Value.int IntKind.i64 p.f1.f3)) from (((((S.out.far G1.out G2.out G3.out 0 _).far G1.out G2.out G3.out 1 _).far G1.out G2.out G3.out 2 _).far G1.out G2.out G3.out 3 _).far G1.out G2.out G3.out 4 _)); have BX3 := Aside0.mk (show (World.heap (World.setCell (World.setCell (World.setCell (World.setCell (World.setCell W7 ⟨gp, 0, none⟩ (Value.int IntKind.i64 p.f0)) ⟨gp, 1, none⟩ (Value.int IntKind.i64 p.f1.f0)) ⟨gp, 2, none⟩ (Value.int IntKind.i64 p.f1.f1)) ⟨gp, 3, none⟩ (Value.int IntKind.i64 p.f1.f2)) ⟨gp, 4, none⟩ (Value.int IntKind.i64 p.f1.f3)))[gp]? = some (.cells #[.int .i64 p.f0, .int .i64 p.f1.f0, .int .i64 p.f1.f1, .int .i64 p.f1.f2, .int .i64 p.f1.f3] 43 (0, 0)) from (by refine blk_put (cs := #[.int .i64 p.f0, .int .i64 p.f1.f0, .int .i64 p.f1.f1, .int .i64 p.f1.f2, .int .i64 0]) ?_ 4 _ rfl; refine blk_put (cs := #[.int .i64 p.f0, .int .i64 p.f1.f0, .int .i64 p.f1.f1, .int .i64 0, .int .i64 0]) ?_ 3 _ rfl; refine blk_put (cs := #[.int .i64 p.f0, .int .i64 p.f1.f0, .int .i64 0, .int .i64 0, .int .i64 0]) ?_ 2 _ rfl; refine blk_put (cs := #[.int .i64 p.f0, .int .i64 0, .int .i64 0, .int .i64 0, .int .i64 0]) ?_ 1 _ rfl; refine blk_put (cs := #[.int .i64 0, .int .i64 0, .int .i64 0, .int .i64 0, .int .i64 0]) ?_ 0 _ rfl; exact BX.out)); clear S BX hpz0 hpy0 hpz1 hpy1 hpz2 hpy2 hpz3 hpy3 hpz4 hpy4; generalize (World.setCell (World.setCell (World.setCell (World.setCell (World.setCell W7 ⟨gp, 0, none⟩ (Value.int IntKind.i64 p.f0)) ⟨gp, 1, none⟩ (Value.int IntKind.i64 p.f1.f0)) ⟨gp, 2, none⟩ (Value.int IntKind.i64 p.f1.f1)) ⟨gp, 3, none⟩ (Value.int IntKind.i64 p.f1.f2)) ⟨gp, 4, none⟩ (Value.int IntKind.i64 p.f1.f3)) = W8 at S3 BX3 ⊢; have S : Aside _ := S3.out; have hqz0 : W8.cell? ⟨gp, 0, none⟩ = some (.int .i64 p.f0) := (blk_cell BX3.out 0).trans rfl; have hqz1 : W8.cell? ⟨gp, 1, none⟩ = some (.int .i64 p.f1.f0) := (blk_cell BX3.out 1).trans rfl; have hqz2 : W8.cell? ⟨gp, 2, none⟩ = some (.int .i64 p.f1.f1) := (blk_cell BX3.out 2).trans rfl; have hqz3 : W8.cell? ⟨gp, 3, none⟩ = some (.int .i64 p.f1.f2) := (blk_cell BX3.out 3).trans rfl; have hqz4 : W8.cell? ⟨gp, 4, none⟩ = some (.int .i64 p.f1.f3) := (blk_cell BX3.out 4).trans rfl; clear S3) | (go_at_call 57; refine (image_Good.calls a0 p.f1.f0 p.f1.f1 p.f1.f2 p.f1.f3 false ge _ HG.out).mono ?_; rintro e w9 ⟨rfl, hb⟩; have S1 := S.out.step hb; have BX4 := Aside0.mk (blk_below BX3.out hb); clear hb BX3 hqz0 hqz1 hqz2 hqz3 hqz4; have T1 : Aside _ := S1; clear S S1; have S := T1; clear T1; clear BX4))
          go_roundg k
          case measure => omega
          case rel => exact ⟨rfl, Hp.rest pz pkey lk, by rw [hrl.out]; omega, by rw [hrl.out]; omega, fun p hp => hal p (HSB.out p hp), S, fun p hp => HM.out p (HSB.out p hp), HE2⟩

end Go.Proofs.Ytmidohjfajbpmaa.P
end
section
namespace Go.Proofs.Ytmidohjfajbpmaa.P
open Go.RowKit Go.Proofs.YtmidohjfajbpmaaW.PrintWords Go.Proofs.YtmidohjfajbpmaaW.PrintLast Go.Proofs.YtmidohjfajbpmaaW.PrintMore
attribute [local go_sem] max2_int min2_int max_two min_two max_three min_three max_four min_four   -- for this text's walks alone
set_option linter.unusedVariables false
set_option linter.unusedSimpArgs false

/-! ### device_New: function 29 -/
def device_New.f  : Option (Int × Int × Int × Int × Int × (List (S68))) := some (0, 0, 0, 0, 0, ([] : List (S68)))
set_option maxHeartbeats 8000000 in
set_option maxRecDepth 100000 in
theorem device_New.calls  (r1 : Int) (r2 : Int) (r3 : Int) (r4 : Int) (r5 : Int) (r6 : List (S68)) (w : World) (h : device_New.f  = some (r1, r2, r3, r4, r5, r6)) :
  Calls Try.prog 29 #[] w fun e w' => ∃ v5_ : Value, e = .returned (.agg #[.int .i64 r1, .int .i64 r2, .int .i64 r3, .int .i64 r4, .int .i64 r5, v5_]) ∧ Kd.R k68 68 w' w.heap.size (fun _ => True) v5_ r6 ∧ Below w.heap.size w w' := by
 have hu24 := Try.underlying24
 have HB := Aside0.mk (Below.refl w.heap.size w)
 have H : (some (0, 0, 0, 0, 0, ([] : List (S68)))) = some (r1, r2, r3, r4, r5, r6) := h
 clear h
 simp only [Option.some.injEq, Prod.mk.injEq] at H
 obtain ⟨rfl, rfl, rfl, rfl, rfl, rfl⟩ := H
 go_enter Try.func29, Try.ntmps29
 go_wp2_with (first | ((with_reducible refine gate_dst (N := 0) rfl ?_); refine box_event ?hg (N := 0) ?hd (cs := #[.int .i64 0, .int .i64 0, .int .i64 0, .int .i64 0, .int .i64 0, .slice none 0 0]) (t := 24) ?hr ?_; (case hd => rfl); (case hg => rfl); (case hr => first | (go_simp; done) | (go_simp; rfl)); intro gb153 hg w1 hbox hb; have n0_ := Aside0.mk (below_step (kb HB.out) hb); have n1_ := Aside0.mk (hbox); have n2_ := Aside0.mk ((kz hg (below_size (kb HB.out)) : w.heap.size ≤ gb153)); have n3_ := Aside0.mk ((kz hg (below_size (kb HB.out)) : w.heap.size ≤ gb153)); clear HB; have HB := n0_; have BK153 := n1_; have GW153 := n2_; have GE153 := n3_; clear n0_ n1_ n2_ n3_; clear hb hbox hg; obtain ⟨hcz2_0, hcz2_1, hcz2_2, hcz2_3, hcz2_4, hcz2_5⟩ := kc6 BK153.out; obtain ⟨hfz2_0, hfz2_1, hfz2_2, hfz2_3, hfz2_4, hfz2_5⟩ := kf6 BK153.out))
 refine bodyPost_ret (results_cell_row rfl _ _ gb153 24 #[.int .i64 0, .int .i64 0, .int .i64 0, .int .i64 0, .int .i64 0, .slice none 0 0] (0, 0) _ rfl (kP6 BK153.out) Try.underlying24 rfl (by kernel_rfl)) rfl ?_
 exact ⟨_, by first | rfl | (simp [errW_none, errW_some] <;> rfl) | (simp [*, errW_none, errW_some] <;> rfl), by first | exact Kd.R_nil _ _ _ _ _ | exact Kd.N_nil _ _ _ _ _ | exact Kd.V_nil _ _ _ _ _ | exact Kd.Q_nil _ _ _ _ _ | exact Kd.S_nil _ _ _ _ _, kb1 HB.out GE153.out⟩

/-! ### device_Failed: function 26 -/
def device_Failed.f (a0 : Int) : Option (Int × Int × Int × Int × Int × (List (S68))) := (device_New.f).bind fun bt155 => (some (7, a0, bt155.2.2.1, bt155.2.2.2.1, bt155.2.2.2.2.1, bt155.2.2.2.2.2))
set_option maxHeartbeats 8000000 in
set_option maxRecDepth 100000 in
theorem device_Failed.calls (a0 : Int) (r1 : Int) (r2 : Int) (r3 : Int) (r4 : Int) (r5 : Int) (r6 : List (S68)) (w : World) (h : device_Failed.f a0 = some (r1, r2, r3, r4, r5, r6)) :
  Calls Try.prog 26 #[.int .i64 a0] w fun e w' => ∃ v5_ : Value, e = .returned (.agg #[.int .i64 r1, .int .i64 r2, .int .i64 r3, .int .i64 r4, .int .i64 r5, v5_]) ∧ Kd.R k68 68 w' w.heap.size (fun _ => True) v5_ r6 ∧ Below w.heap.size w w' := by
 have hu24 := Try.underlying24
 have HB := Aside0.mk (Below.refl w.heap.size w)
 have H : ((device_New.f).bind fun bt155 => (some (7, a0, bt155.2.2.1, bt155.2.2.2.1, bt155.2.2.2.2.1, bt155.2.2.2.2.2))) = some (r1, r2, r3, r4, r5, r6) := h
 clear h
 replace H := Option.bind_eq_some_iff.mp H
 obtain ⟨⟨t155, t156, t157, t158, t159, t160⟩, A20, H⟩ := H
 replace H : (some (7, a0, t157, t158, t159, t160)) = some (r1, r2, r3, r4, r5, r6) := H
 have A2 := Aside0.mk A20
 clear A20
 simp only [Option.some.injEq, Prod.mk.injEq] at H
 obtain ⟨rfl, rfl, rfl, rfl, rfl, rfl⟩ := H
 go_enter Try.func26, Try.ntmps26
 go_upto_region 3 with (first | ((with_reducible refine gate_dst (N := 2) rfl ?_); refine box_event ?hg (N := 2) ?hd (cs := #[.int .i64 0, .int .i64 0, .int .i64 0, .int .i64 0, .int .i64 0, .slice none 0 0]) (t := 24) ?hr ?_; (case hd => rfl); (case hg => rfl); (case hr => first | (go_simp; done) | (go_simp; rfl)); intro gb154 hg w3 hbox hb; have n0_ := Aside0.mk (below_step (kb HB.out) hb); have n1_ := Aside0.mk (hbox); have n2_ := Aside0.mk ((kz hg (below_size (kb HB.out)) : w.heap.size ≤ gb154)); have n3_ := Aside0.mk ((kz hg (below_size (kb HB.out)) : w.heap.size ≤ gb154)); clear HB; have HB := n0_; have BK154 := n1_; have GW154 := n2_; have GE154 := n3_; clear n0_ n1_ n2_ n3_; clear hb hbox hg) | ((with_reducible refine gate_callee (f := 29) rfl ?_); refine goesL_ (some 4) rfl rfl Try.func29 (by kernel_rfl) rfl #[] rfl ka ?_; (with_reducible refine (device_New.calls  t155 t156 t157 t158 t159 t160 _ A2.out).mono ?_); rintro e w4 ⟨v161, rfl, ho0, hb⟩; refine ⟨_, rfl, ?_⟩; have n0_ := Aside0.mk (Kd.R_lower ho0 (below_size (kb1 HB.out GE154.out))); have n1_ := Aside0.mk (kL BK154.out hb); have n2_ := Aside0.mk (below_step (kb1 HB.out GE154.out) hb); clear BK154; clear HB; have HO162 := n0_; have BK154 := n1_; have HB := n2_; clear n0_ n1_ n2_; (try clear hb); (try clear hb2); (try clear hk); (try clear hi); (try clear ho0)) | ((with_reducible refine gate_dst (N := 3) rfl ?_); refine box_event ?hg (N := 3) ?hd (cs := #[.int .i64 0, .int .i64 0, .int .i64 0, .int .i64 0, .int .i64 0, .slice none 0 0]) (t := 24) ?hr ?_; (case hd => rfl); (case hg => rfl); (case hr => first | (go_simp; done) | (go_simp; rfl)); intro gb163 hg w5 hbox hb; have n0_ := Aside0.mk (Kd.R_below (kR HO162.out) hb); have n1_ := Aside0.mk (kL BK154.out hb); have n2_ := Aside0.mk (below_step (kb1 HB.out GE154.out) hb); have n3_ := Aside0.mk (hbox); have n4_ := Aside0.mk ((kz hg (below_size (kb1 HB.out GE154.out)) : w.heap.size ≤ gb163)); have n5_ := Aside0.mk ((kz hg (below_size (kb1 HB.out GE154.out)) : w.heap.size ≤ gb163)); have n6_ := Aside0.mk ((kN hg BK154.out : gb154 ≠ gb163)); have n7_ := Aside0.mk (((kN hg BK154.out).symm : gb163 ≠ gb154)); clear HO162; clear BK154; clear HB; have HO162 := n0_; have BK154 := n1_; have HB := n2_; have BK163 := n3_; have GW163 := n4_; have GE163 := n5_; have NB154_163 := n6_; have NB163_154 := n7_; clear n0_ n1_ n2_ n3_ n4_ n5_ n6_ n7_; clear hb hbox hg; have hnb6 := NB163_154.out; have hnc6 := NB154_163.out; obtain ⟨hcz7_0, hcz7_1, hcz7_2, hcz7_3, hcz7_4, hcz7_5⟩ := kc6 BK163.out; obtain ⟨hfz7_0, hfz7_1, hfz7_2, hfz7_3, hfz7_4, hfz7_5⟩ := kf6 BK163.out; obtain ⟨Ao8, co8, eo8⟩ := Kd.R_slice HO162.out; subst eo8; obtain ⟨hcz9_0, hcz9_1, hcz9_2, hcz9_3, hcz9_4, hcz9_5⟩ := kc6 BK154.out; obtain ⟨hfz9_0, hfz9_1, hfz9_2, hfz9_3, hfz9_4, hfz9_5⟩ := kf6 BK154.out))
 (try simp only [Act.put, List.setIfInBounds_toArray, List.set_cons_zero, List.set_cons_succ])
 have q1 : ((World.setCell (World.setCell (World.setCell (World.setCell (World.setCell (World.setCell (World.setCell (World.setCell w5 ⟨gb163, 0, none⟩ (.int .i64 t155)) ⟨gb163, 1, none⟩ (.int .i64 t156)) ⟨gb163, 2, none⟩ (.int .i64 t157)) ⟨gb163, 3, none⟩ (.int .i64 t158)) ⟨gb163, 4, none⟩ (.int .i64 t159)) ⟨gb163, 5, none⟩ (.slice Ao8 t160.length co8)) ⟨gb163, 0, none⟩ (.int .i64 7)) ⟨gb163, 1, none⟩ (.int .i64 a0))).heap[gb163]? = some (.cells #[.int .i64 7, .int .i64 a0, .int .i64 t157, .int .i64 t158, .int .i64 t159, .slice Ao8 t160.length co8] 24 (0, 0)) := by refine blk_put (cs := #[.int .i64 7, .int .i64 t156, .int .i64 t157, .int .i64 t158, .int .i64 t159, .slice Ao8 t160.length co8]) ?_ 1 _ rfl; refine blk_put (cs := #[.int .i64 t155, .int .i64 t156, .int .i64 t157, .int .i64 t158, .int .i64 t159, .slice Ao8 t160.length co8]) ?_ 0 _ rfl; refine blk_put (cs := #[.int .i64 t155, .int .i64 t156, .int .i64 t157, .int .i64 t158, .int .i64 t159, .slice none 0 0]) ?_ 5 _ rfl; refine blk_put (cs := #[.int .i64 t155, .int .i64 t156, .int .i64 t157, .int .i64 t158, .int .i64 0, .slice none 0 0]) ?_ 4 _ rfl; refine blk_put (cs := #[.int .i64 t155, .int .i64 t156, .int .i64 t157, .int .i64 0, .int .i64 0, .slice none 0 0]) ?_ 3 _ rfl; refine blk_put (cs := #[.int .i64 t155, .int .i64 t156, .int .i64 0, .int .i64 0, .int .i64 0, .slice none 0 0]) ?_ 2 _ rfl; refine blk_put (cs := #[.int .i64 t155, .int .i64 0, .int .i64 0, .int .i64 0, .int .i64 0, .slice none 0 0]) ?_ 1 _ rfl; refine blk_put (cs := #[.int .i64 0, .int .i64 0, .int .i64 0, .int .i64 0, .int .i64 0, .slice none 0 0]) ?_ 0 _ rfl; exact BK163.out
 have q2 : ((World.setCell (World.setCell (World.setCell (World.setCell (World.setCell (World.setCell (World.setCell (World.setCell w5 ⟨gb163, 0, none⟩ (.int .i64 t155)) ⟨gb163, 1, none⟩ (.int .i64 t156)) ⟨gb163, 2, none⟩ (.int .i64 t157)) ⟨gb163, 3, none⟩ (.int .i64 t158)) ⟨gb163, 4, none⟩ (.int .i64 t159)) ⟨gb163, 5, none⟩ (.slice Ao8 t160.length co8)) ⟨gb163, 0, none⟩ (.int .i64 7)) ⟨gb163, 1, none⟩ (.int .i64 a0))).heap[gb154]? = some (.cells #[.int .i64 0, .int .i64 0, .int .i64 0, .int .i64 0, .int .i64 0, .slice none 0 0] 24 (0, 0)) := by refine blk_far ?_ NB154_163.out _; refine blk_far ?_ NB154_163.out _; refine blk_far ?_ NB154_163.out _; refine blk_far ?_ NB154_163.out _; refine blk_far ?_ NB154_163.out _; refine blk_far ?_ NB154_163.out _; refine blk_far ?_ NB154_163.out _; refine blk_far ?_ NB154_163.out _; exact BK154.out
 have q3 : Below w.heap.size w ((World.setCell (World.setCell (World.setCell (World.setCell (World.setCell (World.setCell (World.setCell (World.setCell w5 ⟨gb163, 0, none⟩ (.int .i64 t155)) ⟨gb163, 1, none⟩ (.int .i64 t156)) ⟨gb163, 2, none⟩ (.int .i64 t157)) ⟨gb163, 3, none⟩ (.int .i64 t158)) ⟨gb163, 4, none⟩ (.int .i64 t159)) ⟨gb163, 5, none⟩ (.slice Ao8 t160.length co8)) ⟨gb163, 0, none⟩ (.int .i64 7)) ⟨gb163, 1, none⟩ (.int .i64 a0))) := by (with_reducible repeat (first | exact HB.out | refine below_set ?_ GE163.out))
 have q4 : Kd.R k68 68 ((World.setCell (World.setCell (World.setCell (World.setCell (World.setCell (World.setCell (World.setCell (World.setCell w5 ⟨gb163, 0, none⟩ (.int .i64 t155)) ⟨gb163, 1, none⟩ (.int .i64 t156)) ⟨gb163, 2, none⟩ (.int .i64 t157)) ⟨gb163, 3, none⟩ (.int .i64 t158)) ⟨gb163, 4, none⟩ (.int .i64 t159)) ⟨gb163, 5, none⟩ (.slice Ao8 t160.length co8)) ⟨gb163, 0, none⟩ (.int .i64 7)) ⟨gb163, 1, none⟩ (.int .i64 a0))) w.heap.size (fun _ => True) (.slice Ao8 t160.length co8) t160 := Kd.R_mono (Kd.R_far (p := ⟨gb163, 1, none⟩) (Kd.R_far (p := ⟨gb163, 0, none⟩) (Kd.R_far (p := ⟨gb163, 5, none⟩) (Kd.R_far (p := ⟨gb163, 4, none⟩) (Kd.R_far (p := ⟨gb163, 3, none⟩) (Kd.R_far (p := ⟨gb163, 2, none⟩) (Kd.R_far (p := ⟨gb163, 1, none⟩) (Kd.R_far (p := ⟨gb163, 0, none⟩) (Kd.R_types HO162.out BK163.out (by decide)) (fun _ hk => hk.2) (.int .i64 t155)) (fun _ hk => hk.2) (.int .i64 t156)) (fun _ hk => hk.2) (.int .i64 t157)) (fun _ hk => hk.2) (.int .i64 t158)) (fun _ hk => hk.2) (.int .i64 t159)) (fun _ hk => hk.2) (.slice Ao8 t160.length co8)) (fun _ hk => hk.2) (.int .i64 7)) (fun _ hk => hk.2) (.int .i64 a0)) (fun _ _ => trivial)
 clear hcz7_0 hcz7_1 hcz7_2 hcz7_3 hcz7_4 hcz7_5 hfz7_0 hfz7_1 hfz7_2 hfz7_3 hfz7_4 hfz7_5 hcz9_0 hcz9_1 hcz9_2 hcz9_3 hcz9_4 hcz9_5 hfz9_0 hfz9_1 hfz9_2 hfz9_3 hfz9_4 hfz9_5
 generalize (World.setCell (World.setCell (World.setCell (World.setCell (World.setCell (World.setCell (World.setCell (World.setCell w5 ⟨gb163, 0, none⟩ (.int .i64 t155)) ⟨gb163, 1, none⟩ (.int .i64 t156)) ⟨gb163, 2, none⟩ (.int .i64 t157)) ⟨gb163, 3, none⟩ (.int .i64 t158)) ⟨gb163, 4, none⟩ (.int .i64 t159)) ⟨gb163, 5, none⟩ (.slice Ao8 t160.length co8)) ⟨gb163, 0, none⟩ (.int .i64 7)) ⟨gb163, 1, none⟩ (.int .i64 a0)) = w9 at q1 q2 q3 q4 ⊢
 have hy0 : w9.cell? ⟨gb163, 0, none⟩ = some (.int .i64 7) := (blk_cell q1 0).trans rfl
 have hz0 : w9.cell? ⟨gb154, 0, none⟩ = some (.int .i64 0) := (blk_cell q2 0).trans rfl
 have hf0 := blk_frozen q2 0
 have he0 := blk_frozen q1 0
 have hy1 : w9.cell? ⟨gb163, 1, none⟩ = some (.int .i64 a0) := (blk_cell q1 1).trans rfl
 have hz1 : w9.cell? ⟨gb154, 1, none⟩ = some (.int .i64 0) := (blk_cell q2 1).trans rfl
 have hf1 := blk_frozen q2 1
 have he1 := blk_frozen q1 1
 have hy2 : w9.cell? ⟨gb163, 2, none⟩ = some (.int .i64 t157) := (blk_cell q1 2).trans rfl
 have hz2 : w9.cell? ⟨gb154, 2, none⟩ = some (.int .i64 0) := (blk_cell q2 2).trans rfl
 have hf2 := blk_frozen q2 2
 have he2 := blk_frozen q1 2
 have hy3 : w9.cell? ⟨gb163, 3, none⟩ = some (.int .i64 t158) := (blk_cell q1 3).trans rfl
 have hz3 : w9.cell? ⟨gb154, 3, none⟩ = some (.int .i64 0) := (blk_cell q2 3).trans rfl
 have hf3 := blk_frozen q2 3
 have he3 := blk_frozen q1 3
 have hy4 : w9.cell? ⟨gb163, 4, none⟩ = some (.int .i64 t159) := (blk_cell q1 4).trans rfl
 have hz4 : w9.cell? ⟨gb154, 4, none⟩ = some (.int .i64 0) := (blk_cell q2 4).trans rfl
 have hf4 := blk_frozen q2 4
 have he4 := blk_frozen q1 4
 have hy5 : w9.cell? ⟨gb163, 5, none⟩ = some (.slice Ao8 t160.length co8) := (blk_cell q1 5).trans rfl
 have hz5 : w9.cell? ⟨gb154, 5, none⟩ = some (.slice none 0 0) := (blk_cell q2 5).trans rfl
 have hf5 := blk_frozen q2 5
 have he5 := blk_frozen q1 5
 have hn := NB154_163.out
 have hn2 := Ne.symm hn
 go_wp2
 refine bodyPost_ret (results_cell_row rfl _ _ gb154 24 #[.int .i64 7, .int .i64 a0, .int .i64 t157, .int .i64 t158, .int .i64 t159, .slice Ao8 t160.length co8] (0, 0) _ rfl (by refine blk_put (cs := #[.int .i64 7, .int .i64 a0, .int .i64 t157, .int .i64 t158, .int .i64 t159, .slice none 0 0]) ?_ 5 _ rfl; refine blk_put (cs := #[.int .i64 7, .int .i64 a0, .int .i64 t157, .int .i64 t158, .int .i64 0, .slice none 0 0]) ?_ 4 _ rfl; refine blk_put (cs := #[.int .i64 7, .int .i64 a0, .int .i64 t157, .int .i64 0, .int .i64 0, .slice none 0 0]) ?_ 3 _ rfl; refine blk_put (cs := #[.int .i64 7, .int .i64 a0, .int .i64 0, .int .i64 0, .int .i64 0, .slice none 0 0]) ?_ 2 _ rfl; refine blk_put (cs := #[.int .i64 7, .int .i64 0, .int .i64 0, .int .i64 0, .int .i64 0, .slice none 0 0]) ?_ 1 _ rfl; refine blk_put (cs := #[.int .i64 0, .int .i64 0, .int .i64 0, .int .i64 0, .int .i64 0, .slice none 0 0]) ?_ 0 _ rfl; exact q2) Try.underlying24 rfl (by kernel_rfl)) rfl ?_
 exact ⟨_, rfl, Kd.R_mono (Kd.R_far (p := ⟨gb154, 5, none⟩) (Kd.R_far (p := ⟨gb154, 4, none⟩) (Kd.R_far (p := ⟨gb154, 3, none⟩) (Kd.R_far (p := ⟨gb154, 2, none⟩) (Kd.R_far (p := ⟨gb154, 1, none⟩) (Kd.R_far (p := ⟨gb154, 0, none⟩) (Kd.R_types q4 q2 (by decide)) (fun _ hk => hk.2) (.int .i64 7)) (fun _ hk => hk.2) (.int .i64 a0)) (fun _ hk => hk.2) (.int .i64 t157)) (fun _ hk => hk.2) (.int .i64 t158)) (fun _ hk => hk.2) (.int .i64 t159)) (fun _ hk => hk.2) (.slice Ao8 t160.length co8)) (fun _ _ => trivial), by (with_reducible repeat (first | exact q3 | refine below_set ?_ GE154.out))⟩

-- its contract: by hand
/-! ### slices_Clone_Op: function 58 -/
def slices_Clone_Op.f (l0 : List (S68)) : Option ((List (S68))) := if l0.length < 4398046511104 then some l0 else none

end Go.Proofs.Ytmidohjfajbpmaa.P
end
section
set_option linter.unusedVariables false
set_option linter.unusedSimpArgs false
set_option maxHeartbeats 4000000
namespace Go.Proofs.Ytmidohjfajbpmaa.P
open Go.RowKit Go.Proofs.YtmidohjfajbpmaaW.PrintWords Go.Proofs.YtmidohjfajbpmaaW.PrintLast Go.Proofs.YtmidohjfajbpmaaW.PrintMore

theorem row_none {α : Type} {d : Kd α} {w : World} {n : Nat} {l : List α} (h : d.C w none n l) : l = [] := by
  have h3 := h.2.2
  rcases Nat.eq_zero_or_pos n with e | e
  · exact List.eq_nil_of_length_eq_zero (h.1.trans e)
  · obtain ⟨ad, e2, _⟩ := h3 e
    cases e2
set_option maxRecDepth 100000 in
theorem slices_Clone_Op.calls (A0 : Option Addr) (c0 : Nat) (l0 : List (S68)) (r : List (S68)) (w : World) (hr0 : Kd.C k68 w A0 l0.length l0) (hc0 : l0.length ≤ c0) (h : slices_Clone_Op.f l0 = some r) :
    Calls Try.prog 58 #[.slice A0 l0.length c0] w fun e w' => ∃ v0_ : Value, e = .returned (v0_) ∧ Kd.R k68 68 w' w.heap.size (fun _ => True) v0_ r ∧ Below w.heap.size w w' := by
  unfold slices_Clone_Op.f at h
  split at h
  case isFalse => cases h
  rename_i hl
  obtain rfl := Option.some.inj h
  clear h
  cases A0 with
  | none =>
    obtain rfl := row_none hr0
    clear hr0 hl
    simp only [List.length_nil]
    have kn := fun (w : World) => run_eql_slice_nil (P := Try.prog) w 22 68 none 0 c0 Try.underlying22
    go_enter Try.func58, Try.ntmps58
    go_wp2
    go_ret
    exact ⟨_, rfl, Kd.R_nil _ _ _ _ _, Below.refl _ _⟩
  | some ad =>
    have hu22 := Try.underlying22
    have HR0 := Aside0.mk hr0
    have LM := Aside0.mk hl
    clear hr0 hl
    have HB := Aside0.mk (Below.refl w.heap.size w)
    have kn := fun (w : World) => run_eql_slice_nil (P := Try.prog) w 22 68 (some ad) l0.length c0 Try.underlying22
    go_enter Try.func58, Try.ntmps58
    go_wp2_with (first | ((with_reducible refine gate_dst (N := 5) rfl ?_); refine Kd.R_lit k68 _ 68 ?hg (N := 5) ?hd (xs := ([] : List (S68))) (inner := []) (ok := fun _ => True) (okp := fun _ => True) ?hr ?hp (fun _ hk => hk) trivial (Below.refl _ _) (Nat.le_refl _) (by simp) ?_; (case hd => rfl); (case hg => rfl); (case hr => first | (go_simp; done) | (go_simp; rfl)); (case hp => exact (Reps.none _ _)); intro v169 w5 ho6 hb hg_ hnew_; clear hg_ hnew_; have n0_ := Aside0.mk (Kd.R_lower ho6 (below_size (by repeat (first | (with_reducible first | exact HB.out | apply below_alloc | apply pw_below_drewN | apply below_drew1) | exact HB.out)))); have n3_ := Aside0.mk (below_step (by repeat (first | (with_reducible first | exact HB.out | apply below_alloc | apply pw_below_drewN | apply below_drew1) | exact HB.out)) hb); clear HB; have HO170 := n0_; have HB := n3_; clear n0_ n3_; clear hb ho6) | ((with_reducible refine gate_builtin (b := .append) (xs := #[.tmp 5, .tmp 6]) rfl ?_); at_builtin; refine Kd.R_append_rows k68 (w0 := w) w.heap.size rfl (.tmp 5) (.tmp 6) 22 68 (.agg #[(.bool false), (.int .i64 0), (.string ⟨#[]⟩)]) 32 rfl Try.underlying22 info68 rfl (by decide) (by omega) v169 [] l0 _ _ _ (fun _ => True) (fun _ => False) rfl rfl ?aO ?aR (fun _ _ h => h) (fun _ h => h.elim) ?aF ?aB ?aS ?aL ?_; (case aR => repeat (first | exact (Kd.C_below HR0.out HB.out) | (with_reducible refine Kd.C_alloc ?_ _) | (with_reducible refine Kd.C_drewN ?_ _) | (with_reducible refine Kd.C_drew ?_))); (case aB => exact (by repeat (first | (with_reducible first | exact HB.out | apply below_alloc | apply pw_below_drewN | apply below_drew1) | exact HB.out))); (case aF => exact (fun _ _ => trivial)); (case aO => exact (by (with_reducible repeat (first | apply Kd.R_alloc | apply Kd.R_drewN | apply Kd.R_drew)); exact HO170.out)); (case aS => exact (below_size (by repeat (first | (with_reducible first | exact HB.out | apply below_alloc | apply pw_below_drewN | apply below_drew1) | exact HB.out)))); (case aL => have := LM.out; simp only [List.length_nil]; omega); intro v172 w9 ho hb hg hat; have n2_ := Aside0.mk (hb); have n3_ := Aside0.mk (ho); clear HB; clear HO170; have HB := n2_; have HO173 := n3_; clear n2_ n3_; clear ho hb hg hat))
    go_ret
    exact ⟨_, by first | rfl | (simp; done), HO173.out, by repeat (first | (with_reducible first | exact HB.out | apply below_alloc | apply pw_below_drewN | apply below_drew1) | exact HB.out)⟩

end Go.Proofs.Ytmidohjfajbpmaa.P
end
