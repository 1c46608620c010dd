/- container/heap over *choose.queue: what Less, Swap, Len do to the heap's state. -/
import Derived.Test.YtdijecmpaoabbaaZ2QueW
import Derived.Test.YtdijecmpaoabbaaZ2HeapP
import Derived.Test.YtdijecmpaoabbaaZ2ScnA
import Derived.Test.YtdijecmpaoabbaaZ2Px2
import Derived.Test.YtdijecmpaoabbaaZ2Px3
set_option linter.unusedVariables false
set_option linter.unusedSimpArgs false
set_option maxHeartbeats 4000000
namespace Go.Proofs.Ytdijecmpaoabbaa
open Go.RowKit Go.Proofs.YtdijecmpaoabbaaW.PrintWords Go.Proofs.YtdijecmpaoabbaaW.PrintMore Go.Proofs.YtdijecmpaoabbaaW.PrintLast

abbrev pz : Plc := P.z25
def pkey (p : Plc) : Int := p.f1.f0 * 1000 + p.f0
/-- The heap's state: a queue's variable g, its row. -/
structure StH (w0 : World) (g : Nat) (A : Option Addr) (c : Nat) (l : List Plc) (w : World) : Prop where
  below : Below w0.heap.size w0 w
  row : Kd.R P.k25 25 w w0.heap.size (fun k => some k = (Value.slice A l.length c).ownBlock) (.slice A l.length c) l
  box : w.heap[g]? = some (.cells #[.slice A l.length c] 56 (0, 0))
  mine : w0.heap.size ≤ g
  apart : some g ≠ (Value.slice A l.length c).ownBlock
theorem StH.cell {w0 g A c l w} (h : StH w0 g A c l w) : w.cell? ⟨g, 0, none⟩ = some (.slice A l.length c) := (blk_cell h.box 0).trans rfl
theorem StH.step {w0 g A c l w w'} (h : StH w0 g A c l w) (hb : Below w.heap.size w w') : StH w0 g A c l w' where
  below := h.below.trans (hb.mono h.below.size)
  row := Kd.R_below h.row hb
  box := blk_below h.box hb
  mine := h.mine
  apart := h.apart
/-- Places as a flash has them. -/
def Ats (l : List Plc) : Prop := ∀ p ∈ l, 0 ≤ p.f0 ∧ p.f0 < 192
theorem less_f (l : List Plc) (hl : Ats l) (i j : Nat) (hi : i < l.length) (hj : j < l.length) : P.choose_queue_Less.f l i j = some (decide (pkey (l.getD i pz) > pkey (l.getD j pz))) := by
  have mem : ∀ k (hk : k < l.length), l.getD k pz ∈ l := fun k hk => by rw [List.getD_eq_getElem?_getD, List.getElem?_eq_getElem hk]; exact List.getElem_mem hk
  have ri : P.rd_T25 l (i : Int) = l.getD i pz := rfl
  have rj : P.rd_T25 l (j : Int) = l.getD j pz := rfl
  have ai := hl _ (mem i hi)
  have aj := hl _ (mem j hj)
  unfold P.choose_queue_Less.f
  rw [if_pos (by omega), if_pos (by omega), if_pos (by omega), if_pos (by omega), ri, rj]
  generalize l.getD i pz = p at ai
  generalize l.getD j pz = q at aj
  unfold pkey
  by_cases h : p.f1.f0 = q.f1.f0
  · rw [if_pos h]
    congr 1
    rw [decide_eq_decide]
    omega
  · rw [if_neg h]
    congr 1
    rw [decide_eq_decide]
    omega
theorem hless_calls {w0 g A c l w} (h : StH w0 g A c l w) (hl : Ats l) (i j : Nat) (hi : i < l.length) (hj : j < l.length) :
    Calls Try.prog 78 #[.slice A l.length c, .int .i64 i, .int .i64 j] w fun e w' => e = .returned (.bool (decide (pkey (l.getD i pz) > pkey (l.getD j pz)))) ∧ StH w0 g A c l w' :=
  (P.choose_queue_Less.calls A c l i j _ w (Kd.R_reads' h.row).2.2 (Kd.R_reads' h.row).2.1 (less_f l hl i j hi hj)).mono fun e w' ⟨he, hb⟩ => ⟨he, h.step hb⟩
theorem swap_f (l : List Plc) (i j : Nat) (hi : i < l.length) (hj : j < l.length) : P.choose_queue_Swap.f l i j = some (Hp.swp pz l i j) := by
  unfold P.choose_queue_Swap.f
  rw [if_pos (by omega), if_pos (by omega), if_pos (by omega), if_pos (by omega)]; rfl
theorem hswap_calls {w0 g A c l w} (h : StH w0 g A c l w) (i j : Nat) (hi : i < l.length) (hj : j < l.length) :
    Calls Try.prog 79 #[.slice A l.length c, .int .i64 i, .int .i64 j] w fun e w' => e = .returned (.tuple #[]) ∧ StH w0 g A c (Hp.swp pz l i j) w' :=
  (P.choose_queue_Swap.calls _ _ l i j _ w0 w h.below h.row (swap_f l i j hi hj)).mono fun e w' ⟨he, hr, hb, hk⟩ => by
    have hlt : g < w.heap.size := by
      rcases Nat.lt_or_ge g w.heap.size with h1 | h1
      · exact h1
      · have := h.box; rw [Array.getElem?_eq_none h1] at this; cases this
    refine ⟨he, ⟨hb, ?_, ?_, h.mine, ?_⟩⟩
    · rw [Hp.swp_length]
      exact Kd.R_tight rfl hr
    · rw [Hp.swp_length, hk.2 g hlt (fun e => h.apart e)]
      exact h.box
    · rw [Hp.swp_length]; exact h.apart
theorem hlen_calls {w0 g A c l w} (h : StH w0 g A c l w) : Calls Try.prog 24 #[.slice A l.length c] w fun e w' => e = .returned (.int .i64 (l.length : Int)) ∧ StH w0 g A c l w' :=
  (P.choose_queue_Len.calls A c l _ w (Kd.R_reads' h.row).2.2 (Kd.R_reads' h.row).2.1 rfl).mono fun e w' ⟨he, hd⟩ => ⟨he, by
    obtain ⟨n, rfl⟩ := hd.out
    exact h.step (pw_below_drewN (Below.refl _ _) n)⟩

/-- A call of Less through the interface. -/
theorem inv_less {w0 g A c l} (i j : Nat) {ix jx : Int} {W : World} {ops : Array Oper} {rest : List Oper} {o : Oper} {a : Act} {Q : Exit → Act → World → Prop} (hg : o.guard = none) {r x y : Operand} {ts : Array TypeId}
    (hop : o.op = Op.call { callee := Callee.invoke r "Less", args := #[x, y], argTypes := ts }) (hr : a.eval r = .iface 58 (.pointer (some ⟨g, 0, none⟩))) (hx : a.eval x = .int .i64 ix) (hy : a.eval y = .int .i64 jx) (ei : ix = i) (ej : jx = j)
    (S : StH w0 g A c l W) (hl : Ats l) (hi : i < l.length) (hj : j < l.length) (hK : ∀ w', StH w0 g A c l w' → wpList Try.prog ops Q rest (a.put o.dst (.bool (decide (pkey (l.getD i pz) > pkey (l.getD j pz))))) w') : wpList Try.prog ops Q (o :: rest) a W := by
  subst ei ej
  refine wpList_plain hg fun K hK' => ?_
  have m0 := fun n => que_less n g _ W S.cell
  have eL : ∀ args w, (callFunc 78 args).run Try.prog w = .ok (.enter 78 args) w := enters_ Try.func78 (by kernel_rfl) rfl
  have hrun : (execOp a.eval o).run Try.prog W = .ok (.enter 78 #[.slice A l.length c, .int .i64 i, .int .i64 j]) W := by
    generalize a.eval = ρ at hr hx hy
    simp [execOp, hop, resolve, invoke, callMethod, go_sem, hr, hx, hy, m0, eL]
  unfold Oper.wp
  rw [hrun, Oper.upon_enter]
  refine (hless_calls S hl i j hi hj).mono ?_
  rintro e w' ⟨rfl, S'⟩
  exact hK' _ _ (hK _ S')
theorem inv_swap {w0 g A c l} (i j : Nat) {ix jx : Int} {W : World} {ops : Array Oper} {rest : List Oper} {o : Oper} {a : Act} {Q : Exit → Act → World → Prop} (hg : o.guard = none) {r x y : Operand} {ts : Array TypeId}
    (hop : o.op = Op.call { callee := Callee.invoke r "Swap", args := #[x, y], argTypes := ts }) (hr : a.eval r = .iface 58 (.pointer (some ⟨g, 0, none⟩))) (hx : a.eval x = .int .i64 ix) (hy : a.eval y = .int .i64 jx) (ei : ix = i) (ej : jx = j)
    (S : StH w0 g A c l W) (hi : i < l.length) (hj : j < l.length) (hK : ∀ w', StH w0 g A c (Hp.swp pz l i j) w' → wpList Try.prog ops Q rest (a.put o.dst (.tuple #[])) w') : wpList Try.prog ops Q (o :: rest) a W := by
  subst ei ej
  refine wpList_plain hg fun K hK' => ?_
  have m0 := fun n => que_swap n g _ W S.cell
  have eL : ∀ args w, (callFunc 79 args).run Try.prog w = .ok (.enter 79 args) w := enters_ Try.func79 (by kernel_rfl) rfl
  have hrun : (execOp a.eval o).run Try.prog W = .ok (.enter 79 #[.slice A l.length c, .int .i64 i, .int .i64 j]) W := by
    generalize a.eval = ρ at hr hx hy
    simp [execOp, hop, resolve, invoke, callMethod, go_sem, hr, hx, hy, m0, eL]
  unfold Oper.wp
  rw [hrun, Oper.upon_enter]
  refine (hswap_calls S i j hi hj).mono ?_
  rintro e w' ⟨rfl, S'⟩
  exact hK' _ _ (hK _ S')
theorem inv_len {w0 g A c l} {W : World} {ops : Array Oper} {rest : List Oper} {o : Oper} {a : Act} {Q : Exit → Act → World → Prop} (hg : o.guard = none) {r : Operand} {ts : Array TypeId}
    (hop : o.op = Op.call { callee := Callee.invoke r "Len", args := #[], argTypes := ts }) (hr : a.eval r = .iface 58 (.pointer (some ⟨g, 0, none⟩)))
    (S : StH w0 g A c l W) (hK : ∀ w', StH w0 g A c l w' → wpList Try.prog ops Q rest (a.put o.dst (.int .i64 (l.length : Int))) w') : wpList Try.prog ops Q (o :: rest) a W := by
  refine wpList_plain hg fun K hK' => ?_
  have m0 := fun n => que_len n g _ W S.cell
  have eL : ∀ args w, (callFunc 24 args).run Try.prog w = .ok (.enter 24 args) w := enters_ Try.func24 (by kernel_rfl) rfl
  have hrun : (execOp a.eval o).run Try.prog W = .ok (.enter 24 #[.slice A l.length c]) W := by
    generalize a.eval = ρ at hr
    simp [execOp, hop, resolve, invoke, callMethod, go_sem, hr, m0, eL]
  unfold Oper.wp
  rw [hrun, Oper.upon_enter]
  refine (hlen_calls S).mono ?_
  rintro e w' ⟨rfl, S'⟩
  exact hK' _ _ (hK _ S')

end Go.Proofs.Ytdijecmpaoabbaa
