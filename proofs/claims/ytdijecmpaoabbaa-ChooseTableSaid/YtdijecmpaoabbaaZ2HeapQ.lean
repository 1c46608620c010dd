/- (*choose.queue).Pop and container/heap.Pop. -/
import Derived.Test.YtdijecmpaoabbaaZ2HeapI
set_option linter.unusedVariables false
set_option linter.unusedSimpArgs false
set_option maxHeartbeats 4000000
namespace Go.Proofs.Ytdijecmpaoabbaa
open Go.RowKit Go.Proofs.YtdijecmpaoabbaaW.PrintWords Go.Proofs.YtdijecmpaoabbaaW.PrintMore Go.Proofs.YtdijecmpaoabbaaW.PrintLast

theorem own_len (A : Option Addr) (n m c : Nat) : (Value.slice A n c).ownBlock = (Value.slice A m c).ownBlock := by
  cases A with
  | none => rfl
  | some a => rfl
theorem StH.glt {w0 g A c l w} (h : StH w0 g A c l w) : g < w.heap.size := blk_lt h.box
theorem StH.olt {w0 g A c l w} (h : StH w0 g A c l w) (k : Nat) (hk : (Value.slice A l.length c).ownBlock = some k) : k < w.heap.size := by
  obtain ⟨h0, inner, ho, hr⟩ := h.row
  exact own_lt ho k hk
theorem StH.far {w0 g A c l w} (h : StH w0 g A c l w) {gb : Nat} (h1 : g ≠ gb) (h2 : some gb ≠ (Value.slice A l.length c).ownBlock) (h3 : w0.heap.size ≤ gb) (i : Nat) (u : Value) : StH w0 g A c l (w.setCell ⟨gb, i, none⟩ u) where
  below := below_set h.below h3
  row := Kd.R_far h.row (fun k hk e => h2 (by rw [← hk]; exact congrArg some e.symm)) u
  box := blk_far h.box h1 u
  mine := h.mine
  apart := h.apart
theorem StH.cut {w0 g A c l w} (h : StH w0 g A c l w) (m : Nat) (hm : m ≤ l.length) : StH w0 g A c (l.take m) (w.setCell ⟨g, 0, none⟩ (.slice A m c)) := by
  have hl : (l.take m).length = m := by rw [List.length_take]; omega
  refine ⟨below_set h.below h.mine, ?_, ?_, h.mine, ?_⟩
  · rw [hl]
    refine Kd.R_mono (Kd.R_far (Kd.R_take h.row hm) (fun k hk e => h.apart (by rw [← hk]; exact congrArg some e.symm)) _) (fun k hk => ?_)
    rw [hk]; exact own_len A _ _ c
  · rw [hl]; exact blk_set h.box 0 _
  · rw [hl, own_len A m l.length c]; exact h.apart
def pval (p : Plc) : Value := .agg #[.int .i64 p.f0, .int .i64 p.f1.f0, .int .i64 p.f1.f1, .int .i64 p.f1.f2, .int .i64 p.f1.f3]
theorem qpop_calls {w0 g A c l w} (h : StH w0 g A c l w) (hl : l ≠ []) (hc : l.length < 4611686018427387904) :
    Calls Try.prog 80 #[.pointer (some ⟨g, 0, none⟩)] w fun e w' => e = .returned (.iface 25 (pval (l.getD (l.length - 1) pz))) ∧ StH w0 g A c (l.take (l.length - 1)) w' := by
  obtain ⟨m, hm⟩ : ∃ m, l.length = m + 1 := ⟨l.length - 1, by have := List.length_pos_iff.2 hl; omega⟩
  have hpv : pval (l.getD (l.length - 1) pz) = .agg #[.int .i64 (P.rd_T25 l (m : Int)).f0, .int .i64 (P.rd_T25 l (m : Int)).f1.f0, .int .i64 (P.rd_T25 l (m : Int)).f1.f1, .int .i64 (P.rd_T25 l (m : Int)).f1.f2, .int .i64 (P.rd_T25 l (m : Int)).f1.f3] := by
    rw [hm]; rfl
  rw [hpv]
  clear hpv
  have S := Aside0.mk h
  obtain ⟨ad, e1, hx0, hx1, hx2, hx3, hx4⟩ := P.at_T25 (Kd.R_reads' h.row).2.2 (m : Int) (by omega) (by omega)
  subst e1
  have hg := h.cell
  rw [hm] at hg
  have hf : w.frozen? ⟨g, 0, none⟩ = false := blk_frozen h.box 0
  have hlc : l.length ≤ c := (Kd.R_reads' h.row).2.1
  rw [hm] at hlc
  have hmc : m ≤ c := by omega
  have hmc2 : (m : Int) ≤ (c : Int) := by omega
  clear h hlc
  have hc2 := hc
  rw [hm] at hc2
  have hmi : ((m : Int) < (m : Int) + 1) = True := eq_true (by omega)
  simp only [Int.toNat_natCast] at hx0 hx1 hx2 hx3 hx4
  generalize P.rd_T25 l (m : Int) = p at hx0 hx1 hx2 hx3 hx4 ⊢
  go_enter Try.func80, Try.ntmps80
  go_wp2_with (first | ((with_reducible refine gate_dst (N := 4) rfl ?_); refine box_event ?hg (N := 4) ?hd (cs := #[.int .i64 0, .int .i64 0, .int .i64 0, .int .i64 0, .int .i64 0]) (t := 25) ?hr ?_; (case hd => rfl); (case hg => rfl); (case hr => first | (go_simp; done) | (go_simp; rfl)); intro gb hgb W hbox hb; have S2 := Aside0.mk (S.out.step hb); have G1 := Aside0.mk (show g ≠ gb from fun e => absurd S.out.glt (by omega)); have G2 := Aside0.mk (show some gb ≠ (Value.slice (some ad) l.length c).ownBlock from fun e => absurd (S.out.olt gb e.symm) (by omega)); have G3 := Aside0.mk (show _ ≤ gb from by rw [hgb]; exact S.out.below.size); have BX := Aside0.mk hbox; clear hx0 hx1 hx2 hx3 hx4 hg hf hgb hb hbox; have hcz0 : W.cell? ⟨gb, 0, none⟩ = some (.int .i64 0) := (blk_cell BX.out 0).trans rfl; have hcz1 : W.cell? ⟨gb, 1, none⟩ = some (.int .i64 0) := (blk_cell BX.out 1).trans rfl; have hcz2 : W.cell? ⟨gb, 2, none⟩ = some (.int .i64 0) := (blk_cell BX.out 2).trans rfl; have hcz3 : W.cell? ⟨gb, 3, none⟩ = some (.int .i64 0) := (blk_cell BX.out 3).trans rfl; have hcz4 : W.cell? ⟨gb, 4, none⟩ = some (.int .i64 0) := (blk_cell BX.out 4).trans rfl; have hfz0 := blk_frozen BX.out 0; have hfz1 := blk_frozen BX.out 1; have hfz2 := blk_frozen BX.out 2; have hfz3 := blk_frozen BX.out 3; have hfz4 := blk_frozen BX.out 4) | ((with_reducible refine gate_dst (N := 19) rfl ?_); (have S3 := Aside0.mk (show StH w0 g (some ad) c l (World.setCell (World.setCell (World.setCell (World.setCell (World.setCell W ⟨gb, 0, none⟩ (Value.int IntKind.i64 p.f0)) ⟨gb, 1, none⟩ (Value.int IntKind.i64 p.f1.f0)) ⟨gb, 2, none⟩ (Value.int IntKind.i64 p.f1.f1)) ⟨gb, 3, none⟩ (Value.int IntKind.i64 p.f1.f2)) ⟨gb, 4, none⟩ (Value.int IntKind.i64 p.f1.f3)) from (((((S2.out.far G1.out G2.out G3.out 0 _).far G1.out G2.out G3.out 1 _).far G1.out G2.out G3.out 2 _).far G1.out G2.out G3.out 3 _).far G1.out G2.out G3.out 4 _))); (have BX3 := Aside0.mk (show (World.heap (World.setCell (World.setCell (World.setCell (World.setCell (World.setCell W ⟨gb, 0, none⟩ (Value.int IntKind.i64 p.f0)) ⟨gb, 1, none⟩ (Value.int IntKind.i64 p.f1.f0)) ⟨gb, 2, none⟩ (Value.int IntKind.i64 p.f1.f1)) ⟨gb, 3, none⟩ (Value.int IntKind.i64 p.f1.f2)) ⟨gb, 4, none⟩ (Value.int IntKind.i64 p.f1.f3)))[gb]? = some (.cells #[.int .i64 p.f0, .int .i64 p.f1.f0, .int .i64 p.f1.f1, .int .i64 p.f1.f2, .int .i64 p.f1.f3] 25 (0, 0)) from (blk_set (blk_set (blk_set (blk_set (blk_set BX.out 0 _) 1 _) 2 _) 3 _) 4 _))); clear hcz0 hcz1 hcz2 hcz3 hcz4 hfz0 hfz1 hfz2 hfz3 hfz4; (generalize (World.setCell (World.setCell (World.setCell (World.setCell (World.setCell W ⟨gb, 0, none⟩ (Value.int IntKind.i64 p.f0)) ⟨gb, 1, none⟩ (Value.int IntKind.i64 p.f1.f0)) ⟨gb, 2, none⟩ (Value.int IntKind.i64 p.f1.f1)) ⟨gb, 3, none⟩ (Value.int IntKind.i64 p.f1.f2)) ⟨gb, 4, none⟩ (Value.int IntKind.i64 p.f1.f3)) = W2 at S3 BX3 ⊢); (have hg2 : W2.cell? ⟨g, 0, none⟩ = some (.slice (some ad) (m + 1) c) := by (rw [← hm]); exact S3.out.cell); (have hf2 : W2.frozen? ⟨g, 0, none⟩ = false := blk_frozen S3.out.box 0)) | ((with_reducible refine gate_dst (N := 23) rfl ?_); have S4 := Aside0.mk (S3.out.cut m (by omega)); have BX4 := Aside0.mk (blk_far BX3.out (p := ⟨g, 0, none⟩) G1.out.symm (.slice (some ad) m c)); clear hg2 hf2; generalize (World.setCell W2 ⟨g, 0, none⟩ (.slice (some ad) m c)) = W3 at S4 BX4 ⊢; have hy0 : W3.cell? ⟨gb, 0, none⟩ = some (.int .i64 p.f0) := (blk_cell BX4.out 0).trans rfl; have hy1 : W3.cell? ⟨gb, 1, none⟩ = some (.int .i64 p.f1.f0) := (blk_cell BX4.out 1).trans rfl; have hy2 : W3.cell? ⟨gb, 2, none⟩ = some (.int .i64 p.f1.f1) := (blk_cell BX4.out 2).trans rfl; have hy3 : W3.cell? ⟨gb, 3, none⟩ = some (.int .i64 p.f1.f2) := (blk_cell BX4.out 3).trans rfl; have hy4 : W3.cell? ⟨gb, 4, none⟩ = some (.int .i64 p.f1.f3) := (blk_cell BX4.out 4).trans rfl))
  go_ret
  exact ⟨rfl, by rw [hm, Nat.add_sub_cancel]; exact S4.out⟩

theorem inv_pop {w0 g A c l} {W : World} {ops : Array Oper} {rest : List Oper} {o : Oper} {a : Act} {Q : Exit → Act → World → Prop} (hg : o.guard = none) {r : Operand} {ts : Array TypeId}
    (hop : o.op = Op.call { callee := Callee.invoke r "Pop", args := #[], argTypes := ts }) (hr : a.eval r = .iface 58 (.pointer (some ⟨g, 0, none⟩)))
    (S : StH w0 g A c l W) (hl : l ≠ []) (hc : l.length < 4611686018427387904) (v : Value) (hv : pval (l.getD (l.length - 1) pz) = v) (hK : ∀ w', StH w0 g A c (l.take (l.length - 1)) w' → wpList Try.prog ops Q rest (a.put o.dst (.iface 25 v)) w') : wpList Try.prog ops Q (o :: rest) a W := by
  subst hv
  refine wpList_plain hg fun K hK' => ?_
  have m0 := fun n => que_pop n g W
  have eL : ∀ args w, (callFunc 80 args).run Try.prog w = .ok (.enter 80 args) w := enters_ Try.func80 (by kernel_rfl) rfl
  have hrun : (execOp a.eval o).run Try.prog W = .ok (.enter 80 #[.pointer (some ⟨g, 0, none⟩)]) W := by
    generalize a.eval = ρ at hr
    simp [execOp, hop, resolve, invoke, callMethod, go_sem, hr, m0, eL]
  unfold Oper.wp
  rw [hrun, Oper.upon_enter]
  refine (qpop_calls S hl hc).mono ?_
  rintro e w' ⟨rfl, S'⟩
  exact hK' _ _ (hK _ S')
theorem hpop_calls {w0 g A c l w} (h : StH w0 g A c l w) (hal : Ats l) (hl : l ≠ []) (hc : l.length < 4611686018427387904) :
    Calls Try.prog 25 #[.iface 58 (.pointer (some ⟨g, 0, none⟩))] w fun e w' => e = .returned (.iface 25 (pval (l.getD 0 pz))) ∧ StH w0 g A c (Hp.rest pz pkey l) w' := by
  have hp : 0 < l.length := List.length_pos_iff.2 hl
  have he : pval (l.getD 0 pz) = pval ((Hp.popped pz pkey l).getD ((Hp.popped pz pkey l).length - 1) pz) := by rw [Hp.popped_length, Hp.popped_last pz pkey l hl]
  have hr : Hp.rest pz pkey l = (Hp.popped pz pkey l).take ((Hp.popped pz pkey l).length - 1) := by rw [Hp.popped_length]; rfl
  have hpl := Hp.popped_length pz pkey l
  have hpn : Hp.popped pz pkey l ≠ [] := fun e => by rw [e] at hpl; exact absurd hpl (by simp only [List.length_nil]; omega)
  rw [he, hr]
  obtain ⟨m, hm⟩ : ∃ m, l.length = m + 1 := ⟨l.length - 1, by omega⟩
  have S : Aside _ := h
  clear h he hr
  generalize hv : pval ((Hp.popped pz pkey l).getD ((Hp.popped pz pkey l).length - 1) pz) = v
  have HV := Lib.hid hv
  clear hv
  go_enter Try.func25, Try.ntmps25
  go_wp2_with (first | ((with_reducible refine gate_dst (N := 5) rfl ?_); refine inv_len rfl rfl rfl S.out ?_; intro w1 S1; have T1 : Aside _ := S1; clear S S1; have S := T1; clear T1) | ((with_reducible refine gate_dst (N := 9) rfl ?_); refine inv_swap 0 (l.length - 1) rfl rfl rfl rfl rfl ?e1 ?e2 S.out (by omega) (by omega) ?_; (case e1 => omega); (case e2 => omega); intro w3 S1; have T1 : Aside _ := S1; clear S S1; have S := T1; clear T1) | (go_at_call 42; refine (calls_of_args ?hargs ((hdown_calls S.out (swp_ats l hal 0 (l.length - 1) (by omega) (by omega)) (by rw [Hp.swp_length]; exact hc) 0 (l.length - 1) (by omega) (by rw [Hp.swp_length]; omega)).mono ?_)); (case hargs => rw [show l.length - 1 = m by omega]; rfl); rintro e w' ⟨⟨b, rfl⟩, S1⟩; have T1 : Aside (StH w0 g A c (Hp.popped pz pkey l) w') := S1; clear S S1; have S := T1; clear T1) | ((with_reducible refine gate_dst (N := 14) rfl ?_); refine inv_pop rfl rfl rfl S.out hpn (by omega) v HV.out ?_; intro w4 S1; have T1 : Aside _ := S1; clear S S1; have S := T1; clear T1))
  go_ret
  exact ⟨rfl, S.out⟩

end Go.Proofs.Ytdijecmpaoabbaa
