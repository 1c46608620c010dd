/- A row of bytes in memory: made by make, by append, or out of a string; read, written in place, made a string again. -/
import Derived.Test.YtclhcfnmpnhflaaBase
import Derived.Laws.BytesArg
import Derived.Laws.OwnMore
import Derived.Laws.AppendOwn
set_option linter.unusedVariables false
set_option linter.unusedSimpArgs false
set_option maxHeartbeats 4000000
namespace Go.Proofs.Ytclhcfnmpnhflaa
open Go.RowKit

def u8v (b : UInt8) : Value := .int .u8 (b.toNat : Int)

/-- Block g begins with these bytes, and they may be written. -/
def RowB (w : World) (g : Nat) (l : List UInt8) : Prop :=
  ∃ (cs : Array Value) (e lo hi : Nat), w.heap[g]? = some (.cells cs e (lo, hi)) ∧ (hi ≤ lo ∨ l.length ≤ lo) ∧ ∀ i (h : i < l.length), cs[i]? = some (u8v l[i])

theorem RowB.lt {w : World} {g : Nat} {l : List UInt8} (h : RowB w g l) : g < w.heap.size := by
  obtain ⟨cs, e, lo, hi, hg, _⟩ := h
  exact (Array.getElem?_eq_some_iff.1 hg).1
theorem RowB.cell {w : World} {g : Nat} {l : List UInt8} (h : RowB w g l) {i : Nat} (hi : i < l.length) : w.cell? ⟨g, i, none⟩ = some (.int .u8 ((l[i]).toNat : Int)) := by
  obtain ⟨cs, e, lo, hi', hg, _, hc⟩ := h
  simp only [World.cell?, hg]
  exact hc i hi
theorem RowB.cellD {w : World} {g : Nat} {l : List UInt8} (h : RowB w g l) {i : Nat} (hi : i < l.length) : w.cell? ⟨g, i, none⟩ = some (.int .u8 ((l.getD i 0).toNat : Int)) := by
  rw [h.cell hi]; simp [List.getD, hi]
theorem RowB.free {w : World} {g : Nat} {l : List UInt8} (h : RowB w g l) {i : Nat} (hi : i < l.length) : w.frozen? ⟨g, i, none⟩ = false := by
  obtain ⟨cs, e, lo, hi', hg, hf, _⟩ := h
  simp only [World.frozen?, hg]
  rcases hf with hf | hf
  · simp only [Bool.and_eq_false_imp, decide_eq_true_eq, decide_eq_false_iff_not]; omega
  · simp only [Bool.and_eq_false_imp, decide_eq_true_eq, decide_eq_false_iff_not]; omega
theorem RowB.ext {w w' : World} {g : Nat} {l : List UInt8} (h : RowB w g l) (k : Ext w w') : RowB w' g l := by
  have hl := h.lt
  obtain ⟨cs, e, lo, hi, hg, r⟩ := h
  exact ⟨cs, e, lo, hi, (k.below.block g hl).trans hg, r⟩
theorem RowB.set {w : World} {g : Nat} {l : List UInt8} (h : RowB w g l) (i : Nat) (b : UInt8) : RowB (w.setCell ⟨g, i, none⟩ (.int .u8 (b.toNat : Int))) g (l.set i b) := by
  obtain ⟨cs, e, lo, hi, hg, hf, hc⟩ := h
  refine ⟨cs.setIfInBounds i (u8v b), e, lo, hi, ?_, by simpa using hf, ?_⟩
  · simp only [World.setCell, Array.getElem?_modify, hg]
    simp [u8v]
  · intro j hj
    have hj' : j < l.length := by simpa using hj
    rw [Array.getElem?_setIfInBounds]
    by_cases e : i = j
    · subst e
      have hlt : i < cs.size := by
        have := hc i hj'
        exact (Array.getElem?_eq_some_iff.1 this).1
      simp [hlt]
    · rw [if_neg e, hc j hj', List.getElem_set_ne e]
theorem RowB.bytes (w : World) (e : TypeId) (s : ByteArray) : RowB (Lib.bytesWorld w e s) w.heap.size s.data.toList := by
  refine ⟨_, e, _, _, Lib.bytesWorld_at_new w e s, .inr ?_, ?_⟩
  · simp [Lib.bytesCells]
  · intro i hi
    have hi' : i < s.data.size := by simpa using hi
    simp only [Lib.bytesCells]
    rw [Array.getElem?_append_left (by simpa using hi')]
    simp [u8v, hi']
    exact ⟨s.data[i], by simp [hi'], rfl⟩
theorem RowB.made (w : World) (n : Nat) (e : TypeId) : RowB (w.alloc (.cells (madeCells #[.int .u8 0] n) e)) w.heap.size (List.replicate n 0) := by
  refine ⟨_, e, 0, 0, heap_alloc_new w _, .inl (Nat.le_refl _), ?_⟩
  intro i hi
  have h := congrArg (fun l : List Value => l[i]?) (toList_madeCells_one (.int .u8 0) n)
  simp only [Array.getElem?_toList] at h
  rw [h]
  have : i < n := by simpa using hi
  simp [this, u8v]
theorem RowB.string {P : Program} {w : World} {g : Nat} {l : List UInt8} (h : RowB w g l) (src e dst : TypeId) (hs : P.underlying src = some (.slice e)) (he : P.underlying e = some (.int .u8)) (hd : P.underlying dst = some .string) (cap : Nat) :
    (convert src dst (.slice (some ⟨g, 0, none⟩) l.length cap)).run P w = .ok (.string ⟨l.toArray⟩) w := by
  have hr := run_convert_bytes_arg (P := P) w src e hs he g 0 l.length cap (l.map fun b => (b.toNat : Int)) (by simp) (fun i hi => by
    rw [Nat.zero_add, h.cell hi]; simp [List.getD, hi]) dst hd
  rw [hr]
  congr 2
  unfold strOfNums
  congr 1
  simp [List.map_map, Function.comp_def]

def vals (l : List UInt8) : List Value := l.map u8v
theorem RowB.owned {w : World} {base e g n cap : Nat} {l : List UInt8} (h : w.ownsRow base e 1 (.slice (some ⟨g, 0, none⟩) n cap) n (vals l)) : RowB w g l ∧ n = l.length := by
  have hn : n = l.length := by have := h.1; simp [vals] at this; omega
  subst hn
  refine ⟨?_, rfl⟩
  rcases h.2 with ⟨he, _⟩ | ⟨g', cap', cur, he, _, hg, _, _, _, ht⟩
  · simp at he
  · simp only [Value.slice.injEq, Option.some.injEq, Addr.mk.injEq, and_true, true_and] at he
    obtain ⟨rfl, rfl⟩ := he
    refine ⟨cur, _, 0, 0, hg, .inl (Nat.le_refl _), ?_⟩
    intro i hi
    have h2 := congrArg (fun x : List Value => x[i]?) ht
    simp only [List.getElem?_take] at h2
    rw [if_pos (by omega)] at h2
    rw [← Array.getElem?_toList, h2]
    simp [vals, hi]
theorem own_form {w : World} {base e size n : Nat} {v : Value} {xs : List Value} (h : w.ownsRow base e size v n xs) : (v = .slice none 0 0 ∧ n = 0) ∨ ∃ g cap, v = .slice (some ⟨g, 0, none⟩) n cap := by
  rcases h.2 with h | ⟨g, cap, cur, h, _⟩
  · exact .inl h
  · exact .inr ⟨g, cap, h⟩

/-- A whole slice of bytes: its block has just its capacity's cells, none of them marked. -/
def RowC (w : World) (g cap : Nat) (l : List UInt8) : Prop :=
  ∃ (cs : Array Value) (e lo hi : Nat), w.heap[g]? = some (.cells cs e (lo, hi)) ∧ cs.size = cap ∧ l.length ≤ cap ∧ (hi ≤ lo ∨ cap ≤ lo) ∧ ∀ i (h : i < l.length), cs[i]? = some (u8v l[i])
theorem RowC.row {w : World} {g cap : Nat} {l : List UInt8} (h : RowC w g cap l) : RowB w g l := by
  obtain ⟨cs, e, lo, hi, hg, hs, hl, hf, hc⟩ := h
  exact ⟨cs, e, lo, hi, hg, by omega, hc⟩
theorem RowC.bytes (w : World) (e : TypeId) (s : ByteArray) : RowC (Lib.bytesWorld w e s) w.heap.size (grownCap w s.size 0 e) s.data.toList := by
  have hge := grownCap_ge w s.size 0 e
  have hsz : (Lib.bytesCells w e s).size = grownCap w s.size 0 e := by
    have h1 : s.data.size = s.size := rfl
    simp [Lib.bytesCells]; omega
  obtain ⟨cs, e', lo, hi, hg, _, hc⟩ := RowB.bytes w e s
  have hg2 := Lib.bytesWorld_at_new w e s
  rw [hg2] at hg
  simp only [Option.some.injEq, Obj.cells.injEq, Prod.mk.injEq] at hg
  obtain ⟨rfl, rfl, rfl, rfl⟩ := hg
  exact ⟨_, _, _, _, hg2, hsz, by simpa using hge, .inr (by omega), hc⟩
theorem RowC.ext {w w' : World} {g cap : Nat} {l : List UInt8} (h : RowC w g cap l) (k : Ext w w') : RowC w' g cap l := by
  have hl := h.row.lt
  obtain ⟨cs, e, lo, hi, hg, r⟩ := h
  exact ⟨cs, e, lo, hi, (k.below.block g hl).trans hg, r⟩
theorem RowC.append {P : Program} {w : World} {g cap : Nat} {l : List UInt8} (h : RowC w g cap l) (t ty e : TypeId) (i : TypeInfo) (ht : P.underlying t = some (.slice e)) (hi : P.info? e = some i) (hz : i.zero = some (.int .u8 0)) (hs : i.size = 1) (hb : i.bytes = 1)
    (a : Addr) (c : Nat) (b : UInt8) (ha : w.cell? a = some (u8v b)) (hsmall : l.length + 1 ≤ 140737488355328) (base : Nat) (hbase : base ≤ g) (hbw : base ≤ w.heap.size) :
    ∃ g' cap' w', (Builtin.append_ #[t, t] ty #[.slice (some ⟨g, 0, none⟩) l.length cap, .slice (some a) 1 c]).run P w = .ok (.slice (some ⟨g', 0, none⟩) (l.length + 1) cap') w' ∧ RowC w' g' cap' (l ++ [b]) ∧ base ≤ g' ∧ w.grownBy w' (some g) := by
  have hnews : ∀ j v, [u8v b][j]? = some v → w.cell? (a.add j) = some v := by
    intro j v hj
    cases j with
    | zero => simp at hj; subst hj; rw [Addr.add]; simpa using ha
    | succ j => simp at hj
  obtain ⟨cs, e', lo, hi', hg, hsz, hlc, hf, hc⟩ := h
  by_cases hroom : l.length + 1 ≤ cap
  · have hfc := run_firstCells_some (P := P) w i.size 1 a 1 c [u8v b] (by simp [hs]) hnews
    have hcell : ∃ v, w.cell? ⟨g, l.length, none⟩ = some v := by
      have : l.length < cs.size := by omega
      exact ⟨cs[l.length], by simp [World.cell?, hg, this]⟩
    obtain ⟨v0, hv0⟩ := hcell
    have hfree : w.frozen? ⟨g, l.length, none⟩ = false := by
      simp only [World.frozen?, hg]
      rcases hf with hf | hf
      · simp only [Bool.and_eq_false_imp, decide_eq_true_eq, decide_eq_false_iff_not]; omega
      · simp only [Bool.and_eq_false_imp, decide_eq_true_eq, decide_eq_false_iff_not]; omega
    have hadd : (⟨g, 0, none⟩ : Addr).add l.length = ⟨g, l.length, none⟩ := by unfold Addr.add; split <;> simp_all
    have hadd0 : (⟨g, l.length, none⟩ : Addr).add 0 = ⟨g, l.length, none⟩ := by unfold Addr.add; simp
    refine ⟨g, cap, w.setCell ⟨g, l.length, none⟩ (u8v b), ?_, ?_, hbase, ?_⟩
    · rw [hs] at hfc
      simp [Builtin.append_, run_underlying ht, sizeOf, typeInfo, hi, Builtin.lenOf, hroom, hs, hfc, storeCells, hadd, hadd0, u8v, run_store_int, stored, hv0, hfree]
    · refine ⟨cs.setIfInBounds l.length (u8v b), e', lo, hi', ?_, by simpa using hsz, by simpa using hroom, hf, ?_⟩
      · simp only [World.setCell, Array.getElem?_modify, hg]
        simp
      · intro j hj
        rw [Array.getElem?_setIfInBounds]
        by_cases e1 : l.length = j
        · subst e1
          have : l.length < cs.size := by omega
          simp [this]
        · have hj' : j < l.length := by simp at hj; omega
          rw [if_neg e1, hc j hj', List.getElem_append_left hj']
    · exact ⟨rfl, rfl, rfl, by simp, fun k _ hk => Below.heap_setCell w _ _ k (fun e => hk (by simp [e]))⟩
  · have hro : RowB w g l := ⟨cs, e', lo, hi', hg, by omega, hc⟩
    have hr := run_append_grow (P := P) w t ty e i (.int .u8 0) ht hi hz ⟨g, 0, none⟩ l.length cap (vals l) (by simp [vals, hs]) (by
      intro j v hj
      have hj' : j < l.length := by
        have := (List.getElem?_eq_some_iff.1 hj).1
        simpa [vals] using this
      have hadd : (⟨g, 0, none⟩ : Addr).add j = ⟨g, j, none⟩ := by unfold Addr.add; split <;> simp_all
      rw [hadd, hro.cell hj']
      simp [vals, hj', u8v] at hj
      rw [← hj]) a 1 c [u8v b] (by simp [hs]) hnews (by omega) (by omega) (growslice_fits (by omega) (by rw [hb]; omega))
    have hge := grownCap_ge w (l.length + 1) cap e
    refine ⟨w.heap.size, _, _, hr, ⟨_, e, 0, 0, heap_alloc_new w.drew _, ?_, ?_, .inl (Nat.le_refl _), ?_⟩, hbw, ⟨rfl, rfl, rfl, by simp, fun k hk _ => Below.heap_alloc w.drew _ k hk⟩⟩
    · simp [vals, size_zeroCells, Value.cells]; omega
    · simpa using hge
    · intro j hj
      have hj2 : j < l.length + 1 := by simpa using hj
      rw [Array.getElem?_append_left (by simp [vals]; omega)]
      by_cases e1 : j < l.length
      · rw [Array.getElem?_append_left (by simpa [vals] using e1), List.getElem_append_left e1]
        simp [vals, e1]
      · have e2 : j = l.length := by omega
        subst e2
        rw [Array.getElem?_append_right (by simp [vals])]
        simp [vals]

theorem wpList_append_rowc {P : Program} {w : World} {ops : Array Oper} {rest : List Oper} {o : Oper} {a : Act} {Q : Exit → Act → World → Prop} (hgd : o.guard = none) (s x : Operand) (t : TypeId)
    (ho : o.op = .call { callee := .builtin .append, args := #[s, x], argTypes := #[t, t] })
    (base : Nat) (e : TypeId) (i : TypeInfo) (ht : P.underlying t = some (.slice e)) (hi : P.info? e = some i) (hz : i.zero = some (.int .u8 0)) (hs : i.size = 1) (hb : i.bytes = 1)
    (g n cap : Nat) (l : List UInt8) (hn : l.length = n) (hsv : a.eval s = .slice (some ⟨g, 0, none⟩) n cap) (h : RowC w g cap l)
    (ad : Addr) (c : Nat) (b : UInt8) (hx : a.eval x = .slice (some ad) 1 c) (ha : w.cell? ad = some (u8v b)) (hsmall : l.length + 1 ≤ 140737488355328) (hbase : base ≤ g) (hbw : base ≤ w.heap.size)
    (hk : ∀ g' cap' w', RowC w' g' cap' (l ++ [b]) → base ≤ g' → w.grownBy w' (some g) → wpList P ops Q rest (a.put o.dst (.slice (some ⟨g', 0, none⟩) (n + 1) cap')) w') : wpList P ops Q (o :: rest) a w :=
  wpList_plain hgd fun _ hK => by
    subst hn
    obtain ⟨g', cap', w', hr, h2, h3, h4⟩ := h.append (P := P) t o.type e i ht hi hz hs hb ad c b ha hsmall base hbase hbw
    unfold Oper.wp execOp
    simp only [ho, resolve, invoke, builtin, Sem.run_bind, Sem.run_pure, Result.andThen_ok, List.map_toArray, List.map_cons, List.map_nil, hsv, hx, hr]
    exact hK _ _ (hk g' cap' w' h2 h3 h4)

end Go.Proofs.Ytclhcfnmpnhflaa
