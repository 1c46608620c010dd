/- A device that came in: its numbers, its steps as they lie. -/
import Derived.Test.YtgoeooghoojdgaaZ0Px0
import Derived.Deep.SlicePairs
import Derived.Lib.SmallJoins
import Derived.WideLaws
import Derived.SizedLaws
set_option linter.unusedVariables false
set_option linter.unusedSimpArgs false
set_option maxHeartbeats 4000000
namespace Go.Proofs.Ytgoeooghoojdgaa.P
open Go.RowKit Go.Deep Go.ChangeShapes Go.WideShapes Go.Proofs.YtgoeooghoojdgaaW.PrintWords

theorem list3 {α : Type} {l : List α} (h : l.length = 3) : ∃ a b c, l = [a, b, c] := by
  match l, h with
  | [a, b, c], _ => exact ⟨a, b, c, rfl⟩
theorem list5 {α : Type} {l : List α} (h : l.length = 5) : ∃ a b c d e, l = [a, b, c, d, e] := by
  match l, h with
  | [a, b, c, d, e], _ => exact ⟨a, b, c, d, e, rfl⟩
theorem list6 {α : Type} {l : List α} (h : l.length = 6) : ∃ a b c d e f, l = [a, b, c, d, e, f] := by
  match l, h with
  | [a, b, c, d, e, f], _ => exact ⟨a, b, c, d, e, f, rfl⟩
section
variable {H : Type} {enc : TypeId × Value → H} {W : World} {base : Nat} {spare : Nat → Bool} {held : Bool}
theorem cells_bool : Try.prog.cellsOf 4 = 1 := by kernel_rfl
theorem cells_int : Try.prog.cellsOf 3 = 1 := by kernel_rfl
theorem cells_string : Try.prog.cellsOf 9 = 1 := by kernel_rfl
theorem cells_ops : Try.prog.cellsOf 22 = 1 := by kernel_rfl
theorem cells_op : Try.prog.cellsOf 40 = 3 := by kernel_rfl
theorem cells_device : Try.prog.cellsOf 24 = 6 := by kernel_rfl
set_option maxRecDepth 100000 in
theorem open_op {n : Nat} {cs : List Value} {x : DataW H × List MemPlace} (h : DataW.trod enc Try.prog W base spare held n 40 cs = some x) :
    ∃ o : S40, cs = [.bool o.f0, .int .i64 o.f1, .string o.f2] ∧ (Lit.int .i64 o.f1).wf = true := by
  obtain ⟨xs, k, _, _, hcl, hxl, hf⟩ := DataW.trod_struct Try.underlying40 h
  rw [cells_op] at hcl
  obtain ⟨y0, y1, y2, rfl⟩ := list3 hxl
  obtain ⟨v0, v1, v2, rfl⟩ := list3 hcl
  have g0 := hf 0 _ rfl
  have g1 := hf 1 _ rfl
  have g2 := hf 2 _ rfl
  simp [cells_bool, cells_int, cells_string] at g0 g1 g2
  obtain ⟨b, e0, _⟩ := DataW.trod_bool Try.underlying4 g0
  obtain ⟨i, e1, _, hw⟩ := DataW.trod_int Try.underlying3 g1
  obtain ⟨s, e2, _, _⟩ := DataW.trod_string Try.underlying9 g2
  obtain rfl := List.singleton_inj.1 e0
  obtain rfl := List.singleton_inj.1 e1
  obtain rfl := List.singleton_inj.1 e2
  exact ⟨⟨b, i, s⟩, rfl, hw⟩
theorem open_ops {n : Nat} {cs : List Value} {x : DataW H × List MemPlace} (h : DataW.trod enc Try.prog W base spare held n 22 cs = some x) :
    ∃ (A : Option Addr) (cap : Nat) (l : List (S40)), cs = [.slice A l.length cap] ∧ l.length ≤ cap ∧ Kd.C k40 W A l.length l ∧ ∀ o ∈ l, (Lit.int .i64 o.f1).wf = true := by
  rcases open_slice Try.underlying22 h with ⟨rfl, _⟩ | ⟨a, len, cap, m, k, D, Pl, rfl, _, hl, hm, hmm, _, hx⟩
  · exact ⟨none, 0, [], rfl, Nat.le_refl _, Kd.C_nil _ _, fun o ho => by cases ho⟩
  have hlm : len ≤ m := by rw [hmm]; split <;> omega
  have each : ∀ i, i < len → ∃ o : S40, (W.cell? (a.add (i * 3)) = some (.bool o.f0) ∧ W.cell? ((a.add (i * 3)).add 1) = some (.int .i64 o.f1) ∧ W.cell? ((a.add (i * 3)).add 2) = some (.string o.f2)) ∧ (Lit.int .i64 o.f1).wf = true := by
    intro i hi
    obtain ⟨cs', h1, h2⟩ := hx i (by omega)
    rw [cells_op] at h1
    obtain ⟨_, hlen, hcell⟩ := World.cells?_some h1
    obtain ⟨o, rfl, hw⟩ := open_op h2
    have e0 := hcell 0 (by omega)
    have e1 := hcell 1 (by omega)
    have e2 := hcell 2 (by omega)
    refine ⟨o, ⟨?_, ?_, ?_⟩, hw⟩
    · rw [Addr.add_zero'] at e0; simpa using e0
    · simpa using e1
    · simpa using e2
  haveI : Inhabited (S40) := ⟨z40⟩
  obtain ⟨q, hq⟩ := choose_lt each
  have hlen : ((List.range len).map q).length = len := by simp
  refine ⟨some a, cap, (List.range len).map q, by rw [hlen], by rw [hlen]; exact hl, ?_, ?_⟩
  · rw [hlen]
    refine ⟨hlen, by unfold maxLen at hm; omega, fun _ => ⟨a, rfl, fun j p hj => ?_⟩⟩
    have hjl : j < len := by
      have := (List.getElem?_eq_some_iff.1 hj).1
      rw [hlen] at this; exact this
    have hp : q j = p := by
      rw [List.getElem?_map, List.getElem?_range hjl] at hj
      exact Option.some.inj hj
    subst hp
    obtain ⟨⟨e0, e1, e2⟩, _⟩ := hq j hjl
    refine ⟨_, rfl, k40_mk W (q j), fun i u hu => ?_⟩
    have ha : ∀ i, (a.add (j * 3)).add i = a.add (j * 3 + i) := fun i => Go.Deep.add_add _ _ _
    match i, hu with
    | 0, hu => obtain rfl := Option.some.inj hu; exact e0
    | 1, hu => obtain rfl := Option.some.inj hu; exact (congrArg W.cell? (ha 1)).symm.trans e1
    | 2, hu => obtain rfl := Option.some.inj hu; exact (congrArg W.cell? (ha 2)).symm.trans e2
  · intro o ho
    obtain ⟨j, hj, rfl⟩ := List.mem_map.1 ho
    exact (hq j (List.mem_range.1 hj)).2
set_option maxRecDepth 100000 in
theorem open_device {r : Reach} {b0 : Nat} {v : Value} {d : DataW H} {p : List MemPlace} (hv : Value.okWide Try.prog W r b0 24 v) (h : DataW.Trod enc Try.prog W base spare held 24 v d p) :
    ∃ (x0 x1 x2 x3 x4 : Int) (A : Option Addr) (cap : Nat) (l : List (S40)), v = .agg #[.int .i64 x0, .int .i64 x1, .int .i64 x2, .int .i64 x3, .int .i64 x4, .slice A l.length cap] ∧ l.length ≤ cap ∧ Kd.C k40 W A l.length l ∧ (∀ o ∈ l, (Lit.int .i64 o.f1).wf = true) ∧
      (Lit.int .i64 x0).wf = true ∧ (Lit.int .i64 x1).wf = true ∧ (Lit.int .i64 x2).wf = true ∧ (Lit.int .i64 x3).wf = true ∧ (Lit.int .i64 x4).wf = true := by
  obtain ⟨cs, rfl, hsz⟩ := okWide_struct Try.underlying24 hv
  obtain ⟨fuel, hf⟩ := h
  obtain ⟨cs⟩ := cs
  obtain ⟨xs, k, _, _, _, hxl, hf⟩ := DataW.trod_struct Try.underlying24 hf
  rw [cells_device] at hsz
  obtain ⟨y0, y1, y2, y3, y4, y5, rfl⟩ := list6 hxl
  obtain ⟨v0, v1, v2, v3, v4, v5, rfl⟩ := list6 (l := cs) hsz
  have g0 := hf 0 _ rfl
  have g1 := hf 1 _ rfl
  have g2 := hf 2 _ rfl
  have g3 := hf 3 _ rfl
  have g4 := hf 4 _ rfl
  have g5 := hf 5 _ rfl
  simp [Value.cells, cells_int, cells_ops] at g0 g1 g2 g3 g4 g5
  obtain ⟨x0, e0, _, w0⟩ := DataW.trod_int Try.underlying3 g0
  obtain ⟨x1, e1, _, w1⟩ := DataW.trod_int Try.underlying3 g1
  obtain ⟨x2, e2, _, w2⟩ := DataW.trod_int Try.underlying3 g2
  obtain ⟨x3, e3, _, w3⟩ := DataW.trod_int Try.underlying3 g3
  obtain ⟨x4, e4, _, w4⟩ := DataW.trod_int Try.underlying3 g4
  obtain ⟨A, cap, l, e5, hl, hc, hw⟩ := open_ops g5
  obtain rfl := List.singleton_inj.1 e0
  obtain rfl := List.singleton_inj.1 e1
  obtain rfl := List.singleton_inj.1 e2
  obtain rfl := List.singleton_inj.1 e3
  obtain rfl := List.singleton_inj.1 e4
  obtain rfl := List.singleton_inj.1 e5
  exact ⟨x0, x1, x2, x3, x4, A, cap, l, rfl, hl, hc, hw, w0, w1, w2, w3, w4⟩
/-- How many steps a device that came in may have. -/
theorem dev_len {v : List Value} {n cap : Nat} {A : Option Addr} {d : DataW H} {p : List MemPlace} (h : DataW.Trod enc Try.prog W base spare held 24 (.agg ⟨v ++ [.slice A n cap]⟩) d p) (h5 : v.length = 5)
    (hs : ∀ m ∈ d.weights Try.prog 24, m ≤ reachBytes) : n * 32 ≤ reachBytes := by
  obtain ⟨fuel, hf⟩ := h
  obtain ⟨xs, k, _, hx, _, hxl, hf⟩ := DataW.trod_struct Try.underlying24 hf
  obtain ⟨y0, y1, y2, y3, y4, y5, rfl⟩ := list6 hxl
  obtain ⟨v0, v1, v2, v3, v4, rfl⟩ := list5 h5
  have g5 := hf 5 _ rfl
  simp [Value.cells, cells_ops] at g5
  have hd : d = .agg [y0.1, y1.1, y2.1, y3.1, y4.1, y5.1] := (Prod.mk.inj hx).1
  subst hd
  have hw : ∀ m ∈ DataW.weights Try.prog 22 y5.1, m ≤ reachBytes := fun m hm => hs m (by
    rw [DataW.weights, Try.underlying24]
    exact DataW.weights_mem_each (j := 5) (t := 22) rfl rfl m hm)
  rcases open_slice Try.underlying22 g5 with ⟨e, _⟩ | ⟨a, len, cap, m, k, D, Pl, e, _, hl, hm, hmm, hy, _⟩
  · have e := List.singleton_inj.1 e
    injection e with _ e _
    subst e
    omega
  · have e := List.singleton_inj.1 e
    injection e with _ e _
    subst e
    have e1 : y5.1 = .slice ((List.range n).map D) ((List.range (m - n)).map fun j => D (n + j)) := congrArg Prod.fst hy
    have := hw ((((List.range n).map D).length + ((List.range (m - n)).map fun j => D (n + j)).length) * Try.prog.bytesOf 40) (by
      rw [e1, DataW.weights, Try.underlying22]
      exact List.mem_cons_self ..)
    rw [show Try.prog.bytesOf 40 = 32 by kernel_rfl] at this
    simp only [List.length_map, List.length_range] at this
    omega
end

end Go.Proofs.Ytgoeooghoojdgaa.P
