/- A row of bytes in memory: made by make, by append, or out of a string; read, written in place, made a string again. -/
import Derived.Test.YtencjgchlchcoaaBase
import Derived.Laws.BytesArg
import Derived.Laws.OwnMore
set_option linter.unusedVariables false
set_option linter.unusedSimpArgs false
namespace Go.Proofs.Ytencjgchlchcoaa
open Go.RowKit

def u8v (b : UInt8) : Value := .int .u8 (b.toNat : Int)

/-- Block g begins with these bytes, and they may be written. -/
def RowB (w : World) (g : Nat) (l : List UInt8) : Prop :=
  ∃ (cs : Array Value) (e lo hi : Nat), w.heap[g]? = some (.cells cs e (lo, hi)) ∧ (hi ≤ lo ∨ l.length ≤ lo) ∧ ∀ i (h : i < l.length), cs[i]? = some (u8v l[i])

theorem RowB.lt {w : World} {g : Nat} {l : List UInt8} (h : RowB w g l) : g < w.heap.size := by
  obtain ⟨cs, e, lo, hi, hg, _⟩ := h
  exact (Array.getElem?_eq_some_iff.1 hg).1
theorem RowB.cell {w : World} {g : Nat} {l : List UInt8} (h : RowB w g l) {i : Nat} (hi : i < l.length) : w.cell? ⟨g, i, none⟩ = some (.int .u8 ((l[i]).toNat : Int)) := by
  obtain ⟨cs, e, lo, hi', hg, _, hc⟩ := h
  simp only [World.cell?, hg]
  exact hc i hi
theorem RowB.cellD {w : World} {g : Nat} {l : List UInt8} (h : RowB w g l) {i : Nat} (hi : i < l.length) : w.cell? ⟨g, i, none⟩ = some (.int .u8 ((l.getD i 0).toNat : Int)) := by
  rw [h.cell hi]; simp [List.getD, hi]
theorem RowB.free {w : World} {g : Nat} {l : List UInt8} (h : RowB w g l) {i : Nat} (hi : i < l.length) : w.frozen? ⟨g, i, none⟩ = false := by
  obtain ⟨cs, e, lo, hi', hg, hf, _⟩ := h
  simp only [World.frozen?, hg]
  rcases hf with hf | hf
  · simp only [Bool.and_eq_false_imp, decide_eq_true_eq, decide_eq_false_iff_not]; omega
  · simp only [Bool.and_eq_false_imp, decide_eq_true_eq, decide_eq_false_iff_not]; omega
theorem RowB.ext {w w' : World} {g : Nat} {l : List UInt8} (h : RowB w g l) (k : Ext w w') : RowB w' g l := by
  have hl := h.lt
  obtain ⟨cs, e, lo, hi, hg, r⟩ := h
  exact ⟨cs, e, lo, hi, (k.below.block g hl).trans hg, r⟩
theorem RowB.set {w : World} {g : Nat} {l : List UInt8} (h : RowB w g l) (i : Nat) (b : UInt8) : RowB (w.setCell ⟨g, i, none⟩ (.int .u8 (b.toNat : Int))) g (l.set i b) := by
  obtain ⟨cs, e, lo, hi, hg, hf, hc⟩ := h
  refine ⟨cs.setIfInBounds i (u8v b), e, lo, hi, ?_, by simpa using hf, ?_⟩
  · simp only [World.setCell, Array.getElem?_modify, hg]
    simp [u8v]
  · intro j hj
    have hj' : j < l.length := by simpa using hj
    rw [Array.getElem?_setIfInBounds]
    by_cases e : i = j
    · subst e
      have hlt : i < cs.size := by
        have := hc i hj'
        exact (Array.getElem?_eq_some_iff.1 this).1
      simp [hlt]
    · rw [if_neg e, hc j hj', List.getElem_set_ne e]
theorem RowB.bytes (w : World) (e : TypeId) (s : ByteArray) : RowB (Lib.bytesWorld w e s) w.heap.size s.data.toList := by
  refine ⟨_, e, _, _, Lib.bytesWorld_at_new w e s, .inr ?_, ?_⟩
  · simp [Lib.bytesCells]
  · intro i hi
    have hi' : i < s.data.size := by simpa using hi
    simp only [Lib.bytesCells]
    rw [Array.getElem?_append_left (by simpa using hi')]
    simp [u8v, hi']
    exact ⟨s.data[i], by simp [hi'], rfl⟩
theorem RowB.made (w : World) (n : Nat) (e : TypeId) : RowB (w.alloc (.cells (madeCells #[.int .u8 0] n) e)) w.heap.size (List.replicate n 0) := by
  refine ⟨_, e, 0, 0, heap_alloc_new w _, .inl (Nat.le_refl _), ?_⟩
  intro i hi
  have h := congrArg (fun l : List Value => l[i]?) (toList_madeCells_one (.int .u8 0) n)
  simp only [Array.getElem?_toList] at h
  rw [h]
  have : i < n := by simpa using hi
  simp [this, u8v]
theorem RowB.string {P : Program} {w : World} {g : Nat} {l : List UInt8} (h : RowB w g l) (src e dst : TypeId) (hs : P.underlying src = some (.slice e)) (he : P.underlying e = some (.int .u8)) (hd : P.underlying dst = some .string) (cap : Nat) :
    (convert src dst (.slice (some ⟨g, 0, none⟩) l.length cap)).run P w = .ok (.string ⟨l.toArray⟩) w := by
  have hr := run_convert_bytes_arg (P := P) w src e hs he g 0 l.length cap (l.map fun b => (b.toNat : Int)) (by simp) (fun i hi => by
    rw [Nat.zero_add, h.cell hi]; simp [List.getD, hi]) dst hd
  rw [hr]
  congr 2
  unfold strOfNums
  congr 1
  simp [List.map_map, Function.comp_def]

end Go.Proofs.Ytencjgchlchcoaa
