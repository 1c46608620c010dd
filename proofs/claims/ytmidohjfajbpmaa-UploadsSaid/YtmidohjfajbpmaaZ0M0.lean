/- Texts of this claim, laid together. -/
import Derived.ArgAppend
import Derived.Below
import Derived.BigQuiet
import Derived.Deep.AppendLies
import Derived.Deep.CutBlock
import Derived.Deep.DeepCutAuto
import Derived.Deep.Draws
import Derived.Deep.LoopGhost
import Derived.Deep.OwnRows
import Derived.Deep.QuietTactic
import Derived.Deep.RegionHeld3
import Derived.IntWalk
import Derived.KernelRfl
import Derived.Laws.AppendOwn
import Derived.Laws.BitsAllLaws
import Derived.Laws.BytesArg
import Derived.Laws.IdiomCopy
import Derived.Laws.MakeOwn
import Derived.Laws.OwnMore
import Derived.Laws.Rows
import Derived.Laws.Slices
import Derived.Laws.Strings
import Derived.Lib.AppendStr
import Derived.Lib.ConvBytes
import Derived.Lib.Hide
import Derived.LoopTactic
import Derived.Maps.AppendAt
import Derived.Outline
import Derived.OwnWalk
import Derived.RegionTactic
import Derived.RowKit
import Derived.RowKit3
import Derived.Tactics
import Derived.Test.YtmidohjfajbpmaaProg
import Derived.WalkKit
import Derived.WalkLawsBesides
import Derived.WalkSpells
import Derived.WideLaws
section
set_option linter.unusedVariables false
set_option linter.unusedSimpArgs false
set_option maxHeartbeats 4000000
namespace Go.Proofs.Ytmidohjfajbpmaa
open Go.RowKit

/-- All that lay in w lies in w' as it lay. -/
def Ext (w w' : World) : Prop := Below w.heap.size w w'
theorem Ext.refl (w : World) : Ext w w := Below.refl _ _
theorem Ext.size {a b : World} (h : Ext a b) : a.heap.size ≤ b.heap.size := Below.size h
theorem Ext.trans {a b c : World} (h : Ext a b) (k : Ext b c) : Ext a c := Below.trans h (Below.mono k h.size)
theorem Ext.drew {a w : World} (h : Ext a w) : Ext a w.drew := Below.drew h
theorem Ext.drewN {a w : World} (h : Ext a w) (n : Nat) : Ext a (w.drewN n) := Below.trans h ⟨rfl, rfl, rfl, Nat.le_refl _, fun _ _ => rfl⟩
theorem Ext.alloc {a w : World} (h : Ext a w) (o : Obj) : Ext a (w.alloc o) := Below.alloc h h.size o
theorem Ext.setCell {a w : World} (h : Ext a w) {p : Addr} (hp : a.heap.size ≤ p.block) (u : Value) : Ext a (w.setCell p u) := Below.setCell h hp u
theorem Ext.grown {a w w' : World} {row : Option Nat} (h : Ext a w) (hg : w.grownBy w' row) (hr : ∀ k, row = some k → a.heap.size ≤ k) : Ext a w' := Below.grown h hg h.size hr
theorem Ext.cell {w w' : World} {a : Addr} {v : Value} (hb : Ext w w') (h : w.cell? a = some v) : w'.cell? a = some v := cell_later hb h
theorem Ext.free {w w' : World} {a : Addr} (hb : Ext w w') (ha : a.block < w.heap.size) (h : w.frozen? a = false) : w'.frozen? a = false := (Below.frozen hb ha).trans h
theorem Ext.below {w w' : World} (h : Ext w w') : Below w.heap.size w w' := h
/-- '[]byte(s)' of a string. -/
theorem Ext.bytes (w : World) (e : TypeId) (s : ByteArray) : Ext w (Lib.bytesWorld w e s) :=
  ⟨rfl, rfl, rfl, by rw [Lib.bytesWorld_size]; omega, fun j hj => Lib.bytesWorld_at_old w e s j hj⟩

/-- The smaller, the greater of two whole numbers, as Go tells them: a word that the walk does not part on. -/
def imin (x y : Int) : Int := if y < x then y else x
def imax (x y : Int) : Int := if x < y then y else x
theorem min_two_int (ats : Array TypeId) (ty : TypeId) (k k' : IntKind) (x y : Int) : Builtin.min_ ats ty #[.int k x, .int k' y] = pure (.int k (imin x y)) := by
  simp only [Builtin.min_, List.foldlM_cons, List.foldlM_nil, Builtin.min2, imin]; rfl
theorem min_three_int (ats : Array TypeId) (ty : TypeId) (k k' k'' : IntKind) (x y z : Int) : Builtin.min_ ats ty #[.int k x, .int k' y, .int k'' z] = pure (.int k (imin (imin x y) z)) := by
  simp only [Builtin.min_, List.foldlM_cons, List.foldlM_nil, Builtin.min2, imin]; rfl
theorem max_two_int (ats : Array TypeId) (ty : TypeId) (k k' : IntKind) (x y : Int) : Builtin.max_ ats ty #[.int k x, .int k' y] = pure (.int k (imax x y)) := by
  simp only [Builtin.max_, List.foldlM_cons, List.foldlM_nil, Builtin.max2, imax]; rfl

/-- A region that draws leaves one goal for each order: prove it once. -/
theorem once {P G : Prop} (f : P → G) (p : P) : G := f p
theorem wrap_i64_fit (n : Int) (h0 : -9223372036854775808 ≤ n) (h1 : n < 9223372036854775808) : IntKind.i64.wrap n = n := by
  simp [IntKind.wrap, IntKind.bits, IntKind.signed]; omega

end Go.Proofs.Ytmidohjfajbpmaa
set_option linter.unusedVariables false
set_option linter.unusedSimpArgs false
set_option maxHeartbeats 4000000
namespace Go.Proofs.Ytmidohjfajbpmaa
open Go.RowKit

def u8v (b : UInt8) : Value := .int .u8 (b.toNat : Int)

/-- Block g begins with these bytes, and they may be written. -/
def RowB (w : World) (g : Nat) (l : List UInt8) : Prop :=
  ∃ (cs : Array Value) (e lo hi : Nat), w.heap[g]? = some (.cells cs e (lo, hi)) ∧ (hi ≤ lo ∨ l.length ≤ lo) ∧ ∀ i (h : i < l.length), cs[i]? = some (u8v l[i])

theorem RowB.lt {w : World} {g : Nat} {l : List UInt8} (h : RowB w g l) : g < w.heap.size := by
  obtain ⟨cs, e, lo, hi, hg, _⟩ := h
  exact (Array.getElem?_eq_some_iff.1 hg).1
theorem RowB.cell {w : World} {g : Nat} {l : List UInt8} (h : RowB w g l) {i : Nat} (hi : i < l.length) : w.cell? ⟨g, i, none⟩ = some (.int .u8 ((l[i]).toNat : Int)) := by
  obtain ⟨cs, e, lo, hi', hg, _, hc⟩ := h
  simp only [World.cell?, hg]
  exact hc i hi
theorem RowB.cellD {w : World} {g : Nat} {l : List UInt8} (h : RowB w g l) {i : Nat} (hi : i < l.length) : w.cell? ⟨g, i, none⟩ = some (.int .u8 ((l.getD i 0).toNat : Int)) := by
  rw [h.cell hi]; simp [List.getD, hi]
theorem RowB.free {w : World} {g : Nat} {l : List UInt8} (h : RowB w g l) {i : Nat} (hi : i < l.length) : w.frozen? ⟨g, i, none⟩ = false := by
  obtain ⟨cs, e, lo, hi', hg, hf, _⟩ := h
  simp only [World.frozen?, hg]
  rcases hf with hf | hf
  · simp only [Bool.and_eq_false_imp, decide_eq_true_eq, decide_eq_false_iff_not]; omega
  · simp only [Bool.and_eq_false_imp, decide_eq_true_eq, decide_eq_false_iff_not]; omega
theorem RowB.ext {w w' : World} {g : Nat} {l : List UInt8} (h : RowB w g l) (k : Ext w w') : RowB w' g l := by
  have hl := h.lt
  obtain ⟨cs, e, lo, hi, hg, r⟩ := h
  exact ⟨cs, e, lo, hi, (k.below.block g hl).trans hg, r⟩
theorem RowB.set {w : World} {g : Nat} {l : List UInt8} (h : RowB w g l) (i : Nat) (b : UInt8) : RowB (w.setCell ⟨g, i, none⟩ (.int .u8 (b.toNat : Int))) g (l.set i b) := by
  obtain ⟨cs, e, lo, hi, hg, hf, hc⟩ := h
  refine ⟨cs.setIfInBounds i (u8v b), e, lo, hi, ?_, by simpa using hf, ?_⟩
  · simp only [World.setCell, Array.getElem?_modify, hg]
    simp [u8v]
  · intro j hj
    have hj' : j < l.length := by simpa using hj
    rw [Array.getElem?_setIfInBounds]
    by_cases e : i = j
    · subst e
      have hlt : i < cs.size := by
        have := hc i hj'
        exact (Array.getElem?_eq_some_iff.1 this).1
      simp [hlt]
    · rw [if_neg e, hc j hj', List.getElem_set_ne e]
theorem RowB.bytes (w : World) (e : TypeId) (s : ByteArray) : RowB (Lib.bytesWorld w e s) w.heap.size s.data.toList := by
  refine ⟨_, e, _, _, Lib.bytesWorld_at_new w e s, .inr ?_, ?_⟩
  · simp [Lib.bytesCells]
  · intro i hi
    have hi' : i < s.data.size := by simpa using hi
    simp only [Lib.bytesCells]
    rw [Array.getElem?_append_left (by simpa using hi')]
    simp [u8v, hi']
    exact ⟨s.data[i], by simp [hi'], rfl⟩
theorem RowB.made (w : World) (n : Nat) (e : TypeId) : RowB (w.alloc (.cells (madeCells #[.int .u8 0] n) e)) w.heap.size (List.replicate n 0) := by
  refine ⟨_, e, 0, 0, heap_alloc_new w _, .inl (Nat.le_refl _), ?_⟩
  intro i hi
  have h := congrArg (fun l : List Value => l[i]?) (toList_madeCells_one (.int .u8 0) n)
  simp only [Array.getElem?_toList] at h
  rw [h]
  have : i < n := by simpa using hi
  simp [this, u8v]
theorem RowB.string {P : Program} {w : World} {g : Nat} {l : List UInt8} (h : RowB w g l) (src e dst : TypeId) (hs : P.underlying src = some (.slice e)) (he : P.underlying e = some (.int .u8)) (hd : P.underlying dst = some .string) (cap : Nat) :
    (convert src dst (.slice (some ⟨g, 0, none⟩) l.length cap)).run P w = .ok (.string ⟨l.toArray⟩) w := by
  have hr := run_convert_bytes_arg (P := P) w src e hs he g 0 l.length cap (l.map fun b => (b.toNat : Int)) (by simp) (fun i hi => by
    rw [Nat.zero_add, h.cell hi]; simp [List.getD, hi]) dst hd
  rw [hr]
  congr 2
  unfold strOfNums
  congr 1
  simp [List.map_map, Function.comp_def]

def vals (l : List UInt8) : List Value := l.map u8v

/-- A whole slice of bytes: its block has just its capacity's cells, none of them marked. -/
def RowC (w : World) (g cap : Nat) (l : List UInt8) : Prop :=
  ∃ (cs : Array Value) (e lo hi : Nat), w.heap[g]? = some (.cells cs e (lo, hi)) ∧ cs.size = cap ∧ l.length ≤ cap ∧ (hi ≤ lo ∨ cap ≤ lo) ∧ ∀ i (h : i < l.length), cs[i]? = some (u8v l[i])
theorem RowC.row {w : World} {g cap : Nat} {l : List UInt8} (h : RowC w g cap l) : RowB w g l := by
  obtain ⟨cs, e, lo, hi, hg, hs, hl, hf, hc⟩ := h
  exact ⟨cs, e, lo, hi, hg, by omega, hc⟩
theorem RowC.bytes (w : World) (e : TypeId) (s : ByteArray) : RowC (Lib.bytesWorld w e s) w.heap.size (grownCap w s.size 0 e) s.data.toList := by
  have hge := grownCap_ge w s.size 0 e
  have hsz : (Lib.bytesCells w e s).size = grownCap w s.size 0 e := by
    have h1 : s.data.size = s.size := rfl
    simp [Lib.bytesCells]; omega
  obtain ⟨cs, e', lo, hi, hg, _, hc⟩ := RowB.bytes w e s
  have hg2 := Lib.bytesWorld_at_new w e s
  rw [hg2] at hg
  simp only [Option.some.injEq, Obj.cells.injEq, Prod.mk.injEq] at hg
  obtain ⟨rfl, rfl, rfl, rfl⟩ := hg
  exact ⟨_, _, _, _, hg2, hsz, by simpa using hge, .inr (by omega), hc⟩
theorem RowC.ext {w w' : World} {g cap : Nat} {l : List UInt8} (h : RowC w g cap l) (k : Ext w w') : RowC w' g cap l := by
  have hl := h.row.lt
  obtain ⟨cs, e, lo, hi, hg, r⟩ := h
  exact ⟨cs, e, lo, hi, (k.below.block g hl).trans hg, r⟩
theorem RowC.append {P : Program} {w : World} {g cap : Nat} {l : List UInt8} (h : RowC w g cap l) (t ty e : TypeId) (i : TypeInfo) (ht : P.underlying t = some (.slice e)) (hi : P.info? e = some i) (hz : i.zero = some (.int .u8 0)) (hs : i.size = 1) (hb : i.bytes = 1)
    (a : Addr) (c : Nat) (b : UInt8) (ha : w.cell? a = some (u8v b)) (hsmall : l.length + 1 ≤ 140737488355328) (base : Nat) (hbase : base ≤ g) (hbw : base ≤ w.heap.size) :
    ∃ g' cap' w', (Builtin.append_ #[t, t] ty #[.slice (some ⟨g, 0, none⟩) l.length cap, .slice (some a) 1 c]).run P w = .ok (.slice (some ⟨g', 0, none⟩) (l.length + 1) cap') w' ∧ RowC w' g' cap' (l ++ [b]) ∧ base ≤ g' ∧ w.grownBy w' (some g) := by
  have hnews : ∀ j v, [u8v b][j]? = some v → w.cell? (a.add j) = some v := by
    intro j v hj
    cases j with
    | zero => simp at hj; subst hj; rw [Addr.add]; simpa using ha
    | succ j => simp at hj
  obtain ⟨cs, e', lo, hi', hg, hsz, hlc, hf, hc⟩ := h
  by_cases hroom : l.length + 1 ≤ cap
  · have hfc := run_firstCells_some (P := P) w i.size 1 a 1 c [u8v b] (by simp [hs]) hnews
    have hcell : ∃ v, w.cell? ⟨g, l.length, none⟩ = some v := by
      have : l.length < cs.size := by omega
      exact ⟨cs[l.length], by simp [World.cell?, hg, this]⟩
    obtain ⟨v0, hv0⟩ := hcell
    have hfree : w.frozen? ⟨g, l.length, none⟩ = false := by
      simp only [World.frozen?, hg]
      rcases hf with hf | hf
      · simp only [Bool.and_eq_false_imp, decide_eq_true_eq, decide_eq_false_iff_not]; omega
      · simp only [Bool.and_eq_false_imp, decide_eq_true_eq, decide_eq_false_iff_not]; omega
    have hadd : (⟨g, 0, none⟩ : Addr).add l.length = ⟨g, l.length, none⟩ := by unfold Addr.add; split <;> simp_all
    have hadd0 : (⟨g, l.length, none⟩ : Addr).add 0 = ⟨g, l.length, none⟩ := by unfold Addr.add; simp
    refine ⟨g, cap, w.setCell ⟨g, l.length, none⟩ (u8v b), ?_, ?_, hbase, ?_⟩
    · rw [hs] at hfc
      simp [Builtin.append_, run_underlying ht, sizeOf, typeInfo, hi, Builtin.lenOf, hroom, hs, hfc, storeCells, hadd, hadd0, u8v, run_store_int, stored, hv0, hfree]
    · refine ⟨cs.setIfInBounds l.length (u8v b), e', lo, hi', ?_, by simpa using hsz, by simpa using hroom, hf, ?_⟩
      · simp only [World.setCell, Array.getElem?_modify, hg]
        simp
      · intro j hj
        rw [Array.getElem?_setIfInBounds]
        by_cases e1 : l.length = j
        · subst e1
          have : l.length < cs.size := by omega
          simp [this]
        · have hj' : j < l.length := by simp at hj; omega
          rw [if_neg e1, hc j hj', List.getElem_append_left hj']
    · exact ⟨rfl, rfl, rfl, by simp, fun k _ hk => Below.heap_setCell w _ _ k (fun e => hk (by simp [e]))⟩
  · have hro : RowB w g l := ⟨cs, e', lo, hi', hg, by omega, hc⟩
    have hr := run_append_grow (P := P) w t ty e i (.int .u8 0) ht hi hz ⟨g, 0, none⟩ l.length cap (vals l) (by simp [vals, hs]) (by
      intro j v hj
      have hj' : j < l.length := by
        have := (List.getElem?_eq_some_iff.1 hj).1
        simpa [vals] using this
      have hadd : (⟨g, 0, none⟩ : Addr).add j = ⟨g, j, none⟩ := by unfold Addr.add; split <;> simp_all
      rw [hadd, hro.cell hj']
      simp [vals, hj', u8v] at hj
      rw [← hj]) a 1 c [u8v b] (by simp [hs]) hnews (by omega) (by omega) (growslice_fits (by omega) (by rw [hb]; omega))
    have hge := grownCap_ge w (l.length + 1) cap e
    refine ⟨w.heap.size, _, _, hr, ⟨_, e, 0, 0, heap_alloc_new w.drew _, ?_, ?_, .inl (Nat.le_refl _), ?_⟩, hbw, ⟨rfl, rfl, rfl, by simp, fun k hk _ => Below.heap_alloc w.drew _ k hk⟩⟩
    · simp [vals, size_zeroCells, Value.cells]; omega
    · simpa using hge
    · intro j hj
      have hj2 : j < l.length + 1 := by simpa using hj
      rw [Array.getElem?_append_left (by simp [vals]; omega)]
      by_cases e1 : j < l.length
      · rw [Array.getElem?_append_left (by simpa [vals] using e1), List.getElem_append_left e1]
        simp [vals, e1]
      · have e2 : j = l.length := by omega
        subst e2
        rw [Array.getElem?_append_right (by simp [vals])]
        simp [vals]

theorem wpList_append_rowc {P : Program} {w : World} {ops : Array Oper} {rest : List Oper} {o : Oper} {a : Act} {Q : Exit → Act → World → Prop} (hgd : o.guard = none) (s x : Operand) (t : TypeId)
    (ho : o.op = .call { callee := .builtin .append, args := #[s, x], argTypes := #[t, t] })
    (base : Nat) (e : TypeId) (i : TypeInfo) (ht : P.underlying t = some (.slice e)) (hi : P.info? e = some i) (hz : i.zero = some (.int .u8 0)) (hs : i.size = 1) (hb : i.bytes = 1)
    (g n cap : Nat) (l : List UInt8) (hn : l.length = n) (hsv : a.eval s = .slice (some ⟨g, 0, none⟩) n cap) (h : RowC w g cap l)
    (ad : Addr) (c : Nat) (b : UInt8) (hx : a.eval x = .slice (some ad) 1 c) (ha : w.cell? ad = some (u8v b)) (hsmall : l.length + 1 ≤ 140737488355328) (hbase : base ≤ g) (hbw : base ≤ w.heap.size)
    (hk : ∀ g' cap' w', RowC w' g' cap' (l ++ [b]) → base ≤ g' → w.grownBy w' (some g) → wpList P ops Q rest (a.put o.dst (.slice (some ⟨g', 0, none⟩) (n + 1) cap')) w') : wpList P ops Q (o :: rest) a w :=
  wpList_plain hgd fun _ hK => by
    subst hn
    obtain ⟨g', cap', w', hr, h2, h3, h4⟩ := h.append (P := P) t o.type e i ht hi hz hs hb ad c b ha hsmall base hbase hbw
    unfold Oper.wp execOp
    simp only [ho, resolve, invoke, builtin, Sem.run_bind, Sem.run_pure, Result.andThen_ok, List.map_toArray, List.map_cons, List.map_nil, hsv, hx, hr]
    exact hK _ _ (hk g' cap' w' h2 h3 h4)

end Go.Proofs.Ytmidohjfajbpmaa
set_option linter.unusedVariables false
set_option linter.unusedSimpArgs false
set_option maxHeartbeats 4000000
namespace Skiff

/-- One bit of the division. -/
def stepBit (x : Nat) : Nat := if x % 2 = 1 then (x / 2) ^^^ 3988292384 else x / 2
def stepN : Nat → Nat → Nat
  | 0, x => x
  | n + 1, x => stepN n (stepBit x)
def stepByte (x b : Nat) : Nat := stepN 8 (x ^^^ b)
def crcState (x : Nat) : List UInt8 → Nat
  | [] => x
  | b :: l => crcState (stepByte x b.toNat) l
def crcSum (l : List UInt8) : Nat := 4294967295 - crcState 4294967295 l

theorem stepBit_lt {x : Nat} (h : x < 2 ^ 32) : stepBit x < 2 ^ 32 := by
  unfold stepBit
  split
  · exact Nat.xor_lt_two_pow (by omega) (by decide)
  · omega
theorem stepN_lt (n : Nat) : ∀ {x : Nat}, x < 2 ^ 32 → stepN n x < 2 ^ 32 := by
  induction n with
  | zero => intro x h; exact h
  | succ n ih => intro x h; exact ih (stepBit_lt h)
theorem stepByte_lt {x b : Nat} (hx : x < 2 ^ 32) (hb : b < 2 ^ 8) : stepByte x b < 2 ^ 32 :=
  stepN_lt 8 (Nat.xor_lt_two_pow hx (by omega))

end Skiff
set_option linter.unusedVariables false
set_option linter.unusedSimpArgs false
set_option maxHeartbeats 4000000
namespace Skiff

/-- A string's bytes; a string of bytes. -/
def bl (s : ByteArray) : List UInt8 := s.data.toList
def mk (l : List UInt8) : ByteArray := ⟨l.toArray⟩
@[simp] theorem bl_mk (l : List UInt8) : bl (mk l) = l := by simp [bl, mk]
@[simp] theorem mk_bl (s : ByteArray) : mk (bl s) = s := rfl
@[simp] theorem bl_append (s t : ByteArray) : bl (s ++ t) = bl s ++ bl t := by simp [bl]
@[simp] theorem bl_length (s : ByteArray) : (bl s).length = s.size := by simp [bl]
@[simp] theorem mk_size (l : List UInt8) : (mk l).size = l.length := by simp [mk, ByteArray.size]
theorem bl_extract (s : ByteArray) (a b : Nat) : bl (s.extract a b) = ((bl s).drop a).take (b - a) := by
  simp [bl, List.extract_eq_take_drop]

theorem toList_bl (s : ByteArray) : s.toList = bl s := Go.ByteArray.toList_eq s
theorem beq_bl (a b : ByteArray) : (a.toList == b.toList) = decide (bl a = bl b) := by
  rw [toList_bl, toList_bl]
  by_cases h : bl a = bl b
  · simp [h]
  · simp [h]

/-- The lowest byte of a number; so many bytes, the lowest first; bytes' number. -/
def lowByte (x : Int) : UInt8 := UInt8.ofNat (x % 256).toNat
def low (x : Int) : Nat → List UInt8
  | 0 => []
  | k + 1 => lowByte x :: low (x / 256) k
def num : List UInt8 → Nat
  | [] => 0
  | b :: l => b.toNat + 256 * num l
theorem lowByte_toNat (x : Int) : ((lowByte x).toNat : Int) = x % 256 := by
  have h := Int.emod_nonneg x (show (256 : Int) ≠ 0 by decide)
  have h2 := Int.emod_lt_of_pos x (show (0 : Int) < 256 by decide)
  unfold lowByte
  rw [UInt8.toNat_ofNat']
  omega
@[simp] theorem low_length (k : Nat) : ∀ x, (low x k).length = k := by
  induction k with
  | zero => intro x; rfl
  | succ k ih => intro x; simp [low, ih]
theorem num_lt : ∀ l : List UInt8, num l < 256 ^ l.length
  | [] => by simp [num]
  | b :: l => by
    have h := num_lt l
    have hb := b.toNat_lt
    simp only [num, List.length_cons, Nat.pow_succ]
    have : 256 * num l + 256 ≤ 256 ^ l.length * 256 := by
      have := Nat.mul_le_mul_left 256 (Nat.succ_le_of_lt h)
      rw [Nat.mul_comm (256 ^ l.length)]
      omega
    omega
theorem num_low (k : Nat) : ∀ x : Int, 0 ≤ x → x < 256 ^ k → (num (low x k) : Int) = x := by
  induction k with
  | zero => intro x h0 h1; simp [low, num] at *; omega
  | succ k ih =>
    intro x h0 h1
    have h2 : x / 256 < 256 ^ k := by
      rw [Int.pow_succ] at h1
      exact Int.ediv_lt_of_lt_mul (by decide) h1
    have h3 := ih (x / 256) (by omega) h2
    simp only [low, num, Int.natCast_add, Int.natCast_mul, lowByte_toNat, h3]
    omega
theorem lowByte_cat (b : UInt8) (n : Nat) : lowByte ((b.toNat + 256 * n : Nat) : Int) = b := by
  apply UInt8.toNat_inj.1
  have h := lowByte_toNat ((b.toNat + 256 * n : Nat) : Int)
  have hb := b.toNat_lt
  omega
theorem low_num : ∀ l : List UInt8, low (num l : Int) l.length = l
  | [] => rfl
  | b :: l => by
    have h : ((num (b :: l) : Nat) : Int) / 256 = (num l : Int) := by
      have hb := b.toNat_lt
      simp only [num]
      omega
    show lowByte ((num (b :: l) : Nat) : Int) :: low (((num (b :: l) : Nat) : Int) / 256) l.length = _
    rw [h, low_num l, show (num (b :: l)) = b.toNat + 256 * num l from rfl, lowByte_cat]

theorem low_snoc (x : Int) : ∀ j : Nat, low x (j + 1) = low x j ++ [lowByte (x / 256 ^ j)]
  | 0 => by simp [low]
  | j + 1 => by
    have h := low_snoc (x / 256) j
    rw [show low x (j + 1 + 1) = lowByte x :: low (x / 256) (j + 1) from rfl, h, Int.ediv_ediv_of_nonneg (by decide)]
    rw [show (256 : Int) * 256 ^ j = 256 ^ (j + 1) by rw [Int.pow_succ, Int.mul_comm]]
    rfl

theorem low_set (x : Int) (j m : Nat) : (low x j ++ List.replicate (m + 1) 0).set j (lowByte (x / 256 ^ j)) = low x (j + 1) ++ List.replicate m 0 := by
  rw [List.set_append_right _ _ (by simp), low_length, Nat.sub_self, List.replicate_succ, List.set_cons_zero, low_snoc]
  simp

/-- A record. -/
structure Rec where
  seq : Int
  slot : Int
  size : Int
  sum : Int
  deriving DecidableEq
def Rec.zero : Rec := ⟨0, 0, 0, 0⟩
def within (x a b : Int) : Bool := decide (a ≤ x) && decide (x ≤ b)
def recMay (r : Rec) : Bool := within r.seq 1 1048576 && within r.slot 0 1 && within r.size 1 288 && within r.sum 0 4294967295
theorem within_iff {x a b : Int} : within x a b = true ↔ a ≤ x ∧ x ≤ b := by simp [within]
theorem recMay_iff {r : Rec} : recMay r = true ↔ (1 ≤ r.seq ∧ r.seq ≤ 1048576) ∧ (0 ≤ r.slot ∧ r.slot ≤ 1) ∧ (1 ≤ r.size ∧ r.size ≤ 288) ∧ 0 ≤ r.sum ∧ r.sum ≤ 4294967295 := by
  simp [recMay, within_iff, and_assoc]
def compl (l : List UInt8) : List UInt8 := l.map fun b => ~~~ b
@[simp] theorem compl_length (l : List UInt8) : (compl l).length = l.length := by simp [compl]
theorem compl_at (l : List UInt8) (j : Nat) (h : j < l.length) : (compl (l.take j) ++ l.drop j).getD j 0 = l[j] := by
  have hl : (compl (l.take j)).length = j := by simp; omega
  rw [List.getD_eq_getElem?_getD, List.getElem?_append_right (by omega), hl]
  simp [h]
theorem compl_set (l : List UInt8) (j : Nat) (h : j < l.length) : (compl (l.take j) ++ l.drop j).set j (~~~ l[j]) = compl (l.take (j + 1)) ++ l.drop (j + 1) := by
  have hl : (compl (l.take j)).length = j := by simp; omega
  rw [List.set_append_right _ _ (by omega), hl, Nat.sub_self, List.drop_eq_getElem_cons h, List.set_cons_zero, List.take_succ_eq_append_getElem h]
  simp only [compl, List.map_append, List.map_cons, List.map_nil, List.append_assoc, List.cons_append, List.nil_append]
def half (r : Rec) : List UInt8 := low r.seq 4 ++ (low r.slot 2 ++ (low r.size 2 ++ low r.sum 4))
def put (r : Rec) : List UInt8 := half r ++ compl (half r)
@[simp] theorem half_length (r : Rec) : (half r).length = 12 := by simp [half]
@[simp] theorem put_length (r : Rec) : (put r).length = 24 := by simp [put]
/-- The record that these bytes tell, whatever they are. -/
def told (l : List UInt8) : Rec := ⟨num (l.take 4), num ((l.drop 4).take 2), num ((l.drop 6).take 2), num ((l.drop 8).take 4)⟩
def get (l : List UInt8) : Option Rec := if l.length = 24 ∧ compl (l.take 12) = l.drop 12 ∧ recMay (told l) = true then some (told l) else none

theorem told_put {r : Rec} (h : recMay r = true) (l : List UInt8) : told (half r ++ l) = r := by
  obtain ⟨h1, h2, h3, h4⟩ := recMay_iff.1 h
  have e1 := num_low 4 r.seq (by omega) (by omega)
  have e2 := num_low 2 r.slot (by omega) (by omega)
  have e3 := num_low 2 r.size (by omega) (by omega)
  have e4 := num_low 4 r.sum (by omega) (by omega)
  have t1 : (half r ++ l).take 4 = low r.seq 4 := by simp [half, List.take_append]
  have t2 : ((half r ++ l).drop 4).take 2 = low r.slot 2 := by simp [half, List.take_append, List.drop_append]
  have t3 : ((half r ++ l).drop 6).take 2 = low r.size 2 := by simp [half, List.take_append, List.drop_append]
  have t4 : ((half r ++ l).drop 8).take 4 = low r.sum 4 := by simp [half, List.take_append, List.drop_append, List.drop_of_length_le]
  unfold told
  rw [t1, t2, t3, t4, e1, e2, e3, e4]
theorem get_put {r : Rec} (h : recMay r = true) : get (put r) = some r := by
  have e : told (put r) = r := told_put h _
  unfold get
  rw [e, if_pos ⟨put_length r, by simp [put, List.take_append, List.drop_append], h⟩]
theorem half_told (l : List UInt8) (h : 12 ≤ l.length) : half (told l) = l.take 12 := by
  have e1 := low_num (l.take 4)
  have e2 := low_num ((l.drop 4).take 2)
  have e3 := low_num ((l.drop 6).take 2)
  have e4 := low_num ((l.drop 8).take 4)
  rw [show (l.take 4).length = 4 by simp; omega] at e1
  rw [show ((l.drop 4).take 2).length = 2 by simp; omega] at e2
  rw [show ((l.drop 6).take 2).length = 2 by simp; omega] at e3
  rw [show ((l.drop 8).take 4).length = 4 by simp; omega] at e4
  unfold half told
  simp only
  rw [e1, e2, e3, e4]
  have s3 : (l.drop 6).take 6 = (l.drop 6).take 2 ++ (l.drop 8).take 4 := by
    rw [show 6 = 2 + 4 from rfl, List.take_add, List.drop_drop]
  have s2 : (l.drop 4).take 8 = (l.drop 4).take 2 ++ (l.drop 6).take 6 := by
    rw [show 8 = 2 + 6 from rfl, List.take_add, List.drop_drop]
  have s1 : l.take 12 = l.take 4 ++ (l.drop 4).take 8 := by
    rw [show 12 = 4 + 8 from rfl, List.take_add]
  rw [← s3, ← s2, ← s1]
theorem put_told {l : List UInt8} (h : l.length = 24) (hc : compl (l.take 12) = l.drop 12) : put (told l) = l := by
  unfold put
  rw [half_told l (by omega), hc, List.take_append_drop]
theorem get_some {l : List UInt8} {r : Rec} (h : get l = some r) : recMay r = true ∧ put r = l := by
  unfold get at h
  split at h
  · rename_i hc
    obtain rfl := Option.some.inj h
    exact ⟨hc.2.2, put_told hc.1 hc.2.1⟩
  · cases h
theorem get_none {l : List UInt8} (h : get l = none) (r : Rec) (hr : recMay r = true) : put r ≠ l := by
  intro e
  rw [← e, get_put hr] at h
  cases h

end Skiff
set_option linter.unusedVariables false
set_option linter.unusedSimpArgs false
set_option maxHeartbeats 4000000
namespace Skiff

/-- What a byte of the word lets stand where so many bits of it are done. -/
def maskB (w : UInt8) (m : Nat) : UInt8 := w ||| UInt8.ofNat (255 <<< min m 8)
def tornB (b w : UInt8) (m : Nat) : UInt8 := b &&& maskB w m
def tornL : List UInt8 → List UInt8 → Nat → List UInt8
  | b :: bs, w :: ws, n => tornB b w n :: tornL bs ws (n - 8)
  | bs, _, _ => bs
/-- One bit more. -/
def bitB (x w : UInt8) (m : Nat) : UInt8 := if (w >>> UInt8.ofNat m) &&& 1 = 0 then x &&& ~~~ (1 <<< UInt8.ofNat m) else x

theorem maskB_zero (w : UInt8) : maskB w 0 = 255 := by
  have h : ∀ n : Fin 256, maskB (UInt8.ofFin n) 0 = 255 := by decide +kernel
  exact h w.toFin
theorem maskB_full (w : UInt8) (m : Nat) (h : 8 ≤ m) : maskB w m = w := by
  have e : maskB w m = maskB w 8 := by unfold maskB; rw [show min m 8 = min 8 8 by omega]
  rw [e]
  have h : ∀ n : Fin 256, maskB (UInt8.ofFin n) 8 = UInt8.ofFin n := by decide +kernel
  exact h w.toFin
theorem maskB_step (w : UInt8) (m : Nat) (h : m < 8) : maskB w (m + 1) = if (w >>> UInt8.ofNat m) &&& 1 = 0 then maskB w m &&& ~~~ (1 <<< UInt8.ofNat m) else maskB w m := by
  have h1 : ∀ (k : Fin 8) (n : Fin 256), maskB (UInt8.ofFin n) (k.val + 1) = if (UInt8.ofFin n >>> UInt8.ofNat k.val) &&& 1 = 0 then maskB (UInt8.ofFin n) k.val &&& ~~~ (1 <<< UInt8.ofNat k.val) else maskB (UInt8.ofFin n) k.val := by decide +kernel
  exact h1 ⟨m, h⟩ w.toFin
theorem tornB_step (b w : UInt8) (m : Nat) (h : m < 8) : tornB b w (m + 1) = bitB (tornB b w m) w m := by
  unfold tornB bitB
  rw [maskB_step w m h]
  split <;> simp [UInt8.and_assoc]
theorem tornB_zero (b w : UInt8) : tornB b w 0 = b := by
  unfold tornB
  rw [maskB_zero]
  have h : ∀ n : Fin 256, UInt8.ofFin n &&& 255 = UInt8.ofFin n := by decide +kernel
  exact h b.toFin
theorem tornL_zero : ∀ b w : List UInt8, tornL b w 0 = b
  | [], _ => by simp [tornL]
  | b :: bs, [] => by simp [tornL]
  | b :: bs, w :: ws => by simp [tornL, tornB_zero, tornL_zero bs ws]
@[simp] theorem tornL_length : ∀ (b w : List UInt8) (n : Nat), (tornL b w n).length = b.length
  | [], _, _ => by simp [tornL]
  | b :: bs, [], _ => by simp [tornL]
  | b :: bs, w :: ws, n => by simp [tornL, tornL_length bs ws]
/-- One bit more, in the row of bytes. -/
theorem tornL_step : ∀ (b w : List UInt8) (n : Nat), n < 8 * b.length → n < 8 * w.length → tornL b w (n + 1) = (tornL b w n).set (n / 8) (bitB ((tornL b w n).getD (n / 8) 0) (w.getD (n / 8) 0) (n % 8))
  | [], _, _, h, _ => by simp at h
  | b :: bs, [], _, _, h => by simp at h
  | b :: bs, w :: ws, n, h1, h2 => by
    by_cases h : n < 8
    · have e1 : n + 1 - 8 = 0 := by omega
      have e2 : n - 8 = 0 := by omega
      have e3 : n / 8 = 0 := by omega
      have e4 : n % 8 = n := by omega
      simp [tornL, e1, e2, e3, e4, tornB_step b w n h]
    · obtain ⟨m, rfl⟩ : ∃ m, n = m + 8 := ⟨n - 8, by omega⟩
      have ih := tornL_step bs ws m (by simp at h1; omega) (by simp at h2; omega)
      have e1 : m + 8 + 1 - 8 = m + 1 := by omega
      have e2 : m + 8 - 8 = m := by omega
      have e3 : (m + 8) / 8 = m / 8 + 1 := by omega
      have e4 : (m + 8) % 8 = m % 8 := by omega
      have t1 : tornB b w (m + 8 + 1) = tornB b w (m + 8) := by unfold tornB; rw [maskB_full w _ (by omega), maskB_full w _ (by omega)]
      simp only [tornL, e1, e2, e3, e4, t1, List.getD_cons_succ, List.set_cons_succ, ih]

/-- The flash behind a torn word, behind a worn sector. -/
def tornF (f : List UInt8) (at_ : Nat) (w : List UInt8) (n : Nat) : List UInt8 := f.take at_ ++ tornL ((f.drop at_).take 4) w n ++ f.drop (at_ + 4)
def wornF (f : List UInt8) (at_ many : Nat) : List UInt8 := f.take at_ ++ List.replicate many 255 ++ f.drop (at_ + many)
def wordAt (x : Int) : Bool := within x 0 764 && decide (x % 4 = 0)
def tornMay (f : List UInt8) (at_ : Int) (w : List UInt8) (n : Int) : Bool := decide (f.length = 768) && wordAt at_ && decide (w.length = 4) && within n 0 32
def wornMay (f : List UInt8) (s n : Int) : Bool := decide (f.length = 768) && within s 0 7 && within n 0 96
def torn (f : List UInt8) (at_ : Int) (w : List UInt8) (n : Int) : Option (List UInt8) := if tornMay f at_ w n = true then some (tornF f at_.toNat w n.toNat) else none
def worn (f : List UInt8) (s n : Int) : Option (List UInt8) := if wornMay f s n = true then some (wornF f (96 * s.toNat) n.toNat) else none
def flash0 : List UInt8 := List.replicate 768 255

end Skiff
set_option linter.unusedVariables false
set_option linter.unusedSimpArgs false
set_option maxHeartbeats 4000000
namespace Skiff

end Skiff
set_option linter.unusedVariables false
set_option linter.unusedSimpArgs false
set_option maxHeartbeats 4000000
namespace Go.Proofs.Ytmidohjfajbpmaa
open Go.RowKit Skiff

theorem info_u8 : (Try.prog.info? 5).map (fun i => (i.zero, i.size, i.bytes)) = some (some (.int .u8 0), 1, 1) := by kernel_rfl

theorem upTo_calls (x a b : Int) (w : World) :
    Calls Try.prog 45 #[.int .i64 x, .int .i64 a, .int .i64 b] w fun e w' => e = .returned (.bool (within x a b)) ∧ w = w' := by
  have hw : Hid (within x a b = (decide (a ≤ x) && decide (x ≤ b))) := rfl
  by_cases h : a ≤ x
  · have h1 : decide (a ≤ x) = true := by simpa using h
    go_enter Try.func45, Try.ntmps45
    go_wp2
    go_ret
    exact ⟨by rw [hw.out, h1]; rfl, rfl⟩
  · have h1 : decide (a ≤ x) = false := by simpa using h
    go_enter Try.func45, Try.ntmps45
    go_wp2
    go_ret
    exact ⟨by rw [hw.out, h1]; rfl, rfl⟩

theorem made_u8 (n : Nat) (h : n ≤ 140737488351232) (w : World) :
    (Instr.makeSlice 110 (.int .i64 (n : Int)) (.int .i64 (n : Int))).run Try.prog w = .ok (.slice (some ⟨w.heap.size, 0, none⟩) n n) (w.alloc (.cells (madeCells #[.int .u8 0] n) 5)) := by
  obtain ⟨i0, hi, hz0, hz1, hz2⟩ := info_parts info_u8
  have hr := run_make (P := Try.prog) w 110 5 i0 _ Try.underlying110 hi hz0 .i64 .i64 (n : Int) (n : Int) (by omega) (by omega) (by rw [hz2]; omega) (by omega)
  rw [hz1] at hr
  simp only [Nat.mul_one, Int.toNat_natCast] at hr
  exact hr

end Go.Proofs.Ytmidohjfajbpmaa
set_option linter.unusedVariables false
set_option linter.unusedSimpArgs false
set_option maxHeartbeats 4000000
namespace Go.Proofs.Ytmidohjfajbpmaa
open Go.RowKit Skiff

theorem full_set (j m : Nat) : (List.replicate j (255 : UInt8) ++ List.replicate (m + 1) 0).set j 255 = List.replicate (j + 1) 255 ++ List.replicate m 0 := by
  rw [List.set_append_right _ _ (by simp), List.length_replicate, Nat.sub_self, List.replicate_succ, List.set_cons_zero, List.replicate_succ']
  simp

theorem rfull_calls (k : Nat) (hk : k ≤ 768) (w : World) :
    Calls Try.prog 62 #[.int .i64 (k : Int)] w fun e w' => e = .returned (.string (mk (List.replicate k 255))) ∧ Ext w w' := by
  have hmk := fun w => made_u8 k (by omega) w
  go_enter Try.func62, Try.ntmps62
  go_wp2
  go_loopw [4] (fun i wr => ∃ j : Nat, j ≤ k ∧ i = .int .i64 (j : Int) ∧ RowB wr w.heap.size (List.replicate j 255 ++ List.replicate (k - j) 0) ∧ Ext w wr) (fun i _ => k - (intOf i).toNat)
  case atStart => exact ⟨0, by omega, rfl, RowB.made _ _ _, (Ext.refl _).alloc _⟩
  case round =>
    obtain ⟨j, hj, rfl, hR, hE⟩ := hrel
    have hll : (List.replicate j (255 : UInt8) ++ List.replicate (k - j) (0 : UInt8)).length = k := by simp; omega
    by_cases hlt : j < k
    · have hcell := hR.cellD (i := j) (by omega)
      have hfree := hR.free (i := j) (by omega)
      obtain ⟨m, hm⟩ : ∃ m, k - j = m + 1 := ⟨k - j - 1, by omega⟩
      have hm2 : k - (j + 1) = m := by omega
      have HM := Lib.hid hm
      have HM2 := Lib.hid hm2
      clear hm hm2
      go_wp2
      go_roundw
      case rel => exact ⟨j + 1, by omega, by go_num, by have h1 := hR.set j 255; rw [HM.out, full_set] at h1; rw [HM2.out]; exact h1, hE.setCell (Nat.le_refl _) _⟩
      case measure => simp [intOf] <;> omega
    · obtain rfl : j = k := by omega
      have hr := hR.string (P := Try.prog) 110 5 9 Try.underlying110 Try.underlying5 Try.underlying9 j
      have hfin : List.replicate j (255 : UInt8) ++ List.replicate (j - j) (0 : UInt8) = List.replicate j 255 := by simp
      rw [hll, hfin] at hr
      go_wp2
      go_ret
      exact ⟨rfl, hE⟩

theorem rfull768_calls (w : World) : Calls Try.prog 62 #[.int .i64 768] w fun e w' => e = .returned (.string (mk flash0)) ∧ Ext w w' := rfull_calls 768 (by omega) w

theorem rblank_calls (w : World) :
    Calls Try.prog 36 #[] w fun e w' => e = .returned (.string (mk flash0)) ∧ Ext w w' := by
  go_enter Try.func36, Try.ntmps36
  go_wp2_with fail
  refine (rfull768_calls _).mono ?_
  rintro e w1 ⟨rfl, B1⟩
  go_wp2
  go_ret
  exact ⟨rfl, (by repeat (first | (with_reducible exact Ext.refl _) | (with_reducible assumption) | (with_reducible refine Ext.drewN ?_ _) | (with_reducible refine Ext.drew ?_) | (with_reducible refine Ext.alloc ?_ _) | (with_reducible refine Ext.setCell ?_ (by first | exact Nat.le_refl _ | (simp <;> omega)) _) | (with_reducible refine Ext.trans ?_ (by with_reducible assumption))))⟩

theorem flashMay_calls (s : ByteArray) (w : World) :
    Calls Try.prog 43 #[.string s] w fun e w' => e = .returned (.bool (decide (s.size = 768))) ∧ w = w' := by
  by_cases h : s.size = 768
  · have h1 : ((s.size : Int) == 768) = true := by rw [h]; rfl
    have h2 : Hid (decide (s.size = 768) = true) := by show _ = _; simpa using h
    clear h
    go_enter Try.func43, Try.ntmps43
    go_wp2
    go_ret
    exact ⟨by rw [h2.out]; rfl, rfl⟩
  · have h1 : ((s.size : Int) == 768) = false := by rw [beq_eq_false_iff_ne]; omega
    have h2 : Hid (decide (s.size = 768) = false) := by show _ = _; simpa using h
    clear h
    go_enter Try.func43, Try.ntmps43
    go_wp2
    go_ret
    exact ⟨by rw [h2.out]; rfl, rfl⟩

theorem rwordAt_calls (x : Int) (w : World) :
    Calls Try.prog 89 #[.int .i64 x] w fun e w' => e = .returned (.bool (wordAt x)) ∧ w = w' := by
  cases h1 : within x 0 764
  · have h2 : Hid (wordAt x = false) := by show _ = _; simp [wordAt, h1]
    have C := Lib.hid (fun w => upTo_calls x 0 764 w)
    rw [h1] at C
    clear h1
    go_enter Try.func89, Try.ntmps89
    go_wp2_with fail
    refine (C.out _).mono ?_
    rintro e w1 ⟨rfl, rfl⟩
    go_wp2
    go_ret
    exact ⟨by rw [h2.out]; rfl, rfl⟩
  · have hx := Skiff.within_iff.1 h1
    have ht : x.tmod 4 = x % 4 := Int.tmod_eq_emod_of_nonneg hx.1
    have C := Lib.hid (fun w => upTo_calls x 0 764 w)
    rw [h1] at C
    by_cases h4 : x % 4 = 0
    · have h2 : Hid (wordAt x = true) := by show _ = _; simp [wordAt, h1, h4]
      have h3 : (x % 4 == 0) = true := by rw [h4]; rfl
      clear ht h4 h1
      go_enter Try.func89, Try.ntmps89
      go_wp2_with fail
      refine (C.out _).mono ?_
      rintro e w2 ⟨rfl, rfl⟩
      go_wp2
      go_ret
      exact ⟨by rw [h2.out]; rfl, rfl⟩
    · have h2 : Hid (wordAt x = false) := by show _ = _; simp [wordAt, h1, h4]
      have h3 : (x % 4 == 0) = false := by rw [beq_eq_false_iff_ne]; exact h4
      clear ht h4 h1
      go_enter Try.func89, Try.ntmps89
      go_wp2_with fail
      refine (C.out _).mono ?_
      rintro e w3 ⟨rfl, rfl⟩
      go_wp2
      go_ret
      exact ⟨by rw [h2.out]; rfl, rfl⟩

def tornRes (o : Option (List UInt8)) : Value := match o with
  | some l => .tuple #[.string (mk l), .int .i64 0]
  | none => .tuple #[.string (mk []), .int .i64 200]

theorem bit_test (x : UInt8) (m : Nat) (hm : m < 8) : (bits .and .u8 ((x.toNat : Int) / 2 ^ m) 1 == 0) = decide ((x >>> UInt8.ofNat m) &&& 1 = 0) := by
  have h : ∀ (k : Fin 8) (n : Fin 256), (bits .and .u8 (((UInt8.ofFin n).toNat : Int) / 2 ^ k.val) 1 == 0) = decide ((UInt8.ofFin n >>> UInt8.ofNat k.val) &&& 1 = 0) := by decide +kernel
  exact h ⟨m, hm⟩ x.toFin

theorem bit_clear (y : UInt8) (m : Nat) (hm : m < 8) : bits .andNot .u8 (y.toNat : Int) (2 ^ m % 256) = ((y &&& ~~~ (1 <<< UInt8.ofNat m)).toNat : Int) := by
  have h : ∀ (k : Fin 8) (n : Fin 256), bits .andNot .u8 ((UInt8.ofFin n).toNat : Int) (2 ^ k.val % 256) = ((UInt8.ofFin n &&& ~~~ (1 <<< UInt8.ofNat k.val)).toNat : Int) := by decide +kernel
  exact h ⟨m, hm⟩ y.toFin

theorem set_getD_self (l : List UInt8) (i : Nat) : l.set i (l.getD i 0) = l := by
  by_cases h : i < l.length
  · rw [List.getD_eq_getElem?_getD, List.getElem?_eq_getElem h]
    exact List.set_getElem_self h
  · exact List.set_eq_of_length_le (by omega)

set_option maxRecDepth 100000 in
theorem rtorn_calls (f s : ByteArray) (x n : Int) (w : World) :
    Calls Try.prog 83 #[.string f, .int .i64 x, .string s, .int .i64 n] w fun e w' => e = .returned (tornRes (torn (bl f) x (bl s) n)) ∧ Ext w w' := by
  have C1 := Lib.hid (fun w => flashMay_calls f w)
  have C2 := Lib.hid (fun w => rwordAt_calls x w)
  have C3 := Lib.hid (fun w => upTo_calls n 0 32 w)
  by_cases h1 : f.size = 768
  case neg =>
    have HG : Hid (tornRes (torn (bl f) x (bl s) n) = .tuple #[.string (mk []), .int .i64 200]) := by
      show _ = _
      unfold torn tornMay
      rw [bl_length, decide_eq_false h1]; rfl
    rw [decide_eq_false h1] at C1
    clear h1
    go_enter Try.func83, Try.ntmps83
    go_wp2_with fail
    refine (C1.out _).mono ?_
    rintro e w1 ⟨rfl, rfl⟩
    go_wp2
    go_ret2
    exact ⟨congrArg Ending.returned HG.out.symm, (by repeat (first | (with_reducible exact Ext.refl _) | (with_reducible assumption) | (with_reducible refine Ext.drewN ?_ _) | (with_reducible refine Ext.drew ?_) | (with_reducible refine Ext.alloc ?_ _) | (with_reducible refine Ext.setCell ?_ (by first | exact Nat.le_refl _ | (simp <;> omega)) _) | (with_reducible refine Ext.trans ?_ (by with_reducible assumption))))⟩
  case pos =>
  cases h2 : wordAt x
  case false =>
    have HG : Hid (tornRes (torn (bl f) x (bl s) n) = .tuple #[.string (mk []), .int .i64 200]) := by
      show _ = _
      unfold torn tornMay
      rw [h2, Bool.and_false]; rfl
    rw [decide_eq_true h1] at C1
    rw [h2] at C2
    clear h1 h2
    go_enter Try.func83, Try.ntmps83
    go_wp2_with fail
    refine (C1.out _).mono ?_
    rintro e w2 ⟨rfl, rfl⟩
    go_wp2_with fail
    refine (C2.out _).mono ?_
    rintro e w3 ⟨rfl, rfl⟩
    go_wp2
    go_ret2
    exact ⟨congrArg Ending.returned HG.out.symm, (by repeat (first | (with_reducible exact Ext.refl _) | (with_reducible assumption) | (with_reducible refine Ext.drewN ?_ _) | (with_reducible refine Ext.drew ?_) | (with_reducible refine Ext.alloc ?_ _) | (with_reducible refine Ext.setCell ?_ (by first | exact Nat.le_refl _ | (simp <;> omega)) _) | (with_reducible refine Ext.trans ?_ (by with_reducible assumption))))⟩
  case true =>
  by_cases h3 : s.size = 4
  case neg =>
    have HG : Hid (tornRes (torn (bl f) x (bl s) n) = .tuple #[.string (mk []), .int .i64 200]) := by
      show _ = _
      unfold torn tornMay
      rw [bl_length s, decide_eq_false h3, Bool.and_false]; rfl
    have ht : ((s.size : Int) != 4) = true := by rw [bne_iff_ne]; omega
    rw [decide_eq_true h1] at C1
    rw [h2] at C2
    clear h1 h2
    go_enter Try.func83, Try.ntmps83
    go_wp2_with fail
    refine (C1.out _).mono ?_
    rintro e w4 ⟨rfl, rfl⟩
    go_wp2_with fail
    refine (C2.out _).mono ?_
    rintro e w5 ⟨rfl, rfl⟩
    go_wp2
    go_ret2
    exact ⟨congrArg Ending.returned HG.out.symm, (by repeat (first | (with_reducible exact Ext.refl _) | (with_reducible assumption) | (with_reducible refine Ext.drewN ?_ _) | (with_reducible refine Ext.drew ?_) | (with_reducible refine Ext.alloc ?_ _) | (with_reducible refine Ext.setCell ?_ (by first | exact Nat.le_refl _ | (simp <;> omega)) _) | (with_reducible refine Ext.trans ?_ (by with_reducible assumption))))⟩
  case pos =>
  have ht : ((s.size : Int) != 4) = false := by rw [h3]; rfl
  cases h4 : within n 0 32
  case false =>
    have HG : Hid (tornRes (torn (bl f) x (bl s) n) = .tuple #[.string (mk []), .int .i64 200]) := by
      show _ = _
      unfold torn tornMay
      rw [h4, Bool.and_false]; rfl
    rw [decide_eq_true h1] at C1
    rw [h2] at C2
    rw [h4] at C3
    clear h1 h2 h4
    go_enter Try.func83, Try.ntmps83
    go_wp2_with fail
    refine (C1.out _).mono ?_
    rintro e w6 ⟨rfl, rfl⟩
    go_wp2_with fail
    refine (C2.out _).mono ?_
    rintro e w7 ⟨rfl, rfl⟩
    go_wp2_with fail
    refine (C3.out _).mono ?_
    rintro e w8 ⟨rfl, rfl⟩
    go_wp2
    go_ret2
    exact ⟨congrArg Ending.returned HG.out.symm, (by repeat (first | (with_reducible exact Ext.refl _) | (with_reducible assumption) | (with_reducible refine Ext.drewN ?_ _) | (with_reducible refine Ext.drew ?_) | (with_reducible refine Ext.alloc ?_ _) | (with_reducible refine Ext.setCell ?_ (by first | exact Nat.le_refl _ | (simp <;> omega)) _) | (with_reducible refine Ext.trans ?_ (by with_reducible assumption))))⟩
  case true =>
  obtain ⟨hn0, hn1⟩ := Skiff.within_iff.1 h4
  have hx := h2
  unfold wordAt at hx
  obtain ⟨hx0, hx1⟩ := Skiff.within_iff.1 (Bool.and_eq_true_iff.1 hx).1
  obtain ⟨k, rfl⟩ := Int.eq_ofNat_of_zero_le hn0
  obtain ⟨j, rfl⟩ := Int.eq_ofNat_of_zero_le hx0
  have HG : Hid (torn (bl f) j (bl s) k = some (tornF (bl f) j (bl s) k)) := by
    show _ = _
    unfold torn tornMay
    rw [bl_length, bl_length, decide_eq_true h1, h2, decide_eq_true h3, h4]
    rfl
  rw [decide_eq_true h1] at C1
  rw [h2] at C2
  rw [h4] at C3
  clear hx h2 h4
  have kc := fun (w : World) => Lib.run_convert_string_bytes (P := Try.prog) w 9 110 5 (f.extract j (j + 4)) Try.underlying9 Try.underlying110 Try.underlying5
  have hb0 : bl (f.extract j (j + 4)) = ((bl f).drop j).take 4 := by rw [bl_extract]; simp
  have hsz : (f.extract j (j + 4)).size = 4 := by simp; omega
  rw [hsz] at kc
  have HB := Lib.hid hb0
  clear hb0
  go_enter Try.func83, Try.ntmps83
  go_wp2_with fail
  refine (C1.out _).mono ?_
  rintro e w9 ⟨rfl, rfl⟩
  go_wp2_with fail
  refine (C2.out _).mono ?_
  rintro e w10 ⟨rfl, rfl⟩
  go_wp2_with fail
  refine (C3.out _).mono ?_
  rintro e w11 ⟨rfl, rfl⟩
  go_wp2
  have hR0 := RowB.bytes w 5 (f.extract j (j + 4))
  rw [show (f.extract j (j + 4)).data.toList = ((bl f).drop j).take 4 from HB.out] at hR0
  have hE0 := Ext.bytes w 5 (f.extract j (j + 4))
  have hbl : (((bl f).drop j).take 4).length = 4 := by simp; omega
  generalize ((bl f).drop j).take 4 = b0 at hR0 hbl HB
  go_loopw [11] (fun i wr => ∃ c : Nat, c ≤ k ∧ i = .int .i64 (c : Int) ∧ RowB wr w.heap.size (tornL b0 (bl s) c) ∧ Ext w wr) (fun i _ => k - (intOf i).toNat)
  case atStart => exact ⟨0, by omega, rfl, by rw [tornL_zero]; exact hR0, hE0⟩
  case round =>
    clear hR0 hE0
    obtain ⟨c, hc, rfl, hR, hE⟩ := hrel
    have hll := tornL_length b0 (bl s) c
    by_cases hlt : c < k
    · have g0 : c / 8 < 4 := by omega
      have g1 : c % 8 < 8 := by omega
      have g2 : c / 8 < s.size := by omega
      have g3 : 0 ≤ (c : Int) / 8 ∧ (c : Int) / 8 < 4 := by omega
      have hbt := bit_test (s[c / 8]) (c % 8) g1
      have hst := tornL_step b0 (bl s) c (by omega) (by rw [bl_length]; omega)
      rw [show (bl s).getD (c / 8) 0 = s[c / 8] by rw [List.getD_eq_getElem?_getD, List.getElem?_eq_getElem (by rw [bl_length]; exact g2)]; rfl] at hst
      unfold bitB at hst
      have hcell := hR.cellD (i := c / 8) (by omega)
      have hfree := hR.free (i := c / 8) (by omega)
      generalize hy : (tornL b0 (bl s) c).getD (c / 8) 0 = y at hst hcell
      have HY := Lib.hid hy
      clear hy
      by_cases hb : (s[c / 8] >>> UInt8.ofNat (c % 8)) &&& 1 = 0
      · rw [decide_eq_true hb] at hbt
        rw [if_pos hb] at hst
        have hcl := bit_clear y (c % 8) g1
        generalize y &&& ~~~ (1 <<< UInt8.ofNat (c % 8)) = z at hst hcl
        have HST := Lib.hid hst
        clear hb hst
        go_wp2
        go_region
        go_wp2
        go_roundw
        case rel => exact ⟨c + 1, by omega, by go_num, by rw [HST.out]; exact (hR.set (c / 8) z).ext ((Ext.refl _).drew), (hE.setCell (Nat.le_refl _) _).drew⟩
        case measure => simp [intOf] <;> omega
      · rw [decide_eq_false hb] at hbt
        rw [if_neg hb] at hst
        have HST := Lib.hid hst
        clear hb hst
        go_wp2
        go_roundw
        case rel => exact ⟨c + 1, by omega, by go_num, by rw [HST.out, ← HY.out, set_getD_self]; exact hR, hE⟩
        case measure => simp [intOf] <;> omega
    · obtain rfl : c = k := by omega
      have hS := (hR.ext ((Ext.refl wr).drew)).string (P := Try.prog) 110 5 9 Try.underlying110 Try.underlying5 Try.underlying9 (grownCap w 4 0 5)
      rw [hll, hbl] at hS
      have hj1 : (j : Int) + 4 ≤ 768 := by omega
      have hj2 : IntKind.i64.wrap ((j : Int) + 4) = (j : Int) + 4 := wrap_i64_fit _ (by omega) (by omega)
      have hj3 : 0 ≤ (j : Int) + 4 := by omega
      have hj4 : ((j : Int) + 4).toNat = j + 4 := by omega
      have hj5 : (j : Int) ≤ 768 := by omega
      go_wp2
      go_region
      have he : f.extract 0 j ++ (⟨(tornL b0 (bl s) c).toArray⟩ : ByteArray) ++ f.extract (j + 4) 768 = mk (tornF (bl f) j (bl s) c) := by
        rw [← mk_bl (f.extract 0 j ++ (⟨(tornL b0 (bl s) c).toArray⟩ : ByteArray) ++ f.extract (j + 4) 768)]
        congr 1
        rw [bl_append, bl_append, bl_extract, bl_extract]
        have e1 : b0 = ((bl f).drop j).take 4 := by rw [← HB.out, bl_extract]; simp
        have e2 : bl (⟨(tornL b0 (bl s) c).toArray⟩ : ByteArray) = tornL b0 (bl s) c := bl_mk _
        rw [e2, e1]
        unfold tornF
        rw [List.take_of_length_le (by simp; omega : ((bl f).drop (j + 4)).length ≤ 768 - (j + 4))]
        simp
      rw [he]
      go_wp2
      go_ret2
      exact ⟨congrArg Ending.returned (congrArg tornRes HG.out).symm, (by repeat (first | (with_reducible exact Ext.refl _) | (with_reducible assumption) | (with_reducible refine Ext.drewN ?_ _) | (with_reducible refine Ext.drew ?_) | (with_reducible refine Ext.alloc ?_ _) | (with_reducible refine Ext.setCell ?_ (by first | exact Nat.le_refl _ | (simp <;> omega)) _) | (with_reducible refine Ext.trans ?_ (by with_reducible assumption))))⟩

end Go.Proofs.Ytmidohjfajbpmaa
set_option linter.unusedVariables false
set_option linter.unusedSimpArgs false
set_option maxHeartbeats 4000000
namespace Go.Proofs.Ytmidohjfajbpmaa
open Go.RowKit Skiff

theorem rworn_calls (f : ByteArray) (x n : Int) (w : World) :
    Calls Try.prog 82 #[.string f, .int .i64 x, .int .i64 n] w fun e w' => e = .returned (tornRes (worn (bl f) x n)) ∧ Ext w w' := by
  have C1 := Lib.hid (fun w => flashMay_calls f w)
  have C2 := Lib.hid (fun w => upTo_calls x 0 7 w)
  have C3 := Lib.hid (fun w => upTo_calls n 0 96 w)
  by_cases h1 : f.size = 768
  case neg =>
    have HG : Hid (tornRes (worn (bl f) x n) = .tuple #[.string (mk []), .int .i64 200]) := by
      show _ = _
      unfold worn wornMay
      rw [bl_length, decide_eq_false h1]; rfl
    rw [decide_eq_false h1] at C1
    clear h1
    go_enter Try.func82, Try.ntmps82
    go_wp2_with fail
    refine (C1.out _).mono ?_
    rintro e w1 ⟨rfl, rfl⟩
    go_wp2
    go_ret2
    exact ⟨congrArg Ending.returned HG.out.symm, (by repeat (first | (with_reducible exact Ext.refl _) | (with_reducible assumption) | (with_reducible refine Ext.drewN ?_ _) | (with_reducible refine Ext.drew ?_) | (with_reducible refine Ext.alloc ?_ _) | (with_reducible refine Ext.setCell ?_ (by first | exact Nat.le_refl _ | (simp <;> omega)) _) | (with_reducible refine Ext.trans ?_ (by with_reducible assumption))))⟩
  case pos =>
  cases h2 : within x 0 7
  case false =>
    have HG : Hid (tornRes (worn (bl f) x n) = .tuple #[.string (mk []), .int .i64 200]) := by
      show _ = _
      unfold worn wornMay
      rw [h2, Bool.and_false]; rfl
    rw [decide_eq_true h1] at C1
    rw [h2] at C2
    clear h1 h2
    go_enter Try.func82, Try.ntmps82
    go_wp2_with fail
    refine (C1.out _).mono ?_
    rintro e w2 ⟨rfl, rfl⟩
    go_wp2_with fail
    refine (C2.out _).mono ?_
    rintro e w3 ⟨rfl, rfl⟩
    go_wp2
    go_ret2
    exact ⟨congrArg Ending.returned HG.out.symm, (by repeat (first | (with_reducible exact Ext.refl _) | (with_reducible assumption) | (with_reducible refine Ext.drewN ?_ _) | (with_reducible refine Ext.drew ?_) | (with_reducible refine Ext.alloc ?_ _) | (with_reducible refine Ext.setCell ?_ (by first | exact Nat.le_refl _ | (simp <;> omega)) _) | (with_reducible refine Ext.trans ?_ (by with_reducible assumption))))⟩
  case true =>
  cases h4 : within n 0 96
  case false =>
    have HG : Hid (tornRes (worn (bl f) x n) = .tuple #[.string (mk []), .int .i64 200]) := by
      show _ = _
      unfold worn wornMay
      rw [h4, Bool.and_false]; rfl
    rw [decide_eq_true h1] at C1
    rw [h2] at C2
    rw [h4] at C3
    clear h1 h2 h4
    go_enter Try.func82, Try.ntmps82
    go_wp2_with fail
    refine (C1.out _).mono ?_
    rintro e w4 ⟨rfl, rfl⟩
    go_wp2_with fail
    refine (C2.out _).mono ?_
    rintro e w5 ⟨rfl, rfl⟩
    go_wp2_with fail
    refine (C3.out _).mono ?_
    rintro e w6 ⟨rfl, rfl⟩
    go_wp2
    go_ret2
    exact ⟨congrArg Ending.returned HG.out.symm, (by repeat (first | (with_reducible exact Ext.refl _) | (with_reducible assumption) | (with_reducible refine Ext.drewN ?_ _) | (with_reducible refine Ext.drew ?_) | (with_reducible refine Ext.alloc ?_ _) | (with_reducible refine Ext.setCell ?_ (by first | exact Nat.le_refl _ | (simp <;> omega)) _) | (with_reducible refine Ext.trans ?_ (by with_reducible assumption))))⟩
  case true =>
  obtain ⟨hn0, hn1⟩ := Skiff.within_iff.1 h4
  obtain ⟨hx0, hx1⟩ := Skiff.within_iff.1 h2
  obtain ⟨k, rfl⟩ := Int.eq_ofNat_of_zero_le hn0
  obtain ⟨j, rfl⟩ := Int.eq_ofNat_of_zero_le hx0
  have HG : Hid (worn (bl f) j k = some (wornF (bl f) (j * 96) k)) := by
    show _ = _
    unfold worn wornMay
    rw [bl_length, decide_eq_true h1, h2, h4, Nat.mul_comm j 96]
    rfl
  rw [decide_eq_true h1] at C1
  rw [h2] at C2
  rw [h4] at C3
  clear h2 h4
  have C4 := Lib.hid (fun w => rfull_calls k (by omega) w)
  have c0 : (j : Int) * 96 ≤ 768 := by omega
  have c1 : (j : Int) * 96 + (k : Int) ≤ 768 := by omega
  have c2 : 0 ≤ (j : Int) * 96 + (k : Int) := by omega
  have c3 : ((j : Int) * 96 + (k : Int)).toNat = j * 96 + k := by omega
  have c4 : ((j : Int) * 96).toNat = j * 96 := by omega
  have c5 : IntKind.i64.wrap ((j : Int) * 96 + (k : Int)) = (j : Int) * 96 + (k : Int) := wrap_i64_fit _ (by omega) (by omega)
  have c6 : 0 ≤ (j : Int) * 96 := by omega
  have he : f.extract 0 (j * 96) ++ mk (List.replicate k 255) ++ f.extract (j * 96 + k) 768 = mk (wornF (bl f) (j * 96) k) := by
    rw [← mk_bl (f.extract 0 (j * 96) ++ mk (List.replicate k 255) ++ f.extract (j * 96 + k) 768)]
    congr 1
    rw [bl_append, bl_append, bl_extract, bl_extract, bl_mk]
    unfold wornF
    rw [List.take_of_length_le (by simp; omega : ((bl f).drop (j * 96 + k)).length ≤ 768 - (j * 96 + k))]
    simp
  have hrs : (mk (List.replicate k 255)).size = k := by rw [mk_size, List.length_replicate]
  have hs1 : (f.extract 0 (j * 96)).size = j * 96 := by simp; omega
  have hs2 : (f.extract (j * 96 + k) 768).size = 768 - (j * 96 + k) := by simp; omega
  have q1 : ¬ (9223372036854775807 < j * 96 + k) := by omega
  have q2 : ¬ (9223372036854775807 < j * 96 + k + (768 - (j * 96 + k))) := by omega
  generalize mk (List.replicate k 255) = R at *
  have HE := Lib.hid he
  clear he
  go_enter Try.func82, Try.ntmps82
  go_wp2_with fail
  refine (C1.out _).mono ?_
  rintro e w7 ⟨rfl, rfl⟩
  go_wp2_with fail
  refine (C2.out _).mono ?_
  rintro e w8 ⟨rfl, rfl⟩
  go_wp2_with fail
  refine (C3.out _).mono ?_
  rintro e w9 ⟨rfl, rfl⟩
  go_wp2
  go_region_held3 (fun w' => Ext w w') ( repeat (first | (with_reducible exact Ext.refl _) | (with_reducible assumption) | (with_reducible refine Ext.drewN ?_ _) | (with_reducible refine Ext.drew ?_) | (with_reducible refine Ext.alloc ?_ _) | (with_reducible refine Ext.setCell ?_ (by first | exact Nat.le_refl _ | (simp <;> omega)) _) | (with_reducible refine Ext.trans ?_ (by with_reducible assumption)))) (first | (go_at_call 62; (with_reducible refine (C4.out _).mono ?_); rintro e w' ⟨rfl, B⟩))
  all_goals
    rw [HE.out]
    go_wp2
    go_ret2
    exact ⟨congrArg Ending.returned (congrArg tornRes HG.out).symm, (by first | assumption | exact (by repeat (first | (with_reducible exact Ext.refl _) | (with_reducible assumption) | (with_reducible refine Ext.drewN ?_ _) | (with_reducible refine Ext.drew ?_) | (with_reducible refine Ext.alloc ?_ _) | (with_reducible refine Ext.setCell ?_ (by first | exact Nat.le_refl _ | (simp <;> omega)) _) | (with_reducible refine Ext.trans ?_ (by with_reducible assumption)))))⟩

end Go.Proofs.Ytmidohjfajbpmaa
set_option linter.unusedVariables false
set_option linter.unusedSimpArgs false
set_option maxHeartbeats 4000000
namespace Go.Proofs.Ytmidohjfajbpmaa
open Go.RowKit Skiff
attribute [local go_sem ↓ high] min_two_int min_three_int max_two_int

end Go.Proofs.Ytmidohjfajbpmaa
set_option linter.unusedVariables false
set_option linter.unusedSimpArgs false
set_option maxHeartbeats 4000000
namespace Go.Proofs.Ytmidohjfajbpmaa
open Go.RowKit Skiff

end Go.Proofs.Ytmidohjfajbpmaa
set_option linter.unusedVariables false
set_option linter.unusedSimpArgs false
set_option maxHeartbeats 4000000
namespace Go.Proofs.Ytmidohjfajbpmaa
open Go.RowKit Skiff

theorem take_set (T b : List UInt8) (c : Nat) (h1 : c < T.length) (h2 : c < b.length) : (T.take c ++ b.drop c).set c (T.getD c 0) = T.take (c + 1) ++ b.drop (c + 1) := by
  have hl : (T.take c).length = c := by simp; omega
  rw [List.set_append_right _ _ (by omega), hl, Nat.sub_self, List.drop_eq_getElem_cons h2, List.set_cons_zero, List.take_succ_eq_append_getElem h1, List.append_assoc, List.getD_eq_getElem?_getD, List.getElem?_eq_getElem h1]
  rfl

end Go.Proofs.Ytmidohjfajbpmaa
set_option linter.unusedVariables false
set_option linter.unusedSimpArgs false
set_option maxHeartbeats 4000000
namespace Skiff
def tornPair (o : Option (List UInt8)) : ByteArray × Int := match o with
  | some l => (mk l, 0)
  | none => (mk [], 200)
def fulls (n : Int) : Option ByteArray := if 0 ≤ n ∧ n ≤ 768 then some (mk (List.replicate n.toNat 255)) else none
end Skiff
namespace Go.Proofs.Ytmidohjfajbpmaa
open Go.RowKit Skiff

theorem tornRes_pair {o : Option (List UInt8)} {r1 : ByteArray} {r2 : Int} (h : some (tornPair o) = some (r1, r2)) : tornRes o = .tuple #[.string r1, .int .i64 r2] := by
  have h := Option.some.inj h
  cases o with
  | none => simp only [tornPair, Prod.mk.injEq] at h; obtain ⟨rfl, rfl⟩ := h; rfl
  | some l => simp only [tornPair, Prod.mk.injEq] at h; obtain ⟨rfl, rfl⟩ := h; rfl

theorem g_skiffref1_Torn (a0 : ByteArray) (a1 : Int) (a2 : ByteArray) (a3 : Int) (r1 : ByteArray) (r2 : Int) (w : World) (h : some (tornPair (torn (bl a0) a1 (bl a2) a3)) = some (r1, r2)) :
    Calls Try.prog 83 #[.string a0, .int .i64 a1, .string a2, .int .i64 a3] w fun e w' => e = .returned (.tuple #[.string r1, .int .i64 r2]) ∧ Below w.heap.size w w' :=
  (rtorn_calls a0 a2 a1 a3 w).mono fun e w' ⟨he, hw⟩ => ⟨by rw [he, tornRes_pair h], hw⟩

theorem g_skiffref1_Worn (a0 : ByteArray) (a1 : Int) (a2 : Int) (r1 : ByteArray) (r2 : Int) (w : World) (h : some (tornPair (worn (bl a0) a1 a2)) = some (r1, r2)) :
    Calls Try.prog 82 #[.string a0, .int .i64 a1, .int .i64 a2] w fun e w' => e = .returned (.tuple #[.string r1, .int .i64 r2]) ∧ Below w.heap.size w w' :=
  (rworn_calls a0 a1 a2 w).mono fun e w' ⟨he, hw⟩ => ⟨by rw [he, tornRes_pair h], hw⟩

theorem g_skiffref1_Blank (r : ByteArray) (w : World) (h : some (mk flash0) = some r) :
    Calls Try.prog 36 #[] w fun e w' => e = .returned (.string r) ∧ Below w.heap.size w w' :=
  (rblank_calls w).mono fun e w' ⟨he, hw⟩ => ⟨by rw [he, Option.some.inj h], hw⟩

theorem fulls_some {n : Int} {r : ByteArray} (h : fulls n = some r) : ∃ k : Nat, n = k ∧ k ≤ 768 ∧ r = mk (List.replicate k 255) := by
  unfold fulls at h
  split at h
  · exact ⟨n.toNat, by omega, by omega, (Option.some.inj h).symm⟩
  · cases h
theorem g_skiffref1_full (a0 : Int) (r : ByteArray) (w : World) (h : fulls a0 = some r) :
    Calls Try.prog 62 #[.int .i64 a0] w fun e w' => e = .returned (.string r) ∧ Below w.heap.size w w' := by
  obtain ⟨k, rfl, hk, rfl⟩ := fulls_some h
  exact rfull_calls k hk w

end Go.Proofs.Ytmidohjfajbpmaa
end
section
set_option linter.unusedVariables false
set_option linter.unusedSimpArgs false
set_option maxHeartbeats 4000000
namespace Go.Proofs.Ytmidohjfajbpmaa
open Go.RowKit

theorem crc_bit_pos {y : Nat} (h : y % 2 = 1) (hy : y < 4294967296) : (bits .and .u32 (y : Int) 1 != 0) = true := by
  have e : (1 : Int) = ((1 : Nat) : Int) := rfl
  rw [e, u32_and_nat y 1 hy (by decide), nat_mask1, h]; rfl
theorem crc_bit_neg {y : Nat} (h : y % 2 = 0) (hy : y < 4294967296) : (bits .and .u32 (y : Int) 1 != 0) = false := by
  have e : (1 : Int) = ((1 : Nat) : Int) := rfl
  rw [e, u32_and_nat y 1 hy (by decide), nat_mask1, h]; rfl
theorem crc_poly {y : Nat} (hy : y < 4294967296) : bits .xor .u32 ((y : Int) / 2) 3988292384 = (((y / 2) ^^^ 3988292384 : Nat) : Int) := by
  have e : ((y : Int) / 2) = ((y / 2 : Nat) : Int) := by omega
  have e2 : (3988292384 : Int) = ((3988292384 : Nat) : Int) := rfl
  rw [e, e2, u32_xor_nat _ _ (by omega) (by decide)]
theorem crc_half (y : Nat) : ((y : Int) / 2) = ((y / 2 : Nat) : Int) := by omega

theorem step_calls (a b : Nat) (w : World) (ha : a < 4294967296) (hb : b < 256) :
    Calls Try.prog 88 #[.int .u32 (a : Int), .int .u8 (b : Int)] w fun e w' => e = .returned (.int .u32 (Skiff.stepByte a b : Nat)) ∧ w = w' := by
  have hx : bits .xor .u32 (a : Int) (b : Int) = ((a ^^^ b : Nat) : Int) := u32_xor_nat a b ha (by omega)
  have hxl : a ^^^ b < 4294967296 := Nat.xor_lt_two_pow (n := 32) ha (by omega)
  have H0 : Hid (Skiff.stepByte a b = Skiff.stepN 8 (a ^^^ b)) := rfl
  have HX := Lib.hid hx
  clear hx
  go_enter Try.func88, Try.ntmps88
  go_wp2
  go_loop [0, 10] (fun x i => ∃ (k : Nat) (y : Nat), k ≤ 8 ∧ y < 4294967296 ∧ i = .int .i64 (k : Int) ∧ x = .int .u32 (y : Int) ∧ Hid (Skiff.stepByte a b = Skiff.stepN (8 - k) y)) (fun _ i => 8 - (intOf i).toNat)
  case atStart => exact ⟨0, a ^^^ b, by omega, hxl, rfl, by rw [HX.out], H0⟩
  case round =>
    obtain ⟨k, y, hk, hy, rfl, rfl, H⟩ := hrel
    by_cases hlt : k < 8
    · have hb8 : 8 - k = (8 - (k + 1)) + 1 := by omega
      have H2 : Hid (Skiff.stepByte a b = Skiff.stepN (8 - (k + 1)) (Skiff.stepBit y)) := by
        have := H.out; rw [hb8] at this; exact this
      have hl : Skiff.stepBit y < 4294967296 := Skiff.stepBit_lt hy
      clear H hb8
      rcases Nat.mod_two_eq_zero_or_one y with h2 | h2
      · have e : Skiff.stepBit y = y / 2 := by unfold Skiff.stepBit; rw [if_neg (by omega)]
        have hbit := crc_bit_neg h2 hy
        have hh := crc_half y
        rw [e] at H2 hl
        have HH := Lib.hid hh
        clear e h2 hh
        go_wp2
        go_round
        case rel => exact ⟨k + 1, y / 2, by omega, hl, by go_num, by rw [HH.out], H2⟩
        case measure => simp [intOf]; omega
      · have e : Skiff.stepBit y = (y / 2) ^^^ 3988292384 := by unfold Skiff.stepBit; rw [if_pos h2]
        have hbit := crc_bit_pos h2 hy
        have hh := crc_poly hy
        rw [e] at H2 hl
        have HH := Lib.hid hh
        clear e h2 hh
        go_wp2
        go_round
        case rel => exact ⟨k + 1, (y / 2) ^^^ 3988292384, by omega, hl, by go_num, by rw [HH.out], H2⟩
        case measure => simp [intOf]; omega
    · obtain rfl : k = 8 := by omega
      go_wp2
      go_ret
      have := H.out
      exact ⟨by rw [this]; rfl, rfl⟩

theorem crc_not {y : Nat} (hy : y < 4294967296) : bits .xor .u32 4294967295 (y : Int) = ((4294967295 - y : Nat) : Int) := by
  have e : (4294967295 : Int) = ((4294967295 : Nat) : Int) := rfl
  rw [e, u32_xor_nat _ _ (by decide) hy]
  congr 1
  have h := Nat.testBit_two_pow_sub_succ (n := 32) (x := y) hy
  apply Nat.eq_of_testBit_eq
  intro i
  have e1 : 4294967295 - y = 2 ^ 32 - (y + 1) := by omega
  rw [e1, h, Nat.testBit_xor]
  have e3 : (4294967295 : Nat) = 2 ^ 32 - 1 := by decide
  rw [e3, Nat.testBit_two_pow_sub_one]
  by_cases hi : i < 32
  · simp [hi]
  · rw [Nat.testBit_lt_two_pow (Nat.lt_of_lt_of_le hy (show (4294967296 : Nat) ≤ 2 ^ i from Nat.pow_le_pow_right (show 2 > 0 by decide) (show 32 ≤ i by omega)))]
    simp [hi]

theorem sum_calls (s : ByteArray) (w : World) (hs : s.size ≤ 4611686018427387904) :
    Calls Try.prog 76 #[.string s] w fun e w' => e = .returned (.int .i64 (Skiff.crcSum s.data.toList : Nat)) ∧ Ext w w' := by
  have kc := fun (w : World) => Lib.run_convert_string_bytes (P := Try.prog) w 9 110 5 s Try.underlying9 Try.underlying110 Try.underlying5
  go_enter Try.func76, Try.ntmps76
  go_wp2
  go_loop [3, 9] (fun x i => ∃ (k : Nat) (y : Nat), k ≤ s.size ∧ y < 4294967296 ∧ i = .int .i64 (k : Int) ∧ x = .int .u32 (y : Int) ∧ Hid (Skiff.crcState 4294967295 s.data.toList = Skiff.crcState y (s.data.toList.drop k))) (fun _ i => s.size - (intOf i).toNat)
  case atStart => exact ⟨0, 4294967295, by omega, by decide, rfl, rfl, rfl⟩
  case round =>
    obtain ⟨k, y, hk, hy, rfl, rfl, H⟩ := hrel
    by_cases hlt : k < s.size
    · have hl : s.data.toList.length = s.size := by simp
      have hd : s.data.toList.drop k = s.data.toList.getD k 0 :: s.data.toList.drop (k + 1) := by
        rw [List.drop_eq_getElem_cons (by omega), List.getD_eq_getElem?_getD, List.getElem?_eq_getElem (by omega)]; rfl
      have hcell := Lib.bytesWorld_cell w 5 s k hlt
      generalize s.data.toList.getD k 0 = c at hd hcell
      have H2 : Hid (Skiff.crcState 4294967295 s.data.toList = Skiff.crcState (Skiff.stepByte y c.toNat) (s.data.toList.drop (k + 1))) := by
        have := H.out; rw [hd] at this; exact this
      have hl2 : Skiff.stepByte y c.toNat < 4294967296 := Skiff.stepByte_lt hy c.toNat_lt
      have hc : c.toNat < 256 := c.toNat_lt
      clear H hd hl
      go_wp2_with (go_at_call 88; refine (step_calls y c.toNat _ hy hc).mono ?_; rintro e w' ⟨rfl, rfl⟩)
      go_round
      case rel => exact ⟨k + 1, _, by omega, hl2, by go_num, rfl, H2⟩
      case measure => simp [intOf]; omega
    · obtain rfl : k = s.size := by omega
      have hn := crc_not hy
      obtain ⟨z, hz, hzl⟩ : ∃ z : Nat, 4294967295 - y = z ∧ z < 4294967296 := ⟨_, rfl, by omega⟩
      rw [hz] at hn
      have hn2 : bits .xor .u32 IntKind.u32.max (y : Int) = (z : Int) := hn
      have HZ := Lib.hid hz
      clear hn
      clear hz
      go_wp2
      go_ret
      have h1 := H.out
      rw [List.drop_of_length_le (by simp)] at h1
      have h2 : Skiff.crcState y [] = y := rfl
      rw [h2] at h1
      refine ⟨?_, Ext.bytes w _ s⟩
      unfold Skiff.crcSum
      rw [h1, HZ.out]
      have hw : wrap64 (z : Int) = z := by unfold wrap64; omega
      show Ending.returned (.int .i64 (wrap64 (z : Int))) = _
      rw [hw]

theorem ref_crc_calls (s : ByteArray) (w : World) (hs : s.size ≤ 4611686018427387904) :
    Calls Try.prog 65 #[.string s] w fun e w' => e = .returned (.int .i64 (Skiff.crcSum s.data.toList : Nat)) ∧ w = w' := by
  go_enter Try.func65, Try.ntmps65
  go_wp2
  go_loop [3, 4] (fun x i => ∃ (k : Nat) (y : Nat), k ≤ s.size ∧ y < 4294967296 ∧ i = .int .i64 (k : Int) ∧ x = .int .u32 (y : Int) ∧ Hid (Skiff.crcState 4294967295 s.data.toList = Skiff.crcState y (s.data.toList.drop k))) (fun _ i => s.size - (intOf i).toNat)
  case atStart => exact ⟨0, 4294967295, by omega, by decide, rfl, rfl, rfl⟩
  case round =>
    obtain ⟨k, y, hk, hy, rfl, rfl, H⟩ := hrel
    by_cases hlt : k < s.size
    · have hl : s.data.toList.length = s.size := by simp
      have hd : s.data.toList.drop k = s[k] :: s.data.toList.drop (k + 1) := by
        rw [List.drop_eq_getElem_cons (by omega)]; rfl
      generalize hcc : s[k] = c at hd
      have H2 : Hid (Skiff.crcState 4294967295 s.data.toList = Skiff.crcState (Skiff.stepByte y c.toNat) (s.data.toList.drop (k + 1))) := by
        have := H.out; rw [hd] at this; exact this
      have hl2 : Skiff.stepByte y c.toNat < 4294967296 := Skiff.stepByte_lt hy c.toNat_lt
      have hc : c.toNat < 256 := c.toNat_lt
      clear H hd hl
      have hx : bits .xor .u32 (y : Int) (c.toNat : Int) = ((y ^^^ c.toNat : Nat) : Int) := u32_xor_nat y c.toNat hy (by omega)
      have hxl : y ^^^ c.toNat < 4294967296 := Nat.xor_lt_two_pow (n := 32) hy (by omega)
      have H0 : Hid (Skiff.stepByte y c.toNat = Skiff.stepN 8 (y ^^^ c.toNat)) := rfl
      have HX := Lib.hid hx
      have HC := Lib.hid hcc
      clear hx
      go_wp2
      go_loop [3, 5] (fun x i => ∃ (j : Nat) (z : Nat), j ≤ 8 ∧ z < 4294967296 ∧ i = .int .i64 (j : Int) ∧ x = .int .u32 (z : Int) ∧ Hid (Skiff.stepByte y c.toNat = Skiff.stepN (8 - j) z)) (fun _ i => 8 - (intOf i).toNat)
      case atStart => exact ⟨0, y ^^^ c.toNat, by omega, hxl, rfl, by rw [HX.out], H0⟩
      case round =>
        obtain ⟨j, z, hj, hz, rfl, rfl, G⟩ := hrel
        by_cases hjt : j < 8
        · have hb8 : 8 - j = (8 - (j + 1)) + 1 := by omega
          have G2 : Hid (Skiff.stepByte y c.toNat = Skiff.stepN (8 - (j + 1)) (Skiff.stepBit z)) := by
            have := G.out; rw [hb8] at this; exact this
          have hl : Skiff.stepBit z < 4294967296 := Skiff.stepBit_lt hz
          clear G hb8 hcc
          rcases Nat.mod_two_eq_zero_or_one z with h2 | h2
          · have e : Skiff.stepBit z = z / 2 := by unfold Skiff.stepBit; rw [if_neg (by omega)]
            have hbit : (bits .and .u32 (z : Int) 1 == 1) = false := by
              have e1 : (1 : Int) = ((1 : Nat) : Int) := rfl
              rw [e1, u32_and_nat z 1 hz (by decide), nat_mask1, h2]; rfl
            have hh := crc_half z
            rw [e] at G2 hl
            have HH := Lib.hid hh
            clear e h2 hh
            go_wp2
            go_round
            case rel => exact ⟨j + 1, z / 2, by omega, hl, by go_num, by rw [HH.out], G2⟩
            case measure => simp [intOf]; omega
          · have e : Skiff.stepBit z = (z / 2) ^^^ 3988292384 := by unfold Skiff.stepBit; rw [if_pos h2]
            have hbit : (bits .and .u32 (z : Int) 1 == 1) = true := by
              have e1 : (1 : Int) = ((1 : Nat) : Int) := rfl
              rw [e1, u32_and_nat z 1 hz (by decide), nat_mask1, h2]; rfl
            have hh := crc_poly hz
            rw [e] at G2 hl
            have HH := Lib.hid hh
            clear e h2 hh
            go_wp2
            go_round
            case rel => exact ⟨j + 1, (z / 2) ^^^ 3988292384, by omega, hl, by go_num, by rw [HH.out], G2⟩
            case measure => simp [intOf]; omega
        · obtain rfl : j = 8 := by omega
          clear hcc
          go_wp2
          go_round
          case rel => exact ⟨k + 1, z, by omega, hz, by go_num, rfl, by have h1 := H2.out; rw [G.out] at h1; exact h1⟩
          case measure => simp [intOf]; omega
    · obtain rfl : k = s.size := by omega
      have hn := crc_not hy
      obtain ⟨z, hz, hzl⟩ : ∃ z : Nat, 4294967295 - y = z ∧ z < 4294967296 := ⟨_, rfl, by omega⟩
      rw [hz] at hn
      have hn2 : bits .xor .u32 IntKind.u32.max (y : Int) = (z : Int) := hn
      have HZ := Lib.hid hz
      clear hn hz
      go_wp2
      go_ret
      have h1 := H.out
      rw [List.drop_of_length_le (by simp)] at h1
      have h2 : Skiff.crcState y [] = y := rfl
      rw [h2] at h1
      refine ⟨?_, rfl⟩
      unfold Skiff.crcSum
      rw [h1, HZ.out]
      have hw : wrap64 (z : Int) = z := by unfold wrap64; omega
      show Ending.returned (.int .i64 (wrap64 (z : Int))) = _
      rw [hw]

end Go.Proofs.Ytmidohjfajbpmaa
set_option linter.unusedVariables false
set_option linter.unusedSimpArgs false
set_option maxHeartbeats 4000000
namespace Skiff
def sums (s : ByteArray) : Option Int := if s.size ≤ 4611686018427387904 then some ((crcSum (bl s) : Nat) : Int) else none
end Skiff
namespace Go.Proofs.Ytmidohjfajbpmaa
open Go.RowKit Skiff

theorem g_crc_Sum (a0 : ByteArray) (r : Int) (w : World) (h : sums a0 = some r) :
    Calls Try.prog 76 #[.string a0] w fun e w' => e = .returned (.int .i64 r) ∧ Below w.heap.size w w' := by
  unfold sums at h
  split at h
  · rename_i hs
    obtain rfl := Option.some.inj h
    exact sum_calls a0 w hs
  · cases h
theorem g_skiffref1_Crc (a0 : ByteArray) (r : Int) (w : World) (h : sums a0 = some r) :
    Calls Try.prog 65 #[.string a0] w fun e w' => e = .returned (.int .i64 r) ∧ Below w.heap.size w w' := by
  unfold sums at h
  split at h
  · rename_i hs
    obtain rfl := Option.some.inj h
    refine (ref_crc_calls a0 w hs).mono ?_
    rintro e w' ⟨he, rfl⟩
    exact ⟨he, Below.refl _ _⟩
  · cases h

end Go.Proofs.Ytmidohjfajbpmaa
set_option linter.unusedVariables false
set_option linter.unusedSimpArgs false
set_option maxHeartbeats 4000000
namespace Go.Proofs.Ytmidohjfajbpmaa
open Go.RowKit Skiff

def recV (r : Rec) : Value := .agg #[.int .i64 r.seq, .int .i64 r.slot, .int .i64 r.size, .int .i64 r.sum]

theorem in_calls (x a b : Int) (w : World) :
    Calls Try.prog 71 #[.int .i64 x, .int .i64 a, .int .i64 b] w fun e w' => e = .returned (.bool (within x a b)) ∧ w = w' := by
  have hw : Hid (within x a b = (decide (a ≤ x) && decide (x ≤ b))) := rfl
  by_cases h : a ≤ x
  · have h1 : decide (a ≤ x) = true := by simpa using h
    go_enter Try.func71, Try.ntmps71
    go_wp2
    go_ret
    exact ⟨by rw [hw.out, h1]; rfl, rfl⟩
  · have h1 : decide (a ≤ x) = false := by simpa using h
    go_enter Try.func71, Try.ntmps71
    go_wp2
    go_ret
    exact ⟨by rw [hw.out, h1]; rfl, rfl⟩

theorem size_calls (x : Int) (w : World) :
    Calls Try.prog 50 #[.int .i64 x] w fun e w' => e = .returned (.bool (within x 1 288)) ∧ w = w' := by
  go_enter Try.func50, Try.ntmps50
  go_wp2_with fail
  refine (in_calls _ _ _ _).mono ?_
  rintro e w1 ⟨rfl, rfl⟩
  go_wp2
  go_ret
  exact ⟨rfl, rfl⟩

theorem slot_calls (x : Int) (w : World) :
    Calls Try.prog 51 #[.int .i64 x] w fun e w' => e = .returned (.bool (within x 0 1)) ∧ w = w' := by
  go_enter Try.func51, Try.ntmps51
  go_wp2_with fail
  refine (in_calls _ _ _ _).mono ?_
  rintro e w1 ⟨rfl, rfl⟩
  go_wp2
  go_ret
  exact ⟨rfl, rfl⟩

theorem may_calls (r : Rec) (w : World) :
    Calls Try.prog 59 #[recV r] w fun e w' => e = .returned (.bool (recMay r)) ∧ Ext w w' := by
  unfold recV
  have hm : Hid (recMay r = (within r.seq 1 1048576 && within r.slot 0 1 && within r.size 1 288 && within r.sum 0 4294967295)) := rfl
  cases h1 : within r.seq 1 1048576
  · go_enter Try.func59, Try.ntmps59
    go_wp2_with fail
    refine (in_calls _ _ _ _).mono ?_
    rintro e w1 ⟨rfl, rfl⟩
    go_wp2
    go_ret
    exact ⟨by rw [hm.out, h1]; rfl, (by repeat (first | (with_reducible exact Ext.refl _) | (with_reducible assumption) | (with_reducible refine Ext.drewN ?_ _) | (with_reducible refine Ext.drew ?_) | (with_reducible refine Ext.alloc ?_ _) | (with_reducible refine Ext.setCell ?_ (by first | exact Nat.le_refl _ | (simp <;> omega)) _) | (with_reducible refine Ext.trans ?_ (by with_reducible assumption))))⟩
  cases h2 : within r.slot 0 1
  · go_enter Try.func59, Try.ntmps59
    go_wp2_with fail
    refine (in_calls _ _ _ _).mono ?_
    rintro e w2 ⟨rfl, rfl⟩
    go_wp2_with fail
    refine (slot_calls _ _).mono ?_
    rintro e w3 ⟨rfl, rfl⟩
    go_wp2
    go_ret
    exact ⟨by rw [hm.out, h1, h2]; rfl, (by repeat (first | (with_reducible exact Ext.refl _) | (with_reducible assumption) | (with_reducible refine Ext.drewN ?_ _) | (with_reducible refine Ext.drew ?_) | (with_reducible refine Ext.alloc ?_ _) | (with_reducible refine Ext.setCell ?_ (by first | exact Nat.le_refl _ | (simp <;> omega)) _) | (with_reducible refine Ext.trans ?_ (by with_reducible assumption))))⟩
  cases h3 : within r.size 1 288
  · go_enter Try.func59, Try.ntmps59
    go_wp2_with fail
    refine (in_calls _ _ _ _).mono ?_
    rintro e w4 ⟨rfl, rfl⟩
    go_wp2_with fail
    refine (slot_calls _ _).mono ?_
    rintro e w5 ⟨rfl, rfl⟩
    go_wp2_with fail
    refine (size_calls _ _).mono ?_
    rintro e w6 ⟨rfl, rfl⟩
    go_wp2
    go_ret
    exact ⟨by rw [hm.out, h1, h2, h3]; rfl, (by repeat (first | (with_reducible exact Ext.refl _) | (with_reducible assumption) | (with_reducible refine Ext.drewN ?_ _) | (with_reducible refine Ext.drew ?_) | (with_reducible refine Ext.alloc ?_ _) | (with_reducible refine Ext.setCell ?_ (by first | exact Nat.le_refl _ | (simp <;> omega)) _) | (with_reducible refine Ext.trans ?_ (by with_reducible assumption))))⟩
  · go_enter Try.func59, Try.ntmps59
    go_wp2_with fail
    refine (in_calls _ _ _ _).mono ?_
    rintro e w7 ⟨rfl, rfl⟩
    go_wp2_with fail
    refine (slot_calls _ _).mono ?_
    rintro e w8 ⟨rfl, rfl⟩
    go_wp2_with fail
    refine (size_calls _ _).mono ?_
    rintro e w9 ⟨rfl, rfl⟩
    go_wp2_with fail
    refine (in_calls _ _ _ _).mono ?_
    rintro e w10 ⟨rfl, rfl⟩
    go_wp2
    go_ret
    exact ⟨by rw [hm.out, h1, h2, h3]; rfl, (by repeat (first | (with_reducible exact Ext.refl _) | (with_reducible assumption) | (with_reducible refine Ext.drewN ?_ _) | (with_reducible refine Ext.drew ?_) | (with_reducible refine Ext.alloc ?_ _) | (with_reducible refine Ext.setCell ?_ (by first | exact Nat.le_refl _ | (simp <;> omega)) _) | (with_reducible refine Ext.trans ?_ (by with_reducible assumption))))⟩

theorem or_byte (n : Nat) (b : UInt8) (h : n < 2 ^ 48) : bits .or .i64 ((n : Int) * 256) (b.toNat : Int) = ((b.toNat + 256 * n : Nat) : Int) := by
  have hb := b.toNat_lt
  rw [bits_join .i64 62 (by decide) (fun m h0 h1 => IntWalk.i64_in m (by omega)) 8 ((n : Int) * 256) (b.toNat : Int) (by omega) (by omega) (by omega) (by omega) (by omega) (by omega)]
  omega

theorem num_calls' (s : ByteArray) (hs : s.size ≤ 6) (w : World) :
    Calls Try.prog 87 #[.string s] w fun e w' => e = .returned (.int .i64 (num (bl s) : Nat)) ∧ w = w' := by
  have hl : (bl s).length = s.size := bl_length s
  go_enter Try.func87, Try.ntmps87
  go_wp2
  go_loop [3, 4] (fun o i => ∃ (j m : Nat), j ≤ s.size ∧ i = .int .i64 ((j : Int) - 1) ∧ o = .int .i64 (m : Int) ∧ Hid (m = num ((bl s).drop j))) (fun _ i => (intOf i + 1).toNat)
  case atStart => exact ⟨s.size, 0, by omega, by go_num, rfl, by show 0 = _; rw [List.drop_of_length_le (by omega)]; rfl⟩
  case round =>
    obtain ⟨j, m, hj, rfl, rfl, hm⟩ := hrel
    rcases j with _ | j
    · go_wp2
      go_ret
      exact ⟨by rw [hm.out]; rfl, rfl⟩
    · have hd : (bl s).drop j = s[j] :: (bl s).drop (j + 1) := by
        rw [List.drop_eq_getElem_cons (by omega)]; rfl
      have hlt : m < 2 ^ 48 := by
        have h1 := num_lt ((bl s).drop (j + 1))
        rw [← hm.out] at h1
        have h2 : 256 ^ ((bl s).drop (j + 1)).length ≤ 256 ^ 6 := Nat.pow_le_pow_right (by decide) (by simp; omega)
        omega
      have hor := or_byte m s[j] hlt
      have hb : s[j].toNat < 256 := s[j].toNat_lt
      have hm2 : Hid (s[j].toNat + 256 * m = num ((bl s).drop j)) := by
        show _ = _
        rw [hd, hm.out]; rfl
      have h0 : (0 : Int) ≤ ((j + 1 : Nat) : Int) - 1 := by omega
      clear hd hm
      go_wp2
      go_round
      case rel => exact ⟨j, _, by omega, by go_num, rfl, hm2⟩
      case measure => simp [intOf] <;> omega

theorem u8_not (b : UInt8) : bits .xor .u8 IntKind.u8.max (b.toNat : Int) = ((~~~ b).toNat : Int) := by
  have e : IntKind.u8.max = ((255 : Nat) : Int) := rfl
  have hb := b.toNat_lt
  rw [e, u8_xor_nat 255 b.toNat (by decide) hb]
  congr 1

theorem compl_calls (s : ByteArray) (hs : s.size ≤ 1000) (w : World) :
    Calls Try.prog 86 #[.string s] w fun e w' => e = .returned (.string (mk (compl (bl s)))) ∧ Ext w w' := by
  have kc := fun (w : World) => Lib.run_convert_string_bytes (P := Try.prog) w 9 110 5 s Try.underlying9 Try.underlying110 Try.underlying5
  go_enter Try.func86, Try.ntmps86
  go_wp2
  have hR := RowB.bytes w 5 s
  have hE := Ext.bytes w 5 s
  go_loopw [9] (fun i wr => ∃ j : Nat, j ≤ s.size ∧ i = .int .i64 (j : Int) ∧ RowB wr w.heap.size (compl ((bl s).take j) ++ (bl s).drop j) ∧ Ext w wr) (fun i _ => s.size - (intOf i).toNat)
  case atStart => exact ⟨0, by omega, rfl, hR, hE⟩
  case round =>
    clear hR hE
    obtain ⟨j, hj, rfl, hR, hE⟩ := hrel
    have hl : (bl s).length = s.size := bl_length s
    have hll : (compl ((bl s).take j) ++ (bl s).drop j).length = s.size := by simp; omega
    by_cases hlt : j < s.size
    · have hcell := hR.cellD (i := j) (by omega)
      have hfree := hR.free (i := j) (by omega)
      rw [compl_at (bl s) j (by omega)] at hcell
      have hset := compl_set (bl s) j (by omega)
      generalize (bl s)[j] = c at hcell hset
      have hn := u8_not c
      have HS := Lib.hid hset
      clear hset
      go_wp2
      go_roundw
      case rel => exact ⟨j + 1, by omega, by go_num, by rw [← HS.out]; have h1 := hR.set j (~~~ c); rw [← hn] at h1; exact h1, hE.setCell (Nat.le_refl _) _⟩
      case measure => simp [intOf]; omega
    · obtain rfl : j = s.size := by omega
      have hr := hR.string (P := Try.prog) 110 5 9 Try.underlying110 Try.underlying5 Try.underlying9 (grownCap w s.size 0 5)
      rw [hll] at hr
      have hfin : compl ((bl s).take s.size) ++ (bl s).drop s.size = compl (bl s) := by
        rw [List.take_of_length_le (by omega), List.drop_of_length_le (by omega), List.append_nil]
      rw [hfin] at hr
      go_wp2
      go_ret
      exact ⟨rfl, hE⟩

end Go.Proofs.Ytmidohjfajbpmaa
set_option linter.unusedVariables false
set_option linter.unusedSimpArgs false
set_option maxHeartbeats 4000000
namespace Go.Proofs.Ytmidohjfajbpmaa
open Go.RowKit Skiff

def getRes (l : List UInt8) : Value := match Skiff.get l with
  | some r => .tuple #[recV r, .int .i64 0]
  | none => .tuple #[recV Rec.zero, .int .i64 400]
theorem getRes_some {l : List UInt8} {r : Rec} (h : Skiff.get l = some r) : getRes l = .tuple #[recV r, .int .i64 0] := by unfold getRes; rw [h]
theorem getRes_none {l : List UInt8} (h : Skiff.get l = none) : getRes l = .tuple #[recV Rec.zero, .int .i64 400] := by unfold getRes; rw [h]

theorem get_calls (s : ByteArray) (w : World) :
    Calls Try.prog 73 #[.string s] w fun e w' => e = .returned (getRes (bl s)) ∧ Ext w w' := by
  have hl : (bl s).length = s.size := bl_length s
  by_cases h24 : s.size = 24
  · have hn : ((s.size : Int) != 24) = false := by rw [h24]; rfl
    have hX : bl (s.extract 0 12) = (bl s).take 12 := by rw [bl_extract]; simp
    have hY : bl (s.extract 12 24) = (bl s).drop 12 := by rw [bl_extract, List.take_of_length_le (by simp; omega)]
    have C := Lib.hid (fun w => compl_calls (s.extract 0 12) (by rw [← bl_length, hX]; simp; omega) w)
    rw [hX] at C
    by_cases hc : compl ((bl s).take 12) = (bl s).drop 12
    · have htest : (!(mk (compl (List.take 12 (bl s)))).toList == (s.extract 12 24).toList) = false := by
        rw [beq_bl, bl_mk, hY]; simp [hc]
      obtain ⟨r, hr⟩ : ∃ r, told (bl s) = r := ⟨_, rfl⟩
      have n1 : ((num (bl (s.extract 0 4)) : Nat) : Int) = r.seq := by rw [← hr, bl_extract]; rfl
      have n2 : ((num (bl (s.extract 4 6)) : Nat) : Int) = r.slot := by rw [← hr, bl_extract]; rfl
      have n3 : ((num (bl (s.extract 6 8)) : Nat) : Int) = r.size := by rw [← hr, bl_extract]; rfl
      have n4 : ((num (bl (s.extract 8 12)) : Nat) : Int) = r.sum := by rw [← hr, bl_extract]; rfl
      have N1 := Lib.hid (fun w => num_calls' (s.extract 0 4) (by simp; omega) w)
      have N2 := Lib.hid (fun w => num_calls' (s.extract 4 6) (by simp; omega) w)
      have N3 := Lib.hid (fun w => num_calls' (s.extract 6 8) (by simp; omega) w)
      have N4 := Lib.hid (fun w => num_calls' (s.extract 8 12) (by simp; omega) w)
      rw [n1] at N1
      rw [n2] at N2
      rw [n3] at N3
      rw [n4] at N4
      have M := Lib.hid (fun w => may_calls r w)
      unfold recV at M
      have HG : Hid (getRes (bl s) = if recMay r = true then .tuple #[recV r, .int .i64 0] else .tuple #[recV Rec.zero, .int .i64 400]) := by
        show _ = _
        unfold getRes Skiff.get
        rw [hr]
        cases hm : recMay r
        · rw [if_neg (by simp)]; rfl
        · rw [if_pos ⟨by omega, hc, rfl⟩]; rfl
      clear n1 n2 n3 n4 hX hY hr hc
      generalize recMay r = b at *
      go_enter Try.func73, Try.ntmps73
      go_wp2
      go_region_held3 (fun w' => Ext (w.alloc (.cells #[.int .i64 0, .int .i64 0, .int .i64 0, .int .i64 0] 41)) w') ( repeat (first | (with_reducible exact Ext.refl _) | (with_reducible assumption) | (with_reducible refine Ext.drewN ?_ _) | (with_reducible refine Ext.drew ?_) | (with_reducible refine Ext.alloc ?_ _) | (with_reducible refine Ext.setCell ?_ (by first | exact Nat.le_refl _ | (simp <;> omega)) _) | (with_reducible refine Ext.trans ?_ (by with_reducible assumption)))) (first | (go_at_call 86; (with_reducible refine (C.out _).mono ?_); rintro e w' ⟨rfl, B⟩))
      have hE : Ext (w.alloc (.cells #[.int .i64 0, .int .i64 0, .int .i64 0, .int .i64 0] 41)) w' := by assumption
      go_wp2_with fail
      go_region_held3 (fun w1 => Ext w' w1) ( repeat (first | (with_reducible exact Ext.refl _) | (with_reducible assumption) | (with_reducible refine Ext.drewN ?_ _) | (with_reducible refine Ext.drew ?_) | (with_reducible refine Ext.alloc ?_ _) | (with_reducible refine Ext.setCell ?_ (by first | exact Nat.le_refl _ | (simp <;> omega)) _) | (with_reducible refine Ext.trans ?_ (by with_reducible assumption)))) (first | (go_at_call 87; first | ((with_reducible refine (N1.out _).mono ?_); rintro e w2 ⟨rfl, rfl⟩) | ((with_reducible refine (N2.out _).mono ?_); rintro e w2 ⟨rfl, rfl⟩) | ((with_reducible refine (N3.out _).mono ?_); rintro e w2 ⟨rfl, rfl⟩) | ((with_reducible refine (N4.out _).mono ?_); rintro e w2 ⟨rfl, rfl⟩)))
      all_goals
        go_wp2_with fail
        refine (M.out _).mono ?_
        rintro e w3 ⟨rfl, B3⟩
        have hE3 : Ext (w.alloc (.cells #[.int .i64 0, .int .i64 0, .int .i64 0, .int .i64 0] 41)) w3 := (by repeat (first | (with_reducible exact Ext.refl _) | (with_reducible assumption) | (with_reducible refine Ext.drewN ?_ _) | (with_reducible refine Ext.drew ?_) | (with_reducible refine Ext.alloc ?_ _) | (with_reducible refine Ext.setCell ?_ (by first | exact Nat.le_refl _ | (simp <;> omega)) _) | (with_reducible refine Ext.trans ?_ (by with_reducible assumption))))
        have k0_w3 : w3.cell? ⟨w'.heap.size, 0, none⟩ = some (.int .i64 r.seq) := Ext.cell B3 (by simp)
        have k1_w3 : w3.cell? ⟨w'.heap.size, 1, none⟩ = some (.int .i64 r.slot) := Ext.cell B3 (by simp)
        have k2_w3 : w3.cell? ⟨w'.heap.size, 2, none⟩ = some (.int .i64 r.size) := Ext.cell B3 (by simp)
        have k3_w3 : w3.cell? ⟨w'.heap.size, 3, none⟩ = some (.int .i64 r.sum) := Ext.cell B3 (by simp)
        have f_w3 : ∀ i, w3.frozen? ⟨w'.heap.size, i, none⟩ = false := fun i => Ext.free B3 (by first | (simp; done) | (simp; omega)) (by first | (simp; done) | (simp; omega))
        have m0 : w3.cell? ⟨w.heap.size, 0, none⟩ = some (.int .i64 0) := Ext.cell hE3 (by simp)
        have m1 : w3.cell? ⟨w.heap.size, 1, none⟩ = some (.int .i64 0) := Ext.cell hE3 (by simp)
        have m2 : w3.cell? ⟨w.heap.size, 2, none⟩ = some (.int .i64 0) := Ext.cell hE3 (by simp)
        have m3 : w3.cell? ⟨w.heap.size, 3, none⟩ = some (.int .i64 0) := Ext.cell hE3 (by simp)
        have mf : ∀ i, w3.frozen? ⟨w.heap.size, i, none⟩ = false := fun i => Ext.free hE3 (by simp) (by simp)
        cases b
        · go_wp2
          refine bodyPost_ret (v := .tuple #[recV Rec.zero, .int .i64 400]) ?_ rfl ?_
          · simp [results, Try.results73, go_sem, recV, Rec.zero, m0, m1, m2, m3]
          · exact ⟨congrArg Ending.returned HG.out.symm, (by repeat (first | (with_reducible exact Ext.refl _) | (with_reducible assumption) | (with_reducible refine Ext.drewN ?_ _) | (with_reducible refine Ext.drew ?_) | (with_reducible refine Ext.alloc ?_ _) | (with_reducible refine Ext.setCell ?_ (by first | exact Nat.le_refl _ | (simp <;> omega)) _) | (with_reducible refine Ext.trans ?_ (by with_reducible assumption))))⟩
        · go_wp2
          refine bodyPost_ret (v := .tuple #[recV r, .int .i64 0]) ?_ rfl ?_
          · simp [results, Try.results73, go_sem, recV, m0, m1, m2, m3]
          · exact ⟨congrArg Ending.returned HG.out.symm, (by repeat (first | (with_reducible exact Ext.refl _) | (with_reducible assumption) | (with_reducible refine Ext.drewN ?_ _) | (with_reducible refine Ext.drew ?_) | (with_reducible refine Ext.alloc ?_ _) | (with_reducible refine Ext.setCell ?_ (by first | exact Nat.le_refl _ | (simp <;> omega)) _) | (with_reducible refine Ext.trans ?_ (by with_reducible assumption))))⟩
    · have hg : Skiff.get (bl s) = none := by
        unfold Skiff.get
        rw [if_neg]
        intro h
        exact hc h.2.1
      have htest : (!(mk (compl (List.take 12 (bl s)))).toList == (s.extract 12 24).toList) = true := by
        rw [beq_bl, bl_mk, hY]; simp [hc]
      have HG := Lib.hid (getRes_none hg)
      clear hg hX hY hc
      go_enter Try.func73, Try.ntmps73
      go_wp2
      go_region_held3 (fun w' => Ext (w.alloc (.cells #[.int .i64 0, .int .i64 0, .int .i64 0, .int .i64 0] 41)) w') ( repeat (first | (with_reducible exact Ext.refl _) | (with_reducible assumption) | (with_reducible refine Ext.drewN ?_ _) | (with_reducible refine Ext.drew ?_) | (with_reducible refine Ext.alloc ?_ _) | (with_reducible refine Ext.setCell ?_ (by first | exact Nat.le_refl _ | (simp <;> omega)) _) | (with_reducible refine Ext.trans ?_ (by with_reducible assumption)))) (first | (go_at_call 86; (with_reducible refine (C.out _).mono ?_); rintro e w' ⟨rfl, B⟩))
      have hE : Ext (w.alloc (.cells #[.int .i64 0, .int .i64 0, .int .i64 0, .int .i64 0] 41)) w' := by assumption
      have k0_w' : w'.cell? ⟨w.heap.size, 0, none⟩ = some (.int .i64 0) := Ext.cell hE (by simp)
      have k1_w' : w'.cell? ⟨w.heap.size, 1, none⟩ = some (.int .i64 0) := Ext.cell hE (by simp)
      have k2_w' : w'.cell? ⟨w.heap.size, 2, none⟩ = some (.int .i64 0) := Ext.cell hE (by simp)
      have k3_w' : w'.cell? ⟨w.heap.size, 3, none⟩ = some (.int .i64 0) := Ext.cell hE (by simp)
      have f_w' : ∀ i, w'.frozen? ⟨w.heap.size, i, none⟩ = false := fun i => Ext.free hE (by first | (simp; done) | (simp; omega)) (by first | (simp; done) | (simp; omega))
      go_wp2
      refine bodyPost_ret (v := .tuple #[recV Rec.zero, .int .i64 400]) ?_ rfl ?_
      · simp [results, Try.results73, go_sem, recV, Rec.zero, k0_w', k1_w', k2_w', k3_w']
      · exact ⟨congrArg Ending.returned HG.out.symm, (by repeat (first | (with_reducible exact Ext.refl _) | (with_reducible assumption) | (with_reducible refine Ext.drewN ?_ _) | (with_reducible refine Ext.drew ?_) | (with_reducible refine Ext.alloc ?_ _) | (with_reducible refine Ext.setCell ?_ (by first | exact Nat.le_refl _ | (simp <;> omega)) _) | (with_reducible refine Ext.trans ?_ (by with_reducible assumption))))⟩
  · have hg : Skiff.get (bl s) = none := by
      unfold Skiff.get
      rw [if_neg]
      intro h
      exact h24 (by omega)
    have hn : ((s.size : Int) != 24) = true := by rw [bne_iff_ne]; omega
    have HG := Lib.hid (getRes_none hg)
    clear hg
    go_enter Try.func73, Try.ntmps73
    go_wp2
    go_quiet (fail)
    go_wp2
    refine bodyPost_ret (v := .tuple #[recV Rec.zero, .int .i64 400]) ?_ rfl ?_
    · simp [results, Try.results73, go_sem, recV, Rec.zero]
    · exact ⟨congrArg Ending.returned HG.out.symm, (by repeat (first | (with_reducible exact Ext.refl _) | (with_reducible assumption) | (with_reducible refine Ext.drewN ?_ _) | (with_reducible refine Ext.drew ?_) | (with_reducible refine Ext.alloc ?_ _) | (with_reducible refine Ext.setCell ?_ (by first | exact Nat.le_refl _ | (simp <;> omega)) _) | (with_reducible refine Ext.trans ?_ (by with_reducible assumption))))⟩

end Go.Proofs.Ytmidohjfajbpmaa
set_option linter.unusedVariables false
set_option linter.unusedSimpArgs false
set_option maxHeartbeats 4000000
namespace Go.Proofs.Ytmidohjfajbpmaa
open Go.RowKit Skiff

theorem recordMay_calls (r : Rec) (w : World) :
    Calls Try.prog 44 #[recV r] w fun e w' => e = .returned (.bool (recMay r)) ∧ Ext w w' := by
  unfold recV
  have hm : Hid (recMay r = (within r.seq 1 1048576 && within r.slot 0 1 && within r.size 1 288 && within r.sum 0 4294967295)) := rfl
  cases h1 : within r.seq 1 1048576
  · go_enter Try.func44, Try.ntmps44
    go_wp2_with fail
    refine (upTo_calls _ _ _ _).mono ?_
    rintro e w1 ⟨rfl, rfl⟩
    go_wp2
    go_ret
    exact ⟨by rw [hm.out, h1]; rfl, (by repeat (first | (with_reducible exact Ext.refl _) | (with_reducible assumption) | (with_reducible refine Ext.drewN ?_ _) | (with_reducible refine Ext.drew ?_) | (with_reducible refine Ext.alloc ?_ _) | (with_reducible refine Ext.setCell ?_ (by first | exact Nat.le_refl _ | (simp <;> omega)) _) | (with_reducible refine Ext.trans ?_ (by with_reducible assumption))))⟩
  cases h2 : within r.slot 0 1
  · go_enter Try.func44, Try.ntmps44
    go_wp2_with fail
    refine (upTo_calls _ _ _ _).mono ?_
    rintro e w2 ⟨rfl, rfl⟩
    go_wp2_with fail
    refine (upTo_calls _ _ _ _).mono ?_
    rintro e w3 ⟨rfl, rfl⟩
    go_wp2
    go_ret
    exact ⟨by rw [hm.out, h1, h2]; rfl, (by repeat (first | (with_reducible exact Ext.refl _) | (with_reducible assumption) | (with_reducible refine Ext.drewN ?_ _) | (with_reducible refine Ext.drew ?_) | (with_reducible refine Ext.alloc ?_ _) | (with_reducible refine Ext.setCell ?_ (by first | exact Nat.le_refl _ | (simp <;> omega)) _) | (with_reducible refine Ext.trans ?_ (by with_reducible assumption))))⟩
  cases h3 : within r.size 1 288
  · go_enter Try.func44, Try.ntmps44
    go_wp2_with fail
    refine (upTo_calls _ _ _ _).mono ?_
    rintro e w4 ⟨rfl, rfl⟩
    go_wp2_with fail
    refine (upTo_calls _ _ _ _).mono ?_
    rintro e w5 ⟨rfl, rfl⟩
    go_wp2_with fail
    refine (upTo_calls _ _ _ _).mono ?_
    rintro e w6 ⟨rfl, rfl⟩
    go_wp2
    go_ret
    exact ⟨by rw [hm.out, h1, h2, h3]; rfl, (by repeat (first | (with_reducible exact Ext.refl _) | (with_reducible assumption) | (with_reducible refine Ext.drewN ?_ _) | (with_reducible refine Ext.drew ?_) | (with_reducible refine Ext.alloc ?_ _) | (with_reducible refine Ext.setCell ?_ (by first | exact Nat.le_refl _ | (simp <;> omega)) _) | (with_reducible refine Ext.trans ?_ (by with_reducible assumption))))⟩
  · go_enter Try.func44, Try.ntmps44
    go_wp2_with fail
    refine (upTo_calls _ _ _ _).mono ?_
    rintro e w7 ⟨rfl, rfl⟩
    go_wp2_with fail
    refine (upTo_calls _ _ _ _).mono ?_
    rintro e w8 ⟨rfl, rfl⟩
    go_wp2_with fail
    refine (upTo_calls _ _ _ _).mono ?_
    rintro e w9 ⟨rfl, rfl⟩
    go_wp2_with fail
    refine (upTo_calls _ _ _ _).mono ?_
    rintro e w10 ⟨rfl, rfl⟩
    go_wp2
    go_ret
    exact ⟨by rw [hm.out, h1, h2, h3]; rfl, (by repeat (first | (with_reducible exact Ext.refl _) | (with_reducible assumption) | (with_reducible refine Ext.drewN ?_ _) | (with_reducible refine Ext.drew ?_) | (with_reducible refine Ext.alloc ?_ _) | (with_reducible refine Ext.setCell ?_ (by first | exact Nat.le_refl _ | (simp <;> omega)) _) | (with_reducible refine Ext.trans ?_ (by with_reducible assumption))))⟩

theorem rlow_calls (x : Int) (k : Nat) (hk : k ≤ 4) (w : World) :
    Calls Try.prog 84 #[.int .i64 x, .int .i64 (k : Int)] w fun e w' => e = .returned (.string (mk (low x k))) ∧ Ext w w' := by
  have hmk := fun w => made_u8 k (by omega) w
  go_enter Try.func84, Try.ntmps84
  go_wp2
  go_loopw [6] (fun i wr => ∃ j : Nat, j ≤ k ∧ i = .int .i64 (j : Int) ∧ RowB wr w.heap.size (low x j ++ List.replicate (k - j) 0) ∧ Ext w wr) (fun i _ => k - (intOf i).toNat)
  case atStart => exact ⟨0, by omega, rfl, RowB.made _ _ _, (Ext.refl _).alloc _⟩
  case round =>
    obtain ⟨j, hj, rfl, hR, hE⟩ := hrel
    have hll : (low x j ++ List.replicate (k - j) (0 : UInt8)).length = k := by simp; omega
    by_cases hlt : j < k
    · have hcell := hR.cellD (i := j) (by omega)
      have hfree := hR.free (i := j) (by omega)
      obtain ⟨m, hm⟩ : ∃ m, k - j = m + 1 := ⟨k - j - 1, by omega⟩
      have hm2 : k - (j + 1) = m := by omega
      have hpow : (2 : Int) ^ (8 * j) = 256 ^ j := by rw [Int.pow_mul]; rfl
      have hv := lowByte_toNat (x / 256 ^ j)
      rw [← hpow] at hv
      have HV := Lib.hid hv
      have HP := Lib.hid hpow
      have HM := Lib.hid hm
      have HM2 := Lib.hid hm2
      clear hv hpow hm hm2
      go_wp2
      go_roundw
      case rel => exact ⟨j + 1, by omega, by go_num, by have h1 := hR.set j (lowByte (x / 2 ^ (8 * j))); rw [HV.out, HM.out, HP.out, low_set] at h1; rw [HM2.out, HP.out]; exact h1, hE.setCell (Nat.le_refl _) _⟩
      case measure => simp [intOf] <;> omega
    · obtain rfl : j = k := by omega
      have hr := hR.string (P := Try.prog) 110 5 9 Try.underlying110 Try.underlying5 Try.underlying9 j
      have hfin : low x j ++ List.replicate (j - j) (0 : UInt8) = low x j := by simp
      rw [hll, hfin] at hr
      go_wp2
      go_ret
      exact ⟨rfl, hE⟩

theorem rlow4_calls (x : Int) (w : World) : Calls Try.prog 84 #[.int .i64 x, .int .i64 4] w fun e w' => e = .returned (.string (mk (low x 4))) ∧ Ext w w' := rlow_calls x 4 (by omega) w

theorem rlow2_calls (x : Int) (w : World) : Calls Try.prog 84 #[.int .i64 x, .int .i64 2] w fun e w' => e = .returned (.string (mk (low x 2))) ∧ Ext w w' := rlow_calls x 2 (by omega) w

theorem rlow1_calls (x : Int) (w : World) : Calls Try.prog 84 #[.int .i64 x, .int .i64 1] w fun e w' => e = .returned (.string (mk (low x 1))) ∧ Ext w w' := rlow_calls x 1 (by omega) w

theorem rof_calls (s : ByteArray) (hs : s.size ≤ 6) (w : World) :
    Calls Try.prog 85 #[.string s] w fun e w' => e = .returned (.int .i64 (num (bl s) : Nat)) ∧ w = w' := by
  have hl : (bl s).length = s.size := bl_length s
  go_enter Try.func85, Try.ntmps85
  go_wp2
  go_loop [3, 4] (fun o i => ∃ (j m : Nat), j ≤ s.size ∧ i = .int .i64 ((j : Int) - 1) ∧ o = .int .i64 (m : Int) ∧ Hid (m = num ((bl s).drop j))) (fun _ i => (intOf i + 1).toNat)
  case atStart => exact ⟨s.size, 0, by omega, by go_num, rfl, by show 0 = _; rw [List.drop_of_length_le (by omega)]; rfl⟩
  case round =>
    obtain ⟨j, m, hj, rfl, rfl, hm⟩ := hrel
    rcases j with _ | j
    · go_wp2
      go_ret
      exact ⟨by rw [hm.out]; rfl, rfl⟩
    · have hd : (bl s).drop j = s[j] :: (bl s).drop (j + 1) := by
        rw [List.drop_eq_getElem_cons (by omega)]; rfl
      have hlt : m < 2 ^ 48 := by
        have h1 := num_lt ((bl s).drop (j + 1))
        rw [← hm.out] at h1
        have h2 : 256 ^ ((bl s).drop (j + 1)).length ≤ 256 ^ 6 := Nat.pow_le_pow_right (by decide) (by simp; omega)
        omega
      have hor := or_byte m s[j] hlt
      have hb : s[j].toNat < 256 := s[j].toNat_lt
      have hm2 : Hid (s[j].toNat + 256 * m = num ((bl s).drop j)) := by
        show _ = _
        rw [hd, hm.out]; rfl
      have h0 : (0 : Int) ≤ ((j + 1 : Nat) : Int) - 1 := by omega
      clear hd hm
      go_wp2
      go_round
      case rel => exact ⟨j, _, by omega, by go_num, rfl, hm2⟩
      case measure => simp [intOf] <;> omega

theorem low_one (x : Int) (h0 : 0 ≤ x) (h1 : x ≤ 1) : low x 1 ++ low 0 1 = low x 2 := by
  have e : x / 256 = 0 := by omega
  simp [low, e]

theorem sub_byte (c : UInt8) : (255 - (c.toNat : Int)) = ((~~~ c).toNat : Int) := by
  have hc := c.toNat_lt
  rw [UInt8.toNat_not]
  simp only [UInt8.size]
  omega

theorem compl_take_succ (l : List UInt8) {j : Nat} (h : j < l.length) : compl (l.take (j + 1)) = compl (l.take j) ++ [~~~ l[j]] := by
  rw [List.take_succ_eq_append_getElem h]
  show List.map _ _ = List.map _ _ ++ _
  rw [List.map_append]; rfl

set_option maxRecDepth 20000 in
theorem rput_calls (r : Rec) (w : World) :
    Calls Try.prog 66 #[recV r] w fun e w' => e = .returned (if recMay r = true then .tuple #[.string (mk (put r)), .int .i64 0] else .tuple #[.string (mk []), .int .i64 400]) ∧ Ext w w' := by
  cases hm : recMay r
  · have M := Lib.hid (fun w => recordMay_calls r w)
    rw [hm] at M
    unfold recV at *
    go_enter Try.func66, Try.ntmps66
    go_wp2_with fail
    refine (M.out _).mono ?_
    rintro e w1 ⟨rfl, B1⟩
    go_wp2
    go_ret2
    exact ⟨rfl, (by repeat (first | (with_reducible exact Ext.refl _) | (with_reducible assumption) | (with_reducible refine Ext.drewN ?_ _) | (with_reducible refine Ext.drew ?_) | (with_reducible refine Ext.alloc ?_ _) | (with_reducible refine Ext.setCell ?_ (by first | exact Nat.le_refl _ | (simp <;> omega)) _) | (with_reducible refine Ext.trans ?_ (by with_reducible assumption))))⟩
  · have M := Lib.hid (fun w => recordMay_calls r w)
    rw [hm] at M
    obtain ⟨i0, hi, hz0, hz1, hz2⟩ := info_parts info_u8
    have hX : bl (mk (low r.seq 4) ++ mk (low r.slot 1) ++ mk (low 0 1) ++ mk (low r.size 2) ++ mk (low r.sum 4)) = half r := by
      have h := recMay_iff.1 hm
      simp only [bl_append, bl_mk, half, List.append_assoc]
      rw [← low_one r.slot (by omega) (by omega)]
      simp
    have kc := fun (w : World) => Lib.run_convert_string_bytes (P := Try.prog) w 9 110 5 (mk (low r.seq 4) ++ mk (low r.slot 1) ++ mk (low 0 1) ++ mk (low r.size 2) ++ mk (low r.sum 4)) Try.underlying9 Try.underlying110 Try.underlying5
    have HX := Lib.hid hX
    clear hX
    unfold recV at *
    go_enter Try.func66, Try.ntmps66
    go_wp2_with fail
    refine (M.out _).mono ?_
    rintro e w1 ⟨rfl, B1⟩
    have k0_w1 : w1.cell? ⟨w.heap.size, 0, none⟩ = some (.int .i64 r.seq) := Ext.cell B1 (by simp)
    have k1_w1 : w1.cell? ⟨w.heap.size, 1, none⟩ = some (.int .i64 r.slot) := Ext.cell B1 (by simp)
    have k2_w1 : w1.cell? ⟨w.heap.size, 2, none⟩ = some (.int .i64 r.size) := Ext.cell B1 (by simp)
    have k3_w1 : w1.cell? ⟨w.heap.size, 3, none⟩ = some (.int .i64 r.sum) := Ext.cell B1 (by simp)
    have f_w1 : ∀ i, w1.frozen? ⟨w.heap.size, i, none⟩ = false := fun i => Ext.free B1 (by first | (simp; done) | (simp; omega)) (by first | (simp; done) | (simp; omega))
    go_wp2
    refine wp_region_held_drew (S := fun w' => w'.cell? ⟨w.heap.size, 0, none⟩ = some (.int .i64 r.seq) ∧ w'.cell? ⟨w.heap.size, 1, none⟩ = some (.int .i64 r.slot) ∧ w'.cell? ⟨w.heap.size, 2, none⟩ = some (.int .i64 r.size) ∧ w'.cell? ⟨w.heap.size, 3, none⟩ = some (.int .i64 r.sum)) (by kernel_rfl) ?_ (fun hHeld => ?_)
    · go_keep
    refine wpAnyH_take (i := 0) (v := ?_) rfl (by kernel_rfl) (by kernel_rfl) (by kernel_rfl) (fun _ _ _ h => h) (Or.inl ⟨by rfl, ?_⟩) (by assumption) ?_
    rotate_left
    · (intro w hSw; (try dsimp only at hSw); go_simp; first | done | (with_reducible rfl))
    try simp only [Act.put, List.setIfInBounds_toArray, List.set_cons_zero, List.set_cons_succ]
    refine wpAnyH_take (i := 3) (v := ?_) rfl (by kernel_rfl) (by kernel_rfl) (by kernel_rfl) (fun _ _ _ h => h) (Or.inl ⟨by rfl, ?_⟩) (by assumption) ?_
    rotate_left
    · (intro w hSw; (try dsimp only at hSw); go_simp; first | done | (with_reducible rfl))
    try simp only [Act.put, List.setIfInBounds_toArray, List.set_cons_zero, List.set_cons_succ]
    refine wpAnyH_take (i := 9) (v := ?_) rfl (by kernel_rfl) (by kernel_rfl) (by kernel_rfl) (fun _ _ _ h => h) (Or.inl ⟨by rfl, ?_⟩) (by assumption) ?_
    rotate_left
    · (intro w hSw; (try dsimp only at hSw); go_simp; first | done | (with_reducible rfl))
    try simp only [Act.put, List.setIfInBounds_toArray, List.set_cons_zero, List.set_cons_succ]
    refine wpAnyH_take (i := 13) (v := ?_) rfl (by kernel_rfl) (by kernel_rfl) (by kernel_rfl) (fun _ _ _ h => h) (Or.inl ⟨by rfl, ?_⟩) (by assumption) ?_
    rotate_left
    · (intro w hSw; (try dsimp only at hSw); go_simp; first | done | (with_reducible rfl))
    try simp only [Act.put, List.setIfInBounds_toArray, List.set_cons_zero, List.set_cons_succ]
    refine wpAnyH_take (i := 1) (v := ?_) rfl (by kernel_rfl) (by kernel_rfl) (by kernel_rfl) (fun _ _ _ h => h) (Or.inl ⟨by rfl, ?_⟩) (by assumption) ?_
    rotate_left
    · (intro w hSw; (try dsimp only at hSw); go_simp; first | done | (with_reducible rfl))
    try simp only [Act.put, List.setIfInBounds_toArray, List.set_cons_zero, List.set_cons_succ]
    refine wpAnyH_take (i := 4) (v := ?_) rfl (by kernel_rfl) (by kernel_rfl) (by kernel_rfl) (fun _ _ _ h => h) (Or.inl ⟨by rfl, ?_⟩) (by assumption) ?_
    rotate_left
    · (intro w hSw; (try dsimp only at hSw); go_simp; first | done | (with_reducible rfl))
    try simp only [Act.put, List.setIfInBounds_toArray, List.set_cons_zero, List.set_cons_succ]
    refine wpAnyH_take (i := 10) (v := ?_) rfl (by kernel_rfl) (by kernel_rfl) (by kernel_rfl) (fun _ _ _ h => h) (Or.inl ⟨by rfl, ?_⟩) (by assumption) ?_
    rotate_left
    · (intro w hSw; (try dsimp only at hSw); go_simp; first | done | (with_reducible rfl))
    try simp only [Act.put, List.setIfInBounds_toArray, List.set_cons_zero, List.set_cons_succ]
    refine wpAnyH_take (i := 14) (v := ?_) rfl (by kernel_rfl) (by kernel_rfl) (by kernel_rfl) (fun _ _ _ h => h) (Or.inl ⟨by rfl, ?_⟩) (by assumption) ?_
    rotate_left
    · (intro w hSw; (try dsimp only at hSw); go_simp; first | done | (with_reducible rfl))
    try simp only [Act.put, List.setIfInBounds_toArray, List.set_cons_zero, List.set_cons_succ]
    refine wpAnyH_ready (rs := [2]) (by kernel_rfl) (by simp) ?_
    refine AllReadyH.cons rfl (fun K hK => ?_) AllReadyH.nil
    go_simp
    go_at_call 84
    refine (rlow4_calls _ _).mono ?_
    rintro e w2 ⟨rfl, B2⟩
    go_wp2_with fail
    refine hK.out _ _ ?_ (fun hHeld => ?_)
    · (go_split_ands; refine ⟨?_, ?_, ?_, ?_⟩ <;> exact Ext.cell B2 ‹_›)
    clear hK K
    try simp only [Act.put, List.setIfInBounds_toArray, List.set_cons_zero, List.set_cons_succ]
    refine wpAnyH_ready (rs := [5]) (by kernel_rfl) (by simp) ?_
    refine AllReadyH.cons rfl (fun K hK => ?_) AllReadyH.nil
    go_simp
    go_at_call 84
    refine (rlow1_calls _ _).mono ?_
    rintro e w3 ⟨rfl, B3⟩
    go_wp2_with fail
    refine hK.out _ _ ?_ (fun hHeld => ?_)
    · (go_split_ands; refine ⟨?_, ?_, ?_, ?_⟩ <;> exact Ext.cell B3 ‹_›)
    clear hK K
    try simp only [Act.put, List.setIfInBounds_toArray, List.set_cons_zero, List.set_cons_succ]
    refine wpAnyH_take (i := 6) (v := ?_) rfl (by kernel_rfl) (by kernel_rfl) (by kernel_rfl) (fun _ _ _ h => h) (Or.inl ⟨by rfl, ?_⟩) (by assumption) ?_
    rotate_left
    · (intro w hSw; (try dsimp only at hSw); go_simp; first | done | (with_reducible rfl))
    try simp only [Act.put, List.setIfInBounds_toArray, List.set_cons_zero, List.set_cons_succ]
    refine wpAnyH_ready (rs := [7]) (by kernel_rfl) (by simp) ?_
    refine AllReadyH.cons rfl (fun K hK => ?_) AllReadyH.nil
    go_simp
    go_at_call 84
    refine (rlow1_calls _ _).mono ?_
    rintro e w4 ⟨rfl, B4⟩
    go_wp2_with fail
    refine hK.out _ _ ?_ (fun hHeld => ?_)
    · (go_split_ands; refine ⟨?_, ?_, ?_, ?_⟩ <;> exact Ext.cell B4 ‹_›)
    clear hK K
    try simp only [Act.put, List.setIfInBounds_toArray, List.set_cons_zero, List.set_cons_succ]
    refine wpAnyH_take (i := 8) (v := ?_) rfl (by kernel_rfl) (by kernel_rfl) (by kernel_rfl) (fun _ _ _ h => h) (Or.inl ⟨by rfl, ?_⟩) (by assumption) ?_
    rotate_left
    · (intro w hSw; (try dsimp only at hSw); go_simp; first | done | (with_reducible rfl))
    try simp only [Act.put, List.setIfInBounds_toArray, List.set_cons_zero, List.set_cons_succ]
    refine wpAnyH_ready (rs := [11]) (by kernel_rfl) (by simp) ?_
    refine AllReadyH.cons rfl (fun K hK => ?_) AllReadyH.nil
    go_simp
    go_at_call 84
    refine (rlow2_calls _ _).mono ?_
    rintro e w5 ⟨rfl, B5⟩
    go_wp2_with fail
    refine hK.out _ _ ?_ (fun hHeld => ?_)
    · (go_split_ands; refine ⟨?_, ?_, ?_, ?_⟩ <;> exact Ext.cell B5 ‹_›)
    clear hK K
    try simp only [Act.put, List.setIfInBounds_toArray, List.set_cons_zero, List.set_cons_succ]
    refine wpAnyH_take (i := 12) (v := ?_) rfl (by kernel_rfl) (by kernel_rfl) (by kernel_rfl) (fun _ _ _ h => h) (Or.inl ⟨by rfl, ?_⟩) (by assumption) ?_
    rotate_left
    · (intro w hSw; (try dsimp only at hSw); go_simp; first | done | (with_reducible rfl))
    try simp only [Act.put, List.setIfInBounds_toArray, List.set_cons_zero, List.set_cons_succ]
    refine wpAnyH_ready (rs := [15]) (by kernel_rfl) (by simp) ?_
    refine AllReadyH.cons rfl (fun K hK => ?_) AllReadyH.nil
    go_simp
    go_at_call 84
    refine (rlow4_calls _ _).mono ?_
    rintro e w6 ⟨rfl, B6⟩
    go_wp2_with fail
    refine hK.out _ _ ?_ (fun hHeld => ?_)
    · (go_split_ands; refine ⟨?_, ?_, ?_, ?_⟩ <;> exact Ext.cell B6 ‹_›)
    clear hK K
    try simp only [Act.put, List.setIfInBounds_toArray, List.set_cons_zero, List.set_cons_succ]
    refine wpAnyH_take (i := 16) (v := ?_) rfl (by kernel_rfl) (by kernel_rfl) (by kernel_rfl) (fun _ _ _ h => h) (Or.inl ⟨by rfl, ?_⟩) (by assumption) ?_
    rotate_left
    · (intro w hSw; (try dsimp only at hSw); go_simp; first | done | (with_reducible rfl))
    try simp only [Act.put, List.setIfInBounds_toArray, List.set_cons_zero, List.set_cons_succ]
    refine wpAnyH_ready (rs := [17]) (by kernel_rfl) (by simp) ?_
    refine AllReadyH.cons rfl (fun K hK => ?_) AllReadyH.nil
    go_simp
    refine hK.out _ _ ?_ (fun hHeld => ?_)
    · (go_split_ands; refine ⟨?_, ?_, ?_, ?_⟩ <;> exact Ext.cell (Ext.bytes _ _ _) ‹_›)
    clear hK K
    try simp only [Act.put, List.setIfInBounds_toArray, List.set_cons_zero, List.set_cons_succ]
    refine wpAnyH_take (i := 18) (v := ?_) rfl (by kernel_rfl) (by kernel_rfl) (by kernel_rfl) (fun _ _ _ h => h) (Or.inl ⟨by rfl, ?_⟩) (by assumption) ?_
    rotate_left
    · (intro w hSw; (try dsimp only at hSw); go_simp; first | done | (with_reducible rfl))
    try simp only [Act.put, List.setIfInBounds_toArray, List.set_cons_zero, List.set_cons_succ]
    refine wpAnyH_done (by kernel_rfl) ?_ _
    go_wp2
    have hR0 := RowC.bytes w6 5 (mk (low r.seq 4) ++ mk (low r.slot 1) ++ mk (low 0 1) ++ mk (low r.size 2) ++ mk (low r.sum 4))
    have e12 : (mk (low r.seq 4) ++ mk (low r.slot 1) ++ mk (low 0 1) ++ mk (low r.size 2) ++ mk (low r.sum 4)).size = 12 := by simp
    rw [e12, show (mk (low r.seq 4) ++ mk (low r.slot 1) ++ mk (low 0 1) ++ mk (low r.size 2) ++ mk (low r.sum 4)).data.toList = half r from HX.out] at hR0
    have hE0 := Ext.bytes w6 5 (mk (low r.seq 4) ++ mk (low r.slot 1) ++ mk (low 0 1) ++ mk (low r.size 2) ++ mk (low r.sum 4))
    have hw6 : Ext w w6 := (by repeat (first | (with_reducible exact Ext.refl _) | (with_reducible assumption) | (with_reducible refine Ext.drewN ?_ _) | (with_reducible refine Ext.drew ?_) | (with_reducible refine Ext.alloc ?_ _) | (with_reducible refine Ext.setCell ?_ (by first | exact Nat.le_refl _ | (simp <;> omega)) _) | (with_reducible refine Ext.trans ?_ (by with_reducible assumption))))
    generalize Lib.bytesWorld w6 5 (mk (low r.seq 4) ++ mk (low r.slot 1) ++ mk (low 0 1) ++ mk (low r.size 2) ++ mk (low r.sum 4)) = W at *
    have hEW : Ext w W := hw6.trans hE0
    have hbase : w.heap.size ≤ w6.heap.size := hw6.size
    clear e12 hE0 kc M
    go_loopw [4, 5] (fun v i wr => ∃ (j g cap : Nat), j ≤ 12 ∧ i = .int .i64 (j : Int) ∧ v = .slice (some ⟨g, 0, none⟩) (12 + j) cap ∧ w.heap.size ≤ g ∧ RowC wr g cap (half r ++ compl ((half r).take j)) ∧ Ext w wr) (fun _ i _ => 12 - (intOf i).toNat)
    case atStart => exact ⟨0, w6.heap.size, _, by omega, rfl, rfl, hbase, by simpa [compl] using hR0, hEW⟩
    case round =>
      clear hR0 hEW
      obtain ⟨j, g, cap, hj, rfl, rfl, hg, hR, hE⟩ := hrel
      have hl : (half r).length = 12 := half_length r
      have hll : (half r ++ compl ((half r).take j)).length = 12 + j := by simp; omega
      by_cases hlt : j < 12
      · have hcell := hR.row.cellD (i := j) (by omega)
        have hat : (half r ++ compl ((half r).take j)).getD j 0 = (half r)[j] := by
          rw [List.getD_eq_getElem?_getD, List.getElem?_append_left (by omega), List.getElem?_eq_getElem (by omega)]; rfl
        rw [hat] at hcell
        have hnext : half r ++ compl ((half r).take j) ++ [~~~ (half r)[j]] = half r ++ compl ((half r).take (j + 1)) := by
          rw [List.append_assoc]; exact congrArg (half r ++ ·) (compl_take_succ (half r) (j := j) (by omega)).symm
        generalize (half r)[j] = c at hcell hnext
        have hsub : Hid ((255 - (c.toNat : Int)) = ((~~~ c).toNat : Int)) := sub_byte c
        have HN := Lib.hid hnext
        have hc := c.toNat_lt
        have hR' := hR.ext ((Ext.refl wr).alloc (.cells #[.int .u8 (255 - (c.toNat : Int))] 5))
        clear hat hnext
        go_wp2_with (at_builtin; refine wpList_append_rowc rfl (.tmp 31) (.tmp 37) 110 rfl w.heap.size 5 i0 Try.underlying110 hi hz0 hz1 hz2 g (12 + j) cap _ hll rfl hR' ⟨wr.heap.size, 0, none⟩ 1 (~~~ c) rfl ?c1 ?c2 ?c3 ?c4 ?_)
        case c1 => rw [u8v, ← hsub.out]; simp
        case c2 => omega
        case c3 => exact hg
        case c4 => have := hE.size; simp; omega
        intro g' cap' w7 hR7 hg7 hgrow
        rw [← List.append_assoc, HN.out] at hR7
        have hE7 : Ext w w7 := (hE.alloc _).grown hgrow (fun k hk => by cases hk; exact hg)
        clear hgrow hR hR'
        go_wp2
        go_roundw
        case rel => exact ⟨j + 1, g', cap', by omega, by go_num, rfl, hg7, hR7, hE7⟩
        case measure => simp [intOf] <;> omega
      · obtain rfl : j = 12 := by omega
        have hfin : half r ++ compl ((half r).take 12) = put r := by rw [List.take_of_length_le (by omega)]; rfl
        rw [hfin] at hR hll
        have hr := hR.row.string (P := Try.prog) 110 5 9 Try.underlying110 Try.underlying5 Try.underlying9 cap
        rw [put_length] at hr
        go_wp2
        go_ret2
        exact ⟨rfl, hE⟩

end Go.Proofs.Ytmidohjfajbpmaa
set_option linter.unusedVariables false
set_option linter.unusedSimpArgs false
set_option maxHeartbeats 4000000
namespace Go.Proofs.Ytmidohjfajbpmaa
open Go.RowKit Skiff

/-- What the reference reads. -/
def rtold (l : List UInt8) : Rec := ⟨num (l.take 4), ((l.getD 4 0).toNat : Nat), num ((l.drop 6).take 2), num ((l.drop 8).take 4)⟩
theorem rtold_get {l : List UInt8} {q : Rec} (h : Skiff.get l = some q) : rtold l = q := by
  have hm := (get_some h).1
  unfold Skiff.get at h
  split at h
  · rename_i hc
    obtain rfl := Option.some.inj h
    have hs := (recMay_iff.1 hm).2.1
    have hl := hc.1
    have e : (l.drop 4).take 2 = [l.getD 4 0, l.getD 5 0] := by
      rw [List.drop_eq_getElem_cons (by omega), List.drop_eq_getElem_cons (by omega)]
      rw [List.getD_eq_getElem?_getD, List.getD_eq_getElem?_getD, List.getElem?_eq_getElem (by omega), List.getElem?_eq_getElem (by omega)]; rfl
    have hv : (told l).slot = ((l.getD 4 0).toNat + 256 * ((l.getD 5 0).toNat + 0) : Nat) := by
      unfold told
      simp only
      rw [e]; rfl
    rw [hv] at hs
    unfold rtold
    have : (told l).slot = ((l.getD 4 0).toNat : Nat) := by rw [hv]; omega
    rw [← this]; rfl
  · cases h
theorem rget_of (l : List UInt8) : Skiff.get l = if recMay (rtold l) = true ∧ put (rtold l) = l then some (rtold l) else none := by
  cases h : Skiff.get l with
  | none => rw [if_neg]; intro hc; exact get_none h _ hc.1 hc.2
  | some q =>
    have e := rtold_get h
    have hq := get_some h
    rw [e, if_pos hq]

theorem rget_calls (s : ByteArray) (w : World) :
    Calls Try.prog 68 #[.string s] w fun e w' => e = .returned (getRes (bl s)) ∧ Ext w w' := by
  have hl : (bl s).length = s.size := bl_length s
  by_cases h24 : s.size = 24
  · have hn : ((s.size : Int) != 24) = false := by rw [h24]; rfl
    obtain ⟨r, hr⟩ : ∃ r, rtold (bl s) = r := ⟨_, rfl⟩
    have n1 : ((num (bl (s.extract 0 4)) : Nat) : Int) = r.seq := by rw [← hr, bl_extract]; rfl
    have n3 : ((num (bl (s.extract 6 8)) : Nat) : Int) = r.size := by rw [← hr, bl_extract]; rfl
    have n4 : ((num (bl (s.extract 8 12)) : Nat) : Int) = r.sum := by rw [← hr, bl_extract]; rfl
    have n2 : ((s[4].toNat : Nat) : Int) = r.slot := by
      rw [← hr]; unfold rtold
      simp only [List.getD_eq_getElem?_getD]
      rw [List.getElem?_eq_getElem (by omega)]; rfl
    have N1 := Lib.hid (fun w => rof_calls (s.extract 0 4) (by simp; omega) w)
    have N3 := Lib.hid (fun w => rof_calls (s.extract 6 8) (by simp; omega) w)
    have N4 := Lib.hid (fun w => rof_calls (s.extract 8 12) (by simp; omega) w)
    rw [n1] at N1
    rw [n3] at N3
    rw [n4] at N4
    have hb : s[4].toNat < 256 := s[4].toNat_lt
    have hj : 4 < s.size := by omega
    have N2 := Lib.hid (show IntKind.i64.wrap (s[4].toNat : Int) = r.slot by rw [← n2]; exact wrap_i64_fit _ (by omega) (by omega))
    have M := Lib.hid (fun w => rput_calls r w)
    unfold recV at M
    have HG : Hid (getRes (bl s) = if recMay r = true ∧ put r = bl s then .tuple #[recV r, .int .i64 0] else .tuple #[recV Rec.zero, .int .i64 400]) := by
      show _ = _
      unfold getRes
      rw [rget_of, hr]
      by_cases hc : recMay r = true ∧ put r = bl s
      · rw [if_pos hc, if_pos hc]
      · rw [if_neg hc, if_neg hc]
    clear n1 n2 n3 n4 hr
    go_enter Try.func68, Try.ntmps68
    go_wp2
    apply once
    case f =>
      intro key
      go_region_held3 (fun w1 => Ext (w.alloc (.cells #[.int .i64 0, .int .i64 0, .int .i64 0, .int .i64 0] 41)) w1) ( repeat (first | (with_reducible exact Ext.refl _) | (with_reducible refine Ext.drewN ?_ _) | (with_reducible refine Ext.drew ?_) | (with_reducible refine Ext.alloc ?_ _) | (with_reducible refine Ext.setCell ?_ (by first | exact Nat.le_refl _ | (simp <;> omega)) _) | (with_reducible refine Ext.trans ?_ (by with_reducible assumption)))) (first | (go_at_call 85; first | ((with_reducible refine (N1.out _).mono ?_); rintro e w2 ⟨rfl, rfl⟩) | ((with_reducible refine (N3.out _).mono ?_); rintro e w2 ⟨rfl, rfl⟩) | ((with_reducible refine (N4.out _).mono ?_); rintro e w2 ⟨rfl, rfl⟩)))
      all_goals (rw [N2.out]; exact key)
    case p =>
      generalize recMay r = b at *
      cases b
      · go_wp2_with fail
        refine (M.out _).mono ?_
        rintro e w2 ⟨rfl, B2⟩
        have k0_w2 : w2.cell? ⟨w.heap.size, 0, none⟩ = some (.int .i64 0) := Ext.cell B2 (by simp)
        have k1_w2 : w2.cell? ⟨w.heap.size, 1, none⟩ = some (.int .i64 0) := Ext.cell B2 (by simp)
        have k2_w2 : w2.cell? ⟨w.heap.size, 2, none⟩ = some (.int .i64 0) := Ext.cell B2 (by simp)
        have k3_w2 : w2.cell? ⟨w.heap.size, 3, none⟩ = some (.int .i64 0) := Ext.cell B2 (by simp)
        have f_w2 : ∀ i, w2.frozen? ⟨w.heap.size, i, none⟩ = false := fun i => Ext.free B2 (by first | (simp; done) | (simp; omega)) (by first | (simp; done) | (simp; omega))
        go_wp2
        refine bodyPost_ret (v := .tuple #[recV Rec.zero, .int .i64 400]) ?_ rfl ?_
        · simp [results, Try.results68, go_sem, recV, Rec.zero, k0_w2, k1_w2, k2_w2, k3_w2]
        · exact ⟨congrArg Ending.returned (HG.out.trans (by simp)).symm, (by repeat (first | (with_reducible exact Ext.refl _) | (with_reducible assumption) | (with_reducible refine Ext.drewN ?_ _) | (with_reducible refine Ext.drew ?_) | (with_reducible refine Ext.alloc ?_ _) | (with_reducible refine Ext.setCell ?_ (by first | exact Nat.le_refl _ | (simp <;> omega)) _) | (with_reducible refine Ext.trans ?_ (by with_reducible assumption))))⟩
      · by_cases hp : put r = bl s
        · have htest : (!(mk (put r)).toList == s.toList) = false := by rw [beq_bl, bl_mk]; simp [hp]
          have HP := Lib.hid hp
          clear hp
          go_wp2_with fail
          refine (M.out _).mono ?_
          rintro e w2 ⟨rfl, B2⟩
          have k0_w2 : w2.cell? ⟨w.heap.size, 0, none⟩ = some (.int .i64 0) := Ext.cell B2 (by simp)
          have k1_w2 : w2.cell? ⟨w.heap.size, 1, none⟩ = some (.int .i64 0) := Ext.cell B2 (by simp)
          have k2_w2 : w2.cell? ⟨w.heap.size, 2, none⟩ = some (.int .i64 0) := Ext.cell B2 (by simp)
          have k3_w2 : w2.cell? ⟨w.heap.size, 3, none⟩ = some (.int .i64 0) := Ext.cell B2 (by simp)
          have f_w2 : ∀ i, w2.frozen? ⟨w.heap.size, i, none⟩ = false := fun i => Ext.free B2 (by first | (simp; done) | (simp; omega)) (by first | (simp; done) | (simp; omega))
          have l0 : w2.cell? ⟨w.heap.size + 1, 0, none⟩ = some (.int .i64 r.seq) := Ext.cell B2 (by simp)
          have l1 : w2.cell? ⟨w.heap.size + 1, 1, none⟩ = some (.int .i64 r.slot) := Ext.cell B2 (by simp)
          have l2 : w2.cell? ⟨w.heap.size + 1, 2, none⟩ = some (.int .i64 r.size) := Ext.cell B2 (by simp)
          have l3 : w2.cell? ⟨w.heap.size + 1, 3, none⟩ = some (.int .i64 r.sum) := Ext.cell B2 (by simp)
          go_wp2
          refine bodyPost_ret (v := .tuple #[recV r, .int .i64 0]) ?_ rfl ?_
          · simp [results, Try.results68, go_sem, recV, k0_w2, k1_w2, k2_w2, k3_w2]
          · exact ⟨congrArg Ending.returned (HG.out.trans (if_pos ⟨(by first | rfl | trivial), HP.out⟩)).symm, (by repeat (first | (with_reducible exact Ext.refl _) | (with_reducible assumption) | (with_reducible refine Ext.drewN ?_ _) | (with_reducible refine Ext.drew ?_) | (with_reducible refine Ext.alloc ?_ _) | (with_reducible refine Ext.setCell ?_ (by first | exact Nat.le_refl _ | (simp <;> omega)) _) | (with_reducible refine Ext.trans ?_ (by with_reducible assumption))))⟩
        · have htest : (!(mk (put r)).toList == s.toList) = true := by rw [beq_bl, bl_mk]; simp [hp]
          have HP := Lib.hid hp
          clear hp
          go_wp2_with fail
          refine (M.out _).mono ?_
          rintro e w2 ⟨rfl, B2⟩
          have k0_w2 : w2.cell? ⟨w.heap.size, 0, none⟩ = some (.int .i64 0) := Ext.cell B2 (by simp)
          have k1_w2 : w2.cell? ⟨w.heap.size, 1, none⟩ = some (.int .i64 0) := Ext.cell B2 (by simp)
          have k2_w2 : w2.cell? ⟨w.heap.size, 2, none⟩ = some (.int .i64 0) := Ext.cell B2 (by simp)
          have k3_w2 : w2.cell? ⟨w.heap.size, 3, none⟩ = some (.int .i64 0) := Ext.cell B2 (by simp)
          have f_w2 : ∀ i, w2.frozen? ⟨w.heap.size, i, none⟩ = false := fun i => Ext.free B2 (by first | (simp; done) | (simp; omega)) (by first | (simp; done) | (simp; omega))
          go_wp2
          refine bodyPost_ret (v := .tuple #[recV Rec.zero, .int .i64 400]) ?_ rfl ?_
          · simp [results, Try.results68, go_sem, recV, Rec.zero, k0_w2, k1_w2, k2_w2, k3_w2]
          · exact ⟨congrArg Ending.returned (HG.out.trans (if_neg fun h => HP.out h.2)).symm, (by repeat (first | (with_reducible exact Ext.refl _) | (with_reducible assumption) | (with_reducible refine Ext.drewN ?_ _) | (with_reducible refine Ext.drew ?_) | (with_reducible refine Ext.alloc ?_ _) | (with_reducible refine Ext.setCell ?_ (by first | exact Nat.le_refl _ | (simp <;> omega)) _) | (with_reducible refine Ext.trans ?_ (by with_reducible assumption))))⟩
  · have hg : Skiff.get (bl s) = none := by
      unfold Skiff.get
      rw [if_neg]
      intro h
      exact h24 (by omega)
    have hn : ((s.size : Int) != 24) = true := by rw [bne_iff_ne]; omega
    have HG := Lib.hid (getRes_none hg)
    clear hg
    go_enter Try.func68, Try.ntmps68
    go_wp2
    refine bodyPost_ret (v := .tuple #[recV Rec.zero, .int .i64 400]) ?_ rfl ?_
    · simp [results, Try.results68, go_sem, recV, Rec.zero]
    · exact ⟨congrArg Ending.returned HG.out.symm, (by repeat (first | (with_reducible exact Ext.refl _) | (with_reducible assumption) | (with_reducible refine Ext.drewN ?_ _) | (with_reducible refine Ext.drew ?_) | (with_reducible refine Ext.alloc ?_ _) | (with_reducible refine Ext.setCell ?_ (by first | exact Nat.le_refl _ | (simp <;> omega)) _) | (with_reducible refine Ext.trans ?_ (by with_reducible assumption))))⟩

end Go.Proofs.Ytmidohjfajbpmaa
set_option linter.unusedVariables false
set_option linter.unusedSimpArgs false
set_option maxHeartbeats 4000000
namespace Skiff
def putPair (r : Rec) : ByteArray × Int := if recMay r = true then (mk (put r), 0) else (mk [], 400)
def getTup (l : List UInt8) : Int × Int × Int × Int × Int := match get l with
  | some r => (r.seq, r.slot, r.size, r.sum, 0)
  | none => (0, 0, 0, 0, 400)
end Skiff
namespace Go.Proofs.Ytmidohjfajbpmaa
open Go.RowKit Skiff

theorem putPair_res {r : Rec} {r1 : ByteArray} {r2 : Int} (h : some (putPair r) = some (r1, r2)) : (if recMay r = true then Value.tuple #[.string (mk (put r)), .int .i64 0] else .tuple #[.string (mk []), .int .i64 400]) = .tuple #[.string r1, .int .i64 r2] := by
  have h := Option.some.inj h
  unfold putPair at h
  split at h
  · rename_i hc; rw [if_pos hc]; simp only [Prod.mk.injEq] at h; obtain ⟨rfl, rfl⟩ := h; rfl
  · rename_i hc; rw [if_neg hc]; simp only [Prod.mk.injEq] at h; obtain ⟨rfl, rfl⟩ := h; rfl
theorem getTup_res {l : List UInt8} {r1 r2 r3 r4 r5 : Int} (h : some (getTup l) = some (r1, r2, r3, r4, r5)) : getRes l = .tuple #[.agg #[.int .i64 r1, .int .i64 r2, .int .i64 r3, .int .i64 r4], .int .i64 r5] := by
  have h := Option.some.inj h
  unfold getTup at h
  cases hg : Skiff.get l with
  | some r =>
    rw [getRes_some hg]
    rw [hg] at h
    simp only [Prod.mk.injEq] at h
    obtain ⟨rfl, rfl, rfl, rfl, rfl⟩ := h
    rfl
  | none =>
    rw [getRes_none hg]
    rw [hg] at h
    simp only [Prod.mk.injEq] at h
    obtain ⟨rfl, rfl, rfl, rfl, rfl⟩ := h
    rfl

theorem g_entry_Get (a0 : ByteArray) (r1 r2 r3 r4 r5 : Int) (w : World) (h : some (getTup (bl a0)) = some (r1, r2, r3, r4, r5)) :
    Calls Try.prog 73 #[.string a0] w fun e w' => e = .returned (.tuple #[.agg #[.int .i64 r1, .int .i64 r2, .int .i64 r3, .int .i64 r4], .int .i64 r5]) ∧ Below w.heap.size w w' :=
  (get_calls a0 w).mono fun e w' ⟨he, hw⟩ => ⟨by rw [he, getTup_res h], hw⟩
theorem g_skiffref1_PutEntry (a0_0 a0_1 a0_2 a0_3 : Int) (r1 : ByteArray) (r2 : Int) (w : World) (h : some (putPair ⟨a0_0, a0_1, a0_2, a0_3⟩) = some (r1, r2)) :
    Calls Try.prog 66 #[.agg #[.int .i64 a0_0, .int .i64 a0_1, .int .i64 a0_2, .int .i64 a0_3]] w fun e w' => e = .returned (.tuple #[.string r1, .int .i64 r2]) ∧ Below w.heap.size w w' :=
  (rput_calls ⟨a0_0, a0_1, a0_2, a0_3⟩ w).mono fun e w' ⟨he, hw⟩ => ⟨by rw [he, putPair_res h], hw⟩

theorem g_skiffref1_GetEntry (a0 : ByteArray) (r1 r2 r3 r4 r5 : Int) (w : World) (h : some (getTup (bl a0)) = some (r1, r2, r3, r4, r5)) :
    Calls Try.prog 68 #[.string a0] w fun e w' => e = .returned (.tuple #[.agg #[.int .i64 r1, .int .i64 r2, .int .i64 r3, .int .i64 r4], .int .i64 r5]) ∧ Below w.heap.size w w' :=
  (rget_calls a0 w).mono fun e w' ⟨he, hw⟩ => ⟨by rw [he, getTup_res h], hw⟩

theorem g_skiffref1_RecordMay (a0_0 a0_1 a0_2 a0_3 : Int) (r : Bool) (w : World) (h : some (recMay ⟨a0_0, a0_1, a0_2, a0_3⟩) = some r) :
    Calls Try.prog 44 #[.agg #[.int .i64 a0_0, .int .i64 a0_1, .int .i64 a0_2, .int .i64 a0_3]] w fun e w' => e = .returned (.bool r) ∧ Below w.heap.size w w' :=
  (recordMay_calls ⟨a0_0, a0_1, a0_2, a0_3⟩ w).mono fun e w' ⟨he, hw⟩ => ⟨by rw [he, Option.some.inj h], hw⟩

theorem g_entry_May (a0_0 a0_1 a0_2 a0_3 : Int) (r : Bool) (w : World) (h : some (recMay ⟨a0_0, a0_1, a0_2, a0_3⟩) = some r) :
    Calls Try.prog 59 #[.agg #[.int .i64 a0_0, .int .i64 a0_1, .int .i64 a0_2, .int .i64 a0_3]] w fun e w' => e = .returned (.bool r) ∧ Below w.heap.size w w' :=
  (may_calls ⟨a0_0, a0_1, a0_2, a0_3⟩ w).mono fun e w' ⟨he, hw⟩ => ⟨by rw [he, Option.some.inj h], hw⟩

end Go.Proofs.Ytmidohjfajbpmaa
end
section
set_option linter.unusedVariables false
set_option linter.unusedSimpArgs false
namespace Go.Proofs.YtmidohjfajbpmaaW.PrintWords
open Go.RowKit

/-- A fact that the walk's simp doesn't look into. -/
structure Aside0 (p : Prop) : Prop where mk :: (out : p)
/-- The world is the old one, some orders having been drawn. -/
structure Drawn0 (w w' : World) : Prop where mk :: (out : ∃ n, w' = w.drewN n)
theorem Drawn0.refl (w : World) : Drawn0 w w := ⟨⟨0, rfl⟩⟩
theorem Drawn0.step {w w' : World} (h : Drawn0 w w') (n : Nat) : Drawn0 w (w'.drewN n) := by
  obtain ⟨m, rfl⟩ := h
  exact ⟨⟨m + n, World.drewN_drewN ..⟩⟩
theorem Drawn0.below {w w' : World} (h : Drawn0 w w') : Below w.heap.size w w' := by
  obtain ⟨n, rfl⟩ := h
  induction n with
  | zero => exact Below.refl _ _
  | succ n ih => rw [← World.drew_drewN]; exact ih.drew

/-! ### 2. The world -/
theorem below_alloc {w W : World} (h : Below w.heap.size w W) (o : Obj) : Below w.heap.size w (W.alloc o) := h.alloc h.size o
theorem below_drew {B : Nat} {w W : World} (h : Below B w W) : Below B w W.drew := ⟨h.os, h.tape, h.output, h.size, h.block⟩
theorem pw_below_drewN {B : Nat} {w W : World} (h : Below B w W) (n : Nat) : Below B w (W.drewN n) := ⟨h.os, h.tape, h.output, h.size, h.block⟩
theorem below_then {B : Nat} {w w1 w2 : World} (h : Below B w w1) (hB : B ≤ w1.heap.size) (k : Below w1.heap.size w1 w2) : Below B w w2 :=
  h.trans ⟨k.os, k.tape, k.output, k.size, fun i hi => k.block i (Nat.lt_of_lt_of_le hi hB)⟩
theorem grown_of_below {w w1 : World} (h : Below w.heap.size w w1) (row : Option Nat) : w.grownBy w1 row := ⟨h.os, h.tape, h.output, h.size, fun i hi _ => h.block i hi⟩
theorem pw_cell_below {w w1 : World} (h : Below w.heap.size w w1) {a : Addr} {v : Value} (hc : w.cell? a = some v) : w1.cell? a = some v := (h.cell (World.block_lt_of_cell? w a hc)).trans hc

theorem add_plain (g j : Nat) : (⟨g, 0, none⟩ : Addr).add j = ⟨g, j, none⟩ := by unfold Addr.add; split <;> simp_all

/-! ### 3. A slice of whole numbers that is read; nil, empty and other slices alike -/
def ReadsInt (w : World) (k : IntKind) (A : Option Addr) (n : Nat) (xs : List Int) : Prop :=
  xs.length = n ∧ n ≤ 9223372036854775807 ∧ (0 < n → ∃ ad, A = some ad ∧ ∀ j, j < n → w.cell? (ad.add j) = some (.int k (xs.getD j 0)))
theorem ReadsInt.below {w w1 : World} {k : IntKind} {A : Option Addr} {n : Nat} {xs : List Int} (h : ReadsInt w k A n xs) (hb : Below w.heap.size w w1) : ReadsInt w1 k A n xs :=
  ⟨h.1, h.2.1, fun hn => by
    obtain ⟨ad, e, hc⟩ := h.2.2 hn
    exact ⟨ad, e, fun j hj => pw_cell_below hb (hc j hj)⟩⟩

/-! ### 4. A row of the call's own -/
theorem own_nil (W : World) (base : Nat) (e : TypeId) (size : Nat) : W.ownsRow base e size (.slice none 0 0) 0 [] := ⟨by simp, .inl ⟨rfl, rfl⟩⟩
theorem own_base {w : World} {base : Nat} {e : TypeId} {size n : Nat} {v : Value} {xs : List Value} (h : w.ownsRow base e size v n xs) (k : Nat) (hk : v.ownBlock = some k) : base ≤ k := by
  rcases h.2 with ⟨rfl, _⟩ | ⟨g, cap, cur, rfl, hb, _⟩
  · simp [Value.ownBlock] at hk
  · have : g = k := by simpa [Value.ownBlock] using hk
    omega
theorem own_lt {w : World} {base : Nat} {e : TypeId} {size n : Nat} {v : Value} {xs : List Value} (h : w.ownsRow base e size v n xs) (k : Nat) (hk : v.ownBlock = some k) : k < w.heap.size := by
  rcases h.2 with ⟨rfl, _⟩ | ⟨g, cap, cur, rfl, hb, hh, _⟩
  · simp [Value.ownBlock] at hk
  · have : g = k := by simpa [Value.ownBlock] using hk
    subst this
    exact (Array.getElem?_eq_some_iff.1 hh).1
theorem pw_own_below {w w1 : World} {base : Nat} {e : TypeId} {size n : Nat} {v : Value} {xs : List Value} (h : w.ownsRow base e size v n xs) (hb : Below w.heap.size w w1) : w1.ownsRow base e size v n xs :=
  h.kept (grown_of_below hb none) (by cases v.ownBlock <;> simp)
/-- The shape of whatever is owned. -/
theorem own_slice {w : World} {base n : Nat} {e : TypeId} {size : Nat} {v : Value} {xs : List Value} (h : w.ownsRow base e size v n xs) : ∃ A c, v = .slice A n c := by
  rcases h.2 with ⟨rfl, rfl⟩ | ⟨g, cap, cur, rfl, _⟩
  · exact ⟨none, 0, rfl⟩
  · exact ⟨_, cap, rfl⟩

/-! ### 5. append(v, x): behind 'at_builtin'; the goal's world is 'W.alloc' of the variadic's box -/
section
variable {P : Program} {ops : Array Oper} {rest : List Oper} {o : Oper} {a : Act} {Q : Exit → Act → World → Prop}

end

/-! ### 6. make([]T, n), n an Int; a literal -/
section
variable {P : Program}
end

/-! ### 8. append(v, ys...): ys a slice that is read, nil let in; behind 'at_builtin' -/
section
variable {P : Program} {ops : Array Oper} {rest : List Oper} {o : Oper} {a : Act} {Q : Exit → Act → World → Prop}
end

/-! ### 9. []byte(s): a slice that is read (its row bears a conversion's mark: no row of one's own); cuts of a slice that is read -/
def bytesOf (s : ByteArray) : List Int := s.data.toList.map fun b => (b.toNat : Int)
/-! ### 10. Rounds: more rounds give the same answer; what ends gives a number of rounds -/
/-- Where the first answers, the second answers the same. -/
def LeO {α : Type} (a b : Option α) : Prop := ∀ r, a = some r → b = some r
theorem LeO.refl {α : Type} (a : Option α) : LeO a a := fun _ h => h
theorem LeO.none {α : Type} (b : Option α) : LeO Option.none b := fun _ h => by cases h
theorem LeO.ite {α : Type} {c : Prop} [Decidable c] {a a' b b' : Option α} (h : LeO a a') (k : LeO b b') : LeO (if c then a else b) (if c then a' else b') := by
  split
  · exact h
  · exact k
theorem LeO.bind {α β : Type} {a a' : Option α} {f f' : α → Option β} (h : LeO a a') (k : ∀ x, LeO (f x) (f' x)) : LeO (a.bind f) (a'.bind f') := by
  intro r hr
  obtain ⟨x, hx, hf⟩ := Option.bind_eq_some_iff.1 hr
  exact Option.bind_eq_some_iff.2 ⟨x, h x hx, k x r hf⟩
theorem LeO.map {α β : Type} {a a' : Option α} (f : α → β) (h : LeO a a') : LeO (a.map f) (a'.map f) := by
  intro r hr
  obtain ⟨x, hx, hf⟩ := Option.map_eq_some_iff.1 hr
  exact Option.map_eq_some_iff.2 ⟨x, h x hx, hf⟩
/-! ### 11. Rows of elements of several cells (structs): read, made. R: what an element's cells say ('RepItem w': printed for each type) -/
def Reps {α : Type} (R : α → List Value → Prop) (size : Nat) (ps : List α) (cs : List Value) : Prop :=
  cs.length = ps.length * size ∧ ∀ j p, ps[j]? = some p → R p ((cs.drop (j * size)).take size)
theorem Reps.none {α : Type} (R : α → List Value → Prop) (size : Nat) : Reps R size [] [] := ⟨by simp, fun j p h => by simp at h⟩
theorem Reps.snoc {α : Type} {R : α → List Value → Prop} {size : Nat} {ps : List α} {cs c : List Value} {p : α} (h : Reps R size ps cs) (hp : R p c) (hc : c.length = size) : Reps R size (ps ++ [p]) (cs ++ c) := by
  refine ⟨by rw [List.length_append, h.1, hc, List.length_append, List.length_singleton, Nat.add_mul, Nat.one_mul], fun j q hq => ?_⟩
  rcases Nat.lt_or_ge j ps.length with hj | hj
  · rw [List.getElem?_append_left hj] at hq
    have h1 : j * size + size ≤ cs.length := by rw [h.1, ← Nat.succ_mul]; exact Nat.mul_le_mul_right _ hj
    have h2 := h.2 j q hq
    rw [List.drop_append_of_le_length (by omega), List.take_append_of_le_length (by rw [List.length_drop]; omega)]
    exact h2
  · have hj' : j = ps.length := by
      have := (List.getElem?_eq_some_iff.1 hq).1
      rw [List.length_append, List.length_singleton] at this
      omega
    subst hj'
    have hq' : p = q := by simpa using hq
    subst hq'
    rw [← h.1, List.drop_left, ← hc, List.take_length]
    exact hp
theorem Reps.imp_ {α : Type} {R R' : α → List Value → Prop} {size : Nat} {ps : List α} {cs : List Value} (h : Reps R size ps cs) (hR : ∀ p c, R p c → R' p c) : Reps R' size ps cs := ⟨h.1, fun j p hj => hR _ _ (h.2 j p hj)⟩

def ReadsRow {α : Type} (R : α → List Value → Prop) (size : Nat) (w : World) (A : Option Addr) (n : Nat) (ps : List α) : Prop :=
  ps.length = n ∧ n ≤ 9223372036854775807 ∧ (0 < n → ∃ ad, A = some ad ∧ ∀ j p, ps[j]? = some p → ∃ c, c.length = size ∧ R p c ∧ ∀ i u, c[i]? = some u → w.cell? (ad.add (j * size + i)) = some u)
theorem ReadsRow.get_ {α : Type} {R : α → List Value → Prop} {size : Nat} {w : World} {A : Option Addr} {n : Nat} {ps : List α} (h : ReadsRow R size w A n ps) (d : α) (i : Int) (h0 : 0 ≤ i) (h1 : i < n) :
    ∃ ad c, A = some ad ∧ c.length = size ∧ R (ps.getD i.toNat d) c ∧ ∀ j u, c[j]? = some u → w.cell? (ad.add (i.toNat * size + j)) = some u := by
  obtain ⟨ad, e, hc⟩ := h.2.2 (by omega)
  have hl : i.toNat < ps.length := by have := h.1; omega
  obtain ⟨c, hs, hr, hcell⟩ := hc i.toNat _ (List.getElem?_eq_getElem hl)
  refine ⟨ad, c, e, hs, ?_, hcell⟩
  rw [List.getD_eq_getElem?_getD, List.getElem?_eq_getElem hl]
  exact hr
theorem ReadsRow.imp_ {α : Type} {R R' : α → List Value → Prop} {size : Nat} {w w1 : World} {A : Option Addr} {n : Nat} {ps : List α} (h : ReadsRow R size w A n ps) (hb : Below w.heap.size w w1) (hR : ∀ p c, R p c → R' p c) : ReadsRow R' size w1 A n ps :=
  ⟨h.1, h.2.1, fun hn => by
    obtain ⟨ad, e, hc⟩ := h.2.2 hn
    refine ⟨ad, e, fun j p hj => ?_⟩
    obtain ⟨c, hs, hr, hcell⟩ := hc j p hj
    exact ⟨c, hs, hR _ _ hr, fun i u hu => pw_cell_below hb (hcell i u hu)⟩⟩
theorem own_reads_row {α : Type} {R : α → List Value → Prop} {w : World} {base n size : Nat} {e : TypeId} {v : Value} {ps : List α} {cs : List Value} (h : w.ownsRow base e size v n cs) (hR : Reps R size ps cs) (hn : ps.length = n) :
    ∃ A c, v = .slice A n c ∧ ReadsRow R size w A n ps := by
  rcases Nat.eq_zero_or_pos n with h0 | h0
  · rcases h.2 with ⟨rfl, rfl⟩ | ⟨g, cap, cur, rfl, _⟩
    · exact ⟨none, 0, rfl, hn, by omega, fun hp => absurd hp (by omega)⟩
    · exact ⟨_, cap, rfl, hn, by omega, fun hp => absurd hp (by omega)⟩
  · obtain ⟨g, cap, rfl, _, _⟩ := h.form h0
    have hm : n ≤ 9223372036854775807 := by
      rcases h.2 with ⟨_, h1⟩ | ⟨g', cap', cur, he, _, _, h1, h2, _⟩
      · omega
      · simp only [maxLen] at h2
        omega
    refine ⟨_, cap, rfl, hn, hm, fun _ => ⟨_, rfl, fun j p hj => ⟨(cs.drop (j * size)).take size, ?_, hR.2 j p hj, fun i u hu => ?_⟩⟩⟩
    · have hjl := (List.getElem?_eq_some_iff.1 hj).1
      have h1 : j * size + size ≤ cs.length := by rw [hR.1, ← Nat.succ_mul]; exact Nat.mul_le_mul_right _ hjl
      rw [List.length_take, List.length_drop]
      omega
    · refine h.cells (g := g) rfl _ u ?_
      rw [List.getElem?_take] at hu
      split at hu
      · rw [List.getElem?_drop] at hu
        exact hu
      · cases hu
/-- A field's address as_ the walk spells it. -/
theorem add_field (ad : Addr) (m j : Nat) (hj : 0 < j) : ad.add (m + j) = ⟨(ad.add m).block, (ad.add m).off + j, none⟩ := by
  unfold Addr.add
  by_cases hm : m = 0
  · subst hm
    simp [Nat.ne_of_gt hj]
  · simp [hm, Nat.add_assoc]

section
variable {P : Program} {ops : Array Oper} {rest : List Oper} {o : Oper} {a : Act} {Q : Exit → Act → World → Prop}
/-- append(v, x), x of several cells; behind 'at_builtin'; the goal's world is 'W.alloc' of the variadic's box. -/
theorem print_append_cells {w0 W : World} (base : Nat) (hgd : o.guard = none) (s x : Operand) (t e : TypeId) (z : Value) (size bytes : Nat)
    (ho : o.op = .call { callee := .builtin .append, args := #[s, x], argTypes := #[t, t] })
    (ht : P.underlying t = some (.slice e)) (hinfo : (P.info? e).map (fun i => (i.zero, i.size, i.bytes)) = some (some z, size, bytes)) (hz : z.cells.size = size) (hs0 : 0 < size) (hb0 : 0 < bytes)
    (v : Value) (n : Nat) (xs ys : List Value) (hs : a.eval s = v) (hx : a.eval x = .slice (some ⟨W.heap.size, 0, none⟩) 1 1) (hys : ys.length = size) (h1 : ∀ u ∈ ys, u.oneCell' = true)
    (HO : W.ownsRow base e size v n xs) (HB : Below base w0 W) (hbase : base ≤ W.heap.size) (hl : (n + 1) * bytes ≤ 140737488355328)
    (h : ∀ v1 w1, w1.ownsRow base e size v1 (n + 1) (xs ++ ys) → Below base w0 w1 → W.grownBy w1 v.ownBlock → (v1.ownBlock = v.ownBlock ∨ ∃ b, v1.ownBlock = some b ∧ W.heap.size ≤ b) → wpList P ops Q rest (a.put o.dst v1) w1) :
    wpList P ops Q (o :: rest) a (W.alloc (.cells ys.toArray e)) := by
  obtain ⟨i0, hi, hzz⟩ := Option.map_eq_some_iff.1 hinfo
  simp only [Prod.mk.injEq] at hzz
  obtain ⟨hz0, hz1, hz2⟩ := hzz
  have hlen : n + 1 ≤ 140737488355328 := Nat.le_trans (Nat.le_mul_of_pos_right _ hb0) hl
  refine wpList_append_own_at (W.alloc (.cells ys.toArray e)) hgd s x t ho base e i0 z size bytes ht hi hz0 hz1 hz2 hz hs0 v n xs hs (HO.alloc _) ⟨W.heap.size, 0, none⟩ 1 1 ys hx (by rw [hys]; simp)
    (by simpa using World.news_of_block (cs := ys.toArray) (t := e) (fr := (0, 0)) (heap_alloc_new W (.cells ys.toArray e))) h1 (by simp only [maxLen]; omega) hl (by simp; omega) ?_
  intro v1 w1 hown hg _ hat
  refine h v1 w1 hown ((HB.alloc hbase _).grown hg (by simp; omega) (own_base HO)) (World.grownBy.trans (World.grownBy_alloc W _ _) hg) ?_
  rcases hat with hat | hat
  · exact .inl hat
  · exact .inr ⟨_, hat, by simp⟩
end

/-! ### 12. A block of one's own that is a state: its cells, what a store leaves -/
theorem own_ne {w : World} {base : Nat} {e t : TypeId} {size n g : Nat} {v : Value} {xs : List Value} {cs : Array Value} (h : w.ownsRow base e size v n xs) (hg : w.heap[g]? = some (.cells cs t (0, 0))) (hne : e ≠ t) : some g ≠ v.ownBlock := by
  rcases h.2 with ⟨rfl, _⟩ | ⟨g', cap, cur, rfl, _, hh, _⟩
  · simp [Value.ownBlock]
  · intro he
    have : g = g' := by simpa [Value.ownBlock] using he
    subst this
    rw [hg] at hh
    injection hh with hh
    injection hh with _ ht
    exact hne ht.symm
theorem blk_set {w : World} {g : Nat} {t : TypeId} {cs : Array Value} (h : w.heap[g]? = some (.cells cs t (0, 0))) (i : Nat) (u : Value) : (w.setCell ⟨g, i, none⟩ u).heap[g]? = some (.cells (cs.setIfInBounds i u) t (0, 0)) := by
  simp [World.setCell, Array.getElem?_modify, h]
theorem blk_far {w : World} {g : Nat} {t : TypeId} {cs : Array Value} (h : w.heap[g]? = some (.cells cs t (0, 0))) {p : Addr} (hp : g ≠ p.block) (u : Value) : (w.setCell p u).heap[g]? = some (.cells cs t (0, 0)) := (Below.heap_setCell w p u g hp).trans h
theorem blk_lt {w : World} {g : Nat} {o : Obj} (h : w.heap[g]? = some o) : g < w.heap.size := (Array.getElem?_eq_some_iff.1 h).1
theorem blk_cell {w : World} {g : Nat} {t : TypeId} {cs : Array Value} (h : w.heap[g]? = some (.cells cs t (0, 0))) (i : Nat) : w.cell? ⟨g, i, none⟩ = cs[i]? := cell_of_row w g i cs t (0, 0) h
theorem blk_frozen {w : World} {g : Nat} {t : TypeId} {cs : Array Value} (h : w.heap[g]? = some (.cells cs t (0, 0))) (i : Nat) : w.frozen? ⟨g, i, none⟩ = false := by simp [World.frozen?, h]
theorem blk_grown {w w1 : World} {g : Nat} {o : Obj} {row : Option Nat} (h : w.heap[g]? = some o) (hg : w.grownBy w1 row) (hne : some g ≠ row) : w1.heap[g]? = some o := (hg.block g (blk_lt h) hne).trans h
/-! ### 13. Two states at once: what a call on the state at block g (its row before: 'row') has turned -/
def KeepBut (w w' : World) (g : Nat) (row : Option Nat) : Prop := w.heap.size ≤ w'.heap.size ∧ ∀ i, i < w.heap.size → i ≠ g → some i ≠ row → w'.heap[i]? = w.heap[i]?
theorem KeepBut.refl (w : World) (g : Nat) (row : Option Nat) : KeepBut w w g row := ⟨Nat.le_refl _, fun _ _ _ _ => rfl⟩
/-! ### 14. append as_ one step of a region that draws its order: for 'go_region_law' (and a region walked by hand) -/
section
variable {P : Program} {ops : Array Oper} {o : Oper} {a : Act} {Q : Exit → Act → World → Prop} {K : Act → World → Prop}
end
/-! ### 15. A row's base may be lowered -/
theorem own_weaken {w : World} {base base' : Nat} {e : TypeId} {size n : Nat} {v : Value} {xs : List Value} (h : w.ownsRow base e size v n xs) (hb : base' ≤ base) : w.ownsRow base' e size v n xs := by
  obtain ⟨h1, h2⟩ := h
  refine ⟨h1, ?_⟩
  rcases h2 with h2 | ⟨g, cap, cur, rfl, hg, r⟩
  · exact .inl h2
  · exact .inr ⟨g, cap, cur, rfl, Nat.le_trans hb hg, r⟩
/-! ### 16. Parts 3 to 9 for ANY element of one cell: 'enc' (Value.int k, Value.string, Value.bool), a default 'd' -/
section
variable {α : Type} {enc : α → Value} {d : α}
def rdOf (d : α) (xs : List α) (i : Int) : α := xs.getD i.toNat d
def ReadsOf (enc : α → Value) (d : α) (w : World) (A : Option Addr) (n : Nat) (xs : List α) : Prop :=
  xs.length = n ∧ n ≤ 9223372036854775807 ∧ (0 < n → ∃ ad, A = some ad ∧ ∀ j, j < n → w.cell? (ad.add j) = some (enc (xs.getD j d)))
theorem ReadsOf.below {w w1 : World} {A : Option Addr} {n : Nat} {xs : List α} (h : ReadsOf enc d w A n xs) (hb : Below w.heap.size w w1) : ReadsOf enc d w1 A n xs :=
  ⟨h.1, h.2.1, fun hn => by
    obtain ⟨ad, e, hc⟩ := h.2.2 hn
    exact ⟨ad, e, fun j hj => pw_cell_below hb (hc j hj)⟩⟩
end
section
variable {α : Type} {P : Program} {ops : Array Oper} {rest : List Oper} {o : Oper} {a : Act} {Q : Exit → Act → World → Prop}
end

/-! ### 18. A block behind a new one; behind a draw -/
theorem blk_alloc {w : World} {g : Nat} {o : Obj} (h : w.heap[g]? = some o) (o' : Obj) : (w.alloc o').heap[g]? = some o := (Below.heap_alloc w o' g (blk_lt h)).trans h
theorem blk_drew {w : World} {g : Nat} {o : Obj} (h : w.heap[g]? = some o) : w.drew.heap[g]? = some o := h
theorem blk_drewN {w : World} {g : Nat} {o : Obj} (h : w.heap[g]? = some o) (n : Nat) : (w.drewN n).heap[g]? = some o := h
theorem blk_below {w w1 : World} {g : Nat} {o : Obj} (h : w.heap[g]? = some o) (hb : Below w.heap.size w w1) : w1.heap[g]? = some o := (hb.block g (blk_lt h)).trans h
theorem blk_new (w : World) (o : Obj) : (w.alloc o).heap[w.heap.size]? = some o := heap_alloc_new w o
/-! ### 19. Results that lie in memory beside others -/
section
variable {P : Program}
theorem results_ct {fn : Func} {p u : Tmp} {ty : TypeId} (h : fn.results = #[.cell p ty, .tmp u]) (tmps : Array Value) (w : World) (g : Nat) (t : TypeId) (cs : Array Value) (fr : Nat × Nat) (d : TypeDesc)
    (hp : tmps.getD p undef = .pointer (some ⟨g, 0, none⟩)) (hg : w.heap[g]? = some (.cells cs t fr))
    (hu : P.underlying ty = some d) (hd : (match d with | .struct _ | .array _ _ => true | _ => false) = true) (hi : (P.info? ty).map (·.size) = some cs.size) :
    (results fn tmps).run P w = .ok (.tuple #[.agg cs, tmps.getD u undef]) w := by
  have hp' : tmps[p]?.getD undef = .pointer (some ⟨g, 0, none⟩) := by simpa using hp
  simp [results, h, hp', asAddr, run_loadVar_row w g t ty cs fr d hg hu hd hi]
theorem results_ctt {fn : Func} {p u v : Tmp} {ty : TypeId} (h : fn.results = #[.cell p ty, .tmp u, .tmp v]) (tmps : Array Value) (w : World) (g : Nat) (t : TypeId) (cs : Array Value) (fr : Nat × Nat) (d : TypeDesc)
    (hp : tmps.getD p undef = .pointer (some ⟨g, 0, none⟩)) (hg : w.heap[g]? = some (.cells cs t fr))
    (hu : P.underlying ty = some d) (hd : (match d with | .struct _ | .array _ _ => true | _ => false) = true) (hi : (P.info? ty).map (·.size) = some cs.size) :
    (results fn tmps).run P w = .ok (.tuple #[.agg cs, tmps.getD u undef, tmps.getD v undef]) w := by
  have hp' : tmps[p]?.getD undef = .pointer (some ⟨g, 0, none⟩) := by simpa using hp
  simp [results, h, hp', asAddr, run_loadVar_row w g t ty cs fr d hg hu hd hi]
end
/-! ### 20. Rows of elements of any kind: R is what an element's cells say -/
theorem own_le {w : World} {base n m c size : Nat} {e : TypeId} {A : Option Addr} {xs : List Value} (h : w.ownsRow base e size (.slice A m c) n xs) : m ≤ c := by
  rcases h.2 with ⟨he, _⟩ | ⟨g, cap, cur, he, _, _, hnc, _⟩
  · injection he with _ h2 h3
    omega
  · injection he with _ h2 h3
    omega
def OwnRow {α : Type} (R : α → List Value → Prop) (e : TypeId) (size : Nat) (w : World) (base : Nat) (v : Value) (ps : List α) : Prop :=
  ∃ inner, w.ownsRow base e size v ps.length inner ∧ Reps R size ps inner
section
variable {α : Type} {R R' : α → List Value → Prop} {e : TypeId} {size : Nat} {w w1 : World} {base : Nat} {v : Value} {ps : List α}
theorem OwnRow.none_ (R : α → List Value → Prop) (e : TypeId) (size : Nat) (w : World) (base : Nat) : OwnRow R e size w base (.slice none 0 0) [] := ⟨[], own_nil _ _ _ _, Reps.none _ _⟩
theorem OwnRow.imp_ (h : OwnRow R e size w base v ps) (hR : ∀ p c, R p c → R' p c) : OwnRow R' e size w base v ps := by
  obtain ⟨inner, ho, hr⟩ := h
  exact ⟨inner, ho, hr.imp_ hR⟩
theorem OwnRow.below (h : OwnRow R e size w base v ps) (hb : Below w.heap.size w w1) : OwnRow R e size w1 base v ps := by
  obtain ⟨inner, ho, hr⟩ := h
  exact ⟨inner, pw_own_below ho hb, hr⟩
theorem OwnRow.reads (h : OwnRow R e size w base v ps) : ∃ A c, v = .slice A ps.length c ∧ ps.length ≤ c ∧ ReadsRow R size w A ps.length ps := by
  obtain ⟨inner, ho, hr⟩ := h
  obtain ⟨A, c, rfl, hrow⟩ := own_reads_row ho hr rfl
  exact ⟨A, c, rfl, own_le ho, hrow⟩
theorem OwnRow.ne_block (h : OwnRow R e size w base v ps) {g : Nat} {t : TypeId} {cells : Array Value} (hb : w.heap[g]? = some (.cells cells t (0, 0))) (ht : e ≠ t) : some g ≠ v.ownBlock := by
  obtain ⟨inner, ho, hr⟩ := h
  exact own_ne ho hb ht
end
section
variable {P : Program} {ops : Array Oper} {rest : List Oper} {o : Oper} {a : Act} {Q : Exit → Act → World → Prop} {α : Type} {R : α → List Value → Prop}
end
section
variable {P : Program} {ops : Array Oper} {o : Oper} {a : Act} {Q : Exit → Act → World → Prop} {K : Act → World → Prop} {α : Type} {R : α → List Value → Prop}
end
/-- What is read as_ a row has its cells one behind the other. -/
theorem ReadsRow.inner_ {α : Type} {R : α → List Value → Prop} {size : Nat} {w : World} {ad : Addr} {n : Nat} {ps : List α} (h : ReadsRow R size w (some ad) n ps) :
    ∃ inner, Reps R size ps inner ∧ ∀ j u, inner[j]? = some u → w.cell? (ad.add j) = some u := by
  have key : ∀ m, m ≤ ps.length → ∃ inner, Reps R size (ps.take m) inner ∧ ∀ j u, inner[j]? = some u → w.cell? (ad.add j) = some u := by
    intro m
    induction m with
    | zero => exact fun _ => ⟨[], Reps.none _ _, fun j u hu => by simp at hu⟩
    | succ m ih =>
      intro hm
      obtain ⟨inner, hr, hc⟩ := ih (by omega)
      obtain ⟨ad', he, hcell⟩ := h.2.2 (by have := h.1; omega)
      injection he with he
      subst he
      obtain ⟨c, hcl, hp, hcc⟩ := hcell m _ (List.getElem?_eq_getElem (show m < ps.length by omega))
      refine ⟨inner ++ c, ?_, fun j u hu => ?_⟩
      · rw [List.take_succ_eq_append_getElem (show m < ps.length by omega)]
        exact hr.snoc hp hcl
      · have hil : inner.length = m * size := by rw [hr.1, List.length_take, Nat.min_eq_left (by omega)]
        rcases Nat.lt_or_ge j inner.length with hj | hj
        · rw [List.getElem?_append_left hj] at hu
          exact hc j u hu
        · rw [List.getElem?_append_right hj] at hu
          have := hcc (j - inner.length) u hu
          rwa [hil, Nat.add_sub_cancel' (by omega)] at this
  obtain ⟨inner, hr, hc⟩ := key ps.length (Nat.le_refl _)
  rw [List.take_length] at hr
  exact ⟨inner, hr, hc⟩
/-! ### 21. Cuts of a slice that came in, lengths spelled as_ the lists' -/
section
variable {α : Type} {P : Program}
end

/-! ### 22. append([]byte, s...), s a string; behind 'at_builtin'. (No word on where the new row lies: two rows of bytes at once don't go by it.) -/
section
variable {P : Program} {ops : Array Oper} {rest : List Oper} {o : Oper} {a : Act} {Q : Exit → Act → World → Prop}
end
/-! ### 23. KINDS: what a value's cells say, read (K) and made (M), kind by kind; every mover proved once -/
/-- ok: which blocks the rows inside may be ('not the row that is being written'). -/
structure Kd (α : Type) where
  sz : Nat
  E : List Nat
  K : World → α → List Value → Prop
  M : World → Nat → (Nat → Prop) → α → List Value → Prop
  K_len : ∀ {w x cs}, K w x cs → cs.length = sz
  K_one : ∀ {w x cs}, K w x cs → ∀ u ∈ cs, u.oneCell' = true
  K_below : ∀ {w w1 : World} {x cs}, Below w.heap.size w w1 → K w x cs → K w1 x cs
  K_of_M : ∀ {w base ok x cs}, M w base ok x cs → K w x cs
  M_mono : ∀ {w base ok ok' x cs}, (∀ k, ok k → ok' k) → M w base ok x cs → M w base ok' x cs
  M_bound : ∀ {w : World} {base ok x cs}, M w base ok x cs → M w base (fun k => ok k ∧ base ≤ k ∧ k < w.heap.size ∧ ∃ q, q ∈ E ∧ ∃ cells, w.heap[k]? = some (.cells cells q (0, 0))) x cs
  M_move : ∀ {w w1 : World} {base ok x cs}, (∀ k, ok k → w1.heap[k]? = w.heap[k]?) → M w base ok x cs → M w1 base ok x cs
  M_lower : ∀ {w base base' ok x cs}, base' ≤ base → M w base ok x cs → M w base' ok x cs

theorem own_move {w w1 : World} {base : Nat} {e : TypeId} {size n : Nat} {v : Value} {xs : List Value} (h : w.ownsRow base e size v n xs) (hm : ∀ k, v.ownBlock = some k → w1.heap[k]? = w.heap[k]?) : w1.ownsRow base e size v n xs := by
  obtain ⟨h1, h2⟩ := h
  refine ⟨h1, ?_⟩
  rcases h2 with h2 | ⟨g, cap, cur, rfl, hg, hh, r⟩
  · exact .inl h2
  · exact .inr ⟨g, cap, cur, rfl, hg, (hm g (by simp [Value.ownBlock])).trans hh, r⟩
theorem own_typed {w : World} {base : Nat} {e : TypeId} {size n : Nat} {v : Value} {xs : List Value} (h : w.ownsRow base e size v n xs) (k : Nat) (hk : v.ownBlock = some k) : ∃ cells, w.heap[k]? = some (.cells cells e (0, 0)) := by
  rcases h.2 with ⟨rfl, _⟩ | ⟨g, cap, cur, rfl, hg, hh, r⟩
  · simp [Value.ownBlock] at hk
  · have : g = k := by simpa [Value.ownBlock] using hk
    subst this
    exact ⟨cur, hh⟩

namespace Kd
/-- A row of elements that is read. -/
def C {α : Type} (d : Kd α) (w : World) (A : Option Addr) (n : Nat) (xs : List α) : Prop := ReadsRow (d.K w) d.sz w A n xs
/-- A row of elements (type e) of the call's own; the elements' rows are not this one. -/
def R {α : Type} (d : Kd α) (e : Nat) (w : World) (base : Nat) (ok : Nat → Prop) (v : Value) (xs : List α) : Prop :=
  (∀ k, v.ownBlock = some k → ok k) ∧ OwnRow (d.M w base (fun k => ok k ∧ some k ≠ v.ownBlock)) e d.sz w base v xs
section
variable {α : Type} {d : Kd α} {e : Nat} {w w1 : World} {base : Nat} {ok ok' : Nat → Prop} {v : Value} {xs : List α}
theorem C_below {A : Option Addr} {n : Nat} (h : d.C w A n xs) (hb : Below w.heap.size w w1) : d.C w1 A n xs := ReadsRow.imp_ h hb (fun _ _ hp => d.K_below hb hp)
theorem R_nil (d : Kd α) (e : Nat) (w : World) (base : Nat) (ok : Nat → Prop) : d.R e w base ok (.slice none 0 0) [] := ⟨fun k hk => by simp [Value.ownBlock] at hk, OwnRow.none_ _ _ _ _ _⟩
theorem R_mono (h : d.R e w base ok v xs) (hok : ∀ k, ok k → ok' k) : d.R e w base ok' v xs := ⟨fun k hk => hok k (h.1 k hk), h.2.imp_ (fun _ _ hp => d.M_mono (fun k hk => ⟨hok k hk.1, hk.2⟩) hp)⟩
theorem R_bound (h : d.R e w base ok v xs) : d.R e w base (fun k => ok k ∧ base ≤ k ∧ k < w.heap.size ∧ ∃ q, q ∈ e :: d.E ∧ ∃ cells, w.heap[k]? = some (.cells cells q (0, 0))) v xs := by
  obtain ⟨h0, inner, ho, hr⟩ := h
  refine ⟨fun k hk => ?_, inner, ho, hr.imp_ (fun _ _ hp => d.M_mono (fun k hk => ?_) (d.M_bound hp))⟩
  · obtain ⟨cells, hc⟩ := own_typed ho k hk
    exact ⟨h0 k hk, own_base ho k hk, own_lt ho k hk, e, List.mem_cons_self, cells, hc⟩
  · obtain ⟨⟨h1, h2⟩, h3, h4, q, hq, hc⟩ := hk
    exact ⟨⟨h1, h3, h4, q, List.mem_cons_of_mem _ hq, hc⟩, h2⟩
theorem R_move (h : d.R e w base ok v xs) (hm : ∀ k, ok k → w1.heap[k]? = w.heap[k]?) : d.R e w1 base ok v xs := by
  obtain ⟨h0, inner, ho, hr⟩ := h
  exact ⟨h0, inner, own_move ho (fun k hk => hm k (h0 k hk)), hr.imp_ (fun _ _ hp => d.M_move (fun k hk => hm k hk.1) hp)⟩
theorem R_lower {base' : Nat} (h : d.R e w base ok v xs) (hb : base' ≤ base) : d.R e w base' ok v xs := by
  obtain ⟨h0, inner, ho, hr⟩ := h
  exact ⟨h0, inner, own_weaken ho hb, hr.imp_ (fun _ _ hp => d.M_lower hb hp)⟩
/-- Any mover: what is ok, and a block of w's, stays. -/
theorem R_step (h : d.R e w base ok v xs) (hm : ∀ k, ok k → k < w.heap.size → w1.heap[k]? = w.heap[k]?) : d.R e w1 base ok v xs :=
  R_mono (R_move (R_bound h) (fun k hk => hm k hk.1 hk.2.2.1)) (fun _ hk => hk.1)
theorem M_step {x : α} {cs : List Value} (h : d.M w base ok x cs) (hm : ∀ k, ok k → k < w.heap.size → w1.heap[k]? = w.heap[k]?) : d.M w1 base ok x cs :=
  d.M_mono (fun _ hk => hk.1) (d.M_move (fun k hk => hm k hk.1 hk.2.2.1) (d.M_bound h))
theorem R_below (h : d.R e w base ok v xs) (hb : Below w.heap.size w w1) : d.R e w1 base ok v xs := R_step h (fun k _ hk => hb.block k hk)
theorem M_below {x : α} {cs : List Value} (h : d.M w base ok x cs) (hb : Below w.heap.size w w1) : d.M w1 base ok x cs := M_step h (fun k _ hk => hb.block k hk)
/-- A store into another block. -/
theorem R_far (h : d.R e w base ok v xs) {p : Addr} (hok : ∀ k, ok k → k ≠ p.block) (u : Value) : d.R e (w.setCell p u) base ok v xs := R_step h (fun k ho _ => Below.heap_setCell w p u k (hok k ho))
/-- By types alone: the rows inside are none of a block of type t. -/
theorem R_types (h : d.R e w base ok v xs) {g t : Nat} {cells : Array Value} (hb : w.heap[g]? = some (.cells cells t (0, 0))) (ht : ∀ q, q ∈ e :: d.E → q ≠ t) : d.R e w base (fun k => ok k ∧ k ≠ g) v xs :=
  R_mono (R_bound h) (fun k hk => ⟨hk.1, by
    obtain ⟨_, _, _, q, hq, cells', hc⟩ := hk
    rintro rfl
    rw [hc] at hb
    injection hb with hb
    injection hb with _ hb
    exact ht q hq hb⟩)
theorem R_reads (h : d.R e w base ok v xs) : ∃ A c, v = .slice A xs.length c ∧ xs.length ≤ c ∧ d.C w A xs.length xs := by
  obtain ⟨A, c, he, hl, hr⟩ := OwnRow.reads h.2
  exact ⟨A, c, he, hl, hr.imp_ (Below.refl _ _) (fun _ _ hp => d.K_of_M hp)⟩
theorem R_slice (h : d.R e w base ok v xs) : ∃ A c, v = .slice A xs.length c := by
  obtain ⟨A, c, he, _⟩ := R_reads h
  exact ⟨A, c, he⟩
theorem R_own (h : d.R e w base ok v xs) : ∃ inner, w.ownsRow base e d.sz v xs.length inner := by
  obtain ⟨_, inner, ho, _⟩ := h
  exact ⟨inner, ho⟩
theorem R_ne (h : d.R e w base ok v xs) {g t : Nat} {cells : Array Value} (hb : w.heap[g]? = some (.cells cells t (0, 0))) (ht : e ≠ t) : some g ≠ v.ownBlock := OwnRow.ne_block h.2 hb ht
end

/-! #### the kinds -/
def scalar {α : Type} (enc : α → Value) (h1 : ∀ x, (enc x).oneCell' = true) : Kd α where
  sz := 1
  E := []
  K := fun _ x cs => cs = [enc x]
  M := fun _ _ _ x cs => cs = [enc x]
  K_len := fun h => by rw [h]; rfl
  K_one := fun h u hu => by
    rw [h] at hu
    rw [List.mem_singleton.1 hu]
    exact h1 _
  K_below := fun _ h => h
  K_of_M := fun h => h
  M_mono := fun _ h => h
  M_bound := fun h => h
  M_move := fun _ h => h
  M_lower := fun _ h => h
def int (k : IntKind) : Kd Int := scalar (Value.int k) (fun _ => rfl)
def bool : Kd Bool := scalar Value.bool (fun _ => rfl)
def string : Kd ByteArray := scalar Value.string (fun _ => rfl)
def slice {α : Type} (e : Nat) (d : Kd α) : Kd (List α) where
  sz := 1
  E := e :: d.E
  K := fun w xs cs => ∃ A c, cs = [.slice A xs.length c] ∧ xs.length ≤ c ∧ d.C w A xs.length xs
  M := fun w base ok xs cs => ∃ v, cs = [v] ∧ d.R e w base ok v xs
  K_len := by
    rintro w x cs ⟨A, c, rfl, _⟩
    rfl
  K_one := by
    rintro w x cs ⟨A, c, rfl, _⟩ u hu
    rw [List.mem_singleton.1 hu]
    rfl
  K_below := by
    rintro w w1 x cs hb ⟨A, c, rfl, hl, hr⟩
    exact ⟨A, c, rfl, hl, C_below hr hb⟩
  K_of_M := by
    rintro w base ok x cs ⟨v, rfl, h⟩
    obtain ⟨A, c, rfl, hl, hr⟩ := R_reads h
    exact ⟨A, c, rfl, hl, hr⟩
  M_mono := by
    rintro w base ok ok' x cs hok ⟨v, rfl, h⟩
    exact ⟨v, rfl, R_mono h hok⟩
  M_bound := by
    rintro w base ok x cs ⟨v, rfl, h⟩
    exact ⟨v, rfl, R_bound h⟩
  M_move := by
    rintro w w1 base ok x cs hm ⟨v, rfl, h⟩
    exact ⟨v, rfl, R_move h hm⟩
  M_lower := by
    rintro w base base' ok x cs hb ⟨v, rfl, h⟩
    exact ⟨v, rfl, R_lower h hb⟩
/-- Two in line. -/
def pair {α β : Type} (a : Kd α) (b : Kd β) : Kd (α × β) where
  sz := a.sz + b.sz
  E := a.E ++ b.E
  K := fun w x cs => ∃ c0 c1, cs = c0 ++ c1 ∧ a.K w x.1 c0 ∧ b.K w x.2 c1
  M := fun w base ok x cs => ∃ c0 c1, cs = c0 ++ c1 ∧ a.M w base ok x.1 c0 ∧ b.M w base ok x.2 c1
  K_len := by
    rintro w x cs ⟨c0, c1, rfl, h0, h1⟩
    rw [List.length_append, a.K_len h0, b.K_len h1]
  K_one := by
    rintro w x cs ⟨c0, c1, rfl, h0, h1⟩ u hu
    rcases List.mem_append.1 hu with hu | hu
    · exact a.K_one h0 u hu
    · exact b.K_one h1 u hu
  K_below := by
    rintro w w1 x cs hb ⟨c0, c1, rfl, h0, h1⟩
    exact ⟨c0, c1, rfl, a.K_below hb h0, b.K_below hb h1⟩
  K_of_M := by
    rintro w base ok x cs ⟨c0, c1, rfl, h0, h1⟩
    exact ⟨c0, c1, rfl, a.K_of_M h0, b.K_of_M h1⟩
  M_mono := by
    rintro w base ok ok' x cs hok ⟨c0, c1, rfl, h0, h1⟩
    exact ⟨c0, c1, rfl, a.M_mono hok h0, b.M_mono hok h1⟩
  M_bound := by
    rintro w base ok x cs ⟨c0, c1, rfl, h0, h1⟩
    refine ⟨c0, c1, rfl, a.M_mono ?_ (a.M_bound h0), b.M_mono ?_ (b.M_bound h1)⟩
    · rintro k ⟨h2, h3, h4, q, hq, hc⟩
      exact ⟨h2, h3, h4, q, List.mem_append_left _ hq, hc⟩
    · rintro k ⟨h2, h3, h4, q, hq, hc⟩
      exact ⟨h2, h3, h4, q, List.mem_append_right _ hq, hc⟩
  M_move := by
    rintro w w1 base ok x cs hm ⟨c0, c1, rfl, h0, h1⟩
    exact ⟨c0, c1, rfl, a.M_move hm h0, b.M_move hm h1⟩
  M_lower := by
    rintro w base base' ok x cs hb ⟨c0, c1, rfl, h0, h1⟩
    exact ⟨c0, c1, rfl, a.M_lower hb h0, b.M_lower hb h1⟩
/-- A Lean structure by its fields. -/
def iso {α β : Type} (d : Kd α) (f : β → α) : Kd β where
  sz := d.sz
  E := d.E
  K := fun w x cs => d.K w (f x) cs
  M := fun w base ok x cs => d.M w base ok (f x) cs
  K_len := d.K_len
  K_one := d.K_one
  K_below := d.K_below
  K_of_M := d.K_of_M
  M_mono := d.M_mono
  M_bound := d.M_bound
  M_move := d.M_move
  M_lower := d.M_lower
/-- Nothing is of this kind: where the nesting's depth is used up. -/
def bot {α : Type} (sz : Nat) (E : List Nat) : Kd α where
  sz := sz
  E := E
  K := fun _ _ _ => False
  M := fun _ _ _ _ _ => False
  K_len := fun h => h.elim
  K_one := fun h => h.elim
  K_below := fun _ h => h
  K_of_M := fun h => h
  M_mono := fun _ h => h
  M_bound := fun h => h
  M_move := fun _ h => h
  M_lower := fun _ h => h
/-- A type nested in itself: nested at most n deep .. -/
def upto {α : Type} (F : Kd α → Kd α) (sz : Nat) (E : List Nat) : Nat → Kd α
  | 0 => bot sz E
  | n + 1 => F (upto F sz E n)

/-! #### an element of a row that is read; an element appended -/
theorem C_get {α : Type} {d : Kd α} {w : World} {A : Option Addr} {n : Nat} {xs : List α} (h : d.C w A n xs) (z : α) (i : Int) (h0 : 0 ≤ i) (h1 : i < n) :
    ∃ ad c, A = some ad ∧ c.length = d.sz ∧ d.K w (xs.getD i.toNat z) c ∧ ∀ j u, c[j]? = some u → w.cell? (ad.add (i.toNat * d.sz + j)) = some u := ReadsRow.get_ h z i h0 h1
/-- What an append leaves: the old elements' rows and the new one's are not the new row's block. -/
theorem R_appended {α : Type} {d : Kd α} {e base : Nat} {ok okp : Nat → Prop} {W w1 : World} {v v1 : Value} {xs : List α} {p : α} {inner cs : List Value} (h0 : ∀ k, v.ownBlock = some k → ok k) (hr : Reps (d.M W base (fun k => ok k ∧ some k ≠ v.ownBlock)) d.sz xs inner) (hp : d.M W base okp p cs) (hokp : ∀ k, okp k → ok k ∧ some k ≠ v.ownBlock) (hfresh : ∀ k, W.heap.size ≤ k → ok k)
    (hown : w1.ownsRow base e d.sz v1 (xs.length + 1) (inner ++ cs)) (hg : W.grownBy w1 v.ownBlock) (hat : v1.ownBlock = v.ownBlock ∨ ∃ b, v1.ownBlock = some b ∧ W.heap.size ≤ b) : d.R e w1 base ok v1 (xs ++ [p]) := by
  have hne : ∀ k, some k ≠ v.ownBlock → k < W.heap.size → some k ≠ v1.ownBlock := by
    intro k hk hlt
    rcases hat with hat | ⟨b, hb, hle⟩
    · rw [hat]; exact hk
    · rw [hb]
      intro he
      injection he with he
      omega
  have step : ∀ {q : α} {c : List Value} {o : Nat → Prop}, d.M W base o q c → (∀ k, o k → ok k ∧ some k ≠ v.ownBlock) → d.M w1 base (fun k => ok k ∧ some k ≠ v1.ownBlock) q c := by
    intro q c o hq ho
    have h1 := d.M_move (w1 := w1) (fun k hk => hg.block k hk.2.2.1 (ho k hk.1).2) (d.M_bound hq)
    exact d.M_mono (fun k hk => ⟨(ho k hk.1).1, hne k (ho k hk.1).2 hk.2.2.1⟩) h1
  refine ⟨fun k hk => ?_, inner ++ cs, by rw [List.length_append, List.length_singleton]; exact hown, ?_⟩
  · rcases hat with hat | ⟨b, hb, hle⟩
    · exact h0 k (hat ▸ hk)
    · rw [hb] at hk
      injection hk with hk
      exact hfresh k (by omega)
  · exact (hr.imp_ (fun _ _ hq => step hq (fun _ hk => hk))).snoc (step hp hokp) (d.K_len (d.K_of_M hp))
section
variable {P : Program} {ops : Array Oper} {rest : List Oper} {o : Oper} {a : Act} {Q : Exit → Act → World → Prop} {α : Type}
/-- append(v, x), behind 'at_builtin'; the goal's world is 'W.alloc' of the variadic's box; x's cells are cs, made (its rows satisfy okp). hfresh: a block that is new at W is ok. -/
theorem R_append (d : Kd α) {w0 W : World} (base : Nat) (hgd : o.guard = none) (s x : Operand) (t e : TypeId) (z : Value) (bytes : Nat)
    (ho : o.op = .call { callee := .builtin .append, args := #[s, x], argTypes := #[t, t] })
    (ht : P.underlying t = some (.slice e)) (hinfo : (P.info? e).map (fun i => (i.zero, i.size, i.bytes)) = some (some z, d.sz, bytes)) (hz : z.cells.size = d.sz) (hs0 : 0 < d.sz) (hb0 : 0 < bytes)
    (v : Value) (xs : List α) (p : α) (cs : List Value) (ok okp : Nat → Prop) (hs : a.eval s = v) (hx : a.eval x = .slice (some ⟨W.heap.size, 0, none⟩) 1 1) (hp : d.M W base okp p cs) (hokp : ∀ k, okp k → ok k ∧ some k ≠ v.ownBlock) (hfresh : ∀ k, W.heap.size ≤ k → ok k)
    (HO : d.R e W base ok v xs) (HB : Below base w0 W) (hbase : base ≤ W.heap.size) (hl : (xs.length + 1) * bytes ≤ 140737488355328)
    (h : ∀ v1 w1, d.R e w1 base ok v1 (xs ++ [p]) → Below base w0 w1 → W.grownBy w1 v.ownBlock → (v1.ownBlock = v.ownBlock ∨ ∃ b, v1.ownBlock = some b ∧ W.heap.size ≤ b) → wpList P ops Q rest (a.put o.dst v1) w1) :
    wpList P ops Q (o :: rest) a (W.alloc (.cells cs.toArray e)) := by
  obtain ⟨h0, inner, hown, hr⟩ := HO
  refine print_append_cells base hgd s x t e z d.sz bytes ho ht hinfo hz hs0 hb0 v xs.length inner cs hs hx (d.K_len (d.K_of_M hp)) (d.K_one (d.K_of_M hp)) hown HB hbase hl ?_
  intro v1 w1 hown1 hb1 hg1 hat1
  exact h v1 w1 (R_appended h0 hr hp hokp hfresh hown1 hg1 hat1) hb1 hg1 hat1
end
section
variable {P : Program} {ops : Array Oper} {o : Oper} {a : Act} {Q : Exit → Act → World → Prop} {Kc : Act → World → Prop} {α : Type}
end
end Kd
/-! ### 24. Kinds nested in themselves -/
namespace Kd
section
variable {α : Type} {F : Kd α → Kd α} {sz : Nat} {E : List Nat} {hs : ∀ n, (upto F sz E n).sz = sz} {hE : ∀ n q, q ∈ (upto F sz E n).E → q ∈ E}
end
end Kd
/-! ### 25. What is held while another row is written: 'ok' says that its rows are none of that row's block -/
namespace Kd
/-- Behind an append to v (it left v1): what is held apart from v is held apart from v1. -/
theorem R_after {α : Type} {d : Kd α} {e base : Nat} {ok : Nat → Prop} {W w1 : World} {u v v1 : Value} {xs : List α} (h : d.R e W base (fun k => ok k ∧ some k ≠ v.ownBlock) u xs) (hg : W.grownBy w1 v.ownBlock) (hat : v1.ownBlock = v.ownBlock ∨ ∃ b, v1.ownBlock = some b ∧ W.heap.size ≤ b) : d.R e w1 base (fun k => ok k ∧ some k ≠ v1.ownBlock) u xs := by
  refine R_mono (R_move (R_bound h) (fun k hk => hg.block k hk.2.2.1 hk.1.2)) (fun k hk => ⟨hk.1.1, ?_⟩)
  rcases hat with hat | ⟨b, hb, hle⟩
  · rw [hat]; exact hk.1.2
  · rw [hb]
    intro he
    injection he with he
    have := hk.2.2.1
    omega
/-- nil is apart from everything. -/
theorem R_apart_nil {α : Type} {d : Kd α} {e base : Nat} {ok : Nat → Prop} {w : World} {u : Value} {xs : List α} (h : d.R e w base ok u xs) : d.R e w base (fun k => ok k ∧ some k ≠ (Value.slice none 0 0).ownBlock) u xs := R_mono h (fun k hk => ⟨hk, by simp [Value.ownBlock]⟩)
end Kd
/-! ### 26. Words for a printer that takes every slice by its kind -/
namespace Kd
section
variable {α β : Type} {d : Kd α} {d' : Kd β} {e e' : Nat} {w w1 W : World} {base b b' : Nat} {ok ok' okv oku : Nat → Prop} {v u : Value} {xs : List α} {ys : List β}
theorem R_alloc (h : d.R e w base ok v xs) (o : Obj) : d.R e (w.alloc o) base ok v xs := R_below h (below_alloc (Below.refl _ _) o)
theorem R_drew (h : d.R e w base ok v xs) : d.R e w.drew base ok v xs := R_below h (below_drew (Below.refl _ _))
theorem R_drewN (h : d.R e w base ok v xs) (m : Nat) : d.R e (w.drewN m) base ok v xs := R_below h (pw_below_drewN (Below.refl _ _) m)
theorem C_alloc {A : Option Addr} {n : Nat} (h : d.C w A n xs) (o : Obj) : d.C (w.alloc o) A n xs := C_below h (below_alloc (Below.refl _ _) o)
theorem C_drew {A : Option Addr} {n : Nat} (h : d.C w A n xs) : d.C w.drew A n xs := C_below h (below_drew (Below.refl _ _))
theorem C_drewN {A : Option Addr} {n : Nat} (h : d.C w A n xs) (m : Nat) : d.C (w.drewN m) A n xs := C_below h (pw_below_drewN (Below.refl _ _) m)
theorem C_nil (d : Kd α) (w : World) : d.C w none ([] : List α).length [] := ⟨rfl, by simp, fun h => absurd h (Nat.lt_irrefl 0)⟩
theorem R_reads' {A : Option Addr} {n c : Nat} (h : d.R e w base ok (.slice A n c) xs) : n = xs.length ∧ n ≤ c ∧ d.C w A xs.length xs := by
  obtain ⟨A', c', he, hl, hr⟩ := R_reads h
  injection he with h1 h2 h3
  subst h1
  exact ⟨h2, by omega, hr⟩
theorem R_lt (h : d.R e w base ok v xs) : ∀ k, v.ownBlock = some k → k < w.heap.size := by
  obtain ⟨inner, ho⟩ := R_own h
  exact own_lt ho
theorem R_base (h : d.R e w base ok v xs) : ∀ k, v.ownBlock = some k → base ≤ k := by
  obtain ⟨inner, ho⟩ := R_own h
  exact own_base ho
theorem R_form (h : d.R e w base ok v xs) (hp : 0 < xs.length) : ∃ g cap, v = .slice (some ⟨g, 0, none⟩) xs.length cap ∧ base ≤ g ∧ g < w.heap.size ∧ ∃ cells, w.heap[g]? = some (.cells cells e (0, 0)) := by
  obtain ⟨inner, ho⟩ := R_own h
  obtain ⟨g, cap, he, hb, hl⟩ := ho.form hp
  obtain ⟨cells, hc⟩ := own_typed ho g (by rw [he]; simp [Value.ownBlock])
  exact ⟨g, cap, he, hb, hl, cells, hc⟩
end
/-! #### scalars -/
section
variable {w W : World} {A : Option Addr} {n : Nat}
variable {α : Type} {enc : α → Value} {h1 : ∀ x, (enc x).oneCell' = true} {e base g cap : Nat} {ok : Nat → Prop} {xs : List α}
end

/-! #### events: a letter for what make and a literal leave -/
section
variable {P : Program} {ops : Array Oper} {rest : List Oper} {o : Oper} {a : Act} {Q : Exit → Act → World → Prop}
theorem event_run {W w1 : World} {v : Value} (hgd : o.guard = none) (hrun : (execOp a.eval o).run P W = .ok (.value v) w1) (h : wpList P ops Q rest (a.put o.dst v) w1) : wpList P ops Q (o :: rest) a W := by
  refine wpList_plain hgd fun K hK => ?_
  unfold Oper.wp
  rw [hrun]
  exact hK _ _ h
variable {α : Type}
/-- A literal '[]T{..}': inner its cells. 'hd' picks the operation; 'hrun' by '(by go_simp; rfl)'. -/
theorem R_lit (d : Kd α) {w0 W : World} (base e : Nat) (hgd : o.guard = none) {N : Tmp} (_hd : o.dst = some N) {xs : List α} {inner : List Value} {ok okp : Nat → Prop}
    (hrun : (execOp a.eval o).run P W = .ok (.value (.slice (some ⟨W.heap.size, 0, none⟩) xs.length xs.length)) (W.alloc (.cells inner.toArray e)))
    (hrep : Reps (d.M W base okp) d.sz xs inner) (hok : ∀ k, okp k → ok k) (hfresh : ok W.heap.size) (HB : Below base w0 W) (hbase : base ≤ W.heap.size) (hm : xs.length ≤ 9223372036854775807)
    (h : ∀ v1 w1, d.R e w1 base ok v1 xs → Below base w0 w1 → W.grownBy w1 none → (∃ b, v1.ownBlock = some b ∧ W.heap.size ≤ b) → wpList P ops Q rest (a.put o.dst v1) w1) : wpList P ops Q (o :: rest) a W := by
  refine event_run hgd hrun (h _ _ ⟨fun k hk => ?_, inner, ?_, ?_⟩ (HB.alloc hbase _) (World.grownBy_alloc W _ none) ⟨W.heap.size, by simp [Value.ownBlock], Nat.le_refl _⟩)
  · have : W.heap.size = k := by simpa [Value.ownBlock] using hk
    subst this
    exact hfresh
  · have h2 := World.ownsRow_lit (base := base) (e := e) (size := d.sz) W inner.toArray xs.length hbase (by simpa [maxLen] using hm) (by simpa using hrep.1)
    simpa using h2
  · refine hrep.imp_ (fun p c hp => d.M_mono (fun k hk => ⟨hok k hk.1, fun he => ?_⟩) (M_below (d.M_bound hp) (below_alloc (Below.refl _ _) _)))
    have h3 : k = W.heap.size := by simpa [Value.ownBlock] using he
    have := hk.2.2.1
    omega
end
end Kd
/-! ### 27. Cuts of a row of one's own: 'xs = xs[:n]' stays a row (R_take); 'xs = xs[k:]' is a row that begins inside its block (Kd.Q), append goes on it too -/
theorem own_take {w : World} {base n m c size : Nat} {e : TypeId} {A : Option Addr} {xs : List Value} (h : w.ownsRow base e size (.slice A n c) n xs) (hm : m ≤ n) : w.ownsRow base e size (.slice A m c) m (xs.take (m * size)) := by
  obtain ⟨h1, h2⟩ := h
  refine ⟨by rw [List.length_take, h1]; exact Nat.min_eq_left (Nat.mul_le_mul_right _ hm), ?_⟩
  rcases h2 with ⟨he, h0⟩ | ⟨g, cap, cur, he, hb, hh, hnc, hcm, hcs, ht⟩
  · injection he with ha _ hc
    subst ha; subst hc
    exact .inl ⟨by rw [show m = 0 by omega], by omega⟩
  · injection he with ha _ hc
    subst ha; subst hc
    refine .inr ⟨g, c, cur, rfl, hb, hh, by omega, hcm, hcs, ?_⟩
    rw [← ht, List.take_take, Nat.min_eq_left (Nat.mul_le_mul_right _ hm)]
section
variable {P : Program}
end
/-- A row of one's own that may begin inside its block. -/
def QRow (w : World) (base : Nat) (e : TypeId) (size : Nat) (v : Value) (n : Nat) (xs : List Value) : Prop :=
  xs.length = n * size ∧
  ((n = 0 ∧ ∃ A, v = .slice A 0 0 ∧ ∀ a, A = some a → base ≤ a.block ∧ ∃ cur, w.heap[a.block]? = some (.cells cur e (0, 0))) ∨
   ∃ g off cap cur, v = .slice (some ⟨g, off * size, none⟩) n cap ∧ base ≤ g ∧ w.heap[g]? = some (.cells cur e (0, 0)) ∧ n ≤ cap ∧ off + cap ≤ maxLen ∧ cur.size = (off + cap) * size ∧ (cur.toList.drop (off * size)).take (n * size) = xs)
section
variable {w w1 : World} {base n size : Nat} {e : TypeId} {v : Value} {xs : List Value}
theorem q_of_own (h : w.ownsRow base e size v n xs) : QRow w base e size v n xs := by
  obtain ⟨h1, h2⟩ := h
  refine ⟨h1, ?_⟩
  rcases h2 with ⟨rfl, h0⟩ | ⟨g, cap, cur, rfl, hb, hh, hnc, hcm, hcs, ht⟩
  · exact .inl ⟨h0, none, rfl, fun a ha => by cases ha⟩
  · exact .inr ⟨g, 0, cap, cur, by rw [Nat.zero_mul], hb, hh, hnc, by rw [Nat.zero_add]; exact hcm, by rw [Nat.zero_add]; exact hcs, by rw [Nat.zero_mul, List.drop_zero]; exact ht⟩
theorem q_typed (h : QRow w base e size v n xs) (k : Nat) (hk : v.ownBlock = some k) : base ≤ k ∧ ∃ cells, w.heap[k]? = some (.cells cells e (0, 0)) := by
  rcases h.2 with ⟨_, A, rfl, hA⟩ | ⟨g, off, cap, cur, rfl, hg, hh, r⟩
  · cases A with
    | none => simp [Value.ownBlock] at hk
    | some a =>
      have : a.block = k := by simpa [Value.ownBlock] using hk
      subst this
      exact hA a rfl
  · have : g = k := by simpa [Value.ownBlock] using hk
    subst this
    exact ⟨hg, cur, hh⟩
theorem q_slice (h : QRow w base e size v n xs) : ∃ A c, v = .slice A n c ∧ n ≤ c := by
  rcases h.2 with ⟨h0, A, rfl, _⟩ | ⟨g, off, cap, cur, rfl, hg, hh, hnc, r⟩
  · exact ⟨A, 0, by rw [h0], by omega⟩
  · exact ⟨_, cap, rfl, hnc⟩
theorem q_max (h : QRow w base e size v n xs) : n ≤ 9223372036854775807 := by
  rcases h.2 with ⟨h0, _⟩ | ⟨g, off, cap, cur, rfl, hg, hh, hnc, hm, r⟩
  · omega
  · simp only [maxLen] at hm
    omega
theorem add_at (g o j : Nat) : (⟨g, o, none⟩ : Addr).add j = ⟨g, o + j, none⟩ := by unfold Addr.add; split <;> simp_all
theorem q_cells {A : Option Addr} {c : Nat} (h : QRow w base e size (.slice A n c) n xs) (hn : 0 < n) : ∃ ad, A = some ad ∧ ∀ j u, xs[j]? = some u → w.cell? (ad.add j) = some u := by
  rcases h.2 with ⟨h0, _⟩ | ⟨g, off, cap, cur, he, hg, hh, hnc, hm, hcs, ht⟩
  · omega
  · injection he with ha _ hc
    subst ha
    refine ⟨_, rfl, fun j u hu => ?_⟩
    rw [add_at, cell_of_row w g _ cur e (0, 0) hh]
    rw [← ht, List.getElem?_take] at hu
    split at hu
    · rw [List.getElem?_drop] at hu
      rw [← Array.getElem?_toList]
      exact hu
    · cases hu
/-- What a run of cells written leaves. -/
theorem setCells_far {g : Nat} : ∀ (vs : List Value) (o : Nat) {w : World} (k : Nat), k ≠ g → (w.setCells g o vs).heap[k]? = w.heap[k]?
  | [], _, _, _, _ => rfl
  | v :: r, o, w, k, hk => by
    rw [World.setCells, setCells_far r (o + 1) k hk]
    exact Below.heap_setCell w ⟨g, o, none⟩ v k hk
theorem setCells_same (g : Nat) : ∀ (vs : List Value) (o : Nat) (w : World), (w.setCells g o vs).os = w.os ∧ (w.setCells g o vs).tape = w.tape ∧ (w.setCells g o vs).output = w.output ∧ (w.setCells g o vs).heap.size = w.heap.size
  | [], _, _ => ⟨rfl, rfl, rfl, rfl⟩
  | v :: r, o, w => by
    obtain ⟨h1, h2, h3, h4⟩ := setCells_same g r (o + 1) (w.setCell ⟨g, o, none⟩ v)
    rw [World.setCells]
    exact ⟨h1, h2, h3, by rw [h4]; simp [World.setCell]⟩
theorem setCells_row {g : Nat} {e : TypeId} : ∀ (vs : List Value) (o : Nat) (w : World) (cur : Array Value), w.heap[g]? = some (.cells cur e (0, 0)) → o + vs.length ≤ cur.size →
    ∃ cur', (w.setCells g o vs).heap[g]? = some (.cells cur' e (0, 0)) ∧ cur'.size = cur.size ∧ cur'.toList = cur.toList.take o ++ vs ++ cur.toList.drop (o + vs.length)
  | [], o, w, cur, h, _ => ⟨cur, h, rfl, by simp⟩
  | v :: r, o, w, cur, h, hl => by
    have h2 := blk_set h o v
    simp only [List.length_cons] at hl
    obtain ⟨cur', h3, h4, h5⟩ := setCells_row r (o + 1) (w.setCell ⟨g, o, none⟩ v) _ h2 (by simp; omega)
    refine ⟨cur', h3, by rw [h4]; simp, ?_⟩
    rw [h5, Array.toList_setIfInBounds]
    have ho : o < cur.toList.length := by rw [Array.length_toList]; omega
    rw [List.take_set, List.drop_set_of_lt (by omega)]
    simp only [List.length_cons]
    rw [show o + 1 + r.length = o + (r.length + 1) by omega]
    congr 1
    rw [List.take_succ_eq_append_getElem ho, List.set_append_right _ _ (by rw [List.length_take]; omega)]
    have ho' : o < cur.size := by omega
    simp [Nat.min_eq_left (Nat.le_of_lt ho')]
end
section
variable {P : Program}
end
/-! ### 28. The kinds' words for cuts: R_take; Q (a row that may begin inside its block) with all of R's movers -/
namespace Kd
theorem reps_take {α : Type} {R : α → List Value → Prop} {size m : Nat} {ps : List α} {cs : List Value} (h : Reps R size ps cs) (hm : m ≤ ps.length) : Reps R size (ps.take m) (cs.take (m * size)) := by
  refine ⟨by rw [List.length_take, List.length_take, h.1, Nat.min_eq_left hm, Nat.min_eq_left (Nat.mul_le_mul_right _ hm)], fun j p hj => ?_⟩
  rw [List.getElem?_take] at hj
  split at hj
  · rename_i hjm
    have := h.2 j p hj
    have hle : j * size + size ≤ m * size := by rw [← Nat.succ_mul]; exact Nat.mul_le_mul_right _ hjm
    rw [List.drop_take, List.take_take, Nat.min_eq_left (by omega)]
    exact this
  · cases hj
theorem R_take {α : Type} {d : Kd α} {e m n c : Nat} {w : World} {base : Nat} {ok : Nat → Prop} {A : Option Addr} {xs : List α} (h : d.R e w base ok (.slice A n c) xs) (hm : m ≤ xs.length) : d.R e w base ok (.slice A m c) (xs.take m) := by
  obtain ⟨h0, inner, ho, hr⟩ := h
  have hn : n = xs.length := by
    obtain ⟨A', c', he⟩ := own_slice ho
    injection he
  subst hn
  have hb : ∀ x y : Nat, (Value.slice A x c).ownBlock = (Value.slice A y c).ownBlock := by
    intro x y
    cases A <;> rfl
  refine ⟨fun k hk => h0 k (by rw [hb _ m]; exact hk), inner.take (m * d.sz), ?_, ?_⟩
  · rw [List.length_take, Nat.min_eq_left hm]
    exact own_take ho hm
  · rw [hb m xs.length]
    exact reps_take hr hm
def Q {α : Type} (d : Kd α) (e : Nat) (w : World) (base : Nat) (ok : Nat → Prop) (v : Value) (xs : List α) : Prop :=
  (∀ k, v.ownBlock = some k → ok k) ∧ ∃ inner, QRow w base e d.sz v xs.length inner ∧ Reps (d.M w base (fun k => ok k ∧ some k ≠ v.ownBlock)) d.sz xs inner
section
variable {α : Type} {d : Kd α} {e : Nat} {w w1 W : World} {base : Nat} {ok ok' : Nat → Prop} {v : Value} {xs : List α}
theorem Q_of_R (h : d.R e w base ok v xs) : d.Q e w base ok v xs := by
  obtain ⟨h0, inner, ho, hr⟩ := h
  exact ⟨h0, inner, q_of_own ho, hr⟩
theorem Q_nil (d : Kd α) (e : Nat) (w : World) (base : Nat) (ok : Nat → Prop) : d.Q e w base ok (.slice none 0 0) [] := Q_of_R (R_nil d e w base ok)
theorem Q_reads' {A : Option Addr} {n c : Nat} (h : d.Q e w base ok (.slice A n c) xs) : n = xs.length ∧ n ≤ c ∧ d.C w A xs.length xs := by
  obtain ⟨_, inner, ho, hr⟩ := h
  obtain ⟨A', c', he, hl⟩ := q_slice ho
  injection he with h1 h2 h3
  subst h1; subst h2; subst h3
  refine ⟨rfl, hl, rfl, q_max ho, fun hp => ?_⟩
  obtain ⟨ad, ha, hc⟩ := q_cells ho hp
  refine ⟨ad, ha, fun j p hj => ⟨(inner.drop (j * d.sz)).take d.sz, ?_, d.K_of_M (hr.2 j p hj), fun i u hu => ?_⟩⟩
  · have hjl := (List.getElem?_eq_some_iff.1 hj).1
    have h1 : j * d.sz + d.sz ≤ inner.length := by rw [hr.1, ← Nat.succ_mul]; exact Nat.mul_le_mul_right _ hjl
    rw [List.length_take, List.length_drop]
    omega
  · refine hc _ u ?_
    rw [List.getElem?_take] at hu
    split at hu
    · rw [List.getElem?_drop] at hu
      exact hu
    · cases hu
end
section
variable {P : Program} {ops : Array Oper} {rest : List Oper} {o : Oper} {a : Act} {Q' : Exit → Act → World → Prop} {Kc : Act → World → Prop} {α : Type}
end
end Kd
/-! ### 29. Movers that ask of another row no more than they need: for R and for Q -/
namespace Kd
section
variable {α : Type} {d : Kd α} {e e' : Nat} {w w1 W : World} {base : Nat} {ok : Nat → Prop} {u v : Value} {xs : List α}
theorem R_elder' (hu : d.R e W base ok u xs) (hbase : ∀ k, v.ownBlock = some k → W.heap.size ≤ k) (hb : Below W.heap.size W w1) : d.R e w1 base (fun k => ok k ∧ some k ≠ v.ownBlock) u xs :=
  R_mono (R_move (R_bound hu) (fun k hk => hb.block k hk.2.2.1)) (fun k hk => ⟨hk.1, fun he => by have := hbase k he.symm; have := hk.2.2.1; omega⟩)
theorem R_new' (h : d.R e w1 W.heap.size ok v xs) (hlt : ∀ k, u.ownBlock = some k → k < W.heap.size) : d.R e w1 W.heap.size (fun k => ok k ∧ some k ≠ u.ownBlock) v xs :=
  R_mono (R_bound h) (fun k hk => ⟨hk.1, fun he => by have := hlt k he.symm; have := hk.2.1; omega⟩)

theorem fresh' (hlt : ∀ k, u.ownBlock = some k → k < W.heap.size) : ∀ k, W.heap.size ≤ k → some k ≠ u.ownBlock := fun k hk he => by have := hlt k he.symm; omega
end
end Kd
/-! ### 30. Elements written: x[i] = T{..}, x[i].f = v, swaps, in a row of elements of any kind -/
theorem seg_get {α : Type} (a seg : List α) (o : Nat) (h : o + seg.length ≤ a.length) (q : Nat) :
    (a.take o ++ seg ++ a.drop (o + seg.length))[q]? = if q < o then a[q]? else if q < o + seg.length then seg[q - o]? else a[q]? := by
  have hl : (a.take o).length = o := by rw [List.length_take]; omega
  rw [List.append_assoc]
  by_cases h1 : q < o
  · rw [if_pos h1, List.getElem?_append_left (by omega), List.getElem?_take, if_pos h1]
  · rw [if_neg h1, List.getElem?_append_right (by omega), hl]
    by_cases h2 : q < o + seg.length
    · rw [if_pos h2, List.getElem?_append_left (by omega)]
    · rw [if_neg h2, List.getElem?_append_right (by omega), List.getElem?_drop]
      congr 1
      omega
namespace Kd
section
variable {α : Type} {d : Kd α} {e base g n cap : Nat} {ok okp : Nat → Prop} {W : World} {xs : List α}
/-- Element i of a row of one's own: its cells. -/
theorem R_elem (h : d.R e W base ok (.slice (some ⟨g, 0, none⟩) n cap) xs) (z : α) (i : Int) (h0 : 0 ≤ i) (h1 : i < n) :
    ∃ c, c.length = d.sz ∧ d.M W base (fun k => ok k ∧ k ≠ g) (xs.getD i.toNat z) c ∧ (∀ j u, c[j]? = some u → W.cell? ⟨g, i.toNat * d.sz + j, none⟩ = some u) ∧ ∀ j, W.frozen? ⟨g, i.toNat * d.sz + j, none⟩ = false := by
  obtain ⟨hn, hnc, hC⟩ := R_reads' h
  obtain ⟨_, inner, ho, hr⟩ := h
  have hil : i.toNat < xs.length := by omega
  have hseg : i.toNat * d.sz + d.sz ≤ inner.length := by rw [hr.1, ← Nat.succ_mul]; exact Nat.mul_le_mul_right _ hil
  have hM := hr.2 i.toNat _ (List.getElem?_eq_getElem hil)
  refine ⟨(inner.drop (i.toNat * d.sz)).take d.sz, by rw [List.length_take, List.length_drop]; omega, ?_, fun j u hu => ?_, fun j => ?_⟩
  · rw [List.getD_eq_getElem?_getD, List.getElem?_eq_getElem hil]
    exact d.M_mono (fun k hk => ⟨hk.1, fun he => hk.2 (by rw [he]; simp [Value.ownBlock])⟩) hM
  · rw [List.getElem?_take] at hu
    split at hu
    · rw [List.getElem?_drop] at hu
      have := ho.cells (g := g) (by simp [Value.ownBlock]) _ u hu
      rwa [add_plain] at this
    · cases hu
  · obtain ⟨cells, hc⟩ := own_typed ho g (by simp [Value.ownBlock])
    exact blk_frozen hc _
/-- A run of cells of element i is written: element i is x' then. c: the element's cells before (R_elem). -/
theorem R_seg (h : d.R e W base ok (.slice (some ⟨g, 0, none⟩) n cap) xs) (i : Int) (h0 : 0 ≤ i) (h1 : i < n) {c seg : List Value} {j : Nat} (hcl : c.length = d.sz) (hcc : ∀ j u, c[j]? = some u → W.cell? ⟨g, i.toNat * d.sz + j, none⟩ = some u)
    (hj : j + seg.length ≤ d.sz) {x' : α} (hM : d.M W base okp x' (c.take j ++ seg ++ c.drop (j + seg.length))) (hokp : ∀ k, okp k → ok k ∧ k ≠ g) :
    d.R e (W.setCells g (i.toNat * d.sz + j) seg) base ok (.slice (some ⟨g, 0, none⟩) n cap) (xs.set i.toNat x') ∧ W.grownBy (W.setCells g (i.toNat * d.sz + j) seg) (some g) := by
  obtain ⟨hn, hnc, _⟩ := R_reads' h
  obtain ⟨hok, inner, ho, hr⟩ := h
  have hil : i.toNat < xs.length := by omega
  have hseg : i.toNat * d.sz + d.sz ≤ inner.length := by rw [hr.1, ← Nat.succ_mul]; exact Nat.mul_le_mul_right _ hil
  have hin : inner.length = n * d.sz := by rw [hr.1, hn]
  obtain ⟨ho1, ho2⟩ := ho
  rcases ho2 with ⟨hv, _⟩ | ⟨g', cap', cur, hv, hb, hh, hnc', hcm, hcs, ht⟩
  · cases hv
  injection hv with ha _ hc
  injection ha with ha
  injection ha with hg
  subst hg; subst hc
  have hfit : i.toNat * d.sz + j + seg.length ≤ cur.size := by
    have : n * d.sz ≤ cap * d.sz := Nat.mul_le_mul_right _ hnc
    omega
  obtain ⟨cur', h3, h4, h5⟩ := setCells_row seg (i.toNat * d.sz + j) W cur hh hfit
  obtain ⟨s1, s2, s3, s4⟩ := setCells_same g seg (i.toNat * d.sz + j) W
  have hfar : ∀ k, k ≠ g → (W.setCells g (i.toNat * d.sz + j) seg).heap[k]? = W.heap[k]? := fun k hk => setCells_far seg _ k hk
  -- the element's cells before are what was read
  have hcin : ∀ q, q < d.sz → c[q]? = inner[i.toNat * d.sz + q]? := by
    intro q hq
    have hq' : q < c.length := by omega
    have h6 := hcc q _ (List.getElem?_eq_getElem hq')
    rw [cell_of_row W g _ cur e (0, 0) hh] at h6
    rw [List.getElem?_eq_getElem hq', ← h6, ← ht, List.getElem?_take, if_pos (by rw [← hn]; omega), Array.getElem?_toList]
  refine ⟨⟨hok, inner.take (i.toNat * d.sz + j) ++ seg ++ inner.drop (i.toNat * d.sz + j + seg.length), ⟨?_, .inr ⟨g, cap, cur', by rw [List.length_set, hn], hb, h3, by rw [List.length_set, ← hn]; exact hnc, hcm, by rw [h4, hcs], ?_⟩⟩, ?_⟩,
    ⟨s1, s2, s3, by rw [s4]; exact Nat.le_refl _, fun k _ hk => hfar k (fun he => hk (by rw [he]))⟩⟩
  · rw [List.length_set]
    simp only [List.length_append, List.length_take, List.length_drop]
    rw [hr.1] at hseg ⊢
    omega
  · rw [List.length_set, ← hn]
    apply List.ext_getElem?
    intro q
    rw [List.getElem?_take, h5]
    rw [seg_get cur.toList seg (i.toNat * d.sz + j) (by rw [Array.length_toList]; omega) q, seg_get inner seg (i.toNat * d.sz + j) (by omega) q]
    have hcur : ∀ q, q < n * d.sz → cur.toList[q]? = inner[q]? := by
      intro q hq
      rw [← ht, List.getElem?_take, if_pos (by rw [← hn]; exact hq)]
    by_cases hq : q < n * d.sz
    · rw [if_pos hq, hcur q hq]
    · rw [if_neg hq, if_neg (by omega), if_neg (by omega), List.getElem?_eq_none (by omega)]
  · refine ⟨?_, fun m p hm => ?_⟩
    · rw [List.length_set]
      simp only [List.length_append, List.length_take, List.length_drop]
      rw [hr.1] at hseg ⊢
      omega
    · have hml : m < xs.length := by
        have := (List.getElem?_eq_some_iff.1 hm).1
        rwa [List.length_set] at this
      have hmfit : m * d.sz + d.sz ≤ inner.length := by rw [hr.1, ← Nat.succ_mul]; exact Nat.mul_le_mul_right _ hml
      have hgo : some g = (Value.slice (some ⟨g, 0, none⟩) n cap).ownBlock := by simp [Value.ownBlock]
      by_cases hmi : m = i.toNat
      · subst hmi
        rw [List.getElem?_set_self (by omega)] at hm
        injection hm with hm
        subst hm
        have hcells : ((inner.take (i.toNat * d.sz + j) ++ seg ++ inner.drop (i.toNat * d.sz + j + seg.length)).drop (i.toNat * d.sz)).take d.sz = c.take j ++ seg ++ c.drop (j + seg.length) := by
          apply List.ext_getElem?
          intro q
          rw [List.getElem?_take, List.getElem?_drop, seg_get inner seg _ (by omega), seg_get c seg j (by omega) q]
          by_cases hq : q < d.sz
          · rw [if_pos hq, hcin q hq]
            by_cases hq1 : q < j
            · rw [if_pos (by omega), if_pos hq1]
            · rw [if_neg (by omega), if_neg hq1]
              by_cases hq2 : q < j + seg.length
              · rw [if_pos (by omega), if_pos hq2]
                congr 1
                omega
              · rw [if_neg (by omega), if_neg hq2]
          · rw [if_neg hq, if_neg (by omega), if_neg (by omega), List.getElem?_eq_none (by omega)]
        rw [hcells]
        refine d.M_mono (fun k hk => ?_) (d.M_move (w1 := W.setCells g (i.toNat * d.sz + j) seg) (fun k hk => hfar k (hokp k hk).2) hM)
        exact ⟨(hokp k hk).1, fun he => (hokp k hk).2 (by rw [← hgo] at he; injection he)⟩
      · rw [List.getElem?_set_ne (by omega)] at hm
        have hold := hr.2 m p hm
        have hcells : ((inner.take (i.toNat * d.sz + j) ++ seg ++ inner.drop (i.toNat * d.sz + j + seg.length)).drop (m * d.sz)).take d.sz = (inner.drop (m * d.sz)).take d.sz := by
          apply List.ext_getElem?
          intro q
          rw [List.getElem?_take, List.getElem?_take, List.getElem?_drop, List.getElem?_drop, seg_get inner seg _ (by omega)]
          by_cases hq : q < d.sz
          · rw [if_pos hq, if_pos hq]
            rcases Nat.lt_or_gt_of_ne hmi with hlt | hgt
            · have : m * d.sz + d.sz ≤ i.toNat * d.sz := by rw [← Nat.succ_mul]; exact Nat.mul_le_mul_right _ hlt
              rw [if_pos (by omega)]
            · have : i.toNat * d.sz + d.sz ≤ m * d.sz := by rw [← Nat.succ_mul]; exact Nat.mul_le_mul_right _ hgt
              rw [if_neg (by omega), if_neg (by omega)]
          · rw [if_neg hq, if_neg hq]
        rw [hcells]
        refine d.M_move (fun k hk => hfar k (fun he => hk.2 (by rw [he]; exact hgo))) hold
end
end Kd
/-! ### 31. What came in, put into what is made: 'fixed d w0' (read in w0, whatever happens since), 'or_ a b', 'mix' (a slice that came in, or one that is made) -/
namespace Kd
def fixed {α : Type} (d : Kd α) (w0 : World) : Kd α where
  sz := d.sz
  E := []
  K := fun _ x cs => d.K w0 x cs
  M := fun _ _ _ x cs => d.K w0 x cs
  K_len := d.K_len
  K_one := d.K_one
  K_below := fun _ h => h
  K_of_M := fun h => h
  M_mono := fun _ h => h
  M_bound := fun h => h
  M_move := fun _ h => h
  M_lower := fun _ h => h
def or_ {α : Type} (a b : Kd α) (h : b.sz = a.sz) : Kd α where
  sz := a.sz
  E := a.E ++ b.E
  K := fun w x cs => a.K w x cs ∨ b.K w x cs
  M := fun w base ok x cs => a.M w base ok x cs ∨ b.M w base ok x cs
  K_len := fun hk => hk.elim a.K_len (fun hk => (b.K_len hk).trans h)
  K_one := fun hk => hk.elim a.K_one b.K_one
  K_below := fun hb hk => hk.imp (a.K_below hb) (b.K_below hb)
  K_of_M := fun hk => hk.imp a.K_of_M b.K_of_M
  M_mono := fun hok hk => hk.imp (a.M_mono hok) (b.M_mono hok)
  M_bound := fun hk => hk.imp
    (fun hk => a.M_mono (fun _ ⟨h1, h2, h3, q, hq, hc⟩ => ⟨h1, h2, h3, q, List.mem_append_left _ hq, hc⟩) (a.M_bound hk))
    (fun hk => b.M_mono (fun _ ⟨h1, h2, h3, q, hq, hc⟩ => ⟨h1, h2, h3, q, List.mem_append_right _ hq, hc⟩) (b.M_bound hk))
  M_move := fun hm hk => hk.imp (a.M_move hm) (b.M_move hm)
  M_lower := fun hb hk => hk.imp (a.M_lower hb) (b.M_lower hb)
section
variable {α : Type} {F : Kd α → Kd α} {sz : Nat} {E : List Nat} {hs : ∀ n, (upto F sz E n).sz = sz} {hE : ∀ n q, q ∈ (upto F sz E n).E → q ∈ E}
end
end Kd
/-! ### 32. A whole row appended, of elements of any kind; copy onto a row of scalars of one's own -/
namespace Kd
theorem reps_append {α : Type} {R : α → List Value → Prop} {size : Nat} {ps qs : List α} {cs ds : List Value} (h : Reps R size ps cs) (h' : Reps R size qs ds) : Reps R size (ps ++ qs) (cs ++ ds) := by
  refine ⟨by rw [List.length_append, List.length_append, h.1, h'.1, Nat.add_mul], fun j p hj => ?_⟩
  rcases Nat.lt_or_ge j ps.length with hlt | hge
  · rw [List.getElem?_append_left hlt] at hj
    have hle : j * size + size ≤ cs.length := by rw [h.1, ← Nat.succ_mul]; exact Nat.mul_le_mul_right _ hlt
    rw [List.drop_append_of_le_length (by omega), List.take_append_of_le_length (by rw [List.length_drop]; omega)]
    exact h.2 j p hj
  · rw [List.getElem?_append_right hge] at hj
    have h2 := h'.2 (j - ps.length) p hj
    have hle : ps.length * size ≤ j * size := Nat.mul_le_mul_right _ hge
    rw [List.drop_append, List.drop_eq_nil_of_le (by rw [h.1]; exact hle), List.nil_append, h.1, ← Nat.sub_mul]
    exact h2
section
variable {P : Program} {ops : Array Oper} {rest : List Oper} {o : Oper} {a : Act} {Q : Exit → Act → World → Prop} {α : Type}
/-- append(v, ys...): Rr is what is known of a read element's cells (d.K W; or k<T>.K w0 for a row that came in), hKM: it may stand as_ made. -/
theorem R_append_rows (d : Kd α) {Rr : α → List Value → Prop} {w0 W : World} (base : Nat) (hgd : o.guard = none) (s x : Operand) (t e : TypeId) (z : Value) (bytes : Nat)
    (ho : o.op = .call { callee := .builtin .append, args := #[s, x], argTypes := #[t, t] })
    (ht : P.underlying t = some (.slice e)) (hinfo : (P.info? e).map (fun i => (i.zero, i.size, i.bytes)) = some (some z, d.sz, bytes)) (hz : z.cells.size = d.sz) (hs0 : 0 < d.sz) (hb0 : 0 < bytes)
    (v : Value) (xs ys : List α) (A : Option Addr) (m c : Nat) (ok okp : Nat → Prop) (hs : a.eval s = v) (hx : a.eval x = .slice A m c)
    (HO : d.R e W base ok v xs) (HR : ReadsRow Rr d.sz W A m ys) (hKM : ∀ x cs, Rr x cs → d.M W base okp x cs) (hokp : ∀ k, okp k → ok k ∧ some k ≠ v.ownBlock) (hfresh : ∀ k, W.heap.size ≤ k → ok k)
    (HB : Below base w0 W) (hbase : base ≤ W.heap.size) (hl : (xs.length + m) * bytes ≤ 140737488355328)
    (h : ∀ v1 w1, d.R e w1 base ok v1 (xs ++ ys) → Below base w0 w1 → W.grownBy w1 v.ownBlock → (v1.ownBlock = v.ownBlock ∨ ∃ b, v1.ownBlock = some b ∧ W.heap.size ≤ b) → wpList P ops Q rest (a.put o.dst v1) w1) :
    wpList P ops Q (o :: rest) a W := by
  obtain ⟨i0, hi, hzz⟩ := Option.map_eq_some_iff.1 hinfo
  simp only [Prod.mk.injEq] at hzz
  obtain ⟨hz0, hz1, hz2⟩ := hzz
  have hm : ys.length = m := HR.1
  have hlen : xs.length + m ≤ 140737488355328 := Nat.le_trans (Nat.le_mul_of_pos_right _ hb0) hl
  obtain ⟨hok, inner, hown, hr⟩ := HO
  have hrun : ∃ v1 w1, (Builtin.append_ #[t, t] o.type #[v, .slice A m c]).run P W = .ok v1 w1 ∧ d.R e w1 base ok v1 (xs ++ ys) ∧ W.grownBy w1 v.ownBlock ∧ (v1.ownBlock = v.ownBlock ∨ ∃ b, v1.ownBlock = some b ∧ W.heap.size ≤ b) := by
    rcases A with _ | ad
    · have h0 : m = 0 := by
        rcases Nat.eq_zero_or_pos m with h0 | h0
        · exact h0
        · obtain ⟨ad, h, _⟩ := HR.2.2 h0
          cases h
      subst h0
      obtain rfl : ys = [] := List.eq_nil_of_length_eq_zero hm
      refine ⟨v, W, ?_, by rw [List.append_nil]; exact ⟨hok, inner, hown, hr⟩, World.grownBy.refl W _, .inl rfl⟩
      rcases hown.2 with ⟨rfl, hn⟩ | ⟨g, cap, cur, rfl, _, _, hnc, _⟩
      · simp [Builtin.append_, run_underlying ht, sizeOf, typeInfo, hi, Builtin.lenOf, Builtin.firstCells]
      · simp [Builtin.append_, run_underlying ht, sizeOf, typeInfo, hi, Builtin.lenOf, Builtin.firstCells, hnc, storeCells]
    · obtain ⟨news, hnr, hnc⟩ := ReadsRow.inner_ HR
      have hnM : Reps (d.M W base okp) d.sz ys news := hnr.imp_ (fun p c hp => hKM p c hp)
      have hone : ∀ u ∈ news, u.oneCell' = true := by
        intro u hu
        obtain ⟨q, hq, rfl⟩ := List.mem_iff_getElem.1 hu
        have hql : q / d.sz < ys.length := by
          rw [Nat.div_lt_iff_lt_mul hs0]
          rw [← hnM.1]
          exact hq
        have hc := hnM.2 (q / d.sz) _ (List.getElem?_eq_getElem hql)
        refine d.K_one (d.K_of_M hc) _ ?_
        rw [List.mem_iff_getElem?]
        refine ⟨q % d.sz, ?_⟩
        rw [List.getElem?_take, if_pos (Nat.mod_lt _ hs0), List.getElem?_drop, Nat.mul_comm, Nat.div_add_mod, List.getElem?_eq_getElem hq]
      obtain ⟨v1, w1, hrun, h2, hg, _, hat⟩ := run_append_own_at (P := P) W base t o.type e i0 z d.sz bytes ht hi hz0 hz1 hz2 hz hs0 v xs.length inner hown ad m c news (by rw [hnM.1, hm]) hnc hone (by simp only [maxLen]; omega) hl hbase
      have hat' : v1.ownBlock = v.ownBlock ∨ ∃ b, v1.ownBlock = some b ∧ W.heap.size ≤ b := by
        rcases hat with hat | hat
        · exact .inl hat
        · exact .inr ⟨_, hat, Nat.le_refl _⟩
      have hne : ∀ k, some k ≠ v.ownBlock → k < W.heap.size → some k ≠ v1.ownBlock := by
        intro k hk hlt
        rcases hat' with hat | ⟨b, hb, hle⟩
        · rw [hat]; exact hk
        · rw [hb]
          intro he
          injection he with he
          omega
      have step : ∀ {q : α} {c : List Value} {o : Nat → Prop}, d.M W base o q c → (∀ k, o k → ok k ∧ some k ≠ v.ownBlock) → d.M w1 base (fun k => ok k ∧ some k ≠ v1.ownBlock) q c := by
        intro q c o hq ho
        have h1 := d.M_move (w1 := w1) (fun k hk => hg.block k hk.2.2.1 (ho k hk.1).2) (d.M_bound hq)
        exact d.M_mono (fun k hk => ⟨(ho k hk.1).1, hne k (ho k hk.1).2 hk.2.2.1⟩) h1
      refine ⟨v1, w1, hrun, ⟨fun k hk => ?_, inner ++ news, by rw [List.length_append, hm]; exact h2, reps_append (hr.imp_ (fun _ _ hq => step hq (fun _ hk => hk))) (hnM.imp_ (fun _ _ hq => step hq hokp))⟩, hg, hat'⟩
      rcases hat' with hat | ⟨b, hb, hle⟩
      · exact hok k (hat ▸ hk)
      · rw [hb] at hk
        injection hk with hk
        exact hfresh k (by omega)
  obtain ⟨v1, w1, hr1, h1, hg, hat⟩ := hrun
  refine wpList_plain hgd fun K hK => ?_
  unfold Oper.wp execOp
  simp only [ho, resolve, invoke, builtin, Sem.run_bind, Sem.run_pure, Result.andThen_ok, List.map_toArray, List.map_cons, List.map_nil, hs, hx, hr1]
  exact hK _ _ (h v1 w1 h1 (HB.grown hg hbase (own_base hown)) hg hat)
end
end Kd
/-! ### 33. A store into a row of one's own, as_ an event: no go_simp -/
namespace Kd
section
variable {P : Program} {ops : Array Oper} {rest : List Oper} {o : Oper} {a : Act} {Q : Exit → Act → World → Prop} {α : Type}
end
end Kd
/-! ### 34. Cuts that are only read, of any row -/
theorem add_add (a : Addr) (i j : Nat) : (a.add i).add j = a.add (i + j) := by
  unfold Addr.add
  by_cases h1 : i = 0 <;> by_cases h2 : j = 0 <;> simp [h1, h2, Nat.add_assoc]
namespace Kd
section
variable {α : Type} {k : Kd α} {w : World} {A : Option Addr} {xs : List α} {m c : Nat}
end
end Kd
section
variable {P : Program}
end
/-! ### 6. What the printer adds -/
theorem below_size {w W : World} (h : Below w.heap.size w W) : w.heap.size ≤ W.heap.size := h.size
theorem below_step {w W w2 : World} (h : Below w.heap.size w W) (k : Below W.heap.size W w2) : Below w.heap.size w w2 := below_then h h.size k
theorem ReadsInt.nil (W : World) (k : IntKind) : ReadsInt W k none ([] : List Int).length [] := ⟨rfl, by simp, fun h => absurd h (Nat.lt_irrefl 0)⟩
theorem ReadsInt.drewN {W : World} {k : IntKind} {A : Option Addr} {n : Nat} {xs : List Int} (h : ReadsInt W k A n xs) (m : Nat) : ReadsInt (W.drewN m) k A n xs := h
theorem below_set {w W : World} {g j : Nat} {v : Value} (h : Below w.heap.size w W) (hg : w.heap.size ≤ g) : Below w.heap.size w (W.setCell ⟨g, j, none⟩ v) := h.setCell hg _
theorem add_block (a : Addr) (i : Nat) : (a.add i).block = a.block := by unfold Addr.add; split <;> rfl
theorem ReadsOf.nil {α : Type} (enc : α → Value) (d : α) (W : World) : ReadsOf enc d W none ([] : List α).length [] := ⟨rfl, by simp, fun h => absurd h (Nat.lt_irrefl 0)⟩
theorem ReadsOf.drewN {α : Type} {enc : α → Value} {d : α} {W : World} {A : Option Addr} {n : Nat} {xs : List α} (h : ReadsOf enc d W A n xs) (m : Nat) : ReadsOf enc d (W.drewN m) A n xs := h
theorem cell_far {W : World} {p a : Addr} (h : a.block ≠ p.block) (u : Value) : (W.setCell p u).cell? a = W.cell? a := by
  have := Below.heap_setCell W p u a.block h
  simp [World.cell?, this]
theorem blk_put {w : World} {g : Nat} {t : TypeId} {cs cs' : Array Value} (h : w.heap[g]? = some (.cells cs t (0, 0))) (i : Nat) (u : Value) (e : cs.setIfInBounds i u = cs') : (w.setCell ⟨g, i, none⟩ u).heap[g]? = some (.cells cs' t (0, 0)) := e ▸ blk_set h i u
theorem below_drew1 {base : Nat} {w W : World} (h : Below base w W) : Below base w W.drew := h.drew
namespace Kd
section
variable {α β : Type} {d : Kd α} {d' : Kd β} {e e' base base' n : Nat} {ok ok' : Nat → Prop} {w W w1 W1 : World} {v u : Value} {xs : List α} {ys : List β} {A : Option Addr} {c : Nat}
end
section
variable {α : Type} {enc : α → Value} {h1 : ∀ x, (enc x).oneCell' = true} {w W : World} {A : Option Addr} {n g : Nat} {xs : List α}
end
end Kd
namespace Kd
section
variable {α : Type} {d : Kd α} {e base g : Nat} {ok : Nat → Prop} {w w1 : World} {v : Value} {xs : List α} {o : Obj}
theorem R_newB (h : d.R e w1 w.heap.size ok v xs) (hb : w.heap[g]? = some o) : d.R e w1 w.heap.size (fun k => ok k ∧ k ≠ g) v xs := R_mono (R_bound h) (fun k hk => ⟨hk.1, by have := blk_lt hb; have := hk.2.1; omega⟩)
end
end Kd
section
variable {P : Program} {ops : Array Oper} {rest : List Oper} {o : Oper} {a : Act} {Q : Exit → Act → World → Prop}
theorem box_event {W : World} (hgd : o.guard = none) {N : Tmp} (_hd : o.dst = some N) {cs : Array Value} {t : TypeId}
    (hrun : (execOp a.eval o).run P W = .ok (.value (.pointer (some ⟨W.heap.size, 0, none⟩))) (W.alloc (.cells cs t (0, 0))))
    (h : ∀ g, g = W.heap.size → ∀ w1, w1.heap[g]? = some (.cells cs t (0, 0)) → Below W.heap.size W w1 → wpList P ops Q rest (a.put o.dst (.pointer (some ⟨g, 0, none⟩))) w1) : wpList P ops Q (o :: rest) a W :=
  Kd.event_run hgd hrun (h _ rfl _ (blk_new W _) (below_alloc (Below.refl _ _) _))
end
namespace Kd
section
variable {α : Type} {enc : α → Value} {h1 : ∀ x, (enc x).oneCell' = true} {e base g n cap : Nat} {ok : Nat → Prop} {W : World} {xs : List α}
end
end Kd
section
variable {P : Program} {ops : Array Oper} {rest : List Oper} {o : Oper} {a : Act} {Q : Exit → Act → World → Prop}
theorem store_event {W w1 : World} (hgd : o.guard = none) {t : TypeId} {p : Tmp} {v : Operand} (_ho : o.op = .store t (.tmp p) v) (hN : o.dst = none)
    (hrun : (execOp a.eval o).run P W = .ok .skip w1) (h : ∀ w', w' = w1 → wpList P ops Q rest a w') : wpList P ops Q (o :: rest) a W := by
  refine wpList_plain hgd fun K hK => ?_
  unfold Oper.wp
  rw [hrun]
  show K (a.put o.dst undef) w1
  rw [hN]
  exact hK _ _ (h _ rfl)
end
namespace Kd
section
variable {α : Type} {enc : α → Value} {h1 : ∀ x, (enc x).oneCell' = true} {e base g n cap : Nat} {ok : Nat → Prop} {W : World} {xs : List α}
end
end Kd
section
variable {P : Program} {ops : Array Oper} {rest : List Oper} {o : Oper} {a : Act} {Q : Exit → Act → World → Prop} {W : World}
theorem gate_dst {N : Tmp} (_hN : o.dst = some N) (h : wpList P ops Q (o :: rest) a W) : wpList P ops Q (o :: rest) a W := h
theorem gate_store {t : TypeId} {p : Tmp} {v : Operand} (_ho : o.op = .store t (.tmp p) v) (h : wpList P ops Q (o :: rest) a W) : wpList P ops Q (o :: rest) a W := h
end
/-! ### 36. Events as_ one step of a region that draws (for one_, two_, three_) -/
section
variable {P : Program} {ops : Array Oper} {o : Oper} {a : Act} {Q : Exit → Act → World → Prop} {Kc : Act → World → Prop}
theorem event_step {W w1 : World} {v : Value} (hw : Region.wanted o (yielded ops a.tmps) = true) (hrun : (execOp a.eval o).run P W = .ok (.value v) w1) (h : Kc (a.put o.dst v) w1) : if Region.wanted o (yielded ops a.tmps) = true then Oper.wp P o a W Kc Q else Kc (a.put o.dst undef) W := by
  rw [if_pos hw]
  unfold Oper.wp
  rw [hrun]
  exact h
theorem box_step {W : World} (hw : Region.wanted o (yielded ops a.tmps) = true) {N : Tmp} (_hd : o.dst = some N) {cs : Array Value} {t : TypeId}
    (hrun : (execOp a.eval o).run P W = .ok (.value (.pointer (some ⟨W.heap.size, 0, none⟩))) (W.alloc (.cells cs t (0, 0))))
    (h : ∀ g, g = W.heap.size → ∀ w1, w1.heap[g]? = some (.cells cs t (0, 0)) → Below W.heap.size W w1 → Kc (a.put o.dst (.pointer (some ⟨g, 0, none⟩))) w1) : if Region.wanted o (yielded ops a.tmps) = true then Oper.wp P o a W Kc Q else Kc (a.put o.dst undef) W :=
  event_step hw hrun (h _ rfl _ (blk_new W _) (below_alloc (Below.refl _ _) _))
namespace Kd
variable {α : Type}
end Kd
end
/-! ### 37. Results of any shape -/
section
variable {P : Program} {tmps : Array Value} {w : World}
end
/-! ### 38. 'out = append(out[:k], out[k+1:]...)': an element taken out of a row of one's own, in place -/
namespace Kd
section
variable {P : Program} {α : Type}
end
section
variable {P : Program} {ops : Array Oper} {rest : List Oper} {o : Oper} {a : Act} {Q : Exit → Act → World → Prop} {Kc : Act → World → Prop} {α : Type}
end
end Kd

end Go.Proofs.YtmidohjfajbpmaaW.PrintWords
end
