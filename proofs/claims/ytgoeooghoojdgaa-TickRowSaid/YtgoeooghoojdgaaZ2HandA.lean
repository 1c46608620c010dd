/- Worlds in which all that was there stands as it stood: what each call of this program leaves. -/
import Derived.WalkKit
import Derived.Below
import Derived.OwnWalk
import Derived.WalkSpells
import Derived.Deep.Draws
import Derived.Maps.AppendAt
import Derived.Lib.ConvBytes
import Derived.Laws.BytesArg
import Derived.Laws.OwnMore
import Derived.Laws.AppendOwn
import Derived.Laws.Strings
import Derived.Test.YtgoeooghoojdgaaProg
import Derived.LoopTactic
import Derived.Outline
import Derived.Lib.Hide
import Derived.IntWalk
import Derived.WalkLawsBesides
import Derived.Laws.BitsAllLaws
import Derived.RegionTactic
import Derived.Deep.RegionHeld3
import Derived.Deep.QuietTactic
import Derived.BigQuiet
import Derived.Test.YtgoeooghoojdgaaZ2Shelf
set_option linter.unusedVariables false
set_option linter.unusedSimpArgs false
set_option maxHeartbeats 4000000
namespace Go.Proofs.Ytgoeooghoojdgaa
open Go.RowKit

/-- All that lay in w lies in w' as it lay. -/
def Ext (w w' : World) : Prop := Below w.heap.size w w'
theorem Ext.refl (w : World) : Ext w w := Below.refl _ _
theorem Ext.size {a b : World} (h : Ext a b) : a.heap.size ≤ b.heap.size := Below.size h
theorem Ext.trans {a b c : World} (h : Ext a b) (k : Ext b c) : Ext a c := Below.trans h (Below.mono k h.size)
theorem Ext.drew {a w : World} (h : Ext a w) : Ext a w.drew := Below.drew h
theorem Ext.drewN {a w : World} (h : Ext a w) (n : Nat) : Ext a (w.drewN n) := Below.trans h ⟨rfl, rfl, rfl, Nat.le_refl _, fun _ _ => rfl⟩
theorem Ext.alloc {a w : World} (h : Ext a w) (o : Obj) : Ext a (w.alloc o) := Below.alloc h h.size o
theorem Ext.setCell {a w : World} (h : Ext a w) {p : Addr} (hp : a.heap.size ≤ p.block) (u : Value) : Ext a (w.setCell p u) := Below.setCell h hp u
theorem Ext.grown {a w w' : World} {row : Option Nat} (h : Ext a w) (hg : w.grownBy w' row) (hr : ∀ k, row = some k → a.heap.size ≤ k) : Ext a w' := Below.grown h hg h.size hr
theorem Ext.cell {w w' : World} {a : Addr} {v : Value} (hb : Ext w w') (h : w.cell? a = some v) : w'.cell? a = some v := cell_later hb h
theorem Ext.free {w w' : World} {a : Addr} (hb : Ext w w') (ha : a.block < w.heap.size) (h : w.frozen? a = false) : w'.frozen? a = false := (Below.frozen hb ha).trans h
theorem Ext.below {w w' : World} (h : Ext w w') : Below w.heap.size w w' := h
/-- '[]byte(s)' of a string. -/
theorem Ext.bytes (w : World) (e : TypeId) (s : ByteArray) : Ext w (Lib.bytesWorld w e s) :=
  ⟨rfl, rfl, rfl, by rw [Lib.bytesWorld_size]; omega, fun j hj => Lib.bytesWorld_at_old w e s j hj⟩

/-- The smaller, the greater of two whole numbers, as Go tells them: a word that the walk does not part on. -/
def imin (x y : Int) : Int := if y < x then y else x
def imax (x y : Int) : Int := if x < y then y else x
theorem imin_eq (x y : Int) : imin x y = min x y := by unfold imin; split <;> omega
theorem imax_eq (x y : Int) : imax x y = max x y := by unfold imax; split <;> omega
theorem min_two_int (ats : Array TypeId) (ty : TypeId) (k k' : IntKind) (x y : Int) : Builtin.min_ ats ty #[.int k x, .int k' y] = pure (.int k (imin x y)) := by
  simp only [Builtin.min_, List.foldlM_cons, List.foldlM_nil, Builtin.min2, imin]; rfl
theorem min_three_int (ats : Array TypeId) (ty : TypeId) (k k' k'' : IntKind) (x y z : Int) : Builtin.min_ ats ty #[.int k x, .int k' y, .int k'' z] = pure (.int k (imin (imin x y) z)) := by
  simp only [Builtin.min_, List.foldlM_cons, List.foldlM_nil, Builtin.min2, imin]; rfl
theorem max_two_int (ats : Array TypeId) (ty : TypeId) (k k' : IntKind) (x y : Int) : Builtin.max_ ats ty #[.int k x, .int k' y] = pure (.int k (imax x y)) := by
  simp only [Builtin.max_, List.foldlM_cons, List.foldlM_nil, Builtin.max2, imax]; rfl

/-- A region that draws leaves one goal for each order: prove it once. -/
theorem once {P G : Prop} (f : P → G) (p : P) : G := f p
theorem wrap_i64_fit (n : Int) (h0 : -9223372036854775808 ≤ n) (h1 : n < 9223372036854775808) : IntKind.i64.wrap n = n := by
  simp [IntKind.wrap, IntKind.bits, IntKind.signed]; omega

end Go.Proofs.Ytgoeooghoojdgaa
set_option linter.unusedVariables false
set_option linter.unusedSimpArgs false
set_option maxHeartbeats 4000000
namespace Go.Proofs.Ytgoeooghoojdgaa
open Go.RowKit

def u8v (b : UInt8) : Value := .int .u8 (b.toNat : Int)

/-- Block g begins with these bytes, and they may be written. -/
def RowB (w : World) (g : Nat) (l : List UInt8) : Prop :=
  ∃ (cs : Array Value) (e lo hi : Nat), w.heap[g]? = some (.cells cs e (lo, hi)) ∧ (hi ≤ lo ∨ l.length ≤ lo) ∧ ∀ i (h : i < l.length), cs[i]? = some (u8v l[i])

theorem RowB.lt {w : World} {g : Nat} {l : List UInt8} (h : RowB w g l) : g < w.heap.size := by
  obtain ⟨cs, e, lo, hi, hg, _⟩ := h
  exact (Array.getElem?_eq_some_iff.1 hg).1
theorem RowB.cell {w : World} {g : Nat} {l : List UInt8} (h : RowB w g l) {i : Nat} (hi : i < l.length) : w.cell? ⟨g, i, none⟩ = some (.int .u8 ((l[i]).toNat : Int)) := by
  obtain ⟨cs, e, lo, hi', hg, _, hc⟩ := h
  simp only [World.cell?, hg]
  exact hc i hi
theorem RowB.cellD {w : World} {g : Nat} {l : List UInt8} (h : RowB w g l) {i : Nat} (hi : i < l.length) : w.cell? ⟨g, i, none⟩ = some (.int .u8 ((l.getD i 0).toNat : Int)) := by
  rw [h.cell hi]; simp [List.getD, hi]
theorem RowB.free {w : World} {g : Nat} {l : List UInt8} (h : RowB w g l) {i : Nat} (hi : i < l.length) : w.frozen? ⟨g, i, none⟩ = false := by
  obtain ⟨cs, e, lo, hi', hg, hf, _⟩ := h
  simp only [World.frozen?, hg]
  rcases hf with hf | hf
  · simp only [Bool.and_eq_false_imp, decide_eq_true_eq, decide_eq_false_iff_not]; omega
  · simp only [Bool.and_eq_false_imp, decide_eq_true_eq, decide_eq_false_iff_not]; omega
theorem RowB.ext {w w' : World} {g : Nat} {l : List UInt8} (h : RowB w g l) (k : Ext w w') : RowB w' g l := by
  have hl := h.lt
  obtain ⟨cs, e, lo, hi, hg, r⟩ := h
  exact ⟨cs, e, lo, hi, (k.below.block g hl).trans hg, r⟩
theorem RowB.set {w : World} {g : Nat} {l : List UInt8} (h : RowB w g l) (i : Nat) (b : UInt8) : RowB (w.setCell ⟨g, i, none⟩ (.int .u8 (b.toNat : Int))) g (l.set i b) := by
  obtain ⟨cs, e, lo, hi, hg, hf, hc⟩ := h
  refine ⟨cs.setIfInBounds i (u8v b), e, lo, hi, ?_, by simpa using hf, ?_⟩
  · simp only [World.setCell, Array.getElem?_modify, hg]
    simp [u8v]
  · intro j hj
    have hj' : j < l.length := by simpa using hj
    rw [Array.getElem?_setIfInBounds]
    by_cases e : i = j
    · subst e
      have hlt : i < cs.size := by
        have := hc i hj'
        exact (Array.getElem?_eq_some_iff.1 this).1
      simp [hlt]
    · rw [if_neg e, hc j hj', List.getElem_set_ne e]
theorem RowB.bytes (w : World) (e : TypeId) (s : ByteArray) : RowB (Lib.bytesWorld w e s) w.heap.size s.data.toList := by
  refine ⟨_, e, _, _, Lib.bytesWorld_at_new w e s, .inr ?_, ?_⟩
  · simp [Lib.bytesCells]
  · intro i hi
    have hi' : i < s.data.size := by simpa using hi
    simp only [Lib.bytesCells]
    rw [Array.getElem?_append_left (by simpa using hi')]
    simp [u8v, hi']
    exact ⟨s.data[i], by simp [hi'], rfl⟩
theorem RowB.made (w : World) (n : Nat) (e : TypeId) : RowB (w.alloc (.cells (madeCells #[.int .u8 0] n) e)) w.heap.size (List.replicate n 0) := by
  refine ⟨_, e, 0, 0, heap_alloc_new w _, .inl (Nat.le_refl _), ?_⟩
  intro i hi
  have h := congrArg (fun l : List Value => l[i]?) (toList_madeCells_one (.int .u8 0) n)
  simp only [Array.getElem?_toList] at h
  rw [h]
  have : i < n := by simpa using hi
  simp [this, u8v]
theorem RowB.string {P : Program} {w : World} {g : Nat} {l : List UInt8} (h : RowB w g l) (src e dst : TypeId) (hs : P.underlying src = some (.slice e)) (he : P.underlying e = some (.int .u8)) (hd : P.underlying dst = some .string) (cap : Nat) :
    (convert src dst (.slice (some ⟨g, 0, none⟩) l.length cap)).run P w = .ok (.string ⟨l.toArray⟩) w := by
  have hr := run_convert_bytes_arg (P := P) w src e hs he g 0 l.length cap (l.map fun b => (b.toNat : Int)) (by simp) (fun i hi => by
    rw [Nat.zero_add, h.cell hi]; simp [List.getD, hi]) dst hd
  rw [hr]
  congr 2
  unfold strOfNums
  congr 1
  simp [List.map_map, Function.comp_def]

def vals (l : List UInt8) : List Value := l.map u8v

/-- A whole slice of bytes: its block has just its capacity's cells, none of them marked. -/
def RowC (w : World) (g cap : Nat) (l : List UInt8) : Prop :=
  ∃ (cs : Array Value) (e lo hi : Nat), w.heap[g]? = some (.cells cs e (lo, hi)) ∧ cs.size = cap ∧ l.length ≤ cap ∧ (hi ≤ lo ∨ cap ≤ lo) ∧ ∀ i (h : i < l.length), cs[i]? = some (u8v l[i])
theorem RowC.row {w : World} {g cap : Nat} {l : List UInt8} (h : RowC w g cap l) : RowB w g l := by
  obtain ⟨cs, e, lo, hi, hg, hs, hl, hf, hc⟩ := h
  exact ⟨cs, e, lo, hi, hg, by omega, hc⟩
theorem RowC.bytes (w : World) (e : TypeId) (s : ByteArray) : RowC (Lib.bytesWorld w e s) w.heap.size (grownCap w s.size 0 e) s.data.toList := by
  have hge := grownCap_ge w s.size 0 e
  have hsz : (Lib.bytesCells w e s).size = grownCap w s.size 0 e := by
    have h1 : s.data.size = s.size := rfl
    simp [Lib.bytesCells]; omega
  obtain ⟨cs, e', lo, hi, hg, _, hc⟩ := RowB.bytes w e s
  have hg2 := Lib.bytesWorld_at_new w e s
  rw [hg2] at hg
  simp only [Option.some.injEq, Obj.cells.injEq, Prod.mk.injEq] at hg
  obtain ⟨rfl, rfl, rfl, rfl⟩ := hg
  exact ⟨_, _, _, _, hg2, hsz, by simpa using hge, .inr (by omega), hc⟩
theorem RowC.ext {w w' : World} {g cap : Nat} {l : List UInt8} (h : RowC w g cap l) (k : Ext w w') : RowC w' g cap l := by
  have hl := h.row.lt
  obtain ⟨cs, e, lo, hi, hg, r⟩ := h
  exact ⟨cs, e, lo, hi, (k.below.block g hl).trans hg, r⟩
theorem RowC.append {P : Program} {w : World} {g cap : Nat} {l : List UInt8} (h : RowC w g cap l) (t ty e : TypeId) (i : TypeInfo) (ht : P.underlying t = some (.slice e)) (hi : P.info? e = some i) (hz : i.zero = some (.int .u8 0)) (hs : i.size = 1) (hb : i.bytes = 1)
    (a : Addr) (c : Nat) (b : UInt8) (ha : w.cell? a = some (u8v b)) (hsmall : l.length + 1 ≤ 140737488355328) (base : Nat) (hbase : base ≤ g) (hbw : base ≤ w.heap.size) :
    ∃ g' cap' w', (Builtin.append_ #[t, t] ty #[.slice (some ⟨g, 0, none⟩) l.length cap, .slice (some a) 1 c]).run P w = .ok (.slice (some ⟨g', 0, none⟩) (l.length + 1) cap') w' ∧ RowC w' g' cap' (l ++ [b]) ∧ base ≤ g' ∧ w.grownBy w' (some g) := by
  have hnews : ∀ j v, [u8v b][j]? = some v → w.cell? (a.add j) = some v := by
    intro j v hj
    cases j with
    | zero => simp at hj; subst hj; rw [Addr.add]; simpa using ha
    | succ j => simp at hj
  obtain ⟨cs, e', lo, hi', hg, hsz, hlc, hf, hc⟩ := h
  by_cases hroom : l.length + 1 ≤ cap
  · have hfc := run_firstCells_some (P := P) w i.size 1 a 1 c [u8v b] (by simp [hs]) hnews
    have hcell : ∃ v, w.cell? ⟨g, l.length, none⟩ = some v := by
      have : l.length < cs.size := by omega
      exact ⟨cs[l.length], by simp [World.cell?, hg, this]⟩
    obtain ⟨v0, hv0⟩ := hcell
    have hfree : w.frozen? ⟨g, l.length, none⟩ = false := by
      simp only [World.frozen?, hg]
      rcases hf with hf | hf
      · simp only [Bool.and_eq_false_imp, decide_eq_true_eq, decide_eq_false_iff_not]; omega
      · simp only [Bool.and_eq_false_imp, decide_eq_true_eq, decide_eq_false_iff_not]; omega
    have hadd : (⟨g, 0, none⟩ : Addr).add l.length = ⟨g, l.length, none⟩ := by unfold Addr.add; split <;> simp_all
    have hadd0 : (⟨g, l.length, none⟩ : Addr).add 0 = ⟨g, l.length, none⟩ := by unfold Addr.add; simp
    refine ⟨g, cap, w.setCell ⟨g, l.length, none⟩ (u8v b), ?_, ?_, hbase, ?_⟩
    · rw [hs] at hfc
      simp [Builtin.append_, run_underlying ht, sizeOf, typeInfo, hi, Builtin.lenOf, hroom, hs, hfc, storeCells, hadd, hadd0, u8v, run_store_int, stored, hv0, hfree]
    · refine ⟨cs.setIfInBounds l.length (u8v b), e', lo, hi', ?_, by simpa using hsz, by simpa using hroom, hf, ?_⟩
      · simp only [World.setCell, Array.getElem?_modify, hg]
        simp
      · intro j hj
        rw [Array.getElem?_setIfInBounds]
        by_cases e1 : l.length = j
        · subst e1
          have : l.length < cs.size := by omega
          simp [this]
        · have hj' : j < l.length := by simp at hj; omega
          rw [if_neg e1, hc j hj', List.getElem_append_left hj']
    · exact ⟨rfl, rfl, rfl, by simp, fun k _ hk => Below.heap_setCell w _ _ k (fun e => hk (by simp [e]))⟩
  · have hro : RowB w g l := ⟨cs, e', lo, hi', hg, by omega, hc⟩
    have hr := run_append_grow (P := P) w t ty e i (.int .u8 0) ht hi hz ⟨g, 0, none⟩ l.length cap (vals l) (by simp [vals, hs]) (by
      intro j v hj
      have hj' : j < l.length := by
        have := (List.getElem?_eq_some_iff.1 hj).1
        simpa [vals] using this
      have hadd : (⟨g, 0, none⟩ : Addr).add j = ⟨g, j, none⟩ := by unfold Addr.add; split <;> simp_all
      rw [hadd, hro.cell hj']
      simp [vals, hj', u8v] at hj
      rw [← hj]) a 1 c [u8v b] (by simp [hs]) hnews (by omega) (by omega) (growslice_fits (by omega) (by rw [hb]; omega))
    have hge := grownCap_ge w (l.length + 1) cap e
    refine ⟨w.heap.size, _, _, hr, ⟨_, e, 0, 0, heap_alloc_new w.drew _, ?_, ?_, .inl (Nat.le_refl _), ?_⟩, hbw, ⟨rfl, rfl, rfl, by simp, fun k hk _ => Below.heap_alloc w.drew _ k hk⟩⟩
    · simp [vals, size_zeroCells, Value.cells]; omega
    · simpa using hge
    · intro j hj
      have hj2 : j < l.length + 1 := by simpa using hj
      rw [Array.getElem?_append_left (by simp [vals]; omega)]
      by_cases e1 : j < l.length
      · rw [Array.getElem?_append_left (by simpa [vals] using e1), List.getElem_append_left e1]
        simp [vals, e1]
      · have e2 : j = l.length := by omega
        subst e2
        rw [Array.getElem?_append_right (by simp [vals])]
        simp [vals]

theorem wpList_append_rowc {P : Program} {w : World} {ops : Array Oper} {rest : List Oper} {o : Oper} {a : Act} {Q : Exit → Act → World → Prop} (hgd : o.guard = none) (s x : Operand) (t : TypeId)
    (ho : o.op = .call { callee := .builtin .append, args := #[s, x], argTypes := #[t, t] })
    (base : Nat) (e : TypeId) (i : TypeInfo) (ht : P.underlying t = some (.slice e)) (hi : P.info? e = some i) (hz : i.zero = some (.int .u8 0)) (hs : i.size = 1) (hb : i.bytes = 1)
    (g n cap : Nat) (l : List UInt8) (hn : l.length = n) (hsv : a.eval s = .slice (some ⟨g, 0, none⟩) n cap) (h : RowC w g cap l)
    (ad : Addr) (c : Nat) (b : UInt8) (hx : a.eval x = .slice (some ad) 1 c) (ha : w.cell? ad = some (u8v b)) (hsmall : l.length + 1 ≤ 140737488355328) (hbase : base ≤ g) (hbw : base ≤ w.heap.size)
    (hk : ∀ g' cap' w', RowC w' g' cap' (l ++ [b]) → base ≤ g' → w.grownBy w' (some g) → wpList P ops Q rest (a.put o.dst (.slice (some ⟨g', 0, none⟩) (n + 1) cap')) w') : wpList P ops Q (o :: rest) a w :=
  wpList_plain hgd fun _ hK => by
    subst hn
    obtain ⟨g', cap', w', hr, h2, h3, h4⟩ := h.append (P := P) t o.type e i ht hi hz hs hb ad c b ha hsmall base hbase hbw
    unfold Oper.wp execOp
    simp only [ho, resolve, invoke, builtin, Sem.run_bind, Sem.run_pure, Result.andThen_ok, List.map_toArray, List.map_cons, List.map_nil, hsv, hx, hr]
    exact hK _ _ (hk g' cap' w' h2 h3 h4)

end Go.Proofs.Ytgoeooghoojdgaa
set_option linter.unusedVariables false
set_option linter.unusedSimpArgs false
set_option maxHeartbeats 4000000
namespace Skiff

/-- One bit of the division. -/
def stepBit (x : Nat) : Nat := if x % 2 = 1 then (x / 2) ^^^ 3988292384 else x / 2
def stepN : Nat → Nat → Nat
  | 0, x => x
  | n + 1, x => stepN n (stepBit x)
def stepByte (x b : Nat) : Nat := stepN 8 (x ^^^ b)
def crcState (x : Nat) : List UInt8 → Nat
  | [] => x
  | b :: l => crcState (stepByte x b.toNat) l
def crcSum (l : List UInt8) : Nat := 4294967295 - crcState 4294967295 l

theorem stepBit_lt {x : Nat} (h : x < 2 ^ 32) : stepBit x < 2 ^ 32 := by
  unfold stepBit
  split
  · exact Nat.xor_lt_two_pow (by omega) (by decide)
  · omega
theorem stepN_lt (n : Nat) : ∀ {x : Nat}, x < 2 ^ 32 → stepN n x < 2 ^ 32 := by
  induction n with
  | zero => intro x h; exact h
  | succ n ih => intro x h; exact ih (stepBit_lt h)
theorem stepByte_lt {x b : Nat} (hx : x < 2 ^ 32) (hb : b < 2 ^ 8) : stepByte x b < 2 ^ 32 :=
  stepN_lt 8 (Nat.xor_lt_two_pow hx (by omega))

end Skiff
set_option linter.unusedVariables false
set_option linter.unusedSimpArgs false
set_option maxHeartbeats 4000000
namespace Skiff

/-- A string's bytes; a string of bytes. -/
def bl (s : ByteArray) : List UInt8 := s.data.toList
def mk (l : List UInt8) : ByteArray := ⟨l.toArray⟩
@[simp] theorem bl_mk (l : List UInt8) : bl (mk l) = l := by simp [bl, mk]
@[simp] theorem mk_bl (s : ByteArray) : mk (bl s) = s := rfl
@[simp] theorem bl_append (s t : ByteArray) : bl (s ++ t) = bl s ++ bl t := by simp [bl]
@[simp] theorem bl_length (s : ByteArray) : (bl s).length = s.size := by simp [bl]
@[simp] theorem mk_size (l : List UInt8) : (mk l).size = l.length := by simp [mk, ByteArray.size]
theorem bl_extract (s : ByteArray) (a b : Nat) : bl (s.extract a b) = ((bl s).drop a).take (b - a) := by
  simp [bl, List.extract_eq_take_drop]
theorem bl_inj {s t : ByteArray} (h : bl s = bl t) : s = t := by rw [← mk_bl s, ← mk_bl t, h]

theorem toList_bl (s : ByteArray) : s.toList = bl s := Go.ByteArray.toList_eq s
theorem beq_bl (a b : ByteArray) : (a.toList == b.toList) = decide (bl a = bl b) := by
  rw [toList_bl, toList_bl]
  by_cases h : bl a = bl b
  · simp [h]
  · simp [h]

/-- The lowest byte of a number; so many bytes, the lowest first; bytes' number. -/
def lowByte (x : Int) : UInt8 := UInt8.ofNat (x % 256).toNat
def low (x : Int) : Nat → List UInt8
  | 0 => []
  | k + 1 => lowByte x :: low (x / 256) k
def num : List UInt8 → Nat
  | [] => 0
  | b :: l => b.toNat + 256 * num l
theorem lowByte_toNat (x : Int) : ((lowByte x).toNat : Int) = x % 256 := by
  have h := Int.emod_nonneg x (show (256 : Int) ≠ 0 by decide)
  have h2 := Int.emod_lt_of_pos x (show (0 : Int) < 256 by decide)
  unfold lowByte
  rw [UInt8.toNat_ofNat']
  omega
@[simp] theorem low_length (k : Nat) : ∀ x, (low x k).length = k := by
  induction k with
  | zero => intro x; rfl
  | succ k ih => intro x; simp [low, ih]
theorem num_lt : ∀ l : List UInt8, num l < 256 ^ l.length
  | [] => by simp [num]
  | b :: l => by
    have h := num_lt l
    have hb := b.toNat_lt
    simp only [num, List.length_cons, Nat.pow_succ]
    have : 256 * num l + 256 ≤ 256 ^ l.length * 256 := by
      have := Nat.mul_le_mul_left 256 (Nat.succ_le_of_lt h)
      rw [Nat.mul_comm (256 ^ l.length)]
      omega
    omega
theorem num_low (k : Nat) : ∀ x : Int, 0 ≤ x → x < 256 ^ k → (num (low x k) : Int) = x := by
  induction k with
  | zero => intro x h0 h1; simp [low, num] at *; omega
  | succ k ih =>
    intro x h0 h1
    have h2 : x / 256 < 256 ^ k := by
      rw [Int.pow_succ] at h1
      exact Int.ediv_lt_of_lt_mul (by decide) h1
    have h3 := ih (x / 256) (by omega) h2
    simp only [low, num, Int.natCast_add, Int.natCast_mul, lowByte_toNat, h3]
    omega
theorem lowByte_cat (b : UInt8) (n : Nat) : lowByte ((b.toNat + 256 * n : Nat) : Int) = b := by
  apply UInt8.toNat_inj.1
  have h := lowByte_toNat ((b.toNat + 256 * n : Nat) : Int)
  have hb := b.toNat_lt
  omega
theorem low_num : ∀ l : List UInt8, low (num l : Int) l.length = l
  | [] => rfl
  | b :: l => by
    have h : ((num (b :: l) : Nat) : Int) / 256 = (num l : Int) := by
      have hb := b.toNat_lt
      simp only [num]
      omega
    show lowByte ((num (b :: l) : Nat) : Int) :: low (((num (b :: l) : Nat) : Int) / 256) l.length = _
    rw [h, low_num l, show (num (b :: l)) = b.toNat + 256 * num l from rfl, lowByte_cat]

theorem low_snoc (x : Int) : ∀ j : Nat, low x (j + 1) = low x j ++ [lowByte (x / 256 ^ j)]
  | 0 => by simp [low]
  | j + 1 => by
    have h := low_snoc (x / 256) j
    rw [show low x (j + 1 + 1) = lowByte x :: low (x / 256) (j + 1) from rfl, h, Int.ediv_ediv_of_nonneg (by decide)]
    rw [show (256 : Int) * 256 ^ j = 256 ^ (j + 1) by rw [Int.pow_succ, Int.mul_comm]]
    rfl

theorem low_set (x : Int) (j m : Nat) : (low x j ++ List.replicate (m + 1) 0).set j (lowByte (x / 256 ^ j)) = low x (j + 1) ++ List.replicate m 0 := by
  rw [List.set_append_right _ _ (by simp), low_length, Nat.sub_self, List.replicate_succ, List.set_cons_zero, low_snoc]
  simp

/-- A record. -/
structure Rec where
  seq : Int
  slot : Int
  size : Int
  sum : Int
  deriving DecidableEq
def Rec.zero : Rec := ⟨0, 0, 0, 0⟩
def within (x a b : Int) : Bool := decide (a ≤ x) && decide (x ≤ b)
def recMay (r : Rec) : Bool := within r.seq 1 1048576 && within r.slot 0 1 && within r.size 1 288 && within r.sum 0 4294967295
theorem within_iff {x a b : Int} : within x a b = true ↔ a ≤ x ∧ x ≤ b := by simp [within]
theorem recMay_iff {r : Rec} : recMay r = true ↔ (1 ≤ r.seq ∧ r.seq ≤ 1048576) ∧ (0 ≤ r.slot ∧ r.slot ≤ 1) ∧ (1 ≤ r.size ∧ r.size ≤ 288) ∧ 0 ≤ r.sum ∧ r.sum ≤ 4294967295 := by
  simp [recMay, within_iff, and_assoc]
def compl (l : List UInt8) : List UInt8 := l.map fun b => ~~~ b
@[simp] theorem compl_length (l : List UInt8) : (compl l).length = l.length := by simp [compl]
def half (r : Rec) : List UInt8 := low r.seq 4 ++ (low r.slot 2 ++ (low r.size 2 ++ low r.sum 4))
def put (r : Rec) : List UInt8 := half r ++ compl (half r)
@[simp] theorem half_length (r : Rec) : (half r).length = 12 := by simp [half]
@[simp] theorem put_length (r : Rec) : (put r).length = 24 := by simp [put]
/-- The record that these bytes tell, whatever they are. -/
def told (l : List UInt8) : Rec := ⟨num (l.take 4), num ((l.drop 4).take 2), num ((l.drop 6).take 2), num ((l.drop 8).take 4)⟩
def get (l : List UInt8) : Option Rec := if l.length = 24 ∧ compl (l.take 12) = l.drop 12 ∧ recMay (told l) = true then some (told l) else none

theorem told_put {r : Rec} (h : recMay r = true) (l : List UInt8) : told (half r ++ l) = r := by
  obtain ⟨h1, h2, h3, h4⟩ := recMay_iff.1 h
  have e1 := num_low 4 r.seq (by omega) (by omega)
  have e2 := num_low 2 r.slot (by omega) (by omega)
  have e3 := num_low 2 r.size (by omega) (by omega)
  have e4 := num_low 4 r.sum (by omega) (by omega)
  have t1 : (half r ++ l).take 4 = low r.seq 4 := by simp [half, List.take_append]
  have t2 : ((half r ++ l).drop 4).take 2 = low r.slot 2 := by simp [half, List.take_append, List.drop_append]
  have t3 : ((half r ++ l).drop 6).take 2 = low r.size 2 := by simp [half, List.take_append, List.drop_append]
  have t4 : ((half r ++ l).drop 8).take 4 = low r.sum 4 := by simp [half, List.take_append, List.drop_append, List.drop_of_length_le]
  unfold told
  rw [t1, t2, t3, t4, e1, e2, e3, e4]
theorem get_put {r : Rec} (h : recMay r = true) : get (put r) = some r := by
  have e : told (put r) = r := told_put h _
  unfold get
  rw [e, if_pos ⟨put_length r, by simp [put, List.take_append, List.drop_append], h⟩]
theorem half_told (l : List UInt8) (h : 12 ≤ l.length) : half (told l) = l.take 12 := by
  have e1 := low_num (l.take 4)
  have e2 := low_num ((l.drop 4).take 2)
  have e3 := low_num ((l.drop 6).take 2)
  have e4 := low_num ((l.drop 8).take 4)
  rw [show (l.take 4).length = 4 by simp; omega] at e1
  rw [show ((l.drop 4).take 2).length = 2 by simp; omega] at e2
  rw [show ((l.drop 6).take 2).length = 2 by simp; omega] at e3
  rw [show ((l.drop 8).take 4).length = 4 by simp; omega] at e4
  unfold half told
  simp only
  rw [e1, e2, e3, e4]
  have s3 : (l.drop 6).take 6 = (l.drop 6).take 2 ++ (l.drop 8).take 4 := by
    rw [show 6 = 2 + 4 from rfl, List.take_add, List.drop_drop]
  have s2 : (l.drop 4).take 8 = (l.drop 4).take 2 ++ (l.drop 6).take 6 := by
    rw [show 8 = 2 + 6 from rfl, List.take_add, List.drop_drop]
  have s1 : l.take 12 = l.take 4 ++ (l.drop 4).take 8 := by
    rw [show 12 = 4 + 8 from rfl, List.take_add]
  rw [← s3, ← s2, ← s1]
theorem put_told {l : List UInt8} (h : l.length = 24) (hc : compl (l.take 12) = l.drop 12) : put (told l) = l := by
  unfold put
  rw [half_told l (by omega), hc, List.take_append_drop]
theorem get_some {l : List UInt8} {r : Rec} (h : get l = some r) : recMay r = true ∧ put r = l := by
  unfold get at h
  split at h
  · rename_i hc
    obtain rfl := Option.some.inj h
    exact ⟨hc.2.2, put_told hc.1 hc.2.1⟩
  · cases h
theorem get_none {l : List UInt8} (h : get l = none) (r : Rec) (hr : recMay r = true) : put r ≠ l := by
  intro e
  rw [← e, get_put hr] at h
  cases h

end Skiff
set_option linter.unusedVariables false
set_option linter.unusedSimpArgs false
set_option maxHeartbeats 4000000
namespace Skiff

/-- What a byte of the word lets stand where so many bits of it are done. -/
def maskB (w : UInt8) (m : Nat) : UInt8 := w ||| UInt8.ofNat (255 <<< min m 8)
def tornB (b w : UInt8) (m : Nat) : UInt8 := b &&& maskB w m
def tornL : List UInt8 → List UInt8 → Nat → List UInt8
  | b :: bs, w :: ws, n => tornB b w n :: tornL bs ws (n - 8)
  | bs, _, _ => bs
/-- One bit more. -/
def bitB (x w : UInt8) (m : Nat) : UInt8 := if (w >>> UInt8.ofNat m) &&& 1 = 0 then x &&& ~~~ (1 <<< UInt8.ofNat m) else x

theorem maskB_zero (w : UInt8) : maskB w 0 = 255 := by
  have h : ∀ n : Fin 256, maskB (UInt8.ofFin n) 0 = 255 := by decide +kernel
  exact h w.toFin
theorem maskB_full (w : UInt8) (m : Nat) (h : 8 ≤ m) : maskB w m = w := by
  have e : maskB w m = maskB w 8 := by unfold maskB; rw [show min m 8 = min 8 8 by omega]
  rw [e]
  have h : ∀ n : Fin 256, maskB (UInt8.ofFin n) 8 = UInt8.ofFin n := by decide +kernel
  exact h w.toFin
theorem maskB_step (w : UInt8) (m : Nat) (h : m < 8) : maskB w (m + 1) = if (w >>> UInt8.ofNat m) &&& 1 = 0 then maskB w m &&& ~~~ (1 <<< UInt8.ofNat m) else maskB w m := by
  have h1 : ∀ (k : Fin 8) (n : Fin 256), maskB (UInt8.ofFin n) (k.val + 1) = if (UInt8.ofFin n >>> UInt8.ofNat k.val) &&& 1 = 0 then maskB (UInt8.ofFin n) k.val &&& ~~~ (1 <<< UInt8.ofNat k.val) else maskB (UInt8.ofFin n) k.val := by decide +kernel
  exact h1 ⟨m, h⟩ w.toFin
theorem tornB_step (b w : UInt8) (m : Nat) (h : m < 8) : tornB b w (m + 1) = bitB (tornB b w m) w m := by
  unfold tornB bitB
  rw [maskB_step w m h]
  split <;> simp [UInt8.and_assoc]
theorem tornB_zero (b w : UInt8) : tornB b w 0 = b := by
  unfold tornB
  rw [maskB_zero]
  have h : ∀ n : Fin 256, UInt8.ofFin n &&& 255 = UInt8.ofFin n := by decide +kernel
  exact h b.toFin
theorem tornL_zero : ∀ b w : List UInt8, tornL b w 0 = b
  | [], _ => by simp [tornL]
  | b :: bs, [] => by simp [tornL]
  | b :: bs, w :: ws => by simp [tornL, tornB_zero, tornL_zero bs ws]
@[simp] theorem tornL_length : ∀ (b w : List UInt8) (n : Nat), (tornL b w n).length = b.length
  | [], _, _ => by simp [tornL]
  | b :: bs, [], _ => by simp [tornL]
  | b :: bs, w :: ws, n => by simp [tornL, tornL_length bs ws]
/-- One bit more, in the row of bytes. -/
theorem tornL_step : ∀ (b w : List UInt8) (n : Nat), n < 8 * b.length → n < 8 * w.length → tornL b w (n + 1) = (tornL b w n).set (n / 8) (bitB ((tornL b w n).getD (n / 8) 0) (w.getD (n / 8) 0) (n % 8))
  | [], _, _, h, _ => by simp at h
  | b :: bs, [], _, _, h => by simp at h
  | b :: bs, w :: ws, n, h1, h2 => by
    by_cases h : n < 8
    · have e1 : n + 1 - 8 = 0 := by omega
      have e2 : n - 8 = 0 := by omega
      have e3 : n / 8 = 0 := by omega
      have e4 : n % 8 = n := by omega
      simp [tornL, e1, e2, e3, e4, tornB_step b w n h]
    · obtain ⟨m, rfl⟩ : ∃ m, n = m + 8 := ⟨n - 8, by omega⟩
      have ih := tornL_step bs ws m (by simp at h1; omega) (by simp at h2; omega)
      have e1 : m + 8 + 1 - 8 = m + 1 := by omega
      have e2 : m + 8 - 8 = m := by omega
      have e3 : (m + 8) / 8 = m / 8 + 1 := by omega
      have e4 : (m + 8) % 8 = m % 8 := by omega
      have t1 : tornB b w (m + 8 + 1) = tornB b w (m + 8) := by unfold tornB; rw [maskB_full w _ (by omega), maskB_full w _ (by omega)]
      simp only [tornL, e1, e2, e3, e4, t1, List.getD_cons_succ, List.set_cons_succ, ih]
/-- Byte by byte. -/
theorem tornL_at : ∀ (b w : List UInt8) (n j : Nat), j < b.length → j < w.length → (tornL b w n).getD j 0 = tornB (b.getD j 0) (w.getD j 0) (n - 8 * j)
  | [], _, _, _, h, _ => by simp at h
  | b :: bs, [], _, _, _, h => by simp at h
  | b :: bs, w :: ws, n, 0, _, _ => by simp [tornL]
  | b :: bs, w :: ws, n, j + 1, h1, h2 => by
    have ih := tornL_at bs ws (n - 8) j (by simpa using h1) (by simpa using h2)
    simp only [tornL, List.getD_cons_succ, ih, show n - 8 - 8 * j = n - 8 * (j + 1) by omega]

/-- The flash behind a torn word, behind a worn sector. -/
def tornF (f : List UInt8) (at_ : Nat) (w : List UInt8) (n : Nat) : List UInt8 := f.take at_ ++ tornL ((f.drop at_).take 4) w n ++ f.drop (at_ + 4)
def wornF (f : List UInt8) (at_ many : Nat) : List UInt8 := f.take at_ ++ List.replicate many 255 ++ f.drop (at_ + many)
def wordAt (x : Int) : Bool := within x 0 764 && decide (x % 4 = 0)
def tornMay (f : List UInt8) (at_ : Int) (w : List UInt8) (n : Int) : Bool := decide (f.length = 768) && wordAt at_ && decide (w.length = 4) && within n 0 32
def wornMay (f : List UInt8) (s n : Int) : Bool := decide (f.length = 768) && within s 0 7 && within n 0 96
def torn (f : List UInt8) (at_ : Int) (w : List UInt8) (n : Int) : Option (List UInt8) := if tornMay f at_ w n = true then some (tornF f at_.toNat w n.toNat) else none
def worn (f : List UInt8) (s n : Int) : Option (List UInt8) := if wornMay f s n = true then some (wornF f (96 * s.toNat) n.toNat) else none
def flash0 : List UInt8 := List.replicate 768 255
theorem flash0_length : flash0.length = 768 := List.length_replicate

end Skiff
set_option linter.unusedVariables false
set_option linter.unusedSimpArgs false
set_option maxHeartbeats 4000000
namespace Skiff

theorem tornF_length (f w : List UInt8) (a n : Nat) (h : a + 4 ≤ f.length) : (tornF f a w n).length = f.length := by
  unfold tornF
  simp
  omega
theorem tornF_at (f w : List UInt8) (a n i : Nat) (h : a + 4 ≤ f.length) (hw : w.length = 4) :
    (tornF f a w n).getD i 0 = if a ≤ i ∧ i < a + 4 then tornB (f.getD i 0) (w.getD (i - a) 0) (n - 8 * (i - a)) else f.getD i 0 := by
  have l1 : (f.take a).length = a := by simp; omega
  have l2 : (tornL ((f.drop a).take 4) w n).length = 4 := by simp; omega
  unfold tornF
  by_cases h1 : i < a
  · rw [if_neg (by omega), List.append_assoc, List.getD_eq_getElem?_getD, List.getElem?_append_left (by omega), List.getElem?_take, if_pos h1, ← List.getD_eq_getElem?_getD]
  · by_cases h2 : i < a + 4
    · rw [if_pos ⟨by omega, h2⟩, List.append_assoc, List.getD_eq_getElem?_getD, List.getElem?_append_right (by omega), l1, List.getElem?_append_left (by omega), ← List.getD_eq_getElem?_getD,
        tornL_at _ _ _ _ (by simp; omega) (by omega)]
      congr 1
      rw [List.getD_eq_getElem?_getD, List.getElem?_take, if_pos (by omega), List.getElem?_drop, show a + (i - a) = i by omega, ← List.getD_eq_getElem?_getD]
    · rw [if_neg (by omega), List.append_assoc, List.getD_eq_getElem?_getD, List.getElem?_append_right (by omega), l1, List.getElem?_append_right (by omega), l2, List.getElem?_drop, show a + 4 + (i - a - 4) = i by omega, ← List.getD_eq_getElem?_getD]

end Skiff
set_option linter.unusedVariables false
set_option linter.unusedSimpArgs false
set_option maxHeartbeats 4000000
namespace Go.Proofs.Ytgoeooghoojdgaa
open Go.RowKit Skiff

theorem info_u8 : (Try.prog.info? 5).map (fun i => (i.zero, i.size, i.bytes)) = some (some (.int .u8 0), 1, 1) := by kernel_rfl

theorem upTo_calls (x a b : Int) (w : World) :
    Calls Try.prog 41 #[.int .i64 x, .int .i64 a, .int .i64 b] w fun e w' => e = .returned (.bool (within x a b)) ∧ w = w' := by
  have hw : Hid (within x a b = (decide (a ≤ x) && decide (x ≤ b))) := rfl
  by_cases h : a ≤ x
  · have h1 : decide (a ≤ x) = true := by simpa using h
    go_enter Try.func41, Try.ntmps41
    go_wp2
    go_ret
    exact ⟨by rw [hw.out, h1]; rfl, rfl⟩
  · have h1 : decide (a ≤ x) = false := by simpa using h
    go_enter Try.func41, Try.ntmps41
    go_wp2
    go_ret
    exact ⟨by rw [hw.out, h1]; rfl, rfl⟩

theorem made_u8 (n : Nat) (h : n ≤ 140737488351232) (w : World) :
    (Instr.makeSlice 77 (.int .i64 (n : Int)) (.int .i64 (n : Int))).run Try.prog w = .ok (.slice (some ⟨w.heap.size, 0, none⟩) n n) (w.alloc (.cells (madeCells #[.int .u8 0] n) 5)) := by
  obtain ⟨i0, hi, hz0, hz1, hz2⟩ := info_parts info_u8
  have hr := run_make (P := Try.prog) w 77 5 i0 _ Try.underlying77 hi hz0 .i64 .i64 (n : Int) (n : Int) (by omega) (by omega) (by rw [hz2]; omega) (by omega)
  rw [hz1] at hr
  simp only [Nat.mul_one, Int.toNat_natCast] at hr
  exact hr

theorem mod_nat (x : Int) (m : Nat) (h : 0 < m) (h2 : m < 1000) : ∃ k : Nat, wrap64 ((IntKind.u64.wrap x).tmod (m : Int)) = (k : Int) ∧ k < m := by
  have h0 : 0 ≤ IntKind.u64.wrap x := by rw [IntKind.wrap_u64]; omega
  have h1 : IntKind.u64.wrap x < 18446744073709551616 := by rw [IntKind.wrap_u64]; omega
  generalize IntKind.u64.wrap x = y at *
  rw [Int.tmod_eq_emod_of_nonneg h0]
  have p0 := Int.emod_nonneg y (by omega : (m : Int) ≠ 0)
  have p1 := Int.emod_lt_of_pos y (by omega : 0 < (m : Int))
  refine ⟨(y % m).toNat, ?_, by omega⟩
  rw [wrap64]
  omega

end Go.Proofs.Ytgoeooghoojdgaa
set_option linter.unusedVariables false
set_option linter.unusedSimpArgs false
set_option maxHeartbeats 4000000
namespace Go.Proofs.Ytgoeooghoojdgaa
open Go.RowKit Skiff

theorem full_set (j m : Nat) : (List.replicate j (255 : UInt8) ++ List.replicate (m + 1) 0).set j 255 = List.replicate (j + 1) 255 ++ List.replicate m 0 := by
  rw [List.set_append_right _ _ (by simp), List.length_replicate, Nat.sub_self, List.replicate_succ, List.set_cons_zero, List.replicate_succ']
  simp

theorem rfull_calls (k : Nat) (hk : k ≤ 768) (w : World) :
    Calls Try.prog 40 #[.int .i64 (k : Int)] w fun e w' => e = .returned (.string (mk (List.replicate k 255))) ∧ Ext w w' := by
  have hmk := fun w => made_u8 k (by omega) w
  go_enter Try.func40, Try.ntmps40
  go_wp2
  go_loopw [4] (fun i wr => ∃ j : Nat, j ≤ k ∧ i = .int .i64 (j : Int) ∧ RowB wr w.heap.size (List.replicate j 255 ++ List.replicate (k - j) 0) ∧ Ext w wr) (fun i _ => k - (intOf i).toNat)
  case atStart => exact ⟨0, by omega, rfl, RowB.made _ _ _, (Ext.refl _).alloc _⟩
  case round =>
    obtain ⟨j, hj, rfl, hR, hE⟩ := hrel
    have hll : (List.replicate j (255 : UInt8) ++ List.replicate (k - j) (0 : UInt8)).length = k := by simp; omega
    by_cases hlt : j < k
    · have hcell := hR.cellD (i := j) (by omega)
      have hfree := hR.free (i := j) (by omega)
      obtain ⟨m, hm⟩ : ∃ m, k - j = m + 1 := ⟨k - j - 1, by omega⟩
      have hm2 : k - (j + 1) = m := by omega
      have HM := Lib.hid hm
      have HM2 := Lib.hid hm2
      clear hm hm2
      go_wp2
      go_roundw
      case rel => exact ⟨j + 1, by omega, by go_num, by have h1 := hR.set j 255; rw [HM.out, full_set] at h1; rw [HM2.out]; exact h1, hE.setCell (Nat.le_refl _) _⟩
      case measure => simp [intOf] <;> omega
    · obtain rfl : j = k := by omega
      have hr := hR.string (P := Try.prog) 77 5 9 Try.underlying77 Try.underlying5 Try.underlying9 j
      have hfin : List.replicate j (255 : UInt8) ++ List.replicate (j - j) (0 : UInt8) = List.replicate j 255 := by simp
      rw [hll, hfin] at hr
      go_wp2
      go_ret
      exact ⟨rfl, hE⟩

theorem rfull768_calls (w : World) : Calls Try.prog 40 #[.int .i64 768] w fun e w' => e = .returned (.string (mk flash0)) ∧ Ext w w' := rfull_calls 768 (by omega) w

theorem rblank_calls (w : World) :
    Calls Try.prog 18 #[] w fun e w' => e = .returned (.string (mk flash0)) ∧ Ext w w' := by
  go_enter Try.func18, Try.ntmps18
  go_wp2_with fail
  refine (rfull768_calls _).mono ?_
  rintro e w1 ⟨rfl, B1⟩
  go_wp2
  go_ret
  exact ⟨rfl, (by repeat (first | (with_reducible exact Ext.refl _) | (with_reducible assumption) | (with_reducible refine Ext.drewN ?_ _) | (with_reducible refine Ext.drew ?_) | (with_reducible refine Ext.alloc ?_ _) | (with_reducible refine Ext.setCell ?_ (by first | exact Nat.le_refl _ | (simp <;> omega)) _) | (with_reducible refine Ext.trans ?_ (by with_reducible assumption))))⟩

theorem flashMay_calls (s : ByteArray) (w : World) :
    Calls Try.prog 23 #[.string s] w fun e w' => e = .returned (.bool (decide (s.size = 768))) ∧ w = w' := by
  by_cases h : s.size = 768
  · have h1 : ((s.size : Int) == 768) = true := by rw [h]; rfl
    have h2 : Hid (decide (s.size = 768) = true) := by show _ = _; simpa using h
    clear h
    go_enter Try.func23, Try.ntmps23
    go_wp2
    go_ret
    exact ⟨by rw [h2.out]; rfl, rfl⟩
  · have h1 : ((s.size : Int) == 768) = false := by rw [beq_eq_false_iff_ne]; omega
    have h2 : Hid (decide (s.size = 768) = false) := by show _ = _; simpa using h
    clear h
    go_enter Try.func23, Try.ntmps23
    go_wp2
    go_ret
    exact ⟨by rw [h2.out]; rfl, rfl⟩

theorem rwordAt_calls (x : Int) (w : World) :
    Calls Try.prog 61 #[.int .i64 x] w fun e w' => e = .returned (.bool (wordAt x)) ∧ w = w' := by
  cases h1 : within x 0 764
  · have h2 : Hid (wordAt x = false) := by show _ = _; simp [wordAt, h1]
    have C := Lib.hid (fun w => upTo_calls x 0 764 w)
    rw [h1] at C
    clear h1
    go_enter Try.func61, Try.ntmps61
    go_wp2_with fail
    refine (C.out _).mono ?_
    rintro e w1 ⟨rfl, rfl⟩
    go_wp2
    go_ret
    exact ⟨by rw [h2.out]; rfl, rfl⟩
  · have hx := Skiff.within_iff.1 h1
    have ht : x.tmod 4 = x % 4 := Int.tmod_eq_emod_of_nonneg hx.1
    have C := Lib.hid (fun w => upTo_calls x 0 764 w)
    rw [h1] at C
    by_cases h4 : x % 4 = 0
    · have h2 : Hid (wordAt x = true) := by show _ = _; simp [wordAt, h1, h4]
      have h3 : (x % 4 == 0) = true := by rw [h4]; rfl
      clear ht h4 h1
      go_enter Try.func61, Try.ntmps61
      go_wp2_with fail
      refine (C.out _).mono ?_
      rintro e w2 ⟨rfl, rfl⟩
      go_wp2
      go_ret
      exact ⟨by rw [h2.out]; rfl, rfl⟩
    · have h2 : Hid (wordAt x = false) := by show _ = _; simp [wordAt, h1, h4]
      have h3 : (x % 4 == 0) = false := by rw [beq_eq_false_iff_ne]; exact h4
      clear ht h4 h1
      go_enter Try.func61, Try.ntmps61
      go_wp2_with fail
      refine (C.out _).mono ?_
      rintro e w3 ⟨rfl, rfl⟩
      go_wp2
      go_ret
      exact ⟨by rw [h2.out]; rfl, rfl⟩

def tornRes (o : Option (List UInt8)) : Value := match o with
  | some l => .tuple #[.string (mk l), .int .i64 0]
  | none => .tuple #[.string (mk []), .int .i64 200]

theorem bit_test (x : UInt8) (m : Nat) (hm : m < 8) : (bits .and .u8 ((x.toNat : Int) / 2 ^ m) 1 == 0) = decide ((x >>> UInt8.ofNat m) &&& 1 = 0) := by
  have h : ∀ (k : Fin 8) (n : Fin 256), (bits .and .u8 (((UInt8.ofFin n).toNat : Int) / 2 ^ k.val) 1 == 0) = decide ((UInt8.ofFin n >>> UInt8.ofNat k.val) &&& 1 = 0) := by decide +kernel
  exact h ⟨m, hm⟩ x.toFin

theorem bit_clear (y : UInt8) (m : Nat) (hm : m < 8) : bits .andNot .u8 (y.toNat : Int) (2 ^ m % 256) = ((y &&& ~~~ (1 <<< UInt8.ofNat m)).toNat : Int) := by
  have h : ∀ (k : Fin 8) (n : Fin 256), bits .andNot .u8 ((UInt8.ofFin n).toNat : Int) (2 ^ k.val % 256) = ((UInt8.ofFin n &&& ~~~ (1 <<< UInt8.ofNat k.val)).toNat : Int) := by decide +kernel
  exact h ⟨m, hm⟩ y.toFin

theorem set_getD_self (l : List UInt8) (i : Nat) : l.set i (l.getD i 0) = l := by
  by_cases h : i < l.length
  · rw [List.getD_eq_getElem?_getD, List.getElem?_eq_getElem h]
    exact List.set_getElem_self h
  · exact List.set_eq_of_length_le (by omega)

set_option maxRecDepth 100000 in
theorem rtorn_calls (f s : ByteArray) (x n : Int) (w : World) :
    Calls Try.prog 58 #[.string f, .int .i64 x, .string s, .int .i64 n] w fun e w' => e = .returned (tornRes (torn (bl f) x (bl s) n)) ∧ Ext w w' := by
  have C1 := Lib.hid (fun w => flashMay_calls f w)
  have C2 := Lib.hid (fun w => rwordAt_calls x w)
  have C3 := Lib.hid (fun w => upTo_calls n 0 32 w)
  by_cases h1 : f.size = 768
  case neg =>
    have HG : Hid (tornRes (torn (bl f) x (bl s) n) = .tuple #[.string (mk []), .int .i64 200]) := by
      show _ = _
      unfold torn tornMay
      rw [bl_length, decide_eq_false h1]; rfl
    rw [decide_eq_false h1] at C1
    clear h1
    go_enter Try.func58, Try.ntmps58
    go_wp2_with fail
    refine (C1.out _).mono ?_
    rintro e w1 ⟨rfl, rfl⟩
    go_wp2
    go_ret2
    exact ⟨congrArg Ending.returned HG.out.symm, (by repeat (first | (with_reducible exact Ext.refl _) | (with_reducible assumption) | (with_reducible refine Ext.drewN ?_ _) | (with_reducible refine Ext.drew ?_) | (with_reducible refine Ext.alloc ?_ _) | (with_reducible refine Ext.setCell ?_ (by first | exact Nat.le_refl _ | (simp <;> omega)) _) | (with_reducible refine Ext.trans ?_ (by with_reducible assumption))))⟩
  case pos =>
  cases h2 : wordAt x
  case false =>
    have HG : Hid (tornRes (torn (bl f) x (bl s) n) = .tuple #[.string (mk []), .int .i64 200]) := by
      show _ = _
      unfold torn tornMay
      rw [h2, Bool.and_false]; rfl
    rw [decide_eq_true h1] at C1
    rw [h2] at C2
    clear h1 h2
    go_enter Try.func58, Try.ntmps58
    go_wp2_with fail
    refine (C1.out _).mono ?_
    rintro e w2 ⟨rfl, rfl⟩
    go_wp2_with fail
    refine (C2.out _).mono ?_
    rintro e w3 ⟨rfl, rfl⟩
    go_wp2
    go_ret2
    exact ⟨congrArg Ending.returned HG.out.symm, (by repeat (first | (with_reducible exact Ext.refl _) | (with_reducible assumption) | (with_reducible refine Ext.drewN ?_ _) | (with_reducible refine Ext.drew ?_) | (with_reducible refine Ext.alloc ?_ _) | (with_reducible refine Ext.setCell ?_ (by first | exact Nat.le_refl _ | (simp <;> omega)) _) | (with_reducible refine Ext.trans ?_ (by with_reducible assumption))))⟩
  case true =>
  by_cases h3 : s.size = 4
  case neg =>
    have HG : Hid (tornRes (torn (bl f) x (bl s) n) = .tuple #[.string (mk []), .int .i64 200]) := by
      show _ = _
      unfold torn tornMay
      rw [bl_length s, decide_eq_false h3, Bool.and_false]; rfl
    have ht : ((s.size : Int) != 4) = true := by rw [bne_iff_ne]; omega
    rw [decide_eq_true h1] at C1
    rw [h2] at C2
    clear h1 h2
    go_enter Try.func58, Try.ntmps58
    go_wp2_with fail
    refine (C1.out _).mono ?_
    rintro e w4 ⟨rfl, rfl⟩
    go_wp2_with fail
    refine (C2.out _).mono ?_
    rintro e w5 ⟨rfl, rfl⟩
    go_wp2
    go_ret2
    exact ⟨congrArg Ending.returned HG.out.symm, (by repeat (first | (with_reducible exact Ext.refl _) | (with_reducible assumption) | (with_reducible refine Ext.drewN ?_ _) | (with_reducible refine Ext.drew ?_) | (with_reducible refine Ext.alloc ?_ _) | (with_reducible refine Ext.setCell ?_ (by first | exact Nat.le_refl _ | (simp <;> omega)) _) | (with_reducible refine Ext.trans ?_ (by with_reducible assumption))))⟩
  case pos =>
  have ht : ((s.size : Int) != 4) = false := by rw [h3]; rfl
  cases h4 : within n 0 32
  case false =>
    have HG : Hid (tornRes (torn (bl f) x (bl s) n) = .tuple #[.string (mk []), .int .i64 200]) := by
      show _ = _
      unfold torn tornMay
      rw [h4, Bool.and_false]; rfl
    rw [decide_eq_true h1] at C1
    rw [h2] at C2
    rw [h4] at C3
    clear h1 h2 h4
    go_enter Try.func58, Try.ntmps58
    go_wp2_with fail
    refine (C1.out _).mono ?_
    rintro e w6 ⟨rfl, rfl⟩
    go_wp2_with fail
    refine (C2.out _).mono ?_
    rintro e w7 ⟨rfl, rfl⟩
    go_wp2_with fail
    refine (C3.out _).mono ?_
    rintro e w8 ⟨rfl, rfl⟩
    go_wp2
    go_ret2
    exact ⟨congrArg Ending.returned HG.out.symm, (by repeat (first | (with_reducible exact Ext.refl _) | (with_reducible assumption) | (with_reducible refine Ext.drewN ?_ _) | (with_reducible refine Ext.drew ?_) | (with_reducible refine Ext.alloc ?_ _) | (with_reducible refine Ext.setCell ?_ (by first | exact Nat.le_refl _ | (simp <;> omega)) _) | (with_reducible refine Ext.trans ?_ (by with_reducible assumption))))⟩
  case true =>
  obtain ⟨hn0, hn1⟩ := Skiff.within_iff.1 h4
  have hx := h2
  unfold wordAt at hx
  obtain ⟨hx0, hx1⟩ := Skiff.within_iff.1 (Bool.and_eq_true_iff.1 hx).1
  obtain ⟨k, rfl⟩ := Int.eq_ofNat_of_zero_le hn0
  obtain ⟨j, rfl⟩ := Int.eq_ofNat_of_zero_le hx0
  have HG : Hid (torn (bl f) j (bl s) k = some (tornF (bl f) j (bl s) k)) := by
    show _ = _
    unfold torn tornMay
    rw [bl_length, bl_length, decide_eq_true h1, h2, decide_eq_true h3, h4]
    rfl
  rw [decide_eq_true h1] at C1
  rw [h2] at C2
  rw [h4] at C3
  clear hx h2 h4
  have kc := fun (w : World) => Lib.run_convert_string_bytes (P := Try.prog) w 9 77 5 (f.extract j (j + 4)) Try.underlying9 Try.underlying77 Try.underlying5
  have hb0 : bl (f.extract j (j + 4)) = ((bl f).drop j).take 4 := by rw [bl_extract]; simp
  have hsz : (f.extract j (j + 4)).size = 4 := by simp; omega
  rw [hsz] at kc
  have HB := Lib.hid hb0
  clear hb0
  go_enter Try.func58, Try.ntmps58
  go_wp2_with fail
  refine (C1.out _).mono ?_
  rintro e w9 ⟨rfl, rfl⟩
  go_wp2_with fail
  refine (C2.out _).mono ?_
  rintro e w10 ⟨rfl, rfl⟩
  go_wp2_with fail
  refine (C3.out _).mono ?_
  rintro e w11 ⟨rfl, rfl⟩
  go_wp2
  have hR0 := RowB.bytes w 5 (f.extract j (j + 4))
  rw [show (f.extract j (j + 4)).data.toList = ((bl f).drop j).take 4 from HB.out] at hR0
  have hE0 := Ext.bytes w 5 (f.extract j (j + 4))
  have hbl : (((bl f).drop j).take 4).length = 4 := by simp; omega
  generalize ((bl f).drop j).take 4 = b0 at hR0 hbl HB
  go_loopw [11] (fun i wr => ∃ c : Nat, c ≤ k ∧ i = .int .i64 (c : Int) ∧ RowB wr w.heap.size (tornL b0 (bl s) c) ∧ Ext w wr) (fun i _ => k - (intOf i).toNat)
  case atStart => exact ⟨0, by omega, rfl, by rw [tornL_zero]; exact hR0, hE0⟩
  case round =>
    clear hR0 hE0
    obtain ⟨c, hc, rfl, hR, hE⟩ := hrel
    have hll := tornL_length b0 (bl s) c
    by_cases hlt : c < k
    · have g0 : c / 8 < 4 := by omega
      have g1 : c % 8 < 8 := by omega
      have g2 : c / 8 < s.size := by omega
      have g3 : 0 ≤ (c : Int) / 8 ∧ (c : Int) / 8 < 4 := by omega
      have hbt := bit_test (s[c / 8]) (c % 8) g1
      have hst := tornL_step b0 (bl s) c (by omega) (by rw [bl_length]; omega)
      rw [show (bl s).getD (c / 8) 0 = s[c / 8] by rw [List.getD_eq_getElem?_getD, List.getElem?_eq_getElem (by rw [bl_length]; exact g2)]; rfl] at hst
      unfold bitB at hst
      have hcell := hR.cellD (i := c / 8) (by omega)
      have hfree := hR.free (i := c / 8) (by omega)
      generalize hy : (tornL b0 (bl s) c).getD (c / 8) 0 = y at hst hcell
      have HY := Lib.hid hy
      clear hy
      by_cases hb : (s[c / 8] >>> UInt8.ofNat (c % 8)) &&& 1 = 0
      · rw [decide_eq_true hb] at hbt
        rw [if_pos hb] at hst
        have hcl := bit_clear y (c % 8) g1
        generalize y &&& ~~~ (1 <<< UInt8.ofNat (c % 8)) = z at hst hcl
        have HST := Lib.hid hst
        clear hb hst
        go_wp2
        go_region
        go_wp2
        go_roundw
        case rel => exact ⟨c + 1, by omega, by go_num, by rw [HST.out]; exact (hR.set (c / 8) z).ext ((Ext.refl _).drew), (hE.setCell (Nat.le_refl _) _).drew⟩
        case measure => simp [intOf] <;> omega
      · rw [decide_eq_false hb] at hbt
        rw [if_neg hb] at hst
        have HST := Lib.hid hst
        clear hb hst
        go_wp2
        go_roundw
        case rel => exact ⟨c + 1, by omega, by go_num, by rw [HST.out, ← HY.out, set_getD_self]; exact hR, hE⟩
        case measure => simp [intOf] <;> omega
    · obtain rfl : c = k := by omega
      have hS := (hR.ext ((Ext.refl wr).drew)).string (P := Try.prog) 77 5 9 Try.underlying77 Try.underlying5 Try.underlying9 (grownCap w 4 0 5)
      rw [hll, hbl] at hS
      have hj1 : (j : Int) + 4 ≤ 768 := by omega
      have hj2 : IntKind.i64.wrap ((j : Int) + 4) = (j : Int) + 4 := wrap_i64_fit _ (by omega) (by omega)
      have hj3 : 0 ≤ (j : Int) + 4 := by omega
      have hj4 : ((j : Int) + 4).toNat = j + 4 := by omega
      have hj5 : (j : Int) ≤ 768 := by omega
      go_wp2
      go_region
      have he : f.extract 0 j ++ (⟨(tornL b0 (bl s) c).toArray⟩ : ByteArray) ++ f.extract (j + 4) 768 = mk (tornF (bl f) j (bl s) c) := by
        rw [← mk_bl (f.extract 0 j ++ (⟨(tornL b0 (bl s) c).toArray⟩ : ByteArray) ++ f.extract (j + 4) 768)]
        congr 1
        rw [bl_append, bl_append, bl_extract, bl_extract]
        have e1 : b0 = ((bl f).drop j).take 4 := by rw [← HB.out, bl_extract]; simp
        have e2 : bl (⟨(tornL b0 (bl s) c).toArray⟩ : ByteArray) = tornL b0 (bl s) c := bl_mk _
        rw [e2, e1]
        unfold tornF
        rw [List.take_of_length_le (by simp; omega : ((bl f).drop (j + 4)).length ≤ 768 - (j + 4))]
        simp
      rw [he]
      go_wp2
      go_ret2
      exact ⟨congrArg Ending.returned (congrArg tornRes HG.out).symm, (by repeat (first | (with_reducible exact Ext.refl _) | (with_reducible assumption) | (with_reducible refine Ext.drewN ?_ _) | (with_reducible refine Ext.drew ?_) | (with_reducible refine Ext.alloc ?_ _) | (with_reducible refine Ext.setCell ?_ (by first | exact Nat.le_refl _ | (simp <;> omega)) _) | (with_reducible refine Ext.trans ?_ (by with_reducible assumption))))⟩

end Go.Proofs.Ytgoeooghoojdgaa
set_option linter.unusedVariables false
set_option linter.unusedSimpArgs false
set_option maxHeartbeats 4000000
namespace Go.Proofs.Ytgoeooghoojdgaa
open Go.RowKit Skiff

theorem rworn_calls (f : ByteArray) (x n : Int) (w : World) :
    Calls Try.prog 57 #[.string f, .int .i64 x, .int .i64 n] w fun e w' => e = .returned (tornRes (worn (bl f) x n)) ∧ Ext w w' := by
  have C1 := Lib.hid (fun w => flashMay_calls f w)
  have C2 := Lib.hid (fun w => upTo_calls x 0 7 w)
  have C3 := Lib.hid (fun w => upTo_calls n 0 96 w)
  by_cases h1 : f.size = 768
  case neg =>
    have HG : Hid (tornRes (worn (bl f) x n) = .tuple #[.string (mk []), .int .i64 200]) := by
      show _ = _
      unfold worn wornMay
      rw [bl_length, decide_eq_false h1]; rfl
    rw [decide_eq_false h1] at C1
    clear h1
    go_enter Try.func57, Try.ntmps57
    go_wp2_with fail
    refine (C1.out _).mono ?_
    rintro e w1 ⟨rfl, rfl⟩
    go_wp2
    go_ret2
    exact ⟨congrArg Ending.returned HG.out.symm, (by repeat (first | (with_reducible exact Ext.refl _) | (with_reducible assumption) | (with_reducible refine Ext.drewN ?_ _) | (with_reducible refine Ext.drew ?_) | (with_reducible refine Ext.alloc ?_ _) | (with_reducible refine Ext.setCell ?_ (by first | exact Nat.le_refl _ | (simp <;> omega)) _) | (with_reducible refine Ext.trans ?_ (by with_reducible assumption))))⟩
  case pos =>
  cases h2 : within x 0 7
  case false =>
    have HG : Hid (tornRes (worn (bl f) x n) = .tuple #[.string (mk []), .int .i64 200]) := by
      show _ = _
      unfold worn wornMay
      rw [h2, Bool.and_false]; rfl
    rw [decide_eq_true h1] at C1
    rw [h2] at C2
    clear h1 h2
    go_enter Try.func57, Try.ntmps57
    go_wp2_with fail
    refine (C1.out _).mono ?_
    rintro e w2 ⟨rfl, rfl⟩
    go_wp2_with fail
    refine (C2.out _).mono ?_
    rintro e w3 ⟨rfl, rfl⟩
    go_wp2
    go_ret2
    exact ⟨congrArg Ending.returned HG.out.symm, (by repeat (first | (with_reducible exact Ext.refl _) | (with_reducible assumption) | (with_reducible refine Ext.drewN ?_ _) | (with_reducible refine Ext.drew ?_) | (with_reducible refine Ext.alloc ?_ _) | (with_reducible refine Ext.setCell ?_ (by first | exact Nat.le_refl _ | (simp <;> omega)) _) | (with_reducible refine Ext.trans ?_ (by with_reducible assumption))))⟩
  case true =>
  cases h4 : within n 0 96
  case false =>
    have HG : Hid (tornRes (worn (bl f) x n) = .tuple #[.string (mk []), .int .i64 200]) := by
      show _ = _
      unfold worn wornMay
      rw [h4, Bool.and_false]; rfl
    rw [decide_eq_true h1] at C1
    rw [h2] at C2
    rw [h4] at C3
    clear h1 h2 h4
    go_enter Try.func57, Try.ntmps57
    go_wp2_with fail
    refine (C1.out _).mono ?_
    rintro e w4 ⟨rfl, rfl⟩
    go_wp2_with fail
    refine (C2.out _).mono ?_
    rintro e w5 ⟨rfl, rfl⟩
    go_wp2_with fail
    refine (C3.out _).mono ?_
    rintro e w6 ⟨rfl, rfl⟩
    go_wp2
    go_ret2
    exact ⟨congrArg Ending.returned HG.out.symm, (by repeat (first | (with_reducible exact Ext.refl _) | (with_reducible assumption) | (with_reducible refine Ext.drewN ?_ _) | (with_reducible refine Ext.drew ?_) | (with_reducible refine Ext.alloc ?_ _) | (with_reducible refine Ext.setCell ?_ (by first | exact Nat.le_refl _ | (simp <;> omega)) _) | (with_reducible refine Ext.trans ?_ (by with_reducible assumption))))⟩
  case true =>
  obtain ⟨hn0, hn1⟩ := Skiff.within_iff.1 h4
  obtain ⟨hx0, hx1⟩ := Skiff.within_iff.1 h2
  obtain ⟨k, rfl⟩ := Int.eq_ofNat_of_zero_le hn0
  obtain ⟨j, rfl⟩ := Int.eq_ofNat_of_zero_le hx0
  have HG : Hid (worn (bl f) j k = some (wornF (bl f) (j * 96) k)) := by
    show _ = _
    unfold worn wornMay
    rw [bl_length, decide_eq_true h1, h2, h4, Nat.mul_comm j 96]
    rfl
  rw [decide_eq_true h1] at C1
  rw [h2] at C2
  rw [h4] at C3
  clear h2 h4
  have C4 := Lib.hid (fun w => rfull_calls k (by omega) w)
  have c0 : (j : Int) * 96 ≤ 768 := by omega
  have c1 : (j : Int) * 96 + (k : Int) ≤ 768 := by omega
  have c2 : 0 ≤ (j : Int) * 96 + (k : Int) := by omega
  have c3 : ((j : Int) * 96 + (k : Int)).toNat = j * 96 + k := by omega
  have c4 : ((j : Int) * 96).toNat = j * 96 := by omega
  have c5 : IntKind.i64.wrap ((j : Int) * 96 + (k : Int)) = (j : Int) * 96 + (k : Int) := wrap_i64_fit _ (by omega) (by omega)
  have c6 : 0 ≤ (j : Int) * 96 := by omega
  have he : f.extract 0 (j * 96) ++ mk (List.replicate k 255) ++ f.extract (j * 96 + k) 768 = mk (wornF (bl f) (j * 96) k) := by
    rw [← mk_bl (f.extract 0 (j * 96) ++ mk (List.replicate k 255) ++ f.extract (j * 96 + k) 768)]
    congr 1
    rw [bl_append, bl_append, bl_extract, bl_extract, bl_mk]
    unfold wornF
    rw [List.take_of_length_le (by simp; omega : ((bl f).drop (j * 96 + k)).length ≤ 768 - (j * 96 + k))]
    simp
  have hrs : (mk (List.replicate k 255)).size = k := by rw [mk_size, List.length_replicate]
  have hs1 : (f.extract 0 (j * 96)).size = j * 96 := by simp; omega
  have hs2 : (f.extract (j * 96 + k) 768).size = 768 - (j * 96 + k) := by simp; omega
  have q1 : ¬ (9223372036854775807 < j * 96 + k) := by omega
  have q2 : ¬ (9223372036854775807 < j * 96 + k + (768 - (j * 96 + k))) := by omega
  generalize mk (List.replicate k 255) = R at *
  have HE := Lib.hid he
  clear he
  go_enter Try.func57, Try.ntmps57
  go_wp2_with fail
  refine (C1.out _).mono ?_
  rintro e w7 ⟨rfl, rfl⟩
  go_wp2_with fail
  refine (C2.out _).mono ?_
  rintro e w8 ⟨rfl, rfl⟩
  go_wp2_with fail
  refine (C3.out _).mono ?_
  rintro e w9 ⟨rfl, rfl⟩
  go_wp2
  go_region_held3 (fun w' => Ext w w') ( repeat (first | (with_reducible exact Ext.refl _) | (with_reducible assumption) | (with_reducible refine Ext.drewN ?_ _) | (with_reducible refine Ext.drew ?_) | (with_reducible refine Ext.alloc ?_ _) | (with_reducible refine Ext.setCell ?_ (by first | exact Nat.le_refl _ | (simp <;> omega)) _) | (with_reducible refine Ext.trans ?_ (by with_reducible assumption)))) (first | (go_at_call 40; (with_reducible refine (C4.out _).mono ?_); rintro e w' ⟨rfl, B⟩))
  all_goals
    rw [HE.out]
    go_wp2
    go_ret2
    exact ⟨congrArg Ending.returned (congrArg tornRes HG.out).symm, (by first | assumption | exact (by repeat (first | (with_reducible exact Ext.refl _) | (with_reducible assumption) | (with_reducible refine Ext.drewN ?_ _) | (with_reducible refine Ext.drew ?_) | (with_reducible refine Ext.alloc ?_ _) | (with_reducible refine Ext.setCell ?_ (by first | exact Nat.le_refl _ | (simp <;> omega)) _) | (with_reducible refine Ext.trans ?_ (by with_reducible assumption)))))⟩

end Go.Proofs.Ytgoeooghoojdgaa
set_option linter.unusedVariables false
set_option linter.unusedSimpArgs false
set_option maxHeartbeats 4000000
namespace Go.Proofs.Ytgoeooghoojdgaa
open Go.RowKit Skiff
attribute [local go_sem ↓ high] min_two_int min_three_int max_two_int

theorem repeatL_one (b : UInt8) : ∀ c : Nat, Lib.repeatL [b] c = List.replicate c b
  | 0 => rfl
  | c + 1 => by rw [Lib.repeatL, repeatL_one b c, List.replicate_succ]; rfl

theorem repeat_calls (k : Nat) (hk : k ≤ 768) (w : World) :
    Calls Try.prog 67 #[.string ⟨#[255]⟩, .int .i64 (k : Int)] w fun e w' => e = .returned (.string (mk (List.replicate k 255))) ∧ Ext w w' := by
  have h := Go.Proofs.Try.strings_Repeat ⟨#[255]⟩ k w (by omega) (by show 1 * k ≤ _; omega)
  rw [repeatL_one] at h
  exact h

theorem nmay_calls (s : ByteArray) (w : World) :
    Calls Try.prog 25 #[.string s] w fun e w' => e = .returned (.bool (decide (s.size = 768))) ∧ w = w' := by
  by_cases h : s.size = 768
  · have h1 : ((s.size : Int) == 768) = true := by rw [h]; rfl
    have h2 : Hid (decide (s.size = 768) = true) := by show _ = _; simpa using h
    clear h
    go_enter Try.func25, Try.ntmps25
    go_wp2
    go_ret
    exact ⟨by rw [h2.out]; rfl, rfl⟩
  · have h1 : ((s.size : Int) == 768) = false := by rw [beq_eq_false_iff_ne]; omega
    have h2 : Hid (decide (s.size = 768) = false) := by show _ = _; simpa using h
    clear h
    go_enter Try.func25, Try.ntmps25
    go_wp2
    go_ret
    exact ⟨by rw [h2.out]; rfl, rfl⟩

theorem mask_or (b : UInt8) (m : Nat) (hm : m ≤ 8) : bits .or .u8 (b.toNat : Int) (255 * 2 ^ m % 256) = ((maskB b m).toNat : Int) := by
  have h : ∀ (k : Fin 9) (n : Fin 256), bits .or .u8 ((UInt8.ofFin n).toNat : Int) (255 * 2 ^ k.val % 256) = ((maskB (UInt8.ofFin n) k.val).toNat : Int) := by decide +kernel
  exact h ⟨m, by omega⟩ b.toFin

theorem mask_calls (b : UInt8) (n : Int) (h0 : -100 ≤ n) (h1 : n ≤ 100) (w : World) :
    Calls Try.prog 68 #[.int .u8 (b.toNat : Int), .int .i64 n] w fun e w' => e = .returned (.int .u8 ((maskB b n.toNat).toNat : Int)) ∧ w = w' := by
  have hm : imin (imax n 0) 8 = ((min n.toNat 8 : Nat) : Int) := by rw [imin_eq, imax_eq]; omega
  have hmb : maskB b n.toNat = maskB b (min n.toNat 8) := by unfold maskB; rw [show min (min n.toNat 8) 8 = min n.toNat 8 by omega]
  have HB := Lib.hid hmb
  have hle : min n.toNat 8 ≤ 8 := by omega
  clear hmb
  generalize min n.toNat 8 = m at *
  have ho := mask_or b m hle
  go_enter Try.func68, Try.ntmps68
  go_wp2
  go_ret
  exact ⟨by rw [HB.out]; rfl, rfl⟩

theorem sector_calls (x : Int) (w : World) :
    Calls Try.prog 62 #[.int .i64 x] w fun e w' => e = .returned (.bool (within x 0 7)) ∧ w = w' := by
  have hw : Hid (within x 0 7 = (decide (x ≥ 0) && decide (x < 8))) := by
    show _ = _
    unfold within
    rw [show decide (x ≤ 7) = decide (x < 8) by apply decide_eq_decide.2; omega]
  by_cases h : x ≥ 0
  · have h1 : decide (x ≥ 0) = true := by simpa using h
    go_enter Try.func62, Try.ntmps62
    go_wp2
    go_ret
    exact ⟨by rw [hw.out, h1]; rfl, rfl⟩
  · have h1 : decide (x ≥ 0) = false := by simpa using h
    go_enter Try.func62, Try.ntmps62
    go_wp2
    go_ret
    exact ⟨by rw [hw.out, h1]; rfl, rfl⟩

theorem begins_calls (x : Int) (w : World) :
    Calls Try.prog 63 #[.int .i64 x] w fun e w' => e = .returned (.bool (wordAt x)) ∧ w = w' := by
  have hw : Hid (wordAt x = (decide (x ≥ 0) && decide (x < 768) && (x % 4 == 0))) := by
    show _ = _
    unfold wordAt within
    by_cases h : x % 4 = 0
    · rw [show decide (x ≤ 764) = decide (x < 768) by apply decide_eq_decide.2; omega]
      simp [h]
    · simp [h]
  by_cases h : x ≥ 0
  · have h1 : decide (x ≥ 0) = true := by simpa using h
    by_cases h2 : x < 768
    · have h3 : decide (x < 768) = true := by simpa using h2
      go_enter Try.func63, Try.ntmps63
      go_wp2
      go_ret
      exact ⟨by rw [hw.out, h1, h3]; rfl, rfl⟩
    · have h3 : decide (x < 768) = false := by simpa using h2
      go_enter Try.func63, Try.ntmps63
      go_wp2
      go_ret
      exact ⟨by rw [hw.out, h1, h3]; rfl, rfl⟩
  · have h1 : decide (x ≥ 0) = false := by simpa using h
    go_enter Try.func63, Try.ntmps63
    go_wp2
    go_ret
    exact ⟨by rw [hw.out, h1]; rfl, rfl⟩

def putIn (f : List UInt8) (a : Nat) (t : List UInt8) : List UInt8 := f.take a ++ t ++ f.drop (a + t.length)
theorem with_calls (f t : ByteArray) (a : Nat) (hf : f.size = 768) (h : a + t.size ≤ 768) (w : World) :
    Calls Try.prog 66 #[.string f, .int .i64 (a : Int), .string t] w fun e w' => e = .returned (.string (mk (putIn (bl f) a (bl t)))) ∧ Ext w w' := by
  obtain ⟨n, hn⟩ : ∃ n, t.size = n := ⟨_, rfl⟩
  rw [hn] at h
  have c0 : (a : Int) ≤ 768 := by omega
  have c1 : (a : Int) + (n : Int) ≤ 768 := by omega
  have c2 : 0 ≤ (a : Int) + (n : Int) := by omega
  have c3 : ((a : Int) + (n : Int)).toNat = a + n := by omega
  have c4 : IntKind.i64.wrap ((a : Int) + (n : Int)) = (a : Int) + (n : Int) := wrap_i64_fit _ (by omega) (by omega)
  have hs1 : (f.extract 0 a).size = a := by simp; omega
  have hs2 : (f.extract (a + n) 768).size = 768 - (a + n) := by simp; omega
  have he : f.extract 0 a ++ t ++ f.extract (a + n) 768 = mk (putIn (bl f) a (bl t)) := by
    rw [← mk_bl (f.extract 0 a ++ t ++ f.extract (a + n) 768)]
    congr 1
    rw [bl_append, bl_append, bl_extract, bl_extract]
    unfold putIn
    rw [bl_length t, hn, List.take_of_length_le (by simp; omega : ((bl f).drop (a + n)).length ≤ 768 - (a + n))]
    simp
  have HE := Lib.hid he
  clear he
  have q1 : ¬ (9223372036854775807 < a + n) := by omega
  have q2 : ¬ (9223372036854775807 < a + n + (768 - (a + n))) := by omega
  go_enter Try.func66, Try.ntmps66
  go_wp2
  go_region
  rw [HE.out]
  go_wp2
  go_ret
  exact ⟨rfl, (by repeat (first | (with_reducible exact Ext.refl _) | (with_reducible assumption) | (with_reducible refine Ext.drewN ?_ _) | (with_reducible refine Ext.drew ?_) | (with_reducible refine Ext.alloc ?_ _) | (with_reducible refine Ext.setCell ?_ (by first | exact Nat.le_refl _ | (simp <;> omega)) _) | (with_reducible refine Ext.trans ?_ (by with_reducible assumption))))⟩

end Go.Proofs.Ytgoeooghoojdgaa
set_option linter.unusedVariables false
set_option linter.unusedSimpArgs false
set_option maxHeartbeats 4000000
namespace Go.Proofs.Ytgoeooghoojdgaa
open Go.RowKit Skiff

theorem nworn_calls (f : ByteArray) (x n : Int) (w : World) :
    Calls Try.prog 55 #[.string f, .int .i64 x, .int .i64 n] w fun e w' => e = .returned (tornRes (worn (bl f) x n)) ∧ Ext w w' := by
  have C1 := Lib.hid (fun w => nmay_calls f w)
  have C2 := Lib.hid (fun w => sector_calls x w)
  by_cases h1 : f.size = 768
  case neg =>
    have HG : Hid (tornRes (worn (bl f) x n) = .tuple #[.string (mk []), .int .i64 200]) := by
      show _ = _
      unfold worn wornMay
      rw [bl_length, decide_eq_false h1]; rfl
    rw [decide_eq_false h1] at C1
    clear h1
    go_enter Try.func55, Try.ntmps55
    go_wp2_with fail
    refine (C1.out _).mono ?_
    rintro e w1 ⟨rfl, rfl⟩
    go_wp2
    go_ret2
    exact ⟨congrArg Ending.returned HG.out.symm, (by repeat (first | (with_reducible exact Ext.refl _) | (with_reducible assumption) | (with_reducible refine Ext.drewN ?_ _) | (with_reducible refine Ext.drew ?_) | (with_reducible refine Ext.alloc ?_ _) | (with_reducible refine Ext.setCell ?_ (by first | exact Nat.le_refl _ | (simp <;> omega)) _) | (with_reducible refine Ext.trans ?_ (by with_reducible assumption))))⟩
  case pos =>
  cases h2 : within x 0 7
  case false =>
    have HG : Hid (tornRes (worn (bl f) x n) = .tuple #[.string (mk []), .int .i64 200]) := by
      show _ = _
      unfold worn wornMay
      rw [h2, Bool.and_false]; rfl
    rw [decide_eq_true h1] at C1
    rw [h2] at C2
    clear h1 h2
    go_enter Try.func55, Try.ntmps55
    go_wp2_with fail
    refine (C1.out _).mono ?_
    rintro e w2 ⟨rfl, rfl⟩
    go_wp2_with fail
    refine (C2.out _).mono ?_
    rintro e w3 ⟨rfl, rfl⟩
    go_wp2
    go_ret2
    exact ⟨congrArg Ending.returned HG.out.symm, (by repeat (first | (with_reducible exact Ext.refl _) | (with_reducible assumption) | (with_reducible refine Ext.drewN ?_ _) | (with_reducible refine Ext.drew ?_) | (with_reducible refine Ext.alloc ?_ _) | (with_reducible refine Ext.setCell ?_ (by first | exact Nat.le_refl _ | (simp <;> omega)) _) | (with_reducible refine Ext.trans ?_ (by with_reducible assumption))))⟩
  case true =>
  by_cases h4 : 0 ≤ n ∧ n ≤ 96
  case neg =>
    have HG : Hid (tornRes (worn (bl f) x n) = .tuple #[.string (mk []), .int .i64 200]) := by
      show _ = _
      unfold worn wornMay
      rw [show within n 0 96 = false by cases h : within n 0 96; rfl; exact absurd (Skiff.within_iff.1 h) h4, Bool.and_false]; rfl
    rw [decide_eq_true h1] at C1
    rw [h2] at C2
    clear h1 h2
    by_cases h5 : n < 0
    · clear h4
      have t1 : decide (n < 0) = true := by simpa using h5
      go_enter Try.func55, Try.ntmps55
      go_wp2_with fail
      refine (C1.out _).mono ?_
      rintro e w4 ⟨rfl, rfl⟩
      go_wp2_with fail
      refine (C2.out _).mono ?_
      rintro e w5 ⟨rfl, rfl⟩
      go_wp2
      go_ret2
      exact ⟨congrArg Ending.returned HG.out.symm, (by repeat (first | (with_reducible exact Ext.refl _) | (with_reducible assumption) | (with_reducible refine Ext.drewN ?_ _) | (with_reducible refine Ext.drew ?_) | (with_reducible refine Ext.alloc ?_ _) | (with_reducible refine Ext.setCell ?_ (by first | exact Nat.le_refl _ | (simp <;> omega)) _) | (with_reducible refine Ext.trans ?_ (by with_reducible assumption))))⟩
    · have h6 : n > 96 := by omega
      clear h4
      have t1 : decide (n < 0) = false := by simpa using h5
      have t2 : decide (n > 96) = true := by simpa using h6
      go_enter Try.func55, Try.ntmps55
      go_wp2_with fail
      refine (C1.out _).mono ?_
      rintro e w6 ⟨rfl, rfl⟩
      go_wp2_with fail
      refine (C2.out _).mono ?_
      rintro e w7 ⟨rfl, rfl⟩
      go_wp2
      go_ret2
      exact ⟨congrArg Ending.returned HG.out.symm, (by repeat (first | (with_reducible exact Ext.refl _) | (with_reducible assumption) | (with_reducible refine Ext.drewN ?_ _) | (with_reducible refine Ext.drew ?_) | (with_reducible refine Ext.alloc ?_ _) | (with_reducible refine Ext.setCell ?_ (by first | exact Nat.le_refl _ | (simp <;> omega)) _) | (with_reducible refine Ext.trans ?_ (by with_reducible assumption))))⟩
  case pos =>
  obtain ⟨hn0, hn1⟩ := h4
  obtain ⟨hx0, hx1⟩ := Skiff.within_iff.1 h2
  obtain ⟨k, rfl⟩ := Int.eq_ofNat_of_zero_le hn0
  obtain ⟨j, rfl⟩ := Int.eq_ofNat_of_zero_le hx0
  have HG : Hid (worn (bl f) j k = some (putIn (bl f) (j * 96) (bl (mk (List.replicate k 255))))) := by
    show _ = _
    unfold worn wornMay putIn wornF
    rw [bl_length, decide_eq_true h1, h2, show within (k : Int) 0 96 = true from Skiff.within_iff.2 ⟨hn0, hn1⟩, bl_mk, List.length_replicate, Nat.mul_comm j 96]
    rfl
  rw [decide_eq_true h1] at C1
  rw [h2] at C2
  clear h2
  have C4 := Lib.hid (fun w => repeat_calls k (by omega) w)
  have hrs : (mk (List.replicate k 255)).size = k := by rw [mk_size, List.length_replicate]
  have C5 := Lib.hid (fun w => with_calls f (mk (List.replicate k 255)) (j * 96) h1 (by rw [hrs]; omega) w)
  rw [show ((j * 96 : Nat) : Int) = (j : Int) * 96 by omega] at C5
  generalize mk (List.replicate k 255) = R at *
  have t1 : decide ((k : Int) < 0) = false := decide_eq_false (by omega)
  have t2 : decide ((k : Int) > 96) = false := decide_eq_false (by omega)
  go_enter Try.func55, Try.ntmps55
  go_wp2_with fail
  refine (C1.out _).mono ?_
  rintro e w8 ⟨rfl, rfl⟩
  go_wp2_with fail
  refine (C2.out _).mono ?_
  rintro e w9 ⟨rfl, rfl⟩
  go_wp2_with fail
  refine (C4.out _).mono ?_
  rintro e w1 ⟨rfl, B1⟩
  go_wp2_with fail
  refine (C5.out _).mono ?_
  rintro e w2 ⟨rfl, B2⟩
  go_wp2
  go_ret2
  exact ⟨congrArg Ending.returned (congrArg tornRes HG.out).symm, (by repeat (first | (with_reducible exact Ext.refl _) | (with_reducible assumption) | (with_reducible refine Ext.drewN ?_ _) | (with_reducible refine Ext.drew ?_) | (with_reducible refine Ext.alloc ?_ _) | (with_reducible refine Ext.setCell ?_ (by first | exact Nat.le_refl _ | (simp <;> omega)) _) | (with_reducible refine Ext.trans ?_ (by with_reducible assumption))))⟩

end Go.Proofs.Ytgoeooghoojdgaa
set_option linter.unusedVariables false
set_option linter.unusedSimpArgs false
set_option maxHeartbeats 4000000
namespace Go.Proofs.Ytgoeooghoojdgaa
open Go.RowKit Skiff

theorem and_byte (a b : UInt8) : bits .and .u8 (a.toNat : Int) (b.toNat : Int) = ((a &&& b).toNat : Int) := by
  have ha := a.toNat_lt
  have hb := b.toNat_lt
  have e : (BitVec.ofInt 8 (a.toNat : Int) &&& BitVec.ofInt 8 (b.toNat : Int)).toNat = (a &&& b).toNat := by
    rw [BitVec.toNat_and, BitVec.ofInt_natCast, BitVec.ofInt_natCast, BitVec.toNat_ofNat, BitVec.toNat_ofNat, Nat.mod_eq_of_lt (by omega), Nat.mod_eq_of_lt (by omega), UInt8.toNat_and]
  show IntKind.u8.wrap (((BitVec.ofInt 8 (a.toNat : Int)) &&& (BitVec.ofInt 8 (b.toNat : Int))).toNat : Int) = _
  rw [e]
  have hv := (a &&& b).toNat_lt
  generalize (a &&& b).toNat = v at hv ⊢
  simp [IntKind.wrap, IntKind.bits, IntKind.signed]
  omega

theorem take_set (T b : List UInt8) (c : Nat) (h1 : c < T.length) (h2 : c < b.length) : (T.take c ++ b.drop c).set c (T.getD c 0) = T.take (c + 1) ++ b.drop (c + 1) := by
  have hl : (T.take c).length = c := by simp; omega
  rw [List.set_append_right _ _ (by omega), hl, Nat.sub_self, List.drop_eq_getElem_cons h2, List.set_cons_zero, List.take_succ_eq_append_getElem h1, List.append_assoc, List.getD_eq_getElem?_getD, List.getElem?_eq_getElem h1]
  rfl

theorem ntorn_calls (f s : ByteArray) (x n : Int) (w : World) :
    Calls Try.prog 56 #[.string f, .int .i64 x, .string s, .int .i64 n] w fun e w' => e = .returned (tornRes (torn (bl f) x (bl s) n)) ∧ Ext w w' := by
  have C1 := Lib.hid (fun w => nmay_calls f w)
  have C2 := Lib.hid (fun w => begins_calls x w)
  by_cases h1 : f.size = 768
  case neg =>
    have HG : Hid (tornRes (torn (bl f) x (bl s) n) = .tuple #[.string (mk []), .int .i64 200]) := by
      show _ = _
      unfold torn tornMay
      rw [bl_length, decide_eq_false h1]; rfl
    rw [decide_eq_false h1] at C1
    clear h1
    go_enter Try.func56, Try.ntmps56
    go_wp2_with fail
    refine (C1.out _).mono ?_
    rintro e w1 ⟨rfl, rfl⟩
    go_wp2
    go_ret2
    exact ⟨congrArg Ending.returned HG.out.symm, (by repeat (first | (with_reducible exact Ext.refl _) | (with_reducible assumption) | (with_reducible refine Ext.drewN ?_ _) | (with_reducible refine Ext.drew ?_) | (with_reducible refine Ext.alloc ?_ _) | (with_reducible refine Ext.setCell ?_ (by first | exact Nat.le_refl _ | (simp <;> omega)) _) | (with_reducible refine Ext.trans ?_ (by with_reducible assumption))))⟩
  case pos =>
  cases h2 : wordAt x
  case false =>
    have HG : Hid (tornRes (torn (bl f) x (bl s) n) = .tuple #[.string (mk []), .int .i64 200]) := by
      show _ = _
      unfold torn tornMay
      rw [h2, Bool.and_false]; rfl
    rw [decide_eq_true h1] at C1
    rw [h2] at C2
    clear h1 h2
    go_enter Try.func56, Try.ntmps56
    go_wp2_with fail
    refine (C1.out _).mono ?_
    rintro e w2 ⟨rfl, rfl⟩
    go_wp2_with fail
    refine (C2.out _).mono ?_
    rintro e w3 ⟨rfl, rfl⟩
    go_wp2
    go_ret2
    exact ⟨congrArg Ending.returned HG.out.symm, (by repeat (first | (with_reducible exact Ext.refl _) | (with_reducible assumption) | (with_reducible refine Ext.drewN ?_ _) | (with_reducible refine Ext.drew ?_) | (with_reducible refine Ext.alloc ?_ _) | (with_reducible refine Ext.setCell ?_ (by first | exact Nat.le_refl _ | (simp <;> omega)) _) | (with_reducible refine Ext.trans ?_ (by with_reducible assumption))))⟩
  case true =>
  by_cases h3 : s.size = 4
  case neg =>
    have HG : Hid (tornRes (torn (bl f) x (bl s) n) = .tuple #[.string (mk []), .int .i64 200]) := by
      show _ = _
      unfold torn tornMay
      rw [bl_length s, decide_eq_false h3, Bool.and_false]; rfl
    have ht : ((s.size : Int) != 4) = true := by rw [bne_iff_ne]; omega
    rw [decide_eq_true h1] at C1
    rw [h2] at C2
    clear h1 h2
    go_enter Try.func56, Try.ntmps56
    go_wp2_with fail
    refine (C1.out _).mono ?_
    rintro e w4 ⟨rfl, rfl⟩
    go_wp2_with fail
    refine (C2.out _).mono ?_
    rintro e w5 ⟨rfl, rfl⟩
    go_wp2
    go_ret2
    exact ⟨congrArg Ending.returned HG.out.symm, (by repeat (first | (with_reducible exact Ext.refl _) | (with_reducible assumption) | (with_reducible refine Ext.drewN ?_ _) | (with_reducible refine Ext.drew ?_) | (with_reducible refine Ext.alloc ?_ _) | (with_reducible refine Ext.setCell ?_ (by first | exact Nat.le_refl _ | (simp <;> omega)) _) | (with_reducible refine Ext.trans ?_ (by with_reducible assumption))))⟩
  case pos =>
  have ht : ((s.size : Int) != 4) = false := by rw [h3]; rfl
  by_cases h4 : 0 ≤ n ∧ n ≤ 32
  case neg =>
    have HG : Hid (tornRes (torn (bl f) x (bl s) n) = .tuple #[.string (mk []), .int .i64 200]) := by
      show _ = _
      unfold torn tornMay
      rw [show within n 0 32 = false by cases h : within n 0 32; rfl; exact absurd (Skiff.within_iff.1 h) h4, Bool.and_false]; rfl
    rw [decide_eq_true h1] at C1
    rw [h2] at C2
    clear h1 h2
    by_cases h5 : n < 0
    · clear h4
      have t1 : decide (n < 0) = true := by simpa using h5
      go_enter Try.func56, Try.ntmps56
      go_wp2_with fail
      refine (C1.out _).mono ?_
      rintro e w6 ⟨rfl, rfl⟩
      go_wp2_with fail
      refine (C2.out _).mono ?_
      rintro e w7 ⟨rfl, rfl⟩
      go_wp2
      go_ret2
      exact ⟨congrArg Ending.returned HG.out.symm, (by repeat (first | (with_reducible exact Ext.refl _) | (with_reducible assumption) | (with_reducible refine Ext.drewN ?_ _) | (with_reducible refine Ext.drew ?_) | (with_reducible refine Ext.alloc ?_ _) | (with_reducible refine Ext.setCell ?_ (by first | exact Nat.le_refl _ | (simp <;> omega)) _) | (with_reducible refine Ext.trans ?_ (by with_reducible assumption))))⟩
    · have h6 : n > 32 := by omega
      clear h4
      have t1 : decide (n < 0) = false := by simpa using h5
      have t2 : decide (n > 32) = true := by simpa using h6
      go_enter Try.func56, Try.ntmps56
      go_wp2_with fail
      refine (C1.out _).mono ?_
      rintro e w8 ⟨rfl, rfl⟩
      go_wp2_with fail
      refine (C2.out _).mono ?_
      rintro e w9 ⟨rfl, rfl⟩
      go_wp2
      go_ret2
      exact ⟨congrArg Ending.returned HG.out.symm, (by repeat (first | (with_reducible exact Ext.refl _) | (with_reducible assumption) | (with_reducible refine Ext.drewN ?_ _) | (with_reducible refine Ext.drew ?_) | (with_reducible refine Ext.alloc ?_ _) | (with_reducible refine Ext.setCell ?_ (by first | exact Nat.le_refl _ | (simp <;> omega)) _) | (with_reducible refine Ext.trans ?_ (by with_reducible assumption))))⟩
  case pos =>
  obtain ⟨hn0, hn1⟩ := h4
  have hx := h2
  unfold wordAt at hx
  obtain ⟨hx0, hx1⟩ := Skiff.within_iff.1 (Bool.and_eq_true_iff.1 hx).1
  obtain ⟨k, rfl⟩ := Int.eq_ofNat_of_zero_le hn0
  obtain ⟨j, rfl⟩ := Int.eq_ofNat_of_zero_le hx0
  have HG : Hid (torn (bl f) j (bl s) k = some (tornF (bl f) j (bl s) k)) := by
    show _ = _
    unfold torn tornMay
    rw [bl_length, bl_length, decide_eq_true h1, h2, decide_eq_true h3, show within (k : Int) 0 32 = true from Skiff.within_iff.2 ⟨hn0, hn1⟩]
    rfl
  rw [decide_eq_true h1] at C1
  rw [h2] at C2
  clear hx h2
  have t1 : decide ((k : Int) < 0) = false := decide_eq_false (by omega)
  have t2 : decide ((k : Int) > 32) = false := decide_eq_false (by omega)
  have kc := fun (w : World) => Lib.run_convert_string_bytes (P := Try.prog) w 9 77 5 (f.extract j (j + 4)) Try.underlying9 Try.underlying77 Try.underlying5
  have hb0 : bl (f.extract j (j + 4)) = ((bl f).drop j).take 4 := by rw [bl_extract]; simp
  have hsz : (f.extract j (j + 4)).size = 4 := by simp; omega
  rw [hsz] at kc
  have HB := Lib.hid hb0
  clear hb0
  go_enter Try.func56, Try.ntmps56
  go_wp2_with fail
  refine (C1.out _).mono ?_
  rintro e w10 ⟨rfl, rfl⟩
  go_wp2_with fail
  refine (C2.out _).mono ?_
  rintro e w11 ⟨rfl, rfl⟩
  go_wp2
  have hR0 := RowB.bytes w 5 (f.extract j (j + 4))
  rw [show (f.extract j (j + 4)).data.toList = ((bl f).drop j).take 4 from HB.out] at hR0
  have hE0 := Ext.bytes w 5 (f.extract j (j + 4))
  have hbl : (((bl f).drop j).take 4).length = 4 := by simp; omega
  generalize ((bl f).drop j).take 4 = b0 at hR0 hbl HB
  go_loopw [41] (fun i wr => ∃ c : Nat, c ≤ 4 ∧ i = .int .i64 (c : Int) ∧ RowB wr w.heap.size ((tornL b0 (bl s) k).take c ++ b0.drop c) ∧ Ext w wr) (fun i _ => 4 - (intOf i).toNat)
  case atStart => exact ⟨0, by omega, rfl, by simpa using hR0, hE0⟩
  case round =>
    clear hR0 hE0
    obtain ⟨c, hc, rfl, hR, hE⟩ := hrel
    have hll : ((tornL b0 (bl s) k).take c ++ b0.drop c).length = 4 := by simp; omega
    by_cases hlt : c < 4
    · have hcell := hR.cellD (i := c) (by omega)
      have hfree := hR.free (i := c) (by omega)
      have hy : ((tornL b0 (bl s) k).take c ++ b0.drop c).getD c 0 = b0.getD c 0 := by
        have hl : ((tornL b0 (bl s) k).take c).length = c := by simp; omega
        rw [List.getD_eq_getElem?_getD, List.getElem?_append_right (by omega), hl, Nat.sub_self, List.getElem?_drop, Nat.add_zero, ← List.getD_eq_getElem?_getD]
      have hts := take_set (tornL b0 (bl s) k) b0 c (by simp; omega) (by omega)
      rw [tornL_at b0 (bl s) k c (by omega) (by rw [bl_length]; omega)] at hts
      unfold tornB at hts
      rw [hy] at hcell
      have g2 : c < s.size := by omega
      rw [show (bl s).getD c 0 = s[c] by rw [List.getD_eq_getElem?_getD, List.getElem?_eq_getElem (by rw [bl_length]; exact g2)]; rfl] at hts
      have M := Lib.hid (fun w => mask_calls s[c] ((k : Int) - 8 * (c : Int)) (by omega) (by omega) w)
      rw [show ((k : Int) - 8 * (c : Int)).toNat = k - 8 * c by omega] at M
      generalize b0.getD c 0 = y at hts hcell
      have hand := and_byte y (maskB s[c] (k - 8 * c))
      generalize maskB s[c] (k - 8 * c) = m at hts M hand
      generalize y &&& m = z at hts hand
      have HT := Lib.hid hts
      have e1 : IntKind.i64.wrap (8 * (c : Int)) = 8 * (c : Int) := wrap_i64_fit _ (by omega) (by omega)
      have e2 : IntKind.i64.wrap ((k : Int) - 8 * (c : Int)) = (k : Int) - 8 * (c : Int) := wrap_i64_fit _ (by omega) (by omega)
      have e3 : (c : Int) < 4 := by omega
      clear hts hy
      go_wp2
      go_region_law (first | (go_simp; go_at_call 68; (with_reducible refine (M.out _).mono ?_); rintro e w' ⟨rfl, rfl⟩))
      all_goals
        go_wp2
        go_roundw
        case rel => exact ⟨c + 1, by omega, by go_num, by rw [← HT.out]; exact (hR.set c z).ext ((Ext.refl _).drew), (hE.setCell (Nat.le_refl _) _).drew⟩
        case measure => simp [intOf] <;> omega
    · obtain rfl : c = 4 := by omega
      have hfin : (tornL b0 (bl s) k).take 4 ++ b0.drop 4 = tornL b0 (bl s) k := by
        rw [List.take_of_length_le (by simp; omega), List.drop_of_length_le (by omega), List.append_nil]
      rw [hfin] at hR hll
      have hS := hR.string (P := Try.prog) 77 5 9 Try.underlying77 Try.underlying5 Try.underlying9 (grownCap w 4 0 5)
      rw [hll] at hS
      have C5 := Lib.hid (fun w => with_calls f (mk (tornL b0 (bl s) k)) j h1 (by rw [mk_size, hll]; omega) w)
      have hput : putIn (bl f) j (bl (mk (tornL b0 (bl s) k))) = tornF (bl f) j (bl s) k := by
        have e1 : b0 = ((bl f).drop j).take 4 := by rw [← HB.out, bl_extract]; simp
        rw [bl_mk, putIn, hll, tornF, e1]
      rw [hput] at C5
      go_wp2_with fail
      refine (C5.out _).mono ?_
      rintro e w7 ⟨rfl, B7⟩
      go_wp2
      go_ret2
      exact ⟨congrArg Ending.returned (congrArg tornRes HG.out).symm, (by repeat (first | (with_reducible exact Ext.refl _) | (with_reducible assumption) | (with_reducible refine Ext.drewN ?_ _) | (with_reducible refine Ext.drew ?_) | (with_reducible refine Ext.alloc ?_ _) | (with_reducible refine Ext.setCell ?_ (by first | exact Nat.le_refl _ | (simp <;> omega)) _) | (with_reducible refine Ext.trans ?_ (by with_reducible assumption))))⟩

end Go.Proofs.Ytgoeooghoojdgaa
set_option linter.unusedVariables false
set_option linter.unusedSimpArgs false
set_option maxHeartbeats 4000000
namespace Skiff
def tornPair (o : Option (List UInt8)) : ByteArray × Int := match o with
  | some l => (mk l, 0)
  | none => (mk [], 200)
def fulls (n : Int) : Option ByteArray := if 0 ≤ n ∧ n ≤ 768 then some (mk (List.replicate n.toNat 255)) else none
end Skiff
namespace Go.Proofs.Ytgoeooghoojdgaa
open Go.RowKit Skiff

theorem tornRes_pair {o : Option (List UInt8)} {r1 : ByteArray} {r2 : Int} (h : some (tornPair o) = some (r1, r2)) : tornRes o = .tuple #[.string r1, .int .i64 r2] := by
  have h := Option.some.inj h
  cases o with
  | none => simp only [tornPair, Prod.mk.injEq] at h; obtain ⟨rfl, rfl⟩ := h; rfl
  | some l => simp only [tornPair, Prod.mk.injEq] at h; obtain ⟨rfl, rfl⟩ := h; rfl

theorem g_nor_Torn (a0 : ByteArray) (a1 : Int) (a2 : ByteArray) (a3 : Int) (r1 : ByteArray) (r2 : Int) (w : World) (h : some (tornPair (torn (bl a0) a1 (bl a2) a3)) = some (r1, r2)) :
    Calls Try.prog 56 #[.string a0, .int .i64 a1, .string a2, .int .i64 a3] w fun e w' => e = .returned (.tuple #[.string r1, .int .i64 r2]) ∧ Below w.heap.size w w' :=
  (ntorn_calls a0 a2 a1 a3 w).mono fun e w' ⟨he, hw⟩ => ⟨by rw [he, tornRes_pair h], hw⟩

theorem g_nor_Worn (a0 : ByteArray) (a1 : Int) (a2 : Int) (r1 : ByteArray) (r2 : Int) (w : World) (h : some (tornPair (worn (bl a0) a1 a2)) = some (r1, r2)) :
    Calls Try.prog 55 #[.string a0, .int .i64 a1, .int .i64 a2] w fun e w' => e = .returned (.tuple #[.string r1, .int .i64 r2]) ∧ Below w.heap.size w w' :=
  (nworn_calls a0 a1 a2 w).mono fun e w' ⟨he, hw⟩ => ⟨by rw [he, tornRes_pair h], hw⟩

theorem g_skiffref1_Torn (a0 : ByteArray) (a1 : Int) (a2 : ByteArray) (a3 : Int) (r1 : ByteArray) (r2 : Int) (w : World) (h : some (tornPair (torn (bl a0) a1 (bl a2) a3)) = some (r1, r2)) :
    Calls Try.prog 58 #[.string a0, .int .i64 a1, .string a2, .int .i64 a3] w fun e w' => e = .returned (.tuple #[.string r1, .int .i64 r2]) ∧ Below w.heap.size w w' :=
  (rtorn_calls a0 a2 a1 a3 w).mono fun e w' ⟨he, hw⟩ => ⟨by rw [he, tornRes_pair h], hw⟩

theorem g_skiffref1_Worn (a0 : ByteArray) (a1 : Int) (a2 : Int) (r1 : ByteArray) (r2 : Int) (w : World) (h : some (tornPair (worn (bl a0) a1 a2)) = some (r1, r2)) :
    Calls Try.prog 57 #[.string a0, .int .i64 a1, .int .i64 a2] w fun e w' => e = .returned (.tuple #[.string r1, .int .i64 r2]) ∧ Below w.heap.size w w' :=
  (rworn_calls a0 a1 a2 w).mono fun e w' ⟨he, hw⟩ => ⟨by rw [he, tornRes_pair h], hw⟩

theorem g_skiffref1_Blank (r : ByteArray) (w : World) (h : some (mk flash0) = some r) :
    Calls Try.prog 18 #[] w fun e w' => e = .returned (.string r) ∧ Below w.heap.size w w' :=
  (rblank_calls w).mono fun e w' ⟨he, hw⟩ => ⟨by rw [he, Option.some.inj h], hw⟩

theorem fulls_some {n : Int} {r : ByteArray} (h : fulls n = some r) : ∃ k : Nat, n = k ∧ k ≤ 768 ∧ r = mk (List.replicate k 255) := by
  unfold fulls at h
  split at h
  · exact ⟨n.toNat, by omega, by omega, (Option.some.inj h).symm⟩
  · cases h
theorem g_skiffref1_full (a0 : Int) (r : ByteArray) (w : World) (h : fulls a0 = some r) :
    Calls Try.prog 40 #[.int .i64 a0] w fun e w' => e = .returned (.string r) ∧ Below w.heap.size w w' := by
  obtain ⟨k, rfl, hk, rfl⟩ := fulls_some h
  exact rfull_calls k hk w

end Go.Proofs.Ytgoeooghoojdgaa
