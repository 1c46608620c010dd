/- Texts of this claim, laid together. -/
import Derived.ArgAppend
import Derived.Below
import Derived.BigQuiet
import Derived.Deep.AppendLies
import Derived.Deep.CutBlock
import Derived.Deep.DeepCutAuto
import Derived.Deep.Draws
import Derived.Deep.LoopGhost
import Derived.Deep.OwnRows
import Derived.Deep.QuietTactic
import Derived.Deep.RegionHeld3
import Derived.IntWalk
import Derived.KernelRfl
import Derived.Laws.AppendOwn
import Derived.Laws.BitsAllLaws
import Derived.Laws.BitsLemmas
import Derived.Laws.BytesArg
import Derived.Laws.IdiomCopy
import Derived.Laws.MakeOwn
import Derived.Laws.OwnMore
import Derived.Laws.Rows
import Derived.Laws.Slices
import Derived.Laws.Strings
import Derived.Lib.AppendStr
import Derived.Lib.ConvBytes
import Derived.Lib.Hide
import Derived.LoopTactic
import Derived.Maps.AppendAt
import Derived.OrdersHeld
import Derived.Outline
import Derived.OwnWalk
import Derived.RegionTactic
import Derived.RowKit
import Derived.RowKit3
import Derived.Tactics
import Derived.Test.YtmidohjfajbpmaaProg
import Derived.Test.YtmidohjfajbpmaaZ1Cz
import Derived.Test.YtmidohjfajbpmaaZ1WApart
import Derived.Test.YtmidohjfajbpmaaZ1WArr
import Derived.Test.YtmidohjfajbpmaaZ1WAt
import Derived.Test.YtmidohjfajbpmaaZ1WEqStruct
import Derived.Test.YtmidohjfajbpmaaZ1WFoot
import Derived.Test.YtmidohjfajbpmaaZ1WFootNe
import Derived.Test.YtmidohjfajbpmaaZ1WFour
import Derived.Test.YtmidohjfajbpmaaZ1WGuard
import Derived.Test.YtmidohjfajbpmaaZ1WInv
import Derived.Test.YtmidohjfajbpmaaZ1WInvWords
import Derived.Test.YtmidohjfajbpmaaZ1WKept
import Derived.Test.YtmidohjfajbpmaaZ1WLast
import Derived.Test.YtmidohjfajbpmaaZ1WMore
import Derived.Test.YtmidohjfajbpmaaZ1WN
import Derived.Test.YtmidohjfajbpmaaZ1WNEv
import Derived.Test.YtmidohjfajbpmaaZ1WQPut
import Derived.Test.YtmidohjfajbpmaaZ1WRepsOne
import Derived.Test.YtmidohjfajbpmaaZ1WShare
import Derived.Test.YtmidohjfajbpmaaZ1WTab
import Derived.Test.YtmidohjfajbpmaaZ1WWords
import Derived.Test.YtmidohjfajbpmaaZ1WZeros
import Derived.WalkKit
import Derived.WalkLawsBesides
import Derived.WalkSpells
import Derived.WideLaws
section
set_option linter.unusedVariables false
set_option linter.unusedSimpArgs false
set_option maxHeartbeats 4000000
namespace Go.Proofs.Ytmidohjfajbpmaa
open Go.RowKit

/-- All that lay in w lies in w' as it lay. -/
def Ext (w w' : World) : Prop := Below w.heap.size w w'
theorem Ext.refl (w : World) : Ext w w := Below.refl _ _
theorem Ext.size {a b : World} (h : Ext a b) : a.heap.size ≤ b.heap.size := Below.size h
theorem Ext.trans {a b c : World} (h : Ext a b) (k : Ext b c) : Ext a c := Below.trans h (Below.mono k h.size)
theorem Ext.drew {a w : World} (h : Ext a w) : Ext a w.drew := Below.drew h
theorem Ext.drewN {a w : World} (h : Ext a w) (n : Nat) : Ext a (w.drewN n) := Below.trans h ⟨rfl, rfl, rfl, Nat.le_refl _, fun _ _ => rfl⟩
theorem Ext.alloc {a w : World} (h : Ext a w) (o : Obj) : Ext a (w.alloc o) := Below.alloc h h.size o
theorem Ext.setCell {a w : World} (h : Ext a w) {p : Addr} (hp : a.heap.size ≤ p.block) (u : Value) : Ext a (w.setCell p u) := Below.setCell h hp u
theorem Ext.grown {a w w' : World} {row : Option Nat} (h : Ext a w) (hg : w.grownBy w' row) (hr : ∀ k, row = some k → a.heap.size ≤ k) : Ext a w' := Below.grown h hg h.size hr
theorem Ext.cell {w w' : World} {a : Addr} {v : Value} (hb : Ext w w') (h : w.cell? a = some v) : w'.cell? a = some v := cell_later hb h
theorem Ext.free {w w' : World} {a : Addr} (hb : Ext w w') (ha : a.block < w.heap.size) (h : w.frozen? a = false) : w'.frozen? a = false := (Below.frozen hb ha).trans h
theorem Ext.below {w w' : World} (h : Ext w w') : Below w.heap.size w w' := h
/-- '[]byte(s)' of a string. -/
theorem Ext.bytes (w : World) (e : TypeId) (s : ByteArray) : Ext w (Lib.bytesWorld w e s) :=
  ⟨rfl, rfl, rfl, by rw [Lib.bytesWorld_size]; omega, fun j hj => Lib.bytesWorld_at_old w e s j hj⟩

/-- The smaller, the greater of two whole numbers, as Go tells them: a word that the walk does not part on. -/
def imin (x y : Int) : Int := if y < x then y else x
def imax (x y : Int) : Int := if x < y then y else x
theorem imin_eq (x y : Int) : imin x y = min x y := by unfold imin; split <;> omega
theorem min_two_int (ats : Array TypeId) (ty : TypeId) (k k' : IntKind) (x y : Int) : Builtin.min_ ats ty #[.int k x, .int k' y] = pure (.int k (imin x y)) := by
  simp only [Builtin.min_, List.foldlM_cons, List.foldlM_nil, Builtin.min2, imin]; rfl
theorem min_three_int (ats : Array TypeId) (ty : TypeId) (k k' k'' : IntKind) (x y z : Int) : Builtin.min_ ats ty #[.int k x, .int k' y, .int k'' z] = pure (.int k (imin (imin x y) z)) := by
  simp only [Builtin.min_, List.foldlM_cons, List.foldlM_nil, Builtin.min2, imin]; rfl
theorem max_two_int (ats : Array TypeId) (ty : TypeId) (k k' : IntKind) (x y : Int) : Builtin.max_ ats ty #[.int k x, .int k' y] = pure (.int k (imax x y)) := by
  simp only [Builtin.max_, List.foldlM_cons, List.foldlM_nil, Builtin.max2, imax]; rfl

/-- A region that draws leaves one goal for each order: prove it once. -/
theorem once {P G : Prop} (f : P → G) (p : P) : G := f p
theorem wrap_i64_fit (n : Int) (h0 : -9223372036854775808 ≤ n) (h1 : n < 9223372036854775808) : IntKind.i64.wrap n = n := by
  simp [IntKind.wrap, IntKind.bits, IntKind.signed]; omega

end Go.Proofs.Ytmidohjfajbpmaa
set_option linter.unusedVariables false
set_option linter.unusedSimpArgs false
set_option maxHeartbeats 4000000
namespace Go.Proofs.Ytmidohjfajbpmaa
open Go.RowKit

def u8v (b : UInt8) : Value := .int .u8 (b.toNat : Int)

/-- Block g begins with these bytes, and they may be written. -/
def RowB (w : World) (g : Nat) (l : List UInt8) : Prop :=
  ∃ (cs : Array Value) (e lo hi : Nat), w.heap[g]? = some (.cells cs e (lo, hi)) ∧ (hi ≤ lo ∨ l.length ≤ lo) ∧ ∀ i (h : i < l.length), cs[i]? = some (u8v l[i])

theorem RowB.lt {w : World} {g : Nat} {l : List UInt8} (h : RowB w g l) : g < w.heap.size := by
  obtain ⟨cs, e, lo, hi, hg, _⟩ := h
  exact (Array.getElem?_eq_some_iff.1 hg).1
theorem RowB.cell {w : World} {g : Nat} {l : List UInt8} (h : RowB w g l) {i : Nat} (hi : i < l.length) : w.cell? ⟨g, i, none⟩ = some (.int .u8 ((l[i]).toNat : Int)) := by
  obtain ⟨cs, e, lo, hi', hg, _, hc⟩ := h
  simp only [World.cell?, hg]
  exact hc i hi
theorem RowB.cellD {w : World} {g : Nat} {l : List UInt8} (h : RowB w g l) {i : Nat} (hi : i < l.length) : w.cell? ⟨g, i, none⟩ = some (.int .u8 ((l.getD i 0).toNat : Int)) := by
  rw [h.cell hi]; simp [List.getD, hi]
theorem RowB.free {w : World} {g : Nat} {l : List UInt8} (h : RowB w g l) {i : Nat} (hi : i < l.length) : w.frozen? ⟨g, i, none⟩ = false := by
  obtain ⟨cs, e, lo, hi', hg, hf, _⟩ := h
  simp only [World.frozen?, hg]
  rcases hf with hf | hf
  · simp only [Bool.and_eq_false_imp, decide_eq_true_eq, decide_eq_false_iff_not]; omega
  · simp only [Bool.and_eq_false_imp, decide_eq_true_eq, decide_eq_false_iff_not]; omega
theorem RowB.ext {w w' : World} {g : Nat} {l : List UInt8} (h : RowB w g l) (k : Ext w w') : RowB w' g l := by
  have hl := h.lt
  obtain ⟨cs, e, lo, hi, hg, r⟩ := h
  exact ⟨cs, e, lo, hi, (k.below.block g hl).trans hg, r⟩
theorem RowB.set {w : World} {g : Nat} {l : List UInt8} (h : RowB w g l) (i : Nat) (b : UInt8) : RowB (w.setCell ⟨g, i, none⟩ (.int .u8 (b.toNat : Int))) g (l.set i b) := by
  obtain ⟨cs, e, lo, hi, hg, hf, hc⟩ := h
  refine ⟨cs.setIfInBounds i (u8v b), e, lo, hi, ?_, by simpa using hf, ?_⟩
  · simp only [World.setCell, Array.getElem?_modify, hg]
    simp [u8v]
  · intro j hj
    have hj' : j < l.length := by simpa using hj
    rw [Array.getElem?_setIfInBounds]
    by_cases e : i = j
    · subst e
      have hlt : i < cs.size := by
        have := hc i hj'
        exact (Array.getElem?_eq_some_iff.1 this).1
      simp [hlt]
    · rw [if_neg e, hc j hj', List.getElem_set_ne e]
theorem RowB.bytes (w : World) (e : TypeId) (s : ByteArray) : RowB (Lib.bytesWorld w e s) w.heap.size s.data.toList := by
  refine ⟨_, e, _, _, Lib.bytesWorld_at_new w e s, .inr ?_, ?_⟩
  · simp [Lib.bytesCells]
  · intro i hi
    have hi' : i < s.data.size := by simpa using hi
    simp only [Lib.bytesCells]
    rw [Array.getElem?_append_left (by simpa using hi')]
    simp [u8v, hi']
    exact ⟨s.data[i], by simp [hi'], rfl⟩
theorem RowB.made (w : World) (n : Nat) (e : TypeId) : RowB (w.alloc (.cells (madeCells #[.int .u8 0] n) e)) w.heap.size (List.replicate n 0) := by
  refine ⟨_, e, 0, 0, heap_alloc_new w _, .inl (Nat.le_refl _), ?_⟩
  intro i hi
  have h := congrArg (fun l : List Value => l[i]?) (toList_madeCells_one (.int .u8 0) n)
  simp only [Array.getElem?_toList] at h
  rw [h]
  have : i < n := by simpa using hi
  simp [this, u8v]
theorem RowB.string {P : Program} {w : World} {g : Nat} {l : List UInt8} (h : RowB w g l) (src e dst : TypeId) (hs : P.underlying src = some (.slice e)) (he : P.underlying e = some (.int .u8)) (hd : P.underlying dst = some .string) (cap : Nat) :
    (convert src dst (.slice (some ⟨g, 0, none⟩) l.length cap)).run P w = .ok (.string ⟨l.toArray⟩) w := by
  have hr := run_convert_bytes_arg (P := P) w src e hs he g 0 l.length cap (l.map fun b => (b.toNat : Int)) (by simp) (fun i hi => by
    rw [Nat.zero_add, h.cell hi]; simp [List.getD, hi]) dst hd
  rw [hr]
  congr 2
  unfold strOfNums
  congr 1
  simp [List.map_map, Function.comp_def]

def vals (l : List UInt8) : List Value := l.map u8v

/-- A whole slice of bytes: its block has just its capacity's cells, none of them marked. -/
def RowC (w : World) (g cap : Nat) (l : List UInt8) : Prop :=
  ∃ (cs : Array Value) (e lo hi : Nat), w.heap[g]? = some (.cells cs e (lo, hi)) ∧ cs.size = cap ∧ l.length ≤ cap ∧ (hi ≤ lo ∨ cap ≤ lo) ∧ ∀ i (h : i < l.length), cs[i]? = some (u8v l[i])
theorem RowC.row {w : World} {g cap : Nat} {l : List UInt8} (h : RowC w g cap l) : RowB w g l := by
  obtain ⟨cs, e, lo, hi, hg, hs, hl, hf, hc⟩ := h
  exact ⟨cs, e, lo, hi, hg, by omega, hc⟩
theorem RowC.bytes (w : World) (e : TypeId) (s : ByteArray) : RowC (Lib.bytesWorld w e s) w.heap.size (grownCap w s.size 0 e) s.data.toList := by
  have hge := grownCap_ge w s.size 0 e
  have hsz : (Lib.bytesCells w e s).size = grownCap w s.size 0 e := by
    have h1 : s.data.size = s.size := rfl
    simp [Lib.bytesCells]; omega
  obtain ⟨cs, e', lo, hi, hg, _, hc⟩ := RowB.bytes w e s
  have hg2 := Lib.bytesWorld_at_new w e s
  rw [hg2] at hg
  simp only [Option.some.injEq, Obj.cells.injEq, Prod.mk.injEq] at hg
  obtain ⟨rfl, rfl, rfl, rfl⟩ := hg
  exact ⟨_, _, _, _, hg2, hsz, by simpa using hge, .inr (by omega), hc⟩
theorem RowC.ext {w w' : World} {g cap : Nat} {l : List UInt8} (h : RowC w g cap l) (k : Ext w w') : RowC w' g cap l := by
  have hl := h.row.lt
  obtain ⟨cs, e, lo, hi, hg, r⟩ := h
  exact ⟨cs, e, lo, hi, (k.below.block g hl).trans hg, r⟩
theorem RowC.append {P : Program} {w : World} {g cap : Nat} {l : List UInt8} (h : RowC w g cap l) (t ty e : TypeId) (i : TypeInfo) (ht : P.underlying t = some (.slice e)) (hi : P.info? e = some i) (hz : i.zero = some (.int .u8 0)) (hs : i.size = 1) (hb : i.bytes = 1)
    (a : Addr) (c : Nat) (b : UInt8) (ha : w.cell? a = some (u8v b)) (hsmall : l.length + 1 ≤ 140737488355328) (base : Nat) (hbase : base ≤ g) (hbw : base ≤ w.heap.size) :
    ∃ g' cap' w', (Builtin.append_ #[t, t] ty #[.slice (some ⟨g, 0, none⟩) l.length cap, .slice (some a) 1 c]).run P w = .ok (.slice (some ⟨g', 0, none⟩) (l.length + 1) cap') w' ∧ RowC w' g' cap' (l ++ [b]) ∧ base ≤ g' ∧ w.grownBy w' (some g) := by
  have hnews : ∀ j v, [u8v b][j]? = some v → w.cell? (a.add j) = some v := by
    intro j v hj
    cases j with
    | zero => simp at hj; subst hj; rw [Addr.add]; simpa using ha
    | succ j => simp at hj
  obtain ⟨cs, e', lo, hi', hg, hsz, hlc, hf, hc⟩ := h
  by_cases hroom : l.length + 1 ≤ cap
  · have hfc := run_firstCells_some (P := P) w i.size 1 a 1 c [u8v b] (by simp [hs]) hnews
    have hcell : ∃ v, w.cell? ⟨g, l.length, none⟩ = some v := by
      have : l.length < cs.size := by omega
      exact ⟨cs[l.length], by simp [World.cell?, hg, this]⟩
    obtain ⟨v0, hv0⟩ := hcell
    have hfree : w.frozen? ⟨g, l.length, none⟩ = false := by
      simp only [World.frozen?, hg]
      rcases hf with hf | hf
      · simp only [Bool.and_eq_false_imp, decide_eq_true_eq, decide_eq_false_iff_not]; omega
      · simp only [Bool.and_eq_false_imp, decide_eq_true_eq, decide_eq_false_iff_not]; omega
    have hadd : (⟨g, 0, none⟩ : Addr).add l.length = ⟨g, l.length, none⟩ := by unfold Addr.add; split <;> simp_all
    have hadd0 : (⟨g, l.length, none⟩ : Addr).add 0 = ⟨g, l.length, none⟩ := by unfold Addr.add; simp
    refine ⟨g, cap, w.setCell ⟨g, l.length, none⟩ (u8v b), ?_, ?_, hbase, ?_⟩
    · rw [hs] at hfc
      simp [Builtin.append_, run_underlying ht, sizeOf, typeInfo, hi, Builtin.lenOf, hroom, hs, hfc, storeCells, hadd, hadd0, u8v, run_store_int, stored, hv0, hfree]
    · refine ⟨cs.setIfInBounds l.length (u8v b), e', lo, hi', ?_, by simpa using hsz, by simpa using hroom, hf, ?_⟩
      · simp only [World.setCell, Array.getElem?_modify, hg]
        simp
      · intro j hj
        rw [Array.getElem?_setIfInBounds]
        by_cases e1 : l.length = j
        · subst e1
          have : l.length < cs.size := by omega
          simp [this]
        · have hj' : j < l.length := by simp at hj; omega
          rw [if_neg e1, hc j hj', List.getElem_append_left hj']
    · exact ⟨rfl, rfl, rfl, by simp, fun k _ hk => Below.heap_setCell w _ _ k (fun e => hk (by simp [e]))⟩
  · have hro : RowB w g l := ⟨cs, e', lo, hi', hg, by omega, hc⟩
    have hr := run_append_grow (P := P) w t ty e i (.int .u8 0) ht hi hz ⟨g, 0, none⟩ l.length cap (vals l) (by simp [vals, hs]) (by
      intro j v hj
      have hj' : j < l.length := by
        have := (List.getElem?_eq_some_iff.1 hj).1
        simpa [vals] using this
      have hadd : (⟨g, 0, none⟩ : Addr).add j = ⟨g, j, none⟩ := by unfold Addr.add; split <;> simp_all
      rw [hadd, hro.cell hj']
      simp [vals, hj', u8v] at hj
      rw [← hj]) a 1 c [u8v b] (by simp [hs]) hnews (by omega) (by omega) (growslice_fits (by omega) (by rw [hb]; omega))
    have hge := grownCap_ge w (l.length + 1) cap e
    refine ⟨w.heap.size, _, _, hr, ⟨_, e, 0, 0, heap_alloc_new w.drew _, ?_, ?_, .inl (Nat.le_refl _), ?_⟩, hbw, ⟨rfl, rfl, rfl, by simp, fun k hk _ => Below.heap_alloc w.drew _ k hk⟩⟩
    · simp [vals, size_zeroCells, Value.cells]; omega
    · simpa using hge
    · intro j hj
      have hj2 : j < l.length + 1 := by simpa using hj
      rw [Array.getElem?_append_left (by simp [vals]; omega)]
      by_cases e1 : j < l.length
      · rw [Array.getElem?_append_left (by simpa [vals] using e1), List.getElem_append_left e1]
        simp [vals, e1]
      · have e2 : j = l.length := by omega
        subst e2
        rw [Array.getElem?_append_right (by simp [vals])]
        simp [vals]

theorem wpList_append_rowc {P : Program} {w : World} {ops : Array Oper} {rest : List Oper} {o : Oper} {a : Act} {Q : Exit → Act → World → Prop} (hgd : o.guard = none) (s x : Operand) (t : TypeId)
    (ho : o.op = .call { callee := .builtin .append, args := #[s, x], argTypes := #[t, t] })
    (base : Nat) (e : TypeId) (i : TypeInfo) (ht : P.underlying t = some (.slice e)) (hi : P.info? e = some i) (hz : i.zero = some (.int .u8 0)) (hs : i.size = 1) (hb : i.bytes = 1)
    (g n cap : Nat) (l : List UInt8) (hn : l.length = n) (hsv : a.eval s = .slice (some ⟨g, 0, none⟩) n cap) (h : RowC w g cap l)
    (ad : Addr) (c : Nat) (b : UInt8) (hx : a.eval x = .slice (some ad) 1 c) (ha : w.cell? ad = some (u8v b)) (hsmall : l.length + 1 ≤ 140737488355328) (hbase : base ≤ g) (hbw : base ≤ w.heap.size)
    (hk : ∀ g' cap' w', RowC w' g' cap' (l ++ [b]) → base ≤ g' → w.grownBy w' (some g) → wpList P ops Q rest (a.put o.dst (.slice (some ⟨g', 0, none⟩) (n + 1) cap')) w') : wpList P ops Q (o :: rest) a w :=
  wpList_plain hgd fun _ hK => by
    subst hn
    obtain ⟨g', cap', w', hr, h2, h3, h4⟩ := h.append (P := P) t o.type e i ht hi hz hs hb ad c b ha hsmall base hbase hbw
    unfold Oper.wp execOp
    simp only [ho, resolve, invoke, builtin, Sem.run_bind, Sem.run_pure, Result.andThen_ok, List.map_toArray, List.map_cons, List.map_nil, hsv, hx, hr]
    exact hK _ _ (hk g' cap' w' h2 h3 h4)

end Go.Proofs.Ytmidohjfajbpmaa
set_option linter.unusedVariables false
set_option linter.unusedSimpArgs false
set_option maxHeartbeats 4000000
namespace Skiff

/-- One bit of the division. -/
def stepBit (x : Nat) : Nat := if x % 2 = 1 then (x / 2) ^^^ 3988292384 else x / 2
def stepN : Nat → Nat → Nat
  | 0, x => x
  | n + 1, x => stepN n (stepBit x)
def stepByte (x b : Nat) : Nat := stepN 8 (x ^^^ b)
def crcState (x : Nat) : List UInt8 → Nat
  | [] => x
  | b :: l => crcState (stepByte x b.toNat) l
def crcSum (l : List UInt8) : Nat := 4294967295 - crcState 4294967295 l

theorem stepBit_lt {x : Nat} (h : x < 2 ^ 32) : stepBit x < 2 ^ 32 := by
  unfold stepBit
  split
  · exact Nat.xor_lt_two_pow (by omega) (by decide)
  · omega
theorem stepN_lt (n : Nat) : ∀ {x : Nat}, x < 2 ^ 32 → stepN n x < 2 ^ 32 := by
  induction n with
  | zero => intro x h; exact h
  | succ n ih => intro x h; exact ih (stepBit_lt h)
theorem stepByte_lt {x b : Nat} (hx : x < 2 ^ 32) (hb : b < 2 ^ 8) : stepByte x b < 2 ^ 32 :=
  stepN_lt 8 (Nat.xor_lt_two_pow hx (by omega))

end Skiff
set_option linter.unusedVariables false
set_option linter.unusedSimpArgs false
set_option maxHeartbeats 4000000
namespace Skiff

/-- A string's bytes; a string of bytes. -/
def bl (s : ByteArray) : List UInt8 := s.data.toList
def mk (l : List UInt8) : ByteArray := ⟨l.toArray⟩
@[simp] theorem bl_mk (l : List UInt8) : bl (mk l) = l := by simp [bl, mk]
@[simp] theorem mk_bl (s : ByteArray) : mk (bl s) = s := rfl
@[simp] theorem bl_append (s t : ByteArray) : bl (s ++ t) = bl s ++ bl t := by simp [bl]
@[simp] theorem bl_length (s : ByteArray) : (bl s).length = s.size := by simp [bl]
@[simp] theorem mk_size (l : List UInt8) : (mk l).size = l.length := by simp [mk, ByteArray.size]
theorem bl_extract (s : ByteArray) (a b : Nat) : bl (s.extract a b) = ((bl s).drop a).take (b - a) := by
  simp [bl, List.extract_eq_take_drop]
theorem mk_append (a b : List UInt8) : mk (a ++ b) = mk a ++ mk b := by
  have : bl (mk a ++ mk b) = a ++ b := by simp
  rw [← mk_bl (mk a ++ mk b), this]
theorem bl_inj {s t : ByteArray} (h : bl s = bl t) : s = t := by rw [← mk_bl s, ← mk_bl t, h]

theorem toList_bl (s : ByteArray) : s.toList = bl s := Go.ByteArray.toList_eq s
theorem beq_bl (a b : ByteArray) : (a.toList == b.toList) = decide (bl a = bl b) := by
  rw [toList_bl, toList_bl]
  by_cases h : bl a = bl b
  · simp [h]
  · simp [h]

/-- The lowest byte of a number; so many bytes, the lowest first; bytes' number. -/
def lowByte (x : Int) : UInt8 := UInt8.ofNat (x % 256).toNat
def low (x : Int) : Nat → List UInt8
  | 0 => []
  | k + 1 => lowByte x :: low (x / 256) k
def num : List UInt8 → Nat
  | [] => 0
  | b :: l => b.toNat + 256 * num l
theorem lowByte_toNat (x : Int) : ((lowByte x).toNat : Int) = x % 256 := by
  have h := Int.emod_nonneg x (show (256 : Int) ≠ 0 by decide)
  have h2 := Int.emod_lt_of_pos x (show (0 : Int) < 256 by decide)
  unfold lowByte
  rw [UInt8.toNat_ofNat']
  omega
@[simp] theorem low_length (k : Nat) : ∀ x, (low x k).length = k := by
  induction k with
  | zero => intro x; rfl
  | succ k ih => intro x; simp [low, ih]
theorem num_lt : ∀ l : List UInt8, num l < 256 ^ l.length
  | [] => by simp [num]
  | b :: l => by
    have h := num_lt l
    have hb := b.toNat_lt
    simp only [num, List.length_cons, Nat.pow_succ]
    have : 256 * num l + 256 ≤ 256 ^ l.length * 256 := by
      have := Nat.mul_le_mul_left 256 (Nat.succ_le_of_lt h)
      rw [Nat.mul_comm (256 ^ l.length)]
      omega
    omega
theorem num_low (k : Nat) : ∀ x : Int, 0 ≤ x → x < 256 ^ k → (num (low x k) : Int) = x := by
  induction k with
  | zero => intro x h0 h1; simp [low, num] at *; omega
  | succ k ih =>
    intro x h0 h1
    have h2 : x / 256 < 256 ^ k := by
      rw [Int.pow_succ] at h1
      exact Int.ediv_lt_of_lt_mul (by decide) h1
    have h3 := ih (x / 256) (by omega) h2
    simp only [low, num, Int.natCast_add, Int.natCast_mul, lowByte_toNat, h3]
    omega
theorem lowByte_cat (b : UInt8) (n : Nat) : lowByte ((b.toNat + 256 * n : Nat) : Int) = b := by
  apply UInt8.toNat_inj.1
  have h := lowByte_toNat ((b.toNat + 256 * n : Nat) : Int)
  have hb := b.toNat_lt
  omega
theorem low_num : ∀ l : List UInt8, low (num l : Int) l.length = l
  | [] => rfl
  | b :: l => by
    have h : ((num (b :: l) : Nat) : Int) / 256 = (num l : Int) := by
      have hb := b.toNat_lt
      simp only [num]
      omega
    show lowByte ((num (b :: l) : Nat) : Int) :: low (((num (b :: l) : Nat) : Int) / 256) l.length = _
    rw [h, low_num l, show (num (b :: l)) = b.toNat + 256 * num l from rfl, lowByte_cat]

theorem low_snoc (x : Int) : ∀ j : Nat, low x (j + 1) = low x j ++ [lowByte (x / 256 ^ j)]
  | 0 => by simp [low]
  | j + 1 => by
    have h := low_snoc (x / 256) j
    rw [show low x (j + 1 + 1) = lowByte x :: low (x / 256) (j + 1) from rfl, h, Int.ediv_ediv_of_nonneg (by decide)]
    rw [show (256 : Int) * 256 ^ j = 256 ^ (j + 1) by rw [Int.pow_succ, Int.mul_comm]]
    rfl

theorem low_set (x : Int) (j m : Nat) : (low x j ++ List.replicate (m + 1) 0).set j (lowByte (x / 256 ^ j)) = low x (j + 1) ++ List.replicate m 0 := by
  rw [List.set_append_right _ _ (by simp), low_length, Nat.sub_self, List.replicate_succ, List.set_cons_zero, low_snoc]
  simp

/-- A record. -/
structure Rec where
  seq : Int
  slot : Int
  size : Int
  sum : Int
  deriving DecidableEq
def Rec.zero : Rec := ⟨0, 0, 0, 0⟩
def within (x a b : Int) : Bool := decide (a ≤ x) && decide (x ≤ b)
def recMay (r : Rec) : Bool := within r.seq 1 1048576 && within r.slot 0 1 && within r.size 1 288 && within r.sum 0 4294967295
theorem within_iff {x a b : Int} : within x a b = true ↔ a ≤ x ∧ x ≤ b := by simp [within]
theorem recMay_iff {r : Rec} : recMay r = true ↔ (1 ≤ r.seq ∧ r.seq ≤ 1048576) ∧ (0 ≤ r.slot ∧ r.slot ≤ 1) ∧ (1 ≤ r.size ∧ r.size ≤ 288) ∧ 0 ≤ r.sum ∧ r.sum ≤ 4294967295 := by
  simp [recMay, within_iff, and_assoc]
def compl (l : List UInt8) : List UInt8 := l.map fun b => ~~~ b
@[simp] theorem compl_length (l : List UInt8) : (compl l).length = l.length := by simp [compl]
theorem compl_at (l : List UInt8) (j : Nat) (h : j < l.length) : (compl (l.take j) ++ l.drop j).getD j 0 = l[j] := by
  have hl : (compl (l.take j)).length = j := by simp; omega
  rw [List.getD_eq_getElem?_getD, List.getElem?_append_right (by omega), hl]
  simp [h]
theorem compl_set (l : List UInt8) (j : Nat) (h : j < l.length) : (compl (l.take j) ++ l.drop j).set j (~~~ l[j]) = compl (l.take (j + 1)) ++ l.drop (j + 1) := by
  have hl : (compl (l.take j)).length = j := by simp; omega
  rw [List.set_append_right _ _ (by omega), hl, Nat.sub_self, List.drop_eq_getElem_cons h, List.set_cons_zero, List.take_succ_eq_append_getElem h]
  simp only [compl, List.map_append, List.map_cons, List.map_nil, List.append_assoc, List.cons_append, List.nil_append]
def half (r : Rec) : List UInt8 := low r.seq 4 ++ (low r.slot 2 ++ (low r.size 2 ++ low r.sum 4))
def put (r : Rec) : List UInt8 := half r ++ compl (half r)
@[simp] theorem half_length (r : Rec) : (half r).length = 12 := by simp [half]
@[simp] theorem put_length (r : Rec) : (put r).length = 24 := by simp [put]
/-- The record that these bytes tell, whatever they are. -/
def told (l : List UInt8) : Rec := ⟨num (l.take 4), num ((l.drop 4).take 2), num ((l.drop 6).take 2), num ((l.drop 8).take 4)⟩
def get (l : List UInt8) : Option Rec := if l.length = 24 ∧ compl (l.take 12) = l.drop 12 ∧ recMay (told l) = true then some (told l) else none

theorem told_put {r : Rec} (h : recMay r = true) (l : List UInt8) : told (half r ++ l) = r := by
  obtain ⟨h1, h2, h3, h4⟩ := recMay_iff.1 h
  have e1 := num_low 4 r.seq (by omega) (by omega)
  have e2 := num_low 2 r.slot (by omega) (by omega)
  have e3 := num_low 2 r.size (by omega) (by omega)
  have e4 := num_low 4 r.sum (by omega) (by omega)
  have t1 : (half r ++ l).take 4 = low r.seq 4 := by simp [half, List.take_append]
  have t2 : ((half r ++ l).drop 4).take 2 = low r.slot 2 := by simp [half, List.take_append, List.drop_append]
  have t3 : ((half r ++ l).drop 6).take 2 = low r.size 2 := by simp [half, List.take_append, List.drop_append]
  have t4 : ((half r ++ l).drop 8).take 4 = low r.sum 4 := by simp [half, List.take_append, List.drop_append, List.drop_of_length_le]
  unfold told
  rw [t1, t2, t3, t4, e1, e2, e3, e4]
theorem get_put {r : Rec} (h : recMay r = true) : get (put r) = some r := by
  have e : told (put r) = r := told_put h _
  unfold get
  rw [e, if_pos ⟨put_length r, by simp [put, List.take_append, List.drop_append], h⟩]
theorem half_told (l : List UInt8) (h : 12 ≤ l.length) : half (told l) = l.take 12 := by
  have e1 := low_num (l.take 4)
  have e2 := low_num ((l.drop 4).take 2)
  have e3 := low_num ((l.drop 6).take 2)
  have e4 := low_num ((l.drop 8).take 4)
  rw [show (l.take 4).length = 4 by simp; omega] at e1
  rw [show ((l.drop 4).take 2).length = 2 by simp; omega] at e2
  rw [show ((l.drop 6).take 2).length = 2 by simp; omega] at e3
  rw [show ((l.drop 8).take 4).length = 4 by simp; omega] at e4
  unfold half told
  simp only
  rw [e1, e2, e3, e4]
  have s3 : (l.drop 6).take 6 = (l.drop 6).take 2 ++ (l.drop 8).take 4 := by
    rw [show 6 = 2 + 4 from rfl, List.take_add, List.drop_drop]
  have s2 : (l.drop 4).take 8 = (l.drop 4).take 2 ++ (l.drop 6).take 6 := by
    rw [show 8 = 2 + 6 from rfl, List.take_add, List.drop_drop]
  have s1 : l.take 12 = l.take 4 ++ (l.drop 4).take 8 := by
    rw [show 12 = 4 + 8 from rfl, List.take_add]
  rw [← s3, ← s2, ← s1]
theorem put_told {l : List UInt8} (h : l.length = 24) (hc : compl (l.take 12) = l.drop 12) : put (told l) = l := by
  unfold put
  rw [half_told l (by omega), hc, List.take_append_drop]
theorem get_some {l : List UInt8} {r : Rec} (h : get l = some r) : recMay r = true ∧ put r = l := by
  unfold get at h
  split at h
  · rename_i hc
    obtain rfl := Option.some.inj h
    exact ⟨hc.2.2, put_told hc.1 hc.2.1⟩
  · cases h
theorem get_none {l : List UInt8} (h : get l = none) (r : Rec) (hr : recMay r = true) : put r ≠ l := by
  intro e
  rw [← e, get_put hr] at h
  cases h

end Skiff
set_option linter.unusedVariables false
set_option linter.unusedSimpArgs false
set_option maxHeartbeats 4000000
namespace Skiff

/-- What a byte of the word lets stand where so many bits of it are done. -/
def maskB (w : UInt8) (m : Nat) : UInt8 := w ||| UInt8.ofNat (255 <<< min m 8)
def tornB (b w : UInt8) (m : Nat) : UInt8 := b &&& maskB w m
def tornL : List UInt8 → List UInt8 → Nat → List UInt8
  | b :: bs, w :: ws, n => tornB b w n :: tornL bs ws (n - 8)
  | bs, _, _ => bs
/-- One bit more. -/
def bitB (x w : UInt8) (m : Nat) : UInt8 := if (w >>> UInt8.ofNat m) &&& 1 = 0 then x &&& ~~~ (1 <<< UInt8.ofNat m) else x

theorem maskB_zero (w : UInt8) : maskB w 0 = 255 := by
  have h : ∀ n : Fin 256, maskB (UInt8.ofFin n) 0 = 255 := by decide +kernel
  exact h w.toFin
theorem maskB_full (w : UInt8) (m : Nat) (h : 8 ≤ m) : maskB w m = w := by
  have e : maskB w m = maskB w 8 := by unfold maskB; rw [show min m 8 = min 8 8 by omega]
  rw [e]
  have h : ∀ n : Fin 256, maskB (UInt8.ofFin n) 8 = UInt8.ofFin n := by decide +kernel
  exact h w.toFin
theorem maskB_step (w : UInt8) (m : Nat) (h : m < 8) : maskB w (m + 1) = if (w >>> UInt8.ofNat m) &&& 1 = 0 then maskB w m &&& ~~~ (1 <<< UInt8.ofNat m) else maskB w m := by
  have h1 : ∀ (k : Fin 8) (n : Fin 256), maskB (UInt8.ofFin n) (k.val + 1) = if (UInt8.ofFin n >>> UInt8.ofNat k.val) &&& 1 = 0 then maskB (UInt8.ofFin n) k.val &&& ~~~ (1 <<< UInt8.ofNat k.val) else maskB (UInt8.ofFin n) k.val := by decide +kernel
  exact h1 ⟨m, h⟩ w.toFin
theorem tornB_step (b w : UInt8) (m : Nat) (h : m < 8) : tornB b w (m + 1) = bitB (tornB b w m) w m := by
  unfold tornB bitB
  rw [maskB_step w m h]
  split <;> simp [UInt8.and_assoc]
theorem tornB_zero (b w : UInt8) : tornB b w 0 = b := by
  unfold tornB
  rw [maskB_zero]
  have h : ∀ n : Fin 256, UInt8.ofFin n &&& 255 = UInt8.ofFin n := by decide +kernel
  exact h b.toFin
theorem tornL_zero : ∀ b w : List UInt8, tornL b w 0 = b
  | [], _ => by simp [tornL]
  | b :: bs, [] => by simp [tornL]
  | b :: bs, w :: ws => by simp [tornL, tornB_zero, tornL_zero bs ws]
@[simp] theorem tornL_length : ∀ (b w : List UInt8) (n : Nat), (tornL b w n).length = b.length
  | [], _, _ => by simp [tornL]
  | b :: bs, [], _ => by simp [tornL]
  | b :: bs, w :: ws, n => by simp [tornL, tornL_length bs ws]
/-- One bit more, in the row of bytes. -/
theorem tornL_step : ∀ (b w : List UInt8) (n : Nat), n < 8 * b.length → n < 8 * w.length → tornL b w (n + 1) = (tornL b w n).set (n / 8) (bitB ((tornL b w n).getD (n / 8) 0) (w.getD (n / 8) 0) (n % 8))
  | [], _, _, h, _ => by simp at h
  | b :: bs, [], _, _, h => by simp at h
  | b :: bs, w :: ws, n, h1, h2 => by
    by_cases h : n < 8
    · have e1 : n + 1 - 8 = 0 := by omega
      have e2 : n - 8 = 0 := by omega
      have e3 : n / 8 = 0 := by omega
      have e4 : n % 8 = n := by omega
      simp [tornL, e1, e2, e3, e4, tornB_step b w n h]
    · obtain ⟨m, rfl⟩ : ∃ m, n = m + 8 := ⟨n - 8, by omega⟩
      have ih := tornL_step bs ws m (by simp at h1; omega) (by simp at h2; omega)
      have e1 : m + 8 + 1 - 8 = m + 1 := by omega
      have e2 : m + 8 - 8 = m := by omega
      have e3 : (m + 8) / 8 = m / 8 + 1 := by omega
      have e4 : (m + 8) % 8 = m % 8 := by omega
      have t1 : tornB b w (m + 8 + 1) = tornB b w (m + 8) := by unfold tornB; rw [maskB_full w _ (by omega), maskB_full w _ (by omega)]
      simp only [tornL, e1, e2, e3, e4, t1, List.getD_cons_succ, List.set_cons_succ, ih]

/-- The flash behind a torn word, behind a worn sector. -/
def tornF (f : List UInt8) (at_ : Nat) (w : List UInt8) (n : Nat) : List UInt8 := f.take at_ ++ tornL ((f.drop at_).take 4) w n ++ f.drop (at_ + 4)
def wornF (f : List UInt8) (at_ many : Nat) : List UInt8 := f.take at_ ++ List.replicate many 255 ++ f.drop (at_ + many)
def wordAt (x : Int) : Bool := within x 0 764 && decide (x % 4 = 0)
def tornMay (f : List UInt8) (at_ : Int) (w : List UInt8) (n : Int) : Bool := decide (f.length = 768) && wordAt at_ && decide (w.length = 4) && within n 0 32
def wornMay (f : List UInt8) (s n : Int) : Bool := decide (f.length = 768) && within s 0 7 && within n 0 96
def torn (f : List UInt8) (at_ : Int) (w : List UInt8) (n : Int) : Option (List UInt8) := if tornMay f at_ w n = true then some (tornF f at_.toNat w n.toNat) else none
def worn (f : List UInt8) (s n : Int) : Option (List UInt8) := if wornMay f s n = true then some (wornF f (96 * s.toNat) n.toNat) else none
def flash0 : List UInt8 := List.replicate 768 255

end Skiff
set_option linter.unusedVariables false
set_option linter.unusedSimpArgs false
set_option maxHeartbeats 4000000
namespace Skiff

end Skiff
set_option linter.unusedVariables false
set_option linter.unusedSimpArgs false
set_option maxHeartbeats 4000000
namespace Go.Proofs.Ytmidohjfajbpmaa
open Go.RowKit Skiff

theorem info_u8 : (Try.prog.info? 5).map (fun i => (i.zero, i.size, i.bytes)) = some (some (.int .u8 0), 1, 1) := by kernel_rfl

theorem upTo_calls (x a b : Int) (w : World) :
    Calls Try.prog 45 #[.int .i64 x, .int .i64 a, .int .i64 b] w fun e w' => e = .returned (.bool (within x a b)) ∧ w = w' := by
  have hw : Hid (within x a b = (decide (a ≤ x) && decide (x ≤ b))) := rfl
  by_cases h : a ≤ x
  · have h1 : decide (a ≤ x) = true := by simpa using h
    go_enter Try.func45, Try.ntmps45
    go_wp2
    go_ret
    exact ⟨by rw [hw.out, h1]; rfl, rfl⟩
  · have h1 : decide (a ≤ x) = false := by simpa using h
    go_enter Try.func45, Try.ntmps45
    go_wp2
    go_ret
    exact ⟨by rw [hw.out, h1]; rfl, rfl⟩

theorem made_u8 (n : Nat) (h : n ≤ 140737488351232) (w : World) :
    (Instr.makeSlice 110 (.int .i64 (n : Int)) (.int .i64 (n : Int))).run Try.prog w = .ok (.slice (some ⟨w.heap.size, 0, none⟩) n n) (w.alloc (.cells (madeCells #[.int .u8 0] n) 5)) := by
  obtain ⟨i0, hi, hz0, hz1, hz2⟩ := info_parts info_u8
  have hr := run_make (P := Try.prog) w 110 5 i0 _ Try.underlying110 hi hz0 .i64 .i64 (n : Int) (n : Int) (by omega) (by omega) (by rw [hz2]; omega) (by omega)
  rw [hz1] at hr
  simp only [Nat.mul_one, Int.toNat_natCast] at hr
  exact hr

theorem and_mask (x : Int) (h : (Lit.int .i64 x).wf = true) (n : Nat) (hn : n ≤ 62) : ∃ k : Nat, bits .and .i64 x ((2 ^ n - 1 : Nat) : Int) = (k : Int) ∧ k < 2 ^ n := by
  have hp : 2 ^ n ≤ 2 ^ 62 := Nat.pow_le_pow_right (by decide) hn
  have h1 : 2 ^ n - 1 < 2 ^ 64 := by omega
  have e : (BitVec.ofInt 64 x &&& BitVec.ofInt 64 ((2 ^ n - 1 : Nat) : Int)).toNat = (BitVec.ofInt 64 x).toNat % 2 ^ n := by
    rw [BitVec.toNat_and, BitVec.ofInt_natCast, BitVec.toNat_ofNat, Nat.mod_eq_of_lt h1, Nat.and_two_pow_sub_one_eq_mod]
  have hlt : (BitVec.ofInt 64 x).toNat % 2 ^ n < 2 ^ n := Nat.mod_lt _ (Nat.two_pow_pos n)
  refine ⟨_, ?_, hlt⟩
  show IntKind.i64.wrap (((BitVec.ofInt 64 x) &&& (BitVec.ofInt 64 ((2 ^ n - 1 : Nat) : Int))).toNat : Int) = _
  rw [e]
  exact wrap_i64_fit _ (by omega) (by omega)
theorem mod_nat (x : Int) (m : Nat) (h : 0 < m) (h2 : m < 1000) : ∃ k : Nat, wrap64 ((IntKind.u64.wrap x).tmod (m : Int)) = (k : Int) ∧ k < m := by
  have h0 : 0 ≤ IntKind.u64.wrap x := by rw [IntKind.wrap_u64]; omega
  have h1 : IntKind.u64.wrap x < 18446744073709551616 := by rw [IntKind.wrap_u64]; omega
  generalize IntKind.u64.wrap x = y at *
  rw [Int.tmod_eq_emod_of_nonneg h0]
  have p0 := Int.emod_nonneg y (by omega : (m : Int) ≠ 0)
  have p1 := Int.emod_lt_of_pos y (by omega : 0 < (m : Int))
  refine ⟨(y % m).toNat, ?_, by omega⟩
  rw [wrap64]
  omega

end Go.Proofs.Ytmidohjfajbpmaa
set_option linter.unusedVariables false
set_option linter.unusedSimpArgs false
set_option maxHeartbeats 4000000
namespace Go.Proofs.Ytmidohjfajbpmaa
open Go.RowKit Skiff

theorem full_set (j m : Nat) : (List.replicate j (255 : UInt8) ++ List.replicate (m + 1) 0).set j 255 = List.replicate (j + 1) 255 ++ List.replicate m 0 := by
  rw [List.set_append_right _ _ (by simp), List.length_replicate, Nat.sub_self, List.replicate_succ, List.set_cons_zero, List.replicate_succ']
  simp

theorem rfull_calls (k : Nat) (hk : k ≤ 768) (w : World) :
    Calls Try.prog 62 #[.int .i64 (k : Int)] w fun e w' => e = .returned (.string (mk (List.replicate k 255))) ∧ Ext w w' := by
  have hmk := fun w => made_u8 k (by omega) w
  go_enter Try.func62, Try.ntmps62
  go_wp2
  go_loopw [4] (fun i wr => ∃ j : Nat, j ≤ k ∧ i = .int .i64 (j : Int) ∧ RowB wr w.heap.size (List.replicate j 255 ++ List.replicate (k - j) 0) ∧ Ext w wr) (fun i _ => k - (intOf i).toNat)
  case atStart => exact ⟨0, by omega, rfl, RowB.made _ _ _, (Ext.refl _).alloc _⟩
  case round =>
    obtain ⟨j, hj, rfl, hR, hE⟩ := hrel
    have hll : (List.replicate j (255 : UInt8) ++ List.replicate (k - j) (0 : UInt8)).length = k := by simp; omega
    by_cases hlt : j < k
    · have hcell := hR.cellD (i := j) (by omega)
      have hfree := hR.free (i := j) (by omega)
      obtain ⟨m, hm⟩ : ∃ m, k - j = m + 1 := ⟨k - j - 1, by omega⟩
      have hm2 : k - (j + 1) = m := by omega
      have HM := Lib.hid hm
      have HM2 := Lib.hid hm2
      clear hm hm2
      go_wp2
      go_roundw
      case rel => exact ⟨j + 1, by omega, by go_num, by have h1 := hR.set j 255; rw [HM.out, full_set] at h1; rw [HM2.out]; exact h1, hE.setCell (Nat.le_refl _) _⟩
      case measure => simp [intOf] <;> omega
    · obtain rfl : j = k := by omega
      have hr := hR.string (P := Try.prog) 110 5 9 Try.underlying110 Try.underlying5 Try.underlying9 j
      have hfin : List.replicate j (255 : UInt8) ++ List.replicate (j - j) (0 : UInt8) = List.replicate j 255 := by simp
      rw [hll, hfin] at hr
      go_wp2
      go_ret
      exact ⟨rfl, hE⟩

theorem rfull768_calls (w : World) : Calls Try.prog 62 #[.int .i64 768] w fun e w' => e = .returned (.string (mk flash0)) ∧ Ext w w' := rfull_calls 768 (by omega) w

theorem rblank_calls (w : World) :
    Calls Try.prog 36 #[] w fun e w' => e = .returned (.string (mk flash0)) ∧ Ext w w' := by
  go_enter Try.func36, Try.ntmps36
  go_wp2_with fail
  refine (rfull768_calls _).mono ?_
  rintro e w1 ⟨rfl, B1⟩
  go_wp2
  go_ret
  exact ⟨rfl, (by repeat (first | (with_reducible exact Ext.refl _) | (with_reducible assumption) | (with_reducible refine Ext.drewN ?_ _) | (with_reducible refine Ext.drew ?_) | (with_reducible refine Ext.alloc ?_ _) | (with_reducible refine Ext.setCell ?_ (by first | exact Nat.le_refl _ | (simp <;> omega)) _) | (with_reducible refine Ext.trans ?_ (by with_reducible assumption))))⟩

theorem flashMay_calls (s : ByteArray) (w : World) :
    Calls Try.prog 43 #[.string s] w fun e w' => e = .returned (.bool (decide (s.size = 768))) ∧ w = w' := by
  by_cases h : s.size = 768
  · have h1 : ((s.size : Int) == 768) = true := by rw [h]; rfl
    have h2 : Hid (decide (s.size = 768) = true) := by show _ = _; simpa using h
    clear h
    go_enter Try.func43, Try.ntmps43
    go_wp2
    go_ret
    exact ⟨by rw [h2.out]; rfl, rfl⟩
  · have h1 : ((s.size : Int) == 768) = false := by rw [beq_eq_false_iff_ne]; omega
    have h2 : Hid (decide (s.size = 768) = false) := by show _ = _; simpa using h
    clear h
    go_enter Try.func43, Try.ntmps43
    go_wp2
    go_ret
    exact ⟨by rw [h2.out]; rfl, rfl⟩

theorem rwordAt_calls (x : Int) (w : World) :
    Calls Try.prog 89 #[.int .i64 x] w fun e w' => e = .returned (.bool (wordAt x)) ∧ w = w' := by
  cases h1 : within x 0 764
  · have h2 : Hid (wordAt x = false) := by show _ = _; simp [wordAt, h1]
    have C := Lib.hid (fun w => upTo_calls x 0 764 w)
    rw [h1] at C
    clear h1
    go_enter Try.func89, Try.ntmps89
    go_wp2_with fail
    refine (C.out _).mono ?_
    rintro e w1 ⟨rfl, rfl⟩
    go_wp2
    go_ret
    exact ⟨by rw [h2.out]; rfl, rfl⟩
  · have hx := Skiff.within_iff.1 h1
    have ht : x.tmod 4 = x % 4 := Int.tmod_eq_emod_of_nonneg hx.1
    have C := Lib.hid (fun w => upTo_calls x 0 764 w)
    rw [h1] at C
    by_cases h4 : x % 4 = 0
    · have h2 : Hid (wordAt x = true) := by show _ = _; simp [wordAt, h1, h4]
      have h3 : (x % 4 == 0) = true := by rw [h4]; rfl
      clear ht h4 h1
      go_enter Try.func89, Try.ntmps89
      go_wp2_with fail
      refine (C.out _).mono ?_
      rintro e w2 ⟨rfl, rfl⟩
      go_wp2
      go_ret
      exact ⟨by rw [h2.out]; rfl, rfl⟩
    · have h2 : Hid (wordAt x = false) := by show _ = _; simp [wordAt, h1, h4]
      have h3 : (x % 4 == 0) = false := by rw [beq_eq_false_iff_ne]; exact h4
      clear ht h4 h1
      go_enter Try.func89, Try.ntmps89
      go_wp2_with fail
      refine (C.out _).mono ?_
      rintro e w3 ⟨rfl, rfl⟩
      go_wp2
      go_ret
      exact ⟨by rw [h2.out]; rfl, rfl⟩

def tornRes (o : Option (List UInt8)) : Value := match o with
  | some l => .tuple #[.string (mk l), .int .i64 0]
  | none => .tuple #[.string (mk []), .int .i64 200]

theorem bit_test (x : UInt8) (m : Nat) (hm : m < 8) : (bits .and .u8 ((x.toNat : Int) / 2 ^ m) 1 == 0) = decide ((x >>> UInt8.ofNat m) &&& 1 = 0) := by
  have h : ∀ (k : Fin 8) (n : Fin 256), (bits .and .u8 (((UInt8.ofFin n).toNat : Int) / 2 ^ k.val) 1 == 0) = decide ((UInt8.ofFin n >>> UInt8.ofNat k.val) &&& 1 = 0) := by decide +kernel
  exact h ⟨m, hm⟩ x.toFin

theorem bit_clear (y : UInt8) (m : Nat) (hm : m < 8) : bits .andNot .u8 (y.toNat : Int) (2 ^ m % 256) = ((y &&& ~~~ (1 <<< UInt8.ofNat m)).toNat : Int) := by
  have h : ∀ (k : Fin 8) (n : Fin 256), bits .andNot .u8 ((UInt8.ofFin n).toNat : Int) (2 ^ k.val % 256) = ((UInt8.ofFin n &&& ~~~ (1 <<< UInt8.ofNat k.val)).toNat : Int) := by decide +kernel
  exact h ⟨m, hm⟩ y.toFin

theorem set_getD_self (l : List UInt8) (i : Nat) : l.set i (l.getD i 0) = l := by
  by_cases h : i < l.length
  · rw [List.getD_eq_getElem?_getD, List.getElem?_eq_getElem h]
    exact List.set_getElem_self h
  · exact List.set_eq_of_length_le (by omega)

set_option maxRecDepth 100000 in
theorem rtorn_calls (f s : ByteArray) (x n : Int) (w : World) :
    Calls Try.prog 83 #[.string f, .int .i64 x, .string s, .int .i64 n] w fun e w' => e = .returned (tornRes (torn (bl f) x (bl s) n)) ∧ Ext w w' := by
  have C1 := Lib.hid (fun w => flashMay_calls f w)
  have C2 := Lib.hid (fun w => rwordAt_calls x w)
  have C3 := Lib.hid (fun w => upTo_calls n 0 32 w)
  by_cases h1 : f.size = 768
  case neg =>
    have HG : Hid (tornRes (torn (bl f) x (bl s) n) = .tuple #[.string (mk []), .int .i64 200]) := by
      show _ = _
      unfold torn tornMay
      rw [bl_length, decide_eq_false h1]; rfl
    rw [decide_eq_false h1] at C1
    clear h1
    go_enter Try.func83, Try.ntmps83
    go_wp2_with fail
    refine (C1.out _).mono ?_
    rintro e w1 ⟨rfl, rfl⟩
    go_wp2
    go_ret2
    exact ⟨congrArg Ending.returned HG.out.symm, (by repeat (first | (with_reducible exact Ext.refl _) | (with_reducible assumption) | (with_reducible refine Ext.drewN ?_ _) | (with_reducible refine Ext.drew ?_) | (with_reducible refine Ext.alloc ?_ _) | (with_reducible refine Ext.setCell ?_ (by first | exact Nat.le_refl _ | (simp <;> omega)) _) | (with_reducible refine Ext.trans ?_ (by with_reducible assumption))))⟩
  case pos =>
  cases h2 : wordAt x
  case false =>
    have HG : Hid (tornRes (torn (bl f) x (bl s) n) = .tuple #[.string (mk []), .int .i64 200]) := by
      show _ = _
      unfold torn tornMay
      rw [h2, Bool.and_false]; rfl
    rw [decide_eq_true h1] at C1
    rw [h2] at C2
    clear h1 h2
    go_enter Try.func83, Try.ntmps83
    go_wp2_with fail
    refine (C1.out _).mono ?_
    rintro e w2 ⟨rfl, rfl⟩
    go_wp2_with fail
    refine (C2.out _).mono ?_
    rintro e w3 ⟨rfl, rfl⟩
    go_wp2
    go_ret2
    exact ⟨congrArg Ending.returned HG.out.symm, (by repeat (first | (with_reducible exact Ext.refl _) | (with_reducible assumption) | (with_reducible refine Ext.drewN ?_ _) | (with_reducible refine Ext.drew ?_) | (with_reducible refine Ext.alloc ?_ _) | (with_reducible refine Ext.setCell ?_ (by first | exact Nat.le_refl _ | (simp <;> omega)) _) | (with_reducible refine Ext.trans ?_ (by with_reducible assumption))))⟩
  case true =>
  by_cases h3 : s.size = 4
  case neg =>
    have HG : Hid (tornRes (torn (bl f) x (bl s) n) = .tuple #[.string (mk []), .int .i64 200]) := by
      show _ = _
      unfold torn tornMay
      rw [bl_length s, decide_eq_false h3, Bool.and_false]; rfl
    have ht : ((s.size : Int) != 4) = true := by rw [bne_iff_ne]; omega
    rw [decide_eq_true h1] at C1
    rw [h2] at C2
    clear h1 h2
    go_enter Try.func83, Try.ntmps83
    go_wp2_with fail
    refine (C1.out _).mono ?_
    rintro e w4 ⟨rfl, rfl⟩
    go_wp2_with fail
    refine (C2.out _).mono ?_
    rintro e w5 ⟨rfl, rfl⟩
    go_wp2
    go_ret2
    exact ⟨congrArg Ending.returned HG.out.symm, (by repeat (first | (with_reducible exact Ext.refl _) | (with_reducible assumption) | (with_reducible refine Ext.drewN ?_ _) | (with_reducible refine Ext.drew ?_) | (with_reducible refine Ext.alloc ?_ _) | (with_reducible refine Ext.setCell ?_ (by first | exact Nat.le_refl _ | (simp <;> omega)) _) | (with_reducible refine Ext.trans ?_ (by with_reducible assumption))))⟩
  case pos =>
  have ht : ((s.size : Int) != 4) = false := by rw [h3]; rfl
  cases h4 : within n 0 32
  case false =>
    have HG : Hid (tornRes (torn (bl f) x (bl s) n) = .tuple #[.string (mk []), .int .i64 200]) := by
      show _ = _
      unfold torn tornMay
      rw [h4, Bool.and_false]; rfl
    rw [decide_eq_true h1] at C1
    rw [h2] at C2
    rw [h4] at C3
    clear h1 h2 h4
    go_enter Try.func83, Try.ntmps83
    go_wp2_with fail
    refine (C1.out _).mono ?_
    rintro e w6 ⟨rfl, rfl⟩
    go_wp2_with fail
    refine (C2.out _).mono ?_
    rintro e w7 ⟨rfl, rfl⟩
    go_wp2_with fail
    refine (C3.out _).mono ?_
    rintro e w8 ⟨rfl, rfl⟩
    go_wp2
    go_ret2
    exact ⟨congrArg Ending.returned HG.out.symm, (by repeat (first | (with_reducible exact Ext.refl _) | (with_reducible assumption) | (with_reducible refine Ext.drewN ?_ _) | (with_reducible refine Ext.drew ?_) | (with_reducible refine Ext.alloc ?_ _) | (with_reducible refine Ext.setCell ?_ (by first | exact Nat.le_refl _ | (simp <;> omega)) _) | (with_reducible refine Ext.trans ?_ (by with_reducible assumption))))⟩
  case true =>
  obtain ⟨hn0, hn1⟩ := Skiff.within_iff.1 h4
  have hx := h2
  unfold wordAt at hx
  obtain ⟨hx0, hx1⟩ := Skiff.within_iff.1 (Bool.and_eq_true_iff.1 hx).1
  obtain ⟨k, rfl⟩ := Int.eq_ofNat_of_zero_le hn0
  obtain ⟨j, rfl⟩ := Int.eq_ofNat_of_zero_le hx0
  have HG : Hid (torn (bl f) j (bl s) k = some (tornF (bl f) j (bl s) k)) := by
    show _ = _
    unfold torn tornMay
    rw [bl_length, bl_length, decide_eq_true h1, h2, decide_eq_true h3, h4]
    rfl
  rw [decide_eq_true h1] at C1
  rw [h2] at C2
  rw [h4] at C3
  clear hx h2 h4
  have kc := fun (w : World) => Lib.run_convert_string_bytes (P := Try.prog) w 9 110 5 (f.extract j (j + 4)) Try.underlying9 Try.underlying110 Try.underlying5
  have hb0 : bl (f.extract j (j + 4)) = ((bl f).drop j).take 4 := by rw [bl_extract]; simp
  have hsz : (f.extract j (j + 4)).size = 4 := by simp; omega
  rw [hsz] at kc
  have HB := Lib.hid hb0
  clear hb0
  go_enter Try.func83, Try.ntmps83
  go_wp2_with fail
  refine (C1.out _).mono ?_
  rintro e w9 ⟨rfl, rfl⟩
  go_wp2_with fail
  refine (C2.out _).mono ?_
  rintro e w10 ⟨rfl, rfl⟩
  go_wp2_with fail
  refine (C3.out _).mono ?_
  rintro e w11 ⟨rfl, rfl⟩
  go_wp2
  have hR0 := RowB.bytes w 5 (f.extract j (j + 4))
  rw [show (f.extract j (j + 4)).data.toList = ((bl f).drop j).take 4 from HB.out] at hR0
  have hE0 := Ext.bytes w 5 (f.extract j (j + 4))
  have hbl : (((bl f).drop j).take 4).length = 4 := by simp; omega
  generalize ((bl f).drop j).take 4 = b0 at hR0 hbl HB
  go_loopw [11] (fun i wr => ∃ c : Nat, c ≤ k ∧ i = .int .i64 (c : Int) ∧ RowB wr w.heap.size (tornL b0 (bl s) c) ∧ Ext w wr) (fun i _ => k - (intOf i).toNat)
  case atStart => exact ⟨0, by omega, rfl, by rw [tornL_zero]; exact hR0, hE0⟩
  case round =>
    clear hR0 hE0
    obtain ⟨c, hc, rfl, hR, hE⟩ := hrel
    have hll := tornL_length b0 (bl s) c
    by_cases hlt : c < k
    · have g0 : c / 8 < 4 := by omega
      have g1 : c % 8 < 8 := by omega
      have g2 : c / 8 < s.size := by omega
      have g3 : 0 ≤ (c : Int) / 8 ∧ (c : Int) / 8 < 4 := by omega
      have hbt := bit_test (s[c / 8]) (c % 8) g1
      have hst := tornL_step b0 (bl s) c (by omega) (by rw [bl_length]; omega)
      rw [show (bl s).getD (c / 8) 0 = s[c / 8] by rw [List.getD_eq_getElem?_getD, List.getElem?_eq_getElem (by rw [bl_length]; exact g2)]; rfl] at hst
      unfold bitB at hst
      have hcell := hR.cellD (i := c / 8) (by omega)
      have hfree := hR.free (i := c / 8) (by omega)
      generalize hy : (tornL b0 (bl s) c).getD (c / 8) 0 = y at hst hcell
      have HY := Lib.hid hy
      clear hy
      by_cases hb : (s[c / 8] >>> UInt8.ofNat (c % 8)) &&& 1 = 0
      · rw [decide_eq_true hb] at hbt
        rw [if_pos hb] at hst
        have hcl := bit_clear y (c % 8) g1
        generalize y &&& ~~~ (1 <<< UInt8.ofNat (c % 8)) = z at hst hcl
        have HST := Lib.hid hst
        clear hb hst
        go_wp2
        go_region
        go_wp2
        go_roundw
        case rel => exact ⟨c + 1, by omega, by go_num, by rw [HST.out]; exact (hR.set (c / 8) z).ext ((Ext.refl _).drew), (hE.setCell (Nat.le_refl _) _).drew⟩
        case measure => simp [intOf] <;> omega
      · rw [decide_eq_false hb] at hbt
        rw [if_neg hb] at hst
        have HST := Lib.hid hst
        clear hb hst
        go_wp2
        go_roundw
        case rel => exact ⟨c + 1, by omega, by go_num, by rw [HST.out, ← HY.out, set_getD_self]; exact hR, hE⟩
        case measure => simp [intOf] <;> omega
    · obtain rfl : c = k := by omega
      have hS := (hR.ext ((Ext.refl wr).drew)).string (P := Try.prog) 110 5 9 Try.underlying110 Try.underlying5 Try.underlying9 (grownCap w 4 0 5)
      rw [hll, hbl] at hS
      have hj1 : (j : Int) + 4 ≤ 768 := by omega
      have hj2 : IntKind.i64.wrap ((j : Int) + 4) = (j : Int) + 4 := wrap_i64_fit _ (by omega) (by omega)
      have hj3 : 0 ≤ (j : Int) + 4 := by omega
      have hj4 : ((j : Int) + 4).toNat = j + 4 := by omega
      have hj5 : (j : Int) ≤ 768 := by omega
      go_wp2
      go_region
      have he : f.extract 0 j ++ (⟨(tornL b0 (bl s) c).toArray⟩ : ByteArray) ++ f.extract (j + 4) 768 = mk (tornF (bl f) j (bl s) c) := by
        rw [← mk_bl (f.extract 0 j ++ (⟨(tornL b0 (bl s) c).toArray⟩ : ByteArray) ++ f.extract (j + 4) 768)]
        congr 1
        rw [bl_append, bl_append, bl_extract, bl_extract]
        have e1 : b0 = ((bl f).drop j).take 4 := by rw [← HB.out, bl_extract]; simp
        have e2 : bl (⟨(tornL b0 (bl s) c).toArray⟩ : ByteArray) = tornL b0 (bl s) c := bl_mk _
        rw [e2, e1]
        unfold tornF
        rw [List.take_of_length_le (by simp; omega : ((bl f).drop (j + 4)).length ≤ 768 - (j + 4))]
        simp
      rw [he]
      go_wp2
      go_ret2
      exact ⟨congrArg Ending.returned (congrArg tornRes HG.out).symm, (by repeat (first | (with_reducible exact Ext.refl _) | (with_reducible assumption) | (with_reducible refine Ext.drewN ?_ _) | (with_reducible refine Ext.drew ?_) | (with_reducible refine Ext.alloc ?_ _) | (with_reducible refine Ext.setCell ?_ (by first | exact Nat.le_refl _ | (simp <;> omega)) _) | (with_reducible refine Ext.trans ?_ (by with_reducible assumption))))⟩

end Go.Proofs.Ytmidohjfajbpmaa
set_option linter.unusedVariables false
set_option linter.unusedSimpArgs false
set_option maxHeartbeats 4000000
namespace Go.Proofs.Ytmidohjfajbpmaa
open Go.RowKit Skiff

theorem rworn_calls (f : ByteArray) (x n : Int) (w : World) :
    Calls Try.prog 82 #[.string f, .int .i64 x, .int .i64 n] w fun e w' => e = .returned (tornRes (worn (bl f) x n)) ∧ Ext w w' := by
  have C1 := Lib.hid (fun w => flashMay_calls f w)
  have C2 := Lib.hid (fun w => upTo_calls x 0 7 w)
  have C3 := Lib.hid (fun w => upTo_calls n 0 96 w)
  by_cases h1 : f.size = 768
  case neg =>
    have HG : Hid (tornRes (worn (bl f) x n) = .tuple #[.string (mk []), .int .i64 200]) := by
      show _ = _
      unfold worn wornMay
      rw [bl_length, decide_eq_false h1]; rfl
    rw [decide_eq_false h1] at C1
    clear h1
    go_enter Try.func82, Try.ntmps82
    go_wp2_with fail
    refine (C1.out _).mono ?_
    rintro e w1 ⟨rfl, rfl⟩
    go_wp2
    go_ret2
    exact ⟨congrArg Ending.returned HG.out.symm, (by repeat (first | (with_reducible exact Ext.refl _) | (with_reducible assumption) | (with_reducible refine Ext.drewN ?_ _) | (with_reducible refine Ext.drew ?_) | (with_reducible refine Ext.alloc ?_ _) | (with_reducible refine Ext.setCell ?_ (by first | exact Nat.le_refl _ | (simp <;> omega)) _) | (with_reducible refine Ext.trans ?_ (by with_reducible assumption))))⟩
  case pos =>
  cases h2 : within x 0 7
  case false =>
    have HG : Hid (tornRes (worn (bl f) x n) = .tuple #[.string (mk []), .int .i64 200]) := by
      show _ = _
      unfold worn wornMay
      rw [h2, Bool.and_false]; rfl
    rw [decide_eq_true h1] at C1
    rw [h2] at C2
    clear h1 h2
    go_enter Try.func82, Try.ntmps82
    go_wp2_with fail
    refine (C1.out _).mono ?_
    rintro e w2 ⟨rfl, rfl⟩
    go_wp2_with fail
    refine (C2.out _).mono ?_
    rintro e w3 ⟨rfl, rfl⟩
    go_wp2
    go_ret2
    exact ⟨congrArg Ending.returned HG.out.symm, (by repeat (first | (with_reducible exact Ext.refl _) | (with_reducible assumption) | (with_reducible refine Ext.drewN ?_ _) | (with_reducible refine Ext.drew ?_) | (with_reducible refine Ext.alloc ?_ _) | (with_reducible refine Ext.setCell ?_ (by first | exact Nat.le_refl _ | (simp <;> omega)) _) | (with_reducible refine Ext.trans ?_ (by with_reducible assumption))))⟩
  case true =>
  cases h4 : within n 0 96
  case false =>
    have HG : Hid (tornRes (worn (bl f) x n) = .tuple #[.string (mk []), .int .i64 200]) := by
      show _ = _
      unfold worn wornMay
      rw [h4, Bool.and_false]; rfl
    rw [decide_eq_true h1] at C1
    rw [h2] at C2
    rw [h4] at C3
    clear h1 h2 h4
    go_enter Try.func82, Try.ntmps82
    go_wp2_with fail
    refine (C1.out _).mono ?_
    rintro e w4 ⟨rfl, rfl⟩
    go_wp2_with fail
    refine (C2.out _).mono ?_
    rintro e w5 ⟨rfl, rfl⟩
    go_wp2_with fail
    refine (C3.out _).mono ?_
    rintro e w6 ⟨rfl, rfl⟩
    go_wp2
    go_ret2
    exact ⟨congrArg Ending.returned HG.out.symm, (by repeat (first | (with_reducible exact Ext.refl _) | (with_reducible assumption) | (with_reducible refine Ext.drewN ?_ _) | (with_reducible refine Ext.drew ?_) | (with_reducible refine Ext.alloc ?_ _) | (with_reducible refine Ext.setCell ?_ (by first | exact Nat.le_refl _ | (simp <;> omega)) _) | (with_reducible refine Ext.trans ?_ (by with_reducible assumption))))⟩
  case true =>
  obtain ⟨hn0, hn1⟩ := Skiff.within_iff.1 h4
  obtain ⟨hx0, hx1⟩ := Skiff.within_iff.1 h2
  obtain ⟨k, rfl⟩ := Int.eq_ofNat_of_zero_le hn0
  obtain ⟨j, rfl⟩ := Int.eq_ofNat_of_zero_le hx0
  have HG : Hid (worn (bl f) j k = some (wornF (bl f) (j * 96) k)) := by
    show _ = _
    unfold worn wornMay
    rw [bl_length, decide_eq_true h1, h2, h4, Nat.mul_comm j 96]
    rfl
  rw [decide_eq_true h1] at C1
  rw [h2] at C2
  rw [h4] at C3
  clear h2 h4
  have C4 := Lib.hid (fun w => rfull_calls k (by omega) w)
  have c0 : (j : Int) * 96 ≤ 768 := by omega
  have c1 : (j : Int) * 96 + (k : Int) ≤ 768 := by omega
  have c2 : 0 ≤ (j : Int) * 96 + (k : Int) := by omega
  have c3 : ((j : Int) * 96 + (k : Int)).toNat = j * 96 + k := by omega
  have c4 : ((j : Int) * 96).toNat = j * 96 := by omega
  have c5 : IntKind.i64.wrap ((j : Int) * 96 + (k : Int)) = (j : Int) * 96 + (k : Int) := wrap_i64_fit _ (by omega) (by omega)
  have c6 : 0 ≤ (j : Int) * 96 := by omega
  have he : f.extract 0 (j * 96) ++ mk (List.replicate k 255) ++ f.extract (j * 96 + k) 768 = mk (wornF (bl f) (j * 96) k) := by
    rw [← mk_bl (f.extract 0 (j * 96) ++ mk (List.replicate k 255) ++ f.extract (j * 96 + k) 768)]
    congr 1
    rw [bl_append, bl_append, bl_extract, bl_extract, bl_mk]
    unfold wornF
    rw [List.take_of_length_le (by simp; omega : ((bl f).drop (j * 96 + k)).length ≤ 768 - (j * 96 + k))]
    simp
  have hrs : (mk (List.replicate k 255)).size = k := by rw [mk_size, List.length_replicate]
  have hs1 : (f.extract 0 (j * 96)).size = j * 96 := by simp; omega
  have hs2 : (f.extract (j * 96 + k) 768).size = 768 - (j * 96 + k) := by simp; omega
  have q1 : ¬ (9223372036854775807 < j * 96 + k) := by omega
  have q2 : ¬ (9223372036854775807 < j * 96 + k + (768 - (j * 96 + k))) := by omega
  generalize mk (List.replicate k 255) = R at *
  have HE := Lib.hid he
  clear he
  go_enter Try.func82, Try.ntmps82
  go_wp2_with fail
  refine (C1.out _).mono ?_
  rintro e w7 ⟨rfl, rfl⟩
  go_wp2_with fail
  refine (C2.out _).mono ?_
  rintro e w8 ⟨rfl, rfl⟩
  go_wp2_with fail
  refine (C3.out _).mono ?_
  rintro e w9 ⟨rfl, rfl⟩
  go_wp2
  go_region_held3 (fun w' => Ext w w') ( repeat (first | (with_reducible exact Ext.refl _) | (with_reducible assumption) | (with_reducible refine Ext.drewN ?_ _) | (with_reducible refine Ext.drew ?_) | (with_reducible refine Ext.alloc ?_ _) | (with_reducible refine Ext.setCell ?_ (by first | exact Nat.le_refl _ | (simp <;> omega)) _) | (with_reducible refine Ext.trans ?_ (by with_reducible assumption)))) (first | (go_at_call 62; (with_reducible refine (C4.out _).mono ?_); rintro e w' ⟨rfl, B⟩))
  all_goals
    rw [HE.out]
    go_wp2
    go_ret2
    exact ⟨congrArg Ending.returned (congrArg tornRes HG.out).symm, (by first | assumption | exact (by repeat (first | (with_reducible exact Ext.refl _) | (with_reducible assumption) | (with_reducible refine Ext.drewN ?_ _) | (with_reducible refine Ext.drew ?_) | (with_reducible refine Ext.alloc ?_ _) | (with_reducible refine Ext.setCell ?_ (by first | exact Nat.le_refl _ | (simp <;> omega)) _) | (with_reducible refine Ext.trans ?_ (by with_reducible assumption)))))⟩

end Go.Proofs.Ytmidohjfajbpmaa
set_option linter.unusedVariables false
set_option linter.unusedSimpArgs false
set_option maxHeartbeats 4000000
namespace Go.Proofs.Ytmidohjfajbpmaa
open Go.RowKit Skiff
attribute [local go_sem ↓ high] min_two_int min_three_int max_two_int

end Go.Proofs.Ytmidohjfajbpmaa
set_option linter.unusedVariables false
set_option linter.unusedSimpArgs false
set_option maxHeartbeats 4000000
namespace Go.Proofs.Ytmidohjfajbpmaa
open Go.RowKit Skiff

end Go.Proofs.Ytmidohjfajbpmaa
set_option linter.unusedVariables false
set_option linter.unusedSimpArgs false
set_option maxHeartbeats 4000000
namespace Go.Proofs.Ytmidohjfajbpmaa
open Go.RowKit Skiff

theorem take_set (T b : List UInt8) (c : Nat) (h1 : c < T.length) (h2 : c < b.length) : (T.take c ++ b.drop c).set c (T.getD c 0) = T.take (c + 1) ++ b.drop (c + 1) := by
  have hl : (T.take c).length = c := by simp; omega
  rw [List.set_append_right _ _ (by omega), hl, Nat.sub_self, List.drop_eq_getElem_cons h2, List.set_cons_zero, List.take_succ_eq_append_getElem h1, List.append_assoc, List.getD_eq_getElem?_getD, List.getElem?_eq_getElem h1]
  rfl

end Go.Proofs.Ytmidohjfajbpmaa
set_option linter.unusedVariables false
set_option linter.unusedSimpArgs false
set_option maxHeartbeats 4000000
namespace Skiff
def tornPair (o : Option (List UInt8)) : ByteArray × Int := match o with
  | some l => (mk l, 0)
  | none => (mk [], 200)
def fulls (n : Int) : Option ByteArray := if 0 ≤ n ∧ n ≤ 768 then some (mk (List.replicate n.toNat 255)) else none
end Skiff
namespace Go.Proofs.Ytmidohjfajbpmaa
open Go.RowKit Skiff

theorem tornRes_pair {o : Option (List UInt8)} {r1 : ByteArray} {r2 : Int} (h : some (tornPair o) = some (r1, r2)) : tornRes o = .tuple #[.string r1, .int .i64 r2] := by
  have h := Option.some.inj h
  cases o with
  | none => simp only [tornPair, Prod.mk.injEq] at h; obtain ⟨rfl, rfl⟩ := h; rfl
  | some l => simp only [tornPair, Prod.mk.injEq] at h; obtain ⟨rfl, rfl⟩ := h; rfl

theorem g_skiffref1_Torn (a0 : ByteArray) (a1 : Int) (a2 : ByteArray) (a3 : Int) (r1 : ByteArray) (r2 : Int) (w : World) (h : some (tornPair (torn (bl a0) a1 (bl a2) a3)) = some (r1, r2)) :
    Calls Try.prog 83 #[.string a0, .int .i64 a1, .string a2, .int .i64 a3] w fun e w' => e = .returned (.tuple #[.string r1, .int .i64 r2]) ∧ Below w.heap.size w w' :=
  (rtorn_calls a0 a2 a1 a3 w).mono fun e w' ⟨he, hw⟩ => ⟨by rw [he, tornRes_pair h], hw⟩

theorem g_skiffref1_Worn (a0 : ByteArray) (a1 : Int) (a2 : Int) (r1 : ByteArray) (r2 : Int) (w : World) (h : some (tornPair (worn (bl a0) a1 a2)) = some (r1, r2)) :
    Calls Try.prog 82 #[.string a0, .int .i64 a1, .int .i64 a2] w fun e w' => e = .returned (.tuple #[.string r1, .int .i64 r2]) ∧ Below w.heap.size w w' :=
  (rworn_calls a0 a1 a2 w).mono fun e w' ⟨he, hw⟩ => ⟨by rw [he, tornRes_pair h], hw⟩

theorem g_skiffref1_Blank (r : ByteArray) (w : World) (h : some (mk flash0) = some r) :
    Calls Try.prog 36 #[] w fun e w' => e = .returned (.string r) ∧ Below w.heap.size w w' :=
  (rblank_calls w).mono fun e w' ⟨he, hw⟩ => ⟨by rw [he, Option.some.inj h], hw⟩

theorem fulls_some {n : Int} {r : ByteArray} (h : fulls n = some r) : ∃ k : Nat, n = k ∧ k ≤ 768 ∧ r = mk (List.replicate k 255) := by
  unfold fulls at h
  split at h
  · exact ⟨n.toNat, by omega, by omega, (Option.some.inj h).symm⟩
  · cases h
theorem g_skiffref1_full (a0 : Int) (r : ByteArray) (w : World) (h : fulls a0 = some r) :
    Calls Try.prog 62 #[.int .i64 a0] w fun e w' => e = .returned (.string r) ∧ Below w.heap.size w w' := by
  obtain ⟨k, rfl, hk, rfl⟩ := fulls_some h
  exact rfull_calls k hk w

end Go.Proofs.Ytmidohjfajbpmaa
end
section
set_option linter.unusedVariables false
set_option linter.unusedSimpArgs false
set_option maxHeartbeats 4000000
namespace Go.Proofs.Ytmidohjfajbpmaa
open Go.RowKit

theorem crc_bit_pos {y : Nat} (h : y % 2 = 1) (hy : y < 4294967296) : (bits .and .u32 (y : Int) 1 != 0) = true := by
  have e : (1 : Int) = ((1 : Nat) : Int) := rfl
  rw [e, u32_and_nat y 1 hy (by decide), nat_mask1, h]; rfl
theorem crc_bit_neg {y : Nat} (h : y % 2 = 0) (hy : y < 4294967296) : (bits .and .u32 (y : Int) 1 != 0) = false := by
  have e : (1 : Int) = ((1 : Nat) : Int) := rfl
  rw [e, u32_and_nat y 1 hy (by decide), nat_mask1, h]; rfl
theorem crc_poly {y : Nat} (hy : y < 4294967296) : bits .xor .u32 ((y : Int) / 2) 3988292384 = (((y / 2) ^^^ 3988292384 : Nat) : Int) := by
  have e : ((y : Int) / 2) = ((y / 2 : Nat) : Int) := by omega
  have e2 : (3988292384 : Int) = ((3988292384 : Nat) : Int) := rfl
  rw [e, e2, u32_xor_nat _ _ (by omega) (by decide)]
theorem crc_half (y : Nat) : ((y : Int) / 2) = ((y / 2 : Nat) : Int) := by omega

theorem step_calls (a b : Nat) (w : World) (ha : a < 4294967296) (hb : b < 256) :
    Calls Try.prog 88 #[.int .u32 (a : Int), .int .u8 (b : Int)] w fun e w' => e = .returned (.int .u32 (Skiff.stepByte a b : Nat)) ∧ w = w' := by
  have hx : bits .xor .u32 (a : Int) (b : Int) = ((a ^^^ b : Nat) : Int) := u32_xor_nat a b ha (by omega)
  have hxl : a ^^^ b < 4294967296 := Nat.xor_lt_two_pow (n := 32) ha (by omega)
  have H0 : Hid (Skiff.stepByte a b = Skiff.stepN 8 (a ^^^ b)) := rfl
  have HX := Lib.hid hx
  clear hx
  go_enter Try.func88, Try.ntmps88
  go_wp2
  go_loop [0, 10] (fun x i => ∃ (k : Nat) (y : Nat), k ≤ 8 ∧ y < 4294967296 ∧ i = .int .i64 (k : Int) ∧ x = .int .u32 (y : Int) ∧ Hid (Skiff.stepByte a b = Skiff.stepN (8 - k) y)) (fun _ i => 8 - (intOf i).toNat)
  case atStart => exact ⟨0, a ^^^ b, by omega, hxl, rfl, by rw [HX.out], H0⟩
  case round =>
    obtain ⟨k, y, hk, hy, rfl, rfl, H⟩ := hrel
    by_cases hlt : k < 8
    · have hb8 : 8 - k = (8 - (k + 1)) + 1 := by omega
      have H2 : Hid (Skiff.stepByte a b = Skiff.stepN (8 - (k + 1)) (Skiff.stepBit y)) := by
        have := H.out; rw [hb8] at this; exact this
      have hl : Skiff.stepBit y < 4294967296 := Skiff.stepBit_lt hy
      clear H hb8
      rcases Nat.mod_two_eq_zero_or_one y with h2 | h2
      · have e : Skiff.stepBit y = y / 2 := by unfold Skiff.stepBit; rw [if_neg (by omega)]
        have hbit := crc_bit_neg h2 hy
        have hh := crc_half y
        rw [e] at H2 hl
        have HH := Lib.hid hh
        clear e h2 hh
        go_wp2
        go_round
        case rel => exact ⟨k + 1, y / 2, by omega, hl, by go_num, by rw [HH.out], H2⟩
        case measure => simp [intOf]; omega
      · have e : Skiff.stepBit y = (y / 2) ^^^ 3988292384 := by unfold Skiff.stepBit; rw [if_pos h2]
        have hbit := crc_bit_pos h2 hy
        have hh := crc_poly hy
        rw [e] at H2 hl
        have HH := Lib.hid hh
        clear e h2 hh
        go_wp2
        go_round
        case rel => exact ⟨k + 1, (y / 2) ^^^ 3988292384, by omega, hl, by go_num, by rw [HH.out], H2⟩
        case measure => simp [intOf]; omega
    · obtain rfl : k = 8 := by omega
      go_wp2
      go_ret
      have := H.out
      exact ⟨by rw [this]; rfl, rfl⟩

theorem crc_not {y : Nat} (hy : y < 4294967296) : bits .xor .u32 4294967295 (y : Int) = ((4294967295 - y : Nat) : Int) := by
  have e : (4294967295 : Int) = ((4294967295 : Nat) : Int) := rfl
  rw [e, u32_xor_nat _ _ (by decide) hy]
  congr 1
  have h := Nat.testBit_two_pow_sub_succ (n := 32) (x := y) hy
  apply Nat.eq_of_testBit_eq
  intro i
  have e1 : 4294967295 - y = 2 ^ 32 - (y + 1) := by omega
  rw [e1, h, Nat.testBit_xor]
  have e3 : (4294967295 : Nat) = 2 ^ 32 - 1 := by decide
  rw [e3, Nat.testBit_two_pow_sub_one]
  by_cases hi : i < 32
  · simp [hi]
  · rw [Nat.testBit_lt_two_pow (Nat.lt_of_lt_of_le hy (show (4294967296 : Nat) ≤ 2 ^ i from Nat.pow_le_pow_right (show 2 > 0 by decide) (show 32 ≤ i by omega)))]
    simp [hi]

theorem sum_calls (s : ByteArray) (w : World) (hs : s.size ≤ 4611686018427387904) :
    Calls Try.prog 76 #[.string s] w fun e w' => e = .returned (.int .i64 (Skiff.crcSum s.data.toList : Nat)) ∧ Ext w w' := by
  have kc := fun (w : World) => Lib.run_convert_string_bytes (P := Try.prog) w 9 110 5 s Try.underlying9 Try.underlying110 Try.underlying5
  go_enter Try.func76, Try.ntmps76
  go_wp2
  go_loop [3, 9] (fun x i => ∃ (k : Nat) (y : Nat), k ≤ s.size ∧ y < 4294967296 ∧ i = .int .i64 (k : Int) ∧ x = .int .u32 (y : Int) ∧ Hid (Skiff.crcState 4294967295 s.data.toList = Skiff.crcState y (s.data.toList.drop k))) (fun _ i => s.size - (intOf i).toNat)
  case atStart => exact ⟨0, 4294967295, by omega, by decide, rfl, rfl, rfl⟩
  case round =>
    obtain ⟨k, y, hk, hy, rfl, rfl, H⟩ := hrel
    by_cases hlt : k < s.size
    · have hl : s.data.toList.length = s.size := by simp
      have hd : s.data.toList.drop k = s.data.toList.getD k 0 :: s.data.toList.drop (k + 1) := by
        rw [List.drop_eq_getElem_cons (by omega), List.getD_eq_getElem?_getD, List.getElem?_eq_getElem (by omega)]; rfl
      have hcell := Lib.bytesWorld_cell w 5 s k hlt
      generalize s.data.toList.getD k 0 = c at hd hcell
      have H2 : Hid (Skiff.crcState 4294967295 s.data.toList = Skiff.crcState (Skiff.stepByte y c.toNat) (s.data.toList.drop (k + 1))) := by
        have := H.out; rw [hd] at this; exact this
      have hl2 : Skiff.stepByte y c.toNat < 4294967296 := Skiff.stepByte_lt hy c.toNat_lt
      have hc : c.toNat < 256 := c.toNat_lt
      clear H hd hl
      go_wp2_with (go_at_call 88; refine (step_calls y c.toNat _ hy hc).mono ?_; rintro e w' ⟨rfl, rfl⟩)
      go_round
      case rel => exact ⟨k + 1, _, by omega, hl2, by go_num, rfl, H2⟩
      case measure => simp [intOf]; omega
    · obtain rfl : k = s.size := by omega
      have hn := crc_not hy
      obtain ⟨z, hz, hzl⟩ : ∃ z : Nat, 4294967295 - y = z ∧ z < 4294967296 := ⟨_, rfl, by omega⟩
      rw [hz] at hn
      have hn2 : bits .xor .u32 IntKind.u32.max (y : Int) = (z : Int) := hn
      have HZ := Lib.hid hz
      clear hn
      clear hz
      go_wp2
      go_ret
      have h1 := H.out
      rw [List.drop_of_length_le (by simp)] at h1
      have h2 : Skiff.crcState y [] = y := rfl
      rw [h2] at h1
      refine ⟨?_, Ext.bytes w _ s⟩
      unfold Skiff.crcSum
      rw [h1, HZ.out]
      have hw : wrap64 (z : Int) = z := by unfold wrap64; omega
      show Ending.returned (.int .i64 (wrap64 (z : Int))) = _
      rw [hw]

theorem ref_crc_calls (s : ByteArray) (w : World) (hs : s.size ≤ 4611686018427387904) :
    Calls Try.prog 65 #[.string s] w fun e w' => e = .returned (.int .i64 (Skiff.crcSum s.data.toList : Nat)) ∧ w = w' := by
  go_enter Try.func65, Try.ntmps65
  go_wp2
  go_loop [3, 4] (fun x i => ∃ (k : Nat) (y : Nat), k ≤ s.size ∧ y < 4294967296 ∧ i = .int .i64 (k : Int) ∧ x = .int .u32 (y : Int) ∧ Hid (Skiff.crcState 4294967295 s.data.toList = Skiff.crcState y (s.data.toList.drop k))) (fun _ i => s.size - (intOf i).toNat)
  case atStart => exact ⟨0, 4294967295, by omega, by decide, rfl, rfl, rfl⟩
  case round =>
    obtain ⟨k, y, hk, hy, rfl, rfl, H⟩ := hrel
    by_cases hlt : k < s.size
    · have hl : s.data.toList.length = s.size := by simp
      have hd : s.data.toList.drop k = s[k] :: s.data.toList.drop (k + 1) := by
        rw [List.drop_eq_getElem_cons (by omega)]; rfl
      generalize hcc : s[k] = c at hd
      have H2 : Hid (Skiff.crcState 4294967295 s.data.toList = Skiff.crcState (Skiff.stepByte y c.toNat) (s.data.toList.drop (k + 1))) := by
        have := H.out; rw [hd] at this; exact this
      have hl2 : Skiff.stepByte y c.toNat < 4294967296 := Skiff.stepByte_lt hy c.toNat_lt
      have hc : c.toNat < 256 := c.toNat_lt
      clear H hd hl
      have hx : bits .xor .u32 (y : Int) (c.toNat : Int) = ((y ^^^ c.toNat : Nat) : Int) := u32_xor_nat y c.toNat hy (by omega)
      have hxl : y ^^^ c.toNat < 4294967296 := Nat.xor_lt_two_pow (n := 32) hy (by omega)
      have H0 : Hid (Skiff.stepByte y c.toNat = Skiff.stepN 8 (y ^^^ c.toNat)) := rfl
      have HX := Lib.hid hx
      have HC := Lib.hid hcc
      clear hx
      go_wp2
      go_loop [3, 5] (fun x i => ∃ (j : Nat) (z : Nat), j ≤ 8 ∧ z < 4294967296 ∧ i = .int .i64 (j : Int) ∧ x = .int .u32 (z : Int) ∧ Hid (Skiff.stepByte y c.toNat = Skiff.stepN (8 - j) z)) (fun _ i => 8 - (intOf i).toNat)
      case atStart => exact ⟨0, y ^^^ c.toNat, by omega, hxl, rfl, by rw [HX.out], H0⟩
      case round =>
        obtain ⟨j, z, hj, hz, rfl, rfl, G⟩ := hrel
        by_cases hjt : j < 8
        · have hb8 : 8 - j = (8 - (j + 1)) + 1 := by omega
          have G2 : Hid (Skiff.stepByte y c.toNat = Skiff.stepN (8 - (j + 1)) (Skiff.stepBit z)) := by
            have := G.out; rw [hb8] at this; exact this
          have hl : Skiff.stepBit z < 4294967296 := Skiff.stepBit_lt hz
          clear G hb8 hcc
          rcases Nat.mod_two_eq_zero_or_one z with h2 | h2
          · have e : Skiff.stepBit z = z / 2 := by unfold Skiff.stepBit; rw [if_neg (by omega)]
            have hbit : (bits .and .u32 (z : Int) 1 == 1) = false := by
              have e1 : (1 : Int) = ((1 : Nat) : Int) := rfl
              rw [e1, u32_and_nat z 1 hz (by decide), nat_mask1, h2]; rfl
            have hh := crc_half z
            rw [e] at G2 hl
            have HH := Lib.hid hh
            clear e h2 hh
            go_wp2
            go_round
            case rel => exact ⟨j + 1, z / 2, by omega, hl, by go_num, by rw [HH.out], G2⟩
            case measure => simp [intOf]; omega
          · have e : Skiff.stepBit z = (z / 2) ^^^ 3988292384 := by unfold Skiff.stepBit; rw [if_pos h2]
            have hbit : (bits .and .u32 (z : Int) 1 == 1) = true := by
              have e1 : (1 : Int) = ((1 : Nat) : Int) := rfl
              rw [e1, u32_and_nat z 1 hz (by decide), nat_mask1, h2]; rfl
            have hh := crc_poly hz
            rw [e] at G2 hl
            have HH := Lib.hid hh
            clear e h2 hh
            go_wp2
            go_round
            case rel => exact ⟨j + 1, (z / 2) ^^^ 3988292384, by omega, hl, by go_num, by rw [HH.out], G2⟩
            case measure => simp [intOf]; omega
        · obtain rfl : j = 8 := by omega
          clear hcc
          go_wp2
          go_round
          case rel => exact ⟨k + 1, z, by omega, hz, by go_num, rfl, by have h1 := H2.out; rw [G.out] at h1; exact h1⟩
          case measure => simp [intOf]; omega
    · obtain rfl : k = s.size := by omega
      have hn := crc_not hy
      obtain ⟨z, hz, hzl⟩ : ∃ z : Nat, 4294967295 - y = z ∧ z < 4294967296 := ⟨_, rfl, by omega⟩
      rw [hz] at hn
      have hn2 : bits .xor .u32 IntKind.u32.max (y : Int) = (z : Int) := hn
      have HZ := Lib.hid hz
      clear hn hz
      go_wp2
      go_ret
      have h1 := H.out
      rw [List.drop_of_length_le (by simp)] at h1
      have h2 : Skiff.crcState y [] = y := rfl
      rw [h2] at h1
      refine ⟨?_, rfl⟩
      unfold Skiff.crcSum
      rw [h1, HZ.out]
      have hw : wrap64 (z : Int) = z := by unfold wrap64; omega
      show Ending.returned (.int .i64 (wrap64 (z : Int))) = _
      rw [hw]

end Go.Proofs.Ytmidohjfajbpmaa
set_option linter.unusedVariables false
set_option linter.unusedSimpArgs false
set_option maxHeartbeats 4000000
namespace Skiff
def sums (s : ByteArray) : Option Int := if s.size ≤ 4611686018427387904 then some ((crcSum (bl s) : Nat) : Int) else none
end Skiff
namespace Go.Proofs.Ytmidohjfajbpmaa
open Go.RowKit Skiff

theorem g_crc_Sum (a0 : ByteArray) (r : Int) (w : World) (h : sums a0 = some r) :
    Calls Try.prog 76 #[.string a0] w fun e w' => e = .returned (.int .i64 r) ∧ Below w.heap.size w w' := by
  unfold sums at h
  split at h
  · rename_i hs
    obtain rfl := Option.some.inj h
    exact sum_calls a0 w hs
  · cases h
theorem g_skiffref1_Crc (a0 : ByteArray) (r : Int) (w : World) (h : sums a0 = some r) :
    Calls Try.prog 65 #[.string a0] w fun e w' => e = .returned (.int .i64 r) ∧ Below w.heap.size w w' := by
  unfold sums at h
  split at h
  · rename_i hs
    obtain rfl := Option.some.inj h
    refine (ref_crc_calls a0 w hs).mono ?_
    rintro e w' ⟨he, rfl⟩
    exact ⟨he, Below.refl _ _⟩
  · cases h

end Go.Proofs.Ytmidohjfajbpmaa
set_option linter.unusedVariables false
set_option linter.unusedSimpArgs false
set_option maxHeartbeats 4000000
namespace Go.Proofs.Ytmidohjfajbpmaa
open Go.RowKit Skiff

def recV (r : Rec) : Value := .agg #[.int .i64 r.seq, .int .i64 r.slot, .int .i64 r.size, .int .i64 r.sum]

theorem in_calls (x a b : Int) (w : World) :
    Calls Try.prog 71 #[.int .i64 x, .int .i64 a, .int .i64 b] w fun e w' => e = .returned (.bool (within x a b)) ∧ w = w' := by
  have hw : Hid (within x a b = (decide (a ≤ x) && decide (x ≤ b))) := rfl
  by_cases h : a ≤ x
  · have h1 : decide (a ≤ x) = true := by simpa using h
    go_enter Try.func71, Try.ntmps71
    go_wp2
    go_ret
    exact ⟨by rw [hw.out, h1]; rfl, rfl⟩
  · have h1 : decide (a ≤ x) = false := by simpa using h
    go_enter Try.func71, Try.ntmps71
    go_wp2
    go_ret
    exact ⟨by rw [hw.out, h1]; rfl, rfl⟩

theorem size_calls (x : Int) (w : World) :
    Calls Try.prog 50 #[.int .i64 x] w fun e w' => e = .returned (.bool (within x 1 288)) ∧ w = w' := by
  go_enter Try.func50, Try.ntmps50
  go_wp2_with fail
  refine (in_calls _ _ _ _).mono ?_
  rintro e w1 ⟨rfl, rfl⟩
  go_wp2
  go_ret
  exact ⟨rfl, rfl⟩

theorem slot_calls (x : Int) (w : World) :
    Calls Try.prog 51 #[.int .i64 x] w fun e w' => e = .returned (.bool (within x 0 1)) ∧ w = w' := by
  go_enter Try.func51, Try.ntmps51
  go_wp2_with fail
  refine (in_calls _ _ _ _).mono ?_
  rintro e w1 ⟨rfl, rfl⟩
  go_wp2
  go_ret
  exact ⟨rfl, rfl⟩

theorem may_calls (r : Rec) (w : World) :
    Calls Try.prog 59 #[recV r] w fun e w' => e = .returned (.bool (recMay r)) ∧ Ext w w' := by
  unfold recV
  have hm : Hid (recMay r = (within r.seq 1 1048576 && within r.slot 0 1 && within r.size 1 288 && within r.sum 0 4294967295)) := rfl
  cases h1 : within r.seq 1 1048576
  · go_enter Try.func59, Try.ntmps59
    go_wp2_with fail
    refine (in_calls _ _ _ _).mono ?_
    rintro e w1 ⟨rfl, rfl⟩
    go_wp2
    go_ret
    exact ⟨by rw [hm.out, h1]; rfl, (by repeat (first | (with_reducible exact Ext.refl _) | (with_reducible assumption) | (with_reducible refine Ext.drewN ?_ _) | (with_reducible refine Ext.drew ?_) | (with_reducible refine Ext.alloc ?_ _) | (with_reducible refine Ext.setCell ?_ (by first | exact Nat.le_refl _ | (simp <;> omega)) _) | (with_reducible refine Ext.trans ?_ (by with_reducible assumption))))⟩
  cases h2 : within r.slot 0 1
  · go_enter Try.func59, Try.ntmps59
    go_wp2_with fail
    refine (in_calls _ _ _ _).mono ?_
    rintro e w2 ⟨rfl, rfl⟩
    go_wp2_with fail
    refine (slot_calls _ _).mono ?_
    rintro e w3 ⟨rfl, rfl⟩
    go_wp2
    go_ret
    exact ⟨by rw [hm.out, h1, h2]; rfl, (by repeat (first | (with_reducible exact Ext.refl _) | (with_reducible assumption) | (with_reducible refine Ext.drewN ?_ _) | (with_reducible refine Ext.drew ?_) | (with_reducible refine Ext.alloc ?_ _) | (with_reducible refine Ext.setCell ?_ (by first | exact Nat.le_refl _ | (simp <;> omega)) _) | (with_reducible refine Ext.trans ?_ (by with_reducible assumption))))⟩
  cases h3 : within r.size 1 288
  · go_enter Try.func59, Try.ntmps59
    go_wp2_with fail
    refine (in_calls _ _ _ _).mono ?_
    rintro e w4 ⟨rfl, rfl⟩
    go_wp2_with fail
    refine (slot_calls _ _).mono ?_
    rintro e w5 ⟨rfl, rfl⟩
    go_wp2_with fail
    refine (size_calls _ _).mono ?_
    rintro e w6 ⟨rfl, rfl⟩
    go_wp2
    go_ret
    exact ⟨by rw [hm.out, h1, h2, h3]; rfl, (by repeat (first | (with_reducible exact Ext.refl _) | (with_reducible assumption) | (with_reducible refine Ext.drewN ?_ _) | (with_reducible refine Ext.drew ?_) | (with_reducible refine Ext.alloc ?_ _) | (with_reducible refine Ext.setCell ?_ (by first | exact Nat.le_refl _ | (simp <;> omega)) _) | (with_reducible refine Ext.trans ?_ (by with_reducible assumption))))⟩
  · go_enter Try.func59, Try.ntmps59
    go_wp2_with fail
    refine (in_calls _ _ _ _).mono ?_
    rintro e w7 ⟨rfl, rfl⟩
    go_wp2_with fail
    refine (slot_calls _ _).mono ?_
    rintro e w8 ⟨rfl, rfl⟩
    go_wp2_with fail
    refine (size_calls _ _).mono ?_
    rintro e w9 ⟨rfl, rfl⟩
    go_wp2_with fail
    refine (in_calls _ _ _ _).mono ?_
    rintro e w10 ⟨rfl, rfl⟩
    go_wp2
    go_ret
    exact ⟨by rw [hm.out, h1, h2, h3]; rfl, (by repeat (first | (with_reducible exact Ext.refl _) | (with_reducible assumption) | (with_reducible refine Ext.drewN ?_ _) | (with_reducible refine Ext.drew ?_) | (with_reducible refine Ext.alloc ?_ _) | (with_reducible refine Ext.setCell ?_ (by first | exact Nat.le_refl _ | (simp <;> omega)) _) | (with_reducible refine Ext.trans ?_ (by with_reducible assumption))))⟩

theorem or_byte (n : Nat) (b : UInt8) (h : n < 2 ^ 48) : bits .or .i64 ((n : Int) * 256) (b.toNat : Int) = ((b.toNat + 256 * n : Nat) : Int) := by
  have hb := b.toNat_lt
  rw [bits_join .i64 62 (by decide) (fun m h0 h1 => IntWalk.i64_in m (by omega)) 8 ((n : Int) * 256) (b.toNat : Int) (by omega) (by omega) (by omega) (by omega) (by omega) (by omega)]
  omega

theorem num_calls' (s : ByteArray) (hs : s.size ≤ 6) (w : World) :
    Calls Try.prog 87 #[.string s] w fun e w' => e = .returned (.int .i64 (num (bl s) : Nat)) ∧ w = w' := by
  have hl : (bl s).length = s.size := bl_length s
  go_enter Try.func87, Try.ntmps87
  go_wp2
  go_loop [3, 4] (fun o i => ∃ (j m : Nat), j ≤ s.size ∧ i = .int .i64 ((j : Int) - 1) ∧ o = .int .i64 (m : Int) ∧ Hid (m = num ((bl s).drop j))) (fun _ i => (intOf i + 1).toNat)
  case atStart => exact ⟨s.size, 0, by omega, by go_num, rfl, by show 0 = _; rw [List.drop_of_length_le (by omega)]; rfl⟩
  case round =>
    obtain ⟨j, m, hj, rfl, rfl, hm⟩ := hrel
    rcases j with _ | j
    · go_wp2
      go_ret
      exact ⟨by rw [hm.out]; rfl, rfl⟩
    · have hd : (bl s).drop j = s[j] :: (bl s).drop (j + 1) := by
        rw [List.drop_eq_getElem_cons (by omega)]; rfl
      have hlt : m < 2 ^ 48 := by
        have h1 := num_lt ((bl s).drop (j + 1))
        rw [← hm.out] at h1
        have h2 : 256 ^ ((bl s).drop (j + 1)).length ≤ 256 ^ 6 := Nat.pow_le_pow_right (by decide) (by simp; omega)
        omega
      have hor := or_byte m s[j] hlt
      have hb : s[j].toNat < 256 := s[j].toNat_lt
      have hm2 : Hid (s[j].toNat + 256 * m = num ((bl s).drop j)) := by
        show _ = _
        rw [hd, hm.out]; rfl
      have h0 : (0 : Int) ≤ ((j + 1 : Nat) : Int) - 1 := by omega
      clear hd hm
      go_wp2
      go_round
      case rel => exact ⟨j, _, by omega, by go_num, rfl, hm2⟩
      case measure => simp [intOf] <;> omega

theorem u8_not (b : UInt8) : bits .xor .u8 IntKind.u8.max (b.toNat : Int) = ((~~~ b).toNat : Int) := by
  have e : IntKind.u8.max = ((255 : Nat) : Int) := rfl
  have hb := b.toNat_lt
  rw [e, u8_xor_nat 255 b.toNat (by decide) hb]
  congr 1

theorem compl_calls (s : ByteArray) (hs : s.size ≤ 1000) (w : World) :
    Calls Try.prog 86 #[.string s] w fun e w' => e = .returned (.string (mk (compl (bl s)))) ∧ Ext w w' := by
  have kc := fun (w : World) => Lib.run_convert_string_bytes (P := Try.prog) w 9 110 5 s Try.underlying9 Try.underlying110 Try.underlying5
  go_enter Try.func86, Try.ntmps86
  go_wp2
  have hR := RowB.bytes w 5 s
  have hE := Ext.bytes w 5 s
  go_loopw [9] (fun i wr => ∃ j : Nat, j ≤ s.size ∧ i = .int .i64 (j : Int) ∧ RowB wr w.heap.size (compl ((bl s).take j) ++ (bl s).drop j) ∧ Ext w wr) (fun i _ => s.size - (intOf i).toNat)
  case atStart => exact ⟨0, by omega, rfl, hR, hE⟩
  case round =>
    clear hR hE
    obtain ⟨j, hj, rfl, hR, hE⟩ := hrel
    have hl : (bl s).length = s.size := bl_length s
    have hll : (compl ((bl s).take j) ++ (bl s).drop j).length = s.size := by simp; omega
    by_cases hlt : j < s.size
    · have hcell := hR.cellD (i := j) (by omega)
      have hfree := hR.free (i := j) (by omega)
      rw [compl_at (bl s) j (by omega)] at hcell
      have hset := compl_set (bl s) j (by omega)
      generalize (bl s)[j] = c at hcell hset
      have hn := u8_not c
      have HS := Lib.hid hset
      clear hset
      go_wp2
      go_roundw
      case rel => exact ⟨j + 1, by omega, by go_num, by rw [← HS.out]; have h1 := hR.set j (~~~ c); rw [← hn] at h1; exact h1, hE.setCell (Nat.le_refl _) _⟩
      case measure => simp [intOf]; omega
    · obtain rfl : j = s.size := by omega
      have hr := hR.string (P := Try.prog) 110 5 9 Try.underlying110 Try.underlying5 Try.underlying9 (grownCap w s.size 0 5)
      rw [hll] at hr
      have hfin : compl ((bl s).take s.size) ++ (bl s).drop s.size = compl (bl s) := by
        rw [List.take_of_length_le (by omega), List.drop_of_length_le (by omega), List.append_nil]
      rw [hfin] at hr
      go_wp2
      go_ret
      exact ⟨rfl, hE⟩

end Go.Proofs.Ytmidohjfajbpmaa
set_option linter.unusedVariables false
set_option linter.unusedSimpArgs false
set_option maxHeartbeats 4000000
namespace Go.Proofs.Ytmidohjfajbpmaa
open Go.RowKit Skiff

def getRes (l : List UInt8) : Value := match Skiff.get l with
  | some r => .tuple #[recV r, .int .i64 0]
  | none => .tuple #[recV Rec.zero, .int .i64 400]
theorem getRes_some {l : List UInt8} {r : Rec} (h : Skiff.get l = some r) : getRes l = .tuple #[recV r, .int .i64 0] := by unfold getRes; rw [h]
theorem getRes_none {l : List UInt8} (h : Skiff.get l = none) : getRes l = .tuple #[recV Rec.zero, .int .i64 400] := by unfold getRes; rw [h]

theorem get_calls (s : ByteArray) (w : World) :
    Calls Try.prog 73 #[.string s] w fun e w' => e = .returned (getRes (bl s)) ∧ Ext w w' := by
  have hl : (bl s).length = s.size := bl_length s
  by_cases h24 : s.size = 24
  · have hn : ((s.size : Int) != 24) = false := by rw [h24]; rfl
    have hX : bl (s.extract 0 12) = (bl s).take 12 := by rw [bl_extract]; simp
    have hY : bl (s.extract 12 24) = (bl s).drop 12 := by rw [bl_extract, List.take_of_length_le (by simp; omega)]
    have C := Lib.hid (fun w => compl_calls (s.extract 0 12) (by rw [← bl_length, hX]; simp; omega) w)
    rw [hX] at C
    by_cases hc : compl ((bl s).take 12) = (bl s).drop 12
    · have htest : (!(mk (compl (List.take 12 (bl s)))).toList == (s.extract 12 24).toList) = false := by
        rw [beq_bl, bl_mk, hY]; simp [hc]
      obtain ⟨r, hr⟩ : ∃ r, told (bl s) = r := ⟨_, rfl⟩
      have n1 : ((num (bl (s.extract 0 4)) : Nat) : Int) = r.seq := by rw [← hr, bl_extract]; rfl
      have n2 : ((num (bl (s.extract 4 6)) : Nat) : Int) = r.slot := by rw [← hr, bl_extract]; rfl
      have n3 : ((num (bl (s.extract 6 8)) : Nat) : Int) = r.size := by rw [← hr, bl_extract]; rfl
      have n4 : ((num (bl (s.extract 8 12)) : Nat) : Int) = r.sum := by rw [← hr, bl_extract]; rfl
      have N1 := Lib.hid (fun w => num_calls' (s.extract 0 4) (by simp; omega) w)
      have N2 := Lib.hid (fun w => num_calls' (s.extract 4 6) (by simp; omega) w)
      have N3 := Lib.hid (fun w => num_calls' (s.extract 6 8) (by simp; omega) w)
      have N4 := Lib.hid (fun w => num_calls' (s.extract 8 12) (by simp; omega) w)
      rw [n1] at N1
      rw [n2] at N2
      rw [n3] at N3
      rw [n4] at N4
      have M := Lib.hid (fun w => may_calls r w)
      unfold recV at M
      have HG : Hid (getRes (bl s) = if recMay r = true then .tuple #[recV r, .int .i64 0] else .tuple #[recV Rec.zero, .int .i64 400]) := by
        show _ = _
        unfold getRes Skiff.get
        rw [hr]
        cases hm : recMay r
        · rw [if_neg (by simp)]; rfl
        · rw [if_pos ⟨by omega, hc, rfl⟩]; rfl
      clear n1 n2 n3 n4 hX hY hr hc
      generalize recMay r = b at *
      go_enter Try.func73, Try.ntmps73
      go_wp2
      go_region_held3 (fun w' => Ext (w.alloc (.cells #[.int .i64 0, .int .i64 0, .int .i64 0, .int .i64 0] 41)) w') ( repeat (first | (with_reducible exact Ext.refl _) | (with_reducible assumption) | (with_reducible refine Ext.drewN ?_ _) | (with_reducible refine Ext.drew ?_) | (with_reducible refine Ext.alloc ?_ _) | (with_reducible refine Ext.setCell ?_ (by first | exact Nat.le_refl _ | (simp <;> omega)) _) | (with_reducible refine Ext.trans ?_ (by with_reducible assumption)))) (first | (go_at_call 86; (with_reducible refine (C.out _).mono ?_); rintro e w' ⟨rfl, B⟩))
      have hE : Ext (w.alloc (.cells #[.int .i64 0, .int .i64 0, .int .i64 0, .int .i64 0] 41)) w' := by assumption
      go_wp2_with fail
      go_region_held3 (fun w1 => Ext w' w1) ( repeat (first | (with_reducible exact Ext.refl _) | (with_reducible assumption) | (with_reducible refine Ext.drewN ?_ _) | (with_reducible refine Ext.drew ?_) | (with_reducible refine Ext.alloc ?_ _) | (with_reducible refine Ext.setCell ?_ (by first | exact Nat.le_refl _ | (simp <;> omega)) _) | (with_reducible refine Ext.trans ?_ (by with_reducible assumption)))) (first | (go_at_call 87; first | ((with_reducible refine (N1.out _).mono ?_); rintro e w2 ⟨rfl, rfl⟩) | ((with_reducible refine (N2.out _).mono ?_); rintro e w2 ⟨rfl, rfl⟩) | ((with_reducible refine (N3.out _).mono ?_); rintro e w2 ⟨rfl, rfl⟩) | ((with_reducible refine (N4.out _).mono ?_); rintro e w2 ⟨rfl, rfl⟩)))
      all_goals
        go_wp2_with fail
        refine (M.out _).mono ?_
        rintro e w3 ⟨rfl, B3⟩
        have hE3 : Ext (w.alloc (.cells #[.int .i64 0, .int .i64 0, .int .i64 0, .int .i64 0] 41)) w3 := (by repeat (first | (with_reducible exact Ext.refl _) | (with_reducible assumption) | (with_reducible refine Ext.drewN ?_ _) | (with_reducible refine Ext.drew ?_) | (with_reducible refine Ext.alloc ?_ _) | (with_reducible refine Ext.setCell ?_ (by first | exact Nat.le_refl _ | (simp <;> omega)) _) | (with_reducible refine Ext.trans ?_ (by with_reducible assumption))))
        have k0_w3 : w3.cell? ⟨w'.heap.size, 0, none⟩ = some (.int .i64 r.seq) := Ext.cell B3 (by simp)
        have k1_w3 : w3.cell? ⟨w'.heap.size, 1, none⟩ = some (.int .i64 r.slot) := Ext.cell B3 (by simp)
        have k2_w3 : w3.cell? ⟨w'.heap.size, 2, none⟩ = some (.int .i64 r.size) := Ext.cell B3 (by simp)
        have k3_w3 : w3.cell? ⟨w'.heap.size, 3, none⟩ = some (.int .i64 r.sum) := Ext.cell B3 (by simp)
        have f_w3 : ∀ i, w3.frozen? ⟨w'.heap.size, i, none⟩ = false := fun i => Ext.free B3 (by first | (simp; done) | (simp; omega)) (by first | (simp; done) | (simp; omega))
        have m0 : w3.cell? ⟨w.heap.size, 0, none⟩ = some (.int .i64 0) := Ext.cell hE3 (by simp)
        have m1 : w3.cell? ⟨w.heap.size, 1, none⟩ = some (.int .i64 0) := Ext.cell hE3 (by simp)
        have m2 : w3.cell? ⟨w.heap.size, 2, none⟩ = some (.int .i64 0) := Ext.cell hE3 (by simp)
        have m3 : w3.cell? ⟨w.heap.size, 3, none⟩ = some (.int .i64 0) := Ext.cell hE3 (by simp)
        have mf : ∀ i, w3.frozen? ⟨w.heap.size, i, none⟩ = false := fun i => Ext.free hE3 (by simp) (by simp)
        cases b
        · go_wp2
          refine bodyPost_ret (v := .tuple #[recV Rec.zero, .int .i64 400]) ?_ rfl ?_
          · simp [results, Try.results73, go_sem, recV, Rec.zero, m0, m1, m2, m3]
          · exact ⟨congrArg Ending.returned HG.out.symm, (by repeat (first | (with_reducible exact Ext.refl _) | (with_reducible assumption) | (with_reducible refine Ext.drewN ?_ _) | (with_reducible refine Ext.drew ?_) | (with_reducible refine Ext.alloc ?_ _) | (with_reducible refine Ext.setCell ?_ (by first | exact Nat.le_refl _ | (simp <;> omega)) _) | (with_reducible refine Ext.trans ?_ (by with_reducible assumption))))⟩
        · go_wp2
          refine bodyPost_ret (v := .tuple #[recV r, .int .i64 0]) ?_ rfl ?_
          · simp [results, Try.results73, go_sem, recV, m0, m1, m2, m3]
          · exact ⟨congrArg Ending.returned HG.out.symm, (by repeat (first | (with_reducible exact Ext.refl _) | (with_reducible assumption) | (with_reducible refine Ext.drewN ?_ _) | (with_reducible refine Ext.drew ?_) | (with_reducible refine Ext.alloc ?_ _) | (with_reducible refine Ext.setCell ?_ (by first | exact Nat.le_refl _ | (simp <;> omega)) _) | (with_reducible refine Ext.trans ?_ (by with_reducible assumption))))⟩
    · have hg : Skiff.get (bl s) = none := by
        unfold Skiff.get
        rw [if_neg]
        intro h
        exact hc h.2.1
      have htest : (!(mk (compl (List.take 12 (bl s)))).toList == (s.extract 12 24).toList) = true := by
        rw [beq_bl, bl_mk, hY]; simp [hc]
      have HG := Lib.hid (getRes_none hg)
      clear hg hX hY hc
      go_enter Try.func73, Try.ntmps73
      go_wp2
      go_region_held3 (fun w' => Ext (w.alloc (.cells #[.int .i64 0, .int .i64 0, .int .i64 0, .int .i64 0] 41)) w') ( repeat (first | (with_reducible exact Ext.refl _) | (with_reducible assumption) | (with_reducible refine Ext.drewN ?_ _) | (with_reducible refine Ext.drew ?_) | (with_reducible refine Ext.alloc ?_ _) | (with_reducible refine Ext.setCell ?_ (by first | exact Nat.le_refl _ | (simp <;> omega)) _) | (with_reducible refine Ext.trans ?_ (by with_reducible assumption)))) (first | (go_at_call 86; (with_reducible refine (C.out _).mono ?_); rintro e w' ⟨rfl, B⟩))
      have hE : Ext (w.alloc (.cells #[.int .i64 0, .int .i64 0, .int .i64 0, .int .i64 0] 41)) w' := by assumption
      have k0_w' : w'.cell? ⟨w.heap.size, 0, none⟩ = some (.int .i64 0) := Ext.cell hE (by simp)
      have k1_w' : w'.cell? ⟨w.heap.size, 1, none⟩ = some (.int .i64 0) := Ext.cell hE (by simp)
      have k2_w' : w'.cell? ⟨w.heap.size, 2, none⟩ = some (.int .i64 0) := Ext.cell hE (by simp)
      have k3_w' : w'.cell? ⟨w.heap.size, 3, none⟩ = some (.int .i64 0) := Ext.cell hE (by simp)
      have f_w' : ∀ i, w'.frozen? ⟨w.heap.size, i, none⟩ = false := fun i => Ext.free hE (by first | (simp; done) | (simp; omega)) (by first | (simp; done) | (simp; omega))
      go_wp2
      refine bodyPost_ret (v := .tuple #[recV Rec.zero, .int .i64 400]) ?_ rfl ?_
      · simp [results, Try.results73, go_sem, recV, Rec.zero, k0_w', k1_w', k2_w', k3_w']
      · exact ⟨congrArg Ending.returned HG.out.symm, (by repeat (first | (with_reducible exact Ext.refl _) | (with_reducible assumption) | (with_reducible refine Ext.drewN ?_ _) | (with_reducible refine Ext.drew ?_) | (with_reducible refine Ext.alloc ?_ _) | (with_reducible refine Ext.setCell ?_ (by first | exact Nat.le_refl _ | (simp <;> omega)) _) | (with_reducible refine Ext.trans ?_ (by with_reducible assumption))))⟩
  · have hg : Skiff.get (bl s) = none := by
      unfold Skiff.get
      rw [if_neg]
      intro h
      exact h24 (by omega)
    have hn : ((s.size : Int) != 24) = true := by rw [bne_iff_ne]; omega
    have HG := Lib.hid (getRes_none hg)
    clear hg
    go_enter Try.func73, Try.ntmps73
    go_wp2
    go_quiet (fail)
    go_wp2
    refine bodyPost_ret (v := .tuple #[recV Rec.zero, .int .i64 400]) ?_ rfl ?_
    · simp [results, Try.results73, go_sem, recV, Rec.zero]
    · exact ⟨congrArg Ending.returned HG.out.symm, (by repeat (first | (with_reducible exact Ext.refl _) | (with_reducible assumption) | (with_reducible refine Ext.drewN ?_ _) | (with_reducible refine Ext.drew ?_) | (with_reducible refine Ext.alloc ?_ _) | (with_reducible refine Ext.setCell ?_ (by first | exact Nat.le_refl _ | (simp <;> omega)) _) | (with_reducible refine Ext.trans ?_ (by with_reducible assumption))))⟩

end Go.Proofs.Ytmidohjfajbpmaa
set_option linter.unusedVariables false
set_option linter.unusedSimpArgs false
set_option maxHeartbeats 4000000
namespace Go.Proofs.Ytmidohjfajbpmaa
open Go.RowKit Skiff

theorem recordMay_calls (r : Rec) (w : World) :
    Calls Try.prog 44 #[recV r] w fun e w' => e = .returned (.bool (recMay r)) ∧ Ext w w' := by
  unfold recV
  have hm : Hid (recMay r = (within r.seq 1 1048576 && within r.slot 0 1 && within r.size 1 288 && within r.sum 0 4294967295)) := rfl
  cases h1 : within r.seq 1 1048576
  · go_enter Try.func44, Try.ntmps44
    go_wp2_with fail
    refine (upTo_calls _ _ _ _).mono ?_
    rintro e w1 ⟨rfl, rfl⟩
    go_wp2
    go_ret
    exact ⟨by rw [hm.out, h1]; rfl, (by repeat (first | (with_reducible exact Ext.refl _) | (with_reducible assumption) | (with_reducible refine Ext.drewN ?_ _) | (with_reducible refine Ext.drew ?_) | (with_reducible refine Ext.alloc ?_ _) | (with_reducible refine Ext.setCell ?_ (by first | exact Nat.le_refl _ | (simp <;> omega)) _) | (with_reducible refine Ext.trans ?_ (by with_reducible assumption))))⟩
  cases h2 : within r.slot 0 1
  · go_enter Try.func44, Try.ntmps44
    go_wp2_with fail
    refine (upTo_calls _ _ _ _).mono ?_
    rintro e w2 ⟨rfl, rfl⟩
    go_wp2_with fail
    refine (upTo_calls _ _ _ _).mono ?_
    rintro e w3 ⟨rfl, rfl⟩
    go_wp2
    go_ret
    exact ⟨by rw [hm.out, h1, h2]; rfl, (by repeat (first | (with_reducible exact Ext.refl _) | (with_reducible assumption) | (with_reducible refine Ext.drewN ?_ _) | (with_reducible refine Ext.drew ?_) | (with_reducible refine Ext.alloc ?_ _) | (with_reducible refine Ext.setCell ?_ (by first | exact Nat.le_refl _ | (simp <;> omega)) _) | (with_reducible refine Ext.trans ?_ (by with_reducible assumption))))⟩
  cases h3 : within r.size 1 288
  · go_enter Try.func44, Try.ntmps44
    go_wp2_with fail
    refine (upTo_calls _ _ _ _).mono ?_
    rintro e w4 ⟨rfl, rfl⟩
    go_wp2_with fail
    refine (upTo_calls _ _ _ _).mono ?_
    rintro e w5 ⟨rfl, rfl⟩
    go_wp2_with fail
    refine (upTo_calls _ _ _ _).mono ?_
    rintro e w6 ⟨rfl, rfl⟩
    go_wp2
    go_ret
    exact ⟨by rw [hm.out, h1, h2, h3]; rfl, (by repeat (first | (with_reducible exact Ext.refl _) | (with_reducible assumption) | (with_reducible refine Ext.drewN ?_ _) | (with_reducible refine Ext.drew ?_) | (with_reducible refine Ext.alloc ?_ _) | (with_reducible refine Ext.setCell ?_ (by first | exact Nat.le_refl _ | (simp <;> omega)) _) | (with_reducible refine Ext.trans ?_ (by with_reducible assumption))))⟩
  · go_enter Try.func44, Try.ntmps44
    go_wp2_with fail
    refine (upTo_calls _ _ _ _).mono ?_
    rintro e w7 ⟨rfl, rfl⟩
    go_wp2_with fail
    refine (upTo_calls _ _ _ _).mono ?_
    rintro e w8 ⟨rfl, rfl⟩
    go_wp2_with fail
    refine (upTo_calls _ _ _ _).mono ?_
    rintro e w9 ⟨rfl, rfl⟩
    go_wp2_with fail
    refine (upTo_calls _ _ _ _).mono ?_
    rintro e w10 ⟨rfl, rfl⟩
    go_wp2
    go_ret
    exact ⟨by rw [hm.out, h1, h2, h3]; rfl, (by repeat (first | (with_reducible exact Ext.refl _) | (with_reducible assumption) | (with_reducible refine Ext.drewN ?_ _) | (with_reducible refine Ext.drew ?_) | (with_reducible refine Ext.alloc ?_ _) | (with_reducible refine Ext.setCell ?_ (by first | exact Nat.le_refl _ | (simp <;> omega)) _) | (with_reducible refine Ext.trans ?_ (by with_reducible assumption))))⟩

theorem rlow_calls (x : Int) (k : Nat) (hk : k ≤ 4) (w : World) :
    Calls Try.prog 84 #[.int .i64 x, .int .i64 (k : Int)] w fun e w' => e = .returned (.string (mk (low x k))) ∧ Ext w w' := by
  have hmk := fun w => made_u8 k (by omega) w
  go_enter Try.func84, Try.ntmps84
  go_wp2
  go_loopw [6] (fun i wr => ∃ j : Nat, j ≤ k ∧ i = .int .i64 (j : Int) ∧ RowB wr w.heap.size (low x j ++ List.replicate (k - j) 0) ∧ Ext w wr) (fun i _ => k - (intOf i).toNat)
  case atStart => exact ⟨0, by omega, rfl, RowB.made _ _ _, (Ext.refl _).alloc _⟩
  case round =>
    obtain ⟨j, hj, rfl, hR, hE⟩ := hrel
    have hll : (low x j ++ List.replicate (k - j) (0 : UInt8)).length = k := by simp; omega
    by_cases hlt : j < k
    · have hcell := hR.cellD (i := j) (by omega)
      have hfree := hR.free (i := j) (by omega)
      obtain ⟨m, hm⟩ : ∃ m, k - j = m + 1 := ⟨k - j - 1, by omega⟩
      have hm2 : k - (j + 1) = m := by omega
      have hpow : (2 : Int) ^ (8 * j) = 256 ^ j := by rw [Int.pow_mul]; rfl
      have hv := lowByte_toNat (x / 256 ^ j)
      rw [← hpow] at hv
      have HV := Lib.hid hv
      have HP := Lib.hid hpow
      have HM := Lib.hid hm
      have HM2 := Lib.hid hm2
      clear hv hpow hm hm2
      go_wp2
      go_roundw
      case rel => exact ⟨j + 1, by omega, by go_num, by have h1 := hR.set j (lowByte (x / 2 ^ (8 * j))); rw [HV.out, HM.out, HP.out, low_set] at h1; rw [HM2.out, HP.out]; exact h1, hE.setCell (Nat.le_refl _) _⟩
      case measure => simp [intOf] <;> omega
    · obtain rfl : j = k := by omega
      have hr := hR.string (P := Try.prog) 110 5 9 Try.underlying110 Try.underlying5 Try.underlying9 j
      have hfin : low x j ++ List.replicate (j - j) (0 : UInt8) = low x j := by simp
      rw [hll, hfin] at hr
      go_wp2
      go_ret
      exact ⟨rfl, hE⟩

theorem rlow4_calls (x : Int) (w : World) : Calls Try.prog 84 #[.int .i64 x, .int .i64 4] w fun e w' => e = .returned (.string (mk (low x 4))) ∧ Ext w w' := rlow_calls x 4 (by omega) w

theorem rlow2_calls (x : Int) (w : World) : Calls Try.prog 84 #[.int .i64 x, .int .i64 2] w fun e w' => e = .returned (.string (mk (low x 2))) ∧ Ext w w' := rlow_calls x 2 (by omega) w

theorem rlow1_calls (x : Int) (w : World) : Calls Try.prog 84 #[.int .i64 x, .int .i64 1] w fun e w' => e = .returned (.string (mk (low x 1))) ∧ Ext w w' := rlow_calls x 1 (by omega) w

theorem rof_calls (s : ByteArray) (hs : s.size ≤ 6) (w : World) :
    Calls Try.prog 85 #[.string s] w fun e w' => e = .returned (.int .i64 (num (bl s) : Nat)) ∧ w = w' := by
  have hl : (bl s).length = s.size := bl_length s
  go_enter Try.func85, Try.ntmps85
  go_wp2
  go_loop [3, 4] (fun o i => ∃ (j m : Nat), j ≤ s.size ∧ i = .int .i64 ((j : Int) - 1) ∧ o = .int .i64 (m : Int) ∧ Hid (m = num ((bl s).drop j))) (fun _ i => (intOf i + 1).toNat)
  case atStart => exact ⟨s.size, 0, by omega, by go_num, rfl, by show 0 = _; rw [List.drop_of_length_le (by omega)]; rfl⟩
  case round =>
    obtain ⟨j, m, hj, rfl, rfl, hm⟩ := hrel
    rcases j with _ | j
    · go_wp2
      go_ret
      exact ⟨by rw [hm.out]; rfl, rfl⟩
    · have hd : (bl s).drop j = s[j] :: (bl s).drop (j + 1) := by
        rw [List.drop_eq_getElem_cons (by omega)]; rfl
      have hlt : m < 2 ^ 48 := by
        have h1 := num_lt ((bl s).drop (j + 1))
        rw [← hm.out] at h1
        have h2 : 256 ^ ((bl s).drop (j + 1)).length ≤ 256 ^ 6 := Nat.pow_le_pow_right (by decide) (by simp; omega)
        omega
      have hor := or_byte m s[j] hlt
      have hb : s[j].toNat < 256 := s[j].toNat_lt
      have hm2 : Hid (s[j].toNat + 256 * m = num ((bl s).drop j)) := by
        show _ = _
        rw [hd, hm.out]; rfl
      have h0 : (0 : Int) ≤ ((j + 1 : Nat) : Int) - 1 := by omega
      clear hd hm
      go_wp2
      go_round
      case rel => exact ⟨j, _, by omega, by go_num, rfl, hm2⟩
      case measure => simp [intOf] <;> omega

theorem low_one (x : Int) (h0 : 0 ≤ x) (h1 : x ≤ 1) : low x 1 ++ low 0 1 = low x 2 := by
  have e : x / 256 = 0 := by omega
  simp [low, e]

theorem sub_byte (c : UInt8) : (255 - (c.toNat : Int)) = ((~~~ c).toNat : Int) := by
  have hc := c.toNat_lt
  rw [UInt8.toNat_not]
  simp only [UInt8.size]
  omega

theorem compl_take_succ (l : List UInt8) {j : Nat} (h : j < l.length) : compl (l.take (j + 1)) = compl (l.take j) ++ [~~~ l[j]] := by
  rw [List.take_succ_eq_append_getElem h]
  show List.map _ _ = List.map _ _ ++ _
  rw [List.map_append]; rfl

set_option maxRecDepth 20000 in
theorem rput_calls (r : Rec) (w : World) :
    Calls Try.prog 66 #[recV r] w fun e w' => e = .returned (if recMay r = true then .tuple #[.string (mk (put r)), .int .i64 0] else .tuple #[.string (mk []), .int .i64 400]) ∧ Ext w w' := by
  cases hm : recMay r
  · have M := Lib.hid (fun w => recordMay_calls r w)
    rw [hm] at M
    unfold recV at *
    go_enter Try.func66, Try.ntmps66
    go_wp2_with fail
    refine (M.out _).mono ?_
    rintro e w1 ⟨rfl, B1⟩
    go_wp2
    go_ret2
    exact ⟨rfl, (by repeat (first | (with_reducible exact Ext.refl _) | (with_reducible assumption) | (with_reducible refine Ext.drewN ?_ _) | (with_reducible refine Ext.drew ?_) | (with_reducible refine Ext.alloc ?_ _) | (with_reducible refine Ext.setCell ?_ (by first | exact Nat.le_refl _ | (simp <;> omega)) _) | (with_reducible refine Ext.trans ?_ (by with_reducible assumption))))⟩
  · have M := Lib.hid (fun w => recordMay_calls r w)
    rw [hm] at M
    obtain ⟨i0, hi, hz0, hz1, hz2⟩ := info_parts info_u8
    have hX : bl (mk (low r.seq 4) ++ mk (low r.slot 1) ++ mk (low 0 1) ++ mk (low r.size 2) ++ mk (low r.sum 4)) = half r := by
      have h := recMay_iff.1 hm
      simp only [bl_append, bl_mk, half, List.append_assoc]
      rw [← low_one r.slot (by omega) (by omega)]
      simp
    have kc := fun (w : World) => Lib.run_convert_string_bytes (P := Try.prog) w 9 110 5 (mk (low r.seq 4) ++ mk (low r.slot 1) ++ mk (low 0 1) ++ mk (low r.size 2) ++ mk (low r.sum 4)) Try.underlying9 Try.underlying110 Try.underlying5
    have HX := Lib.hid hX
    clear hX
    unfold recV at *
    go_enter Try.func66, Try.ntmps66
    go_wp2_with fail
    refine (M.out _).mono ?_
    rintro e w1 ⟨rfl, B1⟩
    have k0_w1 : w1.cell? ⟨w.heap.size, 0, none⟩ = some (.int .i64 r.seq) := Ext.cell B1 (by simp)
    have k1_w1 : w1.cell? ⟨w.heap.size, 1, none⟩ = some (.int .i64 r.slot) := Ext.cell B1 (by simp)
    have k2_w1 : w1.cell? ⟨w.heap.size, 2, none⟩ = some (.int .i64 r.size) := Ext.cell B1 (by simp)
    have k3_w1 : w1.cell? ⟨w.heap.size, 3, none⟩ = some (.int .i64 r.sum) := Ext.cell B1 (by simp)
    have f_w1 : ∀ i, w1.frozen? ⟨w.heap.size, i, none⟩ = false := fun i => Ext.free B1 (by first | (simp; done) | (simp; omega)) (by first | (simp; done) | (simp; omega))
    go_wp2
    refine wp_region_held_drew (S := fun w' => w'.cell? ⟨w.heap.size, 0, none⟩ = some (.int .i64 r.seq) ∧ w'.cell? ⟨w.heap.size, 1, none⟩ = some (.int .i64 r.slot) ∧ w'.cell? ⟨w.heap.size, 2, none⟩ = some (.int .i64 r.size) ∧ w'.cell? ⟨w.heap.size, 3, none⟩ = some (.int .i64 r.sum)) (by kernel_rfl) ?_ (fun hHeld => ?_)
    · go_keep
    refine wpAnyH_take (i := 0) (v := ?_) rfl (by kernel_rfl) (by kernel_rfl) (by kernel_rfl) (fun _ _ _ h => h) (Or.inl ⟨by rfl, ?_⟩) (by assumption) ?_
    rotate_left
    · (intro w hSw; (try dsimp only at hSw); go_simp; first | done | (with_reducible rfl))
    try simp only [Act.put, List.setIfInBounds_toArray, List.set_cons_zero, List.set_cons_succ]
    refine wpAnyH_take (i := 3) (v := ?_) rfl (by kernel_rfl) (by kernel_rfl) (by kernel_rfl) (fun _ _ _ h => h) (Or.inl ⟨by rfl, ?_⟩) (by assumption) ?_
    rotate_left
    · (intro w hSw; (try dsimp only at hSw); go_simp; first | done | (with_reducible rfl))
    try simp only [Act.put, List.setIfInBounds_toArray, List.set_cons_zero, List.set_cons_succ]
    refine wpAnyH_take (i := 9) (v := ?_) rfl (by kernel_rfl) (by kernel_rfl) (by kernel_rfl) (fun _ _ _ h => h) (Or.inl ⟨by rfl, ?_⟩) (by assumption) ?_
    rotate_left
    · (intro w hSw; (try dsimp only at hSw); go_simp; first | done | (with_reducible rfl))
    try simp only [Act.put, List.setIfInBounds_toArray, List.set_cons_zero, List.set_cons_succ]
    refine wpAnyH_take (i := 13) (v := ?_) rfl (by kernel_rfl) (by kernel_rfl) (by kernel_rfl) (fun _ _ _ h => h) (Or.inl ⟨by rfl, ?_⟩) (by assumption) ?_
    rotate_left
    · (intro w hSw; (try dsimp only at hSw); go_simp; first | done | (with_reducible rfl))
    try simp only [Act.put, List.setIfInBounds_toArray, List.set_cons_zero, List.set_cons_succ]
    refine wpAnyH_take (i := 1) (v := ?_) rfl (by kernel_rfl) (by kernel_rfl) (by kernel_rfl) (fun _ _ _ h => h) (Or.inl ⟨by rfl, ?_⟩) (by assumption) ?_
    rotate_left
    · (intro w hSw; (try dsimp only at hSw); go_simp; first | done | (with_reducible rfl))
    try simp only [Act.put, List.setIfInBounds_toArray, List.set_cons_zero, List.set_cons_succ]
    refine wpAnyH_take (i := 4) (v := ?_) rfl (by kernel_rfl) (by kernel_rfl) (by kernel_rfl) (fun _ _ _ h => h) (Or.inl ⟨by rfl, ?_⟩) (by assumption) ?_
    rotate_left
    · (intro w hSw; (try dsimp only at hSw); go_simp; first | done | (with_reducible rfl))
    try simp only [Act.put, List.setIfInBounds_toArray, List.set_cons_zero, List.set_cons_succ]
    refine wpAnyH_take (i := 10) (v := ?_) rfl (by kernel_rfl) (by kernel_rfl) (by kernel_rfl) (fun _ _ _ h => h) (Or.inl ⟨by rfl, ?_⟩) (by assumption) ?_
    rotate_left
    · (intro w hSw; (try dsimp only at hSw); go_simp; first | done | (with_reducible rfl))
    try simp only [Act.put, List.setIfInBounds_toArray, List.set_cons_zero, List.set_cons_succ]
    refine wpAnyH_take (i := 14) (v := ?_) rfl (by kernel_rfl) (by kernel_rfl) (by kernel_rfl) (fun _ _ _ h => h) (Or.inl ⟨by rfl, ?_⟩) (by assumption) ?_
    rotate_left
    · (intro w hSw; (try dsimp only at hSw); go_simp; first | done | (with_reducible rfl))
    try simp only [Act.put, List.setIfInBounds_toArray, List.set_cons_zero, List.set_cons_succ]
    refine wpAnyH_ready (rs := [2]) (by kernel_rfl) (by simp) ?_
    refine AllReadyH.cons rfl (fun K hK => ?_) AllReadyH.nil
    go_simp
    go_at_call 84
    refine (rlow4_calls _ _).mono ?_
    rintro e w2 ⟨rfl, B2⟩
    go_wp2_with fail
    refine hK.out _ _ ?_ (fun hHeld => ?_)
    · (go_split_ands; refine ⟨?_, ?_, ?_, ?_⟩ <;> exact Ext.cell B2 ‹_›)
    clear hK K
    try simp only [Act.put, List.setIfInBounds_toArray, List.set_cons_zero, List.set_cons_succ]
    refine wpAnyH_ready (rs := [5]) (by kernel_rfl) (by simp) ?_
    refine AllReadyH.cons rfl (fun K hK => ?_) AllReadyH.nil
    go_simp
    go_at_call 84
    refine (rlow1_calls _ _).mono ?_
    rintro e w3 ⟨rfl, B3⟩
    go_wp2_with fail
    refine hK.out _ _ ?_ (fun hHeld => ?_)
    · (go_split_ands; refine ⟨?_, ?_, ?_, ?_⟩ <;> exact Ext.cell B3 ‹_›)
    clear hK K
    try simp only [Act.put, List.setIfInBounds_toArray, List.set_cons_zero, List.set_cons_succ]
    refine wpAnyH_take (i := 6) (v := ?_) rfl (by kernel_rfl) (by kernel_rfl) (by kernel_rfl) (fun _ _ _ h => h) (Or.inl ⟨by rfl, ?_⟩) (by assumption) ?_
    rotate_left
    · (intro w hSw; (try dsimp only at hSw); go_simp; first | done | (with_reducible rfl))
    try simp only [Act.put, List.setIfInBounds_toArray, List.set_cons_zero, List.set_cons_succ]
    refine wpAnyH_ready (rs := [7]) (by kernel_rfl) (by simp) ?_
    refine AllReadyH.cons rfl (fun K hK => ?_) AllReadyH.nil
    go_simp
    go_at_call 84
    refine (rlow1_calls _ _).mono ?_
    rintro e w4 ⟨rfl, B4⟩
    go_wp2_with fail
    refine hK.out _ _ ?_ (fun hHeld => ?_)
    · (go_split_ands; refine ⟨?_, ?_, ?_, ?_⟩ <;> exact Ext.cell B4 ‹_›)
    clear hK K
    try simp only [Act.put, List.setIfInBounds_toArray, List.set_cons_zero, List.set_cons_succ]
    refine wpAnyH_take (i := 8) (v := ?_) rfl (by kernel_rfl) (by kernel_rfl) (by kernel_rfl) (fun _ _ _ h => h) (Or.inl ⟨by rfl, ?_⟩) (by assumption) ?_
    rotate_left
    · (intro w hSw; (try dsimp only at hSw); go_simp; first | done | (with_reducible rfl))
    try simp only [Act.put, List.setIfInBounds_toArray, List.set_cons_zero, List.set_cons_succ]
    refine wpAnyH_ready (rs := [11]) (by kernel_rfl) (by simp) ?_
    refine AllReadyH.cons rfl (fun K hK => ?_) AllReadyH.nil
    go_simp
    go_at_call 84
    refine (rlow2_calls _ _).mono ?_
    rintro e w5 ⟨rfl, B5⟩
    go_wp2_with fail
    refine hK.out _ _ ?_ (fun hHeld => ?_)
    · (go_split_ands; refine ⟨?_, ?_, ?_, ?_⟩ <;> exact Ext.cell B5 ‹_›)
    clear hK K
    try simp only [Act.put, List.setIfInBounds_toArray, List.set_cons_zero, List.set_cons_succ]
    refine wpAnyH_take (i := 12) (v := ?_) rfl (by kernel_rfl) (by kernel_rfl) (by kernel_rfl) (fun _ _ _ h => h) (Or.inl ⟨by rfl, ?_⟩) (by assumption) ?_
    rotate_left
    · (intro w hSw; (try dsimp only at hSw); go_simp; first | done | (with_reducible rfl))
    try simp only [Act.put, List.setIfInBounds_toArray, List.set_cons_zero, List.set_cons_succ]
    refine wpAnyH_ready (rs := [15]) (by kernel_rfl) (by simp) ?_
    refine AllReadyH.cons rfl (fun K hK => ?_) AllReadyH.nil
    go_simp
    go_at_call 84
    refine (rlow4_calls _ _).mono ?_
    rintro e w6 ⟨rfl, B6⟩
    go_wp2_with fail
    refine hK.out _ _ ?_ (fun hHeld => ?_)
    · (go_split_ands; refine ⟨?_, ?_, ?_, ?_⟩ <;> exact Ext.cell B6 ‹_›)
    clear hK K
    try simp only [Act.put, List.setIfInBounds_toArray, List.set_cons_zero, List.set_cons_succ]
    refine wpAnyH_take (i := 16) (v := ?_) rfl (by kernel_rfl) (by kernel_rfl) (by kernel_rfl) (fun _ _ _ h => h) (Or.inl ⟨by rfl, ?_⟩) (by assumption) ?_
    rotate_left
    · (intro w hSw; (try dsimp only at hSw); go_simp; first | done | (with_reducible rfl))
    try simp only [Act.put, List.setIfInBounds_toArray, List.set_cons_zero, List.set_cons_succ]
    refine wpAnyH_ready (rs := [17]) (by kernel_rfl) (by simp) ?_
    refine AllReadyH.cons rfl (fun K hK => ?_) AllReadyH.nil
    go_simp
    refine hK.out _ _ ?_ (fun hHeld => ?_)
    · (go_split_ands; refine ⟨?_, ?_, ?_, ?_⟩ <;> exact Ext.cell (Ext.bytes _ _ _) ‹_›)
    clear hK K
    try simp only [Act.put, List.setIfInBounds_toArray, List.set_cons_zero, List.set_cons_succ]
    refine wpAnyH_take (i := 18) (v := ?_) rfl (by kernel_rfl) (by kernel_rfl) (by kernel_rfl) (fun _ _ _ h => h) (Or.inl ⟨by rfl, ?_⟩) (by assumption) ?_
    rotate_left
    · (intro w hSw; (try dsimp only at hSw); go_simp; first | done | (with_reducible rfl))
    try simp only [Act.put, List.setIfInBounds_toArray, List.set_cons_zero, List.set_cons_succ]
    refine wpAnyH_done (by kernel_rfl) ?_ _
    go_wp2
    have hR0 := RowC.bytes w6 5 (mk (low r.seq 4) ++ mk (low r.slot 1) ++ mk (low 0 1) ++ mk (low r.size 2) ++ mk (low r.sum 4))
    have e12 : (mk (low r.seq 4) ++ mk (low r.slot 1) ++ mk (low 0 1) ++ mk (low r.size 2) ++ mk (low r.sum 4)).size = 12 := by simp
    rw [e12, show (mk (low r.seq 4) ++ mk (low r.slot 1) ++ mk (low 0 1) ++ mk (low r.size 2) ++ mk (low r.sum 4)).data.toList = half r from HX.out] at hR0
    have hE0 := Ext.bytes w6 5 (mk (low r.seq 4) ++ mk (low r.slot 1) ++ mk (low 0 1) ++ mk (low r.size 2) ++ mk (low r.sum 4))
    have hw6 : Ext w w6 := (by repeat (first | (with_reducible exact Ext.refl _) | (with_reducible assumption) | (with_reducible refine Ext.drewN ?_ _) | (with_reducible refine Ext.drew ?_) | (with_reducible refine Ext.alloc ?_ _) | (with_reducible refine Ext.setCell ?_ (by first | exact Nat.le_refl _ | (simp <;> omega)) _) | (with_reducible refine Ext.trans ?_ (by with_reducible assumption))))
    generalize Lib.bytesWorld w6 5 (mk (low r.seq 4) ++ mk (low r.slot 1) ++ mk (low 0 1) ++ mk (low r.size 2) ++ mk (low r.sum 4)) = W at *
    have hEW : Ext w W := hw6.trans hE0
    have hbase : w.heap.size ≤ w6.heap.size := hw6.size
    clear e12 hE0 kc M
    go_loopw [4, 5] (fun v i wr => ∃ (j g cap : Nat), j ≤ 12 ∧ i = .int .i64 (j : Int) ∧ v = .slice (some ⟨g, 0, none⟩) (12 + j) cap ∧ w.heap.size ≤ g ∧ RowC wr g cap (half r ++ compl ((half r).take j)) ∧ Ext w wr) (fun _ i _ => 12 - (intOf i).toNat)
    case atStart => exact ⟨0, w6.heap.size, _, by omega, rfl, rfl, hbase, by simpa [compl] using hR0, hEW⟩
    case round =>
      clear hR0 hEW
      obtain ⟨j, g, cap, hj, rfl, rfl, hg, hR, hE⟩ := hrel
      have hl : (half r).length = 12 := half_length r
      have hll : (half r ++ compl ((half r).take j)).length = 12 + j := by simp; omega
      by_cases hlt : j < 12
      · have hcell := hR.row.cellD (i := j) (by omega)
        have hat : (half r ++ compl ((half r).take j)).getD j 0 = (half r)[j] := by
          rw [List.getD_eq_getElem?_getD, List.getElem?_append_left (by omega), List.getElem?_eq_getElem (by omega)]; rfl
        rw [hat] at hcell
        have hnext : half r ++ compl ((half r).take j) ++ [~~~ (half r)[j]] = half r ++ compl ((half r).take (j + 1)) := by
          rw [List.append_assoc]; exact congrArg (half r ++ ·) (compl_take_succ (half r) (j := j) (by omega)).symm
        generalize (half r)[j] = c at hcell hnext
        have hsub : Hid ((255 - (c.toNat : Int)) = ((~~~ c).toNat : Int)) := sub_byte c
        have HN := Lib.hid hnext
        have hc := c.toNat_lt
        have hR' := hR.ext ((Ext.refl wr).alloc (.cells #[.int .u8 (255 - (c.toNat : Int))] 5))
        clear hat hnext
        go_wp2_with (at_builtin; refine wpList_append_rowc rfl (.tmp 31) (.tmp 37) 110 rfl w.heap.size 5 i0 Try.underlying110 hi hz0 hz1 hz2 g (12 + j) cap _ hll rfl hR' ⟨wr.heap.size, 0, none⟩ 1 (~~~ c) rfl ?c1 ?c2 ?c3 ?c4 ?_)
        case c1 => rw [u8v, ← hsub.out]; simp
        case c2 => omega
        case c3 => exact hg
        case c4 => have := hE.size; simp; omega
        intro g' cap' w7 hR7 hg7 hgrow
        rw [← List.append_assoc, HN.out] at hR7
        have hE7 : Ext w w7 := (hE.alloc _).grown hgrow (fun k hk => by cases hk; exact hg)
        clear hgrow hR hR'
        go_wp2
        go_roundw
        case rel => exact ⟨j + 1, g', cap', by omega, by go_num, rfl, hg7, hR7, hE7⟩
        case measure => simp [intOf] <;> omega
      · obtain rfl : j = 12 := by omega
        have hfin : half r ++ compl ((half r).take 12) = put r := by rw [List.take_of_length_le (by omega)]; rfl
        rw [hfin] at hR hll
        have hr := hR.row.string (P := Try.prog) 110 5 9 Try.underlying110 Try.underlying5 Try.underlying9 cap
        rw [put_length] at hr
        go_wp2
        go_ret2
        exact ⟨rfl, hE⟩

end Go.Proofs.Ytmidohjfajbpmaa
set_option linter.unusedVariables false
set_option linter.unusedSimpArgs false
set_option maxHeartbeats 4000000
namespace Go.Proofs.Ytmidohjfajbpmaa
open Go.RowKit Skiff

/-- What the reference reads. -/
def rtold (l : List UInt8) : Rec := ⟨num (l.take 4), ((l.getD 4 0).toNat : Nat), num ((l.drop 6).take 2), num ((l.drop 8).take 4)⟩
theorem rtold_get {l : List UInt8} {q : Rec} (h : Skiff.get l = some q) : rtold l = q := by
  have hm := (get_some h).1
  unfold Skiff.get at h
  split at h
  · rename_i hc
    obtain rfl := Option.some.inj h
    have hs := (recMay_iff.1 hm).2.1
    have hl := hc.1
    have e : (l.drop 4).take 2 = [l.getD 4 0, l.getD 5 0] := by
      rw [List.drop_eq_getElem_cons (by omega), List.drop_eq_getElem_cons (by omega)]
      rw [List.getD_eq_getElem?_getD, List.getD_eq_getElem?_getD, List.getElem?_eq_getElem (by omega), List.getElem?_eq_getElem (by omega)]; rfl
    have hv : (told l).slot = ((l.getD 4 0).toNat + 256 * ((l.getD 5 0).toNat + 0) : Nat) := by
      unfold told
      simp only
      rw [e]; rfl
    rw [hv] at hs
    unfold rtold
    have : (told l).slot = ((l.getD 4 0).toNat : Nat) := by rw [hv]; omega
    rw [← this]; rfl
  · cases h
theorem rget_of (l : List UInt8) : Skiff.get l = if recMay (rtold l) = true ∧ put (rtold l) = l then some (rtold l) else none := by
  cases h : Skiff.get l with
  | none => rw [if_neg]; intro hc; exact get_none h _ hc.1 hc.2
  | some q =>
    have e := rtold_get h
    have hq := get_some h
    rw [e, if_pos hq]

theorem rget_calls (s : ByteArray) (w : World) :
    Calls Try.prog 68 #[.string s] w fun e w' => e = .returned (getRes (bl s)) ∧ Ext w w' := by
  have hl : (bl s).length = s.size := bl_length s
  by_cases h24 : s.size = 24
  · have hn : ((s.size : Int) != 24) = false := by rw [h24]; rfl
    obtain ⟨r, hr⟩ : ∃ r, rtold (bl s) = r := ⟨_, rfl⟩
    have n1 : ((num (bl (s.extract 0 4)) : Nat) : Int) = r.seq := by rw [← hr, bl_extract]; rfl
    have n3 : ((num (bl (s.extract 6 8)) : Nat) : Int) = r.size := by rw [← hr, bl_extract]; rfl
    have n4 : ((num (bl (s.extract 8 12)) : Nat) : Int) = r.sum := by rw [← hr, bl_extract]; rfl
    have n2 : ((s[4].toNat : Nat) : Int) = r.slot := by
      rw [← hr]; unfold rtold
      simp only [List.getD_eq_getElem?_getD]
      rw [List.getElem?_eq_getElem (by omega)]; rfl
    have N1 := Lib.hid (fun w => rof_calls (s.extract 0 4) (by simp; omega) w)
    have N3 := Lib.hid (fun w => rof_calls (s.extract 6 8) (by simp; omega) w)
    have N4 := Lib.hid (fun w => rof_calls (s.extract 8 12) (by simp; omega) w)
    rw [n1] at N1
    rw [n3] at N3
    rw [n4] at N4
    have hb : s[4].toNat < 256 := s[4].toNat_lt
    have hj : 4 < s.size := by omega
    have N2 := Lib.hid (show IntKind.i64.wrap (s[4].toNat : Int) = r.slot by rw [← n2]; exact wrap_i64_fit _ (by omega) (by omega))
    have M := Lib.hid (fun w => rput_calls r w)
    unfold recV at M
    have HG : Hid (getRes (bl s) = if recMay r = true ∧ put r = bl s then .tuple #[recV r, .int .i64 0] else .tuple #[recV Rec.zero, .int .i64 400]) := by
      show _ = _
      unfold getRes
      rw [rget_of, hr]
      by_cases hc : recMay r = true ∧ put r = bl s
      · rw [if_pos hc, if_pos hc]
      · rw [if_neg hc, if_neg hc]
    clear n1 n2 n3 n4 hr
    go_enter Try.func68, Try.ntmps68
    go_wp2
    apply once
    case f =>
      intro key
      go_region_held3 (fun w1 => Ext (w.alloc (.cells #[.int .i64 0, .int .i64 0, .int .i64 0, .int .i64 0] 41)) w1) ( repeat (first | (with_reducible exact Ext.refl _) | (with_reducible refine Ext.drewN ?_ _) | (with_reducible refine Ext.drew ?_) | (with_reducible refine Ext.alloc ?_ _) | (with_reducible refine Ext.setCell ?_ (by first | exact Nat.le_refl _ | (simp <;> omega)) _) | (with_reducible refine Ext.trans ?_ (by with_reducible assumption)))) (first | (go_at_call 85; first | ((with_reducible refine (N1.out _).mono ?_); rintro e w2 ⟨rfl, rfl⟩) | ((with_reducible refine (N3.out _).mono ?_); rintro e w2 ⟨rfl, rfl⟩) | ((with_reducible refine (N4.out _).mono ?_); rintro e w2 ⟨rfl, rfl⟩)))
      all_goals (rw [N2.out]; exact key)
    case p =>
      generalize recMay r = b at *
      cases b
      · go_wp2_with fail
        refine (M.out _).mono ?_
        rintro e w2 ⟨rfl, B2⟩
        have k0_w2 : w2.cell? ⟨w.heap.size, 0, none⟩ = some (.int .i64 0) := Ext.cell B2 (by simp)
        have k1_w2 : w2.cell? ⟨w.heap.size, 1, none⟩ = some (.int .i64 0) := Ext.cell B2 (by simp)
        have k2_w2 : w2.cell? ⟨w.heap.size, 2, none⟩ = some (.int .i64 0) := Ext.cell B2 (by simp)
        have k3_w2 : w2.cell? ⟨w.heap.size, 3, none⟩ = some (.int .i64 0) := Ext.cell B2 (by simp)
        have f_w2 : ∀ i, w2.frozen? ⟨w.heap.size, i, none⟩ = false := fun i => Ext.free B2 (by first | (simp; done) | (simp; omega)) (by first | (simp; done) | (simp; omega))
        go_wp2
        refine bodyPost_ret (v := .tuple #[recV Rec.zero, .int .i64 400]) ?_ rfl ?_
        · simp [results, Try.results68, go_sem, recV, Rec.zero, k0_w2, k1_w2, k2_w2, k3_w2]
        · exact ⟨congrArg Ending.returned (HG.out.trans (by simp)).symm, (by repeat (first | (with_reducible exact Ext.refl _) | (with_reducible assumption) | (with_reducible refine Ext.drewN ?_ _) | (with_reducible refine Ext.drew ?_) | (with_reducible refine Ext.alloc ?_ _) | (with_reducible refine Ext.setCell ?_ (by first | exact Nat.le_refl _ | (simp <;> omega)) _) | (with_reducible refine Ext.trans ?_ (by with_reducible assumption))))⟩
      · by_cases hp : put r = bl s
        · have htest : (!(mk (put r)).toList == s.toList) = false := by rw [beq_bl, bl_mk]; simp [hp]
          have HP := Lib.hid hp
          clear hp
          go_wp2_with fail
          refine (M.out _).mono ?_
          rintro e w2 ⟨rfl, B2⟩
          have k0_w2 : w2.cell? ⟨w.heap.size, 0, none⟩ = some (.int .i64 0) := Ext.cell B2 (by simp)
          have k1_w2 : w2.cell? ⟨w.heap.size, 1, none⟩ = some (.int .i64 0) := Ext.cell B2 (by simp)
          have k2_w2 : w2.cell? ⟨w.heap.size, 2, none⟩ = some (.int .i64 0) := Ext.cell B2 (by simp)
          have k3_w2 : w2.cell? ⟨w.heap.size, 3, none⟩ = some (.int .i64 0) := Ext.cell B2 (by simp)
          have f_w2 : ∀ i, w2.frozen? ⟨w.heap.size, i, none⟩ = false := fun i => Ext.free B2 (by first | (simp; done) | (simp; omega)) (by first | (simp; done) | (simp; omega))
          have l0 : w2.cell? ⟨w.heap.size + 1, 0, none⟩ = some (.int .i64 r.seq) := Ext.cell B2 (by simp)
          have l1 : w2.cell? ⟨w.heap.size + 1, 1, none⟩ = some (.int .i64 r.slot) := Ext.cell B2 (by simp)
          have l2 : w2.cell? ⟨w.heap.size + 1, 2, none⟩ = some (.int .i64 r.size) := Ext.cell B2 (by simp)
          have l3 : w2.cell? ⟨w.heap.size + 1, 3, none⟩ = some (.int .i64 r.sum) := Ext.cell B2 (by simp)
          go_wp2
          refine bodyPost_ret (v := .tuple #[recV r, .int .i64 0]) ?_ rfl ?_
          · simp [results, Try.results68, go_sem, recV, k0_w2, k1_w2, k2_w2, k3_w2]
          · exact ⟨congrArg Ending.returned (HG.out.trans (if_pos ⟨(by first | rfl | trivial), HP.out⟩)).symm, (by repeat (first | (with_reducible exact Ext.refl _) | (with_reducible assumption) | (with_reducible refine Ext.drewN ?_ _) | (with_reducible refine Ext.drew ?_) | (with_reducible refine Ext.alloc ?_ _) | (with_reducible refine Ext.setCell ?_ (by first | exact Nat.le_refl _ | (simp <;> omega)) _) | (with_reducible refine Ext.trans ?_ (by with_reducible assumption))))⟩
        · have htest : (!(mk (put r)).toList == s.toList) = true := by rw [beq_bl, bl_mk]; simp [hp]
          have HP := Lib.hid hp
          clear hp
          go_wp2_with fail
          refine (M.out _).mono ?_
          rintro e w2 ⟨rfl, B2⟩
          have k0_w2 : w2.cell? ⟨w.heap.size, 0, none⟩ = some (.int .i64 0) := Ext.cell B2 (by simp)
          have k1_w2 : w2.cell? ⟨w.heap.size, 1, none⟩ = some (.int .i64 0) := Ext.cell B2 (by simp)
          have k2_w2 : w2.cell? ⟨w.heap.size, 2, none⟩ = some (.int .i64 0) := Ext.cell B2 (by simp)
          have k3_w2 : w2.cell? ⟨w.heap.size, 3, none⟩ = some (.int .i64 0) := Ext.cell B2 (by simp)
          have f_w2 : ∀ i, w2.frozen? ⟨w.heap.size, i, none⟩ = false := fun i => Ext.free B2 (by first | (simp; done) | (simp; omega)) (by first | (simp; done) | (simp; omega))
          go_wp2
          refine bodyPost_ret (v := .tuple #[recV Rec.zero, .int .i64 400]) ?_ rfl ?_
          · simp [results, Try.results68, go_sem, recV, Rec.zero, k0_w2, k1_w2, k2_w2, k3_w2]
          · exact ⟨congrArg Ending.returned (HG.out.trans (if_neg fun h => HP.out h.2)).symm, (by repeat (first | (with_reducible exact Ext.refl _) | (with_reducible assumption) | (with_reducible refine Ext.drewN ?_ _) | (with_reducible refine Ext.drew ?_) | (with_reducible refine Ext.alloc ?_ _) | (with_reducible refine Ext.setCell ?_ (by first | exact Nat.le_refl _ | (simp <;> omega)) _) | (with_reducible refine Ext.trans ?_ (by with_reducible assumption))))⟩
  · have hg : Skiff.get (bl s) = none := by
      unfold Skiff.get
      rw [if_neg]
      intro h
      exact h24 (by omega)
    have hn : ((s.size : Int) != 24) = true := by rw [bne_iff_ne]; omega
    have HG := Lib.hid (getRes_none hg)
    clear hg
    go_enter Try.func68, Try.ntmps68
    go_wp2
    refine bodyPost_ret (v := .tuple #[recV Rec.zero, .int .i64 400]) ?_ rfl ?_
    · simp [results, Try.results68, go_sem, recV, Rec.zero]
    · exact ⟨congrArg Ending.returned HG.out.symm, (by repeat (first | (with_reducible exact Ext.refl _) | (with_reducible assumption) | (with_reducible refine Ext.drewN ?_ _) | (with_reducible refine Ext.drew ?_) | (with_reducible refine Ext.alloc ?_ _) | (with_reducible refine Ext.setCell ?_ (by first | exact Nat.le_refl _ | (simp <;> omega)) _) | (with_reducible refine Ext.trans ?_ (by with_reducible assumption))))⟩

end Go.Proofs.Ytmidohjfajbpmaa
set_option linter.unusedVariables false
set_option linter.unusedSimpArgs false
set_option maxHeartbeats 4000000
namespace Skiff
def putPair (r : Rec) : ByteArray × Int := if recMay r = true then (mk (put r), 0) else (mk [], 400)
def getTup (l : List UInt8) : Int × Int × Int × Int × Int := match get l with
  | some r => (r.seq, r.slot, r.size, r.sum, 0)
  | none => (0, 0, 0, 0, 400)
end Skiff
namespace Go.Proofs.Ytmidohjfajbpmaa
open Go.RowKit Skiff

theorem putPair_res {r : Rec} {r1 : ByteArray} {r2 : Int} (h : some (putPair r) = some (r1, r2)) : (if recMay r = true then Value.tuple #[.string (mk (put r)), .int .i64 0] else .tuple #[.string (mk []), .int .i64 400]) = .tuple #[.string r1, .int .i64 r2] := by
  have h := Option.some.inj h
  unfold putPair at h
  split at h
  · rename_i hc; rw [if_pos hc]; simp only [Prod.mk.injEq] at h; obtain ⟨rfl, rfl⟩ := h; rfl
  · rename_i hc; rw [if_neg hc]; simp only [Prod.mk.injEq] at h; obtain ⟨rfl, rfl⟩ := h; rfl
theorem getTup_res {l : List UInt8} {r1 r2 r3 r4 r5 : Int} (h : some (getTup l) = some (r1, r2, r3, r4, r5)) : getRes l = .tuple #[.agg #[.int .i64 r1, .int .i64 r2, .int .i64 r3, .int .i64 r4], .int .i64 r5] := by
  have h := Option.some.inj h
  unfold getTup at h
  cases hg : Skiff.get l with
  | some r =>
    rw [getRes_some hg]
    rw [hg] at h
    simp only [Prod.mk.injEq] at h
    obtain ⟨rfl, rfl, rfl, rfl, rfl⟩ := h
    rfl
  | none =>
    rw [getRes_none hg]
    rw [hg] at h
    simp only [Prod.mk.injEq] at h
    obtain ⟨rfl, rfl, rfl, rfl, rfl⟩ := h
    rfl

theorem g_entry_Get (a0 : ByteArray) (r1 r2 r3 r4 r5 : Int) (w : World) (h : some (getTup (bl a0)) = some (r1, r2, r3, r4, r5)) :
    Calls Try.prog 73 #[.string a0] w fun e w' => e = .returned (.tuple #[.agg #[.int .i64 r1, .int .i64 r2, .int .i64 r3, .int .i64 r4], .int .i64 r5]) ∧ Below w.heap.size w w' :=
  (get_calls a0 w).mono fun e w' ⟨he, hw⟩ => ⟨by rw [he, getTup_res h], hw⟩
theorem g_skiffref1_PutEntry (a0_0 a0_1 a0_2 a0_3 : Int) (r1 : ByteArray) (r2 : Int) (w : World) (h : some (putPair ⟨a0_0, a0_1, a0_2, a0_3⟩) = some (r1, r2)) :
    Calls Try.prog 66 #[.agg #[.int .i64 a0_0, .int .i64 a0_1, .int .i64 a0_2, .int .i64 a0_3]] w fun e w' => e = .returned (.tuple #[.string r1, .int .i64 r2]) ∧ Below w.heap.size w w' :=
  (rput_calls ⟨a0_0, a0_1, a0_2, a0_3⟩ w).mono fun e w' ⟨he, hw⟩ => ⟨by rw [he, putPair_res h], hw⟩

theorem g_skiffref1_GetEntry (a0 : ByteArray) (r1 r2 r3 r4 r5 : Int) (w : World) (h : some (getTup (bl a0)) = some (r1, r2, r3, r4, r5)) :
    Calls Try.prog 68 #[.string a0] w fun e w' => e = .returned (.tuple #[.agg #[.int .i64 r1, .int .i64 r2, .int .i64 r3, .int .i64 r4], .int .i64 r5]) ∧ Below w.heap.size w w' :=
  (rget_calls a0 w).mono fun e w' ⟨he, hw⟩ => ⟨by rw [he, getTup_res h], hw⟩

theorem g_skiffref1_RecordMay (a0_0 a0_1 a0_2 a0_3 : Int) (r : Bool) (w : World) (h : some (recMay ⟨a0_0, a0_1, a0_2, a0_3⟩) = some r) :
    Calls Try.prog 44 #[.agg #[.int .i64 a0_0, .int .i64 a0_1, .int .i64 a0_2, .int .i64 a0_3]] w fun e w' => e = .returned (.bool r) ∧ Below w.heap.size w w' :=
  (recordMay_calls ⟨a0_0, a0_1, a0_2, a0_3⟩ w).mono fun e w' ⟨he, hw⟩ => ⟨by rw [he, Option.some.inj h], hw⟩

theorem g_entry_May (a0_0 a0_1 a0_2 a0_3 : Int) (r : Bool) (w : World) (h : some (recMay ⟨a0_0, a0_1, a0_2, a0_3⟩) = some r) :
    Calls Try.prog 59 #[.agg #[.int .i64 a0_0, .int .i64 a0_1, .int .i64 a0_2, .int .i64 a0_3]] w fun e w' => e = .returned (.bool r) ∧ Below w.heap.size w w' :=
  (may_calls ⟨a0_0, a0_1, a0_2, a0_3⟩ w).mono fun e w' ⟨he, hw⟩ => ⟨by rw [he, Option.some.inj h], hw⟩

end Go.Proofs.Ytmidohjfajbpmaa
end
section
namespace Go.Proofs.Ytmidohjfajbpmaa.P
open Go.RowKit Go.Proofs.YtmidohjfajbpmaaW.PrintWords Go.Proofs.YtmidohjfajbpmaaW.PrintLast Go.Proofs.YtmidohjfajbpmaaW.PrintMore
attribute [local go_sem] max2_int min2_int max_two min_two max_three min_three max_four min_four   -- for this text's walks alone
set_option linter.unusedVariables false
set_option linter.unusedSimpArgs false

def errW : Option Int → Value
 | none => .nilIface
 | some c => .iface 0 (.int .i64 c)
theorem errW_none : errW none = .nilIface := rfl
theorem errW_some (c : Int) : errW (some c) = .iface 0 (.int .i64 c) := rfl

theorem info43 : (Try.prog.info? 43).map (fun i => (i.zero, i.size, i.bytes)) = some (some (.agg #[(.int .i64 0), (.int .i64 0), (.int .i64 0), (.int .i64 0), (.int .i64 0)]), 5, 40) := by kernel_rfl
theorem info68 : (Try.prog.info? 68).map (fun i => (i.zero, i.size, i.bytes)) = some (some (.agg #[(.bool false), (.int .i64 0), (.string ⟨#[]⟩)]), 3, 32) := by kernel_rfl
-- the values' own types
/-! #### struct type 68 -/
structure S68 where
 f0 : Bool
 f1 : Int
 f2 : ByteArray
def z68 : S68 := ⟨false, (0 : Int), (⟨#[]⟩ : ByteArray)⟩
def k68 : Kd S68 := Kd.iso (Kd.pair Kd.bool (Kd.pair (Kd.int .i64) Kd.string)) (fun x : S68 => (x.f0, x.f1, x.f2))
theorem k68_open {w : World} {x : S68} {cs : List Value} (h : k68.K w x cs) : cs = [.bool x.f0, .int .i64 x.f1, .string x.f2] := by
 obtain ⟨_, _, rfl, rfl, ⟨_, _, rfl, rfl, rfl⟩⟩ := h
 exact rfl
theorem k68_mkM (w : World) (base : Nat) (ok : Nat → Prop) (x : S68)  : k68.M w base ok x [.bool x.f0, .int .i64 x.f1, .string x.f2] := ⟨[.bool x.f0], [.int .i64 x.f1, .string x.f2], rfl, rfl, ⟨[.int .i64 x.f1], [.string x.f2], rfl, rfl, rfl⟩⟩
def rd_T68 (xs : List S68) (i : Int) : S68 := xs.getD i.toNat z68
theorem at_T68 {w : World} {A : Option Addr} {n : Nat} {xs : List S68} (h : Kd.C k68 w A n xs) (i : Int) (h0 : 0 ≤ i) (h1 : i < n) : ∃ ad , A = some ad ∧ w.cell? (ad.add (i.toNat * 3)) = some (.bool (rd_T68 xs i).f0) ∧ w.cell? ⟨(ad.add (i.toNat * 3)).block, (ad.add (i.toNat * 3)).off + 1, none⟩ = some (.int .i64 (rd_T68 xs i).f1) ∧ w.cell? ⟨(ad.add (i.toNat * 3)).block, (ad.add (i.toNat * 3)).off + 2, none⟩ = some (.string (rd_T68 xs i).f2) := by
 obtain ⟨ad, c, e, _, hK, hc0⟩ := Kd.C_get h z68 i h0 h1
 have hc : ∀ j u, c[j]? = some u → w.cell? (ad.add (i.toNat * 3 + j)) = some u := hc0
 obtain rfl := k68_open hK
 exact ⟨ad, e, hc 0 _ rfl, by rw [← add_field _ _ 1 (by omega)]; exact hc 1 _ rfl, by rw [← add_field _ _ 2 (by omega)]; exact hc 2 _ rfl⟩

/-! #### struct type 41 -/
structure S41 where
 f0 : Int
 f1 : Int
 f2 : Int
 f3 : Int
def z41 : S41 := ⟨(0 : Int), (0 : Int), (0 : Int), (0 : Int)⟩
def k41 : Kd S41 := Kd.iso (Kd.pair (Kd.int .i64) (Kd.pair (Kd.int .i64) (Kd.pair (Kd.int .i64) (Kd.int .i64)))) (fun x : S41 => (x.f0, x.f1, x.f2, x.f3))
theorem k41_open {w : World} {x : S41} {cs : List Value} (h : k41.K w x cs) : cs = [.int .i64 x.f0, .int .i64 x.f1, .int .i64 x.f2, .int .i64 x.f3] := by
 obtain ⟨_, _, rfl, rfl, ⟨_, _, rfl, rfl, ⟨_, _, rfl, rfl, rfl⟩⟩⟩ := h
 exact rfl
theorem k41_openM {w : World} {base : Nat} {ok : Nat → Prop} {x : S41} {cs : List Value} (h : k41.M w base ok x cs) : cs = [.int .i64 x.f0, .int .i64 x.f1, .int .i64 x.f2, .int .i64 x.f3] := by
 obtain ⟨_, _, rfl, rfl, ⟨_, _, rfl, rfl, ⟨_, _, rfl, rfl, rfl⟩⟩⟩ := h
 exact rfl
theorem k41_mkM (w : World) (base : Nat) (ok : Nat → Prop) (x : S41)  : k41.M w base ok x [.int .i64 x.f0, .int .i64 x.f1, .int .i64 x.f2, .int .i64 x.f3] := ⟨[.int .i64 x.f0], [.int .i64 x.f1, .int .i64 x.f2, .int .i64 x.f3], rfl, rfl, ⟨[.int .i64 x.f1], [.int .i64 x.f2, .int .i64 x.f3], rfl, rfl, ⟨[.int .i64 x.f2], [.int .i64 x.f3], rfl, rfl, rfl⟩⟩⟩

/-! #### struct type 43 -/
structure S43 where
 f0 : Int
 f1 : S41
def z43 : S43 := ⟨(0 : Int), z41⟩
def k43 : Kd S43 := Kd.iso (Kd.pair (Kd.int .i64) k41) (fun x : S43 => (x.f0, x.f1))
theorem k43_open {w : World} {x : S43} {cs : List Value} (h : k43.K w x cs) : cs = [.int .i64 x.f0, .int .i64 x.f1.f0, .int .i64 x.f1.f1, .int .i64 x.f1.f2, .int .i64 x.f1.f3] := by
 obtain ⟨_, _, rfl, rfl, s1⟩ := h
 obtain rfl := k41_open s1
 exact rfl
theorem k43_openM {w : World} {base : Nat} {ok : Nat → Prop} {x : S43} {cs : List Value} (h : k43.M w base ok x cs) : cs = [.int .i64 x.f0, .int .i64 x.f1.f0, .int .i64 x.f1.f1, .int .i64 x.f1.f2, .int .i64 x.f1.f3] := by
 obtain ⟨_, _, rfl, rfl, s1⟩ := h
 obtain rfl := k41_openM s1
 exact rfl
theorem k43_mkM (w : World) (base : Nat) (ok : Nat → Prop) (x : S43)  : k43.M w base ok x [.int .i64 x.f0, .int .i64 x.f1.f0, .int .i64 x.f1.f1, .int .i64 x.f1.f2, .int .i64 x.f1.f3] := ⟨[.int .i64 x.f0], [.int .i64 x.f1.f0, .int .i64 x.f1.f1, .int .i64 x.f1.f2, .int .i64 x.f1.f3], rfl, rfl, (k41_mkM w base ok x.f1 )⟩
def rd_T43 (xs : List S43) (i : Int) : S43 := xs.getD i.toNat z43
theorem at_T43 {w : World} {A : Option Addr} {n : Nat} {xs : List S43} (h : Kd.C k43 w A n xs) (i : Int) (h0 : 0 ≤ i) (h1 : i < n) : ∃ ad , A = some ad ∧ w.cell? (ad.add (i.toNat * 5)) = some (.int .i64 (rd_T43 xs i).f0) ∧ w.cell? ⟨(ad.add (i.toNat * 5)).block, (ad.add (i.toNat * 5)).off + 1, none⟩ = some (.int .i64 (rd_T43 xs i).f1.f0) ∧ w.cell? ⟨(ad.add (i.toNat * 5)).block, (ad.add (i.toNat * 5)).off + 2, none⟩ = some (.int .i64 (rd_T43 xs i).f1.f1) ∧ w.cell? ⟨(ad.add (i.toNat * 5)).block, (ad.add (i.toNat * 5)).off + 3, none⟩ = some (.int .i64 (rd_T43 xs i).f1.f2) ∧ w.cell? ⟨(ad.add (i.toNat * 5)).block, (ad.add (i.toNat * 5)).off + 4, none⟩ = some (.int .i64 (rd_T43 xs i).f1.f3) := by
 obtain ⟨ad, c, e, _, hK, hc0⟩ := Kd.C_get h z43 i h0 h1
 have hc : ∀ j u, c[j]? = some u → w.cell? (ad.add (i.toNat * 5 + j)) = some u := hc0
 obtain rfl := k43_open hK
 exact ⟨ad, e, hc 0 _ rfl, by rw [← add_field _ _ 1 (by omega)]; exact hc 1 _ rfl, by rw [← add_field _ _ 2 (by omega)]; exact hc 2 _ rfl, by rw [← add_field _ _ 3 (by omega)]; exact hc 3 _ rfl, by rw [← add_field _ _ 4 (by omega)]; exact hc 4 _ rfl⟩

end Go.Proofs.Ytmidohjfajbpmaa.P
end
section
namespace Go.Proofs.Ytmidohjfajbpmaa.P
open Go.RowKit Go.Proofs.YtmidohjfajbpmaaW.PrintWords Go.Proofs.YtmidohjfajbpmaaW.PrintLast Go.Proofs.YtmidohjfajbpmaaW.PrintMore
attribute [local go_sem] max2_int min2_int max_two min_two max_three min_three max_four min_four   -- for this text's walks alone
set_option linter.unusedVariables false
set_option linter.unusedSimpArgs false

/-! ### skifflaw0_CopyDevice: function 9 -/
def skifflaw0_CopyDevice.f (a0_0 : Int) (a0_1 : Int) (a0_2 : Int) (a0_3 : Int) (a0_4 : Int) (l0_5 : List (S68)) : Option (Int × Int × Int × Int × Int × (List (S68))) := (some (([] : List (S68)) : List (S68))).bind fun y103 => (if y103.length + l0_5.length < 4398046511104 then (some (a0_0, a0_1, a0_2, a0_3, a0_4, (y103 ++ l0_5))) else (none))

/-! ### nor_May: function 21 -/
def nor_May.f (a0 : ByteArray) : Option (Bool) := some ((a0.size : Int) == 768)
set_option maxHeartbeats 8000000 in
set_option maxRecDepth 100000 in
theorem nor_May.calls (a0 : ByteArray) (r : Bool) (w : World) (h : nor_May.f a0 = some r) :
  Calls Try.prog 21 #[.string a0] w fun e w' => e = .returned (.bool r) ∧ Drawn0 w w' := by
 have H : (some ((a0.size : Int) == 768)) = some r := h
 clear h
 obtain rfl := Option.some.inj H
 go_enter Try.func21, Try.ntmps21
 go_wp2
 go_ret
 exact ⟨by first | rfl | (simp; done) | (simp [*]; done), by repeat (first | exact Drawn0.refl _ | apply Drawn0.step)⟩

/-! ### answer_State: function 48 -/
def answer_State.f (a0 : Int) : Option (Bool) := if a0 ≥ 0 then (some (decide (a0 ≤ 7))) else (some false)
set_option maxHeartbeats 8000000 in
set_option maxRecDepth 100000 in
theorem answer_State.calls (a0 : Int) (r : Bool) (w : World) (h : answer_State.f a0 = some r) :
  Calls Try.prog 48 #[.int .i64 a0] w fun e w' => e = .returned (.bool r) ∧ Drawn0 w w' := by
 have H : (if a0 ≥ 0 then (some (decide (a0 ≤ 7))) else (some false)) = some r := h
 clear h
 by_cases c2 : a0 ≥ 0
 case neg =>
  rw [if_neg c2] at H
  have c2b0 : decide (0 ≤ a0) = false := decide_eq_false c2
  clear c2
  obtain rfl := Option.some.inj H
  go_enter Try.func48, Try.ntmps48
  go_wp2
  go_ret
  exact ⟨by first | rfl | (simp; done) | (simp [*]; done), by repeat (first | exact Drawn0.refl _ | apply Drawn0.step)⟩
 rw [if_pos c2] at H
 have c2b0 : decide (0 ≤ a0) = true := decide_eq_true c2
 clear c2
 obtain rfl := Option.some.inj H
 go_enter Try.func48, Try.ntmps48
 go_wp2
 go_ret
 exact ⟨by first | rfl | (simp; done) | (simp [*]; done), by repeat (first | exact Drawn0.refl _ | apply Drawn0.step)⟩

/-! ### answer_Status: function 49 -/
def answer_Status.f (a0 : Int) : Option (Bool) := if a0 ≥ 0 then (some (decide (a0 ≤ 6))) else (some false)
set_option maxHeartbeats 8000000 in
set_option maxRecDepth 100000 in
theorem answer_Status.calls (a0 : Int) (r : Bool) (w : World) (h : answer_Status.f a0 = some r) :
  Calls Try.prog 49 #[.int .i64 a0] w fun e w' => e = .returned (.bool r) ∧ Drawn0 w w' := by
 have H : (if a0 ≥ 0 then (some (decide (a0 ≤ 6))) else (some false)) = some r := h
 clear h
 by_cases c2 : a0 ≥ 0
 case neg =>
  rw [if_neg c2] at H
  have c2b0 : decide (0 ≤ a0) = false := decide_eq_false c2
  clear c2
  obtain rfl := Option.some.inj H
  go_enter Try.func49, Try.ntmps49
  go_wp2
  go_ret
  exact ⟨by first | rfl | (simp; done) | (simp [*]; done), by repeat (first | exact Drawn0.refl _ | apply Drawn0.step)⟩
 rw [if_pos c2] at H
 have c2b0 : decide (0 ≤ a0) = true := decide_eq_true c2
 clear c2
 obtain rfl := Option.some.inj H
 go_enter Try.func49, Try.ntmps49
 go_wp2
 go_ret
 exact ⟨by first | rfl | (simp; done) | (simp [*]; done), by repeat (first | exact Drawn0.refl _ | apply Drawn0.step)⟩

/-! ### entry_in: function 71 -/
def entry_in.f (a0 : Int) (a1 : Int) (a2 : Int) : Option (Bool) := if a0 ≥ a1 then (some (decide (a0 ≤ a2))) else (some false)
set_option maxHeartbeats 8000000 in
set_option maxRecDepth 100000 in
theorem entry_in.calls (a0 : Int) (a1 : Int) (a2 : Int) (r : Bool) (w : World) (h : entry_in.f a0 a1 a2 = some r) :
  Calls Try.prog 71 #[.int .i64 a0, .int .i64 a1, .int .i64 a2] w fun e w' => e = .returned (.bool r) ∧ Drawn0 w w' := by
 have H : (if a0 ≥ a1 then (some (decide (a0 ≤ a2))) else (some false)) = some r := h
 clear h
 by_cases c4 : a0 ≥ a1
 case neg =>
  rw [if_neg c4] at H
  have c4b0 : decide (a1 ≤ a0) = false := decide_eq_false c4
  clear c4
  obtain rfl := Option.some.inj H
  go_enter Try.func71, Try.ntmps71
  go_wp2
  go_ret
  exact ⟨by first | rfl | (simp; done) | (simp [*]; done), by repeat (first | exact Drawn0.refl _ | apply Drawn0.step)⟩
 rw [if_pos c4] at H
 have c4b0 : decide (a1 ≤ a0) = true := decide_eq_true c4
 clear c4
 obtain rfl := Option.some.inj H
 go_enter Try.func71, Try.ntmps71
 go_wp2
 go_ret
 exact ⟨by first | rfl | (simp; done) | (simp [*]; done), by repeat (first | exact Drawn0.refl _ | apply Drawn0.step)⟩

/-! ### entry_Size: function 50 -/
def entry_Size.f (a0 : Int) : Option (Bool) := (entry_in.f a0 1 288).bind fun t109 => (some t109)
set_option maxHeartbeats 8000000 in
set_option maxRecDepth 100000 in
theorem entry_Size.calls (a0 : Int) (r : Bool) (w : World) (h : entry_Size.f a0 = some r) :
  Calls Try.prog 50 #[.int .i64 a0] w fun e w' => e = .returned (.bool r) ∧ Drawn0 w w' := by
 have H : ((entry_in.f a0 1 288).bind fun t109 => (some t109)) = some r := h
 clear h
 replace H := Option.bind_eq_some_iff.mp H
 obtain ⟨t109, A20, H⟩ := H
 replace H : (some t109) = some r := H
 have A2 := Aside0.mk A20
 clear A20
 obtain rfl := Option.some.inj H
 go_enter Try.func50, Try.ntmps50
 go_wp2_with (first | ((with_reducible refine gate_callee (f := 71) rfl ?_); refine goesL_ (some 4) rfl rfl Try.func71 (by kernel_rfl) rfl #[.int .i64 a0, .int .i64 1, .int .i64 288] rfl ka ?_; (with_reducible refine (entry_in.calls a0 1 288 t109 _ A2.out).mono ?_); rintro e w' ⟨rfl, ⟨nd, rfl⟩⟩; refine ⟨_, rfl, ?_⟩))
 go_ret
 exact ⟨by first | rfl | (simp; done) | (simp [*]; done), by repeat (first | exact Drawn0.refl _ | apply Drawn0.step)⟩

/-! ### entry_Slot: function 51 -/
def entry_Slot.f (a0 : Int) : Option (Bool) := (entry_in.f a0 0 1).bind fun t110 => (some t110)
set_option maxHeartbeats 8000000 in
set_option maxRecDepth 100000 in
theorem entry_Slot.calls (a0 : Int) (r : Bool) (w : World) (h : entry_Slot.f a0 = some r) :
  Calls Try.prog 51 #[.int .i64 a0] w fun e w' => e = .returned (.bool r) ∧ Drawn0 w w' := by
 have H : ((entry_in.f a0 0 1).bind fun t110 => (some t110)) = some r := h
 clear h
 replace H := Option.bind_eq_some_iff.mp H
 obtain ⟨t110, A20, H⟩ := H
 replace H : (some t110) = some r := H
 have A2 := Aside0.mk A20
 clear A20
 obtain rfl := Option.some.inj H
 go_enter Try.func51, Try.ntmps51
 go_wp2_with (first | ((with_reducible refine gate_callee (f := 71) rfl ?_); refine goesL_ (some 4) rfl rfl Try.func71 (by kernel_rfl) rfl #[.int .i64 a0, .int .i64 0, .int .i64 1] rfl ka ?_; (with_reducible refine (entry_in.calls a0 0 1 t110 _ A2.out).mono ?_); rintro e w' ⟨rfl, ⟨nd, rfl⟩⟩; refine ⟨_, rfl, ?_⟩))
 go_ret
 exact ⟨by first | rfl | (simp; done) | (simp [*]; done), by repeat (first | exact Drawn0.refl _ | apply Drawn0.step)⟩

/-! ### nor_Sector: function 69 -/
def nor_Sector.f (a0 : Int) : Option (Bool) := if a0 ≥ 0 then (some (decide (a0 < 8))) else (some false)
set_option maxHeartbeats 8000000 in
set_option maxRecDepth 100000 in
theorem nor_Sector.calls (a0 : Int) (r : Bool) (w : World) (h : nor_Sector.f a0 = some r) :
  Calls Try.prog 69 #[.int .i64 a0] w fun e w' => e = .returned (.bool r) ∧ Drawn0 w w' := by
 have H : (if a0 ≥ 0 then (some (decide (a0 < 8))) else (some false)) = some r := h
 clear h
 by_cases c2 : a0 ≥ 0
 case neg =>
  rw [if_neg c2] at H
  have c2b0 : decide (0 ≤ a0) = false := decide_eq_false c2
  clear c2
  obtain rfl := Option.some.inj H
  go_enter Try.func69, Try.ntmps69
  go_wp2
  go_ret
  exact ⟨by first | rfl | (simp; done) | (simp [*]; done), by repeat (first | exact Drawn0.refl _ | apply Drawn0.step)⟩
 rw [if_pos c2] at H
 have c2b0 : decide (0 ≤ a0) = true := decide_eq_true c2
 clear c2
 obtain rfl := Option.some.inj H
 go_enter Try.func69, Try.ntmps69
 go_wp2
 go_ret
 exact ⟨by first | rfl | (simp; done) | (simp [*]; done), by repeat (first | exact Drawn0.refl _ | apply Drawn0.step)⟩

/-! ### nor_Begins: function 70 -/
def nor_Begins.f (a0 : Int) : Option (Bool) := if a0 ≥ 0 then (if a0 < 768 then (some ((Int.tmod a0 4) == 0)) else (some false)) else (some false)
set_option maxHeartbeats 8000000 in
set_option maxRecDepth 100000 in
theorem nor_Begins.calls (a0 : Int) (r : Bool) (w : World) (h : nor_Begins.f a0 = some r) :
  Calls Try.prog 70 #[.int .i64 a0] w fun e w' => e = .returned (.bool r) ∧ Drawn0 w w' := by
 have H : (if a0 ≥ 0 then (if a0 < 768 then (some ((Int.tmod a0 4) == 0)) else (some false)) else (some false)) = some r := h
 clear h
 by_cases c2 : a0 ≥ 0
 case neg =>
  rw [if_neg c2] at H
  have c2b0 : decide (0 ≤ a0) = false := decide_eq_false c2
  clear c2
  obtain rfl := Option.some.inj H
  go_enter Try.func70, Try.ntmps70
  go_wp2
  go_ret
  exact ⟨by first | rfl | (simp; done) | (simp [*]; done), by repeat (first | exact Drawn0.refl _ | apply Drawn0.step)⟩
 rw [if_pos c2] at H
 have c2b0 : decide (0 ≤ a0) = true := decide_eq_true c2
 clear c2
 by_cases c3 : a0 < 768
 case neg =>
  rw [if_neg c3] at H
  have c3b0 : decide (a0 < 768) = false := decide_eq_false c3
  clear c3
  obtain rfl := Option.some.inj H
  go_enter Try.func70, Try.ntmps70
  go_wp2
  go_ret
  exact ⟨by first | rfl | (simp; done) | (simp [*]; done), by repeat (first | exact Drawn0.refl _ | apply Drawn0.step)⟩
 rw [if_pos c3] at H
 have c3b0 : decide (a0 < 768) = true := decide_eq_true c3
 clear c3
 obtain rfl := Option.some.inj H
 go_enter Try.func70, Try.ntmps70
 go_wp2
 go_ret
 exact ⟨by first | rfl | (simp; done) | (simp [*]; done), by repeat (first | exact Drawn0.refl _ | apply Drawn0.step)⟩

/-! ### ops_May: function 47 -/
def ops_May.f (a0_0 : Bool) (a0_1 : Int) (a0_2 : ByteArray) : Option (Bool) := if a0_0 = true then (if a0_1 ≥ 0 then (if (Int.tmod a0_1 96) = 0 then ((nor_Sector.f (wrap64 (Int.tdiv a0_1 96))).bind fun t112 => (if t112 = true then (some (a0_2.toList == ([] : List UInt8))) else (some false))) else (some false)) else (some false)) else ((nor_Begins.f a0_1).bind fun t113 => (if t113 = true then (some ((a0_2.size : Int) == 4)) else (some false)))
set_option maxHeartbeats 8000000 in
set_option maxRecDepth 100000 in
theorem ops_May.calls (a0_0 : Bool) (a0_1 : Int) (a0_2 : ByteArray) (r : Bool) (w : World) (h : ops_May.f a0_0 a0_1 a0_2 = some r) :
  Calls Try.prog 47 #[.agg #[.bool a0_0, .int .i64 a0_1, .string a0_2]] w fun e w' => e = .returned (.bool r) ∧ Below w.heap.size w w' := by
 have hu68 := Try.underlying68
 have HB := Aside0.mk (Below.refl w.heap.size w)
 have H : (if a0_0 = true then (if a0_1 ≥ 0 then (if (Int.tmod a0_1 96) = 0 then ((nor_Sector.f (wrap64 (Int.tdiv a0_1 96))).bind fun t112 => (if t112 = true then (some (a0_2.toList == ([] : List UInt8))) else (some false))) else (some false)) else (some false)) else ((nor_Begins.f a0_1).bind fun t113 => (if t113 = true then (some ((a0_2.size : Int) == 4)) else (some false)))) = some r := h
 clear h
 by_cases c2 : a0_0 = true
 ·subst c2
  have H1 : (if a0_1 ≥ 0 then (if (Int.tmod a0_1 96) = 0 then ((nor_Sector.f (wrap64 (Int.tdiv a0_1 96))).bind fun t112 => (if t112 = true then (some (a0_2.toList == ([] : List UInt8))) else (some false))) else (some false)) else (some false)) = some r := by rw [if_pos rfl] at H; exact H
  clear H; have H := H1; clear H1
  by_cases c3 : a0_1 ≥ 0
  case neg =>
   rw [if_neg c3] at H
   have c3b0 : decide (0 ≤ a0_1) = false := decide_eq_false c3
   clear c3
   obtain rfl := Option.some.inj H
   go_enter Try.func47, Try.ntmps47
   go_wp2_with (first | ((with_reducible refine gate_dst (N := 1) rfl ?_); (try (refine gate_guard (by rfl) ?_; dsimp only)); refine box_event ?hg (N := 1) ?hd (cs := #[.bool true, .int .i64 a0_1, .string a0_2]) (t := 68) ?hr ?_; (case hd => rfl); (case hg => rfl); (case hr => first | (go_simp; done) | (go_simp; rfl)); intro gb111 hg w13 hbox hb; have n0_ := Aside0.mk (below_step (kb HB.out) hb); have n1_ := Aside0.mk (hbox); have n2_ := Aside0.mk ((kz hg (below_size (kb HB.out)) : w.heap.size ≤ gb111)); have n3_ := Aside0.mk ((kz hg (below_size (kb HB.out)) : w.heap.size ≤ gb111)); clear HB; have HB := n0_; have BK111 := n1_; have GW111 := n2_; have GE111 := n3_; clear n0_ n1_ n2_ n3_; clear hb hbox hg; obtain ⟨hcz14_0, hcz14_1, hcz14_2⟩ := kc3 BK111.out; obtain ⟨hfz14_0, hfz14_1, hfz14_2⟩ := kf3 BK111.out))
   go_ret
   exact ⟨by first | rfl | (simp [errW_none, errW_some] <;> rfl) | (simp [*, errW_none, errW_some] <;> rfl), kb1 HB.out GE111.out⟩
  rw [if_pos c3] at H
  have c3b0 : decide (0 ≤ a0_1) = true := decide_eq_true c3
  clear c3
  by_cases c4 : (Int.tmod a0_1 96) = 0
  case neg =>
   rw [if_neg c4] at H
   have c4b0 : ((Int.tmod a0_1 96) == 0) = false := beq_eq_false_iff_ne.mpr c4
   have c4b1 : ((Int.tmod a0_1 96) != 0) = true := bne_iff_ne.mpr c4
   obtain rfl := Option.some.inj H
   go_enter Try.func47, Try.ntmps47
   go_wp2_with (first | ((with_reducible refine gate_dst (N := 1) rfl ?_); (try (refine gate_guard (by rfl) ?_; dsimp only)); refine box_event ?hg (N := 1) ?hd (cs := #[.bool true, .int .i64 a0_1, .string a0_2]) (t := 68) ?hr ?_; (case hd => rfl); (case hg => rfl); (case hr => first | (go_simp; done) | (go_simp; rfl)); intro gb111 hg w11 hbox hb; have n0_ := Aside0.mk (below_step (kb HB.out) hb); have n1_ := Aside0.mk (hbox); have n2_ := Aside0.mk ((kz hg (below_size (kb HB.out)) : w.heap.size ≤ gb111)); have n3_ := Aside0.mk ((kz hg (below_size (kb HB.out)) : w.heap.size ≤ gb111)); clear HB; have HB := n0_; have BK111 := n1_; have GW111 := n2_; have GE111 := n3_; clear n0_ n1_ n2_ n3_; clear hb hbox hg; obtain ⟨hcz12_0, hcz12_1, hcz12_2⟩ := kc3 BK111.out; obtain ⟨hfz12_0, hfz12_1, hfz12_2⟩ := kf3 BK111.out))
   go_ret
   exact ⟨by first | rfl | (simp [errW_none, errW_some] <;> rfl) | (simp [*, errW_none, errW_some] <;> rfl), kb1 HB.out GE111.out⟩
  rw [if_pos c4] at H
  have c4b0 : ((Int.tmod a0_1 96) == 0) = true := beq_iff_eq.mpr c4
  have c4b1 : ((Int.tmod a0_1 96) != 0) = false := bne_eq_false_iff_eq.mpr c4
  clear c4
  replace H := Option.bind_eq_some_iff.mp H
  obtain ⟨t112, A50, H⟩ := H
  replace H : (if t112 = true then (some (a0_2.toList == ([] : List UInt8))) else (some false)) = some r := H
  have A5 := Aside0.mk A50
  clear A50
  by_cases c6 : t112 = true
  case neg =>
   replace c6 := Bool.eq_false_iff.mpr c6
   subst c6
   have H1 : (some false) = some r := by rw [if_neg (show ¬ (false = true) by decide)] at H; exact H
   clear H; have H := H1; clear H1
   obtain rfl := Option.some.inj H
   go_enter Try.func47, Try.ntmps47
   go_wp2_with (first | ((with_reducible refine gate_dst (N := 1) rfl ?_); (try (refine gate_guard (by rfl) ?_; dsimp only)); refine box_event ?hg (N := 1) ?hd (cs := #[.bool true, .int .i64 a0_1, .string a0_2]) (t := 68) ?hr ?_; (case hd => rfl); (case hg => rfl); (case hr => first | (go_simp; done) | (go_simp; rfl)); intro gb111 hg w9 hbox hb; have n0_ := Aside0.mk (below_step (kb HB.out) hb); have n1_ := Aside0.mk (hbox); have n2_ := Aside0.mk ((kz hg (below_size (kb HB.out)) : w.heap.size ≤ gb111)); have n3_ := Aside0.mk ((kz hg (below_size (kb HB.out)) : w.heap.size ≤ gb111)); clear HB; have HB := n0_; have BK111 := n1_; have GW111 := n2_; have GE111 := n3_; clear n0_ n1_ n2_ n3_; clear hb hbox hg; obtain ⟨hcz10_0, hcz10_1, hcz10_2⟩ := kc3 BK111.out; obtain ⟨hfz10_0, hfz10_1, hfz10_2⟩ := kf3 BK111.out) | (go_at_call 69; (with_reducible refine (nor_Sector.calls (wrap64 (Int.tdiv a0_1 96)) false _ A5.out).mono ?_); rintro e w' ⟨rfl, ⟨nd, rfl⟩⟩))
   go_ret
   exact ⟨by first | rfl | (simp [errW_none, errW_some] <;> rfl) | (simp [*, errW_none, errW_some] <;> rfl), kb1 HB.out GE111.out⟩
  subst c6
  have H1 : (some (a0_2.toList == ([] : List UInt8))) = some r := by rw [if_pos rfl] at H; exact H
  clear H; have H := H1; clear H1
  obtain rfl := Option.some.inj H
  go_enter Try.func47, Try.ntmps47
  go_wp2_with (first | ((with_reducible refine gate_dst (N := 1) rfl ?_); (try (refine gate_guard (by rfl) ?_; dsimp only)); refine box_event ?hg (N := 1) ?hd (cs := #[.bool true, .int .i64 a0_1, .string a0_2]) (t := 68) ?hr ?_; (case hd => rfl); (case hg => rfl); (case hr => first | (go_simp; done) | (go_simp; rfl)); intro gb111 hg w7 hbox hb; have n0_ := Aside0.mk (below_step (kb HB.out) hb); have n1_ := Aside0.mk (hbox); have n2_ := Aside0.mk ((kz hg (below_size (kb HB.out)) : w.heap.size ≤ gb111)); have n3_ := Aside0.mk ((kz hg (below_size (kb HB.out)) : w.heap.size ≤ gb111)); clear HB; have HB := n0_; have BK111 := n1_; have GW111 := n2_; have GE111 := n3_; clear n0_ n1_ n2_ n3_; clear hb hbox hg; obtain ⟨hcz8_0, hcz8_1, hcz8_2⟩ := kc3 BK111.out; obtain ⟨hfz8_0, hfz8_1, hfz8_2⟩ := kf3 BK111.out) | (go_at_call 69; (with_reducible refine (nor_Sector.calls (wrap64 (Int.tdiv a0_1 96)) true _ A5.out).mono ?_); rintro e w' ⟨rfl, ⟨nd, rfl⟩⟩))
  go_ret
  exact ⟨by first | rfl | (simp [errW_none, errW_some] <;> rfl) | (simp [*, errW_none, errW_some] <;> rfl), kb1 HB.out GE111.out⟩
 ·replace c2 := Bool.eq_false_iff.mpr c2
  subst c2
  have H1 : ((nor_Begins.f a0_1).bind fun t113 => (if t113 = true then (some ((a0_2.size : Int) == 4)) else (some false))) = some r := by rw [if_neg (show ¬ (false = true) by decide)] at H; exact H
  clear H; have H := H1; clear H1
  replace H := Option.bind_eq_some_iff.mp H
  obtain ⟨t113, A150, H⟩ := H
  replace H : (if t113 = true then (some ((a0_2.size : Int) == 4)) else (some false)) = some r := H
  have A15 := Aside0.mk A150
  clear A150
  by_cases c16 : t113 = true
  case neg =>
   replace c16 := Bool.eq_false_iff.mpr c16
   subst c16
   have H1 : (some false) = some r := by rw [if_neg (show ¬ (false = true) by decide)] at H; exact H
   clear H; have H := H1; clear H1
   obtain rfl := Option.some.inj H
   go_enter Try.func47, Try.ntmps47
   go_wp2_with (first | ((with_reducible refine gate_dst (N := 1) rfl ?_); (try (refine gate_guard (by rfl) ?_; dsimp only)); refine box_event ?hg (N := 1) ?hd (cs := #[.bool false, .int .i64 a0_1, .string a0_2]) (t := 68) ?hr ?_; (case hd => rfl); (case hg => rfl); (case hr => first | (go_simp; done) | (go_simp; rfl)); intro gb111 hg w19 hbox hb; have n0_ := Aside0.mk (below_step (kb HB.out) hb); have n1_ := Aside0.mk (hbox); have n2_ := Aside0.mk ((kz hg (below_size (kb HB.out)) : w.heap.size ≤ gb111)); have n3_ := Aside0.mk ((kz hg (below_size (kb HB.out)) : w.heap.size ≤ gb111)); clear HB; have HB := n0_; have BK111 := n1_; have GW111 := n2_; have GE111 := n3_; clear n0_ n1_ n2_ n3_; clear hb hbox hg; obtain ⟨hcz20_0, hcz20_1, hcz20_2⟩ := kc3 BK111.out; obtain ⟨hfz20_0, hfz20_1, hfz20_2⟩ := kf3 BK111.out) | ((with_reducible refine gate_callee (f := 70) rfl ?_); refine goesL_ (some 27) rfl rfl Try.func70 (by kernel_rfl) rfl #[.int .i64 a0_1] rfl ka ?_; (with_reducible refine (nor_Begins.calls a0_1 false _ A15.out).mono ?_); rintro e w' ⟨rfl, ⟨nd, rfl⟩⟩; refine ⟨_, rfl, ?_⟩))
   go_ret
   exact ⟨by first | rfl | (simp [errW_none, errW_some] <;> rfl) | (simp [*, errW_none, errW_some] <;> rfl), kb1 HB.out GE111.out⟩
  subst c16
  have H1 : (some ((a0_2.size : Int) == 4)) = some r := by rw [if_pos rfl] at H; exact H
  clear H; have H := H1; clear H1
  obtain rfl := Option.some.inj H
  go_enter Try.func47, Try.ntmps47
  go_wp2_with (first | ((with_reducible refine gate_dst (N := 1) rfl ?_); (try (refine gate_guard (by rfl) ?_; dsimp only)); refine box_event ?hg (N := 1) ?hd (cs := #[.bool false, .int .i64 a0_1, .string a0_2]) (t := 68) ?hr ?_; (case hd => rfl); (case hg => rfl); (case hr => first | (go_simp; done) | (go_simp; rfl)); intro gb111 hg w17 hbox hb; have n0_ := Aside0.mk (below_step (kb HB.out) hb); have n1_ := Aside0.mk (hbox); have n2_ := Aside0.mk ((kz hg (below_size (kb HB.out)) : w.heap.size ≤ gb111)); have n3_ := Aside0.mk ((kz hg (below_size (kb HB.out)) : w.heap.size ≤ gb111)); clear HB; have HB := n0_; have BK111 := n1_; have GW111 := n2_; have GE111 := n3_; clear n0_ n1_ n2_ n3_; clear hb hbox hg; obtain ⟨hcz18_0, hcz18_1, hcz18_2⟩ := kc3 BK111.out; obtain ⟨hfz18_0, hfz18_1, hfz18_2⟩ := kf3 BK111.out) | ((with_reducible refine gate_callee (f := 70) rfl ?_); refine goesL_ (some 27) rfl rfl Try.func70 (by kernel_rfl) rfl #[.int .i64 a0_1] rfl ka ?_; (with_reducible refine (nor_Begins.calls a0_1 true _ A15.out).mono ?_); rintro e w' ⟨rfl, ⟨nd, rfl⟩⟩; refine ⟨_, rfl, ?_⟩))
  go_ret
  exact ⟨by first | rfl | (simp [errW_none, errW_some] <;> rfl) | (simp [*, errW_none, errW_some] <;> rfl), kb1 HB.out GE111.out⟩

-- its contract: by hand
/-! ### slices_ContainsFunc_Op: function 52 -/
def slices_ContainsFunc_Op.f (l0 : List (S68)) : Option (Bool) := if l0.length ≤ 4611686018427387904 then some (l0.any fun o => !((ops_May.f o.f0 o.f1 o.f2).getD true)) else none

end Go.Proofs.Ytmidohjfajbpmaa.P
end
section
set_option linter.unusedVariables false
set_option linter.unusedSimpArgs false
set_option maxHeartbeats 4000000
namespace Go.Proofs.Ytmidohjfajbpmaa.P
open Go.RowKit Go.Proofs.YtmidohjfajbpmaaW.PrintWords Go.Proofs.YtmidohjfajbpmaaW.PrintLast Go.Proofs.YtmidohjfajbpmaaW.PrintMore

theorem asExt {P : Program} {f : FuncId} {args : Array Value} {w : World} {v : Ending} (h : Calls P f args w fun e w' => e = v ∧ Below w.heap.size w w') : Calls P f args w fun e w' => e = v ∧ Ext w w' := h
abbrev OpS := S68
theorem bind_ex {α β : Type} {x : Option α} {f : α → Option β} (h : ∃ a, x = some a) (k : ∀ a, ∃ b, f a = some b) : ∃ b, x.bind f = some b := by
  obtain ⟨a, rfl⟩ := h; exact k a
theorem ite_ex {α : Type} {c : Prop} [Decidable c] {x y : Option α} (h : ∃ a, x = some a) (k : ∃ a, y = some a) : ∃ a, (if c then x else y) = some a := by
  split; exact h; exact k
theorem mayOp_some (e : Bool) (a : Int) (t : ByteArray) : ∃ b, ops_May.f e a t = some b := by
  unfold ops_May.f nor_Sector.f nor_Begins.f
  repeat' first | exact ⟨_, rfl⟩ | refine ite_ex ?_ ?_ | refine bind_ex ?_ (fun _ => ?_)
def oddB (o : OpS) : Bool := !((ops_May.f o.f0 o.f1 o.f2).getD true)
theorem odd_calls (o : OpS) (w : World) :
    Calls Try.prog 46 #[.agg #[.bool o.f0, .int .i64 o.f1, .string o.f2]] w fun e w' => e = .returned (.bool (oddB o)) ∧ Ext w w' := by
  obtain ⟨b, hb⟩ := mayOp_some o.f0 o.f1 o.f2
  have ho : oddB o = !b := by unfold oddB; rw [hb]; rfl
  have P1 := Lib.hid (fun w => asExt (ops_May.calls o.f0 o.f1 o.f2 b w hb))
  rw [ho]
  clear ho hb
  go_enter Try.func46, Try.ntmps46
  go_wp2_with fail
  refine (P1.out _).mono ?_
  rintro e w1 ⟨rfl, B1⟩
  go_wp2
  go_ret
  exact ⟨rfl, (by repeat (first | (with_reducible exact Ext.refl _) | (with_reducible assumption) | (with_reducible refine Ext.drewN ?_ _) | (with_reducible refine Ext.drew ?_) | (with_reducible refine Ext.alloc ?_ _) | (with_reducible refine Ext.setCell ?_ (by first | exact Nat.le_refl _ | (simp <;> omega)) _) | (with_reducible refine Ext.trans ?_ (by with_reducible assumption))))⟩
set_option maxRecDepth 100000 in
theorem index_calls (A : Option Addr) (c : Nat) (l : List OpS) (w : World) (hr : Kd.C k68 w A l.length l) (hl : l.length ≤ 4611686018427387904) :
    Calls Try.prog 72 #[.slice A l.length c, .func (.func 46) #[] #[]] w fun e w' => (∃ r : Int, e = .returned (.int .i64 r) ∧ decide (0 ≤ r) = l.any oddB) ∧ Ext w w' := by
  have HR := Lib.hid hr
  clear hr
  obtain ⟨B, hB⟩ : ∃ B, l.any oddB = B := ⟨_, rfl⟩
  rw [hB]
  have HB := Lib.hid hB
  clear hB
  have hu40 := Try.underlying68
  go_enter Try.func72, Try.ntmps72
  go_wp2
  go_loopw [8] (fun i wr => ∃ j : Nat, j ≤ l.length ∧ i = .int .i64 (j : Int) ∧ Hid (∀ k (h : k < l.length), k < j → oddB l[k] = false) ∧ Hid (Ext w wr)) (fun i _ => l.length - (intOf i).toNat)
  case atStart => exact ⟨0, by omega, rfl, Lib.hid (fun k _ h => by omega), Lib.hid (Ext.refl w)⟩
  case round =>
    obtain ⟨j, hj, rfl, HJ, HE⟩ := hrel
    by_cases c : j < l.length
    · obtain ⟨ad, e1, x0, x1, x2⟩ := at_T68 HR.out (j : Int) (by omega) (by omega)
      cases e1
      replace x0 := HE.out.cell x0
      replace x1 := HE.out.cell x1
      replace x2 := HE.out.cell x2
      have hrd : rd_T68 l (j : Int) = l[j] := by
        unfold rd_T68
        rw [Int.toNat_natCast, List.getD_eq_getElem?_getD, List.getElem?_eq_getElem c]; rfl
      rw [Int.toNat_natCast] at x0 x1 x2
      rw [hrd] at x0 x1 x2
      obtain ⟨o, ho⟩ : ∃ o, l[j] = o := ⟨_, rfl⟩
      rw [ho] at x0 x1 x2
      have P1 := Lib.hid (fun w => odd_calls o w)
      cases hb : oddB o
      · rw [hb] at P1
        have HJ2 : Hid (∀ k (h : k < l.length), k < j + 1 → oddB l[k] = false) := Lib.hid (fun k h hk => by
          by_cases e : k = j
          · subst e; rw [ho]; exact hb
          · exact HJ.out k h (by omega))
        clear hb HJ ho hrd
        go_wp2_with fail
        refine (P1.out _).mono ?_
        rintro e w1 ⟨rfl, B1⟩
        go_wp2
        go_round
        case rel => exact ⟨j + 1, by omega, by go_num, HJ2, Lib.hid (HE.out.trans (by first | exact B1 | exact (by repeat (first | (with_reducible exact Ext.refl _) | (with_reducible assumption) | (with_reducible refine Ext.drewN ?_ _) | (with_reducible refine Ext.drew ?_) | (with_reducible refine Ext.alloc ?_ _) | (with_reducible refine Ext.setCell ?_ (by first | exact Nat.le_refl _ | (simp <;> omega)) _) | (with_reducible refine Ext.trans ?_ (by with_reducible assumption))))))⟩
        case measure => simp [intOf]; omega
      · rw [hb] at P1
        have hA : l.any oddB = true := List.any_eq_true.2 ⟨o, by rw [← ho]; exact List.getElem_mem c, hb⟩
        rw [HB.out] at hA
        have HA := Lib.hid hA
        clear hb HJ ho hrd hA
        go_wp2_with fail
        refine (P1.out _).mono ?_
        rintro e w1 ⟨rfl, B1⟩
        go_wp2
        go_ret
        exact ⟨⟨_, rfl, by rw [HA.out]; simp⟩, HE.out.trans (by first | exact B1 | exact (by repeat (first | (with_reducible exact Ext.refl _) | (with_reducible assumption) | (with_reducible refine Ext.drewN ?_ _) | (with_reducible refine Ext.drew ?_) | (with_reducible refine Ext.alloc ?_ _) | (with_reducible refine Ext.setCell ?_ (by first | exact Nat.le_refl _ | (simp <;> omega)) _) | (with_reducible refine Ext.trans ?_ (by with_reducible assumption)))))⟩
    · obtain rfl : j = l.length := by omega
      have hA : l.any oddB = false := by
        rw [Bool.eq_false_iff]
        intro h
        obtain ⟨o, h1, h2⟩ := List.any_eq_true.1 h
        obtain ⟨k, hk, rfl⟩ := List.getElem_of_mem h1
        rw [HJ.out k hk hk] at h2
        cases h2
      rw [HB.out] at hA
      have HA := Lib.hid hA
      clear hA HJ
      go_wp2
      go_ret
      exact ⟨⟨_, rfl, by rw [HA.out]; simp⟩, HE.out⟩
theorem slices_ContainsFunc_Op.calls (A0 : Option Addr) (c0 : Nat) (l0 : List OpS) (r : Bool) (w : World) (hr0 : Kd.C k68 w A0 l0.length l0) (hc0 : l0.length ≤ c0) (h : slices_ContainsFunc_Op.f l0 = some r) :
    Calls Try.prog 52 #[.slice A0 l0.length c0, .func (.func 46) #[] #[]] w fun e w' => e = .returned (.bool r) ∧ Below w.heap.size w w' := by
  unfold slices_ContainsFunc_Op.f at h
  split at h
  case isFalse => cases h
  rename_i hl
  have hr : l0.any oddB = r := Option.some.inj h
  have P1 := Lib.hid (fun w h => index_calls A0 c0 l0 w h hl)
  rw [hr] at P1
  have HR := Lib.hid hr0
  clear h hr0 hr
  go_enter Try.func52, Try.ntmps52
  go_wp2_with fail
  refine (P1.out _ HR.out).mono ?_
  rintro e w1 ⟨⟨i, rfl, hi⟩, B1⟩
  have HI := Lib.hid hi
  clear hi
  go_wp2
  go_ret
  exact ⟨by first | rfl | (simp; done) | (rw [HI.out]; done) | (simp [HI.out]), B1⟩

end Go.Proofs.Ytmidohjfajbpmaa.P
end
