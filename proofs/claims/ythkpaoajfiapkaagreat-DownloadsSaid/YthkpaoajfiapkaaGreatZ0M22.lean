/- Texts of this claim, laid together. -/
import Derived.ArgAppend
import Derived.Below
import Derived.BigQuiet
import Derived.Deep.AppendLies
import Derived.Deep.CutBlock
import Derived.Deep.DeepCutAuto
import Derived.Deep.Draws
import Derived.Deep.LoopGhost
import Derived.Deep.OwnRows
import Derived.Deep.QuietTactic
import Derived.Deep.RegionHeld3
import Derived.IntWalk
import Derived.KernelRfl
import Derived.Laws.AppendOwn
import Derived.Laws.BitsAllLaws
import Derived.Laws.BitsLemmas
import Derived.Laws.BytesArg
import Derived.Laws.IdiomCopy
import Derived.Laws.MakeOwn
import Derived.Laws.OwnMore
import Derived.Laws.Rows
import Derived.Laws.Slices
import Derived.Laws.Strings
import Derived.Lib.AppendStr
import Derived.Lib.ConvBytes
import Derived.Lib.Hide
import Derived.Lib.LazyBuf
import Derived.LoopTactic
import Derived.Maps.AppendAt
import Derived.OrdersHeld
import Derived.Outline
import Derived.OwnWalk
import Derived.RegionTactic
import Derived.RowKit
import Derived.RowKit3
import Derived.Shelf.Bits.Mul64
import Derived.Shelf.Strings.Builder1
import Derived.Shelf.Strings.Builder2
import Derived.Shelf.Strings.Builder2Cap
import Derived.Shelf.Strings.BuilderF
import Derived.Shelf.Strings.BuilderK
import Derived.Shelf.Strings.Prefix
import Derived.Shelf.Strings.Repeat
import Derived.Tactics
import Derived.Test.YthkpaoajfiapkaaGreatProg
import Derived.Test.YthkpaoajfiapkaaGreatZ0Cz
import Derived.Test.YthkpaoajfiapkaaGreatZ0WApart
import Derived.Test.YthkpaoajfiapkaaGreatZ0WArr
import Derived.Test.YthkpaoajfiapkaaGreatZ0WAt
import Derived.Test.YthkpaoajfiapkaaGreatZ0WEqStruct
import Derived.Test.YthkpaoajfiapkaaGreatZ0WFoot
import Derived.Test.YthkpaoajfiapkaaGreatZ0WFootNe
import Derived.Test.YthkpaoajfiapkaaGreatZ0WFour
import Derived.Test.YthkpaoajfiapkaaGreatZ0WGuard
import Derived.Test.YthkpaoajfiapkaaGreatZ0WInv
import Derived.Test.YthkpaoajfiapkaaGreatZ0WInvWords
import Derived.Test.YthkpaoajfiapkaaGreatZ0WKept
import Derived.Test.YthkpaoajfiapkaaGreatZ0WLast
import Derived.Test.YthkpaoajfiapkaaGreatZ0WMore
import Derived.Test.YthkpaoajfiapkaaGreatZ0WN
import Derived.Test.YthkpaoajfiapkaaGreatZ0WNEv
import Derived.Test.YthkpaoajfiapkaaGreatZ0WQPut
import Derived.Test.YthkpaoajfiapkaaGreatZ0WRepsOne
import Derived.Test.YthkpaoajfiapkaaGreatZ0WShare
import Derived.Test.YthkpaoajfiapkaaGreatZ0WTab
import Derived.Test.YthkpaoajfiapkaaGreatZ0WWords
import Derived.Test.YthkpaoajfiapkaaGreatZ0WZeros
import Derived.WalkKit
import Derived.WalkLawsBesides
import Derived.WalkSpells
import Derived.WideLaws
section
namespace Go.Proofs
open Go.Shelf
def Tryz.lays105_ren : Go.Shelf.Ren := ⟨fun | 105 => 79 | 212 => 88 | 99 => 89 | 165 => 90 | 166 => 91 | 170 => 92 | 169 => 93 | 263 => 99 | 264 => 100 | 206 => 101 | 240 => 102 | 241 => 103 | 276 => 104 | 277 => 105 | n => n, fun | 9 => 9 | 3 => 3 | 4 => 4 | 20 => 20 | 0 => 0 | 46 => 48 | 109 => 119 | 5 => 5 | 72 => 123 | 76 => 127 | 51 => 109 | 146 => 133 | 53 => 135 | 148 => 136 | 70 => 121 | 37 => 78 | 75 => 126 | 127 => 138 | 164 => 139 | 80 => 37 | n => n, fun | n => n⟩
theorem Tryz.lays105 : Go.Proofs.Lays.n105 Tryz.prog Tryz.lays105_ren := {
  mixed := by kernel_rfl
  f99 := Tryz.func89.trans (congrArg some (by kernel_rfl))
  f105 := Tryz.func79.trans (congrArg some (by kernel_rfl))
  f165 := Tryz.func90.trans (congrArg some (by kernel_rfl))
  f166 := Tryz.func91.trans (congrArg some (by kernel_rfl))
  f169 := Tryz.func93.trans (congrArg some (by kernel_rfl))
  f170 := Tryz.func92.trans (congrArg some (by kernel_rfl))
  f206 := Tryz.func101.trans (congrArg some (by kernel_rfl))
  f212 := Tryz.func88.trans (congrArg some (by kernel_rfl))
  f240 := Tryz.func102.trans (congrArg some (by kernel_rfl))
  f241 := Tryz.func103.trans (congrArg some (by kernel_rfl))
  f263 := Tryz.func99.trans (congrArg some (by kernel_rfl))
  f264 := Tryz.func100.trans (congrArg some (by kernel_rfl))
  f276 := Tryz.func104.trans (congrArg some (by kernel_rfl))
  f277 := Tryz.func105.trans (congrArg some (by kernel_rfl))
  t0 := Tryz.underlying0
  a0 := Tryz.isAgg0
  z0 := Tryz.sizeOf0
  v0 := Tryz.zeroValue0
  t3 := Tryz.underlying3
  a3 := Tryz.isAgg3
  z3 := Tryz.sizeOf3
  v3 := Tryz.zeroValue3
  t4 := Tryz.underlying4
  a4 := Tryz.isAgg4
  z4 := Tryz.sizeOf4
  v4 := Tryz.zeroValue4
  t5 := Tryz.underlying5
  a5 := Tryz.isAgg5
  z5 := Tryz.sizeOf5
  v5 := Tryz.zeroValue5
  t9 := Tryz.underlying9
  a9 := Tryz.isAgg9
  z9 := Tryz.sizeOf9
  v9 := Tryz.zeroValue9
  t20 := Tryz.underlying20
  a20 := Tryz.isAgg20
  z20 := Tryz.sizeOf20
  v20 := Tryz.zeroValue20
  t37 := Tryz.underlying78
  a37 := Tryz.isAgg78
  z37 := Tryz.sizeOf78
  v37 := Tryz.zeroValue78
  t46 := Tryz.underlying48
  a46 := Tryz.isAgg48
  z46 := Tryz.sizeOf48
  v46 := Tryz.zeroValue48
  t51 := Tryz.underlying109
  a51 := Tryz.isAgg109
  z51 := Tryz.sizeOf109
  v51 := Tryz.zeroValue109
  t53 := Tryz.underlying135
  a53 := Tryz.isAgg135
  z53 := Tryz.sizeOf135
  v53 := Tryz.zeroValue135
  t70 := Tryz.underlying121
  a70 := Tryz.isAgg121
  z70 := Tryz.sizeOf121
  v70 := Tryz.zeroValue121
  t72 := Tryz.underlying123
  a72 := Tryz.isAgg123
  z72 := Tryz.sizeOf123
  v72 := Tryz.zeroValue123
  t75 := Tryz.underlying126
  a75 := Tryz.isAgg126
  z75 := Tryz.sizeOf126
  v75 := Tryz.zeroValue126
  t76 := Tryz.underlying127
  a76 := Tryz.isAgg127
  z76 := Tryz.sizeOf127
  v76 := Tryz.zeroValue127
  t109 := Tryz.underlying119
  a109 := Tryz.isAgg119
  z109 := Tryz.sizeOf119
  v109 := Tryz.zeroValue119
  t127 := Tryz.underlying138
  a127 := Tryz.isAgg138
  z127 := Tryz.sizeOf138
  v127 := Tryz.zeroValue138
  t146 := Tryz.underlying133
  a146 := Tryz.isAgg133
  z146 := Tryz.sizeOf133
  v146 := Tryz.zeroValue133
  t148 := Tryz.underlying136
  a148 := Tryz.isAgg136
  z148 := Tryz.sizeOf136
  v148 := Tryz.zeroValue136
  t164 := Tryz.underlying139
  a164 := Tryz.isAgg139
  z164 := Tryz.sizeOf139
  v164 := Tryz.zeroValue139 }
theorem Tryz.Builder_Extra_105 : Builder.Extra Tryz.prog Tryz.lays105_ren := {
  sizeBuilder := by kernel_rfl
  liesBuilder := by kernel_rfl
  t5 := Tryz.underlying5
  a5 := Tryz.isAgg5
  z5 := Tryz.sizeOf5
  v5 := Tryz.zeroValue5
  infoByte := by kernel_rfl
  cellsByte := by kernel_rfl
  sizeByte := by kernel_rfl
  neB5 := by decide }
open Go.RowKit Go.Lib in
/-- **strings.Repeat: count ≥ 0, the result within one allocation: count copies of s.** (LAID: no walk: one application.) -/
theorem Tryz.strings_Repeat (s : ByteArray) (c : Nat) (w : World) (hc : c ≤ 9223372036854775807) (hlen : s.size * c ≤ 140737488355328) :
    Calls Tryz.prog 79 #[.string s, .int .i64 c] w fun e w' => e = .returned (.string ⟨(Lib.repeatL s.data.toList c).toArray⟩) ∧ Below w.heap.size w w' := Any.strings_Repeat Tryz.lays105 Tryz.Builder_Extra_105 s c w hc hlen
end Go.Proofs
end
section
set_option linter.unusedVariables false
set_option linter.unusedSimpArgs false
set_option maxHeartbeats 4000000
namespace Go.Proofs.YthkpaoajfiapkaaGreat
open Go.RowKit

/-- All that lay in w lies in w' as it lay. -/
def Ext (w w' : World) : Prop := Below w.heap.size w w'
theorem Ext.refl (w : World) : Ext w w := Below.refl _ _
theorem Ext.size {a b : World} (h : Ext a b) : a.heap.size ≤ b.heap.size := Below.size h
theorem Ext.trans {a b c : World} (h : Ext a b) (k : Ext b c) : Ext a c := Below.trans h (Below.mono k h.size)
theorem Ext.drew {a w : World} (h : Ext a w) : Ext a w.drew := Below.drew h
theorem Ext.drewN {a w : World} (h : Ext a w) (n : Nat) : Ext a (w.drewN n) := Below.trans h ⟨rfl, rfl, rfl, Nat.le_refl _, fun _ _ => rfl⟩
theorem Ext.alloc {a w : World} (h : Ext a w) (o : Obj) : Ext a (w.alloc o) := Below.alloc h h.size o
theorem Ext.setCell {a w : World} (h : Ext a w) {p : Addr} (hp : a.heap.size ≤ p.block) (u : Value) : Ext a (w.setCell p u) := Below.setCell h hp u
theorem Ext.grown {a w w' : World} {row : Option Nat} (h : Ext a w) (hg : w.grownBy w' row) (hr : ∀ k, row = some k → a.heap.size ≤ k) : Ext a w' := Below.grown h hg h.size hr
theorem Ext.cell {w w' : World} {a : Addr} {v : Value} (hb : Ext w w') (h : w.cell? a = some v) : w'.cell? a = some v := cell_later hb h
theorem Ext.free {w w' : World} {a : Addr} (hb : Ext w w') (ha : a.block < w.heap.size) (h : w.frozen? a = false) : w'.frozen? a = false := (Below.frozen hb ha).trans h
theorem Ext.below {w w' : World} (h : Ext w w') : Below w.heap.size w w' := h
/-- '[]byte(s)' of a string. -/
theorem Ext.bytes (w : World) (e : TypeId) (s : ByteArray) : Ext w (Lib.bytesWorld w e s) :=
  ⟨rfl, rfl, rfl, by rw [Lib.bytesWorld_size]; omega, fun j hj => Lib.bytesWorld_at_old w e s j hj⟩

/-- The smaller, the greater of two whole numbers, as Go tells them: a word that the walk does not part on. -/
def imin (x y : Int) : Int := if y < x then y else x
def imax (x y : Int) : Int := if x < y then y else x
theorem min_two_int (ats : Array TypeId) (ty : TypeId) (k k' : IntKind) (x y : Int) : Builtin.min_ ats ty #[.int k x, .int k' y] = pure (.int k (imin x y)) := by
  simp only [Builtin.min_, List.foldlM_cons, List.foldlM_nil, Builtin.min2, imin]; rfl
theorem min_three_int (ats : Array TypeId) (ty : TypeId) (k k' k'' : IntKind) (x y z : Int) : Builtin.min_ ats ty #[.int k x, .int k' y, .int k'' z] = pure (.int k (imin (imin x y) z)) := by
  simp only [Builtin.min_, List.foldlM_cons, List.foldlM_nil, Builtin.min2, imin]; rfl
theorem max_two_int (ats : Array TypeId) (ty : TypeId) (k k' : IntKind) (x y : Int) : Builtin.max_ ats ty #[.int k x, .int k' y] = pure (.int k (imax x y)) := by
  simp only [Builtin.max_, List.foldlM_cons, List.foldlM_nil, Builtin.max2, imax]; rfl

/-- A region that draws leaves one goal for each order: prove it once. -/
theorem once {P G : Prop} (f : P → G) (p : P) : G := f p
theorem wrap_i64_fit (n : Int) (h0 : -9223372036854775808 ≤ n) (h1 : n < 9223372036854775808) : IntKind.i64.wrap n = n := by
  simp [IntKind.wrap, IntKind.bits, IntKind.signed]; omega

end Go.Proofs.YthkpaoajfiapkaaGreat
set_option linter.unusedVariables false
set_option linter.unusedSimpArgs false
set_option maxHeartbeats 4000000
namespace Go.Proofs.YthkpaoajfiapkaaGreat
open Go.RowKit

def u8v (b : UInt8) : Value := .int .u8 (b.toNat : Int)

/-- Block g begins with these bytes, and they may be written. -/
def RowB (w : World) (g : Nat) (l : List UInt8) : Prop :=
  ∃ (cs : Array Value) (e lo hi : Nat), w.heap[g]? = some (.cells cs e (lo, hi)) ∧ (hi ≤ lo ∨ l.length ≤ lo) ∧ ∀ i (h : i < l.length), cs[i]? = some (u8v l[i])

theorem RowB.lt {w : World} {g : Nat} {l : List UInt8} (h : RowB w g l) : g < w.heap.size := by
  obtain ⟨cs, e, lo, hi, hg, _⟩ := h
  exact (Array.getElem?_eq_some_iff.1 hg).1
theorem RowB.cell {w : World} {g : Nat} {l : List UInt8} (h : RowB w g l) {i : Nat} (hi : i < l.length) : w.cell? ⟨g, i, none⟩ = some (.int .u8 ((l[i]).toNat : Int)) := by
  obtain ⟨cs, e, lo, hi', hg, _, hc⟩ := h
  simp only [World.cell?, hg]
  exact hc i hi
theorem RowB.cellD {w : World} {g : Nat} {l : List UInt8} (h : RowB w g l) {i : Nat} (hi : i < l.length) : w.cell? ⟨g, i, none⟩ = some (.int .u8 ((l.getD i 0).toNat : Int)) := by
  rw [h.cell hi]; simp [List.getD, hi]
theorem RowB.free {w : World} {g : Nat} {l : List UInt8} (h : RowB w g l) {i : Nat} (hi : i < l.length) : w.frozen? ⟨g, i, none⟩ = false := by
  obtain ⟨cs, e, lo, hi', hg, hf, _⟩ := h
  simp only [World.frozen?, hg]
  rcases hf with hf | hf
  · simp only [Bool.and_eq_false_imp, decide_eq_true_eq, decide_eq_false_iff_not]; omega
  · simp only [Bool.and_eq_false_imp, decide_eq_true_eq, decide_eq_false_iff_not]; omega
theorem RowB.set {w : World} {g : Nat} {l : List UInt8} (h : RowB w g l) (i : Nat) (b : UInt8) : RowB (w.setCell ⟨g, i, none⟩ (.int .u8 (b.toNat : Int))) g (l.set i b) := by
  obtain ⟨cs, e, lo, hi, hg, hf, hc⟩ := h
  refine ⟨cs.setIfInBounds i (u8v b), e, lo, hi, ?_, by simpa using hf, ?_⟩
  · simp only [World.setCell, Array.getElem?_modify, hg]
    simp [u8v]
  · intro j hj
    have hj' : j < l.length := by simpa using hj
    rw [Array.getElem?_setIfInBounds]
    by_cases e : i = j
    · subst e
      have hlt : i < cs.size := by
        have := hc i hj'
        exact (Array.getElem?_eq_some_iff.1 this).1
      simp [hlt]
    · rw [if_neg e, hc j hj', List.getElem_set_ne e]
theorem RowB.bytes (w : World) (e : TypeId) (s : ByteArray) : RowB (Lib.bytesWorld w e s) w.heap.size s.data.toList := by
  refine ⟨_, e, _, _, Lib.bytesWorld_at_new w e s, .inr ?_, ?_⟩
  · simp [Lib.bytesCells]
  · intro i hi
    have hi' : i < s.data.size := by simpa using hi
    simp only [Lib.bytesCells]
    rw [Array.getElem?_append_left (by simpa using hi')]
    simp [u8v, hi']
    exact ⟨s.data[i], by simp [hi'], rfl⟩
theorem RowB.made (w : World) (n : Nat) (e : TypeId) : RowB (w.alloc (.cells (madeCells #[.int .u8 0] n) e)) w.heap.size (List.replicate n 0) := by
  refine ⟨_, e, 0, 0, heap_alloc_new w _, .inl (Nat.le_refl _), ?_⟩
  intro i hi
  have h := congrArg (fun l : List Value => l[i]?) (toList_madeCells_one (.int .u8 0) n)
  simp only [Array.getElem?_toList] at h
  rw [h]
  have : i < n := by simpa using hi
  simp [this, u8v]
theorem RowB.string {P : Program} {w : World} {g : Nat} {l : List UInt8} (h : RowB w g l) (src e dst : TypeId) (hs : P.underlying src = some (.slice e)) (he : P.underlying e = some (.int .u8)) (hd : P.underlying dst = some .string) (cap : Nat) :
    (convert src dst (.slice (some ⟨g, 0, none⟩) l.length cap)).run P w = .ok (.string ⟨l.toArray⟩) w := by
  have hr := run_convert_bytes_arg (P := P) w src e hs he g 0 l.length cap (l.map fun b => (b.toNat : Int)) (by simp) (fun i hi => by
    rw [Nat.zero_add, h.cell hi]; simp [List.getD, hi]) dst hd
  rw [hr]
  congr 2
  unfold strOfNums
  congr 1
  simp [List.map_map, Function.comp_def]

def vals (l : List UInt8) : List Value := l.map u8v

/-- A whole slice of bytes: its block has just its capacity's cells, none of them marked. -/
def RowC (w : World) (g cap : Nat) (l : List UInt8) : Prop :=
  ∃ (cs : Array Value) (e lo hi : Nat), w.heap[g]? = some (.cells cs e (lo, hi)) ∧ cs.size = cap ∧ l.length ≤ cap ∧ (hi ≤ lo ∨ cap ≤ lo) ∧ ∀ i (h : i < l.length), cs[i]? = some (u8v l[i])
theorem RowC.row {w : World} {g cap : Nat} {l : List UInt8} (h : RowC w g cap l) : RowB w g l := by
  obtain ⟨cs, e, lo, hi, hg, hs, hl, hf, hc⟩ := h
  exact ⟨cs, e, lo, hi, hg, by omega, hc⟩
theorem RowC.bytes (w : World) (e : TypeId) (s : ByteArray) : RowC (Lib.bytesWorld w e s) w.heap.size (grownCap w s.size 0 e) s.data.toList := by
  have hge := grownCap_ge w s.size 0 e
  have hsz : (Lib.bytesCells w e s).size = grownCap w s.size 0 e := by
    have h1 : s.data.size = s.size := rfl
    simp [Lib.bytesCells]; omega
  obtain ⟨cs, e', lo, hi, hg, _, hc⟩ := RowB.bytes w e s
  have hg2 := Lib.bytesWorld_at_new w e s
  rw [hg2] at hg
  simp only [Option.some.injEq, Obj.cells.injEq, Prod.mk.injEq] at hg
  obtain ⟨rfl, rfl, rfl, rfl⟩ := hg
  exact ⟨_, _, _, _, hg2, hsz, by simpa using hge, .inr (by omega), hc⟩
theorem RowC.ext {w w' : World} {g cap : Nat} {l : List UInt8} (h : RowC w g cap l) (k : Ext w w') : RowC w' g cap l := by
  have hl := h.row.lt
  obtain ⟨cs, e, lo, hi, hg, r⟩ := h
  exact ⟨cs, e, lo, hi, (k.below.block g hl).trans hg, r⟩
theorem RowC.append {P : Program} {w : World} {g cap : Nat} {l : List UInt8} (h : RowC w g cap l) (t ty e : TypeId) (i : TypeInfo) (ht : P.underlying t = some (.slice e)) (hi : P.info? e = some i) (hz : i.zero = some (.int .u8 0)) (hs : i.size = 1) (hb : i.bytes = 1)
    (a : Addr) (c : Nat) (b : UInt8) (ha : w.cell? a = some (u8v b)) (hsmall : l.length + 1 ≤ 140737488355328) (base : Nat) (hbase : base ≤ g) (hbw : base ≤ w.heap.size) :
    ∃ g' cap' w', (Builtin.append_ #[t, t] ty #[.slice (some ⟨g, 0, none⟩) l.length cap, .slice (some a) 1 c]).run P w = .ok (.slice (some ⟨g', 0, none⟩) (l.length + 1) cap') w' ∧ RowC w' g' cap' (l ++ [b]) ∧ base ≤ g' ∧ w.grownBy w' (some g) := by
  have hnews : ∀ j v, [u8v b][j]? = some v → w.cell? (a.add j) = some v := by
    intro j v hj
    cases j with
    | zero => simp at hj; subst hj; rw [Addr.add]; simpa using ha
    | succ j => simp at hj
  obtain ⟨cs, e', lo, hi', hg, hsz, hlc, hf, hc⟩ := h
  by_cases hroom : l.length + 1 ≤ cap
  · have hfc := run_firstCells_some (P := P) w i.size 1 a 1 c [u8v b] (by simp [hs]) hnews
    have hcell : ∃ v, w.cell? ⟨g, l.length, none⟩ = some v := by
      have : l.length < cs.size := by omega
      exact ⟨cs[l.length], by simp [World.cell?, hg, this]⟩
    obtain ⟨v0, hv0⟩ := hcell
    have hfree : w.frozen? ⟨g, l.length, none⟩ = false := by
      simp only [World.frozen?, hg]
      rcases hf with hf | hf
      · simp only [Bool.and_eq_false_imp, decide_eq_true_eq, decide_eq_false_iff_not]; omega
      · simp only [Bool.and_eq_false_imp, decide_eq_true_eq, decide_eq_false_iff_not]; omega
    have hadd : (⟨g, 0, none⟩ : Addr).add l.length = ⟨g, l.length, none⟩ := by unfold Addr.add; split <;> simp_all
    have hadd0 : (⟨g, l.length, none⟩ : Addr).add 0 = ⟨g, l.length, none⟩ := by unfold Addr.add; simp
    refine ⟨g, cap, w.setCell ⟨g, l.length, none⟩ (u8v b), ?_, ?_, hbase, ?_⟩
    · rw [hs] at hfc
      simp [Builtin.append_, run_underlying ht, sizeOf, typeInfo, hi, Builtin.lenOf, hroom, hs, hfc, storeCells, hadd, hadd0, u8v, run_store_int, stored, hv0, hfree]
    · refine ⟨cs.setIfInBounds l.length (u8v b), e', lo, hi', ?_, by simpa using hsz, by simpa using hroom, hf, ?_⟩
      · simp only [World.setCell, Array.getElem?_modify, hg]
        simp
      · intro j hj
        rw [Array.getElem?_setIfInBounds]
        by_cases e1 : l.length = j
        · subst e1
          have : l.length < cs.size := by omega
          simp [this]
        · have hj' : j < l.length := by simp at hj; omega
          rw [if_neg e1, hc j hj', List.getElem_append_left hj']
    · exact ⟨rfl, rfl, rfl, by simp, fun k _ hk => Below.heap_setCell w _ _ k (fun e => hk (by simp [e]))⟩
  · have hro : RowB w g l := ⟨cs, e', lo, hi', hg, by omega, hc⟩
    have hr := run_append_grow (P := P) w t ty e i (.int .u8 0) ht hi hz ⟨g, 0, none⟩ l.length cap (vals l) (by simp [vals, hs]) (by
      intro j v hj
      have hj' : j < l.length := by
        have := (List.getElem?_eq_some_iff.1 hj).1
        simpa [vals] using this
      have hadd : (⟨g, 0, none⟩ : Addr).add j = ⟨g, j, none⟩ := by unfold Addr.add; split <;> simp_all
      rw [hadd, hro.cell hj']
      simp [vals, hj', u8v] at hj
      rw [← hj]) a 1 c [u8v b] (by simp [hs]) hnews (by omega) (by omega) (growslice_fits (by omega) (by rw [hb]; omega))
    have hge := grownCap_ge w (l.length + 1) cap e
    refine ⟨w.heap.size, _, _, hr, ⟨_, e, 0, 0, heap_alloc_new w.drew _, ?_, ?_, .inl (Nat.le_refl _), ?_⟩, hbw, ⟨rfl, rfl, rfl, by simp, fun k hk _ => Below.heap_alloc w.drew _ k hk⟩⟩
    · simp [vals, size_zeroCells, Value.cells]; omega
    · simpa using hge
    · intro j hj
      have hj2 : j < l.length + 1 := by simpa using hj
      rw [Array.getElem?_append_left (by simp [vals]; omega)]
      by_cases e1 : j < l.length
      · rw [Array.getElem?_append_left (by simpa [vals] using e1), List.getElem_append_left e1]
        simp [vals, e1]
      · have e2 : j = l.length := by omega
        subst e2
        rw [Array.getElem?_append_right (by simp [vals])]
        simp [vals]

theorem wpList_append_rowc {P : Program} {w : World} {ops : Array Oper} {rest : List Oper} {o : Oper} {a : Act} {Q : Exit → Act → World → Prop} (hgd : o.guard = none) (s x : Operand) (t : TypeId)
    (ho : o.op = .call { callee := .builtin .append, args := #[s, x], argTypes := #[t, t] })
    (base : Nat) (e : TypeId) (i : TypeInfo) (ht : P.underlying t = some (.slice e)) (hi : P.info? e = some i) (hz : i.zero = some (.int .u8 0)) (hs : i.size = 1) (hb : i.bytes = 1)
    (g n cap : Nat) (l : List UInt8) (hn : l.length = n) (hsv : a.eval s = .slice (some ⟨g, 0, none⟩) n cap) (h : RowC w g cap l)
    (ad : Addr) (c : Nat) (b : UInt8) (hx : a.eval x = .slice (some ad) 1 c) (ha : w.cell? ad = some (u8v b)) (hsmall : l.length + 1 ≤ 140737488355328) (hbase : base ≤ g) (hbw : base ≤ w.heap.size)
    (hk : ∀ g' cap' w', RowC w' g' cap' (l ++ [b]) → base ≤ g' → w.grownBy w' (some g) → wpList P ops Q rest (a.put o.dst (.slice (some ⟨g', 0, none⟩) (n + 1) cap')) w') : wpList P ops Q (o :: rest) a w :=
  wpList_plain hgd fun _ hK => by
    subst hn
    obtain ⟨g', cap', w', hr, h2, h3, h4⟩ := h.append (P := P) t o.type e i ht hi hz hs hb ad c b ha hsmall base hbase hbw
    unfold Oper.wp execOp
    simp only [ho, resolve, invoke, builtin, Sem.run_bind, Sem.run_pure, Result.andThen_ok, List.map_toArray, List.map_cons, List.map_nil, hsv, hx, hr]
    exact hK _ _ (hk g' cap' w' h2 h3 h4)

end Go.Proofs.YthkpaoajfiapkaaGreat
set_option linter.unusedVariables false
set_option linter.unusedSimpArgs false
set_option maxHeartbeats 4000000
namespace Skiff

/-- One bit of the division. -/
def stepBit (x : Nat) : Nat := if x % 2 = 1 then (x / 2) ^^^ 3988292384 else x / 2
def stepN : Nat → Nat → Nat
  | 0, x => x
  | n + 1, x => stepN n (stepBit x)
def stepByte (x b : Nat) : Nat := stepN 8 (x ^^^ b)
def crcState (x : Nat) : List UInt8 → Nat
  | [] => x
  | b :: l => crcState (stepByte x b.toNat) l
def crcSum (l : List UInt8) : Nat := 4294967295 - crcState 4294967295 l

theorem stepBit_lt {x : Nat} (h : x < 2 ^ 32) : stepBit x < 2 ^ 32 := by
  unfold stepBit
  split
  · exact Nat.xor_lt_two_pow (by omega) (by decide)
  · omega
theorem stepN_lt (n : Nat) : ∀ {x : Nat}, x < 2 ^ 32 → stepN n x < 2 ^ 32 := by
  induction n with
  | zero => intro x h; exact h
  | succ n ih => intro x h; exact ih (stepBit_lt h)
theorem stepByte_lt {x b : Nat} (hx : x < 2 ^ 32) (hb : b < 2 ^ 8) : stepByte x b < 2 ^ 32 :=
  stepN_lt 8 (Nat.xor_lt_two_pow hx (by omega))

end Skiff
set_option linter.unusedVariables false
set_option linter.unusedSimpArgs false
set_option maxHeartbeats 4000000
namespace Skiff

/-- A string's bytes; a string of bytes. -/
def bl (s : ByteArray) : List UInt8 := s.data.toList
def mk (l : List UInt8) : ByteArray := ⟨l.toArray⟩
@[simp] theorem bl_mk (l : List UInt8) : bl (mk l) = l := by simp [bl, mk]
@[simp] theorem mk_bl (s : ByteArray) : mk (bl s) = s := rfl
@[simp] theorem bl_append (s t : ByteArray) : bl (s ++ t) = bl s ++ bl t := by simp [bl]
@[simp] theorem bl_length (s : ByteArray) : (bl s).length = s.size := by simp [bl]
@[simp] theorem mk_size (l : List UInt8) : (mk l).size = l.length := by simp [mk, ByteArray.size]
theorem bl_extract (s : ByteArray) (a b : Nat) : bl (s.extract a b) = ((bl s).drop a).take (b - a) := by
  simp [bl, List.extract_eq_take_drop]
theorem bl_inj {s t : ByteArray} (h : bl s = bl t) : s = t := by rw [← mk_bl s, ← mk_bl t, h]

theorem toList_bl (s : ByteArray) : s.toList = bl s := Go.ByteArray.toList_eq s
theorem beq_bl (a b : ByteArray) : (a.toList == b.toList) = decide (bl a = bl b) := by
  rw [toList_bl, toList_bl]
  by_cases h : bl a = bl b
  · simp [h]
  · simp [h]

/-- The lowest byte of a number; so many bytes, the lowest first; bytes' number. -/
def lowByte (x : Int) : UInt8 := UInt8.ofNat (x % 256).toNat
def low (x : Int) : Nat → List UInt8
  | 0 => []
  | k + 1 => lowByte x :: low (x / 256) k
def num : List UInt8 → Nat
  | [] => 0
  | b :: l => b.toNat + 256 * num l
theorem lowByte_toNat (x : Int) : ((lowByte x).toNat : Int) = x % 256 := by
  have h := Int.emod_nonneg x (show (256 : Int) ≠ 0 by decide)
  have h2 := Int.emod_lt_of_pos x (show (0 : Int) < 256 by decide)
  unfold lowByte
  rw [UInt8.toNat_ofNat']
  omega
@[simp] theorem low_length (k : Nat) : ∀ x, (low x k).length = k := by
  induction k with
  | zero => intro x; rfl
  | succ k ih => intro x; simp [low, ih]
theorem num_lt : ∀ l : List UInt8, num l < 256 ^ l.length
  | [] => by simp [num]
  | b :: l => by
    have h := num_lt l
    have hb := b.toNat_lt
    simp only [num, List.length_cons, Nat.pow_succ]
    have : 256 * num l + 256 ≤ 256 ^ l.length * 256 := by
      have := Nat.mul_le_mul_left 256 (Nat.succ_le_of_lt h)
      rw [Nat.mul_comm (256 ^ l.length)]
      omega
    omega
theorem num_low (k : Nat) : ∀ x : Int, 0 ≤ x → x < 256 ^ k → (num (low x k) : Int) = x := by
  induction k with
  | zero => intro x h0 h1; simp [low, num] at *; omega
  | succ k ih =>
    intro x h0 h1
    have h2 : x / 256 < 256 ^ k := by
      rw [Int.pow_succ] at h1
      exact Int.ediv_lt_of_lt_mul (by decide) h1
    have h3 := ih (x / 256) (by omega) h2
    simp only [low, num, Int.natCast_add, Int.natCast_mul, lowByte_toNat, h3]
    omega
theorem lowByte_cat (b : UInt8) (n : Nat) : lowByte ((b.toNat + 256 * n : Nat) : Int) = b := by
  apply UInt8.toNat_inj.1
  have h := lowByte_toNat ((b.toNat + 256 * n : Nat) : Int)
  have hb := b.toNat_lt
  omega
theorem low_num : ∀ l : List UInt8, low (num l : Int) l.length = l
  | [] => rfl
  | b :: l => by
    have h : ((num (b :: l) : Nat) : Int) / 256 = (num l : Int) := by
      have hb := b.toNat_lt
      simp only [num]
      omega
    show lowByte ((num (b :: l) : Nat) : Int) :: low (((num (b :: l) : Nat) : Int) / 256) l.length = _
    rw [h, low_num l, show (num (b :: l)) = b.toNat + 256 * num l from rfl, lowByte_cat]

theorem low_snoc (x : Int) : ∀ j : Nat, low x (j + 1) = low x j ++ [lowByte (x / 256 ^ j)]
  | 0 => by simp [low]
  | j + 1 => by
    have h := low_snoc (x / 256) j
    rw [show low x (j + 1 + 1) = lowByte x :: low (x / 256) (j + 1) from rfl, h, Int.ediv_ediv_of_nonneg (by decide)]
    rw [show (256 : Int) * 256 ^ j = 256 ^ (j + 1) by rw [Int.pow_succ, Int.mul_comm]]
    rfl

theorem low_set (x : Int) (j m : Nat) : (low x j ++ List.replicate (m + 1) 0).set j (lowByte (x / 256 ^ j)) = low x (j + 1) ++ List.replicate m 0 := by
  rw [List.set_append_right _ _ (by simp), low_length, Nat.sub_self, List.replicate_succ, List.set_cons_zero, low_snoc]
  simp

/-- A record. -/
structure Rec where
  seq : Int
  slot : Int
  size : Int
  sum : Int
  deriving DecidableEq
def Rec.zero : Rec := ⟨0, 0, 0, 0⟩
def within (x a b : Int) : Bool := decide (a ≤ x) && decide (x ≤ b)
def recMay (r : Rec) : Bool := within r.seq 1 1048576 && within r.slot 0 1 && within r.size 1 288 && within r.sum 0 4294967295
theorem within_iff {x a b : Int} : within x a b = true ↔ a ≤ x ∧ x ≤ b := by simp [within]
theorem recMay_iff {r : Rec} : recMay r = true ↔ (1 ≤ r.seq ∧ r.seq ≤ 1048576) ∧ (0 ≤ r.slot ∧ r.slot ≤ 1) ∧ (1 ≤ r.size ∧ r.size ≤ 288) ∧ 0 ≤ r.sum ∧ r.sum ≤ 4294967295 := by
  simp [recMay, within_iff, and_assoc]
def compl (l : List UInt8) : List UInt8 := l.map fun b => ~~~ b
@[simp] theorem compl_length (l : List UInt8) : (compl l).length = l.length := by simp [compl]
theorem compl_at (l : List UInt8) (j : Nat) (h : j < l.length) : (compl (l.take j) ++ l.drop j).getD j 0 = l[j] := by
  have hl : (compl (l.take j)).length = j := by simp; omega
  rw [List.getD_eq_getElem?_getD, List.getElem?_append_right (by omega), hl]
  simp [h]
theorem compl_set (l : List UInt8) (j : Nat) (h : j < l.length) : (compl (l.take j) ++ l.drop j).set j (~~~ l[j]) = compl (l.take (j + 1)) ++ l.drop (j + 1) := by
  have hl : (compl (l.take j)).length = j := by simp; omega
  rw [List.set_append_right _ _ (by omega), hl, Nat.sub_self, List.drop_eq_getElem_cons h, List.set_cons_zero, List.take_succ_eq_append_getElem h]
  simp only [compl, List.map_append, List.map_cons, List.map_nil, List.append_assoc, List.cons_append, List.nil_append]
def half (r : Rec) : List UInt8 := low r.seq 4 ++ (low r.slot 2 ++ (low r.size 2 ++ low r.sum 4))
def put (r : Rec) : List UInt8 := half r ++ compl (half r)
@[simp] theorem half_length (r : Rec) : (half r).length = 12 := by simp [half]
@[simp] theorem put_length (r : Rec) : (put r).length = 24 := by simp [put]
/-- The record that these bytes tell, whatever they are. -/
def told (l : List UInt8) : Rec := ⟨num (l.take 4), num ((l.drop 4).take 2), num ((l.drop 6).take 2), num ((l.drop 8).take 4)⟩
def get (l : List UInt8) : Option Rec := if l.length = 24 ∧ compl (l.take 12) = l.drop 12 ∧ recMay (told l) = true then some (told l) else none

theorem told_put {r : Rec} (h : recMay r = true) (l : List UInt8) : told (half r ++ l) = r := by
  obtain ⟨h1, h2, h3, h4⟩ := recMay_iff.1 h
  have e1 := num_low 4 r.seq (by omega) (by omega)
  have e2 := num_low 2 r.slot (by omega) (by omega)
  have e3 := num_low 2 r.size (by omega) (by omega)
  have e4 := num_low 4 r.sum (by omega) (by omega)
  have t1 : (half r ++ l).take 4 = low r.seq 4 := by simp [half, List.take_append]
  have t2 : ((half r ++ l).drop 4).take 2 = low r.slot 2 := by simp [half, List.take_append, List.drop_append]
  have t3 : ((half r ++ l).drop 6).take 2 = low r.size 2 := by simp [half, List.take_append, List.drop_append]
  have t4 : ((half r ++ l).drop 8).take 4 = low r.sum 4 := by simp [half, List.take_append, List.drop_append, List.drop_of_length_le]
  unfold told
  rw [t1, t2, t3, t4, e1, e2, e3, e4]
theorem get_put {r : Rec} (h : recMay r = true) : get (put r) = some r := by
  have e : told (put r) = r := told_put h _
  unfold get
  rw [e, if_pos ⟨put_length r, by simp [put, List.take_append, List.drop_append], h⟩]
theorem half_told (l : List UInt8) (h : 12 ≤ l.length) : half (told l) = l.take 12 := by
  have e1 := low_num (l.take 4)
  have e2 := low_num ((l.drop 4).take 2)
  have e3 := low_num ((l.drop 6).take 2)
  have e4 := low_num ((l.drop 8).take 4)
  rw [show (l.take 4).length = 4 by simp; omega] at e1
  rw [show ((l.drop 4).take 2).length = 2 by simp; omega] at e2
  rw [show ((l.drop 6).take 2).length = 2 by simp; omega] at e3
  rw [show ((l.drop 8).take 4).length = 4 by simp; omega] at e4
  unfold half told
  simp only
  rw [e1, e2, e3, e4]
  have s3 : (l.drop 6).take 6 = (l.drop 6).take 2 ++ (l.drop 8).take 4 := by
    rw [show 6 = 2 + 4 from rfl, List.take_add, List.drop_drop]
  have s2 : (l.drop 4).take 8 = (l.drop 4).take 2 ++ (l.drop 6).take 6 := by
    rw [show 8 = 2 + 6 from rfl, List.take_add, List.drop_drop]
  have s1 : l.take 12 = l.take 4 ++ (l.drop 4).take 8 := by
    rw [show 12 = 4 + 8 from rfl, List.take_add]
  rw [← s3, ← s2, ← s1]
theorem put_told {l : List UInt8} (h : l.length = 24) (hc : compl (l.take 12) = l.drop 12) : put (told l) = l := by
  unfold put
  rw [half_told l (by omega), hc, List.take_append_drop]
theorem get_some {l : List UInt8} {r : Rec} (h : get l = some r) : recMay r = true ∧ put r = l := by
  unfold get at h
  split at h
  · rename_i hc
    obtain rfl := Option.some.inj h
    exact ⟨hc.2.2, put_told hc.1 hc.2.1⟩
  · cases h
theorem get_none {l : List UInt8} (h : get l = none) (r : Rec) (hr : recMay r = true) : put r ≠ l := by
  intro e
  rw [← e, get_put hr] at h
  cases h

end Skiff
set_option linter.unusedVariables false
set_option linter.unusedSimpArgs false
set_option maxHeartbeats 4000000
namespace Skiff

/-- What a byte of the word lets stand where so many bits of it are done. -/
def maskB (w : UInt8) (m : Nat) : UInt8 := w ||| UInt8.ofNat (255 <<< min m 8)
def tornB (b w : UInt8) (m : Nat) : UInt8 := b &&& maskB w m
def tornL : List UInt8 → List UInt8 → Nat → List UInt8
  | b :: bs, w :: ws, n => tornB b w n :: tornL bs ws (n - 8)
  | bs, _, _ => bs

/-- The flash behind a torn word, behind a worn sector. -/
def tornF (f : List UInt8) (at_ : Nat) (w : List UInt8) (n : Nat) : List UInt8 := f.take at_ ++ tornL ((f.drop at_).take 4) w n ++ f.drop (at_ + 4)
def wornF (f : List UInt8) (at_ many : Nat) : List UInt8 := f.take at_ ++ List.replicate many 255 ++ f.drop (at_ + many)
def wordAt (x : Int) : Bool := within x 0 764 && decide (x % 4 = 0)
def tornMay (f : List UInt8) (at_ : Int) (w : List UInt8) (n : Int) : Bool := decide (f.length = 768) && wordAt at_ && decide (w.length = 4) && within n 0 32
def wornMay (f : List UInt8) (s n : Int) : Bool := decide (f.length = 768) && within s 0 7 && within n 0 96
def torn (f : List UInt8) (at_ : Int) (w : List UInt8) (n : Int) : Option (List UInt8) := if tornMay f at_ w n = true then some (tornF f at_.toNat w n.toNat) else none
def worn (f : List UInt8) (s n : Int) : Option (List UInt8) := if wornMay f s n = true then some (wornF f (96 * s.toNat) n.toNat) else none
def flash0 : List UInt8 := List.replicate 768 255
theorem flash0_length : flash0.length = 768 := List.length_replicate

end Skiff
set_option linter.unusedVariables false
set_option linter.unusedSimpArgs false
set_option maxHeartbeats 4000000
namespace Skiff

end Skiff
set_option linter.unusedVariables false
set_option linter.unusedSimpArgs false
set_option maxHeartbeats 4000000
namespace Go.Proofs.YthkpaoajfiapkaaGreat
open Go.RowKit Skiff

theorem info_u8 : (Tryz.prog.info? 5).map (fun i => (i.zero, i.size, i.bytes)) = some (some (.int .u8 0), 1, 1) := by kernel_rfl

theorem upTo_calls (x a b : Int) (w : World) :
    Calls Tryz.prog 37 #[.int .i64 x, .int .i64 a, .int .i64 b] w fun e w' => e = .returned (.bool (within x a b)) ∧ w = w' := by
  have hw : Hid (within x a b = (decide (a ≤ x) && decide (x ≤ b))) := rfl
  by_cases h : a ≤ x
  · have h1 : decide (a ≤ x) = true := by simpa using h
    go_enter Tryz.func37, Tryz.ntmps37
    go_wp2
    go_ret
    exact ⟨by rw [hw.out, h1]; rfl, rfl⟩
  · have h1 : decide (a ≤ x) = false := by simpa using h
    go_enter Tryz.func37, Tryz.ntmps37
    go_wp2
    go_ret
    exact ⟨by rw [hw.out, h1]; rfl, rfl⟩

theorem made_u8 (n : Nat) (h : n ≤ 140737488351232) (w : World) :
    (Instr.makeSlice 78 (.int .i64 (n : Int)) (.int .i64 (n : Int))).run Tryz.prog w = .ok (.slice (some ⟨w.heap.size, 0, none⟩) n n) (w.alloc (.cells (madeCells #[.int .u8 0] n) 5)) := by
  obtain ⟨i0, hi, hz0, hz1, hz2⟩ := info_parts info_u8
  have hr := run_make (P := Tryz.prog) w 78 5 i0 _ Tryz.underlying78 hi hz0 .i64 .i64 (n : Int) (n : Int) (by omega) (by omega) (by rw [hz2]; omega) (by omega)
  rw [hz1] at hr
  simp only [Nat.mul_one, Int.toNat_natCast] at hr
  exact hr

end Go.Proofs.YthkpaoajfiapkaaGreat
set_option linter.unusedVariables false
set_option linter.unusedSimpArgs false
set_option maxHeartbeats 4000000
namespace Go.Proofs.YthkpaoajfiapkaaGreat
open Go.RowKit Skiff

theorem full_set (j m : Nat) : (List.replicate j (255 : UInt8) ++ List.replicate (m + 1) 0).set j 255 = List.replicate (j + 1) 255 ++ List.replicate m 0 := by
  rw [List.set_append_right _ _ (by simp), List.length_replicate, Nat.sub_self, List.replicate_succ, List.set_cons_zero, List.replicate_succ']
  simp

theorem rfull_calls (k : Nat) (hk : k ≤ 768) (w : World) :
    Calls Tryz.prog 33 #[.int .i64 (k : Int)] w fun e w' => e = .returned (.string (mk (List.replicate k 255))) ∧ Ext w w' := by
  have hmk := fun w => made_u8 k (by omega) w
  go_enter Tryz.func33, Tryz.ntmps33
  go_wp2
  go_loopw [4] (fun i wr => ∃ j : Nat, j ≤ k ∧ i = .int .i64 (j : Int) ∧ RowB wr w.heap.size (List.replicate j 255 ++ List.replicate (k - j) 0) ∧ Ext w wr) (fun i _ => k - (intOf i).toNat)
  case atStart => exact ⟨0, by omega, rfl, RowB.made _ _ _, (Ext.refl _).alloc _⟩
  case round =>
    obtain ⟨j, hj, rfl, hR, hE⟩ := hrel
    have hll : (List.replicate j (255 : UInt8) ++ List.replicate (k - j) (0 : UInt8)).length = k := by simp; omega
    by_cases hlt : j < k
    · have hcell := hR.cellD (i := j) (by omega)
      have hfree := hR.free (i := j) (by omega)
      obtain ⟨m, hm⟩ : ∃ m, k - j = m + 1 := ⟨k - j - 1, by omega⟩
      have hm2 : k - (j + 1) = m := by omega
      have HM := Lib.hid hm
      have HM2 := Lib.hid hm2
      clear hm hm2
      go_wp2
      go_roundw
      case rel => exact ⟨j + 1, by omega, by go_num, by have h1 := hR.set j 255; rw [HM.out, full_set] at h1; rw [HM2.out]; exact h1, hE.setCell (Nat.le_refl _) _⟩
      case measure => simp [intOf] <;> omega
    · obtain rfl : j = k := by omega
      have hr := hR.string (P := Tryz.prog) 78 5 9 Tryz.underlying78 Tryz.underlying5 Tryz.underlying9 j
      have hfin : List.replicate j (255 : UInt8) ++ List.replicate (j - j) (0 : UInt8) = List.replicate j 255 := by simp
      rw [hll, hfin] at hr
      go_wp2
      go_ret
      exact ⟨rfl, hE⟩

theorem rfull768_calls (w : World) : Calls Tryz.prog 33 #[.int .i64 768] w fun e w' => e = .returned (.string (mk flash0)) ∧ Ext w w' := rfull_calls 768 (by omega) w

theorem rblank_calls (w : World) :
    Calls Tryz.prog 14 #[] w fun e w' => e = .returned (.string (mk flash0)) ∧ Ext w w' := by
  go_enter Tryz.func14, Tryz.ntmps14
  go_wp2_with fail
  refine (rfull768_calls _).mono ?_
  rintro e w1 ⟨rfl, B1⟩
  go_wp2
  go_ret
  exact ⟨rfl, (by repeat (first | (with_reducible exact Ext.refl _) | (with_reducible assumption) | (with_reducible refine Ext.drewN ?_ _) | (with_reducible refine Ext.drew ?_) | (with_reducible refine Ext.alloc ?_ _) | (with_reducible refine Ext.setCell ?_ (by first | exact Nat.le_refl _ | (simp <;> omega)) _) | (with_reducible refine Ext.trans ?_ (by with_reducible assumption))))⟩

end Go.Proofs.YthkpaoajfiapkaaGreat
set_option linter.unusedVariables false
set_option linter.unusedSimpArgs false
set_option maxHeartbeats 4000000
namespace Go.Proofs.YthkpaoajfiapkaaGreat
open Go.RowKit Skiff

end Go.Proofs.YthkpaoajfiapkaaGreat
set_option linter.unusedVariables false
set_option linter.unusedSimpArgs false
set_option maxHeartbeats 4000000
namespace Go.Proofs.YthkpaoajfiapkaaGreat
open Go.RowKit Skiff
attribute [local go_sem ↓ high] min_two_int min_three_int max_two_int

theorem repeatL_one (b : UInt8) : ∀ c : Nat, Lib.repeatL [b] c = List.replicate c b
  | 0 => rfl
  | c + 1 => by rw [Lib.repeatL, repeatL_one b c, List.replicate_succ]; rfl

theorem repeat_calls (k : Nat) (hk : k ≤ 768) (w : World) :
    Calls Tryz.prog 79 #[.string ⟨#[255]⟩, .int .i64 (k : Int)] w fun e w' => e = .returned (.string (mk (List.replicate k 255))) ∧ Ext w w' := by
  have h := Go.Proofs.Tryz.strings_Repeat ⟨#[255]⟩ k w (by omega) (by show 1 * k ≤ _; omega)
  rw [repeatL_one] at h
  exact h

end Go.Proofs.YthkpaoajfiapkaaGreat
set_option linter.unusedVariables false
set_option linter.unusedSimpArgs false
set_option maxHeartbeats 4000000
namespace Go.Proofs.YthkpaoajfiapkaaGreat
open Go.RowKit Skiff

end Go.Proofs.YthkpaoajfiapkaaGreat
set_option linter.unusedVariables false
set_option linter.unusedSimpArgs false
set_option maxHeartbeats 4000000
namespace Go.Proofs.YthkpaoajfiapkaaGreat
open Go.RowKit Skiff

theorem take_set (T b : List UInt8) (c : Nat) (h1 : c < T.length) (h2 : c < b.length) : (T.take c ++ b.drop c).set c (T.getD c 0) = T.take (c + 1) ++ b.drop (c + 1) := by
  have hl : (T.take c).length = c := by simp; omega
  rw [List.set_append_right _ _ (by omega), hl, Nat.sub_self, List.drop_eq_getElem_cons h2, List.set_cons_zero, List.take_succ_eq_append_getElem h1, List.append_assoc, List.getD_eq_getElem?_getD, List.getElem?_eq_getElem h1]
  rfl

end Go.Proofs.YthkpaoajfiapkaaGreat
set_option linter.unusedVariables false
set_option linter.unusedSimpArgs false
set_option maxHeartbeats 4000000
namespace Skiff
def tornPair (o : Option (List UInt8)) : ByteArray × Int := match o with
  | some l => (mk l, 0)
  | none => (mk [], 200)
def fulls (n : Int) : Option ByteArray := if 0 ≤ n ∧ n ≤ 768 then some (mk (List.replicate n.toNat 255)) else none
def repeats (s : ByteArray) (n : Int) : Option ByteArray := if bl s = [255] then fulls n else none
end Skiff
namespace Go.Proofs.YthkpaoajfiapkaaGreat
open Go.RowKit Skiff

theorem g_skiffref1_Blank (r : ByteArray) (w : World) (h : some (mk flash0) = some r) :
    Calls Tryz.prog 14 #[] w fun e w' => e = .returned (.string r) ∧ Below w.heap.size w w' :=
  (rblank_calls w).mono fun e w' ⟨he, hw⟩ => ⟨by rw [he, Option.some.inj h], hw⟩

theorem fulls_some {n : Int} {r : ByteArray} (h : fulls n = some r) : ∃ k : Nat, n = k ∧ k ≤ 768 ∧ r = mk (List.replicate k 255) := by
  unfold fulls at h
  split at h
  · exact ⟨n.toNat, by omega, by omega, (Option.some.inj h).symm⟩
  · cases h
theorem g_skiffref1_full (a0 : Int) (r : ByteArray) (w : World) (h : fulls a0 = some r) :
    Calls Tryz.prog 33 #[.int .i64 a0] w fun e w' => e = .returned (.string r) ∧ Below w.heap.size w w' := by
  obtain ⟨k, rfl, hk, rfl⟩ := fulls_some h
  exact rfull_calls k hk w

theorem g_strings_Repeat (a0 : ByteArray) (a1 : Int) (r : ByteArray) (w : World) (h : repeats a0 a1 = some r) :
    Calls Tryz.prog 79 #[.string a0, .int .i64 a1] w fun e w' => e = .returned (.string r) ∧ Below w.heap.size w w' := by
  unfold repeats at h
  split at h
  · rename_i hs
    obtain ⟨k, rfl, hk, rfl⟩ := fulls_some h
    have e : a0 = ⟨#[255]⟩ := by rw [← mk_bl a0, hs]; rfl
    rw [e]
    exact repeat_calls k hk w
  · cases h

end Go.Proofs.YthkpaoajfiapkaaGreat
end
section
set_option linter.unusedVariables false
set_option linter.unusedSimpArgs false
set_option maxHeartbeats 4000000
namespace Go.Proofs.YthkpaoajfiapkaaGreat
open Go.RowKit

theorem crc_bit_pos {y : Nat} (h : y % 2 = 1) (hy : y < 4294967296) : (bits .and .u32 (y : Int) 1 != 0) = true := by
  have e : (1 : Int) = ((1 : Nat) : Int) := rfl
  rw [e, u32_and_nat y 1 hy (by decide), nat_mask1, h]; rfl
theorem crc_bit_neg {y : Nat} (h : y % 2 = 0) (hy : y < 4294967296) : (bits .and .u32 (y : Int) 1 != 0) = false := by
  have e : (1 : Int) = ((1 : Nat) : Int) := rfl
  rw [e, u32_and_nat y 1 hy (by decide), nat_mask1, h]; rfl
theorem crc_poly {y : Nat} (hy : y < 4294967296) : bits .xor .u32 ((y : Int) / 2) 3988292384 = (((y / 2) ^^^ 3988292384 : Nat) : Int) := by
  have e : ((y : Int) / 2) = ((y / 2 : Nat) : Int) := by omega
  have e2 : (3988292384 : Int) = ((3988292384 : Nat) : Int) := rfl
  rw [e, e2, u32_xor_nat _ _ (by omega) (by decide)]
theorem crc_half (y : Nat) : ((y : Int) / 2) = ((y / 2 : Nat) : Int) := by omega

theorem step_calls (a b : Nat) (w : World) (ha : a < 4294967296) (hb : b < 256) :
    Calls Tryz.prog 98 #[.int .u32 (a : Int), .int .u8 (b : Int)] w fun e w' => e = .returned (.int .u32 (Skiff.stepByte a b : Nat)) ∧ w = w' := by
  have hx : bits .xor .u32 (a : Int) (b : Int) = ((a ^^^ b : Nat) : Int) := u32_xor_nat a b ha (by omega)
  have hxl : a ^^^ b < 4294967296 := Nat.xor_lt_two_pow (n := 32) ha (by omega)
  have H0 : Hid (Skiff.stepByte a b = Skiff.stepN 8 (a ^^^ b)) := rfl
  have HX := Lib.hid hx
  clear hx
  go_enter Tryz.func98, Tryz.ntmps98
  go_wp2
  go_loop [0, 10] (fun x i => ∃ (k : Nat) (y : Nat), k ≤ 8 ∧ y < 4294967296 ∧ i = .int .i64 (k : Int) ∧ x = .int .u32 (y : Int) ∧ Hid (Skiff.stepByte a b = Skiff.stepN (8 - k) y)) (fun _ i => 8 - (intOf i).toNat)
  case atStart => exact ⟨0, a ^^^ b, by omega, hxl, rfl, by rw [HX.out], H0⟩
  case round =>
    obtain ⟨k, y, hk, hy, rfl, rfl, H⟩ := hrel
    by_cases hlt : k < 8
    · have hb8 : 8 - k = (8 - (k + 1)) + 1 := by omega
      have H2 : Hid (Skiff.stepByte a b = Skiff.stepN (8 - (k + 1)) (Skiff.stepBit y)) := by
        have := H.out; rw [hb8] at this; exact this
      have hl : Skiff.stepBit y < 4294967296 := Skiff.stepBit_lt hy
      clear H hb8
      rcases Nat.mod_two_eq_zero_or_one y with h2 | h2
      · have e : Skiff.stepBit y = y / 2 := by unfold Skiff.stepBit; rw [if_neg (by omega)]
        have hbit := crc_bit_neg h2 hy
        have hh := crc_half y
        rw [e] at H2 hl
        have HH := Lib.hid hh
        clear e h2 hh
        go_wp2
        go_round
        case rel => exact ⟨k + 1, y / 2, by omega, hl, by go_num, by rw [HH.out], H2⟩
        case measure => simp [intOf]; omega
      · have e : Skiff.stepBit y = (y / 2) ^^^ 3988292384 := by unfold Skiff.stepBit; rw [if_pos h2]
        have hbit := crc_bit_pos h2 hy
        have hh := crc_poly hy
        rw [e] at H2 hl
        have HH := Lib.hid hh
        clear e h2 hh
        go_wp2
        go_round
        case rel => exact ⟨k + 1, (y / 2) ^^^ 3988292384, by omega, hl, by go_num, by rw [HH.out], H2⟩
        case measure => simp [intOf]; omega
    · obtain rfl : k = 8 := by omega
      go_wp2
      go_ret
      have := H.out
      exact ⟨by rw [this]; rfl, rfl⟩

theorem crc_not {y : Nat} (hy : y < 4294967296) : bits .xor .u32 4294967295 (y : Int) = ((4294967295 - y : Nat) : Int) := by
  have e : (4294967295 : Int) = ((4294967295 : Nat) : Int) := rfl
  rw [e, u32_xor_nat _ _ (by decide) hy]
  congr 1
  have h := Nat.testBit_two_pow_sub_succ (n := 32) (x := y) hy
  apply Nat.eq_of_testBit_eq
  intro i
  have e1 : 4294967295 - y = 2 ^ 32 - (y + 1) := by omega
  rw [e1, h, Nat.testBit_xor]
  have e3 : (4294967295 : Nat) = 2 ^ 32 - 1 := by decide
  rw [e3, Nat.testBit_two_pow_sub_one]
  by_cases hi : i < 32
  · simp [hi]
  · rw [Nat.testBit_lt_two_pow (Nat.lt_of_lt_of_le hy (show (4294967296 : Nat) ≤ 2 ^ i from Nat.pow_le_pow_right (show 2 > 0 by decide) (show 32 ≤ i by omega)))]
    simp [hi]

theorem sum_calls (s : ByteArray) (w : World) (hs : s.size ≤ 4611686018427387904) :
    Calls Tryz.prog 87 #[.string s] w fun e w' => e = .returned (.int .i64 (Skiff.crcSum s.data.toList : Nat)) ∧ Ext w w' := by
  have kc := fun (w : World) => Lib.run_convert_string_bytes (P := Tryz.prog) w 9 78 5 s Tryz.underlying9 Tryz.underlying78 Tryz.underlying5
  go_enter Tryz.func87, Tryz.ntmps87
  go_wp2
  go_loop [3, 9] (fun x i => ∃ (k : Nat) (y : Nat), k ≤ s.size ∧ y < 4294967296 ∧ i = .int .i64 (k : Int) ∧ x = .int .u32 (y : Int) ∧ Hid (Skiff.crcState 4294967295 s.data.toList = Skiff.crcState y (s.data.toList.drop k))) (fun _ i => s.size - (intOf i).toNat)
  case atStart => exact ⟨0, 4294967295, by omega, by decide, rfl, rfl, rfl⟩
  case round =>
    obtain ⟨k, y, hk, hy, rfl, rfl, H⟩ := hrel
    by_cases hlt : k < s.size
    · have hl : s.data.toList.length = s.size := by simp
      have hd : s.data.toList.drop k = s.data.toList.getD k 0 :: s.data.toList.drop (k + 1) := by
        rw [List.drop_eq_getElem_cons (by omega), List.getD_eq_getElem?_getD, List.getElem?_eq_getElem (by omega)]; rfl
      have hcell := Lib.bytesWorld_cell w 5 s k hlt
      generalize s.data.toList.getD k 0 = c at hd hcell
      have H2 : Hid (Skiff.crcState 4294967295 s.data.toList = Skiff.crcState (Skiff.stepByte y c.toNat) (s.data.toList.drop (k + 1))) := by
        have := H.out; rw [hd] at this; exact this
      have hl2 : Skiff.stepByte y c.toNat < 4294967296 := Skiff.stepByte_lt hy c.toNat_lt
      have hc : c.toNat < 256 := c.toNat_lt
      clear H hd hl
      go_wp2_with (go_at_call 98; refine (step_calls y c.toNat _ hy hc).mono ?_; rintro e w' ⟨rfl, rfl⟩)
      go_round
      case rel => exact ⟨k + 1, _, by omega, hl2, by go_num, rfl, H2⟩
      case measure => simp [intOf]; omega
    · obtain rfl : k = s.size := by omega
      have hn := crc_not hy
      obtain ⟨z, hz, hzl⟩ : ∃ z : Nat, 4294967295 - y = z ∧ z < 4294967296 := ⟨_, rfl, by omega⟩
      rw [hz] at hn
      have hn2 : bits .xor .u32 IntKind.u32.max (y : Int) = (z : Int) := hn
      have HZ := Lib.hid hz
      clear hn
      clear hz
      go_wp2
      go_ret
      have h1 := H.out
      rw [List.drop_of_length_le (by simp)] at h1
      have h2 : Skiff.crcState y [] = y := rfl
      rw [h2] at h1
      refine ⟨?_, Ext.bytes w _ s⟩
      unfold Skiff.crcSum
      rw [h1, HZ.out]
      have hw : wrap64 (z : Int) = z := by unfold wrap64; omega
      show Ending.returned (.int .i64 (wrap64 (z : Int))) = _
      rw [hw]

theorem ref_crc_calls (s : ByteArray) (w : World) (hs : s.size ≤ 4611686018427387904) :
    Calls Tryz.prog 73 #[.string s] w fun e w' => e = .returned (.int .i64 (Skiff.crcSum s.data.toList : Nat)) ∧ w = w' := by
  go_enter Tryz.func73, Tryz.ntmps73
  go_wp2
  go_loop [3, 4] (fun x i => ∃ (k : Nat) (y : Nat), k ≤ s.size ∧ y < 4294967296 ∧ i = .int .i64 (k : Int) ∧ x = .int .u32 (y : Int) ∧ Hid (Skiff.crcState 4294967295 s.data.toList = Skiff.crcState y (s.data.toList.drop k))) (fun _ i => s.size - (intOf i).toNat)
  case atStart => exact ⟨0, 4294967295, by omega, by decide, rfl, rfl, rfl⟩
  case round =>
    obtain ⟨k, y, hk, hy, rfl, rfl, H⟩ := hrel
    by_cases hlt : k < s.size
    · have hl : s.data.toList.length = s.size := by simp
      have hd : s.data.toList.drop k = s[k] :: s.data.toList.drop (k + 1) := by
        rw [List.drop_eq_getElem_cons (by omega)]; rfl
      generalize hcc : s[k] = c at hd
      have H2 : Hid (Skiff.crcState 4294967295 s.data.toList = Skiff.crcState (Skiff.stepByte y c.toNat) (s.data.toList.drop (k + 1))) := by
        have := H.out; rw [hd] at this; exact this
      have hl2 : Skiff.stepByte y c.toNat < 4294967296 := Skiff.stepByte_lt hy c.toNat_lt
      have hc : c.toNat < 256 := c.toNat_lt
      clear H hd hl
      have hx : bits .xor .u32 (y : Int) (c.toNat : Int) = ((y ^^^ c.toNat : Nat) : Int) := u32_xor_nat y c.toNat hy (by omega)
      have hxl : y ^^^ c.toNat < 4294967296 := Nat.xor_lt_two_pow (n := 32) hy (by omega)
      have H0 : Hid (Skiff.stepByte y c.toNat = Skiff.stepN 8 (y ^^^ c.toNat)) := rfl
      have HX := Lib.hid hx
      have HC := Lib.hid hcc
      clear hx
      go_wp2
      go_loop [3, 5] (fun x i => ∃ (j : Nat) (z : Nat), j ≤ 8 ∧ z < 4294967296 ∧ i = .int .i64 (j : Int) ∧ x = .int .u32 (z : Int) ∧ Hid (Skiff.stepByte y c.toNat = Skiff.stepN (8 - j) z)) (fun _ i => 8 - (intOf i).toNat)
      case atStart => exact ⟨0, y ^^^ c.toNat, by omega, hxl, rfl, by rw [HX.out], H0⟩
      case round =>
        obtain ⟨j, z, hj, hz, rfl, rfl, G⟩ := hrel
        by_cases hjt : j < 8
        · have hb8 : 8 - j = (8 - (j + 1)) + 1 := by omega
          have G2 : Hid (Skiff.stepByte y c.toNat = Skiff.stepN (8 - (j + 1)) (Skiff.stepBit z)) := by
            have := G.out; rw [hb8] at this; exact this
          have hl : Skiff.stepBit z < 4294967296 := Skiff.stepBit_lt hz
          clear G hb8 hcc
          rcases Nat.mod_two_eq_zero_or_one z with h2 | h2
          · have e : Skiff.stepBit z = z / 2 := by unfold Skiff.stepBit; rw [if_neg (by omega)]
            have hbit : (bits .and .u32 (z : Int) 1 == 1) = false := by
              have e1 : (1 : Int) = ((1 : Nat) : Int) := rfl
              rw [e1, u32_and_nat z 1 hz (by decide), nat_mask1, h2]; rfl
            have hh := crc_half z
            rw [e] at G2 hl
            have HH := Lib.hid hh
            clear e h2 hh
            go_wp2
            go_round
            case rel => exact ⟨j + 1, z / 2, by omega, hl, by go_num, by rw [HH.out], G2⟩
            case measure => simp [intOf]; omega
          · have e : Skiff.stepBit z = (z / 2) ^^^ 3988292384 := by unfold Skiff.stepBit; rw [if_pos h2]
            have hbit : (bits .and .u32 (z : Int) 1 == 1) = true := by
              have e1 : (1 : Int) = ((1 : Nat) : Int) := rfl
              rw [e1, u32_and_nat z 1 hz (by decide), nat_mask1, h2]; rfl
            have hh := crc_poly hz
            rw [e] at G2 hl
            have HH := Lib.hid hh
            clear e h2 hh
            go_wp2
            go_round
            case rel => exact ⟨j + 1, (z / 2) ^^^ 3988292384, by omega, hl, by go_num, by rw [HH.out], G2⟩
            case measure => simp [intOf]; omega
        · obtain rfl : j = 8 := by omega
          clear hcc
          go_wp2
          go_round
          case rel => exact ⟨k + 1, z, by omega, hz, by go_num, rfl, by have h1 := H2.out; rw [G.out] at h1; exact h1⟩
          case measure => simp [intOf]; omega
    · obtain rfl : k = s.size := by omega
      have hn := crc_not hy
      obtain ⟨z, hz, hzl⟩ : ∃ z : Nat, 4294967295 - y = z ∧ z < 4294967296 := ⟨_, rfl, by omega⟩
      rw [hz] at hn
      have hn2 : bits .xor .u32 IntKind.u32.max (y : Int) = (z : Int) := hn
      have HZ := Lib.hid hz
      clear hn hz
      go_wp2
      go_ret
      have h1 := H.out
      rw [List.drop_of_length_le (by simp)] at h1
      have h2 : Skiff.crcState y [] = y := rfl
      rw [h2] at h1
      refine ⟨?_, rfl⟩
      unfold Skiff.crcSum
      rw [h1, HZ.out]
      have hw : wrap64 (z : Int) = z := by unfold wrap64; omega
      show Ending.returned (.int .i64 (wrap64 (z : Int))) = _
      rw [hw]

end Go.Proofs.YthkpaoajfiapkaaGreat
set_option linter.unusedVariables false
set_option linter.unusedSimpArgs false
set_option maxHeartbeats 4000000
namespace Skiff
def sums (s : ByteArray) : Option Int := if s.size ≤ 4611686018427387904 then some ((crcSum (bl s) : Nat) : Int) else none
end Skiff
namespace Go.Proofs.YthkpaoajfiapkaaGreat
open Go.RowKit Skiff

theorem g_crc_Sum (a0 : ByteArray) (r : Int) (w : World) (h : sums a0 = some r) :
    Calls Tryz.prog 87 #[.string a0] w fun e w' => e = .returned (.int .i64 r) ∧ Below w.heap.size w w' := by
  unfold sums at h
  split at h
  · rename_i hs
    obtain rfl := Option.some.inj h
    exact sum_calls a0 w hs
  · cases h
theorem g_skiffref1_Crc (a0 : ByteArray) (r : Int) (w : World) (h : sums a0 = some r) :
    Calls Tryz.prog 73 #[.string a0] w fun e w' => e = .returned (.int .i64 r) ∧ Below w.heap.size w w' := by
  unfold sums at h
  split at h
  · rename_i hs
    obtain rfl := Option.some.inj h
    refine (ref_crc_calls a0 w hs).mono ?_
    rintro e w' ⟨he, rfl⟩
    exact ⟨he, Below.refl _ _⟩
  · cases h

end Go.Proofs.YthkpaoajfiapkaaGreat
set_option linter.unusedVariables false
set_option linter.unusedSimpArgs false
set_option maxHeartbeats 4000000
namespace Go.Proofs.YthkpaoajfiapkaaGreat
open Go.RowKit Skiff

def recV (r : Rec) : Value := .agg #[.int .i64 r.seq, .int .i64 r.slot, .int .i64 r.size, .int .i64 r.sum]

theorem in_calls (x a b : Int) (w : World) :
    Calls Tryz.prog 59 #[.int .i64 x, .int .i64 a, .int .i64 b] w fun e w' => e = .returned (.bool (within x a b)) ∧ w = w' := by
  have hw : Hid (within x a b = (decide (a ≤ x) && decide (x ≤ b))) := rfl
  by_cases h : a ≤ x
  · have h1 : decide (a ≤ x) = true := by simpa using h
    go_enter Tryz.func59, Tryz.ntmps59
    go_wp2
    go_ret
    exact ⟨by rw [hw.out, h1]; rfl, rfl⟩
  · have h1 : decide (a ≤ x) = false := by simpa using h
    go_enter Tryz.func59, Tryz.ntmps59
    go_wp2
    go_ret
    exact ⟨by rw [hw.out, h1]; rfl, rfl⟩

theorem size_calls (x : Int) (w : World) :
    Calls Tryz.prog 42 #[.int .i64 x] w fun e w' => e = .returned (.bool (within x 1 288)) ∧ w = w' := by
  go_enter Tryz.func42, Tryz.ntmps42
  go_wp2_with fail
  refine (in_calls _ _ _ _).mono ?_
  rintro e w1 ⟨rfl, rfl⟩
  go_wp2
  go_ret
  exact ⟨rfl, rfl⟩

theorem slot_calls (x : Int) (w : World) :
    Calls Tryz.prog 43 #[.int .i64 x] w fun e w' => e = .returned (.bool (within x 0 1)) ∧ w = w' := by
  go_enter Tryz.func43, Tryz.ntmps43
  go_wp2_with fail
  refine (in_calls _ _ _ _).mono ?_
  rintro e w1 ⟨rfl, rfl⟩
  go_wp2
  go_ret
  exact ⟨rfl, rfl⟩

theorem may_calls (r : Rec) (w : World) :
    Calls Tryz.prog 97 #[recV r] w fun e w' => e = .returned (.bool (recMay r)) ∧ Ext w w' := by
  unfold recV
  have hm : Hid (recMay r = (within r.seq 1 1048576 && within r.slot 0 1 && within r.size 1 288 && within r.sum 0 4294967295)) := rfl
  cases h1 : within r.seq 1 1048576
  · go_enter Tryz.func97, Tryz.ntmps97
    go_wp2_with fail
    refine (in_calls _ _ _ _).mono ?_
    rintro e w1 ⟨rfl, rfl⟩
    go_wp2
    go_ret
    exact ⟨by rw [hm.out, h1]; rfl, (by repeat (first | (with_reducible exact Ext.refl _) | (with_reducible assumption) | (with_reducible refine Ext.drewN ?_ _) | (with_reducible refine Ext.drew ?_) | (with_reducible refine Ext.alloc ?_ _) | (with_reducible refine Ext.setCell ?_ (by first | exact Nat.le_refl _ | (simp <;> omega)) _) | (with_reducible refine Ext.trans ?_ (by with_reducible assumption))))⟩
  cases h2 : within r.slot 0 1
  · go_enter Tryz.func97, Tryz.ntmps97
    go_wp2_with fail
    refine (in_calls _ _ _ _).mono ?_
    rintro e w2 ⟨rfl, rfl⟩
    go_wp2_with fail
    refine (slot_calls _ _).mono ?_
    rintro e w3 ⟨rfl, rfl⟩
    go_wp2
    go_ret
    exact ⟨by rw [hm.out, h1, h2]; rfl, (by repeat (first | (with_reducible exact Ext.refl _) | (with_reducible assumption) | (with_reducible refine Ext.drewN ?_ _) | (with_reducible refine Ext.drew ?_) | (with_reducible refine Ext.alloc ?_ _) | (with_reducible refine Ext.setCell ?_ (by first | exact Nat.le_refl _ | (simp <;> omega)) _) | (with_reducible refine Ext.trans ?_ (by with_reducible assumption))))⟩
  cases h3 : within r.size 1 288
  · go_enter Tryz.func97, Tryz.ntmps97
    go_wp2_with fail
    refine (in_calls _ _ _ _).mono ?_
    rintro e w4 ⟨rfl, rfl⟩
    go_wp2_with fail
    refine (slot_calls _ _).mono ?_
    rintro e w5 ⟨rfl, rfl⟩
    go_wp2_with fail
    refine (size_calls _ _).mono ?_
    rintro e w6 ⟨rfl, rfl⟩
    go_wp2
    go_ret
    exact ⟨by rw [hm.out, h1, h2, h3]; rfl, (by repeat (first | (with_reducible exact Ext.refl _) | (with_reducible assumption) | (with_reducible refine Ext.drewN ?_ _) | (with_reducible refine Ext.drew ?_) | (with_reducible refine Ext.alloc ?_ _) | (with_reducible refine Ext.setCell ?_ (by first | exact Nat.le_refl _ | (simp <;> omega)) _) | (with_reducible refine Ext.trans ?_ (by with_reducible assumption))))⟩
  · go_enter Tryz.func97, Tryz.ntmps97
    go_wp2_with fail
    refine (in_calls _ _ _ _).mono ?_
    rintro e w7 ⟨rfl, rfl⟩
    go_wp2_with fail
    refine (slot_calls _ _).mono ?_
    rintro e w8 ⟨rfl, rfl⟩
    go_wp2_with fail
    refine (size_calls _ _).mono ?_
    rintro e w9 ⟨rfl, rfl⟩
    go_wp2_with fail
    refine (in_calls _ _ _ _).mono ?_
    rintro e w10 ⟨rfl, rfl⟩
    go_wp2
    go_ret
    exact ⟨by rw [hm.out, h1, h2, h3]; rfl, (by repeat (first | (with_reducible exact Ext.refl _) | (with_reducible assumption) | (with_reducible refine Ext.drewN ?_ _) | (with_reducible refine Ext.drew ?_) | (with_reducible refine Ext.alloc ?_ _) | (with_reducible refine Ext.setCell ?_ (by first | exact Nat.le_refl _ | (simp <;> omega)) _) | (with_reducible refine Ext.trans ?_ (by with_reducible assumption))))⟩

theorem or_byte (n : Nat) (b : UInt8) (h : n < 2 ^ 48) : bits .or .i64 ((n : Int) * 256) (b.toNat : Int) = ((b.toNat + 256 * n : Nat) : Int) := by
  have hb := b.toNat_lt
  rw [bits_join .i64 62 (by decide) (fun m h0 h1 => IntWalk.i64_in m (by omega)) 8 ((n : Int) * 256) (b.toNat : Int) (by omega) (by omega) (by omega) (by omega) (by omega) (by omega)]
  omega

theorem num_calls' (s : ByteArray) (hs : s.size ≤ 6) (w : World) :
    Calls Tryz.prog 96 #[.string s] w fun e w' => e = .returned (.int .i64 (num (bl s) : Nat)) ∧ w = w' := by
  have hl : (bl s).length = s.size := bl_length s
  go_enter Tryz.func96, Tryz.ntmps96
  go_wp2
  go_loop [3, 4] (fun o i => ∃ (j m : Nat), j ≤ s.size ∧ i = .int .i64 ((j : Int) - 1) ∧ o = .int .i64 (m : Int) ∧ Hid (m = num ((bl s).drop j))) (fun _ i => (intOf i + 1).toNat)
  case atStart => exact ⟨s.size, 0, by omega, by go_num, rfl, by show 0 = _; rw [List.drop_of_length_le (by omega)]; rfl⟩
  case round =>
    obtain ⟨j, m, hj, rfl, rfl, hm⟩ := hrel
    rcases j with _ | j
    · go_wp2
      go_ret
      exact ⟨by rw [hm.out]; rfl, rfl⟩
    · have hd : (bl s).drop j = s[j] :: (bl s).drop (j + 1) := by
        rw [List.drop_eq_getElem_cons (by omega)]; rfl
      have hlt : m < 2 ^ 48 := by
        have h1 := num_lt ((bl s).drop (j + 1))
        rw [← hm.out] at h1
        have h2 : 256 ^ ((bl s).drop (j + 1)).length ≤ 256 ^ 6 := Nat.pow_le_pow_right (by decide) (by simp; omega)
        omega
      have hor := or_byte m s[j] hlt
      have hb : s[j].toNat < 256 := s[j].toNat_lt
      have hm2 : Hid (s[j].toNat + 256 * m = num ((bl s).drop j)) := by
        show _ = _
        rw [hd, hm.out]; rfl
      have h0 : (0 : Int) ≤ ((j + 1 : Nat) : Int) - 1 := by omega
      clear hd hm
      go_wp2
      go_round
      case rel => exact ⟨j, _, by omega, by go_num, rfl, hm2⟩
      case measure => simp [intOf] <;> omega

theorem u8_not (b : UInt8) : bits .xor .u8 IntKind.u8.max (b.toNat : Int) = ((~~~ b).toNat : Int) := by
  have e : IntKind.u8.max = ((255 : Nat) : Int) := rfl
  have hb := b.toNat_lt
  rw [e, u8_xor_nat 255 b.toNat (by decide) hb]
  congr 1

theorem compl_calls (s : ByteArray) (hs : s.size ≤ 1000) (w : World) :
    Calls Tryz.prog 95 #[.string s] w fun e w' => e = .returned (.string (mk (compl (bl s)))) ∧ Ext w w' := by
  have kc := fun (w : World) => Lib.run_convert_string_bytes (P := Tryz.prog) w 9 78 5 s Tryz.underlying9 Tryz.underlying78 Tryz.underlying5
  go_enter Tryz.func95, Tryz.ntmps95
  go_wp2
  have hR := RowB.bytes w 5 s
  have hE := Ext.bytes w 5 s
  go_loopw [9] (fun i wr => ∃ j : Nat, j ≤ s.size ∧ i = .int .i64 (j : Int) ∧ RowB wr w.heap.size (compl ((bl s).take j) ++ (bl s).drop j) ∧ Ext w wr) (fun i _ => s.size - (intOf i).toNat)
  case atStart => exact ⟨0, by omega, rfl, hR, hE⟩
  case round =>
    clear hR hE
    obtain ⟨j, hj, rfl, hR, hE⟩ := hrel
    have hl : (bl s).length = s.size := bl_length s
    have hll : (compl ((bl s).take j) ++ (bl s).drop j).length = s.size := by simp; omega
    by_cases hlt : j < s.size
    · have hcell := hR.cellD (i := j) (by omega)
      have hfree := hR.free (i := j) (by omega)
      rw [compl_at (bl s) j (by omega)] at hcell
      have hset := compl_set (bl s) j (by omega)
      generalize (bl s)[j] = c at hcell hset
      have hn := u8_not c
      have HS := Lib.hid hset
      clear hset
      go_wp2
      go_roundw
      case rel => exact ⟨j + 1, by omega, by go_num, by rw [← HS.out]; have h1 := hR.set j (~~~ c); rw [← hn] at h1; exact h1, hE.setCell (Nat.le_refl _) _⟩
      case measure => simp [intOf]; omega
    · obtain rfl : j = s.size := by omega
      have hr := hR.string (P := Tryz.prog) 78 5 9 Tryz.underlying78 Tryz.underlying5 Tryz.underlying9 (grownCap w s.size 0 5)
      rw [hll] at hr
      have hfin : compl ((bl s).take s.size) ++ (bl s).drop s.size = compl (bl s) := by
        rw [List.take_of_length_le (by omega), List.drop_of_length_le (by omega), List.append_nil]
      rw [hfin] at hr
      go_wp2
      go_ret
      exact ⟨rfl, hE⟩

end Go.Proofs.YthkpaoajfiapkaaGreat
set_option linter.unusedVariables false
set_option linter.unusedSimpArgs false
set_option maxHeartbeats 4000000
namespace Go.Proofs.YthkpaoajfiapkaaGreat
open Go.RowKit Skiff

def getRes (l : List UInt8) : Value := match Skiff.get l with
  | some r => .tuple #[recV r, .int .i64 0]
  | none => .tuple #[recV Rec.zero, .int .i64 400]
theorem getRes_some {l : List UInt8} {r : Rec} (h : Skiff.get l = some r) : getRes l = .tuple #[recV r, .int .i64 0] := by unfold getRes; rw [h]
theorem getRes_none {l : List UInt8} (h : Skiff.get l = none) : getRes l = .tuple #[recV Rec.zero, .int .i64 400] := by unfold getRes; rw [h]

theorem get_calls (s : ByteArray) (w : World) :
    Calls Tryz.prog 83 #[.string s] w fun e w' => e = .returned (getRes (bl s)) ∧ Ext w w' := by
  have hl : (bl s).length = s.size := bl_length s
  by_cases h24 : s.size = 24
  · have hn : ((s.size : Int) != 24) = false := by rw [h24]; rfl
    have hX : bl (s.extract 0 12) = (bl s).take 12 := by rw [bl_extract]; simp
    have hY : bl (s.extract 12 24) = (bl s).drop 12 := by rw [bl_extract, List.take_of_length_le (by simp; omega)]
    have C := Lib.hid (fun w => compl_calls (s.extract 0 12) (by rw [← bl_length, hX]; simp; omega) w)
    rw [hX] at C
    by_cases hc : compl ((bl s).take 12) = (bl s).drop 12
    · have htest : (!(mk (compl (List.take 12 (bl s)))).toList == (s.extract 12 24).toList) = false := by
        rw [beq_bl, bl_mk, hY]; simp [hc]
      obtain ⟨r, hr⟩ : ∃ r, told (bl s) = r := ⟨_, rfl⟩
      have n1 : ((num (bl (s.extract 0 4)) : Nat) : Int) = r.seq := by rw [← hr, bl_extract]; rfl
      have n2 : ((num (bl (s.extract 4 6)) : Nat) : Int) = r.slot := by rw [← hr, bl_extract]; rfl
      have n3 : ((num (bl (s.extract 6 8)) : Nat) : Int) = r.size := by rw [← hr, bl_extract]; rfl
      have n4 : ((num (bl (s.extract 8 12)) : Nat) : Int) = r.sum := by rw [← hr, bl_extract]; rfl
      have N1 := Lib.hid (fun w => num_calls' (s.extract 0 4) (by simp; omega) w)
      have N2 := Lib.hid (fun w => num_calls' (s.extract 4 6) (by simp; omega) w)
      have N3 := Lib.hid (fun w => num_calls' (s.extract 6 8) (by simp; omega) w)
      have N4 := Lib.hid (fun w => num_calls' (s.extract 8 12) (by simp; omega) w)
      rw [n1] at N1
      rw [n2] at N2
      rw [n3] at N3
      rw [n4] at N4
      have M := Lib.hid (fun w => may_calls r w)
      unfold recV at M
      have HG : Hid (getRes (bl s) = if recMay r = true then .tuple #[recV r, .int .i64 0] else .tuple #[recV Rec.zero, .int .i64 400]) := by
        show _ = _
        unfold getRes Skiff.get
        rw [hr]
        cases hm : recMay r
        · rw [if_neg (by simp)]; rfl
        · rw [if_pos ⟨by omega, hc, rfl⟩]; rfl
      clear n1 n2 n3 n4 hX hY hr hc
      generalize recMay r = b at *
      go_enter Tryz.func83, Tryz.ntmps83
      go_wp2
      go_region_held3 (fun w' => Ext (w.alloc (.cells #[.int .i64 0, .int .i64 0, .int .i64 0, .int .i64 0] 66)) w') ( repeat (first | (with_reducible exact Ext.refl _) | (with_reducible assumption) | (with_reducible refine Ext.drewN ?_ _) | (with_reducible refine Ext.drew ?_) | (with_reducible refine Ext.alloc ?_ _) | (with_reducible refine Ext.setCell ?_ (by first | exact Nat.le_refl _ | (simp <;> omega)) _) | (with_reducible refine Ext.trans ?_ (by with_reducible assumption)))) (first | (go_at_call 95; (with_reducible refine (C.out _).mono ?_); rintro e w' ⟨rfl, B⟩))
      have hE : Ext (w.alloc (.cells #[.int .i64 0, .int .i64 0, .int .i64 0, .int .i64 0] 66)) w' := by assumption
      go_wp2_with fail
      go_region_held3 (fun w1 => Ext w' w1) ( repeat (first | (with_reducible exact Ext.refl _) | (with_reducible assumption) | (with_reducible refine Ext.drewN ?_ _) | (with_reducible refine Ext.drew ?_) | (with_reducible refine Ext.alloc ?_ _) | (with_reducible refine Ext.setCell ?_ (by first | exact Nat.le_refl _ | (simp <;> omega)) _) | (with_reducible refine Ext.trans ?_ (by with_reducible assumption)))) (first | (go_at_call 96; first | ((with_reducible refine (N1.out _).mono ?_); rintro e w2 ⟨rfl, rfl⟩) | ((with_reducible refine (N2.out _).mono ?_); rintro e w2 ⟨rfl, rfl⟩) | ((with_reducible refine (N3.out _).mono ?_); rintro e w2 ⟨rfl, rfl⟩) | ((with_reducible refine (N4.out _).mono ?_); rintro e w2 ⟨rfl, rfl⟩)))
      all_goals
        go_wp2_with fail
        refine (M.out _).mono ?_
        rintro e w3 ⟨rfl, B3⟩
        have hE3 : Ext (w.alloc (.cells #[.int .i64 0, .int .i64 0, .int .i64 0, .int .i64 0] 66)) w3 := (by repeat (first | (with_reducible exact Ext.refl _) | (with_reducible assumption) | (with_reducible refine Ext.drewN ?_ _) | (with_reducible refine Ext.drew ?_) | (with_reducible refine Ext.alloc ?_ _) | (with_reducible refine Ext.setCell ?_ (by first | exact Nat.le_refl _ | (simp <;> omega)) _) | (with_reducible refine Ext.trans ?_ (by with_reducible assumption))))
        have k0_w3 : w3.cell? ⟨w'.heap.size, 0, none⟩ = some (.int .i64 r.seq) := Ext.cell B3 (by simp)
        have k1_w3 : w3.cell? ⟨w'.heap.size, 1, none⟩ = some (.int .i64 r.slot) := Ext.cell B3 (by simp)
        have k2_w3 : w3.cell? ⟨w'.heap.size, 2, none⟩ = some (.int .i64 r.size) := Ext.cell B3 (by simp)
        have k3_w3 : w3.cell? ⟨w'.heap.size, 3, none⟩ = some (.int .i64 r.sum) := Ext.cell B3 (by simp)
        have f_w3 : ∀ i, w3.frozen? ⟨w'.heap.size, i, none⟩ = false := fun i => Ext.free B3 (by first | (simp; done) | (simp; omega)) (by first | (simp; done) | (simp; omega))
        have m0 : w3.cell? ⟨w.heap.size, 0, none⟩ = some (.int .i64 0) := Ext.cell hE3 (by simp)
        have m1 : w3.cell? ⟨w.heap.size, 1, none⟩ = some (.int .i64 0) := Ext.cell hE3 (by simp)
        have m2 : w3.cell? ⟨w.heap.size, 2, none⟩ = some (.int .i64 0) := Ext.cell hE3 (by simp)
        have m3 : w3.cell? ⟨w.heap.size, 3, none⟩ = some (.int .i64 0) := Ext.cell hE3 (by simp)
        have mf : ∀ i, w3.frozen? ⟨w.heap.size, i, none⟩ = false := fun i => Ext.free hE3 (by simp) (by simp)
        cases b
        · go_wp2
          refine bodyPost_ret (v := .tuple #[recV Rec.zero, .int .i64 400]) ?_ rfl ?_
          · simp [results, Tryz.results83, go_sem, recV, Rec.zero, m0, m1, m2, m3]
          · exact ⟨congrArg Ending.returned HG.out.symm, (by repeat (first | (with_reducible exact Ext.refl _) | (with_reducible assumption) | (with_reducible refine Ext.drewN ?_ _) | (with_reducible refine Ext.drew ?_) | (with_reducible refine Ext.alloc ?_ _) | (with_reducible refine Ext.setCell ?_ (by first | exact Nat.le_refl _ | (simp <;> omega)) _) | (with_reducible refine Ext.trans ?_ (by with_reducible assumption))))⟩
        · go_wp2
          refine bodyPost_ret (v := .tuple #[recV r, .int .i64 0]) ?_ rfl ?_
          · simp [results, Tryz.results83, go_sem, recV, m0, m1, m2, m3]
          · exact ⟨congrArg Ending.returned HG.out.symm, (by repeat (first | (with_reducible exact Ext.refl _) | (with_reducible assumption) | (with_reducible refine Ext.drewN ?_ _) | (with_reducible refine Ext.drew ?_) | (with_reducible refine Ext.alloc ?_ _) | (with_reducible refine Ext.setCell ?_ (by first | exact Nat.le_refl _ | (simp <;> omega)) _) | (with_reducible refine Ext.trans ?_ (by with_reducible assumption))))⟩
    · have hg : Skiff.get (bl s) = none := by
        unfold Skiff.get
        rw [if_neg]
        intro h
        exact hc h.2.1
      have htest : (!(mk (compl (List.take 12 (bl s)))).toList == (s.extract 12 24).toList) = true := by
        rw [beq_bl, bl_mk, hY]; simp [hc]
      have HG := Lib.hid (getRes_none hg)
      clear hg hX hY hc
      go_enter Tryz.func83, Tryz.ntmps83
      go_wp2
      go_region_held3 (fun w' => Ext (w.alloc (.cells #[.int .i64 0, .int .i64 0, .int .i64 0, .int .i64 0] 66)) w') ( repeat (first | (with_reducible exact Ext.refl _) | (with_reducible assumption) | (with_reducible refine Ext.drewN ?_ _) | (with_reducible refine Ext.drew ?_) | (with_reducible refine Ext.alloc ?_ _) | (with_reducible refine Ext.setCell ?_ (by first | exact Nat.le_refl _ | (simp <;> omega)) _) | (with_reducible refine Ext.trans ?_ (by with_reducible assumption)))) (first | (go_at_call 95; (with_reducible refine (C.out _).mono ?_); rintro e w' ⟨rfl, B⟩))
      have hE : Ext (w.alloc (.cells #[.int .i64 0, .int .i64 0, .int .i64 0, .int .i64 0] 66)) w' := by assumption
      have k0_w' : w'.cell? ⟨w.heap.size, 0, none⟩ = some (.int .i64 0) := Ext.cell hE (by simp)
      have k1_w' : w'.cell? ⟨w.heap.size, 1, none⟩ = some (.int .i64 0) := Ext.cell hE (by simp)
      have k2_w' : w'.cell? ⟨w.heap.size, 2, none⟩ = some (.int .i64 0) := Ext.cell hE (by simp)
      have k3_w' : w'.cell? ⟨w.heap.size, 3, none⟩ = some (.int .i64 0) := Ext.cell hE (by simp)
      have f_w' : ∀ i, w'.frozen? ⟨w.heap.size, i, none⟩ = false := fun i => Ext.free hE (by first | (simp; done) | (simp; omega)) (by first | (simp; done) | (simp; omega))
      go_wp2
      refine bodyPost_ret (v := .tuple #[recV Rec.zero, .int .i64 400]) ?_ rfl ?_
      · simp [results, Tryz.results83, go_sem, recV, Rec.zero, k0_w', k1_w', k2_w', k3_w']
      · exact ⟨congrArg Ending.returned HG.out.symm, (by repeat (first | (with_reducible exact Ext.refl _) | (with_reducible assumption) | (with_reducible refine Ext.drewN ?_ _) | (with_reducible refine Ext.drew ?_) | (with_reducible refine Ext.alloc ?_ _) | (with_reducible refine Ext.setCell ?_ (by first | exact Nat.le_refl _ | (simp <;> omega)) _) | (with_reducible refine Ext.trans ?_ (by with_reducible assumption))))⟩
  · have hg : Skiff.get (bl s) = none := by
      unfold Skiff.get
      rw [if_neg]
      intro h
      exact h24 (by omega)
    have hn : ((s.size : Int) != 24) = true := by rw [bne_iff_ne]; omega
    have HG := Lib.hid (getRes_none hg)
    clear hg
    go_enter Tryz.func83, Tryz.ntmps83
    go_wp2
    go_quiet (fail)
    go_wp2
    refine bodyPost_ret (v := .tuple #[recV Rec.zero, .int .i64 400]) ?_ rfl ?_
    · simp [results, Tryz.results83, go_sem, recV, Rec.zero]
    · exact ⟨congrArg Ending.returned HG.out.symm, (by repeat (first | (with_reducible exact Ext.refl _) | (with_reducible assumption) | (with_reducible refine Ext.drewN ?_ _) | (with_reducible refine Ext.drew ?_) | (with_reducible refine Ext.alloc ?_ _) | (with_reducible refine Ext.setCell ?_ (by first | exact Nat.le_refl _ | (simp <;> omega)) _) | (with_reducible refine Ext.trans ?_ (by with_reducible assumption))))⟩

end Go.Proofs.YthkpaoajfiapkaaGreat
set_option linter.unusedVariables false
set_option linter.unusedSimpArgs false
set_option maxHeartbeats 4000000
namespace Go.Proofs.YthkpaoajfiapkaaGreat
open Go.RowKit Skiff

theorem recordMay_calls (r : Rec) (w : World) :
    Calls Tryz.prog 82 #[recV r] w fun e w' => e = .returned (.bool (recMay r)) ∧ Ext w w' := by
  unfold recV
  have hm : Hid (recMay r = (within r.seq 1 1048576 && within r.slot 0 1 && within r.size 1 288 && within r.sum 0 4294967295)) := rfl
  cases h1 : within r.seq 1 1048576
  · go_enter Tryz.func82, Tryz.ntmps82
    go_wp2_with fail
    refine (upTo_calls _ _ _ _).mono ?_
    rintro e w1 ⟨rfl, rfl⟩
    go_wp2
    go_ret
    exact ⟨by rw [hm.out, h1]; rfl, (by repeat (first | (with_reducible exact Ext.refl _) | (with_reducible assumption) | (with_reducible refine Ext.drewN ?_ _) | (with_reducible refine Ext.drew ?_) | (with_reducible refine Ext.alloc ?_ _) | (with_reducible refine Ext.setCell ?_ (by first | exact Nat.le_refl _ | (simp <;> omega)) _) | (with_reducible refine Ext.trans ?_ (by with_reducible assumption))))⟩
  cases h2 : within r.slot 0 1
  · go_enter Tryz.func82, Tryz.ntmps82
    go_wp2_with fail
    refine (upTo_calls _ _ _ _).mono ?_
    rintro e w2 ⟨rfl, rfl⟩
    go_wp2_with fail
    refine (upTo_calls _ _ _ _).mono ?_
    rintro e w3 ⟨rfl, rfl⟩
    go_wp2
    go_ret
    exact ⟨by rw [hm.out, h1, h2]; rfl, (by repeat (first | (with_reducible exact Ext.refl _) | (with_reducible assumption) | (with_reducible refine Ext.drewN ?_ _) | (with_reducible refine Ext.drew ?_) | (with_reducible refine Ext.alloc ?_ _) | (with_reducible refine Ext.setCell ?_ (by first | exact Nat.le_refl _ | (simp <;> omega)) _) | (with_reducible refine Ext.trans ?_ (by with_reducible assumption))))⟩
  cases h3 : within r.size 1 288
  · go_enter Tryz.func82, Tryz.ntmps82
    go_wp2_with fail
    refine (upTo_calls _ _ _ _).mono ?_
    rintro e w4 ⟨rfl, rfl⟩
    go_wp2_with fail
    refine (upTo_calls _ _ _ _).mono ?_
    rintro e w5 ⟨rfl, rfl⟩
    go_wp2_with fail
    refine (upTo_calls _ _ _ _).mono ?_
    rintro e w6 ⟨rfl, rfl⟩
    go_wp2
    go_ret
    exact ⟨by rw [hm.out, h1, h2, h3]; rfl, (by repeat (first | (with_reducible exact Ext.refl _) | (with_reducible assumption) | (with_reducible refine Ext.drewN ?_ _) | (with_reducible refine Ext.drew ?_) | (with_reducible refine Ext.alloc ?_ _) | (with_reducible refine Ext.setCell ?_ (by first | exact Nat.le_refl _ | (simp <;> omega)) _) | (with_reducible refine Ext.trans ?_ (by with_reducible assumption))))⟩
  · go_enter Tryz.func82, Tryz.ntmps82
    go_wp2_with fail
    refine (upTo_calls _ _ _ _).mono ?_
    rintro e w7 ⟨rfl, rfl⟩
    go_wp2_with fail
    refine (upTo_calls _ _ _ _).mono ?_
    rintro e w8 ⟨rfl, rfl⟩
    go_wp2_with fail
    refine (upTo_calls _ _ _ _).mono ?_
    rintro e w9 ⟨rfl, rfl⟩
    go_wp2_with fail
    refine (upTo_calls _ _ _ _).mono ?_
    rintro e w10 ⟨rfl, rfl⟩
    go_wp2
    go_ret
    exact ⟨by rw [hm.out, h1, h2, h3]; rfl, (by repeat (first | (with_reducible exact Ext.refl _) | (with_reducible assumption) | (with_reducible refine Ext.drewN ?_ _) | (with_reducible refine Ext.drew ?_) | (with_reducible refine Ext.alloc ?_ _) | (with_reducible refine Ext.setCell ?_ (by first | exact Nat.le_refl _ | (simp <;> omega)) _) | (with_reducible refine Ext.trans ?_ (by with_reducible assumption))))⟩

theorem rlow_calls (x : Int) (k : Nat) (hk : k ≤ 4) (w : World) :
    Calls Tryz.prog 94 #[.int .i64 x, .int .i64 (k : Int)] w fun e w' => e = .returned (.string (mk (low x k))) ∧ Ext w w' := by
  have hmk := fun w => made_u8 k (by omega) w
  go_enter Tryz.func94, Tryz.ntmps94
  go_wp2
  go_loopw [6] (fun i wr => ∃ j : Nat, j ≤ k ∧ i = .int .i64 (j : Int) ∧ RowB wr w.heap.size (low x j ++ List.replicate (k - j) 0) ∧ Ext w wr) (fun i _ => k - (intOf i).toNat)
  case atStart => exact ⟨0, by omega, rfl, RowB.made _ _ _, (Ext.refl _).alloc _⟩
  case round =>
    obtain ⟨j, hj, rfl, hR, hE⟩ := hrel
    have hll : (low x j ++ List.replicate (k - j) (0 : UInt8)).length = k := by simp; omega
    by_cases hlt : j < k
    · have hcell := hR.cellD (i := j) (by omega)
      have hfree := hR.free (i := j) (by omega)
      obtain ⟨m, hm⟩ : ∃ m, k - j = m + 1 := ⟨k - j - 1, by omega⟩
      have hm2 : k - (j + 1) = m := by omega
      have hpow : (2 : Int) ^ (8 * j) = 256 ^ j := by rw [Int.pow_mul]; rfl
      have hv := lowByte_toNat (x / 256 ^ j)
      rw [← hpow] at hv
      have HV := Lib.hid hv
      have HP := Lib.hid hpow
      have HM := Lib.hid hm
      have HM2 := Lib.hid hm2
      clear hv hpow hm hm2
      go_wp2
      go_roundw
      case rel => exact ⟨j + 1, by omega, by go_num, by have h1 := hR.set j (lowByte (x / 2 ^ (8 * j))); rw [HV.out, HM.out, HP.out, low_set] at h1; rw [HM2.out, HP.out]; exact h1, hE.setCell (Nat.le_refl _) _⟩
      case measure => simp [intOf] <;> omega
    · obtain rfl : j = k := by omega
      have hr := hR.string (P := Tryz.prog) 78 5 9 Tryz.underlying78 Tryz.underlying5 Tryz.underlying9 j
      have hfin : low x j ++ List.replicate (j - j) (0 : UInt8) = low x j := by simp
      rw [hll, hfin] at hr
      go_wp2
      go_ret
      exact ⟨rfl, hE⟩

theorem rlow4_calls (x : Int) (w : World) : Calls Tryz.prog 94 #[.int .i64 x, .int .i64 4] w fun e w' => e = .returned (.string (mk (low x 4))) ∧ Ext w w' := rlow_calls x 4 (by omega) w

theorem rlow2_calls (x : Int) (w : World) : Calls Tryz.prog 94 #[.int .i64 x, .int .i64 2] w fun e w' => e = .returned (.string (mk (low x 2))) ∧ Ext w w' := rlow_calls x 2 (by omega) w

theorem rlow1_calls (x : Int) (w : World) : Calls Tryz.prog 94 #[.int .i64 x, .int .i64 1] w fun e w' => e = .returned (.string (mk (low x 1))) ∧ Ext w w' := rlow_calls x 1 (by omega) w

theorem rof_calls (s : ByteArray) (hs : s.size ≤ 6) (w : World) :
    Calls Tryz.prog 80 #[.string s] w fun e w' => e = .returned (.int .i64 (num (bl s) : Nat)) ∧ w = w' := by
  have hl : (bl s).length = s.size := bl_length s
  go_enter Tryz.func80, Tryz.ntmps80
  go_wp2
  go_loop [3, 4] (fun o i => ∃ (j m : Nat), j ≤ s.size ∧ i = .int .i64 ((j : Int) - 1) ∧ o = .int .i64 (m : Int) ∧ Hid (m = num ((bl s).drop j))) (fun _ i => (intOf i + 1).toNat)
  case atStart => exact ⟨s.size, 0, by omega, by go_num, rfl, by show 0 = _; rw [List.drop_of_length_le (by omega)]; rfl⟩
  case round =>
    obtain ⟨j, m, hj, rfl, rfl, hm⟩ := hrel
    rcases j with _ | j
    · go_wp2
      go_ret
      exact ⟨by rw [hm.out]; rfl, rfl⟩
    · have hd : (bl s).drop j = s[j] :: (bl s).drop (j + 1) := by
        rw [List.drop_eq_getElem_cons (by omega)]; rfl
      have hlt : m < 2 ^ 48 := by
        have h1 := num_lt ((bl s).drop (j + 1))
        rw [← hm.out] at h1
        have h2 : 256 ^ ((bl s).drop (j + 1)).length ≤ 256 ^ 6 := Nat.pow_le_pow_right (by decide) (by simp; omega)
        omega
      have hor := or_byte m s[j] hlt
      have hb : s[j].toNat < 256 := s[j].toNat_lt
      have hm2 : Hid (s[j].toNat + 256 * m = num ((bl s).drop j)) := by
        show _ = _
        rw [hd, hm.out]; rfl
      have h0 : (0 : Int) ≤ ((j + 1 : Nat) : Int) - 1 := by omega
      clear hd hm
      go_wp2
      go_round
      case rel => exact ⟨j, _, by omega, by go_num, rfl, hm2⟩
      case measure => simp [intOf] <;> omega

theorem low_one (x : Int) (h0 : 0 ≤ x) (h1 : x ≤ 1) : low x 1 ++ low 0 1 = low x 2 := by
  have e : x / 256 = 0 := by omega
  simp [low, e]

theorem sub_byte (c : UInt8) : (255 - (c.toNat : Int)) = ((~~~ c).toNat : Int) := by
  have hc := c.toNat_lt
  rw [UInt8.toNat_not]
  simp only [UInt8.size]
  omega

theorem compl_take_succ (l : List UInt8) {j : Nat} (h : j < l.length) : compl (l.take (j + 1)) = compl (l.take j) ++ [~~~ l[j]] := by
  rw [List.take_succ_eq_append_getElem h]
  show List.map _ _ = List.map _ _ ++ _
  rw [List.map_append]; rfl

set_option maxRecDepth 20000 in
theorem rput_calls (r : Rec) (w : World) :
    Calls Tryz.prog 81 #[recV r] w fun e w' => e = .returned (if recMay r = true then .tuple #[.string (mk (put r)), .int .i64 0] else .tuple #[.string (mk []), .int .i64 400]) ∧ Ext w w' := by
  cases hm : recMay r
  · have M := Lib.hid (fun w => recordMay_calls r w)
    rw [hm] at M
    unfold recV at *
    go_enter Tryz.func81, Tryz.ntmps81
    go_wp2_with fail
    refine (M.out _).mono ?_
    rintro e w1 ⟨rfl, B1⟩
    go_wp2
    go_ret2
    exact ⟨rfl, (by repeat (first | (with_reducible exact Ext.refl _) | (with_reducible assumption) | (with_reducible refine Ext.drewN ?_ _) | (with_reducible refine Ext.drew ?_) | (with_reducible refine Ext.alloc ?_ _) | (with_reducible refine Ext.setCell ?_ (by first | exact Nat.le_refl _ | (simp <;> omega)) _) | (with_reducible refine Ext.trans ?_ (by with_reducible assumption))))⟩
  · have M := Lib.hid (fun w => recordMay_calls r w)
    rw [hm] at M
    obtain ⟨i0, hi, hz0, hz1, hz2⟩ := info_parts info_u8
    have hX : bl (mk (low r.seq 4) ++ mk (low r.slot 1) ++ mk (low 0 1) ++ mk (low r.size 2) ++ mk (low r.sum 4)) = half r := by
      have h := recMay_iff.1 hm
      simp only [bl_append, bl_mk, half, List.append_assoc]
      rw [← low_one r.slot (by omega) (by omega)]
      simp
    have kc := fun (w : World) => Lib.run_convert_string_bytes (P := Tryz.prog) w 9 78 5 (mk (low r.seq 4) ++ mk (low r.slot 1) ++ mk (low 0 1) ++ mk (low r.size 2) ++ mk (low r.sum 4)) Tryz.underlying9 Tryz.underlying78 Tryz.underlying5
    have HX := Lib.hid hX
    clear hX
    unfold recV at *
    go_enter Tryz.func81, Tryz.ntmps81
    go_wp2_with fail
    refine (M.out _).mono ?_
    rintro e w1 ⟨rfl, B1⟩
    have k0_w1 : w1.cell? ⟨w.heap.size, 0, none⟩ = some (.int .i64 r.seq) := Ext.cell B1 (by simp)
    have k1_w1 : w1.cell? ⟨w.heap.size, 1, none⟩ = some (.int .i64 r.slot) := Ext.cell B1 (by simp)
    have k2_w1 : w1.cell? ⟨w.heap.size, 2, none⟩ = some (.int .i64 r.size) := Ext.cell B1 (by simp)
    have k3_w1 : w1.cell? ⟨w.heap.size, 3, none⟩ = some (.int .i64 r.sum) := Ext.cell B1 (by simp)
    have f_w1 : ∀ i, w1.frozen? ⟨w.heap.size, i, none⟩ = false := fun i => Ext.free B1 (by first | (simp; done) | (simp; omega)) (by first | (simp; done) | (simp; omega))
    go_wp2
    refine wp_region_held_drew (S := fun w' => w'.cell? ⟨w.heap.size, 0, none⟩ = some (.int .i64 r.seq) ∧ w'.cell? ⟨w.heap.size, 1, none⟩ = some (.int .i64 r.slot) ∧ w'.cell? ⟨w.heap.size, 2, none⟩ = some (.int .i64 r.size) ∧ w'.cell? ⟨w.heap.size, 3, none⟩ = some (.int .i64 r.sum)) (by kernel_rfl) ?_ (fun hHeld => ?_)
    · go_keep
    refine wpAnyH_take (i := 0) (v := ?_) rfl (by kernel_rfl) (by kernel_rfl) (by kernel_rfl) (fun _ _ _ h => h) (Or.inl ⟨by rfl, ?_⟩) (by assumption) ?_
    rotate_left
    · (intro w hSw; (try dsimp only at hSw); go_simp; first | done | (with_reducible rfl))
    try simp only [Act.put, List.setIfInBounds_toArray, List.set_cons_zero, List.set_cons_succ]
    refine wpAnyH_take (i := 3) (v := ?_) rfl (by kernel_rfl) (by kernel_rfl) (by kernel_rfl) (fun _ _ _ h => h) (Or.inl ⟨by rfl, ?_⟩) (by assumption) ?_
    rotate_left
    · (intro w hSw; (try dsimp only at hSw); go_simp; first | done | (with_reducible rfl))
    try simp only [Act.put, List.setIfInBounds_toArray, List.set_cons_zero, List.set_cons_succ]
    refine wpAnyH_take (i := 9) (v := ?_) rfl (by kernel_rfl) (by kernel_rfl) (by kernel_rfl) (fun _ _ _ h => h) (Or.inl ⟨by rfl, ?_⟩) (by assumption) ?_
    rotate_left
    · (intro w hSw; (try dsimp only at hSw); go_simp; first | done | (with_reducible rfl))
    try simp only [Act.put, List.setIfInBounds_toArray, List.set_cons_zero, List.set_cons_succ]
    refine wpAnyH_take (i := 13) (v := ?_) rfl (by kernel_rfl) (by kernel_rfl) (by kernel_rfl) (fun _ _ _ h => h) (Or.inl ⟨by rfl, ?_⟩) (by assumption) ?_
    rotate_left
    · (intro w hSw; (try dsimp only at hSw); go_simp; first | done | (with_reducible rfl))
    try simp only [Act.put, List.setIfInBounds_toArray, List.set_cons_zero, List.set_cons_succ]
    refine wpAnyH_take (i := 1) (v := ?_) rfl (by kernel_rfl) (by kernel_rfl) (by kernel_rfl) (fun _ _ _ h => h) (Or.inl ⟨by rfl, ?_⟩) (by assumption) ?_
    rotate_left
    · (intro w hSw; (try dsimp only at hSw); go_simp; first | done | (with_reducible rfl))
    try simp only [Act.put, List.setIfInBounds_toArray, List.set_cons_zero, List.set_cons_succ]
    refine wpAnyH_take (i := 4) (v := ?_) rfl (by kernel_rfl) (by kernel_rfl) (by kernel_rfl) (fun _ _ _ h => h) (Or.inl ⟨by rfl, ?_⟩) (by assumption) ?_
    rotate_left
    · (intro w hSw; (try dsimp only at hSw); go_simp; first | done | (with_reducible rfl))
    try simp only [Act.put, List.setIfInBounds_toArray, List.set_cons_zero, List.set_cons_succ]
    refine wpAnyH_take (i := 10) (v := ?_) rfl (by kernel_rfl) (by kernel_rfl) (by kernel_rfl) (fun _ _ _ h => h) (Or.inl ⟨by rfl, ?_⟩) (by assumption) ?_
    rotate_left
    · (intro w hSw; (try dsimp only at hSw); go_simp; first | done | (with_reducible rfl))
    try simp only [Act.put, List.setIfInBounds_toArray, List.set_cons_zero, List.set_cons_succ]
    refine wpAnyH_take (i := 14) (v := ?_) rfl (by kernel_rfl) (by kernel_rfl) (by kernel_rfl) (fun _ _ _ h => h) (Or.inl ⟨by rfl, ?_⟩) (by assumption) ?_
    rotate_left
    · (intro w hSw; (try dsimp only at hSw); go_simp; first | done | (with_reducible rfl))
    try simp only [Act.put, List.setIfInBounds_toArray, List.set_cons_zero, List.set_cons_succ]
    refine wpAnyH_ready (rs := [2]) (by kernel_rfl) (by simp) ?_
    refine AllReadyH.cons rfl (fun K hK => ?_) AllReadyH.nil
    go_simp
    go_at_call 94
    refine (rlow4_calls _ _).mono ?_
    rintro e w2 ⟨rfl, B2⟩
    go_wp2_with fail
    refine hK.out _ _ ?_ (fun hHeld => ?_)
    · (go_split_ands; refine ⟨?_, ?_, ?_, ?_⟩ <;> exact Ext.cell B2 ‹_›)
    clear hK K
    try simp only [Act.put, List.setIfInBounds_toArray, List.set_cons_zero, List.set_cons_succ]
    refine wpAnyH_ready (rs := [5]) (by kernel_rfl) (by simp) ?_
    refine AllReadyH.cons rfl (fun K hK => ?_) AllReadyH.nil
    go_simp
    go_at_call 94
    refine (rlow1_calls _ _).mono ?_
    rintro e w3 ⟨rfl, B3⟩
    go_wp2_with fail
    refine hK.out _ _ ?_ (fun hHeld => ?_)
    · (go_split_ands; refine ⟨?_, ?_, ?_, ?_⟩ <;> exact Ext.cell B3 ‹_›)
    clear hK K
    try simp only [Act.put, List.setIfInBounds_toArray, List.set_cons_zero, List.set_cons_succ]
    refine wpAnyH_take (i := 6) (v := ?_) rfl (by kernel_rfl) (by kernel_rfl) (by kernel_rfl) (fun _ _ _ h => h) (Or.inl ⟨by rfl, ?_⟩) (by assumption) ?_
    rotate_left
    · (intro w hSw; (try dsimp only at hSw); go_simp; first | done | (with_reducible rfl))
    try simp only [Act.put, List.setIfInBounds_toArray, List.set_cons_zero, List.set_cons_succ]
    refine wpAnyH_ready (rs := [7]) (by kernel_rfl) (by simp) ?_
    refine AllReadyH.cons rfl (fun K hK => ?_) AllReadyH.nil
    go_simp
    go_at_call 94
    refine (rlow1_calls _ _).mono ?_
    rintro e w4 ⟨rfl, B4⟩
    go_wp2_with fail
    refine hK.out _ _ ?_ (fun hHeld => ?_)
    · (go_split_ands; refine ⟨?_, ?_, ?_, ?_⟩ <;> exact Ext.cell B4 ‹_›)
    clear hK K
    try simp only [Act.put, List.setIfInBounds_toArray, List.set_cons_zero, List.set_cons_succ]
    refine wpAnyH_take (i := 8) (v := ?_) rfl (by kernel_rfl) (by kernel_rfl) (by kernel_rfl) (fun _ _ _ h => h) (Or.inl ⟨by rfl, ?_⟩) (by assumption) ?_
    rotate_left
    · (intro w hSw; (try dsimp only at hSw); go_simp; first | done | (with_reducible rfl))
    try simp only [Act.put, List.setIfInBounds_toArray, List.set_cons_zero, List.set_cons_succ]
    refine wpAnyH_ready (rs := [11]) (by kernel_rfl) (by simp) ?_
    refine AllReadyH.cons rfl (fun K hK => ?_) AllReadyH.nil
    go_simp
    go_at_call 94
    refine (rlow2_calls _ _).mono ?_
    rintro e w5 ⟨rfl, B5⟩
    go_wp2_with fail
    refine hK.out _ _ ?_ (fun hHeld => ?_)
    · (go_split_ands; refine ⟨?_, ?_, ?_, ?_⟩ <;> exact Ext.cell B5 ‹_›)
    clear hK K
    try simp only [Act.put, List.setIfInBounds_toArray, List.set_cons_zero, List.set_cons_succ]
    refine wpAnyH_take (i := 12) (v := ?_) rfl (by kernel_rfl) (by kernel_rfl) (by kernel_rfl) (fun _ _ _ h => h) (Or.inl ⟨by rfl, ?_⟩) (by assumption) ?_
    rotate_left
    · (intro w hSw; (try dsimp only at hSw); go_simp; first | done | (with_reducible rfl))
    try simp only [Act.put, List.setIfInBounds_toArray, List.set_cons_zero, List.set_cons_succ]
    refine wpAnyH_ready (rs := [15]) (by kernel_rfl) (by simp) ?_
    refine AllReadyH.cons rfl (fun K hK => ?_) AllReadyH.nil
    go_simp
    go_at_call 94
    refine (rlow4_calls _ _).mono ?_
    rintro e w6 ⟨rfl, B6⟩
    go_wp2_with fail
    refine hK.out _ _ ?_ (fun hHeld => ?_)
    · (go_split_ands; refine ⟨?_, ?_, ?_, ?_⟩ <;> exact Ext.cell B6 ‹_›)
    clear hK K
    try simp only [Act.put, List.setIfInBounds_toArray, List.set_cons_zero, List.set_cons_succ]
    refine wpAnyH_take (i := 16) (v := ?_) rfl (by kernel_rfl) (by kernel_rfl) (by kernel_rfl) (fun _ _ _ h => h) (Or.inl ⟨by rfl, ?_⟩) (by assumption) ?_
    rotate_left
    · (intro w hSw; (try dsimp only at hSw); go_simp; first | done | (with_reducible rfl))
    try simp only [Act.put, List.setIfInBounds_toArray, List.set_cons_zero, List.set_cons_succ]
    refine wpAnyH_ready (rs := [17]) (by kernel_rfl) (by simp) ?_
    refine AllReadyH.cons rfl (fun K hK => ?_) AllReadyH.nil
    go_simp
    refine hK.out _ _ ?_ (fun hHeld => ?_)
    · (go_split_ands; refine ⟨?_, ?_, ?_, ?_⟩ <;> exact Ext.cell (Ext.bytes _ _ _) ‹_›)
    clear hK K
    try simp only [Act.put, List.setIfInBounds_toArray, List.set_cons_zero, List.set_cons_succ]
    refine wpAnyH_take (i := 18) (v := ?_) rfl (by kernel_rfl) (by kernel_rfl) (by kernel_rfl) (fun _ _ _ h => h) (Or.inl ⟨by rfl, ?_⟩) (by assumption) ?_
    rotate_left
    · (intro w hSw; (try dsimp only at hSw); go_simp; first | done | (with_reducible rfl))
    try simp only [Act.put, List.setIfInBounds_toArray, List.set_cons_zero, List.set_cons_succ]
    refine wpAnyH_done (by kernel_rfl) ?_ _
    go_wp2
    have hR0 := RowC.bytes w6 5 (mk (low r.seq 4) ++ mk (low r.slot 1) ++ mk (low 0 1) ++ mk (low r.size 2) ++ mk (low r.sum 4))
    have e12 : (mk (low r.seq 4) ++ mk (low r.slot 1) ++ mk (low 0 1) ++ mk (low r.size 2) ++ mk (low r.sum 4)).size = 12 := by simp
    rw [e12, show (mk (low r.seq 4) ++ mk (low r.slot 1) ++ mk (low 0 1) ++ mk (low r.size 2) ++ mk (low r.sum 4)).data.toList = half r from HX.out] at hR0
    have hE0 := Ext.bytes w6 5 (mk (low r.seq 4) ++ mk (low r.slot 1) ++ mk (low 0 1) ++ mk (low r.size 2) ++ mk (low r.sum 4))
    have hw6 : Ext w w6 := (by repeat (first | (with_reducible exact Ext.refl _) | (with_reducible assumption) | (with_reducible refine Ext.drewN ?_ _) | (with_reducible refine Ext.drew ?_) | (with_reducible refine Ext.alloc ?_ _) | (with_reducible refine Ext.setCell ?_ (by first | exact Nat.le_refl _ | (simp <;> omega)) _) | (with_reducible refine Ext.trans ?_ (by with_reducible assumption))))
    generalize Lib.bytesWorld w6 5 (mk (low r.seq 4) ++ mk (low r.slot 1) ++ mk (low 0 1) ++ mk (low r.size 2) ++ mk (low r.sum 4)) = W at *
    have hEW : Ext w W := hw6.trans hE0
    have hbase : w.heap.size ≤ w6.heap.size := hw6.size
    clear e12 hE0 kc M
    go_loopw [4, 5] (fun v i wr => ∃ (j g cap : Nat), j ≤ 12 ∧ i = .int .i64 (j : Int) ∧ v = .slice (some ⟨g, 0, none⟩) (12 + j) cap ∧ w.heap.size ≤ g ∧ RowC wr g cap (half r ++ compl ((half r).take j)) ∧ Ext w wr) (fun _ i _ => 12 - (intOf i).toNat)
    case atStart => exact ⟨0, w6.heap.size, _, by omega, rfl, rfl, hbase, by simpa [compl] using hR0, hEW⟩
    case round =>
      clear hR0 hEW
      obtain ⟨j, g, cap, hj, rfl, rfl, hg, hR, hE⟩ := hrel
      have hl : (half r).length = 12 := half_length r
      have hll : (half r ++ compl ((half r).take j)).length = 12 + j := by simp; omega
      by_cases hlt : j < 12
      · have hcell := hR.row.cellD (i := j) (by omega)
        have hat : (half r ++ compl ((half r).take j)).getD j 0 = (half r)[j] := by
          rw [List.getD_eq_getElem?_getD, List.getElem?_append_left (by omega), List.getElem?_eq_getElem (by omega)]; rfl
        rw [hat] at hcell
        have hnext : half r ++ compl ((half r).take j) ++ [~~~ (half r)[j]] = half r ++ compl ((half r).take (j + 1)) := by
          rw [List.append_assoc]; exact congrArg (half r ++ ·) (compl_take_succ (half r) (j := j) (by omega)).symm
        generalize (half r)[j] = c at hcell hnext
        have hsub : Hid ((255 - (c.toNat : Int)) = ((~~~ c).toNat : Int)) := sub_byte c
        have HN := Lib.hid hnext
        have hc := c.toNat_lt
        have hR' := hR.ext ((Ext.refl wr).alloc (.cells #[.int .u8 (255 - (c.toNat : Int))] 5))
        clear hat hnext
        go_wp2_with (at_builtin; refine wpList_append_rowc rfl (.tmp 31) (.tmp 37) 78 rfl w.heap.size 5 i0 Tryz.underlying78 hi hz0 hz1 hz2 g (12 + j) cap _ hll rfl hR' ⟨wr.heap.size, 0, none⟩ 1 (~~~ c) rfl ?c1 ?c2 ?c3 ?c4 ?_)
        case c1 => rw [u8v, ← hsub.out]; simp
        case c2 => omega
        case c3 => exact hg
        case c4 => have := hE.size; simp; omega
        intro g' cap' w7 hR7 hg7 hgrow
        rw [← List.append_assoc, HN.out] at hR7
        have hE7 : Ext w w7 := (hE.alloc _).grown hgrow (fun k hk => by cases hk; exact hg)
        clear hgrow hR hR'
        go_wp2
        go_roundw
        case rel => exact ⟨j + 1, g', cap', by omega, by go_num, rfl, hg7, hR7, hE7⟩
        case measure => simp [intOf] <;> omega
      · obtain rfl : j = 12 := by omega
        have hfin : half r ++ compl ((half r).take 12) = put r := by rw [List.take_of_length_le (by omega)]; rfl
        rw [hfin] at hR hll
        have hr := hR.row.string (P := Tryz.prog) 78 5 9 Tryz.underlying78 Tryz.underlying5 Tryz.underlying9 cap
        rw [put_length] at hr
        go_wp2
        go_ret2
        exact ⟨rfl, hE⟩

end Go.Proofs.YthkpaoajfiapkaaGreat
set_option linter.unusedVariables false
set_option linter.unusedSimpArgs false
set_option maxHeartbeats 4000000
namespace Go.Proofs.YthkpaoajfiapkaaGreat
open Go.RowKit Skiff

/-- What the reference reads. -/
def rtold (l : List UInt8) : Rec := ⟨num (l.take 4), ((l.getD 4 0).toNat : Nat), num ((l.drop 6).take 2), num ((l.drop 8).take 4)⟩
theorem rtold_get {l : List UInt8} {q : Rec} (h : Skiff.get l = some q) : rtold l = q := by
  have hm := (get_some h).1
  unfold Skiff.get at h
  split at h
  · rename_i hc
    obtain rfl := Option.some.inj h
    have hs := (recMay_iff.1 hm).2.1
    have hl := hc.1
    have e : (l.drop 4).take 2 = [l.getD 4 0, l.getD 5 0] := by
      rw [List.drop_eq_getElem_cons (by omega), List.drop_eq_getElem_cons (by omega)]
      rw [List.getD_eq_getElem?_getD, List.getD_eq_getElem?_getD, List.getElem?_eq_getElem (by omega), List.getElem?_eq_getElem (by omega)]; rfl
    have hv : (told l).slot = ((l.getD 4 0).toNat + 256 * ((l.getD 5 0).toNat + 0) : Nat) := by
      unfold told
      simp only
      rw [e]; rfl
    rw [hv] at hs
    unfold rtold
    have : (told l).slot = ((l.getD 4 0).toNat : Nat) := by rw [hv]; omega
    rw [← this]; rfl
  · cases h
theorem rget_of (l : List UInt8) : Skiff.get l = if recMay (rtold l) = true ∧ put (rtold l) = l then some (rtold l) else none := by
  cases h : Skiff.get l with
  | none => rw [if_neg]; intro hc; exact get_none h _ hc.1 hc.2
  | some q =>
    have e := rtold_get h
    have hq := get_some h
    rw [e, if_pos hq]

theorem rget_calls (s : ByteArray) (w : World) :
    Calls Tryz.prog 71 #[.string s] w fun e w' => e = .returned (getRes (bl s)) ∧ Ext w w' := by
  have hl : (bl s).length = s.size := bl_length s
  by_cases h24 : s.size = 24
  · have hn : ((s.size : Int) != 24) = false := by rw [h24]; rfl
    obtain ⟨r, hr⟩ : ∃ r, rtold (bl s) = r := ⟨_, rfl⟩
    have n1 : ((num (bl (s.extract 0 4)) : Nat) : Int) = r.seq := by rw [← hr, bl_extract]; rfl
    have n3 : ((num (bl (s.extract 6 8)) : Nat) : Int) = r.size := by rw [← hr, bl_extract]; rfl
    have n4 : ((num (bl (s.extract 8 12)) : Nat) : Int) = r.sum := by rw [← hr, bl_extract]; rfl
    have n2 : ((s[4].toNat : Nat) : Int) = r.slot := by
      rw [← hr]; unfold rtold
      simp only [List.getD_eq_getElem?_getD]
      rw [List.getElem?_eq_getElem (by omega)]; rfl
    have N1 := Lib.hid (fun w => rof_calls (s.extract 0 4) (by simp; omega) w)
    have N3 := Lib.hid (fun w => rof_calls (s.extract 6 8) (by simp; omega) w)
    have N4 := Lib.hid (fun w => rof_calls (s.extract 8 12) (by simp; omega) w)
    rw [n1] at N1
    rw [n3] at N3
    rw [n4] at N4
    have hb : s[4].toNat < 256 := s[4].toNat_lt
    have hj : 4 < s.size := by omega
    have N2 := Lib.hid (show IntKind.i64.wrap (s[4].toNat : Int) = r.slot by rw [← n2]; exact wrap_i64_fit _ (by omega) (by omega))
    have M := Lib.hid (fun w => rput_calls r w)
    unfold recV at M
    have HG : Hid (getRes (bl s) = if recMay r = true ∧ put r = bl s then .tuple #[recV r, .int .i64 0] else .tuple #[recV Rec.zero, .int .i64 400]) := by
      show _ = _
      unfold getRes
      rw [rget_of, hr]
      by_cases hc : recMay r = true ∧ put r = bl s
      · rw [if_pos hc, if_pos hc]
      · rw [if_neg hc, if_neg hc]
    clear n1 n2 n3 n4 hr
    go_enter Tryz.func71, Tryz.ntmps71
    go_wp2
    apply once
    case f =>
      intro key
      go_region_held3 (fun w1 => Ext (w.alloc (.cells #[.int .i64 0, .int .i64 0, .int .i64 0, .int .i64 0] 66)) w1) ( repeat (first | (with_reducible exact Ext.refl _) | (with_reducible refine Ext.drewN ?_ _) | (with_reducible refine Ext.drew ?_) | (with_reducible refine Ext.alloc ?_ _) | (with_reducible refine Ext.setCell ?_ (by first | exact Nat.le_refl _ | (simp <;> omega)) _) | (with_reducible refine Ext.trans ?_ (by with_reducible assumption)))) (first | (go_at_call 80; first | ((with_reducible refine (N1.out _).mono ?_); rintro e w2 ⟨rfl, rfl⟩) | ((with_reducible refine (N3.out _).mono ?_); rintro e w2 ⟨rfl, rfl⟩) | ((with_reducible refine (N4.out _).mono ?_); rintro e w2 ⟨rfl, rfl⟩)))
      all_goals (rw [N2.out]; exact key)
    case p =>
      generalize recMay r = b at *
      cases b
      · go_wp2_with fail
        refine (M.out _).mono ?_
        rintro e w2 ⟨rfl, B2⟩
        have k0_w2 : w2.cell? ⟨w.heap.size, 0, none⟩ = some (.int .i64 0) := Ext.cell B2 (by simp)
        have k1_w2 : w2.cell? ⟨w.heap.size, 1, none⟩ = some (.int .i64 0) := Ext.cell B2 (by simp)
        have k2_w2 : w2.cell? ⟨w.heap.size, 2, none⟩ = some (.int .i64 0) := Ext.cell B2 (by simp)
        have k3_w2 : w2.cell? ⟨w.heap.size, 3, none⟩ = some (.int .i64 0) := Ext.cell B2 (by simp)
        have f_w2 : ∀ i, w2.frozen? ⟨w.heap.size, i, none⟩ = false := fun i => Ext.free B2 (by first | (simp; done) | (simp; omega)) (by first | (simp; done) | (simp; omega))
        go_wp2
        refine bodyPost_ret (v := .tuple #[recV Rec.zero, .int .i64 400]) ?_ rfl ?_
        · simp [results, Tryz.results71, go_sem, recV, Rec.zero, k0_w2, k1_w2, k2_w2, k3_w2]
        · exact ⟨congrArg Ending.returned (HG.out.trans (by simp)).symm, (by repeat (first | (with_reducible exact Ext.refl _) | (with_reducible assumption) | (with_reducible refine Ext.drewN ?_ _) | (with_reducible refine Ext.drew ?_) | (with_reducible refine Ext.alloc ?_ _) | (with_reducible refine Ext.setCell ?_ (by first | exact Nat.le_refl _ | (simp <;> omega)) _) | (with_reducible refine Ext.trans ?_ (by with_reducible assumption))))⟩
      · by_cases hp : put r = bl s
        · have htest : (!(mk (put r)).toList == s.toList) = false := by rw [beq_bl, bl_mk]; simp [hp]
          have HP := Lib.hid hp
          clear hp
          go_wp2_with fail
          refine (M.out _).mono ?_
          rintro e w2 ⟨rfl, B2⟩
          have k0_w2 : w2.cell? ⟨w.heap.size, 0, none⟩ = some (.int .i64 0) := Ext.cell B2 (by simp)
          have k1_w2 : w2.cell? ⟨w.heap.size, 1, none⟩ = some (.int .i64 0) := Ext.cell B2 (by simp)
          have k2_w2 : w2.cell? ⟨w.heap.size, 2, none⟩ = some (.int .i64 0) := Ext.cell B2 (by simp)
          have k3_w2 : w2.cell? ⟨w.heap.size, 3, none⟩ = some (.int .i64 0) := Ext.cell B2 (by simp)
          have f_w2 : ∀ i, w2.frozen? ⟨w.heap.size, i, none⟩ = false := fun i => Ext.free B2 (by first | (simp; done) | (simp; omega)) (by first | (simp; done) | (simp; omega))
          have l0 : w2.cell? ⟨w.heap.size + 1, 0, none⟩ = some (.int .i64 r.seq) := Ext.cell B2 (by simp)
          have l1 : w2.cell? ⟨w.heap.size + 1, 1, none⟩ = some (.int .i64 r.slot) := Ext.cell B2 (by simp)
          have l2 : w2.cell? ⟨w.heap.size + 1, 2, none⟩ = some (.int .i64 r.size) := Ext.cell B2 (by simp)
          have l3 : w2.cell? ⟨w.heap.size + 1, 3, none⟩ = some (.int .i64 r.sum) := Ext.cell B2 (by simp)
          go_wp2
          refine bodyPost_ret (v := .tuple #[recV r, .int .i64 0]) ?_ rfl ?_
          · simp [results, Tryz.results71, go_sem, recV, k0_w2, k1_w2, k2_w2, k3_w2]
          · exact ⟨congrArg Ending.returned (HG.out.trans (if_pos ⟨(by first | rfl | trivial), HP.out⟩)).symm, (by repeat (first | (with_reducible exact Ext.refl _) | (with_reducible assumption) | (with_reducible refine Ext.drewN ?_ _) | (with_reducible refine Ext.drew ?_) | (with_reducible refine Ext.alloc ?_ _) | (with_reducible refine Ext.setCell ?_ (by first | exact Nat.le_refl _ | (simp <;> omega)) _) | (with_reducible refine Ext.trans ?_ (by with_reducible assumption))))⟩
        · have htest : (!(mk (put r)).toList == s.toList) = true := by rw [beq_bl, bl_mk]; simp [hp]
          have HP := Lib.hid hp
          clear hp
          go_wp2_with fail
          refine (M.out _).mono ?_
          rintro e w2 ⟨rfl, B2⟩
          have k0_w2 : w2.cell? ⟨w.heap.size, 0, none⟩ = some (.int .i64 0) := Ext.cell B2 (by simp)
          have k1_w2 : w2.cell? ⟨w.heap.size, 1, none⟩ = some (.int .i64 0) := Ext.cell B2 (by simp)
          have k2_w2 : w2.cell? ⟨w.heap.size, 2, none⟩ = some (.int .i64 0) := Ext.cell B2 (by simp)
          have k3_w2 : w2.cell? ⟨w.heap.size, 3, none⟩ = some (.int .i64 0) := Ext.cell B2 (by simp)
          have f_w2 : ∀ i, w2.frozen? ⟨w.heap.size, i, none⟩ = false := fun i => Ext.free B2 (by first | (simp; done) | (simp; omega)) (by first | (simp; done) | (simp; omega))
          go_wp2
          refine bodyPost_ret (v := .tuple #[recV Rec.zero, .int .i64 400]) ?_ rfl ?_
          · simp [results, Tryz.results71, go_sem, recV, Rec.zero, k0_w2, k1_w2, k2_w2, k3_w2]
          · exact ⟨congrArg Ending.returned (HG.out.trans (if_neg fun h => HP.out h.2)).symm, (by repeat (first | (with_reducible exact Ext.refl _) | (with_reducible assumption) | (with_reducible refine Ext.drewN ?_ _) | (with_reducible refine Ext.drew ?_) | (with_reducible refine Ext.alloc ?_ _) | (with_reducible refine Ext.setCell ?_ (by first | exact Nat.le_refl _ | (simp <;> omega)) _) | (with_reducible refine Ext.trans ?_ (by with_reducible assumption))))⟩
  · have hg : Skiff.get (bl s) = none := by
      unfold Skiff.get
      rw [if_neg]
      intro h
      exact h24 (by omega)
    have hn : ((s.size : Int) != 24) = true := by rw [bne_iff_ne]; omega
    have HG := Lib.hid (getRes_none hg)
    clear hg
    go_enter Tryz.func71, Tryz.ntmps71
    go_wp2
    refine bodyPost_ret (v := .tuple #[recV Rec.zero, .int .i64 400]) ?_ rfl ?_
    · simp [results, Tryz.results71, go_sem, recV, Rec.zero]
    · exact ⟨congrArg Ending.returned HG.out.symm, (by repeat (first | (with_reducible exact Ext.refl _) | (with_reducible assumption) | (with_reducible refine Ext.drewN ?_ _) | (with_reducible refine Ext.drew ?_) | (with_reducible refine Ext.alloc ?_ _) | (with_reducible refine Ext.setCell ?_ (by first | exact Nat.le_refl _ | (simp <;> omega)) _) | (with_reducible refine Ext.trans ?_ (by with_reducible assumption))))⟩

end Go.Proofs.YthkpaoajfiapkaaGreat
set_option linter.unusedVariables false
set_option linter.unusedSimpArgs false
set_option maxHeartbeats 4000000
namespace Skiff
def getTup (l : List UInt8) : Int × Int × Int × Int × Int := match get l with
  | some r => (r.seq, r.slot, r.size, r.sum, 0)
  | none => (0, 0, 0, 0, 400)
end Skiff
namespace Go.Proofs.YthkpaoajfiapkaaGreat
open Go.RowKit Skiff

theorem getTup_res {l : List UInt8} {r1 r2 r3 r4 r5 : Int} (h : some (getTup l) = some (r1, r2, r3, r4, r5)) : getRes l = .tuple #[.agg #[.int .i64 r1, .int .i64 r2, .int .i64 r3, .int .i64 r4], .int .i64 r5] := by
  have h := Option.some.inj h
  unfold getTup at h
  cases hg : Skiff.get l with
  | some r =>
    rw [getRes_some hg]
    rw [hg] at h
    simp only [Prod.mk.injEq] at h
    obtain ⟨rfl, rfl, rfl, rfl, rfl⟩ := h
    rfl
  | none =>
    rw [getRes_none hg]
    rw [hg] at h
    simp only [Prod.mk.injEq] at h
    obtain ⟨rfl, rfl, rfl, rfl, rfl⟩ := h
    rfl

theorem g_entry_Get (a0 : ByteArray) (r1 r2 r3 r4 r5 : Int) (w : World) (h : some (getTup (bl a0)) = some (r1, r2, r3, r4, r5)) :
    Calls Tryz.prog 83 #[.string a0] w fun e w' => e = .returned (.tuple #[.agg #[.int .i64 r1, .int .i64 r2, .int .i64 r3, .int .i64 r4], .int .i64 r5]) ∧ Below w.heap.size w w' :=
  (get_calls a0 w).mono fun e w' ⟨he, hw⟩ => ⟨by rw [he, getTup_res h], hw⟩

theorem g_skiffref1_GetEntry (a0 : ByteArray) (r1 r2 r3 r4 r5 : Int) (w : World) (h : some (getTup (bl a0)) = some (r1, r2, r3, r4, r5)) :
    Calls Tryz.prog 71 #[.string a0] w fun e w' => e = .returned (.tuple #[.agg #[.int .i64 r1, .int .i64 r2, .int .i64 r3, .int .i64 r4], .int .i64 r5]) ∧ Below w.heap.size w w' :=
  (rget_calls a0 w).mono fun e w' ⟨he, hw⟩ => ⟨by rw [he, getTup_res h], hw⟩

theorem g_skiffref1_RecordMay (a0_0 a0_1 a0_2 a0_3 : Int) (r : Bool) (w : World) (h : some (recMay ⟨a0_0, a0_1, a0_2, a0_3⟩) = some r) :
    Calls Tryz.prog 82 #[.agg #[.int .i64 a0_0, .int .i64 a0_1, .int .i64 a0_2, .int .i64 a0_3]] w fun e w' => e = .returned (.bool r) ∧ Below w.heap.size w w' :=
  (recordMay_calls ⟨a0_0, a0_1, a0_2, a0_3⟩ w).mono fun e w' ⟨he, hw⟩ => ⟨by rw [he, Option.some.inj h], hw⟩

theorem g_entry_May (a0_0 a0_1 a0_2 a0_3 : Int) (r : Bool) (w : World) (h : some (recMay ⟨a0_0, a0_1, a0_2, a0_3⟩) = some r) :
    Calls Tryz.prog 97 #[.agg #[.int .i64 a0_0, .int .i64 a0_1, .int .i64 a0_2, .int .i64 a0_3]] w fun e w' => e = .returned (.bool r) ∧ Below w.heap.size w w' :=
  (may_calls ⟨a0_0, a0_1, a0_2, a0_3⟩ w).mono fun e w' ⟨he, hw⟩ => ⟨by rw [he, Option.some.inj h], hw⟩

end Go.Proofs.YthkpaoajfiapkaaGreat
end
section
namespace Go.Proofs.YthkpaoajfiapkaaGreat.P
open Go.RowKit Go.Proofs.YthkpaoajfiapkaaGreatW.PrintWords Go.Proofs.YthkpaoajfiapkaaGreatW.PrintLast Go.Proofs.YthkpaoajfiapkaaGreatW.PrintMore
attribute [local go_sem] max2_int min2_int max_two min_two max_three min_three max_four min_four   -- for this text's walks alone
set_option linter.unusedVariables false
set_option linter.unusedSimpArgs false

def errW : Option Int → Value
 | none => .nilIface
 | some c => .iface 0 (.int .i64 c)
theorem errW_none : errW none = .nilIface := rfl
theorem errW_some (c : Int) : errW (some c) = .iface 0 (.int .i64 c) := rfl

theorem info41 : (Tryz.prog.info? 41).map (fun i => (i.zero, i.size, i.bytes)) = some (some (.agg #[(.bool false), (.int .i64 0), (.string ⟨#[]⟩)]), 3, 32) := by kernel_rfl
theorem info68 : (Tryz.prog.info? 68).map (fun i => (i.zero, i.size, i.bytes)) = some (some (.agg #[(.int .i64 0), (.int .i64 0), (.int .i64 0), (.int .i64 0), (.int .i64 0)]), 5, 40) := by kernel_rfl
-- the values' own types
/-! #### struct type 41 -/
structure S41 where
 f0 : Bool
 f1 : Int
 f2 : ByteArray
def z41 : S41 := ⟨false, (0 : Int), (⟨#[]⟩ : ByteArray)⟩
def k41 : Kd S41 := Kd.iso (Kd.pair Kd.bool (Kd.pair (Kd.int .i64) Kd.string)) (fun x : S41 => (x.f0, x.f1, x.f2))
theorem k41_open {w : World} {x : S41} {cs : List Value} (h : k41.K w x cs) : cs = [.bool x.f0, .int .i64 x.f1, .string x.f2] := by
 obtain ⟨_, _, rfl, rfl, ⟨_, _, rfl, rfl, rfl⟩⟩ := h
 exact rfl
theorem k41_openM {w : World} {base : Nat} {ok : Nat → Prop} {x : S41} {cs : List Value} (h : k41.M w base ok x cs) : cs = [.bool x.f0, .int .i64 x.f1, .string x.f2] := by
 obtain ⟨_, _, rfl, rfl, ⟨_, _, rfl, rfl, rfl⟩⟩ := h
 exact rfl
theorem k41_mk (w : World) (x : S41)  : k41.K w x [.bool x.f0, .int .i64 x.f1, .string x.f2] := ⟨[.bool x.f0], [.int .i64 x.f1, .string x.f2], rfl, rfl, ⟨[.int .i64 x.f1], [.string x.f2], rfl, rfl, rfl⟩⟩
theorem k41_mkM (w : World) (base : Nat) (ok : Nat → Prop) (x : S41)  : k41.M w base ok x [.bool x.f0, .int .i64 x.f1, .string x.f2] := ⟨[.bool x.f0], [.int .i64 x.f1, .string x.f2], rfl, rfl, ⟨[.int .i64 x.f1], [.string x.f2], rfl, rfl, rfl⟩⟩
def rd_T41 (xs : List S41) (i : Int) : S41 := xs.getD i.toNat z41
theorem at_T41 {w : World} {A : Option Addr} {n : Nat} {xs : List S41} (h : Kd.C k41 w A n xs) (i : Int) (h0 : 0 ≤ i) (h1 : i < n) : ∃ ad , A = some ad ∧ w.cell? (ad.add (i.toNat * 3)) = some (.bool (rd_T41 xs i).f0) ∧ w.cell? ⟨(ad.add (i.toNat * 3)).block, (ad.add (i.toNat * 3)).off + 1, none⟩ = some (.int .i64 (rd_T41 xs i).f1) ∧ w.cell? ⟨(ad.add (i.toNat * 3)).block, (ad.add (i.toNat * 3)).off + 2, none⟩ = some (.string (rd_T41 xs i).f2) := by
 obtain ⟨ad, c, e, _, hK, hc0⟩ := Kd.C_get h z41 i h0 h1
 have hc : ∀ j u, c[j]? = some u → w.cell? (ad.add (i.toNat * 3 + j)) = some u := hc0
 obtain rfl := k41_open hK
 exact ⟨ad, e, hc 0 _ rfl, by rw [← add_field _ _ 1 (by omega)]; exact hc 1 _ rfl, by rw [← add_field _ _ 2 (by omega)]; exact hc 2 _ rfl⟩

/-! #### struct type 66 -/
structure S66 where
 f0 : Int
 f1 : Int
 f2 : Int
 f3 : Int
def z66 : S66 := ⟨(0 : Int), (0 : Int), (0 : Int), (0 : Int)⟩
def k66 : Kd S66 := Kd.iso (Kd.pair (Kd.int .i64) (Kd.pair (Kd.int .i64) (Kd.pair (Kd.int .i64) (Kd.int .i64)))) (fun x : S66 => (x.f0, x.f1, x.f2, x.f3))
theorem k66_open {w : World} {x : S66} {cs : List Value} (h : k66.K w x cs) : cs = [.int .i64 x.f0, .int .i64 x.f1, .int .i64 x.f2, .int .i64 x.f3] := by
 obtain ⟨_, _, rfl, rfl, ⟨_, _, rfl, rfl, ⟨_, _, rfl, rfl, rfl⟩⟩⟩ := h
 exact rfl
theorem k66_openM {w : World} {base : Nat} {ok : Nat → Prop} {x : S66} {cs : List Value} (h : k66.M w base ok x cs) : cs = [.int .i64 x.f0, .int .i64 x.f1, .int .i64 x.f2, .int .i64 x.f3] := by
 obtain ⟨_, _, rfl, rfl, ⟨_, _, rfl, rfl, ⟨_, _, rfl, rfl, rfl⟩⟩⟩ := h
 exact rfl
theorem k66_mkM (w : World) (base : Nat) (ok : Nat → Prop) (x : S66)  : k66.M w base ok x [.int .i64 x.f0, .int .i64 x.f1, .int .i64 x.f2, .int .i64 x.f3] := ⟨[.int .i64 x.f0], [.int .i64 x.f1, .int .i64 x.f2, .int .i64 x.f3], rfl, rfl, ⟨[.int .i64 x.f1], [.int .i64 x.f2, .int .i64 x.f3], rfl, rfl, ⟨[.int .i64 x.f2], [.int .i64 x.f3], rfl, rfl, rfl⟩⟩⟩

/-! #### struct type 68 -/
structure S68 where
 f0 : Int
 f1 : S66
def z68 : S68 := ⟨(0 : Int), z66⟩
def k68 : Kd S68 := Kd.iso (Kd.pair (Kd.int .i64) k66) (fun x : S68 => (x.f0, x.f1))
theorem k68_open {w : World} {x : S68} {cs : List Value} (h : k68.K w x cs) : cs = [.int .i64 x.f0, .int .i64 x.f1.f0, .int .i64 x.f1.f1, .int .i64 x.f1.f2, .int .i64 x.f1.f3] := by
 obtain ⟨_, _, rfl, rfl, s1⟩ := h
 obtain rfl := k66_open s1
 exact rfl
theorem k68_openM {w : World} {base : Nat} {ok : Nat → Prop} {x : S68} {cs : List Value} (h : k68.M w base ok x cs) : cs = [.int .i64 x.f0, .int .i64 x.f1.f0, .int .i64 x.f1.f1, .int .i64 x.f1.f2, .int .i64 x.f1.f3] := by
 obtain ⟨_, _, rfl, rfl, s1⟩ := h
 obtain rfl := k66_openM s1
 exact rfl
theorem k68_mkM (w : World) (base : Nat) (ok : Nat → Prop) (x : S68)  : k68.M w base ok x [.int .i64 x.f0, .int .i64 x.f1.f0, .int .i64 x.f1.f1, .int .i64 x.f1.f2, .int .i64 x.f1.f3] := ⟨[.int .i64 x.f0], [.int .i64 x.f1.f0, .int .i64 x.f1.f1, .int .i64 x.f1.f2, .int .i64 x.f1.f3], rfl, rfl, (k66_mkM w base ok x.f1 )⟩
def rd_T68 (xs : List S68) (i : Int) : S68 := xs.getD i.toNat z68
theorem at_T68 {w : World} {A : Option Addr} {n : Nat} {xs : List S68} (h : Kd.C k68 w A n xs) (i : Int) (h0 : 0 ≤ i) (h1 : i < n) : ∃ ad , A = some ad ∧ w.cell? (ad.add (i.toNat * 5)) = some (.int .i64 (rd_T68 xs i).f0) ∧ w.cell? ⟨(ad.add (i.toNat * 5)).block, (ad.add (i.toNat * 5)).off + 1, none⟩ = some (.int .i64 (rd_T68 xs i).f1.f0) ∧ w.cell? ⟨(ad.add (i.toNat * 5)).block, (ad.add (i.toNat * 5)).off + 2, none⟩ = some (.int .i64 (rd_T68 xs i).f1.f1) ∧ w.cell? ⟨(ad.add (i.toNat * 5)).block, (ad.add (i.toNat * 5)).off + 3, none⟩ = some (.int .i64 (rd_T68 xs i).f1.f2) ∧ w.cell? ⟨(ad.add (i.toNat * 5)).block, (ad.add (i.toNat * 5)).off + 4, none⟩ = some (.int .i64 (rd_T68 xs i).f1.f3) := by
 obtain ⟨ad, c, e, _, hK, hc0⟩ := Kd.C_get h z68 i h0 h1
 have hc : ∀ j u, c[j]? = some u → w.cell? (ad.add (i.toNat * 5 + j)) = some u := hc0
 obtain rfl := k68_open hK
 exact ⟨ad, e, hc 0 _ rfl, by rw [← add_field _ _ 1 (by omega)]; exact hc 1 _ rfl, by rw [← add_field _ _ 2 (by omega)]; exact hc 2 _ rfl, by rw [← add_field _ _ 3 (by omega)]; exact hc 3 _ rfl, by rw [← add_field _ _ 4 (by omega)]; exact hc 4 _ rfl⟩

end Go.Proofs.YthkpaoajfiapkaaGreat.P
end
section
namespace Go.Proofs.YthkpaoajfiapkaaGreat.P
open Go.RowKit Go.Proofs.YthkpaoajfiapkaaGreatW.PrintWords Go.Proofs.YthkpaoajfiapkaaGreatW.PrintLast Go.Proofs.YthkpaoajfiapkaaGreatW.PrintMore
attribute [local go_sem] max2_int min2_int max_two min_two max_three min_three max_four min_four   -- for this text's walks alone
set_option linter.unusedVariables false
set_option linter.unusedSimpArgs false

/-! ### skifflaw0_CopyDevice: function 7 -/
def skifflaw0_CopyDevice.f (a0_0 : Int) (a0_1 : Int) (a0_2 : Int) (a0_3 : Int) (a0_4 : Int) (l0_5 : List (S41)) : Option (Int × Int × Int × Int × Int × (List (S41))) := (some (([] : List (S41)) : List (S41))).bind fun y103 => (if y103.length + l0_5.length < 4398046511104 then (some (a0_0, a0_1, a0_2, a0_3, a0_4, (y103 ++ l0_5))) else (none))
set_option maxHeartbeats 8000000 in
set_option maxRecDepth 100000 in
theorem skifflaw0_CopyDevice.calls (a0_0 : Int) (a0_1 : Int) (a0_2 : Int) (a0_3 : Int) (a0_4 : Int) (A0_5 : Option Addr) (c0_5 : Nat) (l0_5 : List (S41)) (r1 : Int) (r2 : Int) (r3 : Int) (r4 : Int) (r5 : Int) (r6 : List (S41)) (w : World) (hr0_5 : Kd.C k41 w A0_5 l0_5.length l0_5) (hc0_5 : l0_5.length ≤ c0_5) (h : skifflaw0_CopyDevice.f a0_0 a0_1 a0_2 a0_3 a0_4 l0_5 = some (r1, r2, r3, r4, r5, r6)) :
  Calls Tryz.prog 7 #[.agg #[.int .i64 a0_0, .int .i64 a0_1, .int .i64 a0_2, .int .i64 a0_3, .int .i64 a0_4, .slice A0_5 l0_5.length c0_5]] w fun e w' => ∃ v5_ : Value, e = .returned (.agg #[.int .i64 r1, .int .i64 r2, .int .i64 r3, .int .i64 r4, .int .i64 r5, v5_]) ∧ Kd.R k41 41 w' w.heap.size (fun _ => True) v5_ r6 ∧ Below w.heap.size w w' := by
 have hu24 := Tryz.underlying24
 have HR0_5 := Aside0.mk hr0_5
 have HC0_5 := Aside0.mk hc0_5
 clear hr0_5 hc0_5
 have HB := Aside0.mk (Below.refl w.heap.size w)
 have H : ((some (([] : List (S41)) : List (S41))).bind fun y103 => (if y103.length + l0_5.length < 4398046511104 then (some (a0_0, a0_1, a0_2, a0_3, a0_4, (y103 ++ l0_5))) else (none))) = some (r1, r2, r3, r4, r5, r6) := h
 clear h
 obtain ⟨y103, hy103⟩ : ∃ y_ : List (S41), y_ = (([] : List (S41))) := ⟨_, rfl⟩
 replace H : (if y103.length + l0_5.length < 4398046511104 then (some (a0_0, a0_1, a0_2, a0_3, a0_4, (y103 ++ l0_5))) else (none)) = some (r1, r2, r3, r4, r5, r6) := by first | (rw [hy103]; with_reducible exact H) | (have H2_ := (Option.bind_some _ _).symm.trans H; rw [hy103]; with_reducible exact H2_) | (have H2_ := (Option.bind_some _ _).symm.trans H; with_reducible exact H2_) | with_reducible exact H | (rw [hy103]; exact H) | exact H
 have Ny103 := Aside0.mk hy103
 clear hy103
 by_cases c2 : y103.length + l0_5.length < 4398046511104
 case neg =>
  rw [if_neg c2] at H
  exact absurd H (by simp)
 rw [if_pos c2] at H
 have LMc2 := Aside0.mk c2
 clear c2
 obtain ⟨y106, hy106⟩ : ∃ y_ : List (S41), y_ = (y103 ++ l0_5) := ⟨_, rfl⟩
 replace H : (some (a0_0, a0_1, a0_2, a0_3, a0_4, y106)) = some (r1, r2, r3, r4, r5, r6) := by first | (rw [hy106]; with_reducible exact H) | (have H2_ := (Option.bind_some _ _).symm.trans H; rw [hy106]; with_reducible exact H2_) | (have H2_ := (Option.bind_some _ _).symm.trans H; with_reducible exact H2_) | with_reducible exact H | (rw [hy106]; exact H) | exact H
 have Ny106 := Aside0.mk hy106
 clear hy106
 simp only [Option.some.injEq, Prod.mk.injEq] at H
 obtain ⟨rfl, rfl, rfl, rfl, rfl, rfl⟩ := H
 go_enter Tryz.func7, Tryz.ntmps7
 go_wp2_with (first | ((with_reducible refine gate_dst (N := 1) rfl ?_); refine box_event ?hg (N := 1) ?hd (cs := #[.int .i64 a0_0, .int .i64 a0_1, .int .i64 a0_2, .int .i64 a0_3, .int .i64 a0_4, .slice A0_5 l0_5.length c0_5]) (t := 24) ?hr ?_; (case hd => rfl); (case hg => rfl); (case hr => first | (go_simp; done) | (go_simp; rfl)); intro gb101 hg w3 hbox hb; have n0_ := Aside0.mk (below_step (kb HB.out) hb); have n1_ := Aside0.mk (hbox); have n2_ := Aside0.mk ((kz hg (below_size (kb HB.out)) : w.heap.size ≤ gb101)); have n3_ := Aside0.mk ((kz hg (below_size (kb HB.out)) : w.heap.size ≤ gb101)); clear HB; have HB := n0_; have BK101 := n1_; have GW101 := n2_; have GE101 := n3_; clear n0_ n1_ n2_ n3_; clear hb hbox hg) | ((with_reducible refine gate_dst (N := 2) rfl ?_); refine box_event ?hg (N := 2) ?hd (cs := #[.int .i64 0, .int .i64 0, .int .i64 0, .int .i64 0, .int .i64 0, .slice none 0 0]) (t := 24) ?hr ?_; (case hd => rfl); (case hg => rfl); (case hr => first | (go_simp; done) | (go_simp; rfl)); intro gb102 hg w4 hbox hb; have n0_ := Aside0.mk (kL BK101.out hb); have n1_ := Aside0.mk (below_step (kb1 HB.out GE101.out) hb); have n2_ := Aside0.mk (hbox); have n3_ := Aside0.mk ((kz hg (below_size (kb1 HB.out GE101.out)) : w.heap.size ≤ gb102)); have n4_ := Aside0.mk ((kz hg (below_size (kb1 HB.out GE101.out)) : w.heap.size ≤ gb102)); have n5_ := Aside0.mk ((kN hg BK101.out : gb101 ≠ gb102)); have n6_ := Aside0.mk (((kN hg BK101.out).symm : gb102 ≠ gb101)); clear BK101; clear HB; have BK101 := n0_; have HB := n1_; have BK102 := n2_; have GW102 := n3_; have GE102 := n4_; have NB101_102 := n5_; have NB102_101 := n6_; clear n0_ n1_ n2_ n3_ n4_ n5_ n6_; clear hb hbox hg) | ((with_reducible refine gate_dst (N := 3) rfl ?_); refine Kd.R_lit k41 _ 41 ?hg (N := 3) ?hd (xs := ([] : List (S41))) (inner := []) (ok := fun _ => True) (okp := fun _ => True) ?hr ?hp (fun _ hk => hk) trivial (Below.refl _ _) (Nat.le_refl _) (by simp) ?_; (case hd => rfl); (case hg => rfl); (case hr => first | (go_simp; done) | (go_simp; rfl)); (case hp => exact (Reps.none _ _)); intro v104 w5 ho6 hb hg_ hnew_; clear hg_ hnew_; (first | rw [← Ny103.out] at ho6 | (simp only [Int.reduceToNat] at ho6; rw [← Ny103.out] at ho6)); have n0_ := Aside0.mk (Kd.R_lower ho6 (below_size (kb2 HB.out GE101.out GE102.out))); have n1_ := Aside0.mk (kL BK101.out hb); have n2_ := Aside0.mk (kL BK102.out hb); have n3_ := Aside0.mk (below_step (kb2 HB.out GE101.out GE102.out) hb); clear BK101; clear BK102; clear HB; have HO105 := n0_; have BK101 := n1_; have BK102 := n2_; have HB := n3_; clear n0_ n1_ n2_ n3_; clear hb ho6; have hnb7 := NB101_102.out; have hnc7 := NB102_101.out; obtain ⟨hcz8_0, hcz8_1, hcz8_2, hcz8_3, hcz8_4, hcz8_5⟩ := kc6 BK101.out; obtain ⟨hfz8_0, hfz8_1, hfz8_2, hfz8_3, hfz8_4, hfz8_5⟩ := kf6 BK101.out) | ((with_reducible refine gate_builtin (b := .append) (xs := #[.tmp 3, .tmp 5]) rfl ?_); at_builtin; refine Kd.R_append_rows k41 (w0 := w) w.heap.size rfl (.tmp 3) (.tmp 5) 22 41 (.agg #[(.bool false), (.int .i64 0), (.string ⟨#[]⟩)]) 32 rfl Tryz.underlying22 info41 rfl (by decide) (by omega) v104 y103 l0_5 _ _ _ (fun _ => True) (fun _ => False) rfl rfl ?aO ?aR (fun _ _ h => h) (fun _ h => h.elim) ?aF ?aB ?aS ?aL ?_; (case aR => exact kC (Kd.C_below HR0_5.out HB.out)); (case aB => exact (kb2 HB.out GE101.out GE102.out)); (case aF => exact (fun _ _ => trivial)); (case aO => exact (kR HO105.out)); (case aS => exact (below_size (kb2 HB.out GE101.out GE102.out))); (case aL => have := LMc2.out; omega); intro v107 w9 ho hb hg hat; rw [← Ny106.out] at ho; have n0_ := Aside0.mk (blk_grown (g := gb101) (o := .cells #[.int .i64 a0_0, .int .i64 a0_1, .int .i64 a0_2, .int .i64 a0_3, .int .i64 a0_4, .slice A0_5 l0_5.length c0_5] 24 (0, 0)) (kB BK101.out) hg (Kd.R_ne HO105.out BK101.out (by decide))); have n1_ := Aside0.mk (blk_grown (g := gb102) (o := .cells #[.int .i64 0, .int .i64 0, .int .i64 0, .int .i64 0, .int .i64 0, .slice none 0 0] 24 (0, 0)) (kB BK102.out) hg (Kd.R_ne HO105.out BK102.out (by decide))); have n2_ := Aside0.mk (hb); have n3_ := Aside0.mk (ho); clear BK101; clear BK102; clear HB; clear HO105; have BK101 := n0_; have BK102 := n1_; have HB := n2_; have HO108 := n3_; clear n0_ n1_ n2_ n3_; clear ho hb hg hat; obtain ⟨Ao10, co10, eo10⟩ := Kd.R_slice HO108.out; subst eo10; obtain ⟨hcz11_0, hcz11_1, hcz11_2, hcz11_3, hcz11_4, hcz11_5⟩ := kc6 BK101.out; obtain ⟨hfz11_0, hfz11_1, hfz11_2, hfz11_3, hfz11_4, hfz11_5⟩ := kf6 BK101.out; obtain ⟨hcz12_0, hcz12_1, hcz12_2, hcz12_3, hcz12_4, hcz12_5⟩ := kc6 BK102.out; obtain ⟨hfz12_0, hfz12_1, hfz12_2, hfz12_3, hfz12_4, hfz12_5⟩ := kf6 BK102.out))
 refine bodyPost_ret (results_cell_row rfl _ _ gb102 24 #[.int .i64 a0_0, .int .i64 a0_1, .int .i64 a0_2, .int .i64 a0_3, .int .i64 a0_4, .slice Ao10 y106.length co10] (0, 0) _ rfl (by (with_reducible repeat (first | refine blk_drewN ?_ _ | refine blk_drew ?_ | refine blk_alloc ?_ _)); refine blk_put (cs := #[.int .i64 a0_0, .int .i64 a0_1, .int .i64 a0_2, .int .i64 a0_3, .int .i64 a0_4, .slice none 0 0]) ?_ 5 _ rfl; (with_reducible repeat (first | refine blk_drewN ?_ _ | refine blk_drew ?_ | refine blk_alloc ?_ _)); refine blk_put (cs := #[.int .i64 a0_0, .int .i64 a0_1, .int .i64 a0_2, .int .i64 a0_3, .int .i64 0, .slice none 0 0]) ?_ 4 _ rfl; (with_reducible repeat (first | refine blk_drewN ?_ _ | refine blk_drew ?_ | refine blk_alloc ?_ _)); refine blk_put (cs := #[.int .i64 a0_0, .int .i64 a0_1, .int .i64 a0_2, .int .i64 0, .int .i64 0, .slice none 0 0]) ?_ 3 _ rfl; (with_reducible repeat (first | refine blk_drewN ?_ _ | refine blk_drew ?_ | refine blk_alloc ?_ _)); refine blk_put (cs := #[.int .i64 a0_0, .int .i64 a0_1, .int .i64 0, .int .i64 0, .int .i64 0, .slice none 0 0]) ?_ 2 _ rfl; (with_reducible repeat (first | refine blk_drewN ?_ _ | refine blk_drew ?_ | refine blk_alloc ?_ _)); refine blk_put (cs := #[.int .i64 a0_0, .int .i64 0, .int .i64 0, .int .i64 0, .int .i64 0, .slice none 0 0]) ?_ 1 _ rfl; (with_reducible repeat (first | refine blk_drewN ?_ _ | refine blk_drew ?_ | refine blk_alloc ?_ _)); refine blk_put (cs := #[.int .i64 0, .int .i64 0, .int .i64 0, .int .i64 0, .int .i64 0, .slice none 0 0]) ?_ 0 _ rfl; (with_reducible repeat (first | refine blk_drewN ?_ _ | refine blk_drew ?_ | refine blk_alloc ?_ _)); refine blk_far ?_ NB102_101.out _; (with_reducible repeat (first | refine blk_drewN ?_ _ | refine blk_drew ?_ | refine blk_alloc ?_ _)); exact BK102.out) Tryz.underlying24 rfl (by kernel_rfl)) rfl ?_
 exact ⟨_, by first | rfl | (simp [errW_none, errW_some] <;> rfl) | (simp [*, errW_none, errW_some] <;> rfl), by (with_reducible repeat (first | apply Kd.R_alloc | apply Kd.R_drewN | apply Kd.R_drew)); exact Kd.R_mono (Kd.R_far (p := ⟨gb102, 5, none⟩) (Kd.R_far (p := ⟨gb102, 4, none⟩) (Kd.R_far (p := ⟨gb102, 3, none⟩) (Kd.R_far (p := ⟨gb102, 2, none⟩) (Kd.R_far (p := ⟨gb102, 1, none⟩) (Kd.R_far (p := ⟨gb102, 0, none⟩) (Kd.R_far (p := ⟨gb101, 5, none⟩) (Kd.R_types (Kd.R_types HO108.out BK101.out (by decide)) BK102.out (by decide)) (fun _ hk => hk.1.2) (.slice Ao10 y106.length co10)) (fun _ hk => hk.2) (.int .i64 a0_0)) (fun _ hk => hk.2) (.int .i64 a0_1)) (fun _ hk => hk.2) (.int .i64 a0_2)) (fun _ hk => hk.2) (.int .i64 a0_3)) (fun _ hk => hk.2) (.int .i64 a0_4)) (fun _ hk => hk.2) (.slice Ao10 y106.length co10)) (fun _ hk => trivial), kb2 HB.out GE101.out GE102.out⟩

/-! ### nor_May: function 19 -/
def nor_May.f (a0 : ByteArray) : Option (Bool) := some ((a0.size : Int) == 768)
set_option maxHeartbeats 8000000 in
set_option maxRecDepth 100000 in
theorem nor_May.calls (a0 : ByteArray) (r : Bool) (w : World) (h : nor_May.f a0 = some r) :
  Calls Tryz.prog 19 #[.string a0] w fun e w' => e = .returned (.bool r) ∧ Drawn0 w w' := by
 have H : (some ((a0.size : Int) == 768)) = some r := h
 clear h
 obtain rfl := Option.some.inj H
 go_enter Tryz.func19, Tryz.ntmps19
 go_wp2
 go_ret
 exact ⟨by first | rfl | (simp; done) | (simp [*]; done), by repeat (first | exact Drawn0.refl _ | apply Drawn0.step)⟩

/-! ### answer_State: function 40 -/
def answer_State.f (a0 : Int) : Option (Bool) := if a0 ≥ 0 then (some (decide (a0 ≤ 7))) else (some false)
set_option maxHeartbeats 8000000 in
set_option maxRecDepth 100000 in
theorem answer_State.calls (a0 : Int) (r : Bool) (w : World) (h : answer_State.f a0 = some r) :
  Calls Tryz.prog 40 #[.int .i64 a0] w fun e w' => e = .returned (.bool r) ∧ Drawn0 w w' := by
 have H : (if a0 ≥ 0 then (some (decide (a0 ≤ 7))) else (some false)) = some r := h
 clear h
 by_cases c2 : a0 ≥ 0
 case neg =>
  rw [if_neg c2] at H
  have c2b0 : decide (0 ≤ a0) = false := decide_eq_false c2
  clear c2
  obtain rfl := Option.some.inj H
  go_enter Tryz.func40, Tryz.ntmps40
  go_wp2
  go_ret
  exact ⟨by first | rfl | (simp; done) | (simp [*]; done), by repeat (first | exact Drawn0.refl _ | apply Drawn0.step)⟩
 rw [if_pos c2] at H
 have c2b0 : decide (0 ≤ a0) = true := decide_eq_true c2
 clear c2
 obtain rfl := Option.some.inj H
 go_enter Tryz.func40, Tryz.ntmps40
 go_wp2
 go_ret
 exact ⟨by first | rfl | (simp; done) | (simp [*]; done), by repeat (first | exact Drawn0.refl _ | apply Drawn0.step)⟩

/-! ### answer_Status: function 41 -/
def answer_Status.f (a0 : Int) : Option (Bool) := if a0 ≥ 0 then (some (decide (a0 ≤ 6))) else (some false)
set_option maxHeartbeats 8000000 in
set_option maxRecDepth 100000 in
theorem answer_Status.calls (a0 : Int) (r : Bool) (w : World) (h : answer_Status.f a0 = some r) :
  Calls Tryz.prog 41 #[.int .i64 a0] w fun e w' => e = .returned (.bool r) ∧ Drawn0 w w' := by
 have H : (if a0 ≥ 0 then (some (decide (a0 ≤ 6))) else (some false)) = some r := h
 clear h
 by_cases c2 : a0 ≥ 0
 case neg =>
  rw [if_neg c2] at H
  have c2b0 : decide (0 ≤ a0) = false := decide_eq_false c2
  clear c2
  obtain rfl := Option.some.inj H
  go_enter Tryz.func41, Tryz.ntmps41
  go_wp2
  go_ret
  exact ⟨by first | rfl | (simp; done) | (simp [*]; done), by repeat (first | exact Drawn0.refl _ | apply Drawn0.step)⟩
 rw [if_pos c2] at H
 have c2b0 : decide (0 ≤ a0) = true := decide_eq_true c2
 clear c2
 obtain rfl := Option.some.inj H
 go_enter Tryz.func41, Tryz.ntmps41
 go_wp2
 go_ret
 exact ⟨by first | rfl | (simp; done) | (simp [*]; done), by repeat (first | exact Drawn0.refl _ | apply Drawn0.step)⟩

/-! ### entry_in: function 59 -/
def entry_in.f (a0 : Int) (a1 : Int) (a2 : Int) : Option (Bool) := if a0 ≥ a1 then (some (decide (a0 ≤ a2))) else (some false)
set_option maxHeartbeats 8000000 in
set_option maxRecDepth 100000 in
theorem entry_in.calls (a0 : Int) (a1 : Int) (a2 : Int) (r : Bool) (w : World) (h : entry_in.f a0 a1 a2 = some r) :
  Calls Tryz.prog 59 #[.int .i64 a0, .int .i64 a1, .int .i64 a2] w fun e w' => e = .returned (.bool r) ∧ Drawn0 w w' := by
 have H : (if a0 ≥ a1 then (some (decide (a0 ≤ a2))) else (some false)) = some r := h
 clear h
 by_cases c4 : a0 ≥ a1
 case neg =>
  rw [if_neg c4] at H
  have c4b0 : decide (a1 ≤ a0) = false := decide_eq_false c4
  clear c4
  obtain rfl := Option.some.inj H
  go_enter Tryz.func59, Tryz.ntmps59
  go_wp2
  go_ret
  exact ⟨by first | rfl | (simp; done) | (simp [*]; done), by repeat (first | exact Drawn0.refl _ | apply Drawn0.step)⟩
 rw [if_pos c4] at H
 have c4b0 : decide (a1 ≤ a0) = true := decide_eq_true c4
 clear c4
 obtain rfl := Option.some.inj H
 go_enter Tryz.func59, Tryz.ntmps59
 go_wp2
 go_ret
 exact ⟨by first | rfl | (simp; done) | (simp [*]; done), by repeat (first | exact Drawn0.refl _ | apply Drawn0.step)⟩

/-! ### entry_Size: function 42 -/
def entry_Size.f (a0 : Int) : Option (Bool) := (entry_in.f a0 1 288).bind fun t109 => (some t109)
set_option maxHeartbeats 8000000 in
set_option maxRecDepth 100000 in
theorem entry_Size.calls (a0 : Int) (r : Bool) (w : World) (h : entry_Size.f a0 = some r) :
  Calls Tryz.prog 42 #[.int .i64 a0] w fun e w' => e = .returned (.bool r) ∧ Drawn0 w w' := by
 have H : ((entry_in.f a0 1 288).bind fun t109 => (some t109)) = some r := h
 clear h
 replace H := Option.bind_eq_some_iff.mp H
 obtain ⟨t109, A20, H⟩ := H
 replace H : (some t109) = some r := H
 have A2 := Aside0.mk A20
 clear A20
 obtain rfl := Option.some.inj H
 go_enter Tryz.func42, Tryz.ntmps42
 go_wp2_with (first | ((with_reducible refine gate_callee (f := 59) rfl ?_); refine goesL_ (some 4) rfl rfl Tryz.func59 (by kernel_rfl) rfl #[.int .i64 a0, .int .i64 1, .int .i64 288] rfl ka ?_; (with_reducible refine (entry_in.calls a0 1 288 t109 _ A2.out).mono ?_); rintro e w' ⟨rfl, ⟨nd, rfl⟩⟩; refine ⟨_, rfl, ?_⟩))
 go_ret
 exact ⟨by first | rfl | (simp; done) | (simp [*]; done), by repeat (first | exact Drawn0.refl _ | apply Drawn0.step)⟩

/-! ### entry_Slot: function 43 -/
def entry_Slot.f (a0 : Int) : Option (Bool) := (entry_in.f a0 0 1).bind fun t110 => (some t110)
set_option maxHeartbeats 8000000 in
set_option maxRecDepth 100000 in
theorem entry_Slot.calls (a0 : Int) (r : Bool) (w : World) (h : entry_Slot.f a0 = some r) :
  Calls Tryz.prog 43 #[.int .i64 a0] w fun e w' => e = .returned (.bool r) ∧ Drawn0 w w' := by
 have H : ((entry_in.f a0 0 1).bind fun t110 => (some t110)) = some r := h
 clear h
 replace H := Option.bind_eq_some_iff.mp H
 obtain ⟨t110, A20, H⟩ := H
 replace H : (some t110) = some r := H
 have A2 := Aside0.mk A20
 clear A20
 obtain rfl := Option.some.inj H
 go_enter Tryz.func43, Tryz.ntmps43
 go_wp2_with (first | ((with_reducible refine gate_callee (f := 59) rfl ?_); refine goesL_ (some 4) rfl rfl Tryz.func59 (by kernel_rfl) rfl #[.int .i64 a0, .int .i64 0, .int .i64 1] rfl ka ?_; (with_reducible refine (entry_in.calls a0 0 1 t110 _ A2.out).mono ?_); rintro e w' ⟨rfl, ⟨nd, rfl⟩⟩; refine ⟨_, rfl, ?_⟩))
 go_ret
 exact ⟨by first | rfl | (simp; done) | (simp [*]; done), by repeat (first | exact Drawn0.refl _ | apply Drawn0.step)⟩

/-! ### nor_Sector: function 57 -/
def nor_Sector.f (a0 : Int) : Option (Bool) := if a0 ≥ 0 then (some (decide (a0 < 8))) else (some false)
set_option maxHeartbeats 8000000 in
set_option maxRecDepth 100000 in
theorem nor_Sector.calls (a0 : Int) (r : Bool) (w : World) (h : nor_Sector.f a0 = some r) :
  Calls Tryz.prog 57 #[.int .i64 a0] w fun e w' => e = .returned (.bool r) ∧ Drawn0 w w' := by
 have H : (if a0 ≥ 0 then (some (decide (a0 < 8))) else (some false)) = some r := h
 clear h
 by_cases c2 : a0 ≥ 0
 case neg =>
  rw [if_neg c2] at H
  have c2b0 : decide (0 ≤ a0) = false := decide_eq_false c2
  clear c2
  obtain rfl := Option.some.inj H
  go_enter Tryz.func57, Tryz.ntmps57
  go_wp2
  go_ret
  exact ⟨by first | rfl | (simp; done) | (simp [*]; done), by repeat (first | exact Drawn0.refl _ | apply Drawn0.step)⟩
 rw [if_pos c2] at H
 have c2b0 : decide (0 ≤ a0) = true := decide_eq_true c2
 clear c2
 obtain rfl := Option.some.inj H
 go_enter Tryz.func57, Tryz.ntmps57
 go_wp2
 go_ret
 exact ⟨by first | rfl | (simp; done) | (simp [*]; done), by repeat (first | exact Drawn0.refl _ | apply Drawn0.step)⟩

/-! ### nor_Begins: function 58 -/
def nor_Begins.f (a0 : Int) : Option (Bool) := if a0 ≥ 0 then (if a0 < 768 then (some ((Int.tmod a0 4) == 0)) else (some false)) else (some false)
set_option maxHeartbeats 8000000 in
set_option maxRecDepth 100000 in
theorem nor_Begins.calls (a0 : Int) (r : Bool) (w : World) (h : nor_Begins.f a0 = some r) :
  Calls Tryz.prog 58 #[.int .i64 a0] w fun e w' => e = .returned (.bool r) ∧ Drawn0 w w' := by
 have H : (if a0 ≥ 0 then (if a0 < 768 then (some ((Int.tmod a0 4) == 0)) else (some false)) else (some false)) = some r := h
 clear h
 by_cases c2 : a0 ≥ 0
 case neg =>
  rw [if_neg c2] at H
  have c2b0 : decide (0 ≤ a0) = false := decide_eq_false c2
  clear c2
  obtain rfl := Option.some.inj H
  go_enter Tryz.func58, Tryz.ntmps58
  go_wp2
  go_ret
  exact ⟨by first | rfl | (simp; done) | (simp [*]; done), by repeat (first | exact Drawn0.refl _ | apply Drawn0.step)⟩
 rw [if_pos c2] at H
 have c2b0 : decide (0 ≤ a0) = true := decide_eq_true c2
 clear c2
 by_cases c3 : a0 < 768
 case neg =>
  rw [if_neg c3] at H
  have c3b0 : decide (a0 < 768) = false := decide_eq_false c3
  clear c3
  obtain rfl := Option.some.inj H
  go_enter Tryz.func58, Tryz.ntmps58
  go_wp2
  go_ret
  exact ⟨by first | rfl | (simp; done) | (simp [*]; done), by repeat (first | exact Drawn0.refl _ | apply Drawn0.step)⟩
 rw [if_pos c3] at H
 have c3b0 : decide (a0 < 768) = true := decide_eq_true c3
 clear c3
 obtain rfl := Option.some.inj H
 go_enter Tryz.func58, Tryz.ntmps58
 go_wp2
 go_ret
 exact ⟨by first | rfl | (simp; done) | (simp [*]; done), by repeat (first | exact Drawn0.refl _ | apply Drawn0.step)⟩

/-! ### ops_May: function 39 -/
def ops_May.f (a0_0 : Bool) (a0_1 : Int) (a0_2 : ByteArray) : Option (Bool) := if a0_0 = true then (if a0_1 ≥ 0 then (if (Int.tmod a0_1 96) = 0 then ((nor_Sector.f (wrap64 (Int.tdiv a0_1 96))).bind fun t112 => (if t112 = true then (some (a0_2.toList == ([] : List UInt8))) else (some false))) else (some false)) else (some false)) else ((nor_Begins.f a0_1).bind fun t113 => (if t113 = true then (some ((a0_2.size : Int) == 4)) else (some false)))
set_option maxHeartbeats 8000000 in
set_option maxRecDepth 100000 in
theorem ops_May.calls (a0_0 : Bool) (a0_1 : Int) (a0_2 : ByteArray) (r : Bool) (w : World) (h : ops_May.f a0_0 a0_1 a0_2 = some r) :
  Calls Tryz.prog 39 #[.agg #[.bool a0_0, .int .i64 a0_1, .string a0_2]] w fun e w' => e = .returned (.bool r) ∧ Below w.heap.size w w' := by
 have hu41 := Tryz.underlying41
 have HB := Aside0.mk (Below.refl w.heap.size w)
 have H : (if a0_0 = true then (if a0_1 ≥ 0 then (if (Int.tmod a0_1 96) = 0 then ((nor_Sector.f (wrap64 (Int.tdiv a0_1 96))).bind fun t112 => (if t112 = true then (some (a0_2.toList == ([] : List UInt8))) else (some false))) else (some false)) else (some false)) else ((nor_Begins.f a0_1).bind fun t113 => (if t113 = true then (some ((a0_2.size : Int) == 4)) else (some false)))) = some r := h
 clear h
 by_cases c2 : a0_0 = true
 ·subst c2
  have H1 : (if a0_1 ≥ 0 then (if (Int.tmod a0_1 96) = 0 then ((nor_Sector.f (wrap64 (Int.tdiv a0_1 96))).bind fun t112 => (if t112 = true then (some (a0_2.toList == ([] : List UInt8))) else (some false))) else (some false)) else (some false)) = some r := by rw [if_pos rfl] at H; exact H
  clear H; have H := H1; clear H1
  by_cases c3 : a0_1 ≥ 0
  case neg =>
   rw [if_neg c3] at H
   have c3b0 : decide (0 ≤ a0_1) = false := decide_eq_false c3
   clear c3
   obtain rfl := Option.some.inj H
   go_enter Tryz.func39, Tryz.ntmps39
   go_wp2_with (first | ((with_reducible refine gate_dst (N := 1) rfl ?_); (try (refine gate_guard (by rfl) ?_; dsimp only)); refine box_event ?hg (N := 1) ?hd (cs := #[.bool true, .int .i64 a0_1, .string a0_2]) (t := 41) ?hr ?_; (case hd => rfl); (case hg => rfl); (case hr => first | (go_simp; done) | (go_simp; rfl)); intro gb111 hg w13 hbox hb; have n0_ := Aside0.mk (below_step (kb HB.out) hb); have n1_ := Aside0.mk (hbox); have n2_ := Aside0.mk ((kz hg (below_size (kb HB.out)) : w.heap.size ≤ gb111)); have n3_ := Aside0.mk ((kz hg (below_size (kb HB.out)) : w.heap.size ≤ gb111)); clear HB; have HB := n0_; have BK111 := n1_; have GW111 := n2_; have GE111 := n3_; clear n0_ n1_ n2_ n3_; clear hb hbox hg; obtain ⟨hcz14_0, hcz14_1, hcz14_2⟩ := kc3 BK111.out; obtain ⟨hfz14_0, hfz14_1, hfz14_2⟩ := kf3 BK111.out))
   go_ret
   exact ⟨by first | rfl | (simp [errW_none, errW_some] <;> rfl) | (simp [*, errW_none, errW_some] <;> rfl), kb1 HB.out GE111.out⟩
  rw [if_pos c3] at H
  have c3b0 : decide (0 ≤ a0_1) = true := decide_eq_true c3
  clear c3
  by_cases c4 : (Int.tmod a0_1 96) = 0
  case neg =>
   rw [if_neg c4] at H
   have c4b0 : ((Int.tmod a0_1 96) == 0) = false := beq_eq_false_iff_ne.mpr c4
   have c4b1 : ((Int.tmod a0_1 96) != 0) = true := bne_iff_ne.mpr c4
   obtain rfl := Option.some.inj H
   go_enter Tryz.func39, Tryz.ntmps39
   go_wp2_with (first | ((with_reducible refine gate_dst (N := 1) rfl ?_); (try (refine gate_guard (by rfl) ?_; dsimp only)); refine box_event ?hg (N := 1) ?hd (cs := #[.bool true, .int .i64 a0_1, .string a0_2]) (t := 41) ?hr ?_; (case hd => rfl); (case hg => rfl); (case hr => first | (go_simp; done) | (go_simp; rfl)); intro gb111 hg w11 hbox hb; have n0_ := Aside0.mk (below_step (kb HB.out) hb); have n1_ := Aside0.mk (hbox); have n2_ := Aside0.mk ((kz hg (below_size (kb HB.out)) : w.heap.size ≤ gb111)); have n3_ := Aside0.mk ((kz hg (below_size (kb HB.out)) : w.heap.size ≤ gb111)); clear HB; have HB := n0_; have BK111 := n1_; have GW111 := n2_; have GE111 := n3_; clear n0_ n1_ n2_ n3_; clear hb hbox hg; obtain ⟨hcz12_0, hcz12_1, hcz12_2⟩ := kc3 BK111.out; obtain ⟨hfz12_0, hfz12_1, hfz12_2⟩ := kf3 BK111.out))
   go_ret
   exact ⟨by first | rfl | (simp [errW_none, errW_some] <;> rfl) | (simp [*, errW_none, errW_some] <;> rfl), kb1 HB.out GE111.out⟩
  rw [if_pos c4] at H
  have c4b0 : ((Int.tmod a0_1 96) == 0) = true := beq_iff_eq.mpr c4
  have c4b1 : ((Int.tmod a0_1 96) != 0) = false := bne_eq_false_iff_eq.mpr c4
  clear c4
  replace H := Option.bind_eq_some_iff.mp H
  obtain ⟨t112, A50, H⟩ := H
  replace H : (if t112 = true then (some (a0_2.toList == ([] : List UInt8))) else (some false)) = some r := H
  have A5 := Aside0.mk A50
  clear A50
  by_cases c6 : t112 = true
  case neg =>
   replace c6 := Bool.eq_false_iff.mpr c6
   subst c6
   have H1 : (some false) = some r := by rw [if_neg (show ¬ (false = true) by decide)] at H; exact H
   clear H; have H := H1; clear H1
   obtain rfl := Option.some.inj H
   go_enter Tryz.func39, Tryz.ntmps39
   go_wp2_with (first | ((with_reducible refine gate_dst (N := 1) rfl ?_); (try (refine gate_guard (by rfl) ?_; dsimp only)); refine box_event ?hg (N := 1) ?hd (cs := #[.bool true, .int .i64 a0_1, .string a0_2]) (t := 41) ?hr ?_; (case hd => rfl); (case hg => rfl); (case hr => first | (go_simp; done) | (go_simp; rfl)); intro gb111 hg w9 hbox hb; have n0_ := Aside0.mk (below_step (kb HB.out) hb); have n1_ := Aside0.mk (hbox); have n2_ := Aside0.mk ((kz hg (below_size (kb HB.out)) : w.heap.size ≤ gb111)); have n3_ := Aside0.mk ((kz hg (below_size (kb HB.out)) : w.heap.size ≤ gb111)); clear HB; have HB := n0_; have BK111 := n1_; have GW111 := n2_; have GE111 := n3_; clear n0_ n1_ n2_ n3_; clear hb hbox hg; obtain ⟨hcz10_0, hcz10_1, hcz10_2⟩ := kc3 BK111.out; obtain ⟨hfz10_0, hfz10_1, hfz10_2⟩ := kf3 BK111.out) | (go_at_call 57; (with_reducible refine (nor_Sector.calls (wrap64 (Int.tdiv a0_1 96)) false _ A5.out).mono ?_); rintro e w' ⟨rfl, ⟨nd, rfl⟩⟩))
   go_ret
   exact ⟨by first | rfl | (simp [errW_none, errW_some] <;> rfl) | (simp [*, errW_none, errW_some] <;> rfl), kb1 HB.out GE111.out⟩
  subst c6
  have H1 : (some (a0_2.toList == ([] : List UInt8))) = some r := by rw [if_pos rfl] at H; exact H
  clear H; have H := H1; clear H1
  obtain rfl := Option.some.inj H
  go_enter Tryz.func39, Tryz.ntmps39
  go_wp2_with (first | ((with_reducible refine gate_dst (N := 1) rfl ?_); (try (refine gate_guard (by rfl) ?_; dsimp only)); refine box_event ?hg (N := 1) ?hd (cs := #[.bool true, .int .i64 a0_1, .string a0_2]) (t := 41) ?hr ?_; (case hd => rfl); (case hg => rfl); (case hr => first | (go_simp; done) | (go_simp; rfl)); intro gb111 hg w7 hbox hb; have n0_ := Aside0.mk (below_step (kb HB.out) hb); have n1_ := Aside0.mk (hbox); have n2_ := Aside0.mk ((kz hg (below_size (kb HB.out)) : w.heap.size ≤ gb111)); have n3_ := Aside0.mk ((kz hg (below_size (kb HB.out)) : w.heap.size ≤ gb111)); clear HB; have HB := n0_; have BK111 := n1_; have GW111 := n2_; have GE111 := n3_; clear n0_ n1_ n2_ n3_; clear hb hbox hg; obtain ⟨hcz8_0, hcz8_1, hcz8_2⟩ := kc3 BK111.out; obtain ⟨hfz8_0, hfz8_1, hfz8_2⟩ := kf3 BK111.out) | (go_at_call 57; (with_reducible refine (nor_Sector.calls (wrap64 (Int.tdiv a0_1 96)) true _ A5.out).mono ?_); rintro e w' ⟨rfl, ⟨nd, rfl⟩⟩))
  go_ret
  exact ⟨by first | rfl | (simp [errW_none, errW_some] <;> rfl) | (simp [*, errW_none, errW_some] <;> rfl), kb1 HB.out GE111.out⟩
 ·replace c2 := Bool.eq_false_iff.mpr c2
  subst c2
  have H1 : ((nor_Begins.f a0_1).bind fun t113 => (if t113 = true then (some ((a0_2.size : Int) == 4)) else (some false))) = some r := by rw [if_neg (show ¬ (false = true) by decide)] at H; exact H
  clear H; have H := H1; clear H1
  replace H := Option.bind_eq_some_iff.mp H
  obtain ⟨t113, A150, H⟩ := H
  replace H : (if t113 = true then (some ((a0_2.size : Int) == 4)) else (some false)) = some r := H
  have A15 := Aside0.mk A150
  clear A150
  by_cases c16 : t113 = true
  case neg =>
   replace c16 := Bool.eq_false_iff.mpr c16
   subst c16
   have H1 : (some false) = some r := by rw [if_neg (show ¬ (false = true) by decide)] at H; exact H
   clear H; have H := H1; clear H1
   obtain rfl := Option.some.inj H
   go_enter Tryz.func39, Tryz.ntmps39
   go_wp2_with (first | ((with_reducible refine gate_dst (N := 1) rfl ?_); (try (refine gate_guard (by rfl) ?_; dsimp only)); refine box_event ?hg (N := 1) ?hd (cs := #[.bool false, .int .i64 a0_1, .string a0_2]) (t := 41) ?hr ?_; (case hd => rfl); (case hg => rfl); (case hr => first | (go_simp; done) | (go_simp; rfl)); intro gb111 hg w19 hbox hb; have n0_ := Aside0.mk (below_step (kb HB.out) hb); have n1_ := Aside0.mk (hbox); have n2_ := Aside0.mk ((kz hg (below_size (kb HB.out)) : w.heap.size ≤ gb111)); have n3_ := Aside0.mk ((kz hg (below_size (kb HB.out)) : w.heap.size ≤ gb111)); clear HB; have HB := n0_; have BK111 := n1_; have GW111 := n2_; have GE111 := n3_; clear n0_ n1_ n2_ n3_; clear hb hbox hg; obtain ⟨hcz20_0, hcz20_1, hcz20_2⟩ := kc3 BK111.out; obtain ⟨hfz20_0, hfz20_1, hfz20_2⟩ := kf3 BK111.out) | ((with_reducible refine gate_callee (f := 58) rfl ?_); refine goesL_ (some 27) rfl rfl Tryz.func58 (by kernel_rfl) rfl #[.int .i64 a0_1] rfl ka ?_; (with_reducible refine (nor_Begins.calls a0_1 false _ A15.out).mono ?_); rintro e w' ⟨rfl, ⟨nd, rfl⟩⟩; refine ⟨_, rfl, ?_⟩))
   go_ret
   exact ⟨by first | rfl | (simp [errW_none, errW_some] <;> rfl) | (simp [*, errW_none, errW_some] <;> rfl), kb1 HB.out GE111.out⟩
  subst c16
  have H1 : (some ((a0_2.size : Int) == 4)) = some r := by rw [if_pos rfl] at H; exact H
  clear H; have H := H1; clear H1
  obtain rfl := Option.some.inj H
  go_enter Tryz.func39, Tryz.ntmps39
  go_wp2_with (first | ((with_reducible refine gate_dst (N := 1) rfl ?_); (try (refine gate_guard (by rfl) ?_; dsimp only)); refine box_event ?hg (N := 1) ?hd (cs := #[.bool false, .int .i64 a0_1, .string a0_2]) (t := 41) ?hr ?_; (case hd => rfl); (case hg => rfl); (case hr => first | (go_simp; done) | (go_simp; rfl)); intro gb111 hg w17 hbox hb; have n0_ := Aside0.mk (below_step (kb HB.out) hb); have n1_ := Aside0.mk (hbox); have n2_ := Aside0.mk ((kz hg (below_size (kb HB.out)) : w.heap.size ≤ gb111)); have n3_ := Aside0.mk ((kz hg (below_size (kb HB.out)) : w.heap.size ≤ gb111)); clear HB; have HB := n0_; have BK111 := n1_; have GW111 := n2_; have GE111 := n3_; clear n0_ n1_ n2_ n3_; clear hb hbox hg; obtain ⟨hcz18_0, hcz18_1, hcz18_2⟩ := kc3 BK111.out; obtain ⟨hfz18_0, hfz18_1, hfz18_2⟩ := kf3 BK111.out) | ((with_reducible refine gate_callee (f := 58) rfl ?_); refine goesL_ (some 27) rfl rfl Tryz.func58 (by kernel_rfl) rfl #[.int .i64 a0_1] rfl ka ?_; (with_reducible refine (nor_Begins.calls a0_1 true _ A15.out).mono ?_); rintro e w' ⟨rfl, ⟨nd, rfl⟩⟩; refine ⟨_, rfl, ?_⟩))
  go_ret
  exact ⟨by first | rfl | (simp [errW_none, errW_some] <;> rfl) | (simp [*, errW_none, errW_some] <;> rfl), kb1 HB.out GE111.out⟩

-- its contract: by hand
/-! ### slices_ContainsFunc_Op: function 44 -/
def slices_ContainsFunc_Op.f (l0 : List (S41)) : Option (Bool) := if l0.length ≤ 4611686018427387904 then some (l0.any fun o => !((ops_May.f o.f0 o.f1 o.f2).getD true)) else none

end Go.Proofs.YthkpaoajfiapkaaGreat.P
end
section
set_option linter.unusedVariables false
set_option linter.unusedSimpArgs false
set_option maxHeartbeats 4000000
namespace Go.Proofs.YthkpaoajfiapkaaGreat.P
open Go.RowKit Go.Proofs.YthkpaoajfiapkaaGreatW.PrintWords Go.Proofs.YthkpaoajfiapkaaGreatW.PrintLast Go.Proofs.YthkpaoajfiapkaaGreatW.PrintMore

theorem asExt {P : Program} {f : FuncId} {args : Array Value} {w : World} {v : Ending} (h : Calls P f args w fun e w' => e = v ∧ Below w.heap.size w w') : Calls P f args w fun e w' => e = v ∧ Ext w w' := h
abbrev OpS := S41
theorem bind_ex {α β : Type} {x : Option α} {f : α → Option β} (h : ∃ a, x = some a) (k : ∀ a, ∃ b, f a = some b) : ∃ b, x.bind f = some b := by
  obtain ⟨a, rfl⟩ := h; exact k a
theorem ite_ex {α : Type} {c : Prop} [Decidable c] {x y : Option α} (h : ∃ a, x = some a) (k : ∃ a, y = some a) : ∃ a, (if c then x else y) = some a := by
  split; exact h; exact k
theorem mayOp_some (e : Bool) (a : Int) (t : ByteArray) : ∃ b, ops_May.f e a t = some b := by
  unfold ops_May.f nor_Sector.f nor_Begins.f
  repeat' first | exact ⟨_, rfl⟩ | refine ite_ex ?_ ?_ | refine bind_ex ?_ (fun _ => ?_)
def oddB (o : OpS) : Bool := !((ops_May.f o.f0 o.f1 o.f2).getD true)
theorem odd_calls (o : OpS) (w : World) :
    Calls Tryz.prog 38 #[.agg #[.bool o.f0, .int .i64 o.f1, .string o.f2]] w fun e w' => e = .returned (.bool (oddB o)) ∧ Ext w w' := by
  obtain ⟨b, hb⟩ := mayOp_some o.f0 o.f1 o.f2
  have ho : oddB o = !b := by unfold oddB; rw [hb]; rfl
  have P1 := Lib.hid (fun w => asExt (ops_May.calls o.f0 o.f1 o.f2 b w hb))
  rw [ho]
  clear ho hb
  go_enter Tryz.func38, Tryz.ntmps38
  go_wp2_with fail
  refine (P1.out _).mono ?_
  rintro e w1 ⟨rfl, B1⟩
  go_wp2
  go_ret
  exact ⟨rfl, (by repeat (first | (with_reducible exact Ext.refl _) | (with_reducible assumption) | (with_reducible refine Ext.drewN ?_ _) | (with_reducible refine Ext.drew ?_) | (with_reducible refine Ext.alloc ?_ _) | (with_reducible refine Ext.setCell ?_ (by first | exact Nat.le_refl _ | (simp <;> omega)) _) | (with_reducible refine Ext.trans ?_ (by with_reducible assumption))))⟩
set_option maxRecDepth 100000 in
theorem index_calls (A : Option Addr) (c : Nat) (l : List OpS) (w : World) (hr : Kd.C k41 w A l.length l) (hl : l.length ≤ 4611686018427387904) :
    Calls Tryz.prog 60 #[.slice A l.length c, .func (.func 38) #[] #[]] w fun e w' => (∃ r : Int, e = .returned (.int .i64 r) ∧ decide (0 ≤ r) = l.any oddB) ∧ Ext w w' := by
  have HR := Lib.hid hr
  clear hr
  obtain ⟨B, hB⟩ : ∃ B, l.any oddB = B := ⟨_, rfl⟩
  rw [hB]
  have HB := Lib.hid hB
  clear hB
  have hu40 := Tryz.underlying41
  go_enter Tryz.func60, Tryz.ntmps60
  go_wp2
  go_loopw [8] (fun i wr => ∃ j : Nat, j ≤ l.length ∧ i = .int .i64 (j : Int) ∧ Hid (∀ k (h : k < l.length), k < j → oddB l[k] = false) ∧ Hid (Ext w wr)) (fun i _ => l.length - (intOf i).toNat)
  case atStart => exact ⟨0, by omega, rfl, Lib.hid (fun k _ h => by omega), Lib.hid (Ext.refl w)⟩
  case round =>
    obtain ⟨j, hj, rfl, HJ, HE⟩ := hrel
    by_cases c : j < l.length
    · obtain ⟨ad, e1, x0, x1, x2⟩ := at_T41 HR.out (j : Int) (by omega) (by omega)
      cases e1
      replace x0 := HE.out.cell x0
      replace x1 := HE.out.cell x1
      replace x2 := HE.out.cell x2
      have hrd : rd_T41 l (j : Int) = l[j] := by
        unfold rd_T41
        rw [Int.toNat_natCast, List.getD_eq_getElem?_getD, List.getElem?_eq_getElem c]; rfl
      rw [Int.toNat_natCast] at x0 x1 x2
      rw [hrd] at x0 x1 x2
      obtain ⟨o, ho⟩ : ∃ o, l[j] = o := ⟨_, rfl⟩
      rw [ho] at x0 x1 x2
      have P1 := Lib.hid (fun w => odd_calls o w)
      cases hb : oddB o
      · rw [hb] at P1
        have HJ2 : Hid (∀ k (h : k < l.length), k < j + 1 → oddB l[k] = false) := Lib.hid (fun k h hk => by
          by_cases e : k = j
          · subst e; rw [ho]; exact hb
          · exact HJ.out k h (by omega))
        clear hb HJ ho hrd
        go_wp2_with fail
        refine (P1.out _).mono ?_
        rintro e w1 ⟨rfl, B1⟩
        go_wp2
        go_round
        case rel => exact ⟨j + 1, by omega, by go_num, HJ2, Lib.hid (HE.out.trans (by first | exact B1 | exact (by repeat (first | (with_reducible exact Ext.refl _) | (with_reducible assumption) | (with_reducible refine Ext.drewN ?_ _) | (with_reducible refine Ext.drew ?_) | (with_reducible refine Ext.alloc ?_ _) | (with_reducible refine Ext.setCell ?_ (by first | exact Nat.le_refl _ | (simp <;> omega)) _) | (with_reducible refine Ext.trans ?_ (by with_reducible assumption))))))⟩
        case measure => simp [intOf]; omega
      · rw [hb] at P1
        have hA : l.any oddB = true := List.any_eq_true.2 ⟨o, by rw [← ho]; exact List.getElem_mem c, hb⟩
        rw [HB.out] at hA
        have HA := Lib.hid hA
        clear hb HJ ho hrd hA
        go_wp2_with fail
        refine (P1.out _).mono ?_
        rintro e w1 ⟨rfl, B1⟩
        go_wp2
        go_ret
        exact ⟨⟨_, rfl, by rw [HA.out]; simp⟩, HE.out.trans (by first | exact B1 | exact (by repeat (first | (with_reducible exact Ext.refl _) | (with_reducible assumption) | (with_reducible refine Ext.drewN ?_ _) | (with_reducible refine Ext.drew ?_) | (with_reducible refine Ext.alloc ?_ _) | (with_reducible refine Ext.setCell ?_ (by first | exact Nat.le_refl _ | (simp <;> omega)) _) | (with_reducible refine Ext.trans ?_ (by with_reducible assumption)))))⟩
    · obtain rfl : j = l.length := by omega
      have hA : l.any oddB = false := by
        rw [Bool.eq_false_iff]
        intro h
        obtain ⟨o, h1, h2⟩ := List.any_eq_true.1 h
        obtain ⟨k, hk, rfl⟩ := List.getElem_of_mem h1
        rw [HJ.out k hk hk] at h2
        cases h2
      rw [HB.out] at hA
      have HA := Lib.hid hA
      clear hA HJ
      go_wp2
      go_ret
      exact ⟨⟨_, rfl, by rw [HA.out]; simp⟩, HE.out⟩
theorem slices_ContainsFunc_Op.calls (A0 : Option Addr) (c0 : Nat) (l0 : List OpS) (r : Bool) (w : World) (hr0 : Kd.C k41 w A0 l0.length l0) (hc0 : l0.length ≤ c0) (h : slices_ContainsFunc_Op.f l0 = some r) :
    Calls Tryz.prog 44 #[.slice A0 l0.length c0, .func (.func 38) #[] #[]] w fun e w' => e = .returned (.bool r) ∧ Below w.heap.size w w' := by
  unfold slices_ContainsFunc_Op.f at h
  split at h
  case isFalse => cases h
  rename_i hl
  have hr : l0.any oddB = r := Option.some.inj h
  have P1 := Lib.hid (fun w h => index_calls A0 c0 l0 w h hl)
  rw [hr] at P1
  have HR := Lib.hid hr0
  clear h hr0 hr
  go_enter Tryz.func44, Tryz.ntmps44
  go_wp2_with fail
  refine (P1.out _ HR.out).mono ?_
  rintro e w1 ⟨⟨i, rfl, hi⟩, B1⟩
  have HI := Lib.hid hi
  clear hi
  go_wp2
  go_ret
  exact ⟨by first | rfl | (simp; done) | (rw [HI.out]; done) | (simp [HI.out]), B1⟩

end Go.Proofs.YthkpaoajfiapkaaGreat.P
end
section
namespace Go.Proofs.YthkpaoajfiapkaaGreat.P
open Go.RowKit Go.Proofs.YthkpaoajfiapkaaGreatW.PrintWords Go.Proofs.YthkpaoajfiapkaaGreatW.PrintLast Go.Proofs.YthkpaoajfiapkaaGreatW.PrintMore
attribute [local go_sem] max2_int min2_int max_two min_two max_three min_three max_four min_four   -- for this text's walks alone
set_option linter.unusedVariables false
set_option linter.unusedSimpArgs false

/-! ### device_May: function 20 -/
def device_May.f (a0_0 : Int) (a0_1 : Int) (a0_2 : Int) (a0_3 : Int) (a0_4 : Int) (l0_5 : List (S41)) : Option (Bool) := (answer_State.f a0_0).bind fun t115 => (if t115 = true then ((answer_Status.f a0_1).bind fun t116 => (if t116 = true then (if a0_2 ≥ 0 then (if a0_2 ≤ 16 then (if a0_3 = 0 then ((entry_Slot.f a0_4).bind fun t117 => (if t117 = true then (if (l0_5.length : Int) ≤ 768 then ((slices_ContainsFunc_Op.f l0_5).bind fun t118 => (some (!t118))) else (some false)) else (some false))) else ((entry_Size.f a0_3).bind fun t119 => (if t119 = true then ((entry_Slot.f a0_4).bind fun t120 => (if t120 = true then (if (l0_5.length : Int) ≤ 768 then ((slices_ContainsFunc_Op.f l0_5).bind fun t121 => (some (!t121))) else (some false)) else (some false))) else (some false)))) else (some false)) else (some false)) else (some false))) else (some false))
set_option maxHeartbeats 8000000 in
set_option maxRecDepth 100000 in
theorem device_May.calls (a0_0 : Int) (a0_1 : Int) (a0_2 : Int) (a0_3 : Int) (a0_4 : Int) (A0_5 : Option Addr) (c0_5 : Nat) (l0_5 : List (S41)) (r : Bool) (w : World) (hr0_5 : Kd.C k41 w A0_5 l0_5.length l0_5) (hc0_5 : l0_5.length ≤ c0_5) (h : device_May.f a0_0 a0_1 a0_2 a0_3 a0_4 l0_5 = some r) :
  Calls Tryz.prog 20 #[.agg #[.int .i64 a0_0, .int .i64 a0_1, .int .i64 a0_2, .int .i64 a0_3, .int .i64 a0_4, .slice A0_5 l0_5.length c0_5]] w fun e w' => e = .returned (.bool r) ∧ Below w.heap.size w w' := by
 have hu24 := Tryz.underlying24
 have HR0_5 := Aside0.mk hr0_5
 have HC0_5 := Aside0.mk hc0_5
 clear hr0_5 hc0_5
 have HB := Aside0.mk (Below.refl w.heap.size w)
 have H : ((answer_State.f a0_0).bind fun t115 => (if t115 = true then ((answer_Status.f a0_1).bind fun t116 => (if t116 = true then (if a0_2 ≥ 0 then (if a0_2 ≤ 16 then (if a0_3 = 0 then ((entry_Slot.f a0_4).bind fun t117 => (if t117 = true then (if (l0_5.length : Int) ≤ 768 then ((slices_ContainsFunc_Op.f l0_5).bind fun t118 => (some (!t118))) else (some false)) else (some false))) else ((entry_Size.f a0_3).bind fun t119 => (if t119 = true then ((entry_Slot.f a0_4).bind fun t120 => (if t120 = true then (if (l0_5.length : Int) ≤ 768 then ((slices_ContainsFunc_Op.f l0_5).bind fun t121 => (some (!t121))) else (some false)) else (some false))) else (some false)))) else (some false)) else (some false)) else (some false))) else (some false))) = some r := h
 clear h
 replace H := Option.bind_eq_some_iff.mp H
 obtain ⟨t115, A20, H⟩ := H
 replace H : (if t115 = true then ((answer_Status.f a0_1).bind fun t116 => (if t116 = true then (if a0_2 ≥ 0 then (if a0_2 ≤ 16 then (if a0_3 = 0 then ((entry_Slot.f a0_4).bind fun t117 => (if t117 = true then (if (l0_5.length : Int) ≤ 768 then ((slices_ContainsFunc_Op.f l0_5).bind fun t118 => (some (!t118))) else (some false)) else (some false))) else ((entry_Size.f a0_3).bind fun t119 => (if t119 = true then ((entry_Slot.f a0_4).bind fun t120 => (if t120 = true then (if (l0_5.length : Int) ≤ 768 then ((slices_ContainsFunc_Op.f l0_5).bind fun t121 => (some (!t121))) else (some false)) else (some false))) else (some false)))) else (some false)) else (some false)) else (some false))) else (some false)) = some r := H
 have A2 := Aside0.mk A20
 clear A20
 by_cases c3 : t115 = true
 case neg =>
  replace c3 := Bool.eq_false_iff.mpr c3
  subst c3
  have H1 : (some false) = some r := by rw [if_neg (show ¬ (false = true) by decide)] at H; exact H
  clear H; have H := H1; clear H1
  obtain rfl := Option.some.inj H
  go_enter Tryz.func20, Tryz.ntmps20
  go_wp2_with (first | ((with_reducible refine gate_dst (N := 1) rfl ?_); (try (refine gate_guard (by rfl) ?_; dsimp only)); refine box_event ?hg (N := 1) ?hd (cs := #[.int .i64 a0_0, .int .i64 a0_1, .int .i64 a0_2, .int .i64 a0_3, .int .i64 a0_4, .slice A0_5 l0_5.length c0_5]) (t := 24) ?hr ?_; (case hd => rfl); (case hg => rfl); (case hr => first | (go_simp; done) | (go_simp; rfl)); intro gb114 hg w41 hbox hb; have n0_ := Aside0.mk (below_step (kb HB.out) hb); have n1_ := Aside0.mk (hbox); have n2_ := Aside0.mk ((kz hg (below_size (kb HB.out)) : w.heap.size ≤ gb114)); have n3_ := Aside0.mk ((kz hg (below_size (kb HB.out)) : w.heap.size ≤ gb114)); clear HB; have HB := n0_; have BK114 := n1_; have GW114 := n2_; have GE114 := n3_; clear n0_ n1_ n2_ n3_; clear hb hbox hg; obtain ⟨hcz42_0, hcz42_1, hcz42_2, hcz42_3, hcz42_4, hcz42_5⟩ := kc6 BK114.out; obtain ⟨hfz42_0, hfz42_1, hfz42_2, hfz42_3, hfz42_4, hfz42_5⟩ := kf6 BK114.out) | ((with_reducible refine gate_callee (f := 40) rfl ?_); refine goesL_ (some 6) rfl rfl Tryz.func40 (by kernel_rfl) rfl #[.int .i64 a0_0] rfl ka ?_; (with_reducible refine (answer_State.calls a0_0 false _ A2.out).mono ?_); rintro e w' ⟨rfl, ⟨nd, rfl⟩⟩; refine ⟨_, rfl, ?_⟩))
  go_ret
  exact ⟨by first | rfl | (simp [errW_none, errW_some] <;> rfl) | (simp [*, errW_none, errW_some] <;> rfl), kb1 HB.out GE114.out⟩
 subst c3
 have H1 : ((answer_Status.f a0_1).bind fun t116 => (if t116 = true then (if a0_2 ≥ 0 then (if a0_2 ≤ 16 then (if a0_3 = 0 then ((entry_Slot.f a0_4).bind fun t117 => (if t117 = true then (if (l0_5.length : Int) ≤ 768 then ((slices_ContainsFunc_Op.f l0_5).bind fun t118 => (some (!t118))) else (some false)) else (some false))) else ((entry_Size.f a0_3).bind fun t119 => (if t119 = true then ((entry_Slot.f a0_4).bind fun t120 => (if t120 = true then (if (l0_5.length : Int) ≤ 768 then ((slices_ContainsFunc_Op.f l0_5).bind fun t121 => (some (!t121))) else (some false)) else (some false))) else (some false)))) else (some false)) else (some false)) else (some false))) = some r := by rw [if_pos rfl] at H; exact H
 clear H; have H := H1; clear H1
 replace H := Option.bind_eq_some_iff.mp H
 obtain ⟨t116, A40, H⟩ := H
 replace H : (if t116 = true then (if a0_2 ≥ 0 then (if a0_2 ≤ 16 then (if a0_3 = 0 then ((entry_Slot.f a0_4).bind fun t117 => (if t117 = true then (if (l0_5.length : Int) ≤ 768 then ((slices_ContainsFunc_Op.f l0_5).bind fun t118 => (some (!t118))) else (some false)) else (some false))) else ((entry_Size.f a0_3).bind fun t119 => (if t119 = true then ((entry_Slot.f a0_4).bind fun t120 => (if t120 = true then (if (l0_5.length : Int) ≤ 768 then ((slices_ContainsFunc_Op.f l0_5).bind fun t121 => (some (!t121))) else (some false)) else (some false))) else (some false)))) else (some false)) else (some false)) else (some false)) = some r := H
 have A4 := Aside0.mk A40
 clear A40
 by_cases c5 : t116 = true
 case neg =>
  replace c5 := Bool.eq_false_iff.mpr c5
  subst c5
  have H1 : (some false) = some r := by rw [if_neg (show ¬ (false = true) by decide)] at H; exact H
  clear H; have H := H1; clear H1
  obtain rfl := Option.some.inj H
  go_enter Tryz.func20, Tryz.ntmps20
  go_wp2_with (first | ((with_reducible refine gate_dst (N := 1) rfl ?_); (try (refine gate_guard (by rfl) ?_; dsimp only)); refine box_event ?hg (N := 1) ?hd (cs := #[.int .i64 a0_0, .int .i64 a0_1, .int .i64 a0_2, .int .i64 a0_3, .int .i64 a0_4, .slice A0_5 l0_5.length c0_5]) (t := 24) ?hr ?_; (case hd => rfl); (case hg => rfl); (case hr => first | (go_simp; done) | (go_simp; rfl)); intro gb114 hg w39 hbox hb; have n0_ := Aside0.mk (below_step (kb HB.out) hb); have n1_ := Aside0.mk (hbox); have n2_ := Aside0.mk ((kz hg (below_size (kb HB.out)) : w.heap.size ≤ gb114)); have n3_ := Aside0.mk ((kz hg (below_size (kb HB.out)) : w.heap.size ≤ gb114)); clear HB; have HB := n0_; have BK114 := n1_; have GW114 := n2_; have GE114 := n3_; clear n0_ n1_ n2_ n3_; clear hb hbox hg; obtain ⟨hcz40_0, hcz40_1, hcz40_2, hcz40_3, hcz40_4, hcz40_5⟩ := kc6 BK114.out; obtain ⟨hfz40_0, hfz40_1, hfz40_2, hfz40_3, hfz40_4, hfz40_5⟩ := kf6 BK114.out) | ((with_reducible refine gate_callee (f := 40) rfl ?_); refine goesL_ (some 6) rfl rfl Tryz.func40 (by kernel_rfl) rfl #[.int .i64 a0_0] rfl ka ?_; (with_reducible refine (answer_State.calls a0_0 true _ A2.out).mono ?_); rintro e w' ⟨rfl, ⟨nd, rfl⟩⟩; refine ⟨_, rfl, ?_⟩) | (go_at_call 41; (with_reducible refine (answer_Status.calls a0_1 false _ A4.out).mono ?_); rintro e w' ⟨rfl, ⟨nd, rfl⟩⟩))
  go_ret
  exact ⟨by first | rfl | (simp [errW_none, errW_some] <;> rfl) | (simp [*, errW_none, errW_some] <;> rfl), kb1 HB.out GE114.out⟩
 subst c5
 have H1 : (if a0_2 ≥ 0 then (if a0_2 ≤ 16 then (if a0_3 = 0 then ((entry_Slot.f a0_4).bind fun t117 => (if t117 = true then (if (l0_5.length : Int) ≤ 768 then ((slices_ContainsFunc_Op.f l0_5).bind fun t118 => (some (!t118))) else (some false)) else (some false))) else ((entry_Size.f a0_3).bind fun t119 => (if t119 = true then ((entry_Slot.f a0_4).bind fun t120 => (if t120 = true then (if (l0_5.length : Int) ≤ 768 then ((slices_ContainsFunc_Op.f l0_5).bind fun t121 => (some (!t121))) else (some false)) else (some false))) else (some false)))) else (some false)) else (some false)) = some r := by rw [if_pos rfl] at H; exact H
 clear H; have H := H1; clear H1
 by_cases c6 : a0_2 ≥ 0
 case neg =>
  rw [if_neg c6] at H
  have c6b0 : decide (0 ≤ a0_2) = false := decide_eq_false c6
  clear c6
  obtain rfl := Option.some.inj H
  go_enter Tryz.func20, Tryz.ntmps20
  go_wp2_with (first | ((with_reducible refine gate_dst (N := 1) rfl ?_); (try (refine gate_guard (by rfl) ?_; dsimp only)); refine box_event ?hg (N := 1) ?hd (cs := #[.int .i64 a0_0, .int .i64 a0_1, .int .i64 a0_2, .int .i64 a0_3, .int .i64 a0_4, .slice A0_5 l0_5.length c0_5]) (t := 24) ?hr ?_; (case hd => rfl); (case hg => rfl); (case hr => first | (go_simp; done) | (go_simp; rfl)); intro gb114 hg w37 hbox hb; have n0_ := Aside0.mk (below_step (kb HB.out) hb); have n1_ := Aside0.mk (hbox); have n2_ := Aside0.mk ((kz hg (below_size (kb HB.out)) : w.heap.size ≤ gb114)); have n3_ := Aside0.mk ((kz hg (below_size (kb HB.out)) : w.heap.size ≤ gb114)); clear HB; have HB := n0_; have BK114 := n1_; have GW114 := n2_; have GE114 := n3_; clear n0_ n1_ n2_ n3_; clear hb hbox hg; obtain ⟨hcz38_0, hcz38_1, hcz38_2, hcz38_3, hcz38_4, hcz38_5⟩ := kc6 BK114.out; obtain ⟨hfz38_0, hfz38_1, hfz38_2, hfz38_3, hfz38_4, hfz38_5⟩ := kf6 BK114.out) | ((with_reducible refine gate_callee (f := 40) rfl ?_); refine goesL_ (some 6) rfl rfl Tryz.func40 (by kernel_rfl) rfl #[.int .i64 a0_0] rfl ka ?_; (with_reducible refine (answer_State.calls a0_0 true _ A2.out).mono ?_); rintro e w' ⟨rfl, ⟨nd, rfl⟩⟩; refine ⟨_, rfl, ?_⟩) | (go_at_call 41; (with_reducible refine (answer_Status.calls a0_1 true _ A4.out).mono ?_); rintro e w' ⟨rfl, ⟨nd, rfl⟩⟩))
  go_ret
  exact ⟨by first | rfl | (simp [errW_none, errW_some] <;> rfl) | (simp [*, errW_none, errW_some] <;> rfl), kb1 HB.out GE114.out⟩
 rw [if_pos c6] at H
 have c6b0 : decide (0 ≤ a0_2) = true := decide_eq_true c6
 clear c6
 by_cases c7 : a0_2 ≤ 16
 case neg =>
  rw [if_neg c7] at H
  have c7b0 : decide (a0_2 ≤ 16) = false := decide_eq_false c7
  clear c7
  obtain rfl := Option.some.inj H
  go_enter Tryz.func20, Tryz.ntmps20
  go_wp2_with (first | ((with_reducible refine gate_dst (N := 1) rfl ?_); (try (refine gate_guard (by rfl) ?_; dsimp only)); refine box_event ?hg (N := 1) ?hd (cs := #[.int .i64 a0_0, .int .i64 a0_1, .int .i64 a0_2, .int .i64 a0_3, .int .i64 a0_4, .slice A0_5 l0_5.length c0_5]) (t := 24) ?hr ?_; (case hd => rfl); (case hg => rfl); (case hr => first | (go_simp; done) | (go_simp; rfl)); intro gb114 hg w35 hbox hb; have n0_ := Aside0.mk (below_step (kb HB.out) hb); have n1_ := Aside0.mk (hbox); have n2_ := Aside0.mk ((kz hg (below_size (kb HB.out)) : w.heap.size ≤ gb114)); have n3_ := Aside0.mk ((kz hg (below_size (kb HB.out)) : w.heap.size ≤ gb114)); clear HB; have HB := n0_; have BK114 := n1_; have GW114 := n2_; have GE114 := n3_; clear n0_ n1_ n2_ n3_; clear hb hbox hg; obtain ⟨hcz36_0, hcz36_1, hcz36_2, hcz36_3, hcz36_4, hcz36_5⟩ := kc6 BK114.out; obtain ⟨hfz36_0, hfz36_1, hfz36_2, hfz36_3, hfz36_4, hfz36_5⟩ := kf6 BK114.out) | ((with_reducible refine gate_callee (f := 40) rfl ?_); refine goesL_ (some 6) rfl rfl Tryz.func40 (by kernel_rfl) rfl #[.int .i64 a0_0] rfl ka ?_; (with_reducible refine (answer_State.calls a0_0 true _ A2.out).mono ?_); rintro e w' ⟨rfl, ⟨nd, rfl⟩⟩; refine ⟨_, rfl, ?_⟩) | (go_at_call 41; (with_reducible refine (answer_Status.calls a0_1 true _ A4.out).mono ?_); rintro e w' ⟨rfl, ⟨nd, rfl⟩⟩))
  go_ret
  exact ⟨by first | rfl | (simp [errW_none, errW_some] <;> rfl) | (simp [*, errW_none, errW_some] <;> rfl), kb1 HB.out GE114.out⟩
 rw [if_pos c7] at H
 have c7b0 : decide (a0_2 ≤ 16) = true := decide_eq_true c7
 clear c7
 by_cases c8 : a0_3 = 0
 ·rw [if_pos c8] at H
  have c8b0 : (a0_3 == 0) = true := beq_iff_eq.mpr c8
  have c8b1 : (a0_3 != 0) = false := bne_eq_false_iff_eq.mpr c8
  clear c8
  replace H := Option.bind_eq_some_iff.mp H
  obtain ⟨t117, A90, H⟩ := H
  replace H : (if t117 = true then (if (l0_5.length : Int) ≤ 768 then ((slices_ContainsFunc_Op.f l0_5).bind fun t118 => (some (!t118))) else (some false)) else (some false)) = some r := H
  have A9 := Aside0.mk A90
  clear A90
  by_cases c10 : t117 = true
  case neg =>
   replace c10 := Bool.eq_false_iff.mpr c10
   subst c10
   have H1 : (some false) = some r := by rw [if_neg (show ¬ (false = true) by decide)] at H; exact H
   clear H; have H := H1; clear H1
   obtain rfl := Option.some.inj H
   go_enter Tryz.func20, Tryz.ntmps20
   go_wp2_with (first | ((with_reducible refine gate_dst (N := 1) rfl ?_); (try (refine gate_guard (by rfl) ?_; dsimp only)); refine box_event ?hg (N := 1) ?hd (cs := #[.int .i64 a0_0, .int .i64 a0_1, .int .i64 a0_2, .int .i64 a0_3, .int .i64 a0_4, .slice A0_5 l0_5.length c0_5]) (t := 24) ?hr ?_; (case hd => rfl); (case hg => rfl); (case hr => first | (go_simp; done) | (go_simp; rfl)); intro gb114 hg w18 hbox hb; have n0_ := Aside0.mk (below_step (kb HB.out) hb); have n1_ := Aside0.mk (hbox); have n2_ := Aside0.mk ((kz hg (below_size (kb HB.out)) : w.heap.size ≤ gb114)); have n3_ := Aside0.mk ((kz hg (below_size (kb HB.out)) : w.heap.size ≤ gb114)); clear HB; have HB := n0_; have BK114 := n1_; have GW114 := n2_; have GE114 := n3_; clear n0_ n1_ n2_ n3_; clear hb hbox hg; obtain ⟨hcz19_0, hcz19_1, hcz19_2, hcz19_3, hcz19_4, hcz19_5⟩ := kc6 BK114.out; obtain ⟨hfz19_0, hfz19_1, hfz19_2, hfz19_3, hfz19_4, hfz19_5⟩ := kf6 BK114.out) | ((with_reducible refine gate_callee (f := 40) rfl ?_); refine goesL_ (some 6) rfl rfl Tryz.func40 (by kernel_rfl) rfl #[.int .i64 a0_0] rfl ka ?_; (with_reducible refine (answer_State.calls a0_0 true _ A2.out).mono ?_); rintro e w' ⟨rfl, ⟨nd, rfl⟩⟩; refine ⟨_, rfl, ?_⟩) | (go_at_call 41; (with_reducible refine (answer_Status.calls a0_1 true _ A4.out).mono ?_); rintro e w' ⟨rfl, ⟨nd, rfl⟩⟩) | (go_at_call 43; (with_reducible refine (entry_Slot.calls a0_4 false _ A9.out).mono ?_); rintro e w' ⟨rfl, ⟨nd, rfl⟩⟩))
   go_ret
   exact ⟨by first | rfl | (simp [errW_none, errW_some] <;> rfl) | (simp [*, errW_none, errW_some] <;> rfl), kb1 HB.out GE114.out⟩
  subst c10
  have H1 : (if (l0_5.length : Int) ≤ 768 then ((slices_ContainsFunc_Op.f l0_5).bind fun t118 => (some (!t118))) else (some false)) = some r := by rw [if_pos rfl] at H; exact H
  clear H; have H := H1; clear H1
  by_cases c11 : (l0_5.length : Int) ≤ 768
  case neg =>
   rw [if_neg c11] at H
   have c11b0 : decide ((l0_5.length : Int) ≤ 768) = false := decide_eq_false c11
   have c11b1 : decide (l0_5.length ≤ 768) = false := decide_eq_false (by omega)
   clear c11
   obtain rfl := Option.some.inj H
   go_enter Tryz.func20, Tryz.ntmps20
   go_wp2_with (first | ((with_reducible refine gate_dst (N := 1) rfl ?_); (try (refine gate_guard (by rfl) ?_; dsimp only)); refine box_event ?hg (N := 1) ?hd (cs := #[.int .i64 a0_0, .int .i64 a0_1, .int .i64 a0_2, .int .i64 a0_3, .int .i64 a0_4, .slice A0_5 l0_5.length c0_5]) (t := 24) ?hr ?_; (case hd => rfl); (case hg => rfl); (case hr => first | (go_simp; done) | (go_simp; rfl)); intro gb114 hg w16 hbox hb; have n0_ := Aside0.mk (below_step (kb HB.out) hb); have n1_ := Aside0.mk (hbox); have n2_ := Aside0.mk ((kz hg (below_size (kb HB.out)) : w.heap.size ≤ gb114)); have n3_ := Aside0.mk ((kz hg (below_size (kb HB.out)) : w.heap.size ≤ gb114)); clear HB; have HB := n0_; have BK114 := n1_; have GW114 := n2_; have GE114 := n3_; clear n0_ n1_ n2_ n3_; clear hb hbox hg; obtain ⟨hcz17_0, hcz17_1, hcz17_2, hcz17_3, hcz17_4, hcz17_5⟩ := kc6 BK114.out; obtain ⟨hfz17_0, hfz17_1, hfz17_2, hfz17_3, hfz17_4, hfz17_5⟩ := kf6 BK114.out) | ((with_reducible refine gate_callee (f := 40) rfl ?_); refine goesL_ (some 6) rfl rfl Tryz.func40 (by kernel_rfl) rfl #[.int .i64 a0_0] rfl ka ?_; (with_reducible refine (answer_State.calls a0_0 true _ A2.out).mono ?_); rintro e w' ⟨rfl, ⟨nd, rfl⟩⟩; refine ⟨_, rfl, ?_⟩) | (go_at_call 41; (with_reducible refine (answer_Status.calls a0_1 true _ A4.out).mono ?_); rintro e w' ⟨rfl, ⟨nd, rfl⟩⟩) | (go_at_call 43; (with_reducible refine (entry_Slot.calls a0_4 true _ A9.out).mono ?_); rintro e w' ⟨rfl, ⟨nd, rfl⟩⟩))
   go_ret
   exact ⟨by first | rfl | (simp [errW_none, errW_some] <;> rfl) | (simp [*, errW_none, errW_some] <;> rfl), kb1 HB.out GE114.out⟩
  rw [if_pos c11] at H
  have c11b0 : decide ((l0_5.length : Int) ≤ 768) = true := decide_eq_true c11
  have c11b1 : decide (l0_5.length ≤ 768) = true := decide_eq_true (by omega)
  clear c11
  replace H := Option.bind_eq_some_iff.mp H
  obtain ⟨t118, A120, H⟩ := H
  replace H : (some (!t118)) = some r := H
  have A12 := Aside0.mk A120
  clear A120
  obtain rfl := Option.some.inj H
  go_enter Tryz.func20, Tryz.ntmps20
  go_wp2_with (first | ((with_reducible refine gate_dst (N := 1) rfl ?_); (try (refine gate_guard (by rfl) ?_; dsimp only)); refine box_event ?hg (N := 1) ?hd (cs := #[.int .i64 a0_0, .int .i64 a0_1, .int .i64 a0_2, .int .i64 a0_3, .int .i64 a0_4, .slice A0_5 l0_5.length c0_5]) (t := 24) ?hr ?_; (case hd => rfl); (case hg => rfl); (case hr => first | (go_simp; done) | (go_simp; rfl)); intro gb114 hg w13 hbox hb; have n0_ := Aside0.mk (below_step (kb HB.out) hb); have n1_ := Aside0.mk (hbox); have n2_ := Aside0.mk ((kz hg (below_size (kb HB.out)) : w.heap.size ≤ gb114)); have n3_ := Aside0.mk ((kz hg (below_size (kb HB.out)) : w.heap.size ≤ gb114)); clear HB; have HB := n0_; have BK114 := n1_; have GW114 := n2_; have GE114 := n3_; clear n0_ n1_ n2_ n3_; clear hb hbox hg; obtain ⟨hcz14_0, hcz14_1, hcz14_2, hcz14_3, hcz14_4, hcz14_5⟩ := kc6 BK114.out; obtain ⟨hfz14_0, hfz14_1, hfz14_2, hfz14_3, hfz14_4, hfz14_5⟩ := kf6 BK114.out) | ((with_reducible refine gate_callee (f := 40) rfl ?_); refine goesL_ (some 6) rfl rfl Tryz.func40 (by kernel_rfl) rfl #[.int .i64 a0_0] rfl ka ?_; (with_reducible refine (answer_State.calls a0_0 true _ A2.out).mono ?_); rintro e w' ⟨rfl, ⟨nd, rfl⟩⟩; refine ⟨_, rfl, ?_⟩) | (go_at_call 41; (with_reducible refine (answer_Status.calls a0_1 true _ A4.out).mono ?_); rintro e w' ⟨rfl, ⟨nd, rfl⟩⟩) | (go_at_call 43; (with_reducible refine (entry_Slot.calls a0_4 true _ A9.out).mono ?_); rintro e w' ⟨rfl, ⟨nd, rfl⟩⟩) | (go_at_call 44; (with_reducible refine (slices_ContainsFunc_Op.calls _ _ l0_5 t118 _ ?side1 ?side2 A12.out).mono ?_); (case side1 => repeat (first | exact (Kd.C_below HR0_5.out (kb1 HB.out GE114.out)) | (with_reducible refine Kd.C_alloc ?_ _) | (with_reducible refine Kd.C_drewN ?_ _) | (with_reducible refine Kd.C_drew ?_))); (case side2 => exact HC0_5.out); rintro e w15 ⟨rfl, hb⟩; have n0_ := Aside0.mk (kL BK114.out hb); have n1_ := Aside0.mk (below_step (kb1 HB.out GE114.out) hb); clear BK114; clear HB; have BK114 := n0_; have HB := n1_; clear n0_ n1_; (try clear hb); (try clear hb2); (try clear hk); (try clear hi)))
  go_ret
  exact ⟨by first | rfl | (simp [errW_none, errW_some] <;> rfl) | (simp [*, errW_none, errW_some] <;> rfl), kb1 HB.out GE114.out⟩
 ·rw [if_neg c8] at H
  have c8b0 : (a0_3 == 0) = false := beq_eq_false_iff_ne.mpr c8
  have c8b1 : (a0_3 != 0) = true := bne_iff_ne.mpr c8
  replace H := Option.bind_eq_some_iff.mp H
  obtain ⟨t119, A200, H⟩ := H
  replace H : (if t119 = true then ((entry_Slot.f a0_4).bind fun t120 => (if t120 = true then (if (l0_5.length : Int) ≤ 768 then ((slices_ContainsFunc_Op.f l0_5).bind fun t121 => (some (!t121))) else (some false)) else (some false))) else (some false)) = some r := H
  have A20 := Aside0.mk A200
  clear A200
  by_cases c21 : t119 = true
  case neg =>
   replace c21 := Bool.eq_false_iff.mpr c21
   subst c21
   have H1 : (some false) = some r := by rw [if_neg (show ¬ (false = true) by decide)] at H; exact H
   clear H; have H := H1; clear H1
   obtain rfl := Option.some.inj H
   go_enter Tryz.func20, Tryz.ntmps20
   go_wp2_with (first | ((with_reducible refine gate_dst (N := 1) rfl ?_); (try (refine gate_guard (by rfl) ?_; dsimp only)); refine box_event ?hg (N := 1) ?hd (cs := #[.int .i64 a0_0, .int .i64 a0_1, .int .i64 a0_2, .int .i64 a0_3, .int .i64 a0_4, .slice A0_5 l0_5.length c0_5]) (t := 24) ?hr ?_; (case hd => rfl); (case hg => rfl); (case hr => first | (go_simp; done) | (go_simp; rfl)); intro gb114 hg w33 hbox hb; have n0_ := Aside0.mk (below_step (kb HB.out) hb); have n1_ := Aside0.mk (hbox); have n2_ := Aside0.mk ((kz hg (below_size (kb HB.out)) : w.heap.size ≤ gb114)); have n3_ := Aside0.mk ((kz hg (below_size (kb HB.out)) : w.heap.size ≤ gb114)); clear HB; have HB := n0_; have BK114 := n1_; have GW114 := n2_; have GE114 := n3_; clear n0_ n1_ n2_ n3_; clear hb hbox hg; obtain ⟨hcz34_0, hcz34_1, hcz34_2, hcz34_3, hcz34_4, hcz34_5⟩ := kc6 BK114.out; obtain ⟨hfz34_0, hfz34_1, hfz34_2, hfz34_3, hfz34_4, hfz34_5⟩ := kf6 BK114.out) | ((with_reducible refine gate_callee (f := 40) rfl ?_); refine goesL_ (some 6) rfl rfl Tryz.func40 (by kernel_rfl) rfl #[.int .i64 a0_0] rfl ka ?_; (with_reducible refine (answer_State.calls a0_0 true _ A2.out).mono ?_); rintro e w' ⟨rfl, ⟨nd, rfl⟩⟩; refine ⟨_, rfl, ?_⟩) | (go_at_call 41; (with_reducible refine (answer_Status.calls a0_1 true _ A4.out).mono ?_); rintro e w' ⟨rfl, ⟨nd, rfl⟩⟩) | (go_at_call 42; (with_reducible refine (entry_Size.calls a0_3 false _ A20.out).mono ?_); rintro e w' ⟨rfl, ⟨nd, rfl⟩⟩))
   go_ret
   exact ⟨by first | rfl | (simp [errW_none, errW_some] <;> rfl) | (simp [*, errW_none, errW_some] <;> rfl), kb1 HB.out GE114.out⟩
  subst c21
  have H1 : ((entry_Slot.f a0_4).bind fun t120 => (if t120 = true then (if (l0_5.length : Int) ≤ 768 then ((slices_ContainsFunc_Op.f l0_5).bind fun t121 => (some (!t121))) else (some false)) else (some false))) = some r := by rw [if_pos rfl] at H; exact H
  clear H; have H := H1; clear H1
  replace H := Option.bind_eq_some_iff.mp H
  obtain ⟨t120, A220, H⟩ := H
  replace H : (if t120 = true then (if (l0_5.length : Int) ≤ 768 then ((slices_ContainsFunc_Op.f l0_5).bind fun t121 => (some (!t121))) else (some false)) else (some false)) = some r := H
  have A22 := Aside0.mk A220
  clear A220
  by_cases c23 : t120 = true
  case neg =>
   replace c23 := Bool.eq_false_iff.mpr c23
   subst c23
   have H1 : (some false) = some r := by rw [if_neg (show ¬ (false = true) by decide)] at H; exact H
   clear H; have H := H1; clear H1
   obtain rfl := Option.some.inj H
   go_enter Tryz.func20, Tryz.ntmps20
   go_wp2_with (first | ((with_reducible refine gate_dst (N := 1) rfl ?_); (try (refine gate_guard (by rfl) ?_; dsimp only)); refine box_event ?hg (N := 1) ?hd (cs := #[.int .i64 a0_0, .int .i64 a0_1, .int .i64 a0_2, .int .i64 a0_3, .int .i64 a0_4, .slice A0_5 l0_5.length c0_5]) (t := 24) ?hr ?_; (case hd => rfl); (case hg => rfl); (case hr => first | (go_simp; done) | (go_simp; rfl)); intro gb114 hg w31 hbox hb; have n0_ := Aside0.mk (below_step (kb HB.out) hb); have n1_ := Aside0.mk (hbox); have n2_ := Aside0.mk ((kz hg (below_size (kb HB.out)) : w.heap.size ≤ gb114)); have n3_ := Aside0.mk ((kz hg (below_size (kb HB.out)) : w.heap.size ≤ gb114)); clear HB; have HB := n0_; have BK114 := n1_; have GW114 := n2_; have GE114 := n3_; clear n0_ n1_ n2_ n3_; clear hb hbox hg; obtain ⟨hcz32_0, hcz32_1, hcz32_2, hcz32_3, hcz32_4, hcz32_5⟩ := kc6 BK114.out; obtain ⟨hfz32_0, hfz32_1, hfz32_2, hfz32_3, hfz32_4, hfz32_5⟩ := kf6 BK114.out) | ((with_reducible refine gate_callee (f := 40) rfl ?_); refine goesL_ (some 6) rfl rfl Tryz.func40 (by kernel_rfl) rfl #[.int .i64 a0_0] rfl ka ?_; (with_reducible refine (answer_State.calls a0_0 true _ A2.out).mono ?_); rintro e w' ⟨rfl, ⟨nd, rfl⟩⟩; refine ⟨_, rfl, ?_⟩) | (go_at_call 41; (with_reducible refine (answer_Status.calls a0_1 true _ A4.out).mono ?_); rintro e w' ⟨rfl, ⟨nd, rfl⟩⟩) | (go_at_call 42; (with_reducible refine (entry_Size.calls a0_3 true _ A20.out).mono ?_); rintro e w' ⟨rfl, ⟨nd, rfl⟩⟩) | (go_at_call 43; (with_reducible refine (entry_Slot.calls a0_4 false _ A22.out).mono ?_); rintro e w' ⟨rfl, ⟨nd, rfl⟩⟩))
   go_ret
   exact ⟨by first | rfl | (simp [errW_none, errW_some] <;> rfl) | (simp [*, errW_none, errW_some] <;> rfl), kb1 HB.out GE114.out⟩
  subst c23
  have H1 : (if (l0_5.length : Int) ≤ 768 then ((slices_ContainsFunc_Op.f l0_5).bind fun t121 => (some (!t121))) else (some false)) = some r := by rw [if_pos rfl] at H; exact H
  clear H; have H := H1; clear H1
  by_cases c24 : (l0_5.length : Int) ≤ 768
  case neg =>
   rw [if_neg c24] at H
   have c24b0 : decide ((l0_5.length : Int) ≤ 768) = false := decide_eq_false c24
   have c24b1 : decide (l0_5.length ≤ 768) = false := decide_eq_false (by omega)
   clear c24
   obtain rfl := Option.some.inj H
   go_enter Tryz.func20, Tryz.ntmps20
   go_wp2_with (first | ((with_reducible refine gate_dst (N := 1) rfl ?_); (try (refine gate_guard (by rfl) ?_; dsimp only)); refine box_event ?hg (N := 1) ?hd (cs := #[.int .i64 a0_0, .int .i64 a0_1, .int .i64 a0_2, .int .i64 a0_3, .int .i64 a0_4, .slice A0_5 l0_5.length c0_5]) (t := 24) ?hr ?_; (case hd => rfl); (case hg => rfl); (case hr => first | (go_simp; done) | (go_simp; rfl)); intro gb114 hg w29 hbox hb; have n0_ := Aside0.mk (below_step (kb HB.out) hb); have n1_ := Aside0.mk (hbox); have n2_ := Aside0.mk ((kz hg (below_size (kb HB.out)) : w.heap.size ≤ gb114)); have n3_ := Aside0.mk ((kz hg (below_size (kb HB.out)) : w.heap.size ≤ gb114)); clear HB; have HB := n0_; have BK114 := n1_; have GW114 := n2_; have GE114 := n3_; clear n0_ n1_ n2_ n3_; clear hb hbox hg; obtain ⟨hcz30_0, hcz30_1, hcz30_2, hcz30_3, hcz30_4, hcz30_5⟩ := kc6 BK114.out; obtain ⟨hfz30_0, hfz30_1, hfz30_2, hfz30_3, hfz30_4, hfz30_5⟩ := kf6 BK114.out) | ((with_reducible refine gate_callee (f := 40) rfl ?_); refine goesL_ (some 6) rfl rfl Tryz.func40 (by kernel_rfl) rfl #[.int .i64 a0_0] rfl ka ?_; (with_reducible refine (answer_State.calls a0_0 true _ A2.out).mono ?_); rintro e w' ⟨rfl, ⟨nd, rfl⟩⟩; refine ⟨_, rfl, ?_⟩) | (go_at_call 41; (with_reducible refine (answer_Status.calls a0_1 true _ A4.out).mono ?_); rintro e w' ⟨rfl, ⟨nd, rfl⟩⟩) | (go_at_call 42; (with_reducible refine (entry_Size.calls a0_3 true _ A20.out).mono ?_); rintro e w' ⟨rfl, ⟨nd, rfl⟩⟩) | (go_at_call 43; (with_reducible refine (entry_Slot.calls a0_4 true _ A22.out).mono ?_); rintro e w' ⟨rfl, ⟨nd, rfl⟩⟩))
   go_ret
   exact ⟨by first | rfl | (simp [errW_none, errW_some] <;> rfl) | (simp [*, errW_none, errW_some] <;> rfl), kb1 HB.out GE114.out⟩
  rw [if_pos c24] at H
  have c24b0 : decide ((l0_5.length : Int) ≤ 768) = true := decide_eq_true c24
  have c24b1 : decide (l0_5.length ≤ 768) = true := decide_eq_true (by omega)
  clear c24
  replace H := Option.bind_eq_some_iff.mp H
  obtain ⟨t121, A250, H⟩ := H
  replace H : (some (!t121)) = some r := H
  have A25 := Aside0.mk A250
  clear A250
  obtain rfl := Option.some.inj H
  go_enter Tryz.func20, Tryz.ntmps20
  go_wp2_with (first | ((with_reducible refine gate_dst (N := 1) rfl ?_); (try (refine gate_guard (by rfl) ?_; dsimp only)); refine box_event ?hg (N := 1) ?hd (cs := #[.int .i64 a0_0, .int .i64 a0_1, .int .i64 a0_2, .int .i64 a0_3, .int .i64 a0_4, .slice A0_5 l0_5.length c0_5]) (t := 24) ?hr ?_; (case hd => rfl); (case hg => rfl); (case hr => first | (go_simp; done) | (go_simp; rfl)); intro gb114 hg w26 hbox hb; have n0_ := Aside0.mk (below_step (kb HB.out) hb); have n1_ := Aside0.mk (hbox); have n2_ := Aside0.mk ((kz hg (below_size (kb HB.out)) : w.heap.size ≤ gb114)); have n3_ := Aside0.mk ((kz hg (below_size (kb HB.out)) : w.heap.size ≤ gb114)); clear HB; have HB := n0_; have BK114 := n1_; have GW114 := n2_; have GE114 := n3_; clear n0_ n1_ n2_ n3_; clear hb hbox hg; obtain ⟨hcz27_0, hcz27_1, hcz27_2, hcz27_3, hcz27_4, hcz27_5⟩ := kc6 BK114.out; obtain ⟨hfz27_0, hfz27_1, hfz27_2, hfz27_3, hfz27_4, hfz27_5⟩ := kf6 BK114.out) | ((with_reducible refine gate_callee (f := 40) rfl ?_); refine goesL_ (some 6) rfl rfl Tryz.func40 (by kernel_rfl) rfl #[.int .i64 a0_0] rfl ka ?_; (with_reducible refine (answer_State.calls a0_0 true _ A2.out).mono ?_); rintro e w' ⟨rfl, ⟨nd, rfl⟩⟩; refine ⟨_, rfl, ?_⟩) | (go_at_call 41; (with_reducible refine (answer_Status.calls a0_1 true _ A4.out).mono ?_); rintro e w' ⟨rfl, ⟨nd, rfl⟩⟩) | (go_at_call 42; (with_reducible refine (entry_Size.calls a0_3 true _ A20.out).mono ?_); rintro e w' ⟨rfl, ⟨nd, rfl⟩⟩) | (go_at_call 43; (with_reducible refine (entry_Slot.calls a0_4 true _ A22.out).mono ?_); rintro e w' ⟨rfl, ⟨nd, rfl⟩⟩) | (go_at_call 44; (with_reducible refine (slices_ContainsFunc_Op.calls _ _ l0_5 t121 _ ?side1 ?side2 A25.out).mono ?_); (case side1 => repeat (first | exact (Kd.C_below HR0_5.out (kb1 HB.out GE114.out)) | (with_reducible refine Kd.C_alloc ?_ _) | (with_reducible refine Kd.C_drewN ?_ _) | (with_reducible refine Kd.C_drew ?_))); (case side2 => exact HC0_5.out); rintro e w28 ⟨rfl, hb⟩; have n0_ := Aside0.mk (kL BK114.out hb); have n1_ := Aside0.mk (below_step (kb1 HB.out GE114.out) hb); clear BK114; clear HB; have BK114 := n0_; have HB := n1_; clear n0_ n1_; (try clear hb); (try clear hb2); (try clear hk); (try clear hi)))
  go_ret
  exact ⟨by first | rfl | (simp [errW_none, errW_some] <;> rfl) | (simp [*, errW_none, errW_some] <;> rfl), kb1 HB.out GE114.out⟩

/-! ### setup_Value: function 21 -/
def setup_Value.f (a0 : Int) : Option (Bool) := if a0 ≥ 0 then (some (decide (a0 ≤ 65535))) else (some false)
set_option maxHeartbeats 8000000 in
set_option maxRecDepth 100000 in
theorem setup_Value.calls (a0 : Int) (r : Bool) (w : World) (h : setup_Value.f a0 = some r) :
  Calls Tryz.prog 21 #[.int .i64 a0] w fun e w' => e = .returned (.bool r) ∧ Drawn0 w w' := by
 have H : (if a0 ≥ 0 then (some (decide (a0 ≤ 65535))) else (some false)) = some r := h
 clear h
 by_cases c2 : a0 ≥ 0
 case neg =>
  rw [if_neg c2] at H
  have c2b0 : decide (0 ≤ a0) = false := decide_eq_false c2
  clear c2
  obtain rfl := Option.some.inj H
  go_enter Tryz.func21, Tryz.ntmps21
  go_wp2
  go_ret
  exact ⟨by first | rfl | (simp; done) | (simp [*]; done), by repeat (first | exact Drawn0.refl _ | apply Drawn0.step)⟩
 rw [if_pos c2] at H
 have c2b0 : decide (0 ≤ a0) = true := decide_eq_true c2
 clear c2
 obtain rfl := Option.some.inj H
 go_enter Tryz.func21, Tryz.ntmps21
 go_wp2
 go_ret
 exact ⟨by first | rfl | (simp; done) | (simp [*]; done), by repeat (first | exact Drawn0.refl _ | apply Drawn0.step)⟩

/-! ### setup_Length: function 22 -/
def setup_Length.f (a0 : Int) : Option (Bool) := if a0 ≥ 0 then (some (decide (a0 ≤ 32))) else (some false)
set_option maxHeartbeats 8000000 in
set_option maxRecDepth 100000 in
theorem setup_Length.calls (a0 : Int) (r : Bool) (w : World) (h : setup_Length.f a0 = some r) :
  Calls Tryz.prog 22 #[.int .i64 a0] w fun e w' => e = .returned (.bool r) ∧ Drawn0 w w' := by
 have H : (if a0 ≥ 0 then (some (decide (a0 ≤ 32))) else (some false)) = some r := h
 clear h
 by_cases c2 : a0 ≥ 0
 case neg =>
  rw [if_neg c2] at H
  have c2b0 : decide (0 ≤ a0) = false := decide_eq_false c2
  clear c2
  obtain rfl := Option.some.inj H
  go_enter Tryz.func22, Tryz.ntmps22
  go_wp2
  go_ret
  exact ⟨by first | rfl | (simp; done) | (simp [*]; done), by repeat (first | exact Drawn0.refl _ | apply Drawn0.step)⟩
 rw [if_pos c2] at H
 have c2b0 : decide (0 ≤ a0) = true := decide_eq_true c2
 clear c2
 obtain rfl := Option.some.inj H
 go_enter Tryz.func22, Tryz.ntmps22
 go_wp2
 go_ret
 exact ⟨by first | rfl | (simp; done) | (simp [*]; done), by repeat (first | exact Drawn0.refl _ | apply Drawn0.step)⟩

/-! ### device_New: function 61 -/
def device_New.f  : Option (Int × Int × Int × Int × Int × (List (S41))) := some (0, 0, 0, 0, 0, ([] : List (S41)))
set_option maxHeartbeats 8000000 in
set_option maxRecDepth 100000 in
theorem device_New.calls  (r1 : Int) (r2 : Int) (r3 : Int) (r4 : Int) (r5 : Int) (r6 : List (S41)) (w : World) (h : device_New.f  = some (r1, r2, r3, r4, r5, r6)) :
  Calls Tryz.prog 61 #[] w fun e w' => ∃ v5_ : Value, e = .returned (.agg #[.int .i64 r1, .int .i64 r2, .int .i64 r3, .int .i64 r4, .int .i64 r5, v5_]) ∧ Kd.R k41 41 w' w.heap.size (fun _ => True) v5_ r6 ∧ Below w.heap.size w w' := by
 have hu24 := Tryz.underlying24
 have HB := Aside0.mk (Below.refl w.heap.size w)
 have H : (some (0, 0, 0, 0, 0, ([] : List (S41)))) = some (r1, r2, r3, r4, r5, r6) := h
 clear h
 simp only [Option.some.injEq, Prod.mk.injEq] at H
 obtain ⟨rfl, rfl, rfl, rfl, rfl, rfl⟩ := H
 go_enter Tryz.func61, Tryz.ntmps61
 go_wp2_with (first | ((with_reducible refine gate_dst (N := 0) rfl ?_); refine box_event ?hg (N := 0) ?hd (cs := #[.int .i64 0, .int .i64 0, .int .i64 0, .int .i64 0, .int .i64 0, .slice none 0 0]) (t := 24) ?hr ?_; (case hd => rfl); (case hg => rfl); (case hr => first | (go_simp; done) | (go_simp; rfl)); intro gb122 hg w1 hbox hb; have n0_ := Aside0.mk (below_step (kb HB.out) hb); have n1_ := Aside0.mk (hbox); have n2_ := Aside0.mk ((kz hg (below_size (kb HB.out)) : w.heap.size ≤ gb122)); have n3_ := Aside0.mk ((kz hg (below_size (kb HB.out)) : w.heap.size ≤ gb122)); clear HB; have HB := n0_; have BK122 := n1_; have GW122 := n2_; have GE122 := n3_; clear n0_ n1_ n2_ n3_; clear hb hbox hg; obtain ⟨hcz2_0, hcz2_1, hcz2_2, hcz2_3, hcz2_4, hcz2_5⟩ := kc6 BK122.out; obtain ⟨hfz2_0, hfz2_1, hfz2_2, hfz2_3, hfz2_4, hfz2_5⟩ := kf6 BK122.out))
 refine bodyPost_ret (results_cell_row rfl _ _ gb122 24 #[.int .i64 0, .int .i64 0, .int .i64 0, .int .i64 0, .int .i64 0, .slice none 0 0] (0, 0) _ rfl (kP6 BK122.out) Tryz.underlying24 rfl (by kernel_rfl)) rfl ?_
 exact ⟨_, by first | rfl | (simp [errW_none, errW_some] <;> rfl) | (simp [*, errW_none, errW_some] <;> rfl), by first | exact Kd.R_nil _ _ _ _ _ | exact Kd.N_nil _ _ _ _ _ | exact Kd.V_nil _ _ _ _ _ | exact Kd.Q_nil _ _ _ _ _ | exact Kd.S_nil _ _ _ _ _, kb1 HB.out GE122.out⟩

/-! ### device_Failed: function 45 -/
def device_Failed.f (a0 : Int) : Option (Int × Int × Int × Int × Int × (List (S41))) := (device_New.f).bind fun bt124 => (some (7, a0, bt124.2.2.1, bt124.2.2.2.1, bt124.2.2.2.2.1, bt124.2.2.2.2.2))
set_option maxHeartbeats 8000000 in
set_option maxRecDepth 100000 in
theorem device_Failed.calls (a0 : Int) (r1 : Int) (r2 : Int) (r3 : Int) (r4 : Int) (r5 : Int) (r6 : List (S41)) (w : World) (h : device_Failed.f a0 = some (r1, r2, r3, r4, r5, r6)) :
  Calls Tryz.prog 45 #[.int .i64 a0] w fun e w' => ∃ v5_ : Value, e = .returned (.agg #[.int .i64 r1, .int .i64 r2, .int .i64 r3, .int .i64 r4, .int .i64 r5, v5_]) ∧ Kd.R k41 41 w' w.heap.size (fun _ => True) v5_ r6 ∧ Below w.heap.size w w' := by
 have hu24 := Tryz.underlying24
 have HB := Aside0.mk (Below.refl w.heap.size w)
 have H : ((device_New.f).bind fun bt124 => (some (7, a0, bt124.2.2.1, bt124.2.2.2.1, bt124.2.2.2.2.1, bt124.2.2.2.2.2))) = some (r1, r2, r3, r4, r5, r6) := h
 clear h
 replace H := Option.bind_eq_some_iff.mp H
 obtain ⟨⟨t124, t125, t126, t127, t128, t129⟩, A20, H⟩ := H
 replace H : (some (7, a0, t126, t127, t128, t129)) = some (r1, r2, r3, r4, r5, r6) := H
 have A2 := Aside0.mk A20
 clear A20
 simp only [Option.some.injEq, Prod.mk.injEq] at H
 obtain ⟨rfl, rfl, rfl, rfl, rfl, rfl⟩ := H
 go_enter Tryz.func45, Tryz.ntmps45
 go_upto_region 3 with (first | ((with_reducible refine gate_dst (N := 2) rfl ?_); refine box_event ?hg (N := 2) ?hd (cs := #[.int .i64 0, .int .i64 0, .int .i64 0, .int .i64 0, .int .i64 0, .slice none 0 0]) (t := 24) ?hr ?_; (case hd => rfl); (case hg => rfl); (case hr => first | (go_simp; done) | (go_simp; rfl)); intro gb123 hg w3 hbox hb; have n0_ := Aside0.mk (below_step (kb HB.out) hb); have n1_ := Aside0.mk (hbox); have n2_ := Aside0.mk ((kz hg (below_size (kb HB.out)) : w.heap.size ≤ gb123)); have n3_ := Aside0.mk ((kz hg (below_size (kb HB.out)) : w.heap.size ≤ gb123)); clear HB; have HB := n0_; have BK123 := n1_; have GW123 := n2_; have GE123 := n3_; clear n0_ n1_ n2_ n3_; clear hb hbox hg) | ((with_reducible refine gate_callee (f := 61) rfl ?_); refine goesL_ (some 4) rfl rfl Tryz.func61 (by kernel_rfl) rfl #[] rfl ka ?_; (with_reducible refine (device_New.calls  t124 t125 t126 t127 t128 t129 _ A2.out).mono ?_); rintro e w4 ⟨v130, rfl, ho0, hb⟩; refine ⟨_, rfl, ?_⟩; have n0_ := Aside0.mk (Kd.R_lower ho0 (below_size (kb1 HB.out GE123.out))); have n1_ := Aside0.mk (kL BK123.out hb); have n2_ := Aside0.mk (below_step (kb1 HB.out GE123.out) hb); clear BK123; clear HB; have HO131 := n0_; have BK123 := n1_; have HB := n2_; clear n0_ n1_ n2_; (try clear hb); (try clear hb2); (try clear hk); (try clear hi); (try clear ho0)) | ((with_reducible refine gate_dst (N := 3) rfl ?_); refine box_event ?hg (N := 3) ?hd (cs := #[.int .i64 0, .int .i64 0, .int .i64 0, .int .i64 0, .int .i64 0, .slice none 0 0]) (t := 24) ?hr ?_; (case hd => rfl); (case hg => rfl); (case hr => first | (go_simp; done) | (go_simp; rfl)); intro gb132 hg w5 hbox hb; have n0_ := Aside0.mk (Kd.R_below (kR HO131.out) hb); have n1_ := Aside0.mk (kL BK123.out hb); have n2_ := Aside0.mk (below_step (kb1 HB.out GE123.out) hb); have n3_ := Aside0.mk (hbox); have n4_ := Aside0.mk ((kz hg (below_size (kb1 HB.out GE123.out)) : w.heap.size ≤ gb132)); have n5_ := Aside0.mk ((kz hg (below_size (kb1 HB.out GE123.out)) : w.heap.size ≤ gb132)); have n6_ := Aside0.mk ((kN hg BK123.out : gb123 ≠ gb132)); have n7_ := Aside0.mk (((kN hg BK123.out).symm : gb132 ≠ gb123)); clear HO131; clear BK123; clear HB; have HO131 := n0_; have BK123 := n1_; have HB := n2_; have BK132 := n3_; have GW132 := n4_; have GE132 := n5_; have NB123_132 := n6_; have NB132_123 := n7_; clear n0_ n1_ n2_ n3_ n4_ n5_ n6_ n7_; clear hb hbox hg; have hnb6 := NB132_123.out; have hnc6 := NB123_132.out; obtain ⟨hcz7_0, hcz7_1, hcz7_2, hcz7_3, hcz7_4, hcz7_5⟩ := kc6 BK132.out; obtain ⟨hfz7_0, hfz7_1, hfz7_2, hfz7_3, hfz7_4, hfz7_5⟩ := kf6 BK132.out; obtain ⟨Ao8, co8, eo8⟩ := Kd.R_slice HO131.out; subst eo8; obtain ⟨hcz9_0, hcz9_1, hcz9_2, hcz9_3, hcz9_4, hcz9_5⟩ := kc6 BK123.out; obtain ⟨hfz9_0, hfz9_1, hfz9_2, hfz9_3, hfz9_4, hfz9_5⟩ := kf6 BK123.out))
 (try simp only [Act.put, List.setIfInBounds_toArray, List.set_cons_zero, List.set_cons_succ])
 have q1 : ((World.setCell (World.setCell (World.setCell (World.setCell (World.setCell (World.setCell (World.setCell (World.setCell w5 ⟨gb132, 0, none⟩ (.int .i64 t124)) ⟨gb132, 1, none⟩ (.int .i64 t125)) ⟨gb132, 2, none⟩ (.int .i64 t126)) ⟨gb132, 3, none⟩ (.int .i64 t127)) ⟨gb132, 4, none⟩ (.int .i64 t128)) ⟨gb132, 5, none⟩ (.slice Ao8 t129.length co8)) ⟨gb132, 0, none⟩ (.int .i64 7)) ⟨gb132, 1, none⟩ (.int .i64 a0))).heap[gb132]? = some (.cells #[.int .i64 7, .int .i64 a0, .int .i64 t126, .int .i64 t127, .int .i64 t128, .slice Ao8 t129.length co8] 24 (0, 0)) := by refine blk_put (cs := #[.int .i64 7, .int .i64 t125, .int .i64 t126, .int .i64 t127, .int .i64 t128, .slice Ao8 t129.length co8]) ?_ 1 _ rfl; refine blk_put (cs := #[.int .i64 t124, .int .i64 t125, .int .i64 t126, .int .i64 t127, .int .i64 t128, .slice Ao8 t129.length co8]) ?_ 0 _ rfl; refine blk_put (cs := #[.int .i64 t124, .int .i64 t125, .int .i64 t126, .int .i64 t127, .int .i64 t128, .slice none 0 0]) ?_ 5 _ rfl; refine blk_put (cs := #[.int .i64 t124, .int .i64 t125, .int .i64 t126, .int .i64 t127, .int .i64 0, .slice none 0 0]) ?_ 4 _ rfl; refine blk_put (cs := #[.int .i64 t124, .int .i64 t125, .int .i64 t126, .int .i64 0, .int .i64 0, .slice none 0 0]) ?_ 3 _ rfl; refine blk_put (cs := #[.int .i64 t124, .int .i64 t125, .int .i64 0, .int .i64 0, .int .i64 0, .slice none 0 0]) ?_ 2 _ rfl; refine blk_put (cs := #[.int .i64 t124, .int .i64 0, .int .i64 0, .int .i64 0, .int .i64 0, .slice none 0 0]) ?_ 1 _ rfl; refine blk_put (cs := #[.int .i64 0, .int .i64 0, .int .i64 0, .int .i64 0, .int .i64 0, .slice none 0 0]) ?_ 0 _ rfl; exact BK132.out
 have q2 : ((World.setCell (World.setCell (World.setCell (World.setCell (World.setCell (World.setCell (World.setCell (World.setCell w5 ⟨gb132, 0, none⟩ (.int .i64 t124)) ⟨gb132, 1, none⟩ (.int .i64 t125)) ⟨gb132, 2, none⟩ (.int .i64 t126)) ⟨gb132, 3, none⟩ (.int .i64 t127)) ⟨gb132, 4, none⟩ (.int .i64 t128)) ⟨gb132, 5, none⟩ (.slice Ao8 t129.length co8)) ⟨gb132, 0, none⟩ (.int .i64 7)) ⟨gb132, 1, none⟩ (.int .i64 a0))).heap[gb123]? = some (.cells #[.int .i64 0, .int .i64 0, .int .i64 0, .int .i64 0, .int .i64 0, .slice none 0 0] 24 (0, 0)) := by refine blk_far ?_ NB123_132.out _; refine blk_far ?_ NB123_132.out _; refine blk_far ?_ NB123_132.out _; refine blk_far ?_ NB123_132.out _; refine blk_far ?_ NB123_132.out _; refine blk_far ?_ NB123_132.out _; refine blk_far ?_ NB123_132.out _; refine blk_far ?_ NB123_132.out _; exact BK123.out
 have q3 : Below w.heap.size w ((World.setCell (World.setCell (World.setCell (World.setCell (World.setCell (World.setCell (World.setCell (World.setCell w5 ⟨gb132, 0, none⟩ (.int .i64 t124)) ⟨gb132, 1, none⟩ (.int .i64 t125)) ⟨gb132, 2, none⟩ (.int .i64 t126)) ⟨gb132, 3, none⟩ (.int .i64 t127)) ⟨gb132, 4, none⟩ (.int .i64 t128)) ⟨gb132, 5, none⟩ (.slice Ao8 t129.length co8)) ⟨gb132, 0, none⟩ (.int .i64 7)) ⟨gb132, 1, none⟩ (.int .i64 a0))) := by (with_reducible repeat (first | exact HB.out | refine below_set ?_ GE132.out))
 have q4 : Kd.R k41 41 ((World.setCell (World.setCell (World.setCell (World.setCell (World.setCell (World.setCell (World.setCell (World.setCell w5 ⟨gb132, 0, none⟩ (.int .i64 t124)) ⟨gb132, 1, none⟩ (.int .i64 t125)) ⟨gb132, 2, none⟩ (.int .i64 t126)) ⟨gb132, 3, none⟩ (.int .i64 t127)) ⟨gb132, 4, none⟩ (.int .i64 t128)) ⟨gb132, 5, none⟩ (.slice Ao8 t129.length co8)) ⟨gb132, 0, none⟩ (.int .i64 7)) ⟨gb132, 1, none⟩ (.int .i64 a0))) w.heap.size (fun _ => True) (.slice Ao8 t129.length co8) t129 := Kd.R_mono (Kd.R_far (p := ⟨gb132, 1, none⟩) (Kd.R_far (p := ⟨gb132, 0, none⟩) (Kd.R_far (p := ⟨gb132, 5, none⟩) (Kd.R_far (p := ⟨gb132, 4, none⟩) (Kd.R_far (p := ⟨gb132, 3, none⟩) (Kd.R_far (p := ⟨gb132, 2, none⟩) (Kd.R_far (p := ⟨gb132, 1, none⟩) (Kd.R_far (p := ⟨gb132, 0, none⟩) (Kd.R_types HO131.out BK132.out (by decide)) (fun _ hk => hk.2) (.int .i64 t124)) (fun _ hk => hk.2) (.int .i64 t125)) (fun _ hk => hk.2) (.int .i64 t126)) (fun _ hk => hk.2) (.int .i64 t127)) (fun _ hk => hk.2) (.int .i64 t128)) (fun _ hk => hk.2) (.slice Ao8 t129.length co8)) (fun _ hk => hk.2) (.int .i64 7)) (fun _ hk => hk.2) (.int .i64 a0)) (fun _ _ => trivial)
 clear hcz7_0 hcz7_1 hcz7_2 hcz7_3 hcz7_4 hcz7_5 hfz7_0 hfz7_1 hfz7_2 hfz7_3 hfz7_4 hfz7_5 hcz9_0 hcz9_1 hcz9_2 hcz9_3 hcz9_4 hcz9_5 hfz9_0 hfz9_1 hfz9_2 hfz9_3 hfz9_4 hfz9_5
 generalize (World.setCell (World.setCell (World.setCell (World.setCell (World.setCell (World.setCell (World.setCell (World.setCell w5 ⟨gb132, 0, none⟩ (.int .i64 t124)) ⟨gb132, 1, none⟩ (.int .i64 t125)) ⟨gb132, 2, none⟩ (.int .i64 t126)) ⟨gb132, 3, none⟩ (.int .i64 t127)) ⟨gb132, 4, none⟩ (.int .i64 t128)) ⟨gb132, 5, none⟩ (.slice Ao8 t129.length co8)) ⟨gb132, 0, none⟩ (.int .i64 7)) ⟨gb132, 1, none⟩ (.int .i64 a0)) = w9 at q1 q2 q3 q4 ⊢
 have hy0 : w9.cell? ⟨gb132, 0, none⟩ = some (.int .i64 7) := (blk_cell q1 0).trans rfl
 have hz0 : w9.cell? ⟨gb123, 0, none⟩ = some (.int .i64 0) := (blk_cell q2 0).trans rfl
 have hf0 := blk_frozen q2 0
 have he0 := blk_frozen q1 0
 have hy1 : w9.cell? ⟨gb132, 1, none⟩ = some (.int .i64 a0) := (blk_cell q1 1).trans rfl
 have hz1 : w9.cell? ⟨gb123, 1, none⟩ = some (.int .i64 0) := (blk_cell q2 1).trans rfl
 have hf1 := blk_frozen q2 1
 have he1 := blk_frozen q1 1
 have hy2 : w9.cell? ⟨gb132, 2, none⟩ = some (.int .i64 t126) := (blk_cell q1 2).trans rfl
 have hz2 : w9.cell? ⟨gb123, 2, none⟩ = some (.int .i64 0) := (blk_cell q2 2).trans rfl
 have hf2 := blk_frozen q2 2
 have he2 := blk_frozen q1 2
 have hy3 : w9.cell? ⟨gb132, 3, none⟩ = some (.int .i64 t127) := (blk_cell q1 3).trans rfl
 have hz3 : w9.cell? ⟨gb123, 3, none⟩ = some (.int .i64 0) := (blk_cell q2 3).trans rfl
 have hf3 := blk_frozen q2 3
 have he3 := blk_frozen q1 3
 have hy4 : w9.cell? ⟨gb132, 4, none⟩ = some (.int .i64 t128) := (blk_cell q1 4).trans rfl
 have hz4 : w9.cell? ⟨gb123, 4, none⟩ = some (.int .i64 0) := (blk_cell q2 4).trans rfl
 have hf4 := blk_frozen q2 4
 have he4 := blk_frozen q1 4
 have hy5 : w9.cell? ⟨gb132, 5, none⟩ = some (.slice Ao8 t129.length co8) := (blk_cell q1 5).trans rfl
 have hz5 : w9.cell? ⟨gb123, 5, none⟩ = some (.slice none 0 0) := (blk_cell q2 5).trans rfl
 have hf5 := blk_frozen q2 5
 have he5 := blk_frozen q1 5
 have hn := NB123_132.out
 have hn2 := Ne.symm hn
 go_wp2
 refine bodyPost_ret (results_cell_row rfl _ _ gb123 24 #[.int .i64 7, .int .i64 a0, .int .i64 t126, .int .i64 t127, .int .i64 t128, .slice Ao8 t129.length co8] (0, 0) _ rfl (by refine blk_put (cs := #[.int .i64 7, .int .i64 a0, .int .i64 t126, .int .i64 t127, .int .i64 t128, .slice none 0 0]) ?_ 5 _ rfl; refine blk_put (cs := #[.int .i64 7, .int .i64 a0, .int .i64 t126, .int .i64 t127, .int .i64 0, .slice none 0 0]) ?_ 4 _ rfl; refine blk_put (cs := #[.int .i64 7, .int .i64 a0, .int .i64 t126, .int .i64 0, .int .i64 0, .slice none 0 0]) ?_ 3 _ rfl; refine blk_put (cs := #[.int .i64 7, .int .i64 a0, .int .i64 0, .int .i64 0, .int .i64 0, .slice none 0 0]) ?_ 2 _ rfl; refine blk_put (cs := #[.int .i64 7, .int .i64 0, .int .i64 0, .int .i64 0, .int .i64 0, .slice none 0 0]) ?_ 1 _ rfl; refine blk_put (cs := #[.int .i64 0, .int .i64 0, .int .i64 0, .int .i64 0, .int .i64 0, .slice none 0 0]) ?_ 0 _ rfl; exact q2) Tryz.underlying24 rfl (by kernel_rfl)) rfl ?_
 exact ⟨_, rfl, Kd.R_mono (Kd.R_far (p := ⟨gb123, 5, none⟩) (Kd.R_far (p := ⟨gb123, 4, none⟩) (Kd.R_far (p := ⟨gb123, 3, none⟩) (Kd.R_far (p := ⟨gb123, 2, none⟩) (Kd.R_far (p := ⟨gb123, 1, none⟩) (Kd.R_far (p := ⟨gb123, 0, none⟩) (Kd.R_types q4 q2 (by decide)) (fun _ hk => hk.2) (.int .i64 7)) (fun _ hk => hk.2) (.int .i64 a0)) (fun _ hk => hk.2) (.int .i64 t126)) (fun _ hk => hk.2) (.int .i64 t127)) (fun _ hk => hk.2) (.int .i64 t128)) (fun _ hk => hk.2) (.slice Ao8 t129.length co8)) (fun _ _ => trivial), by (with_reducible repeat (first | exact q3 | refine below_set ?_ GE123.out))⟩

-- its contract: by hand
/-! ### slices_Clone_Op: function 62 -/
def slices_Clone_Op.f (l0 : List (S41)) : Option ((List (S41))) := if l0.length < 4398046511104 then some l0 else none

end Go.Proofs.YthkpaoajfiapkaaGreat.P
end
section
set_option linter.unusedVariables false
set_option linter.unusedSimpArgs false
set_option maxHeartbeats 4000000
namespace Go.Proofs.YthkpaoajfiapkaaGreat.P
open Go.RowKit Go.Proofs.YthkpaoajfiapkaaGreatW.PrintWords Go.Proofs.YthkpaoajfiapkaaGreatW.PrintLast Go.Proofs.YthkpaoajfiapkaaGreatW.PrintMore

theorem row_none {α : Type} {d : Kd α} {w : World} {n : Nat} {l : List α} (h : d.C w none n l) : l = [] := by
  have h3 := h.2.2
  rcases Nat.eq_zero_or_pos n with e | e
  · exact List.eq_nil_of_length_eq_zero (h.1.trans e)
  · obtain ⟨ad, e2, _⟩ := h3 e
    cases e2
set_option maxRecDepth 100000 in
theorem slices_Clone_Op.calls (A0 : Option Addr) (c0 : Nat) (l0 : List (S41)) (r : List (S41)) (w : World) (hr0 : Kd.C k41 w A0 l0.length l0) (hc0 : l0.length ≤ c0) (h : slices_Clone_Op.f l0 = some r) :
    Calls Tryz.prog 62 #[.slice A0 l0.length c0] w fun e w' => ∃ v0_ : Value, e = .returned (v0_) ∧ Kd.R k41 41 w' w.heap.size (fun _ => True) v0_ r ∧ Below w.heap.size w w' := by
  unfold slices_Clone_Op.f at h
  split at h
  case isFalse => cases h
  rename_i hl
  obtain rfl := Option.some.inj h
  clear h
  cases A0 with
  | none =>
    obtain rfl := row_none hr0
    clear hr0 hl
    simp only [List.length_nil]
    have kn := fun (w : World) => run_eql_slice_nil (P := Tryz.prog) w 22 41 none 0 c0 Tryz.underlying22
    go_enter Tryz.func62, Tryz.ntmps62
    go_wp2
    go_ret
    exact ⟨_, rfl, Kd.R_nil _ _ _ _ _, Below.refl _ _⟩
  | some ad =>
    have hu22 := Tryz.underlying22
    have HR0 := Aside0.mk hr0
    have LM := Aside0.mk hl
    clear hr0 hl
    have HB := Aside0.mk (Below.refl w.heap.size w)
    have kn := fun (w : World) => run_eql_slice_nil (P := Tryz.prog) w 22 41 (some ad) l0.length c0 Tryz.underlying22
    go_enter Tryz.func62, Tryz.ntmps62
    go_wp2_with (first | ((with_reducible refine gate_dst (N := 5) rfl ?_); refine Kd.R_lit k41 _ 41 ?hg (N := 5) ?hd (xs := ([] : List (S41))) (inner := []) (ok := fun _ => True) (okp := fun _ => True) ?hr ?hp (fun _ hk => hk) trivial (Below.refl _ _) (Nat.le_refl _) (by simp) ?_; (case hd => rfl); (case hg => rfl); (case hr => first | (go_simp; done) | (go_simp; rfl)); (case hp => exact (Reps.none _ _)); intro v169 w5 ho6 hb hg_ hnew_; clear hg_ hnew_; have n0_ := Aside0.mk (Kd.R_lower ho6 (below_size (by repeat (first | (with_reducible first | exact HB.out | apply below_alloc | apply pw_below_drewN | apply below_drew1) | exact HB.out)))); have n3_ := Aside0.mk (below_step (by repeat (first | (with_reducible first | exact HB.out | apply below_alloc | apply pw_below_drewN | apply below_drew1) | exact HB.out)) hb); clear HB; have HO170 := n0_; have HB := n3_; clear n0_ n3_; clear hb ho6) | ((with_reducible refine gate_builtin (b := .append) (xs := #[.tmp 5, .tmp 6]) rfl ?_); at_builtin; refine Kd.R_append_rows k41 (w0 := w) w.heap.size rfl (.tmp 5) (.tmp 6) 22 41 (.agg #[(.bool false), (.int .i64 0), (.string ⟨#[]⟩)]) 32 rfl Tryz.underlying22 info41 rfl (by decide) (by omega) v169 [] l0 _ _ _ (fun _ => True) (fun _ => False) rfl rfl ?aO ?aR (fun _ _ h => h) (fun _ h => h.elim) ?aF ?aB ?aS ?aL ?_; (case aR => repeat (first | exact (Kd.C_below HR0.out HB.out) | (with_reducible refine Kd.C_alloc ?_ _) | (with_reducible refine Kd.C_drewN ?_ _) | (with_reducible refine Kd.C_drew ?_))); (case aB => exact (by repeat (first | (with_reducible first | exact HB.out | apply below_alloc | apply pw_below_drewN | apply below_drew1) | exact HB.out))); (case aF => exact (fun _ _ => trivial)); (case aO => exact (by (with_reducible repeat (first | apply Kd.R_alloc | apply Kd.R_drewN | apply Kd.R_drew)); exact HO170.out)); (case aS => exact (below_size (by repeat (first | (with_reducible first | exact HB.out | apply below_alloc | apply pw_below_drewN | apply below_drew1) | exact HB.out)))); (case aL => have := LM.out; simp only [List.length_nil]; omega); intro v172 w9 ho hb hg hat; have n2_ := Aside0.mk (hb); have n3_ := Aside0.mk (ho); clear HB; clear HO170; have HB := n2_; have HO173 := n3_; clear n2_ n3_; clear ho hb hg hat))
    go_ret
    exact ⟨_, by first | rfl | (simp; done), HO173.out, by repeat (first | (with_reducible first | exact HB.out | apply below_alloc | apply pw_below_drewN | apply below_drew1) | exact HB.out)⟩

end Go.Proofs.YthkpaoajfiapkaaGreat.P
end
