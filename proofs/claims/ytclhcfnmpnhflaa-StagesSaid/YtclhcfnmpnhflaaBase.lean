/- Worlds in which all that was there stands as it stood: what each call of this program leaves. -/
import Derived.WalkKit
import Derived.Below
import Derived.OwnWalk
import Derived.WalkSpells
import Derived.Deep.Draws
import Derived.Maps.AppendAt
import Derived.Lib.ConvBytes
set_option linter.unusedVariables false
set_option linter.unusedSimpArgs false
set_option maxHeartbeats 4000000
namespace Go.Proofs.Ytclhcfnmpnhflaa
open Go.RowKit

/-- All that lay in w lies in w' as it lay. -/
def Ext (w w' : World) : Prop := Below w.heap.size w w'
theorem Ext.refl (w : World) : Ext w w := Below.refl _ _
theorem Ext.size {a b : World} (h : Ext a b) : a.heap.size ≤ b.heap.size := Below.size h
theorem Ext.trans {a b c : World} (h : Ext a b) (k : Ext b c) : Ext a c := Below.trans h (Below.mono k h.size)
theorem Ext.drew {a w : World} (h : Ext a w) : Ext a w.drew := Below.drew h
theorem Ext.drewN {a w : World} (h : Ext a w) (n : Nat) : Ext a (w.drewN n) := Below.trans h ⟨rfl, rfl, rfl, Nat.le_refl _, fun _ _ => rfl⟩
theorem Ext.alloc {a w : World} (h : Ext a w) (o : Obj) : Ext a (w.alloc o) := Below.alloc h h.size o
theorem Ext.setCell {a w : World} (h : Ext a w) {p : Addr} (hp : a.heap.size ≤ p.block) (u : Value) : Ext a (w.setCell p u) := Below.setCell h hp u
theorem Ext.grown {a w w' : World} {row : Option Nat} (h : Ext a w) (hg : w.grownBy w' row) (hr : ∀ k, row = some k → a.heap.size ≤ k) : Ext a w' := Below.grown h hg h.size hr
theorem Ext.cell {w w' : World} {a : Addr} {v : Value} (hb : Ext w w') (h : w.cell? a = some v) : w'.cell? a = some v := cell_later hb h
theorem Ext.cell_new {w w' : World} {cs : Array Value} {e : TypeId} {r : Nat × Nat} {v : Value} (b i : Nat) (h : Ext (w.alloc (.cells cs e r)) w') (hb : w.heap.size = b) (hv : cs[i]? = some v) : w'.cell? ⟨b, i, none⟩ = some v :=
  Ext.cell h (by subst hb; rw [World.cell?, heap_alloc_new]; exact hv)
theorem Ext.free {w w' : World} {a : Addr} (hb : Ext w w') (ha : a.block < w.heap.size) (h : w.frozen? a = false) : w'.frozen? a = false := (Below.frozen hb ha).trans h
theorem Ext.below {w w' : World} (h : Ext w w') : Below w.heap.size w w' := h
/-- '[]byte(s)' of a string. -/
theorem Ext.bytes (w : World) (e : TypeId) (s : ByteArray) : Ext w (Lib.bytesWorld w e s) :=
  ⟨rfl, rfl, rfl, by rw [Lib.bytesWorld_size]; omega, fun j hj => Lib.bytesWorld_at_old w e s j hj⟩

/-- The smaller, the greater of two whole numbers, as Go tells them: a word that the walk does not part on. -/
def imin (x y : Int) : Int := if y < x then y else x
def imax (x y : Int) : Int := if x < y then y else x
theorem imin_eq (x y : Int) : imin x y = min x y := by unfold imin; split <;> omega
theorem imax_eq (x y : Int) : imax x y = max x y := by unfold imax; split <;> omega
theorem min_two_int (ats : Array TypeId) (ty : TypeId) (k k' : IntKind) (x y : Int) : Builtin.min_ ats ty #[.int k x, .int k' y] = pure (.int k (imin x y)) := by
  simp only [Builtin.min_, List.foldlM_cons, List.foldlM_nil, Builtin.min2, imin]; rfl
theorem min_three_int (ats : Array TypeId) (ty : TypeId) (k k' k'' : IntKind) (x y z : Int) : Builtin.min_ ats ty #[.int k x, .int k' y, .int k'' z] = pure (.int k (imin (imin x y) z)) := by
  simp only [Builtin.min_, List.foldlM_cons, List.foldlM_nil, Builtin.min2, imin]; rfl
theorem max_two_int (ats : Array TypeId) (ty : TypeId) (k k' : IntKind) (x y : Int) : Builtin.max_ ats ty #[.int k x, .int k' y] = pure (.int k (imax x y)) := by
  simp only [Builtin.max_, List.foldlM_cons, List.foldlM_nil, Builtin.max2, imax]; rfl

/-- A region that draws leaves one goal for each order: prove it once. -/
theorem once {P G : Prop} (f : P → G) (p : P) : G := f p
theorem wrap_i64_fit (n : Int) (h0 : -9223372036854775808 ≤ n) (h1 : n < 9223372036854775808) : IntKind.i64.wrap n = n := by
  simp [IntKind.wrap, IntKind.bits, IntKind.signed]; omega

end Go.Proofs.Ytclhcfnmpnhflaa
