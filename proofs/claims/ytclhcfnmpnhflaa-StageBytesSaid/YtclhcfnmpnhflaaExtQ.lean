/- A region that draws its order, whose calls lay new blocks and write nothing that was there: one lexical walk. -/
import Derived.Test.YtclhcfnmpnhflaaHandA
import Derived.BigQuiet
namespace Go.Proofs.Ytclhcfnmpnhflaa
open Go.RowKit

structure ExtOf (W : World) where
  w : World
  h : Ext W w
instance (W : World) : Nonempty (ExtOf W) := ⟨⟨W, Ext.refl W⟩⟩

theorem Calls.ext_of {P : Program} {f : FuncId} {args : Array Value} {W : World} {q : ExtOf W} {v : Value}
    (h : Calls P f args q.w fun e w' => e = .returned v ∧ Ext q.w w') : Calls P f args q.w fun e w'' => e = .returned v ∧ ∃ p : ExtOf W, w'' = p.w :=
  h.mono fun _ w' ⟨he, hm⟩ => ⟨he, ⟨w', q.h.trans hm⟩, rfl⟩
theorem Calls.ext_of_same {P : Program} {f : FuncId} {args : Array Value} {W : World} {q : ExtOf W} {v : Value}
    (h : Calls P f args q.w fun e w' => e = .returned v ∧ q.w = w') : Calls P f args q.w fun e w'' => e = .returned v ∧ ∃ p : ExtOf W, w'' = p.w :=
  h.mono fun _ _ ⟨he, hm⟩ => ⟨he, q, hm.symm⟩

theorem wp_region_ext {P : Program} (W : World) {id : Nat} {Q : Exit → Act → World → Prop} {a : Act} {w : World} {l : List Oper} (hm : P.follows .mixedOrders = true) (hB : Region.lexB .any l.toArray = true) (hW : Ext W w)
    (h : wpQuiet P l.toArray (fun w' => ∃ q : ExtOf W, w' = q.w) (fun a' => ∀ w', (∃ q : ExtOf W, w' = q.w) → Q .normal a' w') l a) : (Code.region id l.toArray true).wp P Q a w :=
  wp_region_quiet (C := fun w' => ∃ q : ExtOf W, w' = q.w) hm hB ⟨⟨_, hW.drew⟩, rfl⟩ (by simpa using h)

end Go.Proofs.Ytclhcfnmpnhflaa
