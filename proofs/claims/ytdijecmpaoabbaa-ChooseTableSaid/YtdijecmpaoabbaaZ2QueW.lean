/- choose.queue as a heap.Interface: which method an interface value of *queue has. -/
import Derived.Test.YtdijecmpaoabbaaZ2HandB
set_option linter.unusedVariables false
set_option linter.unusedSimpArgs false
set_option maxHeartbeats 4000000
namespace Go.Proofs.Ytdijecmpaoabbaa
open Go.RowKit

theorem que_less (n : Nat) (g : Nat) (v : Value) (w : World) (h : w.cell? ⟨g, 0, none⟩ = some v) : Sem.run Try.prog (method (n + 1) 58 (.pointer (some ⟨g, 0, none⟩)) "Less") w = .ok (78, v) w := by
  obtain ⟨T, s, e1, e2⟩ : ∃ (T : TypeInfo) (s : TypeId), Sem.run Try.prog (typeInfo 58) w = .ok T w ∧ T.methods.find? (·.name == "Less") = some ⟨"Less", s, #[], some (78, false)⟩ := ⟨_, _, rfl, rfl⟩
  rw [method]
  have ssa : ∀ x y : String, Builtin.ssaWrapNilChk_ #[58] 58 #[.pointer (some ⟨g, 0, none⟩), strVal x, strVal y] = pure (.pointer (some ⟨g, 0, none⟩)) := fun _ _ => rfl
  simp [go_sem, e1, e2, follow, receiverAt, Place.get, ssa, h]
theorem que_swap (n : Nat) (g : Nat) (v : Value) (w : World) (h : w.cell? ⟨g, 0, none⟩ = some v) : Sem.run Try.prog (method (n + 1) 58 (.pointer (some ⟨g, 0, none⟩)) "Swap") w = .ok (79, v) w := by
  obtain ⟨T, s, e1, e2⟩ : ∃ (T : TypeInfo) (s : TypeId), Sem.run Try.prog (typeInfo 58) w = .ok T w ∧ T.methods.find? (·.name == "Swap") = some ⟨"Swap", s, #[], some (79, false)⟩ := ⟨_, _, rfl, rfl⟩
  rw [method]
  have ssa : ∀ x y : String, Builtin.ssaWrapNilChk_ #[58] 58 #[.pointer (some ⟨g, 0, none⟩), strVal x, strVal y] = pure (.pointer (some ⟨g, 0, none⟩)) := fun _ _ => rfl
  simp [go_sem, e1, e2, follow, receiverAt, Place.get, ssa, h]
theorem que_len (n : Nat) (g : Nat) (v : Value) (w : World) (h : w.cell? ⟨g, 0, none⟩ = some v) : Sem.run Try.prog (method (n + 1) 58 (.pointer (some ⟨g, 0, none⟩)) "Len") w = .ok (24, v) w := by
  obtain ⟨T, s, e1, e2⟩ : ∃ (T : TypeInfo) (s : TypeId), Sem.run Try.prog (typeInfo 58) w = .ok T w ∧ T.methods.find? (·.name == "Len") = some ⟨"Len", s, #[], some (24, false)⟩ := ⟨_, _, rfl, rfl⟩
  rw [method]
  have ssa : ∀ x y : String, Builtin.ssaWrapNilChk_ #[58] 58 #[.pointer (some ⟨g, 0, none⟩), strVal x, strVal y] = pure (.pointer (some ⟨g, 0, none⟩)) := fun _ _ => rfl
  simp [go_sem, e1, e2, follow, receiverAt, Place.get, ssa, h]
theorem que_pop (n : Nat) (g : Nat) (w : World) : Sem.run Try.prog (method (n + 1) 58 (.pointer (some ⟨g, 0, none⟩)) "Pop") w = .ok (80, .pointer (some ⟨g, 0, none⟩)) w := by
  obtain ⟨T, s, e1, e2⟩ : ∃ (T : TypeInfo) (s : TypeId), Sem.run Try.prog (typeInfo 58) w = .ok T w ∧ T.methods.find? (·.name == "Pop") = some ⟨"Pop", s, #[], some (80, true)⟩ := ⟨_, _, rfl, rfl⟩
  rw [method]
  simp [go_sem, e1, e2, follow, receiverAt, Place.get]

end Go.Proofs.Ytdijecmpaoabbaa
