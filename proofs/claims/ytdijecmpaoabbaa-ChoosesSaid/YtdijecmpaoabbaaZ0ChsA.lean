/- The laws' own look: awake, held. -/
import Derived.Test.YtdijecmpaoabbaaZ0ActP
import Derived.Test.YtdijecmpaoabbaaZ0Px5
set_option linter.unusedVariables false
set_option linter.unusedSimpArgs false
set_option maxHeartbeats 4000000
namespace Go.Proofs.Ytdijecmpaoabbaa
open Go.RowKit Skiff Go.Proofs.YtdijecmpaoabbaaW.PrintWords

theorem awake7_f : P.skifflaw7_awake.f 300 = some true := by kernel_rfl
theorem awake7 (k : Nat) (hk : 300 ≤ k) : P.skifflaw7_awake.f k = some true := by
  obtain ⟨j, rfl⟩ : ∃ j, k = 300 + j := ⟨k - 300, by omega⟩
  clear hk
  induction j with
  | zero => exact awake7_f
  | succ j ih => exact P.skifflaw7_awake.mono (300 + j) _ ih
theorem held7_f : P.skifflaw7_held.f 250 = some (mk (put ⟨1, 0, 12, 3146506012⟩ ++ (List.replicate 168 255 ++ ([97, 98, 97, 98, 97, 98, 97, 98, 97, 98, 97, 98] ++ List.replicate 564 255)))) := by kernel_rfl
theorem held7_up : ∀ j, P.skifflaw7_held.f (250 + j) = some (mk (put ⟨1, 0, 12, 3146506012⟩ ++ (List.replicate 168 255 ++ ([97, 98, 97, 98, 97, 98, 97, 98, 97, 98, 97, 98] ++ List.replicate 564 255))))
  | 0 => held7_f
  | j + 1 => P.skifflaw7_held.mono (250 + j) _ (held7_up j)
theorem held7 (k : Nat) (hk : 250 ≤ k) : ∃ H : ByteArray, P.skifflaw7_held.f k = some H ∧ H.size = 768 := by
  obtain ⟨j, rfl⟩ : ∃ j, k = 250 + j := ⟨k - 250, by omega⟩
  exact ⟨_, held7_up j, by rw [mk_size]; simp only [List.length_append, put_length, List.length_replicate, List.length_cons, List.length_nil]⟩

end Go.Proofs.Ytdijecmpaoabbaa
