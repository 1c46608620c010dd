
/- The sums, in the form in which the kit's print states its own contracts. -/
import Derived.Test.YtclhcfnmpnhflaaCrcW
import Derived.Test.YtclhcfnmpnhflaaPure
set_option linter.unusedVariables false
set_option linter.unusedSimpArgs false
set_option maxHeartbeats 4000000
namespace Skiff
def sums (s : ByteArray) : Option Int := if s.size ≤ 4611686018427387904 then some ((crcSum (bl s) : Nat) : Int) else none
end Skiff
namespace Go.Proofs.Ytclhcfnmpnhflaa
open Go.RowKit Skiff

theorem g_crc_Sum (a0 : ByteArray) (r : Int) (w : World) (h : sums a0 = some r) :
    Calls Try.prog 31 #[.string a0] w fun e w' => e = .returned (.int .i64 r) ∧ Below w.heap.size w w' := by
  unfold sums at h
  split at h
  · rename_i hs
    obtain rfl := Option.some.inj h
    exact sum_calls a0 w hs
  · cases h
theorem g_skiffref1_Crc (a0 : ByteArray) (r : Int) (w : World) (h : sums a0 = some r) :
    Calls Try.prog 22 #[.string a0] w fun e w' => e = .returned (.int .i64 r) ∧ Below w.heap.size w w' := by
  unfold sums at h
  split at h
  · rename_i hs
    obtain rfl := Option.some.inj h
    refine (ref_crc_calls a0 w hs).mono ?_
    rintro e w' ⟨he, rfl⟩
    exact ⟨he, Below.refl _ _⟩
  · cases h

end Go.Proofs.Ytclhcfnmpnhflaa
