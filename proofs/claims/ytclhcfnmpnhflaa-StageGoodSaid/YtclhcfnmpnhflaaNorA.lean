
/- The small functions of package nor. -/
import Derived.Test.YtclhcfnmpnhflaaRefM
set_option linter.unusedVariables false
set_option linter.unusedSimpArgs false
set_option maxHeartbeats 4000000
namespace Go.Proofs.Ytclhcfnmpnhflaa
open Go.RowKit Skiff
attribute [local go_sem ↓ high] min_two_int min_three_int max_two_int





theorem nmay_calls (s : ByteArray) (w : World) :
    Calls Try.prog 27 #[.string s] w fun e w' => e = .returned (.bool (decide (s.size = 768))) ∧ w = w' := by
  by_cases h : s.size = 768
  · have h1 : ((s.size : Int) == 768) = true := by rw [h]; rfl
    have h2 : Hid (decide (s.size = 768) = true) := by show _ = _; simpa using h
    clear h
    go_enter Try.func27, Try.ntmps27
    go_wp2
    go_ret
    exact ⟨by rw [h2.out]; rfl, rfl⟩
  · have h1 : ((s.size : Int) == 768) = false := by rw [beq_eq_false_iff_ne]; omega
    have h2 : Hid (decide (s.size = 768) = false) := by show _ = _; simpa using h
    clear h
    go_enter Try.func27, Try.ntmps27
    go_wp2
    go_ret
    exact ⟨by rw [h2.out]; rfl, rfl⟩

theorem mask_or (b : UInt8) (m : Nat) (hm : m ≤ 8) : bits .or .u8 (b.toNat : Int) (255 * 2 ^ m % 256) = ((maskB b m).toNat : Int) := by
  have h : ∀ (k : Fin 9) (n : Fin 256), bits .or .u8 ((UInt8.ofFin n).toNat : Int) (255 * 2 ^ k.val % 256) = ((maskB (UInt8.ofFin n) k.val).toNat : Int) := by decide +kernel
  exact h ⟨m, by omega⟩ b.toFin




def putIn (f : List UInt8) (a : Nat) (t : List UInt8) : List UInt8 := f.take a ++ t ++ f.drop (a + t.length)

end Go.Proofs.Ytclhcfnmpnhflaa
