/- The flash in plain Lean: what is programmed, torn, worn. -/
import Derived.Test.YtclhcfnmpnhflaaPure
set_option linter.unusedVariables false
set_option linter.unusedSimpArgs false
set_option maxHeartbeats 4000000
namespace Skiff

/-- What a byte of the word lets stand where so many bits of it are done. -/
def maskB (w : UInt8) (m : Nat) : UInt8 := w ||| UInt8.ofNat (255 <<< min m 8)
def tornB (b w : UInt8) (m : Nat) : UInt8 := b &&& maskB w m
def tornL : List UInt8 → List UInt8 → Nat → List UInt8
  | b :: bs, w :: ws, n => tornB b w n :: tornL bs ws (n - 8)
  | bs, _, _ => bs
/-- One bit more. -/
def bitB (x w : UInt8) (m : Nat) : UInt8 := if (w >>> UInt8.ofNat m) &&& 1 = 0 then x &&& ~~~ (1 <<< UInt8.ofNat m) else x

theorem maskB_zero (w : UInt8) : maskB w 0 = 255 := by
  have h : ∀ n : Fin 256, maskB (UInt8.ofFin n) 0 = 255 := by decide +kernel
  exact h w.toFin
theorem maskB_full (w : UInt8) (m : Nat) (h : 8 ≤ m) : maskB w m = w := by
  have e : maskB w m = maskB w 8 := by unfold maskB; rw [show min m 8 = min 8 8 by omega]
  rw [e]
  have h : ∀ n : Fin 256, maskB (UInt8.ofFin n) 8 = UInt8.ofFin n := by decide +kernel
  exact h w.toFin
theorem maskB_step (w : UInt8) (m : Nat) (h : m < 8) : maskB w (m + 1) = if (w >>> UInt8.ofNat m) &&& 1 = 0 then maskB w m &&& ~~~ (1 <<< UInt8.ofNat m) else maskB w m := by
  have h1 : ∀ (k : Fin 8) (n : Fin 256), maskB (UInt8.ofFin n) (k.val + 1) = if (UInt8.ofFin n >>> UInt8.ofNat k.val) &&& 1 = 0 then maskB (UInt8.ofFin n) k.val &&& ~~~ (1 <<< UInt8.ofNat k.val) else maskB (UInt8.ofFin n) k.val := by decide +kernel
  exact h1 ⟨m, h⟩ w.toFin
theorem tornB_step (b w : UInt8) (m : Nat) (h : m < 8) : tornB b w (m + 1) = bitB (tornB b w m) w m := by
  unfold tornB bitB
  rw [maskB_step w m h]
  split <;> simp [UInt8.and_assoc]
theorem tornB_zero (b w : UInt8) : tornB b w 0 = b := by
  unfold tornB
  rw [maskB_zero]
  have h : ∀ n : Fin 256, UInt8.ofFin n &&& 255 = UInt8.ofFin n := by decide +kernel
  exact h b.toFin
theorem tornL_zero : ∀ b w : List UInt8, tornL b w 0 = b
  | [], _ => by simp [tornL]
  | b :: bs, [] => by simp [tornL]
  | b :: bs, w :: ws => by simp [tornL, tornB_zero, tornL_zero bs ws]
@[simp] theorem tornL_length : ∀ (b w : List UInt8) (n : Nat), (tornL b w n).length = b.length
  | [], _, _ => by simp [tornL]
  | b :: bs, [], _ => by simp [tornL]
  | b :: bs, w :: ws, n => by simp [tornL, tornL_length bs ws]
/-- One bit more, in the row of bytes. -/
theorem tornL_step : ∀ (b w : List UInt8) (n : Nat), n < 8 * b.length → n < 8 * w.length → tornL b w (n + 1) = (tornL b w n).set (n / 8) (bitB ((tornL b w n).getD (n / 8) 0) (w.getD (n / 8) 0) (n % 8))
  | [], _, _, h, _ => by simp at h
  | b :: bs, [], _, _, h => by simp at h
  | b :: bs, w :: ws, n, h1, h2 => by
    by_cases h : n < 8
    · have e1 : n + 1 - 8 = 0 := by omega
      have e2 : n - 8 = 0 := by omega
      have e3 : n / 8 = 0 := by omega
      have e4 : n % 8 = n := by omega
      simp [tornL, e1, e2, e3, e4, tornB_step b w n h]
    · obtain ⟨m, rfl⟩ : ∃ m, n = m + 8 := ⟨n - 8, by omega⟩
      have ih := tornL_step bs ws m (by simp at h1; omega) (by simp at h2; omega)
      have e1 : m + 8 + 1 - 8 = m + 1 := by omega
      have e2 : m + 8 - 8 = m := by omega
      have e3 : (m + 8) / 8 = m / 8 + 1 := by omega
      have e4 : (m + 8) % 8 = m % 8 := by omega
      have t1 : tornB b w (m + 8 + 1) = tornB b w (m + 8) := by unfold tornB; rw [maskB_full w _ (by omega), maskB_full w _ (by omega)]
      simp only [tornL, e1, e2, e3, e4, t1, List.getD_cons_succ, List.set_cons_succ, ih]
/-- Byte by byte. -/
theorem tornL_at : ∀ (b w : List UInt8) (n j : Nat), j < b.length → j < w.length → (tornL b w n).getD j 0 = tornB (b.getD j 0) (w.getD j 0) (n - 8 * j)
  | [], _, _, _, h, _ => by simp at h
  | b :: bs, [], _, _, _, h => by simp at h
  | b :: bs, w :: ws, n, 0, _, _ => by simp [tornL]
  | b :: bs, w :: ws, n, j + 1, h1, h2 => by
    have ih := tornL_at bs ws (n - 8) j (by simpa using h1) (by simpa using h2)
    simp only [tornL, List.getD_cons_succ, ih, show n - 8 - 8 * j = n - 8 * (j + 1) by omega]

/-- The flash behind a torn word, behind a worn sector. -/
def tornF (f : List UInt8) (at_ : Nat) (w : List UInt8) (n : Nat) : List UInt8 := f.take at_ ++ tornL ((f.drop at_).take 4) w n ++ f.drop (at_ + 4)
def wornF (f : List UInt8) (at_ many : Nat) : List UInt8 := f.take at_ ++ List.replicate many 255 ++ f.drop (at_ + many)
def wordAt (x : Int) : Bool := within x 0 764 && decide (x % 4 = 0)
def tornMay (f : List UInt8) (at_ : Int) (w : List UInt8) (n : Int) : Bool := decide (f.length = 768) && wordAt at_ && decide (w.length = 4) && within n 0 32
def wornMay (f : List UInt8) (s n : Int) : Bool := decide (f.length = 768) && within s 0 7 && within n 0 96
def torn (f : List UInt8) (at_ : Int) (w : List UInt8) (n : Int) : Option (List UInt8) := if tornMay f at_ w n = true then some (tornF f at_.toNat w n.toNat) else none
def worn (f : List UInt8) (s n : Int) : Option (List UInt8) := if wornMay f s n = true then some (wornF f (96 * s.toNat) n.toNat) else none
def flash0 : List UInt8 := List.replicate 768 255
theorem flash0_length : flash0.length = 768 := List.length_replicate

end Skiff
