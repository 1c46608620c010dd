/- What the functions of package image, and the reference's, come to. -/
import Derived.Test.YtdijecmpaoabbaaZ2HandB
import Derived.Test.YtdijecmpaoabbaaZ2Px2
import Derived.Test.YtdijecmpaoabbaaZ2Px4
set_option linter.unusedVariables false
set_option linter.unusedSimpArgs false
set_option maxHeartbeats 4000000
namespace Skiff
def baseOf (s : Int) : Int × Int := if within s 0 1 = true then (192 + 288 * s, 0) else (0, 600)
def imageMay (f : ByteArray) (r : Rec) : Bool := decide (f.size = 768) && recMay r
def image (f : ByteArray) (r : Rec) : ByteArray := f.extract (192 + 288 * r.slot.toNat) (192 + 288 * r.slot.toNat + r.size.toNat)
def imagePair (f : ByteArray) (r : Rec) : ByteArray × Int := if imageMay f r = true then (image f r, 0) else (⟨#[]⟩, 600)
def goodB (f : ByteArray) (r : Rec) : Bool := ((crcSum (bl (image f r)) : Nat) : Int) == r.sum
def goodPair (f : ByteArray) (r : Rec) : Bool × Int := if imageMay f r = true then (goodB f r, 0) else (false, 600)
theorem image_size {f : ByteArray} {r : Rec} (h : imageMay f r = true) : (image f r).size = r.size.toNat := by
  obtain ⟨h1, h2⟩ := Bool.and_eq_true_iff.1 h
  have h1 := of_decide_eq_true h1
  have h2 := recMay_iff.1 h2
  unfold image
  rw [ByteArray.size_extract, h1]
  omega
end Skiff
namespace Go.Proofs.Ytdijecmpaoabbaa
open Go.RowKit Skiff

theorem in_f (x a b : Int) : P.entry_in.f x a b = some (within x a b) := by
  unfold P.entry_in.f within
  by_cases h : a ≤ x
  · rw [if_pos h, decide_eq_true h]; rfl
  · rw [if_neg h, decide_eq_false h]; rfl
theorem slot_f (x : Int) : P.entry_Slot.f x = some (within x 0 1) := by unfold P.entry_Slot.f; rw [in_f]; rfl
theorem may_f (f : ByteArray) : P.nor_May.f f = some (decide (f.size = 768)) := by
  unfold P.nor_May.f
  congr 1
  rw [Bool.eq_iff_iff]; simp; omega
theorem base_f (s : Int) : P.image_Base.f s = some (baseOf s) := by
  unfold P.image_Base.f P.image_Sector.f P.journal_Begin.f baseOf
  rw [slot_f]
  simp only [Option.bind_some]
  cases h : within s 0 1
  · rfl
  · have h := Skiff.within_iff.1 h
    simp only [if_true]
    congr 2
    simp only [wrap64]
    omega
theorem of_f (f : ByteArray) (r : Rec) : P.image_Of.f f r.seq r.slot r.size r.sum = some (imagePair f r) := by
  unfold P.image_Of.f P.entry_May.f imagePair imageMay
  rw [may_f, base_f]
  simp only [Option.bind_some]
  by_cases h1 : f.size = 768
  · rw [decide_eq_true h1]
    cases h2 : recMay r
    · rfl
    · have h3 := recMay_iff.1 h2
      have hb : baseOf r.slot = (192 + 288 * r.slot, 0) := by unfold baseOf; rw [if_pos (Skiff.within_iff.2 h3.2.1)]
      have hw : wrap64 (192 + 288 * r.slot + r.size) = 192 + 288 * r.slot + r.size := by simp only [wrap64]; omega
      simp only [if_true, hb, hw, Bool.and_self]
      rw [if_pos (by omega), if_pos (by omega), if_pos (by omega)]
      unfold image
      rw [show (192 + 288 * r.slot).toNat = 192 + 288 * r.slot.toNat by omega, show (192 + 288 * r.slot + r.size).toNat = 192 + 288 * r.slot.toNat + r.size.toNat by omega]
  · rw [decide_eq_false h1]; rfl
theorem good_f (f : ByteArray) (r : Rec) : P.image_Good.f f r.seq r.slot r.size r.sum = some (goodPair f r) := by
  unfold P.image_Good.f P.crc_Sum.f goodPair
  rw [of_f]
  simp only [Option.bind_some]
  unfold imagePair
  cases h : imageMay f r
  · rfl
  · simp only [if_true]
    unfold sums
    have hs := image_size h
    have hr := recMay_iff.1 (Bool.and_eq_true_iff.1 h).2
    rw [if_pos (by omega)]; rfl
end Go.Proofs.Ytdijecmpaoabbaa
