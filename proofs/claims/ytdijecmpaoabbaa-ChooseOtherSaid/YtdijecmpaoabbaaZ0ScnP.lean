/- The records of a flash: journal.Scan, place.Next, stage.Record, and the reference's. -/
import Derived.Test.YtdijecmpaoabbaaZ0ImgP
import Derived.Test.YtdijecmpaoabbaaZ0ScnA
import Derived.Test.YtdijecmpaoabbaaZ0Px2
import Derived.Test.YtdijecmpaoabbaaZ0Px4
set_option linter.unusedVariables false
set_option linter.unusedSimpArgs false
set_option maxHeartbeats 4000000
namespace Go.Proofs.Ytdijecmpaoabbaa
open Go.RowKit Skiff Go.Proofs.YtdijecmpaoabbaaW.PrintWords

theorem rscan_step (f : ByteArray) (hf : f.size = 768) (s j k : Nat) (hs : s < 2) (hj : j < 4) : P.skiffref1_Scan.l1 (k + 1) f (scanTo f (4 * s + j)) s (96 * (s : Int) + 24 * (j : Int)) = P.skiffref1_Scan.l1 k f (scanTo f (4 * s + (j + 1))) s (96 * (s : Int) + 24 * ((j + 1 : Nat) : Int)) := by
  have hl := scanTo_len f (4 * s + j)
  have e1 : wrap64 (96 * (s : Int) + 24 * (j : Int) + 24) = 96 * (s : Int) + 24 * (j : Int) + 24 := by simp only [wrap64]; omega
  have e2 : wrap64 ((s : Int) + 1) = (s : Int) + 1 := by simp only [wrap64]; omega
  have e3 : wrap64 (((s : Int) + 1) * 96) = ((s : Int) + 1) * 96 := by simp only [wrap64]; omega
  have e4 : 96 * (s : Int) + 24 * (j : Int) + 24 = 96 * (s : Int) + 24 * ((j + 1 : Nat) : Int) := by omega
  have e5 : f.extract (96 * (s : Int) + 24 * (j : Int)).toNat (96 * (s : Int) + 24 * (j : Int) + 24).toNat = f.extract (24 * (4 * s + j)) (24 * (4 * s + j) + 24) := by
    rw [show (96 * (s : Int) + 24 * (j : Int)).toNat = 24 * (4 * s + j) by omega, show (96 * (s : Int) + 24 * (j : Int) + 24).toNat = 24 * (4 * s + j) + 24 by omega]
  have e6 : 96 * (s : Int) + 24 * (j : Int) = 24 * ((4 * s + j : Nat) : Int) := by omega
  simp only [P.skiffref1_Scan.l1, P.skiffref1_GetEntry.f]
  rw [e2, e3, e1, if_pos (by omega), if_pos (by omega), if_pos (by omega), if_pos (by omega), e5, e4]
  simp only [Option.bind_some]
  rw [show 4 * s + (j + 1) = 4 * s + j + 1 from rfl, scanTo, pls]
  cases h : slotAt f (4 * s + j) with
  | none =>
    rw [getTup_none h]
    simp only
    rw [if_neg (by omega)]
    simp
  | some r =>
    rw [getTup_some h]
    simp only [if_true]
    rw [if_pos (by omega), e6]
    rfl
theorem rscan_next (f : ByteArray) (s k : Nat) (hs : s < 2) : P.skiffref1_Scan.l1 (k + 1) f (scanTo f (4 * s + 4)) s (96 * (s : Int) + 24 * ((4 : Nat) : Int)) = P.skiffref1_Scan.l0 k f (scanTo f (4 * (s + 1))) ((s + 1 : Nat) : Int) := by
  have e1 : wrap64 (96 * (s : Int) + 24 * ((4 : Nat) : Int) + 24) = 96 * (s : Int) + 120 := by simp only [wrap64]; omega
  have e2 : wrap64 ((s : Int) + 1) = ((s + 1 : Nat) : Int) := by simp only [wrap64]; omega
  have e3 : wrap64 (((s + 1 : Nat) : Int) * 96) = ((s + 1 : Nat) : Int) * 96 := by simp only [wrap64]; omega
  simp only [P.skiffref1_Scan.l1]
  rw [e2, e3, e1, if_neg (by omega)]
  rfl
theorem rscan_sector (f : ByteArray) (hf : f.size = 768) (s k : Nat) (hs : s < 2) : P.skiffref1_Scan.l0 (k + 6) f (scanTo f (4 * s)) s = P.skiffref1_Scan.l0 k f (scanTo f (4 * (s + 1))) ((s + 1 : Nat) : Int) := by
  have e : wrap64 ((s : Int) * 96) = 96 * (s : Int) + 24 * ((0 : Nat) : Int) := by simp only [wrap64]; omega
  have h0 := rscan_step f hf s 0 (k + 4) hs (by omega)
  have h1 := rscan_step f hf s 1 (k + 3) hs (by omega)
  have h2 := rscan_step f hf s 2 (k + 2) hs (by omega)
  have h3 := rscan_step f hf s 3 (k + 1) hs (by omega)
  have h4 := rscan_next f s k hs
  rw [show k + 6 = (k + 5) + 1 from rfl]
  simp only [P.skiffref1_Scan.l0]
  rw [if_pos (by omega), e]
  exact h0.trans (h1.trans (h2.trans (h3.trans h4)))
theorem rscan_f (f : ByteArray) (k : Nat) (hk : 16 < k) : P.skiffref1_Scan.f k f = some (if f.size = 768 then (scanTo f 8, 0) else ([], 500)) := by
  unfold P.skiffref1_Scan.f
  rw [flashMay_f]
  simp only [Option.bind_some]
  by_cases h : f.size = 768
  · rw [decide_eq_true h, if_pos h, if_pos rfl]
    obtain ⟨m, rfl⟩ : ∃ m, k = m + 1 + 6 + 6 := ⟨k - 13, by omega⟩
    have h0 := rscan_sector f h 0 (m + 1 + 6) (by omega)
    have h1 := rscan_sector f h 1 (m + 1) (by omega)
    refine (h0.trans h1).trans ?_
    simp only [P.skiffref1_Scan.l0]
    rw [if_neg (by omega)]
  · rw [decide_eq_false h, if_neg h]; rfl

theorem rd_at (l : List Plc) (i : Nat) (h : i < l.length) : P.rd_T25 l (i : Int) = l[i] := by
  unfold P.rd_T25
  rw [Int.toNat_natCast, List.getD_eq_getElem?_getD, List.getElem?_eq_getElem h]; rfl

end Go.Proofs.Ytdijecmpaoabbaa
