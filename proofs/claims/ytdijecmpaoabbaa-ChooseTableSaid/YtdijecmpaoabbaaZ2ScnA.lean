/- The records of a flash, as journal.Scan finds them. -/
import Derived.Test.YtdijecmpaoabbaaZ2HandB
import Derived.Test.YtdijecmpaoabbaaZ2Px2
set_option linter.unusedVariables false
set_option linter.unusedSimpArgs false
set_option maxHeartbeats 4000000
namespace Go.Proofs.Ytdijecmpaoabbaa
open Go.RowKit Skiff Go.Proofs.YtdijecmpaoabbaaW.PrintWords

abbrev Plc := P.S25
def slotAt (f : ByteArray) (i : Nat) : Option Rec := Skiff.get (bl (f.extract (24 * i) (24 * i + 24)))
def mkPl (i : Nat) (r : Rec) : Plc := ⟨24 * (i : Int), ⟨r.seq, r.slot, r.size, r.sum⟩⟩
def pls (f : ByteArray) (i : Nat) : List Plc := ((slotAt f i).map (mkPl i)).toList
def scanTo (f : ByteArray) : Nat → List Plc
  | 0 => []
  | n + 1 => scanTo f n ++ pls f n
theorem scanTo_len (f : ByteArray) : ∀ n, (scanTo f n).length ≤ n
  | 0 => Nat.le_refl _
  | n + 1 => by
    have := scanTo_len f n
    rw [scanTo, List.length_append]
    have : (pls f n).length ≤ 1 := by unfold pls; cases slotAt f n <;> simp
    omega
theorem scanTo_mem {f : ByteArray} {p : Plc} : ∀ {n}, p ∈ scanTo f n → ∃ i r, i < n ∧ slotAt f i = some r ∧ p = mkPl i r
  | 0, h => by simp [scanTo] at h
  | n + 1, h => by
    rw [scanTo, List.mem_append] at h
    rcases h with h | h
    · obtain ⟨i, r, h1, h2⟩ := scanTo_mem h
      exact ⟨i, r, by omega, h2⟩
    · unfold pls at h
      cases hs : slotAt f n with
      | none => rw [hs] at h; simp at h
      | some r => rw [hs] at h; simp at h; exact ⟨n, r, by omega, hs, h⟩
theorem scanTo_asc (f : ByteArray) : ∀ n, (scanTo f n).Pairwise (fun p q => p.f0 < q.f0)
  | 0 => List.Pairwise.nil
  | n + 1 => by
    rw [scanTo, List.pairwise_append]
    refine ⟨scanTo_asc f n, ?_, fun p hp q hq => ?_⟩
    · unfold pls; cases slotAt f n <;> simp
    · obtain ⟨i, r, hi, _, rfl⟩ := scanTo_mem hp
      unfold pls at hq
      cases hs : slotAt f n with
      | none => rw [hs] at hq; simp at hq
      | some r2 =>
        rw [hs] at hq
        simp at hq
        subst hq
        show 24 * (i : Int) < 24 * (n : Int)
        omega
theorem scanTo_at {f : ByteArray} {p : Plc} {n : Nat} (h : p ∈ scanTo f n) : 0 ≤ p.f0 ∧ p.f0 < 24 * (n : Int) := by
  obtain ⟨i, r, hi, _, rfl⟩ := scanTo_mem h
  show 0 ≤ 24 * (i : Int) ∧ 24 * (i : Int) < 24 * (n : Int)
  omega
theorem slotAt_may {f : ByteArray} {i : Nat} {r : Rec} (h : slotAt f i = some r) : recMay r = true := (get_some h).1

theorem getTup_some {l : List UInt8} {r : Rec} (h : Skiff.get l = some r) : getTup l = (r.seq, r.slot, r.size, r.sum, 0) := by unfold getTup; rw [h]
theorem getTup_none {l : List UInt8} (h : Skiff.get l = none) : getTup l = (0, 0, 0, 0, 400) := by unfold getTup; rw [h]

theorem nmay_f (f : ByteArray) : P.nor_May.f f = some (decide (f.size = 768)) := by
  unfold P.nor_May.f
  congr 1
  rw [Bool.eq_iff_iff]; simp; omega
theorem at_f (f : ByteArray) (hf : f.size = 768) (i : Nat) (hi : i < 8) : P.journal_at.f f (24 * (i : Int)) = some (f.extract (24 * i) (24 * i + 24)) := by
  unfold P.journal_at.f
  have e : wrap64 (24 * (i : Int) + 24) = 24 * (i : Int) + 24 := by simp only [wrap64]; omega
  rw [e, if_pos (by omega), if_pos (by omega), if_pos (by omega)]
  rw [show (24 * (i : Int)).toNat = 24 * i by omega, show (24 * (i : Int) + 24).toNat = 24 * i + 24 by omega]
theorem scan_l0 (f : ByteArray) (hf : f.size = 768) (d : Nat) : ∀ (k i : Nat), i + d = 8 → d < k → P.journal_Scan.l0 k f (scanTo f i) (i : Int) = some (scanTo f 8, 0) := by
  induction d with
  | zero =>
    intro k i h1 h2
    obtain ⟨k, rfl⟩ : ∃ m, k = m + 1 := ⟨k - 1, by omega⟩
    obtain rfl : i = 8 := by omega
    simp only [P.journal_Scan.l0]
    rw [if_neg (by omega)]
  | succ d ih =>
    intro k i h1 h2
    obtain ⟨k, rfl⟩ : ∃ m, k = m + 1 := ⟨k - 1, by omega⟩
    have hr := ih k (i + 1) (by omega) (by omega)
    have hl := scanTo_len f i
    have e1 : wrap64 ((i : Int) * 24) = 24 * (i : Int) := by simp only [wrap64]; omega
    have e2 : wrap64 ((i : Int) + 1) = ((i + 1 : Nat) : Int) := by simp only [wrap64]; omega
    simp only [P.journal_Scan.l0, P.entry_Get.f]
    rw [if_pos (by omega), e1, at_f f hf i (by omega), e2]
    simp only [Option.bind_some]
    cases hs : slotAt f i with
    | none =>
      rw [getTup_none hs]
      simp only
      rw [if_neg (by omega)]
      rw [scanTo, pls, hs] at hr
      simpa using hr
    | some r =>
      rw [getTup_some hs]
      simp only [if_true]
      rw [if_pos (by omega)]
      rw [scanTo, pls, hs] at hr
      exact hr
theorem scan_f (f : ByteArray) (k : Nat) (hk : 8 < k) : P.journal_Scan.f k f = some (if f.size = 768 then (scanTo f 8, 0) else ([], 500)) := by
  unfold P.journal_Scan.f
  rw [nmay_f]
  simp only [Option.bind_some]
  by_cases h : f.size = 768
  · rw [decide_eq_true h, if_pos h, if_pos rfl]
    exact scan_l0 f h 8 k 0 (by omega) hk
  · rw [decide_eq_false h, if_neg h]; rfl

end Go.Proofs.Ytdijecmpaoabbaa
