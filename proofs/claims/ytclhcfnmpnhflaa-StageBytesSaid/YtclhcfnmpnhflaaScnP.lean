/- The records of a flash: journal.Scan, place.Next, stage.Record, and the reference's. -/
import Derived.Test.YtclhcfnmpnhflaaImgP
import Derived.Test.YtclhcfnmpnhflaaPx3
set_option linter.unusedVariables false
set_option linter.unusedSimpArgs false
set_option maxHeartbeats 4000000
namespace Go.Proofs.Ytclhcfnmpnhflaa
open Go.RowKit Skiff Go.Proofs.YtclhcfnmpnhflaaW.PrintWords

abbrev Plc := P.S45
def slotAt (f : ByteArray) (i : Nat) : Option Rec := Skiff.get (bl (f.extract (24 * i) (24 * i + 24)))
def mkPl (i : Nat) (r : Rec) : Plc := ⟨24 * (i : Int), ⟨r.seq, r.slot, r.size, r.sum⟩⟩
def pls (f : ByteArray) (i : Nat) : List Plc := ((slotAt f i).map (mkPl i)).toList
def scanTo (f : ByteArray) : Nat → List Plc
  | 0 => []
  | n + 1 => scanTo f n ++ pls f n
theorem scanTo_len (f : ByteArray) : ∀ n, (scanTo f n).length ≤ n
  | 0 => Nat.le_refl _
  | n + 1 => by
    have := scanTo_len f n
    rw [scanTo, List.length_append]
    have : (pls f n).length ≤ 1 := by unfold pls; cases slotAt f n <;> simp
    omega
theorem scanTo_mem {f : ByteArray} {p : Plc} : ∀ {n}, p ∈ scanTo f n → ∃ i r, i < n ∧ slotAt f i = some r ∧ p = mkPl i r
  | 0, h => by simp [scanTo] at h
  | n + 1, h => by
    rw [scanTo, List.mem_append] at h
    rcases h with h | h
    · obtain ⟨i, r, h1, h2⟩ := scanTo_mem h
      exact ⟨i, r, by omega, h2⟩
    · unfold pls at h
      cases hs : slotAt f n with
      | none => rw [hs] at h; simp at h
      | some r => rw [hs] at h; simp at h; exact ⟨n, r, by omega, hs, h⟩
theorem slotAt_may {f : ByteArray} {i : Nat} {r : Rec} (h : slotAt f i = some r) : recMay r = true := (get_some h).1

theorem getTup_some {l : List UInt8} {r : Rec} (h : Skiff.get l = some r) : getTup l = (r.seq, r.slot, r.size, r.sum, 0) := by unfold getTup; rw [h]
theorem getTup_none {l : List UInt8} (h : Skiff.get l = none) : getTup l = (0, 0, 0, 0, 400) := by unfold getTup; rw [h]

theorem at_f (f : ByteArray) (hf : f.size = 768) (i : Nat) (hi : i < 8) : P.journal_at.f f (24 * (i : Int)) = some (f.extract (24 * i) (24 * i + 24)) := by
  unfold P.journal_at.f
  have e : wrap64 (24 * (i : Int) + 24) = 24 * (i : Int) + 24 := by simp only [wrap64]; omega
  rw [e, if_pos (by omega), if_pos (by omega), if_pos (by omega)]
  rw [show (24 * (i : Int)).toNat = 24 * i by omega, show (24 * (i : Int) + 24).toNat = 24 * i + 24 by omega]
theorem scan_l0 (f : ByteArray) (hf : f.size = 768) (d : Nat) : ∀ (k i : Nat), i + d = 8 → d < k → P.journal_Scan.l0 k f (scanTo f i) (i : Int) = some (scanTo f 8, 0) := by
  induction d with
  | zero =>
    intro k i h1 h2
    obtain ⟨k, rfl⟩ : ∃ m, k = m + 1 := ⟨k - 1, by omega⟩
    obtain rfl : i = 8 := by omega
    simp only [P.journal_Scan.l0]
    rw [if_neg (by omega)]
  | succ d ih =>
    intro k i h1 h2
    obtain ⟨k, rfl⟩ : ∃ m, k = m + 1 := ⟨k - 1, by omega⟩
    have hr := ih k (i + 1) (by omega) (by omega)
    have hl := scanTo_len f i
    have e1 : wrap64 ((i : Int) * 24) = 24 * (i : Int) := by simp only [wrap64]; omega
    have e2 : wrap64 ((i : Int) + 1) = ((i + 1 : Nat) : Int) := by simp only [wrap64]; omega
    simp only [P.journal_Scan.l0, P.entry_Get.f]
    rw [if_pos (by omega), e1, at_f f hf i (by omega), e2]
    simp only [Option.bind_some]
    cases hs : slotAt f i with
    | none =>
      rw [getTup_none hs]
      simp only
      rw [if_neg (by omega)]
      rw [scanTo, pls, hs] at hr
      simpa using hr
    | some r =>
      rw [getTup_some hs]
      simp only [if_true]
      rw [if_pos (by omega)]
      rw [scanTo, pls, hs] at hr
      exact hr
theorem scan_f (f : ByteArray) (k : Nat) (hk : 8 < k) : P.journal_Scan.f k f = some (if f.size = 768 then (scanTo f 8, 0) else ([], 500)) := by
  unfold P.journal_Scan.f
  rw [may_f]
  simp only [Option.bind_some]
  by_cases h : f.size = 768
  · rw [decide_eq_true h, if_pos h, if_pos rfl]
    exact scan_l0 f h 8 k 0 (by omega) hk
  · rw [decide_eq_false h, if_neg h]; rfl
theorem rscan_step (f : ByteArray) (hf : f.size = 768) (s j k : Nat) (hs : s < 2) (hj : j < 4) : P.skiffref1_Scan.l1 (k + 1) f (scanTo f (4 * s + j)) s (96 * (s : Int) + 24 * (j : Int)) = P.skiffref1_Scan.l1 k f (scanTo f (4 * s + (j + 1))) s (96 * (s : Int) + 24 * ((j + 1 : Nat) : Int)) := by
  have hl := scanTo_len f (4 * s + j)
  have e1 : wrap64 (96 * (s : Int) + 24 * (j : Int) + 24) = 96 * (s : Int) + 24 * (j : Int) + 24 := by simp only [wrap64]; omega
  have e2 : wrap64 ((s : Int) + 1) = (s : Int) + 1 := by simp only [wrap64]; omega
  have e3 : wrap64 (((s : Int) + 1) * 96) = ((s : Int) + 1) * 96 := by simp only [wrap64]; omega
  have e4 : 96 * (s : Int) + 24 * (j : Int) + 24 = 96 * (s : Int) + 24 * ((j + 1 : Nat) : Int) := by omega
  have e5 : f.extract (96 * (s : Int) + 24 * (j : Int)).toNat (96 * (s : Int) + 24 * (j : Int) + 24).toNat = f.extract (24 * (4 * s + j)) (24 * (4 * s + j) + 24) := by
    rw [show (96 * (s : Int) + 24 * (j : Int)).toNat = 24 * (4 * s + j) by omega, show (96 * (s : Int) + 24 * (j : Int) + 24).toNat = 24 * (4 * s + j) + 24 by omega]
  have e6 : 96 * (s : Int) + 24 * (j : Int) = 24 * ((4 * s + j : Nat) : Int) := by omega
  simp only [P.skiffref1_Scan.l1, P.skiffref1_GetEntry.f]
  rw [e2, e3, e1, if_pos (by omega), if_pos (by omega), if_pos (by omega), if_pos (by omega), e5, e4]
  simp only [Option.bind_some]
  rw [show 4 * s + (j + 1) = 4 * s + j + 1 from rfl, scanTo, pls]
  cases h : slotAt f (4 * s + j) with
  | none =>
    rw [getTup_none h]
    simp only
    rw [if_neg (by omega)]
    simp
  | some r =>
    rw [getTup_some h]
    simp only [if_true]
    rw [if_pos (by omega), e6]
    rfl
theorem rscan_next (f : ByteArray) (s k : Nat) (hs : s < 2) : P.skiffref1_Scan.l1 (k + 1) f (scanTo f (4 * s + 4)) s (96 * (s : Int) + 24 * ((4 : Nat) : Int)) = P.skiffref1_Scan.l0 k f (scanTo f (4 * (s + 1))) ((s + 1 : Nat) : Int) := by
  have e1 : wrap64 (96 * (s : Int) + 24 * ((4 : Nat) : Int) + 24) = 96 * (s : Int) + 120 := by simp only [wrap64]; omega
  have e2 : wrap64 ((s : Int) + 1) = ((s + 1 : Nat) : Int) := by simp only [wrap64]; omega
  have e3 : wrap64 (((s + 1 : Nat) : Int) * 96) = ((s + 1 : Nat) : Int) * 96 := by simp only [wrap64]; omega
  simp only [P.skiffref1_Scan.l1]
  rw [e2, e3, e1, if_neg (by omega)]
  rfl
theorem rscan_sector (f : ByteArray) (hf : f.size = 768) (s k : Nat) (hs : s < 2) : P.skiffref1_Scan.l0 (k + 6) f (scanTo f (4 * s)) s = P.skiffref1_Scan.l0 k f (scanTo f (4 * (s + 1))) ((s + 1 : Nat) : Int) := by
  have e : wrap64 ((s : Int) * 96) = 96 * (s : Int) + 24 * ((0 : Nat) : Int) := by simp only [wrap64]; omega
  have h0 := rscan_step f hf s 0 (k + 4) hs (by omega)
  have h1 := rscan_step f hf s 1 (k + 3) hs (by omega)
  have h2 := rscan_step f hf s 2 (k + 2) hs (by omega)
  have h3 := rscan_step f hf s 3 (k + 1) hs (by omega)
  have h4 := rscan_next f s k hs
  rw [show k + 6 = (k + 5) + 1 from rfl]
  simp only [P.skiffref1_Scan.l0]
  rw [if_pos (by omega), e]
  exact h0.trans (h1.trans (h2.trans (h3.trans h4)))
theorem rscan_f (f : ByteArray) (k : Nat) (hk : 16 < k) : P.skiffref1_Scan.f k f = some (if f.size = 768 then (scanTo f 8, 0) else ([], 500)) := by
  unfold P.skiffref1_Scan.f
  rw [flashMay_f]
  simp only [Option.bind_some]
  by_cases h : f.size = 768
  · rw [decide_eq_true h, if_pos h, if_pos rfl]
    obtain ⟨m, rfl⟩ : ∃ m, k = m + 1 + 6 + 6 := ⟨k - 13, by omega⟩
    have h0 := rscan_sector f h 0 (m + 1 + 6) (by omega)
    have h1 := rscan_sector f h 1 (m + 1) (by omega)
    refine (h0.trans h1).trans ?_
    simp only [P.skiffref1_Scan.l0]
    rw [if_neg (by omega)]
  · rw [decide_eq_false h, if_neg h]; rfl

/-- The greatest number. -/
def maxSeq (l : List Plc) (m : Int) : Int := l.foldl (fun m p => max m p.f1.f0) m
theorem mx_eq (x y : Int) : mx x y = max x y := by unfold mx; split <;> omega
theorem rd_at (l : List Plc) (i : Nat) (h : i < l.length) : P.rd_T45 l (i : Int) = l[i] := by
  unfold P.rd_T45
  rw [Int.toNat_natCast, List.getD_eq_getElem?_getD, List.getElem?_eq_getElem h]; rfl
theorem maxSeq_le {l : List Plc} {m : Int} : ∀ {b : Int}, m ≤ b → (∀ p ∈ l, p.f1.f0 ≤ b) → maxSeq l m ≤ b := by
  induction l generalizing m with
  | nil => intro b h _; exact h
  | cons p l ih => intro b h1 h2; exact ih (show max m p.f1.f0 ≤ b by have := h2 p (List.mem_cons_self ..); omega) (fun q hq => h2 q (List.mem_cons_of_mem _ hq))
theorem maxSeq_ge {l : List Plc} {m : Int} : m ≤ maxSeq l m ∧ ∀ p ∈ l, p.f1.f0 ≤ maxSeq l m := by
  induction l generalizing m with
  | nil => exact ⟨Int.le_refl _, fun _ h => by cases h⟩
  | cons p l ih =>
    have h := ih (m := max m p.f1.f0)
    refine ⟨?_, fun q hq => ?_⟩
    · exact Int.le_trans (by omega) h.1
    · rcases List.mem_cons.1 hq with rfl | hq
      · exact Int.le_trans (by omega) h.1
      · exact h.2 q hq
def nextPair (f : ByteArray) : Int × Int := if f.size = 768 then (if maxSeq (scanTo f 8) 0 = 1048576 then (0, 801) else (maxSeq (scanTo f 8) 0 + 1, 0)) else (0, 800)
theorem maxSeq_may (f : ByteArray) (n : Nat) : 0 ≤ maxSeq (scanTo f n) 0 ∧ maxSeq (scanTo f n) 0 ≤ 1048576 := by
  refine ⟨maxSeq_ge.1, maxSeq_le (by omega) fun p hp => ?_⟩
  obtain ⟨i, r, _, hs, rfl⟩ := scanTo_mem hp
  exact (recMay_iff.1 (slotAt_may hs)).1.2
theorem rnext_l0 (l : List Plc) (hl : l.length ≤ 8) (d : Nat) : ∀ (k i : Nat) (m : Int), i + d = l.length → d < k → 0 ≤ m → maxSeq (l.drop i) m ≤ 1048576 → P.skiffref1_NextSeq.l0 k l m (i : Int) = some (if maxSeq (l.drop i) m = 1048576 then (0, 801) else (maxSeq (l.drop i) m + 1, 0)) := by
  induction d with
  | zero =>
    intro k i m h1 h2 h3 h4
    obtain ⟨k, rfl⟩ : ∃ m, k = m + 1 := ⟨k - 1, by omega⟩
    have e0 : maxSeq (l.drop i) m = m := by rw [List.drop_of_length_le (by omega)]; rfl
    rw [e0] at h4 ⊢
    have e : wrap64 (m + 1) = m + 1 := by simp only [wrap64]; omega
    simp only [P.skiffref1_NextSeq.l0]
    rw [if_neg (by omega), e]
    split <;> rfl
  | succ d ih =>
    intro k i m h1 h2 h3 h4
    obtain ⟨k, rfl⟩ : ∃ m, k = m + 1 := ⟨k - 1, by omega⟩
    have e2 : wrap64 ((i : Int) + 1) = ((i + 1 : Nat) : Int) := by simp only [wrap64]; omega
    rw [List.drop_eq_getElem_cons (by omega)] at h4 ⊢
    have hr := ih k (i + 1) (max m (l[i]'(by omega)).f1.f0) (by omega) (by omega) (by omega) h4
    simp only [P.skiffref1_NextSeq.l0]
    rw [if_pos (by omega), if_pos (by omega), e2, mx_eq, rd_at l i (by omega)]
    exact hr
theorem rnext_f (f : ByteArray) (k : Nat) (hk : 16 < k) : P.skiffref1_NextSeq.f k f = some (nextPair f) := by
  unfold P.skiffref1_NextSeq.f nextPair
  rw [rscan_f f k hk]
  simp only [Option.bind_some]
  by_cases h : f.size = 768
  · simp only [h, if_true]
    have hm := maxSeq_may f 8
    have := scanTo_len f 8
    exact rnext_l0 (scanTo f 8) this (scanTo f 8).length k 0 0 (by omega) (by omega) (by omega) hm.2
  · simp only [h, if_false]; rfl
theorem next_l0 (l : List Plc) (hl : l.length ≤ 8) (d : Nat) : ∀ (k i : Nat) (m : Int), i + d = l.length → d < k → 0 ≤ m → maxSeq (l.drop i) m ≤ 1048576 → P.place_Next.l0 k m l (l.length : Int) (i : Int) = some (if maxSeq (l.drop i) m = 1048576 then (0, 801) else (maxSeq (l.drop i) m + 1, 0)) := by
  induction d with
  | zero =>
    intro k i m h1 h2 h3 h4
    obtain ⟨k, rfl⟩ : ∃ m, k = m + 1 := ⟨k - 1, by omega⟩
    have e0 : maxSeq (l.drop i) m = m := by rw [List.drop_of_length_le (by omega)]; rfl
    rw [e0] at h4 ⊢
    have e : wrap64 (m + 1) = m + 1 := by simp only [wrap64]; omega
    simp only [P.place_Next.l0]
    rw [if_neg (by omega), e]
    by_cases hm : m = 1048576
    · rw [if_pos (by omega), if_pos hm]
    · rw [if_neg (by omega), if_neg hm]
  | succ d ih =>
    intro k i m h1 h2 h3 h4
    obtain ⟨k, rfl⟩ : ∃ m, k = m + 1 := ⟨k - 1, by omega⟩
    have e2 : wrap64 ((i : Int) + 1) = ((i + 1 : Nat) : Int) := by simp only [wrap64]; omega
    rw [List.drop_eq_getElem_cons (by omega)] at h4 ⊢
    have hr := ih k (i + 1) (max m (l[i]'(by omega)).f1.f0) (by omega) (by omega) (by omega) h4
    simp only [P.place_Next.l0]
    rw [if_pos (by omega), if_pos (by omega), if_pos (by omega), e2, mx_eq, rd_at l i (by omega)]
    exact hr
theorem next_f (f : ByteArray) (k : Nat) (hk : 16 < k) : P.place_Next.f k f = some (nextPair f) := by
  unfold P.place_Next.f nextPair
  rw [scan_f f k (by omega)]
  simp only [Option.bind_some]
  by_cases h : f.size = 768
  · simp only [h, if_true]
    have hm := maxSeq_may f 8
    have := scanTo_len f 8
    exact next_l0 (scanTo f 8) this (scanTo f 8).length k 0 0 (by omega) (by omega) (by omega) hm.2
  · simp only [h, if_false]; rfl

def recMayOf (f : ByteArray) (s n : Int) : Bool := decide (f.size = 768) && (within s 0 1 && within n 1 288)
def recTup (f : ByteArray) (s n : Int) : Int × Int × Int × Int × Int :=
  if recMayOf f s n = true then (if (nextPair f).2 = 0 then ((nextPair f).1, s, n, (crcSum (bl (f.extract (192 + 288 * s.toNat) (192 + 288 * s.toNat + n.toNat))) : Nat), 0) else (0, 0, 0, 0, (nextPair f).2)) else (0, 0, 0, 0, 900)
theorem sums_small {s : ByteArray} (h : s.size ≤ 768) : sums s = some ((crcSum (bl s) : Nat) : Int) := by unfold sums; rw [if_pos (by omega)]
theorem rrec_f (f : ByteArray) (s n : Int) (k : Nat) (hk : 17 < k) : P.skiffref1_RecordOf.f k f s n = some (recTup f s n) := by
  unfold P.skiffref1_RecordOf.f recTup recMayOf
  obtain ⟨k, rfl⟩ : ∃ m, k = m + 1 := ⟨k - 1, by omega⟩
  rw [rbase_f, flashMay_f, upTo_f]
  simp only [Option.bind_some]
  by_cases h1 : f.size = 768
  · rw [decide_eq_true h1]
    cases h2 : within s 0 1
    · simp [baseOf, h2, P.skiffref1_RecordOf.j0]
    · have hb : baseOf s = (192 + 288 * s, 0) := by unfold baseOf; rw [if_pos h2]
      rw [hb]
      simp only [if_true]
      cases h3 : within n 1 288
      · simp [P.skiffref1_RecordOf.j0]
      · have h2 := Skiff.within_iff.1 h2
        have h3 := Skiff.within_iff.1 h3
        have e : wrap64 (192 + 288 * s + n) = 192 + 288 * s + n := by simp only [wrap64]; omega
        simp only [P.skiffref1_RecordOf.j0, P.skiffref1_Crc.f, Bool.not_true, Bool.false_eq_true, if_false, Bool.and_self, if_true]
        rw [rnext_f f k (by omega)]
        simp only [Option.bind_some]
        by_cases h4 : (nextPair f).2 = 0
        · rw [if_pos h4, if_pos h4, e, if_pos (by omega), if_pos (by omega), if_pos (by omega), sums_small (by rw [ByteArray.size_extract]; omega)]
          rw [show (192 + 288 * s).toNat = 192 + 288 * s.toNat by omega, show (192 + 288 * s + n).toNat = 192 + 288 * s.toNat + n.toNat by omega]
          rfl
        · rw [if_neg h4, if_neg h4]
  · rw [decide_eq_false h1]
    simp [P.skiffref1_RecordOf.j0]
theorem rec_f (f : ByteArray) (s n : Int) (k : Nat) (hk : 17 < k) : P.stage_Record.f k f s n = some (recTup f s n) := by
  unfold P.stage_Record.f recTup recMayOf
  obtain ⟨k, rfl⟩ : ∃ m, k = m + 1 := ⟨k - 1, by omega⟩
  rw [may_f, slot_f, size_f]
  simp only [Option.bind_some]
  by_cases h1 : f.size = 768
  · rw [decide_eq_true h1]
    cases h2 : within s 0 1
    · simp [P.stage_Record.j0]
    · simp only [if_true]
      cases h3 : within n 1 288
      · simp [P.stage_Record.j0]
      · have hb : baseOf s = (192 + 288 * s, 0) := by unfold baseOf; rw [if_pos h2]
        have h2 := Skiff.within_iff.1 h2
        have h3 := Skiff.within_iff.1 h3
        have e : wrap64 (192 + 288 * s + n) = 192 + 288 * s + n := by simp only [wrap64]; omega
        simp only [P.stage_Record.j0, P.crc_Sum.f, Bool.not_true, Bool.false_eq_true, if_false, Bool.and_self, if_true]
        rw [next_f f k (by omega), base_f, hb]
        simp only [Option.bind_some]
        by_cases h4 : (nextPair f).2 = 0
        · rw [if_pos h4, if_pos h4, e, if_pos (by omega), if_pos (by omega), if_pos (by omega), sums_small (by rw [ByteArray.size_extract]; omega)]
          rw [show (192 + 288 * s).toNat = 192 + 288 * s.toNat by omega, show (192 + 288 * s + n).toNat = 192 + 288 * s.toNat + n.toNat by omega]
          rfl
        · rw [if_neg h4, if_neg h4]
  · rw [decide_eq_false h1]
    simp [P.stage_Record.j0]

end Go.Proofs.Ytclhcfnmpnhflaa
