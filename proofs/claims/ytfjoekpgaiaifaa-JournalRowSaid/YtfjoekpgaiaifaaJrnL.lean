/- Journals, JournalPut, JournalForms. -/
import Derived.Test.YtfjoekpgaiaifaaScnP
import Derived.Test.YtfjoekpgaiaifaaPx2
import Derived.Test.YtfjoekpgaiaifaaPx3
import Derived.Test.YtfjoekpgaiaifaaPx4
import Derived.Test.YtfjoekpgaiaifaaPx5
import Derived.Test.YtfjoekpgaiaifaaPx7
set_option linter.unusedVariables false
set_option linter.unusedSimpArgs false
set_option maxHeartbeats 4000000
namespace Go.Proofs.Ytfjoekpgaiaifaa
open Go.RowKit Skiff Go.Proofs.YtfjoekpgaiaifaaW.PrintWords

def blank24 : List UInt8 := List.replicate 24 255
def blankAt (f : ByteArray) (i : Nat) : Prop := bl (f.extract (24 * i) (24 * i + 24)) = blank24
instance (f : ByteArray) (i : Nat) : Decidable (blankAt f i) := by unfold blankAt; infer_instance
def freeIn (f : ByteArray) (s : Nat) : Nat → Nat → Int × Bool × Int
  | _, 0 => (0, false, 0)
  | j, d + 1 => if blankAt f (4 * s + j) then (24 * ((4 * s + j : Nat) : Int), true, 0) else freeIn f s (j + 1) d
def freeTup (f : ByteArray) (s : Int) : Int × Bool × Int := if f.size = 768 ∧ within s 0 1 = true then freeIn f s.toNat 0 4 else (0, false, 500)
theorem fulls24 : fulls 24 = some (mk blank24) := rfl
theorem blank_iff (f : ByteArray) (i : Nat) : ((f.extract (24 * i) (24 * i + 24)).toList = (mk blank24).toList) ↔ blankAt f i := by
  unfold blankAt
  rw [toList_bl, toList_bl, bl_mk]
theorem rfree_l0 (f : ByteArray) (hf : f.size = 768) (s : Nat) (hs : s < 2) (d : Nat) : ∀ (k j : Nat), j + d = 4 → d < k → P.skiffref1_FreePlace.l0 k f s (24 * ((4 * s + j : Nat) : Int)) = some (freeIn f s j d) := by
  induction d with
  | zero =>
    intro k j h1 h2
    obtain ⟨k, rfl⟩ : ∃ m, k = m + 1 := ⟨k - 1, by omega⟩
    have e1 : wrap64 (24 * ((4 * s + j : Nat) : Int) + 24) = 24 * ((4 * s + j : Nat) : Int) + 24 := by simp only [wrap64]; omega
    have e2 : wrap64 (wrap64 ((s : Int) + 1) * 96) = 96 * (s : Int) + 96 := by simp only [wrap64]; omega
    rw [P.skiffref1_FreePlace.l0, e1, e2, if_neg (by omega)]
    rfl
  | succ d ih =>
    intro k j h1 h2
    obtain ⟨k, rfl⟩ : ∃ m, k = m + 1 := ⟨k - 1, by omega⟩
    have e1 : wrap64 (24 * ((4 * s + j : Nat) : Int) + 24) = 24 * ((4 * s + j : Nat) : Int) + 24 := by simp only [wrap64]; omega
    have e2 : wrap64 (wrap64 ((s : Int) + 1) * 96) = 96 * (s : Int) + 96 := by simp only [wrap64]; omega
    have hr := ih k (j + 1) (by omega) (by omega)
    rw [P.skiffref1_FreePlace.l0, P.skiffref1_full.f, e1, e2, if_pos (by omega), if_pos (by omega), if_pos (by omega), if_pos (by omega), fulls24, Option.bind_some]
    rw [show (24 * ((4 * s + j : Nat) : Int)).toNat = 24 * (4 * s + j) by omega, show (24 * ((4 * s + j : Nat) : Int) + 24).toNat = 24 * (4 * s + j) + 24 by omega]
    rw [freeIn]
    by_cases hb : blankAt f (4 * s + j)
    · rw [if_pos ((blank_iff _ _).2 hb), if_pos hb]
    · rw [if_neg (fun h => hb ((blank_iff _ _).1 h)), if_neg hb, show 24 * ((4 * s + j : Nat) : Int) + 24 = 24 * ((4 * s + (j + 1) : Nat) : Int) by omega]
      exact hr
theorem rfree_f (f : ByteArray) (s : Int) (k : Nat) (hk : 6 < k) : P.skiffref1_FreePlace.f k f s = some (freeTup f s) := by
  obtain ⟨k, rfl⟩ : ∃ m, k = m + 1 := ⟨k - 1, by omega⟩
  unfold P.skiffref1_FreePlace.f freeTup
  rw [flashMay_f, upTo_f, Option.bind_some, Option.bind_some]
  by_cases hf : f.size = 768
  · rw [decide_eq_true hf, if_pos rfl, P.skiffref1_FreePlace.j0]
    cases h : within s 0 1
    · rw [if_pos (by decide), if_neg (fun h => Bool.false_ne_true h.2)]
    · have hs := Skiff.within_iff.1 h
      obtain ⟨s, rfl⟩ := Int.eq_ofNat_of_zero_le hs.1
      have e : wrap64 ((s : Int) * 96) = 24 * ((4 * s + 0 : Nat) : Int) := by simp only [wrap64]; omega
      rw [if_neg (by decide), if_pos ⟨hf, rfl⟩, e]
      exact rfree_l0 f hf s (by omega) 4 k 0 (by omega) (by omega)
  · rw [decide_eq_false hf, if_neg Bool.false_ne_true, if_neg (fun h => hf h.1), P.skiffref1_FreePlace.j0, if_pos rfl]
theorem free_l0 (f : ByteArray) (hf : f.size = 768) (s : Nat) (hs : s < 2) (d : Nat) : ∀ (k j : Nat), j + d = 4 → d < k → P.journal_Free.l0 k f s (j : Int) = some (freeIn f s j d) := by
  induction d with
  | zero =>
    intro k j h1 h2
    obtain ⟨k, rfl⟩ : ∃ m, k = m + 1 := ⟨k - 1, by omega⟩
    rw [P.journal_Free.l0, if_neg (by omega)]
    rfl
  | succ d ih =>
    intro k j h1 h2
    obtain ⟨k, rfl⟩ : ∃ m, k = m + 1 := ⟨k - 1, by omega⟩
    have e1 : wrap64 (wrap64 ((s : Int) * 96) + wrap64 ((j : Int) * 24)) = 24 * ((4 * s + j : Nat) : Int) := by simp only [wrap64]; omega
    have e2 : wrap64 ((j : Int) + 1) = ((j + 1 : Nat) : Int) := by simp only [wrap64]; omega
    have hr := ih k (j + 1) (by omega) (by omega)
    have hrep : repeats ⟨#[255]⟩ 24 = some (mk blank24) := rfl
    rw [P.journal_Free.l0, P.journal_Begin.f, P.strings_Repeat.f, if_pos (by omega), Option.bind_some, e1, e2, at_f f hf (4 * s + j) (by omega), Option.bind_some, hrep, Option.bind_some]
    rw [freeIn]
    by_cases hb : blankAt f (4 * s + j)
    · rw [if_pos ((blank_iff _ _).2 hb), if_pos hb]
    · rw [if_neg (fun h => hb ((blank_iff _ _).1 h)), if_neg hb]
      exact hr
theorem free_f (f : ByteArray) (s : Int) (k : Nat) (hk : 6 < k) : P.journal_Free.f k f s = some (freeTup f s) := by
  obtain ⟨k, rfl⟩ : ∃ m, k = m + 1 := ⟨k - 1, by omega⟩
  unfold P.journal_Free.f freeTup
  rw [may_f, Option.bind_some]
  by_cases hf : f.size = 768
  · rw [decide_eq_true hf, if_pos rfl, P.journal_Free.j0, P.journal_Free.j0]
    by_cases h0 : s < 0
    · rw [if_pos h0, if_pos rfl, if_neg]
      intro h
      have := Skiff.within_iff.1 h.2
      omega
    · rw [if_neg h0]
      by_cases h1 : s ≥ 2
      · rw [decide_eq_true h1, if_pos rfl, if_neg]
        intro h
        have := Skiff.within_iff.1 h.2
        omega
      · rw [decide_eq_false h1, if_neg Bool.false_ne_true, if_pos ⟨hf, Skiff.within_iff.2 (by omega)⟩]
        obtain ⟨s, rfl⟩ := Int.eq_ofNat_of_zero_le (by omega : 0 ≤ s)
        exact free_l0 f hf s (by omega) 4 k 0 (by omega) (by omega)
  · rw [decide_eq_false hf, if_neg Bool.false_ne_true, if_neg (fun h => hf h.1), P.journal_Free.j0, if_pos rfl]

theorem samep_l0 (l : List Plc) (hl : l.length < 1000000) (d : Nat) : ∀ (k i : Nat), i + d = l.length → d < k → P.skifflaw0_SamePlaces.l0 k l l (i : Int) = some true := by
  induction d with
  | zero =>
    intro k i h1 h2
    obtain ⟨k, rfl⟩ : ∃ m, k = m + 1 := ⟨k - 1, by omega⟩
    rw [P.skifflaw0_SamePlaces.l0, if_neg (by omega)]
  | succ d ih =>
    intro k i h1 h2
    obtain ⟨k, rfl⟩ : ∃ m, k = m + 1 := ⟨k - 1, by omega⟩
    have e2 : wrap64 ((i : Int) + 1) = ((i + 1 : Nat) : Int) := by simp only [wrap64]; omega
    have hr := ih k (i + 1) (by omega) (by omega)
    rw [P.skifflaw0_SamePlaces.l0, if_pos (by omega), if_pos (by omega), if_pos (by omega), e2, hr]
    simp
theorem samep_f (l : List Plc) (hl : l.length < 1000000) (k : Nat) (hk : l.length < k) : P.skifflaw0_SamePlaces.f k l l = some true := by
  unfold P.skifflaw0_SamePlaces.f
  rw [if_pos rfl]
  exact samep_l0 l hl l.length k 0 (by omega) hk
theorem spoilp_l0 (d : Nat) : ∀ (k i : Nat) (l : List Plc), l.length < 1000000 → i + d = l.length → d < k → ∃ r, P.skifflaw0_SpoilPlaces.l0 k l (i : Int) = some r := by
  induction d with
  | zero =>
    intro k i l hl h1 h2
    obtain ⟨k, rfl⟩ : ∃ m, k = m + 1 := ⟨k - 1, by omega⟩
    exact ⟨l, by rw [P.skifflaw0_SpoilPlaces.l0, if_neg (by omega)]⟩
  | succ d ih =>
    intro k i l hl h1 h2
    obtain ⟨k, rfl⟩ : ∃ m, k = m + 1 := ⟨k - 1, by omega⟩
    have e2 : wrap64 ((i : Int) + 1) = ((i + 1 : Nat) : Int) := by simp only [wrap64]; omega
    rw [P.skifflaw0_SpoilPlaces.l0, if_pos (by omega), if_pos (by omega), e2]
    exact ih k (i + 1) _ (by rw [List.length_set]; exact hl) (by rw [List.length_set]; omega) (by omega)

theorem awake5_f : P.skifflaw5_awake.f 300 = some true := by kernel_rfl
def scanPair (f : ByteArray) : List Plc × Int := if f.size = 768 then (scanTo f 8, 0) else ([], 500)
theorem scanPair_len (f : ByteArray) : (scanPair f).1.length ≤ 8 := by
  unfold scanPair
  split
  · exact scanTo_len f 8
  · simp
theorem journals_j0 (l : List Plc) (hl : l.length ≤ 8) : P.skifflaw5_Journals.j0 301 l false = some true := by
  obtain ⟨r, hr⟩ := spoilp_l0 l.length 300 0 l (by omega) (by omega) (by omega)
  show P.skifflaw5_Journals.j0 (300 + 1) l false = some true
  rw [P.skifflaw5_Journals.j0, if_neg Bool.false_ne_true, P.skifflaw0_SpoilPlaces.f]
  have hr2 : P.skifflaw0_SpoilPlaces.l0 300 l 0 = some r := hr
  rw [hr2, Option.bind_some, awake5_f]; rfl
theorem journals_f (f : ByteArray) (s : Int) : P.skifflaw5_Journals.f 301 f s = some true := by
  have hl := scanPair_len f
  have hj := journals_j0 (scanPair f).1 hl
  have h1 : P.journal_Scan.f 301 f = some (scanPair f) := scan_f f 301 (by omega)
  have h2 : P.skiffref1_Scan.f 301 f = some (scanPair f) := rscan_f f 301 (by omega)
  unfold P.skifflaw5_Journals.f P.skifflaw0_Num.f
  rw [h1, h2, free_f f s 301 (by omega), rfree_f f s 301 (by omega)]
  rw [Option.bind_some, Option.bind_some, Option.bind_some, Option.bind_some, samep_f _ (by omega) 301 (by omega)]
  simp [hj]
theorem journals_walk (f : ByteArray) (s : Int) (hf : f.size ≤ 140737488351232) (f1 : (Lit.int .i64 s).wf = true) (w : World) :
    Calls Try.prog 3 #[.string f, .int .i64 s] w fun e w' => e = .returned (.bool true) ∧ Ext w w' :=
  P.skifflaw5_Journals.calls 301 f s true w (journals_f f s)

theorem get_blank : Skiff.get blank24 = none := by decide +kernel
theorem slot_blank {f : ByteArray} {i : Nat} (h : blankAt f i) : slotAt f i = none := by unfold slotAt; rw [h, get_blank]
theorem scanTo_one {f : ByteArray} {p : Nat} {r : Rec} (hp : slotAt f p = some r) : ∀ n, (∀ i, i < n → i ≠ p → slotAt f i = none) → scanTo f n = if p < n then [mkPl p r] else []
  | 0, _ => by simp [scanTo]
  | n + 1, h => by
    rw [scanTo, scanTo_one hp n (fun i hi => h i (by omega))]
    by_cases e : n = p
    · subst e
      rw [if_neg (by omega), if_pos (by omega)]
      unfold pls; rw [hp]; rfl
    · unfold pls
      rw [h n (by omega) e]
      by_cases e2 : p < n
      · rw [if_pos e2, if_pos (by omega)]; rfl
      · rw [if_neg e2, if_neg (by omega)]; rfl
theorem put_facts (r : Rec) (hr : recMay r = true) (p : Nat) (hp : p < 8) (f : ByteArray) (hf : bl f = List.replicate (24 * p) 255 ++ (put r ++ List.replicate (744 - 24 * p) 255)) : f.size = 768 ∧ scanTo f 8 = [mkPl p r] := by
  have hsz : f.size = 768 := by
    rw [← bl_length, hf, List.length_append, List.length_append, List.length_replicate, List.length_replicate, put_length]; omega
  refine ⟨hsz, ?_⟩
  have h1 : slotAt f p = some r := by
    unfold slotAt
    rw [bl_extract, hf, List.drop_append, List.length_replicate, Nat.sub_self, List.drop_of_length_le (by rw [List.length_replicate]; exact Nat.le_refl _), List.nil_append, List.drop_zero, show 24 * p + 24 - 24 * p = 24 by omega, List.take_append_of_le_length (by rw [put_length]; exact Nat.le_refl _), List.take_of_length_le (by rw [put_length]; exact Nat.le_refl _)]
    exact get_put hr
  have h2 : ∀ i, i < 8 → i ≠ p → slotAt f i = none := by
    intro i hi hip
    apply slot_blank
    unfold blankAt blank24
    rw [bl_extract, hf, show 24 * i + 24 - 24 * i = 24 by omega]
    by_cases h : i < p
    · rw [List.drop_append, List.length_replicate, show 24 * i - 24 * p = 0 by omega, List.drop_zero, List.drop_replicate, List.take_append_of_le_length (by rw [List.length_replicate]; omega), List.take_replicate, Nat.min_eq_left (by omega)]
    · rw [List.drop_append, List.length_replicate, List.drop_of_length_le (by rw [List.length_replicate]; omega), List.nil_append, List.drop_append, List.drop_of_length_le (by rw [put_length]; omega), List.nil_append, put_length, List.drop_replicate, List.take_replicate, Nat.min_eq_left (by omega)]
  rw [scanTo_one h1 8 h2, if_pos hp]

end Go.Proofs.Ytfjoekpgaiaifaa
