/- JournalRow. -/
import Derived.Test.YtfjoekpgaiaifaaJrnL
import Derived.Test.YtfjoekpgaiaifaaPx3
import Derived.Test.YtfjoekpgaiaifaaPx6
set_option linter.unusedVariables false
set_option linter.unusedSimpArgs false
set_option maxHeartbeats 4000000
namespace Go.Proofs.Ytfjoekpgaiaifaa
open Go.RowKit Skiff Go.Proofs.YtfjoekpgaiaifaaW.PrintWords Go.Proofs.YtfjoekpgaiaifaaW.PrintMore

/-- The record of a place, its bytes spoiled. -/
def recI (i : Nat) : Rec := ⟨1 + (i : Int), ((i % 2 : Nat) : Int), 5 + (i : Int), 100 + (i : Int)⟩
def junkI (i : Nat) : List UInt8 := if i % 2 = 0 then (0 :: (put (recI i)).drop 1).take 23 ++ [0] else 0 :: (put (recI i)).drop 1
def entI (b c : Bool) (i : Nat) : List UInt8 := if b then put (recI i) else if c then junkI i else blank24
theorem recI_may (i : Nat) (h : i < 8) : recMay (recI i) = true := by
  rw [recMay_iff]
  unfold recI
  simp only
  omega
theorem junk_no : ∀ i : Fin 8, Skiff.get (junkI i.val) = none ∧ (junkI i.val).length = 24 ∧ junkI i.val ≠ blank24 := by decide +kernel
theorem put_blank (i : Nat) (h : i < 8) : put (recI i) ≠ blank24 := by
  intro e
  have := get_put (recI_may i h)
  rw [e, get_blank] at this
  cases this

theorem entI_length (b c : Bool) (i : Nat) (h : i < 8) : (entI b c i).length = 24 := by
  unfold entI
  cases b
  · cases c
    · rfl
    · exact (junk_no ⟨i, h⟩).2.1
  · exact put_length _
def bitAt (a : Int) (i : Nat) : Bool := decide (Go.bits .and .i64 (shr .i64 a (i : Int)) 1 = 1)
/-- The flash, the places, the first blank one behind so many places. -/
def catL (a b : Int) : Nat → List UInt8
  | 0 => []
  | n + 1 => catL a b n ++ entI (bitAt a n) (bitAt b n) n
def wantL (a : Int) : Nat → List Plc
  | 0 => []
  | n + 1 => wantL a n ++ (if bitAt a n = true then [mkPl n (recI n)] else [])
def blk (a b : Int) (n : Nat) : Bool := !bitAt a n && !bitAt b n
def firstI (a b : Int) : Nat → Int
  | 0 => -1
  | n + 1 => if (blk a b n && (decide (firstI a b n < 0) && decide (n < 4))) = true then 24 * (n : Int) else firstI a b n
theorem catL_length (a b : Int) : ∀ n, n ≤ 8 → (catL a b n).length = 24 * n
  | 0, _ => rfl
  | n + 1, h => by rw [catL, List.length_append, catL_length a b n (by omega), entI_length _ _ _ (by omega)]; omega
theorem wantL_length (a : Int) : ∀ n, (wantL a n).length ≤ n
  | 0 => Nat.le_refl _
  | n + 1 => by
    have := wantL_length a n
    rw [wantL, List.length_append]; split <;> simp <;> omega
theorem catL_piece (a b : Int) (r : List UInt8) : ∀ n i, n ≤ 8 → i < n → ((catL a b n ++ r).drop (24 * i)).take 24 = entI (bitAt a i) (bitAt b i) i
  | 0, i, _, h => by omega
  | n + 1, i, hn, h => by
    have hl := catL_length a b n (by omega)
    have he := entI_length (bitAt a n) (bitAt b n) n (by omega)
    by_cases c : i = n
    · subst c
      rw [catL, List.append_assoc, List.drop_append, hl, Nat.sub_self, List.drop_of_length_le (by omega), List.nil_append, List.drop_zero, List.take_append_of_le_length (by omega), List.take_of_length_le (by omega)]
    · rw [catL, List.append_assoc]
      exact catL_piece a b _ n i (by omega) (by omega)
theorem and_one (i : Nat) (h : i < 8) : Go.bits .and .i64 (i : Int) 1 = ((i % 2 : Nat) : Int) := by
  have : ∀ j : Fin 8, Go.bits .and .i64 ((j.val : Nat) : Int) 1 = ((j.val % 2 : Nat) : Int) := by decide +kernel
  exact this ⟨i, h⟩
theorem cat_mk (l : List UInt8) (s : ByteArray) : mk l ++ s = mk (l ++ bl s) := by rw [mk_append, mk_bl]
theorem row_step (a b : Int) (n k : Nat) (hn : n < 8) : P.skifflaw5_JournalRow.l0 (k + 1) a b (mk (catL a b n)) (wantL a n) (firstI a b n) (n : Int) = P.skifflaw5_JournalRow.l0 k a b (mk (catL a b (n + 1))) (wantL a (n + 1)) (firstI a b (n + 1)) ((n + 1 : Nat) : Int) := by
  have e1 : wrap64 (1 + (n : Int)) = 1 + (n : Int) := by simp only [wrap64]; omega
  have e2 : wrap64 (5 + (n : Int)) = 5 + (n : Int) := by simp only [wrap64]; omega
  have e3 : wrap64 (100 + (n : Int)) = 100 + (n : Int) := by simp only [wrap64]; omega
  have e4 : wrap64 ((n : Int) + 1) = ((n + 1 : Nat) : Int) := by simp only [wrap64]; omega
  have e5 : wrap64 (24 * (n : Int)) = 24 * (n : Int) := by simp only [wrap64]; omega
  have hp : putPair ⟨1 + (n : Int), ((n % 2 : Nat) : Int), 5 + (n : Int), 100 + (n : Int)⟩ = (mk (put (recI n)), 0) := by
    show putPair (recI n) = _
    unfold putPair
    rw [if_pos (recI_may n hn)]
  have hz : (mk (catL a b n)).size = 24 * n := by rw [mk_size, catL_length a b n (by omega)]
  have hw := wantL_length a n
  have zp : (mk (put (recI n))).size = 24 := by rw [mk_size, put_length]
  have zx : ((mk (put (recI n))).extract 1 24).size = 23 := by rw [ByteArray.size_extract, zp]; rfl
  have z1 : (⟨#[0]⟩ : ByteArray).size = 1 := rfl
  have zy : ((⟨#[0]⟩ : ByteArray) ++ (mk (put (recI n))).extract 1 24).size = 24 := by rw [ByteArray.size_append, zx, z1]
  have zw : (((⟨#[0]⟩ : ByteArray) ++ (mk (put (recI n))).extract 1 24).extract 0 23).size = 23 := by rw [ByteArray.size_extract, zy]; rfl
  have zv : (((⟨#[0]⟩ : ByteArray) ++ (mk (put (recI n))).extract 1 24).extract 0 23 ++ (⟨#[0]⟩ : ByteArray)).size = 24 := by rw [ByteArray.size_append, zw, z1]
  have by0 : bl ((⟨#[0]⟩ : ByteArray) ++ (mk (put (recI n))).extract 1 24) = 0 :: (put (recI n)).drop 1 := by
    rw [bl_append, bl_extract, bl_mk, List.take_of_length_le (by rw [List.length_drop, put_length]; exact Nat.le_refl _)]; rfl
  have bw0 : bl (((⟨#[0]⟩ : ByteArray) ++ (mk (put (recI n))).extract 1 24).extract 0 23 ++ (⟨#[0]⟩ : ByteArray)) = (0 :: (put (recI n)).drop 1).take 23 ++ [0] := by
    rw [bl_append, bl_extract, by0]; rfl
  rw [P.skifflaw5_JournalRow.l0, if_pos (by omega), P.skiffref1_PutEntry.f, e1, e2, e3, and_one n hn, hp, Option.bind_some, e4, e5, if_pos (by omega)]
  dsimp only
  rw [hz, zp]
  by_cases hb : Go.bits .and .i64 (shr .i64 a (n : Int)) 1 = 1
  · have hB : bitAt a n = true := decide_eq_true hb
    have hF : firstI a b (n + 1) = firstI a b n := by rw [firstI, blk, hB]; rfl
    rw [if_pos hb, if_pos (by omega), if_pos (by omega), hF, catL, wantL, hB, if_pos rfl, cat_mk, bl_mk]
    rfl
  · have hB : bitAt a n = false := decide_eq_false hb
    have hW : wantL a (n + 1) = wantL a n := by rw [wantL, hB, if_neg Bool.false_ne_true, List.append_nil]
    rw [if_neg hb, hW]
    by_cases hc : Go.bits .and .i64 (shr .i64 b (n : Int)) 1 = 1
    · have hC : bitAt b n = true := decide_eq_true hc
      have hF : firstI a b (n + 1) = firstI a b n := by rw [firstI, blk, hC, hB]; rfl
      rw [if_pos hc, if_pos (by omega), zx, if_pos (by omega), hF, catL, hB, hC]
      by_cases h2 : ((n % 2 : Nat) : Int) = 0
      · rw [if_pos h2, if_pos (by omega), zy, if_pos (by omega), zw, if_pos (by omega), zv, if_pos (by omega), cat_mk, bw0]
        unfold entI junkI
        rw [if_neg Bool.false_ne_true, if_pos rfl, if_pos (by omega)]
      · rw [if_neg h2, zy, if_pos (by omega), cat_mk, by0]
        unfold entI junkI
        rw [if_neg Bool.false_ne_true, if_pos rfl, if_neg (by omega)]
    · have hC : bitAt b n = false := decide_eq_false hc
      have z0 : (mk flash0).size = 768 := by rw [mk_size, flash0_length]
      have z24 : ((mk flash0).extract 0 24).size = 24 := by rw [ByteArray.size_extract, z0]; rfl
      have b24 : bl ((mk flash0).extract 0 24) = blank24 := by rw [bl_extract, bl_mk]; rfl
      have hK : blk a b n = true := by rw [blk, hB, hC]; rfl
      have hCat : mk (catL a b n) ++ (mk flash0).extract 0 24 = mk (catL a b (n + 1)) := by
        rw [catL, hB, hC, cat_mk, b24]; rfl
      rw [if_neg hc, P.skiffref1_Blank.f, Option.bind_some, if_pos (by decide), z0, if_pos (by decide), z24, hCat]
      have hs : 24 * n + 24 ≤ 9223372036854775807 := by omega
      by_cases c1 : firstI a b n < 0
      · by_cases c2 : (n : Int) < 4
        · have hF : firstI a b (n + 1) = 24 * (n : Int) := by rw [firstI, hK, decide_eq_true c1, decide_eq_true (by omega : n < 4)]; rfl
          rw [if_pos c1, if_pos c2, if_pos hs, hF]
        · have hF : firstI a b (n + 1) = firstI a b n := by rw [firstI, decide_eq_false (by omega : ¬ n < 4), Bool.and_false, Bool.and_false]; rfl
          rw [if_pos c1, if_neg c2, if_pos hs, hF]
      · have hF : firstI a b (n + 1) = firstI a b n := by rw [firstI, decide_eq_false c1, Bool.false_and, Bool.and_false]; rfl
        rw [if_neg c1, if_pos hs, hF]
theorem row_slot (a b : Int) (r : List UInt8) (i : Nat) (h : i < 8) : slotAt (mk (catL a b 8 ++ r)) i = if bitAt a i = true then some (recI i) else none := by
  unfold slotAt
  rw [bl_extract, bl_mk, show 24 * i + 24 - 24 * i = 24 by omega, catL_piece a b r 8 i (by omega) h]
  unfold entI
  cases bitAt a i
  · rw [if_neg Bool.false_ne_true, if_neg Bool.false_ne_true]
    cases bitAt b i
    · exact get_blank
    · exact (junk_no ⟨i, h⟩).1
  · rw [if_pos rfl, if_pos rfl]
    exact get_put (recI_may i h)
theorem row_scan (a b : Int) (r : List UInt8) : ∀ n, n ≤ 8 → scanTo (mk (catL a b 8 ++ r)) n = wantL a n
  | 0, _ => rfl
  | n + 1, h => by
    rw [scanTo, row_scan a b r n (by omega), wantL, pls, row_slot a b r n (by omega)]
    cases bitAt a n <;> rfl
theorem row_blank (a b : Int) (r : List UInt8) (i : Nat) (h : i < 8) : blankAt (mk (catL a b 8 ++ r)) i ↔ blk a b i = true := by
  unfold blankAt
  rw [bl_extract, bl_mk, show 24 * i + 24 - 24 * i = 24 by omega, catL_piece a b r 8 i (by omega) h]
  unfold entI blk
  cases bitAt a i
  · rw [if_neg Bool.false_ne_true]
    cases bitAt b i
    · exact ⟨fun _ => rfl, fun _ => rfl⟩
    · exact ⟨fun e => absurd e (junk_no ⟨i, h⟩).2.2, fun e => by cases e⟩
  · rw [if_pos rfl]
    exact ⟨fun e => absurd e (put_blank i h), fun e => by cases e⟩
theorem row_free (a b : Int) (r : List UInt8) : freeIn (mk (catL a b 8 ++ r)) 0 0 4 = if firstI a b 8 ≥ 0 then (firstI a b 8, true, 0) else (0, false, 0) := by
  have f8 : firstI a b 8 = firstI a b 4 := by
    have e : ∀ n, 4 ≤ n → firstI a b (n + 1) = firstI a b n := fun n hn => by rw [firstI, decide_eq_false (by omega : ¬ n < 4), Bool.and_false, Bool.and_false]; rfl
    rw [e 7 (by omega), e 6 (by omega), e 5 (by omega), e 4 (by omega)]
  have h0 := row_blank a b r 0 (by omega)
  have h1 := row_blank a b r 1 (by omega)
  have h2 := row_blank a b r 2 (by omega)
  have h3 := row_blank a b r 3 (by omega)
  rw [f8]
  cases e0 : blk a b 0 <;> cases e1 : blk a b 1 <;> cases e2 : blk a b 2 <;> cases e3 : blk a b 3 <;> simp [freeIn, firstI, h0, h1, h2, h3, e0, e1, e2, e3]
theorem row_end (a b : Int) (k : Nat) (hk : 20 < k) : P.skifflaw5_JournalRow.l0 (k + 1) a b (mk (catL a b 8)) (wantL a 8) (firstI a b 8) 8 = some true := by
  have z0 : (mk flash0).size = 768 := by rw [mk_size, flash0_length]
  have zr : ((mk flash0).extract 192 768).size = 576 := by rw [ByteArray.size_extract, z0]; rfl
  have hz : (mk (catL a b 8)).size = 192 := by rw [mk_size, catL_length a b 8 (by omega)]
  have hc : mk (catL a b 8) ++ (mk flash0).extract 192 768 = mk (catL a b 8 ++ bl ((mk flash0).extract 192 768)) := cat_mk _ _
  have hs : (mk (catL a b 8 ++ bl ((mk flash0).extract 192 768))).size = 768 := by rw [mk_size, List.length_append, catL_length a b 8 (by omega), bl_length, zr]
  have hw := wantL_length a 8
  have hF := row_free a b (bl ((mk flash0).extract 192 768))
  rw [P.skifflaw5_JournalRow.l0, if_neg (by decide), P.skiffref1_Blank.f, Option.bind_some, z0, if_pos (by decide), hz, zr, if_pos (by decide), hc, scan_f _ k (by omega), if_pos hs, Option.bind_some, free_f _ 0 k (by omega), Option.bind_some, row_scan a b _ 8 (by omega)]
  have ht : freeTup (mk (catL a b 8 ++ bl ((mk flash0).extract 192 768))) 0 = freeIn (mk (catL a b 8 ++ bl ((mk flash0).extract 192 768))) 0 0 4 := by
    unfold freeTup
    rw [if_pos ⟨hs, rfl⟩]; rfl
  rw [ht, hF]
  unfold P.skifflaw0_Num.f
  dsimp only
  rw [Option.bind_some, if_pos rfl, samep_f _ (by omega) k (by omega), Option.bind_some, if_pos rfl]
  by_cases c : firstI a b 8 ≥ 0
  · rw [if_pos c, decide_eq_true c]
    dsimp only
    rw [Option.bind_some, if_pos rfl, if_pos (by decide), if_pos rfl, beq_self_eq_true]
  · rw [if_neg c, decide_eq_false c]
    rfl
theorem journalRow_f (a b : Int) : P.skifflaw5_JournalRow.f 300 a b = some true := by
  unfold P.skifflaw5_JournalRow.f
  rw [awake5_f, Option.bind_some, if_pos rfl]
  have h0 := row_step a b 0 299 (by omega)
  have h1 := row_step a b 1 298 (by omega)
  have h2 := row_step a b 2 297 (by omega)
  have h3 := row_step a b 3 296 (by omega)
  have h4 := row_step a b 4 295 (by omega)
  have h5 := row_step a b 5 294 (by omega)
  have h6 := row_step a b 6 293 (by omega)
  have h7 := row_step a b 7 292 (by omega)
  exact (h0.trans (h1.trans (h2.trans (h3.trans (h4.trans (h5.trans (h6.trans h7))))))).trans (row_end a b 291 (by omega))
theorem journalRow_walk (a b : Int) (f1 : (Lit.int .i64 a).wf = true) (f2 : (Lit.int .i64 b).wf = true) (w : World) :
    Calls Try.prog 5 #[.int .i64 a, .int .i64 b] w fun e w' => e = .returned (.bool true) ∧ Ext w w' :=
  P.skifflaw5_JournalRow.calls 300 a b true w (journalRow_f a b)

end Go.Proofs.Ytfjoekpgaiaifaa
