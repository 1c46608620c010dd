/- ChooseTable: two records, each good or not. -/
import Derived.Test.YtdijecmpaoabbaaZ2ChsA
import Derived.Test.YtdijecmpaoabbaaZ2Px8
set_option linter.unusedVariables false
set_option linter.unusedSimpArgs false
set_option maxHeartbeats 4000000
namespace Go.Proofs.Ytdijecmpaoabbaa
open Go.RowKit Skiff Go.Proofs.YtdijecmpaoabbaaW.PrintWords

theorem and1 (n : Int) : Go.bits .and .i64 n 1 = n % 2 := by
  have h1 : (BitVec.ofInt 64 1).toNat = 2 ^ 1 - 1 := by decide
  have key : (BitVec.ofInt 64 n &&& BitVec.ofInt 64 1).toNat = (n % ((2 ^ 64 : Nat) : Int)).toNat % 2 ^ 1 := by
    rw [BitVec.toNat_and, BitVec.toNat_ofInt, h1, Nat.and_two_pow_sub_one_eq_mod]
  show IntKind.i64.wrap ((BitVec.ofInt 64 n &&& BitVec.ofInt 64 1).toNat : Nat) = n % 2
  rw [key, IntKind.wrap_i64]
  omega
theorem and3 (n : Int) : Go.bits .and .i64 n 3 = n % 4 := by
  have h1 : (BitVec.ofInt 64 3).toNat = 2 ^ 2 - 1 := by decide
  have key : (BitVec.ofInt 64 n &&& BitVec.ofInt 64 3).toNat = (n % ((2 ^ 64 : Nat) : Int)).toNat % 2 ^ 2 := by
    rw [BitVec.toNat_and, BitVec.toNat_ofInt, h1, Nat.and_two_pow_sub_one_eq_mod]
  show IntKind.i64.wrap ((BitVec.ofInt 64 n &&& BitVec.ofInt 64 3).toNat : Nat) = n % 4
  rw [key, IntKind.wrap_i64]
  omega
theorem and7 (n : Int) : Go.bits .and .i64 n 7 = n % 8 := by
  have h1 : (BitVec.ofInt 64 7).toNat = 2 ^ 3 - 1 := by decide
  have key : (BitVec.ofInt 64 n &&& BitVec.ofInt 64 7).toNat = (n % ((2 ^ 64 : Nat) : Int)).toNat % 2 ^ 3 := by
    rw [BitVec.toNat_and, BitVec.toNat_ofInt, h1, Nat.and_two_pow_sub_one_eq_mod]
  show IntKind.i64.wrap ((BitVec.ofInt 64 n &&& BitVec.ofInt 64 7).toNat : Nat) = n % 8
  rw [key, IntKind.wrap_i64]
  omega
theorem and2 (n : Int) : Go.bits .and .i64 n 2 = n % 4 / 2 * 2 := by
  have h1 : (BitVec.ofInt 64 2).toNat = (2 ^ 2 - 1) &&& 2 := by decide
  have key : (BitVec.ofInt 64 n &&& BitVec.ofInt 64 2).toNat = (n % ((2 ^ 64 : Nat) : Int)).toNat % 2 ^ 2 &&& 2 := by
    rw [BitVec.toNat_and, BitVec.toNat_ofInt, h1, ← Nat.and_assoc, Nat.and_two_pow_sub_one_eq_mod]
  have hv : ∀ v : Nat, v < 4 → v &&& 2 = v / 2 * 2 := by decide
  show IntKind.i64.wrap ((BitVec.ofInt 64 n &&& BitVec.ofInt 64 2).toNat : Nat) = n % 4 / 2 * 2
  rw [key, hv _ (Nat.mod_lt _ (by decide)), IntKind.wrap_i64]
  omega

def tF : List UInt8 := [102, 105, 114, 115, 116]
def tS : List UInt8 := [115, 101, 99, 111, 110, 100]
def tabF : ByteArray := (((((mk flash0).extract 0 192 ++ (⟨#[102, 105, 114, 115, 116]⟩ : ByteArray)) ++ (mk flash0).extract 197 480) ++ (⟨#[115, 101, 99, 111, 110, 100]⟩ : ByteArray)) ++ (mk flash0).extract 486 (mk flash0).size)
def tabR : List UInt8 := List.replicate 72 255 ++ (tF ++ (List.replicate 283 255 ++ (tS ++ List.replicate 282 255)))
theorem bl_app (a b : ByteArray) : bl (a ++ b) = bl a ++ bl b := by
  rw [← mk_bl a, ← mk_bl b, ← mk_append, bl_mk, bl_mk, bl_mk]
theorem dropA {A B : List UInt8} {a n : Nat} (h : A.length = a) : (A ++ B).drop (a + n) = B.drop n := by
  rw [← List.drop_drop, List.drop_left' h]
def tabB : List UInt8 := List.replicate 192 255 ++ (tF ++ (List.replicate 283 255 ++ (tS ++ List.replicate 282 255)))
theorem tab_bl : bl tabF = tabB := by
  have hs : (mk flash0).size = 768 := by rw [mk_size, flash0_length]
  unfold tabF tabB
  rw [bl_app, bl_app, bl_app, bl_app, bl_extract, bl_extract, bl_extract, bl_mk, hs]
  unfold flash0
  rw [List.drop_replicate, List.drop_replicate, List.drop_replicate, List.take_replicate, List.take_replicate, List.take_replicate, List.append_assoc, List.append_assoc, List.append_assoc]
  rfl
theorem tabB_len : tabB.length = 768 := by unfold tabB tF tS; simp only [List.length_append, List.length_replicate, List.length_cons, List.length_nil]
theorem tab_size : tabF.size = 768 := by rw [← bl_length, tab_bl, tabB_len]
theorem tab_mid : tabF.extract 24 96 = mk (List.replicate 72 255) := by
  refine bl_inj ?_
  rw [bl_extract, tab_bl, bl_mk]
  unfold tabB
  rw [List.drop_append_of_le_length (by rw [List.length_replicate]; omega), List.drop_replicate, List.take_append_of_le_length (by rw [List.length_replicate]; omega), List.take_replicate]
  rfl
theorem tab_end : tabF.extract 120 tabF.size = mk tabR := by
  refine bl_inj ?_
  rw [bl_extract, tab_bl, bl_mk, tab_size, List.take_of_length_le (by rw [List.length_drop, tabB_len]; omega)]
  unfold tabB tabR
  rw [List.drop_append_of_le_length (by rw [List.length_replicate]; omega), List.drop_replicate]
def tabL (x y : Rec) : List UInt8 := put x ++ (List.replicate 72 255 ++ (put y ++ tabR))
theorem tab_cat (x y : Rec) : ((mk (put x) ++ tabF.extract 24 96) ++ mk (put y)) ++ tabF.extract 120 tabF.size = mk (tabL x y) := by
  rw [tab_mid, tab_end, ← mk_append, ← mk_append, ← mk_append, List.append_assoc, List.append_assoc]
  rfl
theorem ff24 (B : List UInt8) (k : Nat) (hk : k ≤ 48) : ((List.replicate 72 (255 : UInt8) ++ B).drop k).take 24 = List.replicate 24 255 := by
  rw [List.drop_append_of_le_length (by rw [List.length_replicate]; omega), List.take_append_of_le_length (by rw [List.length_drop, List.length_replicate]; omega), List.drop_replicate, List.take_replicate]
  congr 1
  omega
theorem get_ff : Skiff.get (List.replicate 24 255) = none := by decide +kernel
theorem tabR_len : tabR.length = 648 := by unfold tabR tF tS; simp only [List.length_append, List.length_replicate, List.length_cons, List.length_nil]
theorem tabL_len (x y : Rec) : (tabL x y).length = 768 := by
  unfold tabL
  rw [List.length_append, List.length_append, List.length_append, put_length, put_length, List.length_replicate, tabR_len]
theorem tab_slot (x y : Rec) (i : Nat) (l : List UInt8) (h : ((tabL x y).drop (24 * i)).take 24 = l) : slotAt (mk (tabL x y)) i = Skiff.get l := by
  unfold slotAt
  rw [bl_extract, bl_mk, show 24 * i + 24 - 24 * i = 24 by omega, h]
theorem tab_s0 (x y : Rec) (hx : recMay x = true) : slotAt (mk (tabL x y)) 0 = some x := by
  rw [tab_slot x y 0 (put x) (by unfold tabL; rw [Nat.mul_zero, List.drop_zero, List.take_left' (put_length x)]), get_put hx]
theorem tab_s4 (x y : Rec) (hy : recMay y = true) : slotAt (mk (tabL x y)) 4 = some y := by
  rw [tab_slot x y 4 (put y) (by unfold tabL; rw [show 24 * 4 = 24 + (72 + 0) from rfl, dropA (put_length x), dropA (List.length_replicate ..), List.drop_zero, List.take_left' (put_length y)]), get_put hy]
theorem tab_s1 (x y : Rec) (i : Nat) (hi : 1 ≤ i ∧ i ≤ 3) : slotAt (mk (tabL x y)) i = none := by
  rw [tab_slot x y i (List.replicate 24 255) (by unfold tabL; rw [show 24 * i = 24 + (24 * i - 24) by omega, dropA (put_length x), ff24 _ _ (by omega)]), get_ff]
theorem tab_s5 (x y : Rec) (i : Nat) (hi : 5 ≤ i ∧ i ≤ 7) : slotAt (mk (tabL x y)) i = none := by
  rw [tab_slot x y i (List.replicate 24 255) (by unfold tabL tabR; rw [show 24 * i = 24 + (72 + (24 + (24 * i - 120))) by omega, dropA (put_length x), dropA (List.length_replicate ..), dropA (put_length y), ff24 _ _ (by omega)]), get_ff]
theorem tab_scan (x y : Rec) (hx : recMay x = true) (hy : recMay y = true) : scanTo (mk (tabL x y)) 8 = [mkPl 0 x, mkPl 4 y] := by
  simp only [scanTo, pls]
  rw [tab_s0 x y hx, tab_s1 x y 1 (by omega), tab_s1 x y 2 (by omega), tab_s1 x y 3 (by omega), tab_s4 x y hy, tab_s5 x y 5 (by omega), tab_s5 x y 6 (by omega), tab_s5 x y 7 (by omega)]
  rfl
theorem tab_i0 (x y : Rec) (hs : x.slot = 0) (hz : x.size = 5) : bl (image (mk (tabL x y)) x) = tF := by
  unfold image
  rw [hs, hz, bl_extract, bl_mk]
  show ((tabL x y).drop 192).take 5 = tF
  unfold tabL tabR
  rw [show 192 = 24 + (72 + (24 + (72 + 0))) from rfl, dropA (put_length x), dropA (List.length_replicate ..), dropA (put_length y), dropA (List.length_replicate ..), List.drop_zero, List.take_left' (show tF.length = 5 from rfl)]
theorem tab_i1 (x y : Rec) (hs : y.slot = 1) (hz : y.size = 6) : bl (image (mk (tabL x y)) y) = tS := by
  unfold image
  rw [hs, hz, bl_extract, bl_mk]
  show ((tabL x y).drop 480).take 6 = tS
  unfold tabL tabR
  rw [show 480 = 24 + (72 + (24 + (72 + (5 + (283 + 0))))) from rfl, dropA (put_length x), dropA (List.length_replicate ..), dropA (put_length y), dropA (List.length_replicate ..), dropA (show tF.length = 5 from rfl), dropA (List.length_replicate ..), List.drop_zero, List.take_left' (show tS.length = 6 from rfl)]
theorem crcF : crcSum tF = 2456940119 := by decide +kernel
theorem crcS : crcSum tS = 3055489385 := by decide +kernel
theorem xorF : Go.bits .xor .i64 2456940119 1 = 2456940118 := by decide +kernel
theorem xorS : Go.bits .xor .i64 3055489385 1 = 3055489384 := by decide +kernel
theorem rcrcF : P.skiffref1_Crc.f (⟨#[102, 105, 114, 115, 116]⟩ : ByteArray) = some 2456940119 := by
  show Skiff.sums _ = _
  rw [sums_small (by decide), show bl (⟨#[102, 105, 114, 115, 116]⟩ : ByteArray) = tF from rfl, crcF]
  rfl
theorem rcrcS : P.skiffref1_Crc.f (⟨#[115, 101, 99, 111, 110, 100]⟩ : ByteArray) = some 3055489385 := by
  show Skiff.sums _ = _
  rw [sums_small (by decide), show bl (⟨#[115, 101, 99, 111, 110, 100]⟩ : ByteArray) = tS from rfl, crcS]
  rfl
theorem tab_best (x y : Rec) (hx : recMay x = true) (hy : recMay y = true) (h1 : x.slot = 0 ∧ x.size = 5) (h2 : y.slot = 1 ∧ y.size = 6) (gx gy : Bool) (hgx : ((2456940119 : Int) == x.sum) = gx) (hgy : ((3055489385 : Int) == y.sum) = gy) :
    best (mk (tabL x y)) = if (gy && (!gx || decide (x.seq ≤ y.seq))) = true then some (mkPl 4 y) else if gx = true then some (mkPl 0 x) else none := by
  have hsc := tab_scan x y hx hy
  have i0 := tab_i0 x y h1.1 h1.2
  have i1 := tab_i1 x y h2.1 h2.2
  generalize mk (tabL x y) = F at hsc i0 i1 ⊢
  have r0 : recOf (mkPl 0 x) = x := rfl
  have r4 : recOf (mkPl 4 y) = y := rfl
  have e0 : goodAt F (mkPl 0 x) = gx := by
    unfold goodAt goodB
    rw [r0, i0, crcF]; exact hgx
  have e4 : goodAt F (mkPl 4 y) = gy := by
    unfold goodAt goodB
    rw [r4, i1, crcS]; exact hgy
  unfold best
  rw [hsc]
  simp only [List.foldl_cons, List.foldl_nil, stepB, e0, e4, Option.all_none, Bool.and_true]
  have es : (mkPl 0 x).f1.f0 = x.seq ∧ (mkPl 4 y).f1.f0 = y.seq := ⟨rfl, rfl⟩
  cases gx
  · cases gy <;> simp
  · cases gy
    · simp
    · simp only [if_true, Option.all_some, es.1, es.2, Bool.true_and, Bool.not_true, Bool.false_or]
theorem tab_act (x y : Rec) (hx : recMay x = true) (hy : recMay y = true) (h1 : x.slot = 0 ∧ x.size = 5) (h2 : y.slot = 1 ∧ y.size = 6) (b : Option Plc) (hb : best (mk (tabL x y)) = b) : P.choose_Active.f (mk (tabL x y)) = some (P.actOut b) ∧ P.choose_Other.f (mk (tabL x y)) = some (othOf b) := by
  have hs : (mk (tabL x y)).size = 768 := by rw [mk_size, tabL_len]
  rw [act_f, other_f]
  unfold actTup otherPair
  rw [if_pos hs, if_pos hs, hb]
  exact ⟨rfl, rfl⟩
theorem putPair_may {r : Rec} (h : recMay r = true) : putPair r = (mk (put r), 0) := by unfold putPair; rw [if_pos h]
theorem tab_j1 (w : Int) (p q sx sy : Int) (hp : 1 ≤ p ∧ p ≤ 8) (hq : 1 ≤ q ∧ q ≤ 8) (gx gy : Bool) (h3 : 0 ≤ sx ∧ sx ≤ 4294967295) (h4 : 0 ≤ sy ∧ sy ≤ 4294967295) (hgx : ((2456940119 : Int) == sx) = gx) (hgy : ((3055489385 : Int) == sy) = gy)
    (hw : (w % 4 = 0 ∧ gx = true ∧ gy = true) ∨ (w % 4 = 1 ∧ gx = false ∧ gy = true) ∨ (w % 4 = 2 ∧ gx = true ∧ gy = false) ∨ (w % 4 = 3 ∧ gx = false ∧ gy = false)) :
    P.skifflaw7_ChooseTable.j1 299 w p q tabF p 0 5 sx q 1 6 sy = some true := by
  have hx : recMay ⟨p, 0, 5, sx⟩ = true := recMay_iff.2 ⟨by simp only; omega, by simp only; omega, by simp only; omega, h3⟩
  have hy : recMay ⟨q, 1, 6, sy⟩ = true := recMay_iff.2 ⟨by simp only; omega, by simp only; omega, by simp only; omega, h4⟩
  have hB := tab_best ⟨p, 0, 5, sx⟩ ⟨q, 1, 6, sy⟩ hx hy ⟨rfl, rfl⟩ ⟨rfl, rfl⟩ gx gy hgx hgy
  have hA := tab_act ⟨p, 0, 5, sx⟩ ⟨q, 1, 6, sy⟩ hx hy ⟨rfl, rfl⟩ ⟨rfl, rfl⟩ _ hB
  have hts := tab_size
  show P.skifflaw7_ChooseTable.j1 (298 + 1) w p q tabF p 0 5 sx q 1 6 sy = some true
  simp only [P.skifflaw7_ChooseTable.j1, P.skiffref1_PutEntry.f]
  rw [putPair_may hx, putPair_may hy]
  simp only [Option.bind_some]
  rw [if_pos (by decide), if_pos (by rw [hts]; decide), if_pos (by rw [mk_size, put_length, ByteArray.size_extract, hts]; decide), if_pos (by rw [ByteArray.size_append, mk_size, mk_size, put_length, put_length, ByteArray.size_extract, hts]; decide), if_pos (by rw [hts]; decide),
    if_pos (by rw [ByteArray.size_append, ByteArray.size_append, mk_size, mk_size, put_length, put_length, ByteArray.size_extract, ByteArray.size_extract, hts]; decide), tab_cat, hA.1, hA.2]
  simp only [Option.bind_some]
  have b1 := and1 w
  have b2 := and2 w
  have b3 := and3 w
  have hw2 : w % 2 = w % 4 % 2 := by omega
  rw [hw2] at b1
  generalize mk (tabL ⟨p, 0, 5, sx⟩ ⟨q, 1, 6, sy⟩) = F at hB hA
  clear hB hA
  rw [show (298 : Nat) = 296 + 1 + 1 from rfl]
  simp only [P.skifflaw7_ChooseTable.j2, P.skifflaw7_ChooseTable.j3, P.skifflaw0_Num.f, b1, b2, b3]
  rcases hw with ⟨h, rfl, rfl⟩ | ⟨h, rfl, rfl⟩ | ⟨h, rfl, rfl⟩ | ⟨h, rfl, rfl⟩
  · rw [h]
    by_cases hpq : p ≤ q
    · simp [hpq, P.actOut, othOf, mkPl, show ¬ (p > q) by omega]
    · simp [hpq, P.actOut, othOf, mkPl, show p > q by omega]
  · rw [h]; simp [P.actOut, othOf, mkPl]
  · rw [h]; simp [P.actOut, othOf, mkPl]
  · rw [h]; simp [P.actOut, othOf, mkPl]

theorem tab_j0 (w : Int) (p q sx : Int) (gx : Bool) (hp : 1 ≤ p ∧ p ≤ 8) (hq : 1 ≤ q ∧ q ≤ 8) (h3 : 0 ≤ sx ∧ sx ≤ 4294967295) (hgx : ((2456940119 : Int) == sx) = gx) (hw : (w % 2 = 0 ∧ gx = true) ∨ (w % 2 = 1 ∧ gx = false)) :
    P.skifflaw7_ChooseTable.j0 300 w p q tabF p 0 5 sx q 1 6 3055489385 = some true := by
  have b2 := and2 w
  show P.skifflaw7_ChooseTable.j0 (299 + 1) w p q tabF p 0 5 sx q 1 6 3055489385 = some true
  simp only [P.skifflaw7_ChooseTable.j0]
  rw [b2, xorS]
  by_cases h : w % 4 / 2 * 2 = 2
  · rw [if_pos h]
    exact tab_j1 w p q sx _ hp hq gx false h3 (by omega) hgx (by decide) (by rcases hw with ⟨h5, h6⟩ | ⟨h5, h6⟩; exact .inr (.inr (.inl ⟨by omega, h6, rfl⟩)); exact .inr (.inr (.inr ⟨by omega, h6, rfl⟩)))
  · rw [if_neg h]
    exact tab_j1 w p q sx _ hp hq gx true h3 (by omega) hgx (by decide) (by rcases hw with ⟨h5, h6⟩ | ⟨h5, h6⟩; exact .inl ⟨by omega, h6, rfl⟩; exact .inr (.inl ⟨by omega, h6, rfl⟩))
theorem chooseTable_f (w a b : Int) : P.skifflaw7_ChooseTable.f 300 w a b = some true := by
  have hs : (mk flash0).size = 768 := by rw [mk_size, flash0_length]
  have ea : wrap64 (1 + Go.bits .and .i64 a 7) = 1 + a % 8 := by rw [and7]; simp only [wrap64]; omega
  have eb : wrap64 (1 + Go.bits .and .i64 b 7) = 1 + b % 8 := by rw [and7]; simp only [wrap64]; omega
  unfold P.skifflaw7_ChooseTable.f P.skiffref1_Blank.f
  rw [awake7_f, Option.bind_some, if_pos rfl, Option.bind_some, if_pos (by decide), if_pos (by rw [hs]; decide), if_pos (by rw [ByteArray.size_extract, hs]; decide), if_pos (by decide), if_pos (by rw [hs]; decide),
    if_pos (by rw [ByteArray.size_append, ByteArray.size_extract, ByteArray.size_extract, hs]; decide), if_pos (by rw [ByteArray.size_append, ByteArray.size_append, ByteArray.size_extract, ByteArray.size_extract, hs]; decide), if_pos (by rw [hs]; decide),
    if_pos (by rw [ByteArray.size_append, ByteArray.size_append, ByteArray.size_append, ByteArray.size_extract, ByteArray.size_extract, ByteArray.size_extract, hs]; decide), rcrcF, Option.bind_some, rcrcS, Option.bind_some, ea, eb, xorF, and1]
  have h0 := fun gx => tab_j0 w (1 + a % 8) (1 + b % 8) 2456940119 gx (by omega) (by omega) (by omega)
  have h1 := fun gx => tab_j0 w (1 + a % 8) (1 + b % 8) 2456940118 gx (by omega) (by omega) (by omega)
  unfold tabF at h0 h1
  by_cases hw : w % 2 = 1
  · rw [if_pos hw]
    exact h1 false (by decide) (.inr ⟨hw, rfl⟩)
  · rw [if_neg hw]
    exact h0 true (by decide) (.inl ⟨by omega, rfl⟩)
theorem chooseTable_walk (w a b : Int) (h1 : (Lit.int .i64 w).wf = true) (h2 : (Lit.int .i64 a).wf = true) (h3 : (Lit.int .i64 b).wf = true) (W : World) : Calls Try.prog 5 #[.int .i64 w, .int .i64 a, .int .i64 b] W fun e w' => e = .returned (.bool true) ∧ Ext W w' :=
  P.skifflaw7_ChooseTable.calls 300 w a b true W (chooseTable_f w a b)

end Go.Proofs.Ytdijecmpaoabbaa
