/- Texts of this claim, laid together. -/
import Derived.Test.YtmidohjfajbpmaaZ3Cz
import Derived.Test.YtmidohjfajbpmaaZ3M22
import Derived.Test.YtmidohjfajbpmaaZ3M26
import Derived.Test.YtmidohjfajbpmaaZ3M28
import Derived.Test.YtmidohjfajbpmaaZ3Px8
section
namespace Go.Proofs.Ytmidohjfajbpmaa.P
open Go.RowKit Go.Proofs.YtmidohjfajbpmaaW.PrintWords Go.Proofs.YtmidohjfajbpmaaW.PrintLast Go.Proofs.YtmidohjfajbpmaaW.PrintMore
attribute [local go_sem] max2_int min2_int max_two min_two max_three min_three max_four min_four   -- for this text's walks alone
set_option linter.unusedVariables false
set_option linter.unusedSimpArgs false

/-! ### skifflaw20_Uploads: function 3 -/
def skifflaw20_Uploads.j0 : Nat → Bool → Int → Int → Int → Int → Int → List (S68) → Int → Int → Int → Int → Int → List (S68) → Int → Int → Int → Int → Int → List (S68) → Option (Bool)
 | 0, _, _, _, _, _, _, _, _, _, _, _, _, _, _, _, _, _, _, _ => none
 | k + 1, x50, x481000, x481001, x481002, x481003, x481004, x481005, x490000, x490001, x490002, x490003, x490004, x490005, x501000, x501001, x501002, x501003, x501004, x501005 => if x50 = true then (none) else ((skifflaw0_SpoilDevice.f k x501000 x501001 x501002 x501003 x501004 x501005).bind fun t514 => ((skifflaw0_SameDevice.f k x490000 x490001 x490002 x490003 x490004 x490005 x481000 x481001 x481002 x481003 x481004 x481005).bind fun t515 => (if t515 = true then ((skifflaw20_awake.f k).bind fun t516 => (some t516)) else (none))))
def skifflaw20_Uploads.f (k : Nat) (a0 : ByteArray) (a1_0 : Int) (a1_1 : Int) (a1_2 : Int) (a1_3 : Int) (a1_4 : Int) (l1_5 : List (S68)) (a2 : Int) (a3 : Int) : Option (Bool) := (skifflaw0_CopyDevice.f a1_0 a1_1 a1_2 a1_3 a1_4 l1_5).bind fun bt481 => ((upload_Give.f k a0 bt481.1 bt481.2.1 bt481.2.2.1 bt481.2.2.2.1 bt481.2.2.2.2.1 bt481.2.2.2.2.2 a2 a3).bind fun bt490 => ((skiffref16_Upload.f k a0 a1_0 a1_1 a1_2 a1_3 a1_4 l1_5 a2 a3).bind fun bt501 => ((skifflaw0_SameDevice.f k bt490.1 bt490.2.1 bt490.2.2.1 bt490.2.2.2.1 bt490.2.2.2.2.1 bt490.2.2.2.2.2.1 bt501.1 bt501.2.1 bt501.2.2.1 bt501.2.2.2.1 bt501.2.2.2.2.1 bt501.2.2.2.2.2.1).bind fun t512 => (if t512 = true then (if bt490.2.2.2.2.2.2.1.toList = bt501.2.2.2.2.2.2.1.toList then ((skifflaw0_Num.f bt490.2.2.2.2.2.2.2).bind fun t513 => (skifflaw20_Uploads.j0 k (t513 != bt501.2.2.2.2.2.2.2) a1_0 a1_1 a1_2 a1_3 a1_4 l1_5 bt481.1 bt481.2.1 bt481.2.2.1 bt481.2.2.2.1 bt481.2.2.2.2.1 bt481.2.2.2.2.2 bt490.1 bt490.2.1 bt490.2.2.1 bt490.2.2.2.1 bt490.2.2.2.2.1 bt490.2.2.2.2.2.1)) else (none)) else (none)))))

end Go.Proofs.Ytmidohjfajbpmaa.P
end
section
set_option linter.unusedVariables false
set_option linter.unusedSimpArgs false
set_option maxHeartbeats 4000000
namespace Go.Proofs.Ytmidohjfajbpmaa
open Go.RowKit Skiff Go.Proofs.YtmidohjfajbpmaaW.PrintWords Go.Proofs.YtmidohjfajbpmaaW.PrintMore O

def abT : ByteArray := ⟨#[97, 98, 97, 98, 97, 98, 97, 98, 97, 98, 97, 98]⟩
def heldF : ByteArray := mk (put ⟨1, 0, 12, 3146506012⟩ ++ (List.replicate 168 255 ++ ([97, 98, 97, 98, 97, 98, 97, 98, 97, 98, 97, 98] ++ List.replicate 564 255)))
def heldP : Plc := ⟨0, ⟨1, 0, 12, 3146506012⟩⟩
theorem held20_f : P.skifflaw20_held.f 250 = some heldF := by kernel_rfl
theorem held20 (k : Nat) (hk : 250 ≤ k) : P.skifflaw20_held.f k = some heldF := by
  have up : ∀ j, P.skifflaw20_held.f (250 + j) = some heldF := fun j => by
    induction j with
    | zero => exact held20_f
    | succ j ih => exact P.skifflaw20_held.mono (250 + j) _ ih
  obtain ⟨j, rfl⟩ : ∃ j, k = 250 + j := ⟨k - 250, by omega⟩
  exact up j
theorem awake20_f : P.skifflaw20_awake.f 300 = some true := by kernel_rfl
theorem awake20 (k : Nat) (hk : 300 ≤ k) : P.skifflaw20_awake.f k = some true := by
  have up : ∀ j, P.skifflaw20_awake.f (300 + j) = some true := fun j => by
    induction j with
    | zero => exact awake20_f
    | succ j ih => exact P.skifflaw20_awake.mono (300 + j) _ ih
  obtain ⟨j, rfl⟩ : ∃ j, k = 300 + j := ⟨k - 300, by omega⟩
  exact up j
theorem held_size : heldF.size = 768 := by kernel_rfl
theorem best_held : best heldF = some heldP := by kernel_rfl
theorem image_held : image heldF (recOf heldP) = abT := by kernel_rfl

end Go.Proofs.Ytmidohjfajbpmaa
end
section
set_option linter.unusedVariables false
set_option linter.unusedSimpArgs false
set_option maxHeartbeats 4000000
namespace Go.Proofs.Ytmidohjfajbpmaa
open Go.RowKit Skiff Go.Proofs.YtmidohjfajbpmaaW.PrintWords Go.Proofs.YtmidohjfajbpmaaW.PrintMore O

theorem w64u {x : Int} (h : -9223372036854775808 ≤ x ∧ x < 9223372036854775808) : wrap64 x = x := by simp only [wrap64]; omega
theorem within_nou {x a b : Int} (h : x < a ∨ x > b) : within x a b = false := by
  unfold within
  rcases h with h | h
  · rw [decide_eq_false (by omega), Bool.false_and]
  · rw [decide_eq_false (show ¬ x ≤ b by omega), Bool.and_false]
theorem ok_nil : OkOps ([] : List Opn) := fun o h => by cases h
theorem give_bad (f : ByteArray) (s n b len : Int) (k : Nat) (hk : 4 < k) (h : f.size ≠ 768 ∨ n < 0 ∨ (s ≠ 0 ∧ s ≠ 6) ∨ b < 0 ∨ b > 65535 ∨ len < 0 ∨ len > 32) : P.upload_Give.f k f s 0 n 0 0 [] b len = some (0, 0, 0, 0, 0, [], ⟨#[]⟩, 2000) := by
  rw [give_f f s 0 n 0 0 [] b len k hk ok_nil]
  have : giveMay f s 0 n 0 0 [] b len = false := by
    unfold giveMay devMayB
    rcases h with h | h | h | h | h | h | h
    · rw [decide_eq_false h]; rfl
    · rw [within_nou (x := n) (a := 0) (b := 16) (by omega)]; simp
    · rw [beq_eq_false_iff_ne.2 h.1, beq_eq_false_iff_ne.2 h.2]; simp
    · rw [within_nou (x := b) (a := 0) (b := 65535) (by omega)]; simp
    · rw [within_nou (x := b) (a := 0) (b := 65535) (by omega)]; simp
    · rw [within_nou (x := len) (a := 0) (b := 32) (by omega)]; simp
    · rw [within_nou (x := len) (a := 0) (b := 32) (by omega)]; simp
  unfold giveTup
  rw [this, if_neg Bool.false_ne_true]
theorem empty_lu : (⟨#[]⟩ : ByteArray).toList = ([] : List UInt8) := by decide +kernel
/-- What is given of a flash whose active image is known. -/
theorem give_at (f img : ByteArray) (p : Plc) (hf : f.size = 768) (hb : best f = some p) (hi : image f (recOf p) = img) (s st n : Int) (hs : s = 0 ∨ s = 6) (hst : 0 ≤ st ∧ st ≤ 6) (hn : 0 ≤ n ∧ n ≤ 16) (b len : Int) (hb2 : 0 ≤ b ∧ b ≤ 65535) (hl : 0 ≤ len ∧ len ≤ 32) (k : Nat) (hk : 4 < k) :
    P.upload_Give.f k f s st n 0 0 [] b len = some (if b = nextOf s n then given img st (nextOf s n) 0 0 [] len else (7, 4, 0, 0, 0, [], ⟨#[]⟩, 0)) := by
  rw [give_f f s st n 0 0 [] b len k hk ok_nil]
  have : giveMay f s st n 0 0 [] b len = true := by
    unfold giveMay devMayB
    rw [decide_eq_true hf, Skiff.within_iff.2 hb2, Skiff.within_iff.2 hl, Skiff.within_iff.2 hn, Skiff.within_iff.2 hst]
    rcases hs with rfl | rfl <;> rfl
  unfold giveTup
  rw [this, if_pos rfl, hb, giveOf, hi]
theorem ab_size : abT.size = 12 := rfl
theorem piece_small (img : ByteArray) (n len : Int) (h : img.size < 32) : (pieceOf img n len).size < 32 := by
  unfold pieceOf; rw [ByteArray.size_extract]; omega
theorem given_small (img : ByteArray) (st n g sl : Int) (l : List Opn) (len : Int) (h : img.size < 32) : given img st n g sl l len = (0, 0, 0, 0, 0, [], pieceOf img n len, 0) := by
  unfold given; rw [if_pos (piece_small img n len h)]
theorem piece_past (img : ByteArray) (n len : Int) (h : img.size ≤ 32 * n.toNat) : (pieceOf img n len).toList = ([] : List UInt8) := by
  unfold pieceOf
  rw [toList_bl, bl_extract, Nat.min_eq_right h, List.drop_of_length_le (by rw [bl_length]; omega)]; simp

end Go.Proofs.Ytmidohjfajbpmaa
end
section
namespace Go.Proofs.Ytmidohjfajbpmaa.P
open Go.RowKit Go.Proofs.YtmidohjfajbpmaaW.PrintWords Go.Proofs.YtmidohjfajbpmaaW.PrintLast Go.Proofs.YtmidohjfajbpmaaW.PrintMore
attribute [local go_sem] max2_int min2_int max_two min_two max_three min_three max_four min_four   -- for this text's walks alone
set_option linter.unusedVariables false
set_option linter.unusedSimpArgs false

/-! ### skifflaw20_UploadRow: function 6 -/
def skifflaw20_UploadRow.f (k : Nat) (a0 : Int) (a1 : Int) : Option (Bool) := (skifflaw20_awake.f k).bind fun t647 => (if t647 = true then ((skifflaw20_held.f k).bind fun t648 => ((upload_Give.f k t648 6 0 (wrap64 (Int.tmod (IntKind.u64.wrap (a0)) 9)) 0 0 ([] : List (S68)) (Go.bits .and .i64 a1 15) 32).bind fun bt649 => ((skifflaw0_Num.f bt649.2.2.2.2.2.2.2).bind fun t660 => (if t660 = 0 then (if (Go.bits .and .i64 a1 15) = (wrap64 (Int.tmod (IntKind.u64.wrap (a0)) 9)) then (if (wrap64 (Int.tmod (IntKind.u64.wrap (a0)) 9)) = 0 then ((skifflaw0_SameDevice.f k bt649.1 bt649.2.1 bt649.2.2.1 bt649.2.2.2.1 bt649.2.2.2.2.1 bt649.2.2.2.2.2.1 0 0 0 0 0 ([] : List (S68))).bind fun t661 => (if t661 = true then (some (bt649.2.2.2.2.2.2.1.toList == ([97, 98, 97, 98, 97, 98, 97, 98, 97, 98, 97, 98] : List UInt8))) else (none))) else ((skifflaw0_SameDevice.f k bt649.1 bt649.2.1 bt649.2.2.1 bt649.2.2.2.1 bt649.2.2.2.2.1 bt649.2.2.2.2.2.1 0 0 0 0 0 ([] : List (S68))).bind fun t662 => (if t662 = true then (some (bt649.2.2.2.2.2.2.1.toList == ([] : List UInt8))) else (none)))) else (if bt649.1 = 7 then (if bt649.2.1 = 4 then (some (bt649.2.2.2.2.2.2.1.toList == ([] : List UInt8))) else (none)) else (none))) else (none))))) else (none))
set_option maxHeartbeats 8000000 in
set_option maxRecDepth 100000 in
theorem skifflaw20_UploadRow.calls (k : Nat) (a0 : Int) (a1 : Int) (r : Bool) (w : World) (h : skifflaw20_UploadRow.f k a0 a1 = some r) :
  Calls Try.prog 6 #[.int .i64 a0, .int .i64 a1] w fun e w' => e = .returned (.bool r) ∧ Below w.heap.size w w' := by
 have hu24 := Try.underlying24
 have HB := Aside0.mk (Below.refl w.heap.size w)
 have H : ((skifflaw20_awake.f k).bind fun t647 => (if t647 = true then ((skifflaw20_held.f k).bind fun t648 => ((upload_Give.f k t648 6 0 (wrap64 (Int.tmod (IntKind.u64.wrap (a0)) 9)) 0 0 ([] : List (S68)) (Go.bits .and .i64 a1 15) 32).bind fun bt649 => ((skifflaw0_Num.f bt649.2.2.2.2.2.2.2).bind fun t660 => (if t660 = 0 then (if (Go.bits .and .i64 a1 15) = (wrap64 (Int.tmod (IntKind.u64.wrap (a0)) 9)) then (if (wrap64 (Int.tmod (IntKind.u64.wrap (a0)) 9)) = 0 then ((skifflaw0_SameDevice.f k bt649.1 bt649.2.1 bt649.2.2.1 bt649.2.2.2.1 bt649.2.2.2.2.1 bt649.2.2.2.2.2.1 0 0 0 0 0 ([] : List (S68))).bind fun t661 => (if t661 = true then (some (bt649.2.2.2.2.2.2.1.toList == ([97, 98, 97, 98, 97, 98, 97, 98, 97, 98, 97, 98] : List UInt8))) else (none))) else ((skifflaw0_SameDevice.f k bt649.1 bt649.2.1 bt649.2.2.1 bt649.2.2.2.1 bt649.2.2.2.2.1 bt649.2.2.2.2.2.1 0 0 0 0 0 ([] : List (S68))).bind fun t662 => (if t662 = true then (some (bt649.2.2.2.2.2.2.1.toList == ([] : List UInt8))) else (none)))) else (if bt649.1 = 7 then (if bt649.2.1 = 4 then (some (bt649.2.2.2.2.2.2.1.toList == ([] : List UInt8))) else (none)) else (none))) else (none))))) else (none))) = some r := h
 clear h
 replace H := Option.bind_eq_some_iff.mp H
 obtain ⟨t647, A30, H⟩ := H
 replace H : (if t647 = true then ((skifflaw20_held.f k).bind fun t648 => ((upload_Give.f k t648 6 0 (wrap64 (Int.tmod (IntKind.u64.wrap (a0)) 9)) 0 0 ([] : List (S68)) (Go.bits .and .i64 a1 15) 32).bind fun bt649 => ((skifflaw0_Num.f bt649.2.2.2.2.2.2.2).bind fun t660 => (if t660 = 0 then (if (Go.bits .and .i64 a1 15) = (wrap64 (Int.tmod (IntKind.u64.wrap (a0)) 9)) then (if (wrap64 (Int.tmod (IntKind.u64.wrap (a0)) 9)) = 0 then ((skifflaw0_SameDevice.f k bt649.1 bt649.2.1 bt649.2.2.1 bt649.2.2.2.1 bt649.2.2.2.2.1 bt649.2.2.2.2.2.1 0 0 0 0 0 ([] : List (S68))).bind fun t661 => (if t661 = true then (some (bt649.2.2.2.2.2.2.1.toList == ([97, 98, 97, 98, 97, 98, 97, 98, 97, 98, 97, 98] : List UInt8))) else (none))) else ((skifflaw0_SameDevice.f k bt649.1 bt649.2.1 bt649.2.2.1 bt649.2.2.2.1 bt649.2.2.2.2.1 bt649.2.2.2.2.2.1 0 0 0 0 0 ([] : List (S68))).bind fun t662 => (if t662 = true then (some (bt649.2.2.2.2.2.2.1.toList == ([] : List UInt8))) else (none)))) else (if bt649.1 = 7 then (if bt649.2.1 = 4 then (some (bt649.2.2.2.2.2.2.1.toList == ([] : List UInt8))) else (none)) else (none))) else (none))))) else (none)) = some r := H
 have A3 := Aside0.mk A30
 clear A30
 by_cases c4 : t647 = true
 case neg =>
  replace c4 := Bool.eq_false_iff.mpr c4
  subst c4
  have H1 : (none) = some r := by rw [if_neg (show ¬ (false = true) by decide)] at H; exact H
  clear H; have H := H1; clear H1
  exact absurd H (by simp)
 subst c4
 have H1 : ((skifflaw20_held.f k).bind fun t648 => ((upload_Give.f k t648 6 0 (wrap64 (Int.tmod (IntKind.u64.wrap (a0)) 9)) 0 0 ([] : List (S68)) (Go.bits .and .i64 a1 15) 32).bind fun bt649 => ((skifflaw0_Num.f bt649.2.2.2.2.2.2.2).bind fun t660 => (if t660 = 0 then (if (Go.bits .and .i64 a1 15) = (wrap64 (Int.tmod (IntKind.u64.wrap (a0)) 9)) then (if (wrap64 (Int.tmod (IntKind.u64.wrap (a0)) 9)) = 0 then ((skifflaw0_SameDevice.f k bt649.1 bt649.2.1 bt649.2.2.1 bt649.2.2.2.1 bt649.2.2.2.2.1 bt649.2.2.2.2.2.1 0 0 0 0 0 ([] : List (S68))).bind fun t661 => (if t661 = true then (some (bt649.2.2.2.2.2.2.1.toList == ([97, 98, 97, 98, 97, 98, 97, 98, 97, 98, 97, 98] : List UInt8))) else (none))) else ((skifflaw0_SameDevice.f k bt649.1 bt649.2.1 bt649.2.2.1 bt649.2.2.2.1 bt649.2.2.2.2.1 bt649.2.2.2.2.2.1 0 0 0 0 0 ([] : List (S68))).bind fun t662 => (if t662 = true then (some (bt649.2.2.2.2.2.2.1.toList == ([] : List UInt8))) else (none)))) else (if bt649.1 = 7 then (if bt649.2.1 = 4 then (some (bt649.2.2.2.2.2.2.1.toList == ([] : List UInt8))) else (none)) else (none))) else (none))))) = some r := by rw [if_pos rfl] at H; exact H
 clear H; have H := H1; clear H1
 replace H := Option.bind_eq_some_iff.mp H
 obtain ⟨t648, A50, H⟩ := H
 replace H : ((upload_Give.f k t648 6 0 (wrap64 (Int.tmod (IntKind.u64.wrap (a0)) 9)) 0 0 ([] : List (S68)) (Go.bits .and .i64 a1 15) 32).bind fun bt649 => ((skifflaw0_Num.f bt649.2.2.2.2.2.2.2).bind fun t660 => (if t660 = 0 then (if (Go.bits .and .i64 a1 15) = (wrap64 (Int.tmod (IntKind.u64.wrap (a0)) 9)) then (if (wrap64 (Int.tmod (IntKind.u64.wrap (a0)) 9)) = 0 then ((skifflaw0_SameDevice.f k bt649.1 bt649.2.1 bt649.2.2.1 bt649.2.2.2.1 bt649.2.2.2.2.1 bt649.2.2.2.2.2.1 0 0 0 0 0 ([] : List (S68))).bind fun t661 => (if t661 = true then (some (bt649.2.2.2.2.2.2.1.toList == ([97, 98, 97, 98, 97, 98, 97, 98, 97, 98, 97, 98] : List UInt8))) else (none))) else ((skifflaw0_SameDevice.f k bt649.1 bt649.2.1 bt649.2.2.1 bt649.2.2.2.1 bt649.2.2.2.2.1 bt649.2.2.2.2.2.1 0 0 0 0 0 ([] : List (S68))).bind fun t662 => (if t662 = true then (some (bt649.2.2.2.2.2.2.1.toList == ([] : List UInt8))) else (none)))) else (if bt649.1 = 7 then (if bt649.2.1 = 4 then (some (bt649.2.2.2.2.2.2.1.toList == ([] : List UInt8))) else (none)) else (none))) else (none)))) = some r := H
 have A5 := Aside0.mk A50
 clear A50
 replace H := Option.bind_eq_some_iff.mp H
 obtain ⟨⟨t649, t650, t651, t652, t653, t654, t657, t658⟩, A60, H⟩ := H
 replace H : ((skifflaw0_Num.f t658).bind fun t660 => (if t660 = 0 then (if (Go.bits .and .i64 a1 15) = (wrap64 (Int.tmod (IntKind.u64.wrap (a0)) 9)) then (if (wrap64 (Int.tmod (IntKind.u64.wrap (a0)) 9)) = 0 then ((skifflaw0_SameDevice.f k t649 t650 t651 t652 t653 t654 0 0 0 0 0 ([] : List (S68))).bind fun t661 => (if t661 = true then (some (t657.toList == ([97, 98, 97, 98, 97, 98, 97, 98, 97, 98, 97, 98] : List UInt8))) else (none))) else ((skifflaw0_SameDevice.f k t649 t650 t651 t652 t653 t654 0 0 0 0 0 ([] : List (S68))).bind fun t662 => (if t662 = true then (some (t657.toList == ([] : List UInt8))) else (none)))) else (if t649 = 7 then (if t650 = 4 then (some (t657.toList == ([] : List UInt8))) else (none)) else (none))) else (none))) = some r := H
 have A6 := Aside0.mk A60
 clear A60
 replace H := Option.bind_eq_some_iff.mp H
 obtain ⟨t660, A70, H⟩ := H
 replace H : (if t660 = 0 then (if (Go.bits .and .i64 a1 15) = (wrap64 (Int.tmod (IntKind.u64.wrap (a0)) 9)) then (if (wrap64 (Int.tmod (IntKind.u64.wrap (a0)) 9)) = 0 then ((skifflaw0_SameDevice.f k t649 t650 t651 t652 t653 t654 0 0 0 0 0 ([] : List (S68))).bind fun t661 => (if t661 = true then (some (t657.toList == ([97, 98, 97, 98, 97, 98, 97, 98, 97, 98, 97, 98] : List UInt8))) else (none))) else ((skifflaw0_SameDevice.f k t649 t650 t651 t652 t653 t654 0 0 0 0 0 ([] : List (S68))).bind fun t662 => (if t662 = true then (some (t657.toList == ([] : List UInt8))) else (none)))) else (if t649 = 7 then (if t650 = 4 then (some (t657.toList == ([] : List UInt8))) else (none)) else (none))) else (none)) = some r := H
 have A7 := Aside0.mk A70
 clear A70
 by_cases c8 : t660 = 0
 case neg =>
  rw [if_neg c8] at H
  exact absurd H (by simp)
 rw [if_pos c8] at H
 have c8b0 : (t660 == 0) = true := beq_iff_eq.mpr c8
 have c8b1 : (t660 != 0) = false := bne_eq_false_iff_eq.mpr c8
 clear c8
 by_cases c9 : (Go.bits .and .i64 a1 15) = (wrap64 (Int.tmod (IntKind.u64.wrap (a0)) 9))
 ·rw [if_pos c9] at H
  have c9b0 : ((Go.bits .and .i64 a1 15) == (wrap64 (Int.tmod (IntKind.u64.wrap (a0)) 9))) = true := beq_iff_eq.mpr c9
  have c9b1 : ((Go.bits .and .i64 a1 15) != (wrap64 (Int.tmod (IntKind.u64.wrap (a0)) 9))) = false := bne_eq_false_iff_eq.mpr c9
  clear c9
  by_cases c10 : (wrap64 (Int.tmod (IntKind.u64.wrap (a0)) 9)) = 0
  ·rw [if_pos c10] at H
   have c10b0 : ((wrap64 (Int.tmod (IntKind.u64.wrap (a0)) 9)) == 0) = true := beq_iff_eq.mpr c10
   have c10b1 : ((wrap64 (Int.tmod (IntKind.u64.wrap (a0)) 9)) != 0) = false := bne_eq_false_iff_eq.mpr c10
   clear c10
   replace H := Option.bind_eq_some_iff.mp H
   obtain ⟨t661, A110, H⟩ := H
   replace H : (if t661 = true then (some (t657.toList == ([97, 98, 97, 98, 97, 98, 97, 98, 97, 98, 97, 98] : List UInt8))) else (none)) = some r := H
   have A11 := Aside0.mk A110
   clear A110
   by_cases c12 : t661 = true
   case neg =>
    replace c12 := Bool.eq_false_iff.mpr c12
    subst c12
    have H1 : (none) = some r := by rw [if_neg (show ¬ (false = true) by decide)] at H; exact H
    clear H; have H := H1; clear H1
    exact absurd H (by simp)
   subst c12
   have H1 : (some (t657.toList == ([97, 98, 97, 98, 97, 98, 97, 98, 97, 98, 97, 98] : List UInt8))) = some r := by rw [if_pos rfl] at H; exact H
   clear H; have H := H1; clear H1
   obtain rfl := Option.some.inj H
   go_enter Try.func6, Try.ntmps6
   go_wp2_with (first | ((with_reducible refine gate_callee (f := 15) rfl ?_); refine goesL_ (some 11) rfl rfl Try.func15 (by kernel_rfl) rfl #[] rfl ka ?_; (with_reducible refine (skifflaw20_awake.calls k  true _ A3.out).mono ?_); rintro e w13 ⟨rfl, hb⟩; refine ⟨_, rfl, ?_⟩; have n0_ := Aside0.mk (below_step (kb HB.out) hb); clear HB; have HB := n0_; clear n0_; (try clear hb); (try clear hb2); (try clear hk); (try clear hi)) | ((with_reducible refine gate_callee (f := 16) rfl ?_); refine goesL_ (some 20) rfl rfl Try.func16 (by kernel_rfl) rfl #[] rfl ka ?_; (with_reducible refine (skifflaw20_held.calls k  t648 _ A5.out).mono ?_); rintro e w14 ⟨rfl, hb⟩; refine ⟨_, rfl, ?_⟩; have n0_ := Aside0.mk (below_step (kb HB.out) hb); clear HB; have HB := n0_; clear n0_; (try clear hb); (try clear hb2); (try clear hk); (try clear hi)) | ((with_reducible refine gate_callee (f := 10) rfl ?_); refine goesL_ (some 24) rfl rfl Try.func10 (by kernel_rfl) rfl #[.string t648, .agg #[.int .i64 6, .int .i64 0, .int .i64 (wrap64 (Int.tmod (IntKind.u64.wrap (a0)) 9)), .int .i64 0, .int .i64 0, .slice none 0 0], .int .i64 (Go.bits .and .i64 a1 15), .int .i64 32] rfl ka ?_; (refine (upload_Give.calls k t648 6 0 (wrap64 (Int.tmod (IntKind.u64.wrap (a0)) 9)) 0 0 _ _ ([] : List (S68)) (Go.bits .and .i64 a1 15) 32 t649 t650 t651 t652 t653 t654 t657 t658 _ ?side1 ?side2 A6.out).mono ?_); (case side1 => exact Kd.C_nil _ _); (case side2 => exact Nat.le_refl _); rintro e w15 ⟨v655, rfl, ho0, hb⟩; refine ⟨_, rfl, ?_⟩; have n0_ := Aside0.mk (Kd.R_lower ho0 (below_size (kb HB.out))); have n1_ := Aside0.mk (below_step (kb HB.out) hb); clear HB; have HO656 := n0_; have HB := n1_; clear n0_ n1_; (try clear hb); (try clear hb2); (try clear hk); (try clear hi); (try clear ho0)) | ((with_reducible refine gate_dst (N := 7) rfl ?_); refine box_event ?hg (N := 7) ?hd (cs := #[.int .i64 0, .int .i64 0, .int .i64 0, .int .i64 0, .int .i64 0, .slice none 0 0]) (t := 24) ?hr ?_; (case hd => rfl); (case hg => rfl); (case hr => first | (go_simp; done) | (go_simp; rfl)); intro gb659 hg w16 hbox hb; have n0_ := Aside0.mk (Kd.R_below (kR HO656.out) hb); have n1_ := Aside0.mk (below_step (kb HB.out) hb); have n2_ := Aside0.mk (hbox); have n3_ := Aside0.mk ((kz hg (below_size (kb HB.out)) : w.heap.size ≤ gb659)); have n4_ := Aside0.mk ((kz hg (below_size (kb HB.out)) : w.heap.size ≤ gb659)); clear HO656; clear HB; have HO656 := n0_; have HB := n1_; have BK659 := n2_; have GW659 := n3_; have GE659 := n4_; clear n0_ n1_ n2_ n3_ n4_; clear hb hbox hg; obtain ⟨hcz17_0, hcz17_1, hcz17_2, hcz17_3, hcz17_4, hcz17_5⟩ := kc6 BK659.out; obtain ⟨hfz17_0, hfz17_1, hfz17_2, hfz17_3, hfz17_4, hfz17_5⟩ := kf6 BK659.out; obtain ⟨Ao18, co18, eo18⟩ := Kd.R_slice HO656.out; subst eo18) | ((with_reducible refine gate_callee (f := 13) rfl ?_); refine goesL_ (some 29) rfl rfl Try.func13 (by kernel_rfl) rfl #[.int .i64 t658] rfl ka ?_; (with_reducible refine (skifflaw0_Num.calls t658 t660 _ A7.out).mono ?_); rintro e w' ⟨rfl, ⟨nd, rfl⟩⟩; refine ⟨_, rfl, ?_⟩) | ((with_reducible refine gate_callee (f := 12) rfl ?_); refine goesL_ (some 50) rfl rfl Try.func12 (by kernel_rfl) rfl #[.agg #[.int .i64 t649, .int .i64 t650, .int .i64 t651, .int .i64 t652, .int .i64 t653, .slice Ao18 t654.length co18], .agg #[.int .i64 0, .int .i64 0, .int .i64 0, .int .i64 0, .int .i64 0, .slice none 0 0]] rfl ka ?_; (refine (skifflaw0_SameDevice.calls k t649 t650 t651 t652 t653 _ _ t654 0 0 0 0 0 _ _ ([] : List (S68)) true _ ?side1 ?side2 ?side3 ?side4 A11.out).mono ?_); (case side1 => refine (Kd.R_reads' (e := 68) (base := w.heap.size) (ok := fun k_ => True) (n := t654.length) (c := co18) ?_).2.2; exact (by (with_reducible repeat (first | apply Kd.R_alloc | apply Kd.R_drewN | apply Kd.R_drew)); exact (Kd.R_mono (Kd.R_far (p := ⟨gb659, 5, none⟩) (Kd.R_far (p := ⟨gb659, 4, none⟩) (Kd.R_far (p := ⟨gb659, 3, none⟩) (Kd.R_far (p := ⟨gb659, 2, none⟩) (Kd.R_far (p := ⟨gb659, 1, none⟩) (Kd.R_far (p := ⟨gb659, 0, none⟩) (Kd.R_types HO656.out BK659.out (by decide)) (fun _ hk => hk.2) (.int .i64 t649)) (fun _ hk => hk.2) (.int .i64 t650)) (fun _ hk => hk.2) (.int .i64 t651)) (fun _ hk => hk.2) (.int .i64 t652)) (fun _ hk => hk.2) (.int .i64 t653)) (fun _ hk => hk.2) (.slice Ao18 t654.length co18)) (fun _ h_ => h_.1)))); (case side2 => exact (Kd.R_reads' HO656.out).2.1); (case side3 => exact Kd.C_nil _ _); (case side4 => exact Nat.le_refl _); rintro e w19 ⟨rfl, hb⟩; refine ⟨_, rfl, ?_⟩; have n0_ := Aside0.mk (Kd.R_below (by (with_reducible repeat (first | apply Kd.R_alloc | apply Kd.R_drewN | apply Kd.R_drew)); exact (Kd.R_mono (Kd.R_far (p := ⟨gb659, 5, none⟩) (Kd.R_far (p := ⟨gb659, 4, none⟩) (Kd.R_far (p := ⟨gb659, 3, none⟩) (Kd.R_far (p := ⟨gb659, 2, none⟩) (Kd.R_far (p := ⟨gb659, 1, none⟩) (Kd.R_far (p := ⟨gb659, 0, none⟩) (Kd.R_types HO656.out BK659.out (by decide)) (fun _ hk => hk.2) (.int .i64 t649)) (fun _ hk => hk.2) (.int .i64 t650)) (fun _ hk => hk.2) (.int .i64 t651)) (fun _ hk => hk.2) (.int .i64 t652)) (fun _ hk => hk.2) (.int .i64 t653)) (fun _ hk => hk.2) (.slice Ao18 t654.length co18)) (fun _ h_ => h_.1))) hb); have n1_ := Aside0.mk (blk_below (g := gb659) (o := .cells #[.int .i64 t649, .int .i64 t650, .int .i64 t651, .int .i64 t652, .int .i64 t653, .slice Ao18 t654.length co18] 24 (0, 0)) (kP6 BK659.out) hb); have n2_ := Aside0.mk (below_step (kb1 HB.out GE659.out) hb); clear HO656; clear BK659; clear HB; have HO656 := n0_; have BK659 := n1_; have HB := n2_; clear n0_ n1_ n2_; (try clear hb); (try clear hb2); (try clear hk); (try clear hi)))
   go_ret
   exact ⟨by first | rfl | (simp [errW_none, errW_some] <;> rfl) | (simp [*, errW_none, errW_some] <;> rfl), kb1 HB.out GE659.out⟩
  ·rw [if_neg c10] at H
   have c10b0 : ((wrap64 (Int.tmod (IntKind.u64.wrap (a0)) 9)) == 0) = false := beq_eq_false_iff_ne.mpr c10
   have c10b1 : ((wrap64 (Int.tmod (IntKind.u64.wrap (a0)) 9)) != 0) = true := bne_iff_ne.mpr c10
   replace H := Option.bind_eq_some_iff.mp H
   obtain ⟨t662, A200, H⟩ := H
   replace H : (if t662 = true then (some (t657.toList == ([] : List UInt8))) else (none)) = some r := H
   have A20 := Aside0.mk A200
   clear A200
   by_cases c21 : t662 = true
   case neg =>
    replace c21 := Bool.eq_false_iff.mpr c21
    subst c21
    have H1 : (none) = some r := by rw [if_neg (show ¬ (false = true) by decide)] at H; exact H
    clear H; have H := H1; clear H1
    exact absurd H (by simp)
   subst c21
   have H1 : (some (t657.toList == ([] : List UInt8))) = some r := by rw [if_pos rfl] at H; exact H
   clear H; have H := H1; clear H1
   obtain rfl := Option.some.inj H
   go_enter Try.func6, Try.ntmps6
   go_wp2_with (first | ((with_reducible refine gate_callee (f := 15) rfl ?_); refine goesL_ (some 11) rfl rfl Try.func15 (by kernel_rfl) rfl #[] rfl ka ?_; (with_reducible refine (skifflaw20_awake.calls k  true _ A3.out).mono ?_); rintro e w22 ⟨rfl, hb⟩; refine ⟨_, rfl, ?_⟩; have n0_ := Aside0.mk (below_step (kb HB.out) hb); clear HB; have HB := n0_; clear n0_; (try clear hb); (try clear hb2); (try clear hk); (try clear hi)) | ((with_reducible refine gate_callee (f := 16) rfl ?_); refine goesL_ (some 20) rfl rfl Try.func16 (by kernel_rfl) rfl #[] rfl ka ?_; (with_reducible refine (skifflaw20_held.calls k  t648 _ A5.out).mono ?_); rintro e w23 ⟨rfl, hb⟩; refine ⟨_, rfl, ?_⟩; have n0_ := Aside0.mk (below_step (kb HB.out) hb); clear HB; have HB := n0_; clear n0_; (try clear hb); (try clear hb2); (try clear hk); (try clear hi)) | ((with_reducible refine gate_callee (f := 10) rfl ?_); refine goesL_ (some 24) rfl rfl Try.func10 (by kernel_rfl) rfl #[.string t648, .agg #[.int .i64 6, .int .i64 0, .int .i64 (wrap64 (Int.tmod (IntKind.u64.wrap (a0)) 9)), .int .i64 0, .int .i64 0, .slice none 0 0], .int .i64 (Go.bits .and .i64 a1 15), .int .i64 32] rfl ka ?_; (refine (upload_Give.calls k t648 6 0 (wrap64 (Int.tmod (IntKind.u64.wrap (a0)) 9)) 0 0 _ _ ([] : List (S68)) (Go.bits .and .i64 a1 15) 32 t649 t650 t651 t652 t653 t654 t657 t658 _ ?side1 ?side2 A6.out).mono ?_); (case side1 => exact Kd.C_nil _ _); (case side2 => exact Nat.le_refl _); rintro e w24 ⟨v655, rfl, ho0, hb⟩; refine ⟨_, rfl, ?_⟩; have n0_ := Aside0.mk (Kd.R_lower ho0 (below_size (kb HB.out))); have n1_ := Aside0.mk (below_step (kb HB.out) hb); clear HB; have HO656 := n0_; have HB := n1_; clear n0_ n1_; (try clear hb); (try clear hb2); (try clear hk); (try clear hi); (try clear ho0)) | ((with_reducible refine gate_dst (N := 7) rfl ?_); refine box_event ?hg (N := 7) ?hd (cs := #[.int .i64 0, .int .i64 0, .int .i64 0, .int .i64 0, .int .i64 0, .slice none 0 0]) (t := 24) ?hr ?_; (case hd => rfl); (case hg => rfl); (case hr => first | (go_simp; done) | (go_simp; rfl)); intro gb659 hg w25 hbox hb; have n0_ := Aside0.mk (Kd.R_below (kR HO656.out) hb); have n1_ := Aside0.mk (below_step (kb HB.out) hb); have n2_ := Aside0.mk (hbox); have n3_ := Aside0.mk ((kz hg (below_size (kb HB.out)) : w.heap.size ≤ gb659)); have n4_ := Aside0.mk ((kz hg (below_size (kb HB.out)) : w.heap.size ≤ gb659)); clear HO656; clear HB; have HO656 := n0_; have HB := n1_; have BK659 := n2_; have GW659 := n3_; have GE659 := n4_; clear n0_ n1_ n2_ n3_ n4_; clear hb hbox hg; obtain ⟨hcz26_0, hcz26_1, hcz26_2, hcz26_3, hcz26_4, hcz26_5⟩ := kc6 BK659.out; obtain ⟨hfz26_0, hfz26_1, hfz26_2, hfz26_3, hfz26_4, hfz26_5⟩ := kf6 BK659.out; obtain ⟨Ao27, co27, eo27⟩ := Kd.R_slice HO656.out; subst eo27) | ((with_reducible refine gate_callee (f := 13) rfl ?_); refine goesL_ (some 29) rfl rfl Try.func13 (by kernel_rfl) rfl #[.int .i64 t658] rfl ka ?_; (with_reducible refine (skifflaw0_Num.calls t658 t660 _ A7.out).mono ?_); rintro e w' ⟨rfl, ⟨nd, rfl⟩⟩; refine ⟨_, rfl, ?_⟩) | ((with_reducible refine gate_callee (f := 12) rfl ?_); refine goesL_ (some 50) rfl rfl Try.func12 (by kernel_rfl) rfl #[.agg #[.int .i64 t649, .int .i64 t650, .int .i64 t651, .int .i64 t652, .int .i64 t653, .slice Ao27 t654.length co27], .agg #[.int .i64 0, .int .i64 0, .int .i64 0, .int .i64 0, .int .i64 0, .slice none 0 0]] rfl ka ?_; (refine (skifflaw0_SameDevice.calls k t649 t650 t651 t652 t653 _ _ t654 0 0 0 0 0 _ _ ([] : List (S68)) true _ ?side1 ?side2 ?side3 ?side4 A20.out).mono ?_); (case side1 => refine (Kd.R_reads' (e := 68) (base := w.heap.size) (ok := fun k_ => True) (n := t654.length) (c := co27) ?_).2.2; exact (by (with_reducible repeat (first | apply Kd.R_alloc | apply Kd.R_drewN | apply Kd.R_drew)); exact (Kd.R_mono (Kd.R_far (p := ⟨gb659, 5, none⟩) (Kd.R_far (p := ⟨gb659, 4, none⟩) (Kd.R_far (p := ⟨gb659, 3, none⟩) (Kd.R_far (p := ⟨gb659, 2, none⟩) (Kd.R_far (p := ⟨gb659, 1, none⟩) (Kd.R_far (p := ⟨gb659, 0, none⟩) (Kd.R_types HO656.out BK659.out (by decide)) (fun _ hk => hk.2) (.int .i64 t649)) (fun _ hk => hk.2) (.int .i64 t650)) (fun _ hk => hk.2) (.int .i64 t651)) (fun _ hk => hk.2) (.int .i64 t652)) (fun _ hk => hk.2) (.int .i64 t653)) (fun _ hk => hk.2) (.slice Ao27 t654.length co27)) (fun _ h_ => h_.1)))); (case side2 => exact (Kd.R_reads' HO656.out).2.1); (case side3 => exact Kd.C_nil _ _); (case side4 => exact Nat.le_refl _); rintro e w28 ⟨rfl, hb⟩; refine ⟨_, rfl, ?_⟩; have n0_ := Aside0.mk (Kd.R_below (by (with_reducible repeat (first | apply Kd.R_alloc | apply Kd.R_drewN | apply Kd.R_drew)); exact (Kd.R_mono (Kd.R_far (p := ⟨gb659, 5, none⟩) (Kd.R_far (p := ⟨gb659, 4, none⟩) (Kd.R_far (p := ⟨gb659, 3, none⟩) (Kd.R_far (p := ⟨gb659, 2, none⟩) (Kd.R_far (p := ⟨gb659, 1, none⟩) (Kd.R_far (p := ⟨gb659, 0, none⟩) (Kd.R_types HO656.out BK659.out (by decide)) (fun _ hk => hk.2) (.int .i64 t649)) (fun _ hk => hk.2) (.int .i64 t650)) (fun _ hk => hk.2) (.int .i64 t651)) (fun _ hk => hk.2) (.int .i64 t652)) (fun _ hk => hk.2) (.int .i64 t653)) (fun _ hk => hk.2) (.slice Ao27 t654.length co27)) (fun _ h_ => h_.1))) hb); have n1_ := Aside0.mk (blk_below (g := gb659) (o := .cells #[.int .i64 t649, .int .i64 t650, .int .i64 t651, .int .i64 t652, .int .i64 t653, .slice Ao27 t654.length co27] 24 (0, 0)) (kP6 BK659.out) hb); have n2_ := Aside0.mk (below_step (kb1 HB.out GE659.out) hb); clear HO656; clear BK659; clear HB; have HO656 := n0_; have BK659 := n1_; have HB := n2_; clear n0_ n1_ n2_; (try clear hb); (try clear hb2); (try clear hk); (try clear hi)))
   go_ret
   exact ⟨by first | rfl | (simp [errW_none, errW_some] <;> rfl) | (simp [*, errW_none, errW_some] <;> rfl), kb1 HB.out GE659.out⟩
 ·rw [if_neg c9] at H
  have c9b0 : ((Go.bits .and .i64 a1 15) == (wrap64 (Int.tmod (IntKind.u64.wrap (a0)) 9))) = false := beq_eq_false_iff_ne.mpr c9
  have c9b1 : ((Go.bits .and .i64 a1 15) != (wrap64 (Int.tmod (IntKind.u64.wrap (a0)) 9))) = true := bne_iff_ne.mpr c9
  by_cases c29 : t649 = 7
  case neg =>
   rw [if_neg c29] at H
   exact absurd H (by simp)
  rw [if_pos c29] at H
  have c29b0 : (t649 == 7) = true := beq_iff_eq.mpr c29
  have c29b1 : (t649 != 7) = false := bne_eq_false_iff_eq.mpr c29
  clear c29
  by_cases c30 : t650 = 4
  case neg =>
   rw [if_neg c30] at H
   exact absurd H (by simp)
  rw [if_pos c30] at H
  have c30b0 : (t650 == 4) = true := beq_iff_eq.mpr c30
  have c30b1 : (t650 != 4) = false := bne_eq_false_iff_eq.mpr c30
  clear c30
  obtain rfl := Option.some.inj H
  go_enter Try.func6, Try.ntmps6
  go_wp2_with (first | ((with_reducible refine gate_callee (f := 15) rfl ?_); refine goesL_ (some 11) rfl rfl Try.func15 (by kernel_rfl) rfl #[] rfl ka ?_; (with_reducible refine (skifflaw20_awake.calls k  true _ A3.out).mono ?_); rintro e w31 ⟨rfl, hb⟩; refine ⟨_, rfl, ?_⟩; have n0_ := Aside0.mk (below_step (kb HB.out) hb); clear HB; have HB := n0_; clear n0_; (try clear hb); (try clear hb2); (try clear hk); (try clear hi)) | ((with_reducible refine gate_callee (f := 16) rfl ?_); refine goesL_ (some 20) rfl rfl Try.func16 (by kernel_rfl) rfl #[] rfl ka ?_; (with_reducible refine (skifflaw20_held.calls k  t648 _ A5.out).mono ?_); rintro e w32 ⟨rfl, hb⟩; refine ⟨_, rfl, ?_⟩; have n0_ := Aside0.mk (below_step (kb HB.out) hb); clear HB; have HB := n0_; clear n0_; (try clear hb); (try clear hb2); (try clear hk); (try clear hi)) | ((with_reducible refine gate_callee (f := 10) rfl ?_); refine goesL_ (some 24) rfl rfl Try.func10 (by kernel_rfl) rfl #[.string t648, .agg #[.int .i64 6, .int .i64 0, .int .i64 (wrap64 (Int.tmod (IntKind.u64.wrap (a0)) 9)), .int .i64 0, .int .i64 0, .slice none 0 0], .int .i64 (Go.bits .and .i64 a1 15), .int .i64 32] rfl ka ?_; (refine (upload_Give.calls k t648 6 0 (wrap64 (Int.tmod (IntKind.u64.wrap (a0)) 9)) 0 0 _ _ ([] : List (S68)) (Go.bits .and .i64 a1 15) 32 t649 t650 t651 t652 t653 t654 t657 t658 _ ?side1 ?side2 A6.out).mono ?_); (case side1 => exact Kd.C_nil _ _); (case side2 => exact Nat.le_refl _); rintro e w33 ⟨v655, rfl, ho0, hb⟩; refine ⟨_, rfl, ?_⟩; have n0_ := Aside0.mk (Kd.R_lower ho0 (below_size (kb HB.out))); have n1_ := Aside0.mk (below_step (kb HB.out) hb); clear HB; have HO656 := n0_; have HB := n1_; clear n0_ n1_; (try clear hb); (try clear hb2); (try clear hk); (try clear hi); (try clear ho0)) | ((with_reducible refine gate_dst (N := 7) rfl ?_); refine box_event ?hg (N := 7) ?hd (cs := #[.int .i64 0, .int .i64 0, .int .i64 0, .int .i64 0, .int .i64 0, .slice none 0 0]) (t := 24) ?hr ?_; (case hd => rfl); (case hg => rfl); (case hr => first | (go_simp; done) | (go_simp; rfl)); intro gb659 hg w34 hbox hb; have n0_ := Aside0.mk (Kd.R_below (kR HO656.out) hb); have n1_ := Aside0.mk (below_step (kb HB.out) hb); have n2_ := Aside0.mk (hbox); have n3_ := Aside0.mk ((kz hg (below_size (kb HB.out)) : w.heap.size ≤ gb659)); have n4_ := Aside0.mk ((kz hg (below_size (kb HB.out)) : w.heap.size ≤ gb659)); clear HO656; clear HB; have HO656 := n0_; have HB := n1_; have BK659 := n2_; have GW659 := n3_; have GE659 := n4_; clear n0_ n1_ n2_ n3_ n4_; clear hb hbox hg; obtain ⟨hcz35_0, hcz35_1, hcz35_2, hcz35_3, hcz35_4, hcz35_5⟩ := kc6 BK659.out; obtain ⟨hfz35_0, hfz35_1, hfz35_2, hfz35_3, hfz35_4, hfz35_5⟩ := kf6 BK659.out; obtain ⟨Ao36, co36, eo36⟩ := Kd.R_slice HO656.out; subst eo36) | ((with_reducible refine gate_callee (f := 13) rfl ?_); refine goesL_ (some 29) rfl rfl Try.func13 (by kernel_rfl) rfl #[.int .i64 t658] rfl ka ?_; (with_reducible refine (skifflaw0_Num.calls t658 t660 _ A7.out).mono ?_); rintro e w' ⟨rfl, ⟨nd, rfl⟩⟩; refine ⟨_, rfl, ?_⟩))
  go_ret
  exact ⟨by first | rfl | (simp [errW_none, errW_some] <;> rfl) | (simp [*, errW_none, errW_some] <;> rfl), kb1 HB.out GE659.out⟩

end Go.Proofs.Ytmidohjfajbpmaa.P
end
section
set_option linter.unusedVariables false
set_option linter.unusedSimpArgs false
set_option maxHeartbeats 4000000
namespace Go.Proofs.Ytmidohjfajbpmaa
open Go.RowKit Skiff Go.Proofs.YtmidohjfajbpmaaW.PrintWords Go.Proofs.YtmidohjfajbpmaaW.PrintMore O

theorem uploadRow_f (x y : Int) (f1 : (Lit.int .i64 x).wf = true) (f2 : (Lit.int .i64 y).wf = true) : P.skifflaw20_UploadRow.f 999 x y = some true := by
  obtain ⟨n, hn, hn2⟩ : ∃ k : Nat, wrap64 ((IntKind.u64.wrap x).tmod 9) = (k : Int) ∧ k < 9 := mod_nat x 9 (by omega) (by omega)
  obtain ⟨b, hb, hb2⟩ : ∃ k : Nat, bits .and .i64 y 15 = (k : Int) ∧ k < 16 := and_mask y f2 4 (by omega)
  have hg := give_at heldF abT heldP held_size best_held image_held 6 0 n (by omega) (by omega) (by omega) b 32 (by omega) (by omega) 999 (by omega)
  have d1 := sameDev_big 0 0 0 0 0 [] 999 (by simp) (by simp)
  have em := empty_lu
  unfold P.skifflaw20_UploadRow.f
  rw [awake20 999 (by omega), Option.bind_some, if_pos rfl, held20 999 (by omega), Option.bind_some, hn, hb, hg, Option.bind_some]
  have e0 : nextOf 6 (n : Int) = n := rfl
  rw [e0]
  by_cases h : (b : Int) = n
  · rw [if_pos h, if_pos h, given_small _ _ _ _ _ _ _ (by rw [ab_size]; decide)]
    dsimp only
    rw [P.skifflaw0_Num.f, Option.bind_some, if_pos rfl]
    by_cases h0 : (n : Int) = 0
    · rw [if_pos h0, d1, Option.bind_some, if_pos rfl, h0]
      have : (pieceOf abT 0 32).toList = [97, 98, 97, 98, 97, 98, 97, 98, 97, 98, 97, 98] := by decide +kernel
      rw [this]; rfl
    · rw [if_neg h0, d1, Option.bind_some, if_pos rfl, piece_past abT n 32 (by rw [ab_size]; omega)]; rfl
  · rw [if_neg h, if_neg h]
    dsimp only
    rw [P.skifflaw0_Num.f, Option.bind_some, if_pos rfl, if_pos rfl, if_pos rfl, em]; rfl
theorem uploadRow_walk (x y : Int) (f1 : (Lit.int .i64 x).wf = true) (f2 : (Lit.int .i64 y).wf = true) (w : World) :
    Calls Try.prog 6 #[.int .i64 x, .int .i64 y] w fun e w' => e = .returned (.bool true) ∧ Ext w w' :=
  P.skifflaw20_UploadRow.calls 999 x y true w (uploadRow_f x y f1 f2)

end Go.Proofs.Ytmidohjfajbpmaa
end
section
namespace Go.Proofs.Ytmidohjfajbpmaa.P
open Go.RowKit Go.Proofs.YtmidohjfajbpmaaW.PrintWords Go.Proofs.YtmidohjfajbpmaaW.PrintLast Go.Proofs.YtmidohjfajbpmaaW.PrintMore
attribute [local go_sem] max2_int min2_int max_two min_two max_three min_three max_four min_four   -- for this text's walks alone
set_option linter.unusedVariables false
set_option linter.unusedSimpArgs false

/-! ### skifflaw20_UploadAll: function 5 -/
mutual
def skifflaw20_UploadAll.l0 : Nat → ByteArray → Int → ByteArray → ByteArray → Int → Int → Int → Int → Int → Int → List (S68) → Option (Bool)
 | 0, _, _, _, _, _, _, _, _, _, _, _ => none
 | k + 1, x0, x4, x5, x8, x9, x634000, x634001, x634002, x634003, x634004, x634005 => if x9 < 12 then ((upload_Give.f k x0 x634000 x634001 x634002 x634003 x634004 x634005 x9 32).bind fun bt634 => ((skifflaw0_Num.f bt634.2.2.2.2.2.2.2).bind fun t645 => (if t645 = 0 then (if x4 = 0 then (if x8.size + bt634.2.2.2.2.2.2.1.size ≤ 9223372036854775807 then (if (bt634.2.2.2.2.2.2.1.size : Int) > 32 then (none) else (if (bt634.2.2.2.2.2.2.1.size : Int) < 32 then ((skifflaw0_SameDevice.f k bt634.1 bt634.2.1 bt634.2.2.1 bt634.2.2.2.1 bt634.2.2.2.2.1 bt634.2.2.2.2.2.1 0 0 0 0 0 ([] : List (S68))).bind fun t646 => (if t646 = true then (if (bt634.2.2.2.2.2.2.1.size : Int) = 32 then (skifflaw20_UploadAll.j1 k x0 x4 x5 (x8 ++ bt634.2.2.2.2.2.2.1) x9 bt634.2.2.2.2.2.2.1 (bt634.1 != 6) bt634.1 bt634.2.1 bt634.2.2.1 bt634.2.2.2.1 bt634.2.2.2.2.1 bt634.2.2.2.2.2.1) else (skifflaw20_UploadAll.j1 k x0 x4 x5 (x8 ++ bt634.2.2.2.2.2.2.1) x9 bt634.2.2.2.2.2.2.1 false bt634.1 bt634.2.1 bt634.2.2.1 bt634.2.2.2.1 bt634.2.2.2.2.1 bt634.2.2.2.2.2.1)) else (none))) else (if (bt634.2.2.2.2.2.2.1.size : Int) = 32 then (skifflaw20_UploadAll.j1 k x0 x4 x5 (x8 ++ bt634.2.2.2.2.2.2.1) x9 bt634.2.2.2.2.2.2.1 (bt634.1 != 6) bt634.1 bt634.2.1 bt634.2.2.1 bt634.2.2.2.1 bt634.2.2.2.2.1 bt634.2.2.2.2.2.1) else (skifflaw20_UploadAll.j1 k x0 x4 x5 (x8 ++ bt634.2.2.2.2.2.2.1) x9 bt634.2.2.2.2.2.2.1 false bt634.1 bt634.2.1 bt634.2.2.1 bt634.2.2.2.1 bt634.2.2.2.2.1 bt634.2.2.2.2.2.1)))) else (none)) else (if bt634.1 = 7 then (if bt634.2.1 = 2 then (some (bt634.2.2.2.2.2.2.1.toList == ([] : List UInt8))) else (none)) else (none))) else (some (x4 == 700))))) else (none)
def skifflaw20_UploadAll.j1 : Nat → ByteArray → Int → ByteArray → ByteArray → Int → ByteArray → Bool → Int → Int → Int → Int → Int → List (S68) → Option (Bool)
 | 0, _, _, _, _, _, _, _, _, _, _, _, _, _ => none
 | k + 1, x0, x4, x5, x8, x9, x11, x85, x645000, x645001, x645002, x645003, x645004, x645005 => if x85 = true then (none) else (if (x11.size : Int) < 32 then (some (x8.toList == x5.toList)) else (skifflaw20_UploadAll.l0 k x0 x4 x5 x8 (wrap64 (x9 + 1)) x645000 x645001 x645002 x645003 x645004 x645005))
end
def skifflaw20_UploadAll.f (k : Nat) (a0 : ByteArray) : Option (Bool) := (skifflaw20_awake.f k).bind fun t615 => (if t615 = true then ((skiffref1_Active.f k a0).bind fun bt616 => ((skiffref1_ImageOf.f a0 bt616.2.1 bt616.2.2.1 bt616.2.2.2.1 bt616.2.2.2.2.1).bind fun bt623 => ((skiffref16_NewDevice.f).bind fun bt625 => (skifflaw20_UploadAll.l0 k a0 bt616.2.2.2.2.2 bt623.1 (⟨#[]⟩ : ByteArray) 0 bt625.1 bt625.2.1 bt625.2.2.1 bt625.2.2.2.1 bt625.2.2.2.2.1 bt625.2.2.2.2.2)))) else (none))
set_option maxHeartbeats 8000000 in
set_option maxRecDepth 100000 in
theorem skifflaw20_UploadAll.calls (k : Nat) (a0 : ByteArray) (r : Bool) (w : World) (h : skifflaw20_UploadAll.f k a0 = some r) :
  Calls Try.prog 5 #[.string a0] w fun e w' => e = .returned (.bool r) ∧ Below w.heap.size w w' := by
 have hu43 := Try.underlying43
 have hu41 := Try.underlying41
 have hu24 := Try.underlying24
 have HB := Aside0.mk (Below.refl w.heap.size w)
 have H : ((skifflaw20_awake.f k).bind fun t615 => (if t615 = true then ((skiffref1_Active.f k a0).bind fun bt616 => ((skiffref1_ImageOf.f a0 bt616.2.1 bt616.2.2.1 bt616.2.2.2.1 bt616.2.2.2.2.1).bind fun bt623 => ((skiffref16_NewDevice.f).bind fun bt625 => (skifflaw20_UploadAll.l0 k a0 bt616.2.2.2.2.2 bt623.1 (⟨#[]⟩ : ByteArray) 0 bt625.1 bt625.2.1 bt625.2.2.1 bt625.2.2.2.1 bt625.2.2.2.2.1 bt625.2.2.2.2.2)))) else (none))) = some r := h
 clear h
 replace H := Option.bind_eq_some_iff.mp H
 obtain ⟨t615, A20, H⟩ := H
 replace H : (if t615 = true then ((skiffref1_Active.f k a0).bind fun bt616 => ((skiffref1_ImageOf.f a0 bt616.2.1 bt616.2.2.1 bt616.2.2.2.1 bt616.2.2.2.2.1).bind fun bt623 => ((skiffref16_NewDevice.f).bind fun bt625 => (skifflaw20_UploadAll.l0 k a0 bt616.2.2.2.2.2 bt623.1 (⟨#[]⟩ : ByteArray) 0 bt625.1 bt625.2.1 bt625.2.2.1 bt625.2.2.2.1 bt625.2.2.2.2.1 bt625.2.2.2.2.2)))) else (none)) = some r := H
 have A2 := Aside0.mk A20
 clear A20
 by_cases c3 : t615 = true
 case neg =>
  replace c3 := Bool.eq_false_iff.mpr c3
  subst c3
  have H1 : (none) = some r := by rw [if_neg (show ¬ (false = true) by decide)] at H; exact H
  clear H; have H := H1; clear H1
  exact absurd H (by simp)
 subst c3
 have H1 : ((skiffref1_Active.f k a0).bind fun bt616 => ((skiffref1_ImageOf.f a0 bt616.2.1 bt616.2.2.1 bt616.2.2.2.1 bt616.2.2.2.2.1).bind fun bt623 => ((skiffref16_NewDevice.f).bind fun bt625 => (skifflaw20_UploadAll.l0 k a0 bt616.2.2.2.2.2 bt623.1 (⟨#[]⟩ : ByteArray) 0 bt625.1 bt625.2.1 bt625.2.2.1 bt625.2.2.2.1 bt625.2.2.2.2.1 bt625.2.2.2.2.2)))) = some r := by rw [if_pos rfl] at H; exact H
 clear H; have H := H1; clear H1
 replace H := Option.bind_eq_some_iff.mp H
 obtain ⟨⟨t616, t617, t618, t619, t620, t621⟩, A40, H⟩ := H
 replace H : ((skiffref1_ImageOf.f a0 t617 t618 t619 t620).bind fun bt623 => ((skiffref16_NewDevice.f).bind fun bt625 => (skifflaw20_UploadAll.l0 k a0 t621 bt623.1 (⟨#[]⟩ : ByteArray) 0 bt625.1 bt625.2.1 bt625.2.2.1 bt625.2.2.2.1 bt625.2.2.2.2.1 bt625.2.2.2.2.2))) = some r := H
 have A4 := Aside0.mk A40
 clear A40
 replace H := Option.bind_eq_some_iff.mp H
 obtain ⟨⟨t623, t624⟩, A50, H⟩ := H
 replace H : ((skiffref16_NewDevice.f).bind fun bt625 => (skifflaw20_UploadAll.l0 k a0 t621 t623 (⟨#[]⟩ : ByteArray) 0 bt625.1 bt625.2.1 bt625.2.2.1 bt625.2.2.2.1 bt625.2.2.2.2.1 bt625.2.2.2.2.2)) = some r := H
 have A5 := Aside0.mk A50
 clear A50
 replace H := Option.bind_eq_some_iff.mp H
 obtain ⟨⟨t625, t626, t627, t628, t629, t630⟩, A60, H⟩ := H
 replace H : (skifflaw20_UploadAll.l0 k a0 t621 t623 (⟨#[]⟩ : ByteArray) 0 t625 t626 t627 t628 t629 t630) = some r := H
 have A6 := Aside0.mk A60
 clear A60
 have H' := Aside0.mk H
 clear H
 go_enter Try.func5, Try.ntmps5
 go_wp2_with (first | ((with_reducible refine gate_callee (f := 15) rfl ?_); refine goesL_ (some 13) rfl rfl Try.func15 (by kernel_rfl) rfl #[] rfl ka ?_; (with_reducible refine (skifflaw20_awake.calls k  true _ A2.out).mono ?_); rintro e w7 ⟨rfl, hb⟩; refine ⟨_, rfl, ?_⟩; have n0_ := Aside0.mk (below_step (kb HB.out) hb); clear HB; have HB := n0_; clear n0_; (try clear hb); (try clear hb2); (try clear hk); (try clear hi)) | ((with_reducible refine gate_callee (f := 17) rfl ?_); refine goesL_ (some 17) rfl rfl Try.func17 (by kernel_rfl) rfl #[.string a0] rfl ka ?_; (with_reducible refine (skiffref1_Active.calls k a0 t616 t617 t618 t619 t620 t621 _ A4.out).mono ?_); rintro e w8 ⟨rfl, hb⟩; refine ⟨_, rfl, ?_⟩; have n0_ := Aside0.mk (below_step (kb HB.out) hb); clear HB; have HB := n0_; clear n0_; (try clear hb); (try clear hb2); (try clear hk); (try clear hi)) | ((with_reducible refine gate_dst (N := 3) rfl ?_); (try (refine gate_guard (by rfl) ?_; dsimp only)); refine box_event ?hg (N := 3) ?hd (cs := #[.int .i64 0, .int .i64 0, .int .i64 0, .int .i64 0, .int .i64 0]) (t := 43) ?hr ?_; (case hd => rfl); (case hg => rfl); (case hr => first | (go_simp; done) | (go_simp; rfl)); intro gb622 hg w9 hbox hb; have n0_ := Aside0.mk (below_step (kb HB.out) hb); have n1_ := Aside0.mk (hbox); have n2_ := Aside0.mk ((kz hg (below_size (kb HB.out)) : w.heap.size ≤ gb622)); have n3_ := Aside0.mk ((kz hg (below_size (kb HB.out)) : w.heap.size ≤ gb622)); clear HB; have HB := n0_; have BK622 := n1_; have GW622 := n2_; have GE622 := n3_; clear n0_ n1_ n2_ n3_; clear hb hbox hg; obtain ⟨hcz10_0, hcz10_1, hcz10_2, hcz10_3, hcz10_4⟩ := kc5 BK622.out; obtain ⟨hfz10_0, hfz10_1, hfz10_2, hfz10_3, hfz10_4⟩ := kf5 BK622.out) | ((with_reducible refine gate_callee (f := 18) rfl ?_); refine goesL_ (some 24) rfl rfl Try.func18 (by kernel_rfl) rfl #[.string a0, .agg #[.int .i64 t617, .int .i64 t618, .int .i64 t619, .int .i64 t620]] rfl ka ?_; (with_reducible refine (skiffref1_ImageOf.calls a0 t617 t618 t619 t620 t623 t624 _ A5.out).mono ?_); rintro e w11 ⟨rfl, hb⟩; refine ⟨_, rfl, ?_⟩; have n0_ := Aside0.mk (blk_below (g := gb622) (o := .cells #[.int .i64 t616, .int .i64 t617, .int .i64 t618, .int .i64 t619, .int .i64 t620] 43 (0, 0)) (kP5 BK622.out) hb); have n1_ := Aside0.mk (below_step (kb1 HB.out GE622.out) hb); clear BK622; clear HB; have BK622 := n0_; have HB := n1_; clear n0_ n1_; (try clear hb); (try clear hb2); (try clear hk); (try clear hi)) | ((with_reducible refine gate_callee (f := 19) rfl ?_); refine goesL_ (some 27) rfl rfl Try.func19 (by kernel_rfl) rfl #[] rfl ka ?_; (with_reducible refine (skiffref16_NewDevice.calls  t625 t626 t627 t628 t629 t630 _ A6.out).mono ?_); rintro e w12 ⟨v631, rfl, ho0, hb⟩; refine ⟨_, rfl, ?_⟩; have n0_ := Aside0.mk (Kd.R_lower ho0 (below_size (kb1 HB.out GE622.out))); have n1_ := Aside0.mk (kL BK622.out hb); have n2_ := Aside0.mk (below_step (kb1 HB.out GE622.out) hb); clear BK622; clear HB; have HO632 := n0_; have BK622 := n1_; have HB := n2_; clear n0_ n1_ n2_; (try clear hb); (try clear hb2); (try clear hk); (try clear hi); (try clear ho0)) | ((with_reducible refine gate_dst (N := 7) rfl ?_); (try (refine gate_guard (by rfl) ?_; dsimp only)); refine box_event ?hg (N := 7) ?hd (cs := #[.int .i64 0, .int .i64 0, .int .i64 0, .int .i64 0, .int .i64 0, .slice none 0 0]) (t := 24) ?hr ?_; (case hd => rfl); (case hg => rfl); (case hr => first | (go_simp; done) | (go_simp; rfl)); intro gb633 hg w13 hbox hb; have n0_ := Aside0.mk (Kd.R_below (kR HO632.out) hb); have n1_ := Aside0.mk (kL BK622.out hb); have n2_ := Aside0.mk (below_step (kb1 HB.out GE622.out) hb); have n3_ := Aside0.mk (hbox); have n4_ := Aside0.mk ((kz hg (below_size (kb1 HB.out GE622.out)) : w.heap.size ≤ gb633)); have n5_ := Aside0.mk ((kz hg (below_size (kb1 HB.out GE622.out)) : w.heap.size ≤ gb633)); have n6_ := Aside0.mk ((kN hg BK622.out : gb622 ≠ gb633)); have n7_ := Aside0.mk (((kN hg BK622.out).symm : gb633 ≠ gb622)); clear HO632; clear BK622; clear HB; have HO632 := n0_; have BK622 := n1_; have HB := n2_; have BK633 := n3_; have GW633 := n4_; have GE633 := n5_; have NB622_633 := n6_; have NB633_622 := n7_; clear n0_ n1_ n2_ n3_ n4_ n5_ n6_ n7_; clear hb hbox hg; have hnb14 := NB633_622.out; have hnc14 := NB622_633.out; obtain ⟨hcz15_0, hcz15_1, hcz15_2, hcz15_3, hcz15_4, hcz15_5⟩ := kc6 BK633.out; obtain ⟨hfz15_0, hfz15_1, hfz15_2, hfz15_3, hfz15_4, hfz15_5⟩ := kf6 BK633.out; obtain ⟨Ao16, co16, eo16⟩ := Kd.R_slice HO632.out; subst eo16))
 go_loopg [8, 9] k (fun kq v8 v9 w' => ∃ (x8_1 : ByteArray) (x9_1 : Int) (x634000_1 : Int) (x634001_1 : Int) (x634002_1 : Int) (x634003_1 : Int) (x634004_1 : Int) (x634005_1 : List (S68)) (u634005 : Value), v8 = .string x8_1 ∧ v9 = .int .i64 x9_1 ∧ Aside0 (skifflaw20_UploadAll.l0 kq a0 t621 t623 x8_1 x9_1 x634000_1 x634001_1 x634002_1 x634003_1 x634004_1 x634005_1 = some r) ∧ Aside0 (kq ≤ k) ∧ Aside0 (Kd.R k68 68 w' w.heap.size (fun _ => True) u634005 x634005_1) ∧ Aside0 (w'.heap[gb622]? = some (.cells #[.int .i64 t616, .int .i64 t617, .int .i64 t618, .int .i64 t619, .int .i64 t620] 43 (0, 0))) ∧ Aside0 (w'.heap[gb633]? = some (.cells #[.int .i64 x634000_1, .int .i64 x634001_1, .int .i64 x634002_1, .int .i64 x634003_1, .int .i64 x634004_1, u634005] 24 (0, 0))) ∧ Aside0 (Below w.heap.size w w'))
 case atStart => exact ⟨((⟨#[]⟩ : ByteArray)), (0), (t625), (t626), (t627), (t628), (t629), (t630), (.slice Ao16 t630.length co16), (by first | rfl | (simp; done) | (simp [*]; done)), (by first | rfl | (simp; done) | (simp [*]; done)), H', ⟨Nat.le_refl _⟩, ⟨by (with_reducible repeat (first | apply Kd.R_alloc | apply Kd.R_drewN | apply Kd.R_drew)); exact Kd.R_mono (Kd.R_far (p := ⟨gb633, 5, none⟩) (Kd.R_far (p := ⟨gb633, 4, none⟩) (Kd.R_far (p := ⟨gb633, 3, none⟩) (Kd.R_far (p := ⟨gb633, 2, none⟩) (Kd.R_far (p := ⟨gb633, 1, none⟩) (Kd.R_far (p := ⟨gb633, 0, none⟩) (Kd.R_types HO632.out BK633.out (by decide)) (fun _ hk => hk.2) (.int .i64 t625)) (fun _ hk => hk.2) (.int .i64 t626)) (fun _ hk => hk.2) (.int .i64 t627)) (fun _ hk => hk.2) (.int .i64 t628)) (fun _ hk => hk.2) (.int .i64 t629)) (fun _ hk => hk.2) (.slice Ao16 t630.length co16)) (fun _ hk => trivial)⟩, ⟨kFa6 BK622.out NB622_633.out⟩, ⟨kP6 BK633.out⟩, ⟨kb2 HB.out GE622.out GE633.out⟩⟩
 case round =>
  clear H'
  try clear c1; try clear p2; try clear c3; try clear c5; try clear c14; try clear c15; try clear hcz10_0; try clear hcz10_1; try clear hcz10_2; try clear hcz10_3; try clear hcz10_4; try clear hcz15_0; try clear hcz15_1; try clear hcz15_2; try clear hcz15_3; try clear hcz15_4; try clear hcz15_5; try clear hfz10_0; try clear hfz10_1; try clear hfz10_2; try clear hfz10_3; try clear hfz10_4; try clear hfz15_0; try clear hfz15_1; try clear hfz15_2; try clear hfz15_3; try clear hfz15_4; try clear hfz15_5
  obtain ⟨x8_1, x9_1, x634000_1, x634001_1, x634002_1, x634003_1, x634004_1, x634005_1, u634005, rfl, rfl, HA, HK1, HO_634005, BK622, BK633, HB⟩ := hrel
  cases gk with
  | zero => exact absurd HA.out (by simp [skifflaw20_UploadAll.l0])
  | succ k1 =>
   have H := HA.out
   clear HA
   simp only [skifflaw20_UploadAll.l0] at H
   by_cases c17 : x9_1 < 12
   case neg =>
    rw [if_neg c17] at H
    exact absurd H (by simp)
   rw [if_pos c17] at H
   have c17b0 : decide (x9_1 < 12) = true := decide_eq_true c17
   clear c17
   replace H := Option.bind_eq_some_iff.mp H
   obtain ⟨⟨t634, t635, t636, t637, t638, t639, t642, t643⟩, A180, H⟩ := H
   replace H : ((skifflaw0_Num.f t643).bind fun t645 => (if t645 = 0 then (if t621 = 0 then (if x8_1.size + t642.size ≤ 9223372036854775807 then (if (t642.size : Int) > 32 then (none) else (if (t642.size : Int) < 32 then ((skifflaw0_SameDevice.f k1 t634 t635 t636 t637 t638 t639 0 0 0 0 0 ([] : List (S68))).bind fun t646 => (if t646 = true then (if (t642.size : Int) = 32 then (skifflaw20_UploadAll.j1 k1 a0 t621 t623 (x8_1 ++ t642) x9_1 t642 (t634 != 6) t634 t635 t636 t637 t638 t639) else (skifflaw20_UploadAll.j1 k1 a0 t621 t623 (x8_1 ++ t642) x9_1 t642 false t634 t635 t636 t637 t638 t639)) else (none))) else (if (t642.size : Int) = 32 then (skifflaw20_UploadAll.j1 k1 a0 t621 t623 (x8_1 ++ t642) x9_1 t642 (t634 != 6) t634 t635 t636 t637 t638 t639) else (skifflaw20_UploadAll.j1 k1 a0 t621 t623 (x8_1 ++ t642) x9_1 t642 false t634 t635 t636 t637 t638 t639)))) else (none)) else (if t634 = 7 then (if t635 = 2 then (some (t642.toList == ([] : List UInt8))) else (none)) else (none))) else (some (t621 == 700)))) = some r := H
   have A18 := Aside0.mk A180
   clear A180
   replace H := Option.bind_eq_some_iff.mp H
   obtain ⟨t645, A190, H⟩ := H
   replace H : (if t645 = 0 then (if t621 = 0 then (if x8_1.size + t642.size ≤ 9223372036854775807 then (if (t642.size : Int) > 32 then (none) else (if (t642.size : Int) < 32 then ((skifflaw0_SameDevice.f k1 t634 t635 t636 t637 t638 t639 0 0 0 0 0 ([] : List (S68))).bind fun t646 => (if t646 = true then (if (t642.size : Int) = 32 then (skifflaw20_UploadAll.j1 k1 a0 t621 t623 (x8_1 ++ t642) x9_1 t642 (t634 != 6) t634 t635 t636 t637 t638 t639) else (skifflaw20_UploadAll.j1 k1 a0 t621 t623 (x8_1 ++ t642) x9_1 t642 false t634 t635 t636 t637 t638 t639)) else (none))) else (if (t642.size : Int) = 32 then (skifflaw20_UploadAll.j1 k1 a0 t621 t623 (x8_1 ++ t642) x9_1 t642 (t634 != 6) t634 t635 t636 t637 t638 t639) else (skifflaw20_UploadAll.j1 k1 a0 t621 t623 (x8_1 ++ t642) x9_1 t642 false t634 t635 t636 t637 t638 t639)))) else (none)) else (if t634 = 7 then (if t635 = 2 then (some (t642.toList == ([] : List UInt8))) else (none)) else (none))) else (some (t621 == 700))) = some r := H
   have A19 := Aside0.mk A190
   clear A190
   by_cases c20 : t645 = 0
   ·rw [if_pos c20] at H
    have c20b0 : (t645 == 0) = true := beq_iff_eq.mpr c20
    have c20b1 : (t645 != 0) = false := bne_eq_false_iff_eq.mpr c20
    clear c20
    by_cases c21 : t621 = 0
    ·rw [if_pos c21] at H
     have c21b0 : (t621 == 0) = true := beq_iff_eq.mpr c21
     have c21b1 : (t621 != 0) = false := bne_eq_false_iff_eq.mpr c21
     clear c21
     by_cases c22 : x8_1.size + t642.size ≤ 9223372036854775807
     case neg =>
      rw [if_neg c22] at H
      exact absurd H (by simp)
     rw [if_pos c22] at H
     have c22b0 := eq_true c22
     have c22b1 : decide (x8_1.size + t642.size ≤ 9223372036854775807) = true := decide_eq_true c22
     try have c22b2 : (9223372036854775807 < x8_1.size + t642.size) = False := eq_false (Nat.not_lt.2 c22)
     have HC23 := Aside0.mk H
     clear H
     have hnb24 := NB633_622.out
     have hnc24 := NB622_633.out
     obtain ⟨hcz25_0, hcz25_1, hcz25_2, hcz25_3, hcz25_4, hcz25_5⟩ := kc6 BK633.out
     obtain ⟨hfz25_0, hfz25_1, hfz25_2, hfz25_3, hfz25_4, hfz25_5⟩ := kf6 BK633.out
     obtain ⟨Ao26, co26, eo26⟩ := Kd.R_slice HO_634005.out
     subst eo26
     go_upto_region 16 with (first | ((with_reducible refine gate_callee (f := 10) rfl ?_); refine goesL_ (some 36) rfl rfl Try.func10 (by kernel_rfl) rfl #[.string a0, .agg #[.int .i64 x634000_1, .int .i64 x634001_1, .int .i64 x634002_1, .int .i64 x634003_1, .int .i64 x634004_1, .slice Ao26 x634005_1.length co26], .int .i64 x9_1, .int .i64 32] rfl ka ?_; (with_reducible refine (upload_Give.calls k1 a0 x634000_1 x634001_1 x634002_1 x634003_1 x634004_1 _ _ x634005_1 x9_1 32 t634 t635 t636 t637 t638 t639 t642 t643 _ ?side1 ?side2 A18.out).mono ?_); (case side1 => repeat (first | exact (Kd.R_reads' HO_634005.out).2.2 | (with_reducible refine Kd.C_alloc ?_ _) | (with_reducible refine Kd.C_drewN ?_ _) | (with_reducible refine Kd.C_drew ?_))); (case side2 => exact (Kd.R_reads' HO_634005.out).2.1); rintro e w27 ⟨v640, rfl, ho0, hb⟩; refine ⟨_, rfl, ?_⟩; have n0_ := Aside0.mk (Kd.R_elder' (kR HO_634005.out) (Kd.R_base ho0) hb); have n1_ := Aside0.mk (Kd.R_lower (Kd.R_new' ho0 (Kd.R_lt (kR HO_634005.out))) (below_size (kb2 HB.out GE622.out GE633.out))); have n2_ := Aside0.mk (kL BK622.out hb); have n3_ := Aside0.mk (kL BK633.out hb); have n4_ := Aside0.mk (below_step (kb2 HB.out GE622.out GE633.out) hb); clear HO_634005; clear BK622; clear BK633; clear HB; have HO_634005 := n0_; have HO641 := n1_; have BK622 := n2_; have BK633 := n3_; have HB := n4_; clear n0_ n1_ n2_ n3_ n4_; (try clear hb); (try clear hb2); (try clear hk); (try clear hi); (try clear ho0)) | ((with_reducible refine gate_dst (N := 10) rfl ?_); (try (refine gate_guard (by rfl) ?_; dsimp only)); refine box_event ?hg (N := 10) ?hd (cs := #[.int .i64 0, .int .i64 0, .int .i64 0, .int .i64 0, .int .i64 0, .slice none 0 0]) (t := 24) ?hr ?_; (case hd => rfl); (case hg => rfl); (case hr => first | (go_simp; done) | (go_simp; rfl)); intro gb644 hg w28 hbox hb; have n0_ := Aside0.mk (Kd.R_below (kR HO_634005.out) hb); have n1_ := Aside0.mk (Kd.R_below (kR HO641.out) hb); have n2_ := Aside0.mk (kL BK622.out hb); have n3_ := Aside0.mk (kL BK633.out hb); have n4_ := Aside0.mk (below_step (kb2 HB.out GE622.out GE633.out) hb); have n5_ := Aside0.mk (hbox); have n6_ := Aside0.mk ((kz hg (below_size (kb2 HB.out GE622.out GE633.out)) : w.heap.size ≤ gb644)); have n7_ := Aside0.mk ((kz hg (below_size (kb2 HB.out GE622.out GE633.out)) : w.heap.size ≤ gb644)); have n8_ := Aside0.mk ((kN hg BK622.out : gb622 ≠ gb644)); have n9_ := Aside0.mk (((kN hg BK622.out).symm : gb644 ≠ gb622)); have n10_ := Aside0.mk ((kN hg BK633.out : gb633 ≠ gb644)); have n11_ := Aside0.mk (((kN hg BK633.out).symm : gb644 ≠ gb633)); clear HO_634005; clear HO641; clear BK622; clear BK633; clear HB; have HO_634005 := n0_; have HO641 := n1_; have BK622 := n2_; have BK633 := n3_; have HB := n4_; have BK644 := n5_; have GW644 := n6_; have GE644 := n7_; have NB622_644 := n8_; have NB644_622 := n9_; have NB633_644 := n10_; have NB644_633 := n11_; clear n0_ n1_ n2_ n3_ n4_ n5_ n6_ n7_ n8_ n9_ n10_ n11_; clear hb hbox hg; have hnb29 := NB644_622.out; have hnc29 := NB622_644.out; have hnb30 := NB644_633.out; have hnc30 := NB633_644.out; obtain ⟨hcz31_0, hcz31_1, hcz31_2, hcz31_3, hcz31_4, hcz31_5⟩ := kc6 BK644.out; obtain ⟨hfz31_0, hfz31_1, hfz31_2, hfz31_3, hfz31_4, hfz31_5⟩ := kf6 BK644.out; obtain ⟨Ao32, co32, eo32⟩ := Kd.R_slice HO641.out; subst eo32) | ((with_reducible refine gate_callee (f := 13) rfl ?_); refine goesL_ (some 41) rfl rfl Try.func13 (by kernel_rfl) rfl #[.int .i64 t643] rfl ka ?_; (with_reducible refine (skifflaw0_Num.calls t643 t645 _ A19.out).mono ?_); rintro e w' ⟨rfl, ⟨nd, rfl⟩⟩; refine ⟨_, rfl, ?_⟩))
     (try simp only [Act.put, List.setIfInBounds_toArray, List.set_cons_zero, List.set_cons_succ])
     go_cut [85] (fun v85 wc => ∃ (kq : Nat) (x85_22 : Bool), v85 = .bool x85_22 ∧ Aside0 (skifflaw20_UploadAll.j1 kq a0 t621 t623 (x8_1 ++ t642) x9_1 t642 x85_22 t634 t635 t636 t637 t638 t639 = some r) ∧ Aside0 (kq ≤ k1) ∧ Aside0 (Kd.R k68 68 wc w.heap.size (fun k_ => some k_ ≠ ((.slice Ao32 t639.length co32) : Value).ownBlock) (.slice Ao26 x634005_1.length co26) x634005_1) ∧ Aside0 (Kd.R k68 68 wc w.heap.size (fun k_ => some k_ ≠ ((.slice Ao26 x634005_1.length co26) : Value).ownBlock) (.slice Ao32 t639.length co32) t639) ∧ Aside0 (wc.heap[gb622]? = some (.cells #[.int .i64 t616, .int .i64 t617, .int .i64 t618, .int .i64 t619, .int .i64 t620] 43 (0, 0))) ∧ Aside0 (wc.heap[gb633]? = some (.cells #[.int .i64 x634000_1, .int .i64 x634001_1, .int .i64 x634002_1, .int .i64 x634003_1, .int .i64 x634004_1, (.slice Ao26 x634005_1.length co26)] 24 (0, 0))) ∧ Aside0 (wc.heap[gb644]? = some (.cells #[.int .i64 t634, .int .i64 t635, .int .i64 t636, .int .i64 t637, .int .i64 t638, (.slice Ao32 t639.length co32)] 24 (0, 0))) ∧ Aside0 (Below w.heap.size w wc))
     case first =>
      have H := HC23.out
      clear HC23
      by_cases c33 : (t642.size : Int) > 32
      ·rw [if_pos c33] at H
       exact absurd H (by simp)
      ·rw [if_neg c33] at H
       have c33b0 : decide (32 < (t642.size : Int)) = false := decide_eq_false c33
       have c33b1 : decide (32 < t642.size) = false := decide_eq_false (by omega)
       clear c33
       (first | rw [c33b0] | rw [c33b1] | (simp only [i64_w, i32_w]; rw [c33b0]) | skip)
       by_cases c34 : (t642.size : Int) < 32
       ·rw [if_pos c34] at H
        have c34b0 : decide ((t642.size : Int) < 32) = true := decide_eq_true c34
        have c34b1 : decide (t642.size < 32) = true := decide_eq_true (by omega)
        clear c34
        replace H := Option.bind_eq_some_iff.mp H
        obtain ⟨t646, A350, H⟩ := H
        replace H : (if t646 = true then (if (t642.size : Int) = 32 then (skifflaw20_UploadAll.j1 k1 a0 t621 t623 (x8_1 ++ t642) x9_1 t642 (t634 != 6) t634 t635 t636 t637 t638 t639) else (skifflaw20_UploadAll.j1 k1 a0 t621 t623 (x8_1 ++ t642) x9_1 t642 false t634 t635 t636 t637 t638 t639)) else (none)) = some r := H
        have A35 := Aside0.mk A350
        clear A350
        by_cases c36 : t646 = true
        case neg =>
         replace c36 := Bool.eq_false_iff.mpr c36
         subst c36
         have H1 : (none) = some r := by rw [if_neg (show ¬ (false = true) by decide)] at H; exact H
         clear H; have H := H1; clear H1
         exact absurd H (by simp)
        subst c36
        have H1 : (if (t642.size : Int) = 32 then (skifflaw20_UploadAll.j1 k1 a0 t621 t623 (x8_1 ++ t642) x9_1 t642 (t634 != 6) t634 t635 t636 t637 t638 t639) else (skifflaw20_UploadAll.j1 k1 a0 t621 t623 (x8_1 ++ t642) x9_1 t642 false t634 t635 t636 t637 t638 t639)) = some r := by rw [if_pos rfl] at H; exact H
        clear H; have H := H1; clear H1
        by_cases c37 : (t642.size : Int) = 32
        ·rw [if_pos c37] at H
         have c37b0 : ((t642.size : Int) == 32) = true := beq_iff_eq.mpr c37
         have c37b1 : ((t642.size : Int) != 32) = false := bne_eq_false_iff_eq.mpr c37
         clear c37
         have H' := Aside0.mk H
         clear H
         have hnb38 := NB644_622.out
         have hnc38 := NB622_644.out
         have hnb39 := NB644_633.out
         have hnc39 := NB633_644.out
         obtain ⟨hcz40_0, hcz40_1, hcz40_2, hcz40_3, hcz40_4, hcz40_5⟩ := kc6 BK644.out
         obtain ⟨hfz40_0, hfz40_1, hfz40_2, hfz40_3, hfz40_4, hfz40_5⟩ := kf6 BK644.out
         go_wp2_with (first | (go_at_call 12; (refine (skifflaw0_SameDevice.calls k1 t634 t635 t636 t637 t638 _ _ t639 0 0 0 0 0 _ _ ([] : List (S68)) true _ ?side1 ?side2 ?side3 ?side4 A35.out).mono ?_); (case side1 => refine (Kd.R_reads' (e := 68) (base := w.heap.size) (ok := fun k_ => (True ∧ some k_ ≠ (.slice Ao26 x634005_1.length co26 : Value).ownBlock)) (n := t639.length) (c := co32) ?_).2.2; exact (by (with_reducible repeat (first | apply Kd.R_alloc | apply Kd.R_drewN | apply Kd.R_drew)); exact (Kd.R_mono (Kd.R_far (p := ⟨gb644, 5, none⟩) (Kd.R_far (p := ⟨gb644, 4, none⟩) (Kd.R_far (p := ⟨gb644, 3, none⟩) (Kd.R_far (p := ⟨gb644, 2, none⟩) (Kd.R_far (p := ⟨gb644, 1, none⟩) (Kd.R_far (p := ⟨gb644, 0, none⟩) (Kd.R_types HO641.out BK644.out (by decide)) (fun _ hk => hk.2) (.int .i64 t634)) (fun _ hk => hk.2) (.int .i64 t635)) (fun _ hk => hk.2) (.int .i64 t636)) (fun _ hk => hk.2) (.int .i64 t637)) (fun _ hk => hk.2) (.int .i64 t638)) (fun _ hk => hk.2) (.slice Ao32 t639.length co32)) (fun _ h_ => h_.1)))); (case side2 => exact (Kd.R_reads' HO641.out).2.1); (case side3 => exact Kd.C_nil _ _); (case side4 => exact Nat.le_refl _); rintro e w41 ⟨rfl, hb⟩; have n0_ := Aside0.mk (Kd.R_below (by (with_reducible repeat (first | apply Kd.R_alloc | apply Kd.R_drewN | apply Kd.R_drew)); exact (Kd.R_mono (Kd.R_far (p := ⟨gb644, 5, none⟩) (Kd.R_far (p := ⟨gb644, 4, none⟩) (Kd.R_far (p := ⟨gb644, 3, none⟩) (Kd.R_far (p := ⟨gb644, 2, none⟩) (Kd.R_far (p := ⟨gb644, 1, none⟩) (Kd.R_far (p := ⟨gb644, 0, none⟩) (Kd.R_types HO_634005.out BK644.out (by decide)) (fun _ hk => hk.2) (.int .i64 t634)) (fun _ hk => hk.2) (.int .i64 t635)) (fun _ hk => hk.2) (.int .i64 t636)) (fun _ hk => hk.2) (.int .i64 t637)) (fun _ hk => hk.2) (.int .i64 t638)) (fun _ hk => hk.2) (.slice Ao32 t639.length co32)) (fun _ h_ => h_.1))) hb); have n1_ := Aside0.mk (Kd.R_below (by (with_reducible repeat (first | apply Kd.R_alloc | apply Kd.R_drewN | apply Kd.R_drew)); exact (Kd.R_mono (Kd.R_far (p := ⟨gb644, 5, none⟩) (Kd.R_far (p := ⟨gb644, 4, none⟩) (Kd.R_far (p := ⟨gb644, 3, none⟩) (Kd.R_far (p := ⟨gb644, 2, none⟩) (Kd.R_far (p := ⟨gb644, 1, none⟩) (Kd.R_far (p := ⟨gb644, 0, none⟩) (Kd.R_types HO641.out BK644.out (by decide)) (fun _ hk => hk.2) (.int .i64 t634)) (fun _ hk => hk.2) (.int .i64 t635)) (fun _ hk => hk.2) (.int .i64 t636)) (fun _ hk => hk.2) (.int .i64 t637)) (fun _ hk => hk.2) (.int .i64 t638)) (fun _ hk => hk.2) (.slice Ao32 t639.length co32)) (fun _ h_ => h_.1))) hb); have n2_ := Aside0.mk (blk_below (g := gb622) (o := .cells #[.int .i64 t616, .int .i64 t617, .int .i64 t618, .int .i64 t619, .int .i64 t620] 43 (0, 0)) (kFa6 BK622.out NB622_644.out) hb); have n3_ := Aside0.mk (blk_below (g := gb633) (o := .cells #[.int .i64 x634000_1, .int .i64 x634001_1, .int .i64 x634002_1, .int .i64 x634003_1, .int .i64 x634004_1, .slice Ao26 x634005_1.length co26] 24 (0, 0)) (kFa6 BK633.out NB633_644.out) hb); have n4_ := Aside0.mk (blk_below (g := gb644) (o := .cells #[.int .i64 t634, .int .i64 t635, .int .i64 t636, .int .i64 t637, .int .i64 t638, .slice Ao32 t639.length co32] 24 (0, 0)) (kP6 BK644.out) hb); have n5_ := Aside0.mk (below_step (kb3 HB.out GE622.out GE633.out GE644.out) hb); clear HO_634005; clear HO641; clear BK622; clear BK633; clear BK644; clear HB; have HO_634005 := n0_; have HO641 := n1_; have BK622 := n2_; have BK633 := n3_; have BK644 := n4_; have HB := n5_; clear n0_ n1_ n2_ n3_ n4_ n5_; (try clear hb); (try clear hb2); (try clear hk); (try clear hi); obtain ⟨hcz42_0, hcz42_1, hcz42_2, hcz42_3, hcz42_4, hcz42_5⟩ := kc6 BK644.out; obtain ⟨hfz42_0, hfz42_1, hfz42_2, hfz42_3, hfz42_4, hfz42_5⟩ := kf6 BK644.out))
         go_meet
         case rel => exact ⟨_, ((t634 != 6)), (by first | rfl | (simp; done) | (simp [*]; done)), H', ⟨by have := HK1.out; first | omega | exact Nat.le_refl _⟩, ⟨by (with_reducible repeat (first | apply Kd.R_alloc | apply Kd.R_drewN | apply Kd.R_drew)); exact Kd.R_mono HO_634005.out (fun _ hk => hk.2)⟩, ⟨by (with_reducible repeat (first | apply Kd.R_alloc | apply Kd.R_drewN | apply Kd.R_drew)); exact Kd.R_mono HO641.out (fun _ hk => hk.2)⟩, ⟨kB BK622.out⟩, ⟨kB BK633.out⟩, ⟨kB BK644.out⟩, ⟨kb3 HB.out GE622.out GE633.out GE644.out⟩⟩
        ·rw [if_neg c37] at H
         have c37b0 : ((t642.size : Int) == 32) = false := beq_eq_false_iff_ne.mpr c37
         have c37b1 : ((t642.size : Int) != 32) = true := bne_iff_ne.mpr c37
         have H' := Aside0.mk H
         clear H
         have hnb43 := NB644_622.out
         have hnc43 := NB622_644.out
         have hnb44 := NB644_633.out
         have hnc44 := NB633_644.out
         obtain ⟨hcz45_0, hcz45_1, hcz45_2, hcz45_3, hcz45_4, hcz45_5⟩ := kc6 BK644.out
         obtain ⟨hfz45_0, hfz45_1, hfz45_2, hfz45_3, hfz45_4, hfz45_5⟩ := kf6 BK644.out
         go_wp2_with (first | (go_at_call 12; (refine (skifflaw0_SameDevice.calls k1 t634 t635 t636 t637 t638 _ _ t639 0 0 0 0 0 _ _ ([] : List (S68)) true _ ?side1 ?side2 ?side3 ?side4 A35.out).mono ?_); (case side1 => refine (Kd.R_reads' (e := 68) (base := w.heap.size) (ok := fun k_ => (True ∧ some k_ ≠ (.slice Ao26 x634005_1.length co26 : Value).ownBlock)) (n := t639.length) (c := co32) ?_).2.2; exact (by (with_reducible repeat (first | apply Kd.R_alloc | apply Kd.R_drewN | apply Kd.R_drew)); exact (Kd.R_mono (Kd.R_far (p := ⟨gb644, 5, none⟩) (Kd.R_far (p := ⟨gb644, 4, none⟩) (Kd.R_far (p := ⟨gb644, 3, none⟩) (Kd.R_far (p := ⟨gb644, 2, none⟩) (Kd.R_far (p := ⟨gb644, 1, none⟩) (Kd.R_far (p := ⟨gb644, 0, none⟩) (Kd.R_types HO641.out BK644.out (by decide)) (fun _ hk => hk.2) (.int .i64 t634)) (fun _ hk => hk.2) (.int .i64 t635)) (fun _ hk => hk.2) (.int .i64 t636)) (fun _ hk => hk.2) (.int .i64 t637)) (fun _ hk => hk.2) (.int .i64 t638)) (fun _ hk => hk.2) (.slice Ao32 t639.length co32)) (fun _ h_ => h_.1)))); (case side2 => exact (Kd.R_reads' HO641.out).2.1); (case side3 => exact Kd.C_nil _ _); (case side4 => exact Nat.le_refl _); rintro e w46 ⟨rfl, hb⟩; have n0_ := Aside0.mk (Kd.R_below (by (with_reducible repeat (first | apply Kd.R_alloc | apply Kd.R_drewN | apply Kd.R_drew)); exact (Kd.R_mono (Kd.R_far (p := ⟨gb644, 5, none⟩) (Kd.R_far (p := ⟨gb644, 4, none⟩) (Kd.R_far (p := ⟨gb644, 3, none⟩) (Kd.R_far (p := ⟨gb644, 2, none⟩) (Kd.R_far (p := ⟨gb644, 1, none⟩) (Kd.R_far (p := ⟨gb644, 0, none⟩) (Kd.R_types HO_634005.out BK644.out (by decide)) (fun _ hk => hk.2) (.int .i64 t634)) (fun _ hk => hk.2) (.int .i64 t635)) (fun _ hk => hk.2) (.int .i64 t636)) (fun _ hk => hk.2) (.int .i64 t637)) (fun _ hk => hk.2) (.int .i64 t638)) (fun _ hk => hk.2) (.slice Ao32 t639.length co32)) (fun _ h_ => h_.1))) hb); have n1_ := Aside0.mk (Kd.R_below (by (with_reducible repeat (first | apply Kd.R_alloc | apply Kd.R_drewN | apply Kd.R_drew)); exact (Kd.R_mono (Kd.R_far (p := ⟨gb644, 5, none⟩) (Kd.R_far (p := ⟨gb644, 4, none⟩) (Kd.R_far (p := ⟨gb644, 3, none⟩) (Kd.R_far (p := ⟨gb644, 2, none⟩) (Kd.R_far (p := ⟨gb644, 1, none⟩) (Kd.R_far (p := ⟨gb644, 0, none⟩) (Kd.R_types HO641.out BK644.out (by decide)) (fun _ hk => hk.2) (.int .i64 t634)) (fun _ hk => hk.2) (.int .i64 t635)) (fun _ hk => hk.2) (.int .i64 t636)) (fun _ hk => hk.2) (.int .i64 t637)) (fun _ hk => hk.2) (.int .i64 t638)) (fun _ hk => hk.2) (.slice Ao32 t639.length co32)) (fun _ h_ => h_.1))) hb); have n2_ := Aside0.mk (blk_below (g := gb622) (o := .cells #[.int .i64 t616, .int .i64 t617, .int .i64 t618, .int .i64 t619, .int .i64 t620] 43 (0, 0)) (kFa6 BK622.out NB622_644.out) hb); have n3_ := Aside0.mk (blk_below (g := gb633) (o := .cells #[.int .i64 x634000_1, .int .i64 x634001_1, .int .i64 x634002_1, .int .i64 x634003_1, .int .i64 x634004_1, .slice Ao26 x634005_1.length co26] 24 (0, 0)) (kFa6 BK633.out NB633_644.out) hb); have n4_ := Aside0.mk (blk_below (g := gb644) (o := .cells #[.int .i64 t634, .int .i64 t635, .int .i64 t636, .int .i64 t637, .int .i64 t638, .slice Ao32 t639.length co32] 24 (0, 0)) (kP6 BK644.out) hb); have n5_ := Aside0.mk (below_step (kb3 HB.out GE622.out GE633.out GE644.out) hb); clear HO_634005; clear HO641; clear BK622; clear BK633; clear BK644; clear HB; have HO_634005 := n0_; have HO641 := n1_; have BK622 := n2_; have BK633 := n3_; have BK644 := n4_; have HB := n5_; clear n0_ n1_ n2_ n3_ n4_ n5_; (try clear hb); (try clear hb2); (try clear hk); (try clear hi)))
         go_meet
         case rel => exact ⟨_, (false), (by first | rfl | (simp; done) | (simp [*]; done)), H', ⟨by have := HK1.out; first | omega | exact Nat.le_refl _⟩, ⟨by (with_reducible repeat (first | apply Kd.R_alloc | apply Kd.R_drewN | apply Kd.R_drew)); exact Kd.R_mono HO_634005.out (fun _ hk => hk.2)⟩, ⟨by (with_reducible repeat (first | apply Kd.R_alloc | apply Kd.R_drewN | apply Kd.R_drew)); exact Kd.R_mono HO641.out (fun _ hk => hk.2)⟩, ⟨kB BK622.out⟩, ⟨kB BK633.out⟩, ⟨kB BK644.out⟩, ⟨kb3 HB.out GE622.out GE633.out GE644.out⟩⟩
       ·rw [if_neg c34] at H
        have c34b0 : decide ((t642.size : Int) < 32) = false := decide_eq_false c34
        have c34b1 : decide (t642.size < 32) = false := decide_eq_false (by omega)
        clear c34
        by_cases c47 : (t642.size : Int) = 32
        case neg =>
         rw [if_neg c47] at H
         have c47b0 : ((t642.size : Int) == 32) = false := beq_eq_false_iff_ne.mpr c47
         have c47b1 : ((t642.size : Int) != 32) = true := bne_iff_ne.mpr c47
         have H' := Aside0.mk H
         clear H
         go_wp2
         go_meet
         case rel => exact ⟨_, (false), (by first | rfl | (simp; done) | (simp [*]; done)), H', ⟨by have := HK1.out; first | omega | exact Nat.le_refl _⟩, ⟨by (with_reducible repeat (first | apply Kd.R_alloc | apply Kd.R_drewN | apply Kd.R_drew)); exact Kd.R_mono (Kd.R_far (p := ⟨gb644, 5, none⟩) (Kd.R_far (p := ⟨gb644, 4, none⟩) (Kd.R_far (p := ⟨gb644, 3, none⟩) (Kd.R_far (p := ⟨gb644, 2, none⟩) (Kd.R_far (p := ⟨gb644, 1, none⟩) (Kd.R_far (p := ⟨gb644, 0, none⟩) (Kd.R_types HO_634005.out BK644.out (by decide)) (fun _ hk => hk.2) (.int .i64 t634)) (fun _ hk => hk.2) (.int .i64 t635)) (fun _ hk => hk.2) (.int .i64 t636)) (fun _ hk => hk.2) (.int .i64 t637)) (fun _ hk => hk.2) (.int .i64 t638)) (fun _ hk => hk.2) (.slice Ao32 t639.length co32)) (fun _ hk => hk.1.2)⟩, ⟨by (with_reducible repeat (first | apply Kd.R_alloc | apply Kd.R_drewN | apply Kd.R_drew)); exact Kd.R_mono (Kd.R_far (p := ⟨gb644, 5, none⟩) (Kd.R_far (p := ⟨gb644, 4, none⟩) (Kd.R_far (p := ⟨gb644, 3, none⟩) (Kd.R_far (p := ⟨gb644, 2, none⟩) (Kd.R_far (p := ⟨gb644, 1, none⟩) (Kd.R_far (p := ⟨gb644, 0, none⟩) (Kd.R_types HO641.out BK644.out (by decide)) (fun _ hk => hk.2) (.int .i64 t634)) (fun _ hk => hk.2) (.int .i64 t635)) (fun _ hk => hk.2) (.int .i64 t636)) (fun _ hk => hk.2) (.int .i64 t637)) (fun _ hk => hk.2) (.int .i64 t638)) (fun _ hk => hk.2) (.slice Ao32 t639.length co32)) (fun _ hk => hk.1.2)⟩, ⟨kFa6 BK622.out NB622_644.out⟩, ⟨kFa6 BK633.out NB633_644.out⟩, ⟨kP6 BK644.out⟩, ⟨kb3 HB.out GE622.out GE633.out GE644.out⟩⟩
        rw [if_pos c47] at H
        have c47b0 : ((t642.size : Int) == 32) = true := beq_iff_eq.mpr c47
        have c47b1 : ((t642.size : Int) != 32) = false := bne_eq_false_iff_eq.mpr c47
        clear c47
        have H' := Aside0.mk H
        clear H
        have hnb48 := NB644_622.out
        have hnc48 := NB622_644.out
        have hnb49 := NB644_633.out
        have hnc49 := NB633_644.out
        obtain ⟨hcz50_0, hcz50_1, hcz50_2, hcz50_3, hcz50_4, hcz50_5⟩ := kc6 BK644.out
        obtain ⟨hfz50_0, hfz50_1, hfz50_2, hfz50_3, hfz50_4, hfz50_5⟩ := kf6 BK644.out
        go_wp2
        go_meet
        case rel => exact ⟨_, ((t634 != 6)), (by first | rfl | (simp; done) | (simp [*]; done)), H', ⟨by have := HK1.out; first | omega | exact Nat.le_refl _⟩, ⟨by (with_reducible repeat (first | apply Kd.R_alloc | apply Kd.R_drewN | apply Kd.R_drew)); exact Kd.R_mono (Kd.R_far (p := ⟨gb644, 5, none⟩) (Kd.R_far (p := ⟨gb644, 4, none⟩) (Kd.R_far (p := ⟨gb644, 3, none⟩) (Kd.R_far (p := ⟨gb644, 2, none⟩) (Kd.R_far (p := ⟨gb644, 1, none⟩) (Kd.R_far (p := ⟨gb644, 0, none⟩) (Kd.R_types HO_634005.out BK644.out (by decide)) (fun _ hk => hk.2) (.int .i64 t634)) (fun _ hk => hk.2) (.int .i64 t635)) (fun _ hk => hk.2) (.int .i64 t636)) (fun _ hk => hk.2) (.int .i64 t637)) (fun _ hk => hk.2) (.int .i64 t638)) (fun _ hk => hk.2) (.slice Ao32 t639.length co32)) (fun _ hk => hk.1.2)⟩, ⟨by (with_reducible repeat (first | apply Kd.R_alloc | apply Kd.R_drewN | apply Kd.R_drew)); exact Kd.R_mono (Kd.R_far (p := ⟨gb644, 5, none⟩) (Kd.R_far (p := ⟨gb644, 4, none⟩) (Kd.R_far (p := ⟨gb644, 3, none⟩) (Kd.R_far (p := ⟨gb644, 2, none⟩) (Kd.R_far (p := ⟨gb644, 1, none⟩) (Kd.R_far (p := ⟨gb644, 0, none⟩) (Kd.R_types HO641.out BK644.out (by decide)) (fun _ hk => hk.2) (.int .i64 t634)) (fun _ hk => hk.2) (.int .i64 t635)) (fun _ hk => hk.2) (.int .i64 t636)) (fun _ hk => hk.2) (.int .i64 t637)) (fun _ hk => hk.2) (.int .i64 t638)) (fun _ hk => hk.2) (.slice Ao32 t639.length co32)) (fun _ hk => hk.1.2)⟩, ⟨kFa6 BK622.out NB622_644.out⟩, ⟨kFa6 BK633.out NB633_644.out⟩, ⟨kP6 BK644.out⟩, ⟨kb3 HB.out GE622.out GE633.out GE644.out⟩⟩
     case rest =>
      clear HC23
      try clear c1; try clear c2; try clear p2; try clear c3; try clear c4; try clear c5; try clear c10; try clear c13; try clear c14; try clear c15; try clear c17; try clear c17b0; try clear c18; try clear c19; try clear c20; try clear c20b0; try clear c20b1; try clear c21; try clear c21b0; try clear c21b1; try clear c22; try clear c22b0; try clear c22b1; try clear c22b2; try clear c24; try clear c29; try clear c30; try clear c33; try clear c33b0; try clear c33b1; try clear c34; try clear c34b0; try clear c34b1; try clear c36; try clear c37; try clear c37b0; try clear c37b1; try clear c38; try clear c39; try clear c43; try clear c44; try clear c47; try clear c47b0; try clear c47b1; try clear c48; try clear c49; try clear hcz10_0; try clear hcz10_1; try clear hcz10_2; try clear hcz10_3; try clear hcz10_4; try clear hcz15_0; try clear hcz15_1; try clear hcz15_2; try clear hcz15_3; try clear hcz15_4; try clear hcz15_5; try clear hcz25_0; try clear hcz25_1; try clear hcz25_2; try clear hcz25_3; try clear hcz25_4; try clear hcz25_5; try clear hcz31_0; try clear hcz31_1; try clear hcz31_2; try clear hcz31_3; try clear hcz31_4; try clear hcz31_5; try clear hcz40_0; try clear hcz40_1; try clear hcz40_2; try clear hcz40_3; try clear hcz40_4; try clear hcz40_5; try clear hcz42_0; try clear hcz42_1; try clear hcz42_2; try clear hcz42_3; try clear hcz42_4; try clear hcz42_5; try clear hcz45_0; try clear hcz45_1; try clear hcz45_2; try clear hcz45_3; try clear hcz45_4; try clear hcz45_5; try clear hcz50_0; try clear hcz50_1; try clear hcz50_2; try clear hcz50_3; try clear hcz50_4; try clear hcz50_5; try clear hfz10_0; try clear hfz10_1; try clear hfz10_2; try clear hfz10_3; try clear hfz10_4; try clear hfz15_0; try clear hfz15_1; try clear hfz15_2; try clear hfz15_3; try clear hfz15_4; try clear hfz15_5; try clear hfz25_0; try clear hfz25_1; try clear hfz25_2; try clear hfz25_3; try clear hfz25_4; try clear hfz25_5; try clear hfz31_0; try clear hfz31_1; try clear hfz31_2; try clear hfz31_3; try clear hfz31_4; try clear hfz31_5; try clear hfz40_0; try clear hfz40_1; try clear hfz40_2; try clear hfz40_3; try clear hfz40_4; try clear hfz40_5; try clear hfz42_0; try clear hfz42_1; try clear hfz42_2; try clear hfz42_3; try clear hfz42_4; try clear hfz42_5; try clear hfz45_0; try clear hfz45_1; try clear hfz45_2; try clear hfz45_3; try clear hfz45_4; try clear hfz45_5; try clear hfz50_0; try clear hfz50_1; try clear hfz50_2; try clear hfz50_3; try clear hfz50_4; try clear hfz50_5; try clear p2
      obtain ⟨kq, x85_22, rfl, HA, HJ22, HO_634005, HO_645005, BK622, BK633, BK644, HB⟩ := hcut
      cases kq with
      | zero => exact absurd HA.out (by simp [skifflaw20_UploadAll.j1])
      | succ kj22 =>
       have H := HA.out
       clear HA
       simp only [skifflaw20_UploadAll.j1] at H
       by_cases c51 : x85_22 = true
       ·subst c51
        have H1 : (none) = some r := by rw [if_pos rfl] at H; exact H
        clear H; have H := H1; clear H1
        exact absurd H (by simp)
       ·replace c51 := Bool.eq_false_iff.mpr c51
        subst c51
        have H1 : (if (t642.size : Int) < 32 then (some ((x8_1 ++ t642).toList == t623.toList)) else (skifflaw20_UploadAll.l0 kj22 a0 t621 t623 (x8_1 ++ t642) (wrap64 (x9_1 + 1)) t634 t635 t636 t637 t638 t639)) = some r := by rw [if_neg (show ¬ (false = true) by decide)] at H; exact H
        clear H; have H := H1; clear H1
        by_cases c52 : (t642.size : Int) < 32
        ·rw [if_pos c52] at H
         have c52b0 : decide ((t642.size : Int) < 32) = true := decide_eq_true c52
         have c52b1 : decide (t642.size < 32) = true := decide_eq_true (by omega)
         clear c52
         obtain rfl := Option.some.inj H
         go_wp2
         go_ret
         exact ⟨by first | rfl | (simp [errW_none, errW_some] <;> rfl) | (simp [*, errW_none, errW_some] <;> rfl), kb3 HB.out GE622.out GE633.out GE644.out⟩
        ·rw [if_neg c52] at H
         have c52b0 : decide ((t642.size : Int) < 32) = false := decide_eq_false c52
         have c52b1 : decide (t642.size < 32) = false := decide_eq_false (by omega)
         clear c52
         have H' := Aside0.mk H
         clear H
         have hnb53 := NB644_622.out
         have hnc53 := NB622_644.out
         have hnb54 := NB644_633.out
         have hnc54 := NB633_644.out
         obtain ⟨hcz55_0, hcz55_1, hcz55_2, hcz55_3, hcz55_4, hcz55_5⟩ := kc6 BK644.out
         obtain ⟨hfz55_0, hfz55_1, hfz55_2, hfz55_3, hfz55_4, hfz55_5⟩ := kf6 BK644.out
         have hnb56 := NB633_622.out
         have hnc56 := NB622_633.out
         obtain ⟨hcz57_0, hcz57_1, hcz57_2, hcz57_3, hcz57_4, hcz57_5⟩ := kc6 BK633.out
         obtain ⟨hfz57_0, hfz57_1, hfz57_2, hfz57_3, hfz57_4, hfz57_5⟩ := kf6 BK633.out
         go_wp2
         go_roundg kj22
         case measure => have := HK1.out; have := HJ22.out; omega
         case rel => exact ⟨((x8_1 ++ t642)), (wrap64 (x9_1 + 1)), (t634), (t635), (t636), (t637), (t638), (t639), (.slice Ao32 t639.length co32), (by first | rfl | (simp; done) | (simp [*]; done)), (by first | rfl | (simp; done) | (simp [*]; done)), H', ⟨by have := HK1.out; have := HJ22.out; omega⟩, ⟨by (with_reducible repeat (first | apply Kd.R_alloc | apply Kd.R_drewN | apply Kd.R_drew)); exact Kd.R_mono (Kd.R_far (p := ⟨gb633, 5, none⟩) (Kd.R_far (p := ⟨gb633, 4, none⟩) (Kd.R_far (p := ⟨gb633, 3, none⟩) (Kd.R_far (p := ⟨gb633, 2, none⟩) (Kd.R_far (p := ⟨gb633, 1, none⟩) (Kd.R_far (p := ⟨gb633, 0, none⟩) (Kd.R_types HO_645005.out BK633.out (by decide)) (fun _ hk => hk.2) (.int .i64 t634)) (fun _ hk => hk.2) (.int .i64 t635)) (fun _ hk => hk.2) (.int .i64 t636)) (fun _ hk => hk.2) (.int .i64 t637)) (fun _ hk => hk.2) (.int .i64 t638)) (fun _ hk => hk.2) (.slice Ao32 t639.length co32)) (fun _ hk => trivial)⟩, ⟨kFa6 BK622.out NB622_633.out⟩, ⟨kP6 BK633.out⟩, ⟨kb3 HB.out GE622.out GE633.out GE644.out⟩⟩
    ·rw [if_neg c21] at H
     have c21b0 : (t621 == 0) = false := beq_eq_false_iff_ne.mpr c21
     have c21b1 : (t621 != 0) = true := bne_iff_ne.mpr c21
     by_cases c58 : t634 = 7
     case neg =>
      rw [if_neg c58] at H
      exact absurd H (by simp)
     rw [if_pos c58] at H
     have c58b0 : (t634 == 7) = true := beq_iff_eq.mpr c58
     have c58b1 : (t634 != 7) = false := bne_eq_false_iff_eq.mpr c58
     clear c58
     by_cases c59 : t635 = 2
     case neg =>
      rw [if_neg c59] at H
      exact absurd H (by simp)
     rw [if_pos c59] at H
     have c59b0 : (t635 == 2) = true := beq_iff_eq.mpr c59
     have c59b1 : (t635 != 2) = false := bne_eq_false_iff_eq.mpr c59
     clear c59
     obtain rfl := Option.some.inj H
     have hnb60 := NB633_622.out
     have hnc60 := NB622_633.out
     obtain ⟨hcz61_0, hcz61_1, hcz61_2, hcz61_3, hcz61_4, hcz61_5⟩ := kc6 BK633.out
     obtain ⟨hfz61_0, hfz61_1, hfz61_2, hfz61_3, hfz61_4, hfz61_5⟩ := kf6 BK633.out
     obtain ⟨Ao62, co62, eo62⟩ := Kd.R_slice HO_634005.out
     subst eo62
     go_wp2_with (first | ((with_reducible refine gate_callee (f := 10) rfl ?_); refine goesL_ (some 36) rfl rfl Try.func10 (by kernel_rfl) rfl #[.string a0, .agg #[.int .i64 x634000_1, .int .i64 x634001_1, .int .i64 x634002_1, .int .i64 x634003_1, .int .i64 x634004_1, .slice Ao62 x634005_1.length co62], .int .i64 x9_1, .int .i64 32] rfl ka ?_; (with_reducible refine (upload_Give.calls k1 a0 x634000_1 x634001_1 x634002_1 x634003_1 x634004_1 _ _ x634005_1 x9_1 32 t634 t635 t636 t637 t638 t639 t642 t643 _ ?side1 ?side2 A18.out).mono ?_); (case side1 => repeat (first | exact (Kd.R_reads' HO_634005.out).2.2 | (with_reducible refine Kd.C_alloc ?_ _) | (with_reducible refine Kd.C_drewN ?_ _) | (with_reducible refine Kd.C_drew ?_))); (case side2 => exact (Kd.R_reads' HO_634005.out).2.1); rintro e w63 ⟨v640, rfl, ho0, hb⟩; refine ⟨_, rfl, ?_⟩; have n0_ := Aside0.mk (Kd.R_elder' (kR HO_634005.out) (Kd.R_base ho0) hb); have n1_ := Aside0.mk (Kd.R_lower (Kd.R_new' ho0 (Kd.R_lt (kR HO_634005.out))) (below_size (kb2 HB.out GE622.out GE633.out))); have n2_ := Aside0.mk (kL BK622.out hb); have n3_ := Aside0.mk (kL BK633.out hb); have n4_ := Aside0.mk (below_step (kb2 HB.out GE622.out GE633.out) hb); clear HO_634005; clear BK622; clear BK633; clear HB; have HO_634005 := n0_; have HO641 := n1_; have BK622 := n2_; have BK633 := n3_; have HB := n4_; clear n0_ n1_ n2_ n3_ n4_; (try clear hb); (try clear hb2); (try clear hk); (try clear hi); (try clear ho0)) | ((with_reducible refine gate_dst (N := 10) rfl ?_); (try (refine gate_guard (by rfl) ?_; dsimp only)); refine box_event ?hg (N := 10) ?hd (cs := #[.int .i64 0, .int .i64 0, .int .i64 0, .int .i64 0, .int .i64 0, .slice none 0 0]) (t := 24) ?hr ?_; (case hd => rfl); (case hg => rfl); (case hr => first | (go_simp; done) | (go_simp; rfl)); intro gb644 hg w64 hbox hb; have n0_ := Aside0.mk (Kd.R_below (kR HO_634005.out) hb); have n1_ := Aside0.mk (Kd.R_below (kR HO641.out) hb); have n2_ := Aside0.mk (kL BK622.out hb); have n3_ := Aside0.mk (kL BK633.out hb); have n4_ := Aside0.mk (below_step (kb2 HB.out GE622.out GE633.out) hb); have n5_ := Aside0.mk (hbox); have n6_ := Aside0.mk ((kz hg (below_size (kb2 HB.out GE622.out GE633.out)) : w.heap.size ≤ gb644)); have n7_ := Aside0.mk ((kz hg (below_size (kb2 HB.out GE622.out GE633.out)) : w.heap.size ≤ gb644)); have n8_ := Aside0.mk ((kN hg BK622.out : gb622 ≠ gb644)); have n9_ := Aside0.mk (((kN hg BK622.out).symm : gb644 ≠ gb622)); have n10_ := Aside0.mk ((kN hg BK633.out : gb633 ≠ gb644)); have n11_ := Aside0.mk (((kN hg BK633.out).symm : gb644 ≠ gb633)); clear HO_634005; clear HO641; clear BK622; clear BK633; clear HB; have HO_634005 := n0_; have HO641 := n1_; have BK622 := n2_; have BK633 := n3_; have HB := n4_; have BK644 := n5_; have GW644 := n6_; have GE644 := n7_; have NB622_644 := n8_; have NB644_622 := n9_; have NB633_644 := n10_; have NB644_633 := n11_; clear n0_ n1_ n2_ n3_ n4_ n5_ n6_ n7_ n8_ n9_ n10_ n11_; clear hb hbox hg; have hnb65 := NB644_622.out; have hnc65 := NB622_644.out; have hnb66 := NB644_633.out; have hnc66 := NB633_644.out; obtain ⟨hcz67_0, hcz67_1, hcz67_2, hcz67_3, hcz67_4, hcz67_5⟩ := kc6 BK644.out; obtain ⟨hfz67_0, hfz67_1, hfz67_2, hfz67_3, hfz67_4, hfz67_5⟩ := kf6 BK644.out; obtain ⟨Ao68, co68, eo68⟩ := Kd.R_slice HO641.out; subst eo68) | ((with_reducible refine gate_callee (f := 13) rfl ?_); refine goesL_ (some 41) rfl rfl Try.func13 (by kernel_rfl) rfl #[.int .i64 t643] rfl ka ?_; (with_reducible refine (skifflaw0_Num.calls t643 t645 _ A19.out).mono ?_); rintro e w' ⟨rfl, ⟨nd, rfl⟩⟩; refine ⟨_, rfl, ?_⟩))
     go_ret
     exact ⟨by first | rfl | (simp [errW_none, errW_some] <;> rfl) | (simp [*, errW_none, errW_some] <;> rfl), kb3 HB.out GE622.out GE633.out GE644.out⟩
   ·rw [if_neg c20] at H
    have c20b0 : (t645 == 0) = false := beq_eq_false_iff_ne.mpr c20
    have c20b1 : (t645 != 0) = true := bne_iff_ne.mpr c20
    obtain rfl := Option.some.inj H
    have hnb69 := NB633_622.out
    have hnc69 := NB622_633.out
    obtain ⟨hcz70_0, hcz70_1, hcz70_2, hcz70_3, hcz70_4, hcz70_5⟩ := kc6 BK633.out
    obtain ⟨hfz70_0, hfz70_1, hfz70_2, hfz70_3, hfz70_4, hfz70_5⟩ := kf6 BK633.out
    obtain ⟨Ao71, co71, eo71⟩ := Kd.R_slice HO_634005.out
    subst eo71
    go_wp2_with (first | ((with_reducible refine gate_callee (f := 10) rfl ?_); refine goesL_ (some 36) rfl rfl Try.func10 (by kernel_rfl) rfl #[.string a0, .agg #[.int .i64 x634000_1, .int .i64 x634001_1, .int .i64 x634002_1, .int .i64 x634003_1, .int .i64 x634004_1, .slice Ao71 x634005_1.length co71], .int .i64 x9_1, .int .i64 32] rfl ka ?_; (with_reducible refine (upload_Give.calls k1 a0 x634000_1 x634001_1 x634002_1 x634003_1 x634004_1 _ _ x634005_1 x9_1 32 t634 t635 t636 t637 t638 t639 t642 t643 _ ?side1 ?side2 A18.out).mono ?_); (case side1 => repeat (first | exact (Kd.R_reads' HO_634005.out).2.2 | (with_reducible refine Kd.C_alloc ?_ _) | (with_reducible refine Kd.C_drewN ?_ _) | (with_reducible refine Kd.C_drew ?_))); (case side2 => exact (Kd.R_reads' HO_634005.out).2.1); rintro e w72 ⟨v640, rfl, ho0, hb⟩; refine ⟨_, rfl, ?_⟩; have n0_ := Aside0.mk (Kd.R_elder' (kR HO_634005.out) (Kd.R_base ho0) hb); have n1_ := Aside0.mk (Kd.R_lower (Kd.R_new' ho0 (Kd.R_lt (kR HO_634005.out))) (below_size (kb2 HB.out GE622.out GE633.out))); have n2_ := Aside0.mk (kL BK622.out hb); have n3_ := Aside0.mk (kL BK633.out hb); have n4_ := Aside0.mk (below_step (kb2 HB.out GE622.out GE633.out) hb); clear HO_634005; clear BK622; clear BK633; clear HB; have HO_634005 := n0_; have HO641 := n1_; have BK622 := n2_; have BK633 := n3_; have HB := n4_; clear n0_ n1_ n2_ n3_ n4_; (try clear hb); (try clear hb2); (try clear hk); (try clear hi); (try clear ho0)) | ((with_reducible refine gate_dst (N := 10) rfl ?_); (try (refine gate_guard (by rfl) ?_; dsimp only)); refine box_event ?hg (N := 10) ?hd (cs := #[.int .i64 0, .int .i64 0, .int .i64 0, .int .i64 0, .int .i64 0, .slice none 0 0]) (t := 24) ?hr ?_; (case hd => rfl); (case hg => rfl); (case hr => first | (go_simp; done) | (go_simp; rfl)); intro gb644 hg w73 hbox hb; have n0_ := Aside0.mk (Kd.R_below (kR HO_634005.out) hb); have n1_ := Aside0.mk (Kd.R_below (kR HO641.out) hb); have n2_ := Aside0.mk (kL BK622.out hb); have n3_ := Aside0.mk (kL BK633.out hb); have n4_ := Aside0.mk (below_step (kb2 HB.out GE622.out GE633.out) hb); have n5_ := Aside0.mk (hbox); have n6_ := Aside0.mk ((kz hg (below_size (kb2 HB.out GE622.out GE633.out)) : w.heap.size ≤ gb644)); have n7_ := Aside0.mk ((kz hg (below_size (kb2 HB.out GE622.out GE633.out)) : w.heap.size ≤ gb644)); have n8_ := Aside0.mk ((kN hg BK622.out : gb622 ≠ gb644)); have n9_ := Aside0.mk (((kN hg BK622.out).symm : gb644 ≠ gb622)); have n10_ := Aside0.mk ((kN hg BK633.out : gb633 ≠ gb644)); have n11_ := Aside0.mk (((kN hg BK633.out).symm : gb644 ≠ gb633)); clear HO_634005; clear HO641; clear BK622; clear BK633; clear HB; have HO_634005 := n0_; have HO641 := n1_; have BK622 := n2_; have BK633 := n3_; have HB := n4_; have BK644 := n5_; have GW644 := n6_; have GE644 := n7_; have NB622_644 := n8_; have NB644_622 := n9_; have NB633_644 := n10_; have NB644_633 := n11_; clear n0_ n1_ n2_ n3_ n4_ n5_ n6_ n7_ n8_ n9_ n10_ n11_; clear hb hbox hg; have hnb74 := NB644_622.out; have hnc74 := NB622_644.out; have hnb75 := NB644_633.out; have hnc75 := NB633_644.out; obtain ⟨hcz76_0, hcz76_1, hcz76_2, hcz76_3, hcz76_4, hcz76_5⟩ := kc6 BK644.out; obtain ⟨hfz76_0, hfz76_1, hfz76_2, hfz76_3, hfz76_4, hfz76_5⟩ := kf6 BK644.out; obtain ⟨Ao77, co77, eo77⟩ := Kd.R_slice HO641.out; subst eo77) | ((with_reducible refine gate_callee (f := 13) rfl ?_); refine goesL_ (some 41) rfl rfl Try.func13 (by kernel_rfl) rfl #[.int .i64 t643] rfl ka ?_; (with_reducible refine (skifflaw0_Num.calls t643 t645 _ A19.out).mono ?_); rintro e w' ⟨rfl, ⟨nd, rfl⟩⟩; refine ⟨_, rfl, ?_⟩))
    go_ret
    exact ⟨by first | rfl | (simp [errW_none, errW_some] <;> rfl) | (simp [*, errW_none, errW_some] <;> rfl), kb3 HB.out GE622.out GE633.out GE644.out⟩

end Go.Proofs.Ytmidohjfajbpmaa.P
end
section
set_option linter.unusedVariables false
set_option linter.unusedSimpArgs false
set_option maxHeartbeats 4000000
namespace Go.Proofs.Ytmidohjfajbpmaa
open Go.RowKit Skiff Go.Proofs.YtmidohjfajbpmaaW.PrintWords Go.Proofs.YtmidohjfajbpmaaW.PrintMore O

theorem piece_next (img : ByteArray) (i : Nat) (h : 32 * i ≤ img.size) : img.extract 0 (32 * i) ++ pieceOf img i 32 = img.extract 0 (32 * i + 32) := by
  apply bl_inj
  rw [bl_append, bl_extract, bl_extract]
  unfold pieceOf
  rw [bl_extract, List.drop_zero, Int.toNat_natCast, Nat.min_eq_left h]
  show List.take (32 * i - 0) (bl img) ++ List.take (32 * i + 32 - 32 * i) (List.drop (32 * i) (bl img)) = List.take (32 * i + 32 - 0) (bl img)
  rw [Nat.sub_zero, Nat.sub_zero, Nat.add_sub_cancel_left, ← List.take_add]
theorem piece_len (img : ByteArray) (i : Nat) (h : 32 * i ≤ img.size) : (pieceOf img i 32).size = min 32 (img.size - 32 * i) := by
  unfold pieceOf
  rw [ByteArray.size_extract, Int.toNat_natCast, Nat.min_eq_left h]
  show min (32 * i + 32) img.size - 32 * i = _
  omega
def devAt (i : Nat) : Int := if i = 0 then 0 else 6
theorem all_u (f : ByteArray) (p : Plc) (hf : f.size = 768) (hp : best f = some p) (img : ByteArray) (himg : image f (recOf p) = img) (hz : img.size ≤ 288) (d : Nat) : ∀ (k i : Nat), i + d = 10 → 2 * d + 20 < k → 32 * i ≤ img.size →
    P.skifflaw20_UploadAll.l0 k f 0 img (img.extract 0 (32 * i)) (i : Int) (devAt i) 0 (i : Int) 0 0 [] = some true := by
  induction d with
  | zero => intro k i h1 h2 h3; omega
  | succ d ih =>
    intro k i h1 h2 h3
    obtain ⟨k, rfl⟩ : ∃ m, k = m + 2 := ⟨k - 2, by omega⟩
    have hg := give_at f img p hf hp himg (devAt i) 0 i (by unfold devAt; split <;> omega) (by omega) (by omega) i 32 (by omega) (by omega) (k + 1) (by omega)
    have hn : nextOf (devAt i) (i : Int) = i := by
      unfold nextOf devAt
      by_cases h : i = 0
      · rw [if_pos h, if_pos rfl, h]; rfl
      · rw [if_neg h, if_neg (by omega)]
    rw [hn, if_pos rfl] at hg
    have hl := piece_len img i h3
    have hc := piece_next img i h3
    have hs : (img.extract 0 (32 * i)).size ≤ 288 := by rw [ByteArray.size_extract]; omega
    have e2 : wrap64 ((i : Int) + 1) = ((i + 1 : Nat) : Int) := by rw [w64u (by omega)]; omega
    show P.skifflaw20_UploadAll.l0 ((k + 1) + 1) _ _ _ _ _ _ _ _ _ _ _ = _
    rw [P.skifflaw20_UploadAll.l0, if_pos (by omega), hg, Option.bind_some]
    unfold given
    by_cases h : (pieceOf img i 32).size < 32
    · rw [if_pos h]
      dsimp only
      have d1 := sameDev_big 0 0 0 0 0 [] (k + 1) (by simp) (by simp)
      rw [P.skifflaw0_Num.f, Option.bind_some, if_pos rfl, if_pos rfl, if_pos (by omega), if_neg (by omega), if_pos (by omega), d1, Option.bind_some, if_pos rfl, if_neg (by omega), hc]
      rw [P.skifflaw20_UploadAll.j1, if_neg Bool.false_ne_true, if_pos (by omega)]
      have : img.extract 0 (32 * i + 32) = img := by
        apply bl_inj
        rw [bl_extract, List.drop_zero, List.take_of_length_le (by rw [bl_length]; omega)]
      rw [this]; simp
    · rw [if_neg h]
      dsimp only
      rw [P.skifflaw0_Num.f, Option.bind_some, if_pos rfl, if_pos rfl, if_pos (by omega), if_neg (by omega), if_neg (by omega), if_pos (by omega), hc]
      rw [P.skifflaw20_UploadAll.j1, if_neg (by decide), if_neg (by omega), e2]
      have hr := ih k (i + 1) (by omega) (by omega) (by omega)
      have hd : devAt (i + 1) = 6 := rfl
      rw [hd, show 32 * (i + 1) = 32 * i + 32 by omega] at hr
      rw [show min ((i : Int) + 1) 16 = ((i + 1 : Nat) : Int) by omega]
      exact hr
theorem uploadAll_f (f : ByteArray) : P.skifflaw20_UploadAll.f 1000 f = some true := by
  unfold P.skifflaw20_UploadAll.f
  rw [awake20 1000 (by omega), Option.bind_some, if_pos rfl, ract_f f 1000 (by omega), Option.bind_some]
  unfold actTup
  by_cases hf : f.size = 768
  case neg =>
    rw [if_neg hf]
    dsimp only
    have hi := rof_f f ⟨0, 0, 0, 0⟩
    have hg := give_bad f 0 0 0 32 999 (by omega) (.inl hf)
    show ((P.skiffref1_ImageOf.f f 0 0 0 0).bind _) = _
    rw [show P.skiffref1_ImageOf.f f 0 0 0 0 = _ from hi, Option.bind_some]
    rw [show P.skiffref16_NewDevice.f = some (0, 0, 0, 0, 0, []) from rfl, Option.bind_some]
    show P.skifflaw20_UploadAll.l0 (999 + 1) _ _ _ _ _ _ _ _ _ _ _ = _
    rw [P.skifflaw20_UploadAll.l0, if_pos (by omega), hg, Option.bind_some, P.skifflaw0_Num.f, Option.bind_some, if_neg (by decide)]; rfl
  rw [if_pos hf]
  generalize hp : best f = o
  cases o with
  | none =>
    have hg := give_f f 0 0 0 0 0 [] 0 32 999 (by omega) ok_nil
    have hm : giveMay f 0 0 0 0 0 [] 0 32 = true := by
      unfold giveMay
      rw [decide_eq_true hf]; rfl
    unfold giveTup at hg
    rw [hm, if_pos rfl, hp, giveOf] at hg
    have hi := rof_f f ⟨0, 0, 0, 0⟩
    have em := empty_lu
    show ((P.skiffref1_ImageOf.f f 0 0 0 0).bind _) = _
    rw [show P.skiffref1_ImageOf.f f 0 0 0 0 = _ from hi, Option.bind_some]
    rw [show P.skiffref16_NewDevice.f = some (0, 0, 0, 0, 0, []) from rfl, Option.bind_some]
    show P.skifflaw20_UploadAll.l0 (999 + 1) _ _ _ _ _ _ _ _ _ _ _ = _
    rw [P.skifflaw20_UploadAll.l0, if_pos (by omega), hg, Option.bind_some, P.skifflaw0_Num.f, Option.bind_some, if_pos rfl, if_neg (by decide), if_pos rfl, if_pos rfl, em]; rfl
  | some p =>
    have hi := rof_f f (recOf p)
    unfold imagePair at hi
    rw [goodAt_may hf hp, if_pos rfl] at hi
    have hz := image_le hf hp
    have key := all_u f p hf hp _ rfl hz 10 1000 0 (by omega) (by omega) (by omega)
    show ((P.skiffref1_ImageOf.f f (recOf p).seq (recOf p).slot (recOf p).size (recOf p).sum).bind _) = _
    rw [hi, Option.bind_some]
    rw [show P.skiffref16_NewDevice.f = some (0, 0, 0, 0, 0, []) from rfl, Option.bind_some]
    generalize image f (recOf p) = img at *
    have e0 : img.extract 0 (32 * 0) = ⟨#[]⟩ := by
      apply bl_inj
      rw [bl_extract]; rfl
    rw [e0] at key
    exact key
theorem uploadAll_walk (f : ByteArray) (hf : f.size ≤ 140737488351232) (w : World) :
    Calls Try.prog 5 #[.string f] w fun e w' => e = .returned (.bool true) ∧ Ext w w' :=
  P.skifflaw20_UploadAll.calls 1000 f true w (uploadAll_f f)

end Go.Proofs.Ytmidohjfajbpmaa
end
