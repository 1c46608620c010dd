/- Texts of this claim, laid together. -/
import Derived.Test.YtmidohjfajbpmaaZ1M22
import Derived.Test.YtmidohjfajbpmaaZ1M26
import Derived.Test.YtmidohjfajbpmaaZ1M28
import Derived.Test.YtmidohjfajbpmaaZ1Px8
import Derived.Test.YtmidohjfajbpmaaZ1WMore
import Derived.Test.YtmidohjfajbpmaaZ1WWords
section
namespace Go.Proofs.Ytmidohjfajbpmaa.P
open Go.RowKit Go.Proofs.YtmidohjfajbpmaaW.PrintWords Go.Proofs.YtmidohjfajbpmaaW.PrintLast Go.Proofs.YtmidohjfajbpmaaW.PrintMore
attribute [local go_sem] max2_int min2_int max_two min_two max_three min_three max_four min_four   -- for this text's walks alone
set_option linter.unusedVariables false
set_option linter.unusedSimpArgs false

/-! ### skifflaw20_Uploads: function 3 -/
def skifflaw20_Uploads.j0 : Nat → Bool → Int → Int → Int → Int → Int → List (S68) → Int → Int → Int → Int → Int → List (S68) → Int → Int → Int → Int → Int → List (S68) → Option (Bool)
 | 0, _, _, _, _, _, _, _, _, _, _, _, _, _, _, _, _, _, _, _ => none
 | k + 1, x50, x481000, x481001, x481002, x481003, x481004, x481005, x490000, x490001, x490002, x490003, x490004, x490005, x501000, x501001, x501002, x501003, x501004, x501005 => if x50 = true then (none) else ((skifflaw0_SpoilDevice.f k x501000 x501001 x501002 x501003 x501004 x501005).bind fun t514 => ((skifflaw0_SameDevice.f k x490000 x490001 x490002 x490003 x490004 x490005 x481000 x481001 x481002 x481003 x481004 x481005).bind fun t515 => (if t515 = true then ((skifflaw20_awake.f k).bind fun t516 => (some t516)) else (none))))
def skifflaw20_Uploads.f (k : Nat) (a0 : ByteArray) (a1_0 : Int) (a1_1 : Int) (a1_2 : Int) (a1_3 : Int) (a1_4 : Int) (l1_5 : List (S68)) (a2 : Int) (a3 : Int) : Option (Bool) := (skifflaw0_CopyDevice.f a1_0 a1_1 a1_2 a1_3 a1_4 l1_5).bind fun bt481 => ((upload_Give.f k a0 bt481.1 bt481.2.1 bt481.2.2.1 bt481.2.2.2.1 bt481.2.2.2.2.1 bt481.2.2.2.2.2 a2 a3).bind fun bt490 => ((skiffref16_Upload.f k a0 a1_0 a1_1 a1_2 a1_3 a1_4 l1_5 a2 a3).bind fun bt501 => ((skifflaw0_SameDevice.f k bt490.1 bt490.2.1 bt490.2.2.1 bt490.2.2.2.1 bt490.2.2.2.2.1 bt490.2.2.2.2.2.1 bt501.1 bt501.2.1 bt501.2.2.1 bt501.2.2.2.1 bt501.2.2.2.2.1 bt501.2.2.2.2.2.1).bind fun t512 => (if t512 = true then (if bt490.2.2.2.2.2.2.1.toList = bt501.2.2.2.2.2.2.1.toList then ((skifflaw0_Num.f bt490.2.2.2.2.2.2.2).bind fun t513 => (skifflaw20_Uploads.j0 k (t513 != bt501.2.2.2.2.2.2.2) a1_0 a1_1 a1_2 a1_3 a1_4 l1_5 bt481.1 bt481.2.1 bt481.2.2.1 bt481.2.2.2.1 bt481.2.2.2.2.1 bt481.2.2.2.2.2 bt490.1 bt490.2.1 bt490.2.2.1 bt490.2.2.2.1 bt490.2.2.2.2.1 bt490.2.2.2.2.2.1)) else (none)) else (none)))))

end Go.Proofs.Ytmidohjfajbpmaa.P
end
section
set_option linter.unusedVariables false
set_option linter.unusedSimpArgs false
set_option maxHeartbeats 4000000
namespace Go.Proofs.Ytmidohjfajbpmaa
open Go.RowKit Skiff Go.Proofs.YtmidohjfajbpmaaW.PrintWords Go.Proofs.YtmidohjfajbpmaaW.PrintMore O

def abT : ByteArray := ⟨#[97, 98, 97, 98, 97, 98, 97, 98, 97, 98, 97, 98]⟩
def heldF : ByteArray := mk (put ⟨1, 0, 12, 3146506012⟩ ++ (List.replicate 168 255 ++ ([97, 98, 97, 98, 97, 98, 97, 98, 97, 98, 97, 98] ++ List.replicate 564 255)))
def heldP : Plc := ⟨0, ⟨1, 0, 12, 3146506012⟩⟩
theorem held20_f : P.skifflaw20_held.f 250 = some heldF := by kernel_rfl
theorem held20 (k : Nat) (hk : 250 ≤ k) : P.skifflaw20_held.f k = some heldF := by
  have up : ∀ j, P.skifflaw20_held.f (250 + j) = some heldF := fun j => by
    induction j with
    | zero => exact held20_f
    | succ j ih => exact P.skifflaw20_held.mono (250 + j) _ ih
  obtain ⟨j, rfl⟩ : ∃ j, k = 250 + j := ⟨k - 250, by omega⟩
  exact up j
theorem awake20_f : P.skifflaw20_awake.f 300 = some true := by kernel_rfl
theorem awake20 (k : Nat) (hk : 300 ≤ k) : P.skifflaw20_awake.f k = some true := by
  have up : ∀ j, P.skifflaw20_awake.f (300 + j) = some true := fun j => by
    induction j with
    | zero => exact awake20_f
    | succ j ih => exact P.skifflaw20_awake.mono (300 + j) _ ih
  obtain ⟨j, rfl⟩ : ∃ j, k = 300 + j := ⟨k - 300, by omega⟩
  exact up j
theorem held_size : heldF.size = 768 := by kernel_rfl
theorem best_held : best heldF = some heldP := by kernel_rfl
theorem image_held : image heldF (recOf heldP) = abT := by kernel_rfl

end Go.Proofs.Ytmidohjfajbpmaa
end
section
set_option linter.unusedVariables false
set_option linter.unusedSimpArgs false
set_option maxHeartbeats 4000000
namespace Go.Proofs.Ytmidohjfajbpmaa
open Go.RowKit Skiff Go.Proofs.YtmidohjfajbpmaaW.PrintWords Go.Proofs.YtmidohjfajbpmaaW.PrintMore O

theorem within_nou {x a b : Int} (h : x < a ∨ x > b) : within x a b = false := by
  unfold within
  rcases h with h | h
  · rw [decide_eq_false (by omega), Bool.false_and]
  · rw [decide_eq_false (show ¬ x ≤ b by omega), Bool.and_false]
theorem ok_nil : OkOps ([] : List Opn) := fun o h => by cases h
theorem give_bad (f : ByteArray) (s n b len : Int) (k : Nat) (hk : 4 < k) (h : f.size ≠ 768 ∨ n < 0 ∨ (s ≠ 0 ∧ s ≠ 6) ∨ b < 0 ∨ b > 65535 ∨ len < 0 ∨ len > 32) : P.upload_Give.f k f s 0 n 0 0 [] b len = some (0, 0, 0, 0, 0, [], ⟨#[]⟩, 2000) := by
  rw [give_f f s 0 n 0 0 [] b len k hk ok_nil]
  have : giveMay f s 0 n 0 0 [] b len = false := by
    unfold giveMay devMayB
    rcases h with h | h | h | h | h | h | h
    · rw [decide_eq_false h]; rfl
    · rw [within_nou (x := n) (a := 0) (b := 16) (by omega)]; simp
    · rw [beq_eq_false_iff_ne.2 h.1, beq_eq_false_iff_ne.2 h.2]; simp
    · rw [within_nou (x := b) (a := 0) (b := 65535) (by omega)]; simp
    · rw [within_nou (x := b) (a := 0) (b := 65535) (by omega)]; simp
    · rw [within_nou (x := len) (a := 0) (b := 32) (by omega)]; simp
    · rw [within_nou (x := len) (a := 0) (b := 32) (by omega)]; simp
  unfold giveTup
  rw [this, if_neg Bool.false_ne_true]
/-- What is given of a flash whose active image is known. -/
theorem give_at (f img : ByteArray) (p : Plc) (hf : f.size = 768) (hb : best f = some p) (hi : image f (recOf p) = img) (s st n : Int) (hs : s = 0 ∨ s = 6) (hst : 0 ≤ st ∧ st ≤ 6) (hn : 0 ≤ n ∧ n ≤ 16) (b len : Int) (hb2 : 0 ≤ b ∧ b ≤ 65535) (hl : 0 ≤ len ∧ len ≤ 32) (k : Nat) (hk : 4 < k) :
    P.upload_Give.f k f s st n 0 0 [] b len = some (if b = nextOf s n then given img st (nextOf s n) 0 0 [] len else (7, 4, 0, 0, 0, [], ⟨#[]⟩, 0)) := by
  rw [give_f f s st n 0 0 [] b len k hk ok_nil]
  have : giveMay f s st n 0 0 [] b len = true := by
    unfold giveMay devMayB
    rw [decide_eq_true hf, Skiff.within_iff.2 hb2, Skiff.within_iff.2 hl, Skiff.within_iff.2 hn, Skiff.within_iff.2 hst]
    rcases hs with rfl | rfl <;> rfl
  unfold giveTup
  rw [this, if_pos rfl, hb, giveOf, hi]
theorem ab_size : abT.size = 12 := rfl
theorem piece_small (img : ByteArray) (n len : Int) (h : img.size < 32) : (pieceOf img n len).size < 32 := by
  unfold pieceOf; rw [ByteArray.size_extract]; omega
theorem given_small (img : ByteArray) (st n g sl : Int) (l : List Opn) (len : Int) (h : img.size < 32) : given img st n g sl l len = (0, 0, 0, 0, 0, [], pieceOf img n len, 0) := by
  unfold given; rw [if_pos (piece_small img n len h)]
theorem piece_past (img : ByteArray) (n len : Int) (h : img.size ≤ 32 * n.toNat) : (pieceOf img n len).toList = ([] : List UInt8) := by
  unfold pieceOf
  rw [toList_bl, bl_extract, Nat.min_eq_right h, List.drop_of_length_le (by rw [bl_length]; omega)]; simp

end Go.Proofs.Ytmidohjfajbpmaa
end
section
set_option linter.unusedVariables false
set_option linter.unusedSimpArgs false
set_option maxHeartbeats 4000000
namespace Go.Proofs.Ytmidohjfajbpmaa
open Go.RowKit Go.Proofs.YtmidohjfajbpmaaW.PrintWords

theorem Ext.box {w w1 : World} {cs : Array Value} {t : TypeId} {r : Nat × Nat} (h : Ext (w.alloc (.cells cs t r)) w1) : w1.heap[w.heap.size]? = some (.cells cs t r) := (h.below.block _ (by simp)).trans (heap_alloc_new w _)
theorem Ext.blk {w w1 : World} {g : Nat} {o : Obj} (h : Ext w w1) (k : w.heap[g]? = some o) : w1.heap[g]? = some o := (h.below.block _ (blk_lt k)).trans k
theorem Ext.pre {w w1 : World} {o : Obj} (h : Ext (w.alloc o) w1) : Ext w w1 := ((Ext.refl w).alloc o).trans h
theorem Kd.C_none {α : Type} (d : Kd α) (w : World) (A : Option Addr) : d.C w A ([] : List α).length [] := ⟨rfl, by simp, fun h => absurd h (Nat.lt_irrefl 0)⟩

theorem box5 {w : World} {g t : Nat} {v0 v1 v2 v3 v4 : Value} (h : w.heap[g]? = some (.cells #[v0, v1, v2, v3, v4] t (0, 0))) : w.cell? ⟨g, 0, none⟩ = some v0 ∧ w.cell? ⟨g, 1, none⟩ = some v1 ∧ w.cell? ⟨g, 2, none⟩ = some v2 ∧ w.cell? ⟨g, 3, none⟩ = some v3 ∧ w.cell? ⟨g, 4, none⟩ = some v4 := ⟨(blk_cell h 0).trans rfl, (blk_cell h 1).trans rfl, (blk_cell h 2).trans rfl, (blk_cell h 3).trans rfl, (blk_cell h 4).trans rfl⟩
theorem box6 {w : World} {g t : Nat} {v0 v1 v2 v3 v4 v5 : Value} (h : w.heap[g]? = some (.cells #[v0, v1, v2, v3, v4, v5] t (0, 0))) : w.cell? ⟨g, 0, none⟩ = some v0 ∧ w.cell? ⟨g, 1, none⟩ = some v1 ∧ w.cell? ⟨g, 2, none⟩ = some v2 ∧ w.cell? ⟨g, 3, none⟩ = some v3 ∧ w.cell? ⟨g, 4, none⟩ = some v4 ∧ w.cell? ⟨g, 5, none⟩ = some v5 := ⟨(blk_cell h 0).trans rfl, (blk_cell h 1).trans rfl, (blk_cell h 2).trans rfl, (blk_cell h 3).trans rfl, (blk_cell h 4).trans rfl, (blk_cell h 5).trans rfl⟩
section
variable {P : Program} {ops : Array Oper} {rest : List Oper} {o : Oper} {a : Act} {Q : Exit → Act → World → Prop}
end
end Go.Proofs.Ytmidohjfajbpmaa
end
section
set_option linter.unusedVariables false
set_option linter.unusedSimpArgs false
set_option maxHeartbeats 4000000
namespace Go.Proofs.Ytmidohjfajbpmaa
open Go.RowKit Skiff Go.Proofs.YtmidohjfajbpmaaW.PrintWords Go.Proofs.YtmidohjfajbpmaaW.PrintMore O

def BadGive (f : ByteArray) (s n b len : Int) : Prop := f.size ≠ 768 ∨ n < 0 ∨ (s ≠ 0 ∧ s ≠ 6) ∨ b < 0 ∨ b > 65535 ∨ len < 0 ∨ len > 32
theorem mod_cases (x : Int) : (IntKind.u64.wrap x).tmod 7 = 0 ∨ (IntKind.u64.wrap x).tmod 7 = 1 ∨ (IntKind.u64.wrap x).tmod 7 = 2 ∨ (IntKind.u64.wrap x).tmod 7 = 3 ∨ (IntKind.u64.wrap x).tmod 7 = 4 ∨ (IntKind.u64.wrap x).tmod 7 = 5 ∨ (IntKind.u64.wrap x).tmod 7 = 6 := by
  have hx : 0 ≤ IntKind.u64.wrap x := by rw [IntKind.wrap_u64]; omega
  rw [Int.tmod_eq_emod_of_nonneg hx]; omega
theorem mod_cases6 (x : Int) : (IntKind.u64.wrap x / 8).tmod 6 = 0 ∨ (IntKind.u64.wrap x / 8).tmod 6 = 1 ∨ (IntKind.u64.wrap x / 8).tmod 6 = 2 ∨ (IntKind.u64.wrap x / 8).tmod 6 = 3 ∨ (IntKind.u64.wrap x / 8).tmod 6 = 4 ∨ (IntKind.u64.wrap x / 8).tmod 6 = 5 := by
  have hx : 0 ≤ IntKind.u64.wrap x / 8 := by have : 0 ≤ IntKind.u64.wrap x := by rw [IntKind.wrap_u64]; omega
                                             omega
  rw [Int.tmod_eq_emod_of_nonneg hx]; omega
set_option maxRecDepth 100000 in
theorem uploadForms_walk (x y : Int) (f1 : (Lit.int .i64 x).wf = true) (f2 : (Lit.int .i64 y).wf = true) (w : World) :
    Calls Try.prog 4 #[.int .i64 x, .int .i64 y] w fun e w' => e = .returned (.bool true) ∧ Ext w w' := by
  obtain ⟨d, hd, hd2⟩ : ∃ k : Nat, bits .and .i64 y 1023 = (k : Int) ∧ k < 1024 := and_mask y f2 10 (by omega)
  have d1 := sameDev_big 0 0 0 0 0 [] 999 (by simp) (by simp)
  have CA := Lib.hid (fun w => P.skifflaw20_awake.calls 999 true w (awake20 999 (by omega)))
  have CH := Lib.hid (fun w => P.skifflaw20_held.calls 999 heldF w (held20 999 (by omega)))
  have CG := Lib.hid (fun f s n b len w (h : BadGive f s n b len) => P.upload_Give.calls 999 f s 0 n 0 0 none 0 [] b len _ _ _ _ _ _ _ _ w (Kd.C_nil _ _) (Nat.le_refl _) (give_bad f s n b len 999 (by omega) h))
  have CN := Lib.hid (fun w => (P.skifflaw0_Num.calls 2000 2000 w rfl).mono fun e w' ⟨he, hd⟩ => (⟨he, hd.below⟩ : e = Ending.returned (.int .i64 2000) ∧ Ext w w'))
  have CD := Lib.hid (fun A c w hr hc => P.skifflaw0_SameDevice.calls 999 0 0 0 0 0 A c [] 0 0 0 0 0 none 0 [] true w hr hc (Kd.C_nil _ _) (Nat.le_refl _) d1)
  have hz : (heldF.extract 1 heldF.size).size ≠ 768 := by rw [ByteArray.size_extract, held_size]; decide
  have HZ := Lib.hid (show BadGive (heldF.extract 1 heldF.size) 0 0 0 32 from .inl hz)
  have hs : 1 ≤ heldF.size := by rw [held_size]; decide
  have M := Lib.hid (mod_cases x)
  have M6 := Lib.hid (mod_cases6 x)
  clear hz d1
  generalize heldF = F at *
  have HB : ∀ s n b len : Int, (n < 0 ∨ (s ≠ 0 ∧ s ≠ 6) ∨ b < 0 ∨ b > 65535 ∨ len < 0 ∨ len > 32) → BadGive F s n b len := fun s n b len h => .inr h
  have HB := Lib.hid HB
  rcases M.out with hv | hv | hv | hv | hv | hv | hv
  ·
    go_enter Try.func4, Try.ntmps4
    go_wp2_with fail
    refine (CA.out _).mono ?_
    rintro e w1 ⟨rfl, B1⟩; have B1 : Ext _ _ := B1
    go_wp2_with fail
    refine (CH.out _).mono ?_
    rintro e w2 ⟨rfl, B2⟩; have B2 : Ext _ _ := B2
    have hB : Ext w w2 := (by repeat (first | (with_reducible exact Ext.refl _) | (with_reducible assumption) | (with_reducible refine Ext.drewN ?_ _) | (with_reducible refine Ext.drew ?_) | (with_reducible refine Ext.alloc ?_ _) | (with_reducible refine Ext.setCell ?_ (by first | exact Nat.le_refl _ | (simp <;> omega)) _) | (with_reducible refine Ext.trans ?_ (by with_reducible assumption))))
    have hS := hB.size
    go_wp2_with fail
    refine (CG.out _ _ _ _ _ _ HZ.out).mono ?_
    rintro e w3 ⟨v3, rfl, R3, B3⟩
    have B3 : Ext _ _ := B3
    obtain ⟨A3, c3, rfl, hc3, D3⟩ := Kd.R_reads R3
    clear R3 D3
    go_wp2_with fail
    refine (CD.out A3 c3 _ (Kd.C_none _ _ _) hc3).mono ?_
    rintro e w4 ⟨rfl, B4⟩; have B4 : Ext _ _ := B4
    go_wp2_with fail
    refine (CN.out _).mono ?_
    rintro e w5 ⟨rfl, B5⟩
    go_wp2
    go_ret
    exact ⟨rfl, (by repeat (first | (with_reducible exact Ext.refl _) | (with_reducible assumption) | (with_reducible refine Ext.drewN ?_ _) | (with_reducible refine Ext.drew ?_) | (with_reducible refine Ext.alloc ?_ _) | (with_reducible refine Ext.setCell ?_ (by first | exact Nat.le_refl _ | (simp <;> omega)) _) | (with_reducible refine Ext.trans ?_ (by with_reducible assumption))))⟩
  ·
    go_enter Try.func4, Try.ntmps4
    go_wp2_with fail
    refine (CA.out _).mono ?_
    rintro e w1 ⟨rfl, B1⟩; have B1 : Ext _ _ := B1
    go_wp2_with fail
    refine (CH.out _).mono ?_
    rintro e w2 ⟨rfl, B2⟩; have B2 : Ext _ _ := B2
    have hB : Ext w w2 := (by repeat (first | (with_reducible exact Ext.refl _) | (with_reducible assumption) | (with_reducible refine Ext.drewN ?_ _) | (with_reducible refine Ext.drew ?_) | (with_reducible refine Ext.alloc ?_ _) | (with_reducible refine Ext.setCell ?_ (by first | exact Nat.le_refl _ | (simp <;> omega)) _) | (with_reducible refine Ext.trans ?_ (by with_reducible assumption))))
    have hS := hB.size
    go_wp2_with fail
    refine (CG.out _ _ _ _ _ _ (HB.out _ _ _ _ (by omega))).mono ?_
    rintro e w3 ⟨v3, rfl, R3, B3⟩
    have B3 : Ext _ _ := B3
    obtain ⟨A3, c3, rfl, hc3, D3⟩ := Kd.R_reads R3
    clear R3 D3
    go_wp2_with fail
    refine (CD.out A3 c3 _ (Kd.C_none _ _ _) hc3).mono ?_
    rintro e w4 ⟨rfl, B4⟩; have B4 : Ext _ _ := B4
    go_wp2_with fail
    refine (CN.out _).mono ?_
    rintro e w5 ⟨rfl, B5⟩
    go_wp2
    go_ret
    exact ⟨rfl, (by repeat (first | (with_reducible exact Ext.refl _) | (with_reducible assumption) | (with_reducible refine Ext.drewN ?_ _) | (with_reducible refine Ext.drew ?_) | (with_reducible refine Ext.alloc ?_ _) | (with_reducible refine Ext.setCell ?_ (by first | exact Nat.le_refl _ | (simp <;> omega)) _) | (with_reducible refine Ext.trans ?_ (by with_reducible assumption))))⟩
  · rcases M6.out with hq | hq | hq | hq | hq | hq
    all_goals
      go_enter Try.func4, Try.ntmps4
      go_wp2_with fail
      refine (CA.out _).mono ?_
      rintro e w1 ⟨rfl, B1⟩; have B1 : Ext _ _ := B1
      go_wp2_with fail
      refine (CH.out _).mono ?_
      rintro e w2 ⟨rfl, B2⟩; have B2 : Ext _ _ := B2
      have hB : Ext w w2 := (by repeat (first | (with_reducible exact Ext.refl _) | (with_reducible assumption) | (with_reducible refine Ext.drewN ?_ _) | (with_reducible refine Ext.drew ?_) | (with_reducible refine Ext.alloc ?_ _) | (with_reducible refine Ext.setCell ?_ (by first | exact Nat.le_refl _ | (simp <;> omega)) _) | (with_reducible refine Ext.trans ?_ (by with_reducible assumption))))
      have hS := hB.size
      go_wp2_with fail
      refine (CG.out _ _ _ _ _ _ (HB.out _ _ _ _ (by omega))).mono ?_
      rintro e w3 ⟨v3, rfl, R3, B3⟩
      have B3 : Ext _ _ := B3
      obtain ⟨A3, c3, rfl, hc3, D3⟩ := Kd.R_reads R3
      clear R3 D3
      go_wp2_with fail
      refine (CD.out A3 c3 _ (Kd.C_none _ _ _) hc3).mono ?_
      rintro e w4 ⟨rfl, B4⟩; have B4 : Ext _ _ := B4
      go_wp2_with fail
      refine (CN.out _).mono ?_
      rintro e w5 ⟨rfl, B5⟩
      go_wp2
      go_ret
      exact ⟨rfl, (by repeat (first | (with_reducible exact Ext.refl _) | (with_reducible assumption) | (with_reducible refine Ext.drewN ?_ _) | (with_reducible refine Ext.drew ?_) | (with_reducible refine Ext.alloc ?_ _) | (with_reducible refine Ext.setCell ?_ (by first | exact Nat.le_refl _ | (simp <;> omega)) _) | (with_reducible refine Ext.trans ?_ (by with_reducible assumption))))⟩
  all_goals
    go_enter Try.func4, Try.ntmps4
    go_wp2_with fail
    refine (CA.out _).mono ?_
    rintro e w1 ⟨rfl, B1⟩; have B1 : Ext _ _ := B1
    go_wp2_with fail
    refine (CH.out _).mono ?_
    rintro e w2 ⟨rfl, B2⟩; have B2 : Ext _ _ := B2
    have hB : Ext w w2 := (by repeat (first | (with_reducible exact Ext.refl _) | (with_reducible assumption) | (with_reducible refine Ext.drewN ?_ _) | (with_reducible refine Ext.drew ?_) | (with_reducible refine Ext.alloc ?_ _) | (with_reducible refine Ext.setCell ?_ (by first | exact Nat.le_refl _ | (simp <;> omega)) _) | (with_reducible refine Ext.trans ?_ (by with_reducible assumption))))
    have hS := hB.size
    go_wp2_with fail
    refine (CG.out _ _ _ _ _ _ (HB.out _ _ _ _ (by omega))).mono ?_
    rintro e w3 ⟨v3, rfl, R3, B3⟩
    have B3 : Ext _ _ := B3
    obtain ⟨A3, c3, rfl, hc3, D3⟩ := Kd.R_reads R3
    clear R3 D3
    go_wp2_with fail
    refine (CD.out A3 c3 _ (Kd.C_none _ _ _) hc3).mono ?_
    rintro e w4 ⟨rfl, B4⟩; have B4 : Ext _ _ := B4
    go_wp2_with fail
    refine (CN.out _).mono ?_
    rintro e w5 ⟨rfl, B5⟩
    go_wp2
    go_ret
    exact ⟨rfl, (by repeat (first | (with_reducible exact Ext.refl _) | (with_reducible assumption) | (with_reducible refine Ext.drewN ?_ _) | (with_reducible refine Ext.drew ?_) | (with_reducible refine Ext.alloc ?_ _) | (with_reducible refine Ext.setCell ?_ (by first | exact Nat.le_refl _ | (simp <;> omega)) _) | (with_reducible refine Ext.trans ?_ (by with_reducible assumption))))⟩

end Go.Proofs.Ytmidohjfajbpmaa
end
section
set_option linter.unusedVariables false
set_option linter.unusedSimpArgs false
set_option maxHeartbeats 4000000
namespace Go.Proofs.Ytmidohjfajbpmaa
open Go.RowKit Skiff Go.Proofs.YtmidohjfajbpmaaW.PrintWords Go.Proofs.YtmidohjfajbpmaaW.PrintMore O

set_option maxRecDepth 100000 in
theorem uploadShort_walk (x : Int) (f1 : (Lit.int .i64 x).wf = true) (w : World) :
    Calls Try.prog 7 #[.int .i64 x] w fun e w' => e = .returned (.bool true) ∧ Ext w w' := by
  obtain ⟨n, hn, hn2⟩ : ∃ k : Nat, wrap64 ((IntKind.u64.wrap x).tmod 33) = (k : Int) ∧ k < 33 := mod_nat x 33 (by omega) (by omega)
  have h1 := give_at heldF abT heldP held_size best_held image_held 0 0 0 (by omega) (by omega) (by omega) 0 n (by omega) (by omega) 999 (by omega)
  have h2 := give_at heldF abT heldP held_size best_held image_held 6 0 1 (by omega) (by omega) (by omega) 1 n (by omega) (by omega) 999 (by omega)
  have d1 := sameDev_big 0 0 0 0 0 [] 999 (by simp) (by simp)
  have p2 := piece_past abT 1 n (by rw [ab_size]; decide)
  have e0 : nextOf 0 (0 : Int) = 0 := rfl
  have e1 : nextOf 6 (1 : Int) = 1 := rfl
  rw [e0, if_pos rfl, given_small _ _ _ _ _ _ _ (by rw [ab_size]; decide)] at h1
  rw [e1, if_pos rfl, given_small _ _ _ _ _ _ _ (by rw [ab_size]; decide)] at h2
  have p1 : (pieceOf abT 0 n).toList = (abT.extract 0 (min 12 n)).toList := by
    unfold pieceOf
    rw [show min (32 * (0 : Int).toNat) abT.size = 0 by rw [ab_size]; decide, Nat.zero_add, Int.toNat_natCast, ← ab_size]
    have := ext_min abT 0 n
    rw [Nat.zero_add] at this
    rw [this]
  have CA := Lib.hid (fun w => P.skifflaw20_awake.calls 999 true w (awake20 999 (by omega)))
  have CH := Lib.hid (fun w => P.skifflaw20_held.calls 999 heldF w (held20 999 (by omega)))
  have C1 := Lib.hid (fun w => P.upload_Give.calls 999 heldF 0 0 0 0 0 none 0 [] 0 n _ _ _ _ _ _ _ _ w (Kd.C_nil _ _) (Nat.le_refl _) h1)
  have C2 := Lib.hid (fun w => P.upload_Give.calls 999 heldF 6 0 1 0 0 none 0 [] 1 n _ _ _ _ _ _ _ _ w (Kd.C_nil _ _) (Nat.le_refl _) h2)
  have CN := Lib.hid (fun w => (P.skifflaw0_Num.calls 0 0 w rfl).mono fun e w' ⟨he, hd⟩ => (⟨he, hd.below⟩ : e = Ending.returned (.int .i64 0) ∧ Ext w w'))
  have CD := Lib.hid (fun A c w hr hc => P.skifflaw0_SameDevice.calls 999 0 0 0 0 0 A c [] 0 0 0 0 0 none 0 [] true w hr hc (Kd.C_nil _ _) (Nat.le_refl _) d1)
  clear h1 h2 d1 e0 e1
  have t2 : ((pieceOf abT 1 n).toList == ([] : List UInt8)) = true := by rw [p2]; rfl
  clear p2
  generalize pieceOf abT 1 n = s2 at *
  have ht : ∃ m : Nat, m = min 12 n ∧ ((pieceOf abT 0 n).toList == ((⟨#[97, 98, 97, 98, 97, 98, 97, 98, 97, 98, 97, 98]⟩ : ByteArray).extract 0 m).toList) = true := ⟨_, rfl, by rw [p1]; exact beq_iff_eq.2 rfl⟩
  clear p1
  generalize pieceOf abT 0 n = s1 at *
  obtain ⟨m, hm, t1⟩ := ht
  obtain ⟨h12, rfl⟩ | ⟨h12, rfl⟩ : ((n : Int) < 12 ∧ m = n) ∨ (¬ (n : Int) < 12 ∧ m = 12) := by omega
  all_goals
    clear hm
    go_enter Try.func7, Try.ntmps7
    go_wp2_with fail
    refine (CA.out _).mono ?_
    rintro e w1 ⟨rfl, B1⟩; have B1 : Ext _ _ := B1
    go_wp2_with fail
    refine (CH.out _).mono ?_
    rintro e w2 ⟨rfl, B2⟩; have B2 : Ext _ _ := B2
    go_wp2_with fail
    refine (C1.out _).mono ?_
    rintro e w3 ⟨v3, rfl, R3, B3⟩
    have B3 : Ext _ _ := B3
    obtain ⟨A3, c3, rfl, hc3, D3⟩ := Kd.R_reads R3
    go_wp2_with fail
    refine (CH.out _).mono ?_
    rintro e w4 ⟨rfl, B4⟩; have B4 : Ext _ _ := B4
    go_wp2_with fail
    refine (C2.out _).mono ?_
    rintro e w5 ⟨v5, rfl, R5, B5⟩
    have B5 : Ext _ _ := B5
    obtain ⟨A5, c5, rfl, hc5, D5⟩ := Kd.R_reads R5
    have q5 := B5.blk B4.box
    go_wp2_with fail
    refine (CN.out _).mono ?_
    rintro e w6 ⟨rfl, B6⟩
    obtain ⟨y0, y1, y2, y3, y4, y5⟩ := box6 (B6.pre.blk q5)
    go_wp2_with fail
    refine (CD.out A3 c3 _ (Kd.C_none _ _ _) hc3).mono ?_
    rintro e w7 ⟨rfl, B7⟩; have B7 : Ext _ _ := B7
    go_wp2_with fail
    refine (CN.out _).mono ?_
    rintro e w8 ⟨rfl, B8⟩
    obtain ⟨z0, z1, z2, z3, z4, z5⟩ := box6 (B8.blk (B7.blk B6.box))
    go_wp2_with fail
    refine (CD.out A5 c5 _ (Kd.C_none _ _ _) hc5).mono ?_
    rintro e w9 ⟨rfl, B9⟩; have B9 : Ext _ _ := B9
    go_wp2
    go_ret
    exact ⟨rfl, (by repeat (first | (with_reducible exact Ext.refl _) | (with_reducible assumption) | (with_reducible refine Ext.drewN ?_ _) | (with_reducible refine Ext.drew ?_) | (with_reducible refine Ext.alloc ?_ _) | (with_reducible refine Ext.setCell ?_ (by first | exact Nat.le_refl _ | (simp <;> omega)) _) | (with_reducible refine Ext.trans ?_ (by with_reducible assumption))))⟩

end Go.Proofs.Ytmidohjfajbpmaa
end
section
set_option linter.unusedVariables false
set_option linter.unusedSimpArgs false
set_option maxHeartbeats 4000000
namespace Go.Proofs.Ytmidohjfajbpmaa
open Go.RowKit Skiff Go.Proofs.YtmidohjfajbpmaaW.PrintWords

/-- The same bytes from a to b. -/
def Pt (x f : ByteArray) (a b : Nat) : Prop := ∀ q, a ≤ q → q < b → (bl x).getD q 0 = (bl f).getD q 0
theorem Pt.extract {x f : ByteArray} {a b : Nat} (h : Pt x f a b) (hx : x.size = 768) (hf : f.size = 768) {i j : Nat} (hi : a ≤ i) (hj : j ≤ b) : x.extract i j = f.extract i j := by
  refine bl_inj ?_
  rw [bl_extract, bl_extract]
  refine List.ext_getElem? fun n => ?_
  rw [List.getElem?_take, List.getElem?_take]
  by_cases hn : n < j - i
  · rw [if_pos hn, if_pos hn, List.getElem?_drop, List.getElem?_drop]
    have hlx : (bl x).length = 768 := by rw [bl_length, hx]
    have hlf : (bl f).length = 768 := by rw [bl_length, hf]
    by_cases hb : i + n < 768
    · have := h (i + n) (by omega) (by omega)
      rw [List.getD_eq_getElem?_getD, List.getD_eq_getElem?_getD, List.getElem?_eq_getElem (by omega), List.getElem?_eq_getElem (by omega)] at this
      rw [List.getElem?_eq_getElem (by omega), List.getElem?_eq_getElem (by omega)]
      exact congrArg some this
    · rw [List.getElem?_eq_none (by omega), List.getElem?_eq_none (by omega)]
  · rw [if_neg hn, if_neg hn]
theorem scan_pt {x f : ByteArray} (h : Pt x f 0 192) (hx : x.size = 768) (hf : f.size = 768) : ∀ n, n ≤ 8 → scanTo x n = scanTo f n
  | 0, _ => rfl
  | n + 1, hn => by
    rw [scanTo, scanTo, scan_pt h hx hf n (by omega)]
    congr 1
    unfold pls slotAt
    rw [h.extract hx hf (Nat.zero_le _) (by omega)]
theorem good_pt {x f : ByteArray} {s : Nat} (h : Pt x f (192 + 288 * s) (480 + 288 * s)) (hx : x.size = 768) (hf : f.size = 768) {q : Plc} (hq : imageMay f (recOf q) = true) (hs : q.f1.f1 = (s : Int)) : goodAt x q = goodAt f q := by
  have hm := recMay_iff.1 (Bool.and_eq_true_iff.1 hq).2
  have e : (recOf q).slot = (s : Int) := hs
  unfold goodAt goodB image
  rw [h.extract hx hf (by rw [e]; omega) (by rw [e]; omega)]
/-- What was active stays so, if all that is good now is it, or less. -/
theorem stays {x f : ByteArray} {s : Nat} {p : Plc} (h0 : Pt x f 0 192) (h : Pt x f (192 + 288 * s) (480 + 288 * s)) (hx : x.size = 768) (hf : f.size = 768) (hp : best f = some p) (hs : p.f1.f1 = (s : Int)) (hq : ∀ q ∈ scanTo x 8, goodAt x q = true → pkey q ≤ pkey p) : best x = some p := by
  have hB := best_of f _ _ rfl hp
  have hX := best_of x
  have hsc := scan_pt h0 hx hf 8 (Nat.le_refl _)
  have hats := ats_scan x
  have hasc := scanTo_asc x 8
  have hpx : goodAt x p = true := by rw [good_pt h hx hf (scan_may hf hB.1) hs]; exact hB.2.1
  have hpm : p ∈ scanTo x 8 := by rw [hsc]; exact hB.1
  generalize scanTo x 8 = l at hX hats hasc hq hpm
  generalize best x = b at hX
  exact best_unique hats hasc (hX l b rfl rfl) (show Hp.Best pkey (goodAt x) l (some p) from ⟨hpm, hpx, hq⟩)

/-- A piece of a flash turned. -/
def turnX (f s : ByteArray) (b : Nat) : ByteArray := (f.extract 0 b ++ s) ++ f.extract (b + s.size) f.size
theorem turnX_size {f s : ByteArray} {b : Nat} (hf : f.size = 768) (h : b + s.size ≤ 768) : (turnX f s b).size = 768 := by
  unfold turnX
  rw [ByteArray.size_append, ByteArray.size_append, ByteArray.size_extract, ByteArray.size_extract]
  omega
theorem turnX_bl {f s : ByteArray} {b : Nat} (hf : f.size = 768) : bl (turnX f s b) = ((bl f).take b ++ bl s) ++ (bl f).drop (b + s.size) := by
  have hlf : (bl f).length = 768 := by rw [bl_length, hf]
  unfold turnX
  rw [← mk_bl (f.extract 0 b), ← mk_bl (f.extract (b + s.size) f.size)]
  conv => lhs; rw [← mk_bl s]
  rw [← mk_append, ← mk_append, bl_mk, bl_extract, bl_extract, List.drop_zero, Nat.sub_zero, hf, List.take_of_length_le (l := (bl f).drop _) (by rw [List.length_drop]; omega), mk_bl]
theorem turnX_pt {f s : ByteArray} {b : Nat} (hf : f.size = 768) (h : b + s.size ≤ 768) (c d : Nat) (hcd : d ≤ b ∨ b + s.size ≤ c) : Pt (turnX f s b) f c d := fun q h1 h2 => by
  have hlf : (bl f).length = 768 := by rw [bl_length, hf]
  have hls : (bl s).length = s.size := bl_length s
  rw [turnX_bl hf, List.getD_eq_getElem?_getD, List.getD_eq_getElem?_getD]
  congr 1
  rcases hcd with hd | hd
  · rw [List.append_assoc, List.getElem?_append_left (by rw [List.length_take]; omega), List.getElem?_take, if_pos (by omega)]
  · rw [List.getElem?_append_right (by rw [List.length_append, List.length_take]; omega), List.length_append, List.length_take, List.getElem?_drop]
    congr 1
    omega

def neP (q p : Plc) : Bool := !(q.f0 == p.f0) || (!(q.f1.f0 == p.f1.f0) || (!(q.f1.f1 == p.f1.f1) || (!(q.f1.f2 == p.f1.f2) || !(q.f1.f3 == p.f1.f3))))
theorem neP_false {q p : Plc} (h : neP q p = false) : q = p := by
  obtain ⟨a, b, c, d, e⟩ := q
  obtain ⟨a', b', c', d', e'⟩ := p
  unfold neP at h
  simp at h
  obtain ⟨rfl, rfl, rfl, rfl, rfl⟩ := h
  rfl

end Go.Proofs.Ytmidohjfajbpmaa
end
section
namespace Go.Proofs.Ytmidohjfajbpmaa.P
open Go.RowKit Go.Proofs.YtmidohjfajbpmaaW.PrintWords Go.Proofs.YtmidohjfajbpmaaW.PrintLast Go.Proofs.YtmidohjfajbpmaaW.PrintMore
attribute [local go_sem] max2_int min2_int max_two min_two max_three min_three max_four min_four   -- for this text's walks alone
set_option linter.unusedVariables false
set_option linter.unusedSimpArgs false

theorem eqA41 (d : Nat) (w : World) (x0 y0 : Int) (x1 y1 : Int) (x2 y2 : Int) (x3 y3 : Int) :
  (Op.equalIn (d + 2) 41 (.agg #[.int .i64 x0, .int .i64 x1, .int .i64 x2, .int .i64 x3]) (.agg #[.int .i64 y0, .int .i64 y1, .int .i64 y2, .int .i64 y3])).run Try.prog w = .ok (x0 == y0 && (x1 == y1 && (x2 == y2 && (x3 == y3)))) w := by
 refine eqA_of Try.underlying41 (by kernel_rfl) ?_
 refine eqf_cons (by rfl) (by go_simp; rfl) (by go_simp; rfl) (by go_simp) ?_
 refine eqf_cons (by rfl) (by go_simp; rfl) (by go_simp; rfl) (by go_simp) ?_
 refine eqf_cons (by rfl) (by go_simp; rfl) (by go_simp; rfl) (by go_simp) ?_
 exact eqf_last (by rfl) (by go_simp; rfl) (by go_simp; rfl) (by go_simp)
theorem eqA43 (d : Nat) (w : World) (x0 y0 : Int) (x1 y1 : Int) (x2 y2 : Int) (x3 y3 : Int) (x4 y4 : Int) :
  (Op.equalIn (d + 3) 43 (.agg #[.int .i64 x0, .int .i64 x1, .int .i64 x2, .int .i64 x3, .int .i64 x4]) (.agg #[.int .i64 y0, .int .i64 y1, .int .i64 y2, .int .i64 y3, .int .i64 y4])).run Try.prog w = .ok (x0 == y0 && ((x1 == y1 && (x2 == y2 && (x3 == y3 && (x4 == y4)))))) w := by
 refine eqA_of Try.underlying43 (by kernel_rfl) ?_
 refine eqf_cons (by rfl) (by go_simp; rfl) (by go_simp; rfl) (by go_simp) ?_
 exact eqf_last (by rfl) (by go_simp) (by go_simp) (eqA41 (d + 0) w _ _ _ _ _ _ _ _)
end Go.Proofs.Ytmidohjfajbpmaa.P
end
section
set_option linter.unusedVariables false
set_option linter.unusedSimpArgs false
set_option maxHeartbeats 4000000
namespace Go.Proofs.Ytmidohjfajbpmaa
open Go.RowKit Skiff Go.Proofs.YtmidohjfajbpmaaW.PrintWords Go.Proofs.YtmidohjfajbpmaaW.PrintMore O
attribute [local go_sem high] P.eqA43
attribute [local go_sem] min_two_int

theorem size_img {f : ByteArray} {p : Plc} (hf : f.size = 768) (h : best f = some p) : ((image f (recOf p)).size : Int) = p.f1.f2 ∧ 0 ≤ p.f1.f2 := by
  have hm := goodAt_may hf h
  rw [image_size hm]
  unfold imageMay at hm
  have := recMay_iff.1 (Bool.and_eq_true_iff.1 hm).2
  have h2 : (recOf p).size = p.f1.f2 := rfl
  omega
theorem act_none {f : ByteArray} (h : ¬ (f.size = 768 ∧ ∃ p, best f = some p)) : actTup f = (0, 0, 0, 0, 0, 700) ∨ actTup f = (0, 0, 0, 0, 0, 701) := by
  unfold actTup
  by_cases hf : f.size = 768
  · rw [if_pos hf]
    cases hb : best f with
    | none => exact .inr rfl
    | some p => exact absurd ⟨hf, p, hb⟩ h
  · rw [if_neg hf]; exact .inl rfl
theorem act_some {f : ByteArray} {p : Plc} (hf : f.size = 768) (h : best f = some p) : actTup f = (p.f0, p.f1.f0, p.f1.f1, p.f1.f2, p.f1.f3, 0) := by
  unfold actTup
  rw [if_pos hf, h]; rfl
set_option maxRecDepth 100000 in
theorem elder_none (f s : ByteArray) (h : actTup f = (0, 0, 0, 0, 0, 700) ∨ actTup f = (0, 0, 0, 0, 0, 701)) (w : World) :
    Calls Try.prog 8 #[.string f, .string s] w fun e w' => e = .returned (.bool true) ∧ Ext w w' := by
  have CA := Lib.hid (fun w => P.skifflaw20_awake.calls 999 true w (awake20 999 (by omega)))
  rcases h with h | h
  all_goals
    have C1 := Lib.hid (fun w => P.skiffref1_Active.calls 999 f _ _ _ _ _ _ w ((ract_f f 999 (by omega)).trans (congrArg some h)))
    clear h
    go_enter Try.func8, Try.ntmps8
    go_wp2_with fail
    refine (CA.out _).mono ?_
    rintro e w1 ⟨rfl, B1⟩; have B1 : Ext _ _ := B1
    go_wp2_with fail
    refine (C1.out _).mono ?_
    rintro e w2 ⟨rfl, B2⟩; have B2 : Ext _ _ := B2
    go_wp2
    go_ret
    exact ⟨rfl, (by repeat (first | (with_reducible exact Ext.refl _) | (with_reducible assumption) | (with_reducible refine Ext.drewN ?_ _) | (with_reducible refine Ext.drew ?_) | (with_reducible refine Ext.alloc ?_ _) | (with_reducible refine Ext.setCell ?_ (by first | exact Nat.le_refl _ | (simp <;> omega)) _) | (with_reducible refine Ext.trans ?_ (by with_reducible assumption))))⟩
set_option maxRecDepth 100000 in
theorem elder_long (f s : ByteArray) (p : Plc) (hf : f.size = 768) (hp : best f = some p) (hs : (s.size : Int) > 288) (w : World) :
    Calls Try.prog 8 #[.string f, .string s] w fun e w' => e = .returned (.bool true) ∧ Ext w w' := by
  have CA := Lib.hid (fun w => P.skifflaw20_awake.calls 999 true w (awake20 999 (by omega)))
  have C1 := Lib.hid (fun w => P.skiffref1_Active.calls 999 f _ _ _ _ _ _ w ((ract_f f 999 (by omega)).trans (congrArg some (act_some hf hp))))
  have t1 : decide ((s.size : Int) > 288) = true := decide_eq_true hs
  clear hs hf hp
  go_enter Try.func8, Try.ntmps8
  go_wp2_with fail
  refine (CA.out _).mono ?_
  rintro e w1 ⟨rfl, B1⟩; have B1 : Ext _ _ := B1
  go_wp2_with fail
  refine (C1.out _).mono ?_
  rintro e w2 ⟨rfl, B2⟩; have B2 : Ext _ _ := B2
  go_wp2
  go_ret
  exact ⟨rfl, (by repeat (first | (with_reducible exact Ext.refl _) | (with_reducible assumption) | (with_reducible refine Ext.drewN ?_ _) | (with_reducible refine Ext.drew ?_) | (with_reducible refine Ext.alloc ?_ _) | (with_reducible refine Ext.setCell ?_ (by first | exact Nat.le_refl _ | (simp <;> omega)) _) | (with_reducible refine Ext.trans ?_ (by with_reducible assumption))))⟩
set_option maxRecDepth 100000 in
theorem elder_go (f s : ByteArray) (p : Plc) (hf : f.size = 768) (hp : best f = some p) (hs : ¬ (s.size : Int) > 288) (w : World) :
    Calls Try.prog 8 #[.string f, .string s] w fun e w' => e = .returned (.bool true) ∧ Ext w w' := by
  have hb := best_slot f (some p) hp p rfl
  obtain ⟨n, hn, hn2⟩ : ∃ n : Nat, p.f1.f1 = (n : Int) ∧ n < 2 := ⟨p.f1.f1.toNat, by omega, by omega⟩
  obtain ⟨b, hb2⟩ : ∃ b : Nat, b = 480 - 288 * n := ⟨_, rfl⟩
  have e2 : baseOf (1 - (n : Int)) = ((b : Int), 0) := by
    unfold baseOf
    rw [if_pos (Skiff.within_iff.2 (by omega))]
    exact Prod.ext (by show (_ : Int) = (b : Int); omega) rfl
  have CA := Lib.hid (fun w => P.skifflaw20_awake.calls 999 true w (awake20 999 (by omega)))
  have C1 := Lib.hid (fun w => P.skiffref1_Active.calls 999 f _ _ _ _ _ _ w ((ract_f f 999 (by omega)).trans (congrArg some (act_some hf hp))))
  have CB := Lib.hid (fun w => (P.skiffref1_Base.calls (1 - (n : Int)) b 0 w ((rbase_f _).trans (congrArg some e2))).mono fun e w' ⟨he, hd⟩ => (⟨he, hd.below⟩ : e = Ending.returned (.tuple #[.int .i64 b, .int .i64 0]) ∧ Ext w w'))
  rw [hn] at C1
  have hbs : b + s.size ≤ 768 := by omega
  have hx := turnX_size (b := b) hf hbs
  have hP := turnX_pt (b := b) hf hbs (192 + 288 * n) (480 + 288 * n) (by omega)
  have t1 : decide ((s.size : Int) > 288) = false := decide_eq_false hs
  have g1 : IntKind.i64.wrap ((b : Int) + (s.size : Int)) = ((b + s.size : Nat) : Int) := by rw [wrap_i64_fit _ (by omega) (by omega)]; omega
  have g2 : (0 : Int) ≤ (b : Int) := by omega
  have g3 : ((b : Int) ≤ (f.size : Int)) := by omega
  have g4 : (0 : Int) ≤ ((b + s.size : Nat) : Int) := by omega
  have g5 : ((b + s.size : Nat) : Int) ≤ (f.size : Int) := by omega
  have z1 : (f.extract 0 b).size = b := by rw [ByteArray.size_extract]; omega
  have z2 : ((f.extract 0 b) ++ s).size = b + s.size := by rw [ByteArray.size_append, z1]
  have z3 : (f.extract (b + s.size) f.size).size = 768 - (b + s.size) := by rw [ByteArray.size_extract]; omega
  have HP := Lib.hid (And.intro hx hP)
  clear e2 hb2 hb hP hx
  go_enter Try.func8, Try.ntmps8
  go_wp2_with fail
  refine (CA.out _).mono ?_
  rintro e w1 ⟨rfl, B1⟩; have B1 : Ext _ _ := B1
  go_wp2_with fail
  refine (C1.out _).mono ?_
  rintro e w2 ⟨rfl, B2⟩; have B2 : Ext _ _ := B2
  go_wp2_with fail
  refine (CB.out _).mono ?_
  rintro e w3 ⟨rfl, B3⟩
  go_wp2_with fail
  go_quiet (fail)
  have hX : (f.extract 0 b ++ s) ++ f.extract (b + s.size) 768 = turnX f s b := by unfold turnX; rw [hf]
  rw [hX]
  clear hX z1 z2 z3 g1 g2 g3 g4 g5
  generalize turnX f s b = x at *
  obtain ⟨hx, hP⟩ := HP.out
  have HPt := Lib.hid hP
  clear HP hP
  cases hq : best x with
  | none =>
    have ha : actTup x = (0, 0, 0, 0, 0, 701) := by unfold actTup; rw [if_pos hx, hq]; rfl
    have CX := Lib.hid (fun w => P.skiffref1_Active.calls 999 x _ _ _ _ _ _ w ((ract_f x 999 (by omega)).trans (congrArg some ha)))
    clear hq ha hx
    go_wp2_with fail
    refine (CX.out _).mono ?_
    rintro e w4 ⟨rfl, B4⟩; have B4 : Ext _ _ := B4
    go_wp2
    go_ret
    exact ⟨rfl, (by repeat (first | (with_reducible exact Ext.refl _) | (with_reducible assumption) | (with_reducible refine Ext.drewN ?_ _) | (with_reducible refine Ext.drew ?_) | (with_reducible refine Ext.alloc ?_ _) | (with_reducible refine Ext.setCell ?_ (by first | exact Nat.le_refl _ | (simp <;> omega)) _) | (with_reducible refine Ext.trans ?_ (by with_reducible assumption))))⟩
  | some q =>
    have CX := Lib.hid (fun w => P.skiffref1_Active.calls 999 x _ _ _ _ _ _ w ((ract_f x 999 (by omega)).trans (congrArg some (act_some hx hq))))
    have HX := Lib.hid hx
    have HQ := Lib.hid hq
    clear hq hx
    go_wp2_with fail
    refine (CX.out _).mono ?_
    rintro e w4 ⟨rfl, B4⟩; have B4 : Ext _ _ := B4
    have q4 := B4.blk (((Ext.refl _).drewN _).blk B3.box)
    go_upto_region 9 with (fail)
    generalize hW : World.alloc w4 _ = w5
    have q5 : w5.heap[w4.heap.size]? = _ := hW ▸ blk_new w4 _
    have B5 : Ext w4 w5 := hW ▸ (Ext.refl w4).alloc _
    have p5 := B5.blk q4
    have EW : Ext w w4 := (by repeat (first | (with_reducible exact Ext.refl _) | (with_reducible assumption) | (with_reducible refine Ext.drewN ?_ _) | (with_reducible refine Ext.drew ?_) | (with_reducible refine Ext.alloc ?_ _) | (with_reducible refine Ext.setCell ?_ (by first | exact Nat.le_refl _ | (simp <;> omega)) _) | (with_reducible refine Ext.trans ?_ (by with_reducible assumption))))
    have EW5 := EW.trans B5
    clear B5 q4
    clear hW
    obtain ⟨y0, y1, y2, y3, y4⟩ := box5 p5
    obtain ⟨z0, z1, z2, z3, z4⟩ := box5 q5
    have hne : (q.f0 == p.f0 && ((q.f1.f0 == p.f1.f0 && (q.f1.f1 == (n : Int) && (q.f1.f2 == p.f1.f2 && (q.f1.f3 == p.f1.f3)))))) = !neP q p := by rw [← hn]; unfold neP; simp only [Bool.not_or, Bool.not_not]
    cases hnp : neP q p with
    | true =>
      rw [hnp] at hne
      have hne : _ = false := hne
      clear hnp hn
      go_wp2
      go_ret
      exact ⟨rfl, (by repeat (first | (with_reducible exact Ext.refl _) | (with_reducible assumption) | (with_reducible refine Ext.drewN ?_ _) | (with_reducible refine Ext.drew ?_) | (with_reducible refine Ext.alloc ?_ _) | (with_reducible refine Ext.setCell ?_ (by first | exact Nat.le_refl _ | (simp <;> omega)) _) | (with_reducible refine Ext.trans ?_ (by with_reducible assumption))))⟩
    | false =>
      obtain rfl := neP_false hnp
      clear hnp hne
      have hm := goodAt_may hf hp
      have hzi := image_le hf hp
      rw [image_size hm] at hzi
      have hi : image x (recOf q) = image f (recOf q) := by
        unfold image
        have e : (recOf q).slot.toNat = n := by show q.f1.f1.toNat = n; omega
        rw [e]
        exact HPt.out.extract HX.out hf (by omega) (by omega)
      have k1 := give_at f _ q hf hp rfl 0 0 0 (by omega) (by omega) (by omega) 0 32 (by omega) (by omega) 999 (by omega)
      have k2 := give_at x _ q HX.out HQ.out hi 0 0 0 (by omega) (by omega) (by omega) 0 32 (by omega) (by omega) 999 (by omega)
      obtain ⟨hz, hz0⟩ := size_img hf hp
      have hh := held20 999 (by omega)
      have CN := Lib.hid (fun w => (P.skifflaw0_Num.calls 0 0 w rfl).mono fun e w' ⟨he, hd⟩ => (⟨he, hd.below⟩ : e = Ending.returned (.int .i64 0) ∧ Ext w w'))
      have CH := Lib.hid (fun w => P.skifflaw20_held.calls 999 heldF w (held20 999 (by omega)))
      have hs7 : ((heldF.size : Int) == 768) = true := by rw [held_size]; rfl
      generalize image f (recOf q) = img at *
      have e0 : nextOf 0 (0 : Int) = 0 := rfl
      rw [e0, if_pos rfl] at k1 k2
      have hpz : (((pieceOf img 0 32).size : Int) == imin 32 q.f1.f2) = true := by
        rw [imin_eq, beq_iff_eq]
        unfold pieceOf
        rw [ByteArray.size_extract]
        show ((min (min (32 * 0) img.size + 32) img.size - min (32 * 0) img.size : Nat) : Int) = _
        omega
      generalize heldF = H at *
      unfold given at k1 k2
      clear hm hzi hi hz hz0 hh e0 hf hp HX HQ HPt CA C1 CB CX
      by_cases hc : (pieceOf img 0 32).size < 32
      · rw [if_pos hc] at k1 k2
        generalize pieceOf img 0 32 = pc at *
        have C3 := Lib.hid (fun w => P.upload_Give.calls 999 f 0 0 0 0 0 none 0 [] 0 32 _ _ _ _ _ _ _ _ w (Kd.C_nil _ _) (Nat.le_refl _) k1)
        have C4 := Lib.hid (fun w => P.upload_Give.calls 999 x 0 0 0 0 0 none 0 [] 0 32 _ _ _ _ _ _ _ _ w (Kd.C_nil _ _) (Nat.le_refl _) k2)
        have CD := Lib.hid (fun A c A2 c2 w hr hc hr2 hc2 => P.skifflaw0_SameDevice.calls 999 0 0 0 0 0 A c [] 0 0 0 0 0 A2 c2 [] true w hr hc hr2 hc2 (sameDev_big 0 0 0 0 0 [] 999 (by simp) (by simp)))
        clear k1 k2 hc
        go_wp2_with fail
        refine (C3.out _).mono ?_
        rintro e w6 ⟨v6, rfl, R6, B6⟩
        have B6 : Ext _ _ := B6
        obtain ⟨A6, c6, rfl, hc6, D6⟩ := Kd.R_reads R6
        have p6 := B6.blk p5
        clear y0 y1 y2 y3 y4 z0 z1 z2 z3 z4
        go_wp2_with fail
        refine (C4.out _).mono ?_
        rintro e w7 ⟨v7, rfl, R7, B7⟩
        have B7 : Ext _ _ := B7
        obtain ⟨A7, c7, rfl, hc7, D7⟩ := Kd.R_reads R7
        have p7 := B7.pre.blk p6
        have q7 := B7.box
        go_wp2_with fail
        refine (CN.out _).mono ?_
        rintro e w8 ⟨rfl, B8⟩
        go_wp2_with fail
        refine (CN.out _).mono ?_
        rintro e w9 ⟨rfl, B9⟩
        have F9 := B8.pre.trans B9
        obtain ⟨z0, z1, z2, z3, z4, z5⟩ := box6 (F9.blk q7)
        obtain ⟨u0, u1, u2, u3, u4, u5⟩ := box6 (B9.blk B8.box)
        obtain ⟨y0, y1, y2, y3, y4⟩ := box5 (F9.blk p7)
        go_wp2_with fail
        refine (CD.out A6 c6 A7 c7 _ (Kd.C_none _ _ _) hc6 (Kd.C_none _ _ _) hc7).mono ?_
        rintro e w10 ⟨rfl, B10⟩; have B10 : Ext _ _ := B10
        obtain ⟨y0, y1, y2, y3, y4⟩ := box5 (B10.blk (F9.blk p7))
        go_wp2_with fail
        refine (CH.out _).mono ?_
        rintro e w11 ⟨rfl, B11⟩; have B11 : Ext _ _ := B11
        go_wp2
        go_ret
        exact ⟨rfl, (by repeat (first | (with_reducible exact Ext.refl _) | (with_reducible assumption) | (with_reducible refine Ext.drewN ?_ _) | (with_reducible refine Ext.drew ?_) | (with_reducible refine Ext.alloc ?_ _) | (with_reducible refine Ext.setCell ?_ (by first | exact Nat.le_refl _ | (simp <;> omega)) _) | (with_reducible refine Ext.trans ?_ (by with_reducible assumption))))⟩
      · rw [if_neg hc] at k1 k2
        generalize pieceOf img 0 32 = pc at *
        have C3 := Lib.hid (fun w => P.upload_Give.calls 999 f 0 0 0 0 0 none 0 [] 0 32 _ _ _ _ _ _ _ _ w (Kd.C_nil _ _) (Nat.le_refl _) k1)
        have C4 := Lib.hid (fun w => P.upload_Give.calls 999 x 0 0 0 0 0 none 0 [] 0 32 _ _ _ _ _ _ _ _ w (Kd.C_nil _ _) (Nat.le_refl _) k2)
        have CD := Lib.hid (fun A c A2 c2 w hr hc hr2 hc2 => P.skifflaw0_SameDevice.calls 999 6 0 (min (0 + 1) 16) 0 0 A c [] 6 0 (min (0 + 1) 16) 0 0 A2 c2 [] true w hr hc hr2 hc2 (sameDev_big 6 0 (min (0 + 1) 16) 0 0 [] 999 (by simp) (by simp)))
        clear k1 k2 hc
        go_wp2_with fail
        refine (C3.out _).mono ?_
        rintro e w6 ⟨v6, rfl, R6, B6⟩
        have B6 : Ext _ _ := B6
        obtain ⟨A6, c6, rfl, hc6, D6⟩ := Kd.R_reads R6
        have p6 := B6.blk p5
        clear y0 y1 y2 y3 y4 z0 z1 z2 z3 z4
        go_wp2_with fail
        refine (C4.out _).mono ?_
        rintro e w7 ⟨v7, rfl, R7, B7⟩
        have B7 : Ext _ _ := B7
        obtain ⟨A7, c7, rfl, hc7, D7⟩ := Kd.R_reads R7
        have p7 := B7.pre.blk p6
        have q7 := B7.box
        go_wp2_with fail
        refine (CN.out _).mono ?_
        rintro e w8 ⟨rfl, B8⟩
        go_wp2_with fail
        refine (CN.out _).mono ?_
        rintro e w9 ⟨rfl, B9⟩
        have F9 := B8.pre.trans B9
        obtain ⟨z0, z1, z2, z3, z4, z5⟩ := box6 (F9.blk q7)
        obtain ⟨u0, u1, u2, u3, u4, u5⟩ := box6 (B9.blk B8.box)
        obtain ⟨y0, y1, y2, y3, y4⟩ := box5 (F9.blk p7)
        go_wp2_with fail
        refine (CD.out A6 c6 A7 c7 _ (Kd.C_none _ _ _) hc6 (Kd.C_none _ _ _) hc7).mono ?_
        rintro e w10 ⟨rfl, B10⟩; have B10 : Ext _ _ := B10
        obtain ⟨y0, y1, y2, y3, y4⟩ := box5 (B10.blk (F9.blk p7))
        go_wp2_with fail
        refine (CH.out _).mono ?_
        rintro e w11 ⟨rfl, B11⟩; have B11 : Ext _ _ := B11
        go_wp2
        go_ret
        exact ⟨rfl, (by repeat (first | (with_reducible exact Ext.refl _) | (with_reducible assumption) | (with_reducible refine Ext.drewN ?_ _) | (with_reducible refine Ext.drew ?_) | (with_reducible refine Ext.alloc ?_ _) | (with_reducible refine Ext.setCell ?_ (by first | exact Nat.le_refl _ | (simp <;> omega)) _) | (with_reducible refine Ext.trans ?_ (by with_reducible assumption))))⟩

theorem uploadElder_walk (f s : ByteArray) (hf : f.size ≤ 140737488351232) (hs : s.size ≤ 140737488351232) (w : World) :
    Calls Try.prog 8 #[.string f, .string s] w fun e w' => e = .returned (.bool true) ∧ Ext w w' := by
  by_cases h : f.size = 768 ∧ ∃ p, best f = some p
  · obtain ⟨h8, p, hp⟩ := h
    by_cases h2 : (s.size : Int) > 288
    · exact elder_long f s p h8 hp h2 w
    · exact elder_go f s p h8 hp h2 w
  · exact elder_none f s (act_none h) w

end Go.Proofs.Ytmidohjfajbpmaa
end
