/- ImageTurned. -/
import Derived.Test.YtbibmdnjidmchaaImgL
set_option linter.unusedVariables false
set_option linter.unusedSimpArgs false
set_option maxHeartbeats 4000000
namespace Go.Proofs.Ytbibmdnjidmchaa
open Go.RowKit Skiff Go.Proofs.YtbibmdnjidmchaaW.PrintWords

/-- The flash with a text laid in. -/
def laid (b : Nat) (s : ByteArray) : ByteArray := (mk flash0).extract 0 b ++ s ++ (mk flash0).extract (b + s.size) 768
theorem flash0_size : (mk flash0).size = 768 := by rw [mk_size, flash0_length]
theorem laid_bl (b : Nat) (s : ByteArray) : bl (laid b s) = flash0.take b ++ bl s ++ (flash0.drop (b + s.size)).take (768 - (b + s.size)) := by
  unfold laid
  rw [bl_append, bl_append, bl_extract, bl_extract, bl_mk]; rfl
theorem laid_size (b : Nat) (s : ByteArray) (h : b + s.size ≤ 768) : (laid b s).size = 768 := by
  unfold laid
  rw [ByteArray.size_append, ByteArray.size_append, ByteArray.size_extract, ByteArray.size_extract, flash0_size]
  omega
/-- What stands in a piece of it, a byte turned or not. -/
theorem piece (l : List UInt8) (b n : Nat) (h : b + n ≤ l.length) (k : Nat) (c : UInt8) : ((l.set (b + k) c).drop b).take n = ((l.drop b).take n).set k c := by
  rw [List.drop_set, if_neg (by omega), List.take_set, Nat.add_sub_cancel_left]
theorem laid_piece (b : Nat) (s : ByteArray) (h : b + s.size ≤ 768) : ((bl (laid b s)).drop b).take s.size = bl s := by
  have l1 : (flash0.take b).length = b := by rw [List.length_take, flash0_length]; omega
  rw [laid_bl, List.append_assoc, List.drop_append, l1, Nat.sub_self, List.drop_of_length_le (by omega), List.nil_append, List.drop_zero, List.take_append_of_le_length (by rw [bl_length]; exact Nat.le_refl _), List.take_of_length_le (by rw [bl_length]; exact Nat.le_refl _)]
theorem set_sum (l : List UInt8) (k : Nat) (c : UInt8) (hk : k < l.length) (hc : c ≠ l.getD k 0) : crcSum (l.set k c) ≠ crcSum l := by
  intro e
  have h1 : l = l.take k ++ l[k] :: l.drop (k + 1) := by rw [← List.drop_eq_getElem_cons hk, List.take_append_drop]
  have h2 : l.set k c = l.take k ++ c :: l.drop (k + 1) := by rw [List.set_eq_take_append_cons_drop, if_pos hk]
  rw [h2] at e
  have e2 : crcSum (l.take k ++ c :: l.drop (k + 1)) = crcSum (l.take k ++ l[k] :: l.drop (k + 1)) := by rw [← h1]; exact e
  have := crcSum_byte _ _ _ _ e2
  rw [List.getD_eq_getElem?_getD, List.getElem?_eq_getElem hk] at hc
  exact hc this
theorem igood_calls (f : ByteArray) (r : Rec) (w : World) : Calls Try.prog 11 #[.string f, (.agg #[.int .i64 r.seq, .int .i64 r.slot, .int .i64 r.size, .int .i64 r.sum])] w fun e w' => e = .returned (.tuple #[.bool (goodPair f r).1, .int .i64 (goodPair f r).2]) ∧ Ext w w' :=
  P.image_Good.calls f r.seq r.slot r.size r.sum _ _ w (good_f f r)
theorem iof_calls (f : ByteArray) (r : Rec) (w : World) : Calls Try.prog 9 #[.string f, (.agg #[.int .i64 r.seq, .int .i64 r.slot, .int .i64 r.size, .int .i64 r.sum])] w fun e w' => e = .returned (.tuple #[.string (imagePair f r).1, .int .i64 (imagePair f r).2]) ∧ Ext w w' :=
  P.image_Of.calls f r.seq r.slot r.size r.sum _ _ w (of_f f r)
theorem awake6_calls (w : World) : Calls Try.prog 14 #[] w fun e w' => e = .returned (.bool true) ∧ Ext w w' :=
  P.skifflaw6_awake.calls 300 true w awake6_f

theorem turned_facts (n : Nat) (hn : n < 2) (s : ByteArray) (h0 : 1 ≤ s.size) (h1 : s.size ≤ 288) (k : Nat) (hk : k < 288) (c : UInt8) (hc : c ≠ (bl (laid (192 + 288 * n) s)).getD (192 + 288 * n + k) 0) :
    goodPair (laid (192 + 288 * n) s) ⟨1, n, s.size, (crcSum (bl s) : Nat)⟩ = (true, 0) ∧ imagePair (laid (192 + 288 * n) s) ⟨1, n, s.size, (crcSum (bl s) : Nat)⟩ = (s, 0) ∧
    goodPair (mk ((bl (laid (192 + 288 * n) s)).set (192 + 288 * n + k) c)) ⟨1, n, s.size, (crcSum (bl s) : Nat)⟩ = (decide (s.size ≤ k), 0) := by
  have hL := laid_size (192 + 288 * n) s (by omega)
  have hm : recMay ⟨1, n, s.size, (crcSum (bl s) : Nat)⟩ = true := by
    have := crcSum_lt (bl s)
    rw [recMay_iff]; simp only; omega
  have m1 : imageMay (laid (192 + 288 * n) s) ⟨1, n, s.size, (crcSum (bl s) : Nat)⟩ = true := by unfold imageMay; rw [hL, hm]; rfl
  have hi : bl (image (laid (192 + 288 * n) s) ⟨1, n, s.size, (crcSum (bl s) : Nat)⟩) = bl s := by
    unfold image
    rw [bl_extract]
    simp only [Int.toNat_natCast]
    rw [show 192 + 288 * n + s.size - (192 + 288 * n) = s.size by omega]
    exact laid_piece _ s (by omega)
  have m2 : imageMay (mk ((bl (laid (192 + 288 * n) s)).set (192 + 288 * n + k) c)) ⟨1, n, s.size, (crcSum (bl s) : Nat)⟩ = true := by unfold imageMay; rw [mk_size, List.length_set, bl_length, hL, hm]; rfl
  have hi2 : bl (image (mk ((bl (laid (192 + 288 * n) s)).set (192 + 288 * n + k) c)) ⟨1, n, s.size, (crcSum (bl s) : Nat)⟩) = (bl s).set k c := by
    unfold image
    rw [bl_extract, bl_mk]
    simp only [Int.toNat_natCast]
    rw [show 192 + 288 * n + s.size - (192 + 288 * n) = s.size by omega, piece _ _ _ (by rw [bl_length, hL]; omega), laid_piece _ s (by omega)]
  refine ⟨?_, ?_, ?_⟩
  · unfold goodPair goodB
    rw [m1, hi]; simp
  · unfold imagePair
    rw [m1]
    simp only [if_true]
    rw [bl_inj hi]
  · unfold goodPair goodB
    rw [m2, hi2]
    simp only [if_true]
    congr 1
    by_cases hks : s.size ≤ k
    · rw [List.set_eq_of_length_le (by rw [bl_length]; exact hks), decide_eq_true hks]; simp
    · rw [decide_eq_false hks, beq_eq_false_iff_ne]
      intro e
      have e : crcSum ((bl s).set k c) = crcSum (bl s) := by omega
      refine set_sum (bl s) k c (by rw [bl_length]; omega) ?_ e
      have hg : (bl (laid (192 + 288 * n) s)).getD (192 + 288 * n + k) 0 = (bl s).getD k 0 := by
        rw [← laid_piece (192 + 288 * n) s (by omega)]
        rw [List.getD_eq_getElem?_getD, List.getD_eq_getElem?_getD, List.getElem?_take, if_pos (by omega), List.getElem?_drop]
      rw [← hg]; exact hc

set_option maxRecDepth 100000 in
theorem imageTurned_walk (s : ByteArray) (slot at_ by_ : Int) (hs : s.size ≤ 140737488351232) (f1 : (Lit.int .i64 slot).wf = true) (f2 : (Lit.int .i64 at_).wf = true) (f3 : (Lit.int .i64 by_).wf = true) (w : World) :
    Calls Try.prog 5 #[.string s, .int .i64 slot, .int .i64 at_, .int .i64 by_] w fun e w' => e = .returned (.bool true) ∧ Ext w w' := by
  obtain ⟨n, hn, hn2⟩ : ∃ k : Nat, bits .and .i64 slot 1 = (k : Int) ∧ k < 2 := and_mask slot f1 1 (by omega)
  obtain ⟨b, hb, hb2⟩ : ∃ k : Nat, bits .and .i64 by_ 127 = (k : Int) ∧ k < 128 := and_mask by_ f3 7 (by omega)
  obtain ⟨k, hk, hk2⟩ : ∃ k : Nat, wrap64 ((IntKind.u64.wrap at_).tmod 288) = (k : Int) ∧ k < 288 := mod_nat at_ 288 (by omega) (by omega)
  by_cases h0 : 1 ≤ s.size
  case neg =>
    have q1 : decide ((s.size : Int) < 1) = true := decide_eq_true (by omega)
    go_enter Try.func5, Try.ntmps5
    go_wp2_with fail
    refine (awake6_calls _).mono ?_
    rintro e w1 ⟨rfl, B1⟩
    go_wp2
    go_ret
    exact ⟨rfl, (by repeat (first | (with_reducible exact Ext.refl _) | (with_reducible assumption) | (with_reducible refine Ext.drewN ?_ _) | (with_reducible refine Ext.drew ?_) | (with_reducible refine Ext.alloc ?_ _) | (with_reducible refine Ext.setCell ?_ (by first | exact Nat.le_refl _ | (simp <;> omega)) _) | (with_reducible refine Ext.trans ?_ (by with_reducible assumption))))⟩
  by_cases h1 : s.size ≤ 288
  case neg =>
    have q1 : decide ((s.size : Int) < 1) = false := decide_eq_false (by omega)
    have q2 : decide ((s.size : Int) > 288) = true := decide_eq_true (by omega)
    go_enter Try.func5, Try.ntmps5
    go_wp2_with fail
    refine (awake6_calls _).mono ?_
    rintro e w1 ⟨rfl, B1⟩
    go_wp2
    go_ret
    exact ⟨rfl, (by repeat (first | (with_reducible exact Ext.refl _) | (with_reducible assumption) | (with_reducible refine Ext.drewN ?_ _) | (with_reducible refine Ext.drew ?_) | (with_reducible refine Ext.alloc ?_ _) | (with_reducible refine Ext.setCell ?_ (by first | exact Nat.le_refl _ | (simp <;> omega)) _) | (with_reducible refine Ext.trans ?_ (by with_reducible assumption))))⟩
  have ns : n = 0 ∨ n = 1 := by omega
  rcases ns with rfl | rfl
  · have q0 : ((s.size : Int) < 1) = False := eq_false (by omega)
    have q1 : decide ((s.size : Int) < 1) = false := decide_eq_false (by omega)
    have q2 : decide ((s.size : Int) > 288) = false := decide_eq_false (by omega)
    obtain ⟨F1, F2, F3⟩ := turned_facts 0 (by omega) s h0 h1 k hk2 (((bl (laid (192 + 288 * 0) s)).getD (192 + 288 * 0 + k) 0) ^^^ UInt8.ofNat (1 + b)) (xor_ne _ b hb2)
    have G1 := Lib.hid (igood_calls (laid (192 + 288 * 0) s) ⟨1, (0 : Nat), s.size, (crcSum (bl s) : Nat)⟩)
    have G2 := Lib.hid (iof_calls (laid (192 + 288 * 0) s) ⟨1, (0 : Nat), s.size, (crcSum (bl s) : Nat)⟩)
    have G3 := Lib.hid (igood_calls (mk ((bl (laid (192 + 288 * 0) s)).set (192 + 288 * 0 + k) (((bl (laid (192 + 288 * 0) s)).getD (192 + 288 * 0 + k) 0) ^^^ UInt8.ofNat (1 + b)))) ⟨1, (0 : Nat), s.size, (crcSum (bl s) : Nat)⟩)
    rw [F1] at G1
    rw [F2] at G2
    rw [F3] at G3
    clear F1 F2 F3
    have hxor := xor_byte ((bl (laid (192 + 288 * 0) s)).getD (192 + 288 * 0 + k) 0) b hb2
    have hF := laid_size (192 + 288 * 0) s (by omega)
    have HX2 : Hid ((laid (192 + 288 * 0) s).data.toList = bl (laid (192 + 288 * 0) s)) := rfl
    have HE : Hid ((mk flash0).extract 0 (192 + 288 * 0) ++ s ++ (mk flash0).extract (192 + 288 * 0 + s.size) 768 = laid (192 + 288 * 0) s) := rfl
    have hfl := flash0_size
    have PB := Lib.hid (fun w => rblank_calls w)
    have PC := Lib.hid (fun w => ref_crc_calls s w (by omega))
    rw [show s.data.toList = bl s from rfl] at PC
    have hpl : (bl (laid (192 + 288 * 0) s)).length = 768 := by rw [bl_length, hF]
    simp only [Nat.reduceMul, Nat.reduceAdd, Int.natCast_zero, Int.natCast_one, Nat.mul_zero, Nat.add_zero] at G1 G2 G3 hxor hF HX2 HE hpl
    generalize mk flash0 = F0 at *
    generalize laid (192) s = F at *
    generalize hL : bl F = L at *
    clear hL
    obtain ⟨c0, hc0⟩ : ∃ c0, L.getD (192 + k) 0 = c0 := ⟨_, rfl⟩
    rw [hc0] at hxor G3
    have HC0 := Lib.hid hc0
    clear hc0
    generalize c0 ^^^ UInt8.ofNat (1 + b) = c1 at hxor G3
    have kc := fun (w : World) => Lib.run_convert_string_bytes (P := Try.prog) w 9 45 5 F Try.underlying9 Try.underlying45 Try.underlying5
    generalize ((crcSum (bl s) : Nat) : Int) = C at *
    go_enter Try.func5, Try.ntmps5
    go_wp2_with fail
    refine (awake6_calls _).mono ?_
    rintro e w1 ⟨rfl, B1⟩
    go_wp2_with fail
    refine (PB.out _).mono ?_
    rintro e w2 ⟨rfl, B2⟩
    have c0_ : ((192 : Nat) : Int) + (s.size : Int) ≤ 768 := by omega
    have c1_ : IntKind.i64.wrap (192 + (s.size : Int)) = 192 + (s.size : Int) := wrap_i64_fit _ (by omega) (by omega)
    have c2_ : 0 ≤ 192 + (s.size : Int) ∧ 192 + (s.size : Int) ≤ 768 := by omega
    have c3_ : (192 + (s.size : Int)).toNat = 192 + s.size := by omega
    have s1_ : (F0.extract 0 192).size = 192 := by rw [ByteArray.size_extract, hfl]; omega
    have s2_ : (F0.extract (192 + s.size) 768).size = 768 - (192 + s.size) := by rw [ByteArray.size_extract, hfl]; omega
    have s3_ : ¬ (9223372036854775807 < 192 + s.size) := by omega
    have s4_ : ¬ (9223372036854775807 < 192 + s.size + (768 - (192 + s.size))) := by omega
    go_wp2
    go_region
    rw [HE.out]
    go_wp2_with fail
    refine (PC.out _).mono ?_
    rintro e w1 ⟨rfl, rfl⟩
    go_wp2_with fail
    refine (G1.out _).mono ?_
    rintro e w3 ⟨rfl, B3⟩
    have x_r3 : Ext ((w2.alloc (.cells #[.int .i64 1, .int .i64 0, .int .i64 (s.size : Int), .int .i64 C] 23)).drew) (w3) := (by repeat (first | (with_reducible exact Ext.refl _) | (with_reducible assumption) | (with_reducible refine Ext.drewN ?_ _) | (with_reducible refine Ext.drew ?_) | (with_reducible refine Ext.alloc ?_ _) | (with_reducible refine Ext.setCell ?_ (by first | exact Nat.le_refl _ | (simp <;> omega)) _) | (with_reducible refine Ext.trans ?_ (by with_reducible assumption))))
    have k0_r3 : World.cell? (w3) ⟨w2.heap.size, 0, none⟩ = some (.int .i64 1) := Ext.cell x_r3 (by first | (simp; done) | (simp; omega))
    have k1_r3 : World.cell? (w3) ⟨w2.heap.size, 1, none⟩ = some (.int .i64 0) := Ext.cell x_r3 (by first | (simp; done) | (simp; omega))
    have k2_r3 : World.cell? (w3) ⟨w2.heap.size, 2, none⟩ = some (.int .i64 (s.size : Int)) := Ext.cell x_r3 (by first | (simp; done) | (simp; omega))
    have k3_r3 : World.cell? (w3) ⟨w2.heap.size, 3, none⟩ = some (.int .i64 C) := Ext.cell x_r3 (by first | (simp; done) | (simp; omega))
    have f_r3 : ∀ i, World.frozen? (w3) ⟨w2.heap.size, i, none⟩ = false := fun i => Ext.free x_r3 (by first | (simp; done) | (simp; omega)) (by first | (simp; done) | (simp; omega))
    clear x_r3
    go_wp2_with fail
    refine (G2.out _).mono ?_
    rintro e w4 ⟨rfl, B4⟩
    have x_r4 : Ext ((w2.alloc (.cells #[.int .i64 1, .int .i64 0, .int .i64 (s.size : Int), .int .i64 C] 23)).drew) (w4) := (by repeat (first | (with_reducible exact Ext.refl _) | (with_reducible assumption) | (with_reducible refine Ext.drewN ?_ _) | (with_reducible refine Ext.drew ?_) | (with_reducible refine Ext.alloc ?_ _) | (with_reducible refine Ext.setCell ?_ (by first | exact Nat.le_refl _ | (simp <;> omega)) _) | (with_reducible refine Ext.trans ?_ (by with_reducible assumption))))
    have k0_r4 : World.cell? (w4) ⟨w2.heap.size, 0, none⟩ = some (.int .i64 1) := Ext.cell x_r4 (by first | (simp; done) | (simp; omega))
    have k1_r4 : World.cell? (w4) ⟨w2.heap.size, 1, none⟩ = some (.int .i64 0) := Ext.cell x_r4 (by first | (simp; done) | (simp; omega))
    have k2_r4 : World.cell? (w4) ⟨w2.heap.size, 2, none⟩ = some (.int .i64 (s.size : Int)) := Ext.cell x_r4 (by first | (simp; done) | (simp; omega))
    have k3_r4 : World.cell? (w4) ⟨w2.heap.size, 3, none⟩ = some (.int .i64 C) := Ext.cell x_r4 (by first | (simp; done) | (simp; omega))
    have f_r4 : ∀ i, World.frozen? (w4) ⟨w2.heap.size, i, none⟩ = false := fun i => Ext.free x_r4 (by first | (simp; done) | (simp; omega)) (by first | (simp; done) | (simp; omega))
    clear x_r4
    have hR := RowB.bytes w4 5 F
    rw [HX2.out] at hR
    have hE := Ext.bytes w4 5 F
    have hcell := hR.cellD (i := 192 + k) (by omega)
    have hfree := hR.free (i := 192 + k) (by omega)
    rw [HC0.out] at hcell
    have hS := (hR.set (192 + k) c1).string (P := Try.prog) 45 5 9 Try.underlying45 Try.underlying5 Try.underlying9 (grownCap w4 768 0 5)
    rw [List.length_set, hpl] at hS
    have hE4 : Ext w4 ((Lib.bytesWorld w4 5 F).setCell ⟨w4.heap.size, 192 + k, none⟩ (.int .u8 (c1.toNat : Int))) := hE.setCell (Nat.le_refl _) _
    have hEE := (show Ext w w4 from (by repeat (first | (with_reducible exact Ext.refl _) | (with_reducible assumption) | (with_reducible refine Ext.drewN ?_ _) | (with_reducible refine Ext.drew ?_) | (with_reducible refine Ext.alloc ?_ _) | (with_reducible refine Ext.setCell ?_ (by first | exact Nat.le_refl _ | (simp <;> omega)) _) | (with_reducible refine Ext.trans ?_ (by with_reducible assumption))))).trans hE4
    clear hR hE
    have d0_ : IntKind.i64.wrap (192 + (k : Int)) = 192 + (k : Int) := wrap_i64_fit _ (by omega) (by omega)
    have d1_ : 0 ≤ 192 + (k : Int) ∧ 192 + (k : Int) < 768 := by omega
    have d2_ : (192 + (k : Int)).toNat = 192 + k := by omega
    have z4 : w2.heap.size < w4.heap.size := by have z := (B3.trans B4).size; simp at z; omega
    have k0_r5 := Ext.cell hE4 k0_r4
    have k1_r5 := Ext.cell hE4 k1_r4
    have k2_r5 := Ext.cell hE4 k2_r4
    have k3_r5 := Ext.cell hE4 k3_r4
    have f_r5 := fun i => Ext.free (a := ⟨w2.heap.size, i, none⟩) hE4 z4 (f_r4 i)
    obtain ⟨z, hz⟩ : ∃ z, decide (s.size ≤ k) = z := ⟨_, rfl⟩
    have hz2 : decide ((s.size : Int) ≤ (k : Int)) = z := by rw [← hz]; exact decide_eq_decide.2 (by omega)
    have hz3 : decide ((k : Int) ≥ (s.size : Int)) = z := hz2
    rw [hz] at G3
    go_wp2_with fail
    refine (G3.out _).mono ?_
    rintro e w6 ⟨rfl, B6⟩
    go_wp2_with fail
    refine (num0_calls _ _).mono ?_
    rintro e w2 ⟨rfl, rfl⟩
    go_wp2_with fail
    refine (num0_calls _ _).mono ?_
    rintro e w3 ⟨rfl, rfl⟩
    go_wp2_with fail
    refine (num0_calls _ _).mono ?_
    rintro e w4 ⟨rfl, rfl⟩
    go_wp2
    go_ret
    exact ⟨rfl, hEE.trans B6⟩
  · have q0 : ((s.size : Int) < 1) = False := eq_false (by omega)
    have q1 : decide ((s.size : Int) < 1) = false := decide_eq_false (by omega)
    have q2 : decide ((s.size : Int) > 288) = false := decide_eq_false (by omega)
    obtain ⟨F1, F2, F3⟩ := turned_facts 1 (by omega) s h0 h1 k hk2 (((bl (laid (192 + 288 * 1) s)).getD (192 + 288 * 1 + k) 0) ^^^ UInt8.ofNat (1 + b)) (xor_ne _ b hb2)
    have G1 := Lib.hid (igood_calls (laid (192 + 288 * 1) s) ⟨1, (1 : Nat), s.size, (crcSum (bl s) : Nat)⟩)
    have G2 := Lib.hid (iof_calls (laid (192 + 288 * 1) s) ⟨1, (1 : Nat), s.size, (crcSum (bl s) : Nat)⟩)
    have G3 := Lib.hid (igood_calls (mk ((bl (laid (192 + 288 * 1) s)).set (192 + 288 * 1 + k) (((bl (laid (192 + 288 * 1) s)).getD (192 + 288 * 1 + k) 0) ^^^ UInt8.ofNat (1 + b)))) ⟨1, (1 : Nat), s.size, (crcSum (bl s) : Nat)⟩)
    rw [F1] at G1
    rw [F2] at G2
    rw [F3] at G3
    clear F1 F2 F3
    have hxor := xor_byte ((bl (laid (192 + 288 * 1) s)).getD (192 + 288 * 1 + k) 0) b hb2
    have hF := laid_size (192 + 288 * 1) s (by omega)
    have HX2 : Hid ((laid (192 + 288 * 1) s).data.toList = bl (laid (192 + 288 * 1) s)) := rfl
    have HE : Hid ((mk flash0).extract 0 (192 + 288 * 1) ++ s ++ (mk flash0).extract (192 + 288 * 1 + s.size) 768 = laid (192 + 288 * 1) s) := rfl
    have hfl := flash0_size
    have PB := Lib.hid (fun w => rblank_calls w)
    have PC := Lib.hid (fun w => ref_crc_calls s w (by omega))
    rw [show s.data.toList = bl s from rfl] at PC
    have hpl : (bl (laid (192 + 288 * 1) s)).length = 768 := by rw [bl_length, hF]
    simp only [Nat.reduceMul, Nat.reduceAdd, Int.natCast_zero, Int.natCast_one, Nat.mul_zero, Nat.add_zero] at G1 G2 G3 hxor hF HX2 HE hpl
    generalize mk flash0 = F0 at *
    generalize laid (480) s = F at *
    generalize hL : bl F = L at *
    clear hL
    obtain ⟨c0, hc0⟩ : ∃ c0, L.getD (480 + k) 0 = c0 := ⟨_, rfl⟩
    rw [hc0] at hxor G3
    have HC0 := Lib.hid hc0
    clear hc0
    generalize c0 ^^^ UInt8.ofNat (1 + b) = c1 at hxor G3
    have kc := fun (w : World) => Lib.run_convert_string_bytes (P := Try.prog) w 9 45 5 F Try.underlying9 Try.underlying45 Try.underlying5
    generalize ((crcSum (bl s) : Nat) : Int) = C at *
    go_enter Try.func5, Try.ntmps5
    go_wp2_with fail
    refine (awake6_calls _).mono ?_
    rintro e w1 ⟨rfl, B1⟩
    go_wp2_with fail
    refine (PB.out _).mono ?_
    rintro e w2 ⟨rfl, B2⟩
    have c0_ : ((480 : Nat) : Int) + (s.size : Int) ≤ 768 := by omega
    have c1_ : IntKind.i64.wrap (480 + (s.size : Int)) = 480 + (s.size : Int) := wrap_i64_fit _ (by omega) (by omega)
    have c2_ : 0 ≤ 480 + (s.size : Int) ∧ 480 + (s.size : Int) ≤ 768 := by omega
    have c3_ : (480 + (s.size : Int)).toNat = 480 + s.size := by omega
    have s1_ : (F0.extract 0 480).size = 480 := by rw [ByteArray.size_extract, hfl]; omega
    have s2_ : (F0.extract (480 + s.size) 768).size = 768 - (480 + s.size) := by rw [ByteArray.size_extract, hfl]; omega
    have s3_ : ¬ (9223372036854775807 < 480 + s.size) := by omega
    have s4_ : ¬ (9223372036854775807 < 480 + s.size + (768 - (480 + s.size))) := by omega
    go_wp2
    go_region
    rw [HE.out]
    go_wp2_with fail
    refine (PC.out _).mono ?_
    rintro e w5 ⟨rfl, rfl⟩
    go_wp2_with fail
    refine (G1.out _).mono ?_
    rintro e w3 ⟨rfl, B3⟩
    have x_r3 : Ext ((w2.alloc (.cells #[.int .i64 1, .int .i64 1, .int .i64 (s.size : Int), .int .i64 C] 23)).drew) (w3) := (by repeat (first | (with_reducible exact Ext.refl _) | (with_reducible assumption) | (with_reducible refine Ext.drewN ?_ _) | (with_reducible refine Ext.drew ?_) | (with_reducible refine Ext.alloc ?_ _) | (with_reducible refine Ext.setCell ?_ (by first | exact Nat.le_refl _ | (simp <;> omega)) _) | (with_reducible refine Ext.trans ?_ (by with_reducible assumption))))
    have k0_r3 : World.cell? (w3) ⟨w2.heap.size, 0, none⟩ = some (.int .i64 1) := Ext.cell x_r3 (by first | (simp; done) | (simp; omega))
    have k1_r3 : World.cell? (w3) ⟨w2.heap.size, 1, none⟩ = some (.int .i64 1) := Ext.cell x_r3 (by first | (simp; done) | (simp; omega))
    have k2_r3 : World.cell? (w3) ⟨w2.heap.size, 2, none⟩ = some (.int .i64 (s.size : Int)) := Ext.cell x_r3 (by first | (simp; done) | (simp; omega))
    have k3_r3 : World.cell? (w3) ⟨w2.heap.size, 3, none⟩ = some (.int .i64 C) := Ext.cell x_r3 (by first | (simp; done) | (simp; omega))
    have f_r3 : ∀ i, World.frozen? (w3) ⟨w2.heap.size, i, none⟩ = false := fun i => Ext.free x_r3 (by first | (simp; done) | (simp; omega)) (by first | (simp; done) | (simp; omega))
    clear x_r3
    go_wp2_with fail
    refine (G2.out _).mono ?_
    rintro e w4 ⟨rfl, B4⟩
    have x_r4 : Ext ((w2.alloc (.cells #[.int .i64 1, .int .i64 1, .int .i64 (s.size : Int), .int .i64 C] 23)).drew) (w4) := (by repeat (first | (with_reducible exact Ext.refl _) | (with_reducible assumption) | (with_reducible refine Ext.drewN ?_ _) | (with_reducible refine Ext.drew ?_) | (with_reducible refine Ext.alloc ?_ _) | (with_reducible refine Ext.setCell ?_ (by first | exact Nat.le_refl _ | (simp <;> omega)) _) | (with_reducible refine Ext.trans ?_ (by with_reducible assumption))))
    have k0_r4 : World.cell? (w4) ⟨w2.heap.size, 0, none⟩ = some (.int .i64 1) := Ext.cell x_r4 (by first | (simp; done) | (simp; omega))
    have k1_r4 : World.cell? (w4) ⟨w2.heap.size, 1, none⟩ = some (.int .i64 1) := Ext.cell x_r4 (by first | (simp; done) | (simp; omega))
    have k2_r4 : World.cell? (w4) ⟨w2.heap.size, 2, none⟩ = some (.int .i64 (s.size : Int)) := Ext.cell x_r4 (by first | (simp; done) | (simp; omega))
    have k3_r4 : World.cell? (w4) ⟨w2.heap.size, 3, none⟩ = some (.int .i64 C) := Ext.cell x_r4 (by first | (simp; done) | (simp; omega))
    have f_r4 : ∀ i, World.frozen? (w4) ⟨w2.heap.size, i, none⟩ = false := fun i => Ext.free x_r4 (by first | (simp; done) | (simp; omega)) (by first | (simp; done) | (simp; omega))
    clear x_r4
    have hR := RowB.bytes w4 5 F
    rw [HX2.out] at hR
    have hE := Ext.bytes w4 5 F
    have hcell := hR.cellD (i := 480 + k) (by omega)
    have hfree := hR.free (i := 480 + k) (by omega)
    rw [HC0.out] at hcell
    have hS := (hR.set (480 + k) c1).string (P := Try.prog) 45 5 9 Try.underlying45 Try.underlying5 Try.underlying9 (grownCap w4 768 0 5)
    rw [List.length_set, hpl] at hS
    have hE4 : Ext w4 ((Lib.bytesWorld w4 5 F).setCell ⟨w4.heap.size, 480 + k, none⟩ (.int .u8 (c1.toNat : Int))) := hE.setCell (Nat.le_refl _) _
    have hEE := (show Ext w w4 from (by repeat (first | (with_reducible exact Ext.refl _) | (with_reducible assumption) | (with_reducible refine Ext.drewN ?_ _) | (with_reducible refine Ext.drew ?_) | (with_reducible refine Ext.alloc ?_ _) | (with_reducible refine Ext.setCell ?_ (by first | exact Nat.le_refl _ | (simp <;> omega)) _) | (with_reducible refine Ext.trans ?_ (by with_reducible assumption))))).trans hE4
    clear hR hE
    have d0_ : IntKind.i64.wrap (480 + (k : Int)) = 480 + (k : Int) := wrap_i64_fit _ (by omega) (by omega)
    have d1_ : 0 ≤ 480 + (k : Int) ∧ 480 + (k : Int) < 768 := by omega
    have d2_ : (480 + (k : Int)).toNat = 480 + k := by omega
    have z4 : w2.heap.size < w4.heap.size := by have z := (B3.trans B4).size; simp at z; omega
    have k0_r5 := Ext.cell hE4 k0_r4
    have k1_r5 := Ext.cell hE4 k1_r4
    have k2_r5 := Ext.cell hE4 k2_r4
    have k3_r5 := Ext.cell hE4 k3_r4
    have f_r5 := fun i => Ext.free (a := ⟨w2.heap.size, i, none⟩) hE4 z4 (f_r4 i)
    obtain ⟨z, hz⟩ : ∃ z, decide (s.size ≤ k) = z := ⟨_, rfl⟩
    have hz2 : decide ((s.size : Int) ≤ (k : Int)) = z := by rw [← hz]; exact decide_eq_decide.2 (by omega)
    have hz3 : decide ((k : Int) ≥ (s.size : Int)) = z := hz2
    rw [hz] at G3
    go_wp2_with fail
    refine (G3.out _).mono ?_
    rintro e w6 ⟨rfl, B6⟩
    go_wp2_with fail
    refine (num0_calls _ _).mono ?_
    rintro e w6 ⟨rfl, rfl⟩
    go_wp2_with fail
    refine (num0_calls _ _).mono ?_
    rintro e w7 ⟨rfl, rfl⟩
    go_wp2_with fail
    refine (num0_calls _ _).mono ?_
    rintro e w8 ⟨rfl, rfl⟩
    go_wp2
    go_ret
    exact ⟨rfl, hEE.trans B6⟩

end Go.Proofs.Ytbibmdnjidmchaa
