/- ImageApart. -/
import Derived.Test.YtbibmdnjidmchaaImgT
set_option linter.unusedVariables false
set_option linter.unusedSimpArgs false
set_option maxHeartbeats 4000000
namespace Go.Proofs.Ytbibmdnjidmchaa
open Go.RowKit Skiff Go.Proofs.YtbibmdnjidmchaaW.PrintWords

theorem ibase_calls (s : Int) (w : World) : Calls Try.prog 7 #[.int .i64 s] w fun e w' => e = .returned (.tuple #[.int .i64 (baseOf s).1, .int .i64 (baseOf s).2]) ∧ Ext w w' :=
  (P.image_Base.calls s _ _ w (base_f s)).mono fun e w' h => ⟨h.1, h.2.below⟩
theorem held6_f : P.skifflaw6_held.f 300 = some (mk (put ⟨1, 0, 12, 3146506012⟩ ++ (List.replicate 168 255 ++ ([97, 98, 97, 98, 97, 98, 97, 98, 97, 98, 97, 98] ++ List.replicate 564 255)))) := by kernel_rfl
theorem held6_calls (w : World) : ∃ H : ByteArray, H.size = 768 ∧ ∀ w, Calls Try.prog 17 #[] w fun e w' => e = .returned (.string H) ∧ Ext w w' :=
  ⟨_, by rw [mk_size]; simp only [List.length_append, put_length, List.length_replicate, List.length_cons, List.length_nil], fun w => P.skifflaw6_held.calls 300 _ w held6_f⟩

theorem set_ne (l : List UInt8) (k : Nat) (c : UInt8) (hk : k < l.length) (hc : c ≠ l.getD k 0) : l.set k c ≠ l := by
  intro e
  have h := congrArg (fun x : List UInt8 => x.getD k 0) e
  simp only [List.getD_eq_getElem?_getD, List.getElem?_set_self hk] at h
  rw [← List.getD_eq_getElem?_getD] at h
  exact hc h
/-- A piece of a row in which one byte is turned. -/
theorem piece_apart (l : List UInt8) (b n : Nat) (h : b + n ≤ l.length) (k : Nat) (c : UInt8) (hc : c ≠ l.getD k 0) :
    decide (((l.set k c).drop b).take n = (l.drop b).take n) = !(decide (b ≤ k) && decide (k < b + n)) := by
  by_cases h1 : b ≤ k
  · obtain ⟨j, rfl⟩ : ∃ j, k = b + j := ⟨k - b, by omega⟩
    rw [piece l b n h j c]
    by_cases h2 : j < n
    · rw [decide_eq_false, decide_eq_true h1, decide_eq_true (by omega : b + j < b + n)]; rfl
      refine set_ne _ _ _ (by simp; omega) ?_
      rw [List.getD_eq_getElem?_getD, List.getElem?_take, if_pos h2, List.getElem?_drop, ← List.getD_eq_getElem?_getD]
      exact hc
    · rw [List.set_eq_of_length_le (by simp; omega), decide_eq_true h1, decide_eq_false (by omega : ¬ b + j < b + n)]; simp
  · rw [List.drop_set, if_pos (by omega), decide_eq_false h1]; simp

theorem apart_facts (f : ByteArray) (q C : Int) (n m k : Nat) (hm : imageMay f ⟨q, n, m, C⟩ = true) (c : UInt8) (hc : c ≠ (bl f).getD k 0) :
    n < 2 ∧ m ≤ 288 ∧ f.size = 768 ∧ imagePair f ⟨q, n, m, C⟩ = (image f ⟨q, n, m, C⟩, 0) ∧ imagePair (mk ((bl f).set k c)) ⟨q, n, m, C⟩ = (image (mk ((bl f).set k c)) ⟨q, n, m, C⟩, 0) ∧
    ((image (mk ((bl f).set k c)) ⟨q, n, m, C⟩).toList == (image f ⟨q, n, m, C⟩).toList) = !(decide (192 + 288 * n ≤ k) && decide (k < 192 + 288 * n + m)) := by
  have hf := of_decide_eq_true (Bool.and_eq_true_iff.1 hm).1
  have hr := recMay_iff.1 (Bool.and_eq_true_iff.1 hm).2
  simp only at hr
  have m2 : imageMay (mk ((bl f).set k c)) ⟨q, n, m, C⟩ = true := by unfold imageMay; rw [mk_size, List.length_set, bl_length, hf, (Bool.and_eq_true_iff.1 hm).2]; rfl
  refine ⟨by omega, by omega, hf, by unfold imagePair; rw [hm]; rfl, by unfold imagePair; rw [m2]; rfl, ?_⟩
  rw [beq_bl]
  unfold image
  simp only [bl_extract, bl_mk, Int.toNat_natCast, show 192 + 288 * n + m - (192 + 288 * n) = m by omega]
  exact piece_apart _ _ _ (by rw [bl_length, hf]; omega) k c hc

set_option maxRecDepth 100000 in
theorem imageApart_walk (f : ByteArray) (r : Rec) (at_ by_ : Int) (hs : f.size ≤ 140737488351232) (f2 : (Lit.int .i64 at_).wf = true) (f3 : (Lit.int .i64 by_).wf = true) (w : World) :
    Calls Try.prog 6 #[.string f, (.agg #[.int .i64 r.seq, .int .i64 r.slot, .int .i64 r.size, .int .i64 r.sum]), .int .i64 at_, .int .i64 by_] w fun e w' => e = .returned (.bool true) ∧ Ext w w' := by
  obtain ⟨b, hb, hb2⟩ : ∃ k : Nat, bits .and .i64 by_ 127 = (k : Int) ∧ k < 128 := and_mask by_ f3 7 (by omega)
  obtain ⟨k, hk, hk2⟩ : ∃ k : Nat, wrap64 ((IntKind.u64.wrap at_).tmod 768) = (k : Int) ∧ k < 768 := mod_nat at_ 768 (by omega) (by omega)
  have he : (⟨#[]⟩ : ByteArray).toList = [] := by decide +kernel
  have P1 := Lib.hid (fun w => ibase_calls 0 w)
  have P2 := Lib.hid (fun w => ibase_calls 1 w)
  rw [show baseOf 0 = (192, 0) from rfl] at P1
  rw [show baseOf 1 = (480, 0) from rfl] at P2
  obtain ⟨H, hH, PH0⟩ := held6_calls w
  have PH := Lib.hid PH0
  clear PH0
  cases hm : imageMay f r
  · have G2 := Lib.hid (iof_calls f r)
    unfold imagePair at G2
    rw [hm] at G2
    simp only [Bool.false_eq_true, if_false] at G2
    clear hm
    go_enter Try.func6, Try.ntmps6
    go_wp2_with fail
    refine (awake6_calls _).mono ?_
    rintro e w1 ⟨rfl, B1⟩
    go_wp2_with fail
    refine (P1.out _).mono ?_
    rintro e w2 ⟨rfl, B2⟩
    go_wp2_with fail
    refine (P2.out _).mono ?_
    rintro e w3 ⟨rfl, B3⟩
    have x_r3 : Ext (w.alloc (.cells #[.int .i64 r.seq, .int .i64 r.slot, .int .i64 r.size, .int .i64 r.sum] 23)) (w3) := (by repeat (first | (with_reducible exact Ext.refl _) | (with_reducible assumption) | (with_reducible refine Ext.drewN ?_ _) | (with_reducible refine Ext.drew ?_) | (with_reducible refine Ext.alloc ?_ _) | (with_reducible refine Ext.setCell ?_ (by first | exact Nat.le_refl _ | (simp <;> omega)) _) | (with_reducible refine Ext.trans ?_ (by with_reducible assumption))))
    have k0_r3 : World.cell? (w3) ⟨w.heap.size, 0, none⟩ = some (.int .i64 r.seq) := Ext.cell x_r3 (by first | (simp; done) | (simp; omega))
    have k1_r3 : World.cell? (w3) ⟨w.heap.size, 1, none⟩ = some (.int .i64 r.slot) := Ext.cell x_r3 (by first | (simp; done) | (simp; omega))
    have k2_r3 : World.cell? (w3) ⟨w.heap.size, 2, none⟩ = some (.int .i64 r.size) := Ext.cell x_r3 (by first | (simp; done) | (simp; omega))
    have k3_r3 : World.cell? (w3) ⟨w.heap.size, 3, none⟩ = some (.int .i64 r.sum) := Ext.cell x_r3 (by first | (simp; done) | (simp; omega))
    have f_r3 : ∀ i, World.frozen? (w3) ⟨w.heap.size, i, none⟩ = false := fun i => Ext.free x_r3 (by first | (simp; done) | (simp; omega)) (by first | (simp; done) | (simp; omega))
    clear x_r3
    go_wp2_with fail
    refine (G2.out _).mono ?_
    rintro e w4 ⟨rfl, B4⟩
    go_wp2_with fail
    refine (num0_calls _ _).mono ?_
    rintro e w1 ⟨rfl, rfl⟩
    go_wp2_with fail
    refine (num0_calls _ _).mono ?_
    rintro e w2 ⟨rfl, rfl⟩
    go_wp2_with fail
    refine (num0_calls _ _).mono ?_
    rintro e w3 ⟨rfl, rfl⟩
    go_wp2
    go_ret
    exact ⟨rfl, (by repeat (first | (with_reducible exact Ext.refl _) | (with_reducible assumption) | (with_reducible refine Ext.drewN ?_ _) | (with_reducible refine Ext.drew ?_) | (with_reducible refine Ext.alloc ?_ _) | (with_reducible refine Ext.setCell ?_ (by first | exact Nat.le_refl _ | (simp <;> omega)) _) | (with_reducible refine Ext.trans ?_ (by with_reducible assumption))))⟩
  have hr := recMay_iff.1 (Bool.and_eq_true_iff.1 hm).2
  obtain ⟨q, n, m, C⟩ := r
  simp only at hr
  obtain ⟨m, rfl⟩ := Int.eq_ofNat_of_zero_le (by omega : 0 ≤ m)
  obtain ⟨n, rfl⟩ := Int.eq_ofNat_of_zero_le (by omega : 0 ≤ n)
  have ns : n = 0 ∨ n = 1 := by omega
  have hb0 : bits .and .i64 0 1 = 0 := by decide
  have hb1 : bits .and .i64 1 1 = 1 := by decide
  clear hr
  rcases ns with rfl | rfl
  · have hxor := xor_byte ((bl f).getD k 0) b hb2
    obtain ⟨F1, F2, F3, F4, F5, F6⟩ := apart_facts f q C 0 m k hm ((bl f).getD k 0 ^^^ UInt8.ofNat (1 + b)) (xor_ne _ b hb2)
    have G2 := Lib.hid (iof_calls f ⟨q, (0 : Nat), m, C⟩)
    have G3 := Lib.hid (iof_calls (mk ((bl f).set k ((bl f).getD k 0 ^^^ UInt8.ofNat (1 + b)))) ⟨q, (0 : Nat), m, C⟩)
    rw [F4] at G2
    rw [F5] at G3
    clear F4 F5
    generalize image f ⟨q, (0 : Nat), m, C⟩ = S at *
    generalize image (mk ((bl f).set k ((bl f).getD k 0 ^^^ UInt8.ofNat (1 + b)))) ⟨q, (0 : Nat), m, C⟩ = T at *
    have hpl : (bl f).length = 768 := by rw [bl_length, F3]
    have HX2 : Hid (f.data.toList = bl f) := rfl
    obtain ⟨c0, hc0⟩ : ∃ c0, (bl f).getD k 0 = c0 := ⟨_, rfl⟩
    rw [hc0] at hxor G3
    have HC0 := Lib.hid hc0
    clear hc0
    generalize c0 ^^^ UInt8.ofNat (1 + b) = c1 at hxor G3
    have kc := fun (w : World) => Lib.run_convert_string_bytes (P := Try.prog) w 9 45 5 f Try.underlying9 Try.underlying45 Try.underlying5
    rw [F3] at kc
    clear hm
    have FM := Lib.hid (fun w => flashMay_calls f w)
    rw [decide_eq_true F3] at FM
    by_cases hk1 : 192 ≤ k
    · by_cases hk3 : k < 192 + m
      · have s1 : decide ((k : Int) ≥ 192) = true := decide_eq_true (by omega)
        have s2 : decide ((k : Int) < 192 + (m : Int)) = true := decide_eq_true (by omega)
        have s3 : decide (192 + 288 * 0 ≤ k) = true := decide_eq_true (by omega)
        have s4 : decide (k < 192 + 288 * 0 + m) = true := decide_eq_true (by omega)
        rw [s3, s4] at F6
        simp only [Bool.true_and, Bool.and_true, Bool.false_and, Bool.and_false, Bool.not_true, Bool.not_false] at F6
        clear s3 s4
        simp only [Int.natCast_zero, Int.natCast_one] at G2 G3
        go_enter Try.func6, Try.ntmps6
        go_wp2_with fail
        refine (awake6_calls _).mono ?_
        rintro e w1 ⟨rfl, B1⟩
        go_wp2_with fail
        refine (P1.out _).mono ?_
        rintro e w2 ⟨rfl, B2⟩
        go_wp2_with fail
        refine (P2.out _).mono ?_
        rintro e w3 ⟨rfl, B3⟩
        have x_r3 : Ext (w.alloc (.cells #[.int .i64 q, .int .i64 0, .int .i64 (m : Int), .int .i64 C] 23)) (w3) := (by repeat (first | (with_reducible exact Ext.refl _) | (with_reducible assumption) | (with_reducible refine Ext.drewN ?_ _) | (with_reducible refine Ext.drew ?_) | (with_reducible refine Ext.alloc ?_ _) | (with_reducible refine Ext.setCell ?_ (by first | exact Nat.le_refl _ | (simp <;> omega)) _) | (with_reducible refine Ext.trans ?_ (by with_reducible assumption))))
        have k0_r3 : World.cell? (w3) ⟨w.heap.size, 0, none⟩ = some (.int .i64 q) := Ext.cell x_r3 (by first | (simp; done) | (simp; omega))
        have k1_r3 : World.cell? (w3) ⟨w.heap.size, 1, none⟩ = some (.int .i64 0) := Ext.cell x_r3 (by first | (simp; done) | (simp; omega))
        have k2_r3 : World.cell? (w3) ⟨w.heap.size, 2, none⟩ = some (.int .i64 (m : Int)) := Ext.cell x_r3 (by first | (simp; done) | (simp; omega))
        have k3_r3 : World.cell? (w3) ⟨w.heap.size, 3, none⟩ = some (.int .i64 C) := Ext.cell x_r3 (by first | (simp; done) | (simp; omega))
        have f_r3 : ∀ i, World.frozen? (w3) ⟨w.heap.size, i, none⟩ = false := fun i => Ext.free x_r3 (by first | (simp; done) | (simp; omega)) (by first | (simp; done) | (simp; omega))
        clear x_r3
        go_wp2_with fail
        refine (G2.out _).mono ?_
        rintro e w4 ⟨rfl, B4⟩
        go_wp2_with fail
        refine (num0_calls _ _).mono ?_
        rintro e w4 ⟨rfl, rfl⟩
        go_wp2_with fail
        refine (num0_calls _ _).mono ?_
        rintro e w5 ⟨rfl, rfl⟩
        go_wp2_with fail
        refine (num0_calls _ _).mono ?_
        rintro e w6 ⟨rfl, rfl⟩
        have x_r4 : Ext (w.alloc (.cells #[.int .i64 q, .int .i64 0, .int .i64 (m : Int), .int .i64 C] 23)) (w4) := (by repeat (first | (with_reducible exact Ext.refl _) | (with_reducible assumption) | (with_reducible refine Ext.drewN ?_ _) | (with_reducible refine Ext.drew ?_) | (with_reducible refine Ext.alloc ?_ _) | (with_reducible refine Ext.setCell ?_ (by first | exact Nat.le_refl _ | (simp <;> omega)) _) | (with_reducible refine Ext.trans ?_ (by with_reducible assumption))))
        have k0_r4 : World.cell? (w4) ⟨w.heap.size, 0, none⟩ = some (.int .i64 q) := Ext.cell x_r4 (by first | (simp; done) | (simp; omega))
        have k1_r4 : World.cell? (w4) ⟨w.heap.size, 1, none⟩ = some (.int .i64 0) := Ext.cell x_r4 (by first | (simp; done) | (simp; omega))
        have k2_r4 : World.cell? (w4) ⟨w.heap.size, 2, none⟩ = some (.int .i64 (m : Int)) := Ext.cell x_r4 (by first | (simp; done) | (simp; omega))
        have k3_r4 : World.cell? (w4) ⟨w.heap.size, 3, none⟩ = some (.int .i64 C) := Ext.cell x_r4 (by first | (simp; done) | (simp; omega))
        have f_r4 : ∀ i, World.frozen? (w4) ⟨w.heap.size, i, none⟩ = false := fun i => Ext.free x_r4 (by first | (simp; done) | (simp; omega)) (by first | (simp; done) | (simp; omega))
        clear x_r4
        have hR := RowB.bytes w4 5 f
        rw [HX2.out] at hR
        have hE := Ext.bytes w4 5 f
        have hcell := hR.cellD (i := k) (by omega)
        have hfree := hR.free (i := k) (by omega)
        rw [HC0.out] at hcell
        have hS := (hR.set k c1).string (P := Try.prog) 45 5 9 Try.underlying45 Try.underlying5 Try.underlying9 (grownCap w4 768 0 5)
        rw [List.length_set, hpl] at hS
        have hE4 : Ext w4 ((Lib.bytesWorld w4 5 f).setCell ⟨w4.heap.size, k, none⟩ (.int .u8 (c1.toNat : Int))) := hE.setCell (Nat.le_refl _) _
        have hEE := (show Ext w w4 from (by repeat (first | (with_reducible exact Ext.refl _) | (with_reducible assumption) | (with_reducible refine Ext.drewN ?_ _) | (with_reducible refine Ext.drew ?_) | (with_reducible refine Ext.alloc ?_ _) | (with_reducible refine Ext.setCell ?_ (by first | exact Nat.le_refl _ | (simp <;> omega)) _) | (with_reducible refine Ext.trans ?_ (by with_reducible assumption))))).trans hE4
        clear hR hE
        have z4 : w.heap.size < w4.heap.size := by have z := ((B1.trans B2).trans (B3.trans B4)).size; simp at z; omega
        have k0_r5 := Ext.cell hE4 k0_r4
        have k1_r5 := Ext.cell hE4 k1_r4
        have k2_r5 := Ext.cell hE4 k2_r4
        have k3_r5 := Ext.cell hE4 k3_r4
        have f_r5 := fun i => Ext.free (a := ⟨w.heap.size, i, none⟩) hE4 z4 (f_r4 i)
        go_wp2_with fail
        refine (G3.out _).mono ?_
        rintro e w6 ⟨rfl, B6⟩
        have k1_r6 := Ext.cell B6 k1_r5
        have k2_r6 := Ext.cell B6 k2_r5
        have z6 : w.heap.size < w6.heap.size := by have z := (hE4.trans B6).size; omega
        have d0_ : IntKind.i64.wrap (192 + (m : Int)) = 192 + (m : Int) := wrap_i64_fit _ (by omega) (by omega)
        go_wp2_with fail
        refine (num0_calls _ _).mono ?_
        rintro e w7 ⟨rfl, rfl⟩
        go_wp2_with fail
        refine (PH.out _).mono ?_
        rintro e w7 ⟨rfl, B7⟩
        go_wp2_with fail
        refine (FM.out _).mono ?_
        rintro e w8 ⟨rfl, rfl⟩
        go_wp2
        go_ret
        exact ⟨rfl, ((hEE.trans B6).alloc _).trans B7⟩
      · have s1 : decide ((k : Int) ≥ 192) = true := decide_eq_true (by omega)
        have s2 : decide ((k : Int) < 192 + (m : Int)) = false := decide_eq_false (by omega)
        have s3 : decide (192 + 288 * 0 ≤ k) = true := decide_eq_true (by omega)
        have s4 : decide (k < 192 + 288 * 0 + m) = false := decide_eq_false (by omega)
        rw [s3, s4] at F6
        simp only [Bool.true_and, Bool.and_true, Bool.false_and, Bool.and_false, Bool.not_true, Bool.not_false] at F6
        clear s3 s4
        simp only [Int.natCast_zero, Int.natCast_one] at G2 G3
        go_enter Try.func6, Try.ntmps6
        go_wp2_with fail
        refine (awake6_calls _).mono ?_
        rintro e w1 ⟨rfl, B1⟩
        go_wp2_with fail
        refine (P1.out _).mono ?_
        rintro e w2 ⟨rfl, B2⟩
        go_wp2_with fail
        refine (P2.out _).mono ?_
        rintro e w3 ⟨rfl, B3⟩
        have x_r3 : Ext (w.alloc (.cells #[.int .i64 q, .int .i64 0, .int .i64 (m : Int), .int .i64 C] 23)) (w3) := (by repeat (first | (with_reducible exact Ext.refl _) | (with_reducible assumption) | (with_reducible refine Ext.drewN ?_ _) | (with_reducible refine Ext.drew ?_) | (with_reducible refine Ext.alloc ?_ _) | (with_reducible refine Ext.setCell ?_ (by first | exact Nat.le_refl _ | (simp <;> omega)) _) | (with_reducible refine Ext.trans ?_ (by with_reducible assumption))))
        have k0_r3 : World.cell? (w3) ⟨w.heap.size, 0, none⟩ = some (.int .i64 q) := Ext.cell x_r3 (by first | (simp; done) | (simp; omega))
        have k1_r3 : World.cell? (w3) ⟨w.heap.size, 1, none⟩ = some (.int .i64 0) := Ext.cell x_r3 (by first | (simp; done) | (simp; omega))
        have k2_r3 : World.cell? (w3) ⟨w.heap.size, 2, none⟩ = some (.int .i64 (m : Int)) := Ext.cell x_r3 (by first | (simp; done) | (simp; omega))
        have k3_r3 : World.cell? (w3) ⟨w.heap.size, 3, none⟩ = some (.int .i64 C) := Ext.cell x_r3 (by first | (simp; done) | (simp; omega))
        have f_r3 : ∀ i, World.frozen? (w3) ⟨w.heap.size, i, none⟩ = false := fun i => Ext.free x_r3 (by first | (simp; done) | (simp; omega)) (by first | (simp; done) | (simp; omega))
        clear x_r3
        go_wp2_with fail
        refine (G2.out _).mono ?_
        rintro e w4 ⟨rfl, B4⟩
        go_wp2_with fail
        refine (num0_calls _ _).mono ?_
        rintro e w9 ⟨rfl, rfl⟩
        go_wp2_with fail
        refine (num0_calls _ _).mono ?_
        rintro e w10 ⟨rfl, rfl⟩
        go_wp2_with fail
        refine (num0_calls _ _).mono ?_
        rintro e w11 ⟨rfl, rfl⟩
        have x_r4 : Ext (w.alloc (.cells #[.int .i64 q, .int .i64 0, .int .i64 (m : Int), .int .i64 C] 23)) (w4) := (by repeat (first | (with_reducible exact Ext.refl _) | (with_reducible assumption) | (with_reducible refine Ext.drewN ?_ _) | (with_reducible refine Ext.drew ?_) | (with_reducible refine Ext.alloc ?_ _) | (with_reducible refine Ext.setCell ?_ (by first | exact Nat.le_refl _ | (simp <;> omega)) _) | (with_reducible refine Ext.trans ?_ (by with_reducible assumption))))
        have k0_r4 : World.cell? (w4) ⟨w.heap.size, 0, none⟩ = some (.int .i64 q) := Ext.cell x_r4 (by first | (simp; done) | (simp; omega))
        have k1_r4 : World.cell? (w4) ⟨w.heap.size, 1, none⟩ = some (.int .i64 0) := Ext.cell x_r4 (by first | (simp; done) | (simp; omega))
        have k2_r4 : World.cell? (w4) ⟨w.heap.size, 2, none⟩ = some (.int .i64 (m : Int)) := Ext.cell x_r4 (by first | (simp; done) | (simp; omega))
        have k3_r4 : World.cell? (w4) ⟨w.heap.size, 3, none⟩ = some (.int .i64 C) := Ext.cell x_r4 (by first | (simp; done) | (simp; omega))
        have f_r4 : ∀ i, World.frozen? (w4) ⟨w.heap.size, i, none⟩ = false := fun i => Ext.free x_r4 (by first | (simp; done) | (simp; omega)) (by first | (simp; done) | (simp; omega))
        clear x_r4
        have hR := RowB.bytes w4 5 f
        rw [HX2.out] at hR
        have hE := Ext.bytes w4 5 f
        have hcell := hR.cellD (i := k) (by omega)
        have hfree := hR.free (i := k) (by omega)
        rw [HC0.out] at hcell
        have hS := (hR.set k c1).string (P := Try.prog) 45 5 9 Try.underlying45 Try.underlying5 Try.underlying9 (grownCap w4 768 0 5)
        rw [List.length_set, hpl] at hS
        have hE4 : Ext w4 ((Lib.bytesWorld w4 5 f).setCell ⟨w4.heap.size, k, none⟩ (.int .u8 (c1.toNat : Int))) := hE.setCell (Nat.le_refl _) _
        have hEE := (show Ext w w4 from (by repeat (first | (with_reducible exact Ext.refl _) | (with_reducible assumption) | (with_reducible refine Ext.drewN ?_ _) | (with_reducible refine Ext.drew ?_) | (with_reducible refine Ext.alloc ?_ _) | (with_reducible refine Ext.setCell ?_ (by first | exact Nat.le_refl _ | (simp <;> omega)) _) | (with_reducible refine Ext.trans ?_ (by with_reducible assumption))))).trans hE4
        clear hR hE
        have z4 : w.heap.size < w4.heap.size := by have z := ((B1.trans B2).trans (B3.trans B4)).size; simp at z; omega
        have k0_r5 := Ext.cell hE4 k0_r4
        have k1_r5 := Ext.cell hE4 k1_r4
        have k2_r5 := Ext.cell hE4 k2_r4
        have k3_r5 := Ext.cell hE4 k3_r4
        have f_r5 := fun i => Ext.free (a := ⟨w.heap.size, i, none⟩) hE4 z4 (f_r4 i)
        go_wp2_with fail
        refine (G3.out _).mono ?_
        rintro e w6 ⟨rfl, B6⟩
        have k1_r6 := Ext.cell B6 k1_r5
        have k2_r6 := Ext.cell B6 k2_r5
        have z6 : w.heap.size < w6.heap.size := by have z := (hE4.trans B6).size; omega
        have d0_ : IntKind.i64.wrap (192 + (m : Int)) = 192 + (m : Int) := wrap_i64_fit _ (by omega) (by omega)
        go_wp2_with fail
        refine (num0_calls _ _).mono ?_
        rintro e w12 ⟨rfl, rfl⟩
        go_wp2_with fail
        refine (PH.out _).mono ?_
        rintro e w7 ⟨rfl, B7⟩
        go_wp2_with fail
        refine (FM.out _).mono ?_
        rintro e w13 ⟨rfl, rfl⟩
        go_wp2
        go_ret
        exact ⟨rfl, ((hEE.trans B6).alloc _).trans B7⟩
    · by_cases hk3 : k < 192 + m
      · have s1 : decide ((k : Int) ≥ 192) = false := decide_eq_false (by omega)
        have s2 : decide ((k : Int) < 192 + (m : Int)) = true := decide_eq_true (by omega)
        have s3 : decide (192 + 288 * 0 ≤ k) = false := decide_eq_false (by omega)
        have s4 : decide (k < 192 + 288 * 0 + m) = true := decide_eq_true (by omega)
        rw [s3, s4] at F6
        simp only [Bool.true_and, Bool.and_true, Bool.false_and, Bool.and_false, Bool.not_true, Bool.not_false] at F6
        clear s3 s4
        simp only [Int.natCast_zero, Int.natCast_one] at G2 G3
        go_enter Try.func6, Try.ntmps6
        go_wp2_with fail
        refine (awake6_calls _).mono ?_
        rintro e w1 ⟨rfl, B1⟩
        go_wp2_with fail
        refine (P1.out _).mono ?_
        rintro e w2 ⟨rfl, B2⟩
        go_wp2_with fail
        refine (P2.out _).mono ?_
        rintro e w3 ⟨rfl, B3⟩
        have x_r3 : Ext (w.alloc (.cells #[.int .i64 q, .int .i64 0, .int .i64 (m : Int), .int .i64 C] 23)) (w3) := (by repeat (first | (with_reducible exact Ext.refl _) | (with_reducible assumption) | (with_reducible refine Ext.drewN ?_ _) | (with_reducible refine Ext.drew ?_) | (with_reducible refine Ext.alloc ?_ _) | (with_reducible refine Ext.setCell ?_ (by first | exact Nat.le_refl _ | (simp <;> omega)) _) | (with_reducible refine Ext.trans ?_ (by with_reducible assumption))))
        have k0_r3 : World.cell? (w3) ⟨w.heap.size, 0, none⟩ = some (.int .i64 q) := Ext.cell x_r3 (by first | (simp; done) | (simp; omega))
        have k1_r3 : World.cell? (w3) ⟨w.heap.size, 1, none⟩ = some (.int .i64 0) := Ext.cell x_r3 (by first | (simp; done) | (simp; omega))
        have k2_r3 : World.cell? (w3) ⟨w.heap.size, 2, none⟩ = some (.int .i64 (m : Int)) := Ext.cell x_r3 (by first | (simp; done) | (simp; omega))
        have k3_r3 : World.cell? (w3) ⟨w.heap.size, 3, none⟩ = some (.int .i64 C) := Ext.cell x_r3 (by first | (simp; done) | (simp; omega))
        have f_r3 : ∀ i, World.frozen? (w3) ⟨w.heap.size, i, none⟩ = false := fun i => Ext.free x_r3 (by first | (simp; done) | (simp; omega)) (by first | (simp; done) | (simp; omega))
        clear x_r3
        go_wp2_with fail
        refine (G2.out _).mono ?_
        rintro e w4 ⟨rfl, B4⟩
        go_wp2_with fail
        refine (num0_calls _ _).mono ?_
        rintro e w14 ⟨rfl, rfl⟩
        go_wp2_with fail
        refine (num0_calls _ _).mono ?_
        rintro e w15 ⟨rfl, rfl⟩
        go_wp2_with fail
        refine (num0_calls _ _).mono ?_
        rintro e w16 ⟨rfl, rfl⟩
        have x_r4 : Ext (w.alloc (.cells #[.int .i64 q, .int .i64 0, .int .i64 (m : Int), .int .i64 C] 23)) (w4) := (by repeat (first | (with_reducible exact Ext.refl _) | (with_reducible assumption) | (with_reducible refine Ext.drewN ?_ _) | (with_reducible refine Ext.drew ?_) | (with_reducible refine Ext.alloc ?_ _) | (with_reducible refine Ext.setCell ?_ (by first | exact Nat.le_refl _ | (simp <;> omega)) _) | (with_reducible refine Ext.trans ?_ (by with_reducible assumption))))
        have k0_r4 : World.cell? (w4) ⟨w.heap.size, 0, none⟩ = some (.int .i64 q) := Ext.cell x_r4 (by first | (simp; done) | (simp; omega))
        have k1_r4 : World.cell? (w4) ⟨w.heap.size, 1, none⟩ = some (.int .i64 0) := Ext.cell x_r4 (by first | (simp; done) | (simp; omega))
        have k2_r4 : World.cell? (w4) ⟨w.heap.size, 2, none⟩ = some (.int .i64 (m : Int)) := Ext.cell x_r4 (by first | (simp; done) | (simp; omega))
        have k3_r4 : World.cell? (w4) ⟨w.heap.size, 3, none⟩ = some (.int .i64 C) := Ext.cell x_r4 (by first | (simp; done) | (simp; omega))
        have f_r4 : ∀ i, World.frozen? (w4) ⟨w.heap.size, i, none⟩ = false := fun i => Ext.free x_r4 (by first | (simp; done) | (simp; omega)) (by first | (simp; done) | (simp; omega))
        clear x_r4
        have hR := RowB.bytes w4 5 f
        rw [HX2.out] at hR
        have hE := Ext.bytes w4 5 f
        have hcell := hR.cellD (i := k) (by omega)
        have hfree := hR.free (i := k) (by omega)
        rw [HC0.out] at hcell
        have hS := (hR.set k c1).string (P := Try.prog) 45 5 9 Try.underlying45 Try.underlying5 Try.underlying9 (grownCap w4 768 0 5)
        rw [List.length_set, hpl] at hS
        have hE4 : Ext w4 ((Lib.bytesWorld w4 5 f).setCell ⟨w4.heap.size, k, none⟩ (.int .u8 (c1.toNat : Int))) := hE.setCell (Nat.le_refl _) _
        have hEE := (show Ext w w4 from (by repeat (first | (with_reducible exact Ext.refl _) | (with_reducible assumption) | (with_reducible refine Ext.drewN ?_ _) | (with_reducible refine Ext.drew ?_) | (with_reducible refine Ext.alloc ?_ _) | (with_reducible refine Ext.setCell ?_ (by first | exact Nat.le_refl _ | (simp <;> omega)) _) | (with_reducible refine Ext.trans ?_ (by with_reducible assumption))))).trans hE4
        clear hR hE
        have z4 : w.heap.size < w4.heap.size := by have z := ((B1.trans B2).trans (B3.trans B4)).size; simp at z; omega
        have k0_r5 := Ext.cell hE4 k0_r4
        have k1_r5 := Ext.cell hE4 k1_r4
        have k2_r5 := Ext.cell hE4 k2_r4
        have k3_r5 := Ext.cell hE4 k3_r4
        have f_r5 := fun i => Ext.free (a := ⟨w.heap.size, i, none⟩) hE4 z4 (f_r4 i)
        go_wp2_with fail
        refine (G3.out _).mono ?_
        rintro e w6 ⟨rfl, B6⟩
        have k1_r6 := Ext.cell B6 k1_r5
        have k2_r6 := Ext.cell B6 k2_r5
        have z6 : w.heap.size < w6.heap.size := by have z := (hE4.trans B6).size; omega
        have d0_ : IntKind.i64.wrap (192 + (m : Int)) = 192 + (m : Int) := wrap_i64_fit _ (by omega) (by omega)
        go_wp2_with fail
        refine (num0_calls _ _).mono ?_
        rintro e w17 ⟨rfl, rfl⟩
        go_wp2_with fail
        refine (PH.out _).mono ?_
        rintro e w7 ⟨rfl, B7⟩
        go_wp2_with fail
        refine (FM.out _).mono ?_
        rintro e w18 ⟨rfl, rfl⟩
        go_wp2
        go_ret
        exact ⟨rfl, ((hEE.trans B6).alloc _).trans B7⟩
      · exact absurd hk1 (by omega)
  · have hxor := xor_byte ((bl f).getD k 0) b hb2
    obtain ⟨F1, F2, F3, F4, F5, F6⟩ := apart_facts f q C 1 m k hm ((bl f).getD k 0 ^^^ UInt8.ofNat (1 + b)) (xor_ne _ b hb2)
    have G2 := Lib.hid (iof_calls f ⟨q, (1 : Nat), m, C⟩)
    have G3 := Lib.hid (iof_calls (mk ((bl f).set k ((bl f).getD k 0 ^^^ UInt8.ofNat (1 + b)))) ⟨q, (1 : Nat), m, C⟩)
    rw [F4] at G2
    rw [F5] at G3
    clear F4 F5
    generalize image f ⟨q, (1 : Nat), m, C⟩ = S at *
    generalize image (mk ((bl f).set k ((bl f).getD k 0 ^^^ UInt8.ofNat (1 + b)))) ⟨q, (1 : Nat), m, C⟩ = T at *
    have hpl : (bl f).length = 768 := by rw [bl_length, F3]
    have HX2 : Hid (f.data.toList = bl f) := rfl
    obtain ⟨c0, hc0⟩ : ∃ c0, (bl f).getD k 0 = c0 := ⟨_, rfl⟩
    rw [hc0] at hxor G3
    have HC0 := Lib.hid hc0
    clear hc0
    generalize c0 ^^^ UInt8.ofNat (1 + b) = c1 at hxor G3
    have kc := fun (w : World) => Lib.run_convert_string_bytes (P := Try.prog) w 9 45 5 f Try.underlying9 Try.underlying45 Try.underlying5
    rw [F3] at kc
    clear hm
    have FM := Lib.hid (fun w => flashMay_calls f w)
    rw [decide_eq_true F3] at FM
    by_cases hk1 : 480 ≤ k
    · by_cases hk3 : k < 480 + m
      · have s1 : decide ((k : Int) ≥ 480) = true := decide_eq_true (by omega)
        have s2 : decide ((k : Int) < 480 + (m : Int)) = true := decide_eq_true (by omega)
        have s3 : decide (192 + 288 * 1 ≤ k) = true := decide_eq_true (by omega)
        have s4 : decide (k < 192 + 288 * 1 + m) = true := decide_eq_true (by omega)
        rw [s3, s4] at F6
        simp only [Bool.true_and, Bool.and_true, Bool.false_and, Bool.and_false, Bool.not_true, Bool.not_false] at F6
        clear s3 s4
        simp only [Int.natCast_zero, Int.natCast_one] at G2 G3
        go_enter Try.func6, Try.ntmps6
        go_wp2_with fail
        refine (awake6_calls _).mono ?_
        rintro e w1 ⟨rfl, B1⟩
        go_wp2_with fail
        refine (P1.out _).mono ?_
        rintro e w2 ⟨rfl, B2⟩
        go_wp2_with fail
        refine (P2.out _).mono ?_
        rintro e w3 ⟨rfl, B3⟩
        have x_r3 : Ext (w.alloc (.cells #[.int .i64 q, .int .i64 1, .int .i64 (m : Int), .int .i64 C] 23)) (w3) := (by repeat (first | (with_reducible exact Ext.refl _) | (with_reducible assumption) | (with_reducible refine Ext.drewN ?_ _) | (with_reducible refine Ext.drew ?_) | (with_reducible refine Ext.alloc ?_ _) | (with_reducible refine Ext.setCell ?_ (by first | exact Nat.le_refl _ | (simp <;> omega)) _) | (with_reducible refine Ext.trans ?_ (by with_reducible assumption))))
        have k0_r3 : World.cell? (w3) ⟨w.heap.size, 0, none⟩ = some (.int .i64 q) := Ext.cell x_r3 (by first | (simp; done) | (simp; omega))
        have k1_r3 : World.cell? (w3) ⟨w.heap.size, 1, none⟩ = some (.int .i64 1) := Ext.cell x_r3 (by first | (simp; done) | (simp; omega))
        have k2_r3 : World.cell? (w3) ⟨w.heap.size, 2, none⟩ = some (.int .i64 (m : Int)) := Ext.cell x_r3 (by first | (simp; done) | (simp; omega))
        have k3_r3 : World.cell? (w3) ⟨w.heap.size, 3, none⟩ = some (.int .i64 C) := Ext.cell x_r3 (by first | (simp; done) | (simp; omega))
        have f_r3 : ∀ i, World.frozen? (w3) ⟨w.heap.size, i, none⟩ = false := fun i => Ext.free x_r3 (by first | (simp; done) | (simp; omega)) (by first | (simp; done) | (simp; omega))
        clear x_r3
        go_wp2_with fail
        refine (G2.out _).mono ?_
        rintro e w4 ⟨rfl, B4⟩
        go_wp2_with fail
        refine (num0_calls _ _).mono ?_
        rintro e w19 ⟨rfl, rfl⟩
        go_wp2_with fail
        refine (num0_calls _ _).mono ?_
        rintro e w20 ⟨rfl, rfl⟩
        go_wp2_with fail
        refine (num0_calls _ _).mono ?_
        rintro e w21 ⟨rfl, rfl⟩
        have x_r4 : Ext (w.alloc (.cells #[.int .i64 q, .int .i64 1, .int .i64 (m : Int), .int .i64 C] 23)) (w4) := (by repeat (first | (with_reducible exact Ext.refl _) | (with_reducible assumption) | (with_reducible refine Ext.drewN ?_ _) | (with_reducible refine Ext.drew ?_) | (with_reducible refine Ext.alloc ?_ _) | (with_reducible refine Ext.setCell ?_ (by first | exact Nat.le_refl _ | (simp <;> omega)) _) | (with_reducible refine Ext.trans ?_ (by with_reducible assumption))))
        have k0_r4 : World.cell? (w4) ⟨w.heap.size, 0, none⟩ = some (.int .i64 q) := Ext.cell x_r4 (by first | (simp; done) | (simp; omega))
        have k1_r4 : World.cell? (w4) ⟨w.heap.size, 1, none⟩ = some (.int .i64 1) := Ext.cell x_r4 (by first | (simp; done) | (simp; omega))
        have k2_r4 : World.cell? (w4) ⟨w.heap.size, 2, none⟩ = some (.int .i64 (m : Int)) := Ext.cell x_r4 (by first | (simp; done) | (simp; omega))
        have k3_r4 : World.cell? (w4) ⟨w.heap.size, 3, none⟩ = some (.int .i64 C) := Ext.cell x_r4 (by first | (simp; done) | (simp; omega))
        have f_r4 : ∀ i, World.frozen? (w4) ⟨w.heap.size, i, none⟩ = false := fun i => Ext.free x_r4 (by first | (simp; done) | (simp; omega)) (by first | (simp; done) | (simp; omega))
        clear x_r4
        have hR := RowB.bytes w4 5 f
        rw [HX2.out] at hR
        have hE := Ext.bytes w4 5 f
        have hcell := hR.cellD (i := k) (by omega)
        have hfree := hR.free (i := k) (by omega)
        rw [HC0.out] at hcell
        have hS := (hR.set k c1).string (P := Try.prog) 45 5 9 Try.underlying45 Try.underlying5 Try.underlying9 (grownCap w4 768 0 5)
        rw [List.length_set, hpl] at hS
        have hE4 : Ext w4 ((Lib.bytesWorld w4 5 f).setCell ⟨w4.heap.size, k, none⟩ (.int .u8 (c1.toNat : Int))) := hE.setCell (Nat.le_refl _) _
        have hEE := (show Ext w w4 from (by repeat (first | (with_reducible exact Ext.refl _) | (with_reducible assumption) | (with_reducible refine Ext.drewN ?_ _) | (with_reducible refine Ext.drew ?_) | (with_reducible refine Ext.alloc ?_ _) | (with_reducible refine Ext.setCell ?_ (by first | exact Nat.le_refl _ | (simp <;> omega)) _) | (with_reducible refine Ext.trans ?_ (by with_reducible assumption))))).trans hE4
        clear hR hE
        have z4 : w.heap.size < w4.heap.size := by have z := ((B1.trans B2).trans (B3.trans B4)).size; simp at z; omega
        have k0_r5 := Ext.cell hE4 k0_r4
        have k1_r5 := Ext.cell hE4 k1_r4
        have k2_r5 := Ext.cell hE4 k2_r4
        have k3_r5 := Ext.cell hE4 k3_r4
        have f_r5 := fun i => Ext.free (a := ⟨w.heap.size, i, none⟩) hE4 z4 (f_r4 i)
        go_wp2_with fail
        refine (G3.out _).mono ?_
        rintro e w6 ⟨rfl, B6⟩
        have k1_r6 := Ext.cell B6 k1_r5
        have k2_r6 := Ext.cell B6 k2_r5
        have z6 : w.heap.size < w6.heap.size := by have z := (hE4.trans B6).size; omega
        have d0_ : IntKind.i64.wrap (480 + (m : Int)) = 480 + (m : Int) := wrap_i64_fit _ (by omega) (by omega)
        go_wp2_with fail
        refine (num0_calls _ _).mono ?_
        rintro e w22 ⟨rfl, rfl⟩
        go_wp2_with fail
        refine (PH.out _).mono ?_
        rintro e w7 ⟨rfl, B7⟩
        go_wp2_with fail
        refine (FM.out _).mono ?_
        rintro e w23 ⟨rfl, rfl⟩
        go_wp2
        go_ret
        exact ⟨rfl, ((hEE.trans B6).alloc _).trans B7⟩
      · have s1 : decide ((k : Int) ≥ 480) = true := decide_eq_true (by omega)
        have s2 : decide ((k : Int) < 480 + (m : Int)) = false := decide_eq_false (by omega)
        have s3 : decide (192 + 288 * 1 ≤ k) = true := decide_eq_true (by omega)
        have s4 : decide (k < 192 + 288 * 1 + m) = false := decide_eq_false (by omega)
        rw [s3, s4] at F6
        simp only [Bool.true_and, Bool.and_true, Bool.false_and, Bool.and_false, Bool.not_true, Bool.not_false] at F6
        clear s3 s4
        simp only [Int.natCast_zero, Int.natCast_one] at G2 G3
        go_enter Try.func6, Try.ntmps6
        go_wp2_with fail
        refine (awake6_calls _).mono ?_
        rintro e w1 ⟨rfl, B1⟩
        go_wp2_with fail
        refine (P1.out _).mono ?_
        rintro e w2 ⟨rfl, B2⟩
        go_wp2_with fail
        refine (P2.out _).mono ?_
        rintro e w3 ⟨rfl, B3⟩
        have x_r3 : Ext (w.alloc (.cells #[.int .i64 q, .int .i64 1, .int .i64 (m : Int), .int .i64 C] 23)) (w3) := (by repeat (first | (with_reducible exact Ext.refl _) | (with_reducible assumption) | (with_reducible refine Ext.drewN ?_ _) | (with_reducible refine Ext.drew ?_) | (with_reducible refine Ext.alloc ?_ _) | (with_reducible refine Ext.setCell ?_ (by first | exact Nat.le_refl _ | (simp <;> omega)) _) | (with_reducible refine Ext.trans ?_ (by with_reducible assumption))))
        have k0_r3 : World.cell? (w3) ⟨w.heap.size, 0, none⟩ = some (.int .i64 q) := Ext.cell x_r3 (by first | (simp; done) | (simp; omega))
        have k1_r3 : World.cell? (w3) ⟨w.heap.size, 1, none⟩ = some (.int .i64 1) := Ext.cell x_r3 (by first | (simp; done) | (simp; omega))
        have k2_r3 : World.cell? (w3) ⟨w.heap.size, 2, none⟩ = some (.int .i64 (m : Int)) := Ext.cell x_r3 (by first | (simp; done) | (simp; omega))
        have k3_r3 : World.cell? (w3) ⟨w.heap.size, 3, none⟩ = some (.int .i64 C) := Ext.cell x_r3 (by first | (simp; done) | (simp; omega))
        have f_r3 : ∀ i, World.frozen? (w3) ⟨w.heap.size, i, none⟩ = false := fun i => Ext.free x_r3 (by first | (simp; done) | (simp; omega)) (by first | (simp; done) | (simp; omega))
        clear x_r3
        go_wp2_with fail
        refine (G2.out _).mono ?_
        rintro e w4 ⟨rfl, B4⟩
        go_wp2_with fail
        refine (num0_calls _ _).mono ?_
        rintro e w24 ⟨rfl, rfl⟩
        go_wp2_with fail
        refine (num0_calls _ _).mono ?_
        rintro e w25 ⟨rfl, rfl⟩
        go_wp2_with fail
        refine (num0_calls _ _).mono ?_
        rintro e w26 ⟨rfl, rfl⟩
        have x_r4 : Ext (w.alloc (.cells #[.int .i64 q, .int .i64 1, .int .i64 (m : Int), .int .i64 C] 23)) (w4) := (by repeat (first | (with_reducible exact Ext.refl _) | (with_reducible assumption) | (with_reducible refine Ext.drewN ?_ _) | (with_reducible refine Ext.drew ?_) | (with_reducible refine Ext.alloc ?_ _) | (with_reducible refine Ext.setCell ?_ (by first | exact Nat.le_refl _ | (simp <;> omega)) _) | (with_reducible refine Ext.trans ?_ (by with_reducible assumption))))
        have k0_r4 : World.cell? (w4) ⟨w.heap.size, 0, none⟩ = some (.int .i64 q) := Ext.cell x_r4 (by first | (simp; done) | (simp; omega))
        have k1_r4 : World.cell? (w4) ⟨w.heap.size, 1, none⟩ = some (.int .i64 1) := Ext.cell x_r4 (by first | (simp; done) | (simp; omega))
        have k2_r4 : World.cell? (w4) ⟨w.heap.size, 2, none⟩ = some (.int .i64 (m : Int)) := Ext.cell x_r4 (by first | (simp; done) | (simp; omega))
        have k3_r4 : World.cell? (w4) ⟨w.heap.size, 3, none⟩ = some (.int .i64 C) := Ext.cell x_r4 (by first | (simp; done) | (simp; omega))
        have f_r4 : ∀ i, World.frozen? (w4) ⟨w.heap.size, i, none⟩ = false := fun i => Ext.free x_r4 (by first | (simp; done) | (simp; omega)) (by first | (simp; done) | (simp; omega))
        clear x_r4
        have hR := RowB.bytes w4 5 f
        rw [HX2.out] at hR
        have hE := Ext.bytes w4 5 f
        have hcell := hR.cellD (i := k) (by omega)
        have hfree := hR.free (i := k) (by omega)
        rw [HC0.out] at hcell
        have hS := (hR.set k c1).string (P := Try.prog) 45 5 9 Try.underlying45 Try.underlying5 Try.underlying9 (grownCap w4 768 0 5)
        rw [List.length_set, hpl] at hS
        have hE4 : Ext w4 ((Lib.bytesWorld w4 5 f).setCell ⟨w4.heap.size, k, none⟩ (.int .u8 (c1.toNat : Int))) := hE.setCell (Nat.le_refl _) _
        have hEE := (show Ext w w4 from (by repeat (first | (with_reducible exact Ext.refl _) | (with_reducible assumption) | (with_reducible refine Ext.drewN ?_ _) | (with_reducible refine Ext.drew ?_) | (with_reducible refine Ext.alloc ?_ _) | (with_reducible refine Ext.setCell ?_ (by first | exact Nat.le_refl _ | (simp <;> omega)) _) | (with_reducible refine Ext.trans ?_ (by with_reducible assumption))))).trans hE4
        clear hR hE
        have z4 : w.heap.size < w4.heap.size := by have z := ((B1.trans B2).trans (B3.trans B4)).size; simp at z; omega
        have k0_r5 := Ext.cell hE4 k0_r4
        have k1_r5 := Ext.cell hE4 k1_r4
        have k2_r5 := Ext.cell hE4 k2_r4
        have k3_r5 := Ext.cell hE4 k3_r4
        have f_r5 := fun i => Ext.free (a := ⟨w.heap.size, i, none⟩) hE4 z4 (f_r4 i)
        go_wp2_with fail
        refine (G3.out _).mono ?_
        rintro e w6 ⟨rfl, B6⟩
        have k1_r6 := Ext.cell B6 k1_r5
        have k2_r6 := Ext.cell B6 k2_r5
        have z6 : w.heap.size < w6.heap.size := by have z := (hE4.trans B6).size; omega
        have d0_ : IntKind.i64.wrap (480 + (m : Int)) = 480 + (m : Int) := wrap_i64_fit _ (by omega) (by omega)
        go_wp2_with fail
        refine (num0_calls _ _).mono ?_
        rintro e w27 ⟨rfl, rfl⟩
        go_wp2_with fail
        refine (PH.out _).mono ?_
        rintro e w7 ⟨rfl, B7⟩
        go_wp2_with fail
        refine (FM.out _).mono ?_
        rintro e w28 ⟨rfl, rfl⟩
        go_wp2
        go_ret
        exact ⟨rfl, ((hEE.trans B6).alloc _).trans B7⟩
    · by_cases hk3 : k < 480 + m
      · have s1 : decide ((k : Int) ≥ 480) = false := decide_eq_false (by omega)
        have s2 : decide ((k : Int) < 480 + (m : Int)) = true := decide_eq_true (by omega)
        have s3 : decide (192 + 288 * 1 ≤ k) = false := decide_eq_false (by omega)
        have s4 : decide (k < 192 + 288 * 1 + m) = true := decide_eq_true (by omega)
        rw [s3, s4] at F6
        simp only [Bool.true_and, Bool.and_true, Bool.false_and, Bool.and_false, Bool.not_true, Bool.not_false] at F6
        clear s3 s4
        simp only [Int.natCast_zero, Int.natCast_one] at G2 G3
        go_enter Try.func6, Try.ntmps6
        go_wp2_with fail
        refine (awake6_calls _).mono ?_
        rintro e w1 ⟨rfl, B1⟩
        go_wp2_with fail
        refine (P1.out _).mono ?_
        rintro e w2 ⟨rfl, B2⟩
        go_wp2_with fail
        refine (P2.out _).mono ?_
        rintro e w3 ⟨rfl, B3⟩
        have x_r3 : Ext (w.alloc (.cells #[.int .i64 q, .int .i64 1, .int .i64 (m : Int), .int .i64 C] 23)) (w3) := (by repeat (first | (with_reducible exact Ext.refl _) | (with_reducible assumption) | (with_reducible refine Ext.drewN ?_ _) | (with_reducible refine Ext.drew ?_) | (with_reducible refine Ext.alloc ?_ _) | (with_reducible refine Ext.setCell ?_ (by first | exact Nat.le_refl _ | (simp <;> omega)) _) | (with_reducible refine Ext.trans ?_ (by with_reducible assumption))))
        have k0_r3 : World.cell? (w3) ⟨w.heap.size, 0, none⟩ = some (.int .i64 q) := Ext.cell x_r3 (by first | (simp; done) | (simp; omega))
        have k1_r3 : World.cell? (w3) ⟨w.heap.size, 1, none⟩ = some (.int .i64 1) := Ext.cell x_r3 (by first | (simp; done) | (simp; omega))
        have k2_r3 : World.cell? (w3) ⟨w.heap.size, 2, none⟩ = some (.int .i64 (m : Int)) := Ext.cell x_r3 (by first | (simp; done) | (simp; omega))
        have k3_r3 : World.cell? (w3) ⟨w.heap.size, 3, none⟩ = some (.int .i64 C) := Ext.cell x_r3 (by first | (simp; done) | (simp; omega))
        have f_r3 : ∀ i, World.frozen? (w3) ⟨w.heap.size, i, none⟩ = false := fun i => Ext.free x_r3 (by first | (simp; done) | (simp; omega)) (by first | (simp; done) | (simp; omega))
        clear x_r3
        go_wp2_with fail
        refine (G2.out _).mono ?_
        rintro e w4 ⟨rfl, B4⟩
        go_wp2_with fail
        refine (num0_calls _ _).mono ?_
        rintro e w29 ⟨rfl, rfl⟩
        go_wp2_with fail
        refine (num0_calls _ _).mono ?_
        rintro e w30 ⟨rfl, rfl⟩
        go_wp2_with fail
        refine (num0_calls _ _).mono ?_
        rintro e w31 ⟨rfl, rfl⟩
        have x_r4 : Ext (w.alloc (.cells #[.int .i64 q, .int .i64 1, .int .i64 (m : Int), .int .i64 C] 23)) (w4) := (by repeat (first | (with_reducible exact Ext.refl _) | (with_reducible assumption) | (with_reducible refine Ext.drewN ?_ _) | (with_reducible refine Ext.drew ?_) | (with_reducible refine Ext.alloc ?_ _) | (with_reducible refine Ext.setCell ?_ (by first | exact Nat.le_refl _ | (simp <;> omega)) _) | (with_reducible refine Ext.trans ?_ (by with_reducible assumption))))
        have k0_r4 : World.cell? (w4) ⟨w.heap.size, 0, none⟩ = some (.int .i64 q) := Ext.cell x_r4 (by first | (simp; done) | (simp; omega))
        have k1_r4 : World.cell? (w4) ⟨w.heap.size, 1, none⟩ = some (.int .i64 1) := Ext.cell x_r4 (by first | (simp; done) | (simp; omega))
        have k2_r4 : World.cell? (w4) ⟨w.heap.size, 2, none⟩ = some (.int .i64 (m : Int)) := Ext.cell x_r4 (by first | (simp; done) | (simp; omega))
        have k3_r4 : World.cell? (w4) ⟨w.heap.size, 3, none⟩ = some (.int .i64 C) := Ext.cell x_r4 (by first | (simp; done) | (simp; omega))
        have f_r4 : ∀ i, World.frozen? (w4) ⟨w.heap.size, i, none⟩ = false := fun i => Ext.free x_r4 (by first | (simp; done) | (simp; omega)) (by first | (simp; done) | (simp; omega))
        clear x_r4
        have hR := RowB.bytes w4 5 f
        rw [HX2.out] at hR
        have hE := Ext.bytes w4 5 f
        have hcell := hR.cellD (i := k) (by omega)
        have hfree := hR.free (i := k) (by omega)
        rw [HC0.out] at hcell
        have hS := (hR.set k c1).string (P := Try.prog) 45 5 9 Try.underlying45 Try.underlying5 Try.underlying9 (grownCap w4 768 0 5)
        rw [List.length_set, hpl] at hS
        have hE4 : Ext w4 ((Lib.bytesWorld w4 5 f).setCell ⟨w4.heap.size, k, none⟩ (.int .u8 (c1.toNat : Int))) := hE.setCell (Nat.le_refl _) _
        have hEE := (show Ext w w4 from (by repeat (first | (with_reducible exact Ext.refl _) | (with_reducible assumption) | (with_reducible refine Ext.drewN ?_ _) | (with_reducible refine Ext.drew ?_) | (with_reducible refine Ext.alloc ?_ _) | (with_reducible refine Ext.setCell ?_ (by first | exact Nat.le_refl _ | (simp <;> omega)) _) | (with_reducible refine Ext.trans ?_ (by with_reducible assumption))))).trans hE4
        clear hR hE
        have z4 : w.heap.size < w4.heap.size := by have z := ((B1.trans B2).trans (B3.trans B4)).size; simp at z; omega
        have k0_r5 := Ext.cell hE4 k0_r4
        have k1_r5 := Ext.cell hE4 k1_r4
        have k2_r5 := Ext.cell hE4 k2_r4
        have k3_r5 := Ext.cell hE4 k3_r4
        have f_r5 := fun i => Ext.free (a := ⟨w.heap.size, i, none⟩) hE4 z4 (f_r4 i)
        go_wp2_with fail
        refine (G3.out _).mono ?_
        rintro e w6 ⟨rfl, B6⟩
        have k1_r6 := Ext.cell B6 k1_r5
        have k2_r6 := Ext.cell B6 k2_r5
        have z6 : w.heap.size < w6.heap.size := by have z := (hE4.trans B6).size; omega
        have d0_ : IntKind.i64.wrap (480 + (m : Int)) = 480 + (m : Int) := wrap_i64_fit _ (by omega) (by omega)
        go_wp2_with fail
        refine (num0_calls _ _).mono ?_
        rintro e w32 ⟨rfl, rfl⟩
        go_wp2_with fail
        refine (PH.out _).mono ?_
        rintro e w7 ⟨rfl, B7⟩
        go_wp2_with fail
        refine (FM.out _).mono ?_
        rintro e w33 ⟨rfl, rfl⟩
        go_wp2
        go_ret
        exact ⟨rfl, ((hEE.trans B6).alloc _).trans B7⟩
      · exact absurd hk1 (by omega)

end Go.Proofs.Ytbibmdnjidmchaa
