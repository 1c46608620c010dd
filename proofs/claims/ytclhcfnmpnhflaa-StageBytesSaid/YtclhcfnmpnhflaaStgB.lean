/- StageBytes. -/
import Derived.Test.YtclhcfnmpnhflaaStgG
import Derived.Test.YtclhcfnmpnhflaaExtQ
import Derived.Deep.DeepCutAuto
set_option linter.unusedVariables false
set_option linter.unusedSimpArgs false
set_option maxHeartbeats 4000000
namespace Go.Proofs.Ytclhcfnmpnhflaa
open Go.RowKit Skiff Go.Proofs.YtclhcfnmpnhflaaW.PrintWords

theorem piece9 (l : List UInt8) (b n : Nat) (h : b + n ≤ l.length) (k : Nat) (c : UInt8) : ((l.set (b + k) c).drop b).take n = ((l.drop b).take n).set k c := by
  rw [List.drop_set, if_neg (by omega), List.take_set, Nat.add_sub_cancel_left]
theorem set_sum9 (l : List UInt8) (k : Nat) (c : UInt8) (hk : k < l.length) (hc : c ≠ l.getD k 0) : crcSum (l.set k c) ≠ crcSum l := by
  intro e
  have h1 : l = l.take k ++ l[k] :: l.drop (k + 1) := by rw [← List.drop_eq_getElem_cons hk, List.take_append_drop]
  have h2 : l.set k c = l.take k ++ c :: l.drop (k + 1) := by rw [List.set_eq_take_append_cons_drop, if_pos hk]
  rw [h2] at e
  have e2 : crcSum (l.take k ++ c :: l.drop (k + 1)) = crcSum (l.take k ++ l[k] :: l.drop (k + 1)) := by rw [← h1]; exact e
  have := crcSum_byte _ _ _ _ e2
  rw [List.getD_eq_getElem?_getD, List.getElem?_eq_getElem hk] at hc
  exact hc this
/-- The sum of a piece of a row in which one byte is turned. -/
theorem sum_apart (l : List UInt8) (b n : Nat) (h : b + n ≤ l.length) (k : Nat) (c : UInt8) (hc : c ≠ l.getD k 0) :
    ((((crcSum (((l.set k c).drop b).take n) : Nat) : Int) == ((crcSum ((l.drop b).take n) : Nat) : Int))) = !(decide (b ≤ k) && decide (k < b + n)) := by
  by_cases h1 : b ≤ k
  · obtain ⟨j, rfl⟩ : ∃ j, k = b + j := ⟨k - b, by omega⟩
    rw [piece9 l b n h j c]
    by_cases h2 : j < n
    · rw [decide_eq_true h1, decide_eq_true (by omega : b + j < b + n)]
      rw [Bool.and_self, Bool.not_true, beq_eq_false_iff_ne]
      intro e
      refine set_sum9 ((l.drop b).take n) j c (by simp; omega) ?_ (by omega)
      rw [List.getD_eq_getElem?_getD, List.getElem?_take, if_pos h2, List.getElem?_drop, ← List.getD_eq_getElem?_getD]
      exact hc
    · rw [List.set_eq_of_length_le (by simp; omega), decide_eq_true h1, decide_eq_false (by omega : ¬ b + j < b + n)]; simp
  · rw [List.drop_set, if_pos (by omega), decide_eq_false h1]; simp
theorem scanTo_set (f : ByteArray) (k : Nat) (c : UInt8) (hk : 192 ≤ k) : ∀ n, n ≤ 8 → scanTo (mk ((bl f).set k c)) n = scanTo f n
  | 0, _ => rfl
  | n + 1, h => by
    have e : slotAt (mk ((bl f).set k c)) n = slotAt f n := by
      unfold slotAt
      rw [bl_extract, bl_extract, bl_mk, List.drop_set, if_neg (by omega), List.take_set_of_le (by omega)]
    rw [scanTo, scanTo, scanTo_set f k c hk n (by omega)]
    unfold pls
    rw [e]
theorem bytes_facts (f : ByteArray) (hf : f.size = 768) (n m k : Nat) (hn : n < 2) (h0 : 1 ≤ m) (h1 : m ≤ 288) (hk : 192 ≤ k) (hx : (nextPair f).2 = 0) (c : UInt8) (hc : c ≠ (bl f).getD k 0) :
    ∃ q C D : Int, recTup f n m = (q, (n : Int), (m : Int), C, (0 : Int)) ∧ recTup (mk ((bl f).set k c)) n m = (q, (n : Int), (m : Int), D, (0 : Int)) ∧ (D == C) = !(decide (192 + 288 * n ≤ k) && decide (k < 192 + 288 * n + m)) ∧ sums (f.extract (192 + 288 * n) (192 + 288 * n + m)) = some C := by
  have hm : ∀ g : ByteArray, g.size = 768 → recMayOf g n m = true := fun g hg => by
    unfold recMayOf
    rw [decide_eq_true hg, Skiff.within_iff.2 (by omega : (0 : Int) ≤ n ∧ (n : Int) ≤ 1), Skiff.within_iff.2 (by omega : (1 : Int) ≤ m ∧ (m : Int) ≤ 288)]; rfl
  have hg : (mk ((bl f).set k c)).size = 768 := by rw [mk_size, List.length_set, bl_length, hf]
  have hN : nextPair (mk ((bl f).set k c)) = nextPair f := by
    unfold nextPair
    rw [hg, hf, scanTo_set f k c hk 8 (by omega)]
  refine ⟨(nextPair f).1, ((crcSum (bl (f.extract (192 + 288 * n) (192 + 288 * n + m))) : Nat) : Int), ((crcSum (bl ((mk ((bl f).set k c)).extract (192 + 288 * n) (192 + 288 * n + m))) : Nat) : Int), ?_, ?_, ?_, ?_⟩
  · unfold recTup
    rw [hm f hf, if_pos rfl, if_pos hx]; rfl
  · unfold recTup
    rw [hm _ hg, if_pos rfl, hN, if_pos hx]; rfl
  · rw [bl_extract, bl_extract, bl_mk, show 192 + 288 * n + m - (192 + 288 * n) = m by omega]
    exact sum_apart (bl f) _ m (by rw [bl_length, hf]; omega) k c hc
  · exact sums_small (by rw [ByteArray.size_extract]; omega)

theorem srec_calls (f : ByteArray) (s n q b m C e : Int) (h : recTup f s n = (q, b, m, C, e)) (w : World) : Calls Try.prog 10 #[.string f, .int .i64 s, .int .i64 n] w fun e_ w' => e_ = .returned (.tuple #[.agg #[.int .i64 q, .int .i64 b, .int .i64 m, .int .i64 C], .int .i64 e]) ∧ Ext w w' :=
  P.stage_Record.calls 300 f s n q b m C e w (by rw [rec_f f s n 300 (by omega), h])
theorem awake9_calls (w : World) : Calls Try.prog 15 #[] w fun e w' => e = .returned (.bool true) ∧ Ext w w' :=
  P.skifflaw9_awake.calls 300 true w awake9_f
theorem held9_calls : ∃ H : ByteArray, H.size = 768 ∧ ∀ w, Calls Try.prog 20 #[] w fun e w' => e = .returned (.string H) ∧ Ext w w' := by
  obtain ⟨H, h1, h2⟩ := held9_some
  exact ⟨H, h2, fun w => P.skifflaw9_held.calls 300 H w h1⟩

set_option maxRecDepth 100000 in
theorem stageBytes_walk (f : ByteArray) (slot size at_ by_ : Int) (hs : f.size ≤ 140737488351232) (f0 : (Lit.int .i64 slot).wf = true) (f1 : (Lit.int .i64 size).wf = true) (f2 : (Lit.int .i64 at_).wf = true) (f3 : (Lit.int .i64 by_).wf = true) (w : World) :
    Calls Try.prog 7 #[.string f, .int .i64 slot, .int .i64 size, .int .i64 at_, .int .i64 by_] w fun e w' => e = .returned (.bool true) ∧ Ext w w' := by
  obtain ⟨b, hb, hb2⟩ : ∃ k : Nat, bits .and .i64 by_ 127 = (k : Int) ∧ k < 128 := and_mask by_ f3 7 (by omega)
  obtain ⟨n, hn, hn2⟩ : ∃ k : Nat, bits .and .i64 slot 1 = (k : Int) ∧ k < 2 := and_mask slot f0 1 (by omega)
  obtain ⟨z, hz, hz2⟩ : ∃ k : Nat, wrap64 ((IntKind.u64.wrap size).tmod 288) = (k : Int) ∧ k < 288 := mod_nat size 288 (by omega) (by omega)
  obtain ⟨j, hj, hj2⟩ : ∃ k : Nat, wrap64 ((IntKind.u64.wrap at_).tmod 576) = (k : Int) ∧ k < 576 := mod_nat at_ 576 (by omega) (by omega)
  by_cases hf : f.size = 768
  case neg =>
    have hr : recTup f n (1 + (z : Int)) = (0, 0, 0, 0, 900) := recTup_no (by omega)
    have R1 := Lib.hid (fun w => srec_calls f n (1 + (z : Int)) _ _ _ _ _ hr w)
    clear hr
    go_enter Try.func7, Try.ntmps7
    go_wp2_with fail
    refine (awake9_calls _).mono ?_
    rintro e w1 ⟨rfl, B1⟩
    go_wp2_with fail
    refine (R1.out _).mono ?_
    rintro e w2 ⟨rfl, B2⟩
    go_wp2_with fail
    refine (num0_calls _ _).mono ?_
    rintro e w1 ⟨rfl, rfl⟩
    go_wp2_with fail
    refine (num0_calls _ _).mono ?_
    rintro e w2 ⟨rfl, rfl⟩
    go_wp2
    go_ret
    exact ⟨rfl, (by repeat (first | (with_reducible exact Ext.refl _) | (with_reducible assumption) | (with_reducible refine Ext.drewN ?_ _) | (with_reducible refine Ext.drew ?_) | (with_reducible refine Ext.alloc ?_ _) | (with_reducible refine Ext.setCell ?_ (by first | exact Nat.le_refl _ | (simp <;> omega)) _) | (with_reducible refine Ext.trans ?_ (by with_reducible assumption))))⟩
  by_cases hx : (nextPair f).2 = 0
  case neg =>
    obtain ⟨e, he, hr⟩ : ∃ e : Int, (e != 0) = true ∧ recTup f n (1 + (z : Int)) = (0, 0, 0, 0, e) := by
      refine ⟨(nextPair f).2, bne_iff_ne.2 hx, ?_⟩
      unfold recTup recMayOf
      rw [decide_eq_true hf, Skiff.within_iff.2 (by omega : (0 : Int) ≤ n ∧ (n : Int) ≤ 1), Skiff.within_iff.2 (by omega : (1 : Int) ≤ 1 + (z : Int) ∧ 1 + (z : Int) ≤ 288)]
      simp only [Bool.and_self, if_true, hx, if_false]
    clear hx
    have R1 := Lib.hid (fun w => srec_calls f n (1 + (z : Int)) _ _ _ _ _ hr w)
    clear hr
    go_enter Try.func7, Try.ntmps7
    go_wp2_with fail
    refine (awake9_calls _).mono ?_
    rintro e w1 ⟨rfl, B1⟩
    go_wp2_with fail
    refine (R1.out _).mono ?_
    rintro e w2 ⟨rfl, B2⟩
    go_wp2_with fail
    refine (num0_calls _ _).mono ?_
    rintro e w3 ⟨rfl, rfl⟩
    go_wp2_with fail
    refine (num0_calls _ _).mono ?_
    rintro e w4 ⟨rfl, rfl⟩
    go_wp2
    go_ret
    exact ⟨rfl, (by repeat (first | (with_reducible exact Ext.refl _) | (with_reducible assumption) | (with_reducible refine Ext.drewN ?_ _) | (with_reducible refine Ext.drew ?_) | (with_reducible refine Ext.alloc ?_ _) | (with_reducible refine Ext.setCell ?_ (by first | exact Nat.le_refl _ | (simp <;> omega)) _) | (with_reducible refine Ext.trans ?_ (by with_reducible assumption))))⟩
  obtain ⟨q, C, D, r1, r2, r3, r4⟩ := bytes_facts f hf n (1 + z) (192 + j) hn2 (by omega) (by omega) (by omega) hx ((bl f).getD (192 + j) 0 ^^^ UInt8.ofNat (1 + b)) (xor_ne _ b hb2)
  rw [show ((1 + z : Nat) : Int) = 1 + (z : Int) by omega] at r1 r2
  have hxor := xor_byte ((bl f).getD (192 + j) 0) b hb2
  have R1 := Lib.hid (fun w => srec_calls f n (1 + (z : Int)) _ _ _ _ _ r1 w)
  have R2 := Lib.hid (fun w => srec_calls (mk ((bl f).set (192 + j) ((bl f).getD (192 + j) 0 ^^^ UInt8.ofNat (1 + b)))) n (1 + (z : Int)) _ _ _ _ _ r2 w)
  have hcs : (f.extract (192 + 288 * n) (192 + 288 * n + (1 + z))).size ≤ 4611686018427387904 := by rw [ByteArray.size_extract]; omega
  have hC : ((crcSum (f.extract (192 + 288 * n) (192 + 288 * n + (1 + z))).data.toList : Nat) : Int) = C := by
    unfold sums at r4
    rw [if_pos hcs] at r4
    exact Option.some.inj r4
  have PC := Lib.hid (fun w => ref_crc_calls (f.extract (192 + 288 * n) (192 + 288 * n + (1 + z))) w hcs)
  rw [hC] at PC
  obtain ⟨H, hH, PH0⟩ := held9_calls
  have PH := Lib.hid PH0
  clear PH0 hC hcs r4 r1 r2 hx
  have hpl : (bl f).length = 768 := by rw [bl_length, hf]
  have HX2 : Hid (f.data.toList = bl f) := rfl
  obtain ⟨c0, hc0⟩ : ∃ c0, (bl f).getD (192 + j) 0 = c0 := ⟨_, rfl⟩
  rw [hc0] at hxor R2
  have HC0 := Lib.hid hc0
  clear hc0
  generalize c0 ^^^ UInt8.ofNat (1 + b) = c1 at hxor R2
  have kc := fun (w : World) => Lib.run_convert_string_bytes (P := Try.prog) w 9 56 5 f Try.underlying9 Try.underlying56 Try.underlying5
  rw [hf] at kc
  have HR3 := Lib.hid r3
  clear r3
  go_enter Try.func7, Try.ntmps7
  go_wp2_with fail
  refine (awake9_calls _).mono ?_
  rintro e w1 ⟨rfl, B1⟩
  go_wp2_with fail
  refine (R1.out _).mono ?_
  rintro e w2 ⟨rfl, B2⟩
  go_wp2_with fail
  refine (num0_calls _ _).mono ?_
  rintro e w5 ⟨rfl, rfl⟩
  have hR := RowB.bytes (w2.alloc (.cells #[.int .i64 q, .int .i64 (n : Int), .int .i64 (1 + (z : Int)), .int .i64 C] 29)) 5 f
  rw [HX2.out] at hR
  have hE := Ext.bytes (w2.alloc (.cells #[.int .i64 q, .int .i64 (n : Int), .int .i64 (1 + (z : Int)), .int .i64 C] 29)) 5 f
  have hcell := hR.cellD (i := 192 + j) (by omega)
  have hfree := hR.free (i := 192 + j) (by omega)
  rw [HC0.out] at hcell
  have hS := (hR.set (192 + j) c1).string (P := Try.prog) 56 5 9 Try.underlying56 Try.underlying5 Try.underlying9 (grownCap (w2.alloc (.cells #[.int .i64 q, .int .i64 (n : Int), .int .i64 (1 + (z : Int)), .int .i64 C] 29)) 768 0 5)
  rw [List.length_set, hpl] at hS
  rw [World.size_alloc] at hcell hfree hS
  have d0_ : IntKind.i64.wrap (192 + (j : Int)) = 192 + (j : Int) := wrap_i64_fit _ (by omega) (by omega)
  have d1_ : 0 ≤ 192 + (j : Int) ∧ 192 + (j : Int) < 768 := by omega
  have d2_ : (192 + (j : Int)).toNat = 192 + j := by omega
  have hE4 : Ext (w2.alloc (.cells #[.int .i64 q, .int .i64 (n : Int), .int .i64 (1 + (z : Int)), .int .i64 C] 29)) ((Lib.bytesWorld (w2.alloc (.cells #[.int .i64 q, .int .i64 (n : Int), .int .i64 (1 + (z : Int)), .int .i64 C] 29)) 5 f).setCell ⟨w2.heap.size + 1, 192 + j, none⟩ (.int .u8 (c1.toNat : Int))) := hE.setCell (by rw [World.size_alloc]; exact Nat.le_refl _) _
  have hEE := (show Ext w (w2.alloc (.cells #[.int .i64 q, .int .i64 (n : Int), .int .i64 (1 + (z : Int)), .int .i64 C] 29)) from (by repeat (first | (with_reducible exact Ext.refl _) | (with_reducible assumption) | (with_reducible refine Ext.drewN ?_ _) | (with_reducible refine Ext.drew ?_) | (with_reducible refine Ext.alloc ?_ _) | (with_reducible refine Ext.setCell ?_ (by first | exact Nat.le_refl _ | (simp <;> omega)) _) | (with_reducible refine Ext.trans ?_ (by with_reducible assumption))))).trans hE4
  clear hR hE
  go_wp2_with fail
  refine (R2.out _).mono ?_
  rintro e w3 ⟨rfl, B3⟩
  have B4 := hE4.trans B3
  have z3 : w2.heap.size < w3.heap.size := by have z := B4.size; rw [World.size_alloc] at z; omega
  have k0_3 : w3.cell? ⟨w2.heap.size, 0, none⟩ = some (.int .i64 q) := Ext.cell_new _ 0 B4 rfl rfl
  have k3_3 : w3.cell? ⟨w2.heap.size, 3, none⟩ = some (.int .i64 C) := Ext.cell_new _ 3 B4 rfl rfl
  have m0_ : 192 + 288 * (n : Int) + (1 + (z : Int)) ≤ 768 ∧ 0 ≤ 192 + 288 * (n : Int) ∧ 192 + 288 * (n : Int) ≤ 192 + 288 * (n : Int) + (1 + (z : Int)) := by omega
  have m1_ : IntKind.i64.wrap (192 + 288 * (n : Int) + (1 + (z : Int))) = 192 + 288 * (n : Int) + (1 + (z : Int)) := wrap_i64_fit _ (by omega) (by omega)
  have m2_ : (192 + 288 * (n : Int)).toNat = 192 + 288 * n := by omega
  have m3_ : (192 + 288 * (n : Int) + (1 + (z : Int))).toNat = 192 + 288 * n + (1 + z) := by omega
  have r3 := HR3.out
  clear R1 R2 HX2 HC0 kc hcell hfree hS hxor hpl
  by_cases g1 : 192 + 288 * n ≤ 192 + j
  · by_cases g2 : 192 + j < 192 + 288 * n + (1 + z)
    · have g3 : decide (192 + 288 * n ≤ 192 + j) = true := decide_eq_true g1
      have g4 : decide (192 + j < 192 + 288 * n + (1 + z)) = true := decide_eq_true g2
      rw [g3, g4] at r3
      have g5 : decide (192 + (j : Int) < 192 + 288 * (n : Int)) = _ := decide_eq_false (by omega)
      have g6 : decide (192 + (j : Int) ≥ 192 + 288 * (n : Int) + (1 + (z : Int))) = _ := decide_eq_false (by omega)
      have g7 : decide ((j : Int) < 288 * (n : Int)) = _ := decide_eq_false (by omega)
      have g8 : decide (192 + 288 * (n : Int) + (1 + (z : Int)) ≤ 192 + (j : Int)) = _ := decide_eq_false (by omega)
      simp only [Bool.and_self, Bool.true_and, Bool.false_and, Bool.and_false, Bool.and_true, Bool.not_true, Bool.not_false] at r3
      clear g1 g2 g3 g4
      go_wp2_with fail
      have c0_ : ∀ q' : ExtOf (w3.alloc (.cells #[.int .i64 q, .int .i64 (n : Int), .int .i64 (1 + (z : Int)), .int .i64 D] 29)), q'.w.cell? ⟨w2.heap.size, 0, none⟩ = some (.int .i64 q) := fun q' => (((Ext.refl _).alloc _).trans q'.h).cell k0_3
      have c3_ : ∀ q' : ExtOf (w3.alloc (.cells #[.int .i64 q, .int .i64 (n : Int), .int .i64 (1 + (z : Int)), .int .i64 D] 29)), q'.w.cell? ⟨w2.heap.size, 3, none⟩ = some (.int .i64 C) := fun q' => (((Ext.refl _).alloc _).trans q'.h).cell k3_3
      have e0_ : ∀ q' : ExtOf (w3.alloc (.cells #[.int .i64 q, .int .i64 (n : Int), .int .i64 (1 + (z : Int)), .int .i64 D] 29)), q'.w.cell? ⟨w3.heap.size, 0, none⟩ = some (.int .i64 q) := fun q' => Ext.cell_new _ 0 q'.h rfl rfl
      have e3_ : ∀ q' : ExtOf (w3.alloc (.cells #[.int .i64 q, .int .i64 (n : Int), .int .i64 (1 + (z : Int)), .int .i64 D] 29)), q'.w.cell? ⟨w3.heap.size, 3, none⟩ = some (.int .i64 D) := fun q' => Ext.cell_new _ 3 q'.h rfl rfl
      refine wp_region_ext (w3.alloc (.cells #[.int .i64 q, .int .i64 (n : Int), .int .i64 (1 + (z : Int)), .int .i64 D] 29)) (by kernel_rfl) (by kernel_rfl) (Ext.refl _) ?_
      repeat (go_big_quiet_step (first | (go_at_call 13; exact Calls.ext_of_same (num0_calls _ _)) | (go_at_call 22; exact Calls.ext_of_same (PC.out _)) | (go_at_call 20; exact Calls.ext_of (PH.out _))))
      refine wpQuiet_nil ?_
      rintro _ ⟨⟨qw, qh⟩, rfl⟩
      go_wp2
      go_ret
      exact ⟨rfl, (hEE.trans B3).trans (((Ext.refl _).alloc _).trans (by first | assumption | exact qh | exact (by repeat (first | (with_reducible exact Ext.refl _) | (with_reducible assumption) | (with_reducible refine Ext.drewN ?_ _) | (with_reducible refine Ext.drew ?_) | (with_reducible refine Ext.alloc ?_ _) | (with_reducible refine Ext.setCell ?_ (by first | exact Nat.le_refl _ | (simp <;> omega)) _) | (with_reducible refine Ext.trans ?_ (by with_reducible assumption))))))⟩
    · have g3 : decide (192 + 288 * n ≤ 192 + j) = true := decide_eq_true g1
      have g4 : decide (192 + j < 192 + 288 * n + (1 + z)) = false := decide_eq_false g2
      rw [g3, g4] at r3
      have g5 : decide (192 + (j : Int) < 192 + 288 * (n : Int)) = _ := decide_eq_false (by omega)
      have g6 : decide (192 + (j : Int) ≥ 192 + 288 * (n : Int) + (1 + (z : Int))) = _ := decide_eq_true (by omega)
      have g7 : decide ((j : Int) < 288 * (n : Int)) = _ := decide_eq_false (by omega)
      have g8 : decide (192 + 288 * (n : Int) + (1 + (z : Int)) ≤ 192 + (j : Int)) = _ := decide_eq_true (by omega)
      simp only [Bool.and_self, Bool.true_and, Bool.false_and, Bool.and_false, Bool.and_true, Bool.not_true, Bool.not_false] at r3
      clear g1 g2 g3 g4
      go_wp2_with fail
      have c0_ : ∀ q' : ExtOf (w3.alloc (.cells #[.int .i64 q, .int .i64 (n : Int), .int .i64 (1 + (z : Int)), .int .i64 D] 29)), q'.w.cell? ⟨w2.heap.size, 0, none⟩ = some (.int .i64 q) := fun q' => (((Ext.refl _).alloc _).trans q'.h).cell k0_3
      have c3_ : ∀ q' : ExtOf (w3.alloc (.cells #[.int .i64 q, .int .i64 (n : Int), .int .i64 (1 + (z : Int)), .int .i64 D] 29)), q'.w.cell? ⟨w2.heap.size, 3, none⟩ = some (.int .i64 C) := fun q' => (((Ext.refl _).alloc _).trans q'.h).cell k3_3
      have e0_ : ∀ q' : ExtOf (w3.alloc (.cells #[.int .i64 q, .int .i64 (n : Int), .int .i64 (1 + (z : Int)), .int .i64 D] 29)), q'.w.cell? ⟨w3.heap.size, 0, none⟩ = some (.int .i64 q) := fun q' => Ext.cell_new _ 0 q'.h rfl rfl
      have e3_ : ∀ q' : ExtOf (w3.alloc (.cells #[.int .i64 q, .int .i64 (n : Int), .int .i64 (1 + (z : Int)), .int .i64 D] 29)), q'.w.cell? ⟨w3.heap.size, 3, none⟩ = some (.int .i64 D) := fun q' => Ext.cell_new _ 3 q'.h rfl rfl
      refine wp_region_ext (w3.alloc (.cells #[.int .i64 q, .int .i64 (n : Int), .int .i64 (1 + (z : Int)), .int .i64 D] 29)) (by kernel_rfl) (by kernel_rfl) (Ext.refl _) ?_
      repeat (go_big_quiet_step (first | (go_at_call 13; exact Calls.ext_of_same (num0_calls _ _)) | (go_at_call 22; exact Calls.ext_of_same (PC.out _)) | (go_at_call 20; exact Calls.ext_of (PH.out _))))
      refine wpQuiet_nil ?_
      rintro _ ⟨⟨qw, qh⟩, rfl⟩
      go_wp2
      go_ret
      exact ⟨rfl, (hEE.trans B3).trans (((Ext.refl _).alloc _).trans (by first | assumption | exact qh | exact (by repeat (first | (with_reducible exact Ext.refl _) | (with_reducible assumption) | (with_reducible refine Ext.drewN ?_ _) | (with_reducible refine Ext.drew ?_) | (with_reducible refine Ext.alloc ?_ _) | (with_reducible refine Ext.setCell ?_ (by first | exact Nat.le_refl _ | (simp <;> omega)) _) | (with_reducible refine Ext.trans ?_ (by with_reducible assumption))))))⟩
  · have g2 : 192 + j < 192 + 288 * n + (1 + z) := by omega
    have g3 : decide (192 + 288 * n ≤ 192 + j) = false := decide_eq_false g1
    have g4 : decide (192 + j < 192 + 288 * n + (1 + z)) = true := decide_eq_true g2
    rw [g3, g4] at r3
    have g5 : decide (192 + (j : Int) < 192 + 288 * (n : Int)) = _ := decide_eq_true (by omega)
    have g6 : decide (192 + (j : Int) ≥ 192 + 288 * (n : Int) + (1 + (z : Int))) = _ := decide_eq_false (by omega)
    have g7 : decide ((j : Int) < 288 * (n : Int)) = _ := decide_eq_true (by omega)
    have g8 : decide (192 + 288 * (n : Int) + (1 + (z : Int)) ≤ 192 + (j : Int)) = _ := decide_eq_false (by omega)
    simp only [Bool.and_self, Bool.true_and, Bool.false_and, Bool.and_false, Bool.and_true, Bool.not_true, Bool.not_false] at r3
    clear g1 g2 g3 g4
    go_wp2_with fail
    have c0_ : ∀ q' : ExtOf (w3.alloc (.cells #[.int .i64 q, .int .i64 (n : Int), .int .i64 (1 + (z : Int)), .int .i64 D] 29)), q'.w.cell? ⟨w2.heap.size, 0, none⟩ = some (.int .i64 q) := fun q' => (((Ext.refl _).alloc _).trans q'.h).cell k0_3
    have c3_ : ∀ q' : ExtOf (w3.alloc (.cells #[.int .i64 q, .int .i64 (n : Int), .int .i64 (1 + (z : Int)), .int .i64 D] 29)), q'.w.cell? ⟨w2.heap.size, 3, none⟩ = some (.int .i64 C) := fun q' => (((Ext.refl _).alloc _).trans q'.h).cell k3_3
    have e0_ : ∀ q' : ExtOf (w3.alloc (.cells #[.int .i64 q, .int .i64 (n : Int), .int .i64 (1 + (z : Int)), .int .i64 D] 29)), q'.w.cell? ⟨w3.heap.size, 0, none⟩ = some (.int .i64 q) := fun q' => Ext.cell_new _ 0 q'.h rfl rfl
    have e3_ : ∀ q' : ExtOf (w3.alloc (.cells #[.int .i64 q, .int .i64 (n : Int), .int .i64 (1 + (z : Int)), .int .i64 D] 29)), q'.w.cell? ⟨w3.heap.size, 3, none⟩ = some (.int .i64 D) := fun q' => Ext.cell_new _ 3 q'.h rfl rfl
    refine wp_region_ext (w3.alloc (.cells #[.int .i64 q, .int .i64 (n : Int), .int .i64 (1 + (z : Int)), .int .i64 D] 29)) (by kernel_rfl) (by kernel_rfl) (Ext.refl _) ?_
    repeat (go_big_quiet_step (first | (go_at_call 13; exact Calls.ext_of_same (num0_calls _ _)) | (go_at_call 22; exact Calls.ext_of_same (PC.out _)) | (go_at_call 20; exact Calls.ext_of (PH.out _))))
    refine wpQuiet_nil ?_
    rintro _ ⟨⟨qw, qh⟩, rfl⟩
    go_wp2
    go_ret
    exact ⟨rfl, (hEE.trans B3).trans (((Ext.refl _).alloc _).trans (by first | assumption | exact qh | exact (by repeat (first | (with_reducible exact Ext.refl _) | (with_reducible assumption) | (with_reducible refine Ext.drewN ?_ _) | (with_reducible refine Ext.drew ?_) | (with_reducible refine Ext.alloc ?_ _) | (with_reducible refine Ext.setCell ?_ (by first | exact Nat.le_refl _ | (simp <;> omega)) _) | (with_reducible refine Ext.trans ?_ (by with_reducible assumption))))))⟩

end Go.Proofs.Ytclhcfnmpnhflaa
