/- EntryForms. -/
import Derived.Test.YtcpghpjcpamhcaaEntC
import Derived.Test.YtcpghpjcpamhcaaEntB
set_option linter.unusedVariables false
set_option linter.unusedSimpArgs false
set_option maxHeartbeats 4000000
namespace Go.Proofs.Ytcpghpjcpamhcaa
open Go.RowKit Skiff

def badRec (d : Int) : Nat → Rec
  | 0 => ⟨0, 0, 5, 0⟩
  | 1 => ⟨-d, 0, 5, 0⟩
  | 2 => ⟨1048576 + d, 0, 5, 0⟩
  | 3 => ⟨3, -d, 5, 0⟩
  | 4 => ⟨3, 1 + d, 5, 0⟩
  | 5 => ⟨3, 0, 1 - d, 0⟩
  | 6 => ⟨3, 0, 288 + d, 0⟩
  | 7 => ⟨3, 0, 5, -d⟩
  | _ => ⟨3, 0, 5, 4294967295 + d⟩
theorem badRec_no (d : Int) (h : 1 ≤ d) (k : Nat) : recMay (badRec d k) = false := by
  cases hm : recMay (badRec d k) with
  | false => rfl
  | true =>
    have := recMay_iff.1 hm
    unfold badRec at this
    split at this <;> simp only at this <;> omega

theorem xor_byte (c : UInt8) (y : Nat) (h : y < 128) : bits .xor .u8 (c.toNat : Int) (1 + (y : Int)) = ((c ^^^ UInt8.ofNat (1 + y)).toNat : Int) := by
  have e : (1 : Int) + (y : Int) = ((1 + y : Nat) : Int) := by omega
  rw [e, u8_xor_nat _ _ c.toNat_lt (by omega)]
  have hm : (1 + y) % 256 = 1 + y := Nat.mod_eq_of_lt (by omega)
  simp [UInt8.toNat_xor, UInt8.toNat_ofNat', hm]
theorem xor_ne (c : UInt8) (y : Nat) (h : y < 128) : c ^^^ UInt8.ofNat (1 + y) ≠ c := by
  intro e
  have h1 := congrArg (fun x => c ^^^ x) e
  simp only [← UInt8.xor_assoc, UInt8.xor_self, UInt8.zero_xor] at h1
  have h2 := congrArg UInt8.toNat h1
  simp [UInt8.toNat_ofNat'] at h2
  omega
theorem compl_inj {a b : List UInt8} (h : compl a = compl b) : a = b := by
  have := congrArg compl h
  simpa [compl, Function.comp_def] using this
/-- One byte of a record turned: no record. -/
theorem get_turned {r : Rec} (h : recMay r = true) (k : Nat) (hk : k < 24) (c : UInt8) (hc : c ≠ (put r).getD k 0) : Skiff.get ((put r).set k c) = none := by
  cases hg : Skiff.get ((put r).set k c) with
  | none => rfl
  | some q =>
    exfalso
    unfold Skiff.get at hg
    split at hg
    · rename_i hq
      have e := hq.2.1
      have hat : ((put r).set k c)[k]? = some c := by rw [List.getElem?_set_self (by simpa using hk)]
      have hold : (put r)[k]? = some ((put r).getD k 0) := by
        rw [List.getD_eq_getElem?_getD, List.getElem?_eq_getElem (by simpa using hk)]; rfl
      by_cases h12 : k < 12
      · rw [List.drop_set_of_lt h12, show (put r).drop 12 = compl ((put r).take 12) by simp [put, List.take_append, List.drop_append]] at e
        have e2 := compl_inj e
        have e3 := congrArg (fun l : List UInt8 => l[k]?) e2
        simp only [List.getElem?_take, if_pos h12, hat, hold] at e3
        exact hc (Option.some.inj e3)
      · rw [List.take_set_of_le (by omega), show compl ((put r).take 12) = (put r).drop 12 by simp [put, List.take_append, List.drop_append]] at e
        have e3 := congrArg (fun l : List UInt8 => l[k - 12]?) e
        simp only [List.getElem?_drop, show 12 + (k - 12) = k by omega, hat, hold] at e3
        exact hc (Option.some.inj e3).symm
    · cases hg

theorem get_size {l : List UInt8} (h : l.length ≠ 24) : Skiff.get l = none := by
  unfold Skiff.get
  rw [if_neg]
  exact fun hc => h hc.1

theorem entryForms_walk (which x : Int) (f0 : (Lit.int .i64 which).wf = true) (f1 : (Lit.int .i64 x).wf = true) (w : World) :
    Calls Try.prog 5 #[.int .i64 which, .int .i64 x] w fun e w' => e = .returned (.bool true) ∧ Ext w w' := by
  obtain ⟨a, ha, ha2⟩ : ∃ a : Nat, bits .and .i64 x 1023 = (a : Int) ∧ a < 1024 := and_mask x f1 10 (by omega)
  obtain ⟨c, hc, hc2⟩ : ∃ k : Nat, wrap64 ((IntKind.u64.wrap which).tmod 9) = (k : Int) ∧ k < 9 := by
    have h0 : 0 ≤ IntKind.u64.wrap which := by rw [IntKind.wrap_u64]; omega
    have h1 : IntKind.u64.wrap which < 18446744073709551616 := by rw [IntKind.wrap_u64]; omega
    generalize IntKind.u64.wrap which = y at *
    rw [Int.tmod_eq_emod_of_nonneg h0]
    refine ⟨(y % 9).toNat, ?_, by omega⟩
    rw [wrap64]
    omega
  have cs : c = 0 ∨ c = 1 ∨ c = 2 ∨ c = 3 ∨ c = 4 ∨ c = 5 ∨ c = 6 ∨ c = 7 ∨ c = 8 := by omega
  have l0 : ([.int .i64 (0), .int .i64 (0), .int .i64 (5), .int .i64 (0), .int .i64 (-(1 + (a : Int))), .int .i64 (0), .int .i64 (5), .int .i64 (0), .int .i64 (1048576 + (1 + (a : Int))), .int .i64 (0), .int .i64 (5), .int .i64 (0), .int .i64 (3), .int .i64 (-(1 + (a : Int))), .int .i64 (5), .int .i64 (0), .int .i64 (3), .int .i64 (1 + (1 + (a : Int))), .int .i64 (5), .int .i64 (0), .int .i64 (3), .int .i64 (0), .int .i64 (1 - (1 + (a : Int))), .int .i64 (0), .int .i64 (3), .int .i64 (0), .int .i64 (288 + (1 + (a : Int))), .int .i64 (0), .int .i64 (3), .int .i64 (0), .int .i64 (5), .int .i64 (-(1 + (a : Int))), .int .i64 (3), .int .i64 (0), .int .i64 (5), .int .i64 (4294967295 + (1 + (a : Int)))] : List Value)[c * 4]? = some (.int .i64 (badRec (1 + (a : Int)) c).seq) := by rcases cs with rfl | rfl | rfl | rfl | rfl | rfl | rfl | rfl | rfl <;> rfl
  have l1 : ([.int .i64 (0), .int .i64 (0), .int .i64 (5), .int .i64 (0), .int .i64 (-(1 + (a : Int))), .int .i64 (0), .int .i64 (5), .int .i64 (0), .int .i64 (1048576 + (1 + (a : Int))), .int .i64 (0), .int .i64 (5), .int .i64 (0), .int .i64 (3), .int .i64 (-(1 + (a : Int))), .int .i64 (5), .int .i64 (0), .int .i64 (3), .int .i64 (1 + (1 + (a : Int))), .int .i64 (5), .int .i64 (0), .int .i64 (3), .int .i64 (0), .int .i64 (1 - (1 + (a : Int))), .int .i64 (0), .int .i64 (3), .int .i64 (0), .int .i64 (288 + (1 + (a : Int))), .int .i64 (0), .int .i64 (3), .int .i64 (0), .int .i64 (5), .int .i64 (-(1 + (a : Int))), .int .i64 (3), .int .i64 (0), .int .i64 (5), .int .i64 (4294967295 + (1 + (a : Int)))] : List Value)[c * 4 + 1]? = some (.int .i64 (badRec (1 + (a : Int)) c).slot) := by rcases cs with rfl | rfl | rfl | rfl | rfl | rfl | rfl | rfl | rfl <;> rfl
  have l2 : ([.int .i64 (0), .int .i64 (0), .int .i64 (5), .int .i64 (0), .int .i64 (-(1 + (a : Int))), .int .i64 (0), .int .i64 (5), .int .i64 (0), .int .i64 (1048576 + (1 + (a : Int))), .int .i64 (0), .int .i64 (5), .int .i64 (0), .int .i64 (3), .int .i64 (-(1 + (a : Int))), .int .i64 (5), .int .i64 (0), .int .i64 (3), .int .i64 (1 + (1 + (a : Int))), .int .i64 (5), .int .i64 (0), .int .i64 (3), .int .i64 (0), .int .i64 (1 - (1 + (a : Int))), .int .i64 (0), .int .i64 (3), .int .i64 (0), .int .i64 (288 + (1 + (a : Int))), .int .i64 (0), .int .i64 (3), .int .i64 (0), .int .i64 (5), .int .i64 (-(1 + (a : Int))), .int .i64 (3), .int .i64 (0), .int .i64 (5), .int .i64 (4294967295 + (1 + (a : Int)))] : List Value)[c * 4 + 2]? = some (.int .i64 (badRec (1 + (a : Int)) c).size) := by rcases cs with rfl | rfl | rfl | rfl | rfl | rfl | rfl | rfl | rfl <;> rfl
  have l3 : ([.int .i64 (0), .int .i64 (0), .int .i64 (5), .int .i64 (0), .int .i64 (-(1 + (a : Int))), .int .i64 (0), .int .i64 (5), .int .i64 (0), .int .i64 (1048576 + (1 + (a : Int))), .int .i64 (0), .int .i64 (5), .int .i64 (0), .int .i64 (3), .int .i64 (-(1 + (a : Int))), .int .i64 (5), .int .i64 (0), .int .i64 (3), .int .i64 (1 + (1 + (a : Int))), .int .i64 (5), .int .i64 (0), .int .i64 (3), .int .i64 (0), .int .i64 (1 - (1 + (a : Int))), .int .i64 (0), .int .i64 (3), .int .i64 (0), .int .i64 (288 + (1 + (a : Int))), .int .i64 (0), .int .i64 (3), .int .i64 (0), .int .i64 (5), .int .i64 (-(1 + (a : Int))), .int .i64 (3), .int .i64 (0), .int .i64 (5), .int .i64 (4294967295 + (1 + (a : Int)))] : List Value)[c * 4 + 3]? = some (.int .i64 (badRec (1 + (a : Int)) c).sum) := by rcases cs with rfl | rfl | rfl | rfl | rfl | rfl | rfl | rfl | rfl <;> rfl
  have P1 := Lib.hid (fun w => put_no (badRec_no (1 + (a : Int)) (by omega) c) w)
  generalize badRec (1 + (a : Int)) c = q at *
  clear cs
  obtain ⟨b, hb, hb2⟩ : ∃ a : Nat, bits .and .i64 which 127 = (a : Int) ∧ a < 128 := and_mask which f0 7 (by omega)
  obtain ⟨k, hk, hk2⟩ : ∃ k : Nat, wrap64 ((IntKind.u64.wrap x).tmod 24) = (k : Int) ∧ k < 24 := by
    have h0 : 0 ≤ IntKind.u64.wrap x := by rw [IntKind.wrap_u64]; omega
    have h1 : IntKind.u64.wrap x < 18446744073709551616 := by rw [IntKind.wrap_u64]; omega
    generalize IntKind.u64.wrap x = y at *
    rw [Int.tmod_eq_emod_of_nonneg h0]
    refine ⟨(y % 24).toNat, ?_, by omega⟩
    rw [wrap64]
    omega
  have hr : recMay ⟨3, 1, 5, 7⟩ = true := by decide
  have P2 := Lib.hid (fun w => put_ok hr w)
  have hgx : (mk (put ⟨3, 1, 5, 7⟩)).size = 24 := by simp
  have hgl : bl (mk (put ⟨3, 1, 5, 7⟩)) = put ⟨3, 1, 5, 7⟩ := bl_mk _
  have hxor := xor_byte ((put ⟨3, 1, 5, 7⟩).getD k 0) b hb2
  have G1 := Lib.hid (fun w => get_no (s := mk ((put ⟨3, 1, 5, 7⟩).set k ((put ⟨3, 1, 5, 7⟩).getD k 0 ^^^ UInt8.ofNat (1 + b)))) (by rw [bl_mk]; exact get_turned hr k hk2 _ (xor_ne _ b hb2)) w)
  have G2 := Lib.hid (fun w => get_no (s := (mk (put ⟨3, 1, 5, 7⟩)).extract 0 k) (get_size (by rw [bl_length]; simp; omega)) w)
  have G3 := Lib.hid (fun w => get_no (s := mk (put ⟨3, 1, 5, 7⟩) ++ ⟨#[120]⟩) (get_size (by rw [bl_length]; simp; decide)) w)
  have hpl : (put ⟨3, 1, 5, 7⟩).length = 24 := put_length _
  generalize hL : put ⟨3, 1, 5, 7⟩ = L at *
  generalize hX : mk L = X at *
  have hX2 : X.data.toList = L := by rw [← hgl]; rfl
  have kc := fun (w : World) => Lib.run_convert_string_bytes (P := Try.prog) w 9 42 5 X Try.underlying9 Try.underlying42 Try.underlying5
  have HX2 := Lib.hid hX2
  obtain ⟨c0, hc0⟩ : ∃ c0, L.getD k 0 = c0 := ⟨_, rfl⟩
  rw [hc0] at hxor G1
  have HC0 := Lib.hid hc0
  clear hc0
  generalize c0 ^^^ UInt8.ofNat (1 + b) = c1 at hxor G1
  clear hX2 hX hgl hL hr
  have hmk : (mk []).toList = [] := by decide +kernel
  go_enter Try.func5, Try.ntmps5
  go_wp2_with fail
  refine (awake4_calls _).mono ?_
  rintro e w1 ⟨rfl, B1⟩
  go_wp2_with fail
  refine (P1.out _).mono ?_
  rintro e w2 ⟨rfl, B2⟩
  go_wp2_with fail
  refine (P2.out _).mono ?_
  rintro e w3 ⟨rfl, B3⟩
  have hR := RowB.bytes w3 5 X
  rw [HX2.out] at hR
  have hE := Ext.bytes w3 5 X
  have hcell := hR.cellD (i := k) (by omega)
  have hfree := hR.free (i := k) (by omega)
  rw [HC0.out] at hcell
  have hS := (hR.set k c1).string (P := Try.prog) 42 5 9 Try.underlying42 Try.underlying5 Try.underlying9 (grownCap w3 24 0 5)
  rw [List.length_set, hpl] at hS
  have hE4 : Ext w3 ((Lib.bytesWorld w3 5 X).setCell ⟨w3.heap.size, k, none⟩ (.int .u8 (c1.toNat : Int))) := hE.setCell (Nat.le_refl _) _
  have hEE := (show Ext w w3 from (by repeat (first | (with_reducible exact Ext.refl _) | (with_reducible assumption) | (with_reducible refine Ext.drewN ?_ _) | (with_reducible refine Ext.drew ?_) | (with_reducible refine Ext.alloc ?_ _) | (with_reducible refine Ext.setCell ?_ (by first | exact Nat.le_refl _ | (simp <;> omega)) _) | (with_reducible refine Ext.trans ?_ (by with_reducible assumption))))).trans hE4
  clear hR hE hE4
  go_wp2_with fail
  refine (G1.out _).mono ?_
  rintro e w4 ⟨rfl, B4⟩
  go_wp2_with fail
  refine (G2.out _).mono ?_
  rintro e w5 ⟨rfl, B5⟩
  go_wp2_with fail
  refine (G3.out _).mono ?_
  rintro e w6 ⟨rfl, B6⟩
  go_wp2_with fail
  refine (num0_calls _ _).mono ?_
  rintro e w1 ⟨rfl, rfl⟩
  go_wp2_with fail
  refine (num0_calls _ _).mono ?_
  rintro e w2 ⟨rfl, rfl⟩
  go_wp2_with fail
  refine (num0_calls _ _).mono ?_
  rintro e w3 ⟨rfl, rfl⟩
  go_wp2_with fail
  refine (num0_calls _ _).mono ?_
  rintro e w4 ⟨rfl, rfl⟩
  go_wp2_with fail
  refine (num0_calls _ _).mono ?_
  rintro e w5 ⟨rfl, rfl⟩
  go_wp2
  go_ret
  exact ⟨rfl, (by repeat (first | (with_reducible exact Ext.refl _) | (with_reducible assumption) | (with_reducible refine Ext.drewN ?_ _) | (with_reducible refine Ext.drew ?_) | (with_reducible refine Ext.alloc ?_ _) | (with_reducible refine Ext.setCell ?_ (by first | exact Nat.le_refl _ | (simp <;> omega)) _) | (with_reducible refine Ext.trans ?_ (by with_reducible assumption))))⟩

end Go.Proofs.Ytcpghpjcpamhcaa
