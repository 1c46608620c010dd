/- EntryWords. -/
import Derived.Test.YtcpghpjcpamhcaaEntA
set_option linter.unusedVariables false
set_option linter.unusedSimpArgs false
set_option maxHeartbeats 4000000
namespace Go.Proofs.Ytcpghpjcpamhcaa
open Go.RowKit Skiff

theorem and_mask (x : Int) (h : (Lit.int .i64 x).wf = true) (n : Nat) (hn : n ≤ 62) : ∃ k : Nat, bits .and .i64 x ((2 ^ n - 1 : Nat) : Int) = (k : Int) ∧ k < 2 ^ n := by
  have hp : 2 ^ n ≤ 2 ^ 62 := Nat.pow_le_pow_right (by decide) hn
  have h1 : 2 ^ n - 1 < 2 ^ 64 := by omega
  have e : (BitVec.ofInt 64 x &&& BitVec.ofInt 64 ((2 ^ n - 1 : Nat) : Int)).toNat = (BitVec.ofInt 64 x).toNat % 2 ^ n := by
    rw [BitVec.toNat_and, BitVec.ofInt_natCast, BitVec.toNat_ofNat, Nat.mod_eq_of_lt h1, Nat.and_two_pow_sub_one_eq_mod]
  have hlt : (BitVec.ofInt 64 x).toNat % 2 ^ n < 2 ^ n := Nat.mod_lt _ (Nat.two_pow_pos n)
  refine ⟨_, ?_, hlt⟩
  show IntKind.i64.wrap (((BitVec.ofInt 64 x) &&& (BitVec.ofInt 64 ((2 ^ n - 1 : Nat) : Int))).toNat : Int) = _
  rw [e]
  exact wrap_i64_fit _ (by omega) (by omega)

theorem take_four (l : List UInt8) (h : 4 ≤ l.length) : l.take 4 = [l[0], l[1], l[2], l[3]] := by
  match l, h with
  | a :: b :: c :: d :: r, _ => rfl
theorem take_two (l : List UInt8) (h : 2 ≤ l.length) : l.take 2 = [l[0], l[1]] := by
  match l, h with
  | a :: b :: r, _ => rfl
/-- The bytes of a record, one by one. -/
theorem put_bytes {r : Rec} (h : recMay r = true) (X : ByteArray) (hX : X = mk (put r)) (h24 : X.size = 24) :
    (X[0].toNat : Int) + (256 : Int) * (X[1].toNat : Int) + (65536 : Int) * (X[2].toNat : Int) + (16777216 : Int) * (X[3].toNat : Int) = r.seq ∧ (X[4].toNat : Int) = r.slot ∧ (X[5].toNat : Int) = 0 ∧
    (X[6].toNat : Int) + (256 : Int) * (X[7].toNat : Int) = r.size ∧ (X[8].toNat : Int) + (256 : Int) * (X[9].toNat : Int) + (65536 : Int) * (X[10].toNat : Int) + (16777216 : Int) * (X[11].toNat : Int) = r.sum := by
  have hl : (bl X).length = 24 := by rw [bl_length, h24]
  have hm := recMay_iff.1 h
  have ht : told (bl X) = r := by rw [hX, bl_mk]; exact told_put h _
  have e1 : num ((bl X).take 4) = r.seq := by rw [← ht]; rfl
  have e2 : num (((bl X).drop 4).take 2) = r.slot := by rw [← ht]; rfl
  have e3 : num (((bl X).drop 6).take 2) = r.size := by rw [← ht]; rfl
  have e4 : num (((bl X).drop 8).take 4) = r.sum := by rw [← ht]; rfl
  rw [take_four _ (by omega)] at e1
  rw [take_two _ (by simp; omega)] at e2 e3
  rw [take_four _ (by simp; omega)] at e4
  simp only [List.getElem_drop, num] at e1 e2 e3 e4
  have b0 : (bl X)[0] = X[0] := rfl
  have b1 : (bl X)[1] = X[1] := rfl
  have b2 : (bl X)[2] = X[2] := rfl
  have b3 : (bl X)[3] = X[3] := rfl
  have b4 : (bl X)[4] = X[4] := rfl
  have b5 : (bl X)[5] = X[5] := rfl
  have b6 : (bl X)[6] = X[6] := rfl
  have b7 : (bl X)[7] = X[7] := rfl
  have b8 : (bl X)[8] = X[8] := rfl
  have b9 : (bl X)[9] = X[9] := rfl
  have b10 : (bl X)[10] = X[10] := rfl
  have b11 : (bl X)[11] = X[11] := rfl
  simp only [Nat.add_zero, Nat.reduceAdd, b0, b1, b2, b3, b4, b5, b6, b7, b8, b9, b10, b11] at e1 e2 e3 e4
  refine ⟨?_, ?_, ?_, ?_, ?_⟩ <;> omega

theorem entryWords_walk (seq slot size sum : Int) (f0 : (Lit.int .i64 seq).wf = true) (f1 : (Lit.int .i64 slot).wf = true) (f2 : (Lit.int .i64 size).wf = true) (f3 : (Lit.int .i64 sum).wf = true) (w : World) :
    Calls Try.prog 8 #[.int .i64 seq, .int .i64 slot, .int .i64 size, .int .i64 sum] w fun e w' => e = .returned (.bool true) ∧ Ext w w' := by
  obtain ⟨a, ha, ha2⟩ : ∃ a : Nat, bits .and .i64 seq 65535 = (a : Int) ∧ a < 65536 := and_mask seq f0 16 (by omega)
  obtain ⟨b, hb, hb2⟩ : ∃ a : Nat, bits .and .i64 slot 1 = (a : Int) ∧ a < 2 := and_mask slot f1 1 (by omega)
  obtain ⟨d, hd, hd2⟩ : ∃ a : Nat, bits .and .i64 sum 4294967295 = (a : Int) ∧ a < 4294967296 := and_mask sum f3 32 (by omega)
  obtain ⟨c, hc, hc2⟩ : ∃ k : Nat, wrap64 ((IntKind.u64.wrap size).tmod 288) = (k : Int) ∧ k < 288 := by
    have h0 : 0 ≤ IntKind.u64.wrap size := by rw [IntKind.wrap_u64]; omega
    have h1 : IntKind.u64.wrap size < 18446744073709551616 := by rw [IntKind.wrap_u64]; omega
    generalize IntKind.u64.wrap size = y at *
    rw [Int.tmod_eq_emod_of_nonneg h0]
    refine ⟨(y % 288).toNat, ?_, by omega⟩
    rw [wrap64]
    omega
  go_enter Try.func8, Try.ntmps8
  go_wp2_with fail
  refine (awake4_calls _).mono ?_
  rintro e w1 ⟨rfl, B1⟩
  have hr : recMay ⟨1 + (a : Int), b, 1 + (c : Int), d⟩ = true := by rw [recMay_iff]; simp only; omega
  have P := Lib.hid (fun w => put_ok hr w)
  have hx : (mk (put ⟨1 + (a : Int), b, 1 + (c : Int), d⟩)).size = 24 := by simp
  have hb := put_bytes hr _ rfl hx
  generalize mk (put ⟨1 + (a : Int), b, 1 + (c : Int), d⟩) = X at *
  obtain ⟨hb1, hb2, hb3, hb4, hb5⟩ := hb
  simp only at hb1 hb2 hb4 hb5
  have q0 := X[0].toNat_lt
  have q1 := X[1].toNat_lt
  have q2 := X[2].toNat_lt
  have q3 := X[3].toNat_lt
  have q4 := X[4].toNat_lt
  have q5 := X[5].toNat_lt
  have q6 := X[6].toNat_lt
  have q7 := X[7].toNat_lt
  have q8 := X[8].toNat_lt
  have q9 := X[9].toNat_lt
  have q10 := X[10].toNat_lt
  have q11 := X[11].toNat_lt
  go_wp2_with fail
  refine (P.out _).mono ?_
  rintro e w2 ⟨rfl, B2⟩
  have k0_w2 : w2.cell? ⟨w1.heap.size, 0, none⟩ = some (.int .i64 (1 + (a : Int))) := Ext.cell B2 (by simp)
  have k1_w2 : w2.cell? ⟨w1.heap.size, 1, none⟩ = some (.int .i64 b) := Ext.cell B2 (by simp)
  have k2_w2 : w2.cell? ⟨w1.heap.size, 2, none⟩ = some (.int .i64 (1 + (c : Int))) := Ext.cell B2 (by simp)
  have k3_w2 : w2.cell? ⟨w1.heap.size, 3, none⟩ = some (.int .i64 d) := Ext.cell B2 (by simp)
  have f_w2 : ∀ i, w2.frozen? ⟨w1.heap.size, i, none⟩ = false := fun i => Ext.free B2 (by first | (simp; done) | (simp; omega)) (by first | (simp; done) | (simp; omega))
  go_wp2_with fail
  refine (num0_calls _ _).mono ?_
  rintro e w1 ⟨rfl, rfl⟩
  go_wp2
  go_region
  go_wp2
  go_region
  go_wp2
  go_region
  go_wp2
  go_region
  go_wp2
  go_ret
  exact ⟨rfl, (by repeat (first | (with_reducible exact Ext.refl _) | (with_reducible refine Ext.drewN ?_ _) | (with_reducible refine Ext.drew ?_) | (with_reducible refine Ext.alloc ?_ _) | (with_reducible refine Ext.setCell ?_ (by first | exact Nat.le_refl _ | (simp <;> omega)) _) | (with_reducible refine Ext.trans ?_ (by with_reducible assumption))))⟩

end Go.Proofs.Ytcpghpjcpamhcaa
