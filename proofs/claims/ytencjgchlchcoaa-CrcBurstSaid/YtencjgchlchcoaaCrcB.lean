/- The statement that a stretch of at most 32 bits that is turned turns the sum. -/
import Derived.Test.YtencjgchlchcoaaCrcT
set_option linter.unusedVariables false
set_option linter.unusedSimpArgs false
namespace Go.Proofs.Ytencjgchlchcoaa
open Go.RowKit

theorem burst_k (n : Nat) (at_ : Int) (h : 4 ≤ n) (hn : n ≤ 140737488351232) : ∃ k : Nat, wrap64 ((IntKind.u64.wrap at_).tmod ((n : Int) - 3)) = (k : Int) ∧ k + 4 ≤ n := by
  have h0 : 0 ≤ IntKind.u64.wrap at_ := by rw [IntKind.wrap_u64]; omega
  rw [Int.tmod_eq_emod_of_nonneg h0]
  generalize IntKind.u64.wrap at_ = x at *
  have h1 := Int.emod_nonneg x (show (n : Int) - 3 ≠ 0 by omega)
  have h2 := Int.emod_lt_of_pos x (show (0 : Int) < (n : Int) - 3 by omega)
  generalize x % ((n : Int) - 3) = y at *
  obtain ⟨k, rfl⟩ := Int.eq_ofNat_of_zero_le h1
  refine ⟨k, ?_, by omega⟩
  unfold wrap64
  omega
theorem burst_x (by_ : Int) : ∃ x : Nat, wrap64 (1 + wrap64 ((IntKind.u64.wrap by_).tmod 4294967295)) = (x : Int) ∧ 1 ≤ x ∧ x < 4294967296 := by
  have h0 : 0 ≤ IntKind.u64.wrap by_ := by rw [IntKind.wrap_u64]; omega
  rw [Int.tmod_eq_emod_of_nonneg h0]
  generalize IntKind.u64.wrap by_ = x at *
  refine ⟨(1 + x % 4294967295).toNat, ?_, by omega, by omega⟩
  unfold wrap64
  omega

/-- The bytes after so many rounds. -/
def burstTo (l : List UInt8) (k x : Nat) : Nat → List UInt8
  | 0 => l
  | i + 1 => (burstTo l k x i).set (k + i) ((burstTo l k x i).getD (k + i) 0 ^^^ UInt8.ofNat (x / 2 ^ (8 * i)))
theorem burstTo_len (l : List UInt8) (k x : Nat) : ∀ i, (burstTo l k x i).length = l.length
  | 0 => rfl
  | i + 1 => by simp [burstTo, burstTo_len l k x i]

theorem burst_byte (b : UInt8) (x d : Nat) : bits .xor .u8 (b.toNat : Int) ((x : Int) / (d : Int) % 256) = ((b ^^^ UInt8.ofNat (x / d)).toNat : Int) := by
  have e : (x : Int) / (d : Int) % 256 = ((x / d % 256 : Nat) : Int) := by omega
  rw [e, u8_xor_nat _ _ b.toNat_lt (by omega)]
  simp [UInt8.toNat_xor, UInt8.toNat_ofNat']
theorem burst_four (p r : List UInt8) (a b c d : UInt8) (x : Nat) :
    burstTo (p ++ ([a, b, c, d] ++ r)) p.length x 4 = p ++ ([a ^^^ UInt8.ofNat (x / 2 ^ 0), b ^^^ UInt8.ofNat (x / 2 ^ 8), c ^^^ UInt8.ofNat (x / 2 ^ 16), d ^^^ UInt8.ofNat (x / 2 ^ 24)] ++ r) := by
  simp [burstTo, List.set_append, List.getElem?_append, List.getD_eq_getElem?_getD]
theorem burst_split (l : List UInt8) (k : Nat) (h : k + 4 ≤ l.length) : ∃ p a b c d r, l = p ++ ([a, b, c, d] ++ r) ∧ p.length = k := by
  refine ⟨l.take k, l[k], l[k + 1], l[k + 2], l[k + 3], l.drop (k + 4), ?_, by simp; omega⟩
  have h1 : l.drop k = l[k] :: l.drop (k + 1) := List.drop_eq_getElem_cons (by omega)
  have h2 : l.drop (k + 1) = l[k + 1] :: l.drop (k + 2) := List.drop_eq_getElem_cons (by omega)
  have h3 : l.drop (k + 2) = l[k + 2] :: l.drop (k + 3) := List.drop_eq_getElem_cons (by omega)
  have h4 : l.drop (k + 3) = l[k + 3] :: l.drop (k + 4) := List.drop_eq_getElem_cons (by omega)
  conv => lhs; rw [← List.take_append_drop k l, h1, h2, h3, h4]
  simp
theorem burst_ne (l : List UInt8) (k x : Nat) (h : k + 4 ≤ l.length) (h1 : 1 ≤ x) (h2 : x < 4294967296) : Skiff.crcSum (burstTo l k x 4) ≠ Skiff.crcSum l := by
  obtain ⟨p, a, b, c, d, r, rfl, rfl⟩ := burst_split l k h
  rw [burst_four]
  intro he
  obtain ⟨e1, e2, e3, e4⟩ := Skiff.crcSum_burst p r _ _ _ _ _ _ _ _ he
  have z : ∀ (u : UInt8) (y : Nat), u ^^^ UInt8.ofNat y = u → y % 256 = 0 := by
    intro u y hu
    have h0 : u ^^^ (u ^^^ UInt8.ofNat y) = u ^^^ u := by rw [hu]
    rw [← UInt8.xor_assoc, UInt8.xor_self, UInt8.zero_xor] at h0
    have := congrArg UInt8.toNat h0
    simpa using this
  have z1 := z _ _ e1
  have z2 := z _ _ e2
  have z3 := z _ _ e3
  have z4 := z _ _ e4
  omega

theorem burst_walk (s : ByteArray) (at_ by_ : Int) (hs : s.size ≤ 140737488351232) (f1 : (Lit.int .i64 at_).wf = true) (f2 : (Lit.int .i64 by_).wf = true) (w : World) :
    Calls Try.prog 4 #[.string s, .int .i64 at_, .int .i64 by_] w fun e w' => e = .returned (.bool true) ∧ Ext w w' := by
  by_cases hlen : s.size < 4
  · go_enter Try.func4, Try.ntmps4
    go_wp2_with fail
    refine (awake_calls _).mono ?_
    rintro e w1 ⟨rfl, B1⟩
    go_wp2
    go_ret
    exact ⟨rfl, (by repeat (first | exact Ext.refl _ | refine Ext.drewN ?_ _ | refine Ext.drew ?_ | refine Ext.alloc ?_ _ | refine Ext.trans ?_ (by assumption)))⟩
  have kc := fun (w : World) => Lib.run_convert_string_bytes (P := Try.prog) w 9 28 5 s Try.underlying9 Try.underlying28 Try.underlying5
  obtain ⟨k, hk, hks⟩ := burst_k s.size at_ (by omega) (by omega)
  obtain ⟨x, hx, hx1, hx2⟩ := burst_x by_
  have h4 : decide ((s.size : Int) < 4) = false := by simp; omega
  have hl : s.data.toList.length = s.size := by simp
  go_enter Try.func4, Try.ntmps4
  go_wp2_with fail
  refine (awake_calls _).mono ?_
  rintro e w1 ⟨rfl, B1⟩
  go_wp2
  have hR := RowB.bytes w1 5 s
  have hE : Ext w1 (Lib.bytesWorld w1 5 s) := Ext.bytes _ _ _
  go_loopw [10] (fun i wr => ∃ j : Nat, j ≤ 4 ∧ i = .int .i64 (j : Int) ∧ RowB wr w1.heap.size (burstTo s.data.toList k x j) ∧ Ext w1 wr) (fun i _ => 4 - (intOf i).toNat)
  case atStart => exact ⟨0, by omega, rfl, hR, hE⟩
  case round =>
    clear hR hE
    obtain ⟨j, hj, rfl, hR, hE⟩ := hrel
    have hlen2 := burstTo_len s.data.toList k x j
    by_cases hlt : j < 4
    · have hcell := hR.cellD (i := k + j) (by omega)
      have hfree := hR.free (i := k + j) (by omega)
      have hc2 : j = 0 ∨ j = 1 ∨ j = 2 ∨ j = 3 := by omega
      generalize hcc : (burstTo s.data.toList k x j).getD (k + j) 0 = c at hcell
      have HC := Lib.hid hcc
      have F0 := Lib.hid (burst_byte c x 1)
      have F1 := Lib.hid (burst_byte c x 256)
      have F2 := Lib.hid (burst_byte c x 65536)
      have F3 := Lib.hid (burst_byte c x 16777216)
      clear hcc
      rcases hc2 with rfl | rfl | rfl | rfl
      · simp only [Nat.add_zero] at hcell hfree
        go_wp2
        go_region
        go_wp2
        go_roundw
        case rel =>
          have e := F0.out
          simp only [Int.natCast_one, Int.ediv_one] at e
          obtain rfl := HC.out
          exact ⟨1, by omega, rfl, by rw [e]; exact (hR.set (k + 0) _).ext (Ext.refl _).drew, (hE.setCell (Nat.le_refl _) _).drew⟩
        case measure => simp [intOf]
      · go_wp2
        go_region
        go_wp2
        go_roundw
        case rel =>
          have e := F1.out
          rw [show ((256 : Nat) : Int) = 256 from rfl] at e
          obtain rfl := HC.out
          exact ⟨2, by omega, rfl, by rw [e]; exact (hR.set (k + 1) _).ext (Ext.refl _).drew, (hE.setCell (Nat.le_refl _) _).drew⟩
        case measure => simp [intOf]
      · go_wp2
        go_region
        go_wp2
        go_roundw
        case rel =>
          have e := F2.out
          rw [show ((65536 : Nat) : Int) = 65536 from rfl] at e
          obtain rfl := HC.out
          exact ⟨3, by omega, rfl, by rw [e]; exact (hR.set (k + 2) _).ext (Ext.refl _).drew, (hE.setCell (Nat.le_refl _) _).drew⟩
        case measure => simp [intOf]
      · go_wp2
        go_region
        go_wp2
        go_roundw
        case rel =>
          have e := F3.out
          rw [show ((16777216 : Nat) : Int) = 16777216 from rfl, show ((x : Int) / 16777216 % 256) = (x : Int) / 16777216 from by omega] at e
          obtain rfl := HC.out
          exact ⟨4, by omega, rfl, by rw [e]; exact (hR.set (k + 3) _).ext (Ext.refl _).drew, (hE.setCell (Nat.le_refl _) _).drew⟩
        case measure => simp [intOf]
    · obtain rfl : j = 4 := by omega
      have hS : ∀ w', Ext wr w' → (convert 28 9 (.slice (some ⟨w1.heap.size, 0, none⟩) s.size (grownCap w1 s.size 0 5))).run Try.prog w' = .ok (.string ⟨(burstTo s.data.toList k x 4).toArray⟩) w' := by
        intro w' h
        have := (hR.ext h).string 28 5 9 Try.underlying28 Try.underlying5 Try.underlying9 (grownCap w1 s.size 0 5)
        rw [hlen2, hl] at this
        exact this
      have hne := burst_ne s.data.toList k x (by omega) hx1 hx2
      have C1 := Lib.hid (fun w => sum_calls ⟨(burstTo s.data.toList k x 4).toArray⟩ w (by show (burstTo s.data.toList k x 4).toArray.size ≤ _; simp [hlen2]; omega))
      have C2 := Lib.hid (fun w => sum_calls s w (by omega))
      have xs : (⟨(burstTo s.data.toList k x 4).toArray⟩ : ByteArray).data.toList = burstTo s.data.toList k x 4 := by simp
      rw [xs] at C1
      generalize Skiff.crcSum (burstTo s.data.toList k x 4) = a at *
      generalize Skiff.crcSum s.data.toList = b at *
      have HX : Hid (((a : Int) != (b : Int)) = true) := by
        show _ = true
        rw [bne_iff_ne]; omega
      have hS0 := hS wr (Ext.refl _)
      clear hne xs hS
      go_wp2_with fail
      refine (C1.out _).mono ?_
      rintro e w2 ⟨rfl, B2⟩
      go_wp2_with fail
      refine (C2.out _).mono ?_
      rintro e w3 ⟨rfl, B3⟩
      go_wp2
      go_ret
      exact ⟨congrArg (fun b => Ending.returned (.bool b)) HX.out, (by repeat (first | exact Ext.refl _ | refine Ext.drewN ?_ _ | refine Ext.drew ?_ | refine Ext.alloc ?_ _ | refine Ext.trans ?_ (by assumption)))⟩

end Go.Proofs.Ytencjgchlchcoaa
