
/- What every layer calls: the reference's upTo, skifflaw0.Num, a made row of bytes. -/
import Derived.Test.YtclhcfnmpnhflaaProg
import Derived.Test.YtclhcfnmpnhflaaPure
import Derived.Test.YtclhcfnmpnhflaaRow
import Derived.LoopTactic
import Derived.Outline
import Derived.Lib.Hide
import Derived.IntWalk
import Derived.WalkLawsBesides
import Derived.Laws.BitsAllLaws
import Derived.RegionTactic
import Derived.Deep.RegionHeld3
import Derived.Deep.QuietTactic
import Derived.BigQuiet
set_option linter.unusedVariables false
set_option linter.unusedSimpArgs false
set_option maxHeartbeats 4000000
namespace Go.Proofs.Ytclhcfnmpnhflaa
open Go.RowKit Skiff

theorem info_u8 : (Try.prog.info? 5).map (fun i => (i.zero, i.size, i.bytes)) = some (some (.int .u8 0), 1, 1) := by kernel_rfl

theorem upTo_calls (x a b : Int) (w : World) :
    Calls Try.prog 33 #[.int .i64 x, .int .i64 a, .int .i64 b] w fun e w' => e = .returned (.bool (within x a b)) ∧ w = w' := by
  have hw : Hid (within x a b = (decide (a ≤ x) && decide (x ≤ b))) := rfl
  by_cases h : a ≤ x
  · have h1 : decide (a ≤ x) = true := by simpa using h
    go_enter Try.func33, Try.ntmps33
    go_wp2
    go_ret
    exact ⟨by rw [hw.out, h1]; rfl, rfl⟩
  · have h1 : decide (a ≤ x) = false := by simpa using h
    go_enter Try.func33, Try.ntmps33
    go_wp2
    go_ret
    exact ⟨by rw [hw.out, h1]; rfl, rfl⟩

theorem made_u8 (n : Nat) (h : n ≤ 140737488351232) (w : World) :
    (Instr.makeSlice 56 (.int .i64 (n : Int)) (.int .i64 (n : Int))).run Try.prog w = .ok (.slice (some ⟨w.heap.size, 0, none⟩) n n) (w.alloc (.cells (madeCells #[.int .u8 0] n) 5)) := by
  obtain ⟨i0, hi, hz0, hz1, hz2⟩ := info_parts info_u8
  have hr := run_make (P := Try.prog) w 56 5 i0 _ Try.underlying56 hi hz0 .i64 .i64 (n : Int) (n : Int) (by omega) (by omega) (by rw [hz2]; omega) (by omega)
  rw [hz1] at hr
  simp only [Nat.mul_one, Int.toNat_natCast] at hr
  exact hr

theorem num0_calls (x : Int) (w : World) :
    Calls Try.prog 13 #[.int .i64 x] w fun e w' => e = .returned (.int .i64 x) ∧ w = w' := by
  go_enter Try.func13, Try.ntmps13
  go_wp2
  go_ret
  exact ⟨rfl, rfl⟩

theorem Ext.cell_newD {w w' : World} {cs : Array Value} {e : TypeId} {r : Nat × Nat} {v : Value} (b i : Nat) (h : Ext (w.alloc (.cells cs e r)).drew w') (hb : w.heap.size = b) (hv : cs[i]? = some v) : w'.cell? ⟨b, i, none⟩ = some v :=
  Ext.cell h (show (w.alloc (.cells cs e r)).cell? ⟨b, i, none⟩ = some v by subst hb; rw [World.cell?, heap_alloc_new]; exact hv)
theorem quietN {P : Program} {f : FuncId} {args : Array Value} {w : World} {n : Nat} {v : Value} (h : Calls P f args (w.drewN n) fun e w' => e = .returned v ∧ w.drewN n = w') : Calls P f args (w.drewN n) fun e w'' => e = .returned v ∧ ∃ m, w'' = w.drewN m :=
  h.mono fun _ _ ⟨he, hm⟩ => ⟨he, n, hm.symm⟩

theorem and_mask (x : Int) (h : (Lit.int .i64 x).wf = true) (n : Nat) (hn : n ≤ 62) : ∃ k : Nat, bits .and .i64 x ((2 ^ n - 1 : Nat) : Int) = (k : Int) ∧ k < 2 ^ n := by
  have hp : 2 ^ n ≤ 2 ^ 62 := Nat.pow_le_pow_right (by decide) hn
  have h1 : 2 ^ n - 1 < 2 ^ 64 := by omega
  have e : (BitVec.ofInt 64 x &&& BitVec.ofInt 64 ((2 ^ n - 1 : Nat) : Int)).toNat = (BitVec.ofInt 64 x).toNat % 2 ^ n := by
    rw [BitVec.toNat_and, BitVec.ofInt_natCast, BitVec.toNat_ofNat, Nat.mod_eq_of_lt h1, Nat.and_two_pow_sub_one_eq_mod]
  have hlt : (BitVec.ofInt 64 x).toNat % 2 ^ n < 2 ^ n := Nat.mod_lt _ (Nat.two_pow_pos n)
  refine ⟨_, ?_, hlt⟩
  show IntKind.i64.wrap (((BitVec.ofInt 64 x) &&& (BitVec.ofInt 64 ((2 ^ n - 1 : Nat) : Int))).toNat : Int) = _
  rw [e]
  exact wrap_i64_fit _ (by omega) (by omega)
theorem mod_nat (x : Int) (m : Nat) (h : 0 < m) (h2 : m < 1000) : ∃ k : Nat, wrap64 ((IntKind.u64.wrap x).tmod (m : Int)) = (k : Int) ∧ k < m := by
  have h0 : 0 ≤ IntKind.u64.wrap x := by rw [IntKind.wrap_u64]; omega
  have h1 : IntKind.u64.wrap x < 18446744073709551616 := by rw [IntKind.wrap_u64]; omega
  generalize IntKind.u64.wrap x = y at *
  rw [Int.tmod_eq_emod_of_nonneg h0]
  have p0 := Int.emod_nonneg y (by omega : (m : Int) ≠ 0)
  have p1 := Int.emod_lt_of_pos y (by omega : 0 < (m : Int))
  refine ⟨(y % m).toNat, ?_, by omega⟩
  rw [wrap64]
  omega
theorem xor_byte (c : UInt8) (y : Nat) (h : y < 128) : bits .xor .u8 (c.toNat : Int) (1 + (y : Int)) = ((c ^^^ UInt8.ofNat (1 + y)).toNat : Int) := by
  have e : (1 : Int) + (y : Int) = ((1 + y : Nat) : Int) := by omega
  rw [e, u8_xor_nat _ _ c.toNat_lt (by omega)]
  have hm : (1 + y) % 256 = 1 + y := Nat.mod_eq_of_lt (by omega)
  simp [UInt8.toNat_xor, UInt8.toNat_ofNat', hm]
theorem xor_ne (c : UInt8) (y : Nat) (h : y < 128) : c ^^^ UInt8.ofNat (1 + y) ≠ c := by
  intro e
  have h1 := congrArg (fun x => c ^^^ x) e
  simp only [← UInt8.xor_assoc, UInt8.xor_self, UInt8.zero_xor] at h1
  have h2 := congrArg UInt8.toNat h1
  simp [UInt8.toNat_ofNat'] at h2
  omega

end Go.Proofs.Ytclhcfnmpnhflaa
