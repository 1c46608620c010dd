/- What the functions of package entry come to. -/
import Derived.Test.YtbibmdnjidmchaaRefU
set_option linter.unusedVariables false
set_option linter.unusedSimpArgs false
set_option maxHeartbeats 4000000
namespace Go.Proofs.Ytbibmdnjidmchaa
open Go.RowKit Skiff

def recV (r : Rec) : Value := .agg #[.int .i64 r.seq, .int .i64 r.slot, .int .i64 r.size, .int .i64 r.sum]

theorem in_calls (x a b : Int) (w : World) :
    Calls Try.prog 32 #[.int .i64 x, .int .i64 a, .int .i64 b] w fun e w' => e = .returned (.bool (within x a b)) ∧ w = w' := by
  have hw : Hid (within x a b = (decide (a ≤ x) && decide (x ≤ b))) := rfl
  by_cases h : a ≤ x
  · have h1 : decide (a ≤ x) = true := by simpa using h
    go_enter Try.func32, Try.ntmps32
    go_wp2
    go_ret
    exact ⟨by rw [hw.out, h1]; rfl, rfl⟩
  · have h1 : decide (a ≤ x) = false := by simpa using h
    go_enter Try.func32, Try.ntmps32
    go_wp2
    go_ret
    exact ⟨by rw [hw.out, h1]; rfl, rfl⟩

theorem size_calls (x : Int) (w : World) :
    Calls Try.prog 33 #[.int .i64 x] w fun e w' => e = .returned (.bool (within x 1 288)) ∧ w = w' := by
  go_enter Try.func33, Try.ntmps33
  go_wp2_with fail
  refine (in_calls _ _ _ _).mono ?_
  rintro e w1 ⟨rfl, rfl⟩
  go_wp2
  go_ret
  exact ⟨rfl, rfl⟩

theorem slot_calls (x : Int) (w : World) :
    Calls Try.prog 19 #[.int .i64 x] w fun e w' => e = .returned (.bool (within x 0 1)) ∧ w = w' := by
  go_enter Try.func19, Try.ntmps19
  go_wp2_with fail
  refine (in_calls _ _ _ _).mono ?_
  rintro e w1 ⟨rfl, rfl⟩
  go_wp2
  go_ret
  exact ⟨rfl, rfl⟩

theorem may_calls (r : Rec) (w : World) :
    Calls Try.prog 24 #[recV r] w fun e w' => e = .returned (.bool (recMay r)) ∧ Ext w w' := by
  unfold recV
  have hm : Hid (recMay r = (within r.seq 1 1048576 && within r.slot 0 1 && within r.size 1 288 && within r.sum 0 4294967295)) := rfl
  cases h1 : within r.seq 1 1048576
  · go_enter Try.func24, Try.ntmps24
    go_wp2_with fail
    refine (in_calls _ _ _ _).mono ?_
    rintro e w1 ⟨rfl, rfl⟩
    go_wp2
    go_ret
    exact ⟨by rw [hm.out, h1]; rfl, (by repeat (first | (with_reducible exact Ext.refl _) | (with_reducible assumption) | (with_reducible refine Ext.drewN ?_ _) | (with_reducible refine Ext.drew ?_) | (with_reducible refine Ext.alloc ?_ _) | (with_reducible refine Ext.setCell ?_ (by first | exact Nat.le_refl _ | (simp <;> omega)) _) | (with_reducible refine Ext.trans ?_ (by with_reducible assumption))))⟩
  cases h2 : within r.slot 0 1
  · go_enter Try.func24, Try.ntmps24
    go_wp2_with fail
    refine (in_calls _ _ _ _).mono ?_
    rintro e w2 ⟨rfl, rfl⟩
    go_wp2_with fail
    refine (slot_calls _ _).mono ?_
    rintro e w3 ⟨rfl, rfl⟩
    go_wp2
    go_ret
    exact ⟨by rw [hm.out, h1, h2]; rfl, (by repeat (first | (with_reducible exact Ext.refl _) | (with_reducible assumption) | (with_reducible refine Ext.drewN ?_ _) | (with_reducible refine Ext.drew ?_) | (with_reducible refine Ext.alloc ?_ _) | (with_reducible refine Ext.setCell ?_ (by first | exact Nat.le_refl _ | (simp <;> omega)) _) | (with_reducible refine Ext.trans ?_ (by with_reducible assumption))))⟩
  cases h3 : within r.size 1 288
  · go_enter Try.func24, Try.ntmps24
    go_wp2_with fail
    refine (in_calls _ _ _ _).mono ?_
    rintro e w4 ⟨rfl, rfl⟩
    go_wp2_with fail
    refine (slot_calls _ _).mono ?_
    rintro e w5 ⟨rfl, rfl⟩
    go_wp2_with fail
    refine (size_calls _ _).mono ?_
    rintro e w6 ⟨rfl, rfl⟩
    go_wp2
    go_ret
    exact ⟨by rw [hm.out, h1, h2, h3]; rfl, (by repeat (first | (with_reducible exact Ext.refl _) | (with_reducible assumption) | (with_reducible refine Ext.drewN ?_ _) | (with_reducible refine Ext.drew ?_) | (with_reducible refine Ext.alloc ?_ _) | (with_reducible refine Ext.setCell ?_ (by first | exact Nat.le_refl _ | (simp <;> omega)) _) | (with_reducible refine Ext.trans ?_ (by with_reducible assumption))))⟩
  · go_enter Try.func24, Try.ntmps24
    go_wp2_with fail
    refine (in_calls _ _ _ _).mono ?_
    rintro e w7 ⟨rfl, rfl⟩
    go_wp2_with fail
    refine (slot_calls _ _).mono ?_
    rintro e w8 ⟨rfl, rfl⟩
    go_wp2_with fail
    refine (size_calls _ _).mono ?_
    rintro e w9 ⟨rfl, rfl⟩
    go_wp2_with fail
    refine (in_calls _ _ _ _).mono ?_
    rintro e w10 ⟨rfl, rfl⟩
    go_wp2
    go_ret
    exact ⟨by rw [hm.out, h1, h2, h3]; rfl, (by repeat (first | (with_reducible exact Ext.refl _) | (with_reducible assumption) | (with_reducible refine Ext.drewN ?_ _) | (with_reducible refine Ext.drew ?_) | (with_reducible refine Ext.alloc ?_ _) | (with_reducible refine Ext.setCell ?_ (by first | exact Nat.le_refl _ | (simp <;> omega)) _) | (with_reducible refine Ext.trans ?_ (by with_reducible assumption))))⟩



theorem or_byte (n : Nat) (b : UInt8) (h : n < 2 ^ 48) : bits .or .i64 ((n : Int) * 256) (b.toNat : Int) = ((b.toNat + 256 * n : Nat) : Int) := by
  have hb := b.toNat_lt
  rw [bits_join .i64 62 (by decide) (fun m h0 h1 => IntWalk.i64_in m (by omega)) 8 ((n : Int) * 256) (b.toNat : Int) (by omega) (by omega) (by omega) (by omega) (by omega) (by omega)]
  omega


theorem u8_not (b : UInt8) : bits .xor .u8 IntKind.u8.max (b.toNat : Int) = ((~~~ b).toNat : Int) := by
  have e : IntKind.u8.max = ((255 : Nat) : Int) := rfl
  have hb := b.toNat_lt
  rw [e, u8_xor_nat 255 b.toNat (by decide) hb]
  congr 1



end Go.Proofs.Ytbibmdnjidmchaa
