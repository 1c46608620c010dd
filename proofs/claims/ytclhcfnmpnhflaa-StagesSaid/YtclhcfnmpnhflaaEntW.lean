/- What the functions of package entry come to. -/
import Derived.Test.YtclhcfnmpnhflaaRefU
set_option linter.unusedVariables false
set_option linter.unusedSimpArgs false
set_option maxHeartbeats 4000000
namespace Go.Proofs.Ytclhcfnmpnhflaa
open Go.RowKit Skiff

def recV (r : Rec) : Value := .agg #[.int .i64 r.seq, .int .i64 r.slot, .int .i64 r.size, .int .i64 r.sum]

theorem in_calls (x a b : Int) (w : World) :
    Calls Try.prog 43 #[.int .i64 x, .int .i64 a, .int .i64 b] w fun e w' => e = .returned (.bool (within x a b)) ∧ w = w' := by
  have hw : Hid (within x a b = (decide (a ≤ x) && decide (x ≤ b))) := rfl
  by_cases h : a ≤ x
  · have h1 : decide (a ≤ x) = true := by simpa using h
    go_enter Try.func43, Try.ntmps43
    go_wp2
    go_ret
    exact ⟨by rw [hw.out, h1]; rfl, rfl⟩
  · have h1 : decide (a ≤ x) = false := by simpa using h
    go_enter Try.func43, Try.ntmps43
    go_wp2
    go_ret
    exact ⟨by rw [hw.out, h1]; rfl, rfl⟩

theorem size_calls (x : Int) (w : World) :
    Calls Try.prog 28 #[.int .i64 x] w fun e w' => e = .returned (.bool (within x 1 288)) ∧ w = w' := by
  go_enter Try.func28, Try.ntmps28
  go_wp2_with fail
  refine (in_calls _ _ _ _).mono ?_
  rintro e w1 ⟨rfl, rfl⟩
  go_wp2
  go_ret
  exact ⟨rfl, rfl⟩

theorem slot_calls (x : Int) (w : World) :
    Calls Try.prog 23 #[.int .i64 x] w fun e w' => e = .returned (.bool (within x 0 1)) ∧ w = w' := by
  go_enter Try.func23, Try.ntmps23
  go_wp2_with fail
  refine (in_calls _ _ _ _).mono ?_
  rintro e w1 ⟨rfl, rfl⟩
  go_wp2
  go_ret
  exact ⟨rfl, rfl⟩

theorem may_calls (r : Rec) (w : World) :
    Calls Try.prog 57 #[recV r] w fun e w' => e = .returned (.bool (recMay r)) ∧ Ext w w' := by
  unfold recV
  have hm : Hid (recMay r = (within r.seq 1 1048576 && within r.slot 0 1 && within r.size 1 288 && within r.sum 0 4294967295)) := rfl
  cases h1 : within r.seq 1 1048576
  · go_enter Try.func57, Try.ntmps57
    go_wp2_with fail
    refine (in_calls _ _ _ _).mono ?_
    rintro e w1 ⟨rfl, rfl⟩
    go_wp2
    go_ret
    exact ⟨by rw [hm.out, h1]; rfl, (by repeat (first | (with_reducible exact Ext.refl _) | (with_reducible assumption) | (with_reducible refine Ext.drewN ?_ _) | (with_reducible refine Ext.drew ?_) | (with_reducible refine Ext.alloc ?_ _) | (with_reducible refine Ext.setCell ?_ (by first | exact Nat.le_refl _ | (simp <;> omega)) _) | (with_reducible refine Ext.trans ?_ (by with_reducible assumption))))⟩
  cases h2 : within r.slot 0 1
  · go_enter Try.func57, Try.ntmps57
    go_wp2_with fail
    refine (in_calls _ _ _ _).mono ?_
    rintro e w2 ⟨rfl, rfl⟩
    go_wp2_with fail
    refine (slot_calls _ _).mono ?_
    rintro e w3 ⟨rfl, rfl⟩
    go_wp2
    go_ret
    exact ⟨by rw [hm.out, h1, h2]; rfl, (by repeat (first | (with_reducible exact Ext.refl _) | (with_reducible assumption) | (with_reducible refine Ext.drewN ?_ _) | (with_reducible refine Ext.drew ?_) | (with_reducible refine Ext.alloc ?_ _) | (with_reducible refine Ext.setCell ?_ (by first | exact Nat.le_refl _ | (simp <;> omega)) _) | (with_reducible refine Ext.trans ?_ (by with_reducible assumption))))⟩
  cases h3 : within r.size 1 288
  · go_enter Try.func57, Try.ntmps57
    go_wp2_with fail
    refine (in_calls _ _ _ _).mono ?_
    rintro e w4 ⟨rfl, rfl⟩
    go_wp2_with fail
    refine (slot_calls _ _).mono ?_
    rintro e w5 ⟨rfl, rfl⟩
    go_wp2_with fail
    refine (size_calls _ _).mono ?_
    rintro e w6 ⟨rfl, rfl⟩
    go_wp2
    go_ret
    exact ⟨by rw [hm.out, h1, h2, h3]; rfl, (by repeat (first | (with_reducible exact Ext.refl _) | (with_reducible assumption) | (with_reducible refine Ext.drewN ?_ _) | (with_reducible refine Ext.drew ?_) | (with_reducible refine Ext.alloc ?_ _) | (with_reducible refine Ext.setCell ?_ (by first | exact Nat.le_refl _ | (simp <;> omega)) _) | (with_reducible refine Ext.trans ?_ (by with_reducible assumption))))⟩
  · go_enter Try.func57, Try.ntmps57
    go_wp2_with fail
    refine (in_calls _ _ _ _).mono ?_
    rintro e w7 ⟨rfl, rfl⟩
    go_wp2_with fail
    refine (slot_calls _ _).mono ?_
    rintro e w8 ⟨rfl, rfl⟩
    go_wp2_with fail
    refine (size_calls _ _).mono ?_
    rintro e w9 ⟨rfl, rfl⟩
    go_wp2_with fail
    refine (in_calls _ _ _ _).mono ?_
    rintro e w10 ⟨rfl, rfl⟩
    go_wp2
    go_ret
    exact ⟨by rw [hm.out, h1, h2, h3]; rfl, (by repeat (first | (with_reducible exact Ext.refl _) | (with_reducible assumption) | (with_reducible refine Ext.drewN ?_ _) | (with_reducible refine Ext.drew ?_) | (with_reducible refine Ext.alloc ?_ _) | (with_reducible refine Ext.setCell ?_ (by first | exact Nat.le_refl _ | (simp <;> omega)) _) | (with_reducible refine Ext.trans ?_ (by with_reducible assumption))))⟩



theorem or_byte (n : Nat) (b : UInt8) (h : n < 2 ^ 48) : bits .or .i64 ((n : Int) * 256) (b.toNat : Int) = ((b.toNat + 256 * n : Nat) : Int) := by
  have hb := b.toNat_lt
  rw [bits_join .i64 62 (by decide) (fun m h0 h1 => IntWalk.i64_in m (by omega)) 8 ((n : Int) * 256) (b.toNat : Int) (by omega) (by omega) (by omega) (by omega) (by omega) (by omega)]
  omega

theorem num_calls' (s : ByteArray) (hs : s.size ≤ 6) (w : World) :
    Calls Try.prog 56 #[.string s] w fun e w' => e = .returned (.int .i64 (num (bl s) : Nat)) ∧ w = w' := by
  have hl : (bl s).length = s.size := bl_length s
  go_enter Try.func56, Try.ntmps56
  go_wp2
  go_loop [3, 4] (fun o i => ∃ (j m : Nat), j ≤ s.size ∧ i = .int .i64 ((j : Int) - 1) ∧ o = .int .i64 (m : Int) ∧ Hid (m = num ((bl s).drop j))) (fun _ i => (intOf i + 1).toNat)
  case atStart => exact ⟨s.size, 0, by omega, by go_num, rfl, by show 0 = _; rw [List.drop_of_length_le (by omega)]; rfl⟩
  case round =>
    obtain ⟨j, m, hj, rfl, rfl, hm⟩ := hrel
    rcases j with _ | j
    · go_wp2
      go_ret
      exact ⟨by rw [hm.out]; rfl, rfl⟩
    · have hd : (bl s).drop j = s[j] :: (bl s).drop (j + 1) := by
        rw [List.drop_eq_getElem_cons (by omega)]; rfl
      have hlt : m < 2 ^ 48 := by
        have h1 := num_lt ((bl s).drop (j + 1))
        rw [← hm.out] at h1
        have h2 : 256 ^ ((bl s).drop (j + 1)).length ≤ 256 ^ 6 := Nat.pow_le_pow_right (by decide) (by simp; omega)
        omega
      have hor := or_byte m s[j] hlt
      have hb : s[j].toNat < 256 := s[j].toNat_lt
      have hm2 : Hid (s[j].toNat + 256 * m = num ((bl s).drop j)) := by
        show _ = _
        rw [hd, hm.out]; rfl
      have h0 : (0 : Int) ≤ ((j + 1 : Nat) : Int) - 1 := by omega
      clear hd hm
      go_wp2
      go_round
      case rel => exact ⟨j, _, by omega, by go_num, rfl, hm2⟩
      case measure => simp [intOf] <;> omega

theorem u8_not (b : UInt8) : bits .xor .u8 IntKind.u8.max (b.toNat : Int) = ((~~~ b).toNat : Int) := by
  have e : IntKind.u8.max = ((255 : Nat) : Int) := rfl
  have hb := b.toNat_lt
  rw [e, u8_xor_nat 255 b.toNat (by decide) hb]
  congr 1

theorem compl_calls (s : ByteArray) (hs : s.size ≤ 1000) (w : World) :
    Calls Try.prog 55 #[.string s] w fun e w' => e = .returned (.string (mk (compl (bl s)))) ∧ Ext w w' := by
  have kc := fun (w : World) => Lib.run_convert_string_bytes (P := Try.prog) w 9 56 5 s Try.underlying9 Try.underlying56 Try.underlying5
  go_enter Try.func55, Try.ntmps55
  go_wp2
  have hR := RowB.bytes w 5 s
  have hE := Ext.bytes w 5 s
  go_loopw [9] (fun i wr => ∃ j : Nat, j ≤ s.size ∧ i = .int .i64 (j : Int) ∧ RowB wr w.heap.size (compl ((bl s).take j) ++ (bl s).drop j) ∧ Ext w wr) (fun i _ => s.size - (intOf i).toNat)
  case atStart => exact ⟨0, by omega, rfl, hR, hE⟩
  case round =>
    clear hR hE
    obtain ⟨j, hj, rfl, hR, hE⟩ := hrel
    have hl : (bl s).length = s.size := bl_length s
    have hll : (compl ((bl s).take j) ++ (bl s).drop j).length = s.size := by simp; omega
    by_cases hlt : j < s.size
    · have hcell := hR.cellD (i := j) (by omega)
      have hfree := hR.free (i := j) (by omega)
      rw [compl_at (bl s) j (by omega)] at hcell
      have hset := compl_set (bl s) j (by omega)
      generalize (bl s)[j] = c at hcell hset
      have hn := u8_not c
      have HS := Lib.hid hset
      clear hset
      go_wp2
      go_roundw
      case rel => exact ⟨j + 1, by omega, by go_num, by rw [← HS.out]; have h1 := hR.set j (~~~ c); rw [← hn] at h1; exact h1, hE.setCell (Nat.le_refl _) _⟩
      case measure => simp [intOf]; omega
    · obtain rfl : j = s.size := by omega
      have hr := hR.string (P := Try.prog) 56 5 9 Try.underlying56 Try.underlying5 Try.underlying9 (grownCap w s.size 0 5)
      rw [hll] at hr
      have hfin : compl ((bl s).take s.size) ++ (bl s).drop s.size = compl (bl s) := by
        rw [List.take_of_length_le (by omega), List.drop_of_length_le (by omega), List.append_nil]
      rw [hfin] at hr
      go_wp2
      go_ret
      exact ⟨rfl, hE⟩


end Go.Proofs.Ytclhcfnmpnhflaa
