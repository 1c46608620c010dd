
/- What the reference's words of chapter 4 come to. -/
import Derived.Test.YtclhcfnmpnhflaaEntW
set_option linter.unusedVariables false
set_option linter.unusedSimpArgs false
set_option maxHeartbeats 4000000
namespace Go.Proofs.Ytclhcfnmpnhflaa
open Go.RowKit Skiff

theorem recordMay_calls (r : Rec) (w : World) :
    Calls Try.prog 38 #[recV r] w fun e w' => e = .returned (.bool (recMay r)) ∧ Ext w w' := by
  unfold recV
  have hm : Hid (recMay r = (within r.seq 1 1048576 && within r.slot 0 1 && within r.size 1 288 && within r.sum 0 4294967295)) := rfl
  cases h1 : within r.seq 1 1048576
  · go_enter Try.func38, Try.ntmps38
    go_wp2_with fail
    refine (upTo_calls _ _ _ _).mono ?_
    rintro e w1 ⟨rfl, rfl⟩
    go_wp2
    go_ret
    exact ⟨by rw [hm.out, h1]; rfl, (by repeat (first | (with_reducible exact Ext.refl _) | (with_reducible assumption) | (with_reducible refine Ext.drewN ?_ _) | (with_reducible refine Ext.drew ?_) | (with_reducible refine Ext.alloc ?_ _) | (with_reducible refine Ext.setCell ?_ (by first | exact Nat.le_refl _ | (simp <;> omega)) _) | (with_reducible refine Ext.trans ?_ (by with_reducible assumption))))⟩
  cases h2 : within r.slot 0 1
  · go_enter Try.func38, Try.ntmps38
    go_wp2_with fail
    refine (upTo_calls _ _ _ _).mono ?_
    rintro e w2 ⟨rfl, rfl⟩
    go_wp2_with fail
    refine (upTo_calls _ _ _ _).mono ?_
    rintro e w3 ⟨rfl, rfl⟩
    go_wp2
    go_ret
    exact ⟨by rw [hm.out, h1, h2]; rfl, (by repeat (first | (with_reducible exact Ext.refl _) | (with_reducible assumption) | (with_reducible refine Ext.drewN ?_ _) | (with_reducible refine Ext.drew ?_) | (with_reducible refine Ext.alloc ?_ _) | (with_reducible refine Ext.setCell ?_ (by first | exact Nat.le_refl _ | (simp <;> omega)) _) | (with_reducible refine Ext.trans ?_ (by with_reducible assumption))))⟩
  cases h3 : within r.size 1 288
  · go_enter Try.func38, Try.ntmps38
    go_wp2_with fail
    refine (upTo_calls _ _ _ _).mono ?_
    rintro e w4 ⟨rfl, rfl⟩
    go_wp2_with fail
    refine (upTo_calls _ _ _ _).mono ?_
    rintro e w5 ⟨rfl, rfl⟩
    go_wp2_with fail
    refine (upTo_calls _ _ _ _).mono ?_
    rintro e w6 ⟨rfl, rfl⟩
    go_wp2
    go_ret
    exact ⟨by rw [hm.out, h1, h2, h3]; rfl, (by repeat (first | (with_reducible exact Ext.refl _) | (with_reducible assumption) | (with_reducible refine Ext.drewN ?_ _) | (with_reducible refine Ext.drew ?_) | (with_reducible refine Ext.alloc ?_ _) | (with_reducible refine Ext.setCell ?_ (by first | exact Nat.le_refl _ | (simp <;> omega)) _) | (with_reducible refine Ext.trans ?_ (by with_reducible assumption))))⟩
  · go_enter Try.func38, Try.ntmps38
    go_wp2_with fail
    refine (upTo_calls _ _ _ _).mono ?_
    rintro e w7 ⟨rfl, rfl⟩
    go_wp2_with fail
    refine (upTo_calls _ _ _ _).mono ?_
    rintro e w8 ⟨rfl, rfl⟩
    go_wp2_with fail
    refine (upTo_calls _ _ _ _).mono ?_
    rintro e w9 ⟨rfl, rfl⟩
    go_wp2_with fail
    refine (upTo_calls _ _ _ _).mono ?_
    rintro e w10 ⟨rfl, rfl⟩
    go_wp2
    go_ret
    exact ⟨by rw [hm.out, h1, h2, h3]; rfl, (by repeat (first | (with_reducible exact Ext.refl _) | (with_reducible assumption) | (with_reducible refine Ext.drewN ?_ _) | (with_reducible refine Ext.drew ?_) | (with_reducible refine Ext.alloc ?_ _) | (with_reducible refine Ext.setCell ?_ (by first | exact Nat.le_refl _ | (simp <;> omega)) _) | (with_reducible refine Ext.trans ?_ (by with_reducible assumption))))⟩

theorem rlow_calls (x : Int) (k : Nat) (hk : k ≤ 4) (w : World) :
    Calls Try.prog 39 #[.int .i64 x, .int .i64 (k : Int)] w fun e w' => e = .returned (.string (mk (low x k))) ∧ Ext w w' := by
  have hmk := fun w => made_u8 k (by omega) w
  go_enter Try.func39, Try.ntmps39
  go_wp2
  go_loopw [6] (fun i wr => ∃ j : Nat, j ≤ k ∧ i = .int .i64 (j : Int) ∧ RowB wr w.heap.size (low x j ++ List.replicate (k - j) 0) ∧ Ext w wr) (fun i _ => k - (intOf i).toNat)
  case atStart => exact ⟨0, by omega, rfl, RowB.made _ _ _, (Ext.refl _).alloc _⟩
  case round =>
    obtain ⟨j, hj, rfl, hR, hE⟩ := hrel
    have hll : (low x j ++ List.replicate (k - j) (0 : UInt8)).length = k := by simp; omega
    by_cases hlt : j < k
    · have hcell := hR.cellD (i := j) (by omega)
      have hfree := hR.free (i := j) (by omega)
      obtain ⟨m, hm⟩ : ∃ m, k - j = m + 1 := ⟨k - j - 1, by omega⟩
      have hm2 : k - (j + 1) = m := by omega
      have hpow : (2 : Int) ^ (8 * j) = 256 ^ j := by rw [Int.pow_mul]; rfl
      have hv := lowByte_toNat (x / 256 ^ j)
      rw [← hpow] at hv
      have HV := Lib.hid hv
      have HP := Lib.hid hpow
      have HM := Lib.hid hm
      have HM2 := Lib.hid hm2
      clear hv hpow hm hm2
      go_wp2
      go_roundw
      case rel => exact ⟨j + 1, by omega, by go_num, by have h1 := hR.set j (lowByte (x / 2 ^ (8 * j))); rw [HV.out, HM.out, HP.out, low_set] at h1; rw [HM2.out, HP.out]; exact h1, hE.setCell (Nat.le_refl _) _⟩
      case measure => simp [intOf] <;> omega
    · obtain rfl : j = k := by omega
      have hr := hR.string (P := Try.prog) 56 5 9 Try.underlying56 Try.underlying5 Try.underlying9 j
      have hfin : low x j ++ List.replicate (j - j) (0 : UInt8) = low x j := by simp
      rw [hll, hfin] at hr
      go_wp2
      go_ret
      exact ⟨rfl, hE⟩

theorem rlow4_calls (x : Int) (w : World) : Calls Try.prog 39 #[.int .i64 x, .int .i64 4] w fun e w' => e = .returned (.string (mk (low x 4))) ∧ Ext w w' := rlow_calls x 4 (by omega) w

theorem rlow2_calls (x : Int) (w : World) : Calls Try.prog 39 #[.int .i64 x, .int .i64 2] w fun e w' => e = .returned (.string (mk (low x 2))) ∧ Ext w w' := rlow_calls x 2 (by omega) w

theorem rlow1_calls (x : Int) (w : World) : Calls Try.prog 39 #[.int .i64 x, .int .i64 1] w fun e w' => e = .returned (.string (mk (low x 1))) ∧ Ext w w' := rlow_calls x 1 (by omega) w

theorem rof_calls (s : ByteArray) (hs : s.size ≤ 6) (w : World) :
    Calls Try.prog 46 #[.string s] w fun e w' => e = .returned (.int .i64 (num (bl s) : Nat)) ∧ w = w' := by
  have hl : (bl s).length = s.size := bl_length s
  go_enter Try.func46, Try.ntmps46
  go_wp2
  go_loop [3, 4] (fun o i => ∃ (j m : Nat), j ≤ s.size ∧ i = .int .i64 ((j : Int) - 1) ∧ o = .int .i64 (m : Int) ∧ Hid (m = num ((bl s).drop j))) (fun _ i => (intOf i + 1).toNat)
  case atStart => exact ⟨s.size, 0, by omega, by go_num, rfl, by show 0 = _; rw [List.drop_of_length_le (by omega)]; rfl⟩
  case round =>
    obtain ⟨j, m, hj, rfl, rfl, hm⟩ := hrel
    rcases j with _ | j
    · go_wp2
      go_ret
      exact ⟨by rw [hm.out]; rfl, rfl⟩
    · have hd : (bl s).drop j = s[j] :: (bl s).drop (j + 1) := by
        rw [List.drop_eq_getElem_cons (by omega)]; rfl
      have hlt : m < 2 ^ 48 := by
        have h1 := num_lt ((bl s).drop (j + 1))
        rw [← hm.out] at h1
        have h2 : 256 ^ ((bl s).drop (j + 1)).length ≤ 256 ^ 6 := Nat.pow_le_pow_right (by decide) (by simp; omega)
        omega
      have hor := or_byte m s[j] hlt
      have hb : s[j].toNat < 256 := s[j].toNat_lt
      have hm2 : Hid (s[j].toNat + 256 * m = num ((bl s).drop j)) := by
        show _ = _
        rw [hd, hm.out]; rfl
      have h0 : (0 : Int) ≤ ((j + 1 : Nat) : Int) - 1 := by omega
      clear hd hm
      go_wp2
      go_round
      case rel => exact ⟨j, _, by omega, by go_num, rfl, hm2⟩
      case measure => simp [intOf] <;> omega

theorem low_one (x : Int) (h0 : 0 ≤ x) (h1 : x ≤ 1) : low x 1 ++ low 0 1 = low x 2 := by
  have e : x / 256 = 0 := by omega
  simp [low, e]

theorem sub_byte (c : UInt8) : (255 - (c.toNat : Int)) = ((~~~ c).toNat : Int) := by
  have hc := c.toNat_lt
  rw [UInt8.toNat_not]
  simp only [UInt8.size]
  omega

theorem compl_take_succ (l : List UInt8) {j : Nat} (h : j < l.length) : compl (l.take (j + 1)) = compl (l.take j) ++ [~~~ l[j]] := by
  rw [List.take_succ_eq_append_getElem h]
  show List.map _ _ = List.map _ _ ++ _
  rw [List.map_append]; rfl

set_option maxRecDepth 20000 in
theorem rput_calls (r : Rec) (w : World) :
    Calls Try.prog 19 #[recV r] w fun e w' => e = .returned (if recMay r = true then .tuple #[.string (mk (put r)), .int .i64 0] else .tuple #[.string (mk []), .int .i64 400]) ∧ Ext w w' := by
  cases hm : recMay r
  · have M := Lib.hid (fun w => recordMay_calls r w)
    rw [hm] at M
    unfold recV at *
    go_enter Try.func19, Try.ntmps19
    go_wp2_with fail
    refine (M.out _).mono ?_
    rintro e w1 ⟨rfl, B1⟩
    go_wp2
    go_ret2
    exact ⟨rfl, (by repeat (first | (with_reducible exact Ext.refl _) | (with_reducible assumption) | (with_reducible refine Ext.drewN ?_ _) | (with_reducible refine Ext.drew ?_) | (with_reducible refine Ext.alloc ?_ _) | (with_reducible refine Ext.setCell ?_ (by first | exact Nat.le_refl _ | (simp <;> omega)) _) | (with_reducible refine Ext.trans ?_ (by with_reducible assumption))))⟩
  · have M := Lib.hid (fun w => recordMay_calls r w)
    rw [hm] at M
    obtain ⟨i0, hi, hz0, hz1, hz2⟩ := info_parts info_u8
    have hX : bl (mk (low r.seq 4) ++ mk (low r.slot 1) ++ mk (low 0 1) ++ mk (low r.size 2) ++ mk (low r.sum 4)) = half r := by
      have h := recMay_iff.1 hm
      simp only [bl_append, bl_mk, half, List.append_assoc]
      rw [← low_one r.slot (by omega) (by omega)]
      simp
    have kc := fun (w : World) => Lib.run_convert_string_bytes (P := Try.prog) w 9 56 5 (mk (low r.seq 4) ++ mk (low r.slot 1) ++ mk (low 0 1) ++ mk (low r.size 2) ++ mk (low r.sum 4)) Try.underlying9 Try.underlying56 Try.underlying5
    have HX := Lib.hid hX
    clear hX
    unfold recV at *
    go_enter Try.func19, Try.ntmps19
    go_wp2_with fail
    refine (M.out _).mono ?_
    rintro e w1 ⟨rfl, B1⟩
    have k0_w1 : w1.cell? ⟨w.heap.size, 0, none⟩ = some (.int .i64 r.seq) := Ext.cell B1 (by simp)
    have k1_w1 : w1.cell? ⟨w.heap.size, 1, none⟩ = some (.int .i64 r.slot) := Ext.cell B1 (by simp)
    have k2_w1 : w1.cell? ⟨w.heap.size, 2, none⟩ = some (.int .i64 r.size) := Ext.cell B1 (by simp)
    have k3_w1 : w1.cell? ⟨w.heap.size, 3, none⟩ = some (.int .i64 r.sum) := Ext.cell B1 (by simp)
    have f_w1 : ∀ i, w1.frozen? ⟨w.heap.size, i, none⟩ = false := fun i => Ext.free B1 (by first | (simp; done) | (simp; omega)) (by first | (simp; done) | (simp; omega))
    go_wp2
    refine wp_region_held_drew (S := fun w' => w'.cell? ⟨w.heap.size, 0, none⟩ = some (.int .i64 r.seq) ∧ w'.cell? ⟨w.heap.size, 1, none⟩ = some (.int .i64 r.slot) ∧ w'.cell? ⟨w.heap.size, 2, none⟩ = some (.int .i64 r.size) ∧ w'.cell? ⟨w.heap.size, 3, none⟩ = some (.int .i64 r.sum)) (by kernel_rfl) ?_ (fun hHeld => ?_)
    · go_keep
    refine wpAnyH_take (i := 0) (v := ?_) rfl (by kernel_rfl) (by kernel_rfl) (by kernel_rfl) (fun _ _ _ h => h) (Or.inl ⟨by rfl, ?_⟩) (by assumption) ?_
    rotate_left
    · (intro w hSw; (try dsimp only at hSw); go_simp; first | done | (with_reducible rfl))
    try simp only [Act.put, List.setIfInBounds_toArray, List.set_cons_zero, List.set_cons_succ]
    refine wpAnyH_take (i := 3) (v := ?_) rfl (by kernel_rfl) (by kernel_rfl) (by kernel_rfl) (fun _ _ _ h => h) (Or.inl ⟨by rfl, ?_⟩) (by assumption) ?_
    rotate_left
    · (intro w hSw; (try dsimp only at hSw); go_simp; first | done | (with_reducible rfl))
    try simp only [Act.put, List.setIfInBounds_toArray, List.set_cons_zero, List.set_cons_succ]
    refine wpAnyH_take (i := 9) (v := ?_) rfl (by kernel_rfl) (by kernel_rfl) (by kernel_rfl) (fun _ _ _ h => h) (Or.inl ⟨by rfl, ?_⟩) (by assumption) ?_
    rotate_left
    · (intro w hSw; (try dsimp only at hSw); go_simp; first | done | (with_reducible rfl))
    try simp only [Act.put, List.setIfInBounds_toArray, List.set_cons_zero, List.set_cons_succ]
    refine wpAnyH_take (i := 13) (v := ?_) rfl (by kernel_rfl) (by kernel_rfl) (by kernel_rfl) (fun _ _ _ h => h) (Or.inl ⟨by rfl, ?_⟩) (by assumption) ?_
    rotate_left
    · (intro w hSw; (try dsimp only at hSw); go_simp; first | done | (with_reducible rfl))
    try simp only [Act.put, List.setIfInBounds_toArray, List.set_cons_zero, List.set_cons_succ]
    refine wpAnyH_take (i := 1) (v := ?_) rfl (by kernel_rfl) (by kernel_rfl) (by kernel_rfl) (fun _ _ _ h => h) (Or.inl ⟨by rfl, ?_⟩) (by assumption) ?_
    rotate_left
    · (intro w hSw; (try dsimp only at hSw); go_simp; first | done | (with_reducible rfl))
    try simp only [Act.put, List.setIfInBounds_toArray, List.set_cons_zero, List.set_cons_succ]
    refine wpAnyH_take (i := 4) (v := ?_) rfl (by kernel_rfl) (by kernel_rfl) (by kernel_rfl) (fun _ _ _ h => h) (Or.inl ⟨by rfl, ?_⟩) (by assumption) ?_
    rotate_left
    · (intro w hSw; (try dsimp only at hSw); go_simp; first | done | (with_reducible rfl))
    try simp only [Act.put, List.setIfInBounds_toArray, List.set_cons_zero, List.set_cons_succ]
    refine wpAnyH_take (i := 10) (v := ?_) rfl (by kernel_rfl) (by kernel_rfl) (by kernel_rfl) (fun _ _ _ h => h) (Or.inl ⟨by rfl, ?_⟩) (by assumption) ?_
    rotate_left
    · (intro w hSw; (try dsimp only at hSw); go_simp; first | done | (with_reducible rfl))
    try simp only [Act.put, List.setIfInBounds_toArray, List.set_cons_zero, List.set_cons_succ]
    refine wpAnyH_take (i := 14) (v := ?_) rfl (by kernel_rfl) (by kernel_rfl) (by kernel_rfl) (fun _ _ _ h => h) (Or.inl ⟨by rfl, ?_⟩) (by assumption) ?_
    rotate_left
    · (intro w hSw; (try dsimp only at hSw); go_simp; first | done | (with_reducible rfl))
    try simp only [Act.put, List.setIfInBounds_toArray, List.set_cons_zero, List.set_cons_succ]
    refine wpAnyH_ready (rs := [2]) (by kernel_rfl) (by simp) ?_
    refine AllReadyH.cons rfl (fun K hK => ?_) AllReadyH.nil
    go_simp
    go_at_call 39
    refine (rlow4_calls _ _).mono ?_
    rintro e w2 ⟨rfl, B2⟩
    go_wp2_with fail
    refine hK.out _ _ ?_ (fun hHeld => ?_)
    · (go_split_ands; refine ⟨?_, ?_, ?_, ?_⟩ <;> exact Ext.cell B2 ‹_›)
    clear hK K
    try simp only [Act.put, List.setIfInBounds_toArray, List.set_cons_zero, List.set_cons_succ]
    refine wpAnyH_ready (rs := [5]) (by kernel_rfl) (by simp) ?_
    refine AllReadyH.cons rfl (fun K hK => ?_) AllReadyH.nil
    go_simp
    go_at_call 39
    refine (rlow1_calls _ _).mono ?_
    rintro e w3 ⟨rfl, B3⟩
    go_wp2_with fail
    refine hK.out _ _ ?_ (fun hHeld => ?_)
    · (go_split_ands; refine ⟨?_, ?_, ?_, ?_⟩ <;> exact Ext.cell B3 ‹_›)
    clear hK K
    try simp only [Act.put, List.setIfInBounds_toArray, List.set_cons_zero, List.set_cons_succ]
    refine wpAnyH_take (i := 6) (v := ?_) rfl (by kernel_rfl) (by kernel_rfl) (by kernel_rfl) (fun _ _ _ h => h) (Or.inl ⟨by rfl, ?_⟩) (by assumption) ?_
    rotate_left
    · (intro w hSw; (try dsimp only at hSw); go_simp; first | done | (with_reducible rfl))
    try simp only [Act.put, List.setIfInBounds_toArray, List.set_cons_zero, List.set_cons_succ]
    refine wpAnyH_ready (rs := [7]) (by kernel_rfl) (by simp) ?_
    refine AllReadyH.cons rfl (fun K hK => ?_) AllReadyH.nil
    go_simp
    go_at_call 39
    refine (rlow1_calls _ _).mono ?_
    rintro e w4 ⟨rfl, B4⟩
    go_wp2_with fail
    refine hK.out _ _ ?_ (fun hHeld => ?_)
    · (go_split_ands; refine ⟨?_, ?_, ?_, ?_⟩ <;> exact Ext.cell B4 ‹_›)
    clear hK K
    try simp only [Act.put, List.setIfInBounds_toArray, List.set_cons_zero, List.set_cons_succ]
    refine wpAnyH_take (i := 8) (v := ?_) rfl (by kernel_rfl) (by kernel_rfl) (by kernel_rfl) (fun _ _ _ h => h) (Or.inl ⟨by rfl, ?_⟩) (by assumption) ?_
    rotate_left
    · (intro w hSw; (try dsimp only at hSw); go_simp; first | done | (with_reducible rfl))
    try simp only [Act.put, List.setIfInBounds_toArray, List.set_cons_zero, List.set_cons_succ]
    refine wpAnyH_ready (rs := [11]) (by kernel_rfl) (by simp) ?_
    refine AllReadyH.cons rfl (fun K hK => ?_) AllReadyH.nil
    go_simp
    go_at_call 39
    refine (rlow2_calls _ _).mono ?_
    rintro e w5 ⟨rfl, B5⟩
    go_wp2_with fail
    refine hK.out _ _ ?_ (fun hHeld => ?_)
    · (go_split_ands; refine ⟨?_, ?_, ?_, ?_⟩ <;> exact Ext.cell B5 ‹_›)
    clear hK K
    try simp only [Act.put, List.setIfInBounds_toArray, List.set_cons_zero, List.set_cons_succ]
    refine wpAnyH_take (i := 12) (v := ?_) rfl (by kernel_rfl) (by kernel_rfl) (by kernel_rfl) (fun _ _ _ h => h) (Or.inl ⟨by rfl, ?_⟩) (by assumption) ?_
    rotate_left
    · (intro w hSw; (try dsimp only at hSw); go_simp; first | done | (with_reducible rfl))
    try simp only [Act.put, List.setIfInBounds_toArray, List.set_cons_zero, List.set_cons_succ]
    refine wpAnyH_ready (rs := [15]) (by kernel_rfl) (by simp) ?_
    refine AllReadyH.cons rfl (fun K hK => ?_) AllReadyH.nil
    go_simp
    go_at_call 39
    refine (rlow4_calls _ _).mono ?_
    rintro e w6 ⟨rfl, B6⟩
    go_wp2_with fail
    refine hK.out _ _ ?_ (fun hHeld => ?_)
    · (go_split_ands; refine ⟨?_, ?_, ?_, ?_⟩ <;> exact Ext.cell B6 ‹_›)
    clear hK K
    try simp only [Act.put, List.setIfInBounds_toArray, List.set_cons_zero, List.set_cons_succ]
    refine wpAnyH_take (i := 16) (v := ?_) rfl (by kernel_rfl) (by kernel_rfl) (by kernel_rfl) (fun _ _ _ h => h) (Or.inl ⟨by rfl, ?_⟩) (by assumption) ?_
    rotate_left
    · (intro w hSw; (try dsimp only at hSw); go_simp; first | done | (with_reducible rfl))
    try simp only [Act.put, List.setIfInBounds_toArray, List.set_cons_zero, List.set_cons_succ]
    refine wpAnyH_ready (rs := [17]) (by kernel_rfl) (by simp) ?_
    refine AllReadyH.cons rfl (fun K hK => ?_) AllReadyH.nil
    go_simp
    refine hK.out _ _ ?_ (fun hHeld => ?_)
    · (go_split_ands; refine ⟨?_, ?_, ?_, ?_⟩ <;> exact Ext.cell (Ext.bytes _ _ _) ‹_›)
    clear hK K
    try simp only [Act.put, List.setIfInBounds_toArray, List.set_cons_zero, List.set_cons_succ]
    refine wpAnyH_take (i := 18) (v := ?_) rfl (by kernel_rfl) (by kernel_rfl) (by kernel_rfl) (fun _ _ _ h => h) (Or.inl ⟨by rfl, ?_⟩) (by assumption) ?_
    rotate_left
    · (intro w hSw; (try dsimp only at hSw); go_simp; first | done | (with_reducible rfl))
    try simp only [Act.put, List.setIfInBounds_toArray, List.set_cons_zero, List.set_cons_succ]
    refine wpAnyH_done (by kernel_rfl) ?_ _
    go_wp2
    have hR0 := RowC.bytes w6 5 (mk (low r.seq 4) ++ mk (low r.slot 1) ++ mk (low 0 1) ++ mk (low r.size 2) ++ mk (low r.sum 4))
    have e12 : (mk (low r.seq 4) ++ mk (low r.slot 1) ++ mk (low 0 1) ++ mk (low r.size 2) ++ mk (low r.sum 4)).size = 12 := by simp
    rw [e12, show (mk (low r.seq 4) ++ mk (low r.slot 1) ++ mk (low 0 1) ++ mk (low r.size 2) ++ mk (low r.sum 4)).data.toList = half r from HX.out] at hR0
    have hE0 := Ext.bytes w6 5 (mk (low r.seq 4) ++ mk (low r.slot 1) ++ mk (low 0 1) ++ mk (low r.size 2) ++ mk (low r.sum 4))
    have hw6 : Ext w w6 := (by repeat (first | (with_reducible exact Ext.refl _) | (with_reducible assumption) | (with_reducible refine Ext.drewN ?_ _) | (with_reducible refine Ext.drew ?_) | (with_reducible refine Ext.alloc ?_ _) | (with_reducible refine Ext.setCell ?_ (by first | exact Nat.le_refl _ | (simp <;> omega)) _) | (with_reducible refine Ext.trans ?_ (by with_reducible assumption))))
    generalize Lib.bytesWorld w6 5 (mk (low r.seq 4) ++ mk (low r.slot 1) ++ mk (low 0 1) ++ mk (low r.size 2) ++ mk (low r.sum 4)) = W at *
    have hEW : Ext w W := hw6.trans hE0
    have hbase : w.heap.size ≤ w6.heap.size := hw6.size
    clear e12 hE0 kc M
    go_loopw [4, 5] (fun v i wr => ∃ (j g cap : Nat), j ≤ 12 ∧ i = .int .i64 (j : Int) ∧ v = .slice (some ⟨g, 0, none⟩) (12 + j) cap ∧ w.heap.size ≤ g ∧ RowC wr g cap (half r ++ compl ((half r).take j)) ∧ Ext w wr) (fun _ i _ => 12 - (intOf i).toNat)
    case atStart => exact ⟨0, w6.heap.size, _, by omega, rfl, rfl, hbase, by simpa [compl] using hR0, hEW⟩
    case round =>
      clear hR0 hEW
      obtain ⟨j, g, cap, hj, rfl, rfl, hg, hR, hE⟩ := hrel
      have hl : (half r).length = 12 := half_length r
      have hll : (half r ++ compl ((half r).take j)).length = 12 + j := by simp; omega
      by_cases hlt : j < 12
      · have hcell := hR.row.cellD (i := j) (by omega)
        have hat : (half r ++ compl ((half r).take j)).getD j 0 = (half r)[j] := by
          rw [List.getD_eq_getElem?_getD, List.getElem?_append_left (by omega), List.getElem?_eq_getElem (by omega)]; rfl
        rw [hat] at hcell
        have hnext : half r ++ compl ((half r).take j) ++ [~~~ (half r)[j]] = half r ++ compl ((half r).take (j + 1)) := by
          rw [List.append_assoc]; exact congrArg (half r ++ ·) (compl_take_succ (half r) (j := j) (by omega)).symm
        generalize (half r)[j] = c at hcell hnext
        have hsub : Hid ((255 - (c.toNat : Int)) = ((~~~ c).toNat : Int)) := sub_byte c
        have HN := Lib.hid hnext
        have hc := c.toNat_lt
        have hR' := hR.ext ((Ext.refl wr).alloc (.cells #[.int .u8 (255 - (c.toNat : Int))] 5))
        clear hat hnext
        go_wp2_with (at_builtin; refine wpList_append_rowc rfl (.tmp 31) (.tmp 37) 56 rfl w.heap.size 5 i0 Try.underlying56 hi hz0 hz1 hz2 g (12 + j) cap _ hll rfl hR' ⟨wr.heap.size, 0, none⟩ 1 (~~~ c) rfl ?c1 ?c2 ?c3 ?c4 ?_)
        case c1 => rw [u8v, ← hsub.out]; simp
        case c2 => omega
        case c3 => exact hg
        case c4 => have := hE.size; simp; omega
        intro g' cap' w7 hR7 hg7 hgrow
        rw [← List.append_assoc, HN.out] at hR7
        have hE7 : Ext w w7 := (hE.alloc _).grown hgrow (fun k hk => by cases hk; exact hg)
        clear hgrow hR hR'
        go_wp2
        go_roundw
        case rel => exact ⟨j + 1, g', cap', by omega, by go_num, rfl, hg7, hR7, hE7⟩
        case measure => simp [intOf] <;> omega
      · obtain rfl : j = 12 := by omega
        have hfin : half r ++ compl ((half r).take 12) = put r := by rw [List.take_of_length_le (by omega)]; rfl
        rw [hfin] at hR hll
        have hr := hR.row.string (P := Try.prog) 56 5 9 Try.underlying56 Try.underlying5 Try.underlying9 cap
        rw [put_length] at hr
        go_wp2
        go_ret2
        exact ⟨rfl, hE⟩

end Go.Proofs.Ytclhcfnmpnhflaa
