/- EntryTorn. -/
import Derived.Test.YtcpghpjcpamhcaaEntL
import Derived.Test.YtcpghpjcpamhcaaRefN
import Derived.Test.YtcpghpjcpamhcaaTorn
set_option linter.unusedVariables false
set_option linter.unusedSimpArgs false
set_option maxHeartbeats 4000000
namespace Go.Proofs.Ytcpghpjcpamhcaa
open Go.RowKit Skiff

theorem rprogram_calls (f s : ByteArray) (x : Int) (w : World) :
    Calls Try.prog 16 #[.string f, .int .i64 x, .string s] w fun e w' => e = .returned (tornRes (torn (bl f) x (bl s) 32)) ∧ Ext w w' := by
  have C := Lib.hid (fun w => rtorn_calls f s x 32 w)
  cases h : torn (bl f) x (bl s) 32 with
  | none =>
    rw [h] at C
    unfold tornRes at C
    simp only at C
    go_enter Try.func16, Try.ntmps16
    go_wp2_with fail
    refine (C.out _).mono ?_
    rintro e w1 ⟨rfl, B1⟩
    go_wp2
    go_ret2
    exact ⟨rfl, (by repeat (first | (with_reducible exact Ext.refl _) | (with_reducible assumption) | (with_reducible refine Ext.drewN ?_ _) | (with_reducible refine Ext.drew ?_) | (with_reducible refine Ext.alloc ?_ _) | (with_reducible refine Ext.setCell ?_ (by first | exact Nat.le_refl _ | (simp <;> omega)) _) | (with_reducible refine Ext.trans ?_ (by with_reducible assumption))))⟩
  | some l =>
    rw [h] at C
    unfold tornRes at C
    simp only at C
    go_enter Try.func16, Try.ntmps16
    go_wp2_with fail
    refine (C.out _).mono ?_
    rintro e w2 ⟨rfl, B2⟩
    go_wp2
    go_ret2
    exact ⟨rfl, (by repeat (first | (with_reducible exact Ext.refl _) | (with_reducible assumption) | (with_reducible refine Ext.drewN ?_ _) | (with_reducible refine Ext.drew ?_) | (with_reducible refine Ext.alloc ?_ _) | (with_reducible refine Ext.setCell ?_ (by first | exact Nat.le_refl _ | (simp <;> omega)) _) | (with_reducible refine Ext.trans ?_ (by with_reducible assumption))))⟩

/-- One step of the law's writing: what has been there stays set. -/
theorem torn_step (p : List UInt8) (X f : ByteArray) (c n : Nat) (hX : bl X = p) (hp : p.length = 24) (hf : f.size = 768) (hc : c < 6) (hn : n ≤ 32) (h : Sup p (bl f)) :
    ∃ f' : ByteArray, tornRes (torn (bl f) (4 * (c : Int)) (bl (X.extract (4 * c) (4 * c + 4))) (n : Int)) = .tuple #[.string f', .int .i64 0] ∧ f'.size = 768 ∧ Sup p (bl f') := by
  have e : bl (X.extract (4 * c) (4 * c + 4)) = (p.drop (4 * c)).take 4 := by rw [bl_extract, hX, show 4 * c + 4 - 4 * c = 4 by omega]
  have hl : (bl f).length = 768 := by rw [bl_length, hf]
  have ht := torn_some (w := (p.drop (4 * c)).take 4) c n hl hc (by simp; omega) hn
  refine ⟨mk (tornF (bl f) (4 * c) ((p.drop (4 * c)).take 4) n), ?_, ?_, ?_⟩
  · rw [e, ht]; rfl
  · rw [mk_size, tornF_length _ _ _ _ (by omega), hl]
  · rw [bl_mk]; exact sup_torn c n hp hl hc h

theorem mod_nat (x : Int) (m : Nat) (h : 0 < m) (h2 : m < 1000) : ∃ k : Nat, wrap64 ((IntKind.u64.wrap x).tmod (m : Int)) = (k : Int) ∧ k < m := by
  have h0 : 0 ≤ IntKind.u64.wrap x := by rw [IntKind.wrap_u64]; omega
  have h1 : IntKind.u64.wrap x < 18446744073709551616 := by rw [IntKind.wrap_u64]; omega
  generalize IntKind.u64.wrap x = y at *
  rw [Int.tmod_eq_emod_of_nonneg h0]
  have p0 := Int.emod_nonneg y (by omega : (m : Int) ≠ 0)
  have p1 := Int.emod_lt_of_pos y (by omega : 0 < (m : Int))
  refine ⟨(y % m).toNat, ?_, by omega⟩
  rw [wrap64]
  omega

theorem entryTorn_walk (r : Rec) (many n : Int) (f1 : (Lit.int .i64 many).wf = true) (f2 : (Lit.int .i64 n).wf = true) (w : World) :
    Calls Try.prog 4 #[(.agg #[.int .i64 r.seq, .int .i64 r.slot, .int .i64 r.size, .int .i64 r.sum]), .int .i64 many, .int .i64 n] w fun e w' => e = .returned (.bool true) ∧ Ext w w' := by
  have hmk : (mk []).toList = [] := by decide +kernel
  cases hr : recMay r
  · have P := Lib.hid (fun w => put_no hr w)
    clear hr
    go_enter Try.func4, Try.ntmps4
    go_wp2_with fail
    refine (awake4_calls _).mono ?_
    rintro e w1 ⟨rfl, B1⟩
    have x_r1 : Ext (w.alloc (.cells #[.int .i64 r.seq, .int .i64 r.slot, .int .i64 r.size, .int .i64 r.sum] 23)) (w1) := (by repeat (first | (with_reducible exact Ext.refl _) | (with_reducible assumption) | (with_reducible refine Ext.drewN ?_ _) | (with_reducible refine Ext.drew ?_) | (with_reducible refine Ext.alloc ?_ _) | (with_reducible refine Ext.setCell ?_ (by first | exact Nat.le_refl _ | (simp <;> omega)) _) | (with_reducible refine Ext.trans ?_ (by with_reducible assumption))))
    have k0_r1 : World.cell? (w1) ⟨w.heap.size, 0, none⟩ = some (.int .i64 r.seq) := Ext.cell x_r1 (by first | (simp; done) | (simp; omega))
    have k1_r1 : World.cell? (w1) ⟨w.heap.size, 1, none⟩ = some (.int .i64 r.slot) := Ext.cell x_r1 (by first | (simp; done) | (simp; omega))
    have k2_r1 : World.cell? (w1) ⟨w.heap.size, 2, none⟩ = some (.int .i64 r.size) := Ext.cell x_r1 (by first | (simp; done) | (simp; omega))
    have k3_r1 : World.cell? (w1) ⟨w.heap.size, 3, none⟩ = some (.int .i64 r.sum) := Ext.cell x_r1 (by first | (simp; done) | (simp; omega))
    have f_r1 : ∀ i, World.frozen? (w1) ⟨w.heap.size, i, none⟩ = false := fun i => Ext.free x_r1 (by first | (simp; done) | (simp; omega)) (by first | (simp; done) | (simp; omega))
    clear x_r1
    go_wp2_with fail
    refine (P.out _).mono ?_
    rintro e w2 ⟨rfl, B2⟩
    go_wp2_with fail
    refine (num0_calls _ _).mono ?_
    rintro e w1 ⟨rfl, rfl⟩
    go_wp2
    go_ret
    exact ⟨rfl, (by repeat (first | (with_reducible exact Ext.refl _) | (with_reducible assumption) | (with_reducible refine Ext.drewN ?_ _) | (with_reducible refine Ext.drew ?_) | (with_reducible refine Ext.alloc ?_ _) | (with_reducible refine Ext.setCell ?_ (by first | exact Nat.le_refl _ | (simp <;> omega)) _) | (with_reducible refine Ext.trans ?_ (by with_reducible assumption))))⟩
  have P := Lib.hid (fun w => put_ok hr w)
  have G := Lib.hid (fun w => get_back hr w)
  obtain ⟨k, hk, hk2⟩ : ∃ k : Nat, wrap64 ((IntKind.u64.wrap many).tmod 6) = (k : Int) ∧ k < 6 := mod_nat many 6 (by omega) (by omega)
  obtain ⟨b, hb, hb2⟩ : ∃ k : Nat, wrap64 ((IntKind.u64.wrap n).tmod 33) = (k : Int) ∧ k < 33 := mod_nat n 33 (by omega) (by omega)
  have hsz : (mk (put r)).size = 24 := by simp
  have hX : bl (mk (put r)) = put r := bl_mk _
  have hp : (put r).length = 24 := put_length r
  have HW := Lib.hid (fun (F : List UInt8) (q : Rec) (h1 : F.length = 24) (h2 : Sup (put r) F) (h3 : Skiff.get F = some q) => sup_whole h1 h2 h3)
  have hf0 : (mk flash0).size = 768 := by rw [mk_size, flash0_length]
  have hs0 : Sup (put r) (bl (mk flash0)) := by rw [bl_mk]; exact sup_flash0 _ hp
  generalize mk (put r) = X at *
  have HX := Lib.hid hX
  have HS := Lib.hid hs0
  clear hr hX hs0
  go_enter Try.func4, Try.ntmps4
  go_wp2_with fail
  refine (awake4_calls _).mono ?_
  rintro e w1 ⟨rfl, B1⟩
  have x_r1 : Ext (w.alloc (.cells #[.int .i64 r.seq, .int .i64 r.slot, .int .i64 r.size, .int .i64 r.sum] 23)) (w1) := (by repeat (first | (with_reducible exact Ext.refl _) | (with_reducible assumption) | (with_reducible refine Ext.drewN ?_ _) | (with_reducible refine Ext.drew ?_) | (with_reducible refine Ext.alloc ?_ _) | (with_reducible refine Ext.setCell ?_ (by first | exact Nat.le_refl _ | (simp <;> omega)) _) | (with_reducible refine Ext.trans ?_ (by with_reducible assumption))))
  have k0_r1 : World.cell? (w1) ⟨w.heap.size, 0, none⟩ = some (.int .i64 r.seq) := Ext.cell x_r1 (by first | (simp; done) | (simp; omega))
  have k1_r1 : World.cell? (w1) ⟨w.heap.size, 1, none⟩ = some (.int .i64 r.slot) := Ext.cell x_r1 (by first | (simp; done) | (simp; omega))
  have k2_r1 : World.cell? (w1) ⟨w.heap.size, 2, none⟩ = some (.int .i64 r.size) := Ext.cell x_r1 (by first | (simp; done) | (simp; omega))
  have k3_r1 : World.cell? (w1) ⟨w.heap.size, 3, none⟩ = some (.int .i64 r.sum) := Ext.cell x_r1 (by first | (simp; done) | (simp; omega))
  have f_r1 : ∀ i, World.frozen? (w1) ⟨w.heap.size, i, none⟩ = false := fun i => Ext.free x_r1 (by first | (simp; done) | (simp; omega)) (by first | (simp; done) | (simp; omega))
  clear x_r1
  go_wp2_with fail
  refine (P.out _).mono ?_
  rintro e w2 ⟨rfl, B2⟩
  go_wp2_with fail
  refine (num0_calls _ _).mono ?_
  rintro e w2 ⟨rfl, rfl⟩
  go_wp2_with fail
  refine (rblank_calls _).mono ?_
  rintro e w3 ⟨rfl, B3⟩
  go_wp2
  generalize mk flash0 = f0 at *
  rw [hk, hb]
  clear hk hb
  go_loopw [9, 12] (fun f i wr => ∃ (c : Nat) (F : ByteArray), c ≤ k ∧ i = .int .i64 (c : Int) ∧ f = .string F ∧ F.size = 768 ∧ Hid (Sup (put r) (bl F)) ∧ Ext w3 wr) (fun _ i _ => k - (intOf i).toNat)
  case atStart => exact ⟨0, f0, by omega, rfl, rfl, hf0, HS, Ext.refl _⟩
  case round =>
    clear hf0 HS
    obtain ⟨c, F, hc, rfl, rfl, hF, hsup, hE⟩ := hrel
    by_cases hlt : c < k
    · obtain ⟨F', hF', hs', hsup'⟩ := torn_step (put r) X F c 32 HX.out hp hF (by omega) (by omega) hsup.out
      have C := Lib.hid (fun w => rprogram_calls F (X.extract (4 * c) (4 * c + 4)) (4 * (c : Int)) w)
      rw [show ((32 : Nat) : Int) = 32 from rfl] at hF'
      rw [hF'] at C
      have HF' := Lib.hid hsup'
      have c1 : 4 * (c : Int) ≤ 24 := by omega
      have c2 : 4 * (c : Int) + 4 ≤ 24 := by omega
      have c3 : (4 * (c : Int) + 4).toNat = 4 * c + 4 := by omega
      have c4 : (4 * (c : Int)).toNat = 4 * c := by omega
      clear hF' hsup'
      go_wp2_with fail
      refine (C.out _).mono ?_
      rintro e w4 ⟨rfl, B4⟩
      go_wp2
      go_roundw
      case rel => exact ⟨c + 1, F', by omega, by go_num, rfl, hs', HF', (by repeat (first | (with_reducible exact Ext.refl _) | (with_reducible assumption) | (with_reducible refine Ext.drewN ?_ _) | (with_reducible refine Ext.drew ?_) | (with_reducible refine Ext.alloc ?_ _) | (with_reducible refine Ext.setCell ?_ (by first | exact Nat.le_refl _ | (simp <;> omega)) _) | (with_reducible refine Ext.trans ?_ (by with_reducible assumption))))⟩
      case measure => simp [intOf] <;> omega
    · obtain rfl : c = k := by omega
      obtain ⟨F', hF', hs', hsup'⟩ := torn_step (put r) X F c b HX.out hp hF (by omega) (by omega) hsup.out
      have C := Lib.hid (fun w => rtorn_calls F (X.extract (4 * c) (4 * c + 4)) (4 * (c : Int)) (b : Int) w)
      rw [hF'] at C
      have hl24 : (F'.extract 0 24).size = 24 := by simp; omega
      have hs24 : Sup (put r) (bl (F'.extract 0 24)) := by rw [bl_extract]; simpa using sup_take hp hsup'
      have c1 : 4 * (c : Int) ≤ 24 := by omega
      have c2 : 4 * (c : Int) + 4 ≤ 24 := by omega
      have c3 : (4 * (c : Int) + 4).toNat = 4 * c + 4 := by omega
      have c4 : (4 * (c : Int)).toNat = 4 * c := by omega
      by_cases hq : bl (F'.extract 0 24) = put r
      · have he : F'.extract 0 24 = X := bl_inj (by rw [hq, HX.out])
        clear hF' hsup' hs24 hq hl24
        go_wp2_with fail
        refine (C.out _).mono ?_
        rintro e w4 ⟨rfl, B4⟩
        go_wp2_with fail
        refine (G.out _).mono ?_
        rintro e w5 ⟨rfl, B5⟩
        have x_a5 : Ext (w.alloc (.cells #[.int .i64 r.seq, .int .i64 r.slot, .int .i64 r.size, .int .i64 r.sum] 23)) (w5.alloc (.cells #[.int .i64 r.seq, .int .i64 r.slot, .int .i64 r.size, .int .i64 r.sum] 23)) := (by repeat (first | (with_reducible exact Ext.refl _) | (with_reducible assumption) | (with_reducible refine Ext.drewN ?_ _) | (with_reducible refine Ext.drew ?_) | (with_reducible refine Ext.alloc ?_ _) | (with_reducible refine Ext.setCell ?_ (by first | exact Nat.le_refl _ | (simp <;> omega)) _) | (with_reducible refine Ext.trans ?_ (by with_reducible assumption))))
        have k0_a5 : World.cell? (w5.alloc (.cells #[.int .i64 r.seq, .int .i64 r.slot, .int .i64 r.size, .int .i64 r.sum] 23)) ⟨w.heap.size, 0, none⟩ = some (.int .i64 r.seq) := Ext.cell x_a5 (by first | (simp; done) | (simp; omega))
        have k1_a5 : World.cell? (w5.alloc (.cells #[.int .i64 r.seq, .int .i64 r.slot, .int .i64 r.size, .int .i64 r.sum] 23)) ⟨w.heap.size, 1, none⟩ = some (.int .i64 r.slot) := Ext.cell x_a5 (by first | (simp; done) | (simp; omega))
        have k2_a5 : World.cell? (w5.alloc (.cells #[.int .i64 r.seq, .int .i64 r.slot, .int .i64 r.size, .int .i64 r.sum] 23)) ⟨w.heap.size, 2, none⟩ = some (.int .i64 r.size) := Ext.cell x_a5 (by first | (simp; done) | (simp; omega))
        have k3_a5 : World.cell? (w5.alloc (.cells #[.int .i64 r.seq, .int .i64 r.slot, .int .i64 r.size, .int .i64 r.sum] 23)) ⟨w.heap.size, 3, none⟩ = some (.int .i64 r.sum) := Ext.cell x_a5 (by first | (simp; done) | (simp; omega))
        have f_a5 : ∀ i, World.frozen? (w5.alloc (.cells #[.int .i64 r.seq, .int .i64 r.slot, .int .i64 r.size, .int .i64 r.sum] 23)) ⟨w.heap.size, i, none⟩ = false := fun i => Ext.free x_a5 (by first | (simp; done) | (simp; omega)) (by first | (simp; done) | (simp; omega))
        clear x_a5
        go_wp2_with fail
        refine (num0_calls _ _).mono ?_
        rintro e w3 ⟨rfl, rfl⟩
        go_wp2
        go_ret
        exact ⟨rfl, (by repeat (first | (with_reducible exact Ext.refl _) | (with_reducible assumption) | (with_reducible refine Ext.drewN ?_ _) | (with_reducible refine Ext.drew ?_) | (with_reducible refine Ext.alloc ?_ _) | (with_reducible refine Ext.setCell ?_ (by first | exact Nat.le_refl _ | (simp <;> omega)) _) | (with_reducible refine Ext.trans ?_ (by with_reducible assumption))))⟩
      · have hn : Skiff.get (bl (F'.extract 0 24)) = none := by
          cases hg : Skiff.get (bl (F'.extract 0 24)) with
          | none => rfl
          | some q => exact absurd (HW.out _ q (by rw [bl_length, hl24]) hs24 hg) hq
        have G2 := Lib.hid (fun w => get_no hn w)
        have htest : ((F'.extract 0 24).toList == X.toList) = false := by
          rw [beq_bl, HX.out]
          exact decide_eq_false hq
        clear hF' hsup' hs24 hq hl24 hn
        go_wp2_with fail
        refine (C.out _).mono ?_
        rintro e w4 ⟨rfl, B4⟩
        go_wp2_with fail
        refine (G2.out _).mono ?_
        rintro e w5 ⟨rfl, B5⟩
        go_wp2_with fail
        refine (num0_calls _ _).mono ?_
        rintro e w4 ⟨rfl, rfl⟩
        go_wp2
        go_ret
        exact ⟨rfl, (by repeat (first | (with_reducible exact Ext.refl _) | (with_reducible assumption) | (with_reducible refine Ext.drewN ?_ _) | (with_reducible refine Ext.drew ?_) | (with_reducible refine Ext.alloc ?_ _) | (with_reducible refine Ext.setCell ?_ (by first | exact Nat.le_refl _ | (simp <;> omega)) _) | (with_reducible refine Ext.trans ?_ (by with_reducible assumption))))⟩

end Go.Proofs.Ytcpghpjcpamhcaa
