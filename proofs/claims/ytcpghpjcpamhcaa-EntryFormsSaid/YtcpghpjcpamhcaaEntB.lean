/- EntryBack, EntryMixed. -/
import Derived.Test.YtcpghpjcpamhcaaEntL
set_option linter.unusedVariables false
set_option linter.unusedSimpArgs false
set_option maxHeartbeats 4000000
namespace Go.Proofs.Ytcpghpjcpamhcaa
open Go.RowKit Skiff

theorem put_xor (r : Rec) (j : Nat) (hj : j < 12) :
    ∀ (h0 : j < (mk (put r)).size) (h1 : j + 12 < (mk (put r)).size), bits .xor .u8 ((mk (put r))[j].toNat : Int) ((mk (put r))[j + 12].toNat : Int) = 255 := by
  intro h0 h1
  have e : ((mk (put r))[j + 12]'(by simp; omega)) = ~~~ ((mk (put r))[j]'(by simp; omega)) := by
    show (put r)[j + 12]'(by simp; omega) = ~~~ (put r)[j]'(by simp; omega)
    unfold put
    rw [List.getElem_append_right (by simp), List.getElem_append_left (by simp; omega)]
    simp [compl]
  rw [e]
  have hx : ∀ n : Fin 256, bits .xor .u8 ((UInt8.ofFin n).toNat : Int) ((~~~ (UInt8.ofFin n)).toNat : Int) = 255 := by decide +kernel
  exact hx ((mk (put r))[j]).toFin

theorem entryBack_walk (r : Rec) (s : ByteArray) (hs : s.size ≤ 140737488351232) (w : World) :
    Calls Try.prog 6 #[(.agg #[.int .i64 r.seq, .int .i64 r.slot, .int .i64 r.size, .int .i64 r.sum]), .string s] w fun e w' => e = .returned (.bool true) ∧ Ext w w' := by
  cases hr : recMay r
  · have P := Lib.hid (fun w => put_no hr w)
    clear hr
    go_enter Try.func6, Try.ntmps6
    go_wp2_with fail
    refine (awake4_calls _).mono ?_
    rintro e w1 ⟨rfl, B1⟩
    have x_r1 : Ext (w.alloc (.cells #[.int .i64 r.seq, .int .i64 r.slot, .int .i64 r.size, .int .i64 r.sum] 23)) (w1) := (by repeat (first | (with_reducible exact Ext.refl _) | (with_reducible refine Ext.drewN ?_ _) | (with_reducible refine Ext.drew ?_) | (with_reducible refine Ext.alloc ?_ _) | (with_reducible refine Ext.setCell ?_ (by first | exact Nat.le_refl _ | (simp <;> omega)) _) | (with_reducible refine Ext.trans ?_ (by with_reducible assumption))))
    have k0_r1 : World.cell? (w1) ⟨w.heap.size, 0, none⟩ = some (.int .i64 r.seq) := Ext.cell x_r1 (by first | (simp; done) | (simp; omega))
    have k1_r1 : World.cell? (w1) ⟨w.heap.size, 1, none⟩ = some (.int .i64 r.slot) := Ext.cell x_r1 (by first | (simp; done) | (simp; omega))
    have k2_r1 : World.cell? (w1) ⟨w.heap.size, 2, none⟩ = some (.int .i64 r.size) := Ext.cell x_r1 (by first | (simp; done) | (simp; omega))
    have k3_r1 : World.cell? (w1) ⟨w.heap.size, 3, none⟩ = some (.int .i64 r.sum) := Ext.cell x_r1 (by first | (simp; done) | (simp; omega))
    have f_r1 : ∀ i, World.frozen? (w1) ⟨w.heap.size, i, none⟩ = false := fun i => Ext.free x_r1 (by first | (simp; done) | (simp; omega)) (by first | (simp; done) | (simp; omega))
    clear x_r1
    go_wp2_with fail
    refine (P.out _).mono ?_
    rintro e w2 ⟨rfl, B2⟩
    go_wp2_with fail
    refine (num0_calls _ _).mono ?_
    rintro e w1 ⟨rfl, rfl⟩
    cases hg : Skiff.get (bl s) with
    | none =>
      have G1 := Lib.hid (fun w => get_no hg w)
      clear hg
      go_wp2_with fail
      refine (G1.out _).mono ?_
      rintro e w8 ⟨rfl, B8⟩
      go_wp2_with fail
      refine (num0_calls _ _).mono ?_
      rintro e w2 ⟨rfl, rfl⟩
      go_wp2
      go_ret
      exact ⟨rfl, (by repeat (first | (with_reducible exact Ext.refl _) | (with_reducible refine Ext.drewN ?_ _) | (with_reducible refine Ext.drew ?_) | (with_reducible refine Ext.alloc ?_ _) | (with_reducible refine Ext.setCell ?_ (by first | exact Nat.le_refl _ | (simp <;> omega)) _) | (with_reducible refine Ext.trans ?_ (by with_reducible assumption))))⟩
    | some q =>
      have hq := get_some hg
      have G1 := Lib.hid (fun w => get_ok hg w)
      have P1 := Lib.hid (fun w => put_ok hq.1 w)
      have he : mk (put q) = s := by rw [hq.2]; simp
      rw [he] at P1
      clear hg hq he
      go_wp2_with fail
      refine (G1.out _).mono ?_
      rintro e w8 ⟨rfl, B8⟩
      go_wp2_with fail
      refine (num0_calls _ _).mono ?_
      rintro e w3 ⟨rfl, rfl⟩
      have x_q8 : Ext (w8.alloc (.cells #[.int .i64 q.seq, .int .i64 q.slot, .int .i64 q.size, .int .i64 q.sum] 23)) (w8.alloc (.cells #[.int .i64 q.seq, .int .i64 q.slot, .int .i64 q.size, .int .i64 q.sum] 23)) := (by repeat (first | (with_reducible exact Ext.refl _) | (with_reducible refine Ext.drewN ?_ _) | (with_reducible refine Ext.drew ?_) | (with_reducible refine Ext.alloc ?_ _) | (with_reducible refine Ext.setCell ?_ (by first | exact Nat.le_refl _ | (simp <;> omega)) _) | (with_reducible refine Ext.trans ?_ (by with_reducible assumption))))
      have k0_q8 : World.cell? (w8.alloc (.cells #[.int .i64 q.seq, .int .i64 q.slot, .int .i64 q.size, .int .i64 q.sum] 23)) ⟨w8.heap.size, 0, none⟩ = some (.int .i64 q.seq) := Ext.cell x_q8 (by first | (simp; done) | (simp; omega))
      have k1_q8 : World.cell? (w8.alloc (.cells #[.int .i64 q.seq, .int .i64 q.slot, .int .i64 q.size, .int .i64 q.sum] 23)) ⟨w8.heap.size, 1, none⟩ = some (.int .i64 q.slot) := Ext.cell x_q8 (by first | (simp; done) | (simp; omega))
      have k2_q8 : World.cell? (w8.alloc (.cells #[.int .i64 q.seq, .int .i64 q.slot, .int .i64 q.size, .int .i64 q.sum] 23)) ⟨w8.heap.size, 2, none⟩ = some (.int .i64 q.size) := Ext.cell x_q8 (by first | (simp; done) | (simp; omega))
      have k3_q8 : World.cell? (w8.alloc (.cells #[.int .i64 q.seq, .int .i64 q.slot, .int .i64 q.size, .int .i64 q.sum] 23)) ⟨w8.heap.size, 3, none⟩ = some (.int .i64 q.sum) := Ext.cell x_q8 (by first | (simp; done) | (simp; omega))
      have f_q8 : ∀ i, World.frozen? (w8.alloc (.cells #[.int .i64 q.seq, .int .i64 q.slot, .int .i64 q.size, .int .i64 q.sum] 23)) ⟨w8.heap.size, i, none⟩ = false := fun i => Ext.free x_q8 (by first | (simp; done) | (simp; omega)) (by first | (simp; done) | (simp; omega))
      clear x_q8
      go_wp2_with fail
      refine (P1.out _).mono ?_
      rintro e w9 ⟨rfl, B9⟩
      go_wp2_with fail
      refine (num0_calls _ _).mono ?_
      rintro e w4 ⟨rfl, rfl⟩
      go_wp2
      go_ret
      exact ⟨rfl, (by repeat (first | (with_reducible exact Ext.refl _) | (with_reducible refine Ext.drewN ?_ _) | (with_reducible refine Ext.drew ?_) | (with_reducible refine Ext.alloc ?_ _) | (with_reducible refine Ext.setCell ?_ (by first | exact Nat.le_refl _ | (simp <;> omega)) _) | (with_reducible refine Ext.trans ?_ (by with_reducible assumption))))⟩
  · have P := Lib.hid (fun w => put_ok hr w)
    have G := Lib.hid (fun w => get_back hr w)
    clear hr
    have hsz : (mk (put r)).size = 24 := by simp
    go_enter Try.func6, Try.ntmps6
    go_wp2_with fail
    refine (awake4_calls _).mono ?_
    rintro e w1 ⟨rfl, B1⟩
    have x_r1 : Ext (w.alloc (.cells #[.int .i64 r.seq, .int .i64 r.slot, .int .i64 r.size, .int .i64 r.sum] 23)) (w1) := (by repeat (first | (with_reducible exact Ext.refl _) | (with_reducible refine Ext.drewN ?_ _) | (with_reducible refine Ext.drew ?_) | (with_reducible refine Ext.alloc ?_ _) | (with_reducible refine Ext.setCell ?_ (by first | exact Nat.le_refl _ | (simp <;> omega)) _) | (with_reducible refine Ext.trans ?_ (by with_reducible assumption))))
    have k0_r1 : World.cell? (w1) ⟨w.heap.size, 0, none⟩ = some (.int .i64 r.seq) := Ext.cell x_r1 (by first | (simp; done) | (simp; omega))
    have k1_r1 : World.cell? (w1) ⟨w.heap.size, 1, none⟩ = some (.int .i64 r.slot) := Ext.cell x_r1 (by first | (simp; done) | (simp; omega))
    have k2_r1 : World.cell? (w1) ⟨w.heap.size, 2, none⟩ = some (.int .i64 r.size) := Ext.cell x_r1 (by first | (simp; done) | (simp; omega))
    have k3_r1 : World.cell? (w1) ⟨w.heap.size, 3, none⟩ = some (.int .i64 r.sum) := Ext.cell x_r1 (by first | (simp; done) | (simp; omega))
    have f_r1 : ∀ i, World.frozen? (w1) ⟨w.heap.size, i, none⟩ = false := fun i => Ext.free x_r1 (by first | (simp; done) | (simp; omega)) (by first | (simp; done) | (simp; omega))
    clear x_r1
    go_wp2_with fail
    refine (P.out _).mono ?_
    rintro e w2 ⟨rfl, B2⟩
    go_wp2_with fail
    refine (num0_calls _ _).mono ?_
    rintro e w5 ⟨rfl, rfl⟩
    go_wp2_with fail
    refine (G.out _).mono ?_
    rintro e w3 ⟨rfl, B3⟩
    have x_r3 : Ext (w.alloc (.cells #[.int .i64 r.seq, .int .i64 r.slot, .int .i64 r.size, .int .i64 r.sum] 23)) (w3.alloc (.cells #[.int .i64 r.seq, .int .i64 r.slot, .int .i64 r.size, .int .i64 r.sum] 23)) := (by repeat (first | (with_reducible exact Ext.refl _) | (with_reducible refine Ext.drewN ?_ _) | (with_reducible refine Ext.drew ?_) | (with_reducible refine Ext.alloc ?_ _) | (with_reducible refine Ext.setCell ?_ (by first | exact Nat.le_refl _ | (simp <;> omega)) _) | (with_reducible refine Ext.trans ?_ (by with_reducible assumption))))
    have k0_r3 : World.cell? (w3.alloc (.cells #[.int .i64 r.seq, .int .i64 r.slot, .int .i64 r.size, .int .i64 r.sum] 23)) ⟨w.heap.size, 0, none⟩ = some (.int .i64 r.seq) := Ext.cell x_r3 (by first | (simp; done) | (simp; omega))
    have k1_r3 : World.cell? (w3.alloc (.cells #[.int .i64 r.seq, .int .i64 r.slot, .int .i64 r.size, .int .i64 r.sum] 23)) ⟨w.heap.size, 1, none⟩ = some (.int .i64 r.slot) := Ext.cell x_r3 (by first | (simp; done) | (simp; omega))
    have k2_r3 : World.cell? (w3.alloc (.cells #[.int .i64 r.seq, .int .i64 r.slot, .int .i64 r.size, .int .i64 r.sum] 23)) ⟨w.heap.size, 2, none⟩ = some (.int .i64 r.size) := Ext.cell x_r3 (by first | (simp; done) | (simp; omega))
    have k3_r3 : World.cell? (w3.alloc (.cells #[.int .i64 r.seq, .int .i64 r.slot, .int .i64 r.size, .int .i64 r.sum] 23)) ⟨w.heap.size, 3, none⟩ = some (.int .i64 r.sum) := Ext.cell x_r3 (by first | (simp; done) | (simp; omega))
    have f_r3 : ∀ i, World.frozen? (w3.alloc (.cells #[.int .i64 r.seq, .int .i64 r.slot, .int .i64 r.size, .int .i64 r.sum] 23)) ⟨w.heap.size, i, none⟩ = false := fun i => Ext.free x_r3 (by first | (simp; done) | (simp; omega)) (by first | (simp; done) | (simp; omega))
    clear x_r3
    go_wp2_with fail
    refine (num0_calls _ _).mono ?_
    rintro e w6 ⟨rfl, rfl⟩
    go_wp2
    have hx := put_xor r
    generalize mk (put r) = X at *
    go_loopw [9] (fun i wr => ∃ j : Nat, j ≤ 12 ∧ i = .int .i64 (j : Int) ∧ Ext (w3.alloc (.cells #[.int .i64 r.seq, .int .i64 r.slot, .int .i64 r.size, .int .i64 r.sum] 23)) wr) (fun i _ => 12 - (intOf i).toNat)
    case atStart => exact ⟨0, by omega, rfl, Ext.refl _⟩
    case round =>
      obtain ⟨j, hj, rfl, hE⟩ := hrel
      by_cases hlt : j < 12
      · have h0 : j < X.size := by omega
        have h1 : j + 12 < X.size := by omega
        have hxj := hx j hlt h0 h1
        have h2 : (j : Int) < 24 := by omega
        have h3 : (j : Int) + 12 < 24 := by omega
        have h4 : (j : Int) < 12 := by omega
        clear hx
        have h5 : IntKind.i64.wrap ((j : Int) + 12) = (j : Int) + 12 := wrap_i64_fit _ (by omega) (by omega)
        have h6 : 0 ≤ (j : Int) + 12 := by omega
        have h7 : ((j : Int) + 12).toNat = j + 12 := by omega
        go_wp2
        go_region
        go_wp2
        go_roundw
        case rel => exact ⟨j + 1, by omega, by go_num, (by repeat (first | (with_reducible exact Ext.refl _) | (with_reducible refine Ext.drewN ?_ _) | (with_reducible refine Ext.drew ?_) | (with_reducible refine Ext.alloc ?_ _) | (with_reducible refine Ext.setCell ?_ (by first | exact Nat.le_refl _ | (simp <;> omega)) _) | (with_reducible refine Ext.trans ?_ (by with_reducible assumption))))⟩
        case measure => simp [intOf] <;> omega
      · obtain rfl : j = 12 := by omega
        clear hx
        cases hg : Skiff.get (bl s) with
        | none =>
          have G1 := Lib.hid (fun w => get_no hg w)
          clear hg
          go_wp2_with fail
          refine (G1.out _).mono ?_
          rintro e w8 ⟨rfl, B8⟩
          go_wp2_with fail
          refine (num0_calls _ _).mono ?_
          rintro e w7 ⟨rfl, rfl⟩
          go_wp2
          go_ret
          exact ⟨rfl, (by repeat (first | (with_reducible exact Ext.refl _) | (with_reducible refine Ext.drewN ?_ _) | (with_reducible refine Ext.drew ?_) | (with_reducible refine Ext.alloc ?_ _) | (with_reducible refine Ext.setCell ?_ (by first | exact Nat.le_refl _ | (simp <;> omega)) _) | (with_reducible refine Ext.trans ?_ (by with_reducible assumption))))⟩
        | some q =>
          have hq := get_some hg
          have G1 := Lib.hid (fun w => get_ok hg w)
          have P1 := Lib.hid (fun w => put_ok hq.1 w)
          have he : mk (put q) = s := by rw [hq.2]; simp
          rw [he] at P1
          clear hg hq he
          go_wp2_with fail
          refine (G1.out _).mono ?_
          rintro e w8 ⟨rfl, B8⟩
          go_wp2_with fail
          refine (num0_calls _ _).mono ?_
          rintro e w8 ⟨rfl, rfl⟩
          have x_q8 : Ext (w8.alloc (.cells #[.int .i64 q.seq, .int .i64 q.slot, .int .i64 q.size, .int .i64 q.sum] 23)) (w8.alloc (.cells #[.int .i64 q.seq, .int .i64 q.slot, .int .i64 q.size, .int .i64 q.sum] 23)) := (by repeat (first | (with_reducible exact Ext.refl _) | (with_reducible refine Ext.drewN ?_ _) | (with_reducible refine Ext.drew ?_) | (with_reducible refine Ext.alloc ?_ _) | (with_reducible refine Ext.setCell ?_ (by first | exact Nat.le_refl _ | (simp <;> omega)) _) | (with_reducible refine Ext.trans ?_ (by with_reducible assumption))))
          have k0_q8 : World.cell? (w8.alloc (.cells #[.int .i64 q.seq, .int .i64 q.slot, .int .i64 q.size, .int .i64 q.sum] 23)) ⟨w8.heap.size, 0, none⟩ = some (.int .i64 q.seq) := Ext.cell x_q8 (by first | (simp; done) | (simp; omega))
          have k1_q8 : World.cell? (w8.alloc (.cells #[.int .i64 q.seq, .int .i64 q.slot, .int .i64 q.size, .int .i64 q.sum] 23)) ⟨w8.heap.size, 1, none⟩ = some (.int .i64 q.slot) := Ext.cell x_q8 (by first | (simp; done) | (simp; omega))
          have k2_q8 : World.cell? (w8.alloc (.cells #[.int .i64 q.seq, .int .i64 q.slot, .int .i64 q.size, .int .i64 q.sum] 23)) ⟨w8.heap.size, 2, none⟩ = some (.int .i64 q.size) := Ext.cell x_q8 (by first | (simp; done) | (simp; omega))
          have k3_q8 : World.cell? (w8.alloc (.cells #[.int .i64 q.seq, .int .i64 q.slot, .int .i64 q.size, .int .i64 q.sum] 23)) ⟨w8.heap.size, 3, none⟩ = some (.int .i64 q.sum) := Ext.cell x_q8 (by first | (simp; done) | (simp; omega))
          have f_q8 : ∀ i, World.frozen? (w8.alloc (.cells #[.int .i64 q.seq, .int .i64 q.slot, .int .i64 q.size, .int .i64 q.sum] 23)) ⟨w8.heap.size, i, none⟩ = false := fun i => Ext.free x_q8 (by first | (simp; done) | (simp; omega)) (by first | (simp; done) | (simp; omega))
          clear x_q8
          go_wp2_with fail
          refine (P1.out _).mono ?_
          rintro e w9 ⟨rfl, B9⟩
          go_wp2_with fail
          refine (num0_calls _ _).mono ?_
          rintro e w9 ⟨rfl, rfl⟩
          go_wp2
          go_ret
          exact ⟨rfl, (by repeat (first | (with_reducible exact Ext.refl _) | (with_reducible refine Ext.drewN ?_ _) | (with_reducible refine Ext.drew ?_) | (with_reducible refine Ext.alloc ?_ _) | (with_reducible refine Ext.setCell ?_ (by first | exact Nat.le_refl _ | (simp <;> omega)) _) | (with_reducible refine Ext.trans ?_ (by with_reducible assumption))))⟩

theorem mixed_k (x : Int) : ∃ k : Nat, wrap64 ((IntKind.u64.wrap x).tmod 13) = (k : Int) ∧ k ≤ 12 := by
  have h0 : 0 ≤ IntKind.u64.wrap x := by rw [IntKind.wrap_u64]; omega
  have h1 : IntKind.u64.wrap x < 18446744073709551616 := by rw [IntKind.wrap_u64]; omega
  generalize IntKind.u64.wrap x = y at *
  rw [Int.tmod_eq_emod_of_nonneg h0]
  refine ⟨(y % 13).toNat, ?_, by omega⟩
  rw [wrap64]
  omega

theorem entryMixed_walk (a b : Rec) (cut : Int) (f2 : (Lit.int .i64 cut).wf = true) (w : World) :
    Calls Try.prog 7 #[(.agg #[.int .i64 a.seq, .int .i64 a.slot, .int .i64 a.size, .int .i64 a.sum]), (.agg #[.int .i64 b.seq, .int .i64 b.slot, .int .i64 b.size, .int .i64 b.sum]), .int .i64 cut] w fun e w' => e = .returned (.bool true) ∧ Ext w w' := by
  cases ha : recMay a
  · have P := Lib.hid (fun w => put_no ha w)
    obtain ⟨Z, J, hZ, -⟩ := putRes b
    have Q := Lib.hid (put_calls b)
    rw [hZ] at Q
    unfold recV at Q
    clear ha hZ
    go_enter Try.func7, Try.ntmps7
    go_wp2_with fail
    refine (awake4_calls _).mono ?_
    rintro e w1 ⟨rfl, B1⟩
    have x_a1 : Ext ((w.alloc (.cells #[.int .i64 a.seq, .int .i64 a.slot, .int .i64 a.size, .int .i64 a.sum] 23)).alloc (.cells #[.int .i64 b.seq, .int .i64 b.slot, .int .i64 b.size, .int .i64 b.sum] 23)) (w1) := (by repeat (first | (with_reducible exact Ext.refl _) | (with_reducible refine Ext.drewN ?_ _) | (with_reducible refine Ext.drew ?_) | (with_reducible refine Ext.alloc ?_ _) | (with_reducible refine Ext.setCell ?_ (by first | exact Nat.le_refl _ | (simp <;> omega)) _) | (with_reducible refine Ext.trans ?_ (by with_reducible assumption))))
    have k0_a1 : World.cell? (w1) ⟨w.heap.size, 0, none⟩ = some (.int .i64 a.seq) := Ext.cell x_a1 (by first | (simp; done) | (simp; omega))
    have k1_a1 : World.cell? (w1) ⟨w.heap.size, 1, none⟩ = some (.int .i64 a.slot) := Ext.cell x_a1 (by first | (simp; done) | (simp; omega))
    have k2_a1 : World.cell? (w1) ⟨w.heap.size, 2, none⟩ = some (.int .i64 a.size) := Ext.cell x_a1 (by first | (simp; done) | (simp; omega))
    have k3_a1 : World.cell? (w1) ⟨w.heap.size, 3, none⟩ = some (.int .i64 a.sum) := Ext.cell x_a1 (by first | (simp; done) | (simp; omega))
    have f_a1 : ∀ i, World.frozen? (w1) ⟨w.heap.size, i, none⟩ = false := fun i => Ext.free x_a1 (by first | (simp; done) | (simp; omega)) (by first | (simp; done) | (simp; omega))
    clear x_a1
    go_wp2_with fail
    refine (P.out _).mono ?_
    rintro e w2 ⟨rfl, B2⟩
    have x_b2 : Ext ((w.alloc (.cells #[.int .i64 a.seq, .int .i64 a.slot, .int .i64 a.size, .int .i64 a.sum] 23)).alloc (.cells #[.int .i64 b.seq, .int .i64 b.slot, .int .i64 b.size, .int .i64 b.sum] 23)) (w2) := (by repeat (first | (with_reducible exact Ext.refl _) | (with_reducible refine Ext.drewN ?_ _) | (with_reducible refine Ext.drew ?_) | (with_reducible refine Ext.alloc ?_ _) | (with_reducible refine Ext.setCell ?_ (by first | exact Nat.le_refl _ | (simp <;> omega)) _) | (with_reducible refine Ext.trans ?_ (by with_reducible assumption))))
    have k0_b2 : World.cell? (w2) ⟨w.heap.size + 1, 0, none⟩ = some (.int .i64 b.seq) := Ext.cell x_b2 (by first | (simp; done) | (simp; omega))
    have k1_b2 : World.cell? (w2) ⟨w.heap.size + 1, 1, none⟩ = some (.int .i64 b.slot) := Ext.cell x_b2 (by first | (simp; done) | (simp; omega))
    have k2_b2 : World.cell? (w2) ⟨w.heap.size + 1, 2, none⟩ = some (.int .i64 b.size) := Ext.cell x_b2 (by first | (simp; done) | (simp; omega))
    have k3_b2 : World.cell? (w2) ⟨w.heap.size + 1, 3, none⟩ = some (.int .i64 b.sum) := Ext.cell x_b2 (by first | (simp; done) | (simp; omega))
    have f_b2 : ∀ i, World.frozen? (w2) ⟨w.heap.size + 1, i, none⟩ = false := fun i => Ext.free x_b2 (by first | (simp; done) | (simp; omega)) (by first | (simp; done) | (simp; omega))
    clear x_b2
    go_wp2_with fail
    refine (Q.out _).mono ?_
    rintro e w3 ⟨rfl, B3⟩
    go_wp2_with fail
    refine (num0_calls _ _).mono ?_
    rintro e w1 ⟨rfl, rfl⟩
    go_wp2
    go_ret
    exact ⟨rfl, (by repeat (first | (with_reducible exact Ext.refl _) | (with_reducible refine Ext.drewN ?_ _) | (with_reducible refine Ext.drew ?_) | (with_reducible refine Ext.alloc ?_ _) | (with_reducible refine Ext.setCell ?_ (by first | exact Nat.le_refl _ | (simp <;> omega)) _) | (with_reducible refine Ext.trans ?_ (by with_reducible assumption))))⟩
  have P := Lib.hid (fun w => put_ok ha w)
  cases hb : recMay b
  · have Q := Lib.hid (fun w => put_no hb w)
    clear ha hb
    go_enter Try.func7, Try.ntmps7
    go_wp2_with fail
    refine (awake4_calls _).mono ?_
    rintro e w1 ⟨rfl, B1⟩
    have x_a1 : Ext ((w.alloc (.cells #[.int .i64 a.seq, .int .i64 a.slot, .int .i64 a.size, .int .i64 a.sum] 23)).alloc (.cells #[.int .i64 b.seq, .int .i64 b.slot, .int .i64 b.size, .int .i64 b.sum] 23)) (w1) := (by repeat (first | (with_reducible exact Ext.refl _) | (with_reducible refine Ext.drewN ?_ _) | (with_reducible refine Ext.drew ?_) | (with_reducible refine Ext.alloc ?_ _) | (with_reducible refine Ext.setCell ?_ (by first | exact Nat.le_refl _ | (simp <;> omega)) _) | (with_reducible refine Ext.trans ?_ (by with_reducible assumption))))
    have k0_a1 : World.cell? (w1) ⟨w.heap.size, 0, none⟩ = some (.int .i64 a.seq) := Ext.cell x_a1 (by first | (simp; done) | (simp; omega))
    have k1_a1 : World.cell? (w1) ⟨w.heap.size, 1, none⟩ = some (.int .i64 a.slot) := Ext.cell x_a1 (by first | (simp; done) | (simp; omega))
    have k2_a1 : World.cell? (w1) ⟨w.heap.size, 2, none⟩ = some (.int .i64 a.size) := Ext.cell x_a1 (by first | (simp; done) | (simp; omega))
    have k3_a1 : World.cell? (w1) ⟨w.heap.size, 3, none⟩ = some (.int .i64 a.sum) := Ext.cell x_a1 (by first | (simp; done) | (simp; omega))
    have f_a1 : ∀ i, World.frozen? (w1) ⟨w.heap.size, i, none⟩ = false := fun i => Ext.free x_a1 (by first | (simp; done) | (simp; omega)) (by first | (simp; done) | (simp; omega))
    clear x_a1
    go_wp2_with fail
    refine (P.out _).mono ?_
    rintro e w2 ⟨rfl, B2⟩
    have x_b2 : Ext ((w.alloc (.cells #[.int .i64 a.seq, .int .i64 a.slot, .int .i64 a.size, .int .i64 a.sum] 23)).alloc (.cells #[.int .i64 b.seq, .int .i64 b.slot, .int .i64 b.size, .int .i64 b.sum] 23)) (w2) := (by repeat (first | (with_reducible exact Ext.refl _) | (with_reducible refine Ext.drewN ?_ _) | (with_reducible refine Ext.drew ?_) | (with_reducible refine Ext.alloc ?_ _) | (with_reducible refine Ext.setCell ?_ (by first | exact Nat.le_refl _ | (simp <;> omega)) _) | (with_reducible refine Ext.trans ?_ (by with_reducible assumption))))
    have k0_b2 : World.cell? (w2) ⟨w.heap.size + 1, 0, none⟩ = some (.int .i64 b.seq) := Ext.cell x_b2 (by first | (simp; done) | (simp; omega))
    have k1_b2 : World.cell? (w2) ⟨w.heap.size + 1, 1, none⟩ = some (.int .i64 b.slot) := Ext.cell x_b2 (by first | (simp; done) | (simp; omega))
    have k2_b2 : World.cell? (w2) ⟨w.heap.size + 1, 2, none⟩ = some (.int .i64 b.size) := Ext.cell x_b2 (by first | (simp; done) | (simp; omega))
    have k3_b2 : World.cell? (w2) ⟨w.heap.size + 1, 3, none⟩ = some (.int .i64 b.sum) := Ext.cell x_b2 (by first | (simp; done) | (simp; omega))
    have f_b2 : ∀ i, World.frozen? (w2) ⟨w.heap.size + 1, i, none⟩ = false := fun i => Ext.free x_b2 (by first | (simp; done) | (simp; omega)) (by first | (simp; done) | (simp; omega))
    clear x_b2
    go_wp2_with fail
    refine (Q.out _).mono ?_
    rintro e w3 ⟨rfl, B3⟩
    go_wp2_with fail
    refine (num0_calls _ _).mono ?_
    rintro e w2 ⟨rfl, rfl⟩
    go_wp2_with fail
    refine (num0_calls _ _).mono ?_
    rintro e w3 ⟨rfl, rfl⟩
    go_wp2
    go_ret
    exact ⟨rfl, (by repeat (first | (with_reducible exact Ext.refl _) | (with_reducible refine Ext.drewN ?_ _) | (with_reducible refine Ext.drew ?_) | (with_reducible refine Ext.alloc ?_ _) | (with_reducible refine Ext.setCell ?_ (by first | exact Nat.le_refl _ | (simp <;> omega)) _) | (with_reducible refine Ext.trans ?_ (by with_reducible assumption))))⟩
  have Q := Lib.hid (fun w => put_ok hb w)
  have hx : (mk (put a)).size = 24 := by simp
  have hy : (mk (put b)).size = 24 := by simp
  clear ha hb
  generalize mk (put a) = X at *
  generalize mk (put b) = Y at *
  obtain ⟨k, hk, hk2⟩ := mixed_k cut
  have c1 : (k : Int) < 24 := by omega
  have c2 : (k : Int) ≤ 24 := by omega
  have c3 : (12 : Int) + (k : Int) ≤ 24 := by omega
  have c4 : 0 ≤ (12 : Int) + (k : Int) := by omega
  have c5 : (k : Int) ≤ 12 + (k : Int) := by omega
  have c6 : ((12 : Int) + (k : Int)).toNat = 12 + k := by omega
  have c7 : IntKind.i64.wrap ((12 : Int) + (k : Int)) = 12 + (k : Int) := wrap_i64_fit _ (by omega) (by omega)
  go_enter Try.func7, Try.ntmps7
  go_wp2_with fail
  refine (awake4_calls _).mono ?_
  rintro e w1 ⟨rfl, B1⟩
  have x_a1 : Ext ((w.alloc (.cells #[.int .i64 a.seq, .int .i64 a.slot, .int .i64 a.size, .int .i64 a.sum] 23)).alloc (.cells #[.int .i64 b.seq, .int .i64 b.slot, .int .i64 b.size, .int .i64 b.sum] 23)) (w1) := (by repeat (first | (with_reducible exact Ext.refl _) | (with_reducible refine Ext.drewN ?_ _) | (with_reducible refine Ext.drew ?_) | (with_reducible refine Ext.alloc ?_ _) | (with_reducible refine Ext.setCell ?_ (by first | exact Nat.le_refl _ | (simp <;> omega)) _) | (with_reducible refine Ext.trans ?_ (by with_reducible assumption))))
  have k0_a1 : World.cell? (w1) ⟨w.heap.size, 0, none⟩ = some (.int .i64 a.seq) := Ext.cell x_a1 (by first | (simp; done) | (simp; omega))
  have k1_a1 : World.cell? (w1) ⟨w.heap.size, 1, none⟩ = some (.int .i64 a.slot) := Ext.cell x_a1 (by first | (simp; done) | (simp; omega))
  have k2_a1 : World.cell? (w1) ⟨w.heap.size, 2, none⟩ = some (.int .i64 a.size) := Ext.cell x_a1 (by first | (simp; done) | (simp; omega))
  have k3_a1 : World.cell? (w1) ⟨w.heap.size, 3, none⟩ = some (.int .i64 a.sum) := Ext.cell x_a1 (by first | (simp; done) | (simp; omega))
  have f_a1 : ∀ i, World.frozen? (w1) ⟨w.heap.size, i, none⟩ = false := fun i => Ext.free x_a1 (by first | (simp; done) | (simp; omega)) (by first | (simp; done) | (simp; omega))
  clear x_a1
  go_wp2_with fail
  refine (P.out _).mono ?_
  rintro e w2 ⟨rfl, B2⟩
  have x_b2 : Ext ((w.alloc (.cells #[.int .i64 a.seq, .int .i64 a.slot, .int .i64 a.size, .int .i64 a.sum] 23)).alloc (.cells #[.int .i64 b.seq, .int .i64 b.slot, .int .i64 b.size, .int .i64 b.sum] 23)) (w2) := (by repeat (first | (with_reducible exact Ext.refl _) | (with_reducible refine Ext.drewN ?_ _) | (with_reducible refine Ext.drew ?_) | (with_reducible refine Ext.alloc ?_ _) | (with_reducible refine Ext.setCell ?_ (by first | exact Nat.le_refl _ | (simp <;> omega)) _) | (with_reducible refine Ext.trans ?_ (by with_reducible assumption))))
  have k0_b2 : World.cell? (w2) ⟨w.heap.size + 1, 0, none⟩ = some (.int .i64 b.seq) := Ext.cell x_b2 (by first | (simp; done) | (simp; omega))
  have k1_b2 : World.cell? (w2) ⟨w.heap.size + 1, 1, none⟩ = some (.int .i64 b.slot) := Ext.cell x_b2 (by first | (simp; done) | (simp; omega))
  have k2_b2 : World.cell? (w2) ⟨w.heap.size + 1, 2, none⟩ = some (.int .i64 b.size) := Ext.cell x_b2 (by first | (simp; done) | (simp; omega))
  have k3_b2 : World.cell? (w2) ⟨w.heap.size + 1, 3, none⟩ = some (.int .i64 b.sum) := Ext.cell x_b2 (by first | (simp; done) | (simp; omega))
  have f_b2 : ∀ i, World.frozen? (w2) ⟨w.heap.size + 1, i, none⟩ = false := fun i => Ext.free x_b2 (by first | (simp; done) | (simp; omega)) (by first | (simp; done) | (simp; omega))
  clear x_b2
  go_wp2_with fail
  refine (Q.out _).mono ?_
  rintro e w3 ⟨rfl, B3⟩
  go_wp2_with fail
  refine (num0_calls _ _).mono ?_
  rintro e w4 ⟨rfl, rfl⟩
  go_wp2_with fail
  refine (num0_calls _ _).mono ?_
  rintro e w5 ⟨rfl, rfl⟩
  go_wp2
  go_region
  generalize hm : X.extract 0 k ++ Y.extract k (12 + k) ++ X.extract (12 + k) 24 = m
  clear hm
  cases hg : Skiff.get (bl m) with
  | none =>
    have G1 := Lib.hid (fun w => get_no hg w)
    clear hg
    go_wp2_with fail
    refine (G1.out _).mono ?_
    rintro e w8 ⟨rfl, B8⟩
    go_wp2_with fail
    refine (num0_calls _ _).mono ?_
    rintro e w6 ⟨rfl, rfl⟩
    go_wp2
    go_ret
    exact ⟨rfl, (by repeat (first | (with_reducible exact Ext.refl _) | (with_reducible refine Ext.drewN ?_ _) | (with_reducible refine Ext.drew ?_) | (with_reducible refine Ext.alloc ?_ _) | (with_reducible refine Ext.setCell ?_ (by first | exact Nat.le_refl _ | (simp <;> omega)) _) | (with_reducible refine Ext.trans ?_ (by with_reducible assumption))))⟩
  | some q =>
    have hq := get_some hg
    have G1 := Lib.hid (fun w => get_ok hg w)
    have P1 := Lib.hid (fun w => put_ok hq.1 w)
    have he : mk (put q) = m := by rw [hq.2]; simp
    rw [he] at P1
    clear hg hq he
    go_wp2_with fail
    refine (G1.out _).mono ?_
    rintro e w8 ⟨rfl, B8⟩
    go_wp2_with fail
    refine (num0_calls _ _).mono ?_
    rintro e w7 ⟨rfl, rfl⟩
    have x_q8 : Ext (w8.alloc (.cells #[.int .i64 q.seq, .int .i64 q.slot, .int .i64 q.size, .int .i64 q.sum] 23)) (w8.alloc (.cells #[.int .i64 q.seq, .int .i64 q.slot, .int .i64 q.size, .int .i64 q.sum] 23)) := (by repeat (first | (with_reducible exact Ext.refl _) | (with_reducible refine Ext.drewN ?_ _) | (with_reducible refine Ext.drew ?_) | (with_reducible refine Ext.alloc ?_ _) | (with_reducible refine Ext.setCell ?_ (by first | exact Nat.le_refl _ | (simp <;> omega)) _) | (with_reducible refine Ext.trans ?_ (by with_reducible assumption))))
    have k0_q8 : World.cell? (w8.alloc (.cells #[.int .i64 q.seq, .int .i64 q.slot, .int .i64 q.size, .int .i64 q.sum] 23)) ⟨w8.heap.size, 0, none⟩ = some (.int .i64 q.seq) := Ext.cell x_q8 (by first | (simp; done) | (simp; omega))
    have k1_q8 : World.cell? (w8.alloc (.cells #[.int .i64 q.seq, .int .i64 q.slot, .int .i64 q.size, .int .i64 q.sum] 23)) ⟨w8.heap.size, 1, none⟩ = some (.int .i64 q.slot) := Ext.cell x_q8 (by first | (simp; done) | (simp; omega))
    have k2_q8 : World.cell? (w8.alloc (.cells #[.int .i64 q.seq, .int .i64 q.slot, .int .i64 q.size, .int .i64 q.sum] 23)) ⟨w8.heap.size, 2, none⟩ = some (.int .i64 q.size) := Ext.cell x_q8 (by first | (simp; done) | (simp; omega))
    have k3_q8 : World.cell? (w8.alloc (.cells #[.int .i64 q.seq, .int .i64 q.slot, .int .i64 q.size, .int .i64 q.sum] 23)) ⟨w8.heap.size, 3, none⟩ = some (.int .i64 q.sum) := Ext.cell x_q8 (by first | (simp; done) | (simp; omega))
    have f_q8 : ∀ i, World.frozen? (w8.alloc (.cells #[.int .i64 q.seq, .int .i64 q.slot, .int .i64 q.size, .int .i64 q.sum] 23)) ⟨w8.heap.size, i, none⟩ = false := fun i => Ext.free x_q8 (by first | (simp; done) | (simp; omega)) (by first | (simp; done) | (simp; omega))
    clear x_q8
    go_wp2_with fail
    refine (P1.out _).mono ?_
    rintro e w9 ⟨rfl, B9⟩
    go_wp2_with fail
    refine (num0_calls _ _).mono ?_
    rintro e w8 ⟨rfl, rfl⟩
    go_wp2
    go_ret
    exact ⟨rfl, (by repeat (first | (with_reducible exact Ext.refl _) | (with_reducible refine Ext.drewN ?_ _) | (with_reducible refine Ext.drew ?_) | (with_reducible refine Ext.alloc ?_ _) | (with_reducible refine Ext.setCell ?_ (by first | exact Nat.le_refl _ | (simp <;> omega)) _) | (with_reducible refine Ext.trans ?_ (by with_reducible assumption))))⟩

end Go.Proofs.Ytcpghpjcpamhcaa
