/- Laws of chapter 4. -/
import Derived.Test.YtcpghpjcpamhcaaEntA
set_option linter.unusedVariables false
set_option linter.unusedSimpArgs false
set_option maxHeartbeats 4000000
namespace Go.Proofs.Ytcpghpjcpamhcaa
open Go.RowKit Skiff

theorem putRes (r : Rec) : ∃ (X : ByteArray) (E : Int), (if recMay r = true then Value.tuple #[.string (mk (put r)), .int .i64 0] else .tuple #[.string (mk []), .int .i64 400]) = .tuple #[.string X, .int .i64 E] ∧
    ((recMay r = true ∧ X = mk (put r) ∧ E = 0) ∨ (recMay r = false ∧ X = mk [] ∧ E = 400)) := by
  cases h : recMay r
  · exact ⟨_, _, rfl, Or.inr ⟨rfl, rfl, rfl⟩⟩
  · exact ⟨_, _, rfl, Or.inl ⟨rfl, rfl, rfl⟩⟩
theorem getRes' (l : List UInt8) : ∃ (q : Rec) (G : Int), getRes l = .tuple #[(.agg #[.int .i64 q.seq, .int .i64 q.slot, .int .i64 q.size, .int .i64 q.sum]), .int .i64 G] ∧ ((Skiff.get l = some q ∧ G = 0) ∨ (Skiff.get l = none ∧ q = Rec.zero ∧ G = 400)) := by
  cases h : Skiff.get l with
  | none => exact ⟨Rec.zero, 400, getRes_none h, Or.inr ⟨rfl, rfl, rfl⟩⟩
  | some q => exact ⟨q, 0, getRes_some h, Or.inl ⟨rfl, rfl⟩⟩

theorem entries_walk (a b : Rec) (s : ByteArray) (hs : s.size ≤ 140737488351232) (w : World) :
    Calls Try.prog 3 #[(.agg #[.int .i64 a.seq, .int .i64 a.slot, .int .i64 a.size, .int .i64 a.sum]), (.agg #[.int .i64 b.seq, .int .i64 b.slot, .int .i64 b.size, .int .i64 b.sum]), .string s] w fun e w' => e = .returned (.bool true) ∧ Ext w w' := by
  obtain ⟨X, E, hX, cX⟩ := putRes a
  obtain ⟨Z, J, hZ, cZ⟩ := putRes b
  obtain ⟨q, G, hG, -⟩ := getRes' (bl s)
  have P1 := Lib.hid (put_calls a)
  have P2 := Lib.hid (rput_calls a)
  have P3 := Lib.hid (put_calls b)
  have P4 := Lib.hid (get_calls s)
  have P5 := Lib.hid (rget_calls s)
  rw [hX] at P1 P2
  rw [hZ] at P3
  rw [hG] at P4 P5
  unfold recV at P1 P2 P3
  clear hX hZ hG
  rcases cX with ⟨ha, rfl, rfl⟩ | ⟨ha, rfl, rfl⟩
  · rcases cZ with ⟨hb, rfl, rfl⟩ | ⟨hb, rfl, rfl⟩
    · by_cases hab : a = b
      · subst hab
        go_enter Try.func3, Try.ntmps3
        go_wp2_with fail
        refine (P1.out _).mono ?_
        rintro e w1 ⟨rfl, B1⟩
        have x_a1 : Ext ((w.alloc (.cells #[.int .i64 a.seq, .int .i64 a.slot, .int .i64 a.size, .int .i64 a.sum] 23)).alloc (.cells #[.int .i64 a.seq, .int .i64 a.slot, .int .i64 a.size, .int .i64 a.sum] 23)) (w1) := (by repeat (first | (with_reducible exact Ext.refl _) | (with_reducible refine Ext.drewN ?_ _) | (with_reducible refine Ext.drew ?_) | (with_reducible refine Ext.alloc ?_ _) | (with_reducible refine Ext.setCell ?_ (by first | exact Nat.le_refl _ | (simp <;> omega)) _) | (with_reducible refine Ext.trans ?_ (by with_reducible assumption))))
        have k0_a1 : World.cell? (w1) ⟨w.heap.size, 0, none⟩ = some (.int .i64 a.seq) := Ext.cell x_a1 (by first | (simp; done) | (simp; omega))
        have k1_a1 : World.cell? (w1) ⟨w.heap.size, 1, none⟩ = some (.int .i64 a.slot) := Ext.cell x_a1 (by first | (simp; done) | (simp; omega))
        have k2_a1 : World.cell? (w1) ⟨w.heap.size, 2, none⟩ = some (.int .i64 a.size) := Ext.cell x_a1 (by first | (simp; done) | (simp; omega))
        have k3_a1 : World.cell? (w1) ⟨w.heap.size, 3, none⟩ = some (.int .i64 a.sum) := Ext.cell x_a1 (by first | (simp; done) | (simp; omega))
        have f_a1 : ∀ i, World.frozen? (w1) ⟨w.heap.size, i, none⟩ = false := fun i => Ext.free x_a1 (by first | (simp; done) | (simp; omega)) (by first | (simp; done) | (simp; omega))
        clear x_a1
        go_wp2_with fail
        refine (P2.out _).mono ?_
        rintro e w2 ⟨rfl, B2⟩
        go_wp2_with fail
        refine (P4.out _).mono ?_
        rintro e w3 ⟨rfl, B3⟩
        go_wp2_with fail
        refine (P5.out _).mono ?_
        rintro e w4 ⟨rfl, B4⟩
        have x_b4 : Ext ((w.alloc (.cells #[.int .i64 a.seq, .int .i64 a.slot, .int .i64 a.size, .int .i64 a.sum] 23)).alloc (.cells #[.int .i64 a.seq, .int .i64 a.slot, .int .i64 a.size, .int .i64 a.sum] 23)) (w4.alloc (.cells #[.int .i64 q.seq, .int .i64 q.slot, .int .i64 q.size, .int .i64 q.sum] 23)) := (by repeat (first | (with_reducible exact Ext.refl _) | (with_reducible refine Ext.drewN ?_ _) | (with_reducible refine Ext.drew ?_) | (with_reducible refine Ext.alloc ?_ _) | (with_reducible refine Ext.setCell ?_ (by first | exact Nat.le_refl _ | (simp <;> omega)) _) | (with_reducible refine Ext.trans ?_ (by with_reducible assumption))))
        have k0_b4 : World.cell? (w4.alloc (.cells #[.int .i64 q.seq, .int .i64 q.slot, .int .i64 q.size, .int .i64 q.sum] 23)) ⟨w.heap.size + 1, 0, none⟩ = some (.int .i64 a.seq) := Ext.cell x_b4 (by first | (simp; done) | (simp; omega))
        have k1_b4 : World.cell? (w4.alloc (.cells #[.int .i64 q.seq, .int .i64 q.slot, .int .i64 q.size, .int .i64 q.sum] 23)) ⟨w.heap.size + 1, 1, none⟩ = some (.int .i64 a.slot) := Ext.cell x_b4 (by first | (simp; done) | (simp; omega))
        have k2_b4 : World.cell? (w4.alloc (.cells #[.int .i64 q.seq, .int .i64 q.slot, .int .i64 q.size, .int .i64 q.sum] 23)) ⟨w.heap.size + 1, 2, none⟩ = some (.int .i64 a.size) := Ext.cell x_b4 (by first | (simp; done) | (simp; omega))
        have k3_b4 : World.cell? (w4.alloc (.cells #[.int .i64 q.seq, .int .i64 q.slot, .int .i64 q.size, .int .i64 q.sum] 23)) ⟨w.heap.size + 1, 3, none⟩ = some (.int .i64 a.sum) := Ext.cell x_b4 (by first | (simp; done) | (simp; omega))
        have f_b4 : ∀ i, World.frozen? (w4.alloc (.cells #[.int .i64 q.seq, .int .i64 q.slot, .int .i64 q.size, .int .i64 q.sum] 23)) ⟨w.heap.size + 1, i, none⟩ = false := fun i => Ext.free x_b4 (by first | (simp; done) | (simp; omega)) (by first | (simp; done) | (simp; omega))
        clear x_b4
        go_wp2_with fail
        refine (P3.out _).mono ?_
        rintro e w5 ⟨rfl, B5⟩
        have x_c5 : Ext (w3.alloc (.cells #[.int .i64 q.seq, .int .i64 q.slot, .int .i64 q.size, .int .i64 q.sum] 23)) (w5) := (by repeat (first | (with_reducible exact Ext.refl _) | (with_reducible refine Ext.drewN ?_ _) | (with_reducible refine Ext.drew ?_) | (with_reducible refine Ext.alloc ?_ _) | (with_reducible refine Ext.setCell ?_ (by first | exact Nat.le_refl _ | (simp <;> omega)) _) | (with_reducible refine Ext.trans ?_ (by with_reducible assumption))))
        have k0_c5 : World.cell? (w5) ⟨w3.heap.size, 0, none⟩ = some (.int .i64 q.seq) := Ext.cell x_c5 (by first | (simp; done) | (simp; omega))
        have k1_c5 : World.cell? (w5) ⟨w3.heap.size, 1, none⟩ = some (.int .i64 q.slot) := Ext.cell x_c5 (by first | (simp; done) | (simp; omega))
        have k2_c5 : World.cell? (w5) ⟨w3.heap.size, 2, none⟩ = some (.int .i64 q.size) := Ext.cell x_c5 (by first | (simp; done) | (simp; omega))
        have k3_c5 : World.cell? (w5) ⟨w3.heap.size, 3, none⟩ = some (.int .i64 q.sum) := Ext.cell x_c5 (by first | (simp; done) | (simp; omega))
        have f_c5 : ∀ i, World.frozen? (w5) ⟨w3.heap.size, i, none⟩ = false := fun i => Ext.free x_c5 (by first | (simp; done) | (simp; omega)) (by first | (simp; done) | (simp; omega))
        clear x_c5
        have x_d5 : Ext (w4.alloc (.cells #[.int .i64 q.seq, .int .i64 q.slot, .int .i64 q.size, .int .i64 q.sum] 23)) (w5) := (by repeat (first | (with_reducible exact Ext.refl _) | (with_reducible refine Ext.drewN ?_ _) | (with_reducible refine Ext.drew ?_) | (with_reducible refine Ext.alloc ?_ _) | (with_reducible refine Ext.setCell ?_ (by first | exact Nat.le_refl _ | (simp <;> omega)) _) | (with_reducible refine Ext.trans ?_ (by with_reducible assumption))))
        have k0_d5 : World.cell? (w5) ⟨w4.heap.size, 0, none⟩ = some (.int .i64 q.seq) := Ext.cell x_d5 (by first | (simp; done) | (simp; omega))
        have k1_d5 : World.cell? (w5) ⟨w4.heap.size, 1, none⟩ = some (.int .i64 q.slot) := Ext.cell x_d5 (by first | (simp; done) | (simp; omega))
        have k2_d5 : World.cell? (w5) ⟨w4.heap.size, 2, none⟩ = some (.int .i64 q.size) := Ext.cell x_d5 (by first | (simp; done) | (simp; omega))
        have k3_d5 : World.cell? (w5) ⟨w4.heap.size, 3, none⟩ = some (.int .i64 q.sum) := Ext.cell x_d5 (by first | (simp; done) | (simp; omega))
        have f_d5 : ∀ i, World.frozen? (w5) ⟨w4.heap.size, i, none⟩ = false := fun i => Ext.free x_d5 (by first | (simp; done) | (simp; omega)) (by first | (simp; done) | (simp; omega))
        clear x_d5
        have x_a5 : Ext ((w.alloc (.cells #[.int .i64 a.seq, .int .i64 a.slot, .int .i64 a.size, .int .i64 a.sum] 23)).alloc (.cells #[.int .i64 a.seq, .int .i64 a.slot, .int .i64 a.size, .int .i64 a.sum] 23)) (w5) := (by repeat (first | (with_reducible exact Ext.refl _) | (with_reducible refine Ext.drewN ?_ _) | (with_reducible refine Ext.drew ?_) | (with_reducible refine Ext.alloc ?_ _) | (with_reducible refine Ext.setCell ?_ (by first | exact Nat.le_refl _ | (simp <;> omega)) _) | (with_reducible refine Ext.trans ?_ (by with_reducible assumption))))
        have k0_a5 : World.cell? (w5) ⟨w.heap.size, 0, none⟩ = some (.int .i64 a.seq) := Ext.cell x_a5 (by first | (simp; done) | (simp; omega))
        have k1_a5 : World.cell? (w5) ⟨w.heap.size, 1, none⟩ = some (.int .i64 a.slot) := Ext.cell x_a5 (by first | (simp; done) | (simp; omega))
        have k2_a5 : World.cell? (w5) ⟨w.heap.size, 2, none⟩ = some (.int .i64 a.size) := Ext.cell x_a5 (by first | (simp; done) | (simp; omega))
        have k3_a5 : World.cell? (w5) ⟨w.heap.size, 3, none⟩ = some (.int .i64 a.sum) := Ext.cell x_a5 (by first | (simp; done) | (simp; omega))
        have f_a5 : ∀ i, World.frozen? (w5) ⟨w.heap.size, i, none⟩ = false := fun i => Ext.free x_a5 (by first | (simp; done) | (simp; omega)) (by first | (simp; done) | (simp; omega))
        clear x_a5
        have x_b5 : Ext ((w.alloc (.cells #[.int .i64 a.seq, .int .i64 a.slot, .int .i64 a.size, .int .i64 a.sum] 23)).alloc (.cells #[.int .i64 a.seq, .int .i64 a.slot, .int .i64 a.size, .int .i64 a.sum] 23)) (w5) := (by repeat (first | (with_reducible exact Ext.refl _) | (with_reducible refine Ext.drewN ?_ _) | (with_reducible refine Ext.drew ?_) | (with_reducible refine Ext.alloc ?_ _) | (with_reducible refine Ext.setCell ?_ (by first | exact Nat.le_refl _ | (simp <;> omega)) _) | (with_reducible refine Ext.trans ?_ (by with_reducible assumption))))
        have k0_b5 : World.cell? (w5) ⟨w.heap.size + 1, 0, none⟩ = some (.int .i64 a.seq) := Ext.cell x_b5 (by first | (simp; done) | (simp; omega))
        have k1_b5 : World.cell? (w5) ⟨w.heap.size + 1, 1, none⟩ = some (.int .i64 a.slot) := Ext.cell x_b5 (by first | (simp; done) | (simp; omega))
        have k2_b5 : World.cell? (w5) ⟨w.heap.size + 1, 2, none⟩ = some (.int .i64 a.size) := Ext.cell x_b5 (by first | (simp; done) | (simp; omega))
        have k3_b5 : World.cell? (w5) ⟨w.heap.size + 1, 3, none⟩ = some (.int .i64 a.sum) := Ext.cell x_b5 (by first | (simp; done) | (simp; omega))
        have f_b5 : ∀ i, World.frozen? (w5) ⟨w.heap.size + 1, i, none⟩ = false := fun i => Ext.free x_b5 (by first | (simp; done) | (simp; omega)) (by first | (simp; done) | (simp; omega))
        clear x_b5
        go_wp2_with fail
        refine (num0_calls _ _).mono ?_
        rintro e w1 ⟨rfl, rfl⟩
        go_wp2_with fail
        refine (num0_calls _ _).mono ?_
        rintro e w2 ⟨rfl, rfl⟩
        go_wp2_with fail
        refine (num0_calls _ _).mono ?_
        rintro e w3 ⟨rfl, rfl⟩
        go_wp2_with fail
        refine (num0_calls _ _).mono ?_
        rintro e w4 ⟨rfl, rfl⟩
        go_wp2_with fail
        refine (awake4_calls _).mono ?_
        rintro e w6 ⟨rfl, B6⟩
        go_wp2
        go_ret
        exact ⟨rfl, (by repeat (first | (with_reducible exact Ext.refl _) | (with_reducible refine Ext.drewN ?_ _) | (with_reducible refine Ext.drew ?_) | (with_reducible refine Ext.alloc ?_ _) | (with_reducible refine Ext.setCell ?_ (by first | exact Nat.le_refl _ | (simp <;> omega)) _) | (with_reducible refine Ext.trans ?_ (by with_reducible assumption))))⟩
      · have hz : ((mk (put a)).toList == (mk (put b)).toList) = false := by
          rw [beq_bl, bl_mk, bl_mk]
          exact decide_eq_false fun h => hab (put_inj ha hb h)
        have HZ := Lib.hid hab
        clear hab ha hb
        go_enter Try.func3, Try.ntmps3
        go_wp2_with fail
        refine (P1.out _).mono ?_
        rintro e w1 ⟨rfl, B1⟩
        have x_a1 : Ext ((w.alloc (.cells #[.int .i64 a.seq, .int .i64 a.slot, .int .i64 a.size, .int .i64 a.sum] 23)).alloc (.cells #[.int .i64 b.seq, .int .i64 b.slot, .int .i64 b.size, .int .i64 b.sum] 23)) (w1) := (by repeat (first | (with_reducible exact Ext.refl _) | (with_reducible refine Ext.drewN ?_ _) | (with_reducible refine Ext.drew ?_) | (with_reducible refine Ext.alloc ?_ _) | (with_reducible refine Ext.setCell ?_ (by first | exact Nat.le_refl _ | (simp <;> omega)) _) | (with_reducible refine Ext.trans ?_ (by with_reducible assumption))))
        have k0_a1 : World.cell? (w1) ⟨w.heap.size, 0, none⟩ = some (.int .i64 a.seq) := Ext.cell x_a1 (by first | (simp; done) | (simp; omega))
        have k1_a1 : World.cell? (w1) ⟨w.heap.size, 1, none⟩ = some (.int .i64 a.slot) := Ext.cell x_a1 (by first | (simp; done) | (simp; omega))
        have k2_a1 : World.cell? (w1) ⟨w.heap.size, 2, none⟩ = some (.int .i64 a.size) := Ext.cell x_a1 (by first | (simp; done) | (simp; omega))
        have k3_a1 : World.cell? (w1) ⟨w.heap.size, 3, none⟩ = some (.int .i64 a.sum) := Ext.cell x_a1 (by first | (simp; done) | (simp; omega))
        have f_a1 : ∀ i, World.frozen? (w1) ⟨w.heap.size, i, none⟩ = false := fun i => Ext.free x_a1 (by first | (simp; done) | (simp; omega)) (by first | (simp; done) | (simp; omega))
        clear x_a1
        go_wp2_with fail
        refine (P2.out _).mono ?_
        rintro e w2 ⟨rfl, B2⟩
        go_wp2_with fail
        refine (P4.out _).mono ?_
        rintro e w3 ⟨rfl, B3⟩
        go_wp2_with fail
        refine (P5.out _).mono ?_
        rintro e w4 ⟨rfl, B4⟩
        have x_b4 : Ext ((w.alloc (.cells #[.int .i64 a.seq, .int .i64 a.slot, .int .i64 a.size, .int .i64 a.sum] 23)).alloc (.cells #[.int .i64 b.seq, .int .i64 b.slot, .int .i64 b.size, .int .i64 b.sum] 23)) (w4.alloc (.cells #[.int .i64 q.seq, .int .i64 q.slot, .int .i64 q.size, .int .i64 q.sum] 23)) := (by repeat (first | (with_reducible exact Ext.refl _) | (with_reducible refine Ext.drewN ?_ _) | (with_reducible refine Ext.drew ?_) | (with_reducible refine Ext.alloc ?_ _) | (with_reducible refine Ext.setCell ?_ (by first | exact Nat.le_refl _ | (simp <;> omega)) _) | (with_reducible refine Ext.trans ?_ (by with_reducible assumption))))
        have k0_b4 : World.cell? (w4.alloc (.cells #[.int .i64 q.seq, .int .i64 q.slot, .int .i64 q.size, .int .i64 q.sum] 23)) ⟨w.heap.size + 1, 0, none⟩ = some (.int .i64 b.seq) := Ext.cell x_b4 (by first | (simp; done) | (simp; omega))
        have k1_b4 : World.cell? (w4.alloc (.cells #[.int .i64 q.seq, .int .i64 q.slot, .int .i64 q.size, .int .i64 q.sum] 23)) ⟨w.heap.size + 1, 1, none⟩ = some (.int .i64 b.slot) := Ext.cell x_b4 (by first | (simp; done) | (simp; omega))
        have k2_b4 : World.cell? (w4.alloc (.cells #[.int .i64 q.seq, .int .i64 q.slot, .int .i64 q.size, .int .i64 q.sum] 23)) ⟨w.heap.size + 1, 2, none⟩ = some (.int .i64 b.size) := Ext.cell x_b4 (by first | (simp; done) | (simp; omega))
        have k3_b4 : World.cell? (w4.alloc (.cells #[.int .i64 q.seq, .int .i64 q.slot, .int .i64 q.size, .int .i64 q.sum] 23)) ⟨w.heap.size + 1, 3, none⟩ = some (.int .i64 b.sum) := Ext.cell x_b4 (by first | (simp; done) | (simp; omega))
        have f_b4 : ∀ i, World.frozen? (w4.alloc (.cells #[.int .i64 q.seq, .int .i64 q.slot, .int .i64 q.size, .int .i64 q.sum] 23)) ⟨w.heap.size + 1, i, none⟩ = false := fun i => Ext.free x_b4 (by first | (simp; done) | (simp; omega)) (by first | (simp; done) | (simp; omega))
        clear x_b4
        go_wp2_with fail
        refine (P3.out _).mono ?_
        rintro e w5 ⟨rfl, B5⟩
        have x_c5 : Ext (w3.alloc (.cells #[.int .i64 q.seq, .int .i64 q.slot, .int .i64 q.size, .int .i64 q.sum] 23)) (w5) := (by repeat (first | (with_reducible exact Ext.refl _) | (with_reducible refine Ext.drewN ?_ _) | (with_reducible refine Ext.drew ?_) | (with_reducible refine Ext.alloc ?_ _) | (with_reducible refine Ext.setCell ?_ (by first | exact Nat.le_refl _ | (simp <;> omega)) _) | (with_reducible refine Ext.trans ?_ (by with_reducible assumption))))
        have k0_c5 : World.cell? (w5) ⟨w3.heap.size, 0, none⟩ = some (.int .i64 q.seq) := Ext.cell x_c5 (by first | (simp; done) | (simp; omega))
        have k1_c5 : World.cell? (w5) ⟨w3.heap.size, 1, none⟩ = some (.int .i64 q.slot) := Ext.cell x_c5 (by first | (simp; done) | (simp; omega))
        have k2_c5 : World.cell? (w5) ⟨w3.heap.size, 2, none⟩ = some (.int .i64 q.size) := Ext.cell x_c5 (by first | (simp; done) | (simp; omega))
        have k3_c5 : World.cell? (w5) ⟨w3.heap.size, 3, none⟩ = some (.int .i64 q.sum) := Ext.cell x_c5 (by first | (simp; done) | (simp; omega))
        have f_c5 : ∀ i, World.frozen? (w5) ⟨w3.heap.size, i, none⟩ = false := fun i => Ext.free x_c5 (by first | (simp; done) | (simp; omega)) (by first | (simp; done) | (simp; omega))
        clear x_c5
        have x_d5 : Ext (w4.alloc (.cells #[.int .i64 q.seq, .int .i64 q.slot, .int .i64 q.size, .int .i64 q.sum] 23)) (w5) := (by repeat (first | (with_reducible exact Ext.refl _) | (with_reducible refine Ext.drewN ?_ _) | (with_reducible refine Ext.drew ?_) | (with_reducible refine Ext.alloc ?_ _) | (with_reducible refine Ext.setCell ?_ (by first | exact Nat.le_refl _ | (simp <;> omega)) _) | (with_reducible refine Ext.trans ?_ (by with_reducible assumption))))
        have k0_d5 : World.cell? (w5) ⟨w4.heap.size, 0, none⟩ = some (.int .i64 q.seq) := Ext.cell x_d5 (by first | (simp; done) | (simp; omega))
        have k1_d5 : World.cell? (w5) ⟨w4.heap.size, 1, none⟩ = some (.int .i64 q.slot) := Ext.cell x_d5 (by first | (simp; done) | (simp; omega))
        have k2_d5 : World.cell? (w5) ⟨w4.heap.size, 2, none⟩ = some (.int .i64 q.size) := Ext.cell x_d5 (by first | (simp; done) | (simp; omega))
        have k3_d5 : World.cell? (w5) ⟨w4.heap.size, 3, none⟩ = some (.int .i64 q.sum) := Ext.cell x_d5 (by first | (simp; done) | (simp; omega))
        have f_d5 : ∀ i, World.frozen? (w5) ⟨w4.heap.size, i, none⟩ = false := fun i => Ext.free x_d5 (by first | (simp; done) | (simp; omega)) (by first | (simp; done) | (simp; omega))
        clear x_d5
        have x_a5 : Ext ((w.alloc (.cells #[.int .i64 a.seq, .int .i64 a.slot, .int .i64 a.size, .int .i64 a.sum] 23)).alloc (.cells #[.int .i64 b.seq, .int .i64 b.slot, .int .i64 b.size, .int .i64 b.sum] 23)) (w5) := (by repeat (first | (with_reducible exact Ext.refl _) | (with_reducible refine Ext.drewN ?_ _) | (with_reducible refine Ext.drew ?_) | (with_reducible refine Ext.alloc ?_ _) | (with_reducible refine Ext.setCell ?_ (by first | exact Nat.le_refl _ | (simp <;> omega)) _) | (with_reducible refine Ext.trans ?_ (by with_reducible assumption))))
        have k0_a5 : World.cell? (w5) ⟨w.heap.size, 0, none⟩ = some (.int .i64 a.seq) := Ext.cell x_a5 (by first | (simp; done) | (simp; omega))
        have k1_a5 : World.cell? (w5) ⟨w.heap.size, 1, none⟩ = some (.int .i64 a.slot) := Ext.cell x_a5 (by first | (simp; done) | (simp; omega))
        have k2_a5 : World.cell? (w5) ⟨w.heap.size, 2, none⟩ = some (.int .i64 a.size) := Ext.cell x_a5 (by first | (simp; done) | (simp; omega))
        have k3_a5 : World.cell? (w5) ⟨w.heap.size, 3, none⟩ = some (.int .i64 a.sum) := Ext.cell x_a5 (by first | (simp; done) | (simp; omega))
        have f_a5 : ∀ i, World.frozen? (w5) ⟨w.heap.size, i, none⟩ = false := fun i => Ext.free x_a5 (by first | (simp; done) | (simp; omega)) (by first | (simp; done) | (simp; omega))
        clear x_a5
        have x_b5 : Ext ((w.alloc (.cells #[.int .i64 a.seq, .int .i64 a.slot, .int .i64 a.size, .int .i64 a.sum] 23)).alloc (.cells #[.int .i64 b.seq, .int .i64 b.slot, .int .i64 b.size, .int .i64 b.sum] 23)) (w5) := (by repeat (first | (with_reducible exact Ext.refl _) | (with_reducible refine Ext.drewN ?_ _) | (with_reducible refine Ext.drew ?_) | (with_reducible refine Ext.alloc ?_ _) | (with_reducible refine Ext.setCell ?_ (by first | exact Nat.le_refl _ | (simp <;> omega)) _) | (with_reducible refine Ext.trans ?_ (by with_reducible assumption))))
        have k0_b5 : World.cell? (w5) ⟨w.heap.size + 1, 0, none⟩ = some (.int .i64 b.seq) := Ext.cell x_b5 (by first | (simp; done) | (simp; omega))
        have k1_b5 : World.cell? (w5) ⟨w.heap.size + 1, 1, none⟩ = some (.int .i64 b.slot) := Ext.cell x_b5 (by first | (simp; done) | (simp; omega))
        have k2_b5 : World.cell? (w5) ⟨w.heap.size + 1, 2, none⟩ = some (.int .i64 b.size) := Ext.cell x_b5 (by first | (simp; done) | (simp; omega))
        have k3_b5 : World.cell? (w5) ⟨w.heap.size + 1, 3, none⟩ = some (.int .i64 b.sum) := Ext.cell x_b5 (by first | (simp; done) | (simp; omega))
        have f_b5 : ∀ i, World.frozen? (w5) ⟨w.heap.size + 1, i, none⟩ = false := fun i => Ext.free x_b5 (by first | (simp; done) | (simp; omega)) (by first | (simp; done) | (simp; omega))
        clear x_b5
        go_wp2_with fail
        refine (num0_calls _ _).mono ?_
        rintro e w5 ⟨rfl, rfl⟩
        go_wp2_with fail
        refine (num0_calls _ _).mono ?_
        rintro e w6 ⟨rfl, rfl⟩
        go_wp2_with fail
        refine (num0_calls _ _).mono ?_
        rintro e w7 ⟨rfl, rfl⟩
        go_wp2_with fail
        refine (num0_calls _ _).mono ?_
        rintro e w8 ⟨rfl, rfl⟩
        go_wp2_with fail
        all_goals first
          | (refine (awake4_calls _).mono ?_; rintro e w6 ⟨rfl, B6⟩; go_wp2; go_ret; exact ⟨rfl, (by repeat (first | (with_reducible exact Ext.refl _) | (with_reducible refine Ext.drewN ?_ _) | (with_reducible refine Ext.drew ?_) | (with_reducible refine Ext.alloc ?_ _) | (with_reducible refine Ext.setCell ?_ (by first | exact Nat.le_refl _ | (simp <;> omega)) _) | (with_reducible refine Ext.trans ?_ (by with_reducible assumption))))⟩)
          | (exfalso; refine HZ.out ?_; obtain ⟨a0, a1, a2, a3⟩ := a; obtain ⟨b0, b1, b2, b3⟩ := b; simp_all)
    · clear ha hb
      go_enter Try.func3, Try.ntmps3
      go_wp2_with fail
      refine (P1.out _).mono ?_
      rintro e w1 ⟨rfl, B1⟩
      have x_a1 : Ext ((w.alloc (.cells #[.int .i64 a.seq, .int .i64 a.slot, .int .i64 a.size, .int .i64 a.sum] 23)).alloc (.cells #[.int .i64 b.seq, .int .i64 b.slot, .int .i64 b.size, .int .i64 b.sum] 23)) (w1) := (by repeat (first | (with_reducible exact Ext.refl _) | (with_reducible refine Ext.drewN ?_ _) | (with_reducible refine Ext.drew ?_) | (with_reducible refine Ext.alloc ?_ _) | (with_reducible refine Ext.setCell ?_ (by first | exact Nat.le_refl _ | (simp <;> omega)) _) | (with_reducible refine Ext.trans ?_ (by with_reducible assumption))))
      have k0_a1 : World.cell? (w1) ⟨w.heap.size, 0, none⟩ = some (.int .i64 a.seq) := Ext.cell x_a1 (by first | (simp; done) | (simp; omega))
      have k1_a1 : World.cell? (w1) ⟨w.heap.size, 1, none⟩ = some (.int .i64 a.slot) := Ext.cell x_a1 (by first | (simp; done) | (simp; omega))
      have k2_a1 : World.cell? (w1) ⟨w.heap.size, 2, none⟩ = some (.int .i64 a.size) := Ext.cell x_a1 (by first | (simp; done) | (simp; omega))
      have k3_a1 : World.cell? (w1) ⟨w.heap.size, 3, none⟩ = some (.int .i64 a.sum) := Ext.cell x_a1 (by first | (simp; done) | (simp; omega))
      have f_a1 : ∀ i, World.frozen? (w1) ⟨w.heap.size, i, none⟩ = false := fun i => Ext.free x_a1 (by first | (simp; done) | (simp; omega)) (by first | (simp; done) | (simp; omega))
      clear x_a1
      go_wp2_with fail
      refine (P2.out _).mono ?_
      rintro e w2 ⟨rfl, B2⟩
      go_wp2_with fail
      refine (P4.out _).mono ?_
      rintro e w3 ⟨rfl, B3⟩
      go_wp2_with fail
      refine (P5.out _).mono ?_
      rintro e w4 ⟨rfl, B4⟩
      have x_b4 : Ext ((w.alloc (.cells #[.int .i64 a.seq, .int .i64 a.slot, .int .i64 a.size, .int .i64 a.sum] 23)).alloc (.cells #[.int .i64 b.seq, .int .i64 b.slot, .int .i64 b.size, .int .i64 b.sum] 23)) (w4.alloc (.cells #[.int .i64 q.seq, .int .i64 q.slot, .int .i64 q.size, .int .i64 q.sum] 23)) := (by repeat (first | (with_reducible exact Ext.refl _) | (with_reducible refine Ext.drewN ?_ _) | (with_reducible refine Ext.drew ?_) | (with_reducible refine Ext.alloc ?_ _) | (with_reducible refine Ext.setCell ?_ (by first | exact Nat.le_refl _ | (simp <;> omega)) _) | (with_reducible refine Ext.trans ?_ (by with_reducible assumption))))
      have k0_b4 : World.cell? (w4.alloc (.cells #[.int .i64 q.seq, .int .i64 q.slot, .int .i64 q.size, .int .i64 q.sum] 23)) ⟨w.heap.size + 1, 0, none⟩ = some (.int .i64 b.seq) := Ext.cell x_b4 (by first | (simp; done) | (simp; omega))
      have k1_b4 : World.cell? (w4.alloc (.cells #[.int .i64 q.seq, .int .i64 q.slot, .int .i64 q.size, .int .i64 q.sum] 23)) ⟨w.heap.size + 1, 1, none⟩ = some (.int .i64 b.slot) := Ext.cell x_b4 (by first | (simp; done) | (simp; omega))
      have k2_b4 : World.cell? (w4.alloc (.cells #[.int .i64 q.seq, .int .i64 q.slot, .int .i64 q.size, .int .i64 q.sum] 23)) ⟨w.heap.size + 1, 2, none⟩ = some (.int .i64 b.size) := Ext.cell x_b4 (by first | (simp; done) | (simp; omega))
      have k3_b4 : World.cell? (w4.alloc (.cells #[.int .i64 q.seq, .int .i64 q.slot, .int .i64 q.size, .int .i64 q.sum] 23)) ⟨w.heap.size + 1, 3, none⟩ = some (.int .i64 b.sum) := Ext.cell x_b4 (by first | (simp; done) | (simp; omega))
      have f_b4 : ∀ i, World.frozen? (w4.alloc (.cells #[.int .i64 q.seq, .int .i64 q.slot, .int .i64 q.size, .int .i64 q.sum] 23)) ⟨w.heap.size + 1, i, none⟩ = false := fun i => Ext.free x_b4 (by first | (simp; done) | (simp; omega)) (by first | (simp; done) | (simp; omega))
      clear x_b4
      go_wp2_with fail
      refine (P3.out _).mono ?_
      rintro e w5 ⟨rfl, B5⟩
      have x_c5 : Ext (w3.alloc (.cells #[.int .i64 q.seq, .int .i64 q.slot, .int .i64 q.size, .int .i64 q.sum] 23)) (w5) := (by repeat (first | (with_reducible exact Ext.refl _) | (with_reducible refine Ext.drewN ?_ _) | (with_reducible refine Ext.drew ?_) | (with_reducible refine Ext.alloc ?_ _) | (with_reducible refine Ext.setCell ?_ (by first | exact Nat.le_refl _ | (simp <;> omega)) _) | (with_reducible refine Ext.trans ?_ (by with_reducible assumption))))
      have k0_c5 : World.cell? (w5) ⟨w3.heap.size, 0, none⟩ = some (.int .i64 q.seq) := Ext.cell x_c5 (by first | (simp; done) | (simp; omega))
      have k1_c5 : World.cell? (w5) ⟨w3.heap.size, 1, none⟩ = some (.int .i64 q.slot) := Ext.cell x_c5 (by first | (simp; done) | (simp; omega))
      have k2_c5 : World.cell? (w5) ⟨w3.heap.size, 2, none⟩ = some (.int .i64 q.size) := Ext.cell x_c5 (by first | (simp; done) | (simp; omega))
      have k3_c5 : World.cell? (w5) ⟨w3.heap.size, 3, none⟩ = some (.int .i64 q.sum) := Ext.cell x_c5 (by first | (simp; done) | (simp; omega))
      have f_c5 : ∀ i, World.frozen? (w5) ⟨w3.heap.size, i, none⟩ = false := fun i => Ext.free x_c5 (by first | (simp; done) | (simp; omega)) (by first | (simp; done) | (simp; omega))
      clear x_c5
      have x_d5 : Ext (w4.alloc (.cells #[.int .i64 q.seq, .int .i64 q.slot, .int .i64 q.size, .int .i64 q.sum] 23)) (w5) := (by repeat (first | (with_reducible exact Ext.refl _) | (with_reducible refine Ext.drewN ?_ _) | (with_reducible refine Ext.drew ?_) | (with_reducible refine Ext.alloc ?_ _) | (with_reducible refine Ext.setCell ?_ (by first | exact Nat.le_refl _ | (simp <;> omega)) _) | (with_reducible refine Ext.trans ?_ (by with_reducible assumption))))
      have k0_d5 : World.cell? (w5) ⟨w4.heap.size, 0, none⟩ = some (.int .i64 q.seq) := Ext.cell x_d5 (by first | (simp; done) | (simp; omega))
      have k1_d5 : World.cell? (w5) ⟨w4.heap.size, 1, none⟩ = some (.int .i64 q.slot) := Ext.cell x_d5 (by first | (simp; done) | (simp; omega))
      have k2_d5 : World.cell? (w5) ⟨w4.heap.size, 2, none⟩ = some (.int .i64 q.size) := Ext.cell x_d5 (by first | (simp; done) | (simp; omega))
      have k3_d5 : World.cell? (w5) ⟨w4.heap.size, 3, none⟩ = some (.int .i64 q.sum) := Ext.cell x_d5 (by first | (simp; done) | (simp; omega))
      have f_d5 : ∀ i, World.frozen? (w5) ⟨w4.heap.size, i, none⟩ = false := fun i => Ext.free x_d5 (by first | (simp; done) | (simp; omega)) (by first | (simp; done) | (simp; omega))
      clear x_d5
      have x_a5 : Ext ((w.alloc (.cells #[.int .i64 a.seq, .int .i64 a.slot, .int .i64 a.size, .int .i64 a.sum] 23)).alloc (.cells #[.int .i64 b.seq, .int .i64 b.slot, .int .i64 b.size, .int .i64 b.sum] 23)) (w5) := (by repeat (first | (with_reducible exact Ext.refl _) | (with_reducible refine Ext.drewN ?_ _) | (with_reducible refine Ext.drew ?_) | (with_reducible refine Ext.alloc ?_ _) | (with_reducible refine Ext.setCell ?_ (by first | exact Nat.le_refl _ | (simp <;> omega)) _) | (with_reducible refine Ext.trans ?_ (by with_reducible assumption))))
      have k0_a5 : World.cell? (w5) ⟨w.heap.size, 0, none⟩ = some (.int .i64 a.seq) := Ext.cell x_a5 (by first | (simp; done) | (simp; omega))
      have k1_a5 : World.cell? (w5) ⟨w.heap.size, 1, none⟩ = some (.int .i64 a.slot) := Ext.cell x_a5 (by first | (simp; done) | (simp; omega))
      have k2_a5 : World.cell? (w5) ⟨w.heap.size, 2, none⟩ = some (.int .i64 a.size) := Ext.cell x_a5 (by first | (simp; done) | (simp; omega))
      have k3_a5 : World.cell? (w5) ⟨w.heap.size, 3, none⟩ = some (.int .i64 a.sum) := Ext.cell x_a5 (by first | (simp; done) | (simp; omega))
      have f_a5 : ∀ i, World.frozen? (w5) ⟨w.heap.size, i, none⟩ = false := fun i => Ext.free x_a5 (by first | (simp; done) | (simp; omega)) (by first | (simp; done) | (simp; omega))
      clear x_a5
      have x_b5 : Ext ((w.alloc (.cells #[.int .i64 a.seq, .int .i64 a.slot, .int .i64 a.size, .int .i64 a.sum] 23)).alloc (.cells #[.int .i64 b.seq, .int .i64 b.slot, .int .i64 b.size, .int .i64 b.sum] 23)) (w5) := (by repeat (first | (with_reducible exact Ext.refl _) | (with_reducible refine Ext.drewN ?_ _) | (with_reducible refine Ext.drew ?_) | (with_reducible refine Ext.alloc ?_ _) | (with_reducible refine Ext.setCell ?_ (by first | exact Nat.le_refl _ | (simp <;> omega)) _) | (with_reducible refine Ext.trans ?_ (by with_reducible assumption))))
      have k0_b5 : World.cell? (w5) ⟨w.heap.size + 1, 0, none⟩ = some (.int .i64 b.seq) := Ext.cell x_b5 (by first | (simp; done) | (simp; omega))
      have k1_b5 : World.cell? (w5) ⟨w.heap.size + 1, 1, none⟩ = some (.int .i64 b.slot) := Ext.cell x_b5 (by first | (simp; done) | (simp; omega))
      have k2_b5 : World.cell? (w5) ⟨w.heap.size + 1, 2, none⟩ = some (.int .i64 b.size) := Ext.cell x_b5 (by first | (simp; done) | (simp; omega))
      have k3_b5 : World.cell? (w5) ⟨w.heap.size + 1, 3, none⟩ = some (.int .i64 b.sum) := Ext.cell x_b5 (by first | (simp; done) | (simp; omega))
      have f_b5 : ∀ i, World.frozen? (w5) ⟨w.heap.size + 1, i, none⟩ = false := fun i => Ext.free x_b5 (by first | (simp; done) | (simp; omega)) (by first | (simp; done) | (simp; omega))
      clear x_b5
      go_wp2_with fail
      refine (num0_calls _ _).mono ?_
      rintro e w9 ⟨rfl, rfl⟩
      go_wp2_with fail
      refine (num0_calls _ _).mono ?_
      rintro e w10 ⟨rfl, rfl⟩
      go_wp2_with fail
      refine (num0_calls _ _).mono ?_
      rintro e w11 ⟨rfl, rfl⟩
      go_wp2_with fail
      refine (num0_calls _ _).mono ?_
      rintro e w12 ⟨rfl, rfl⟩
      go_wp2_with fail
      refine (awake4_calls _).mono ?_
      rintro e w6 ⟨rfl, B6⟩
      go_wp2
      go_ret
      exact ⟨rfl, (by repeat (first | (with_reducible exact Ext.refl _) | (with_reducible refine Ext.drewN ?_ _) | (with_reducible refine Ext.drew ?_) | (with_reducible refine Ext.alloc ?_ _) | (with_reducible refine Ext.setCell ?_ (by first | exact Nat.le_refl _ | (simp <;> omega)) _) | (with_reducible refine Ext.trans ?_ (by with_reducible assumption))))⟩
  · clear ha cZ
    go_enter Try.func3, Try.ntmps3
    go_wp2_with fail
    refine (P1.out _).mono ?_
    rintro e w1 ⟨rfl, B1⟩
    have x_a1 : Ext ((w.alloc (.cells #[.int .i64 a.seq, .int .i64 a.slot, .int .i64 a.size, .int .i64 a.sum] 23)).alloc (.cells #[.int .i64 b.seq, .int .i64 b.slot, .int .i64 b.size, .int .i64 b.sum] 23)) (w1) := (by repeat (first | (with_reducible exact Ext.refl _) | (with_reducible refine Ext.drewN ?_ _) | (with_reducible refine Ext.drew ?_) | (with_reducible refine Ext.alloc ?_ _) | (with_reducible refine Ext.setCell ?_ (by first | exact Nat.le_refl _ | (simp <;> omega)) _) | (with_reducible refine Ext.trans ?_ (by with_reducible assumption))))
    have k0_a1 : World.cell? (w1) ⟨w.heap.size, 0, none⟩ = some (.int .i64 a.seq) := Ext.cell x_a1 (by first | (simp; done) | (simp; omega))
    have k1_a1 : World.cell? (w1) ⟨w.heap.size, 1, none⟩ = some (.int .i64 a.slot) := Ext.cell x_a1 (by first | (simp; done) | (simp; omega))
    have k2_a1 : World.cell? (w1) ⟨w.heap.size, 2, none⟩ = some (.int .i64 a.size) := Ext.cell x_a1 (by first | (simp; done) | (simp; omega))
    have k3_a1 : World.cell? (w1) ⟨w.heap.size, 3, none⟩ = some (.int .i64 a.sum) := Ext.cell x_a1 (by first | (simp; done) | (simp; omega))
    have f_a1 : ∀ i, World.frozen? (w1) ⟨w.heap.size, i, none⟩ = false := fun i => Ext.free x_a1 (by first | (simp; done) | (simp; omega)) (by first | (simp; done) | (simp; omega))
    clear x_a1
    go_wp2_with fail
    refine (P2.out _).mono ?_
    rintro e w2 ⟨rfl, B2⟩
    go_wp2_with fail
    refine (P4.out _).mono ?_
    rintro e w3 ⟨rfl, B3⟩
    go_wp2_with fail
    refine (P5.out _).mono ?_
    rintro e w4 ⟨rfl, B4⟩
    have x_b4 : Ext ((w.alloc (.cells #[.int .i64 a.seq, .int .i64 a.slot, .int .i64 a.size, .int .i64 a.sum] 23)).alloc (.cells #[.int .i64 b.seq, .int .i64 b.slot, .int .i64 b.size, .int .i64 b.sum] 23)) (w4.alloc (.cells #[.int .i64 q.seq, .int .i64 q.slot, .int .i64 q.size, .int .i64 q.sum] 23)) := (by repeat (first | (with_reducible exact Ext.refl _) | (with_reducible refine Ext.drewN ?_ _) | (with_reducible refine Ext.drew ?_) | (with_reducible refine Ext.alloc ?_ _) | (with_reducible refine Ext.setCell ?_ (by first | exact Nat.le_refl _ | (simp <;> omega)) _) | (with_reducible refine Ext.trans ?_ (by with_reducible assumption))))
    have k0_b4 : World.cell? (w4.alloc (.cells #[.int .i64 q.seq, .int .i64 q.slot, .int .i64 q.size, .int .i64 q.sum] 23)) ⟨w.heap.size + 1, 0, none⟩ = some (.int .i64 b.seq) := Ext.cell x_b4 (by first | (simp; done) | (simp; omega))
    have k1_b4 : World.cell? (w4.alloc (.cells #[.int .i64 q.seq, .int .i64 q.slot, .int .i64 q.size, .int .i64 q.sum] 23)) ⟨w.heap.size + 1, 1, none⟩ = some (.int .i64 b.slot) := Ext.cell x_b4 (by first | (simp; done) | (simp; omega))
    have k2_b4 : World.cell? (w4.alloc (.cells #[.int .i64 q.seq, .int .i64 q.slot, .int .i64 q.size, .int .i64 q.sum] 23)) ⟨w.heap.size + 1, 2, none⟩ = some (.int .i64 b.size) := Ext.cell x_b4 (by first | (simp; done) | (simp; omega))
    have k3_b4 : World.cell? (w4.alloc (.cells #[.int .i64 q.seq, .int .i64 q.slot, .int .i64 q.size, .int .i64 q.sum] 23)) ⟨w.heap.size + 1, 3, none⟩ = some (.int .i64 b.sum) := Ext.cell x_b4 (by first | (simp; done) | (simp; omega))
    have f_b4 : ∀ i, World.frozen? (w4.alloc (.cells #[.int .i64 q.seq, .int .i64 q.slot, .int .i64 q.size, .int .i64 q.sum] 23)) ⟨w.heap.size + 1, i, none⟩ = false := fun i => Ext.free x_b4 (by first | (simp; done) | (simp; omega)) (by first | (simp; done) | (simp; omega))
    clear x_b4
    go_wp2_with fail
    refine (P3.out _).mono ?_
    rintro e w5 ⟨rfl, B5⟩
    have x_c5 : Ext (w3.alloc (.cells #[.int .i64 q.seq, .int .i64 q.slot, .int .i64 q.size, .int .i64 q.sum] 23)) (w5) := (by repeat (first | (with_reducible exact Ext.refl _) | (with_reducible refine Ext.drewN ?_ _) | (with_reducible refine Ext.drew ?_) | (with_reducible refine Ext.alloc ?_ _) | (with_reducible refine Ext.setCell ?_ (by first | exact Nat.le_refl _ | (simp <;> omega)) _) | (with_reducible refine Ext.trans ?_ (by with_reducible assumption))))
    have k0_c5 : World.cell? (w5) ⟨w3.heap.size, 0, none⟩ = some (.int .i64 q.seq) := Ext.cell x_c5 (by first | (simp; done) | (simp; omega))
    have k1_c5 : World.cell? (w5) ⟨w3.heap.size, 1, none⟩ = some (.int .i64 q.slot) := Ext.cell x_c5 (by first | (simp; done) | (simp; omega))
    have k2_c5 : World.cell? (w5) ⟨w3.heap.size, 2, none⟩ = some (.int .i64 q.size) := Ext.cell x_c5 (by first | (simp; done) | (simp; omega))
    have k3_c5 : World.cell? (w5) ⟨w3.heap.size, 3, none⟩ = some (.int .i64 q.sum) := Ext.cell x_c5 (by first | (simp; done) | (simp; omega))
    have f_c5 : ∀ i, World.frozen? (w5) ⟨w3.heap.size, i, none⟩ = false := fun i => Ext.free x_c5 (by first | (simp; done) | (simp; omega)) (by first | (simp; done) | (simp; omega))
    clear x_c5
    have x_d5 : Ext (w4.alloc (.cells #[.int .i64 q.seq, .int .i64 q.slot, .int .i64 q.size, .int .i64 q.sum] 23)) (w5) := (by repeat (first | (with_reducible exact Ext.refl _) | (with_reducible refine Ext.drewN ?_ _) | (with_reducible refine Ext.drew ?_) | (with_reducible refine Ext.alloc ?_ _) | (with_reducible refine Ext.setCell ?_ (by first | exact Nat.le_refl _ | (simp <;> omega)) _) | (with_reducible refine Ext.trans ?_ (by with_reducible assumption))))
    have k0_d5 : World.cell? (w5) ⟨w4.heap.size, 0, none⟩ = some (.int .i64 q.seq) := Ext.cell x_d5 (by first | (simp; done) | (simp; omega))
    have k1_d5 : World.cell? (w5) ⟨w4.heap.size, 1, none⟩ = some (.int .i64 q.slot) := Ext.cell x_d5 (by first | (simp; done) | (simp; omega))
    have k2_d5 : World.cell? (w5) ⟨w4.heap.size, 2, none⟩ = some (.int .i64 q.size) := Ext.cell x_d5 (by first | (simp; done) | (simp; omega))
    have k3_d5 : World.cell? (w5) ⟨w4.heap.size, 3, none⟩ = some (.int .i64 q.sum) := Ext.cell x_d5 (by first | (simp; done) | (simp; omega))
    have f_d5 : ∀ i, World.frozen? (w5) ⟨w4.heap.size, i, none⟩ = false := fun i => Ext.free x_d5 (by first | (simp; done) | (simp; omega)) (by first | (simp; done) | (simp; omega))
    clear x_d5
    have x_a5 : Ext ((w.alloc (.cells #[.int .i64 a.seq, .int .i64 a.slot, .int .i64 a.size, .int .i64 a.sum] 23)).alloc (.cells #[.int .i64 b.seq, .int .i64 b.slot, .int .i64 b.size, .int .i64 b.sum] 23)) (w5) := (by repeat (first | (with_reducible exact Ext.refl _) | (with_reducible refine Ext.drewN ?_ _) | (with_reducible refine Ext.drew ?_) | (with_reducible refine Ext.alloc ?_ _) | (with_reducible refine Ext.setCell ?_ (by first | exact Nat.le_refl _ | (simp <;> omega)) _) | (with_reducible refine Ext.trans ?_ (by with_reducible assumption))))
    have k0_a5 : World.cell? (w5) ⟨w.heap.size, 0, none⟩ = some (.int .i64 a.seq) := Ext.cell x_a5 (by first | (simp; done) | (simp; omega))
    have k1_a5 : World.cell? (w5) ⟨w.heap.size, 1, none⟩ = some (.int .i64 a.slot) := Ext.cell x_a5 (by first | (simp; done) | (simp; omega))
    have k2_a5 : World.cell? (w5) ⟨w.heap.size, 2, none⟩ = some (.int .i64 a.size) := Ext.cell x_a5 (by first | (simp; done) | (simp; omega))
    have k3_a5 : World.cell? (w5) ⟨w.heap.size, 3, none⟩ = some (.int .i64 a.sum) := Ext.cell x_a5 (by first | (simp; done) | (simp; omega))
    have f_a5 : ∀ i, World.frozen? (w5) ⟨w.heap.size, i, none⟩ = false := fun i => Ext.free x_a5 (by first | (simp; done) | (simp; omega)) (by first | (simp; done) | (simp; omega))
    clear x_a5
    have x_b5 : Ext ((w.alloc (.cells #[.int .i64 a.seq, .int .i64 a.slot, .int .i64 a.size, .int .i64 a.sum] 23)).alloc (.cells #[.int .i64 b.seq, .int .i64 b.slot, .int .i64 b.size, .int .i64 b.sum] 23)) (w5) := (by repeat (first | (with_reducible exact Ext.refl _) | (with_reducible refine Ext.drewN ?_ _) | (with_reducible refine Ext.drew ?_) | (with_reducible refine Ext.alloc ?_ _) | (with_reducible refine Ext.setCell ?_ (by first | exact Nat.le_refl _ | (simp <;> omega)) _) | (with_reducible refine Ext.trans ?_ (by with_reducible assumption))))
    have k0_b5 : World.cell? (w5) ⟨w.heap.size + 1, 0, none⟩ = some (.int .i64 b.seq) := Ext.cell x_b5 (by first | (simp; done) | (simp; omega))
    have k1_b5 : World.cell? (w5) ⟨w.heap.size + 1, 1, none⟩ = some (.int .i64 b.slot) := Ext.cell x_b5 (by first | (simp; done) | (simp; omega))
    have k2_b5 : World.cell? (w5) ⟨w.heap.size + 1, 2, none⟩ = some (.int .i64 b.size) := Ext.cell x_b5 (by first | (simp; done) | (simp; omega))
    have k3_b5 : World.cell? (w5) ⟨w.heap.size + 1, 3, none⟩ = some (.int .i64 b.sum) := Ext.cell x_b5 (by first | (simp; done) | (simp; omega))
    have f_b5 : ∀ i, World.frozen? (w5) ⟨w.heap.size + 1, i, none⟩ = false := fun i => Ext.free x_b5 (by first | (simp; done) | (simp; omega)) (by first | (simp; done) | (simp; omega))
    clear x_b5
    go_wp2_with fail
    refine (num0_calls _ _).mono ?_
    rintro e w13 ⟨rfl, rfl⟩
    go_wp2_with fail
    refine (num0_calls _ _).mono ?_
    rintro e w14 ⟨rfl, rfl⟩
    go_wp2_with fail
    refine (num0_calls _ _).mono ?_
    rintro e w15 ⟨rfl, rfl⟩
    go_wp2_with fail
    refine (awake4_calls _).mono ?_
    rintro e w6 ⟨rfl, B6⟩
    go_wp2
    go_ret
    exact ⟨rfl, (by repeat (first | (with_reducible exact Ext.refl _) | (with_reducible refine Ext.drewN ?_ _) | (with_reducible refine Ext.drew ?_) | (with_reducible refine Ext.alloc ?_ _) | (with_reducible refine Ext.setCell ?_ (by first | exact Nat.le_refl _ | (simp <;> omega)) _) | (with_reducible refine Ext.trans ?_ (by with_reducible assumption))))⟩

end Go.Proofs.Ytcpghpjcpamhcaa
