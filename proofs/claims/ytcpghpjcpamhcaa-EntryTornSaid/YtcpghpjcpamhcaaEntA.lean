/- What the laws of chapter 4 call: each call once, its answer known. -/
import Derived.Test.YtcpghpjcpamhcaaRefG
set_option linter.unusedVariables false
set_option linter.unusedSimpArgs false
set_option maxHeartbeats 4000000
namespace Go.Proofs.Ytcpghpjcpamhcaa
open Go.RowKit Skiff

theorem num0_calls (x : Int) (w : World) :
    Calls Try.prog 13 #[.int .i64 x] w fun e w' => e = .returned (.int .i64 x) ∧ w = w' := by
  go_enter Try.func13, Try.ntmps13
  go_wp2
  go_ret
  exact ⟨rfl, rfl⟩

theorem put_ok {r : Rec} (h : recMay r = true) (w : World) :
    Calls Try.prog 9 #[(.agg #[.int .i64 r.seq, .int .i64 r.slot, .int .i64 r.size, .int .i64 r.sum])] w fun e w' => e = .returned (.tuple #[.string (mk (put r)), .int .i64 0]) ∧ Ext w w' := by
  have H := put_calls r w
  rw [h] at H
  exact H
theorem put_no {r : Rec} (h : recMay r = false) (w : World) :
    Calls Try.prog 9 #[(.agg #[.int .i64 r.seq, .int .i64 r.slot, .int .i64 r.size, .int .i64 r.sum])] w fun e w' => e = .returned (.tuple #[.string (mk []), .int .i64 400]) ∧ Ext w w' := by
  have H := put_calls r w
  rw [h] at H
  exact H
theorem rput_ok {r : Rec} (h : recMay r = true) (w : World) :
    Calls Try.prog 10 #[(.agg #[.int .i64 r.seq, .int .i64 r.slot, .int .i64 r.size, .int .i64 r.sum])] w fun e w' => e = .returned (.tuple #[.string (mk (put r)), .int .i64 0]) ∧ Ext w w' := by
  have H := rput_calls r w
  rw [h] at H
  exact H
theorem rput_no {r : Rec} (h : recMay r = false) (w : World) :
    Calls Try.prog 10 #[(.agg #[.int .i64 r.seq, .int .i64 r.slot, .int .i64 r.size, .int .i64 r.sum])] w fun e w' => e = .returned (.tuple #[.string (mk []), .int .i64 400]) ∧ Ext w w' := by
  have H := rput_calls r w
  rw [h] at H
  exact H
theorem get_ok {s : ByteArray} {r : Rec} (h : Skiff.get (bl s) = some r) (w : World) :
    Calls Try.prog 11 #[.string s] w fun e w' => e = .returned (.tuple #[(.agg #[.int .i64 r.seq, .int .i64 r.slot, .int .i64 r.size, .int .i64 r.sum]), .int .i64 0]) ∧ Ext w w' := by
  have H := get_calls s w
  rw [getRes_some h] at H
  exact H
theorem get_no {s : ByteArray} (h : Skiff.get (bl s) = none) (w : World) :
    Calls Try.prog 11 #[.string s] w fun e w' => e = .returned (.tuple #[.agg #[.int .i64 0, .int .i64 0, .int .i64 0, .int .i64 0], .int .i64 400]) ∧ Ext w w' := by
  have H := get_calls s w
  rw [getRes_none h] at H
  exact H
theorem rget_ok {s : ByteArray} {r : Rec} (h : Skiff.get (bl s) = some r) (w : World) :
    Calls Try.prog 12 #[.string s] w fun e w' => e = .returned (.tuple #[(.agg #[.int .i64 r.seq, .int .i64 r.slot, .int .i64 r.size, .int .i64 r.sum]), .int .i64 0]) ∧ Ext w w' := by
  have H := rget_calls s w
  rw [getRes_some h] at H
  exact H
theorem rget_no {s : ByteArray} (h : Skiff.get (bl s) = none) (w : World) :
    Calls Try.prog 12 #[.string s] w fun e w' => e = .returned (.tuple #[.agg #[.int .i64 0, .int .i64 0, .int .i64 0, .int .i64 0], .int .i64 400]) ∧ Ext w w' := by
  have H := rget_calls s w
  rw [getRes_none h] at H
  exact H
theorem get_back {r : Rec} (h : recMay r = true) (w : World) :
    Calls Try.prog 11 #[.string (mk (put r))] w fun e w' => e = .returned (.tuple #[(.agg #[.int .i64 r.seq, .int .i64 r.slot, .int .i64 r.size, .int .i64 r.sum]), .int .i64 0]) ∧ Ext w w' :=
  get_ok (by rw [bl_mk]; exact get_put h) w

def wakeRec : Rec := ⟨258, 1, 288, 16909060⟩
theorem wake_put (w : World) :
    Calls Try.prog 9 #[.agg #[.int .i64 258, .int .i64 1, .int .i64 288, .int .i64 16909060]] w fun e w' => e = .returned (.tuple #[.string ⟨#[2, 1, 0, 0, 1, 0, 32, 1, 4, 3, 2, 1, 253, 254, 255, 255, 254, 255, 223, 254, 251, 252, 253, 254]⟩, .int .i64 0]) ∧ Ext w w' := by
  have e : mk (put wakeRec) = ⟨#[2, 1, 0, 0, 1, 0, 32, 1, 4, 3, 2, 1, 253, 254, 255, 255, 254, 255, 223, 254, 251, 252, 253, 254]⟩ := by decide +kernel
  have H := put_ok (r := wakeRec) (by decide +kernel) w
  rw [e] at H
  exact H
theorem wake_get (w : World) :
    Calls Try.prog 11 #[.string ⟨#[2, 1, 0, 0, 1, 0, 32, 1, 4, 3, 2, 1, 253, 254, 255, 255, 254, 255, 223, 254, 251, 252, 253, 254]⟩] w fun e w' => e = .returned (.tuple #[.agg #[.int .i64 258, .int .i64 1, .int .i64 288, .int .i64 16909060], .int .i64 0]) ∧ Ext w w' :=
  get_ok (r := wakeRec) (by decide +kernel) w
theorem wake_put0 (w : World) :
    Calls Try.prog 9 #[.agg #[.int .i64 0, .int .i64 0, .int .i64 0, .int .i64 0]] w fun e w' => e = .returned (.tuple #[.string (mk []), .int .i64 400]) ∧ Ext w w' :=
  put_no (r := Rec.zero) (by decide +kernel) w
theorem wake_get0 (w : World) :
    Calls Try.prog 11 #[.string ⟨#[]⟩] w fun e w' => e = .returned (.tuple #[.agg #[.int .i64 0, .int .i64 0, .int .i64 0, .int .i64 0], .int .i64 400]) ∧ Ext w w' :=
  get_no (by decide +kernel) w

theorem awake4_calls (w : World) :
    Calls Try.prog 14 #[] w fun e w' => e = .returned (.bool true) ∧ Ext w w' := by
  go_enter Try.func14, Try.ntmps14
  go_wp2_with fail
  refine (wake_put _).mono ?_
  rintro e w1 ⟨rfl, B1⟩
  go_wp2_with fail
  refine (wake_get _).mono ?_
  rintro e w2 ⟨rfl, B2⟩
  go_wp2_with fail
  refine (wake_put0 _).mono ?_
  rintro e w3 ⟨rfl, B3⟩
  go_wp2_with fail
  refine (wake_get0 _).mono ?_
  rintro e w4 ⟨rfl, B4⟩
  have hlt : w.heap.size < w2.heap.size := by have h1 := B1.size; have h2 := B2.size; simp at h1; omega
  have x_a : Ext (w.alloc (.cells #[.int .i64 258, .int .i64 1, .int .i64 288, .int .i64 16909060] 23)) (w4.alloc (.cells #[.int .i64 0, .int .i64 0, .int .i64 0, .int .i64 0] 23)) := (by repeat (first | (with_reducible exact Ext.refl _) | (with_reducible refine Ext.drewN ?_ _) | (with_reducible refine Ext.drew ?_) | (with_reducible refine Ext.alloc ?_ _) | (with_reducible refine Ext.setCell ?_ (by first | exact Nat.le_refl _ | (simp <;> omega)) _) | (with_reducible refine Ext.trans ?_ (by with_reducible assumption))))
  have k0_a : World.cell? (w4.alloc (.cells #[.int .i64 0, .int .i64 0, .int .i64 0, .int .i64 0] 23)) ⟨w.heap.size, 0, none⟩ = some (.int .i64 258) := Ext.cell x_a (by first | (simp; done) | (simp; omega))
  have k1_a : World.cell? (w4.alloc (.cells #[.int .i64 0, .int .i64 0, .int .i64 0, .int .i64 0] 23)) ⟨w.heap.size, 1, none⟩ = some (.int .i64 1) := Ext.cell x_a (by first | (simp; done) | (simp; omega))
  have k2_a : World.cell? (w4.alloc (.cells #[.int .i64 0, .int .i64 0, .int .i64 0, .int .i64 0] 23)) ⟨w.heap.size, 2, none⟩ = some (.int .i64 288) := Ext.cell x_a (by first | (simp; done) | (simp; omega))
  have k3_a : World.cell? (w4.alloc (.cells #[.int .i64 0, .int .i64 0, .int .i64 0, .int .i64 0] 23)) ⟨w.heap.size, 3, none⟩ = some (.int .i64 16909060) := Ext.cell x_a (by first | (simp; done) | (simp; omega))
  have f_a : ∀ i, World.frozen? (w4.alloc (.cells #[.int .i64 0, .int .i64 0, .int .i64 0, .int .i64 0] 23)) ⟨w.heap.size, i, none⟩ = false := fun i => Ext.free x_a (by first | (simp; done) | (simp; omega)) (by first | (simp; done) | (simp; omega))
  clear x_a
  have x_b : Ext (w2.alloc (.cells #[.int .i64 258, .int .i64 1, .int .i64 288, .int .i64 16909060] 23)) (w4.alloc (.cells #[.int .i64 0, .int .i64 0, .int .i64 0, .int .i64 0] 23)) := (by repeat (first | (with_reducible exact Ext.refl _) | (with_reducible refine Ext.drewN ?_ _) | (with_reducible refine Ext.drew ?_) | (with_reducible refine Ext.alloc ?_ _) | (with_reducible refine Ext.setCell ?_ (by first | exact Nat.le_refl _ | (simp <;> omega)) _) | (with_reducible refine Ext.trans ?_ (by with_reducible assumption))))
  have k0_b : World.cell? (w4.alloc (.cells #[.int .i64 0, .int .i64 0, .int .i64 0, .int .i64 0] 23)) ⟨w2.heap.size, 0, none⟩ = some (.int .i64 258) := Ext.cell x_b (by first | (simp; done) | (simp; omega))
  have k1_b : World.cell? (w4.alloc (.cells #[.int .i64 0, .int .i64 0, .int .i64 0, .int .i64 0] 23)) ⟨w2.heap.size, 1, none⟩ = some (.int .i64 1) := Ext.cell x_b (by first | (simp; done) | (simp; omega))
  have k2_b : World.cell? (w4.alloc (.cells #[.int .i64 0, .int .i64 0, .int .i64 0, .int .i64 0] 23)) ⟨w2.heap.size, 2, none⟩ = some (.int .i64 288) := Ext.cell x_b (by first | (simp; done) | (simp; omega))
  have k3_b : World.cell? (w4.alloc (.cells #[.int .i64 0, .int .i64 0, .int .i64 0, .int .i64 0] 23)) ⟨w2.heap.size, 3, none⟩ = some (.int .i64 16909060) := Ext.cell x_b (by first | (simp; done) | (simp; omega))
  have f_b : ∀ i, World.frozen? (w4.alloc (.cells #[.int .i64 0, .int .i64 0, .int .i64 0, .int .i64 0] 23)) ⟨w2.heap.size, i, none⟩ = false := fun i => Ext.free x_b (by first | (simp; done) | (simp; omega)) (by first | (simp; done) | (simp; omega))
  clear x_b
  go_wp2_with fail
  refine (num0_calls _ _).mono ?_
  rintro e w5 ⟨rfl, rfl⟩
  go_wp2_with fail
  refine (num0_calls _ _).mono ?_
  rintro e w6 ⟨rfl, rfl⟩
  go_wp2_with fail
  refine (num0_calls _ _).mono ?_
  rintro e w7 ⟨rfl, rfl⟩
  go_wp2_with fail
  refine (num0_calls _ _).mono ?_
  rintro e w8 ⟨rfl, rfl⟩
  go_wp2
  go_ret
  exact ⟨rfl, (by repeat (first | (with_reducible exact Ext.refl _) | (with_reducible refine Ext.drewN ?_ _) | (with_reducible refine Ext.drew ?_) | (with_reducible refine Ext.alloc ?_ _) | (with_reducible refine Ext.setCell ?_ (by first | exact Nat.le_refl _ | (simp <;> omega)) _) | (with_reducible refine Ext.trans ?_ (by with_reducible assumption))))⟩

end Go.Proofs.Ytcpghpjcpamhcaa
