/- entry.Get. -/
import Derived.Test.YtclhcfnmpnhflaaEntW
set_option linter.unusedVariables false
set_option linter.unusedSimpArgs false
set_option maxHeartbeats 4000000
namespace Go.Proofs.Ytclhcfnmpnhflaa
open Go.RowKit Skiff

def getRes (l : List UInt8) : Value := match Skiff.get l with
  | some r => .tuple #[recV r, .int .i64 0]
  | none => .tuple #[recV Rec.zero, .int .i64 400]
theorem getRes_some {l : List UInt8} {r : Rec} (h : Skiff.get l = some r) : getRes l = .tuple #[recV r, .int .i64 0] := by unfold getRes; rw [h]
theorem getRes_none {l : List UInt8} (h : Skiff.get l = none) : getRes l = .tuple #[recV Rec.zero, .int .i64 400] := by unfold getRes; rw [h]

theorem get_calls (s : ByteArray) (w : World) :
    Calls Try.prog 52 #[.string s] w fun e w' => e = .returned (getRes (bl s)) ∧ Ext w w' := by
  have hl : (bl s).length = s.size := bl_length s
  by_cases h24 : s.size = 24
  · have hn : ((s.size : Int) != 24) = false := by rw [h24]; rfl
    have hX : bl (s.extract 0 12) = (bl s).take 12 := by rw [bl_extract]; simp
    have hY : bl (s.extract 12 24) = (bl s).drop 12 := by rw [bl_extract, List.take_of_length_le (by simp; omega)]
    have C := Lib.hid (fun w => compl_calls (s.extract 0 12) (by rw [← bl_length, hX]; simp; omega) w)
    rw [hX] at C
    by_cases hc : compl ((bl s).take 12) = (bl s).drop 12
    · have htest : (!(mk (compl (List.take 12 (bl s)))).toList == (s.extract 12 24).toList) = false := by
        rw [beq_bl, bl_mk, hY]; simp [hc]
      obtain ⟨r, hr⟩ : ∃ r, told (bl s) = r := ⟨_, rfl⟩
      have n1 : ((num (bl (s.extract 0 4)) : Nat) : Int) = r.seq := by rw [← hr, bl_extract]; rfl
      have n2 : ((num (bl (s.extract 4 6)) : Nat) : Int) = r.slot := by rw [← hr, bl_extract]; rfl
      have n3 : ((num (bl (s.extract 6 8)) : Nat) : Int) = r.size := by rw [← hr, bl_extract]; rfl
      have n4 : ((num (bl (s.extract 8 12)) : Nat) : Int) = r.sum := by rw [← hr, bl_extract]; rfl
      have N1 := Lib.hid (fun w => num_calls' (s.extract 0 4) (by simp; omega) w)
      have N2 := Lib.hid (fun w => num_calls' (s.extract 4 6) (by simp; omega) w)
      have N3 := Lib.hid (fun w => num_calls' (s.extract 6 8) (by simp; omega) w)
      have N4 := Lib.hid (fun w => num_calls' (s.extract 8 12) (by simp; omega) w)
      rw [n1] at N1
      rw [n2] at N2
      rw [n3] at N3
      rw [n4] at N4
      have M := Lib.hid (fun w => may_calls r w)
      unfold recV at M
      have HG : Hid (getRes (bl s) = if recMay r = true then .tuple #[recV r, .int .i64 0] else .tuple #[recV Rec.zero, .int .i64 400]) := by
        show _ = _
        unfold getRes Skiff.get
        rw [hr]
        cases hm : recMay r
        · rw [if_neg (by simp)]; rfl
        · rw [if_pos ⟨by omega, hc, rfl⟩]; rfl
      clear n1 n2 n3 n4 hX hY hr hc
      generalize recMay r = b at *
      go_enter Try.func52, Try.ntmps52
      go_wp2
      go_region_held3 (fun w' => Ext (w.alloc (.cells #[.int .i64 0, .int .i64 0, .int .i64 0, .int .i64 0] 29)) w') ( repeat (first | (with_reducible exact Ext.refl _) | (with_reducible assumption) | (with_reducible refine Ext.drewN ?_ _) | (with_reducible refine Ext.drew ?_) | (with_reducible refine Ext.alloc ?_ _) | (with_reducible refine Ext.setCell ?_ (by first | exact Nat.le_refl _ | (simp <;> omega)) _) | (with_reducible refine Ext.trans ?_ (by with_reducible assumption)))) (first | (go_at_call 55; (with_reducible refine (C.out _).mono ?_); rintro e w' ⟨rfl, B⟩))
      have hE : Ext (w.alloc (.cells #[.int .i64 0, .int .i64 0, .int .i64 0, .int .i64 0] 29)) w' := by assumption
      go_wp2_with fail
      go_region_held3 (fun w1 => Ext w' w1) ( repeat (first | (with_reducible exact Ext.refl _) | (with_reducible assumption) | (with_reducible refine Ext.drewN ?_ _) | (with_reducible refine Ext.drew ?_) | (with_reducible refine Ext.alloc ?_ _) | (with_reducible refine Ext.setCell ?_ (by first | exact Nat.le_refl _ | (simp <;> omega)) _) | (with_reducible refine Ext.trans ?_ (by with_reducible assumption)))) (first | (go_at_call 56; first | ((with_reducible refine (N1.out _).mono ?_); rintro e w2 ⟨rfl, rfl⟩) | ((with_reducible refine (N2.out _).mono ?_); rintro e w2 ⟨rfl, rfl⟩) | ((with_reducible refine (N3.out _).mono ?_); rintro e w2 ⟨rfl, rfl⟩) | ((with_reducible refine (N4.out _).mono ?_); rintro e w2 ⟨rfl, rfl⟩)))
      all_goals
        go_wp2_with fail
        refine (M.out _).mono ?_
        rintro e w3 ⟨rfl, B3⟩
        have hE3 : Ext (w.alloc (.cells #[.int .i64 0, .int .i64 0, .int .i64 0, .int .i64 0] 29)) w3 := (by repeat (first | (with_reducible exact Ext.refl _) | (with_reducible assumption) | (with_reducible refine Ext.drewN ?_ _) | (with_reducible refine Ext.drew ?_) | (with_reducible refine Ext.alloc ?_ _) | (with_reducible refine Ext.setCell ?_ (by first | exact Nat.le_refl _ | (simp <;> omega)) _) | (with_reducible refine Ext.trans ?_ (by with_reducible assumption))))
        have k0_w3 : w3.cell? ⟨w'.heap.size, 0, none⟩ = some (.int .i64 r.seq) := Ext.cell B3 (by simp)
        have k1_w3 : w3.cell? ⟨w'.heap.size, 1, none⟩ = some (.int .i64 r.slot) := Ext.cell B3 (by simp)
        have k2_w3 : w3.cell? ⟨w'.heap.size, 2, none⟩ = some (.int .i64 r.size) := Ext.cell B3 (by simp)
        have k3_w3 : w3.cell? ⟨w'.heap.size, 3, none⟩ = some (.int .i64 r.sum) := Ext.cell B3 (by simp)
        have f_w3 : ∀ i, w3.frozen? ⟨w'.heap.size, i, none⟩ = false := fun i => Ext.free B3 (by first | (simp; done) | (simp; omega)) (by first | (simp; done) | (simp; omega))
        have m0 : w3.cell? ⟨w.heap.size, 0, none⟩ = some (.int .i64 0) := Ext.cell hE3 (by simp)
        have m1 : w3.cell? ⟨w.heap.size, 1, none⟩ = some (.int .i64 0) := Ext.cell hE3 (by simp)
        have m2 : w3.cell? ⟨w.heap.size, 2, none⟩ = some (.int .i64 0) := Ext.cell hE3 (by simp)
        have m3 : w3.cell? ⟨w.heap.size, 3, none⟩ = some (.int .i64 0) := Ext.cell hE3 (by simp)
        have mf : ∀ i, w3.frozen? ⟨w.heap.size, i, none⟩ = false := fun i => Ext.free hE3 (by simp) (by simp)
        cases b
        · go_wp2
          refine bodyPost_ret (v := .tuple #[recV Rec.zero, .int .i64 400]) ?_ rfl ?_
          · simp [results, Try.results52, go_sem, recV, Rec.zero, m0, m1, m2, m3]
          · exact ⟨congrArg Ending.returned HG.out.symm, (by repeat (first | (with_reducible exact Ext.refl _) | (with_reducible assumption) | (with_reducible refine Ext.drewN ?_ _) | (with_reducible refine Ext.drew ?_) | (with_reducible refine Ext.alloc ?_ _) | (with_reducible refine Ext.setCell ?_ (by first | exact Nat.le_refl _ | (simp <;> omega)) _) | (with_reducible refine Ext.trans ?_ (by with_reducible assumption))))⟩
        · go_wp2
          refine bodyPost_ret (v := .tuple #[recV r, .int .i64 0]) ?_ rfl ?_
          · simp [results, Try.results52, go_sem, recV, m0, m1, m2, m3]
          · exact ⟨congrArg Ending.returned HG.out.symm, (by repeat (first | (with_reducible exact Ext.refl _) | (with_reducible assumption) | (with_reducible refine Ext.drewN ?_ _) | (with_reducible refine Ext.drew ?_) | (with_reducible refine Ext.alloc ?_ _) | (with_reducible refine Ext.setCell ?_ (by first | exact Nat.le_refl _ | (simp <;> omega)) _) | (with_reducible refine Ext.trans ?_ (by with_reducible assumption))))⟩
    · have hg : Skiff.get (bl s) = none := by
        unfold Skiff.get
        rw [if_neg]
        intro h
        exact hc h.2.1
      have htest : (!(mk (compl (List.take 12 (bl s)))).toList == (s.extract 12 24).toList) = true := by
        rw [beq_bl, bl_mk, hY]; simp [hc]
      have HG := Lib.hid (getRes_none hg)
      clear hg hX hY hc
      go_enter Try.func52, Try.ntmps52
      go_wp2
      go_region_held3 (fun w' => Ext (w.alloc (.cells #[.int .i64 0, .int .i64 0, .int .i64 0, .int .i64 0] 29)) w') ( repeat (first | (with_reducible exact Ext.refl _) | (with_reducible assumption) | (with_reducible refine Ext.drewN ?_ _) | (with_reducible refine Ext.drew ?_) | (with_reducible refine Ext.alloc ?_ _) | (with_reducible refine Ext.setCell ?_ (by first | exact Nat.le_refl _ | (simp <;> omega)) _) | (with_reducible refine Ext.trans ?_ (by with_reducible assumption)))) (first | (go_at_call 55; (with_reducible refine (C.out _).mono ?_); rintro e w' ⟨rfl, B⟩))
      have hE : Ext (w.alloc (.cells #[.int .i64 0, .int .i64 0, .int .i64 0, .int .i64 0] 29)) w' := by assumption
      have k0_w' : w'.cell? ⟨w.heap.size, 0, none⟩ = some (.int .i64 0) := Ext.cell hE (by simp)
      have k1_w' : w'.cell? ⟨w.heap.size, 1, none⟩ = some (.int .i64 0) := Ext.cell hE (by simp)
      have k2_w' : w'.cell? ⟨w.heap.size, 2, none⟩ = some (.int .i64 0) := Ext.cell hE (by simp)
      have k3_w' : w'.cell? ⟨w.heap.size, 3, none⟩ = some (.int .i64 0) := Ext.cell hE (by simp)
      have f_w' : ∀ i, w'.frozen? ⟨w.heap.size, i, none⟩ = false := fun i => Ext.free hE (by first | (simp; done) | (simp; omega)) (by first | (simp; done) | (simp; omega))
      go_wp2
      refine bodyPost_ret (v := .tuple #[recV Rec.zero, .int .i64 400]) ?_ rfl ?_
      · simp [results, Try.results52, go_sem, recV, Rec.zero, k0_w', k1_w', k2_w', k3_w']
      · exact ⟨congrArg Ending.returned HG.out.symm, (by repeat (first | (with_reducible exact Ext.refl _) | (with_reducible assumption) | (with_reducible refine Ext.drewN ?_ _) | (with_reducible refine Ext.drew ?_) | (with_reducible refine Ext.alloc ?_ _) | (with_reducible refine Ext.setCell ?_ (by first | exact Nat.le_refl _ | (simp <;> omega)) _) | (with_reducible refine Ext.trans ?_ (by with_reducible assumption))))⟩
  · have hg : Skiff.get (bl s) = none := by
      unfold Skiff.get
      rw [if_neg]
      intro h
      exact h24 (by omega)
    have hn : ((s.size : Int) != 24) = true := by rw [bne_iff_ne]; omega
    have HG := Lib.hid (getRes_none hg)
    clear hg
    go_enter Try.func52, Try.ntmps52
    go_wp2
    go_quiet (fail)
    go_wp2
    refine bodyPost_ret (v := .tuple #[recV Rec.zero, .int .i64 400]) ?_ rfl ?_
    · simp [results, Try.results52, go_sem, recV, Rec.zero]
    · exact ⟨congrArg Ending.returned HG.out.symm, (by repeat (first | (with_reducible exact Ext.refl _) | (with_reducible assumption) | (with_reducible refine Ext.drewN ?_ _) | (with_reducible refine Ext.drew ?_) | (with_reducible refine Ext.alloc ?_ _) | (with_reducible refine Ext.setCell ?_ (by first | exact Nat.le_refl _ | (simp <;> omega)) _) | (with_reducible refine Ext.trans ?_ (by with_reducible assumption))))⟩

end Go.Proofs.Ytclhcfnmpnhflaa
