
/- skiffref1.GetEntry. -/
import Derived.Test.YtclhcfnmpnhflaaRefE
import Derived.Test.YtclhcfnmpnhflaaEntG
set_option linter.unusedVariables false
set_option linter.unusedSimpArgs false
set_option maxHeartbeats 4000000
namespace Go.Proofs.Ytclhcfnmpnhflaa
open Go.RowKit Skiff

/-- What the reference reads. -/
def rtold (l : List UInt8) : Rec := ⟨num (l.take 4), ((l.getD 4 0).toNat : Nat), num ((l.drop 6).take 2), num ((l.drop 8).take 4)⟩
theorem rtold_get {l : List UInt8} {q : Rec} (h : Skiff.get l = some q) : rtold l = q := by
  have hm := (get_some h).1
  unfold Skiff.get at h
  split at h
  · rename_i hc
    obtain rfl := Option.some.inj h
    have hs := (recMay_iff.1 hm).2.1
    have hl := hc.1
    have e : (l.drop 4).take 2 = [l.getD 4 0, l.getD 5 0] := by
      rw [List.drop_eq_getElem_cons (by omega), List.drop_eq_getElem_cons (by omega)]
      rw [List.getD_eq_getElem?_getD, List.getD_eq_getElem?_getD, List.getElem?_eq_getElem (by omega), List.getElem?_eq_getElem (by omega)]; rfl
    have hv : (told l).slot = ((l.getD 4 0).toNat + 256 * ((l.getD 5 0).toNat + 0) : Nat) := by
      unfold told
      simp only
      rw [e]; rfl
    rw [hv] at hs
    unfold rtold
    have : (told l).slot = ((l.getD 4 0).toNat : Nat) := by rw [hv]; omega
    rw [← this]; rfl
  · cases h
theorem rget_of (l : List UInt8) : Skiff.get l = if recMay (rtold l) = true ∧ put (rtold l) = l then some (rtold l) else none := by
  cases h : Skiff.get l with
  | none => rw [if_neg]; intro hc; exact get_none h _ hc.1 hc.2
  | some q =>
    have e := rtold_get h
    have hq := get_some h
    rw [e, if_pos hq]

theorem rget_calls (s : ByteArray) (w : World) :
    Calls Try.prog 36 #[.string s] w fun e w' => e = .returned (getRes (bl s)) ∧ Ext w w' := by
  have hl : (bl s).length = s.size := bl_length s
  by_cases h24 : s.size = 24
  · have hn : ((s.size : Int) != 24) = false := by rw [h24]; rfl
    obtain ⟨r, hr⟩ : ∃ r, rtold (bl s) = r := ⟨_, rfl⟩
    have n1 : ((num (bl (s.extract 0 4)) : Nat) : Int) = r.seq := by rw [← hr, bl_extract]; rfl
    have n3 : ((num (bl (s.extract 6 8)) : Nat) : Int) = r.size := by rw [← hr, bl_extract]; rfl
    have n4 : ((num (bl (s.extract 8 12)) : Nat) : Int) = r.sum := by rw [← hr, bl_extract]; rfl
    have n2 : ((s[4].toNat : Nat) : Int) = r.slot := by
      rw [← hr]; unfold rtold
      simp only [List.getD_eq_getElem?_getD]
      rw [List.getElem?_eq_getElem (by omega)]; rfl
    have N1 := Lib.hid (fun w => rof_calls (s.extract 0 4) (by simp; omega) w)
    have N3 := Lib.hid (fun w => rof_calls (s.extract 6 8) (by simp; omega) w)
    have N4 := Lib.hid (fun w => rof_calls (s.extract 8 12) (by simp; omega) w)
    rw [n1] at N1
    rw [n3] at N3
    rw [n4] at N4
    have hb : s[4].toNat < 256 := s[4].toNat_lt
    have hj : 4 < s.size := by omega
    have N2 := Lib.hid (show IntKind.i64.wrap (s[4].toNat : Int) = r.slot by rw [← n2]; exact wrap_i64_fit _ (by omega) (by omega))
    have M := Lib.hid (fun w => rput_calls r w)
    unfold recV at M
    have HG : Hid (getRes (bl s) = if recMay r = true ∧ put r = bl s then .tuple #[recV r, .int .i64 0] else .tuple #[recV Rec.zero, .int .i64 400]) := by
      show _ = _
      unfold getRes
      rw [rget_of, hr]
      by_cases hc : recMay r = true ∧ put r = bl s
      · rw [if_pos hc, if_pos hc]
      · rw [if_neg hc, if_neg hc]
    clear n1 n2 n3 n4 hr
    go_enter Try.func36, Try.ntmps36
    go_wp2
    apply once
    case f =>
      intro key
      go_region_held3 (fun w1 => Ext (w.alloc (.cells #[.int .i64 0, .int .i64 0, .int .i64 0, .int .i64 0] 29)) w1) ( repeat (first | (with_reducible exact Ext.refl _) | (with_reducible refine Ext.drewN ?_ _) | (with_reducible refine Ext.drew ?_) | (with_reducible refine Ext.alloc ?_ _) | (with_reducible refine Ext.setCell ?_ (by first | exact Nat.le_refl _ | (simp <;> omega)) _) | (with_reducible refine Ext.trans ?_ (by with_reducible assumption)))) (first | (go_at_call 46; first | ((with_reducible refine (N1.out _).mono ?_); rintro e w2 ⟨rfl, rfl⟩) | ((with_reducible refine (N3.out _).mono ?_); rintro e w2 ⟨rfl, rfl⟩) | ((with_reducible refine (N4.out _).mono ?_); rintro e w2 ⟨rfl, rfl⟩)))
      all_goals (rw [N2.out]; exact key)
    case p =>
      generalize recMay r = b at *
      cases b
      · go_wp2_with fail
        refine (M.out _).mono ?_
        rintro e w2 ⟨rfl, B2⟩
        have k0_w2 : w2.cell? ⟨w.heap.size, 0, none⟩ = some (.int .i64 0) := Ext.cell B2 (by simp)
        have k1_w2 : w2.cell? ⟨w.heap.size, 1, none⟩ = some (.int .i64 0) := Ext.cell B2 (by simp)
        have k2_w2 : w2.cell? ⟨w.heap.size, 2, none⟩ = some (.int .i64 0) := Ext.cell B2 (by simp)
        have k3_w2 : w2.cell? ⟨w.heap.size, 3, none⟩ = some (.int .i64 0) := Ext.cell B2 (by simp)
        have f_w2 : ∀ i, w2.frozen? ⟨w.heap.size, i, none⟩ = false := fun i => Ext.free B2 (by first | (simp; done) | (simp; omega)) (by first | (simp; done) | (simp; omega))
        go_wp2
        refine bodyPost_ret (v := .tuple #[recV Rec.zero, .int .i64 400]) ?_ rfl ?_
        · simp [results, Try.results36, go_sem, recV, Rec.zero, k0_w2, k1_w2, k2_w2, k3_w2]
        · exact ⟨congrArg Ending.returned (HG.out.trans (by simp)).symm, (by repeat (first | (with_reducible exact Ext.refl _) | (with_reducible assumption) | (with_reducible refine Ext.drewN ?_ _) | (with_reducible refine Ext.drew ?_) | (with_reducible refine Ext.alloc ?_ _) | (with_reducible refine Ext.setCell ?_ (by first | exact Nat.le_refl _ | (simp <;> omega)) _) | (with_reducible refine Ext.trans ?_ (by with_reducible assumption))))⟩
      · by_cases hp : put r = bl s
        · have htest : (!(mk (put r)).toList == s.toList) = false := by rw [beq_bl, bl_mk]; simp [hp]
          have HP := Lib.hid hp
          clear hp
          go_wp2_with fail
          refine (M.out _).mono ?_
          rintro e w2 ⟨rfl, B2⟩
          have k0_w2 : w2.cell? ⟨w.heap.size, 0, none⟩ = some (.int .i64 0) := Ext.cell B2 (by simp)
          have k1_w2 : w2.cell? ⟨w.heap.size, 1, none⟩ = some (.int .i64 0) := Ext.cell B2 (by simp)
          have k2_w2 : w2.cell? ⟨w.heap.size, 2, none⟩ = some (.int .i64 0) := Ext.cell B2 (by simp)
          have k3_w2 : w2.cell? ⟨w.heap.size, 3, none⟩ = some (.int .i64 0) := Ext.cell B2 (by simp)
          have f_w2 : ∀ i, w2.frozen? ⟨w.heap.size, i, none⟩ = false := fun i => Ext.free B2 (by first | (simp; done) | (simp; omega)) (by first | (simp; done) | (simp; omega))
          have l0 : w2.cell? ⟨w.heap.size + 1, 0, none⟩ = some (.int .i64 r.seq) := Ext.cell B2 (by simp)
          have l1 : w2.cell? ⟨w.heap.size + 1, 1, none⟩ = some (.int .i64 r.slot) := Ext.cell B2 (by simp)
          have l2 : w2.cell? ⟨w.heap.size + 1, 2, none⟩ = some (.int .i64 r.size) := Ext.cell B2 (by simp)
          have l3 : w2.cell? ⟨w.heap.size + 1, 3, none⟩ = some (.int .i64 r.sum) := Ext.cell B2 (by simp)
          go_wp2
          refine bodyPost_ret (v := .tuple #[recV r, .int .i64 0]) ?_ rfl ?_
          · simp [results, Try.results36, go_sem, recV, k0_w2, k1_w2, k2_w2, k3_w2]
          · exact ⟨congrArg Ending.returned (HG.out.trans (if_pos ⟨(by first | rfl | trivial), HP.out⟩)).symm, (by repeat (first | (with_reducible exact Ext.refl _) | (with_reducible assumption) | (with_reducible refine Ext.drewN ?_ _) | (with_reducible refine Ext.drew ?_) | (with_reducible refine Ext.alloc ?_ _) | (with_reducible refine Ext.setCell ?_ (by first | exact Nat.le_refl _ | (simp <;> omega)) _) | (with_reducible refine Ext.trans ?_ (by with_reducible assumption))))⟩
        · have htest : (!(mk (put r)).toList == s.toList) = true := by rw [beq_bl, bl_mk]; simp [hp]
          have HP := Lib.hid hp
          clear hp
          go_wp2_with fail
          refine (M.out _).mono ?_
          rintro e w2 ⟨rfl, B2⟩
          have k0_w2 : w2.cell? ⟨w.heap.size, 0, none⟩ = some (.int .i64 0) := Ext.cell B2 (by simp)
          have k1_w2 : w2.cell? ⟨w.heap.size, 1, none⟩ = some (.int .i64 0) := Ext.cell B2 (by simp)
          have k2_w2 : w2.cell? ⟨w.heap.size, 2, none⟩ = some (.int .i64 0) := Ext.cell B2 (by simp)
          have k3_w2 : w2.cell? ⟨w.heap.size, 3, none⟩ = some (.int .i64 0) := Ext.cell B2 (by simp)
          have f_w2 : ∀ i, w2.frozen? ⟨w.heap.size, i, none⟩ = false := fun i => Ext.free B2 (by first | (simp; done) | (simp; omega)) (by first | (simp; done) | (simp; omega))
          go_wp2
          refine bodyPost_ret (v := .tuple #[recV Rec.zero, .int .i64 400]) ?_ rfl ?_
          · simp [results, Try.results36, go_sem, recV, Rec.zero, k0_w2, k1_w2, k2_w2, k3_w2]
          · exact ⟨congrArg Ending.returned (HG.out.trans (if_neg fun h => HP.out h.2)).symm, (by repeat (first | (with_reducible exact Ext.refl _) | (with_reducible assumption) | (with_reducible refine Ext.drewN ?_ _) | (with_reducible refine Ext.drew ?_) | (with_reducible refine Ext.alloc ?_ _) | (with_reducible refine Ext.setCell ?_ (by first | exact Nat.le_refl _ | (simp <;> omega)) _) | (with_reducible refine Ext.trans ?_ (by with_reducible assumption))))⟩
  · have hg : Skiff.get (bl s) = none := by
      unfold Skiff.get
      rw [if_neg]
      intro h
      exact h24 (by omega)
    have hn : ((s.size : Int) != 24) = true := by rw [bne_iff_ne]; omega
    have HG := Lib.hid (getRes_none hg)
    clear hg
    go_enter Try.func36, Try.ntmps36
    go_wp2
    refine bodyPost_ret (v := .tuple #[recV Rec.zero, .int .i64 400]) ?_ rfl ?_
    · simp [results, Try.results36, go_sem, recV, Rec.zero]
    · exact ⟨congrArg Ending.returned HG.out.symm, (by repeat (first | (with_reducible exact Ext.refl _) | (with_reducible assumption) | (with_reducible refine Ext.drewN ?_ _) | (with_reducible refine Ext.drew ?_) | (with_reducible refine Ext.alloc ?_ _) | (with_reducible refine Ext.setCell ?_ (by first | exact Nat.le_refl _ | (simp <;> omega)) _) | (with_reducible refine Ext.trans ?_ (by with_reducible assumption))))⟩

end Go.Proofs.Ytclhcfnmpnhflaa
