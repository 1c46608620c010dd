
/- The reference's Worn and Erase. -/
import Derived.Test.YtclhcfnmpnhflaaRefN
set_option linter.unusedVariables false
set_option linter.unusedSimpArgs false
set_option maxHeartbeats 4000000
namespace Go.Proofs.Ytclhcfnmpnhflaa
open Go.RowKit Skiff

theorem rworn_calls (f : ByteArray) (x n : Int) (w : World) :
    Calls Try.prog 50 #[.string f, .int .i64 x, .int .i64 n] w fun e w' => e = .returned (tornRes (worn (bl f) x n)) ∧ Ext w w' := by
  have C1 := Lib.hid (fun w => flashMay_calls f w)
  have C2 := Lib.hid (fun w => upTo_calls x 0 7 w)
  have C3 := Lib.hid (fun w => upTo_calls n 0 96 w)
  by_cases h1 : f.size = 768
  case neg =>
    have HG : Hid (tornRes (worn (bl f) x n) = .tuple #[.string (mk []), .int .i64 200]) := by
      show _ = _
      unfold worn wornMay
      rw [bl_length, decide_eq_false h1]; rfl
    rw [decide_eq_false h1] at C1
    clear h1
    go_enter Try.func50, Try.ntmps50
    go_wp2_with fail
    refine (C1.out _).mono ?_
    rintro e w1 ⟨rfl, rfl⟩
    go_wp2
    go_ret2
    exact ⟨congrArg Ending.returned HG.out.symm, (by repeat (first | (with_reducible exact Ext.refl _) | (with_reducible assumption) | (with_reducible refine Ext.drewN ?_ _) | (with_reducible refine Ext.drew ?_) | (with_reducible refine Ext.alloc ?_ _) | (with_reducible refine Ext.setCell ?_ (by first | exact Nat.le_refl _ | (simp <;> omega)) _) | (with_reducible refine Ext.trans ?_ (by with_reducible assumption))))⟩
  case pos =>
  cases h2 : within x 0 7
  case false =>
    have HG : Hid (tornRes (worn (bl f) x n) = .tuple #[.string (mk []), .int .i64 200]) := by
      show _ = _
      unfold worn wornMay
      rw [h2, Bool.and_false]; rfl
    rw [decide_eq_true h1] at C1
    rw [h2] at C2
    clear h1 h2
    go_enter Try.func50, Try.ntmps50
    go_wp2_with fail
    refine (C1.out _).mono ?_
    rintro e w2 ⟨rfl, rfl⟩
    go_wp2_with fail
    refine (C2.out _).mono ?_
    rintro e w3 ⟨rfl, rfl⟩
    go_wp2
    go_ret2
    exact ⟨congrArg Ending.returned HG.out.symm, (by repeat (first | (with_reducible exact Ext.refl _) | (with_reducible assumption) | (with_reducible refine Ext.drewN ?_ _) | (with_reducible refine Ext.drew ?_) | (with_reducible refine Ext.alloc ?_ _) | (with_reducible refine Ext.setCell ?_ (by first | exact Nat.le_refl _ | (simp <;> omega)) _) | (with_reducible refine Ext.trans ?_ (by with_reducible assumption))))⟩
  case true =>
  cases h4 : within n 0 96
  case false =>
    have HG : Hid (tornRes (worn (bl f) x n) = .tuple #[.string (mk []), .int .i64 200]) := by
      show _ = _
      unfold worn wornMay
      rw [h4, Bool.and_false]; rfl
    rw [decide_eq_true h1] at C1
    rw [h2] at C2
    rw [h4] at C3
    clear h1 h2 h4
    go_enter Try.func50, Try.ntmps50
    go_wp2_with fail
    refine (C1.out _).mono ?_
    rintro e w4 ⟨rfl, rfl⟩
    go_wp2_with fail
    refine (C2.out _).mono ?_
    rintro e w5 ⟨rfl, rfl⟩
    go_wp2_with fail
    refine (C3.out _).mono ?_
    rintro e w6 ⟨rfl, rfl⟩
    go_wp2
    go_ret2
    exact ⟨congrArg Ending.returned HG.out.symm, (by repeat (first | (with_reducible exact Ext.refl _) | (with_reducible assumption) | (with_reducible refine Ext.drewN ?_ _) | (with_reducible refine Ext.drew ?_) | (with_reducible refine Ext.alloc ?_ _) | (with_reducible refine Ext.setCell ?_ (by first | exact Nat.le_refl _ | (simp <;> omega)) _) | (with_reducible refine Ext.trans ?_ (by with_reducible assumption))))⟩
  case true =>
  obtain ⟨hn0, hn1⟩ := Skiff.within_iff.1 h4
  obtain ⟨hx0, hx1⟩ := Skiff.within_iff.1 h2
  obtain ⟨k, rfl⟩ := Int.eq_ofNat_of_zero_le hn0
  obtain ⟨j, rfl⟩ := Int.eq_ofNat_of_zero_le hx0
  have HG : Hid (worn (bl f) j k = some (wornF (bl f) (j * 96) k)) := by
    show _ = _
    unfold worn wornMay
    rw [bl_length, decide_eq_true h1, h2, h4, Nat.mul_comm j 96]
    rfl
  rw [decide_eq_true h1] at C1
  rw [h2] at C2
  rw [h4] at C3
  clear h2 h4
  have C4 := Lib.hid (fun w => rfull_calls k (by omega) w)
  have c0 : (j : Int) * 96 ≤ 768 := by omega
  have c1 : (j : Int) * 96 + (k : Int) ≤ 768 := by omega
  have c2 : 0 ≤ (j : Int) * 96 + (k : Int) := by omega
  have c3 : ((j : Int) * 96 + (k : Int)).toNat = j * 96 + k := by omega
  have c4 : ((j : Int) * 96).toNat = j * 96 := by omega
  have c5 : IntKind.i64.wrap ((j : Int) * 96 + (k : Int)) = (j : Int) * 96 + (k : Int) := wrap_i64_fit _ (by omega) (by omega)
  have c6 : 0 ≤ (j : Int) * 96 := by omega
  have he : f.extract 0 (j * 96) ++ mk (List.replicate k 255) ++ f.extract (j * 96 + k) 768 = mk (wornF (bl f) (j * 96) k) := by
    rw [← mk_bl (f.extract 0 (j * 96) ++ mk (List.replicate k 255) ++ f.extract (j * 96 + k) 768)]
    congr 1
    rw [bl_append, bl_append, bl_extract, bl_extract, bl_mk]
    unfold wornF
    rw [List.take_of_length_le (by simp; omega : ((bl f).drop (j * 96 + k)).length ≤ 768 - (j * 96 + k))]
    simp
  have hrs : (mk (List.replicate k 255)).size = k := by rw [mk_size, List.length_replicate]
  have hs1 : (f.extract 0 (j * 96)).size = j * 96 := by simp; omega
  have hs2 : (f.extract (j * 96 + k) 768).size = 768 - (j * 96 + k) := by simp; omega
  have q1 : ¬ (9223372036854775807 < j * 96 + k) := by omega
  have q2 : ¬ (9223372036854775807 < j * 96 + k + (768 - (j * 96 + k))) := by omega
  generalize mk (List.replicate k 255) = R at *
  have HE := Lib.hid he
  clear he
  go_enter Try.func50, Try.ntmps50
  go_wp2_with fail
  refine (C1.out _).mono ?_
  rintro e w7 ⟨rfl, rfl⟩
  go_wp2_with fail
  refine (C2.out _).mono ?_
  rintro e w8 ⟨rfl, rfl⟩
  go_wp2_with fail
  refine (C3.out _).mono ?_
  rintro e w9 ⟨rfl, rfl⟩
  go_wp2
  go_region_held3 (fun w' => Ext w w') ( repeat (first | (with_reducible exact Ext.refl _) | (with_reducible assumption) | (with_reducible refine Ext.drewN ?_ _) | (with_reducible refine Ext.drew ?_) | (with_reducible refine Ext.alloc ?_ _) | (with_reducible refine Ext.setCell ?_ (by first | exact Nat.le_refl _ | (simp <;> omega)) _) | (with_reducible refine Ext.trans ?_ (by with_reducible assumption)))) (first | (go_at_call 37; (with_reducible refine (C4.out _).mono ?_); rintro e w' ⟨rfl, B⟩))
  all_goals
    rw [HE.out]
    go_wp2
    go_ret2
    exact ⟨congrArg Ending.returned (congrArg tornRes HG.out).symm, (by first | assumption | exact (by repeat (first | (with_reducible exact Ext.refl _) | (with_reducible assumption) | (with_reducible refine Ext.drewN ?_ _) | (with_reducible refine Ext.drew ?_) | (with_reducible refine Ext.alloc ?_ _) | (with_reducible refine Ext.setCell ?_ (by first | exact Nat.le_refl _ | (simp <;> omega)) _) | (with_reducible refine Ext.trans ?_ (by with_reducible assumption)))))⟩


end Go.Proofs.Ytclhcfnmpnhflaa
