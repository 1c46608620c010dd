/- StageForms. -/
import Derived.Test.YtclhcfnmpnhflaaStgG
import Derived.Test.YtclhcfnmpnhflaaPx7
set_option linter.unusedVariables false
set_option linter.unusedSimpArgs false
set_option maxHeartbeats 4000000
namespace Go.Proofs.Ytclhcfnmpnhflaa
open Go.RowKit Skiff Go.Proofs.YtclhcfnmpnhflaaW.PrintWords

theorem scanTo_has {f : ByteArray} {i : Nat} {r : Rec} (hs : slotAt f i = some r) : ∀ {n}, i < n → mkPl i r ∈ scanTo f n
  | 0, h => by omega
  | n + 1, h => by
    rw [scanTo, List.mem_append]
    by_cases e : i = n
    · subst e; right; unfold pls; rw [hs]; simp
    · left; exact scanTo_has hs (by omega)
theorem full_bl (r : Rec) : (bl ((mk (put r) ++ (mk flash0).extract 24 768).extract (24 * 0) (24 * 0 + 24))) = put r := by
  rw [bl_extract, bl_append, bl_mk, Nat.mul_zero, List.drop_zero, Nat.zero_add, Nat.sub_zero, List.take_append_of_le_length (by rw [put_length]; exact Nat.le_refl _), List.take_of_length_le (by rw [put_length]; exact Nat.le_refl _)]
theorem full_size : (mk (put ⟨1048576, 0, 5, 0⟩) ++ (mk flash0).extract 24 768).size = 768 := by
  rw [ByteArray.size_append, ByteArray.size_extract, mk_size, fl_size, put_length]; rfl
theorem full_next : nextPair (mk (put ⟨1048576, 0, 5, 0⟩) ++ (mk flash0).extract 24 768) = (0, 801) := by
  have hs : slotAt (mk (put ⟨1048576, 0, 5, 0⟩) ++ (mk flash0).extract 24 768) 0 = some ⟨1048576, 0, 5, 0⟩ := by
    unfold slotAt
    rw [full_bl]
    exact get_put (by decide)
  have h1 := maxSeq_may (mk (put ⟨1048576, 0, 5, 0⟩) ++ (mk flash0).extract 24 768) 8
  have h2 := (maxSeq_ge (l := scanTo (mk (put ⟨1048576, 0, 5, 0⟩) ++ (mk flash0).extract 24 768) 8) (m := 0)).2 _ (scanTo_has hs (by omega : 0 < 8))
  have h3 : (mkPl 0 ⟨1048576, 0, 5, 0⟩).f1.f0 = 1048576 := rfl
  rw [h3] at h2
  unfold nextPair
  rw [if_pos full_size, if_pos (by omega)]
theorem stageForms_f (a x : Int) (f0 : (Lit.int .i64 a).wf = true) (f1 : (Lit.int .i64 x).wf = true) : P.skifflaw9_StageForms.f 300 a x = some true := by
  obtain ⟨d, hd, hd2⟩ : ∃ a : Nat, bits .and .i64 x 1023 = (a : Int) ∧ a < 1024 := and_mask x f1 10 (by omega)
  obtain ⟨b, hb, hb2⟩ : ∃ k : Nat, bits .and .i64 a 1 = (k : Int) ∧ k < 2 := and_mask a f0 1 (by omega)
  have e1 : wrap64 (1 + (d : Int)) = 1 + d := by simp only [wrap64]; omega
  have e2 : wrap64 (-(1 + (d : Int))) = -(1 + d) := by simp only [wrap64]; omega
  have e3 : wrap64 (1 + (1 + (d : Int))) = 1 + (1 + d) := by simp only [wrap64]; omega
  have e4 : wrap64 (1 - (1 + (d : Int))) = 1 - (1 + d) := by simp only [wrap64]; omega
  have e5 : wrap64 (288 + (1 + (d : Int))) = 288 + (1 + d) := by simp only [wrap64]; omega
  have bs : b = 0 ∨ b = 1 := by omega
  obtain ⟨q, hq, hq2⟩ : ∃ q, rd [-(1 + (d : Int)), 1 + (1 + d)] (b : Int) = q ∧ ¬ (0 ≤ q ∧ q ≤ 1) := by
    rcases bs with rfl | rfl
    · exact ⟨_, rfl, by show ¬ (0 ≤ -(1 + (d : Int)) ∧ _ ≤ (1 : Int)); omega⟩
    · exact ⟨_, rfl, by show ¬ ((0 : Int) ≤ 1 + (1 + (d : Int)) ∧ 1 + (1 + (d : Int)) ≤ (1 : Int)); omega⟩
  obtain ⟨p, hp, hp2⟩ : ∃ p, rd [1 - (1 + (d : Int)), 288 + (1 + d)] (b : Int) = p ∧ ¬ (1 ≤ p ∧ p ≤ 288) := by
    rcases bs with rfl | rfl
    · exact ⟨_, rfl, by show ¬ ((1 : Int) ≤ 1 - (1 + (d : Int)) ∧ 1 - (1 + (d : Int)) ≤ (288 : Int)); omega⟩
    · exact ⟨_, rfl, by show ¬ ((1 : Int) ≤ 288 + (1 + (d : Int)) ∧ 288 + (1 + (d : Int)) ≤ (288 : Int)); omega⟩
  have hfl := fl_size
  have R : ∀ f s n, P.stage_Record.f 300 f s n = some (recTup f s n) := fun f s n => rec_f f s n 300 (by omega)
  have r1 : recTup ((mk flash0).extract 1 768) 0 5 = (0, 0, 0, 0, 900) := recTup_no (by rw [ByteArray.size_extract, hfl]; omega)
  have r2 : recTup (mk flash0) q 5 = (0, 0, 0, 0, 900) := recTup_no (by omega)
  have r3 : recTup (mk flash0) 0 p = (0, 0, 0, 0, 900) := recTup_no (by omega)
  have r5 : recTup (mk (put ⟨1048576, 0, 5, 0⟩) ++ (mk flash0).extract 24 768) b 0 = (0, 0, 0, 0, 900) := recTup_no (by omega)
  have r4 : recTup (mk (put ⟨1048576, 0, 5, 0⟩) ++ (mk flash0).extract 24 768) b 5 = (0, 0, 0, 0, 801) := by
    unfold recTup recMayOf
    have hw : within (b : Int) 0 1 = true := Skiff.within_iff.2 (by omega)
    have hw5 : within 5 1 288 = true := by decide
    rw [full_next, full_size, hw, hw5]
    generalize bl ((mk (put ⟨1048576, 0, 5, 0⟩) ++ (mk flash0).extract 24 768).extract (192 + 288 * (b : Int).toNat) (192 + 288 * (b : Int).toNat + (5 : Int).toNat)) = X
    rfl
  have hfs := full_size
  generalize hFF : mk (put ⟨1048576, 0, 5, 0⟩) ++ (mk flash0).extract 24 768 = FF at r4 r5 hfs
  have pp : putPair ⟨1048576, 0, 5, 0⟩ = (mk (put ⟨1048576, 0, 5, 0⟩), 0) := rfl
  have E : erasePair q = ([], 900) := by unfold erasePair; rw [within_no hq2]; rfl
  have s1 : (mk (put ⟨1048576, 0, 5, 0⟩)).size = 24 := by rw [mk_size, put_length]
  have s2 : ((mk flash0).extract 24 768).size = 744 := by rw [ByteArray.size_extract, hfl]; rfl
  unfold P.skifflaw9_StageForms.f P.skiffref1_Blank.f P.skifflaw0_Num.f P.skiffref1_PutEntry.f
  rw [awake9_f]
  simp -implicitDefEqProofs only [Option.bind_some, if_true, hd, hb, e1, e2, e3, e4, e5, hfl, List.length_cons, List.length_nil]
  rw [if_pos (by omega), if_pos (by omega), hq, erases_f q 300 (by omega), E]
  simp -implicitDefEqProofs only [Option.bind_some]
  rw [if_pos (by omega), R, r1]
  simp -implicitDefEqProofs only [Option.bind_some]
  rw [if_pos (by omega), R, r2]
  simp -implicitDefEqProofs only [Option.bind_some]
  rw [if_pos (by omega), hp, R, r3, pp]
  simp -implicitDefEqProofs only [Option.bind_some]
  rw [if_pos (by omega), if_pos (by rw [s1, s2]; omega), hFF, R, r4, R, r5]
  simp -implicitDefEqProofs only [Option.bind_some, if_true]
  obtain ⟨H, hH, hH2⟩ := held9_some
  rw [hH]
  simp -implicitDefEqProofs only [Option.bind_some, hH2]
  rfl
theorem stageForms_walk (a x : Int) (f0 : (Lit.int .i64 a).wf = true) (f1 : (Lit.int .i64 x).wf = true) (w : World) :
    Calls Try.prog 5 #[.int .i64 a, .int .i64 x] w fun e w' => e = .returned (.bool true) ∧ Ext w w' :=
  P.skifflaw9_StageForms.calls 300 a x true w (stageForms_f a x f0 f1)

end Go.Proofs.Ytclhcfnmpnhflaa
