/- Images, ImageForms. -/
import Derived.Test.YtbibmdnjidmchaaPx6
import Derived.Test.YtbibmdnjidmchaaImgP
set_option linter.unusedVariables false
set_option linter.unusedSimpArgs false
set_option maxHeartbeats 4000000
namespace Go.Proofs.Ytbibmdnjidmchaa
open Go.RowKit Skiff Go.Proofs.YtbibmdnjidmchaaW.PrintWords

theorem awake6_f : P.skifflaw6_awake.f 300 = some true := by kernel_rfl

theorem images_f (f : ByteArray) (r : Rec) (s : Int) : P.skifflaw6_Images.f 300 f r.seq r.slot r.size r.sum s = some true := by
  unfold P.skifflaw6_Images.f P.skifflaw0_Num.f
  rw [base_f, rbase_f, of_f, rof_f, good_f, rgood_f, awake6_f]
  simp
theorem images_walk (f : ByteArray) (r : Rec) (s : Int) (hf : f.size ≤ 140737488351232) (f1 : (Lit.int .i64 s).wf = true) (w : World) :
    Calls Try.prog 3 #[.string f, (.agg #[.int .i64 r.seq, .int .i64 r.slot, .int .i64 r.size, .int .i64 r.sum]), .int .i64 s] w fun e w' => e = .returned (.bool true) ∧ Ext w w' :=
  P.skifflaw6_Images.calls 300 f r.seq r.slot r.size r.sum s true w (images_f f r s)

theorem imageForms_f (a x : Int) (f0 : (Lit.int .i64 a).wf = true) (f1 : (Lit.int .i64 x).wf = true) : P.skifflaw6_ImageForms.f 300 a x = some true := by
  obtain ⟨d, hd, hd2⟩ : ∃ a : Nat, bits .and .i64 x 1023 = (a : Int) ∧ a < 1024 := and_mask x f1 10 (by omega)
  obtain ⟨b, hb, hb2⟩ : ∃ k : Nat, bits .and .i64 a 1 = (k : Int) ∧ k < 2 := and_mask a f0 1 (by omega)
  have e1 : wrap64 (1 + (d : Int)) = 1 + d := by simp only [wrap64]; omega
  have J : ∀ (q : Rec) (k : Nat), recMay q = false → P.skifflaw6_ImageForms.j0 (k + 1) a (1 + d) (mk flash0) 1 0 5 0 q.seq q.slot q.size q.sum = some true := by
    intro q k hq
    have g1 := of_f (mk flash0) q
    have g2 := good_f (mk flash0) q
    have g3 := of_f ((mk flash0).extract 1 768) ⟨1, 0, 5, 0⟩
    have g4 := good_f ((mk flash0).extract 1 768) ⟨1, 0, 5, 0⟩
    have hsz : (mk flash0).size = 768 := by rw [mk_size, flash0_length]
    have m1 : imageMay (mk flash0) q = false := by unfold imageMay; rw [hq, Bool.and_false]
    have m2 : imageMay ((mk flash0).extract 1 768) ⟨1, 0, 5, 0⟩ = false := by unfold imageMay; rw [ByteArray.size_extract, hsz]; rfl
    unfold imagePair at g1 g3
    unfold goodPair at g2 g4
    rw [m1] at g1 g2
    rw [m2] at g3 g4
    simp only [Bool.false_eq_true, if_false] at g1 g2 g3 g4
    have he : (⟨#[]⟩ : ByteArray).toList = [] := by decide +kernel
    simp only [P.skifflaw6_ImageForms.j0, hb, Option.bind_some, e1]
    have e2 : wrap64 (-(1 + (d : Int))) = -(1 + d) := by simp only [wrap64]; omega
    have e3 : wrap64 (1 + (1 + (d : Int))) = 1 + (1 + d) := by simp only [wrap64]; omega
    rw [e2, e3, hsz]
    rw [if_pos (by omega), if_pos (by simp; omega)]
    have hB : P.image_Base.f (rd [-(1 + (d : Int)), 1 + (1 + d)] (b : Int)) = some (0, 600) := by
      rw [base_f]
      have : within (rd [-(1 + (d : Int)), 1 + (1 + d)] (b : Int)) 0 1 = false := by
        rw [Bool.eq_false_iff]
        intro h
        have h := Skiff.within_iff.1 h
        have : b = 0 ∨ b = 1 := by omega
        rcases this with rfl | rfl
        · have : rd [-(1 + (d : Int)), 1 + (1 + d)] ((0 : Nat) : Int) = -(1 + d) := rfl
          omega
        · have : rd [-(1 + (d : Int)), 1 + (1 + d)] ((1 : Nat) : Int) = 1 + (1 + d) := rfl
          omega
      unfold baseOf
      rw [this]; rfl
    rw [hB, g1, g2]
    simp only [Option.bind_some]
    rw [if_pos (by omega), g3, g4]
    simp [P.skifflaw0_Num.f, he]
  unfold P.skifflaw6_ImageForms.f P.skiffref1_Blank.f
  rw [awake6_f]
  simp only [Option.bind_some, hd, e1, if_true]
  split
  · exact J ⟨0, 0, 5, 0⟩ 299 (by decide)
  · split
    · refine J ⟨1, 0, wrap64 (288 + (1 + (d : Int))), 0⟩ 299 ?_
      rw [Bool.eq_false_iff]; intro h
      have h := recMay_iff.1 h
      simp only [wrap64] at h
      omega
    · split
      · refine J ⟨1, wrap64 (1 + (1 + (d : Int))), 5, 0⟩ 299 ?_
        rw [Bool.eq_false_iff]; intro h
        have h := recMay_iff.1 h
        simp only [wrap64] at h
        omega
      · refine J ⟨1, 0, 5, wrap64 (-(1 + (d : Int)))⟩ 299 ?_
        rw [Bool.eq_false_iff]; intro h
        have h := recMay_iff.1 h
        simp only [wrap64] at h
        omega
theorem imageForms_walk (a x : Int) (f0 : (Lit.int .i64 a).wf = true) (f1 : (Lit.int .i64 x).wf = true) (w : World) :
    Calls Try.prog 4 #[.int .i64 a, .int .i64 x] w fun e w' => e = .returned (.bool true) ∧ Ext w w' :=
  P.skifflaw6_ImageForms.calls 300 a x true w (imageForms_f a x f0 f1)

end Go.Proofs.Ytbibmdnjidmchaa
