/- StageErases. -/
import Derived.Test.YtclhcfnmpnhflaaStgG
import Derived.Test.YtclhcfnmpnhflaaPx8
import Derived.Test.YtclhcfnmpnhflaaNorP
set_option linter.unusedVariables false
set_option linter.unusedSimpArgs false
set_option maxHeartbeats 4000000
namespace Go.Proofs.Ytclhcfnmpnhflaa
open Go.RowKit Skiff Go.Proofs.YtclhcfnmpnhflaaW.PrintWords

theorem worn3 (l : List UInt8) (a : Nat) (h : a + 288 ≤ l.length) : wornF (wornF (wornF l a 96) (a + 96) 96) (a + 192) 96 = l.take a ++ (List.replicate 288 255 ++ l.drop (a + 288)) := by
  have l1 := wornF_length l a 96 (by omega)
  have l2 := wornF_length (wornF l a 96) (a + 96) 96 (by omega)
  have l3 := wornF_length (wornF (wornF l a 96) (a + 96) 96) (a + 192) 96 (by omega)
  apply ext_getD
  · rw [l3, l2, l1, List.length_append, List.length_append, List.length_replicate, List.length_take, List.length_drop]; omega
  intro i
  rw [wornF_at _ _ _ _ (by omega), wornF_at _ _ _ _ (by omega), wornF_at _ _ _ _ (by omega)]
  have la : (l.take a).length = a := by rw [List.length_take]; omega
  by_cases c1 : i < a
  · rw [if_neg (by omega), if_neg (by omega), if_neg (by omega)]
    rw [List.getD_eq_getElem?_getD, List.getD_eq_getElem?_getD, List.getElem?_append_left (by omega), List.getElem?_take, if_pos c1]
  · by_cases c2 : i < a + 288
    · have e : (List.take a l ++ (List.replicate 288 255 ++ List.drop (a + 288) l)).getD i 0 = 255 := by
        rw [List.getD_eq_getElem?_getD, List.getElem?_append_right (by omega), la, List.getElem?_append_left (by rw [List.length_replicate]; omega), List.getElem?_replicate, if_pos (by omega)]; rfl
      rw [e]
      by_cases c3 : a + 192 ≤ i
      · rw [if_pos (by omega)]
      · rw [if_neg (by omega)]
        by_cases c4 : a + 96 ≤ i
        · rw [if_pos (by omega)]
        · rw [if_neg (by omega), if_pos (by omega)]
    · rw [if_neg (by omega), if_neg (by omega), if_neg (by omega)]
      rw [List.getD_eq_getElem?_getD, List.getD_eq_getElem?_getD, List.getElem?_append_right (by omega), la, List.getElem?_append_right (by rw [List.length_replicate]; omega), List.length_replicate, List.getElem?_drop, show a + 288 + (i - a - 288) = i by omega]
theorem erases_l0 (f : ByteArray) (hf : f.size = 768) (n : Nat) (hn : n < 2) (x : ByteArray) (hx : x.size = 768) (i k : Nat) (hi : i < 3) : P.skifflaw9_StageErases.l0 (k + 2) f n (eraseOps n) x (i : Int) = P.skifflaw9_StageErases.l0 (k + 1) f n (eraseOps n) (mk (wornF (bl x) (96 * (2 + 3 * n + i)) 96)) ((i + 1 : Nat) : Int) := by
  have e2 : wrap64 ((i : Int) + 1) = ((i + 1 : Nat) : Int) := by simp only [wrap64]; omega
  have hr : P.rd_T53 (eraseOps n) (i : Int) = eraseOp n i := by
    have : i = 0 ∨ i = 1 ∨ i = 2 := by omega
    rcases this with rfl | rfl | rfl <;> rfl
  have hd := do_erase x hx (2 + 3 * n + i) k (by omega)
  have ha : 192 + 288 * (n : Int) + 96 * (i : Int) = 96 * ((2 + 3 * n + i : Nat) : Int) := by omega
  have hl : (eraseOps (n : Int)).length = 3 := rfl
  show P.skifflaw9_StageErases.l0 ((k + 1) + 1) f n (eraseOps n) x (i : Int) = _
  rw [P.skifflaw9_StageErases.l0]
  rw [if_pos (by omega), if_pos (by omega), hr]
  unfold eraseOp
  simp only
  rw [ha, hd]
  rw [Option.bind_some]
  rw [if_pos rfl, e2]
theorem erases_end (f : ByteArray) (hf : f.size = 768) (n : Nat) (hn : n < 2) (k : Nat) : P.skifflaw9_StageErases.l0 (k + 1) f n (eraseOps n) (mk ((bl f).take (192 + 288 * n) ++ (List.replicate 288 255 ++ (bl f).drop (192 + 288 * n + 288)))) 3 = some true := by
  have lf : (bl f).length = 768 := by rw [bl_length, hf]
  have la : ((bl f).take (192 + 288 * n)).length = 192 + 288 * n := by rw [List.length_take]; omega
  have zX : (mk ((bl f).take (192 + 288 * n) ++ (List.replicate 288 255 ++ (bl f).drop (192 + 288 * n + 288)))).size = 768 := by
    rw [mk_size, List.length_append, List.length_append, List.length_replicate, la, List.length_drop]; omega
  have x1 : (mk ((bl f).take (192 + 288 * n) ++ (List.replicate 288 255 ++ (bl f).drop (192 + 288 * n + 288)))).extract 0 (192 + 288 * n) = f.extract 0 (192 + 288 * n) := by
    apply bl_inj
    rw [bl_extract, bl_extract, bl_mk]
    simp only [List.drop_zero, Nat.sub_zero]
    rw [List.take_append_of_le_length (by omega), List.take_take, Nat.min_self]
  have x2 : (mk ((bl f).take (192 + 288 * n) ++ (List.replicate 288 255 ++ (bl f).drop (192 + 288 * n + 288)))).extract (192 + 288 * n) (192 + 288 * n + 288) = (mk flash0).extract 0 288 := by
    apply bl_inj
    rw [bl_extract, bl_extract, bl_mk, bl_mk, List.drop_append, la, Nat.sub_self, List.drop_of_length_le (by omega), List.nil_append, List.drop_zero, show 192 + 288 * n + 288 - (192 + 288 * n) = 288 by omega, List.take_append_of_le_length (by rw [List.length_replicate]; exact Nat.le_refl _), List.drop_zero]
    unfold flash0
    rw [List.take_replicate, List.take_replicate]; rfl
  have x3 : (mk ((bl f).take (192 + 288 * n) ++ (List.replicate 288 255 ++ (bl f).drop (192 + 288 * n + 288)))).extract (192 + 288 * n + 288) 768 = f.extract (192 + 288 * n + 288) 768 := by
    apply bl_inj
    rw [bl_extract, bl_extract, bl_mk, List.drop_append, la, List.drop_of_length_le (by omega), List.nil_append, show 192 + 288 * n + 288 - (192 + 288 * n) = 288 by omega, List.drop_append, List.drop_of_length_le (by rw [List.length_replicate]; exact Nat.le_refl _), List.length_replicate, Nat.sub_self, List.nil_append, List.drop_zero]
  generalize mk ((bl f).take (192 + 288 * n) ++ (List.replicate 288 255 ++ (bl f).drop (192 + 288 * n + 288))) = X at *
  have hA : wrap64 (192 + wrap64 (288 * (n : Int))) = 192 + 288 * (n : Int) := by simp only [wrap64]; omega
  have hB : wrap64 (192 + 288 * (n : Int) + 288) = 192 + 288 * (n : Int) + 288 := by simp only [wrap64]; omega
  have tA : (192 + 288 * (n : Int)).toNat = 192 + 288 * n := by omega
  have tB : (192 + 288 * (n : Int) + 288).toNat = 192 + 288 * n + 288 := by omega
  have hl : (eraseOps (n : Int)).length = 3 := rfl
  have hfl := fl_size
  rw [P.skifflaw9_StageErases.l0, P.skiffref1_Blank.f, hA, hB, tA, tB]
  rw [if_neg (by omega), if_pos (by omega), if_pos (by omega), if_pos (by omega), if_pos (by omega), x1, if_pos rfl, if_pos (by omega), if_pos (by omega)]
  rw [Option.bind_some, if_pos (by omega), if_pos (by omega), x2, if_pos rfl, if_pos (by omega), if_pos (by omega), zX, hf, x3]
  rw [beq_self_eq_true]
theorem stageErases_f (f : ByteArray) (s : Int) (f1 : (Lit.int .i64 s).wf = true) : P.skifflaw9_StageErases.f 300 f s = some true := by
  obtain ⟨n, hn, hn2⟩ : ∃ k : Nat, bits .and .i64 s 1 = (k : Int) ∧ k < 2 := and_mask s f1 1 (by omega)
  have E : erasePair (n : Int) = (eraseOps n, 0) := by unfold erasePair; rw [if_pos (Skiff.within_iff.2 (by omega))]
  unfold P.skifflaw9_StageErases.f P.skifflaw0_Num.f
  rw [awake9_f, hn, erases_f n 300 (by omega), E]
  simp -implicitDefEqProofs only [Option.bind_some, if_true]
  show P.skifflaw9_StageErases.j0 (299 + 1) f n (eraseOps n) 0 ((f.size : Int) != 768) = some true
  rw [P.skifflaw9_StageErases.j0]
  by_cases hf : f.size = 768
  · have hb : ((f.size : Int) != 768) = false := by rw [hf]; rfl
    rw [hb]
    rw [if_neg Bool.false_ne_true]
    have lf : (bl f).length = 768 := by rw [bl_length, hf]
    have z1 : (mk (wornF (bl f) (96 * (2 + 3 * n + 0)) 96)).size = 768 := by rw [mk_size, wornF_length _ _ _ (by omega), lf]
    have z2 : (mk (wornF (bl (mk (wornF (bl f) (96 * (2 + 3 * n + 0)) 96))) (96 * (2 + 3 * n + 1)) 96)).size = 768 := by rw [mk_size, wornF_length _ _ _ (by rw [bl_length, z1]; omega), bl_length, z1]
    have h0 := erases_l0 f hf n hn2 f hf 0 297 (by omega)
    have h1 := erases_l0 f hf n hn2 _ z1 1 296 (by omega)
    have h2 := erases_l0 f hf n hn2 _ z2 2 295 (by omega)
    refine (h0.trans (h1.trans h2)).trans ?_
    have hw : mk (wornF (bl (mk (wornF (bl (mk (wornF (bl f) (96 * (2 + 3 * n + 0)) 96))) (96 * (2 + 3 * n + 1)) 96))) (96 * (2 + 3 * n + 2)) 96) = mk ((bl f).take (192 + 288 * n) ++ (List.replicate 288 255 ++ (bl f).drop (192 + 288 * n + 288))) := by
      rw [bl_mk, bl_mk, ← worn3 (bl f) (192 + 288 * n) (by omega)]
      rw [show 96 * (2 + 3 * n + 0) = 192 + 288 * n by omega, show 96 * (2 + 3 * n + 1) = 192 + 288 * n + 96 by omega, show 96 * (2 + 3 * n + 2) = 192 + 288 * n + 192 by omega]
    rw [hw]
    exact erases_end f hf n hn2 295
  · have hb : ((f.size : Int) != 768) = true := by rw [bne_iff_ne]; omega
    rw [hb]
    simp [P.skifflaw0_Num.f]
theorem stageErases_walk (f : ByteArray) (s : Int) (hf : f.size ≤ 140737488351232) (f1 : (Lit.int .i64 s).wf = true) (w : World) :
    Calls Try.prog 6 #[.string f, .int .i64 s] w fun e w' => e = .returned (.bool true) ∧ Ext w w' :=
  P.skifflaw9_StageErases.calls 300 f s true w (stageErases_f f s f1)

end Go.Proofs.Ytclhcfnmpnhflaa
