/- TickRow. -/
import Derived.Test.YtgoeooghoojdgaaZ2TikR
import Derived.Test.YtgoeooghoojdgaaZ2Px14
set_option linter.unusedVariables false
set_option linter.unusedSimpArgs false
set_option maxHeartbeats 4000000
namespace Go.Proofs.Ytgoeooghoojdgaa
open Go.RowKit Skiff Go.Proofs.YtgoeooghoojdgaaW.PrintWords Go.Proofs.YtgoeooghoojdgaaW.PrintMore O

theorem row_l0 (t : ByteArray) (c : Int) (os : List Opn) (h : ∀ o ∈ os, InSlot o) (hs : os.length ≤ 768) (kk : Nat) (hkk : kk < os.length) (d : Nat) : ∀ (K i : Nat) (l : List UInt8), i + d = kk → d + 3 < K → Out l →
    ∃ l', Out l' ∧ ∃ K', K = K' + d ∧ P.skifflaw18_TickRow.l0 K t c os (kk : Int) (mk l) (i : Int) 2 0 0 0 0 (os.drop i) = P.skifflaw18_TickRow.l0 K' t c os (kk : Int) (mk l') (kk : Int) 2 0 0 0 0 (os.drop kk) := by
  induction d with
  | zero =>
    intro K i l h1 h2 h3
    obtain rfl : i = kk := by omega
    exact ⟨l, h3, K, rfl, rfl⟩
  | succ d ih =>
    intro K i l h1 h2 h3
    obtain ⟨K, rfl⟩ : ∃ m, K = m + 1 := ⟨K - 1, by omega⟩
    have e2 : wrap64 ((i : Int) + 1) = ((i + 1 : Nat) : Int) := by simp only [wrap64]; omega
    have hd := List.drop_eq_getElem_cons (show i < os.length by omega)
    have hsl := drop_slot h i
    rw [hd] at hsl
    have ho := hsl _ (List.mem_cons_self ..)
    obtain ⟨l', hl', K', hK, he⟩ := ih K (i + 1) _ (by omega) (by omega) (out_step h3 ho 96 (by omega))
    refine ⟨l', hl', K', by omega, ?_⟩
    have hne : os.drop (i + 1) ≠ [] := by
      intro e
      have := congrArg List.length e
      rw [List.length_drop] at this
      simp at this
      omega
    rw [P.skifflaw18_TickRow.l0, if_pos (by omega), hd, busy_step l h3.1 _ _ hsl (by rw [List.length_cons, List.length_drop]; omega) K (by omega), Option.bind_some]
    dsimp only
    rw [P.skifflaw0_Num.f, Option.bind_some, if_pos rfl, e2, if_neg hne]
    exact he
theorem row_l1 (t : ByteArray) (os : List Opn) (h : ∀ o ∈ os, InSlot o) (hs : os.length ≤ 768) (d : Nat) : ∀ (K i : Nat) (l : List UInt8), i + d + 1 = os.length → d + 4 < K → l.length = 768 →
    P.skifflaw18_TickRow.l1 K t os (mk l) 0 (i : Int) 2 0 0 0 0 (os.drop i) = P.skifflaw18_TickRow.l1 (K - (d + 1)) t os (mk (runL l (os.drop i))) 0 (os.length : Int) 1 0 0 0 0 [] := by
  induction d with
  | zero =>
    intro K i l h1 h2 h3
    obtain ⟨K, rfl⟩ : ∃ m, K = m + 1 := ⟨K - 1, by omega⟩
    have e2 : wrap64 ((i : Int) + 1) = (os.length : Int) := by simp only [wrap64]; omega
    have hd := List.drop_eq_getElem_cons (show i < os.length by omega)
    have hn : os.drop (i + 1) = [] := List.drop_of_length_le (by omega)
    rw [hn] at hd
    have hsl := drop_slot h i
    rw [hd] at hsl ⊢
    rw [P.skifflaw18_TickRow.l1, if_pos (by omega), busy_step l h3 _ _ hsl (by simp) K (by omega), Option.bind_some]
    dsimp only
    rw [P.skifflaw0_Num.f, Option.bind_some, if_pos rfl, e2, if_pos rfl]
    rfl
  | succ d ih =>
    intro K i l h1 h2 h3
    obtain ⟨K, rfl⟩ : ∃ m, K = m + 1 := ⟨K - 1, by omega⟩
    have e2 : wrap64 ((i : Int) + 1) = ((i + 1 : Nat) : Int) := by simp only [wrap64]; omega
    have hd := List.drop_eq_getElem_cons (show i < os.length by omega)
    have hsl := drop_slot h i
    rw [hd] at hsl
    have ho := hsl _ (List.mem_cons_self ..)
    have hr := ih K (i + 1) (opF l (os[i]'(by omega)).f0 (os[i]'(by omega)).f1 (bl (os[i]'(by omega)).f2) 96) (by omega) (by omega) (opF_length h3 ho.1 (by omega))
    have hne : os.drop (i + 1) ≠ [] := by
      intro e
      have := congrArg List.length e
      rw [List.length_drop] at this
      simp at this
      omega
    rw [P.skifflaw18_TickRow.l1, if_pos (by omega), hd, busy_step l h3 _ _ hsl (by rw [List.length_cons, List.length_drop]; omega) K (by omega), Option.bind_some]
    dsimp only
    rw [P.skifflaw0_Num.f, Option.bind_some, if_pos rfl, e2, if_neg hne, hr, show K + 1 - (d + 1 + 1) = K - (d + 1) by omega]
    rfl
theorem row_end (t : ByteArray) (os : List Opn) (l : List UInt8) (hw : Wrote l 192 (bl t) (manyL (bl t))) (ht : t.size ≤ 288) (K : Nat) (hK : 250 < K) :
    P.skifflaw18_TickRow.l1 K t os (mk l) 0 (os.length : Int) 1 0 0 0 0 [] = some true := by
  obtain ⟨K, rfl⟩ : ∃ m, K = m + 1 := ⟨K - 1, by omega⟩
  obtain ⟨w1, w2, w3⟩ := wrote_all hw (by rw [bl_length]; omega)
  rw [bl_length] at w2 w3
  have hz : (mk l).size = 768 := by rw [mk_size, hw.1]
  have e1 : wrap64 (192 + (t.size : Int)) = 192 + (t.size : Int) := by simp only [wrap64]; omega
  have e3 : (192 + (t.size : Int)).toNat = 192 + t.size := by omega
  have x1 : ((mk l).extract 192 (192 + t.size)).toList = t.toList := by
    rw [toList_bl, toList_bl, bl_extract, bl_mk, show 192 + t.size - 192 = t.size by omega, w2]
  have x2 : ((mk l).extract 0 192).toList = ((mk flash0).extract 0 192).toList := by
    rw [toList_bl, toList_bl, bl_extract, bl_extract, bl_mk, bl_mk, List.drop_zero, List.drop_zero, Nat.sub_zero, w1]
  have x3 : ((mk l).extract (192 + t.size) 768).toList = ((mk flash0).extract (192 + t.size) 768).toList := by
    rw [toList_bl, toList_bl, bl_extract, bl_extract, bl_mk, bl_mk, w3]
  have z0 := fl_size
  have s1 := sent18 K (by omega)
  have sl := sent_len
  generalize sentL = L at s1 sl
  clear w1 w2 w3 hw
  generalize mk l = A at *
  rw [P.skifflaw18_TickRow.l1, P.skiffref1_Blank.f]
  generalize mk flash0 = F at *
  rw [if_neg (by omega), P.skifflaw0_Num.f, Option.bind_some, if_pos rfl, hz, if_pos (by rfl), e1, e3, if_pos (by omega), if_pos (by omega), if_pos x1, if_pos (by omega), if_pos (by omega), Option.bind_some, z0, if_pos (by omega), if_pos x2, if_pos (by omega), Option.bind_some, z0, if_pos (by omega), if_pos x3, if_pos rfl, s1, Option.bind_some]
  dsimp only
  rw [sl]; rfl
theorem tickRow_f (t : ByteArray) (a c : Int) (ht : t.size ≤ 140737488351232) : P.skifflaw18_TickRow.f 500 t a c = some true := by
  have aw : P.skifflaw18_awake.f 500 = some true := by
    have up : ∀ j, P.skifflaw18_awake.f (300 + j) = some true := fun j => by
      induction j with
      | zero => exact awake18_f
      | succ j ih => exact P.skifflaw18_awake.mono (300 + j) _ ih
    exact up 200
  have er : P.skiffref1_Erases.f 500 0 = some (erase0, 0) := by kernel_rfl
  obtain ⟨b, hb, hb2⟩ : ∃ k : Nat, wrap64 ((IntKind.u64.wrap c).tmod 97) = (k : Int) ∧ k < 97 := mod_nat c 97 (by omega) (by omega)
  unfold P.skifflaw18_TickRow.f
  rw [aw, Option.bind_some, if_pos rfl, er, Option.bind_some, rwords_f 192 t 500 (by omega) ht, Option.bind_some]
  unfold wordsPair
  cases hm : wordsMay 192 (bl t)
  · rw [if_neg Bool.false_ne_true, if_neg (by decide)]
    show P.skifflaw18_TickRow.j0 (499 + 1) _ _ _ _ _ true = _
    rw [P.skifflaw18_TickRow.j0, if_pos rfl]
  rw [if_pos rfl, if_pos rfl]
  dsimp only
  show P.skifflaw18_TickRow.j0 (499 + 1) _ _ _ _ _ _ = _
  rw [P.skifflaw18_TickRow.j0]
  by_cases hs : (t.size : Int) > 288
  · rw [decide_eq_true hs, if_pos rfl]
  have hts : (bl t).length ≤ 288 := by rw [bl_length]; omega
  have hal := allOps_len (bl t)
  have hmn : manyL (bl t) ≤ 72 := by unfold manyL; omega
  have hwl := wordOps_length 192 (bl t) (manyL (bl t))
  have hS := all_slot (bl t) hts
  have hy : (([] ++ erase0 : List Opn) ++ wordOps 192 (bl t) (manyL (bl t))) = allOps (bl t) := rfl
  have hu : IntKind.u64.wrap (((allOps (bl t)).length : Int)) = ((allOps (bl t)).length : Int) := by rw [hal, IntKind.wrap_u64]; omega
  obtain ⟨kk, hkk, hkk2⟩ := mod_nat a (3 + manyL (bl t)) (by omega) (by omega)
  rw [decide_eq_false hs, if_neg Bool.false_ne_true, Option.bind_some, if_pos (by show 3 + 0 < _ ; omega), Option.bind_some, if_pos (by rw [hwl]; show 3 + _ < _; omega), Option.bind_some, hy, hu, if_neg (by rw [hal]; omega), P.skiffref1_Blank.f, Option.bind_some, hal, hkk]
  rw [← hal] at hkk2
  obtain ⟨l', hl', K', hK, he⟩ := row_l0 t c (allOps (bl t)) hS (by omega) kk hkk2 kk 499 0 flash0 (by omega) (by omega) out_flash0
  rw [List.drop_zero] at he
  rw [show (0 : Int) = ((0 : Nat) : Int) from rfl] at *
  rw [he]
  obtain ⟨K2, rfl⟩ : ∃ m, K' = m + 1 := ⟨K' - 1, by omega⟩
  have hd := List.drop_eq_getElem_cons hkk2
  have hsl := drop_slot hS kk
  rw [hd] at hsl
  have ho := hsl _ (List.mem_cons_self ..)
  have hz : (mk l').size = 768 := by rw [mk_size, hl'.1]
  have hcut : P.tick_Cut.f K2 (mk l') 2 0 0 0 0 ((allOps (bl t)).drop kk) (b : Int) = some (mk (opF l' ((allOps (bl t))[kk]).f0 ((allOps (bl t))[kk]).f1 (bl ((allOps (bl t))[kk]).f2) b), 0, 0, 0, 0, 0, [], 0) := by
    rw [hd, tcut_f _ _ _ _ _ _ _ _ K2 (by omega) (okOps_all (slot_may hsl)), cutTup, busy_may hsl (by rw [List.length_cons, List.length_drop]; omega), decide_eq_true hz, Skiff.within_iff.2 (by omega : (0 : Int) ≤ b ∧ (b : Int) ≤ 96), if_pos (by rfl), cutted, if_pos (by rfl), cutPair_ok (cutMay_iff.2 ⟨hz, ho.1, by omega⟩), bl_mk]; rfl
  have hO := out_step hl' ho b (by omega)
  have h1 := row_l1 t (allOps (bl t)) hS (by omega) (2 + manyL (bl t)) K2 0 _ (by omega) (by omega) hO.1
  rw [List.drop_zero] at h1
  have h2 := row_end t (allOps (bl t)) _ (run_all (bl t) hts hO) (by omega) (K2 - (2 + manyL (bl t) + 1)) (by omega)
  rw [P.skifflaw18_TickRow.l0, if_neg (by omega), hb]
  rw [show (((0 : Nat) : Int)) = 0 from rfl] at *
  rw [hcut, Option.bind_some]
  dsimp only
  exact h1.trans h2
theorem tickRow_walk (t : ByteArray) (a c : Int) (ht : t.size ≤ 140737488351232) (f1 : (Lit.int .i64 a).wf = true) (f2 : (Lit.int .i64 c).wf = true) (w : World) :
    Calls Try.prog 8 #[.string t, .int .i64 a, .int .i64 c] w fun e w' => e = .returned (.bool true) ∧ Ext w w' :=
  P.skifflaw18_TickRow.calls 500 t a c true w (tickRow_f t a c ht)

end Go.Proofs.Ytgoeooghoojdgaa
