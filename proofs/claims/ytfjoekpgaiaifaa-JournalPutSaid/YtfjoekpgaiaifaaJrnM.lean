/- JournalPut, JournalForms, JournalErased. -/
import Derived.Test.YtfjoekpgaiaifaaJrnL
import Derived.Test.YtfjoekpgaiaifaaNorP
import Derived.Test.YtfjoekpgaiaifaaPx3
import Derived.Test.YtfjoekpgaiaifaaPx5
import Derived.Test.YtfjoekpgaiaifaaPx7
import Derived.Test.YtfjoekpgaiaifaaPx8
import Derived.Test.YtfjoekpgaiaifaaPx9
set_option linter.unusedVariables false
set_option linter.unusedSimpArgs false
set_option maxHeartbeats 4000000
namespace Go.Proofs.Ytfjoekpgaiaifaa
open Go.RowKit Skiff Go.Proofs.YtfjoekpgaiaifaaW.PrintWords

theorem fl5_size : (mk flash0).size = 768 := by rw [mk_size, flash0_length]
theorem journalPut_f (r : Rec) (x : Int) : P.skifflaw5_JournalPut.f 300 r.seq r.slot r.size r.sum x = some true := by
  obtain ⟨p, hp, hp2⟩ : ∃ k : Nat, wrap64 ((IntKind.u64.wrap x).tmod 8) = (k : Int) ∧ k < 8 := mod_nat x 8 (by omega) (by omega)
  unfold P.skifflaw5_JournalPut.f
  rw [awake5_f, Option.bind_some, if_pos rfl, P.skiffref1_PutEntry.f, Option.bind_some]
  cases hr : recMay r
  · have e : putPair ⟨r.seq, r.slot, r.size, r.sum⟩ = (mk [], 400) := by show putPair r = _; unfold putPair; rw [hr]; rfl
    rw [e, if_neg (by decide)]
  · have e : putPair ⟨r.seq, r.slot, r.size, r.sum⟩ = (mk (put r), 0) := by show putPair r = _; unfold putPair; rw [hr]; rfl
    have e1 : wrap64 (24 * (p : Int)) = 24 * (p : Int) := by simp only [wrap64]; omega
    have e2 : wrap64 (24 * (p : Int) + 24) = 24 * (p : Int) + 24 := by simp only [wrap64]; omega
    have t1 : (24 * (p : Int)).toNat = 24 * p := by omega
    have t2 : (24 * (p : Int) + 24).toNat = 24 * p + 24 := by omega
    have hfl := fl5_size
    have s1 : ((mk flash0).extract 0 (24 * p)).size = 24 * p := by rw [ByteArray.size_extract, hfl]; omega
    have s2 : (mk (put r)).size = 24 := by rw [mk_size, put_length]
    have s3 : ((mk flash0).extract (24 * p + 24) 768).size = 744 - 24 * p := by rw [ByteArray.size_extract, hfl]; omega
    have hF : bl ((mk flash0).extract 0 (24 * p) ++ mk (put r) ++ (mk flash0).extract (24 * p + 24) 768) = List.replicate (24 * p) 255 ++ (put r ++ List.replicate (744 - 24 * p) 255) := by
      rw [bl_append, bl_append, bl_extract, bl_extract, bl_mk, bl_mk, List.append_assoc]
      unfold flash0
      rw [List.drop_zero, Nat.sub_zero, List.take_replicate, Nat.min_eq_left (by omega), List.drop_replicate, List.take_replicate, Nat.min_eq_left (by omega), show 768 - (24 * p + 24) = 744 - 24 * p by omega]
    obtain ⟨hFs, hFq⟩ := put_facts r hr p hp2 _ hF
    have hS := scan_f ((mk flash0).extract 0 (24 * p) ++ mk (put r) ++ (mk flash0).extract (24 * p + 24) 768) 300 (by omega)
    rw [if_pos hFs, hFq] at hS
    simp only [hp, e1, e2, t1, t2]
    rw [e, if_pos rfl, P.skiffref1_Blank.f, Option.bind_some, hfl]
    rw [if_pos (by omega), if_pos (by omega), if_pos (by rw [s1, s2]; omega), if_pos (by omega), if_pos (by omega), if_pos (by rw [ByteArray.size_append, s1, s2, s3]; omega)]
    rw [hS, Option.bind_some, P.skifflaw0_Num.f, Option.bind_some, if_pos rfl]
    have hsame := samep_f [mkPl p r] (by simp) 300 (by simp)
    have hsame2 : P.skifflaw0_SamePlaces.f 300 [mkPl p r] [⟨24 * (p : Int), ⟨r.seq, r.slot, r.size, r.sum⟩⟩] = some true := hsame
    rw [hsame2]
    rfl
theorem journalPut_walk (r : Rec) (x : Int) (f1 : (Lit.int .i64 x).wf = true) (w : World) :
    Calls Try.prog 4 #[(.agg #[.int .i64 r.seq, .int .i64 r.slot, .int .i64 r.size, .int .i64 r.sum]), .int .i64 x] w fun e w' => e = .returned (.bool true) ∧ Ext w w' :=
  P.skifflaw5_JournalPut.calls 300 r.seq r.slot r.size r.sum x true w (journalPut_f r x)

theorem freeTup_no {f : ByteArray} {s : Int} (h : ¬ (f.size = 768 ∧ 0 ≤ s ∧ s ≤ 1)) : freeTup f s = (0, false, 500) := by
  unfold freeTup
  rw [if_neg]
  intro hc
  exact h ⟨hc.1, Skiff.within_iff.1 hc.2⟩
theorem freeTup_first {f : ByteArray} {n : Nat} (hf : f.size = 768) (hn : n < 2) (hb : blankAt f (4 * n)) : freeTup f n = (96 * (n : Int), true, 0) := by
  unfold freeTup
  rw [if_pos ⟨hf, Skiff.within_iff.2 (by omega)⟩, freeIn, Int.toNat_natCast, if_pos (show blankAt f (4 * n + 0) from hb), show 24 * ((4 * n + 0 : Nat) : Int) = 96 * (n : Int) by omega]
theorem flash_blank (i : Nat) (h : i < 8) : blankAt (mk flash0) i := by
  unfold blankAt blank24 flash0
  rw [bl_extract, bl_mk, List.drop_replicate, List.take_replicate, Nat.min_eq_left (by omega), show 24 * i + 24 - 24 * i = 24 by omega]
theorem scanPair_no {f : ByteArray} (h : f.size ≠ 768) : scanPair f = ([], 500) := by unfold scanPair; rw [if_neg h]
theorem rdOf3 {α : Type} (d a b c : α) : rdOf d [a, b, c] ((0 : Nat) : Int) = a ∧ rdOf d [a, b, c] ((1 : Nat) : Int) = b ∧ rdOf d [a, b, c] ((2 : Nat) : Int) = c := ⟨rfl, rfl, rfl⟩
theorem journalForms_f (a x : Int) (f0 : (Lit.int .i64 a).wf = true) (f1 : (Lit.int .i64 x).wf = true) : P.skifflaw5_JournalForms.f 300 a x = some true := by
  obtain ⟨d, hd, hd2⟩ : ∃ a : Nat, bits .and .i64 x 1023 = (a : Int) ∧ a < 1024 := and_mask x f1 10 (by omega)
  obtain ⟨b, hb, hb2⟩ : ∃ k : Nat, bits .and .i64 a 1 = (k : Int) ∧ k < 2 := and_mask a f0 1 (by omega)
  obtain ⟨c, hc, hc2⟩ : ∃ k : Nat, wrap64 ((IntKind.u64.wrap a).tmod 3) = (k : Int) ∧ k < 3 := mod_nat a 3 (by omega) (by omega)
  have e1 : wrap64 (1 + (d : Int)) = 1 + d := by simp only [wrap64]; omega
  have e2 : wrap64 (-(1 + (d : Int))) = -(1 + d) := by simp only [wrap64]; omega
  have e3 : wrap64 (1 + (1 + (d : Int))) = 1 + (1 + d) := by simp only [wrap64]; omega
  have e4 : wrap64 (96 * (b : Int)) = 96 * (b : Int) := by simp only [wrap64]; omega
  have bs : b = 0 ∨ b = 1 := by omega
  have hfl := fl5_size
  obtain ⟨q, hq, hq2⟩ : ∃ q, rd [-(1 + (d : Int)), 1 + (1 + d)] (b : Int) = q ∧ ¬ (0 ≤ q ∧ q ≤ 1) := by
    rcases bs with rfl | rfl
    · exact ⟨_, rfl, by show ¬ (0 ≤ -(1 + (d : Int)) ∧ _ ≤ (1 : Int)); omega⟩
    · exact ⟨_, rfl, by show ¬ ((0 : Int) ≤ 1 + (1 + (d : Int)) ∧ 1 + (1 + (d : Int)) ≤ (1 : Int)); omega⟩
  have pick : ∀ X Y Z : ByteArray, X.size ≠ 768 → Y.size ≠ 768 → Z.size ≠ 768 → ∃ B, rdOf ByteArray.empty [X, Y, Z] (c : Int) = B ∧ B.size ≠ 768 := by
    intro X Y Z hX hY hZ
    have cs : c = 0 ∨ c = 1 ∨ c = 2 := by omega
    rcases cs with rfl | rfl | rfl
    · exact ⟨X, rfl, hX⟩
    · exact ⟨Y, rfl, hY⟩
    · exact ⟨Z, rfl, hZ⟩
  have sz3 : (mk flash0 ++ (⟨#[120]⟩ : ByteArray)).size = 769 := by
    rw [ByteArray.size_append, hfl]; rfl
  obtain ⟨B, hB, hB2⟩ := pick ⟨#[]⟩ ((mk flash0).extract 1 768) (mk flash0 ++ ⟨#[120]⟩) (by decide) (by rw [ByteArray.size_extract, hfl]; omega) (by rw [sz3]; omega)
  have hS : P.journal_Scan.f 300 B = some (scanPair B) := scan_f B 300 (by omega)
  unfold P.skifflaw5_JournalForms.f
  rw [awake5_f, Option.bind_some, if_pos rfl, P.skiffref1_Blank.f, Option.bind_some, hfl, if_pos (by omega), if_pos (by omega), Option.bind_some]
  simp -implicitDefEqProofs only [hc, hb, hd, e1, e2, e3, e4]
  rw [hB, if_pos (by omega), if_pos (by simp; omega), hS, scanPair_no hB2, Option.bind_some, free_f B 0 300 (by omega), freeTup_no (by omega), Option.bind_some, Option.bind_some]
  rw [if_pos (by omega), if_pos (by simp; omega), hq, free_f (mk flash0) q 300 (by omega), freeTup_no (by omega), Option.bind_some]
  rw [free_f (mk flash0) b 300 (by omega), freeTup_first hfl hb2 (flash_blank _ (by omega)), Option.bind_some]
  simp [P.skifflaw0_Num.f]
theorem journalForms_walk (a x : Int) (f0 : (Lit.int .i64 a).wf = true) (f1 : (Lit.int .i64 x).wf = true) (w : World) :
    Calls Try.prog 6 #[.int .i64 a, .int .i64 x] w fun e w' => e = .returned (.bool true) ∧ Ext w w' :=
  P.skifflaw5_JournalForms.calls 300 a x true w (journalForms_f a x f0 f1)

/-- A place in a flash of which a sector is erased. -/
theorem piece_at (l : List UInt8) (i j : Nat) (hj : j < 24) : ((l.drop (24 * i)).take 24).getD j 0 = l.getD (24 * i + j) 0 := by
  rw [List.getD_eq_getElem?_getD, List.getElem?_take, if_pos hj, List.getElem?_drop, ← List.getD_eq_getElem?_getD]
theorem worn_piece (f : ByteArray) (hf : f.size = 768) (n : Nat) (hn : n < 2) (i : Nat) (hi : i < 8) :
    bl ((mk (wornF (bl f) (96 * n) 96)).extract (24 * i) (24 * i + 24)) = if 4 * n ≤ i ∧ i < 4 * n + 4 then blank24 else bl (f.extract (24 * i) (24 * i + 24)) := by
  have lf : (bl f).length = 768 := by rw [bl_length, hf]
  have lw := wornF_length (bl f) (96 * n) 96 (by omega)
  rw [bl_extract, bl_extract, bl_mk, show 24 * i + 24 - 24 * i = 24 by omega]
  have l1 : (((wornF (bl f) (96 * n) 96).drop (24 * i)).take 24).length = 24 := by rw [List.length_take, List.length_drop, lw, lf]; omega
  have l2 : (((bl f).drop (24 * i)).take 24).length = 24 := by rw [List.length_take, List.length_drop, lf]; omega
  split
  · apply ext_getD (by rw [l1]; rfl)
    intro j
    by_cases hj : j < 24
    · rw [piece_at _ _ _ hj, wornF_at _ _ _ _ (by omega), if_pos (by omega)]
      unfold blank24
      rw [List.getD_eq_getElem?_getD, List.getElem?_replicate, if_pos hj]; rfl
    · rw [List.getD_eq_getElem?_getD, List.getD_eq_getElem?_getD, List.getElem?_eq_none (by omega), List.getElem?_eq_none (by unfold blank24; rw [List.length_replicate]; omega)]
  · apply ext_getD (by rw [l1, l2])
    intro j
    by_cases hj : j < 24
    · rw [piece_at _ _ _ hj, piece_at _ _ _ hj, wornF_at _ _ _ _ (by omega), if_neg (by omega)]
    · rw [List.getD_eq_getElem?_getD, List.getD_eq_getElem?_getD, List.getElem?_eq_none (by omega), List.getElem?_eq_none (by omega)]
def other (n : Nat) (p : Plc) : Bool := decide (wrap64 (Int.tdiv p.f0 96) ≠ (n : Int))
theorem other_at (n i : Nat) (hi : i < 8) (r : Rec) : other n (mkPl i r) = !(decide (4 * n ≤ i) && decide (i < 4 * n + 4)) := by
  have e : wrap64 (Int.tdiv (mkPl i r).f0 96) = ((i / 4 : Nat) : Int) := by
    show wrap64 (Int.tdiv (24 * (i : Int)) 96) = _
    rw [Int.tdiv_eq_ediv_of_nonneg (by omega)]
    simp only [wrap64]
    omega
  unfold other
  rw [e]
  by_cases h : 4 * n ≤ i ∧ i < 4 * n + 4
  · rw [decide_eq_true h.1, decide_eq_true h.2, decide_eq_false (by omega)]; rfl
  · rw [decide_eq_true (by omega)]
    by_cases h1 : 4 * n ≤ i
    · rw [decide_eq_true h1, decide_eq_false (by omega)]; rfl
    · rw [decide_eq_false h1]; rfl
theorem scanTo_worn (f : ByteArray) (hf : f.size = 768) (n : Nat) (hn : n < 2) : ∀ m, m ≤ 8 → scanTo (mk (wornF (bl f) (96 * n) 96)) m = (scanTo f m).filter (other n)
  | 0, _ => rfl
  | m + 1, h => by
    rw [scanTo, scanTo, scanTo_worn f hf n hn m (by omega), List.filter_append]
    congr 1
    unfold pls slotAt
    rw [worn_piece f hf n hn m (by omega)]
    split
    · rename_i hc
      rw [get_blank]
      cases hs : Skiff.get (bl (f.extract (24 * m) (24 * m + 24))) with
      | none => rfl
      | some r =>
        show [] = List.filter (other n) [mkPl m r]
        rw [List.filter_cons, other_at n m (by omega), decide_eq_true hc.1, decide_eq_true hc.2]; rfl
    · rename_i hc
      cases hs : Skiff.get (bl (f.extract (24 * m) (24 * m + 24))) with
      | none => rfl
      | some r =>
        show [mkPl m r] = List.filter (other n) [mkPl m r]
        have : (decide (4 * n ≤ m) && decide (m < 4 * n + 4)) = false := by
          rw [Bool.eq_false_iff]; intro h2
          have := Bool.and_eq_true_iff.1 h2
          exact hc ⟨of_decide_eq_true this.1, of_decide_eq_true this.2⟩
        rw [List.filter_cons, other_at n m (by omega), this]; rfl
theorem held5_some : ∃ H : ByteArray, P.skifflaw5_held.f 250 = some H ∧ H.size = 768 :=
  ⟨mk (put ⟨1, 0, 12, 3146506012⟩ ++ (List.replicate 168 255 ++ ([97, 98, 97, 98, 97, 98, 97, 98, 97, 98, 97, 98] ++ List.replicate 564 255))), by kernel_rfl, by rw [mk_size]; simp only [List.length_append, put_length, List.length_replicate, List.length_cons, List.length_nil]⟩
theorem erased_l0 (n : Nat) (hn : n < 2) (ps : List Plc) (hp : ps.length ≤ 8) (d : Nat) : ∀ (k i : Nat), i + d = ps.length → k = 251 + d → P.skifflaw5_JournalErased.l0 k n ps 0 (ps.filter (other n)) 0 (96 * (n : Int)) true 0 ((ps.take i).filter (other n)) (i : Int) = some true := by
  have hfl : (ps.filter (other n)).length ≤ 8 := Nat.le_trans (List.length_filter_le _ _) hp
  induction d with
  | zero =>
    intro k i h1 h2
    obtain rfl : k = 250 + 1 := h2
    obtain ⟨H, hH, hH2⟩ := held5_some
    have e : wrap64 (96 * (n : Int)) = 96 * (n : Int) := by simp only [wrap64]; omega
    rw [P.skifflaw5_JournalErased.l0, if_neg (by omega), List.take_of_length_le (by omega), samep_f _ (by omega) 250 (by omega), e, hH]
    simp [P.skifflaw0_Num.f, hH2]
  | succ d ih =>
    intro k i h1 h2
    obtain rfl : k = (251 + d) + 1 := by omega
    have e2 : wrap64 ((i : Int) + 1) = ((i + 1 : Nat) : Int) := by simp only [wrap64]; omega
    have hr := ih (251 + d) (i + 1) (by omega) rfl
    have hacc : ((ps.take i).filter (other n)).length ≤ 8 := Nat.le_trans (List.length_filter_le _ _) (by rw [List.length_take]; omega)
    rw [List.take_succ_eq_append_getElem (by omega : i < ps.length), List.filter_append] at hr
    rw [P.skifflaw5_JournalErased.l0, if_pos (by omega), if_pos (by omega), rd_at ps i (by omega), e2]
    by_cases ho : wrap64 (Int.tdiv (ps[i]'(by omega)).f0 96) = (n : Int)
    · rw [if_pos ho]
      have : other n (ps[i]'(by omega)) = false := by unfold other; rw [decide_eq_false]; exact fun h => h ho
      rw [List.filter_cons, this] at hr
      simpa using hr
    · rw [if_neg ho, if_pos (by omega)]
      have : other n (ps[i]'(by omega)) = true := by unfold other; rw [decide_eq_true ho]
      rw [List.filter_cons, this] at hr
      exact hr
theorem erased_more (k : Nat) (a : Int) (b : List Plc) (c : Int) (d : List Plc) (e g : Int) (h : Bool) (i : Int) (l : List Plc) (m : Int) (r : Bool) (H : P.skifflaw5_JournalErased.l0 k a b c d e g h i l m = some r) : ∀ j, P.skifflaw5_JournalErased.l0 (k + j) a b c d e g h i l m = some r
  | 0 => H
  | j + 1 => P.skifflaw5_JournalErased.mono_l (k + j) _ _ _ _ _ _ _ _ _ _ _ (erased_more k a b c d e g h i l m r H j)
theorem journalErased_f (f : ByteArray) (s : Int) (f1 : (Lit.int .i64 s).wf = true) : ∃ k, P.skifflaw5_JournalErased.f k f s = some true := by
  obtain ⟨n, hn, hn2⟩ : ∃ k : Nat, bits .and .i64 s 1 = (k : Int) ∧ k < 2 := and_mask s f1 1 (by omega)
  by_cases hf : f.size = 768
  · have hw : worn (bl f) n 96 = some (wornF (bl f) (96 * n) 96) := by
      unfold worn wornMay
      rw [bl_length, if_pos]
      · rfl
      · rw [decide_eq_true hf, Skiff.within_iff.2 (by omega : (0 : Int) ≤ n ∧ (n : Int) ≤ 7)]; rfl
    have lw := wornF_length (bl f) (96 * n) 96 (by rw [bl_length, hf]; omega)
    have hx : (mk (wornF (bl f) (96 * n) 96)).size = 768 := by rw [mk_size, lw, bl_length, hf]
    have hb : blankAt (mk (wornF (bl f) (96 * n) 96)) (4 * n) := by
      unfold blankAt
      rw [worn_piece f hf n hn2 (4 * n) (by omega), if_pos (by omega)]
    have hps := scanTo_len f 8
    have hl := erased_l0 n hn2 (scanTo f 8) hps (scanTo f 8).length (251 + (scanTo f 8).length) 0 (by omega) rfl
    rw [List.take_zero] at hl
    have hl2 := erased_more (251 + (scanTo f 8).length) n (scanTo f 8) 0 ((scanTo f 8).filter (other n)) 0 (96 * (n : Int)) true 0 [] 0 true hl (49 - (scanTo f 8).length)
    rw [show 251 + (scanTo f 8).length + (49 - (scanTo f 8).length) = 300 by omega] at hl2
    refine ⟨300, ?_⟩
    unfold P.skifflaw5_JournalErased.f
    rw [awake5_f, Option.bind_some, if_pos rfl, P.skiffref1_Erase.f, hn, hw, Option.bind_some]
    unfold tornPair
    simp -implicitDefEqProofs only
    rw [if_pos trivial, scan_f f 300 (by omega), if_pos hf, Option.bind_some, scan_f _ 300 (by omega), if_pos hx, Option.bind_some, free_f _ n 300 (by omega), freeTup_first hx hn2 hb, Option.bind_some, scanTo_worn f hf n hn2 8 (by omega)]
    exact hl2
  · have hw : worn (bl f) n 96 = none := by
      unfold worn wornMay
      rw [bl_length, decide_eq_false hf]; rfl
    refine ⟨300, ?_⟩
    unfold P.skifflaw5_JournalErased.f
    rw [awake5_f, Option.bind_some, if_pos rfl, P.skiffref1_Erase.f, hn, hw, Option.bind_some]
    rfl
theorem journalErased_walk (f : ByteArray) (s : Int) (hf : f.size ≤ 140737488351232) (f1 : (Lit.int .i64 s).wf = true) (w : World) :
    Calls Try.prog 7 #[.string f, .int .i64 s] w fun e w' => e = .returned (.bool true) ∧ Ext w w' := by
  obtain ⟨k, hk⟩ := journalErased_f f s f1
  exact P.skifflaw5_JournalErased.calls k f s true w hk

end Go.Proofs.Ytfjoekpgaiaifaa
