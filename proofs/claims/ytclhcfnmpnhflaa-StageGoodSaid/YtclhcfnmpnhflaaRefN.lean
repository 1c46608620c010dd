
/- What the reference's words of chapter 2 come to: full, Blank, FlashMay, wordAt, Torn, Program. -/
import Derived.Test.YtclhcfnmpnhflaaRefU
import Derived.Test.YtclhcfnmpnhflaaFlash
set_option linter.unusedVariables false
set_option linter.unusedSimpArgs false
set_option maxHeartbeats 4000000
namespace Go.Proofs.Ytclhcfnmpnhflaa
open Go.RowKit Skiff

theorem full_set (j m : Nat) : (List.replicate j (255 : UInt8) ++ List.replicate (m + 1) 0).set j 255 = List.replicate (j + 1) 255 ++ List.replicate m 0 := by
  rw [List.set_append_right _ _ (by simp), List.length_replicate, Nat.sub_self, List.replicate_succ, List.set_cons_zero, List.replicate_succ']
  simp

theorem rfull_calls (k : Nat) (hk : k ≤ 768) (w : World) :
    Calls Try.prog 37 #[.int .i64 (k : Int)] w fun e w' => e = .returned (.string (mk (List.replicate k 255))) ∧ Ext w w' := by
  have hmk := fun w => made_u8 k (by omega) w
  go_enter Try.func37, Try.ntmps37
  go_wp2
  go_loopw [4] (fun i wr => ∃ j : Nat, j ≤ k ∧ i = .int .i64 (j : Int) ∧ RowB wr w.heap.size (List.replicate j 255 ++ List.replicate (k - j) 0) ∧ Ext w wr) (fun i _ => k - (intOf i).toNat)
  case atStart => exact ⟨0, by omega, rfl, RowB.made _ _ _, (Ext.refl _).alloc _⟩
  case round =>
    obtain ⟨j, hj, rfl, hR, hE⟩ := hrel
    have hll : (List.replicate j (255 : UInt8) ++ List.replicate (k - j) (0 : UInt8)).length = k := by simp; omega
    by_cases hlt : j < k
    · have hcell := hR.cellD (i := j) (by omega)
      have hfree := hR.free (i := j) (by omega)
      obtain ⟨m, hm⟩ : ∃ m, k - j = m + 1 := ⟨k - j - 1, by omega⟩
      have hm2 : k - (j + 1) = m := by omega
      have HM := Lib.hid hm
      have HM2 := Lib.hid hm2
      clear hm hm2
      go_wp2
      go_roundw
      case rel => exact ⟨j + 1, by omega, by go_num, by have h1 := hR.set j 255; rw [HM.out, full_set] at h1; rw [HM2.out]; exact h1, hE.setCell (Nat.le_refl _) _⟩
      case measure => simp [intOf] <;> omega
    · obtain rfl : j = k := by omega
      have hr := hR.string (P := Try.prog) 56 5 9 Try.underlying56 Try.underlying5 Try.underlying9 j
      have hfin : List.replicate j (255 : UInt8) ++ List.replicate (j - j) (0 : UInt8) = List.replicate j 255 := by simp
      rw [hll, hfin] at hr
      go_wp2
      go_ret
      exact ⟨rfl, hE⟩

theorem rfull768_calls (w : World) : Calls Try.prog 37 #[.int .i64 768] w fun e w' => e = .returned (.string (mk flash0)) ∧ Ext w w' := rfull_calls 768 (by omega) w

theorem rblank_calls (w : World) :
    Calls Try.prog 18 #[] w fun e w' => e = .returned (.string (mk flash0)) ∧ Ext w w' := by
  go_enter Try.func18, Try.ntmps18
  go_wp2_with fail
  refine (rfull768_calls _).mono ?_
  rintro e w1 ⟨rfl, B1⟩
  go_wp2
  go_ret
  exact ⟨rfl, (by repeat (first | (with_reducible exact Ext.refl _) | (with_reducible assumption) | (with_reducible refine Ext.drewN ?_ _) | (with_reducible refine Ext.drew ?_) | (with_reducible refine Ext.alloc ?_ _) | (with_reducible refine Ext.setCell ?_ (by first | exact Nat.le_refl _ | (simp <;> omega)) _) | (with_reducible refine Ext.trans ?_ (by with_reducible assumption))))⟩

theorem flashMay_calls (s : ByteArray) (w : World) :
    Calls Try.prog 32 #[.string s] w fun e w' => e = .returned (.bool (decide (s.size = 768))) ∧ w = w' := by
  by_cases h : s.size = 768
  · have h1 : ((s.size : Int) == 768) = true := by rw [h]; rfl
    have h2 : Hid (decide (s.size = 768) = true) := by show _ = _; simpa using h
    clear h
    go_enter Try.func32, Try.ntmps32
    go_wp2
    go_ret
    exact ⟨by rw [h2.out]; rfl, rfl⟩
  · have h1 : ((s.size : Int) == 768) = false := by rw [beq_eq_false_iff_ne]; omega
    have h2 : Hid (decide (s.size = 768) = false) := by show _ = _; simpa using h
    clear h
    go_enter Try.func32, Try.ntmps32
    go_wp2
    go_ret
    exact ⟨by rw [h2.out]; rfl, rfl⟩

theorem rwordAt_calls (x : Int) (w : World) :
    Calls Try.prog 54 #[.int .i64 x] w fun e w' => e = .returned (.bool (wordAt x)) ∧ w = w' := by
  cases h1 : within x 0 764
  · have h2 : Hid (wordAt x = false) := by show _ = _; simp [wordAt, h1]
    have C := Lib.hid (fun w => upTo_calls x 0 764 w)
    rw [h1] at C
    clear h1
    go_enter Try.func54, Try.ntmps54
    go_wp2_with fail
    refine (C.out _).mono ?_
    rintro e w1 ⟨rfl, rfl⟩
    go_wp2
    go_ret
    exact ⟨by rw [h2.out]; rfl, rfl⟩
  · have hx := Skiff.within_iff.1 h1
    have ht : x.tmod 4 = x % 4 := Int.tmod_eq_emod_of_nonneg hx.1
    have C := Lib.hid (fun w => upTo_calls x 0 764 w)
    rw [h1] at C
    by_cases h4 : x % 4 = 0
    · have h2 : Hid (wordAt x = true) := by show _ = _; simp [wordAt, h1, h4]
      have h3 : (x % 4 == 0) = true := by rw [h4]; rfl
      clear ht h4 h1
      go_enter Try.func54, Try.ntmps54
      go_wp2_with fail
      refine (C.out _).mono ?_
      rintro e w2 ⟨rfl, rfl⟩
      go_wp2
      go_ret
      exact ⟨by rw [h2.out]; rfl, rfl⟩
    · have h2 : Hid (wordAt x = false) := by show _ = _; simp [wordAt, h1, h4]
      have h3 : (x % 4 == 0) = false := by rw [beq_eq_false_iff_ne]; exact h4
      clear ht h4 h1
      go_enter Try.func54, Try.ntmps54
      go_wp2_with fail
      refine (C.out _).mono ?_
      rintro e w3 ⟨rfl, rfl⟩
      go_wp2
      go_ret
      exact ⟨by rw [h2.out]; rfl, rfl⟩

def tornRes (o : Option (List UInt8)) : Value := match o with
  | some l => .tuple #[.string (mk l), .int .i64 0]
  | none => .tuple #[.string (mk []), .int .i64 200]

theorem bit_test (x : UInt8) (m : Nat) (hm : m < 8) : (bits .and .u8 ((x.toNat : Int) / 2 ^ m) 1 == 0) = decide ((x >>> UInt8.ofNat m) &&& 1 = 0) := by
  have h : ∀ (k : Fin 8) (n : Fin 256), (bits .and .u8 (((UInt8.ofFin n).toNat : Int) / 2 ^ k.val) 1 == 0) = decide ((UInt8.ofFin n >>> UInt8.ofNat k.val) &&& 1 = 0) := by decide +kernel
  exact h ⟨m, hm⟩ x.toFin

theorem bit_clear (y : UInt8) (m : Nat) (hm : m < 8) : bits .andNot .u8 (y.toNat : Int) (2 ^ m % 256) = ((y &&& ~~~ (1 <<< UInt8.ofNat m)).toNat : Int) := by
  have h : ∀ (k : Fin 8) (n : Fin 256), bits .andNot .u8 ((UInt8.ofFin n).toNat : Int) (2 ^ k.val % 256) = ((UInt8.ofFin n &&& ~~~ (1 <<< UInt8.ofNat k.val)).toNat : Int) := by decide +kernel
  exact h ⟨m, hm⟩ y.toFin

theorem set_getD_self (l : List UInt8) (i : Nat) : l.set i (l.getD i 0) = l := by
  by_cases h : i < l.length
  · rw [List.getD_eq_getElem?_getD, List.getElem?_eq_getElem h]
    exact List.set_getElem_self h
  · exact List.set_eq_of_length_le (by omega)

theorem rtorn_calls (f s : ByteArray) (x n : Int) (w : World) :
    Calls Try.prog 51 #[.string f, .int .i64 x, .string s, .int .i64 n] w fun e w' => e = .returned (tornRes (torn (bl f) x (bl s) n)) ∧ Ext w w' := by
  have C1 := Lib.hid (fun w => flashMay_calls f w)
  have C2 := Lib.hid (fun w => rwordAt_calls x w)
  have C3 := Lib.hid (fun w => upTo_calls n 0 32 w)
  by_cases h1 : f.size = 768
  case neg =>
    have HG : Hid (tornRes (torn (bl f) x (bl s) n) = .tuple #[.string (mk []), .int .i64 200]) := by
      show _ = _
      unfold torn tornMay
      rw [bl_length, decide_eq_false h1]; rfl
    rw [decide_eq_false h1] at C1
    clear h1
    go_enter Try.func51, Try.ntmps51
    go_wp2_with fail
    refine (C1.out _).mono ?_
    rintro e w1 ⟨rfl, rfl⟩
    go_wp2
    go_ret2
    exact ⟨congrArg Ending.returned HG.out.symm, (by repeat (first | (with_reducible exact Ext.refl _) | (with_reducible assumption) | (with_reducible refine Ext.drewN ?_ _) | (with_reducible refine Ext.drew ?_) | (with_reducible refine Ext.alloc ?_ _) | (with_reducible refine Ext.setCell ?_ (by first | exact Nat.le_refl _ | (simp <;> omega)) _) | (with_reducible refine Ext.trans ?_ (by with_reducible assumption))))⟩
  case pos =>
  cases h2 : wordAt x
  case false =>
    have HG : Hid (tornRes (torn (bl f) x (bl s) n) = .tuple #[.string (mk []), .int .i64 200]) := by
      show _ = _
      unfold torn tornMay
      rw [h2, Bool.and_false]; rfl
    rw [decide_eq_true h1] at C1
    rw [h2] at C2
    clear h1 h2
    go_enter Try.func51, Try.ntmps51
    go_wp2_with fail
    refine (C1.out _).mono ?_
    rintro e w2 ⟨rfl, rfl⟩
    go_wp2_with fail
    refine (C2.out _).mono ?_
    rintro e w3 ⟨rfl, rfl⟩
    go_wp2
    go_ret2
    exact ⟨congrArg Ending.returned HG.out.symm, (by repeat (first | (with_reducible exact Ext.refl _) | (with_reducible assumption) | (with_reducible refine Ext.drewN ?_ _) | (with_reducible refine Ext.drew ?_) | (with_reducible refine Ext.alloc ?_ _) | (with_reducible refine Ext.setCell ?_ (by first | exact Nat.le_refl _ | (simp <;> omega)) _) | (with_reducible refine Ext.trans ?_ (by with_reducible assumption))))⟩
  case true =>
  by_cases h3 : s.size = 4
  case neg =>
    have HG : Hid (tornRes (torn (bl f) x (bl s) n) = .tuple #[.string (mk []), .int .i64 200]) := by
      show _ = _
      unfold torn tornMay
      rw [bl_length s, decide_eq_false h3, Bool.and_false]; rfl
    have ht : ((s.size : Int) != 4) = true := by rw [bne_iff_ne]; omega
    rw [decide_eq_true h1] at C1
    rw [h2] at C2
    clear h1 h2
    go_enter Try.func51, Try.ntmps51
    go_wp2_with fail
    refine (C1.out _).mono ?_
    rintro e w4 ⟨rfl, rfl⟩
    go_wp2_with fail
    refine (C2.out _).mono ?_
    rintro e w5 ⟨rfl, rfl⟩
    go_wp2
    go_ret2
    exact ⟨congrArg Ending.returned HG.out.symm, (by repeat (first | (with_reducible exact Ext.refl _) | (with_reducible assumption) | (with_reducible refine Ext.drewN ?_ _) | (with_reducible refine Ext.drew ?_) | (with_reducible refine Ext.alloc ?_ _) | (with_reducible refine Ext.setCell ?_ (by first | exact Nat.le_refl _ | (simp <;> omega)) _) | (with_reducible refine Ext.trans ?_ (by with_reducible assumption))))⟩
  case pos =>
  have ht : ((s.size : Int) != 4) = false := by rw [h3]; rfl
  cases h4 : within n 0 32
  case false =>
    have HG : Hid (tornRes (torn (bl f) x (bl s) n) = .tuple #[.string (mk []), .int .i64 200]) := by
      show _ = _
      unfold torn tornMay
      rw [h4, Bool.and_false]; rfl
    rw [decide_eq_true h1] at C1
    rw [h2] at C2
    rw [h4] at C3
    clear h1 h2 h4
    go_enter Try.func51, Try.ntmps51
    go_wp2_with fail
    refine (C1.out _).mono ?_
    rintro e w6 ⟨rfl, rfl⟩
    go_wp2_with fail
    refine (C2.out _).mono ?_
    rintro e w7 ⟨rfl, rfl⟩
    go_wp2_with fail
    refine (C3.out _).mono ?_
    rintro e w8 ⟨rfl, rfl⟩
    go_wp2
    go_ret2
    exact ⟨congrArg Ending.returned HG.out.symm, (by repeat (first | (with_reducible exact Ext.refl _) | (with_reducible assumption) | (with_reducible refine Ext.drewN ?_ _) | (with_reducible refine Ext.drew ?_) | (with_reducible refine Ext.alloc ?_ _) | (with_reducible refine Ext.setCell ?_ (by first | exact Nat.le_refl _ | (simp <;> omega)) _) | (with_reducible refine Ext.trans ?_ (by with_reducible assumption))))⟩
  case true =>
  obtain ⟨hn0, hn1⟩ := Skiff.within_iff.1 h4
  have hx := h2
  unfold wordAt at hx
  obtain ⟨hx0, hx1⟩ := Skiff.within_iff.1 (Bool.and_eq_true_iff.1 hx).1
  obtain ⟨k, rfl⟩ := Int.eq_ofNat_of_zero_le hn0
  obtain ⟨j, rfl⟩ := Int.eq_ofNat_of_zero_le hx0
  have HG : Hid (torn (bl f) j (bl s) k = some (tornF (bl f) j (bl s) k)) := by
    show _ = _
    unfold torn tornMay
    rw [bl_length, bl_length, decide_eq_true h1, h2, decide_eq_true h3, h4]
    rfl
  rw [decide_eq_true h1] at C1
  rw [h2] at C2
  rw [h4] at C3
  clear hx h2 h4
  have kc := fun (w : World) => Lib.run_convert_string_bytes (P := Try.prog) w 9 56 5 (f.extract j (j + 4)) Try.underlying9 Try.underlying56 Try.underlying5
  have hb0 : bl (f.extract j (j + 4)) = ((bl f).drop j).take 4 := by rw [bl_extract]; simp
  have hsz : (f.extract j (j + 4)).size = 4 := by simp; omega
  rw [hsz] at kc
  have HB := Lib.hid hb0
  clear hb0
  go_enter Try.func51, Try.ntmps51
  go_wp2_with fail
  refine (C1.out _).mono ?_
  rintro e w9 ⟨rfl, rfl⟩
  go_wp2_with fail
  refine (C2.out _).mono ?_
  rintro e w10 ⟨rfl, rfl⟩
  go_wp2_with fail
  refine (C3.out _).mono ?_
  rintro e w11 ⟨rfl, rfl⟩
  go_wp2
  have hR0 := RowB.bytes w 5 (f.extract j (j + 4))
  rw [show (f.extract j (j + 4)).data.toList = ((bl f).drop j).take 4 from HB.out] at hR0
  have hE0 := Ext.bytes w 5 (f.extract j (j + 4))
  have hbl : (((bl f).drop j).take 4).length = 4 := by simp; omega
  generalize ((bl f).drop j).take 4 = b0 at hR0 hbl HB
  go_loopw [11] (fun i wr => ∃ c : Nat, c ≤ k ∧ i = .int .i64 (c : Int) ∧ RowB wr w.heap.size (tornL b0 (bl s) c) ∧ Ext w wr) (fun i _ => k - (intOf i).toNat)
  case atStart => exact ⟨0, by omega, rfl, by rw [tornL_zero]; exact hR0, hE0⟩
  case round =>
    clear hR0 hE0
    obtain ⟨c, hc, rfl, hR, hE⟩ := hrel
    have hll := tornL_length b0 (bl s) c
    by_cases hlt : c < k
    · have g0 : c / 8 < 4 := by omega
      have g1 : c % 8 < 8 := by omega
      have g2 : c / 8 < s.size := by omega
      have g3 : 0 ≤ (c : Int) / 8 ∧ (c : Int) / 8 < 4 := by omega
      have hbt := bit_test (s[c / 8]) (c % 8) g1
      have hst := tornL_step b0 (bl s) c (by omega) (by rw [bl_length]; omega)
      rw [show (bl s).getD (c / 8) 0 = s[c / 8] by rw [List.getD_eq_getElem?_getD, List.getElem?_eq_getElem (by rw [bl_length]; exact g2)]; rfl] at hst
      unfold bitB at hst
      have hcell := hR.cellD (i := c / 8) (by omega)
      have hfree := hR.free (i := c / 8) (by omega)
      generalize hy : (tornL b0 (bl s) c).getD (c / 8) 0 = y at hst hcell
      have HY := Lib.hid hy
      clear hy
      by_cases hb : (s[c / 8] >>> UInt8.ofNat (c % 8)) &&& 1 = 0
      · rw [decide_eq_true hb] at hbt
        rw [if_pos hb] at hst
        have hcl := bit_clear y (c % 8) g1
        generalize y &&& ~~~ (1 <<< UInt8.ofNat (c % 8)) = z at hst hcl
        have HST := Lib.hid hst
        clear hb hst
        go_wp2
        go_region
        go_wp2
        go_roundw
        case rel => exact ⟨c + 1, by omega, by go_num, by rw [HST.out]; exact (hR.set (c / 8) z).ext ((Ext.refl _).drew), (hE.setCell (Nat.le_refl _) _).drew⟩
        case measure => simp [intOf] <;> omega
      · rw [decide_eq_false hb] at hbt
        rw [if_neg hb] at hst
        have HST := Lib.hid hst
        clear hb hst
        go_wp2
        go_roundw
        case rel => exact ⟨c + 1, by omega, by go_num, by rw [HST.out, ← HY.out, set_getD_self]; exact hR, hE⟩
        case measure => simp [intOf] <;> omega
    · obtain rfl : c = k := by omega
      have hS := (hR.ext ((Ext.refl wr).drew)).string (P := Try.prog) 56 5 9 Try.underlying56 Try.underlying5 Try.underlying9 (grownCap w 4 0 5)
      rw [hll, hbl] at hS
      have hj1 : (j : Int) + 4 ≤ 768 := by omega
      have hj2 : IntKind.i64.wrap ((j : Int) + 4) = (j : Int) + 4 := wrap_i64_fit _ (by omega) (by omega)
      have hj3 : 0 ≤ (j : Int) + 4 := by omega
      have hj4 : ((j : Int) + 4).toNat = j + 4 := by omega
      have hj5 : (j : Int) ≤ 768 := by omega
      go_wp2
      go_region
      have he : f.extract 0 j ++ (⟨(tornL b0 (bl s) c).toArray⟩ : ByteArray) ++ f.extract (j + 4) 768 = mk (tornF (bl f) j (bl s) c) := by
        rw [← mk_bl (f.extract 0 j ++ (⟨(tornL b0 (bl s) c).toArray⟩ : ByteArray) ++ f.extract (j + 4) 768)]
        congr 1
        rw [bl_append, bl_append, bl_extract, bl_extract]
        have e1 : b0 = ((bl f).drop j).take 4 := by rw [← HB.out, bl_extract]; simp
        have e2 : bl (⟨(tornL b0 (bl s) c).toArray⟩ : ByteArray) = tornL b0 (bl s) c := bl_mk _
        rw [e2, e1]
        unfold tornF
        rw [List.take_of_length_le (by simp; omega : ((bl f).drop (j + 4)).length ≤ 768 - (j + 4))]
        simp
      rw [he]
      go_wp2
      go_ret2
      exact ⟨congrArg Ending.returned (congrArg tornRes HG.out).symm, (by repeat (first | (with_reducible exact Ext.refl _) | (with_reducible assumption) | (with_reducible refine Ext.drewN ?_ _) | (with_reducible refine Ext.drew ?_) | (with_reducible refine Ext.alloc ?_ _) | (with_reducible refine Ext.setCell ?_ (by first | exact Nat.le_refl _ | (simp <;> omega)) _) | (with_reducible refine Ext.trans ?_ (by with_reducible assumption))))⟩


end Go.Proofs.Ytclhcfnmpnhflaa
