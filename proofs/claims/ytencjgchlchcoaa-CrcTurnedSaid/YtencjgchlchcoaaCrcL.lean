/- The five statements over the sum: their walks. -/
import Derived.Test.YtencjgchlchcoaaCrcW
import Derived.Test.YtencjgchlchcoaaRow
import Derived.Deep.RegionHeld3
import Derived.Deep.DrawnRows
import Derived.WalkSpells
set_option linter.unusedVariables false
set_option linter.unusedSimpArgs false
namespace Go.Proofs.Ytencjgchlchcoaa
open Go.RowKit

theorem awake_calls (w : World) :
    Calls Try.prog 11 #[] w fun e w' => e = .returned (.bool true) ∧ Ext w w' := by
  have h1 : ((Skiff.crcSum (⟨#[49, 50, 51, 52, 53, 54, 55, 56, 57]⟩ : ByteArray).data.toList : Nat) : Int) = 3421780262 := congrArg (fun n : Nat => (n : Int)) Skiff.known_digits
  have h2 : ((Skiff.crcSum (⟨#[]⟩ : ByteArray).data.toList : Nat) : Int) = 0 := congrArg (fun n : Nat => (n : Int)) Skiff.known_empty
  have c1 := sum_calls (⟨#[49, 50, 51, 52, 53, 54, 55, 56, 57]⟩ : ByteArray)
  have c2 := sum_calls (⟨#[]⟩ : ByteArray)
  rw [h1] at c1
  rw [h2] at c2
  have C1 := Lib.hid (fun w => c1 w (by decide))
  have C2 := Lib.hid (fun w => c2 w (by decide))
  clear c1 c2 h1 h2
  go_enter Try.func11, Try.ntmps11
  go_wp2_with fail
  refine (C1.out w).mono ?_
  rintro e w1 ⟨rfl, B1⟩
  go_wp2_with fail
  refine (C2.out _).mono ?_
  rintro e w2 ⟨rfl, B2⟩
  go_wp2
  go_ret
  exact ⟨rfl, (by repeat (first | exact Ext.refl _ | refine Ext.drewN ?_ _ | refine Ext.drew ?_ | refine Ext.alloc ?_ _ | refine Ext.trans ?_ (by assumption)))⟩

theorem crcs_walk (s : ByteArray) (hs : s.size ≤ 140737488351232) (w : World) :
    Calls Try.prog 3 #[.string s] w fun e w' => e = .returned (.bool true) ∧ Ext w w' := by
  have C1 := Lib.hid (fun w => sum_calls s w (by omega))
  have C2 := Lib.hid (fun w => ref_crc_calls s w (by omega))
  generalize ((Skiff.crcSum s.data.toList : Nat) : Int) = x at C1 C2
  go_enter Try.func3, Try.ntmps3
  go_wp2_with fail
  refine (num_calls _ _).mono ?_
  rintro e w1 ⟨rfl, rfl⟩
  go_wp2_with fail
  refine (C1.out _).mono ?_
  rintro e w2 ⟨rfl, B2⟩
  go_wp2_with fail
  refine (C2.out _).mono ?_
  rintro e w3 ⟨rfl, rfl⟩
  go_wp2_with fail
  refine (awake_calls _).mono ?_
  rintro e w4 ⟨rfl, B4⟩
  go_wp2
  go_ret
  exact ⟨rfl, (by repeat (first | exact Ext.refl _ | refine Ext.drewN ?_ _ | refine Ext.drew ?_ | refine Ext.alloc ?_ _ | refine Ext.trans ?_ (by assumption)))⟩

theorem app_list (s t : ByteArray) : (s ++ t).data.toList = s.data.toList ++ t.data.toList := by simp

theorem longer_walk (s t m : ByteArray) (hs : s.size ≤ 140737488351232) (ht : t.size ≤ 140737488351232) (hm : m.size ≤ 140737488351232) (w : World) :
    Calls Try.prog 7 #[.string s, .string t, .string m] w fun e w' => e = .returned (.bool true) ∧ Ext w w' := by
  have zs : (s ++ m).size = s.size + m.size := ByteArray.size_append
  have zt : (t ++ m).size = t.size + m.size := ByteArray.size_append
  have hl := Skiff.crcSum_longer s.data.toList t.data.toList m.data.toList
  rw [← app_list, ← app_list] at hl
  have C1 := Lib.hid (fun w => sum_calls s w (by omega))
  have C2 := Lib.hid (fun w => sum_calls t w (by omega))
  have C3 := Lib.hid (fun w => sum_calls (s ++ m) w (by omega))
  have C4 := Lib.hid (fun w => sum_calls (t ++ m) w (by omega))
  clear zs zt
  generalize Skiff.crcSum s.data.toList = a at *
  generalize Skiff.crcSum t.data.toList = b at *
  generalize Skiff.crcSum (s ++ m).data.toList = c at *
  generalize Skiff.crcSum (t ++ m).data.toList = d at *
  have HL : Hid ((((a : Int) == (b : Int)) == ((c : Int) == (d : Int))) = true) := by
    show _ = true
    by_cases h : a = b
    · rw [← hl.1 h, h]; simp
    · have h2 : ¬ c = d := fun e => h (hl.2 e)
      have e1 : ((a : Int) == (b : Int)) = false := by rw [beq_eq_false_iff_ne]; omega
      have e2 : ((c : Int) == (d : Int)) = false := by rw [beq_eq_false_iff_ne]; omega
      rw [e1, e2]; rfl
  clear hl
  go_enter Try.func7, Try.ntmps7
  go_wp2_with fail
  refine (awake_calls _).mono ?_
  rintro e w1 ⟨rfl, B1⟩
  go_wp2_with fail
  refine (num_calls _ _).mono ?_
  rintro e w2 ⟨rfl, rfl⟩
  go_wp2_with fail
  refine (C1.out _).mono ?_
  rintro e w3 ⟨rfl, B3⟩
  go_wp2_with fail
  refine (C2.out _).mono ?_
  rintro e w4 ⟨rfl, B4⟩
  go_wp2_with fail
  refine (C3.out _).mono ?_
  rintro e w5 ⟨rfl, B5⟩
  go_wp2_with fail
  refine (C4.out _).mono ?_
  rintro e w6 ⟨rfl, B6⟩
  go_wp2
  go_ret
  exact ⟨congrArg (fun b => Ending.returned (.bool b)) HL.out, (by repeat (first | exact Ext.refl _ | refine Ext.drewN ?_ _ | refine Ext.drew ?_ | refine Ext.alloc ?_ _ | refine Ext.trans ?_ (by assumption)))⟩

theorem known_0 : Skiff.crcSum [97] = 3904355907 := by decide +kernel
theorem known_1 : Skiff.crcSum [97, 98, 99] = 891568578 := by decide +kernel
theorem known_2 : Skiff.crcSum [0, 0, 0, 0] = 558161692 := by decide +kernel
theorem known_3 : Skiff.crcSum [255, 255, 255, 255] = 4294967295 := by decide +kernel
theorem known_4 : Skiff.crcSum [84, 104, 101, 32, 113, 117, 105, 99, 107, 32, 98, 114, 111, 119, 110, 32, 102, 111, 120, 32, 106, 117, 109, 112, 115, 32, 111, 118, 101, 114, 32, 116, 104, 101, 32, 108, 97, 122, 121, 32, 100, 111, 103] = 1095738169 := by decide +kernel

theorem known_at (l : List UInt8) (k : Nat) (K : Int) (hK : (k : Int) = K) (h : Skiff.crcSum l = k) (hs : l.length ≤ 100) (w : World) :
    Calls Try.prog 9 #[.string ⟨l.toArray⟩] w fun e w' => e = .returned (.int .i64 K) ∧ Ext w w' := by
  have c := sum_calls ⟨l.toArray⟩ w (by show l.toArray.size ≤ _; simp; omega)
  have e : (⟨l.toArray⟩ : ByteArray).data.toList = l := by simp
  rw [e, h, hK] at c
  exact c

set_option maxHeartbeats 2000000 in
theorem known_walk (n : Int) (hn : (Lit.int .i64 n).wf = true) (w : World) :
    Calls Try.prog 5 #[.int .i64 n] w fun e w' => e = .returned (.bool true) ∧ Ext w w' := by
  have C0 := Lib.hid (known_at _ _ 3904355907 rfl known_0 (by decide))
  have C1 := Lib.hid (known_at _ _ 891568578 rfl known_1 (by decide))
  have C2 := Lib.hid (known_at _ _ 558161692 rfl known_2 (by decide))
  have C3 := Lib.hid (known_at _ _ 4294967295 rfl known_3 (by decide))
  have C4 := Lib.hid (known_at _ _ 1095738169 rfl known_4 (by decide))
  have hx : wrap64 ((IntKind.u64.wrap n).tmod 5) = 0 ∨ wrap64 ((IntKind.u64.wrap n).tmod 5) = 1 ∨ wrap64 ((IntKind.u64.wrap n).tmod 5) = 2 ∨ wrap64 ((IntKind.u64.wrap n).tmod 5) = 3 ∨ wrap64 ((IntKind.u64.wrap n).tmod 5) = 4 := by
    have h0 : 0 ≤ IntKind.u64.wrap n := by rw [IntKind.wrap_u64]; omega
    rw [Int.tmod_eq_emod_of_nonneg h0]
    unfold wrap64
    omega
  rcases hx with h | h | h | h | h
  · go_enter Try.func5, Try.ntmps5
    go_wp2_with fail
    refine (awake_calls _).mono ?_
    rintro e w1 ⟨rfl, B1⟩
    go_wp2_with fail
    go_region_held3 (fun w' => w'.cell? ⟨w1.heap.size, 0, none⟩ = some (.string ⟨#[97]⟩) ∧ w'.cell? ⟨w1.heap.size + 1, 0, none⟩ = some (.int .i64 3904355907))
      (first | go_keep | (go_split_ands; refine ⟨Ext.cell ‹_› ‹_›, Ext.cell ‹_› ‹_›⟩))
      (first | (go_at_call 8; refine (num_calls _ _).mono ?_; rintro e w' ⟨rfl, rfl⟩) | (go_at_call 9; refine (C0.out _).mono ?_; rintro e w' ⟨rfl, B2⟩))
    go_wp2
    go_ret
    exact ⟨rfl, (by repeat (first | exact Ext.refl _ | refine Ext.drewN ?_ _ | refine Ext.drew ?_ | refine Ext.alloc ?_ _ | refine Ext.trans ?_ (by assumption)))⟩
  · go_enter Try.func5, Try.ntmps5
    go_wp2_with fail
    refine (awake_calls _).mono ?_
    rintro e w1 ⟨rfl, B1⟩
    go_wp2_with fail
    go_region_held3 (fun w' => w'.cell? ⟨w1.heap.size, 1, none⟩ = some (.string ⟨#[97, 98, 99]⟩) ∧ w'.cell? ⟨w1.heap.size + 1, 1, none⟩ = some (.int .i64 891568578))
      (first | go_keep | (go_split_ands; refine ⟨Ext.cell ‹_› ‹_›, Ext.cell ‹_› ‹_›⟩))
      (first | (go_at_call 8; refine (num_calls _ _).mono ?_; rintro e w' ⟨rfl, rfl⟩) | (go_at_call 9; refine (C1.out _).mono ?_; rintro e w' ⟨rfl, B2⟩))
    go_wp2
    go_ret
    exact ⟨rfl, (by repeat (first | exact Ext.refl _ | refine Ext.drewN ?_ _ | refine Ext.drew ?_ | refine Ext.alloc ?_ _ | refine Ext.trans ?_ (by assumption)))⟩
  · go_enter Try.func5, Try.ntmps5
    go_wp2_with fail
    refine (awake_calls _).mono ?_
    rintro e w1 ⟨rfl, B1⟩
    go_wp2_with fail
    go_region_held3 (fun w' => w'.cell? ⟨w1.heap.size, 2, none⟩ = some (.string ⟨#[0, 0, 0, 0]⟩) ∧ w'.cell? ⟨w1.heap.size + 1, 2, none⟩ = some (.int .i64 558161692))
      (first | go_keep | (go_split_ands; refine ⟨Ext.cell ‹_› ‹_›, Ext.cell ‹_› ‹_›⟩))
      (first | (go_at_call 8; refine (num_calls _ _).mono ?_; rintro e w' ⟨rfl, rfl⟩) | (go_at_call 9; refine (C2.out _).mono ?_; rintro e w' ⟨rfl, B2⟩))
    go_wp2
    go_ret
    exact ⟨rfl, (by repeat (first | exact Ext.refl _ | refine Ext.drewN ?_ _ | refine Ext.drew ?_ | refine Ext.alloc ?_ _ | refine Ext.trans ?_ (by assumption)))⟩
  · go_enter Try.func5, Try.ntmps5
    go_wp2_with fail
    refine (awake_calls _).mono ?_
    rintro e w1 ⟨rfl, B1⟩
    go_wp2_with fail
    go_region_held3 (fun w' => w'.cell? ⟨w1.heap.size, 3, none⟩ = some (.string ⟨#[255, 255, 255, 255]⟩) ∧ w'.cell? ⟨w1.heap.size + 1, 3, none⟩ = some (.int .i64 4294967295))
      (first | go_keep | (go_split_ands; refine ⟨Ext.cell ‹_› ‹_›, Ext.cell ‹_› ‹_›⟩))
      (first | (go_at_call 8; refine (num_calls _ _).mono ?_; rintro e w' ⟨rfl, rfl⟩) | (go_at_call 9; refine (C3.out _).mono ?_; rintro e w' ⟨rfl, B2⟩))
    go_wp2
    go_ret
    exact ⟨rfl, (by repeat (first | exact Ext.refl _ | refine Ext.drewN ?_ _ | refine Ext.drew ?_ | refine Ext.alloc ?_ _ | refine Ext.trans ?_ (by assumption)))⟩
  · go_enter Try.func5, Try.ntmps5
    go_wp2_with fail
    refine (awake_calls _).mono ?_
    rintro e w1 ⟨rfl, B1⟩
    go_wp2_with fail
    go_region_held3 (fun w' => w'.cell? ⟨w1.heap.size, 4, none⟩ = some (.string ⟨#[84, 104, 101, 32, 113, 117, 105, 99, 107, 32, 98, 114, 111, 119, 110, 32, 102, 111, 120, 32, 106, 117, 109, 112, 115, 32, 111, 118, 101, 114, 32, 116, 104, 101, 32, 108, 97, 122, 121, 32, 100, 111, 103]⟩) ∧ w'.cell? ⟨w1.heap.size + 1, 4, none⟩ = some (.int .i64 1095738169))
      (first | go_keep | (go_split_ands; refine ⟨Ext.cell ‹_› ‹_›, Ext.cell ‹_› ‹_›⟩))
      (first | (go_at_call 8; refine (num_calls _ _).mono ?_; rintro e w' ⟨rfl, rfl⟩) | (go_at_call 9; refine (C4.out _).mono ?_; rintro e w' ⟨rfl, B2⟩))
    go_wp2
    go_ret
    exact ⟨rfl, (by repeat (first | exact Ext.refl _ | refine Ext.drewN ?_ _ | refine Ext.drew ?_ | refine Ext.alloc ?_ _ | refine Ext.trans ?_ (by assumption)))⟩

end Go.Proofs.Ytencjgchlchcoaa
