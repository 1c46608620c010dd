/- The small functions of package nor. -/
import Derived.Test.YtbpmmjfibnkmeaaRefM
import Derived.Test.YtbpmmjfibnkmeaaShelf
set_option linter.unusedVariables false
set_option linter.unusedSimpArgs false
set_option maxHeartbeats 4000000
namespace Go.Proofs.Ytbpmmjfibnkmeaa
open Go.RowKit Skiff
attribute [local go_sem ↓ high] min_two_int min_three_int max_two_int

theorem repeatL_one (b : UInt8) : ∀ c : Nat, Lib.repeatL [b] c = List.replicate c b
  | 0 => rfl
  | c + 1 => by rw [Lib.repeatL, repeatL_one b c, List.replicate_succ]; rfl

theorem repeat_calls (k : Nat) (hk : k ≤ 768) (w : World) :
    Calls Try.prog 30 #[.string ⟨#[255]⟩, .int .i64 (k : Int)] w fun e w' => e = .returned (.string (mk (List.replicate k 255))) ∧ Ext w w' := by
  have h := Go.Proofs.Try.strings_Repeat ⟨#[255]⟩ k w (by omega) (by show 1 * k ≤ _; omega)
  rw [repeatL_one] at h
  exact h

theorem repeat768_calls (w : World) :
    Calls Try.prog 30 #[.string ⟨#[255]⟩, .int .i64 768] w fun e w' => e = .returned (.string (mk flash0)) ∧ Ext w w' := repeat_calls 768 (by omega) w

theorem blank_calls (w : World) :
    Calls Try.prog 21 #[] w fun e w' => e = .returned (.string (mk flash0)) ∧ Ext w w' := by
  go_enter Try.func21, Try.ntmps21
  go_wp2_with fail
  refine (repeat768_calls _).mono ?_
  rintro e w1 ⟨rfl, B1⟩
  go_wp2
  go_ret
  exact ⟨rfl, (by repeat (first | (with_reducible exact Ext.refl _) | (with_reducible assumption) | (with_reducible refine Ext.drewN ?_ _) | (with_reducible refine Ext.drew ?_) | (with_reducible refine Ext.alloc ?_ _) | (with_reducible refine Ext.setCell ?_ (by first | exact Nat.le_refl _ | (simp <;> omega)) _) | (with_reducible refine Ext.trans ?_ (by with_reducible assumption))))⟩

theorem nmay_calls (s : ByteArray) (w : World) :
    Calls Try.prog 19 #[.string s] w fun e w' => e = .returned (.bool (decide (s.size = 768))) ∧ w = w' := by
  by_cases h : s.size = 768
  · have h1 : ((s.size : Int) == 768) = true := by rw [h]; rfl
    have h2 : Hid (decide (s.size = 768) = true) := by show _ = _; simpa using h
    clear h
    go_enter Try.func19, Try.ntmps19
    go_wp2
    go_ret
    exact ⟨by rw [h2.out]; rfl, rfl⟩
  · have h1 : ((s.size : Int) == 768) = false := by rw [beq_eq_false_iff_ne]; omega
    have h2 : Hid (decide (s.size = 768) = false) := by show _ = _; simpa using h
    clear h
    go_enter Try.func19, Try.ntmps19
    go_wp2
    go_ret
    exact ⟨by rw [h2.out]; rfl, rfl⟩

theorem mask_or (b : UInt8) (m : Nat) (hm : m ≤ 8) : bits .or .u8 (b.toNat : Int) (255 * 2 ^ m % 256) = ((maskB b m).toNat : Int) := by
  have h : ∀ (k : Fin 9) (n : Fin 256), bits .or .u8 ((UInt8.ofFin n).toNat : Int) (255 * 2 ^ k.val % 256) = ((maskB (UInt8.ofFin n) k.val).toNat : Int) := by decide +kernel
  exact h ⟨m, by omega⟩ b.toFin

theorem mask_calls (b : UInt8) (n : Int) (h0 : -100 ≤ n) (h1 : n ≤ 100) (w : World) :
    Calls Try.prog 25 #[.int .u8 (b.toNat : Int), .int .i64 n] w fun e w' => e = .returned (.int .u8 ((maskB b n.toNat).toNat : Int)) ∧ w = w' := by
  have hm : imin (imax n 0) 8 = ((min n.toNat 8 : Nat) : Int) := by rw [imin_eq, imax_eq]; omega
  have hmb : maskB b n.toNat = maskB b (min n.toNat 8) := by unfold maskB; rw [show min (min n.toNat 8) 8 = min n.toNat 8 by omega]
  have HB := Lib.hid hmb
  have hle : min n.toNat 8 ≤ 8 := by omega
  clear hmb
  generalize min n.toNat 8 = m at *
  have ho := mask_or b m hle
  go_enter Try.func25, Try.ntmps25
  go_wp2
  go_ret
  exact ⟨by rw [HB.out]; rfl, rfl⟩

theorem sector_calls (x : Int) (w : World) :
    Calls Try.prog 29 #[.int .i64 x] w fun e w' => e = .returned (.bool (within x 0 7)) ∧ w = w' := by
  have hw : Hid (within x 0 7 = (decide (x ≥ 0) && decide (x < 8))) := by
    show _ = _
    unfold within
    rw [show decide (x ≤ 7) = decide (x < 8) by apply decide_eq_decide.2; omega]
  by_cases h : x ≥ 0
  · have h1 : decide (x ≥ 0) = true := by simpa using h
    go_enter Try.func29, Try.ntmps29
    go_wp2
    go_ret
    exact ⟨by rw [hw.out, h1]; rfl, rfl⟩
  · have h1 : decide (x ≥ 0) = false := by simpa using h
    go_enter Try.func29, Try.ntmps29
    go_wp2
    go_ret
    exact ⟨by rw [hw.out, h1]; rfl, rfl⟩

theorem begins_calls (x : Int) (w : World) :
    Calls Try.prog 24 #[.int .i64 x] w fun e w' => e = .returned (.bool (wordAt x)) ∧ w = w' := by
  have hw : Hid (wordAt x = (decide (x ≥ 0) && decide (x < 768) && (x % 4 == 0))) := by
    show _ = _
    unfold wordAt within
    by_cases h : x % 4 = 0
    · rw [show decide (x ≤ 764) = decide (x < 768) by apply decide_eq_decide.2; omega]
      simp [h]
    · simp [h]
  by_cases h : x ≥ 0
  · have h1 : decide (x ≥ 0) = true := by simpa using h
    by_cases h2 : x < 768
    · have h3 : decide (x < 768) = true := by simpa using h2
      go_enter Try.func24, Try.ntmps24
      go_wp2
      go_ret
      exact ⟨by rw [hw.out, h1, h3]; rfl, rfl⟩
    · have h3 : decide (x < 768) = false := by simpa using h2
      go_enter Try.func24, Try.ntmps24
      go_wp2
      go_ret
      exact ⟨by rw [hw.out, h1, h3]; rfl, rfl⟩
  · have h1 : decide (x ≥ 0) = false := by simpa using h
    go_enter Try.func24, Try.ntmps24
    go_wp2
    go_ret
    exact ⟨by rw [hw.out, h1]; rfl, rfl⟩

def putIn (f : List UInt8) (a : Nat) (t : List UInt8) : List UInt8 := f.take a ++ t ++ f.drop (a + t.length)
theorem with_calls (f t : ByteArray) (a : Nat) (hf : f.size = 768) (h : a + t.size ≤ 768) (w : World) :
    Calls Try.prog 26 #[.string f, .int .i64 (a : Int), .string t] w fun e w' => e = .returned (.string (mk (putIn (bl f) a (bl t)))) ∧ Ext w w' := by
  obtain ⟨n, hn⟩ : ∃ n, t.size = n := ⟨_, rfl⟩
  rw [hn] at h
  have c0 : (a : Int) ≤ 768 := by omega
  have c1 : (a : Int) + (n : Int) ≤ 768 := by omega
  have c2 : 0 ≤ (a : Int) + (n : Int) := by omega
  have c3 : ((a : Int) + (n : Int)).toNat = a + n := by omega
  have c4 : IntKind.i64.wrap ((a : Int) + (n : Int)) = (a : Int) + (n : Int) := wrap_i64_fit _ (by omega) (by omega)
  have hs1 : (f.extract 0 a).size = a := by simp; omega
  have hs2 : (f.extract (a + n) 768).size = 768 - (a + n) := by simp; omega
  have he : f.extract 0 a ++ t ++ f.extract (a + n) 768 = mk (putIn (bl f) a (bl t)) := by
    rw [← mk_bl (f.extract 0 a ++ t ++ f.extract (a + n) 768)]
    congr 1
    rw [bl_append, bl_append, bl_extract, bl_extract]
    unfold putIn
    rw [bl_length t, hn, List.take_of_length_le (by simp; omega : ((bl f).drop (a + n)).length ≤ 768 - (a + n))]
    simp
  have HE := Lib.hid he
  clear he
  have q1 : ¬ (9223372036854775807 < a + n) := by omega
  have q2 : ¬ (9223372036854775807 < a + n + (768 - (a + n))) := by omega
  go_enter Try.func26, Try.ntmps26
  go_wp2
  go_region
  rw [HE.out]
  go_wp2
  go_ret
  exact ⟨rfl, (by repeat (first | (with_reducible exact Ext.refl _) | (with_reducible assumption) | (with_reducible refine Ext.drewN ?_ _) | (with_reducible refine Ext.drew ?_) | (with_reducible refine Ext.alloc ?_ _) | (with_reducible refine Ext.setCell ?_ (by first | exact Nat.le_refl _ | (simp <;> omega)) _) | (with_reducible refine Ext.trans ?_ (by with_reducible assumption))))⟩

end Go.Proofs.Ytbpmmjfibnkmeaa
