/- container/heap.down over *choose.queue. -/
import Derived.Test.YtdijecmpaoabbaaZ2HeapW
import Derived.Test.YtdijecmpaoabbaaZ2WGuard
set_option linter.unusedVariables false
set_option linter.unusedSimpArgs false
set_option maxHeartbeats 4000000
namespace Go.Proofs.Ytdijecmpaoabbaa
open Go.RowKit Go.Proofs.YtdijecmpaoabbaaW.PrintWords Go.Proofs.YtdijecmpaoabbaaW.PrintMore Go.Proofs.YtdijecmpaoabbaaW.PrintLast

def IsB (e : Ending) : Prop := ∃ b, e = .returned (.bool b)
theorem swp_ats (l : List Plc) (hl : Ats l) (i j : Nat) (hi : i < l.length) (hj : j < l.length) : Ats (Hp.swp pz l i j) := fun p hp => hl p ((Hp.swp_perm pz l i j hi hj).mem_iff.1 hp)
theorem hdown_calls {w0 g A c l w} (h : StH w0 g A c l w) (hl : Ats l) (hc : l.length < 4611686018427387904) (i n : Nat) (hi : i ≤ n) (hn : n ≤ l.length) :
    Calls Try.prog 42 #[.iface 58 (.pointer (some ⟨g, 0, none⟩)), .int .i64 i, .int .i64 n] w fun e w' => IsB e ∧ StH w0 g A c (Hp.down pz pkey n n i l) w' := by
  go_enter Try.func42, Try.ntmps42
  go_wp2
  go_loopg [7] n (fun kx s7 wr => ∃ (r : Nat) (lk : List Plc), s7 = .int .i64 r ∧ r ≤ n ∧ n ≤ r + kx ∧ lk.length = l.length ∧ Ats lk ∧ Aside (StH w0 g A c lk wr) ∧ Hid (Hp.down pz pkey n kx r lk = Hp.down pz pkey n n i l))
  case atStart => exact ⟨i, l, rfl, hi, by omega, rfl, hl, h, rfl⟩
  case round =>
    obtain ⟨r, lk, rfl, hr, hk, hll, hal, S, HE⟩ := hrel
    have hrn : r < 4611686018427387904 := by omega
    by_cases h1 : n ≤ 2 * r + 1
    · have h1z : (n : Int) ≤ 2 * (r : Int) + 1 := by omega
      have HE2 := HE.out
      rw [Hp.down_stop pz pkey n gk r lk h1] at HE2
      have HE3 := Lib.hid HE2
      clear HE HE2
      go_wp2
      go_ret
      exact ⟨⟨_, rfl⟩, by rw [← HE3.out]; exact S.out⟩
    have h1z : ¬ ((n : Int) ≤ 2 * (r : Int) + 1) := by omega
    obtain ⟨kx, rfl⟩ : ∃ k, gk = k + 1 := ⟨gk - 1, by omega⟩
    have HC := Lib.hid h1
    have h0z : ¬ (2 * (r : Int) + 1 < 0) := by omega
    by_cases h2 : 2 * r + 2 < n
    · have h2z : 2 * (r : Int) + 1 + 1 < (n : Int) := by omega
      cases hL : decide (pkey (lk.getD (2 * r + 2) pz) > pkey (lk.getD (2 * r + 1) pz)) with
      | true =>
        have HL := Lib.hid hL
        have HJ := Lib.hid (Hp.child_right pz pkey n r lk h2 hL)
        clear hL
        cases hG : decide (pkey (lk.getD (2 * r + 2) pz) > pkey (lk.getD r pz)) with
        | true =>
          have HG := Lib.hid hG
          have HE2 := Lib.hid ((Hp.down_go pz pkey n kx r lk _ HC.out HJ.out (of_decide_eq_true hG)).symm.trans HE.out)
          clear hG HE HJ HC
          go_wp2_with (first | ((with_reducible refine gate_dst (N := 32) rfl ?_); refine gate_guard (by rfl) ?_; refine inv_less (2 * r + 2) (2 * r + 1) rfl rfl rfl rfl rfl ?e1 ?e2 S.out hal (by omega) (by omega) ?_; (case e1 => omega); (case e2 => omega); intro w1 S1; rw [HL.out]; have T1 : Aside _ := S1; clear S S1; have S := T1; clear T1 HL) | ((with_reducible refine gate_dst (N := 38) rfl ?_); refine inv_less (2 * r + 2) r rfl rfl rfl rfl rfl ?e1 ?e2 S.out hal (by omega) (by omega) ?_; (case e1 => omega); (case e2 => omega); intro w2 S1; rw [HG.out]; have T1 : Aside _ := S1; clear S S1; have S := T1; clear T1 HG) | ((with_reducible refine gate_dst (N := 43) rfl ?_); refine inv_swap r (2 * r + 2) rfl rfl rfl rfl rfl ?e1 ?e2 S.out (by omega) (by omega) ?_; (case e1 => omega); (case e2 => omega); intro w3 S1; have T1 : Aside _ := S1; clear S S1; have S := T1; clear T1))
          go_roundg kx
          case measure => omega
          case rel => exact ⟨2 * r + 2, Hp.swp pz lk r (2 * r + 2), by first | rfl | (congr 1; omega), by omega, by omega, by rw [Hp.swp_length]; exact hll, swp_ats lk hal r (2 * r + 2) (by omega) (by omega), S, HE2⟩
        | false =>
          have HG := Lib.hid hG
          have HE2 := Lib.hid ((Hp.down_halt pz pkey n kx r lk _ HC.out HJ.out (of_decide_eq_false hG)).symm.trans HE.out)
          clear hG HE HJ HC
          go_wp2_with (first | ((with_reducible refine gate_dst (N := 32) rfl ?_); refine gate_guard (by rfl) ?_; refine inv_less (2 * r + 2) (2 * r + 1) rfl rfl rfl rfl rfl ?e1 ?e2 S.out hal (by omega) (by omega) ?_; (case e1 => omega); (case e2 => omega); intro w1 S1; rw [HL.out]; have T1 : Aside _ := S1; clear S S1; have S := T1; clear T1 HL) | ((with_reducible refine gate_dst (N := 38) rfl ?_); refine inv_less (2 * r + 2) r rfl rfl rfl rfl rfl ?e1 ?e2 S.out hal (by omega) (by omega) ?_; (case e1 => omega); (case e2 => omega); intro w2 S1; rw [HG.out]; have T1 : Aside _ := S1; clear S S1; have S := T1; clear T1 HG))
          go_ret
          exact ⟨⟨_, rfl⟩, by rw [← HE2.out]; exact S.out⟩
      | false =>
        have HL := Lib.hid hL
        have HJ := Lib.hid (Hp.child_left pz pkey n r lk (fun _ => hL))
        clear hL
        cases hG : decide (pkey (lk.getD (2 * r + 1) pz) > pkey (lk.getD r pz)) with
        | true =>
          have HG := Lib.hid hG
          have HE2 := Lib.hid ((Hp.down_go pz pkey n kx r lk _ HC.out HJ.out (of_decide_eq_true hG)).symm.trans HE.out)
          clear hG HE HJ HC
          go_wp2_with (first | ((with_reducible refine gate_dst (N := 32) rfl ?_); refine gate_guard (by rfl) ?_; refine inv_less (2 * r + 2) (2 * r + 1) rfl rfl rfl rfl rfl ?e1 ?e2 S.out hal (by omega) (by omega) ?_; (case e1 => omega); (case e2 => omega); intro w1 S1; rw [HL.out]; have T1 : Aside _ := S1; clear S S1; have S := T1; clear T1 HL) | ((with_reducible refine gate_dst (N := 38) rfl ?_); refine inv_less (2 * r + 1) r rfl rfl rfl rfl rfl ?e1 ?e2 S.out hal (by omega) (by omega) ?_; (case e1 => omega); (case e2 => omega); intro w2 S1; rw [HG.out]; have T1 : Aside _ := S1; clear S S1; have S := T1; clear T1 HG) | ((with_reducible refine gate_dst (N := 43) rfl ?_); refine inv_swap r (2 * r + 1) rfl rfl rfl rfl rfl ?e1 ?e2 S.out (by omega) (by omega) ?_; (case e1 => omega); (case e2 => omega); intro w3 S1; have T1 : Aside _ := S1; clear S S1; have S := T1; clear T1))
          go_roundg kx
          case measure => omega
          case rel => exact ⟨2 * r + 1, Hp.swp pz lk r (2 * r + 1), by first | rfl | (congr 1; omega), by omega, by omega, by rw [Hp.swp_length]; exact hll, swp_ats lk hal r (2 * r + 1) (by omega) (by omega), S, HE2⟩
        | false =>
          have HG := Lib.hid hG
          have HE2 := Lib.hid ((Hp.down_halt pz pkey n kx r lk _ HC.out HJ.out (of_decide_eq_false hG)).symm.trans HE.out)
          clear hG HE HJ HC
          go_wp2_with (first | ((with_reducible refine gate_dst (N := 32) rfl ?_); refine gate_guard (by rfl) ?_; refine inv_less (2 * r + 2) (2 * r + 1) rfl rfl rfl rfl rfl ?e1 ?e2 S.out hal (by omega) (by omega) ?_; (case e1 => omega); (case e2 => omega); intro w1 S1; rw [HL.out]; have T1 : Aside _ := S1; clear S S1; have S := T1; clear T1 HL) | ((with_reducible refine gate_dst (N := 38) rfl ?_); refine inv_less (2 * r + 1) r rfl rfl rfl rfl rfl ?e1 ?e2 S.out hal (by omega) (by omega) ?_; (case e1 => omega); (case e2 => omega); intro w2 S1; rw [HG.out]; have T1 : Aside _ := S1; clear S S1; have S := T1; clear T1 HG))
          go_ret
          exact ⟨⟨_, rfl⟩, by rw [← HE2.out]; exact S.out⟩
    · have h2z : ¬ (2 * (r : Int) + 1 + 1 < (n : Int)) := by omega
      have HJ := Lib.hid (Hp.child_left pz pkey n r lk (fun h => absurd h h2))
      cases hG : decide (pkey (lk.getD (2 * r + 1) pz) > pkey (lk.getD r pz)) with
      | true =>
        have HG := Lib.hid hG
        have HE2 := Lib.hid ((Hp.down_go pz pkey n kx r lk _ HC.out HJ.out (of_decide_eq_true hG)).symm.trans HE.out)
        clear hG HE HJ HC
        go_wp2_with (first | ((with_reducible refine gate_dst (N := 38) rfl ?_); refine inv_less (2 * r + 1) r rfl rfl rfl rfl rfl ?e1 ?e2 S.out hal (by omega) (by omega) ?_; (case e1 => omega); (case e2 => omega); intro w2 S1; rw [HG.out]; have T1 : Aside _ := S1; clear S S1; have S := T1; clear T1 HG) | ((with_reducible refine gate_dst (N := 43) rfl ?_); refine inv_swap r (2 * r + 1) rfl rfl rfl rfl rfl ?e1 ?e2 S.out (by omega) (by omega) ?_; (case e1 => omega); (case e2 => omega); intro w3 S1; have T1 : Aside _ := S1; clear S S1; have S := T1; clear T1))
        go_roundg kx
        case measure => omega
        case rel => exact ⟨2 * r + 1, Hp.swp pz lk r (2 * r + 1), by first | rfl | (congr 1; omega), by omega, by omega, by rw [Hp.swp_length]; exact hll, swp_ats lk hal r (2 * r + 1) (by omega) (by omega), S, HE2⟩
      | false =>
        have HG := Lib.hid hG
        have HE2 := Lib.hid ((Hp.down_halt pz pkey n kx r lk _ HC.out HJ.out (of_decide_eq_false hG)).symm.trans HE.out)
        clear hG HE HJ HC
        go_wp2_with (first | ((with_reducible refine gate_dst (N := 38) rfl ?_); refine inv_less (2 * r + 1) r rfl rfl rfl rfl rfl ?e1 ?e2 S.out hal (by omega) (by omega) ?_; (case e1 => omega); (case e2 => omega); intro w2 S1; rw [HG.out]; have T1 : Aside _ := S1; clear S S1; have S := T1; clear T1 HG))
        go_ret
        exact ⟨⟨_, rfl⟩, by rw [← HE2.out]; exact S.out⟩

end Go.Proofs.Ytdijecmpaoabbaa
