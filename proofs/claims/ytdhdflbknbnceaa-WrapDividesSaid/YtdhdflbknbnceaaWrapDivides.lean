/-
  The walks of the laws of layer 1 (wrap): WrapDivides.
-/
import Derived.Test.YtdhdflbknbnceaaWrapLaws
namespace Go.Proofs.Ytdhdflbknbnceaa
open Go.RowKit
set_option maxHeartbeats 400000 in
theorem walkWrapDivides (a b : Int) (ha0 : (Lit.int .i64 a).wf = true) (hb0 : (Lit.int .i64 b).wf = true) (w : World) :
    Calls Try.prog 6 #[.int .i64 a, .int .i64 b] w fun e w' => e = .returned (.bool true) ∧ Below w.heap.size w w' := by
  have ha := i64_of_wf ha0
  have hb := i64_of_wf hb0
  clear ha0
  clear hb0
  by_cases h0 : wrap32 b = 0
  · have e0 : (wrap32 b == 0) = true := beq_iff_eq.2 h0
    have e1 : (twoN 4 a b == -1) = true := beq_iff_eq.2 (by simp [twoN, h0])
    have e2 : (twoN 5 a b == wrap32 a) = true := beq_iff_eq.2 (by simp [twoN, h0])
    clear h0
    go_enter Try.func6, Try.ntmps6
    go_wp2_with (first | (go_at_call 11; refine (awake_any _).mono ?_; rintro e w1 ⟨rfl, hb⟩) | (go_at_call 12; refine (pick_any _ _ _ (by omega) (by omega)).mono ?_; rintro e w' ⟨rfl, rfl⟩) | (go_at_call 23; refine (wrap_any _ _).mono ?_; rintro e w' ⟨rfl, rfl⟩) | (go_at_call 25; refine (word_any _ _).mono ?_; rintro e w' ⟨rfl, rfl⟩) | (go_at_call 13; refine (two_any _ _ _ _).mono ?_; rintro e w' ⟨rfl, rfl⟩) | (go_at_call 17; refine (one_any _ _ _).mono ?_; rintro e w' ⟨rfl, rfl⟩) | (go_at_call 15; refine (high_any _ _ _ _).mono ?_; rintro e w' ⟨rfl, rfl⟩) | (go_at_call 21; refine (level_any _ _).mono ?_; rintro e w' ⟨rfl, rfl⟩))
    go_ret
    exact ⟨ret1 (rbool rfl), hb⟩
  · have e0 : (wrap32 b == 0) = false := beq_eq_false_iff_ne.2 h0
    have e1 : (twoN 1 (twoN 3 (twoN 4 a b) b) (twoN 5 a b) == wrap32 a) = true := beq_iff_eq.2 (div_all a b h0)
    have hr := rem_near a b h0
    have hrb := rem_bd a b
    by_cases r0 : twoN 5 a b = 0
    · have r1 : (twoN 5 a b == 0) = true := beq_iff_eq.2 r0
      clear hr r0
      go_enter Try.func6, Try.ntmps6
      go_wp2_with (first | (go_at_call 11; refine (awake_any _).mono ?_; rintro e w1 ⟨rfl, hb⟩) | (go_at_call 12; refine (pick_any _ _ _ (by omega) (by omega)).mono ?_; rintro e w' ⟨rfl, rfl⟩) | (go_at_call 23; refine (wrap_any _ _).mono ?_; rintro e w' ⟨rfl, rfl⟩) | (go_at_call 25; refine (word_any _ _).mono ?_; rintro e w' ⟨rfl, rfl⟩) | (go_at_call 13; refine (two_any _ _ _ _).mono ?_; rintro e w' ⟨rfl, rfl⟩) | (go_at_call 17; refine (one_any _ _ _).mono ?_; rintro e w' ⟨rfl, rfl⟩) | (go_at_call 15; refine (high_any _ _ _ _).mono ?_; rintro e w' ⟨rfl, rfl⟩) | (go_at_call 21; refine (level_any _ _).mono ?_; rintro e w' ⟨rfl, rfl⟩))
      go_ret
      exact ⟨ret1 (rbool rfl), hb⟩
    · have r1 : (twoN 5 a b == 0) = false := beq_eq_false_iff_ne.2 r0
      have hc : (0 < twoN 5 a b ∧ 0 ≤ wrap32 a ∨ twoN 5 a b < 0 ∧ wrap32 a < 0) := by omega
      have hy : 0 < wrap32 b ∨ wrap32 b < 0 := by omega
      rcases hc with ⟨c1, c2⟩ | ⟨c1, c2⟩
      all_goals
        rcases hy with hy | hy
        all_goals
          go_enter Try.func6, Try.ntmps6
          go_wp2_with (first | (go_at_call 11; refine (awake_any _).mono ?_; rintro e w1 ⟨rfl, hb⟩) | (go_at_call 12; refine (pick_any _ _ _ (by omega) (by omega)).mono ?_; rintro e w' ⟨rfl, rfl⟩) | (go_at_call 23; refine (wrap_any _ _).mono ?_; rintro e w' ⟨rfl, rfl⟩) | (go_at_call 25; refine (word_any _ _).mono ?_; rintro e w' ⟨rfl, rfl⟩) | (go_at_call 13; refine (two_any _ _ _ _).mono ?_; rintro e w' ⟨rfl, rfl⟩) | (go_at_call 17; refine (one_any _ _ _).mono ?_; rintro e w' ⟨rfl, rfl⟩) | (go_at_call 15; refine (high_any _ _ _ _).mono ?_; rintro e w' ⟨rfl, rfl⟩) | (go_at_call 21; refine (level_any _ _).mono ?_; rintro e w' ⟨rfl, rfl⟩))
          all_goals (go_ret; exact ⟨ret1 (rbool (by first | rfl | (simp_all; done) | (simp_all; omega))), hb⟩)
end Go.Proofs.Ytdhdflbknbnceaa
