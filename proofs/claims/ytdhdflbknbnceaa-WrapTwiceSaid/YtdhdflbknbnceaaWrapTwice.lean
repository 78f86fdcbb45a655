/-
  The walks of the laws of layer 1 (wrap): WrapTwice.
-/
import Derived.Test.YtdhdflbknbnceaaWrapLaws
namespace Go.Proofs.Ytdhdflbknbnceaa
open Go.RowKit
set_option maxHeartbeats 400000 in
theorem walkWrapTwice (a b : Int) (ha0 : (Lit.int .i64 a).wf = true) (hb0 : (Lit.int .i64 b).wf = true) (w : World) :
    Calls Try.prog 4 #[.int .i64 a, .int .i64 b] w fun e w' => e = .returned (.bool true) ∧ Below w.heap.size w w' := by
  have ha := i64_of_wf ha0
  have hb := i64_of_wf hb0
  clear ha0
  clear hb0
  have p1 := pickN_bd b 1000000 (by omega)
  have hn := w32_bd a
  have hw := word_bd a
  have n1 : (wrap32 (wrap32 a) == wrap32 a) = true := beq_iff_eq.2 (w32_w32 a)
  have n2 : (word (word a) == word a) = true := beq_iff_eq.2 (word_word a)
  have n3 : (wrap32 (word a) == wrap32 a) = true := beq_iff_eq.2 (w32_word a)
  have n4 : (word (wrap32 a) == word a) = true := beq_iff_eq.2 (word_w32 a)
  have n5 : ((wrap32 (wrap64 (a + pickN b 1000000 * 4294967296))) == wrap32 a) = true := beq_iff_eq.2 (far_w32 a _)
  have n6 : ((word (wrap64 (a + pickN b 1000000 * 4294967296))) == word a) = true := beq_iff_eq.2 (far_word a _)
  have hc : word a = wrap32 a ∨ word a = wrap32 a + 4294967296 := by unfold word wrap32; omega
  go_enter Try.func4, Try.ntmps4
  go_wp2_with (first | (go_at_call 11; refine (awake_any _).mono ?_; rintro e w1 ⟨rfl, hb⟩) | (go_at_call 12; refine (pick_any _ _ _ (by omega) (by omega)).mono ?_; rintro e w' ⟨rfl, rfl⟩) | (go_at_call 23; refine (wrap_any _ _).mono ?_; rintro e w' ⟨rfl, rfl⟩) | (go_at_call 25; refine (word_any _ _).mono ?_; rintro e w' ⟨rfl, rfl⟩) | (go_at_call 13; refine (two_any _ _ _ _).mono ?_; rintro e w' ⟨rfl, rfl⟩) | (go_at_call 17; refine (one_any _ _ _).mono ?_; rintro e w' ⟨rfl, rfl⟩) | (go_at_call 15; refine (high_any _ _ _ _).mono ?_; rintro e w' ⟨rfl, rfl⟩) | (go_at_call 21; refine (level_any _ _).mono ?_; rintro e w' ⟨rfl, rfl⟩))
  all_goals
    go_ret
    refine ⟨ret1 (rbool ?_), hb⟩
    first | rfl | (rw [far_word]; simp_all; done) | (rw [beq_iff_eq, far_word]; assumption) | (rw [beq_iff_eq, far_word]; omega)
end Go.Proofs.Ytdhdflbknbnceaa
