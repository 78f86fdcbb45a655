/-
  The walks of the laws of layer 1 (wrap): WrapBits.
-/
import Derived.Test.YtdhdflbknbnceaaWrapLaws
namespace Go.Proofs.Ytdhdflbknbnceaa
open Go.RowKit
set_option maxHeartbeats 400000 in
theorem walkWrapBits (a b c : Int) (ha0 : (Lit.int .i64 a).wf = true) (hb0 : (Lit.int .i64 b).wf = true) (hc0 : (Lit.int .i64 c).wf = true) (w : World) :
    Calls Try.prog 10 #[.int .i64 a, .int .i64 b, .int .i64 c] w fun e w' => e = .returned (.bool true) ∧ Below w.heap.size w w' := by
  have ha := i64_of_wf ha0
  have hb := i64_of_wf hb0
  have hc := i64_of_wf hc0
  clear ha0
  clear hb0
  clear hc0
  have p1 := pickN_bd c 32 (by omega)
  have e1 : (twoN 8 (twoN 8 a b) b == wrap32 a) = true := beq_iff_eq.2 (xor_twice a b)
  have e2 : (twoN 7 (oneN 17 a) (oneN 17 b) == oneN 17 (twoN 6 a b)) = true := beq_iff_eq.2 (de_morgan a b)
  obtain ⟨q1, q2⟩ := pow_bd _ p1
  have e3 : (twoN 9 a (pickN c 32) == twoN 3 a (2 ^ (pickN c 32).toNat)) = true := beq_iff_eq.2 (up_times a _ p1)
  obtain ⟨d1, d2, d3, d4, d5, d6⟩ := down_bd a _ p1
  have hn := w32_bd a
  go_enter Try.func10, Try.ntmps10
  go_wp2_with (first | (go_at_call 11; refine (awake_any _).mono ?_; rintro e w1 ⟨rfl, hb⟩) | (go_at_call 12; refine (pick_any _ _ _ (by omega) (by omega)).mono ?_; rintro e w' ⟨rfl, rfl⟩) | (go_at_call 23; refine (wrap_any _ _).mono ?_; rintro e w' ⟨rfl, rfl⟩) | (go_at_call 25; refine (word_any _ _).mono ?_; rintro e w' ⟨rfl, rfl⟩) | (go_at_call 13; refine (two_any _ _ _ _).mono ?_; rintro e w' ⟨rfl, rfl⟩) | (go_at_call 17; refine (one_any _ _ _).mono ?_; rintro e w' ⟨rfl, rfl⟩) | (go_at_call 15; refine (high_any _ _ _ _).mono ?_; rintro e w' ⟨rfl, rfl⟩) | (go_at_call 21; refine (level_any _ _).mono ?_; rintro e w' ⟨rfl, rfl⟩))
  go_ret
  exact ⟨ret1 (rbool rfl), hb⟩
end Go.Proofs.Ytdhdflbknbnceaa
