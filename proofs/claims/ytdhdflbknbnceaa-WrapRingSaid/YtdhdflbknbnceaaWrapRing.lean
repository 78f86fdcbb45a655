/-
  The walks of the laws of layer 1 (wrap): WrapRing.
-/
import Derived.Test.YtdhdflbknbnceaaWrapLaws
namespace Go.Proofs.Ytdhdflbknbnceaa
open Go.RowKit
set_option maxHeartbeats 400000 in
theorem walkWrapRing (a b c : Int) (ha0 : (Lit.int .i64 a).wf = true) (hb0 : (Lit.int .i64 b).wf = true) (hc0 : (Lit.int .i64 c).wf = true) (w : World) :
    Calls Try.prog 9 #[.int .i64 a, .int .i64 b, .int .i64 c] w fun e w' => e = .returned (.bool true) ∧ Below w.heap.size w w' := by
  have ha := i64_of_wf ha0
  have hb := i64_of_wf hb0
  have hc := i64_of_wf hc0
  clear ha0
  clear hb0
  clear hc0
  have e1 : (twoN 3 a (twoN 1 b c) == twoN 1 (twoN 3 a b) (twoN 3 a c)) = true := beq_iff_eq.2 (ring_share a b c)
  have e2 : (twoN 3 a b == twoN 3 b a) = true := beq_iff_eq.2 (ring_turn a b)
  have e3 : (twoN 2 a b == twoN 1 a (oneN 15 b)) = true := beq_iff_eq.2 (ring_less a b)
  have e4 : (twoN 1 (twoN 2 a b) b == wrap32 a) = true := beq_iff_eq.2 (ring_back a b)
  go_enter Try.func9, Try.ntmps9
  go_wp2_with (first | (go_at_call 11; refine (awake_any _).mono ?_; rintro e w1 ⟨rfl, hb⟩) | (go_at_call 12; refine (pick_any _ _ _ (by omega) (by omega)).mono ?_; rintro e w' ⟨rfl, rfl⟩) | (go_at_call 23; refine (wrap_any _ _).mono ?_; rintro e w' ⟨rfl, rfl⟩) | (go_at_call 25; refine (word_any _ _).mono ?_; rintro e w' ⟨rfl, rfl⟩) | (go_at_call 13; refine (two_any _ _ _ _).mono ?_; rintro e w' ⟨rfl, rfl⟩) | (go_at_call 17; refine (one_any _ _ _).mono ?_; rintro e w' ⟨rfl, rfl⟩) | (go_at_call 15; refine (high_any _ _ _ _).mono ?_; rintro e w' ⟨rfl, rfl⟩) | (go_at_call 21; refine (level_any _ _).mono ?_; rintro e w' ⟨rfl, rfl⟩))
  go_ret
  exact ⟨ret1 (rbool rfl), hb⟩
end Go.Proofs.Ytdhdflbknbnceaa
