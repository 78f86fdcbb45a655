/-
  The walks of the laws of layer 1 (wrap): WrapLow.
-/
import Derived.Test.YtdhdflbknbnceaaWrapLaws
namespace Go.Proofs.Ytdhdflbknbnceaa
open Go.RowKit
set_option maxHeartbeats 400000 in
theorem walkWrapLow (a b c : Int) (ha0 : (Lit.int .i64 a).wf = true) (hb0 : (Lit.int .i64 b).wf = true) (hc0 : (Lit.int .i64 c).wf = true) (w : World) :
    Calls Try.prog 5 #[.int .i64 a, .int .i64 b, .int .i64 c] w fun e w' => e = .returned (.bool true) ∧ Below w.heap.size w w' := by
  have ha := i64_of_wf ha0
  have hb := i64_of_wf hb0
  have hc := i64_of_wf hc0
  clear ha0
  clear hb0
  clear hc0
  have p1 := pickN_bd a 14 (by omega)
  have p2 := pickN_bd a 3 (by omega)
  have e1 : twoB (1 + pickN a 14) = true := twoB_yes (by omega) (by omega)
  have e2 : oneB (15 + pickN a 3) = true := oneB_yes (by omega) (by omega)
  have e3 : (twoN (1 + pickN a 14) b c == twoN (1 + pickN a 14) (word b) (wrap32 c)) = true := beq_iff_eq.2 (twoN_low _ b c)
  have e4 : (twoN (1 + pickN a 14) b c == wrap32 (twoN (1 + pickN a 14) b c)) = true := beq_iff_eq.2 (twoN_w32 _ b c).symm
  have e5 : (oneN (15 + pickN a 3) b == oneN (15 + pickN a 3) (word b)) = true := beq_iff_eq.2 (oneN_low _ b)
  have e6 : (oneN (15 + pickN a 3) b == wrap32 (oneN (15 + pickN a 3) b)) = true := beq_iff_eq.2 (oneN_w32 _ b).symm
  have e7 : (highN b c true == highN (word b) (word c) true) = true := beq_iff_eq.2 (highN_word b c)
  have e8 : (highN b c false == highN (wrap32 b) (wrap32 c) false) = true := beq_iff_eq.2 (highN_wrap b c)
  go_enter Try.func5, Try.ntmps5
  go_wp2_with (first | (go_at_call 11; refine (awake_any _).mono ?_; rintro e w1 ⟨rfl, hb⟩) | (go_at_call 12; refine (pick_any _ _ _ (by omega) (by omega)).mono ?_; rintro e w' ⟨rfl, rfl⟩) | (go_at_call 23; refine (wrap_any _ _).mono ?_; rintro e w' ⟨rfl, rfl⟩) | (go_at_call 25; refine (word_any _ _).mono ?_; rintro e w' ⟨rfl, rfl⟩) | (go_at_call 13; refine (two_any _ _ _ _).mono ?_; rintro e w' ⟨rfl, rfl⟩) | (go_at_call 17; refine (one_any _ _ _).mono ?_; rintro e w' ⟨rfl, rfl⟩) | (go_at_call 15; refine (high_any _ _ _ _).mono ?_; rintro e w' ⟨rfl, rfl⟩) | (go_at_call 21; refine (level_any _ _).mono ?_; rintro e w' ⟨rfl, rfl⟩))
  go_ret
  exact ⟨ret1 (rbool rfl), hb⟩
end Go.Proofs.Ytdhdflbknbnceaa
