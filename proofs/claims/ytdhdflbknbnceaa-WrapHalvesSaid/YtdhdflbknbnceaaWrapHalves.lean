/-
  The walks of the laws of layer 1 (wrap): WrapHalves.
-/
import Derived.Test.YtdhdflbknbnceaaWrapLaws
namespace Go.Proofs.Ytdhdflbknbnceaa
open Go.RowKit
set_option maxHeartbeats 400000 in
theorem walkWrapHalves (a b : Int) (ha0 : (Lit.int .i64 a).wf = true) (hb0 : (Lit.int .i64 b).wf = true) (w : World) :
    Calls Try.prog 7 #[.int .i64 a, .int .i64 b] w fun e w' => e = .returned (.bool true) ∧ Below w.heap.size w w' := by
  have ha := i64_of_wf ha0
  have hb := i64_of_wf hb0
  clear ha0
  clear hb0
  have hw := word_bd a
  have hv := word_bd b
  have l1 := highN_bd a b true
  have l2 := word_bd (twoN 3 a b)
  have m0 := mul32_bd a b
  obtain ⟨t1, t2, t3, t4, t5⟩ := top_halves a b
  have e5 : (word (highN a b false) == (word a / 65536 * word b + word a % 65536 * word b / 65536) / 65536) = true := beq_iff_eq.2 t5
  clear t5
  have e6 := and65535_i64 (word a)
  have e0 : (highN a b true * 4294967296 + word (twoN 3 a b) == wrap32 a * wrap32 b) = true := beq_iff_eq.2 (halves_whole a b)
  go_enter Try.func7, Try.ntmps7
  go_wp2_with (first | (go_at_call 11; refine (awake_any _).mono ?_; rintro e w1 ⟨rfl, hb⟩) | (go_at_call 12; refine (pick_any _ _ _ (by omega) (by omega)).mono ?_; rintro e w' ⟨rfl, rfl⟩) | (go_at_call 23; refine (wrap_any _ _).mono ?_; rintro e w' ⟨rfl, rfl⟩) | (go_at_call 25; refine (word_any _ _).mono ?_; rintro e w' ⟨rfl, rfl⟩) | (go_at_call 13; refine (two_any _ _ _ _).mono ?_; rintro e w' ⟨rfl, rfl⟩) | (go_at_call 17; refine (one_any _ _ _).mono ?_; rintro e w' ⟨rfl, rfl⟩) | (go_at_call 15; refine (high_any _ _ _ _).mono ?_; rintro e w' ⟨rfl, rfl⟩) | (go_at_call 21; refine (level_any _ _).mono ?_; rintro e w' ⟨rfl, rfl⟩))
  go_ret
  exact ⟨ret1 (rbool rfl), hb⟩
end Go.Proofs.Ytdhdflbknbnceaa
