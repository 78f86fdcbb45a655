/-
  The walks of the laws of layer 1 (wrap): WrapSigns.
-/
import Derived.Test.YtdhdflbknbnceaaWrapLaws
namespace Go.Proofs.Ytdhdflbknbnceaa
open Go.RowKit
set_option maxHeartbeats 400000 in
theorem walkWrapSigns (a b c : Int) (ha0 : (Lit.int .i64 a).wf = true) (hb0 : (Lit.int .i64 b).wf = true) (hc0 : (Lit.int .i64 c).wf = true) (w : World) :
    Calls Try.prog 8 #[.int .i64 a, .int .i64 b, .int .i64 c] w fun e w' => e = .returned (.bool true) ∧ Below w.heap.size w w' := by
  have ha := i64_of_wf ha0
  have hb := i64_of_wf hb0
  have hc := i64_of_wf hc0
  clear ha0
  clear hb0
  clear hc0
  have p1 := pickN_bd a 14 (by omega)
  have p2 := pickN_bd b 14 (by omega)
  have p3 := pickN_bd c 1073741824 (by omega)
  have e1 : signB (1 + pickN a 14) = true := signB_yes (by omega)
  have e2 : signB (1 + pickN b 14) = true := signB_yes (by omega)
  have e3 : signB (18 + pickN c 1073741824) = false := signB_no (by omega)
  have e4 : twoB (18 + pickN c 1073741824) = false := twoB_no (by omega)
  have e5 : oneB (1 + pickN a 14) = false := oneB_no (by omega)
  have e6 : (twoN (18 + pickN c 1073741824) 1 1 == 0) = true := beq_iff_eq.2 (twoN_no (by omega) 1 1)
  have e7 : (oneN (1 + pickN a 14) 1 == 0) = true := beq_iff_eq.2 (oneN_no (by omega) 1)
  have e8 := sign_inj (1 + pickN a 14) (1 + pickN b 14) (by omega) (by omega)
  have l1 := level_bd (1 + pickN a 14) (by omega)
  have e9 : (levelN (18 + pickN c 1073741824) == 0) = true := beq_iff_eq.2 (level_no (by omega))
  have e10 : (levelN (-(18 + pickN c 1073741824)) == 0) = true := beq_iff_eq.2 (level_no (by omega))
  go_enter Try.func8, Try.ntmps8
  go_wp2_with (first | (go_at_call 19; refine (sign_any _ _).mono ?_; rintro e w' ⟨rfl, hbn⟩) | (go_at_call 11; refine (awake_any _).mono ?_; rintro e w1 ⟨rfl, hb⟩) | (go_at_call 12; refine (pick_any _ _ _ (by omega) (by omega)).mono ?_; rintro e w' ⟨rfl, rfl⟩) | (go_at_call 23; refine (wrap_any _ _).mono ?_; rintro e w' ⟨rfl, rfl⟩) | (go_at_call 25; refine (word_any _ _).mono ?_; rintro e w' ⟨rfl, rfl⟩) | (go_at_call 13; refine (two_any _ _ _ _).mono ?_; rintro e w' ⟨rfl, rfl⟩) | (go_at_call 17; refine (one_any _ _ _).mono ?_; rintro e w' ⟨rfl, rfl⟩) | (go_at_call 15; refine (high_any _ _ _ _).mono ?_; rintro e w' ⟨rfl, rfl⟩) | (go_at_call 21; refine (level_any _ _).mono ?_; rintro e w' ⟨rfl, rfl⟩))
  all_goals
    go_ret
    refine ⟨ret1 (rbool (by first | rfl | simp_all | (simp_all; omega))), ?_⟩
    repeat (first | assumption | refine bel_tr ?_ (by assumption) (Nat.le_refl _))
end Go.Proofs.Ytdhdflbknbnceaa
