/-
  The laws of layer 1 (wrap) walked: each call's contract, then the tests, decided ahead.
-/
import Derived.Test.YtdhdflbknbnceaaWrapSign
import Derived.Test.YtdhdflbknbnceaaWrapMath2
namespace Go.Proofs.Ytdhdflbknbnceaa
open Go.RowKit
/-- which of n things a raw number speaks of -/
def pickN (c n : Int) : Int := if c < 0 then (-(c + 1)) % n else c % n
theorem pickN_bd (c n : Int) (h : 0 < n) : 0 ≤ pickN c n ∧ pickN c n < n := by
  unfold pickN; split
  · exact ⟨Int.emod_nonneg _ (by omega), Int.emod_lt_of_pos _ h⟩
  · exact ⟨Int.emod_nonneg _ (by omega), Int.emod_lt_of_pos _ h⟩
theorem i64_of_wf {a : Int} (h : (Lit.int .i64 a).wf = true) : -9223372036854775808 ≤ a ∧ a ≤ 9223372036854775807 := by
  simp [Lit.wf, IntKind.min, IntKind.max, IntKind.bits, IntKind.signed] at h; omega
theorem pick_any (c n : Int) (w : World) (hc : -9223372036854775808 ≤ c ∧ c ≤ 9223372036854775807) (hn : 0 < n ∧ n ≤ 9223372036854775807) :
    Calls Try.prog 12 #[.int .i64 c, .int .i64 n] w fun e w' => e = .returned (.int .i64 (pickN c n)) ∧ w = w' := by
  have hn0 : (n == 0) = false := by simp; omega
  have hb := pickN_bd c n hn.1
  by_cases h : c < 0
  · have e : pickN c n = (-(c + 1)) % n := if_pos h
    have E := Lib.hid e; clear e
    go_enter Try.func12, Try.ntmps12
    go_wp2
    go_ret
    refine ⟨ret1 (rint ?_), rfl⟩
    rw [E.out]
    show -((c + 1).tmod n) = _
    rw [← Int.neg_tmod]
    exact Int.tmod_eq_emod_of_nonneg (by omega)
  · have e : pickN c n = c % n := if_neg h
    have E := Lib.hid e; clear e
    go_enter Try.func12, Try.ntmps12
    go_wp2
    go_ret
    exact ⟨ret1 (rint E.out.symm), rfl⟩
theorem awake_any (w : World) :
    Calls Try.prog 11 #[] w fun e w' => e = .returned (.bool true) ∧ Below w.heap.size w w' := by
  have e1 : (twoN 4 (-2147483648) (-1) == -2147483648) = true := by decide +kernel
  have e2 : (twoN 4 7 0 == -1) = true := by decide +kernel
  have e3 : (oneN 17 4 == -5) = true := by decide +kernel
  have e4 : (wrap32 2147483648 == -2147483648) = true := by decide +kernel
  have e5 : (word (-1) == 4294967295) = true := by decide +kernel
  have e6 : (highN (-1) (-1) false == -2) = true := by decide +kernel
  have e7 : (levelN 3 == 8) = true := by decide +kernel
  have b1 : twoB 4 = true := by decide +kernel
  have b2 : signB 12 = true := by decide +kernel
  have b3 : oneB 17 = true := by decide +kernel
  have s1 : signS 12 = ⟨#[60, 46]⟩ := by decide +kernel
  go_enter Try.func11, Try.ntmps11
  go_wp2_with fail
  refine (two_any _ _ _ _).mono ?_; rintro e w' ⟨rfl, rfl⟩
  go_wp2_with fail
  refine (two_any _ _ _ _).mono ?_; rintro e w' ⟨rfl, rfl⟩
  go_wp2_with fail
  refine (sign_any _ _).mono ?_; rintro e w1 ⟨rfl, hb⟩
  go_wp2_with fail
  refine (one_any _ _ _).mono ?_; rintro e w' ⟨rfl, rfl⟩
  go_wp2_with (first | (go_at_call 23; refine (wrap_any _ _).mono ?_; rintro e w' ⟨rfl, rfl⟩) | (go_at_call 25; refine (word_any _ _).mono ?_; rintro e w' ⟨rfl, rfl⟩) | (go_at_call 15; refine (high_any _ _ _ _).mono ?_; rintro e w' ⟨rfl, rfl⟩) | (go_at_call 21; refine (level_any _ _).mono ?_; rintro e w' ⟨rfl, rfl⟩))
  go_ret
  exact ⟨ret1 (rbool rfl), hb⟩
end Go.Proofs.Ytdhdflbknbnceaa
