/-
  The contracts of headstockref14.goes, unsigned.
-/
import Derived.Test.YtiahdhlfecgnpaaRef14
namespace Go.Proofs.Ytiahdhlfecgnpaa
open Go.RowKit
set_option linter.unusedSimpArgs false
set_option maxHeartbeats 2000000 in
theorem rgoes_any (op a b : Int) (w : World) (h : 5 ≤ op ∧ op ≤ 10) (ha : I64 a) (hb : I64 b) :
    Calls Try.prog 40 #[.int .i64 op, .int .i64 a, .int .i64 b] w fun e w' => e = .returned (.bool (jumpsB op a b)) ∧ w = w' := by
  have HA := Lib.hid ha; have HB := Lib.hid hb; clear ha hb
  rcases (by omega : op = 5 ∨ op = 6 ∨ op = 7 ∨ op = 8 ∨ op = 9 ∨ op = 10) with rfl | rfl | rfl | rfl | rfl | rfl
  all_goals
    go_enter Try.func40, Try.ntmps40
    go_wp2_with (go_at_call 59; first | ((with_reducible refine (rword_any a _ HA.out).mono ?_); rintro e w' ⟨rfl, rfl⟩) | ((with_reducible refine (rword_any b _ HB.out).mono ?_); rintro e w' ⟨rfl, rfl⟩))
    go_ret
    exact ⟨ret1 (rbool rfl), rfl⟩
set_option maxHeartbeats 2000000 in
theorem runs_any (a b : Int) (rest : Bool) (w : World) (ha : I64 a) (hb : I64 b) :
    Calls Try.prog 65 #[.int .i64 a, .int .i64 b, .bool rest] w fun e w' => e = .returned (.int .i64 (dividedN (if rest then 38 else 36) a b)) ∧ w = w' := by
  have HA := Lib.hid ha; have HB := Lib.hid hb; clear ha hb
  have hxa := word_bd a
  have hxb := word_bd b
  by_cases h0 : word b = 0
  · have q : (word b == 0) = true := by simpa using h0
    have H0 := Lib.hid h0; clear h0
    cases rest
    · go_enter Try.func65, Try.ntmps65
      go_wp2_with (go_at_call 59; first | ((with_reducible refine (rword_any a _ HA.out).mono ?_); rintro e w' ⟨rfl, rfl⟩) | ((with_reducible refine (rword_any b _ HB.out).mono ?_); rintro e w' ⟨rfl, rfl⟩))
      go_ret
      exact ⟨ret1 (rint (div_q0 a b H0.out).symm), rfl⟩
    · go_enter Try.func65, Try.ntmps65
      go_wp2_with (go_at_call 59; first | ((with_reducible refine (rword_any a _ HA.out).mono ?_); rintro e w' ⟨rfl, rfl⟩) | ((with_reducible refine (rword_any b _ HB.out).mono ?_); rintro e w' ⟨rfl, rfl⟩))
      go_ret
      exact ⟨ret1 (rint (div_r0 a b H0.out).symm), rfl⟩
  · have q : (word b == 0) = false := by simpa using h0
    have hp : 0 < word b := by omega
    have HD : Hid (word a / word b = dividedN 36 a b) := by unfold dividedN; rw [if_pos rfl, if_neg h0]; exact Lib.hid rfl
    have HM : Hid (word a % word b = dividedN 38 a b) := by unfold dividedN; rw [if_neg (by decide), if_neg h0]; exact Lib.hid rfl
    have e1 := Int.ediv_le_self (word b) hxa.1
    have e2 : 0 ≤ word a / word b := Int.ediv_nonneg hxa.1 hxb.1
    have e3 : 0 ≤ word a % word b := Int.emod_nonneg _ h0
    have e4 : word a % word b < word b := Int.emod_lt_of_pos _ hp
    clear h0
    cases rest
    · go_enter Try.func65, Try.ntmps65
      go_wp2_with (go_at_call 59; first | ((with_reducible refine (rword_any a _ HA.out).mono ?_); rintro e w' ⟨rfl, rfl⟩) | ((with_reducible refine (rword_any b _ HB.out).mono ?_); rintro e w' ⟨rfl, rfl⟩))
      go_ret
      exact ⟨ret1 (rint HD.out), rfl⟩
    · go_enter Try.func65, Try.ntmps65
      go_wp2_with (go_at_call 59; first | ((with_reducible refine (rword_any a _ HA.out).mono ?_); rintro e w' ⟨rfl, rfl⟩) | ((with_reducible refine (rword_any b _ HB.out).mono ?_); rintro e w' ⟨rfl, rfl⟩))
      go_ret
      exact ⟨ret1 (rint HM.out), rfl⟩
end Go.Proofs.Ytiahdhlfecgnpaa
