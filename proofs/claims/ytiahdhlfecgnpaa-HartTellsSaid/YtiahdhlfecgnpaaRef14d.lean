/-
  The contract of headstockref14.two: moves to the right without a sign; all operations.
-/
import Derived.Test.YtiahdhlfecgnpaaRef14c
namespace Go.Proofs.Ytiahdhlfecgnpaa
open Go.RowKit
set_option linter.unusedSimpArgs false
set_option maxHeartbeats 4000000 in
theorem rmakes_shr (op a b : Int) (w : World) (h : op = 20 ∨ op = 28) (ha : I64 a) (hb : I64 b) :
    Calls Try.prog 43 #[.int .i64 op, .int .i64 a, .int .i64 b] w fun e w' => e = .returned (.tuple #[.int .i64 (makesN op a b), .bool true]) ∧ w = w' := by
  have HA := Lib.hid ha; have HB := Lib.hid hb; clear ha hb
  have hxa := word_bd a
  have hxb := word_bd b
  have E : Hid (makesN op a b = word a / 2 ^ (word b % 32).toNat) := by unfold makesN; rw [if_pos h, show word b % 32 = b % 32 from by unfold word; omega]; exact Lib.hid rfl
  have HQ := Lib.hid (quo_word a (word b % 32).toNat)
  have hp := pow_bd' (word b % 32) (by omega)
  have hb2 : 0 ≤ word b % 32 := by omega
  have hb3 : word b % 32 ≤ 31 := by omega
  rcases h with rfl | rfl
  all_goals
    go_enter Try.func43, Try.ntmps43
    go_wp2_with (go_at_call 59; first | ((with_reducible refine (rword_any a _ HA.out).mono ?_); rintro e w' ⟨rfl, rfl⟩) | ((with_reducible refine (rword_any b _ HB.out).mono ?_); rintro e w' ⟨rfl, rfl⟩))
    go_ret2
    exact ⟨by rw [E.out, ← HQ.out]; rfl, rfl⟩
theorem rmakes_any (op a b : Int) (w : World) (h : 13 ≤ op ∧ op ≤ 38) (ha : I64 a) (hb : I64 b) :
    Calls Try.prog 43 #[.int .i64 op, .int .i64 a, .int .i64 b] w fun e w' => e = .returned (.tuple #[.int .i64 (makesN op a b), .bool true]) ∧ w = w' := by
  by_cases h1 : op = 20 ∨ op = 28
  · exact rmakes_shr op a b w h1 ha hb
  by_cases h2 : op = 33 ∨ op = 34 ∨ op = 36 ∨ op = 38
  · exact rmakes_more op a b w h2 ha hb
  exact rmakes_plain op a b w (by unfold plainOp; omega) ha hb
end Go.Proofs.Ytiahdhlfecgnpaa
