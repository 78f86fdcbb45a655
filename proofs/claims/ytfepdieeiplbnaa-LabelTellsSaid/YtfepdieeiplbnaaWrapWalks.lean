/-
  The contracts of layer 1 (wrap) of the program: what each function returns.
-/
import Derived.Test.YtfepdieeiplbnaaRows
import Derived.Test.YtfepdieeiplbnaaWrapMath
import Derived.WalkSpells
import Derived.Lib.Hide
import Derived.WalkLawsBesides
namespace Go.Proofs.Ytfepdieeiplbnaa
open Go.RowKit
set_option linter.unusedSimpArgs false
theorem rint {k : IntKind} {a b : Int} (h : a = b) : Value.int k a = .int k b := by rw [h]
theorem rbool {a b : Bool} (h : a = b) : Value.bool a = .bool b := by rw [h]
theorem ret1 {a b : Value} (h : a = b) : Ending.returned a = .returned b := by rw [h]
theorem ret2 {a b c d : Value} (h : a = c) (h' : b = d) : Ending.returned (.tuple #[a, b]) = .returned (.tuple #[c, d]) := by rw [h, h']

theorem wrap_any (a : Int) (w : World) :
    Calls Try.prog 28 #[.int .i64 a] w fun e w' => e = .returned (.int .i64 (wrap32 a)) ∧ w = w' := by
  go_enter Try.func28, Try.ntmps28
  go_wp2
  go_ret
  exact ⟨ret1 (rint (w64_w32 a)), rfl⟩

theorem flag_any (b : Bool) (w : World) :
    Calls Try.prog 67 #[.bool b] w fun e w' => e = .returned (.int .i64 (flag b)) ∧ w = w' := by
  cases b <;>
  · go_enter Try.func67, Try.ntmps67
    go_wp2
    go_ret
    exact ⟨ret1 (rint rfl), rfl⟩

theorem divided_any (op x y : Int) (w : World) (hop : op = 4 ∨ op = 5) :
    Calls Try.prog 49 #[.int .i64 op, .int .i32 (wrap32 x), .int .i32 (wrap32 y)] w fun e w' => e = .returned (.int .i64 (twoN op x y)) ∧ w = w' := by
  have hx := w32_bd x
  by_cases hy : wrap32 y = 0
  · rcases hop with rfl | rfl
    all_goals
      have hb : (wrap32 y == 0) = true := by simp [hy]
      clear hx
      have HY := Lib.hid hy
      clear hy
      go_enter Try.func49, Try.ntmps49
      go_wp2
      go_ret
      exact ⟨ret1 (rint (by simp [twoN, HY.out, w64_w32])), rfl⟩
  · have hb : (wrap32 y == 0) = false := by simp [hy]
    have hb2 : ¬ wrap32 y = 0 := hy
    rcases hop with rfl | rfl
    all_goals
      go_enter Try.func49, Try.ntmps49
      go_wp2
      go_ret
      exact ⟨ret1 (rint (by simp [twoN, hy, w64_w32, w64_tmod])), rfl⟩
theorem compared_any (op x y : Int) (w : World) (hop : op = 11 ∨ op = 12 ∨ op = 13 ∨ op = 14) :
    Calls Try.prog 50 #[.int .i64 op, .int .i32 (wrap32 x), .int .i32 (wrap32 y)] w fun e w' => e = .returned (.int .i64 (twoN op x y)) ∧ w = w' := by
  rcases hop with rfl | rfl | rfl | rfl
  all_goals
    go_enter Try.func50, Try.ntmps50
    go_wp2_with (go_at_call 67; refine (flag_any _ _).mono ?_; rintro e w' ⟨rfl, rfl⟩)
    go_ret
    exact ⟨ret1 (rint (by first | (simp [twoN]; done) | (simp only [twoN, Int.reduceEq, if_false, if_true]; exact congrArg flag (decide_eq_decide.2 (by simp [word, w32_mod32b]))))), rfl⟩

theorem two_any (op a b : Int) (w : World) :
    Calls Try.prog 29 #[.int .i64 op, .int .i64 a, .int .i64 b] w fun e w' => e = .returned (.tuple #[.int .i64 (twoN op a b), .bool (twoB op)]) ∧ w = w' := by
  have hb1 : 0 ≤ bits .and .i32 (wrap32 b) 31 := by rw [and31_i32]; omega
  have hb2 : bits .and .i32 (wrap32 b) 31 ≤ 31 := by rw [and31_i32]; omega
  have hb3 : bits .and .i32 (wrap32 b) 31 ≤ 32 := by omega
  go_enter Try.func29, Try.ntmps29
  go_wp2_with (first | (go_at_call 49; refine (divided_any _ _ _ _ (by simp_all)).mono ?_; rintro e w' ⟨rfl, rfl⟩) | (go_at_call 50; refine (compared_any _ _ _ _ (by simp_all)).mono ?_; rintro e w' ⟨rfl, rfl⟩))
  all_goals
    go_ret2
    refine ⟨ret2 (rint ?_) (rbool (by unfold twoB; symm; first | (rw [decide_eq_true_iff]; simp only [beq_iff_eq, beq_eq_false_iff_ne, ne_eq] at *; omega) | (rw [decide_eq_false_iff_not]; simp only [beq_iff_eq, beq_eq_false_iff_ne, ne_eq] at *; omega))), rfl⟩
    first | rfl | (simp only [beq_iff_eq, beq_eq_false_iff_ne, ne_eq] at *; simp_all [twoN, w64_w32, w64_bits32, and31_i32, w32_mod32, w64_shr])
end Go.Proofs.Ytfepdieeiplbnaa
