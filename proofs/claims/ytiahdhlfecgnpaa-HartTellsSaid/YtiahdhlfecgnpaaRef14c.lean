/-
  The contract of headstockref14.two.
-/
import Derived.Test.YtiahdhlfecgnpaaRef14b
namespace Go.Proofs.Ytiahdhlfecgnpaa
open Go.RowKit
set_option linter.unusedSimpArgs false
set_option maxHeartbeats 8000000 in
theorem rmakes_plain (op a b : Int) (w : World) (h : plainOp op) (ha : I64 a) (hb : I64 b) :
    Calls Try.prog 43 #[.int .i64 op, .int .i64 a, .int .i64 b] w fun e w' => e = .returned (.tuple #[.int .i64 (makesN op a b), .bool true]) ∧ w = w' := by
  have HA := Lib.hid ha; have HB := Lib.hid hb; clear ha hb
  rcases h with rfl | rfl | rfl | rfl | rfl | rfl | rfl | rfl | rfl | rfl | rfl | rfl | rfl | rfl | rfl | rfl | rfl | rfl | rfl | rfl
  all_goals
    go_enter Try.func43, Try.ntmps43
    go_wp2_with fail
    refine (rtwo_any _ a b _ HA.out HB.out).mono ?_
    rintro e w1 ⟨rfl, rfl⟩
    go_wp2_with fail
    go_ret2
    exact ⟨by simp [makesN, opsT, opsL, twoB], rfl⟩
set_option maxHeartbeats 4000000 in
theorem rmakes_more (op a b : Int) (w : World) (h : op = 33 ∨ op = 34 ∨ op = 36 ∨ op = 38) (ha : I64 a) (hb : I64 b) :
    Calls Try.prog 43 #[.int .i64 op, .int .i64 a, .int .i64 b] w fun e w' => e = .returned (.tuple #[.int .i64 (makesN op a b), .bool true]) ∧ w = w' := by
  have HA := Lib.hid ha; have HB := Lib.hid hb; clear ha hb
  rcases h with rfl | rfl | rfl | rfl
  · go_enter Try.func43, Try.ntmps43
    go_wp2_with fail
    refine (rhigh_any a b _ _ HA.out HB.out).mono ?_
    rintro e w1 ⟨rfl, rfl⟩
    go_wp2_with fail
    go_ret2
    exact ⟨rfl, rfl⟩
  · go_enter Try.func43, Try.ntmps43
    go_wp2_with fail
    refine (rhigh_any a b _ _ HA.out HB.out).mono ?_
    rintro e w1 ⟨rfl, rfl⟩
    go_wp2_with fail
    go_ret2
    exact ⟨rfl, rfl⟩
  · go_enter Try.func43, Try.ntmps43
    go_wp2_with fail
    refine (runs_any a b false _ HA.out HB.out).mono ?_
    rintro e w1 ⟨rfl, rfl⟩
    go_wp2_with fail
    go_ret2
    exact ⟨rfl, rfl⟩
  · go_enter Try.func43, Try.ntmps43
    go_wp2_with fail
    refine (runs_any a b true _ HA.out HB.out).mono ?_
    rintro e w1 ⟨rfl, rfl⟩
    go_wp2_with fail
    go_ret2
    exact ⟨rfl, rfl⟩
end Go.Proofs.Ytiahdhlfecgnpaa
