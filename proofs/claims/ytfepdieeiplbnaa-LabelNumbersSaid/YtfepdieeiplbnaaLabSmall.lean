/-
  The contracts of label.isBranch, opposite.
-/
import Derived.Test.YtfepdieeiplbnaaLabNum
namespace Go.Proofs.Ytfepdieeiplbnaa
open Go.RowKit
def isBr (op : Int) : Bool := decide (5 ≤ op) && decide (op ≤ 10)
theorem is_branch (op : Int) (w : World) :
    Calls Try.prog 39 #[.int .i64 op] w fun e w' => e = .returned (.bool (isBr op)) ∧ w = w' := by
  have E : Hid (isBr op = (decide (5 ≤ op) && decide (op ≤ 10))) := Lib.hid rfl
  cases h1 : decide (5 ≤ op) <;> cases h2 : decide (op ≤ 10)
  all_goals
    rw [h1, h2] at E
    go_enter Try.func39, Try.ntmps39
    go_wp2_with fail
    go_ret
    exact ⟨by rw [E.out]; rfl, rfl⟩
def oppN (op : Int) : Int := if op % 2 = 1 then op + 1 else op - 1
theorem opposite_any (op : Int) (w : World) (h : 5 ≤ op ∧ op ≤ 10) :
    Calls Try.prog 71 #[.int .i64 op] w fun e w' => e = .returned (.int .i64 (oppN op)) ∧ w = w' := by
  rcases (by omega : op = 5 ∨ op = 6 ∨ op = 7 ∨ op = 8 ∨ op = 9 ∨ op = 10) with rfl | rfl | rfl | rfl | rfl | rfl
  all_goals
    go_enter Try.func71, Try.ntmps71
    go_wp2_with fail
    go_ret
    exact ⟨by kernel_rfl, rfl⟩
end Go.Proofs.Ytfepdieeiplbnaa
