/-
  The contract of code.early.
-/
import Derived.Test.YtfepdieeiplbnaaCodeTab
import Derived.Test.YtfepdieeiplbnaaBw
import Derived.Test.YtfepdieeiplbnaaRows
namespace Go.Proofs.Ytfepdieeiplbnaa
open Go.RowKit
set_option maxHeartbeats 4000000 in
theorem early_yes (op : Int) (w : World) (h : 1 ≤ op ∧ op ≤ 21) :
    Calls Try.prog 62 #[.int .i64 op] w fun e w' => e = .returned (.tuple #[rwV (rowT op), .bool true]) ∧ Below w.heap.size w w' := by
  have hc : op = 1 ∨ op = 2 ∨ op = 3 ∨ op = 4 ∨ op = 5 ∨ op = 6 ∨ op = 7 ∨ op = 8 ∨ op = 9 ∨ op = 10 ∨ op = 11 ∨ op = 12 ∨ op = 13 ∨ op = 14 ∨ op = 15 ∨ op = 16 ∨ op = 17 ∨ op = 18 ∨ op = 19 ∨ op = 20 ∨ op = 21 := by omega
  clear h
  rcases hc with rfl | rfl | rfl | rfl | rfl | rfl | rfl | rfl | rfl | rfl | rfl | rfl | rfl | rfl | rfl | rfl | rfl | rfl | rfl | rfl | rfl
  all_goals
    go_enter Try.func62, Try.ntmps62
    go_wp2_with fail
    refine bodyPost_ret (by simp [results, Try.results62, go_sem]; try rfl) rfl ?_
    exact ⟨by kernel_rfl, (by repeat (first | (with_reducible exact Below.refl _ _) | (with_reducible refine bw_set ?_ ?_ _) | (with_reducible apply bw_alloc) | (with_reducible refine bw_tr ?_ (by with_reducible assumption)) | (with_reducible apply bw_drew) | omega))⟩
set_option maxHeartbeats 4000000 in
theorem early_no (op : Int) (w : World) (h : op < 1 ∨ 21 < op) :
    Calls Try.prog 62 #[.int .i64 op] w fun e w' => e = .returned (.tuple #[rwV noRw, .bool false]) ∧ Below w.heap.size w w' := by
  have q1 : (op == 1) = false := by simp; omega
  have q2 : (op == 2) = false := by simp; omega
  have q3 : (op == 3) = false := by simp; omega
  have q4 : (op == 4) = false := by simp; omega
  have q5 : (op == 5) = false := by simp; omega
  have q6 : (op == 6) = false := by simp; omega
  have q7 : (op == 7) = false := by simp; omega
  have q8 : (op == 8) = false := by simp; omega
  have q9 : (op == 9) = false := by simp; omega
  have q10 : (op == 10) = false := by simp; omega
  have q11 : (op == 11) = false := by simp; omega
  have q12 : (op == 12) = false := by simp; omega
  have q13 : (op == 13) = false := by simp; omega
  have q14 : (op == 14) = false := by simp; omega
  have q15 : (op == 15) = false := by simp; omega
  have q16 : (op == 16) = false := by simp; omega
  have q17 : (op == 17) = false := by simp; omega
  have q18 : (op == 18) = false := by simp; omega
  have q19 : (op == 19) = false := by simp; omega
  have q20 : (op == 20) = false := by simp; omega
  have q21 : (op == 21) = false := by simp; omega
  clear h
  go_enter Try.func62, Try.ntmps62
  go_wp2_with fail
  refine bodyPost_ret (by simp [results, Try.results62, go_sem]; try rfl) rfl ?_
  exact ⟨by kernel_rfl, (by repeat (first | (with_reducible exact Below.refl _ _) | (with_reducible refine bw_set ?_ ?_ _) | (with_reducible apply bw_alloc) | (with_reducible refine bw_tr ?_ (by with_reducible assumption)) | (with_reducible apply bw_drew) | omega))⟩
end Go.Proofs.Ytfepdieeiplbnaa
