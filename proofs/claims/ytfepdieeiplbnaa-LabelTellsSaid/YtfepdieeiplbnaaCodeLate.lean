/-
  The contract of code.late.
-/
import Derived.Test.YtfepdieeiplbnaaCodeTab
import Derived.Test.YtfepdieeiplbnaaBw
import Derived.Test.YtfepdieeiplbnaaRows
namespace Go.Proofs.Ytfepdieeiplbnaa
open Go.RowKit
set_option maxHeartbeats 4000000 in
theorem late_yes (op : Int) (w : World) (h : 22 ≤ op ∧ op ≤ 49) :
    Calls Try.prog 63 #[.int .i64 op] w fun e w' => e = .returned (.tuple #[rwV (rowT op), .bool true]) ∧ Below w.heap.size w w' := by
  have hc : op = 22 ∨ op = 23 ∨ op = 24 ∨ op = 25 ∨ op = 26 ∨ op = 27 ∨ op = 28 ∨ op = 29 ∨ op = 30 ∨ op = 31 ∨ op = 32 ∨ op = 33 ∨ op = 34 ∨ op = 35 ∨ op = 36 ∨ op = 37 ∨ op = 38 ∨ op = 39 ∨ op = 40 ∨ op = 41 ∨ op = 42 ∨ op = 43 ∨ op = 44 ∨ op = 45 ∨ op = 46 ∨ op = 47 ∨ op = 48 ∨ op = 49 := by omega
  clear h
  rcases hc with rfl | rfl | rfl | rfl | rfl | rfl | rfl | rfl | rfl | rfl | rfl | rfl | rfl | rfl | rfl | rfl | rfl | rfl | rfl | rfl | rfl | rfl | rfl | rfl | rfl | rfl | rfl | rfl
  all_goals
    go_enter Try.func63, Try.ntmps63
    go_wp2_with fail
    refine bodyPost_ret (by simp [results, Try.results63, go_sem]; try rfl) rfl ?_
    exact ⟨by kernel_rfl, (by repeat (first | (with_reducible exact Below.refl _ _) | (with_reducible refine bw_set ?_ ?_ _) | (with_reducible apply bw_alloc) | (with_reducible refine bw_tr ?_ (by with_reducible assumption)) | (with_reducible apply bw_drew) | omega))⟩
set_option maxHeartbeats 4000000 in
theorem late_no (op : Int) (w : World) (h : op < 22 ∨ 49 < op) :
    Calls Try.prog 63 #[.int .i64 op] w fun e w' => e = .returned (.tuple #[rwV noRw, .bool false]) ∧ Below w.heap.size w w' := by
  have q22 : (op == 22) = false := by simp; omega
  have q23 : (op == 23) = false := by simp; omega
  have q24 : (op == 24) = false := by simp; omega
  have q25 : (op == 25) = false := by simp; omega
  have q26 : (op == 26) = false := by simp; omega
  have q27 : (op == 27) = false := by simp; omega
  have q28 : (op == 28) = false := by simp; omega
  have q29 : (op == 29) = false := by simp; omega
  have q30 : (op == 30) = false := by simp; omega
  have q31 : (op == 31) = false := by simp; omega
  have q32 : (op == 32) = false := by simp; omega
  have q33 : (op == 33) = false := by simp; omega
  have q34 : (op == 34) = false := by simp; omega
  have q35 : (op == 35) = false := by simp; omega
  have q36 : (op == 36) = false := by simp; omega
  have q37 : (op == 37) = false := by simp; omega
  have q38 : (op == 38) = false := by simp; omega
  have q39 : (op == 39) = false := by simp; omega
  have q40 : (op == 40) = false := by simp; omega
  have q41 : (op == 41) = false := by simp; omega
  have q42 : (op == 42) = false := by simp; omega
  have q43 : (op == 43) = false := by simp; omega
  have q44 : (op == 44) = false := by simp; omega
  have q45 : (op == 45) = false := by simp; omega
  have q46 : (op == 46) = false := by simp; omega
  have q47 : (op == 47) = false := by simp; omega
  have q48 : (op == 48) = false := by simp; omega
  have q49 : (op == 49) = false := by simp; omega
  clear h
  go_enter Try.func63, Try.ntmps63
  go_wp2_with fail
  refine bodyPost_ret (by simp [results, Try.results63, go_sem]; try rfl) rfl ?_
  exact ⟨by kernel_rfl, (by repeat (first | (with_reducible exact Below.refl _ _) | (with_reducible refine bw_set ?_ ?_ _) | (with_reducible apply bw_alloc) | (with_reducible refine bw_tr ?_ (by with_reducible assumption)) | (with_reducible apply bw_drew) | omega))⟩
end Go.Proofs.Ytfepdieeiplbnaa
