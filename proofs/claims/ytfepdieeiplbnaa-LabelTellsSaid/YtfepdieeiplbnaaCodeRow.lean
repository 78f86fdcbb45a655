/-
  The contracts of code.rowOf, code.shapeOf, code.may, code.fixed, code.field, code.Name.
-/
import Derived.Test.YtfepdieeiplbnaaCodeEarly
import Derived.Test.YtfepdieeiplbnaaCodeLate
import Derived.Test.YtfepdieeiplbnaaPickMath
import Derived.Deep.QuietTactic
import Derived.BigQuiet
namespace Go.Proofs.Ytfepdieeiplbnaa
open Go.RowKit
theorem early_any (op : Int) (w : World) (h : op < 22) :
    Calls Try.prog 62 #[.int .i64 op] w fun e w' => e = .returned (.tuple #[rwV (rowT op), .bool (isOp op)]) ∧ Below w.heap.size w w' := by
  by_cases h1 : 1 ≤ op
  · rw [isOp_yes (by omega)]; exact early_yes op w (by omega)
  · rw [isOp_no (by omega), rowT_no (by omega)]; exact early_no op w (by omega)
theorem late_any (op : Int) (w : World) (h : 22 ≤ op) :
    Calls Try.prog 63 #[.int .i64 op] w fun e w' => e = .returned (.tuple #[rwV (rowT op), .bool (isOp op)]) ∧ Below w.heap.size w w' := by
  by_cases h1 : op ≤ 49
  · rw [isOp_yes (by omega)]; exact late_yes op w (by omega)
  · rw [isOp_no (by omega), rowT_no (by omega)]; exact late_no op w (by omega)
set_option maxHeartbeats 1000000 in
theorem rowOf_any (op : Int) (w : World) :
    Calls Try.prog 44 #[.int .i64 op] w fun e w' => e = .returned (.tuple #[rwV (rowT op), .bool (isOp op)]) ∧ Below w.heap.size w w' := by
  by_cases h22 : op < 22
  · go_enter Try.func44, Try.ntmps44
    go_wp2_with fail
    refine (early_any _ _ h22).mono ?_
    rintro e w1 ⟨rfl, hb1⟩
    obtain ⟨c1, f1⟩ := bcell hb1
    have z1 : w.heap.size < w1.heap.size := by have := hb1.size; simp at this; omega
    unfold rwV
    go_wp2_with fail
    refine bodyPost_ret (v := .tuple #[rwV (rowT op), .bool (isOp op)]) (by simp [results, Try.results44, go_sem, rwV, c1]) rfl ⟨rfl, (by repeat (first | (with_reducible exact Below.refl _ _) | (with_reducible refine bw_set ?_ ?_ _) | (with_reducible apply bw_alloc) | (with_reducible refine bw_tr ?_ (by with_reducible assumption)) | (with_reducible apply bw_drew) | omega))⟩
  · have h22' : 22 ≤ op := by omega
    go_enter Try.func44, Try.ntmps44
    go_wp2_with fail
    refine (late_any _ _ h22').mono ?_
    rintro e w1 ⟨rfl, hb1⟩
    obtain ⟨c1, f1⟩ := bcell hb1
    have z1 : w.heap.size < w1.heap.size := by have := hb1.size; simp at this; omega
    unfold rwV
    go_wp2_with fail
    refine bodyPost_ret (v := .tuple #[rwV (rowT op), .bool (isOp op)]) (by simp [results, Try.results44, go_sem, rwV, c1]) rfl ⟨rfl, (by repeat (first | (with_reducible exact Below.refl _ _) | (with_reducible refine bw_set ?_ ?_ _) | (with_reducible apply bw_alloc) | (with_reducible refine bw_tr ?_ (by with_reducible assumption)) | (with_reducible apply bw_drew) | omega))⟩
/-- What a form has. -/
structure Sh where
  d : Bool
  a : Bool
  b : Bool
  least : Int
  most : Int
  step : Int
def shapeT (f : Int) : Sh :=
  if f = 82 then ⟨true, true, true, 0, 0, 0⟩ else if f = 73 then ⟨true, true, false, -2048, 2047, 0⟩ else if f = 72 then ⟨true, true, false, 0, 31, 0⟩
  else if f = 83 then ⟨false, true, true, -2048, 2047, 0⟩ else if f = 66 then ⟨false, true, true, -4096, 4094, 2⟩ else if f = 85 then ⟨true, false, false, 0, 1048575, 0⟩
  else if f = 74 then ⟨true, false, false, -1048576, 1048574, 2⟩ else if f = 70 then ⟨false, false, false, 0, 255, 0⟩ else if f = 67 then ⟨true, true, false, 0, 4095, 0⟩
  else if f = 76 then ⟨true, true, false, 0, 3, 0⟩ else if f = 65 then ⟨true, true, true, 0, 3, 0⟩ else ⟨false, false, false, 0, 0, 0⟩
def shV (s : Sh) : Value := .agg #[.bool s.d, .bool s.a, .bool s.b, .int .i64 s.least, .int .i64 s.most, .int .i64 s.step]
def isForm (f : Int) : Prop := f = 82 ∨ f = 73 ∨ f = 72 ∨ f = 83 ∨ f = 66 ∨ f = 85 ∨ f = 74 ∨ f = 70 ∨ f = 67 ∨ f = 76 ∨ f = 65
set_option maxHeartbeats 2000000 in
theorem shapeOf_any (f : Int) (w : World) :
    Calls Try.prog 45 #[.int .i32 f] w fun e w' => e = .returned (shV (shapeT f)) ∧ Below w.heap.size w w' := by
  by_cases h : isForm f
  · rcases h with rfl | rfl | rfl | rfl | rfl | rfl | rfl | rfl | rfl | rfl | rfl
    all_goals
      go_enter Try.func45, Try.ntmps45
      go_wp2_with fail
      refine bodyPost_ret (by simp [results, Try.results45, go_sem]; try rfl) rfl ?_
      exact ⟨by kernel_rfl, (by repeat (first | (with_reducible exact Below.refl _ _) | (with_reducible refine bw_set ?_ ?_ _) | (with_reducible apply bw_alloc) | (with_reducible refine bw_tr ?_ (by with_reducible assumption)) | (with_reducible apply bw_drew) | omega))⟩
  · simp only [isForm, not_or] at h
    obtain ⟨h1, h2, h3, h4, h5, h6, h7, h8, h9, h10, h11⟩ := h
    have e : shapeT f = ⟨false, false, false, 0, 0, 0⟩ := by simp [shapeT, h1, h2, h3, h4, h5, h6, h7, h8, h9, h10, h11]
    rw [e]; clear e
    have q1 := beq_eq_false_iff_ne.2 h1; have q2 := beq_eq_false_iff_ne.2 h2; have q3 := beq_eq_false_iff_ne.2 h3; have q4 := beq_eq_false_iff_ne.2 h4; have q5 := beq_eq_false_iff_ne.2 h5; have q6 := beq_eq_false_iff_ne.2 h6; have q7 := beq_eq_false_iff_ne.2 h7; have q8 := beq_eq_false_iff_ne.2 h8; have q9 := beq_eq_false_iff_ne.2 h9; have q10 := beq_eq_false_iff_ne.2 h10; have q11 := beq_eq_false_iff_ne.2 h11
    clear h1 h2 h3 h4 h5 h6 h7 h8 h9 h10 h11
    go_enter Try.func45, Try.ntmps45
    go_wp2_with fail
    refine bodyPost_ret (by simp [results, Try.results45, go_sem]; try rfl) rfl ?_
    exact ⟨by kernel_rfl, (by repeat (first | (with_reducible exact Below.refl _ _) | (with_reducible refine bw_set ?_ ?_ _) | (with_reducible apply bw_alloc) | (with_reducible refine bw_tr ?_ (by with_reducible assumption)) | (with_reducible apply bw_drew) | omega))⟩
def mayB (n : Int) (is : Bool) : Bool := decide (0 ≤ n) && (decide (n < 32) && (is || (n == 0)))
theorem ret1b {a b : Bool} (h : a = b) : Ending.returned (.bool a) = .returned (.bool b) := by rw [h]
theorem may_any (n : Int) (is : Bool) (w : World) :
    Calls Try.prog 51 #[.int .i64 n, .bool is] w fun e w' => e = .returned (.bool (mayB n is)) ∧ w = w' := by
  cases h0 : decide (0 ≤ n) <;> cases h1 : decide (n < 32) <;> cases is <;> cases h2 : (n == 0)
  all_goals
    go_enter Try.func51, Try.ntmps51
    go_wp2_with fail
    go_ret
    exact ⟨ret1b (by unfold mayB; rw [h0, h1, h2]; rfl), rfl⟩
end Go.Proofs.Ytfepdieeiplbnaa
