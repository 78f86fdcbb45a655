/-
  The contract of code.number: the pieces of a form's number.
-/
import Derived.Test.YtfepdieeiplbnaaCodeLay
namespace Go.Proofs.Ytfepdieeiplbnaa
open Go.RowKit
def numP (f n : Int) : List Pc :=
  if f = 73 then [⟨n, 0, 12, 20⟩] else if f = 67 then [⟨n, 0, 12, 20⟩] else if f = 72 then [⟨n, 0, 5, 20⟩] else if f = 83 then [⟨n, 0, 5, 7⟩, ⟨n, 5, 7, 25⟩]
  else if f = 66 then [⟨n, 11, 1, 7⟩, ⟨n, 1, 4, 8⟩, ⟨n, 5, 6, 25⟩, ⟨n, 12, 1, 31⟩] else if f = 85 then [⟨n, 0, 20, 12⟩]
  else if f = 74 then [⟨n, 12, 8, 12⟩, ⟨n, 11, 1, 20⟩, ⟨n, 1, 10, 21⟩, ⟨n, 20, 1, 31⟩] else if f = 70 then [⟨n, 0, 8, 20⟩]
  else if f = 76 then [⟨n, 0, 2, 25⟩] else if f = 65 then [⟨n, 0, 2, 25⟩] else []
def numForm (f : Int) : Prop := f = 73 ∨ f = 67 ∨ f = 72 ∨ f = 83 ∨ f = 66 ∨ f = 85 ∨ f = 74 ∨ f = 70 ∨ f = 76 ∨ f = 65
theorem num_ok (f n : Int) : ∀ p ∈ numP f n, okP p := by
  unfold numP okP
  repeat' split
  all_goals simp
theorem num_len (f n : Int) : (numP f n).length ≤ 4 := by
  unfold numP
  repeat' split
  all_goals simp
theorem num_max (f n : Int) : (numP f n).length ≤ maxLen := by have := num_len f n; unfold maxLen; omega
theorem one_pcs (l : List Pc) : ∀ u ∈ l.flatMap pcC, u.oneCell' = true := by
  intro u hu
  obtain ⟨p, _, hu⟩ := List.mem_flatMap.1 hu
  simp only [pcC, List.mem_cons, List.not_mem_nil, or_false] at hu
  rcases hu with rfl | rfl | rfl | rfl <;> rfl
set_option maxHeartbeats 2000000 in
theorem number_any (f n : Int) (w : World) :
    Calls Try.prog 64 #[.int .i32 f, .int .i64 n] w fun e w' => ∃ v, e = .returned v ∧ Reads w' 4 (numP f n).length v ((numP f n).flatMap pcC) ∧ Below w.heap.size w w' := by
  by_cases h : numForm f
  · rcases h with rfl | rfl | rfl | rfl | rfl | rfl | rfl | rfl | rfl | rfl
    all_goals
      go_enter Try.func64, Try.ntmps64
      go_wp2_with fail
      go_ret
      exact ⟨_, rfl, reads_list (w := w.alloc _) (b := w.heap.size) (new_in w _) (by rfl) (one_pcs _) (num_max _ n) (Below.refl _ _), (by repeat (first | (with_reducible exact Below.refl _ _) | (with_reducible refine bw_set ?_ ?_ _) | (with_reducible apply bw_alloc) | (with_reducible refine bw_tr ?_ (by with_reducible assumption)) | (with_reducible apply bw_drew) | omega))⟩
  · simp only [numForm, not_or] at h
    obtain ⟨h1, h2, h3, h4, h5, h6, h7, h8, h9, h10⟩ := h
    have e : numP f n = [] := by simp [numP, h1, h2, h3, h4, h5, h6, h7, h8, h9, h10]
    rw [e]; clear e
    have q1 := beq_eq_false_iff_ne.2 h1; have q2 := beq_eq_false_iff_ne.2 h2; have q3 := beq_eq_false_iff_ne.2 h3; have q4 := beq_eq_false_iff_ne.2 h4; have q5 := beq_eq_false_iff_ne.2 h5; have q6 := beq_eq_false_iff_ne.2 h6; have q7 := beq_eq_false_iff_ne.2 h7; have q8 := beq_eq_false_iff_ne.2 h8; have q9 := beq_eq_false_iff_ne.2 h9; have q10 := beq_eq_false_iff_ne.2 h10
    clear h1 h2 h3 h4 h5 h6 h7 h8 h9 h10
    go_enter Try.func64, Try.ntmps64
    go_wp2_with fail
    go_ret
    exact ⟨_, rfl, Reads.nil _ _, (by repeat (first | (with_reducible exact Below.refl _ _) | (with_reducible refine bw_set ?_ ?_ _) | (with_reducible apply bw_alloc) | (with_reducible refine bw_tr ?_ (by with_reducible assumption)) | (with_reducible apply bw_drew) | omega))⟩
end Go.Proofs.Ytfepdieeiplbnaa
