/-
  The contract of wrap.Sign: an operator's text, out of a list that the call lays anew.
-/
import Derived.Test.YtdhdflbknbnceaaWrapWalks
namespace Go.Proofs.Ytdhdflbknbnceaa
open Go.RowKit
theorem bel_alloc (w : World) (o : Obj) : Below w.heap.size w (w.alloc o) := (Below.refl _ _).alloc (Nat.le_refl _) _
theorem op17 (op : Int) (h1 : 1 ≤ op) (h2 : op < 18) : op = 1 ∨ op = 2 ∨ op = 3 ∨ op = 4 ∨ op = 5 ∨ op = 6 ∨ op = 7 ∨ op = 8 ∨ op = 9 ∨ op = 10 ∨ op = 11 ∨ op = 12 ∨ op = 13 ∨ op = 14 ∨ op = 15 ∨ op = 16 ∨ op = 17 := by omega
theorem signS_no {op : Int} (h : ¬ (1 ≤ op ∧ op ≤ 17)) : signS op = ⟨#[]⟩ := if_neg h
theorem signB_no {op : Int} (h : ¬ (1 ≤ op ∧ op ≤ 17)) : signB op = false := decide_eq_false h
theorem signB_yes {op : Int} (h : 1 ≤ op ∧ op ≤ 17) : signB op = true := decide_eq_true h
theorem sign_any (op : Int) (w : World) :
    Calls Try.prog 19 #[.int .i64 op] w fun e w' => e = .returned (.tuple #[.string (signS op), .bool (signB op)]) ∧ Below w.heap.size w w' := by
  by_cases h1 : op < 1
  · have h0 : ¬ (1 ≤ op ∧ op ≤ 17) := by omega
    go_enter Try.func19, Try.ntmps19
    go_wp2
    go_ret2
    rw [signS_no h0, signB_no h0]
    exact ⟨rfl, bel_alloc _ _⟩
  · by_cases h2 : op < 18
    · have h0 : 1 ≤ op ∧ op ≤ 17 := by omega
      go_enter Try.func19, Try.ntmps19
      go_wp2
      go_ret2
      rw [signB_yes h0]
      refine ⟨ret2 ?_ rfl, bel_alloc _ _⟩
      rcases op17 op h0.1 h2 with rfl | rfl | rfl | rfl | rfl | rfl | rfl | rfl | rfl | rfl | rfl | rfl | rfl | rfl | rfl | rfl | rfl <;> rfl
    · have h0 : ¬ (1 ≤ op ∧ op ≤ 17) := by omega
      go_enter Try.func19, Try.ntmps19
      go_wp2
      go_ret2
      rw [signS_no h0, signB_no h0]
      exact ⟨rfl, bel_alloc _ _⟩
end Go.Proofs.Ytdhdflbknbnceaa
