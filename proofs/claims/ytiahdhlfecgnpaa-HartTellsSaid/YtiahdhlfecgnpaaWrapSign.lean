/-
  The contract of wrap.Sign: an operator's text, out of a list that the call lays anew.
-/
import Derived.Test.YtiahdhlfecgnpaaWrapWalks
namespace Go.Proofs.Ytiahdhlfecgnpaa
open Go.RowKit
theorem bel_alloc (w : World) (o : Obj) : Below w.heap.size w (w.alloc o) := (Below.refl _ _).alloc (Nat.le_refl _) _
theorem op17 (op : Int) (h1 : 1 ≤ op) (h2 : op < 18) : op = 1 ∨ op = 2 ∨ op = 3 ∨ op = 4 ∨ op = 5 ∨ op = 6 ∨ op = 7 ∨ op = 8 ∨ op = 9 ∨ op = 10 ∨ op = 11 ∨ op = 12 ∨ op = 13 ∨ op = 14 ∨ op = 15 ∨ op = 16 ∨ op = 17 := by omega
theorem signS_no {op : Int} (h : ¬ (1 ≤ op ∧ op ≤ 17)) : signS op = ⟨#[]⟩ := if_neg h
theorem signB_no {op : Int} (h : ¬ (1 ≤ op ∧ op ≤ 17)) : signB op = false := decide_eq_false h
theorem signB_yes {op : Int} (h : 1 ≤ op ∧ op ≤ 17) : signB op = true := decide_eq_true h
end Go.Proofs.Ytiahdhlfecgnpaa
