/-
  The walk of the law Names: all constants have their numbers.
-/
import Derived.Test.YtodcmmdobnjbbaaRows
import Derived.WalkKit
namespace Go.Proofs.Ytodcmmdobnjbbaa
open Go.RowKit
theorem walkNames (w : World) :
    Calls Try.prog 10 #[] w fun e w' => e = .returned (.bool true) ∧ Below w.heap.size w w' := by
  go_enter Try.func10, Try.ntmps10
  go_wp2
  go_ret
  exact ⟨rfl, Below.refl _ _⟩
end Go.Proofs.Ytodcmmdobnjbbaa
