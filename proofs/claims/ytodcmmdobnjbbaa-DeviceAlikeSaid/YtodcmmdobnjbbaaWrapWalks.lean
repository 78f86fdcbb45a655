/-
  The contracts of layer 1 (wrap) of the program: what each function returns.
-/
import Derived.Test.YtodcmmdobnjbbaaRows
import Derived.Test.YtodcmmdobnjbbaaWrapMath
import Derived.WalkSpells
import Derived.Lib.Hide
import Derived.WalkLawsBesides
namespace Go.Proofs.Ytodcmmdobnjbbaa
open Go.RowKit
theorem rint {k : IntKind} {a b : Int} (h : a = b) : Value.int k a = .int k b := by rw [h]
theorem rbool {a b : Bool} (h : a = b) : Value.bool a = .bool b := by rw [h]
theorem ret1 {a b : Value} (h : a = b) : Ending.returned a = .returned b := by rw [h]
theorem ret2 {a b c d : Value} (h : a = c) (h' : b = d) : Ending.returned (.tuple #[a, b]) = .returned (.tuple #[c, d]) := by rw [h, h']

theorem wrap_any (a : Int) (w : World) :
    Calls Try.prog 16 #[.int .i64 a] w fun e w' => e = .returned (.int .i64 (wrap32 a)) ∧ w = w' := by
  go_enter Try.func16, Try.ntmps16
  go_wp2
  go_ret
  exact ⟨ret1 (rint (w64_w32 a)), rfl⟩

end Go.Proofs.Ytodcmmdobnjbbaa
