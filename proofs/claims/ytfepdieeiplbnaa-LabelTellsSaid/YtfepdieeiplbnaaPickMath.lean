/-
  Which of n things a raw number speaks of. No program in sight.
-/
import Derived.WalkKit
namespace Go.Proofs.Ytfepdieeiplbnaa
open Go.RowKit
def pickN (c n : Int) : Int := if c < 0 then (-(c + 1)) % n else c % n
theorem pickN_bd (c n : Int) (h : 0 < n) : 0 ≤ pickN c n ∧ pickN c n < n := by
  unfold pickN; split
  · exact ⟨Int.emod_nonneg _ (by omega), Int.emod_lt_of_pos _ h⟩
  · exact ⟨Int.emod_nonneg _ (by omega), Int.emod_lt_of_pos _ h⟩
theorem i64_of_wf {a : Int} (h : (Lit.int .i64 a).wf = true) : -9223372036854775808 ≤ a ∧ a ≤ 9223372036854775807 := by
  simp [Lit.wf, IntKind.min, IntKind.max, IntKind.bits, IntKind.signed] at h; omega
theorem pick_neg (c n : Int) (h : c < 0) : -((c + 1).tmod n) = pickN c n := by
  rw [show pickN c n = (-(c + 1)) % n from if_pos h, ← Int.neg_tmod]
  exact Int.tmod_eq_emod_of_nonneg (by omega)
theorem pick_pos (c n : Int) (h : ¬ c < 0) : c % n = pickN c n := (if_neg h).symm
abbrev I64 (a : Int) : Prop := -9223372036854775808 ≤ a ∧ a ≤ 9223372036854775807
end Go.Proofs.Ytfepdieeiplbnaa
