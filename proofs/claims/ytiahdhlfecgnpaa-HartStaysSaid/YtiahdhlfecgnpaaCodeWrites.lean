/-
  The contract of code.Writes.
-/
import Derived.Test.YtiahdhlfecgnpaaCodeRight
namespace Go.Proofs.Ytiahdhlfecgnpaa
open Go.RowKit
theorem right_lit' (x : Ins) (r : Bool) (w : World) (hr : rightB x = r) :
    Calls Try.prog 31 #[insV x] w fun e w' => e = .returned (.bool r) ∧ Below w.heap.size w w' := by subst hr; exact right_any x w
def writesN (x : Ins) : Int := if rightB x then x.d else 0
theorem writes_any (x : Ins) (w : World) :
    Calls Try.prog 25 #[insV x] w fun e w' => e = .returned (.int .i64 (writesN x)) ∧ Below w.heap.size w w' := by
  cases hr : rightB x
  all_goals
    have HE : Hid (writesN x = if rightB x then x.d else 0) := rfl
    have HR := Lib.hid hr; clear hr
    rw [HR.out] at HE
    obtain ⟨op, d, a, b, n⟩ := x
    unfold insV
    go_enter Try.func25, Try.ntmps25
    go_wp2_with fail
    refine (right_lit' ⟨op, d, a, b, n⟩ _ _ HR.out).mono ?_
    rintro e w1 ⟨rfl, hb1⟩
    obtain ⟨c1, f1⟩ := bcell hb1
    have z1 : w.heap.size < w1.heap.size := by have := hb1.size; simp at this; omega
    go_wp2_with fail
    go_ret
    exact ⟨by rw [HE.out]; rfl, (by repeat (first | (with_reducible exact Below.refl _ _) | (with_reducible refine bw_set ?_ ?_ _) | (with_reducible apply bw_alloc) | (with_reducible refine bw_tr ?_ (by with_reducible assumption)) | (with_reducible apply bw_drew) | omega))⟩
end Go.Proofs.Ytiahdhlfecgnpaa
