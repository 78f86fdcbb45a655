/-
  What the walks of chapter 14's laws use: Step told by its equation, effects compared, harts compared.
-/
import Derived.Test.YtiahdhlfecgnpaaHartStep3
import Derived.Test.YtiahdhlfecgnpaaHartFit
import Derived.Test.YtiahdhlfecgnpaaFit02
namespace Go.Proofs.Ytiahdhlfecgnpaa
open Go.RowKit
theorem backH_len (h : Ht) : (backH h).r.length = h.r.length := rfl
theorem trapH_len (h : Ht) (c : Int) : (trapH h c).r.length = h.r.length := rfl
theorem putX_len (h : Ht) (x : Ins) (a b : Int) : (putX h x a b).r.length = h.r.length := by
  unfold putX
  repeat' split
  all_goals first | exact putH_len _ _ _ | rfl
theorem stepX_len (h : Ht) (id : Int) (x : Ins) (h32 : h.r.length = 32) : (stepX h id x).1.r.length = 32 := by
  unfold stepX
  repeat' split
  · exact h32
  · exact h32
  · exact ctlR_len h id x h32
  · unfold stepN; exact (putX_len h x _ _).trans h32
theorem step_at (h : Ht) (id op d a b n : Int) (w : World) (h32 : h.r.length = 32) (h' : Ht) (e0 e1 e2 e3 e4 : Int) (hs : stepX h id ⟨op, d, a, b, n⟩ = (h', ⟨e0, e1, e2, e3, e4⟩)) :
    Calls Try.prog 16 #[.agg (hA h), .int .i64 id, .agg #[.int .i64 op, .int .i64 d, .int .i64 a, .int .i64 b, .int .i64 n]] w fun e w' => e = .returned (.tuple #[.agg (hA h'), .agg #[.int .i64 e0, .int .i64 e1, .int .i64 e2, .int .i64 e3, .int .i64 e4]]) ∧ Below w.heap.size w w' := by
  have := step_any h id ⟨op, d, a, b, n⟩ w h32
  rw [hs] at this
  exact this
theorem len_at {h h' : Ht} {id : Int} {x : Ins} {e : Eff} (h32 : h.r.length = 32) (hs : stepX h id x = (h', e)) : h'.r.length = 32 := by
  have := stepX_len h id x h32
  rw [hs] at this; exact this
theorem put_z (d n : Int) (w : World) : Calls Try.prog 18 #[.agg zA, .int .i64 d, .int .i64 n] w fun e w' => e = .returned (.agg (hA (putH hZ d n))) ∧ Below w.heap.size w w' := by
  rw [zA_eq]; exact put_any hZ d n w rfl
def lA (pc st ve sc ep ca le : Int) : Array Value := #[.int .i64 0, .int .i64 0, .int .i64 0, .int .i64 0, .int .i64 0, .int .i64 0, .int .i64 0, .int .i64 0, .int .i64 0, .int .i64 0, .int .i64 0, .int .i64 0, .int .i64 0, .int .i64 0, .int .i64 0, .int .i64 0, .int .i64 0, .int .i64 0, .int .i64 0, .int .i64 0, .int .i64 0, .int .i64 0, .int .i64 0, .int .i64 0, .int .i64 0, .int .i64 0, .int .i64 0, .int .i64 0, .int .i64 0, .int .i64 0, .int .i64 0, .int .i64 0, .int .i64 pc, .int .i64 st, .int .i64 ve, .int .i64 sc, .int .i64 ep, .int .i64 ca, .int .i64 le]
def lH (pc st ve sc ep ca le : Int) : Ht := ⟨List.replicate 32 0, pc, st, ve, sc, ep, ca, le⟩
theorem lA_eq (pc st ve sc ep ca le : Int) : lA pc st ve sc ep ca le = hA (lH pc st ve sc ep ca le) := by kernel_rfl
theorem put_l (pc st ve sc ep ca le d n : Int) (w : World) : Calls Try.prog 18 #[.agg (lA pc st ve sc ep ca le), .int .i64 d, .int .i64 n] w fun e w' => e = .returned (.agg (hA (putH (lH pc st ve sc ep ca le) d n))) ∧ Below w.heap.size w w' := by
  rw [lA_eq]; exact put_any _ d n w rfl
theorem lets_at (h : Ht) (p : Int) (r : Bool) (w : World) (h32 : h.r.length = 32) (hr : letsB h.st h.le p = r) :
    Calls Try.prog 22 #[.agg (hA h), .int .i64 p] w fun e w' => e = .returned (.bool r) ∧ Below w.heap.size w w' := by subst hr; exact lets_any h p w h32
theorem lets_l (pc st ve sc ep ca le p : Int) (r : Bool) (w : World) (hr : letsB st le p = r) :
    Calls Try.prog 22 #[.agg (lA pc st ve sc ep ca le), .int .i64 p] w fun e w' => e = .returned (.bool r) ∧ Below w.heap.size w w' := by rw [lA_eq]; exact lets_at _ p r w rfl hr
theorem trap_l (pc st ve sc ep ca le c : Int) (w : World) :
    Calls Try.prog 20 #[.agg (lA pc st ve sc ep ca le), .int .i64 c] w fun e w' => e = .returned (.agg (hA (trapH (lH pc st ve sc ep ca le) c))) ∧ Below w.heap.size w w' := by rw [lA_eq]; exact trap_any' _ c w rfl
theorem eq_eff (e0 e1 e2 e3 e4 : Int) (w : World) : (Op.equalIn 10000 34 (.agg #[.int .i64 e0, .int .i64 e1, .int .i64 e2, .int .i64 e3, .int .i64 e4]) (.agg #[.int .i64 e0, .int .i64 e1, .int .i64 e2, .int .i64 e3, .int .i64 e4])).run Try.prog w = .ok true w := by
  have u3 := Try.underlying3
  have a3 := Try.isAgg3
  have z3 := Try.sizeOf3
  have hS : Try.prog.underlying 34 = some (.struct (Try.prog.fieldsOf 34)) := by kernel_rfl
  have hp : Try.prog.stoodInHeld 34 = false := by kernel_rfl
  rw [show (10000 : Nat) = 9999 + 1 from rfl, run_equalIn_agg w 9999 34 _ _ hS hp]
  simp only [Program.fieldsOf, Try.underlying34]
  go_simp
end Go.Proofs.Ytiahdhlfecgnpaa
