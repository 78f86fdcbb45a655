/-
  Plain laws of devices that are the same.
-/
import Derived.Test.YtodcmmdobnjbbaaAwake
namespace Go.Proofs.Ytodcmmdobnjbbaa
open Go.RowKit
theorem sameS_self (s : St) : sameS s s = true := by
  simp [sameS, regsEq]
theorem done_same {s : St} (h : Inv s) (hd : doneS s = s) (n : Int) (hr : s.r2 = n) : doneS (writeS s 2 n) = s := by
  subst hr
  obtain ⟨k, r0, r1, r2, r3, q, sent, ra⟩ := s
  rcases k3 h.k with hk | hk | hk <;> simp only at hk <;> subst hk <;> simpa [writeS] using hd
theorem doneS_idem (s : St) : doneS (doneS s) = doneS s := by
  obtain ⟨k, r0, r1, r2, r3, q, sent, ra⟩ := s
  simp only [doneS, raisesS]; repeat' split
  all_goals simp_all [en]
theorem done_step (s : St) (r : Int × Int × Int) : doneS (stepS s r) = stepS s r := by
  unfold stepS; repeat' split
  all_goals exact doneS_idem _
theorem done_steps (s : St) (h : doneS s = s) (l : List (Int × Int × Int)) : doneS (steps s l) = steps s l := by
  induction l generalizing s with
  | nil => simpa [steps] using h
  | cons r l ih => exact ih (stepS s r) (done_step s r)
end Go.Proofs.Ytodcmmdobnjbbaa
