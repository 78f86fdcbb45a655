/-
  What HartStays asks of a step.
-/
import Derived.Test.YtiahdhlfecgnpaaHartFine
import Derived.Test.YtiahdhlfecgnpaaCodeWrites
import Derived.Deep.QuietTactic
import Derived.BigQuiet
import Derived.Outline
namespace Go.Proofs.Ytiahdhlfecgnpaa
open Go.RowKit
set_option linter.unusedVariables false
theorem put_keep (X : Ht) (d v : Int) (i : Nat) (hc : (i : Int) ≠ d ∨ i = 0) : (putH X d v).r.getD i 0 = X.r.getD i 0 := by
  rcases hc with hc | rfl
  · exact put_get_ne X d v i hc
  · by_cases h0 : d = 0
    · subst h0; rw [put_zero]
    · exact put_get_ne X d v 0 (by omega)
theorem setC_r (h : Ht) (off : Nat) (v : Int) : (setC h off v).r = h.r := by unfold setC; repeat' split
                                                                             all_goals rfl
theorem ctlH_keep (h : Ht) (x : Ins) (off : Nat) (bt : Int) (i : Nat) (hc : (i : Int) ≠ x.d ∨ i = 0) : (ctlH h x off bt).r.getD i 0 = h.r.getD i 0 := by
  unfold ctlH
  rw [put_keep _ _ _ _ hc]
  show (setC h off _).r.getD i 0 = _
  rw [setC_r]
theorem putX_keep (h : Ht) (x : Ins) (a b : Int) (i : Nat) (hc : (i : Int) ≠ x.d ∨ i = 0) : (putX h x a b).r.getD i 0 = h.r.getD i 0 := by
  unfold putX
  repeat' split
  all_goals first | exact put_keep _ _ _ _ hc | rfl
theorem eff_op (x : Ins) (a b : Int) (h : (effX x a b).k ≠ 0) : x.op = 11 ∨ x.op = 12 ∨ x.op = 39 ∨ x.op = 46 ∨ x.op = 47 ∨ x.op = 48 ∨ x.op = 49 ∨ x.op = 43 ∨ x.op = 45 := by
  unfold effX at h
  repeat' split at h
  all_goals first | omega | (exact absurd rfl h)
theorem putX_eff (h : Ht) (x : Ins) (a b : Int) (he : (effX x a b).k ≠ 0) : putX h x a b = h := by
  have := eff_op x a b he
  unfold putX
  rw [if_neg (by omega), if_neg (by omega), if_neg (by omega), if_neg (by omega), if_neg (by omega)]
theorem stays_regs (h : Ht) (id : Int) (x : Ins) (hr : rightB x = true) (i : Nat) (hc : (i : Int) ≠ x.d ∨ i = 0 ∨ (stepX h id x).2.k ≠ 0) : (stepX h id x).1.r.getD i 0 = h.r.getD i 0 := by
  by_cases h1 : x.op = 44
  · rw [stepX_back hr h1]; rfl
  by_cases h2 : x.op = 40 ∨ x.op = 41 ∨ x.op = 42
  · rw [stepX_ctl hr h2] at hc ⊢
    unfold ctlR at hc ⊢
    repeat' split at hc
    all_goals simp only at hc
    all_goals
      repeat (first | rw [if_pos (by assumption)] | rw [if_neg (by assumption)])
    all_goals first | rfl | exact ctlH_keep _ _ _ _ _ (by omega) | exact put_keep _ _ _ _ (by omega)
  · rw [stepX_ok hr h1 (by omega)] at hc ⊢
    unfold stepN at hc ⊢
    simp only at hc ⊢
    by_cases he : (effX x (h.r.getD x.a.toNat 0) (h.r.getD x.b.toNat 0)).k ≠ 0
    · rw [putX_eff _ _ _ _ he]
    · exact putX_keep _ _ _ _ _ (by omega)
theorem putX_rest (h : Ht) (x : Ins) (a b : Int) : (putX h x a b).st = h.st ∧ (putX h x a b).ve = h.ve ∧ (putX h x a b).sc = h.sc ∧ (putX h x a b).ep = h.ep ∧ (putX h x a b).ca = h.ca ∧ (putX h x a b).le = h.le := by
  unfold putX
  repeat' split
  all_goals first | exact (put_rest _ _ _).2 | exact ⟨rfl, rfl, rfl, rfl, rfl, rfl⟩
theorem stays_rest (h : Ht) (id : Int) (x : Ins) (hr : rightB x = true) (h1 : x.op ≠ 44) (h2 : x.op ≠ 40 ∧ x.op ≠ 41 ∧ x.op ≠ 42) : ({ (stepX h id x).1 with r := h.r, pc := h.pc } : Ht) = h := by
  rw [stepX_ok hr h1 h2]
  obtain ⟨e1, e2, e3, e4, e5, e6⟩ := putX_rest h x (h.r.getD x.a.toNat 0) (h.r.getD x.b.toNat 0)
  unfold stepN
  simp only
  rw [e1, e2, e3, e4, e5, e6]
def ctlB (op : Int) : Bool := op == 40 || op == 41 || op == 42 || op == 44
end Go.Proofs.Ytiahdhlfecgnpaa
