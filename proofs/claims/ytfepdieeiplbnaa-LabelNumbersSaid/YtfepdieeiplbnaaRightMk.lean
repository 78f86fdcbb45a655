/-
  Right instructions, made. No program in sight.
-/
import Derived.Test.YtfepdieeiplbnaaCodeRight
import Derived.Test.YtfepdieeiplbnaaCodeEnc
namespace Go.Proofs.Ytfepdieeiplbnaa
open Go.RowKit
theorem right_mk {op d a b n : Int} (s : Sh) (hs : shapeT (rowT op).form = s) (ho : 1 ≤ op ∧ op ≤ 49) (hd : 0 ≤ d ∧ d < 32 ∧ (s.d = true ∨ d = 0)) (ha : 0 ≤ a ∧ a < 32 ∧ (s.a = true ∨ a = 0)) (hb : 0 ≤ b ∧ b < 32 ∧ (s.b = true ∨ b = 0))
    (hn : s.least ≤ n ∧ n ≤ s.most) (hm : modB n s.step = true) : rightB ⟨op, d, a, b, n⟩ = true := by
  have m : ∀ (x : Int) (i : Bool), 0 ≤ x ∧ x < 32 ∧ (i = true ∨ x = 0) → mayB x i = true := by
    intro x i ⟨h1, h2, h3⟩
    unfold mayB
    rw [decide_eq_true h1, decide_eq_true h2]
    rcases h3 with h3 | h3
    · rw [h3]; rfl
    · subst h3; cases i <;> rfl
  unfold rightB shX
  simp only
  rw [hs, isOp_yes ho, m _ _ hd, m _ _ ha, m _ _ hb, decide_eq_true hn.1, decide_eq_true hn.2, hm]
  rfl
theorem shI (op : Int) (h : op = 11 ∨ op = 13 ∨ op = 16 ∨ op = 4) : shapeT (rowT op).form = ⟨true, true, false, -2048, 2047, 0⟩ := by rcases h with rfl | rfl | rfl | rfl <;> kernel_rfl
theorem shU (op : Int) (h : op = 1 ∨ op = 2) : shapeT (rowT op).form = ⟨true, false, false, 0, 1048575, 0⟩ := by rcases h with rfl | rfl <;> kernel_rfl
theorem shJ : shapeT (rowT 3).form = ⟨true, false, false, -1048576, 1048574, 2⟩ := by kernel_rfl
theorem shBr (op : Int) (h : 5 ≤ op ∧ op ≤ 10) : shapeT (rowT op).form = ⟨false, true, true, -4096, 4094, 2⟩ := by
  rcases (by omega : op = 5 ∨ op = 6 ∨ op = 7 ∨ op = 8 ∨ op = 9 ∨ op = 10) with rfl | rfl | rfl | rfl | rfl | rfl <;> kernel_rfl
end Go.Proofs.Ytfepdieeiplbnaa
