/-
  What HartOperators's steps do.
-/
import Derived.Test.YtiahdhlfecgnpaaHartFine
import Derived.Test.YtiahdhlfecgnpaaWrapMath2
import Derived.Deep.QuietTactic
import Derived.BigQuiet
import Derived.Outline
namespace Go.Proofs.Ytiahdhlfecgnpaa
open Go.RowKit
def oprL : List Int := [22, 23, 32, 35, 37, 31, 30, 27, 24, 29, 25, 26]
def oprN (p : Nat) : Int := oprL.getD p 0
theorem oprN_bd (p : Nat) (hp : p < 12) : 22 ≤ oprN p ∧ oprN p ≤ 38 := by
  rcases (by omega : p = 0 ∨ p = 1 ∨ p = 2 ∨ p = 3 ∨ p = 4 ∨ p = 5 ∨ p = 6 ∨ p = 7 ∨ p = 8 ∨ p = 9 ∨ p = 10 ∨ p = 11) with rfl | rfl | rfl | rfl | rfl | rfl | rfl | rfl | rfl | rfl | rfl | rfl <;> decide
theorem makes_opr (p : Nat) (hp : p < 12) (a b : Int) : makesN (oprN p) a b = twoN (1 + p) a b := by
  rcases (by omega : p = 0 ∨ p = 1 ∨ p = 2 ∨ p = 3 ∨ p = 4 ∨ p = 5 ∨ p = 6 ∨ p = 7 ∨ p = 8 ∨ p = 9 ∨ p = 10 ∨ p = 11) with rfl | rfl | rfl | rfl | rfl | rfl | rfl | rfl | rfl | rfl | rfl | rfl <;> simp [makesN, oprN, oprL, opsT, opsL]
theorem twoN_regs (op a b : Int) : twoN op (wrap32 a) (wrap32 b) = twoN op a b := by
  rw [twoN_low op (wrap32 a), word_w32, w32_w32, ← twoN_low]
theorem eff_op0 (op d a b n x y : Int) (h : 13 ≤ op ∧ op ≤ 38) : effX ⟨op, d, a, b, n⟩ x y = ⟨0, 0, 0, 0, 0⟩ := by
  unfold effX
  simp only
  repeat (rw [if_neg (by omega)])
theorem leads_op (op d a b n pc x y : Int) (h : 13 ≤ op ∧ op ≤ 38) : leadsN pc ⟨op, d, a, b, n⟩ x y = wrap32 (pc + 4) := by
  unfold leadsN
  simp only
  rw [if_neg (by omega), if_neg (by omega)]
theorem opr_all (a b small : Int) (k p : Nat) (hk : 1 ≤ k ∧ k < 32) (hp : p < 12) (hs : -2048 ≤ small ∧ small ≤ 2047) (h : Ht) (hh : h = putH (putH (lH 8 0 0 0 0 0 0) 3 a) 4 b) : h.r.length = 32 ∧ ∃ g q r : Ht,
    stepX h 0 ⟨oprN p, k, 3, 4, 0⟩ = (g, ⟨0, 0, 0, 0, 0⟩) ∧ stepX h 0 ⟨13, k, 3, 0, small⟩ = (q, ⟨0, 0, 0, 0, 0⟩) ∧ stepX h 0 ⟨16, k, 3, 0, -1⟩ = (r, ⟨0, 0, 0, 0, 0⟩) ∧
    g.r.getD k 0 = twoN (1 + p) a b ∧ q.r.getD k 0 = twoN 1 a small ∧ r.r.getD k 0 = oneN 17 a ∧ g.pc = 12 := by
  have hl : h.r.length = 32 := by rw [hh]; exact put_len (put_len rfl _ _) _ _
  have h4 : h.r.getD 4 0 = wrap32 b := by rw [hh]; exact put_get _ (put_len rfl _ _) 4 (by omega) b
  have h3 : h.r.getD 3 0 = wrap32 a := by rw [hh, put_get_ne _ _ _ _ (by omega)]; exact put_get _ rfl 3 (by omega) a
  have hpc : h.pc = 8 := by rw [hh, (put_rest _ 4 b).1, (put_rest _ 3 a).1]; rfl
  have hb := oprN_bd p hp
  refine ⟨hl, ?_⟩
  have s1 : stepX h 0 ⟨oprN p, k, 3, 4, 0⟩ = ({ putH h k (makesN (oprN p) (h.r.getD 3 0) (h.r.getD 4 0)) with pc := wrap32 (h.pc + 4) }, ⟨0, 0, 0, 0, 0⟩) := by
    rw [stepX_ok (right_mk _ (shR _ hb) (by omega) ⟨by omega, by omega, .inl rfl⟩ ⟨by omega, by omega, .inl rfl⟩ ⟨by omega, by omega, .inl rfl⟩ ⟨by simp, by simp⟩ rfl) (by simp only; omega) (by simp only; omega)]
    unfold stepN
    rw [eff_op0 _ _ _ _ _ _ _ (by omega), leads_op _ _ _ _ _ _ _ _ (by omega)]
    have e : putX h ⟨oprN p, k, 3, 4, 0⟩ (h.r.getD (Int.toNat 3) 0) (h.r.getD (Int.toNat 4) 0) = putH h k (makesN (oprN p) (h.r.getD 3 0) (h.r.getD 4 0)) := by
      unfold putX; simp only
      rw [if_neg (by omega), if_neg (by omega), if_neg (by omega), if_neg (by omega), if_pos (by omega)]
      rfl
    simp only
    rw [e]
  have s2 : ∀ (op n : Int), op = 13 ∨ op = 16 → -2048 ≤ n ∧ n ≤ 2047 → stepX h 0 ⟨op, k, 3, 0, n⟩ = ({ putH h k (makesN op (h.r.getD 3 0) n) with pc := wrap32 (h.pc + 4) }, ⟨0, 0, 0, 0, 0⟩) := by
    intro op n ho hn
    rw [stepX_ok (right_mk _ (shI op (by omega)) (by omega) ⟨by omega, by omega, .inl rfl⟩ ⟨by omega, by omega, .inl rfl⟩ ⟨by omega, by omega, .inr rfl⟩ hn rfl) (by simp only; omega) (by simp only; omega)]
    unfold stepN
    rw [eff_op0 _ _ _ _ _ _ _ (by omega), leads_op _ _ _ _ _ _ _ _ (by omega)]
    have e : putX h ⟨op, k, 3, 0, n⟩ (h.r.getD (Int.toNat 3) 0) (h.r.getD (Int.toNat 0) 0) = putH h k (makesN op (h.r.getD 3 0) n) := by
      unfold putX; simp only
      rw [if_neg (by omega), if_neg (by omega), if_neg (by omega), if_pos (by omega)]
      rfl
    simp only
    rw [e]
  refine ⟨_, _, _, s1, s2 13 small (.inl rfl) hs, s2 16 (-1) (.inr rfl) (by omega), ?_, ?_, ?_, ?_⟩
  · refine (put_get h hl k hk _).trans ?_
    rw [makes_opr p hp, h3, h4, twoN_regs, twoN_w32]
  · refine (put_get h hl k hk _).trans ?_
    have : makesN 13 (h.r.getD 3 0) small = twoN 1 (h.r.getD 3 0) small := by simp [makesN, opsT, opsL]
    rw [this, twoN_w32, h3, two1, two1, w32_add_l]
  · refine (put_get h hl k hk _).trans ?_
    have : makesN 16 (h.r.getD 3 0) (-1) = twoN 8 (h.r.getD 3 0) (-1) := by simp [makesN, opsT, opsL]
    rw [this, twoN_w32, h3]
    show bits .xor .i32 (wrap32 (wrap32 a)) (wrap32 (-1)) = wrap32 (-(wrap32 a) - 1)
    rw [w32_w32, w32_id (show -2147483648 ≤ (-1 : Int) ∧ (-1 : Int) ≤ 2147483647 by omega), w32_inv, ← inv32, xor32_bv, xor32_bv, BitVec.xor_comm]
  · show wrap32 (h.pc + 4) = 12
    rw [hpc]; unfold wrap32; omega
end Go.Proofs.Ytiahdhlfecgnpaa
