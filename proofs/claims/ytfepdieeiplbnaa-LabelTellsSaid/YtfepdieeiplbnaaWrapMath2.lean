/-
  More plain arithmetic of layer 1, for its laws. No program in sight.
-/
import Derived.Test.YtfepdieeiplbnaaWrapMath
namespace Go.Proofs.Ytfepdieeiplbnaa
open Go.RowKit
theorem twoB_yes {op : Int} (h1 : 1 ≤ op) (h2 : op ≤ 14) : twoB op = true := decide_eq_true ⟨h1, h2⟩
theorem twoB_no {op : Int} (h : 14 < op) : twoB op = false := decide_eq_false (by omega)
theorem oneB_yes {op : Int} (h1 : 15 ≤ op) (h2 : op ≤ 17) : oneB op = true := decide_eq_true ⟨h1, h2⟩
theorem oneB_no {op : Int} (h : op < 15) : oneB op = false := decide_eq_false (by omega)
theorem twoN_no {op : Int} (h : 14 < op) (a b : Int) : twoN op a b = 0 := by
  unfold twoN; repeat (first | rw [if_neg (by omega)] | rfl)
theorem oneN_no {op : Int} (h : op < 15) (a : Int) : oneN op a = 0 := by
  unfold oneN; repeat (first | rw [if_neg (by omega)] | rfl)
theorem level_no {op : Int} (h : op < 1 ∨ 14 < op) : levelN op = 0 := by
  unfold levelN; repeat (first | rw [if_neg (by omega)] | rfl)
theorem level_bd (op : Int) (h : 1 ≤ op ∧ op ≤ 14) : 1 ≤ levelN op ∧ levelN op ≤ 8 := by
  have hc : op = 1 ∨ op = 2 ∨ op = 3 ∨ op = 4 ∨ op = 5 ∨ op = 6 ∨ op = 7 ∨ op = 8 ∨ op = 9 ∨ op = 10 ∨ op = 11 ∨ op = 12 ∨ op = 13 ∨ op = 14 := by omega
  rcases hc with rfl | rfl | rfl | rfl | rfl | rfl | rfl | rfl | rfl | rfl | rfl | rfl | rfl | rfl <;> decide
theorem word_mod32 (b : Int) : word b % 32 = b % 32 := by unfold word; omega
theorem twoN_low (op a b : Int) : twoN op a b = twoN op (word a) (wrap32 b) := by
  unfold twoN; simp only [w32_word, w32_w32, word_word, word_w32, w32_mod32]
theorem ite_w32 {c : Prop} [Decidable c] {x y : Int} (h : wrap32 x = x) (h' : wrap32 y = y) : wrap32 (if c then x else y) = if c then x else y := by
  split <;> assumption
theorem twoN_w32 (op a b : Int) : wrap32 (twoN op a b) = twoN op a b := by
  unfold twoN
  repeat' (with_reducible refine ite_w32 ?_ ?_)
  all_goals first | exact w32_w32 _ | exact w32_tmod _ _ | exact w32_id (bits32_bd _ _ _) | exact w32_shr _ _ | exact w32_flag _ | exact w32_0 | exact w32_id (by omega)
theorem oneN_low (op a : Int) : oneN op a = oneN op (word a) := by
  unfold oneN; simp only [w32_word]
theorem oneN_w32 (op a : Int) : wrap32 (oneN op a) = oneN op a := by
  generalize h : oneN op a = n
  unfold oneN at h
  repeat' split at h
  all_goals subst h
  all_goals first | exact w32_w32 _ | exact w32_flag _ | exact w32_0
theorem highN_word (a b : Int) : highN a b true = highN (word a) (word b) true := by
  show highS a b = highS _ _; unfold highS; rw [w32_word, w32_word]
theorem highN_wrap (a b : Int) : highN a b false = highN (wrap32 a) (wrap32 b) false := by
  show highU a b = highU _ _; unfold highU; rw [word_w32, word_w32]
theorem sign_inj (a b : Int) (ha : 1 ≤ a ∧ a ≤ 14) (hb : 1 ≤ b ∧ b ≤ 14) : ((signS a).toList == (signS b).toList) = (a == b) := by
  obtain ⟨k, rfl⟩ := Int.eq_ofNat_of_zero_le (show 0 ≤ a by omega)
  obtain ⟨j, rfl⟩ := Int.eq_ofNat_of_zero_le (show 0 ≤ b by omega)
  have H : ∀ k : Fin 15, ∀ j : Fin 15, 1 ≤ k.1 → 1 ≤ j.1 → ((signS (k.1 : Int)).toList == (signS (j.1 : Int)).toList) = ((k.1 : Int) == (j.1 : Int)) := by decide +kernel
  exact H ⟨k, by omega⟩ ⟨j, by omega⟩ (by show 1 ≤ k; omega) (by show 1 ≤ j; omega)
theorem highN_bd (a b : Int) (s : Bool) : -2147483648 ≤ highN a b s ∧ highN a b s ≤ 2147483647 := by
  cases s
  · exact w32_bd _
  · exact w32_bd _
theorem halves_whole (a b : Int) : highN a b true * 4294967296 + word (twoN 3 a b) = wrap32 a * wrap32 b := by
  have e : twoN 3 a b = wrap32 (wrap32 a * wrap32 b) := by simp [twoN]
  rw [e, word_w32]
  show highS a b * _ + _ = _
  have m0 := mul32_bd a b
  unfold highS
  generalize wrap32 a * wrap32 b = p at *
  rw [w32_id (by omega)]
  unfold word; omega
theorem xor_twice (a b : Int) : twoN 8 (twoN 8 a b) b = wrap32 a := by
  have e : ∀ x y, twoN 8 x y = bits .xor .i32 (wrap32 x) (wrap32 y) := fun x y => by simp [twoN]
  rw [e, e, w32_id (bits32_bd _ _ _), xor32_bv, xor32_bv, BitVec.ofInt_toInt, BitVec.xor_assoc, BitVec.xor_self, BitVec.xor_zero, ofInt_w32, w32_bv]
theorem inv_bv (a : Int) : oneN 17 a = (~~~ (BitVec.ofInt 32 a)).toInt := by
  have e : oneN 17 a = wrap32 (-(wrap32 a) - 1) := by simp [oneN]
  rw [e, w32_inv, w32_bv a, ← not32, show BitVec.ofInt 32 (-1) = BitVec.allOnes 32 by decide, BitVec.allOnes_xor]
theorem de_morgan (a b : Int) : twoN 7 (oneN 17 a) (oneN 17 b) = oneN 17 (twoN 6 a b) := by
  have e : ∀ x y, twoN 7 x y = bits .or .i32 (wrap32 x) (wrap32 y) := fun x y => by simp [twoN]
  have e6 : ∀ x y, twoN 6 x y = bits .and .i32 (wrap32 x) (wrap32 y) := fun x y => by simp [twoN]
  rw [e, oneN_w32, oneN_w32, or32_bv, inv_bv, inv_bv, inv_bv, BitVec.ofInt_toInt, BitVec.ofInt_toInt, e6, and32_bv, BitVec.ofInt_toInt, ofInt_w32, ofInt_w32, BitVec.not_and]
theorem two5 (a b : Int) (h : wrap32 b ≠ 0) : twoN 5 a b = (wrap32 a).tmod (wrap32 b) := by simp [twoN, h]
theorem two4 (a b : Int) (h : wrap32 b ≠ 0) : twoN 4 a b = wrap32 ((wrap32 a).tdiv (wrap32 b)) := by simp [twoN, h]
theorem rem_bd (a b : Int) : -2147483648 ≤ twoN 5 a b ∧ twoN 5 a b ≤ 2147483647 := by rw [← twoN_w32]; exact w32_bd _
theorem div_all (a b : Int) (h : wrap32 b ≠ 0) : twoN 1 (twoN 3 (twoN 4 a b) b) (twoN 5 a b) = wrap32 a := by
  rw [two4 a b h, two5 a b h]
  have e1 : ∀ x y, twoN 1 x y = wrap32 (wrap32 x + wrap32 y) := fun x y => by simp [twoN]
  have e3 : ∀ x y, twoN 3 x y = wrap32 (wrap32 x * wrap32 y) := fun x y => by simp [twoN]
  rw [e1, e3, w32_w32, w32_w32, w32_tmod]
  have m : wrap32 (wrap32 ((wrap32 a).tdiv (wrap32 b)) * wrap32 b) = wrap32 ((wrap32 a).tdiv (wrap32 b) * wrap32 b) := by
    have := w32_mul (wrap32 ((wrap32 a).tdiv (wrap32 b))) (wrap32 b)
    rw [w32_w32, w32_w32] at this
    rw [← w32_w32 b, w32_mul, w32_w32]
  rw [m]
  have d := Int.tdiv_mul_add_tmod (wrap32 a) (wrap32 b)
  have e : wrap32 (wrap32 ((wrap32 a).tdiv (wrap32 b) * wrap32 b) + (wrap32 a).tmod (wrap32 b)) = wrap32 ((wrap32 a).tdiv (wrap32 b) * wrap32 b + (wrap32 a).tmod (wrap32 b)) := by unfold wrap32; omega
  rw [e, d, w32_w32]
theorem rem_near (a b : Int) (h : wrap32 b ≠ 0) : (twoN 5 a b < wrap32 b.natAbs ∨ True) ∧ ((twoN 5 a b).natAbs < (wrap32 b).natAbs) ∧ (0 ≤ wrap32 a → 0 ≤ twoN 5 a b) ∧ (wrap32 a ≤ 0 → twoN 5 a b ≤ 0) := by
  rw [two5 a b h]
  refine ⟨.inr trivial, ?_, ?_, ?_⟩
  · rw [Int.natAbs_tmod]; exact Nat.mod_lt _ (by omega)
  · intro ha; exact Int.tmod_nonneg _ ha
  · intro ha
    have := Int.tmod_nonneg (a := -(wrap32 a)) (wrap32 b) (by omega)
    rw [Int.neg_tmod] at this; omega
theorem pow_bd (k : Int) (h : 0 ≤ k ∧ k < 32) : (1 : Int) ≤ 2 ^ k.toNat ∧ (2 : Int) ^ k.toNat ≤ 2147483648 := by
  obtain ⟨j, rfl⟩ := Int.eq_ofNat_of_zero_le h.1
  have hj : j < 32 := by omega
  simp only [Int.toNat_natCast]
  have h1 : (2 : Int) ^ j ≤ 2 ^ 31 := by
    have := Nat.pow_le_pow_right (show 0 < 2 by decide) (show j ≤ 31 by omega)
    exact_mod_cast this
  have h2 : (0 : Int) < 2 ^ j := Int.pow_pos (by decide)
  exact ⟨h2, h1⟩
theorem up_times (a k : Int) (h : 0 ≤ k ∧ k < 32) : twoN 9 a k = twoN 3 a (2 ^ k.toNat) := by
  have e9 : twoN 9 a k = wrap32 (wrap32 a * 2 ^ (k % 32).toNat) := by simp [twoN]
  rw [e9, Int.emod_eq_of_lt h.1 h.2]
  have e3 : ∀ x y, twoN 3 x y = wrap32 (wrap32 x * wrap32 y) := fun x y => by simp [twoN]
  rw [e3, ← w32_mul, w32_w32]
theorem down_bd (a k : Int) (h : 0 ≤ k ∧ k < 32) : -2147483648 ≤ twoN 10 a k ∧ twoN 10 a k ≤ 2147483647 ∧ twoN 10 a k * 2 ^ k.toNat ≤ wrap32 a ∧ wrap32 a < (twoN 10 a k + 1) * 2 ^ k.toNat ∧ (twoN 10 a k + 1) * 2 ^ k.toNat ≤ wrap32 a + 2147483648 ∧ wrap32 a - 2147483648 ≤ twoN 10 a k * 2 ^ k.toNat := by
  have e : twoN 10 a k = wrap32 a / 2 ^ (k % 32).toNat := by simp [twoN]
  rw [e, Int.emod_eq_of_lt h.1 h.2]
  have hp := pow_bd k h
  have hb := shr_bd (wrap32 a) k.toNat (w32_bd a)
  have hd := Int.mul_ediv_add_emod (wrap32 a) (2 ^ k.toNat)
  have hm0 := Int.emod_nonneg (wrap32 a) (show (2 : Int) ^ k.toNat ≠ 0 by omega)
  have hm1 := Int.emod_lt_of_pos (wrap32 a) (show (0 : Int) < 2 ^ k.toNat by omega)
  rw [Int.add_mul, Int.one_mul, Int.mul_comm (wrap32 a / 2 ^ k.toNat)]
  generalize (2 : Int) ^ k.toNat * (wrap32 a / 2 ^ k.toNat) = q at *
  refine ⟨hb.1, hb.2, by omega, by omega, by omega, by omega⟩
theorem top_halves (a b : Int) : 0 ≤ word a / 65536 * word b ∧ word a / 65536 * word b ≤ 281470681743360 ∧ 0 ≤ word a % 65536 * word b ∧ word a % 65536 * word b ≤ 281470681743360 ∧ word (highN a b false) = (word a / 65536 * word b + word a % 65536 * word b / 65536) / 65536 := by
  have ha := word_bd a; have hb := word_bd b
  have h1 := mul_bd (word a / 65536) (word b) 65535 4294967295 (by omega) (by omega)
  have h2 := mul_bd (word a % 65536) (word b) 65535 4294967295 (by omega) (by omega)
  have n1 : 0 ≤ word a / 65536 * word b := Int.mul_nonneg (by omega) (by omega)
  have n2 : 0 ≤ word a % 65536 * word b := Int.mul_nonneg (by omega) (by omega)
  refine ⟨n1, by omega, n2, by omega, ?_⟩
  have e : word a * word b = 65536 * (word a / 65536 * word b) + word a % 65536 * word b := by
    rw [← Int.mul_assoc, ← Int.add_mul]; congr 1; omega
  show word (highU a b) = _
  unfold highU
  rw [word_w32, e]
  have := mulw_bd a b
  rw [e] at this
  generalize word a / 65536 * word b = p at *
  generalize word a % 65536 * word b = q at *
  unfold word; omega
theorem and65535_i64 (x : Int) : bits .and .i64 x 65535 = x % 65536 := by
  rw [and64_bv, BitVec.toInt_eq_toNat_bmod, BitVec.toNat_and, BitVec.toNat_ofInt, BitVec.toNat_ofInt]
  rw [show ((65535 : Int) % (2 ^ 64 : Nat)).toNat = 65535 from rfl, Nat.and_two_pow_sub_one_eq_mod _ 16]
  unfold Int.bmod; simp only [Nat.reducePow]; omega
theorem bel_tr {B : Nat} {a b c : World} (h : Below B a b) (h2 : Below b.heap.size b c) (hB : B ≤ a.heap.size) : Below B a c := h.trans (h2.mono (Nat.le_trans hB h.size))
end Go.Proofs.Ytfepdieeiplbnaa
