/-
  Bits of pieces that are laid: plain. No program in sight.
-/
import Derived.Test.YtfepdieeiplbnaaCodeMath
namespace Go.Proofs.Ytfepdieeiplbnaa
open Go.RowKit
theorem field_or (x y g k : Nat) : fieldN (x ||| y) g k = fieldN x g k ||| fieldN y g k := by
  unfold fieldN
  rw [← Nat.shiftRight_eq_div_pow, ← Nat.shiftRight_eq_div_pow, ← Nat.shiftRight_eq_div_pow, Nat.shiftRight_or_distrib, Nat.or_mod_two_pow]
theorem pf_out (n fr mn at' : Int) (g k : Nat) (h0 : 0 ≤ mn ∧ 0 ≤ at' ∧ at' + mn ≤ 32) (h : at' + mn ≤ g ∨ (g : Int) + k ≤ at') : fieldN (pieceN ⟨n, fr, mn, at'⟩) g k = 0 := by
  unfold fieldN pieceN
  simp only
  obtain ⟨m, rfl⟩ := Int.eq_ofNat_of_zero_le h0.1
  obtain ⟨a, rfl⟩ := Int.eq_ofNat_of_zero_le h0.2.1
  simp only [Int.toNat_natCast]
  generalize hv : (n % 4294967296).toNat / 2 ^ fr.toNat % 2 ^ m = v
  have hv1 : v < 2 ^ m := by rw [← hv]; exact Nat.mod_lt _ (Nat.two_pow_pos _)
  have e32 : (4294967296 : Nat) = 2 ^ 32 := rfl
  have hlt : v * 2 ^ a < 2 ^ (m + a) := by rw [Nat.pow_add]; exact Nat.mul_lt_mul_of_pos_right hv1 (Nat.two_pow_pos _)
  have hle : 2 ^ (m + a) ≤ 2 ^ 32 := Nat.pow_le_pow_right (by decide) (by omega)
  rw [Nat.mod_eq_of_lt (a := v * 2 ^ a) (by omega)]
  rcases h with h | h
  · have : 2 ^ (m + a) ≤ 2 ^ g := Nat.pow_le_pow_right (by decide) (by omega)
    rw [Nat.div_eq_of_lt (by omega), Nat.zero_mod]
  · obtain ⟨c, rfl⟩ : ∃ c, a = g + (k + c) := ⟨a - g - k, by omega⟩
    rw [Nat.pow_add, Nat.mul_comm (2 ^ g), ← Nat.mul_assoc, Nat.mul_div_cancel _ (Nat.two_pow_pos _), Nat.pow_add, Nat.mul_comm (2 ^ k), ← Nat.mul_assoc, Nat.mul_mod_left]
theorem pf_in (n fr mn at' : Int) (g k : Nat) (h0 : 0 ≤ mn ∧ 0 ≤ at' ∧ at' + mn ≤ 32) (h : at' ≤ g ∧ (g : Int) + k ≤ at' + mn) : fieldN (pieceN ⟨n, fr, mn, at'⟩) g k = (n % 4294967296).toNat / 2 ^ fr.toNat / 2 ^ (g - at'.toNat) % 2 ^ k := by
  unfold fieldN pieceN
  simp only
  obtain ⟨m, rfl⟩ := Int.eq_ofNat_of_zero_le h0.1
  obtain ⟨a, rfl⟩ := Int.eq_ofNat_of_zero_le h0.2.1
  simp only [Int.toNat_natCast] at h ⊢
  generalize (n % 4294967296).toNat / 2 ^ fr.toNat = u
  obtain ⟨c, rfl⟩ : ∃ c, g = a + c := ⟨g - a, by omega⟩
  obtain ⟨e, rfl⟩ : ∃ e, m = c + (k + e) := ⟨m - c - k, by omega⟩
  have hv1 : u % 2 ^ (c + (k + e)) < 2 ^ (c + (k + e)) := Nat.mod_lt _ (Nat.two_pow_pos _)
  have hlt : u % 2 ^ (c + (k + e)) * 2 ^ a < 2 ^ (c + (k + e) + a) := by rw [Nat.pow_add _ _ a]; exact Nat.mul_lt_mul_of_pos_right hv1 (Nat.two_pow_pos _)
  have hle : 2 ^ (c + (k + e) + a) ≤ 2 ^ 32 := Nat.pow_le_pow_right (by decide) (by omega)
  rw [Nat.mod_eq_of_lt (a := _ * 2 ^ a) (by omega), Nat.pow_add 2 a c, ← Nat.div_div_eq_div_mul, Nat.mul_div_cancel _ (Nat.two_pow_pos _), Nat.add_sub_cancel_left]
  rw [Nat.pow_add 2 c, Nat.mod_mul_right_div_self, Nat.pow_add 2 k, Nat.mod_mul_right_mod]
end Go.Proofs.Ytfepdieeiplbnaa
