/-
  A word of which one bit is turned: plain. No program in sight.
-/
import Derived.Test.YtefebnicclbhjaaCodeMath
namespace Go.Proofs.Ytefebnicclbhjaa
open Go.RowKit
def flipN (word k : Nat) : Nat := word ^^^ 2 ^ k
theorem flip_lt {word k : Nat} (hw : word < 4294967296) (hk : k < 32) : flipN word k < 4294967296 := by
  unfold flipN
  have : (2 : Nat) ^ k < 2 ^ 32 := Nat.pow_lt_pow_right (by decide) hk
  exact Nat.xor_lt_two_pow (n := 32) hw this
theorem flip_ne (word k : Nat) : flipN word k ≠ word := by
  unfold flipN
  intro h
  have := congrArg (fun x => x ^^^ word) h
  simp only [Nat.xor_self] at this
  rw [Nat.xor_comm word, Nat.xor_assoc, Nat.xor_self, Nat.xor_zero] at this
  exact absurd this (Nat.ne_of_gt (Nat.two_pow_pos k))
theorem xor_i64 (x y : Nat) (hx : x < 4294967296) (hy : y < 4294967296) : bits .xor .i64 (x : Int) (y : Int) = ((x ^^^ y : Nat) : Int) := by
  have h : x ^^^ y < 4294967296 := Nat.xor_lt_two_pow (n := 32) hx hy
  have e : bits .xor .i64 (x : Int) (y : Int) = IntKind.i64.wrap (((BitVec.ofInt 64 (x : Int)) ^^^ (BitVec.ofInt 64 (y : Int))).toNat : Int) := rfl
  rw [e, BitVec.ofInt_natCast, BitVec.ofInt_natCast, BitVec.toNat_xor, BitVec.toNat_ofNat, BitVec.toNat_ofNat, Nat.mod_eq_of_lt (by omega), Nat.mod_eq_of_lt (by omega)]
  exact IntWalk.i64_in _ (by omega)
theorem flip_eq (word : Nat) (k : Int) (hw : word < 4294967296) (hk : 0 ≤ k ∧ k < 32) : bits .xor .i64 (word : Int) (wrap64 (2 ^ k.toNat)) = ((flipN word k.toNat : Nat) : Int) := by
  have h1 := pow_le31 k.toNat (by omega)
  have h2 : 0 < 2 ^ k.toNat := Nat.two_pow_pos _
  rw [pow_int]
  have e1 : wrap64 ((2 ^ k.toNat : Nat) : Int) = ((2 ^ k.toNat : Nat) : Int) := by unfold wrap64; omega
  rw [e1, xor_i64 _ _ hw (by omega)]
  rfl
end Go.Proofs.Ytefebnicclbhjaa
