/-
  The plain arithmetic of layer 1 (wrap): numbers of 32 bits, and what operators make of them. No program in sight.
-/
import Derived.WalkKit
namespace Go.Proofs.Ytfepdieeiplbnaa
open Go.RowKit

def flag (b : Bool) : Int := if b then 1 else 0
/-- The number without its sign. -/
def word (n : Int) : Int := n % 4294967296

def twoN (op a b : Int) : Int :=
  if op = 1 then wrap32 (wrap32 a + wrap32 b)
  else if op = 2 then wrap32 (wrap32 a - wrap32 b)
  else if op = 3 then wrap32 (wrap32 a * wrap32 b)
  else if op = 4 then (if wrap32 b = 0 then -1 else wrap32 ((wrap32 a).tdiv (wrap32 b)))
  else if op = 5 then (if wrap32 b = 0 then wrap32 a else (wrap32 a).tmod (wrap32 b))
  else if op = 6 then bits .and .i32 (wrap32 a) (wrap32 b)
  else if op = 7 then bits .or .i32 (wrap32 a) (wrap32 b)
  else if op = 8 then bits .xor .i32 (wrap32 a) (wrap32 b)
  else if op = 9 then wrap32 (wrap32 a * 2 ^ (b % 32).toNat)
  else if op = 10 then wrap32 a / 2 ^ (b % 32).toNat
  else if op = 11 then flag (decide (wrap32 a < wrap32 b))
  else if op = 12 then flag (decide (word a < word b))
  else if op = 13 then flag (wrap32 a == wrap32 b)
  else if op = 14 then flag (wrap32 a != wrap32 b)
  else 0
def twoB (op : Int) : Bool := decide (1 ≤ op ∧ op ≤ 14)

def oneN (op a : Int) : Int :=
  if op = 15 then wrap32 (-(wrap32 a)) else if op = 16 then flag (wrap32 a == 0) else if op = 17 then wrap32 (-(wrap32 a) - 1) else 0
def oneB (op : Int) : Bool := decide (15 ≤ op ∧ op ≤ 17)

def highS (a b : Int) : Int := wrap32 (wrap32 a * wrap32 b / 4294967296)
def highU (a b : Int) : Int := wrap32 (word a * word b / 4294967296)
def highN (a b : Int) (s : Bool) : Int := if s then highS a b else highU a b

def levelN (op : Int) : Int :=
  if op = 3 ∨ op = 4 ∨ op = 5 then 8 else if op = 1 ∨ op = 2 then 7 else if op = 9 ∨ op = 10 then 6 else if op = 11 ∨ op = 12 then 5
  else if op = 13 ∨ op = 14 then 4 else if op = 6 then 3 else if op = 8 then 2 else if op = 7 then 1 else 0

def signL : List (List UInt8) := [[], [43], [45], [42], [47], [37], [38], [124], [94], [60, 60], [62, 62], [60], [60, 46], [61, 61], [33, 61], [45], [33], [126]]
def signS (op : Int) : ByteArray := if 1 ≤ op ∧ op ≤ 17 then ⟨(signL.getD op.toNat []).toArray⟩ else ⟨#[]⟩
def signB (op : Int) : Bool := decide (1 ≤ op ∧ op ≤ 17)

/-! ### wraps -/
theorem w32_bd (a : Int) : -2147483648 ≤ wrap32 a ∧ wrap32 a ≤ 2147483647 := by unfold wrap32; omega
theorem word_bd (a : Int) : 0 ≤ word a ∧ word a < 4294967296 := by unfold word; omega
theorem w64_w32 (a : Int) : wrap64 (wrap32 a) = wrap32 a := by unfold wrap64 wrap32; omega
theorem w32_w32 (a : Int) : wrap32 (wrap32 a) = wrap32 a := by unfold wrap32; omega
theorem w32_w64 (a : Int) : wrap32 (wrap64 a) = wrap32 a := by unfold wrap64 wrap32; omega
theorem w32_word (a : Int) : wrap32 (word a) = wrap32 a := by unfold word wrap32; omega
theorem w32_mod (a : Int) : wrap32 (a % 4294967296) = wrap32 a := w32_word a
theorem word_w32 (a : Int) : word (wrap32 a) = word a := by unfold word wrap32; omega
theorem word_word (a : Int) : word (word a) = word a := by unfold word; omega
theorem w32_add (a b : Int) : wrap32 (wrap32 a + wrap32 b) = wrap32 (a + b) := by unfold wrap32; omega
theorem w32_sub (a b : Int) : wrap32 (wrap32 a - wrap32 b) = wrap32 (a - b) := by unfold wrap32; omega
theorem w32_id {a : Int} (h : -2147483648 ≤ a ∧ a ≤ 2147483647) : wrap32 a = a := by unfold wrap32; omega
theorem w64_id {a : Int} (h : -9223372036854775808 ≤ a ∧ a ≤ 9223372036854775807) : wrap64 a = a := by unfold wrap64; omega
theorem w32_emod_eq (a b : Int) : wrap32 a = wrap32 b ↔ a % 4294967296 = b % 4294967296 := by unfold wrap32; omega
theorem w32_mul (a b : Int) : wrap32 (wrap32 a * wrap32 b) = wrap32 (a * b) := by
  have h : ∀ c, wrap32 c % 4294967296 = c % 4294967296 := fun c => by unfold wrap32; omega
  rw [w32_emod_eq, Int.mul_emod, h, h, ← Int.mul_emod]
theorem flag_bd (b : Bool) : 0 ≤ flag b ∧ flag b ≤ 1 := by cases b <;> decide

theorem tmod_bd (x y : Int) : -(x.natAbs : Int) ≤ x.tmod y ∧ x.tmod y ≤ x.natAbs := by
  have h := Int.natAbs_tmod x y
  have h2 : x.natAbs % y.natAbs ≤ x.natAbs := Nat.mod_le _ _
  omega
theorem w64_tmod (a : Int) (y : Int) : wrap64 ((wrap32 a).tmod y) = (wrap32 a).tmod y := by
  have h := tmod_bd (wrap32 a) y
  have h2 := w32_bd a
  exact w64_id (by omega)
theorem w32_tmod (a : Int) (y : Int) : wrap32 ((wrap32 a).tmod y) = (wrap32 a).tmod y := by
  have h := tmod_bd (wrap32 a) y
  have h2 := w32_bd a
  by_cases e : (wrap32 a).natAbs < 2147483648
  · exact w32_id (by omega)
  · refine w32_id ⟨by omega, ?_⟩
    have : wrap32 a ≤ 0 := by omega
    have := Int.tmod_nonneg (a := -(wrap32 a)) y (by omega)
    rw [Int.neg_tmod] at this
    omega

theorem w32_mod32b (x : Int) : wrap32 x % 4294967296 = x % 4294967296 := by unfold wrap32; omega

/-! ### bits -/
theorem w32_bv (n : Int) : wrap32 n = (BitVec.ofInt 32 n).toInt := by
  rw [BitVec.toInt_ofInt]; unfold wrap32 Int.bmod; simp only [Nat.reducePow]; omega
theorem w64_bv (n : Int) : wrap64 n = (BitVec.ofInt 64 n).toInt := by
  rw [BitVec.toInt_ofInt]; unfold wrap64 Int.bmod; simp only [Nat.reducePow]; omega
theorem wrap_i32_nat (x : BitVec 32) : IntKind.i32.wrap (x.toNat : Int) = x.toInt := by
  rw [IntKind.wrap_i32, BitVec.toInt_eq_toNat_bmod]; unfold Int.bmod; simp only [Nat.reducePow]; have := x.isLt; omega
theorem wrap_i64_nat (x : BitVec 64) : IntKind.i64.wrap (x.toNat : Int) = x.toInt := by
  rw [IntKind.wrap_i64, BitVec.toInt_eq_toNat_bmod]; unfold Int.bmod; simp only [Nat.reducePow]; have := x.isLt; omega
theorem and32_bv (x y : Int) : bits .and .i32 x y = (BitVec.ofInt 32 x &&& BitVec.ofInt 32 y).toInt := wrap_i32_nat _
theorem or32_bv (x y : Int) : bits .or .i32 x y = (BitVec.ofInt 32 x ||| BitVec.ofInt 32 y).toInt := wrap_i32_nat _
theorem xor32_bv (x y : Int) : bits .xor .i32 x y = (BitVec.ofInt 32 x ^^^ BitVec.ofInt 32 y).toInt := wrap_i32_nat _
theorem and64_bv (x y : Int) : bits .and .i64 x y = (BitVec.ofInt 64 x &&& BitVec.ofInt 64 y).toInt := wrap_i64_nat _
theorem or64_bv (x y : Int) : bits .or .i64 x y = (BitVec.ofInt 64 x ||| BitVec.ofInt 64 y).toInt := wrap_i64_nat _
theorem xor64_bv (x y : Int) : bits .xor .i64 x y = (BitVec.ofInt 64 x ^^^ BitVec.ofInt 64 y).toInt := wrap_i64_nat _
theorem ofInt_w32 (n : Int) : BitVec.ofInt 32 (wrap32 n) = BitVec.ofInt 32 n := by rw [w32_bv, BitVec.ofInt_toInt]
theorem ofInt_word (n : Int) : BitVec.ofInt 32 (word n) = BitVec.ofInt 32 n := by
  have h := w32_word n
  rw [w32_bv, w32_bv] at h
  exact BitVec.eq_of_toInt_eq h
theorem setWidth_ofInt (n : Int) : (BitVec.ofInt 64 n).setWidth 32 = BitVec.ofInt 32 n := by
  apply BitVec.eq_of_toNat_eq
  simp only [BitVec.toNat_setWidth, BitVec.toNat_ofInt, Nat.reducePow]
  omega
theorem ofInt32_toInt (x : BitVec 64) : BitVec.ofInt 32 x.toInt = x.setWidth 32 := by
  apply BitVec.eq_of_toNat_eq
  simp only [BitVec.toNat_setWidth, BitVec.toNat_ofInt, Nat.reducePow, BitVec.toInt_eq_toNat_bmod]
  unfold Int.bmod; simp only; have := x.isLt; omega
theorem w32_and64 (x y : Int) : wrap32 (bits .and .i64 x y) = bits .and .i32 x y := by
  rw [and64_bv, and32_bv, w32_bv, ofInt32_toInt, BitVec.setWidth_and, setWidth_ofInt, setWidth_ofInt]
theorem w32_or64 (x y : Int) : wrap32 (bits .or .i64 x y) = bits .or .i32 x y := by
  rw [or64_bv, or32_bv, w32_bv, ofInt32_toInt, BitVec.setWidth_or, setWidth_ofInt, setWidth_ofInt]
theorem w32_xor64 (x y : Int) : wrap32 (bits .xor .i64 x y) = bits .xor .i32 x y := by
  rw [xor64_bv, xor32_bv, w32_bv, ofInt32_toInt, BitVec.setWidth_xor, setWidth_ofInt, setWidth_ofInt]
theorem bits32_bd (op : BinOp) (x y : Int) : -2147483648 ≤ bits op .i32 x y ∧ bits op .i32 x y ≤ 2147483647 := by
  unfold bits; simp only [IntKind.wrap_i32]; omega
theorem bits64_bd (op : BinOp) (x y : Int) : -9223372036854775808 ≤ bits op .i64 x y ∧ bits op .i64 x y ≤ 9223372036854775807 := by
  unfold bits; simp only [IntKind.wrap_i64]; omega
theorem and31_i32 (x : Int) : bits .and .i32 x 31 = x % 32 := by
  rw [and32_bv, BitVec.toInt_eq_toNat_bmod, BitVec.toNat_and, BitVec.toNat_ofInt, BitVec.toNat_ofInt]
  rw [show ((31 : Int) % (2 ^ 32 : Nat)).toNat = 31 from rfl, Nat.and_two_pow_sub_one_eq_mod _ 5]
  unfold Int.bmod; simp only [Nat.reducePow]; omega
theorem and31_i64 (x : Int) : bits .and .i64 x 31 = x % 32 := by
  rw [and64_bv, BitVec.toInt_eq_toNat_bmod, BitVec.toNat_and, BitVec.toNat_ofInt, BitVec.toNat_ofInt]
  rw [show ((31 : Int) % (2 ^ 64 : Nat)).toNat = 31 from rfl, Nat.and_two_pow_sub_one_eq_mod _ 5]
  unfold Int.bmod; simp only [Nat.reducePow]; omega
theorem w32_mod32 (x : Int) : wrap32 x % 32 = x % 32 := by unfold wrap32; omega
theorem w64_bits32 (op : BinOp) (x y : Int) : wrap64 (bits op .i32 x y) = bits op .i32 x y := by
  have := bits32_bd op x y; exact w64_id (by omega)
theorem shr_bd (x : Int) (k : Nat) (h : -2147483648 ≤ x ∧ x ≤ 2147483647) : -2147483648 ≤ x / 2 ^ k ∧ x / 2 ^ k ≤ 2147483647 := by
  have hp : (0 : Int) < 2 ^ k := Int.pow_pos (by decide)
  refine ⟨?_, ?_⟩
  · rw [Int.le_ediv_iff_mul_le hp]
    have : (1 : Int) ≤ 2 ^ k := hp
    have h2 : (-2147483648 : Int) * 2 ^ k ≤ -2147483648 * 1 := Int.mul_le_mul_of_nonpos_left (by decide) this
    omega
  · by_cases hx : 0 ≤ x
    · have := Int.ediv_le_self (2 ^ k) hx; omega
    · have : x / 2 ^ k < 0 := Int.ediv_neg_of_neg_of_pos (by omega) hp
      omega
theorem w64_shr (a : Int) (k : Nat) : wrap64 (wrap32 a / 2 ^ k) = wrap32 a / 2 ^ k := by
  have := shr_bd (wrap32 a) k (w32_bd a); exact w64_id (by omega)
theorem w32_shr (a : Int) (k : Nat) : wrap32 (wrap32 a / 2 ^ k) = wrap32 a / 2 ^ k := w32_id (shr_bd (wrap32 a) k (w32_bd a))
theorem mul_bd (x y : Int) (B C : Nat) (hx : x.natAbs ≤ B) (hy : y.natAbs ≤ C) : -((B * C : Nat) : Int) ≤ x * y ∧ x * y ≤ ((B * C : Nat) : Int) := by
  have h := Nat.mul_le_mul hx hy
  rw [← Int.natAbs_mul] at h
  omega
theorem mul32_bd (a b : Int) : -4611686018427387904 ≤ wrap32 a * wrap32 b ∧ wrap32 a * wrap32 b ≤ 4611686018427387904 := by
  have h1 := w32_bd a; have h2 := w32_bd b
  exact mul_bd _ _ 2147483648 2147483648 (by omega) (by omega)
theorem mulw_bd (a b : Int) : 0 ≤ word a * word b ∧ word a * word b ≤ 18446744065119617025 := by
  have h1 := word_bd a; have h2 := word_bd b
  refine ⟨Int.mul_nonneg h1.1 h2.1, (mul_bd _ _ 4294967295 4294967295 (by omega) (by omega)).2⟩
theorem u64_word (a : Int) : IntKind.u64.wrap (word a) = word a := by have := word_bd a; exact IntWalk.u64_in _ (by omega)
theorem u64_mulw (a b : Int) : IntKind.u64.wrap (word a * word b) = word a * word b := by have := mulw_bd a b; exact IntWalk.u64_in _ (by omega)
theorem mulw_hi (a b : Int) : word a * word b / 4294967296 % 4294967296 = word a * word b / 4294967296 := by have := mulw_bd a b; omega
theorem w64_mul32 (a b : Int) : wrap64 (wrap32 a * wrap32 b) = wrap32 a * wrap32 b := by have := mul32_bd a b; exact w64_id (by omega)
theorem w64_mul32_hi (a b : Int) : wrap64 (wrap32 a * wrap32 b / 4294967296) = wrap32 a * wrap32 b / 4294967296 := by have := mul32_bd a b; exact w64_id (by omega)
theorem not32 (x : BitVec 32) : (BitVec.ofInt 32 (-1) ^^^ x).toInt = -x.toInt - 1 := by
  have e : BitVec.ofInt 32 (-1) = BitVec.allOnes 32 := by decide
  rw [e, BitVec.allOnes_xor, BitVec.toInt_eq_toNat_bmod, BitVec.toInt_eq_toNat_bmod, BitVec.toNat_not]
  unfold Int.bmod; simp only [Nat.reducePow]; have := x.isLt; omega
theorem inv32 (a : Int) : bits .xor .i32 (-1) (wrap32 a) = -(wrap32 a) - 1 := by
  rw [xor32_bv, not32, ofInt_w32, w32_bv]
theorem w32_inv (a : Int) : wrap32 (-(wrap32 a) - 1) = -(wrap32 a) - 1 := by have := w32_bd a; exact w32_id (by omega)
theorem w64_inv (a : Int) : wrap64 (-(wrap32 a) - 1) = -(wrap32 a) - 1 := by have := w32_bd a; exact w64_id (by omega)
theorem tdiv_bd (x y : Int) : -(x.natAbs : Int) ≤ x.tdiv y ∧ x.tdiv y ≤ x.natAbs := by
  have h := Int.natAbs_tdiv x y
  have h2 : x.natAbs.div y.natAbs ≤ x.natAbs := Nat.div_le_self _ _
  omega
theorem w64_bd (x : Int) : -9223372036854775808 ≤ wrap64 x ∧ wrap64 x ≤ 9223372036854775807 := by unfold wrap64; omega
theorem w32_flag (b : Bool) : wrap32 (flag b) = flag b := by have := flag_bd b; exact w32_id (by omega)
theorem w32_0 : wrap32 0 = 0 := w32_id (by omega)
theorem flag_bd64 (b : Bool) : -9223372036854775808 ≤ flag b ∧ flag b ≤ 9223372036854775807 := by have := flag_bd b; omega
theorem shr_bd64 (a : Int) (k : Nat) : -9223372036854775808 ≤ wrap32 a / 2 ^ k ∧ wrap32 a / 2 ^ k ≤ 9223372036854775807 := by have := shr_bd (wrap32 a) k (w32_bd a); omega
theorem mul_split (x y : Int) : x * y = 4294967296 * ((x / 65536) * (y / 65536)) + 65536 * ((x / 65536) * (y % 65536) + (x % 65536) * (y / 65536)) + (x % 65536) * (y % 65536) := by
  have hx : x = 65536 * (x / 65536) + x % 65536 := by omega
  have hy : y = 65536 * (y / 65536) + y % 65536 := by omega
  generalize x / 65536 = p at *
  generalize x % 65536 = q at *
  generalize y / 65536 = r at *
  generalize y % 65536 = s at *
  subst hx hy
  simp only [Int.add_mul, Int.mul_add, Int.mul_assoc]
  have e1 : p * (65536 * r) = 65536 * (p * r) := by rw [← Int.mul_assoc, Int.mul_comm p, Int.mul_assoc]
  have e2 : q * (65536 * r) = 65536 * (q * r) := by rw [← Int.mul_assoc, Int.mul_comm q, Int.mul_assoc]
  rw [e1, e2]; omega
theorem halves_hi (x y : Int) : (x / 65536) * (y / 65536) + ((x / 65536) * (y % 65536) + (x % 65536) * (y / 65536) + (x % 65536) * (y % 65536) / 65536) / 65536 = x * y / 4294967296 := by
  rw [mul_split x y]; omega
theorem w32_of_word (a : Int) : wrap32 a = if 2147483648 ≤ word a then word a - 4294967296 else word a := by
  unfold wrap32 word; split <;> omega
theorem highS_eq (a b : Int) : highS a b = wrap32 (word a * word b / 4294967296 - (if 2147483648 ≤ word a then word b else 0) - (if 2147483648 ≤ word b then word a else 0)) := by
  unfold highS
  rw [w32_of_word a, w32_of_word b]
  generalize word a = x
  generalize word b = y
  rw [w32_emod_eq]
  split <;> split
  · have e : (x - 4294967296) * (y - 4294967296) = x * y + 4294967296 * (4294967296 - x - y) := by
      rw [Int.sub_mul, Int.mul_sub]; omega
    rw [e, Int.add_mul_ediv_left _ _ (by decide)]; omega
  · have e : (x - 4294967296) * y = x * y + 4294967296 * (- y) := by rw [Int.sub_mul]; omega
    rw [e, Int.add_mul_ediv_left _ _ (by decide)]; omega
  · have e : x * (y - 4294967296) = x * y + 4294967296 * (- x) := by rw [Int.mul_sub]; omega
    rw [e, Int.add_mul_ediv_left _ _ (by decide)]; omega
  · omega
theorem two1 (a b : Int) : twoN 1 a b = wrap32 (a + b) := by simp [twoN, w32_add]
theorem two2 (a b : Int) : twoN 2 a b = wrap32 (a - b) := by simp [twoN, w32_sub]
theorem two3 (a b : Int) : twoN 3 a b = wrap32 (a * b) := by simp [twoN, w32_mul]
theorem one15 (a : Int) : oneN 15 a = wrap32 (-a) := by
  simp only [oneN, if_true]; unfold wrap32; omega
theorem one17 (a : Int) : oneN 17 a = wrap32 (-a - 1) := by
  simp only [oneN, Int.reduceEq, if_true, if_false]; unfold wrap32; omega
theorem w32_mul_l (a b : Int) : wrap32 (wrap32 a * b) = wrap32 (a * b) := by rw [← w32_mul, w32_w32, w32_mul]
theorem w32_mul_r (a b : Int) : wrap32 (a * wrap32 b) = wrap32 (a * b) := by rw [← w32_mul, w32_w32, w32_mul]
theorem w32_add_l (a b : Int) : wrap32 (wrap32 a + b) = wrap32 (a + b) := by unfold wrap32; omega
theorem w32_add_r (a b : Int) : wrap32 (a + wrap32 b) = wrap32 (a + b) := by unfold wrap32; omega
theorem ring_share (a b c : Int) : twoN 3 a (twoN 1 b c) = twoN 1 (twoN 3 a b) (twoN 3 a c) := by
  rw [two1, two1, two3, two3, two3, w32_mul_r, w32_add_l, w32_add_r, Int.mul_add]
theorem ring_turn (a b : Int) : twoN 3 a b = twoN 3 b a := by rw [two3, two3, Int.mul_comm]
theorem ring_less (a b : Int) : twoN 2 a b = twoN 1 a (oneN 15 b) := by rw [two2, two1, one15, w32_add_r]; rfl
theorem ring_back (a b : Int) : twoN 1 (twoN 2 a b) b = wrap32 a := by rw [two1, two2, w32_add_l, Int.sub_add_cancel]
theorem far_w32 (a k : Int) : wrap32 (wrap64 (a + k * 4294967296)) = wrap32 a := by unfold wrap32 wrap64; omega
theorem far_word (a k : Int) : word (wrap64 (a + k * 4294967296)) = word a := by unfold word wrap64; omega
end Go.Proofs.Ytfepdieeiplbnaa
