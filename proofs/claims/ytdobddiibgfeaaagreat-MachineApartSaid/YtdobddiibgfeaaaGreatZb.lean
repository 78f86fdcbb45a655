/-
  What the walks of this statement lean on (WrapMath, WrapMath2, WrapWalks, WrapSign): shown.
-/
import Derived.Test.YtdobddiibgfeaaaGreatZa
import Derived.WalkKit
import Derived.Test.YtdobddiibgfeaaaGreatRows
import Derived.WalkSpells
import Derived.Lib.Hide
import Derived.WalkLawsBesides
set_option linter.unusedVariables false
set_option linter.unusedSimpArgs false
namespace Go.Proofs.YtdobddiibgfeaaaGreat
section
open Go.RowKit

def flag (b : Bool) : Int := if b then 1 else 0
def word (n : Int) : Int := n % 4294967296

def twoN (op a b : Int) : Int :=
 if op = 1 then wrap32 (wrap32 a + wrap32 b)
 else if op = 2 then wrap32 (wrap32 a - wrap32 b)
 else if op = 3 then wrap32 (wrap32 a * wrap32 b)
 else if op = 4 then (if wrap32 b = 0 then -1 else wrap32 ((wrap32 a).tdiv (wrap32 b)))
 else if op = 5 then (if wrap32 b = 0 then wrap32 a else (wrap32 a).tmod (wrap32 b))
 else if op = 6 then bits .and .i32 (wrap32 a) (wrap32 b)
 else if op = 7 then bits .or .i32 (wrap32 a) (wrap32 b)
 else if op = 8 then bits .xor .i32 (wrap32 a) (wrap32 b)
 else if op = 9 then wrap32 (wrap32 a * 2 ^ (b % 32).toNat)
 else if op = 10 then wrap32 a / 2 ^ (b % 32).toNat
 else if op = 11 then flag (decide (wrap32 a < wrap32 b))
 else if op = 12 then flag (decide (word a < word b))
 else if op = 13 then flag (wrap32 a == wrap32 b)
 else if op = 14 then flag (wrap32 a != wrap32 b)
 else 0
def twoB (op : Int) : Bool := decide (1 ≤ op ∧ op ≤ 14)

def highS (a b : Int) : Int := wrap32 (wrap32 a * wrap32 b / 4294967296)
def highU (a b : Int) : Int := wrap32 (word a * word b / 4294967296)
def highN (a b : Int) (s : Bool) : Int := if s then highS a b else highU a b

def zhI (op : Int) : Int :=
 if op = 3 ∨ op = 4 ∨ op = 5 then 8 else if op = 1 ∨ op = 2 then 7 else if op = 9 ∨ op = 10 then 6 else if op = 11 ∨ op = 12 then 5
 else if op = 13 ∨ op = 14 then 4 else if op = 6 then 3 else if op = 8 then 2 else if op = 7 then 1 else 0

/-! ### wraps -/
theorem zdI (a : Int) : -2147483648 ≤ wrap32 a ∧ wrap32 a ≤ 2147483647 := by unfold wrap32; omega
theorem zdF (a : Int) : 0 ≤ word a ∧ word a < 4294967296 := by unfold word; omega
theorem zdG (a : Int) : wrap64 (wrap32 a) = wrap32 a := by unfold wrap64 wrap32; omega
theorem zdH (a : Int) : wrap32 (wrap64 a) = wrap32 a := by unfold wrap64 wrap32; omega
theorem ziW {a : Int} (h : -9223372036854775808 ≤ a ∧ a ≤ 9223372036854775807) : wrap64 a = a := by unfold wrap64; omega
theorem tmod_bd (x y : Int) : -(x.natAbs : Int) ≤ x.tmod y ∧ x.tmod y ≤ x.natAbs := by
 have h := Int.natAbs_tmod x y
 have h2 : x.natAbs % y.natAbs ≤ x.natAbs := Nat.mod_le _ _
 omega
theorem w64_tmod (a : Int) (y : Int) : wrap64 ((wrap32 a).tmod y) = (wrap32 a).tmod y := by
 have h := tmod_bd (wrap32 a) y
 have h2 := zdI a
 exact ziW (by omega)
theorem zjH (x : Int) : wrap32 x % 4294967296 = x % 4294967296 := by unfold wrap32; omega

theorem zhi (x : BitVec 32) : IntKind.i32.wrap (x.toNat : Int) = x.toInt := by
 rw [IntKind.wrap_i32, BitVec.toInt_eq_toNat_bmod]; unfold Int.bmod; simp only [Nat.reducePow]; have := x.isLt; omega
theorem zcj (x : BitVec 64) : IntKind.i64.wrap (x.toNat : Int) = x.toInt := by
 rw [IntKind.wrap_i64, BitVec.toInt_eq_toNat_bmod]; unfold Int.bmod; simp only [Nat.reducePow]; have := x.isLt; omega
theorem and32_bv (x y : Int) : bits .and .i32 x y = (BitVec.ofInt 32 x &&& BitVec.ofInt 32 y).toInt := zhi _
theorem and64_bv (x y : Int) : bits .and .i64 x y = (BitVec.ofInt 64 x &&& BitVec.ofInt 64 y).toInt := zcj _
theorem zmS (op : BinOp) (x y : Int) : -2147483648 ≤ bits op .i32 x y ∧ bits op .i32 x y ≤ 2147483647 := by
 unfold bits; simp only [IntKind.wrap_i32]; omega
theorem zgb (x : Int) : bits .and .i32 x 31 = x % 32 := by
 rw [and32_bv, BitVec.toInt_eq_toNat_bmod, BitVec.toNat_and, BitVec.toNat_ofInt, BitVec.toNat_ofInt]
 rw [show ((31 : Int) % (2 ^ 32 : Nat)).toNat = 31 from rfl, Nat.and_two_pow_sub_one_eq_mod _ 5]
 unfold Int.bmod; simp only [Nat.reducePow]; omega
theorem zmW (x : Int) : bits .and .i64 x 31 = x % 32 := by
 rw [and64_bv, BitVec.toInt_eq_toNat_bmod, BitVec.toNat_and, BitVec.toNat_ofInt, BitVec.toNat_ofInt]
 rw [show ((31 : Int) % (2 ^ 64 : Nat)).toNat = 31 from rfl, Nat.and_two_pow_sub_one_eq_mod _ 5]
 unfold Int.bmod; simp only [Nat.reducePow]; omega
theorem zkS (x : Int) : wrap32 x % 32 = x % 32 := by unfold wrap32; omega
theorem zjG (op : BinOp) (x y : Int) : wrap64 (bits op .i32 x y) = bits op .i32 x y := by
 have := zmS op x y; exact ziW (by omega)
theorem shr_bd (x : Int) (k : Nat) (h : -2147483648 ≤ x ∧ x ≤ 2147483647) : -2147483648 ≤ x / 2 ^ k ∧ x / 2 ^ k ≤ 2147483647 := by
 have hp : (0 : Int) < 2 ^ k := Int.pow_pos (by decide)
 refine ⟨?_, ?_⟩
 · rw [Int.le_ediv_iff_mul_le hp]
   have : (1 : Int) ≤ 2 ^ k := hp
   have h2 : (-2147483648 : Int) * 2 ^ k ≤ -2147483648 * 1 := Int.mul_le_mul_of_nonpos_left (by decide) this
   omega
 · by_cases hx : 0 ≤ x
   · have := Int.ediv_le_self (2 ^ k) hx; omega
   · have : x / 2 ^ k < 0 := Int.ediv_neg_of_neg_of_pos (by omega) hp
     omega
theorem w64_shr (a : Int) (k : Nat) : wrap64 (wrap32 a / 2 ^ k) = wrap32 a / 2 ^ k := by
 have := shr_bd (wrap32 a) k (zdI a); exact ziW (by omega)
theorem mul_bd (x y : Int) (B C : Nat) (hx : x.natAbs ≤ B) (hy : y.natAbs ≤ C) : -((B * C : Nat) : Int) ≤ x * y ∧ x * y ≤ ((B * C : Nat) : Int) := by
 have h := Nat.mul_le_mul hx hy
 rw [← Int.natAbs_mul] at h
 omega
theorem mul32_bd (a b : Int) : -4611686018427387904 ≤ wrap32 a * wrap32 b ∧ wrap32 a * wrap32 b ≤ 4611686018427387904 := by
 have h1 := zdI a; have h2 := zdI b
 exact mul_bd _ _ 2147483648 2147483648 (by omega) (by omega)
theorem zlL (a b : Int) : 0 ≤ word a * word b ∧ word a * word b ≤ 18446744065119617025 := by
 have h1 := zdF a; have h2 := zdF b
 refine ⟨Int.mul_nonneg h1.1 h2.1, (mul_bd _ _ 4294967295 4294967295 (by omega) (by omega)).2⟩
theorem zfm (a : Int) : IntKind.u64.wrap (word a) = word a := by have := zdF a; exact IntWalk.u64_in _ (by omega)
theorem ziX (a b : Int) : IntKind.u64.wrap (word a * word b) = word a * word b := by have := zlL a b; exact IntWalk.u64_in _ (by omega)
theorem mulw_hi (a b : Int) : word a * word b / 4294967296 % 4294967296 = word a * word b / 4294967296 := by have := zlL a b; omega
theorem zkR (a b : Int) : wrap64 (wrap32 a * wrap32 b) = wrap32 a * wrap32 b := by have := mul32_bd a b; exact ziW (by omega)
theorem w64_bd (x : Int) : -9223372036854775808 ≤ wrap64 x ∧ wrap64 x ≤ 9223372036854775807 := by unfold wrap64; omega
end
section
open Go.RowKit
set_option linter.unusedSimpArgs false
theorem rint {k : IntKind} {a b : Int} (h : a = b) : Value.int k a = .int k b := by rw [h]
theorem za1 {a b : Bool} (h : a = b) : Value.bool a = .bool b := by rw [h]
theorem ret1 {a b : Value} (h : a = b) : Ending.returned a = .returned b := by rw [h]
theorem ret2 {a b c d : Value} (h : a = c) (h' : b = d) : Ending.returned (.tuple #[a, b]) = .returned (.tuple #[c, d]) := by rw [h, h']

theorem zaX (a : Int) (w : World) :
 Calls Tryz.prog 124 #[.int .i64 a] w fun e w' => e = .returned (.int .i64 (wrap32 a)) ∧ w = w' := by
 go_enter Tryz.func124, Tryz.ntmps124
 go_wp2
 go_ret
 exact ⟨ret1 (rint (zdG a)), rfl⟩

theorem flag_any (b : Bool) (w : World) :
 Calls Tryz.prog 193 #[.bool b] w fun e w' => e = .returned (.int .i64 (flag b)) ∧ w = w' := by
 cases b <;>
 · go_enter Tryz.func193, Tryz.ntmps193
   go_wp2
   go_ret
   exact ⟨ret1 (rint rfl), rfl⟩

theorem ziL (op x y : Int) (w : World) (hop : op = 4 ∨ op = 5) :
 Calls Tryz.prog 186 #[.int .i64 op, .int .i32 (wrap32 x), .int .i32 (wrap32 y)] w fun e w' => e = .returned (.int .i64 (twoN op x y)) ∧ w = w' := by
 have hx := zdI x
 by_cases hy : wrap32 y = 0
 · rcases hop with rfl | rfl
   all_goals
    have hb : (wrap32 y == 0) = true := by simp [hy]
    clear hx
    have HY := zhd hy
    clear hy
    go_enter Tryz.func186, Tryz.ntmps186
    go_wp2
    go_ret
    exact ⟨ret1 (rint (by simp [twoN, HY.out, zdG])), rfl⟩
 · have hb : (wrap32 y == 0) = false := by simp [hy]
   have hb2 : ¬ wrap32 y = 0 := hy
   rcases hop with rfl | rfl
   all_goals
    go_enter Tryz.func186, Tryz.ntmps186
    go_wp2
    go_ret
    exact ⟨ret1 (rint (by simp [twoN, hy, zdG, w64_tmod])), rfl⟩
theorem zh0 (op x y : Int) (w : World) (hop : op = 11 ∨ op = 12 ∨ op = 13 ∨ op = 14) :
 Calls Tryz.prog 187 #[.int .i64 op, .int .i32 (wrap32 x), .int .i32 (wrap32 y)] w fun e w' => e = .returned (.int .i64 (twoN op x y)) ∧ w = w' := by
 rcases hop with rfl | rfl | rfl | rfl
 all_goals
  go_enter Tryz.func187, Tryz.ntmps187
  go_wp2_with (go_at_call 193; refine (flag_any _ _).mono ?_; rintro e w' ⟨rfl, rfl⟩)
  go_ret
  exact ⟨ret1 (rint (by first | (simp [twoN]; done) | (simp only [twoN, Int.reduceEq, if_false, if_true]; exact congrArg flag (decide_eq_decide.2 (by simp [word, zjH]))))), rfl⟩

theorem zkT (op a b : Int) (w : World) :
 Calls Tryz.prog 158 #[.int .i64 op, .int .i64 a, .int .i64 b] w fun e w' => e = .returned (.tuple #[.int .i64 (twoN op a b), .bool (twoB op)]) ∧ w = w' := by
 have hb1 : 0 ≤ bits .and .i32 (wrap32 b) 31 := by rw [zgb]; omega
 have hb2 : bits .and .i32 (wrap32 b) 31 ≤ 31 := by rw [zgb]; omega
 have hb3 : bits .and .i32 (wrap32 b) 31 ≤ 32 := by omega
 go_enter Tryz.func158, Tryz.ntmps158
 go_wp2_with (first | (go_at_call 186; refine (ziL _ _ _ _ (by simp_all)).mono ?_; rintro e w' ⟨rfl, rfl⟩) | (go_at_call 187; refine (zh0 _ _ _ _ (by simp_all)).mono ?_; rintro e w' ⟨rfl, rfl⟩))
 all_goals
  go_ret2
  refine ⟨ret2 (rint ?_) (za1 (by unfold twoB; symm; first | (rw [decide_eq_true_iff]; simp only [beq_iff_eq, beq_eq_false_iff_ne, ne_eq] at *; omega) | (rw [decide_eq_false_iff_not]; simp only [beq_iff_eq, beq_eq_false_iff_ne, ne_eq] at *; omega))), rfl⟩
  first | rfl | (simp only [beq_iff_eq, beq_eq_false_iff_ne, ne_eq] at *; simp_all [twoN, zdG, zjG, zgb, zkS, w64_shr])
theorem zlM (a b : Int) (w : World) :
 Calls Tryz.prog 142 #[.int .u32 (word a), .int .u32 (word b)] w fun e w' => e = .returned (.tuple #[.int .u32 (word a * word b / 4294967296), .int .u32 (word (word a * word b))]) ∧ w = w' := by
 go_enter Tryz.func142, Tryz.ntmps142
 go_wp2
 go_ret2
 refine ⟨ret2 (rint ?_) (rint ?_), rfl⟩
 · show IntKind.u64.wrap (IntKind.u64.wrap (word a) * IntKind.u64.wrap (word b)) / 4294967296 % 4294967296 = _
   rw [zfm, zfm, ziX, mulw_hi]
 · show IntKind.u64.wrap (IntKind.u64.wrap (word a) * IntKind.u64.wrap (word b)) % 4294967296 = _
   rw [zfm, zfm, ziX]; rfl

theorem zjk (a b : Int) (s : Bool) (w : World) :
 Calls Tryz.prog 156 #[.int .i64 a, .int .i64 b, .bool s] w fun e w' => e = .returned (.int .i64 (highN a b s)) ∧ w = w' := by
 cases s
 all_goals
  go_enter Tryz.func156, Tryz.ntmps156
  go_wp2_with (go_at_call 142; refine (zlM a b _).mono ?_; rintro e w' ⟨rfl, rfl⟩)
  go_ret
  refine ⟨ret1 (rint ?_), rfl⟩
 · show wrap64 (wrap32 (word a * word b / 4294967296)) = _
   rw [zdG]; rfl
 · show wrap64 (wrap32 (wrap64 (wrap64 (wrap32 a) * wrap64 (wrap32 b)) / 4294967296)) = _
   rw [zdG, zdG, zdG, zkR]; rfl

theorem zlT (op : Int) (w : World) :
 Calls Tryz.prog 190 #[.int .i64 op] w fun e w' => e = .returned (.int .i64 (zhI op)) ∧ w = w' := by
 go_enter Tryz.func190, Tryz.ntmps190
 go_wp2
 all_goals
  go_ret
  refine ⟨ret1 (rint ?_), rfl⟩
 all_goals simp only [beq_iff_eq, beq_eq_false_iff_ne, ne_eq] at *
 all_goals simp_all [zhI]
end
end Go.Proofs.YtdobddiibgfeaaaGreat
