/-
  Words that pieces are laid into, and read out of: plain. No program in sight.
-/
import Derived.WalkKit
namespace Go.Proofs.Ytfepdieeiplbnaa
open Go.RowKit
structure Pc where
  n : Int
  fr : Int
  mn : Int
  at' : Int
def pcC (p : Pc) : List Value := [.int .i64 p.n, .int .i64 p.fr, .int .i64 p.mn, .int .i64 p.at']
def okP (p : Pc) : Prop := 0 ≤ p.fr ∧ p.fr < 32 ∧ 0 ≤ p.mn ∧ p.mn < 32 ∧ 0 ≤ p.at' ∧ p.at' < 32
def pieceN (p : Pc) : Nat := ((p.n % 4294967296).toNat / 2 ^ p.fr.toNat % 2 ^ p.mn.toNat) * 2 ^ p.at'.toNat % 4294967296
def layFrom (y : Nat) (l : List Pc) : Nat := l.foldl (fun y p => y ||| pieceN p) y
def layN (l : List Pc) : Nat := layFrom 0 l
theorem piece_lt (p : Pc) : pieceN p < 4294967296 := Nat.mod_lt _ (by decide)
theorem or_lt {x y : Nat} (hx : x < 4294967296) (hy : y < 4294967296) : x ||| y < 4294967296 := Nat.or_lt_two_pow (n := 32) hx hy
theorem layFrom_lt (l : List Pc) : ∀ y, y < 4294967296 → layFrom y l < 4294967296 := by
  induction l with
  | nil => intro y h; exact h
  | cons p l ih => intro y h; exact ih _ (or_lt h (piece_lt p))
theorem layN_lt (l : List Pc) : layN l < 4294967296 := layFrom_lt l 0 (by decide)
theorem layN_snoc (l : List Pc) (k : Nat) (h : k < l.length) : layN (l.take (k + 1)) = layN (l.take k) ||| pieceN l[k] := by
  unfold layN layFrom; rw [List.take_succ_eq_append_getElem h, List.foldl_append]; rfl
theorem or_u32 (x y : Nat) (hx : x < 4294967296) (hy : y < 4294967296) : bits .or .u32 (x : Int) (y : Int) = ((x ||| y : Nat) : Int) := by
  have h := or_lt hx hy
  have e : bits .or .u32 (x : Int) (y : Int) = IntKind.u32.wrap (((BitVec.ofInt 32 (x : Int)) ||| (BitVec.ofInt 32 (y : Int))).toNat : Int) := rfl
  rw [e, BitVec.ofInt_natCast, BitVec.ofInt_natCast, BitVec.toNat_or, BitVec.toNat_ofNat, BitVec.toNat_ofNat, Nat.mod_eq_of_lt hx, Nat.mod_eq_of_lt hy, IntKind.wrap_u32]
  omega
theorem and_u32 (x y : Nat) (hx : x < 4294967296) (hy : y < 4294967296) : bits .and .u32 (x : Int) (y : Int) = ((x &&& y : Nat) : Int) := by
  have h : x &&& y < 4294967296 := Nat.lt_of_le_of_lt Nat.and_le_left hx
  have e : bits .and .u32 (x : Int) (y : Int) = IntKind.u32.wrap (((BitVec.ofInt 32 (x : Int)) &&& (BitVec.ofInt 32 (y : Int))).toNat : Int) := rfl
  rw [e, BitVec.ofInt_natCast, BitVec.ofInt_natCast, BitVec.toNat_and, BitVec.toNat_ofNat, BitVec.toNat_ofNat, Nat.mod_eq_of_lt hx, Nat.mod_eq_of_lt hy, IntKind.wrap_u32]
  omega
theorem and_i64 (x y : Nat) (hx : x < 9223372036854775808) (hy : y < 9223372036854775808) : bits .and .i64 (x : Int) (y : Int) = ((x &&& y : Nat) : Int) := by
  have h : x &&& y < 9223372036854775808 := Nat.lt_of_le_of_lt Nat.and_le_left hx
  have e : bits .and .i64 (x : Int) (y : Int) = IntKind.i64.wrap (((BitVec.ofInt 64 (x : Int)) &&& (BitVec.ofInt 64 (y : Int))).toNat : Int) := rfl
  rw [e, BitVec.ofInt_natCast, BitVec.ofInt_natCast, BitVec.toNat_and, BitVec.toNat_ofNat, BitVec.toNat_ofNat, Nat.mod_eq_of_lt (by omega), Nat.mod_eq_of_lt (by omega)]
  exact IntWalk.i64_in _ (by omega)
theorem or_i64 (x y : Nat) (hx : x < 4294967296) (hy : y < 4294967296) : bits .or .i64 (x : Int) (y : Int) = ((x ||| y : Nat) : Int) := by
  have h := or_lt hx hy
  have e : bits .or .i64 (x : Int) (y : Int) = IntKind.i64.wrap (((BitVec.ofInt 64 (x : Int)) ||| (BitVec.ofInt 64 (y : Int))).toNat : Int) := rfl
  rw [e, BitVec.ofInt_natCast, BitVec.ofInt_natCast, BitVec.toNat_or, BitVec.toNat_ofNat, BitVec.toNat_ofNat, Nat.mod_eq_of_lt (by omega), Nat.mod_eq_of_lt (by omega)]
  exact IntWalk.i64_in _ (by omega)
theorem pow_le31 (m : Nat) (h : m < 32) : (2 : Nat) ^ m ≤ 2147483648 := Nat.pow_le_pow_right (by decide) (by omega : m ≤ 31)
theorem pow_int (m : Nat) : (2 : Int) ^ m = ((2 ^ m : Nat) : Int) := by rw [Int.natCast_pow]; rfl
/-- Some of a word's bits. -/
def fieldN (word : Nat) (fr mn : Nat) : Nat := word / 2 ^ fr % 2 ^ mn
theorem field_eq (word : Nat) (fr mn : Nat) (hm : mn < 32) (hw : word < 4294967296) :
    bits .and .i64 ((word : Int) / 2 ^ fr) (wrap64 (wrap64 (2 ^ mn) - 1)) = ((fieldN word fr mn : Nat) : Int) := by
  have h1 := pow_le31 mn hm
  have h2 : 0 < 2 ^ mn := Nat.two_pow_pos mn
  rw [pow_int, pow_int, ← Int.natCast_ediv]
  have e1 : wrap64 ((2 ^ mn : Nat) : Int) = ((2 ^ mn : Nat) : Int) := by unfold wrap64; omega
  have e2 : wrap64 (((2 ^ mn : Nat) : Int) - 1) = ((2 ^ mn - 1 : Nat) : Int) := by unfold wrap64; omega
  rw [e1, e2, and_i64 _ _ (Nat.lt_of_le_of_lt (Nat.div_le_self _ _) (by omega)) (by omega), Nat.and_two_pow_sub_one_eq_mod]
  rfl
theorem field_lt (word fr mn : Nat) : fieldN word fr mn < 2 ^ mn := Nat.mod_lt _ (Nat.two_pow_pos mn)
theorem piece_eq (p : Pc) (h : okP p) (y : Nat) (hy : y < 4294967296) :
    bits .or .u32 (y : Int) (bits .and .u32 (p.n % 4294967296 / 2 ^ p.fr.toNat) ((2 ^ p.mn.toNat - 1) % 4294967296) * 2 ^ p.at'.toNat % 4294967296) = ((y ||| pieceN p : Nat) : Int) := by
  obtain ⟨a, b, c, d, e, f⟩ := h
  have h1 := pow_le31 p.mn.toNat (by omega)
  have h2 : 0 < 2 ^ p.mn.toNat := Nat.two_pow_pos _
  have h3 : (p.n % 4294967296).toNat < 4294967296 := by omega
  have e0 : p.n % 4294967296 = (((p.n % 4294967296).toNat : Nat) : Int) := by omega
  rw [e0, pow_int, pow_int, pow_int, ← Int.natCast_ediv]
  have e2 : (((2 ^ p.mn.toNat : Nat) : Int) - 1) % 4294967296 = ((2 ^ p.mn.toNat - 1 : Nat) : Int) := by omega
  rw [e2, and_u32 _ _ (Nat.lt_of_le_of_lt (Nat.div_le_self _ _) h3) (by omega), Nat.and_two_pow_sub_one_eq_mod, ← Int.natCast_mul]
  have e4 : ∀ z : Nat, ((z : Int) % 4294967296) = ((z % 4294967296 : Nat) : Int) := fun z => by omega
  rw [e4, or_u32 y _ hy (Nat.mod_lt _ (by decide))]
  rfl
theorem flat_get {l : List Pc} {i : Nat} (h : i < l.length) (j : Nat) (hj : j < 4) : (l.flatMap pcC)[i * 4 + j]? = (pcC l[i])[j]? := by
  induction l generalizing i with
  | nil => simp at h
  | cons p l ih =>
    cases i with
    | zero => simp only [List.flatMap_cons, List.getElem_cons_zero]; rw [List.getElem?_append_left (by simp [pcC]; omega)]; simp
    | succ i =>
      rw [List.flatMap_cons, List.getElem?_append_right (by simp [pcC]; omega)]
      rw [show (i + 1) * 4 + j - (pcC p).length = i * 4 + j by simp [pcC]; omega]
      exact ih (by simpa using h)
end Go.Proofs.Ytfepdieeiplbnaa
