/-
  Harts that may be: what Fit makes. No program in sight.
-/
import Derived.Test.YtiahdhlfecgnpaaHartEq
import Derived.Test.YtiahdhlfecgnpaaHartLaw
import Derived.Test.YtiahdhlfecgnpaaHartAwake
namespace Go.Proofs.Ytiahdhlfecgnpaa
open Go.RowKit
abbrev I32 (x : Int) : Prop := -2147483648 ≤ x ∧ x ≤ 2147483647
structure Fine (h : Ht) : Prop where
  len : h.r.length = 32
  reg : ∀ k, k < 32 → I32 (h.r.getD k 0)
  zero : h.r.getD 0 0 = 0
  pc : I32 h.pc ∧ h.pc % 4 = 0
  st : h.st = 0 ∨ h.st = 8 ∨ h.st = 128 ∨ h.st = 136
  ve : I32 h.ve ∧ h.ve % 4 = 0
  sc : I32 h.sc
  ep : I32 h.ep ∧ h.ep % 4 = 0
  ca : I32 h.ca
  le : 0 ≤ h.le ∧ h.le < 8
theorem wrap32_i32 (a : Int) : I32 (wrap32 a) := by unfold wrap32; constructor <;> omega
theorem wrap32_id {a : Int} (h : I32 a) : wrap32 a = a := by obtain ⟨h1, h2⟩ := h; unfold wrap32; omega
theorem fitI_i32 (l : List Int) (i : Nat) : I32 (fitI l i) := fitI_bd l i
theorem quad_i32 {a : Int} (h : I32 a) : I32 (a.tdiv 4 * 4) ∧ (a.tdiv 4 * 4) % 4 = 0 := ⟨quad_bd h, by omega⟩
theorem fit_fine (l : List Int) : Fine (fitH l) where
  len := fitRs_len l 32
  reg := fun k hk => by
    show I32 ((fitRs l 32).getD k 0)
    have : (fitRs l 32).getD k 0 = if 1 ≤ k ∧ k < 32 then fitI l (6 + k) else 0 := by simp [fitRs, List.getD_eq_getElem?_getD, hk]
    rw [this]; split
    · exact fitI_i32 _ _
    · exact ⟨by omega, by omega⟩
  zero := by
    show (fitRs l 32).getD 0 0 = 0
    simp [fitRs, List.getD_eq_getElem?_getD]
  pc := quad_i32 (fitI_i32 l 0)
  st := by
    show stT _ = 0 ∨ stT _ = 8 ∨ stT _ = 128 ∨ stT _ = 136
    unfold stT; repeat' split
    all_goals simp
  ve := quad_i32 (fitI_i32 l 2)
  sc := fitI_i32 l 3
  ep := quad_i32 (fitI_i32 l 4)
  ca := fitI_i32 l 5
  le := pickN_bd _ 8 (by omega)
theorem right_mk {op d a b n : Int} (s : Sh) (hs : shapeT (rowT op).form = s) (ho : 1 ≤ op ∧ op ≤ 49) (hd : 0 ≤ d ∧ d < 32 ∧ (s.d = true ∨ d = 0)) (ha : 0 ≤ a ∧ a < 32 ∧ (s.a = true ∨ a = 0)) (hb : 0 ≤ b ∧ b < 32 ∧ (s.b = true ∨ b = 0))
    (hn : s.least ≤ n ∧ n ≤ s.most) (hm : modB n s.step = true) : rightB ⟨op, d, a, b, n⟩ = true := by
  have m : ∀ (x : Int) (i : Bool), 0 ≤ x ∧ x < 32 ∧ (i = true ∨ x = 0) → mayB x i = true := by
    intro x i ⟨h1, h2, h3⟩
    unfold mayB
    rw [decide_eq_true h1, decide_eq_true h2]
    rcases h3 with h3 | h3
    · rw [h3]; rfl
    · subst h3; cases i <;> rfl
  unfold rightB shX
  simp only
  rw [hs, isOp_yes ho, m _ _ hd, m _ _ ha, m _ _ hb, decide_eq_true hn.1, decide_eq_true hn.2, hm]
  rfl
theorem shI (op : Int) (h : op = 11 ∨ op = 13 ∨ op = 16 ∨ op = 4) : shapeT (rowT op).form = ⟨true, true, false, -2048, 2047, 0⟩ := by rcases h with rfl | rfl | rfl | rfl <;> kernel_rfl
theorem shS : shapeT (rowT 12).form = ⟨false, true, true, -2048, 2047, 0⟩ := by kernel_rfl
theorem shA (op : Int) (h : op = 47 ∨ op = 48 ∨ op = 49) : shapeT (rowT op).form = ⟨true, true, true, 0, 3, 0⟩ := by rcases h with rfl | rfl | rfl <;> kernel_rfl
theorem shR (op : Int) (h : 22 ≤ op ∧ op ≤ 38) : shapeT (rowT op).form = ⟨true, true, true, 0, 0, 0⟩ := by
  rcases (by omega : op = 22 ∨ op = 23 ∨ op = 24 ∨ op = 25 ∨ op = 26 ∨ op = 27 ∨ op = 28 ∨ op = 29 ∨ op = 30 ∨ op = 31 ∨ op = 32 ∨ op = 33 ∨ op = 34 ∨ op = 35 ∨ op = 36 ∨ op = 37 ∨ op = 38) with rfl | rfl | rfl | rfl | rfl | rfl | rfl | rfl | rfl | rfl | rfl | rfl | rfl | rfl | rfl | rfl | rfl <;> kernel_rfl
theorem shB (op : Int) (h : 5 ≤ op ∧ op ≤ 10) : shapeT (rowT op).form = ⟨false, true, true, -4096, 4094, 2⟩ := by
  rcases (by omega : op = 5 ∨ op = 6 ∨ op = 7 ∨ op = 8 ∨ op = 9 ∨ op = 10) with rfl | rfl | rfl | rfl | rfl | rfl <;> kernel_rfl
theorem shU (op : Int) (h : op = 1 ∨ op = 2) : shapeT (rowT op).form = ⟨true, false, false, 0, 1048575, 0⟩ := by rcases h with rfl | rfl <;> kernel_rfl
theorem shJ : shapeT (rowT 3).form = ⟨true, false, false, -1048576, 1048574, 2⟩ := by kernel_rfl
theorem shC (op : Int) (h : op = 40 ∨ op = 41 ∨ op = 42) : shapeT (rowT op).form = ⟨true, true, false, 0, 4095, 0⟩ := by rcases h with rfl | rfl | rfl <;> kernel_rfl
theorem shZ : shapeT (rowT 44).form = ⟨false, false, false, 0, 0, 0⟩ := by kernel_rfl
theorem wrap_q (a : Int) (w : World) : Calls Try.prog 24 #[.int .i64 a] w fun e w' => e = .returned (.int .i64 (wrap32 a)) ∧ w' = w := (wrap_any a w).mono fun _ _ h => ⟨h.1, h.2.symm⟩
theorem put_get (h : Ht) (h32 : h.r.length = 32) (k : Nat) (hk : 1 ≤ k ∧ k < 32) (v : Int) : (putH h k v).r.getD k 0 = wrap32 v := by
  unfold putH
  rw [if_pos (by omega)]
  simp [List.getD_eq_getElem?_getD, h32, hk.2]
theorem put_get_ne (h : Ht) (k : Int) (v : Int) (j : Nat) (hj : (j : Int) ≠ k) : (putH h k v).r.getD j 0 = h.r.getD j 0 := by
  unfold putH
  split
  · simp only [List.getD_eq_getElem?_getD]
    rw [List.getElem?_set_ne (by omega)]
  · rfl
theorem put_zero (h : Ht) (v : Int) : putH h 0 v = h := by unfold putH; rw [if_neg (by omega)]
theorem put_rest (h : Ht) (k v : Int) : (putH h k v).pc = h.pc ∧ (putH h k v).st = h.st ∧ (putH h k v).ve = h.ve ∧ (putH h k v).sc = h.sc ∧ (putH h k v).ep = h.ep ∧ (putH h k v).ca = h.ca ∧ (putH h k v).le = h.le := by
  unfold putH; split <;> exact ⟨rfl, rfl, rfl, rfl, rfl, rfl, rfl⟩
theorem ext64' {x : Int} (h : I32 x) : BitVec.ofInt 64 x = (BitVec.ofInt 32 x).signExtend 64 := by
  apply BitVec.eq_of_toInt_eq
  rw [BitVec.toInt_signExtend_of_le (by decide), BitVec.toInt_ofInt, BitVec.toInt_ofInt]
  simp only [Int.bmod]; simp only [Nat.reducePow]; omega
theorem toInt32_bd' (x : BitVec 32) : I32 x.toInt := by
  have := x.toInt_lt; have := x.le_toInt
  simp only [Nat.add_one_sub_one] at *
  constructor <;> omega
theorem toInt64_of {x : Int} (h : I32 x) : (BitVec.ofInt 64 x).toInt = x := by
  rw [BitVec.toInt_ofInt]; simp only [Int.bmod]; simp only [Nat.reducePow]; omega
theorem and_i32' {x y : Int} (hx : I32 x) (hy : I32 y) : I32 (bits .and .i64 x y) := by
  rw [and64_bv, ext64' hx, ext64' hy, ← BitVec.signExtend_and, BitVec.toInt_signExtend_of_le (by decide)]; exact toInt32_bd' _
theorem or_i32' {x y : Int} (hx : I32 x) (hy : I32 y) : I32 (bits .or .i64 x y) := by
  rw [or64_bv, ext64' hx, ext64' hy, ← BitVec.signExtend_or, BitVec.toInt_signExtend_of_le (by decide)]; exact toInt32_bd' _
theorem andNot64_bv (x y : Int) : bits .andNot .i64 x y = (BitVec.ofInt 64 x &&& ~~~ (BitVec.ofInt 64 y)).toInt := wrap_i64_nat _
theorem andNot_i32 {x y : Int} (hx : I32 x) (hy : I32 y) : I32 (bits .andNot .i64 x y) := by
  rw [andNot64_bv, ext64' hx, ext64' hy, ← BitVec.signExtend_not (by decide), ← BitVec.signExtend_and, BitVec.toInt_signExtend_of_le (by decide)]; exact toInt32_bd' _
theorem mask_shift (x : BitVec 64) (k : Nat) : x &&& (BitVec.allOnes 64 <<< k) = (x >>> k) <<< k := by
  ext i hi
  simp only [BitVec.getElem_and, BitVec.getElem_shiftLeft, BitVec.getElem_ushiftRight, BitVec.getElem_allOnes]
  by_cases h1 : i < k
  · simp [h1]
  · simp [h1, show k + (i - k) = i by omega, BitVec.getLsbD_eq_getElem hi]
theorem and_neg2 {a : Int} (h : I32 a) : bits .and .i64 a (-2) = a - a % 2 := by
  rw [and64_bv]
  have e : BitVec.ofInt 64 a &&& BitVec.ofInt 64 (-2) = ((BitVec.ofInt 64 a) >>> 1) <<< 1 := by
    rw [show BitVec.ofInt 64 (-2) = BitVec.allOnes 64 <<< 1 by decide, mask_shift]
  rw [e, BitVec.toInt_eq_toNat_bmod, BitVec.toNat_shiftLeft, BitVec.toNat_ushiftRight, BitVec.toNat_ofInt, Nat.shiftLeft_eq, Nat.shiftRight_eq_div_pow]
  obtain ⟨h1, h2⟩ := h
  simp only [Int.bmod]; simp only [Nat.reducePow]; omega
theorem and_neg4 {a : Int} (h : I32 a) : bits .and .i64 a (-4) = a - a % 4 := by
  rw [and64_bv]
  have e : BitVec.ofInt 64 a &&& BitVec.ofInt 64 (-4) = ((BitVec.ofInt 64 a) >>> 2) <<< 2 := by
    rw [show BitVec.ofInt 64 (-4) = BitVec.allOnes 64 <<< 2 by decide, mask_shift]
  rw [e, BitVec.toInt_eq_toNat_bmod, BitVec.toNat_shiftLeft, BitVec.toNat_ushiftRight, BitVec.toNat_ofInt, Nat.shiftLeft_eq, Nat.shiftRight_eq_div_pow]
  obtain ⟨h1, h2⟩ := h
  simp only [Int.bmod]; simp only [Nat.reducePow]; omega
theorem and_neg1 {a : Int} (h : I32 a) : bits .and .i64 a (-1) = a := by
  rw [and64_bv, show BitVec.ofInt 64 (-1) = BitVec.allOnes 64 by decide, BitVec.and_allOnes, toInt64_of h]
end Go.Proofs.Ytiahdhlfecgnpaa
