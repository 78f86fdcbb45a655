/-
  Another register in a word: plain. No program in sight.
-/
import Derived.Test.YtefebnicclbhjaaCodePlain
import Derived.Test.YtefebnicclbhjaaFit02
namespace Go.Proofs.Ytefebnicclbhjaa
open Go.RowKit
theorem layFrom_or (l : List Pc) : ∀ y, layFrom y l = y ||| layN l := by
  induction l with
  | nil => intro y; simp [layFrom, layN]
  | cons p l ih =>
    intro y
    have h1 : layFrom y (p :: l) = layFrom (y ||| pieceN p) l := rfl
    have h2 : layN (p :: l) = layFrom (0 ||| pieceN p) l := rfl
    rw [h1, h2, ih, ih, Nat.zero_or, Nat.or_assoc]
theorem layN_cons (p : Pc) (l : List Pc) : layN (p :: l) = pieceN p ||| layN l := by
  have h : layN (p :: l) = layFrom (0 ||| pieceN p) l := rfl
  rw [h, layFrom_or, Nat.zero_or]
theorem xor_or (R p q k : Nat) (hp : ∃ u, u < 32 ∧ p = u * 2 ^ k) (hq : ∃ u, u < 32 ∧ q = u * 2 ^ k) :
    ((R ||| p) ^^^ (R ||| q)) / 2 ^ k * 2 ^ k = (R ||| p) ^^^ (R ||| q) ∧ ((R ||| p) ^^^ (R ||| q)) / 2 ^ k < 32 := by
  obtain ⟨u, hu, rfl⟩ := hp
  obtain ⟨v, hv, rfl⟩ := hq
  have hlow : ∀ i, ¬ (k ≤ i ∧ i < k + 5) → ((R ||| u * 2 ^ k) ^^^ (R ||| v * 2 ^ k)).testBit i = false := by
    intro i hi
    rw [Nat.testBit_xor, Nat.testBit_or, Nat.testBit_or, Nat.testBit_mul_two_pow, Nat.testBit_mul_two_pow]
    by_cases h : k ≤ i
    · have h5 : 2 ^ 5 ≤ 2 ^ (i - k) := Nat.pow_le_pow_right (by decide) (by omega)
      rw [Nat.testBit_lt_two_pow (x := u) (i := i - k) (by omega), Nat.testBit_lt_two_pow (x := v) (i := i - k) (by omega)]
      simp
    · simp [h]
  generalize (R ||| u * 2 ^ k) ^^^ (R ||| v * 2 ^ k) = D at *
  have hm : D % 2 ^ k = 0 := by
    apply Nat.eq_of_testBit_eq
    intro i
    rw [Nat.testBit_mod_two_pow, Nat.zero_testBit]
    by_cases h : i < k
    · rw [hlow i (by omega)]; simp
    · simp [h]
  have hl : D / 2 ^ k < 2 ^ 5 := by
    apply Nat.lt_pow_two_of_testBit
    intro i hi
    rw [Nat.testBit_div_two_pow]
    exact hlow _ (by omega)
  refine ⟨?_, hl⟩
  have := Nat.div_add_mod D (2 ^ k)
  rw [hm, Nat.add_zero, Nat.mul_comm] at this
  exact this
theorem piece5 (n : Int) (k : Nat) (hk : k ≤ 27) : ∃ u, u < 32 ∧ pieceN ⟨n, 0, 5, k⟩ = u * 2 ^ k := by
  refine ⟨(n % 4294967296).toNat % 32, by omega, ?_⟩
  have h : (2 : Nat) ^ k ≤ 2 ^ 27 := Nat.pow_le_pow_right (by decide) hk
  have h2 : (n % 4294967296).toNat % 32 * 2 ^ k ≤ 31 * 2 ^ 27 := Nat.mul_le_mul (by omega) h
  have e : pieceN ⟨n, 0, 5, k⟩ = (n % 4294967296).toNat / 2 ^ 0 % 2 ^ 5 * 2 ^ k % 4294967296 := rfl
  rw [e, Nat.pow_zero, Nat.div_one, show (2 : Nat) ^ 5 = 32 from rfl]
  generalize (n % 4294967296).toNat % 32 * 2 ^ k = z at *
  omega
theorem enc_d (x : Ins) (m : Int) : ∃ R, encN x = R ||| pieceN ⟨x.d, 0, 5, 7⟩ ∧ encN ⟨x.op, m, x.a, x.b, x.n⟩ = R ||| pieceN ⟨m, 0, 5, 7⟩ := by
  refine ⟨pieceN ⟨(rowT x.op).low, 0, 7, 0⟩ ||| pieceN ⟨(rowT x.op).mid, 0, 3, 12⟩ ||| pieceN ⟨(rowT x.op).high, 0, 7, 25⟩ ||| pieceN ⟨x.a, 0, 5, 15⟩ ||| pieceN ⟨x.b + fixedN x.op, 0, 5, 20⟩ ||| layN (numP (rowT x.op).form x.n), ?_, ?_⟩
  all_goals
    simp only [encN, headP, List.cons_append, List.nil_append, layN_cons]
    generalize layN _ = z
    ac_rfl
theorem enc_a (x : Ins) (m : Int) : ∃ R, encN x = R ||| pieceN ⟨x.a, 0, 5, 15⟩ ∧ encN ⟨x.op, x.d, m, x.b, x.n⟩ = R ||| pieceN ⟨m, 0, 5, 15⟩ := by
  refine ⟨pieceN ⟨(rowT x.op).low, 0, 7, 0⟩ ||| pieceN ⟨(rowT x.op).mid, 0, 3, 12⟩ ||| pieceN ⟨(rowT x.op).high, 0, 7, 25⟩ ||| pieceN ⟨x.d, 0, 5, 7⟩ ||| pieceN ⟨x.b + fixedN x.op, 0, 5, 20⟩ ||| layN (numP (rowT x.op).form x.n), ?_, ?_⟩
  all_goals
    simp only [encN, headP, List.cons_append, List.nil_append, layN_cons]
    generalize layN _ = z
    ac_rfl
theorem enc_b (x : Ins) (m : Int) : ∃ R, encN x = R ||| pieceN ⟨x.b + fixedN x.op, 0, 5, 20⟩ ∧ encN ⟨x.op, x.d, x.a, m, x.n⟩ = R ||| pieceN ⟨m + fixedN x.op, 0, 5, 20⟩ := by
  refine ⟨pieceN ⟨(rowT x.op).low, 0, 7, 0⟩ ||| pieceN ⟨(rowT x.op).mid, 0, 3, 12⟩ ||| pieceN ⟨(rowT x.op).high, 0, 7, 25⟩ ||| pieceN ⟨x.d, 0, 5, 7⟩ ||| pieceN ⟨x.a, 0, 5, 15⟩ ||| layN (numP (rowT x.op).form x.n), ?_, ?_⟩
  all_goals
    simp only [encN, headP, List.cons_append, List.nil_append, layN_cons]
    generalize layN _ = z
    ac_rfl
theorem xor_i64' (x y : Nat) (hx : x < 4294967296) (hy : y < 4294967296) : bits .xor .i64 (x : Int) (y : Int) = ((x ^^^ y : Nat) : Int) := by
  have h : x ^^^ y < 4294967296 := Nat.xor_lt_two_pow (n := 32) hx hy
  have e : bits .xor .i64 (x : Int) (y : Int) = IntKind.i64.wrap (((BitVec.ofInt 64 (x : Int)) ^^^ (BitVec.ofInt 64 (y : Int))).toNat : Int) := rfl
  rw [e, BitVec.ofInt_natCast, BitVec.ofInt_natCast, BitVec.toNat_xor, BitVec.toNat_ofNat, BitVec.toNat_ofNat, Nat.mod_eq_of_lt (by omega), Nat.mod_eq_of_lt (by omega)]
  exact IntWalk.i64_in _ (by omega)
theorem dec_fields (x : Ins) (h : rightB x = true) : (if (shX x).d then ((fieldN (encN x) 7 5 : Nat) : Int) else 0) = x.d ∧ (if (shX x).a then ((fieldN (encN x) 15 5 : Nat) : Int) else 0) = x.a ∧ (if (shX x).b then ((fieldN (encN x) 20 5 : Nat) : Int) else 0) = x.b := by
  have e := dec_enc x h
  exact ⟨congrArg Ins.d e, congrArg Ins.a e, congrArg Ins.b e⟩
theorem xor_d {x : Ins} {m : Int} (h : rightB x = true) (_ : 0 ≤ m ∧ m < 32) (hq : rightB ⟨x.op, m, x.a, x.b, x.n⟩ = true) (hne : x ≠ ⟨x.op, m, x.a, x.b, x.n⟩) :
    ∃ D : Nat, bits .xor .i64 ((encN x : Nat) : Int) ((encN ⟨x.op, m, x.a, x.b, x.n⟩ : Nat) : Int) = (D : Int) ∧ D / 2 ^ 7 * 2 ^ 7 = D ∧ D / 2 ^ 7 < 32 ∧ ((encN ⟨x.op, m, x.a, x.b, x.n⟩ : Nat) : Int) / 128 % 32 = m := by
  refine ⟨_, xor_i64' _ _ (layN_lt _) (layN_lt _), ?_⟩
  have hd := (right_parts h).2.1.2.2
  have hd' := (right_parts hq).2.1.2.2
  have f := (dec_fields _ hq).1
  obtain ⟨R, e1, e2⟩ := enc_d x m
  have hx := xor_or R _ _ 7 (piece5 x.d 7 (by omega)) (piece5 m 7 (by omega))
  refine ⟨by rw [e1, e2]; exact hx.1, by rw [e1, e2]; exact hx.2, ?_⟩
  by_cases hs : (shX x).d = true
  · rw [show (shX ⟨x.op, m, x.a, x.b, x.n⟩).d = (shX x).d from rfl, hs, if_pos rfl] at f
    simp only [fieldN] at f
    omega
  · exfalso
    have h0 := hd (by simpa using hs)
    have h1 := hd' (by simpa [shX] using hs)
    simp only at h1
    exact hne (by rw [h1, ← h0])
theorem xor_a {x : Ins} {m : Int} (h : rightB x = true) (_ : 0 ≤ m ∧ m < 32) (hq : rightB ⟨x.op, x.d, m, x.b, x.n⟩ = true) (hne : x ≠ ⟨x.op, x.d, m, x.b, x.n⟩) :
    ∃ D : Nat, bits .xor .i64 ((encN x : Nat) : Int) ((encN ⟨x.op, x.d, m, x.b, x.n⟩ : Nat) : Int) = (D : Int) ∧ D / 2 ^ 15 * 2 ^ 15 = D ∧ D / 2 ^ 15 < 32 ∧ ((encN ⟨x.op, x.d, m, x.b, x.n⟩ : Nat) : Int) / 32768 % 32 = m := by
  refine ⟨_, xor_i64' _ _ (layN_lt _) (layN_lt _), ?_⟩
  have hd := (right_parts h).2.2.1.2.2
  have hd' := (right_parts hq).2.2.1.2.2
  have f := (dec_fields _ hq).2.1
  obtain ⟨R, e1, e2⟩ := enc_a x m
  have hx := xor_or R _ _ 15 (piece5 x.a 15 (by omega)) (piece5 m 15 (by omega))
  refine ⟨by rw [e1, e2]; exact hx.1, by rw [e1, e2]; exact hx.2, ?_⟩
  by_cases hs : (shX x).a = true
  · rw [show (shX ⟨x.op, x.d, m, x.b, x.n⟩).a = (shX x).a from rfl, hs, if_pos rfl] at f
    simp only [fieldN] at f
    omega
  · exfalso
    have h0 := hd (by simpa using hs)
    have h1 := hd' (by simpa [shX] using hs)
    simp only at h1
    exact hne (by rw [h1, ← h0])
theorem xor_b {x : Ins} {m : Int} (h : rightB x = true) (_ : 0 ≤ m ∧ m < 32) (hq : rightB ⟨x.op, x.d, x.a, m, x.n⟩ = true) (hne : x ≠ ⟨x.op, x.d, x.a, m, x.n⟩) :
    ∃ D : Nat, bits .xor .i64 ((encN x : Nat) : Int) ((encN ⟨x.op, x.d, x.a, m, x.n⟩ : Nat) : Int) = (D : Int) ∧ D / 2 ^ 20 * 2 ^ 20 = D ∧ D / 2 ^ 20 < 32 ∧ ((encN ⟨x.op, x.d, x.a, m, x.n⟩ : Nat) : Int) / 1048576 % 32 = m := by
  refine ⟨_, xor_i64' _ _ (layN_lt _) (layN_lt _), ?_⟩
  have hd := (right_parts h).2.2.2.1.2.2
  have hd' := (right_parts hq).2.2.2.1.2.2
  have f := (dec_fields _ hq).2.2
  obtain ⟨R, e1, e2⟩ := enc_b x m
  have hx := xor_or R _ _ 20 (piece5 (x.b + fixedN x.op) 20 (by omega)) (piece5 (m + fixedN x.op) 20 (by omega))
  refine ⟨by rw [e1, e2]; exact hx.1, by rw [e1, e2]; exact hx.2, ?_⟩
  by_cases hs : (shX x).b = true
  · rw [show (shX ⟨x.op, x.d, x.a, m, x.n⟩).b = (shX x).b from rfl, hs, if_pos rfl] at f
    simp only [fieldN] at f
    omega
  · exfalso
    have h0 := hd (by simpa using hs)
    have h1 := hd' (by simpa [shX] using hs)
    simp only at h1
    exact hne (by rw [h1, ← h0])
theorem may_zero (m : Int) (h : 0 ≤ m ∧ m < 32) : mayB m true = true := by simp [mayB]; omega
theorem may_no (m : Int) (_ : 0 ≤ m ∧ m < 32) (hq : mayB m false = false) : (m != 0) = true := by
  simp [mayB] at hq ⊢; omega
theorem lacks_d {x : Ins} {m : Int} (h : rightB x = true) (hm : 0 ≤ m ∧ m < 32) (hq : rightB ⟨x.op, m, x.a, x.b, x.n⟩ = false) :
    (m != 0) = true ∧ ((rowT x.op).form = 83 ∨ (rowT x.op).form = 66 ∨ (rowT x.op).form = 70 ∨ (rowT x.op).form = 90) := by
  have hf := form_mem _ (right_parts h).1
  have hq : (isOp x.op && (mayB m (shapeT (rowT x.op).form).d && (mayB x.a (shapeT (rowT x.op).form).a && (mayB x.b (shapeT (rowT x.op).form).b && (decide ((shapeT (rowT x.op).form).least ≤ x.n) && (decide (x.n ≤ (shapeT (rowT x.op).form).most) && modB x.n (shapeT (rowT x.op).form).step)))))) = false := hq
  have h : (isOp x.op && (mayB x.d (shapeT (rowT x.op).form).d && (mayB x.a (shapeT (rowT x.op).form).a && (mayB x.b (shapeT (rowT x.op).form).b && (decide ((shapeT (rowT x.op).form).least ≤ x.n) && (decide (x.n ≤ (shapeT (rowT x.op).form).most) && modB x.n (shapeT (rowT x.op).form).step)))))) = true := h
  simp only [Bool.and_eq_true] at h
  obtain ⟨h1, h2, h3, h4, h5, h6, h7⟩ := h
  rw [h1, h3, h4, h5, h6, h7] at hq
  simp only [Bool.true_and, Bool.and_true] at hq
  generalize (rowT x.op).form = f at *
  rcases hf with rfl | rfl | rfl | rfl | rfl | rfl | rfl | rfl | rfl | rfl | rfl | rfl
  all_goals first
    | (exact absurd hq (by rw [show mayB m (shapeT _).d = mayB m true from rfl, may_zero m hm]; simp))
    | exact ⟨may_no m hm hq, by simp⟩
theorem lacks_a {x : Ins} {m : Int} (h : rightB x = true) (hm : 0 ≤ m ∧ m < 32) (hq : rightB ⟨x.op, x.d, m, x.b, x.n⟩ = false) :
    (m != 0) = true ∧ ((rowT x.op).form = 85 ∨ (rowT x.op).form = 74 ∨ (rowT x.op).form = 70 ∨ (rowT x.op).form = 90) := by
  have hf := form_mem _ (right_parts h).1
  have hq : (isOp x.op && (mayB x.d (shapeT (rowT x.op).form).d && (mayB m (shapeT (rowT x.op).form).a && (mayB x.b (shapeT (rowT x.op).form).b && (decide ((shapeT (rowT x.op).form).least ≤ x.n) && (decide (x.n ≤ (shapeT (rowT x.op).form).most) && modB x.n (shapeT (rowT x.op).form).step)))))) = false := hq
  have h : (isOp x.op && (mayB x.d (shapeT (rowT x.op).form).d && (mayB x.a (shapeT (rowT x.op).form).a && (mayB x.b (shapeT (rowT x.op).form).b && (decide ((shapeT (rowT x.op).form).least ≤ x.n) && (decide (x.n ≤ (shapeT (rowT x.op).form).most) && modB x.n (shapeT (rowT x.op).form).step)))))) = true := h
  simp only [Bool.and_eq_true] at h
  obtain ⟨h1, h2, h3, h4, h5, h6, h7⟩ := h
  rw [h1, h2, h4, h5, h6, h7] at hq
  simp only [Bool.true_and, Bool.and_true] at hq
  generalize (rowT x.op).form = f at *
  rcases hf with rfl | rfl | rfl | rfl | rfl | rfl | rfl | rfl | rfl | rfl | rfl | rfl
  all_goals first
    | (exact absurd hq (by rw [show mayB m (shapeT _).a = mayB m true from rfl, may_zero m hm]; simp))
    | exact ⟨may_no m hm hq, by simp⟩
theorem lacks_b {x : Ins} {m : Int} (h : rightB x = true) (hm : 0 ≤ m ∧ m < 32) (hq : rightB ⟨x.op, x.d, x.a, m, x.n⟩ = false) :
    (m != 0) = true ∧ ((rowT x.op).form = 73 ∨ (rowT x.op).form = 72 ∨ (rowT x.op).form = 85 ∨ (rowT x.op).form = 74 ∨ (rowT x.op).form = 70 ∨ (rowT x.op).form = 67 ∨ (rowT x.op).form = 76 ∨ (rowT x.op).form = 90) := by
  have hf := form_mem _ (right_parts h).1
  have hq : (isOp x.op && (mayB x.d (shapeT (rowT x.op).form).d && (mayB x.a (shapeT (rowT x.op).form).a && (mayB m (shapeT (rowT x.op).form).b && (decide ((shapeT (rowT x.op).form).least ≤ x.n) && (decide (x.n ≤ (shapeT (rowT x.op).form).most) && modB x.n (shapeT (rowT x.op).form).step)))))) = false := hq
  have h : (isOp x.op && (mayB x.d (shapeT (rowT x.op).form).d && (mayB x.a (shapeT (rowT x.op).form).a && (mayB x.b (shapeT (rowT x.op).form).b && (decide ((shapeT (rowT x.op).form).least ≤ x.n) && (decide (x.n ≤ (shapeT (rowT x.op).form).most) && modB x.n (shapeT (rowT x.op).form).step)))))) = true := h
  simp only [Bool.and_eq_true] at h
  obtain ⟨h1, h2, h3, h4, h5, h6, h7⟩ := h
  rw [h1, h2, h3, h5, h6, h7] at hq
  simp only [Bool.true_and, Bool.and_true] at hq
  generalize (rowT x.op).form = f at *
  rcases hf with rfl | rfl | rfl | rfl | rfl | rfl | rfl | rfl | rfl | rfl | rfl | rfl
  all_goals first
    | (exact absurd hq (by rw [show mayB m (shapeT _).b = mayB m true from rfl, may_zero m hm]; simp))
    | exact ⟨may_no m hm hq, by simp⟩
end Go.Proofs.Ytefebnicclbhjaa
