/-
  Decode undoes Encode, and unlike right instructions have unlike words: plain. No program in sight.
-/
import Derived.Test.YtfepdieeiplbnaaCodeFind
import Derived.Test.YtfepdieeiplbnaaCodeBits
namespace Go.Proofs.Ytfepdieeiplbnaa
open Go.RowKit
set_option linter.unusedSimpArgs false
/-- What a table's row keeps: fields within their bits; none where the form's number stands. -/
def rowB (k : Nat) : Bool :=
  let r := rowT k
  decide (0 ≤ r.low ∧ r.low < 128 ∧ 0 ≤ r.mid ∧ r.mid < 8 ∧ 0 ≤ r.high ∧ r.high < 128) &&
  decide ((r.form = 85 ∨ r.form = 74 → r.mid = 0) ∧ (r.form = 85 ∨ r.form = 74 ∨ r.form = 73 ∨ r.form = 83 ∨ r.form = 66 ∨ r.form = 70 ∨ r.form = 67 → r.high = 0) ∧ (r.form = 76 ∨ r.form = 65 → r.high % 4 = 0) ∧ (r.form ≠ 90 → fixedN k = 0)) &&
  (r.form == 82 || r.form == 73 || r.form == 72 || r.form == 83 || r.form == 66 || r.form == 85 || r.form == 74 || r.form == 70 || r.form == 67 || r.form == 76 || r.form == 65 || r.form == 90)
theorem row_all : ∀ k : Fin 50, 1 ≤ k.val → rowB k.val = true := by decide +kernel
/-- Do two rows differ in a field that neither's number covers? -/
def midF (f : Int) : Bool := f != 85 && f != 74
def highF (f : Int) : Bool := f == 82 || f == 72 || f == 90
def amF (f : Int) : Bool := f == 76 || f == 65
def unlikeB (i j : Nat) : Bool :=
  let r := rowT i; let s := rowT j
  r.low != s.low || midF r.form && midF s.form && r.mid != s.mid || highF r.form && highF s.form && r.high != s.high || amF r.form && amF s.form && r.high / 4 != s.high / 4
theorem unlike_all : ∀ i j : Fin 50, 1 ≤ i.val → 1 ≤ j.val → i ≠ j → unlikeB i.val j.val = true := by decide +kernel
theorem names_all : ∀ i j : Fin 50, 1 ≤ i.val → 1 ≤ j.val → i ≠ j → (rowT i.val).nm ≠ (rowT j.val).nm := by decide +kernel
theorem names_some : ∀ i : Fin 50, 1 ≤ i.val → (rowT i.val).nm ≠ ⟨#[]⟩ ∧ (rowT i.val).low % 4 = 3 := by decide +kernel
theorem row_facts {op : Int} (h : 1 ≤ op ∧ op ≤ 49) : rowB op.toNat = true ∧ ((op.toNat : Nat) : Int) = op := ⟨row_all ⟨op.toNat, by omega⟩ (by simp; omega), by omega⟩
theorem unp_mask (u fr mn : Nat) : u / 2 ^ fr % 2 ^ mn * 2 ^ fr = u &&& ((2 ^ mn - 1) * 2 ^ fr) := by
  apply Nat.eq_of_testBit_eq
  intro i
  rw [Nat.testBit_and, Nat.testBit_mul_two_pow, Nat.testBit_mul_two_pow, Nat.testBit_mod_two_pow, Nat.testBit_div_two_pow, Nat.testBit_two_pow_sub_one]
  by_cases h : fr ≤ i
  · rw [show i - fr + fr = i by omega]
    simp only [h, decide_true, Bool.true_and]
    rw [Bool.and_comm]
  · simp [h]
theorem piece_zero (fr mn at' : Int) : pieceN ⟨0, fr, mn, at'⟩ = 0 := by simp [pieceN]
theorem field_zero (g k : Nat) : fieldN 0 g k = 0 := by simp [fieldN]
theorem right_parts {x : Ins} (h : rightB x = true) :
    (1 ≤ x.op ∧ x.op ≤ 49) ∧ (0 ≤ x.d ∧ x.d < 32 ∧ ((shX x).d = false → x.d = 0)) ∧ (0 ≤ x.a ∧ x.a < 32 ∧ ((shX x).a = false → x.a = 0)) ∧ (0 ≤ x.b ∧ x.b < 32 ∧ ((shX x).b = false → x.b = 0)) ∧
    (shX x).least ≤ x.n ∧ x.n ≤ (shX x).most ∧ ((shX x).step = 2 → x.n % 2 = 0) := by
  simp only [rightB, isOp, mayB, Bool.and_eq_true, Bool.or_eq_true, decide_eq_true_eq] at h
  obtain ⟨h0, ⟨h1, h2, h3⟩, ⟨h4, h5, h6⟩, ⟨h7, h8, h9⟩, h10, h11, h12⟩ := h
  refine ⟨h0, ⟨h1, h2, fun e => ?_⟩, ⟨h4, h5, fun e => ?_⟩, ⟨h7, h8, fun e => ?_⟩, h10, h11, fun e => ?_⟩
  · simpa [e] using h3
  · simpa [e] using h6
  · simpa [e] using h9
  · simp only [modB, e, if_true, beq_iff_eq] at h12
    exact Int.emod_eq_zero_of_dvd (Int.dvd_of_tmod_eq_zero h12)
theorem low_lt (d : Int) (h : 0 ≤ d ∧ d < 32) : (((d % 4294967296).toNat % 32 : Nat) : Int) = d := by omega
theorem or_S (u : Nat) : u % 32 ||| u / 32 % 128 * 32 = u % 4096 := by
  have h0 := unp_mask u 0 5
  have h1 := unp_mask u 5 7
  have h2 := unp_mask u 0 12
  simp at h0 h1 h2
  rw [h0, h1, h2, ← Nat.and_or_distrib_left]; rfl
theorem or_B (u : Nat) : u / 2048 % 2 * 2048 ||| u / 2 % 16 * 2 ||| u / 32 % 64 * 32 ||| u / 4096 % 2 * 4096 = u / 2 % 4096 * 2 := by
  have h0 := unp_mask u 11 1
  have h1 := unp_mask u 1 4
  have h2 := unp_mask u 5 6
  have h3 := unp_mask u 12 1
  have h4 := unp_mask u 1 12
  simp at h0 h1 h2 h3 h4
  rw [h0, h1, h2, h3, h4, ← Nat.and_or_distrib_left, ← Nat.and_or_distrib_left, ← Nat.and_or_distrib_left]; rfl
theorem or_J (u : Nat) : u / 4096 % 256 * 4096 ||| u / 2048 % 2 * 2048 ||| u / 2 % 1024 * 2 ||| u / 1048576 % 2 * 1048576 = u / 2 % 1048576 * 2 := by
  have h0 := unp_mask u 12 8
  have h1 := unp_mask u 11 1
  have h2 := unp_mask u 1 10
  have h3 := unp_mask u 20 1
  have h4 := unp_mask u 1 20
  simp at h0 h1 h2 h3 h4
  rw [h0, h1, h2, h3, h4, ← Nat.and_or_distrib_left, ← Nat.and_or_distrib_left, ← Nat.and_or_distrib_left]; rfl
theorem bm82 : backMax (numP 82 0) = 0 := by decide
theorem bm73 : backMax (numP 73 0) = 12 := by decide
theorem bm72 : backMax (numP 72 0) = 5 := by decide
theorem bm83 : backMax (numP 83 0) = 12 := by decide
theorem bm66 : backMax (numP 66 0) = 13 := by decide
theorem bm85 : backMax (numP 85 0) = 20 := by decide
theorem bm74 : backMax (numP 74 0) = 21 := by decide
theorem bm70 : backMax (numP 70 0) = 8 := by decide
theorem bm67 : backMax (numP 67 0) = 12 := by decide
theorem bm76 : backMax (numP 76 0) = 2 := by decide
theorem bm65 : backMax (numP 65 0) = 2 := by decide
theorem bm90 : backMax (numP 90 0) = 0 := by decide
theorem dec_enc (x : Ins) (h : rightB x = true) : decI x.op (encN x) = x := by
  obtain ⟨h0, hd, ha, hb, hn1, hn2, hn3⟩ := right_parts h
  obtain ⟨hr, hop⟩ := row_facts h0
  clear h
  simp only [rowB, hop, Bool.and_eq_true, decide_eq_true_eq, Bool.or_eq_true, beq_iff_eq] at hr
  obtain ⟨⟨hlo, z1, z2, z3, z4⟩, hf⟩ := hr
  unfold decI encN headP
  unfold shX at hd ha hb hn1 hn2 hn3
  obtain ⟨op, d, a, b, n⟩ := x
  simp only at *
  generalize rowT op = r at *
  obtain ⟨nm, f, lo, mi, hi⟩ := r
  simp only at *
  generalize fixedN op = fx at *
  rcases hf with ((((((((((hf | hf) | hf) | hf) | hf) | hf) | hf) | hf) | hf) | hf) | hf) | hf
  all_goals
    subst hf
    simp [shapeT] at hd ha hb hn1 hn2 hn3 z1 z2 z3 z4
    try (obtain ⟨_, _, rfl⟩ := hd)
    try (obtain ⟨_, _, rfl⟩ := ha)
    try (obtain ⟨_, _, rfl⟩ := hb)
    try subst z1
    try subst z2
    try subst z4
    simp only [decR, shapeT, if_true, if_false, Bool.false_eq_true, Ins.mk.injEq, true_and, and_true, List.foldl, layN, layFrom, backFold, unpieceN, field_or, bm82, bm73, bm72, bm83, bm66, bm85, bm74, bm70, bm67, bm76, bm65, bm90]
    simp [numP, signN, field_or, unpieceN, piece_zero, field_zero]
    try simp (disch := decide) only [pf_out, pf_in, piece_zero, field_zero, Nat.or_zero, Nat.zero_or]
    try simp only [Int.reduceToNat, Nat.reducePow, Nat.reduceSub, Nat.div_one, Nat.reduceMul, Nat.mul_one]
    try rw [or_S]
    try rw [or_B]
    try rw [or_J]
    try rw [show (hi % 4294967296).toNat % 4 = 0 by omega, Nat.zero_or]
    try omega
    try (repeat' apply And.intro)
    all_goals (try split)
    all_goals (try omega)
theorem keys (x : Ins) (h : rightB x = true) : fieldN (encN x) 0 7 = (rowT x.op).low.toNat ∧ (midF (rowT x.op).form = true → fieldN (encN x) 12 3 = (rowT x.op).mid.toNat) ∧
    (highF (rowT x.op).form = true → fieldN (encN x) 25 7 = (rowT x.op).high.toNat) ∧ (amF (rowT x.op).form = true → fieldN (encN x) 27 5 = ((rowT x.op).high / 4).toNat) := by
  obtain ⟨h0, hd, ha, hb, hn1, hn2, hn3⟩ := right_parts h
  obtain ⟨hr, hop⟩ := row_facts h0
  clear h
  simp only [rowB, hop, Bool.and_eq_true, decide_eq_true_eq, Bool.or_eq_true, beq_iff_eq] at hr
  obtain ⟨⟨hlo, z1, z2, z3, z4⟩, hf⟩ := hr
  unfold encN headP
  unfold shX at hd ha hb hn1 hn2 hn3
  obtain ⟨op, d, a, b, n⟩ := x
  simp only at *
  generalize rowT op = r at *
  obtain ⟨nm, f, lo, mi, hi⟩ := r
  simp only at *
  generalize fixedN op = fx at *
  rcases hf with ((((((((((hf | hf) | hf) | hf) | hf) | hf) | hf) | hf) | hf) | hf) | hf) | hf
  all_goals
    subst hf
    simp [shapeT] at hd ha hb hn1 hn2 hn3 z1 z2 z3 z4
    try (obtain ⟨_, _, rfl⟩ := hd)
    try (obtain ⟨_, _, rfl⟩ := ha)
    try (obtain ⟨_, _, rfl⟩ := hb)
    try subst z1
    try subst z2
    try subst z4
    simp [midF, highF, amF, numP, layN, layFrom, field_or, piece_zero, field_zero]
    try simp (disch := decide) only [pf_out, pf_in, piece_zero, field_zero, Nat.or_zero, Nat.zero_or]
    try simp only [Int.reduceToNat, Nat.reducePow, Nat.reduceSub, Nat.div_one, Nat.reduceMul, Nat.mul_one]
    try omega
theorem same_op (x y : Ins) (hx : rightB x = true) (hy : rightB y = true) (he : encN x = encN y) : x.op = y.op := by
  obtain ⟨a0, a1, a2, a3⟩ := keys x hx
  obtain ⟨b0, b1, b2, b3⟩ := keys y hy
  rw [he] at a0 a1 a2 a3
  have ox := (right_parts hx).1
  have oy := (right_parts hy).1
  have fx := (row_facts ox).1
  have fy := (row_facts oy).1
  by_cases h : x.op = y.op
  · exact h
  exfalso
  have hu := unlike_all ⟨x.op.toNat, by omega⟩ ⟨y.op.toNat, by omega⟩ (by simp; omega) (by simp; omega) (by simp [Fin.ext_iff]; omega)
  simp only [rowB, unlikeB, show ((x.op.toNat : Nat) : Int) = x.op by omega, show ((y.op.toNat : Nat) : Int) = y.op by omega, Bool.and_eq_true, decide_eq_true_eq, Bool.or_eq_true, bne_iff_ne] at fx fy hu
  have gx := fx.1.1
  have gy := fy.1.1
  clear fx fy
  generalize rowT x.op = r at *
  generalize rowT y.op = s at *
  obtain ⟨_, f, lo, mi, hi⟩ := r
  obtain ⟨_, f', lo', mi', hi'⟩ := s
  simp only at *
  generalize encN y = v at *
  rcases hu with ((hu | ⟨⟨u1, u2⟩, hu⟩) | ⟨⟨u1, u2⟩, hu⟩) | ⟨⟨u1, u2⟩, hu⟩
  · rw [a0] at b0; omega
  · rw [a1 u1] at b1; have := b1 u2; omega
  · rw [a2 u1] at b2; have := b2 u2; omega
  · rw [a3 u1] at b3; have := b3 u2; omega
theorem enc_inj (x y : Ins) (hx : rightB x = true) (hy : rightB y = true) (he : encN x = encN y) : x = y := by
  rw [← dec_enc x hx, ← dec_enc y hy, he, same_op x y hx hy he]
theorem encE_zero {x : Ins} : encE x = 0 ↔ rightB x = true := by unfold encE; split <;> simp_all
theorem enc_right {x : Ins} (h : rightB x = true) : encV x = (encN x : Nat) ∧ encE x = 0 := by unfold encV encE; rw [h]; exact ⟨rfl, rfl⟩
theorem enc_wrong {x : Ins} (h : rightB x = false) : encV x = 0 ∧ encE x = 1 := by unfold encV encE; rw [h]; exact ⟨rfl, rfl⟩
theorem hit_right {word op : Nat} (h : decHit word op = true) : rightB (decI op word) = true ∧ encN (decI op word) = word := by
  simp only [decHit, Bool.and_eq_true, beq_iff_eq] at h
  have hr := encE_zero.1 h.1
  refine ⟨hr, ?_⟩
  have := h.2; rw [(enc_right hr).1] at this; omega
theorem dec_op (op : Int) (word : Nat) : (decI op word).op = op := rfl
theorem dec_right (x : Ins) (h : rightB x = true) : decX (encN x) = x ∧ decE (encN x) = 0 := by
  have o := (right_parts h).1
  have e : ((x.op.toNat : Nat) : Int) = x.op := by omega
  have h1 : decHit (encN x) x.op.toNat = true := by
    simp only [decHit, Bool.and_eq_true, beq_iff_eq]
    rw [e, dec_enc x h]
    exact ⟨(enc_right h).2, (enc_right h).1⟩
  have := dec_hit (by omega) h1 (fun k hk1 hk2 => by
    cases hh : decHit (encN x) k with
    | false => rfl
    | true =>
      exfalso
      obtain ⟨r1, r2⟩ := hit_right hh
      have := same_op _ _ r1 h r2
      rw [dec_op] at this; omega)
  rw [e, dec_enc x h] at this
  exact this
theorem dec_ok (word : Nat) (h : decE word = 0) : rightB (decX word) = true ∧ encN (decX word) = word := by
  unfold decE at h; unfold decX
  cases hf : decFind word with
  | none => rw [hf] at h; cases h
  | some op => exact hit_right (List.find?_some hf)
theorem dec_bad (word : Nat) (h : decE word ≠ 0) : decX word = noIns ∧ decE word = 20 := by
  unfold decE at h ⊢; unfold decX
  cases hf : decFind word with
  | none => exact ⟨rfl, rfl⟩
  | some op => rw [hf] at h; exact absurd rfl h
theorem dec_cases (word : Nat) : decE word = 0 ∨ decE word = 20 := by unfold decE; split <;> simp
end Go.Proofs.Ytfepdieeiplbnaa
