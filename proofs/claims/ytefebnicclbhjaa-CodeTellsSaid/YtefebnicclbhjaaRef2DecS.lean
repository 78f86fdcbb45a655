/-
  What headstockref02.read reads is what code.Decode reads: plain. No program in sight.
-/
import Derived.Test.YtefebnicclbhjaaCodeFind
namespace Go.Proofs.Ytefebnicclbhjaa
open Go.RowKit
def sgnN (m : Nat) (t : Int) : Int := if 2 ^ (m - 1) ≤ t then t - 2 ^ m else t
theorem or_add (x z k : Nat) (h : x < 2 ^ k) : x ||| z * 2 ^ k = x + z * 2 ^ k := by
  rw [Nat.or_comm, Nat.mul_comm, ← Nat.two_pow_add_eq_or_of_lt h, Nat.add_comm]
theorem sgn_eq (l : Int) (hl : l < 0) (n : Nat) (m : Nat) (hm : 0 < m) : signN l n m = sgnN m n := by
  unfold signN sgnN
  have h1 : 0 < 2 ^ (m - 1) := Nat.two_pow_pos _
  rw [show ((m : Int) - 1).toNat = m - 1 by omega, show (m : Int).toNat = m by omega]
  have e : ((n : Int) / 2 ^ (m - 1) ≠ 0) ↔ ((2 : Int) ^ (m - 1) ≤ n) := by
    rw [pow_int, ← Int.natCast_ediv]
    constructor
    · intro h
      have h3 : n / 2 ^ (m - 1) ≠ 0 := by omega
      have := (Nat.div_ne_zero_iff.1 h3).2
      omega
    · intro h
      have h3 : n / 2 ^ (m - 1) ≠ 0 := Nat.div_ne_zero_iff.2 ⟨by omega, by omega⟩
      omega
  by_cases h : (2 : Int) ^ (m - 1) ≤ n
  · rw [if_pos ⟨hl, e.2 h⟩, if_pos h]
  · rw [if_neg (fun x => h (e.1 x.2)), if_neg h]
theorem sgn_zero (l : Int) (h : 0 ≤ l) (n : Nat) (m : Int) : signN l n m = n := by unfold signN; rw [if_neg (by omega)]
theorem back_12 (W g : Nat) : backFold W [⟨0, 0, 12, (g : Int)⟩] = fieldN W g 12 := by simp [backFold, unpieceN]
set_option maxRecDepth 10000 in
theorem decS_82 (op : Int) (W : Nat) : decR 82 op W = ⟨op, ((fieldN W 7 5 : Nat) : Int), ((fieldN W 15 5 : Nat) : Int), ((fieldN W 20 5 : Nat) : Int), 0⟩ := by
  show (⟨op, ((fieldN W 7 5 : Nat) : Int), ((fieldN W 15 5 : Nat) : Int), ((fieldN W 20 5 : Nat) : Int), signN (shapeT 82).least (backFold W (numP 82 0)) (backMax (numP 82 0))⟩ : Ins) = _
  rw [show (shapeT 82).least = 0 from rfl, show backMax (numP 82 0) = 0 from rfl]
  congr 1
  all_goals (rw [sgn_zero _ (by decide)]; try rfl)
set_option maxRecDepth 10000 in
theorem decS_73 (op : Int) (W : Nat) : decR 73 op W = ⟨op, ((fieldN W 7 5 : Nat) : Int), ((fieldN W 15 5 : Nat) : Int), 0, sgnN 12 ((fieldN W 20 12 : Nat) : Int)⟩ := by
  show (⟨op, ((fieldN W 7 5 : Nat) : Int), ((fieldN W 15 5 : Nat) : Int), 0, signN (shapeT 73).least (backFold W (numP 73 0)) (backMax (numP 73 0))⟩ : Ins) = _
  rw [show (shapeT 73).least = -2048 from rfl, show backMax (numP 73 0) = 12 from rfl]
  congr 1
  have hb : backFold W (numP 73 0) = fieldN W 20 12 := by simp [backFold, numP, unpieceN]
  rw [hb]
  exact sgn_eq _ (by decide) _ 12 (by decide)
set_option maxRecDepth 10000 in
theorem decS_67 (op : Int) (W : Nat) : decR 67 op W = ⟨op, ((fieldN W 7 5 : Nat) : Int), ((fieldN W 15 5 : Nat) : Int), 0, ((fieldN W 20 12 : Nat) : Int)⟩ := by
  show (⟨op, ((fieldN W 7 5 : Nat) : Int), ((fieldN W 15 5 : Nat) : Int), 0, signN (shapeT 67).least (backFold W (numP 67 0)) (backMax (numP 67 0))⟩ : Ins) = _
  rw [show (shapeT 67).least = 0 from rfl, show backMax (numP 67 0) = 12 from rfl]
  congr 1
  have hb : backFold W (numP 67 0) = fieldN W 20 12 := by simp [backFold, numP, unpieceN]
  rw [hb]
  exact sgn_zero _ (by decide) _ _
set_option maxRecDepth 10000 in
theorem decS_72 (op : Int) (W : Nat) : decR 72 op W = ⟨op, ((fieldN W 7 5 : Nat) : Int), ((fieldN W 15 5 : Nat) : Int), 0, ((fieldN W 20 5 : Nat) : Int)⟩ := by
  show (⟨op, ((fieldN W 7 5 : Nat) : Int), ((fieldN W 15 5 : Nat) : Int), 0, signN (shapeT 72).least (backFold W (numP 72 0)) (backMax (numP 72 0))⟩ : Ins) = _
  rw [show (shapeT 72).least = 0 from rfl, show backMax (numP 72 0) = 5 from rfl]
  congr 1
  have hb : backFold W (numP 72 0) = fieldN W 20 5 := by simp [backFold, numP, unpieceN]
  rw [hb]
  exact sgn_zero _ (by decide) _ _
set_option maxRecDepth 10000 in
theorem decS_83 (op : Int) (W : Nat) : decR 83 op W = ⟨op, 0, ((fieldN W 15 5 : Nat) : Int), ((fieldN W 20 5 : Nat) : Int), sgnN 12 ((fieldN W 7 5 + fieldN W 25 7 * 32 : Nat) : Int)⟩ := by
  show (⟨op, 0, ((fieldN W 15 5 : Nat) : Int), ((fieldN W 20 5 : Nat) : Int), signN (shapeT 83).least (backFold W (numP 83 0)) (backMax (numP 83 0))⟩ : Ins) = _
  rw [show (shapeT 83).least = -2048 from rfl, show backMax (numP 83 0) = 12 from rfl]
  congr 1
  have hb : backFold W (numP 83 0) = fieldN W 7 5 + fieldN W 25 7 * 32 := by
    have h0 := field_lt W 7 5
    have := or_add (fieldN W 7 5) (fieldN W 25 7) 5 h0
    simp [backFold, numP, unpieceN] at this ⊢
    exact this
  rw [hb]
  exact sgn_eq _ (by decide) _ 12 (by decide)
set_option maxRecDepth 10000 in
theorem decS_66 (op : Int) (W : Nat) : decR 66 op W = ⟨op, 0, ((fieldN W 15 5 : Nat) : Int), ((fieldN W 20 5 : Nat) : Int), sgnN 13 ((fieldN W 8 4 * 2 + fieldN W 25 6 * 32 + fieldN W 7 1 * 2048 + fieldN W 31 1 * 4096 : Nat) : Int)⟩ := by
  show (⟨op, 0, ((fieldN W 15 5 : Nat) : Int), ((fieldN W 20 5 : Nat) : Int), signN (shapeT 66).least (backFold W (numP 66 0)) (backMax (numP 66 0))⟩ : Ins) = _
  rw [show (shapeT 66).least = -4096 from rfl, show backMax (numP 66 0) = 13 from rfl]
  congr 1
  have hb : backFold W (numP 66 0) = fieldN W 8 4 * 2 + fieldN W 25 6 * 32 + fieldN W 7 1 * 2048 + fieldN W 31 1 * 4096 := by
    have h0 := field_lt W 8 4
    have h1 := field_lt W 25 6
    have h2 := field_lt W 7 1
    have h3 := field_lt W 31 1
    simp only [Nat.reducePow] at h0 h1 h2 h3
    have e1 := or_add (fieldN W 8 4 * 2) (fieldN W 25 6) 5 (by omega)
    have e2 := or_add (fieldN W 8 4 * 2 + fieldN W 25 6 * 32) (fieldN W 7 1) 11 (by omega)
    have e3 := or_add (fieldN W 8 4 * 2 + fieldN W 25 6 * 32 + fieldN W 7 1 * 2048) (fieldN W 31 1) 12 (by omega)
    simp only [Nat.reducePow] at e1 e2 e3
    have e : backFold W (numP 66 0) = ((fieldN W 8 4 * 2 ||| fieldN W 25 6 * 32) ||| fieldN W 7 1 * 2048) ||| fieldN W 31 1 * 4096 := by
      have e0 : backFold W (numP 66 0) = ((0 ||| fieldN W 7 1 * 2 ^ 11) ||| fieldN W 8 4 * 2 ^ 1 ||| fieldN W 25 6 * 2 ^ 5) ||| fieldN W 31 1 * 2 ^ 12 := rfl
      rw [e0, Nat.zero_or]
      simp only [show (2 : Nat) ^ 11 = 2048 from rfl, show (2 : Nat) ^ 1 = 2 from rfl, show (2 : Nat) ^ 5 = 32 from rfl, show (2 : Nat) ^ 12 = 4096 from rfl]
      generalize fieldN W 8 4 * 2 = x1
      generalize fieldN W 7 1 * 2048 = x2
      generalize fieldN W 25 6 * 32 = x3
      rw [Nat.or_assoc x2, Nat.or_comm x2]
    rw [e, e1, e2, e3]
  rw [hb]
  exact sgn_eq _ (by decide) _ 13 (by decide)
set_option maxRecDepth 10000 in
theorem decS_85 (op : Int) (W : Nat) : decR 85 op W = ⟨op, ((fieldN W 7 5 : Nat) : Int), 0, 0, ((fieldN W 12 20 : Nat) : Int)⟩ := by
  show (⟨op, ((fieldN W 7 5 : Nat) : Int), 0, 0, signN (shapeT 85).least (backFold W (numP 85 0)) (backMax (numP 85 0))⟩ : Ins) = _
  rw [show (shapeT 85).least = 0 from rfl, show backMax (numP 85 0) = 20 from rfl]
  congr 1
  have hb : backFold W (numP 85 0) = fieldN W 12 20 := by simp [backFold, numP, unpieceN]
  rw [hb]
  exact sgn_zero _ (by decide) _ _
set_option maxRecDepth 10000 in
theorem decS_74 (op : Int) (W : Nat) : decR 74 op W = ⟨op, ((fieldN W 7 5 : Nat) : Int), 0, 0, sgnN 21 ((fieldN W 21 10 * 2 + fieldN W 20 1 * 2048 + fieldN W 12 8 * 4096 + fieldN W 31 1 * 1048576 : Nat) : Int)⟩ := by
  show (⟨op, ((fieldN W 7 5 : Nat) : Int), 0, 0, signN (shapeT 74).least (backFold W (numP 74 0)) (backMax (numP 74 0))⟩ : Ins) = _
  rw [show (shapeT 74).least = -1048576 from rfl, show backMax (numP 74 0) = 21 from rfl]
  congr 1
  have hb : backFold W (numP 74 0) = fieldN W 21 10 * 2 + fieldN W 20 1 * 2048 + fieldN W 12 8 * 4096 + fieldN W 31 1 * 1048576 := by
    have h0 := field_lt W 21 10
    have h1 := field_lt W 20 1
    have h2 := field_lt W 12 8
    have h3 := field_lt W 31 1
    simp only [Nat.reducePow] at h0 h1 h2 h3
    have e1 := or_add (fieldN W 21 10 * 2) (fieldN W 20 1) 11 (by omega)
    have e2 := or_add (fieldN W 21 10 * 2 + fieldN W 20 1 * 2048) (fieldN W 12 8) 12 (by omega)
    have e3 := or_add (fieldN W 21 10 * 2 + fieldN W 20 1 * 2048 + fieldN W 12 8 * 4096) (fieldN W 31 1) 20 (by omega)
    simp only [Nat.reducePow] at e1 e2 e3
    have e : backFold W (numP 74 0) = ((fieldN W 21 10 * 2 ||| fieldN W 20 1 * 2048) ||| fieldN W 12 8 * 4096) ||| fieldN W 31 1 * 1048576 := by
      have e0 : backFold W (numP 74 0) = ((0 ||| fieldN W 12 8 * 2 ^ 12) ||| fieldN W 20 1 * 2 ^ 11 ||| fieldN W 21 10 * 2 ^ 1) ||| fieldN W 31 1 * 2 ^ 20 := rfl
      rw [e0, Nat.zero_or]
      simp only [show (2 : Nat) ^ 11 = 2048 from rfl, show (2 : Nat) ^ 1 = 2 from rfl, show (2 : Nat) ^ 20 = 1048576 from rfl, show (2 : Nat) ^ 12 = 4096 from rfl]
      generalize fieldN W 21 10 * 2 = x1
      generalize fieldN W 20 1 * 2048 = x2
      generalize fieldN W 12 8 * 4096 = x3
      rw [Nat.or_assoc x3, Nat.or_comm x3, Nat.or_comm x2 x1]
    rw [e, e1, e2, e3]
  rw [hb]
  exact sgn_eq _ (by decide) _ 21 (by decide)
set_option maxRecDepth 10000 in
theorem decS_70 (op : Int) (W : Nat) : decR 70 op W = ⟨op, 0, 0, 0, ((fieldN W 20 8 : Nat) : Int)⟩ := by
  show (⟨op, 0, 0, 0, signN (shapeT 70).least (backFold W (numP 70 0)) (backMax (numP 70 0))⟩ : Ins) = _
  rw [show (shapeT 70).least = 0 from rfl, show backMax (numP 70 0) = 8 from rfl]
  congr 1
  have hb : backFold W (numP 70 0) = fieldN W 20 8 := by simp [backFold, numP, unpieceN]
  rw [hb]
  exact sgn_zero _ (by decide) _ _
set_option maxRecDepth 10000 in
theorem decS_76 (op : Int) (W : Nat) : decR 76 op W = ⟨op, ((fieldN W 7 5 : Nat) : Int), ((fieldN W 15 5 : Nat) : Int), 0, ((fieldN W 25 2 : Nat) : Int)⟩ := by
  show (⟨op, ((fieldN W 7 5 : Nat) : Int), ((fieldN W 15 5 : Nat) : Int), 0, signN (shapeT 76).least (backFold W (numP 76 0)) (backMax (numP 76 0))⟩ : Ins) = _
  rw [show (shapeT 76).least = 0 from rfl, show backMax (numP 76 0) = 2 from rfl]
  congr 1
  have hb : backFold W (numP 76 0) = fieldN W 25 2 := by simp [backFold, numP, unpieceN]
  rw [hb]
  exact sgn_zero _ (by decide) _ _
set_option maxRecDepth 10000 in
theorem decS_65 (op : Int) (W : Nat) : decR 65 op W = ⟨op, ((fieldN W 7 5 : Nat) : Int), ((fieldN W 15 5 : Nat) : Int), ((fieldN W 20 5 : Nat) : Int), ((fieldN W 25 2 : Nat) : Int)⟩ := by
  show (⟨op, ((fieldN W 7 5 : Nat) : Int), ((fieldN W 15 5 : Nat) : Int), ((fieldN W 20 5 : Nat) : Int), signN (shapeT 65).least (backFold W (numP 65 0)) (backMax (numP 65 0))⟩ : Ins) = _
  rw [show (shapeT 65).least = 0 from rfl, show backMax (numP 65 0) = 2 from rfl]
  congr 1
  have hb : backFold W (numP 65 0) = fieldN W 25 2 := by simp [backFold, numP, unpieceN]
  rw [hb]
  exact sgn_zero _ (by decide) _ _
set_option maxRecDepth 10000 in
theorem decS_90 (op : Int) (W : Nat) : decR 90 op W = ⟨op, 0, 0, 0, 0⟩ := by
  show (⟨op, 0, 0, 0, signN (shapeT 90).least (backFold W (numP 90 0)) (backMax (numP 90 0))⟩ : Ins) = _
  rw [show (shapeT 90).least = 0 from rfl, show backMax (numP 90 0) = 0 from rfl]
  congr 1
  all_goals (rw [sgn_zero _ (by decide)]; try rfl)
end Go.Proofs.Ytefebnicclbhjaa
