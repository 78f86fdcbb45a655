/-
  The contracts of hart.makes, changed, leads.
-/
import Derived.Test.YtiahdhlfecgnpaaHartOps
import Derived.Test.YtiahdhlfecgnpaaHartDef
import Derived.Test.YtiahdhlfecgnpaaCodeRight
namespace Go.Proofs.Ytiahdhlfecgnpaa
open Go.RowKit
def makesN (op a b : Int) : Int :=
  if op = 20 ∨ op = 28 then word a / 2 ^ (b % 32).toNat else if op = 33 then highN a b true else if op = 34 then highN a b false else if op = 36 ∨ op = 38 then dividedN op a b else twoN (opsT op) a b
theorem pow_bd' (k : Int) (h : 0 ≤ k ∧ k < 32) : (1 : Int) ≤ 2 ^ k.toNat ∧ (2 : Int) ^ k.toNat ≤ 2147483648 := by
  obtain ⟨j, rfl⟩ := Int.eq_ofNat_of_zero_le h.1
  have h1 : 2 ^ j ≤ 2 ^ 31 := Nat.pow_le_pow_right (by decide) (by omega)
  have h2 : 0 < 2 ^ j := Nat.two_pow_pos j
  have e : (2 : Int) ^ j = ((2 ^ j : Nat) : Int) := by rw [Int.natCast_pow]; rfl
  simp only [Int.toNat_natCast]
  omega
theorem quo_word (a : Int) (k : Nat) : wrap64 (word a / 2 ^ k) = word a / 2 ^ k := by
  have hx := word_bd a
  have e : (2 : Int) ^ k = ((2 ^ k : Nat) : Int) := by rw [Int.natCast_pow]; rfl
  have h1 := Int.ediv_le_self (2 ^ k) hx.1
  have h2 : 0 ≤ word a / 2 ^ k := Int.ediv_nonneg hx.1 (by rw [e]; exact Int.natCast_nonneg _)
  unfold wrap64; omega
def plainOp (op : Int) : Prop := op = 13 ∨ op = 14 ∨ op = 15 ∨ op = 16 ∨ op = 17 ∨ op = 18 ∨ op = 19 ∨ op = 21 ∨ op = 22 ∨ op = 23 ∨ op = 24 ∨ op = 25 ∨ op = 26 ∨ op = 27 ∨ op = 29 ∨ op = 30 ∨ op = 31 ∨ op = 32 ∨ op = 35 ∨ op = 37
set_option maxHeartbeats 8000000 in
theorem makes_plain (op a b : Int) (w : World) (h : plainOp op) :
    Calls Try.prog 35 #[.int .i64 op, .int .i64 a, .int .i64 b] w fun e w' => e = .returned (.int .i64 (makesN op a b)) ∧ Below w.heap.size w w' := by
  have E : Hid (makesN op a b = twoN (opsT op) a b) := by
    unfold makesN
    unfold plainOp at h
    rw [if_neg (by omega), if_neg (by omega), if_neg (by omega), if_neg (by omega)]
    exact rfl
  have hix : ∀ w : World, (Instr.index 80 (.agg opsA) (.int .i64 op)).run Try.prog w = .ok (.int .i64 (opsT op)) w := by
    intro w
    rcases h with rfl | rfl | rfl | rfl | rfl | rfl | rfl | rfl | rfl | rfl | rfl | rfl | rfl | rfl | rfl | rfl | rfl | rfl | rfl | rfl <;> kernel_rfl
  have q1 : (op == 20) = false := by simp; unfold plainOp at h; omega
  have q2 : (op == 28) = false := by simp; unfold plainOp at h; omega
  have q3 : (op == 33) = false := by simp; unfold plainOp at h; omega
  have q4 : (op == 34) = false := by simp; unfold plainOp at h; omega
  have q5 : (op == 36) = false := by simp; unfold plainOp at h; omega
  have q6 : (op == 38) = false := by simp; unfold plainOp at h; omega
  clear h
  go_enter Try.func35, Try.ntmps35
  go_wp2_with fail
  refine (operators_any _).mono ?_
  rintro e w1 ⟨rfl, hb1⟩
  go_wp2_with fail
  refine (two_any _ a b _).mono ?_
  rintro e w2 ⟨rfl, rfl⟩
  go_wp2_with fail
  go_ret
  exact ⟨by rw [E.out]; rfl, (by repeat (first | (with_reducible exact Below.refl _ _) | (with_reducible refine bw_set ?_ ?_ _) | (with_reducible apply bw_alloc) | (with_reducible refine bw_tr ?_ (by with_reducible assumption)) | (with_reducible apply bw_drew) | omega))⟩
theorem makes_20 (op a b : Int) (w : World) (h : op = 20 ∨ op = 28) :
    Calls Try.prog 35 #[.int .i64 op, .int .i64 a, .int .i64 b] w fun e w' => e = .returned (.int .i64 (makesN op a b)) ∧ Below w.heap.size w w' := by
  have E : Hid (makesN op a b = word a / 2 ^ (b % 32).toNat) := by unfold makesN; rw [if_pos h]; exact rfl
  have hb1 : bits .and .i64 b 31 = b % 32 := and31_i64 b
  have hb2 : 0 ≤ b % 32 := by omega
  have hb3 : b % 32 ≤ 31 := by omega
  have hw := word_bd a
  have hp := pow_bd' (b % 32) (by omega)
  have HQ := Lib.hid (quo_word a (b % 32).toNat)
  rcases h with rfl | rfl
  all_goals
    go_enter Try.func35, Try.ntmps35
    go_wp2_with fail
    go_ret
    exact ⟨by rw [E.out, ← HQ.out]; rfl, (by repeat (first | (with_reducible exact Below.refl _ _) | (with_reducible refine bw_set ?_ ?_ _) | (with_reducible apply bw_alloc) | (with_reducible refine bw_tr ?_ (by with_reducible assumption)) | (with_reducible apply bw_drew) | omega))⟩
theorem makes_33 (a b : Int) (w : World) :
    Calls Try.prog 35 #[.int .i64 33, .int .i64 a, .int .i64 b] w fun e w' => e = .returned (.int .i64 (makesN 33 a b)) ∧ Below w.heap.size w w' := by
  go_enter Try.func35, Try.ntmps35
  go_wp2_with fail
  refine (high_any a b _ _).mono ?_
  rintro e w1 ⟨rfl, rfl⟩
  go_wp2_with fail
  go_ret
  exact ⟨rfl, (by repeat (first | (with_reducible exact Below.refl _ _) | (with_reducible refine bw_set ?_ ?_ _) | (with_reducible apply bw_alloc) | (with_reducible refine bw_tr ?_ (by with_reducible assumption)) | (with_reducible apply bw_drew) | omega))⟩
theorem makes_34 (a b : Int) (w : World) :
    Calls Try.prog 35 #[.int .i64 34, .int .i64 a, .int .i64 b] w fun e w' => e = .returned (.int .i64 (makesN 34 a b)) ∧ Below w.heap.size w w' := by
  go_enter Try.func35, Try.ntmps35
  go_wp2_with fail
  refine (high_any a b _ _).mono ?_
  rintro e w1 ⟨rfl, rfl⟩
  go_wp2_with fail
  go_ret
  exact ⟨rfl, (by repeat (first | (with_reducible exact Below.refl _ _) | (with_reducible refine bw_set ?_ ?_ _) | (with_reducible apply bw_alloc) | (with_reducible refine bw_tr ?_ (by with_reducible assumption)) | (with_reducible apply bw_drew) | omega))⟩
theorem makes_36 (op a b : Int) (w : World) (h : op = 36 ∨ op = 38) :
    Calls Try.prog 35 #[.int .i64 op, .int .i64 a, .int .i64 b] w fun e w' => e = .returned (.int .i64 (makesN op a b)) ∧ Below w.heap.size w w' := by
  rcases h with rfl | rfl
  · go_enter Try.func35, Try.ntmps35
    go_wp2_with fail
    refine (hdivided_any 36 a b _ (.inl rfl)).mono ?_
    rintro e w1 ⟨rfl, rfl⟩
    go_wp2_with fail
    go_ret
    exact ⟨rfl, (by repeat (first | (with_reducible exact Below.refl _ _) | (with_reducible refine bw_set ?_ ?_ _) | (with_reducible apply bw_alloc) | (with_reducible refine bw_tr ?_ (by with_reducible assumption)) | (with_reducible apply bw_drew) | omega))⟩
  · go_enter Try.func35, Try.ntmps35
    go_wp2_with fail
    refine (hdivided_any 38 a b _ (.inr rfl)).mono ?_
    rintro e w1 ⟨rfl, rfl⟩
    go_wp2_with fail
    go_ret
    exact ⟨rfl, (by repeat (first | (with_reducible exact Below.refl _ _) | (with_reducible refine bw_set ?_ ?_ _) | (with_reducible apply bw_alloc) | (with_reducible refine bw_tr ?_ (by with_reducible assumption)) | (with_reducible apply bw_drew) | omega))⟩
theorem makes_any (op a b : Int) (w : World) (h : 13 ≤ op ∧ op ≤ 38) :
    Calls Try.prog 35 #[.int .i64 op, .int .i64 a, .int .i64 b] w fun e w' => e = .returned (.int .i64 (makesN op a b)) ∧ Below w.heap.size w w' := by
  by_cases h1 : op = 20 ∨ op = 28
  · exact makes_20 op a b w h1
  by_cases h2 : op = 33
  · subst h2; exact makes_33 a b w
  by_cases h3 : op = 34
  · subst h3; exact makes_34 a b w
  by_cases h4 : op = 36 ∨ op = 38
  · exact makes_36 op a b w h4
  exact makes_plain op a b w (by unfold plainOp; omega)
/-- What a control register becomes. -/
def changedN (op old n : Int) : Int := if op = 41 then bits .or .i64 old n else if op = 42 then bits .andNot .i64 old n else n
theorem changed_any (op old n : Int) (w : World) :
    Calls Try.prog 52 #[.int .i64 op, .int .i64 old, .int .i64 n] w fun e w' => e = .returned (.int .i64 (changedN op old n)) ∧ w = w' := by
  by_cases h1 : op = 41
  · subst h1
    go_enter Try.func52, Try.ntmps52
    go_wp2_with fail
    go_ret
    exact ⟨rfl, rfl⟩
  by_cases h2 : op = 42
  · subst h2
    go_enter Try.func52, Try.ntmps52
    go_wp2_with fail
    go_ret
    exact ⟨rfl, rfl⟩
  · have E : Hid (changedN op old n = n) := by unfold changedN; rw [if_neg h1, if_neg h2]; exact rfl
    have q1 : (op == 41) = false := by simp [h1]
    have q2 : (op == 42) = false := by simp [h2]
    clear h1 h2
    go_enter Try.func52, Try.ntmps52
    go_wp2_with fail
    go_ret
    exact ⟨by rw [E.out]; rfl, rfl⟩
end Go.Proofs.Ytiahdhlfecgnpaa
