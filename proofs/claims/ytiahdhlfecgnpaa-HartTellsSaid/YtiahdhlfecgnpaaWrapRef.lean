/-
  The contracts of the document's own answer for layer 1 (headstockref01): the same plain functions.
-/
import Derived.Test.YtiahdhlfecgnpaaWrapSign
namespace Go.Proofs.Ytiahdhlfecgnpaa
open Go.RowKit
set_option linter.unusedSimpArgs false
theorem tmod_word (a : Int) (_h : -9223372036854775808 ≤ a ∧ a ≤ 9223372036854775807) : (a.tmod 4294967296 < 0 → a.tmod 4294967296 + 4294967296 = word a) ∧ (0 ≤ a.tmod 4294967296 → a.tmod 4294967296 = word a) := by
  unfold word
  by_cases h : 0 ≤ a
  · rw [Int.tmod_eq_emod_of_nonneg h]; omega
  · have e : a.tmod 4294967296 = -((-a) % 4294967296) := by
      rw [← Int.tmod_eq_emod_of_nonneg (by omega : 0 ≤ -a), Int.neg_tmod]; omega
    rw [e]; omega
theorem rword_any (a : Int) (w : World) (h : -9223372036854775808 ≤ a ∧ a ≤ 9223372036854775807) :
    Calls Try.prog 59 #[.int .i64 a] w fun e w' => e = .returned (.int .i64 (word a)) ∧ w = w' := by
  have ht := tmod_word a h
  go_enter Try.func59, Try.ntmps59
  go_wp2
  all_goals
    go_ret
    refine ⟨ret1 (rint ?_), rfl⟩
  · have hw := word_bd a
    exact w64_id (by omega)
  · exact ht.2 (by assumption)
theorem rwrap_any (a : Int) (w : World) (h : -9223372036854775808 ≤ a ∧ a ≤ 9223372036854775807) :
    Calls Try.prog 38 #[.int .i64 a] w fun e w' => e = .returned (.int .i64 (wrap32 a)) ∧ w = w' := by
  have hb := word_bd a
  go_enter Try.func38, Try.ntmps38
  go_wp2_with (go_at_call 59; refine (rword_any _ _ h).mono ?_; rintro e w' ⟨rfl, rfl⟩)
  all_goals
    go_ret
    refine ⟨ret1 (rint ?_), rfl⟩
  · show word a - 4294967296 = _
    unfold word wrap32 at *; omega
  · show word a = _
    unfold word wrap32 at *; omega
theorem rbit_any (b : Bool) (w : World) :
    Calls Try.prog 69 #[.bool b] w fun e w' => e = .returned (.int .i64 (flag b)) ∧ w = w' := by
  cases b <;>
  · go_enter Try.func69, Try.ntmps69
    go_wp2
    go_ret
    exact ⟨ret1 (rint rfl), rfl⟩
theorem rplain_sh (op a b : Int) (w : World) :
    Calls Try.prog 60 #[.int .i64 op, .int .i64 (wrap32 a), .int .i64 (wrap32 b)] w fun e w' => (∃ n, e = .returned (.tuple #[.int .i64 n, .bool (twoB op)]) ∧ wrap32 n = twoN op a b ∧ -9223372036854775808 ≤ n ∧ n ≤ 9223372036854775807) ∧ w = w' := by
  have hx := w32_bd a
  have hy := w32_bd b
  by_cases hop : op = 4 ∨ op = 5
  · have hB : twoB op = true := by unfold twoB; rw [decide_eq_true_iff]; omega
    rw [hB]
    by_cases h0 : wrap32 b = 0
    · have hn : (wrap32 b == 0) = true := by simp [h0]
      have e4 : twoN 4 a b = -1 := by simp [twoN, h0]
      have e5 : twoN 5 a b = wrap32 a := by simp [twoN, h0]
      have E4 := Lib.hid e4; have E5 := Lib.hid e5; clear e4 e5 hB h0
      rcases hop with rfl | rfl
      all_goals
        go_enter Try.func60, Try.ntmps60
        go_wp2
        go_ret2
        refine ⟨⟨_, ret2 (rint rfl) rfl, ?_⟩, rfl⟩
        first | (rw [E4.out]; exact ⟨w32_id (by omega), by omega, by omega⟩) | (rw [E5.out, w32_w32]; exact ⟨rfl, by omega, by omega⟩)
    · have hn : (wrap32 b == 0) = false := by simp [h0]
      have ht := tmod_bd (wrap32 a) (wrap32 b)
      have hq := tdiv_bd (wrap32 a) (wrap32 b)
      have e4 : twoN 4 a b = wrap32 ((wrap32 a).tdiv (wrap32 b)) := by simp [twoN, h0]
      have e5 : twoN 5 a b = wrap32 ((wrap32 a).tmod (wrap32 b)) := by simp [twoN, h0, w32_tmod]
      have E4 := Lib.hid e4; have E5 := Lib.hid e5; clear e4 e5 hB
      rcases hop with rfl | rfl
      all_goals
        go_enter Try.func60, Try.ntmps60
        go_wp2
        go_ret2
        refine ⟨⟨_, ret2 (rint rfl) rfl, ?_⟩, rfl⟩
        first | (rw [E4.out]; exact ⟨rfl, by omega, by omega⟩) | (rw [E5.out]; exact ⟨rfl, by omega, by omega⟩)
  · have hb1 : 0 ≤ bits .and .i64 (wrap32 b) 31 := by rw [and31_i64]; omega
    have hb2 : bits .and .i64 (wrap32 b) 31 ≤ 31 := by rw [and31_i64]; omega
    have hb3 : bits .and .i64 (wrap32 b) 31 ≤ 64 := by omega
    have hn4 : (op == 4) = false := by simp; omega
    have hn5 : (op == 5) = false := by simp; omega
    go_enter Try.func60, Try.ntmps60
    go_wp2_with (first | (go_at_call 69; refine (rbit_any _ _).mono ?_; rintro e w' ⟨rfl, rfl⟩) | (go_at_call 59; refine (rword_any _ _ (by omega)).mono ?_; rintro e w' ⟨rfl, rfl⟩))
    all_goals
      go_ret2
      refine ⟨⟨_, ret2 (rint rfl) (rbool (by unfold twoB; symm; first | (rw [decide_eq_true_iff]; simp only [beq_iff_eq, beq_eq_false_iff_ne, ne_eq] at *; omega) | (rw [decide_eq_false_iff_not]; simp only [beq_iff_eq, beq_eq_false_iff_ne, ne_eq] at *; omega))), ?_⟩, rfl⟩
      simp only [beq_iff_eq, beq_eq_false_iff_ne, ne_eq] at *
      refine ⟨by simp_all [twoN, w32_w64, w32_and64, w32_or64, w32_xor64, and31_i64, w32_mod32, w32_shr, w32_flag, word_w32, w32_0], ?_⟩
      first | exact w64_bd _ | exact bits64_bd _ _ _ | exact flag_bd64 _ | exact shr_bd64 _ _ | (constructor <;> omega)
theorem rtwo_any (op a b : Int) (w : World) (ha : -9223372036854775808 ≤ a ∧ a ≤ 9223372036854775807) (hb : -9223372036854775808 ≤ b ∧ b ≤ 9223372036854775807) :
    Calls Try.prog 39 #[.int .i64 op, .int .i64 a, .int .i64 b] w fun e w' => e = .returned (.tuple #[.int .i64 (twoN op a b), .bool (twoB op)]) ∧ w = w' := by
  go_enter Try.func39, Try.ntmps39
  go_wp2_with fail
  refine (rwrap_any a _ ha).mono ?_; rintro e w' ⟨rfl, rfl⟩
  go_wp2_with fail
  refine (rwrap_any b _ hb).mono ?_; rintro e w' ⟨rfl, rfl⟩
  go_wp2_with fail
  refine (rplain_sh op a b _).mono ?_; rintro e w' ⟨⟨n, rfl, hn, hl, hh⟩, rfl⟩
  have HN := Lib.hid hn; clear hn
  go_wp2_with fail
  refine (rwrap_any n _ ⟨hl, hh⟩).mono ?_; rintro e w' ⟨rfl, rfl⟩
  go_wp2_with fail
  go_ret2
  exact ⟨ret2 (rint HN.out) rfl, rfl⟩
theorem rone_any (op a : Int) (w : World) (ha : -9223372036854775808 ≤ a ∧ a ≤ 9223372036854775807) :
    Calls Try.prog 62 #[.int .i64 op, .int .i64 a] w fun e w' => e = .returned (.tuple #[.int .i64 (oneN op a), .bool (oneB op)]) ∧ w = w' := by
  have hx := w32_bd a
  go_enter Try.func62, Try.ntmps62
  go_wp2_with fail
  refine (rwrap_any a _ ha).mono ?_; rintro e w' ⟨rfl, rfl⟩
  go_wp2_with (first | (go_at_call 69; refine (rbit_any _ _).mono ?_; rintro e w' ⟨rfl, rfl⟩) | (go_at_call 38; refine (rwrap_any _ _ (by omega)).mono ?_; rintro e w' ⟨rfl, rfl⟩))
  all_goals
    go_ret2
    refine ⟨ret2 (rint ?_) (rbool (by unfold oneB; symm; first | (rw [decide_eq_true_iff]; simp only [beq_iff_eq, beq_eq_false_iff_ne, ne_eq] at *; omega) | (rw [decide_eq_false_iff_not]; simp only [beq_iff_eq, beq_eq_false_iff_ne, ne_eq] at *; omega))), rfl⟩
    first | rfl | (simp only [beq_iff_eq, beq_eq_false_iff_ne, ne_eq] at *; simp_all [oneN]; done)
theorem rhigh_any (a b : Int) (s : Bool) (w : World) (ha : -9223372036854775808 ≤ a ∧ a ≤ 9223372036854775807) (hb : -9223372036854775808 ≤ b ∧ b ≤ 9223372036854775807) :
    Calls Try.prog 64 #[.int .i64 a, .int .i64 b, .bool s] w fun e w' => e = .returned (.int .i64 (highN a b s)) ∧ w = w' := by
  have ba := word_bd a
  have bb := word_bd b
  have hk := mul_bd (word a % 65536) (word b % 65536) 65535 65535 (by omega) (by omega)
  have hl := mul_bd (word a / 65536) (word b % 65536) 65535 65535 (by omega) (by omega)
  have hm := mul_bd (word a % 65536) (word b / 65536) 65535 65535 (by omega) (by omega)
  have hn := mul_bd (word a / 65536) (word b / 65536) 65535 65535 (by omega) (by omega)
  have hk0 : 0 ≤ word a % 65536 * (word b % 65536) := Int.mul_nonneg (by omega) (by omega)
  have hl0 : 0 ≤ word a / 65536 * (word b % 65536) := Int.mul_nonneg (by omega) (by omega)
  have hm0 : 0 ≤ word a % 65536 * (word b / 65536) := Int.mul_nonneg (by omega) (by omega)
  have hn0 : 0 ≤ word a / 65536 * (word b / 65536) := Int.mul_nonneg (by omega) (by omega)
  have hh := halves_hi (word a) (word b)
  have hU : highU a b = wrap32 (word a * word b / 4294967296) := rfl
  rw [← hh] at hU
  have HU := Lib.hid hU; have HH := Lib.hid hh; clear hU hh
  cases s
  · go_enter Try.func64, Try.ntmps64
    go_wp2_with fail
    refine (rword_any a _ ha).mono ?_; rintro e w' ⟨rfl, rfl⟩
    go_wp2_with fail
    refine (rword_any b _ hb).mono ?_; rintro e w' ⟨rfl, rfl⟩
    go_wp2_with fail
    refine (rwrap_any _ _ (by omega)).mono ?_; rintro e w' ⟨rfl, rfl⟩
    go_wp2_with fail
    go_ret
    exact ⟨ret1 (rint HU.out.symm), rfl⟩
  · by_cases hA : 2147483648 ≤ word a
    all_goals
      by_cases hB : 2147483648 ≤ word b
      all_goals
        have hS : highN a b true = _ := highS_eq a b
        rw [← HH.out] at hS
        simp only [hA, hB, if_true, if_false, Int.sub_zero] at hS
        have HS := Lib.hid hS; clear hS
        go_enter Try.func64, Try.ntmps64
        go_wp2_with fail
        refine (rword_any a _ ha).mono ?_; rintro e w' ⟨rfl, rfl⟩
        go_wp2_with fail
        refine (rword_any b _ hb).mono ?_; rintro e w' ⟨rfl, rfl⟩
        go_wp2_with fail
        refine (rwrap_any _ _ (by omega)).mono ?_; rintro e w' ⟨rfl, rfl⟩
        go_wp2_with fail
        go_ret
        exact ⟨ret1 (rint HS.out.symm), rfl⟩
end Go.Proofs.Ytiahdhlfecgnpaa
