/-
  The contracts of headstockref02.has, number, register, bits, signed, Name.
-/
import Derived.Test.YtefebnicclbhjaaRef2Row
import Derived.Test.YtefebnicclbhjaaCodeRow
import Derived.Test.YtefebnicclbhjaaFit02
import Derived.Test.YtefebnicclbhjaaCodeFind
import Derived.LoopN
import Derived.WalkSpells
import Derived.WalkLawsBesides
import Derived.Deep.QuietTactic
import Derived.BigQuiet
namespace Go.Proofs.Ytefebnicclbhjaa
open Go.RowKit
def hasB (f c : Int) : Bool := if c = 68 then (shapeT f).d else if c = 65 then (shapeT f).a else (shapeT f).b
set_option maxHeartbeats 8000000 in
theorem has_any (f c : Int) (w : World) (hf : form12 f) (hc : c = 68 ∨ c = 65 ∨ c = 66) :
    Calls Try.prog 36 #[.int .u8 f, .int .u8 c] w fun e w' => e = .returned (.bool (hasB f c)) ∧ w = w' := by
  rcases hf with rfl | rfl | rfl | rfl | rfl | rfl | rfl | rfl | rfl | rfl | rfl | rfl <;> rcases hc with rfl | rfl | rfl
  all_goals
    go_enter Try.func36, Try.ntmps36
    go_wp2_with fail
    refine wp_loop_rounds 5 ?_
    rw [rounds_succ]
    go_wp2_with fail
    iterate 4 (try (rw [rounds_succ]; go_wp2_with fail))
    go_ret
    exact ⟨rfl, rfl⟩
theorem register_any (n : Int) (is : Bool) (w : World) :
    Calls Try.prog 35 #[.int .i64 n, .bool is] w fun e w' => e = .returned (.bool (mayB n is)) ∧ w = w' := by
  cases h0 : (n == 0) <;> cases is <;> cases h1 : decide (0 < n) <;> cases h2 : decide (n < 32)
  all_goals first
    | (exfalso; simp at h0 h1 h2; omega)
    | (go_enter Try.func35, Try.ntmps35
       go_wp2_with fail
       go_ret
       exact ⟨ret1b (by unfold mayB; rw [h0, h2]; simp at h0 h1 h2 ⊢; try omega), rfl⟩)
theorem signed_any (n : Int) (m : Int) (w : World) (hm : m = 12 ∨ m = 13 ∨ m = 21) (hn : 0 ≤ n ∧ n < 4294967296) :
    Calls Try.prog 47 #[.int .i64 n, .int .i64 m] w fun e w' => e = .returned (.int .i64 (if 2 ^ (m.toNat - 1) ≤ n then n - 2 ^ m.toNat else n)) ∧ w = w' := by
  rcases hm with rfl | rfl | rfl
  · by_cases h : 2048 ≤ n
    · go_enter Try.func47, Try.ntmps47
      go_wp2_with fail
      go_ret
      exact ⟨ret1n (by simp <;> omega), rfl⟩
    · go_enter Try.func47, Try.ntmps47
      go_wp2_with fail
      go_ret
      exact ⟨ret1n (by simp <;> omega), rfl⟩
  · by_cases h : 4096 ≤ n
    · go_enter Try.func47, Try.ntmps47
      go_wp2_with fail
      go_ret
      exact ⟨ret1n (by simp <;> omega), rfl⟩
    · go_enter Try.func47, Try.ntmps47
      go_wp2_with fail
      go_ret
      exact ⟨ret1n (by simp <;> omega), rfl⟩
  · by_cases h : 1048576 ≤ n
    · go_enter Try.func47, Try.ntmps47
      go_wp2_with fail
      go_ret
      exact ⟨ret1n (by simp <;> omega), rfl⟩
    · go_enter Try.func47, Try.ntmps47
      go_wp2_with fail
      go_ret
      exact ⟨ret1n (by simp <;> omega), rfl⟩
def numB (f n : Int) : Bool := decide ((shapeT f).least ≤ n) && (decide (n ≤ (shapeT f).most) && modB n (shapeT f).step)
set_option maxHeartbeats 8000000 in
theorem refNumber_any (f n : Int) (w : World) (hf : form12 f) :
    Calls Try.prog 37 #[.int .u8 f, .int .i64 n] w fun e w' => e = .returned (.bool (numB f n)) ∧ w = w' := by
  rcases hf with rfl | rfl | rfl | rfl | rfl | rfl | rfl | rfl | rfl | rfl | rfl | rfl
  · cases h1 : (n == 0)
    all_goals
      have E := Lib.hid (show numB 82 n = (n == 0) by unfold numB; rw [Bool.eq_iff_iff]; simp [shapeT, modB]; omega)
      rw [h1] at E
      go_enter Try.func37, Try.ntmps37
      go_wp2_with fail
      go_ret
      exact ⟨ret1b E.out.symm, rfl⟩
  · have E := Lib.hid (show numB 73 n = (decide (-2048 ≤ n) && decide (n ≤ 2047)) by simp [numB, shapeT, modB])
    cases h1 : decide (-2048 ≤ n) <;> cases h2 : decide (n ≤ 2047)
    all_goals
      rw [h1, h2] at E
      go_enter Try.func37, Try.ntmps37
      go_wp2_with fail
      go_ret
      exact ⟨ret1b E.out.symm, rfl⟩
  · have E := Lib.hid (show numB 72 n = (decide (0 ≤ n) && decide (n ≤ 31)) by simp [numB, shapeT, modB])
    cases h1 : decide (0 ≤ n) <;> cases h2 : decide (n ≤ 31)
    all_goals
      rw [h1, h2] at E
      go_enter Try.func37, Try.ntmps37
      go_wp2_with fail
      go_ret
      exact ⟨ret1b E.out.symm, rfl⟩
  · have E := Lib.hid (show numB 83 n = (decide (-2048 ≤ n) && decide (n ≤ 2047)) by simp [numB, shapeT, modB])
    cases h1 : decide (-2048 ≤ n) <;> cases h2 : decide (n ≤ 2047)
    all_goals
      rw [h1, h2] at E
      go_enter Try.func37, Try.ntmps37
      go_wp2_with fail
      go_ret
      exact ⟨ret1b E.out.symm, rfl⟩
  · have E := Lib.hid (show numB 66 n = (decide (-4096 ≤ n) && (decide (n ≤ 4094) && (n.tmod 2 == 0))) by simp [numB, shapeT, modB])
    cases h1 : decide (-4096 ≤ n) <;> cases h2 : decide (n ≤ 4094) <;> cases h3 : (n.tmod 2 == 0)
    all_goals
      rw [h1, h2, h3] at E
      go_enter Try.func37, Try.ntmps37
      go_wp2_with fail
      go_ret
      exact ⟨ret1b E.out.symm, rfl⟩
  · have E := Lib.hid (show numB 85 n = (decide (0 ≤ n) && decide (n < 1048576)) by rw [Bool.eq_iff_iff]; simp [numB, shapeT, modB]; omega)
    cases h1 : decide (0 ≤ n) <;> cases h2 : decide (n < 1048576)
    all_goals
      rw [h1, h2] at E
      go_enter Try.func37, Try.ntmps37
      go_wp2_with fail
      go_ret
      exact ⟨ret1b E.out.symm, rfl⟩
  · have E := Lib.hid (show numB 74 n = (decide (-1048576 ≤ n) && (decide (n ≤ 1048574) && (n.tmod 2 == 0))) by simp [numB, shapeT, modB])
    cases h1 : decide (-1048576 ≤ n) <;> cases h2 : decide (n ≤ 1048574) <;> cases h3 : (n.tmod 2 == 0)
    all_goals
      rw [h1, h2, h3] at E
      go_enter Try.func37, Try.ntmps37
      go_wp2_with fail
      go_ret
      exact ⟨ret1b E.out.symm, rfl⟩
  · have E := Lib.hid (show numB 70 n = (decide (0 ≤ n) && decide (n ≤ 255)) by simp [numB, shapeT, modB])
    cases h1 : decide (0 ≤ n) <;> cases h2 : decide (n ≤ 255)
    all_goals
      rw [h1, h2] at E
      go_enter Try.func37, Try.ntmps37
      go_wp2_with fail
      go_ret
      exact ⟨ret1b E.out.symm, rfl⟩
  · have E := Lib.hid (show numB 67 n = (decide (0 ≤ n) && decide (n ≤ 4095)) by simp [numB, shapeT, modB])
    cases h1 : decide (0 ≤ n) <;> cases h2 : decide (n ≤ 4095)
    all_goals
      rw [h1, h2] at E
      go_enter Try.func37, Try.ntmps37
      go_wp2_with fail
      go_ret
      exact ⟨ret1b E.out.symm, rfl⟩
  · have E := Lib.hid (show numB 76 n = (decide (0 ≤ n) && decide (n ≤ 3)) by simp [numB, shapeT, modB])
    cases h1 : decide (0 ≤ n) <;> cases h2 : decide (n ≤ 3)
    all_goals
      rw [h1, h2] at E
      go_enter Try.func37, Try.ntmps37
      go_wp2_with fail
      go_ret
      exact ⟨ret1b E.out.symm, rfl⟩
  · have E := Lib.hid (show numB 65 n = (decide (0 ≤ n) && decide (n ≤ 3)) by simp [numB, shapeT, modB])
    cases h1 : decide (0 ≤ n) <;> cases h2 : decide (n ≤ 3)
    all_goals
      rw [h1, h2] at E
      go_enter Try.func37, Try.ntmps37
      go_wp2_with fail
      go_ret
      exact ⟨ret1b E.out.symm, rfl⟩
  · cases h1 : (n == 0)
    all_goals
      have E := Lib.hid (show numB 90 n = (n == 0) by unfold numB; rw [Bool.eq_iff_iff]; simp [shapeT, modB]; omega)
      rw [h1] at E
      go_enter Try.func37, Try.ntmps37
      go_wp2_with fail
      go_ret
      exact ⟨ret1b E.out.symm, rfl⟩
theorem bits_u (n : Int) (h : n < 0) : n.tmod 4294967296 = if n % 4294967296 = 0 then 0 else n % 4294967296 - 4294967296 := by
  rw [Int.tmod_eq_emod]
  split <;> split <;> omega
theorem bits_fin (u : Int) (fr mn : Nat) (h : 0 ≤ u ∧ u < 4294967296) : (u / 2 ^ fr).tmod ((2 ^ mn : Nat) : Int) = ((fieldN u.toNat fr mn : Nat) : Int) := by
  obtain ⟨k, rfl⟩ := Int.eq_ofNat_of_zero_le h.1
  rw [pow_int, ← Int.natCast_ediv, Int.tmod_eq_emod_of_nonneg (Int.natCast_nonneg _), ← Int.natCast_emod]
  rfl
set_option maxHeartbeats 2000000 in
theorem bits_any (n : Int) (fr mn : Nat) (w : World) (_ : I64 n) (hf : fr < 32) (hm : mn < 32) :
    Calls Try.prog 32 #[.int .i64 n, .int .i64 fr, .int .i64 mn] w fun e w' => e = .returned (.int .i64 (fieldN (n % 4294967296).toNat fr mn : Nat)) ∧ ∃ q, w' = w.drewN q := by
  have hu : 0 ≤ n % 4294967296 ∧ n % 4294967296 < 4294967296 := by omega
  have E := Lib.hid (bits_fin (n % 4294967296) fr mn hu)
  have p1 := pow_le31 mn hm
  have p2 : 0 < 2 ^ mn := Nat.two_pow_pos mn
  have hu2 := bits_u n
  generalize hU : n % 4294967296 = u at *
  obtain ⟨P, hP⟩ : ∃ P : Nat, P = 2 ^ mn := ⟨_, rfl⟩
  rw [← hP] at E p1 p2
  have ep : IntKind.i64.wrap (2 ^ mn) = (P : Int) := by rw [pow_int, ← hP]; exact IntWalk.i64_in _ (by omega)
  have hz : ((P : Int) == 0) = false := by simp; omega
  clear hP
  by_cases h0 : 0 ≤ n
  · clear hu2
    have HU := Lib.hid hU
    go_enter Try.func32, Try.ntmps32
    go_wp2_with fail
    clear hU
    go_quiet (fail)
    go_wp2_with fail
    go_ret
    exact ⟨ret1n (by rw [HU.out]; exact E.out), _, rfl⟩
  · have hu3 := hu2 (by omega)
    clear hu2
    by_cases hz0 : u = 0
    · rw [if_pos hz0] at hu3
      subst hz0
      clear hU
      go_enter Try.func32, Try.ntmps32
      go_wp2_with fail
      clear hu3
      go_quiet (fail)
      go_wp2_with fail
      go_ret
      exact ⟨ret1n (by simpa using E.out), _, rfl⟩
    · rw [if_neg hz0] at hu3
      clear hU
      go_enter Try.func32, Try.ntmps32
      go_wp2_with fail
      clear hu3
      go_quiet (fail)
      go_wp2_with fail
      go_ret
      exact ⟨ret1n (by simpa using E.out), _, rfl⟩
theorem refName_any (op : Int) (w : World) :
    Calls Try.prog 18 #[.int .i64 op] w fun e w' => e = .returned (.string (rowT op).nm) ∧ Below w.heap.size w w' := by
  have hfld : ∀ (r : Rw) (w : World), (Instr.field 43 (.agg #[.string r.nm, .int .u8 r.form, .int .i64 r.low, .int .i64 r.mid, .int .i64 r.high]) 0).run Try.prog w = .ok (.string r.nm) w := fun r w => by kernel_rfl
  go_enter Try.func18, Try.ntmps18
  go_wp2_with fail
  refine (refRow_any _ _).mono ?_
  rintro e w1 ⟨rfl, hb1⟩
  unfold rfV
  go_wp2_with fail
  go_ret
  exact ⟨rfl, (by repeat (first | (with_reducible exact Below.refl _ _) | (with_reducible refine bw_set ?_ ?_ _) | (with_reducible apply bw_alloc) | (with_reducible refine bw_tr ?_ (by with_reducible assumption)) | (with_reducible apply bw_drew) | omega))⟩
end Go.Proofs.Ytefebnicclbhjaa
