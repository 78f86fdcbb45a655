/-
  The contracts of headstockref02.has, number, register, bits, signed, Name.
-/
import Derived.Test.YtiahdhlfecgnpaaRef2Row
import Derived.Test.YtiahdhlfecgnpaaCodeRow
import Derived.Test.YtiahdhlfecgnpaaFit02
import Derived.LoopN
import Derived.WalkSpells
import Derived.WalkLawsBesides
import Derived.Deep.QuietTactic
import Derived.BigQuiet
namespace Go.Proofs.Ytiahdhlfecgnpaa
open Go.RowKit
def hasB (f c : Int) : Bool := if c = 68 then (shapeT f).d else if c = 65 then (shapeT f).a else (shapeT f).b
set_option maxHeartbeats 8000000 in
theorem has_any (f c : Int) (w : World) (hf : form12 f) (hc : c = 68 ∨ c = 65 ∨ c = 66) :
    Calls Try.prog 57 #[.int .u8 f, .int .u8 c] w fun e w' => e = .returned (.bool (hasB f c)) ∧ w = w' := by
  rcases hf with rfl | rfl | rfl | rfl | rfl | rfl | rfl | rfl | rfl | rfl | rfl | rfl <;> rcases hc with rfl | rfl | rfl
  all_goals
    go_enter Try.func57, Try.ntmps57
    go_wp2_with fail
    refine wp_loop_rounds 5 ?_
    rw [rounds_succ]
    go_wp2_with fail
    iterate 4 (try (rw [rounds_succ]; go_wp2_with fail))
    go_ret
    exact ⟨rfl, rfl⟩
theorem register_any (n : Int) (is : Bool) (w : World) :
    Calls Try.prog 56 #[.int .i64 n, .bool is] w fun e w' => e = .returned (.bool (mayB n is)) ∧ w = w' := by
  cases h0 : (n == 0) <;> cases is <;> cases h1 : decide (0 < n) <;> cases h2 : decide (n < 32)
  all_goals first
    | (exfalso; simp at h0 h1 h2; omega)
    | (go_enter Try.func56, Try.ntmps56
       go_wp2_with fail
       go_ret
       exact ⟨ret1b (by unfold mayB; rw [h0, h2]; simp at h0 h1 h2 ⊢; try omega), rfl⟩)
def numB (f n : Int) : Bool := decide ((shapeT f).least ≤ n) && (decide (n ≤ (shapeT f).most) && modB n (shapeT f).step)
set_option maxHeartbeats 8000000 in
theorem refNumber_any (f n : Int) (w : World) (hf : form12 f) :
    Calls Try.prog 58 #[.int .u8 f, .int .i64 n] w fun e w' => e = .returned (.bool (numB f n)) ∧ w = w' := by
  rcases hf with rfl | rfl | rfl | rfl | rfl | rfl | rfl | rfl | rfl | rfl | rfl | rfl
  · cases h1 : (n == 0)
    all_goals
      have E := Lib.hid (show numB 82 n = (n == 0) by unfold numB; rw [Bool.eq_iff_iff]; simp [shapeT, modB]; omega)
      rw [h1] at E
      go_enter Try.func58, Try.ntmps58
      go_wp2_with fail
      go_ret
      exact ⟨ret1b E.out.symm, rfl⟩
  · have E := Lib.hid (show numB 73 n = (decide (-2048 ≤ n) && decide (n ≤ 2047)) by simp [numB, shapeT, modB])
    cases h1 : decide (-2048 ≤ n) <;> cases h2 : decide (n ≤ 2047)
    all_goals
      rw [h1, h2] at E
      go_enter Try.func58, Try.ntmps58
      go_wp2_with fail
      go_ret
      exact ⟨ret1b E.out.symm, rfl⟩
  · have E := Lib.hid (show numB 72 n = (decide (0 ≤ n) && decide (n ≤ 31)) by simp [numB, shapeT, modB])
    cases h1 : decide (0 ≤ n) <;> cases h2 : decide (n ≤ 31)
    all_goals
      rw [h1, h2] at E
      go_enter Try.func58, Try.ntmps58
      go_wp2_with fail
      go_ret
      exact ⟨ret1b E.out.symm, rfl⟩
  · have E := Lib.hid (show numB 83 n = (decide (-2048 ≤ n) && decide (n ≤ 2047)) by simp [numB, shapeT, modB])
    cases h1 : decide (-2048 ≤ n) <;> cases h2 : decide (n ≤ 2047)
    all_goals
      rw [h1, h2] at E
      go_enter Try.func58, Try.ntmps58
      go_wp2_with fail
      go_ret
      exact ⟨ret1b E.out.symm, rfl⟩
  · have E := Lib.hid (show numB 66 n = (decide (-4096 ≤ n) && (decide (n ≤ 4094) && (n.tmod 2 == 0))) by simp [numB, shapeT, modB])
    cases h1 : decide (-4096 ≤ n) <;> cases h2 : decide (n ≤ 4094) <;> cases h3 : (n.tmod 2 == 0)
    all_goals
      rw [h1, h2, h3] at E
      go_enter Try.func58, Try.ntmps58
      go_wp2_with fail
      go_ret
      exact ⟨ret1b E.out.symm, rfl⟩
  · have E := Lib.hid (show numB 85 n = (decide (0 ≤ n) && decide (n < 1048576)) by rw [Bool.eq_iff_iff]; simp [numB, shapeT, modB]; omega)
    cases h1 : decide (0 ≤ n) <;> cases h2 : decide (n < 1048576)
    all_goals
      rw [h1, h2] at E
      go_enter Try.func58, Try.ntmps58
      go_wp2_with fail
      go_ret
      exact ⟨ret1b E.out.symm, rfl⟩
  · have E := Lib.hid (show numB 74 n = (decide (-1048576 ≤ n) && (decide (n ≤ 1048574) && (n.tmod 2 == 0))) by simp [numB, shapeT, modB])
    cases h1 : decide (-1048576 ≤ n) <;> cases h2 : decide (n ≤ 1048574) <;> cases h3 : (n.tmod 2 == 0)
    all_goals
      rw [h1, h2, h3] at E
      go_enter Try.func58, Try.ntmps58
      go_wp2_with fail
      go_ret
      exact ⟨ret1b E.out.symm, rfl⟩
  · have E := Lib.hid (show numB 70 n = (decide (0 ≤ n) && decide (n ≤ 255)) by simp [numB, shapeT, modB])
    cases h1 : decide (0 ≤ n) <;> cases h2 : decide (n ≤ 255)
    all_goals
      rw [h1, h2] at E
      go_enter Try.func58, Try.ntmps58
      go_wp2_with fail
      go_ret
      exact ⟨ret1b E.out.symm, rfl⟩
  · have E := Lib.hid (show numB 67 n = (decide (0 ≤ n) && decide (n ≤ 4095)) by simp [numB, shapeT, modB])
    cases h1 : decide (0 ≤ n) <;> cases h2 : decide (n ≤ 4095)
    all_goals
      rw [h1, h2] at E
      go_enter Try.func58, Try.ntmps58
      go_wp2_with fail
      go_ret
      exact ⟨ret1b E.out.symm, rfl⟩
  · have E := Lib.hid (show numB 76 n = (decide (0 ≤ n) && decide (n ≤ 3)) by simp [numB, shapeT, modB])
    cases h1 : decide (0 ≤ n) <;> cases h2 : decide (n ≤ 3)
    all_goals
      rw [h1, h2] at E
      go_enter Try.func58, Try.ntmps58
      go_wp2_with fail
      go_ret
      exact ⟨ret1b E.out.symm, rfl⟩
  · have E := Lib.hid (show numB 65 n = (decide (0 ≤ n) && decide (n ≤ 3)) by simp [numB, shapeT, modB])
    cases h1 : decide (0 ≤ n) <;> cases h2 : decide (n ≤ 3)
    all_goals
      rw [h1, h2] at E
      go_enter Try.func58, Try.ntmps58
      go_wp2_with fail
      go_ret
      exact ⟨ret1b E.out.symm, rfl⟩
  · cases h1 : (n == 0)
    all_goals
      have E := Lib.hid (show numB 90 n = (n == 0) by unfold numB; rw [Bool.eq_iff_iff]; simp [shapeT, modB]; omega)
      rw [h1] at E
      go_enter Try.func58, Try.ntmps58
      go_wp2_with fail
      go_ret
      exact ⟨ret1b E.out.symm, rfl⟩
end Go.Proofs.Ytiahdhlfecgnpaa
