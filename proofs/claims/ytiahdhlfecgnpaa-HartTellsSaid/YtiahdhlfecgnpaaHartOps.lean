/-
  The contracts of hart.jumps, divided, changed, operators, makes.
-/
import Derived.Test.YtiahdhlfecgnpaaWrapWalks
import Derived.Test.YtiahdhlfecgnpaaBw
import Derived.Test.YtiahdhlfecgnpaaHeap
import Derived.Test.YtiahdhlfecgnpaaPures
import Derived.Laws.Rows
import Derived.Laws.Tables
import Derived.Laws.CopyOwn
import Derived.Deep.DeepCutAuto
import Derived.WalkSpells
import Derived.WalkLawsBesides
namespace Go.Proofs.Ytiahdhlfecgnpaa
open Go.RowKit
def jumpsB (op a b : Int) : Bool :=
  if op = 5 then a == b else if op = 6 then a != b else if op = 7 then decide (a < b) else if op = 8 then decide (b ≤ a) else if op = 9 then decide (word a < word b) else decide (word b ≤ word a)
set_option maxHeartbeats 2000000 in
theorem jumps_any (op a b : Int) (w : World) (h : 5 ≤ op ∧ op ≤ 10) :
    Calls Try.prog 50 #[.int .i64 op, .int .i64 a, .int .i64 b] w fun e w' => e = .returned (.bool (jumpsB op a b)) ∧ w = w' := by
  rcases (by omega : op = 5 ∨ op = 6 ∨ op = 7 ∨ op = 8 ∨ op = 9 ∨ op = 10) with rfl | rfl | rfl | rfl | rfl | rfl
  all_goals
    go_enter Try.func50, Try.ntmps50
    go_wp2
    go_ret
    exact ⟨ret1 (rbool rfl), rfl⟩
def dividedN (op a b : Int) : Int := if op = 36 then (if word b = 0 then -1 else word a / word b) else (if word b = 0 then a else word a % word b)
theorem div_q (a b : Int) (h : ¬ word b = 0) : dividedN 36 a b = (a % 4294967296).tdiv (b % 4294967296) % 4294967296 := by
  have hx := word_bd a
  have hy := word_bd b
  have e : dividedN 36 a b = word a / word b := by unfold dividedN; rw [if_pos rfl, if_neg h]
  have h1 := Int.ediv_le_self (word b) hx.1
  have h2 : 0 ≤ word a / word b := Int.ediv_nonneg hx.1 hy.1
  rw [e, show a % 4294967296 = word a from rfl, show b % 4294967296 = word b from rfl, Int.tdiv_eq_ediv_of_nonneg hx.1]
  omega
theorem div_r (a b : Int) (h : ¬ word b = 0) : dividedN 38 a b = wrap64 (a % 4294967296 % (b % 4294967296)) := by
  have hy := word_bd b
  have e : dividedN 38 a b = word a % word b := by unfold dividedN; rw [if_neg (by decide), if_neg h]
  have h1 : 0 ≤ word a % word b := Int.emod_nonneg _ h
  have h2 : word a % word b < word b := Int.emod_lt_of_pos _ (by omega)
  rw [e, show a % 4294967296 = word a from rfl, show b % 4294967296 = word b from rfl]
  unfold wrap64; omega
theorem div_q0 (a b : Int) (h : word b = 0) : dividedN 36 a b = -1 := by unfold dividedN; rw [if_pos rfl, if_pos h]
theorem div_r0 (a b : Int) (h : word b = 0) : dividedN 38 a b = a := by unfold dividedN; rw [if_neg (by decide), if_pos h]
set_option maxHeartbeats 2000000 in
theorem hdivided_any (op a b : Int) (w : World) (h : op = 36 ∨ op = 38) :
    Calls Try.prog 54 #[.int .i64 op, .int .i64 a, .int .i64 b] w fun e w' => e = .returned (.int .i64 (dividedN op a b)) ∧ w = w' := by
  by_cases h0 : word b = 0
  · have q : (b % 4294967296 == 0) = true := by simpa [word] using h0
    have H0 := Lib.hid h0; clear h0
    rcases h with rfl | rfl
    · go_enter Try.func54, Try.ntmps54
      go_wp2
      go_ret
      exact ⟨ret1 (rint (div_q0 a b H0.out).symm), rfl⟩
    · go_enter Try.func54, Try.ntmps54
      go_wp2
      go_ret
      exact ⟨ret1 (rint (div_r0 a b H0.out).symm), rfl⟩
  · have q : (b % 4294967296 == 0) = false := by simpa [word] using h0
    have H0 := Lib.hid h0; clear h0
    rcases h with rfl | rfl
    · go_enter Try.func54, Try.ntmps54
      go_wp2
      go_ret
      exact ⟨ret1 (rint (div_q a b H0.out).symm), rfl⟩
    · go_enter Try.func54, Try.ntmps54
      go_wp2
      go_ret
      exact ⟨ret1 (rint (div_r a b H0.out).symm), rfl⟩
def opsL : List Int := [0, 0, 0, 0, 0, 0, 0, 0, 0, 0, 0, 0, 0, 1, 11, 12, 8, 7, 6, 9, 0, 10, 1, 2, 9, 11, 12, 8, 0, 10, 7, 6, 3, 0, 0, 4, 0, 5, 0, 0, 0, 0, 0, 0, 0, 0, 0, 0, 0, 1]
def opsT (op : Int) : Int := opsL.getD op.toNat 0
def opsA : Array Value := (opsL.map (Value.int .i64)).toArray
set_option maxRecDepth 100000 in
set_option maxHeartbeats 4000000 in
theorem operators_any (w : World) :
    Calls Try.prog 55 #[] w fun e w' => e = .returned (.agg opsA) ∧ Below w.heap.size w w' := by
  go_enter Try.func55, Try.ntmps55
  go_upto_region 1 with (fail)
  apply wp_region_lit
  refine wpList_pures 1 _ _ ⟨#[.pointer (some ⟨w.heap.size, 0, none⟩), .agg opsA], []⟩ (by kernel_rfl) ?_
  simp only [List.drop_succ_cons, List.drop_zero]
  refine wpList_store_row rfl 80 _ _ rfl w.heap.size opsA rfl rfl 80 _ (new_in w _) (by kernel_rfl) (by kernel_rfl) (by kernel_rfl) ?_
  go_wp2_with fail
  refine bodyPost_ret (v := .agg opsA) (results_cell_row rfl _ _ w.heap.size 80 opsA (0, 0) _ rfl (setRow_heap _ _ _ _ _ _ (new_in w _)) Try.underlying80 rfl (by kernel_rfl)) rfl ⟨rfl, below_setRow (by repeat (first | (with_reducible exact Below.refl _ _) | (with_reducible refine bw_set ?_ ?_ _) | (with_reducible apply bw_alloc) | (with_reducible refine bw_tr ?_ (by with_reducible assumption)) | (with_reducible apply bw_drew) | omega)) (Nat.le_refl _) _⟩
end Go.Proofs.Ytiahdhlfecgnpaa
