/-
  The walk of the law HartNumbers: label.Number.
-/
import Derived.Test.YtiahdhlfecgnpaaHartNumbersP
import Derived.Deep.QuietTactic
import Derived.BigQuiet
import Derived.Outline
namespace Go.Proofs.Ytiahdhlfecgnpaa
open Go.RowKit
set_option linter.unusedSimpArgs false
set_option maxHeartbeats 4000000 in
theorem number_small (k : Nat) (m : Int) (w : World) (hk : 1 ≤ k ∧ k < 32) (hm : I32 m) (hs : smallB m = true) : Calls Try.prog 26 #[.int .i64 k, .int .i64 m] w (NumPost k m w) := by
  have hs' : -2048 ≤ m ∧ m ≤ 2047 := by simpa [smallB] using hs
  have h1 : (1 : Int) ≤ (k : Int) := by omega
  have h2 : (k : Int) < 32 := by omega
  have E : Hid (numL k m = [⟨13, k, 0, 0, m⟩]) := by unfold numL; rw [if_pos hs]; exact Lib.hid rfl
  clear hs
  go_enter Try.func26, Try.ntmps26
  go_wp2_with fail
  go_ret
  refine ⟨w.heap.size, ?_, ?_, Nat.le_refl _, (by repeat (first | (with_reducible exact Below.refl _ _) | (with_reducible refine bw_set ?_ ?_ _) | (with_reducible apply bw_alloc) | (with_reducible refine bw_tr ?_ (by with_reducible assumption)) | (with_reducible apply bw_drew) | omega))⟩
  · rw [E.out]; rfl
  · rw [E.out]; exact new_in w _
set_option maxHeartbeats 4000000 in
theorem number_big (k : Nat) (m : Int) (w : World) (hk : 1 ≤ k ∧ k < 32) (hm : I32 m) (hs : smallB m = false) : Calls Try.prog 26 #[.int .i64 k, .int .i64 m] w (NumPost k m w) := by
  have hs' : ¬ (-2048 ≤ m ∧ m ≤ 2047) := by simpa [smallB] using hs
  have h1 : (1 : Int) ≤ (k : Int) := by omega
  have h2 : (k : Int) < 32 := by omega
  have E : Hid (numL k m = [⟨1, k, 0, 0, hiN m⟩, ⟨13, k, k, 0, loN m⟩]) := by unfold numL; rw [if_neg (by rw [hs]; simp)]; exact Lib.hid rfl
  clear hs
  by_cases h3 : -2048 ≤ m
  · have h4 : ¬ m ≤ 2047 := by omega
    clear hs'
    go_enter Try.func26, Try.ntmps26
    go_wp2_with fail
    go_ret
    rw [lo_shift, show wrap64 (m - loN m) = m - loN m from w64_id (by have := lo_bd m; obtain ⟨q1, q2⟩ := hm; omega)]
    refine ⟨w.heap.size, ?_, ?_, Nat.le_refl _, (by repeat (first | (with_reducible exact Below.refl _ _) | (with_reducible refine bw_set ?_ ?_ _) | (with_reducible apply bw_alloc) | (with_reducible refine bw_tr ?_ (by with_reducible assumption)) | (with_reducible apply bw_drew) | omega))⟩
    · rw [E.out]; rfl
    · rw [E.out]; exact new_in w _
  · clear hs'
    go_enter Try.func26, Try.ntmps26
    go_wp2_with fail
    go_ret
    rw [lo_shift, show wrap64 (m - loN m) = m - loN m from w64_id (by have := lo_bd m; obtain ⟨q1, q2⟩ := hm; omega)]
    refine ⟨w.heap.size, ?_, ?_, Nat.le_refl _, (by repeat (first | (with_reducible exact Below.refl _ _) | (with_reducible refine bw_set ?_ ?_ _) | (with_reducible apply bw_alloc) | (with_reducible refine bw_tr ?_ (by with_reducible assumption)) | (with_reducible apply bw_drew) | omega))⟩
    · rw [E.out]; rfl
    · rw [E.out]; exact new_in w _
theorem number_any (k : Nat) (m : Int) (w : World) (hk : 1 ≤ k ∧ k < 32) (hm : I32 m) : Calls Try.prog 26 #[.int .i64 k, .int .i64 m] w (NumPost k m w) := by
  cases hs : smallB m
  · exact number_big k m w hk hm hs
  · exact number_small k m w hk hm hs
theorem insC_get (L : List Ins) (h2 : L.length ≤ 2) (i : Nat) (x : Ins) (hx : L[i]? = some x) : (insC L)[i * 5]? = some (.int .i64 x.op) ∧ (insC L)[i * 5 + 1]? = some (.int .i64 x.d) ∧ (insC L)[i * 5 + 2]? = some (.int .i64 x.a) ∧ (insC L)[i * 5 + 3]? = some (.int .i64 x.b) ∧ (insC L)[i * 5 + 4]? = some (.int .i64 x.n) := by
  match L, i, h2, hx with
  | [a], 0, _, hx => cases hx; exact ⟨rfl, rfl, rfl, rfl, rfl⟩
  | [a, b], 0, _, hx => cases hx; exact ⟨rfl, rfl, rfl, rfl, rfl⟩
  | [a, b], 1, _, hx => cases hx; exact ⟨rfl, rfl, rfl, rfl, rfl⟩
  | [], i, _, hx => simp at hx
  | [a], i + 1, _, hx => simp at hx
  | [a, b], i + 2, _, hx => simp at hx
  | a :: b :: c :: l, _, h2, _ => simp at h2
end Go.Proofs.Ytiahdhlfecgnpaa
