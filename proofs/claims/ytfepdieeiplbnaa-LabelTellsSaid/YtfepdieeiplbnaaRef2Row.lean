/-
  The contract of headstockref02.RowOf: the same table.
-/
import Derived.Test.YtfepdieeiplbnaaCodeTab
import Derived.Test.YtfepdieeiplbnaaBw
import Derived.Test.YtfepdieeiplbnaaRows
import Derived.Test.YtfepdieeiplbnaaPures
import Derived.Test.YtfepdieeiplbnaaHeap
import Derived.Deep.DeepCutAuto
namespace Go.Proofs.Ytfepdieeiplbnaa
open Go.RowKit
def rfV (r : Rw) : Value := .agg #[.string r.nm, .int .u8 r.form, .int .i64 r.low, .int .i64 r.mid, .int .i64 r.high]
def rfC (r : Rw) : List Value := [.string r.nm, .int .u8 r.form, .int .i64 r.low, .int .i64 r.mid, .int .i64 r.high]
def rfAg (k : Nat) : Value := rfV (rwL.getD k noRw)
def rfArr : Array Value := (rwL.flatMap rfC).toArray
theorem flat5 (l : List Rw) : ∀ (i : Nat) (h : i < l.length) (j : Nat), j < 5 → (l.flatMap rfC)[i * 5 + j]? = (rfC l[i])[j]? := by
  induction l with
  | nil => intro i h; simp at h
  | cons p l ih =>
    intro i h j hj
    cases i with
    | zero => simp only [List.flatMap_cons, List.getElem_cons_zero]; rw [List.getElem?_append_left (by simp [rfC]; omega)]; simp
    | succ i =>
      rw [List.flatMap_cons, List.getElem?_append_right (by simp [rfC]; omega)]
      rw [show (i + 1) * 5 + j - (rfC p).length = i * 5 + j by simp [rfC]; omega]
      exact ih i (by simpa using h) j hj
theorem rfArr_get (k : Nat) (h : k < 49) (j : Nat) (hj : j < 5) : rfArr[k * 5 + j]? = (rfC (rowT ((k : Int) + 1)))[j]? := by
  have e : rowT ((k : Int) + 1) = rwL[k]'(by show k < 49; exact h) := by
    unfold rowT
    rw [if_pos (by omega), show ((k : Int) + 1 - 1).toNat = k by omega, List.getD_eq_getElem?_getD, List.getElem?_eq_getElem (by show k < 49; exact h)]; rfl
  rw [e]
  unfold rfArr
  rw [List.getElem?_toArray]
  exact flat5 rwL k (by show k < 49; exact h) j hj
set_option maxRecDepth 100000 in
set_option maxHeartbeats 4000000 in
theorem refRow_yes (k : Nat) (w : World) (h : k < 49) :
    Calls Try.prog 43 #[.int .i64 ((k : Int) + 1)] w fun e w' => e = .returned (rfV (rowT ((k : Int) + 1))) ∧ Below w.heap.size w w' := by
  have q1 : decide ((k : Int) + 1 < 1) = false := by simp; omega
  have q2 : decide (49 < (k : Int) + 1) = false := by simp; omega
  have a0 := rfArr_get k h 0 (by omega)
  have a1 := rfArr_get k h 1 (by omega)
  have a2 := rfArr_get k h 2 (by omega)
  have a3 := rfArr_get k h 3 (by omega)
  have a4 := rfArr_get k h 4 (by omega)
  generalize hr : rowT ((k : Int) + 1) = r at *
  have HR := Lib.hid hr; clear hr
  simp only [rfC, List.getElem?_cons_zero, List.getElem?_cons_succ, Nat.add_zero] at a0 a1 a2 a3 a4
  go_enter Try.func43, Try.ntmps43
  go_upto_region 3 with (fail)
  apply wp_region_lit
  refine wpList_pures 49 _ _ ⟨#[(.int .i64 ((k : Int) + 1)), undef, (.pointer (some ⟨w.heap.size, 0, none⟩)), (.int .i64 ((k : Int) + 1)), (.bool false), (.bool false), (.int .i64 ((k : Int) + 1)), (.bool false), (.bool false), undef, (rfAg 0), (rfAg 1), (rfAg 2), (rfAg 3), (rfAg 4), (rfAg 5), (rfAg 6), (rfAg 7), (rfAg 8), (rfAg 9), (rfAg 10), (rfAg 11), (rfAg 12), (rfAg 13), (rfAg 14), (rfAg 15), (rfAg 16), (rfAg 17), (rfAg 18), (rfAg 19), (rfAg 20), (rfAg 21), (rfAg 22), (rfAg 23), (rfAg 24), (rfAg 25), (rfAg 26), (rfAg 27), (rfAg 28), (rfAg 29), (rfAg 30), (rfAg 31), (rfAg 32), (rfAg 33), (rfAg 34), (rfAg 35), (rfAg 36), (rfAg 37), (rfAg 38), (rfAg 39), (rfAg 40), (rfAg 41), (rfAg 42), (rfAg 43), (rfAg 44), (rfAg 45), (rfAg 46), (rfAg 47), (rfAg 48), undef, undef, undef, undef, undef], []⟩ (by kernel_rfl) ?_
  simp only [List.drop_succ_cons, List.drop_zero]
  refine wpList_newAt (.cells rfArr 76) (.slice (some ⟨(w.alloc (.cells #[.string ⟨#[]⟩, .int .u8 0, .int .i64 0, .int .i64 0, .int .i64 0] 76)).heap.size, 0, none⟩) 49 49) rfl (by kernel_rfl) ?_
  rw [World.size_alloc]
  go_wp2_with fail
  refine bodyPost_ret (v := rfV r) (by simp [results, Try.results43, go_sem, rfV]) rfl ⟨rfl, (by repeat (first | (with_reducible exact Below.refl _ _) | (with_reducible refine bw_set ?_ ?_ _) | (with_reducible apply bw_alloc) | (with_reducible refine bw_tr ?_ (by with_reducible assumption)) | (with_reducible apply bw_drew) | omega))⟩
theorem refRow_no (op : Int) (w : World) (h : op < 1 ∨ 49 < op) :
    Calls Try.prog 43 #[.int .i64 op] w fun e w' => e = .returned (rfV noRw) ∧ Below w.heap.size w w' := by
  rcases h with h | h
  · have q1 : decide (op < 1) = true := by simp; omega
    clear h
    go_enter Try.func43, Try.ntmps43
    go_wp2_with fail
    refine bodyPost_ret (v := rfV noRw) (by simp [results, Try.results43, go_sem, rfV, noRw]) rfl ⟨rfl, (by repeat (first | (with_reducible exact Below.refl _ _) | (with_reducible refine bw_set ?_ ?_ _) | (with_reducible apply bw_alloc) | (with_reducible refine bw_tr ?_ (by with_reducible assumption)) | (with_reducible apply bw_drew) | omega))⟩
  · have q1 : decide (op < 1) = false := by simp; omega
    have q2 : decide (49 < op) = true := by simp; omega
    clear h
    go_enter Try.func43, Try.ntmps43
    go_wp2_with fail
    refine bodyPost_ret (v := rfV noRw) (by simp [results, Try.results43, go_sem, rfV, noRw]) rfl ⟨rfl, (by repeat (first | (with_reducible exact Below.refl _ _) | (with_reducible refine bw_set ?_ ?_ _) | (with_reducible apply bw_alloc) | (with_reducible refine bw_tr ?_ (by with_reducible assumption)) | (with_reducible apply bw_drew) | omega))⟩
theorem refRow_any (op : Int) (w : World) :
    Calls Try.prog 43 #[.int .i64 op] w fun e w' => e = .returned (rfV (rowT op)) ∧ Below w.heap.size w w' := by
  by_cases h : 1 ≤ op ∧ op ≤ 49
  · obtain ⟨k, rfl⟩ : ∃ k : Nat, op = (k : Int) + 1 := ⟨(op - 1).toNat, by omega⟩
    exact refRow_yes k w (by omega)
  · rw [rowT_no h]; exact refRow_no op w (by omega)
end Go.Proofs.Ytfepdieeiplbnaa
