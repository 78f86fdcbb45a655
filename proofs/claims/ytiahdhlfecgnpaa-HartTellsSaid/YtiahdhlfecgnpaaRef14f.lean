/-
  The contracts of headstockref14.back, control, set.
-/
import Derived.Test.YtiahdhlfecgnpaaRef14e
namespace Go.Proofs.Ytiahdhlfecgnpaa
open Go.RowKit
set_option linter.unusedSimpArgs false
set_option maxHeartbeats 4000000 in
theorem rback_any (h : Ht) (w : World) (h32 : h.r.length = 32) (hs : 0 ≤ h.st ∧ h.st ≤ 136) :
    Calls Try.prog 42 #[.agg (hA h)] w fun e w' => e = .returned (.agg (hA (rbackH h))) ∧ Below w.heap.size w w' := by
  obtain ⟨g32, g33, _, _, g36, _, _⟩ := hA_fields h h32
  obtain ⟨w0, hw0, hx, hz, hb0, hs0⟩ := two_new w (.cells (hA h) 28) (.cells zA 28)
  have c32 := cell_in hx g32; have c33 := cell_in hx g33; have c36 := cell_in hx g36
  have f32 := frozen_in hx 32; have f33 := frozen_in hx 33
  have HW := Lib.hid hw0
  have HXX : Hid (((w0.setCell ⟨w.heap.size, 32, none⟩ (.int .i64 h.ep)).setCell ⟨w.heap.size, 33, none⟩ (.int .i64 (128 + 8 * (h.st / 128 % 2)))).heap[w.heap.size]? = some (.cells (hA (rbackH h)) 28 (0, 0))) := by
    have s1 := set_heap hx 32 (.int .i64 h.ep) _ (hA_pc h h32 h.ep)
    exact Lib.hid (set_heap s1 33 (.int .i64 (128 + 8 * (h.st / 128 % 2))) _ (hA_st { h with pc := h.ep } h32 _))
  have HZZ : Hid (((w0.setCell ⟨w.heap.size, 32, none⟩ (.int .i64 h.ep)).setCell ⟨w.heap.size, 33, none⟩ (.int .i64 (128 + 8 * (h.st / 128 % 2)))).heap[w.heap.size + 1]? = some (.cells zA 28 (0, 0))) := Lib.hid (heap_set_ne (by omega) (heap_set_ne (by omega) hz))
  have HBB : Hid (Below w.heap.size w ((w0.setCell ⟨w.heap.size, 32, none⟩ (.int .i64 h.ep)).setCell ⟨w.heap.size, 33, none⟩ (.int .i64 (128 + 8 * (h.st / 128 % 2))))) := Lib.hid (bw_set (bw_set hb0 (Nat.le_refl _) _) (Nat.le_refl _) _)
  have hl : (rbackH h).r.length = 32 := h32
  clear hx hz hw0 g32 g33 g36
  generalize hrt : rbackH h = ht at *
  have HRT := Lib.hid hrt; clear hrt
  generalize h.st = st at *
  generalize h.ep = ep at *
  go_enter Try.func42, Try.ntmps42
  go_upto_region 1 with (fail)
  change Code.wp _ _ _ _ ((w.alloc (.cells (hA h) 28)).alloc (.cells zA 28))
  rw [← HW.out]
  go_upto_region 4 with fail
  clear c32 c33 c36 f32 f33
  go_wp2_with (first | (refine wpList_load_row rfl 28 _ rfl (w.heap.size) rfl 28 (hA ht) (0, 0) _ HXX.out Try.underlying28 rfl (infoA (hA_size ht hl)) ?_) | (refine wpList_store_row rfl 28 _ _ rfl (w.heap.size + 1) (hA ht) rfl rfl 28 zA HZZ.out (infoA (hA_size ht hl)) (by rw [hA_size ht hl]; rfl) (hA_one ht) ?_))
  exact bodyPost_ret (v := .agg (hA ht)) (results_cell_row rfl _ _ (w.heap.size + 1) 28 (hA ht) (0, 0) _ rfl (setRow_heap _ _ _ _ _ _ HZZ.out) Try.underlying28 rfl (infoA (hA_size ht hl))) rfl ⟨rfl, below_setRow HBB.out (by omega) _⟩
set_option maxHeartbeats 4000000 in
theorem rcontrol_any (h : Ht) (id csr v : Int) (ok : Bool) (w : World) (h32 : h.r.length = 32) (hid : I64 id) (hr : rctlV h id csr = (v, ok)) :
    Calls Try.prog 61 #[.agg (hA h), .int .i64 id, .int .i64 csr] w fun e w' => e = .returned (.tuple #[.int .i64 v, .bool ok]) ∧ Below w.heap.size w w' := by
  obtain ⟨g32, g33, g34, g35, g36, g37, g38⟩ := hA_fields h h32
  have HI := Lib.hid hid; clear hid
  have hx := new_in w (.cells (hA h) 28)
  have c33 := cell_in hx g33; have c34 := cell_in hx g34; have c35 := cell_in hx g35; have c36 := cell_in hx g36; have c37 := cell_in hx g37; have c38 := cell_in hx g38
  have e : rctlV h id csr = if csr = 768 then (h.st, true) else if csr = 773 then (h.ve, true) else if csr = 832 then (h.sc, true) else if csr = 833 then (h.ep, true) else if csr = 834 then (h.ca, true) else if csr = 1984 then (h.le, true) else if csr = 3860 then (wrap32 id, true) else (0, false) := rfl
  rw [hr] at e
  clear hx hr g32 g33 g34 g35 g36 g37 g38
  generalize h.st = st at *
  generalize h.ve = ve at *
  generalize h.sc = sc at *
  generalize h.ep = ep at *
  generalize h.ca = ca at *
  generalize h.le = le at *
  generalize hA h = A at *
  have q : csr = 768 ∨ csr = 773 ∨ csr = 832 ∨ csr = 833 ∨ csr = 834 ∨ csr = 1984 ∨ csr = 3860 ∨ (csr ≠ 768 ∧ csr ≠ 773 ∧ csr ≠ 832 ∧ csr ≠ 833 ∧ csr ≠ 834 ∧ csr ≠ 1984 ∧ csr ≠ 3860) := by omega
  rcases q with rfl | rfl | rfl | rfl | rfl | rfl | rfl | ⟨a1, a2, a3, a4, a5, a6, a7⟩
  case inr.inr.inr.inr.inr.inr.inr =>
    have q1 := beq_eq_false_iff_ne.2 a1; have q2 := beq_eq_false_iff_ne.2 a2; have q3 := beq_eq_false_iff_ne.2 a3; have q4 := beq_eq_false_iff_ne.2 a4; have q5 := beq_eq_false_iff_ne.2 a5; have q6 := beq_eq_false_iff_ne.2 a6; have q7 := beq_eq_false_iff_ne.2 a7
    rw [if_neg a1, if_neg a2, if_neg a3, if_neg a4, if_neg a5, if_neg a6, if_neg a7] at e
    injection e with e1 e2
    subst e1 e2
    clear a1 a2 a3 a4 a5 a6 a7
    go_enter Try.func61, Try.ntmps61
    go_wp2_with fail
    go_ret2
    exact ⟨rfl, (by repeat (first | (with_reducible exact Below.refl _ _) | (with_reducible refine bw_set ?_ ?_ _) | (with_reducible apply bw_alloc) | (with_reducible refine bw_tr ?_ (by with_reducible assumption)) | (with_reducible apply bw_drew) | omega))⟩
  all_goals
    simp only [Int.reduceEq, if_false, if_true] at e
    injection e with e1 e2
    subst e1 e2
    go_enter Try.func61, Try.ntmps61
    go_wp2_with (go_at_call 38; (with_reducible refine (rwrap_any id _ HI.out).mono ?_); rintro e w' ⟨rfl, rfl⟩)
    go_ret2
    exact ⟨rfl, (by repeat (first | (with_reducible exact Below.refl _ _) | (with_reducible refine bw_set ?_ ?_ _) | (with_reducible apply bw_alloc) | (with_reducible refine bw_tr ?_ (by with_reducible assumption)) | (with_reducible apply bw_drew) | omega))⟩
end Go.Proofs.Ytiahdhlfecgnpaa
