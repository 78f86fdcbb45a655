/-
  The contract of headstockref14.set (printed by gen_ref14set.py).
-/
import Derived.Test.YtiahdhlfecgnpaaRef14f
namespace Go.Proofs.Ytiahdhlfecgnpaa
open Go.RowKit
set_option linter.unusedSimpArgs false
set_option maxHeartbeats 4000000 in
theorem rset_768 (h : Ht) (n : Int) (w : World) (h32 : h.r.length = 32) (hn : I64 n) :
    Calls Try.prog 63 #[.agg (hA h), .int .i64 768, .int .i64 n] w fun e w' => e = .returned (.agg (hA (rsetH h 768 n))) ∧ Below w.heap.size w w' := by
  have HN := Lib.hid hn; clear hn
  have hh : Hid (rsetH h 768 n = { h with st := twoN 6 n 136 }) := Lib.hid (by unfold rsetH; simp only [Int.reduceEq, if_false, if_true])
  have hl := rset_len 768 n h32
  obtain ⟨w0, hw0, hx, hz, hb0, hs0⟩ := two_new w (.cells (hA h) 28) (.cells zA 28)
  have c0 := cell_in hx (hA_fields h h32).2.1
  have f0 := frozen_in hx 33
  have HW := Lib.hid hw0
  have HXX : Hid ((w0.setCell ⟨w.heap.size, 33, none⟩ (.int .i64 (twoN 6 n 136))).heap[w.heap.size]? = some (.cells (hA (rsetH h 768 n)) 28 (0, 0))) := by
    have s1 := set_heap hx 33 (.int .i64 (twoN 6 n 136)) _ (hA_st h h32 (twoN 6 n 136))
    rw [hh.out]; exact Lib.hid s1
  have HZZ : Hid ((w0.setCell ⟨w.heap.size, 33, none⟩ (.int .i64 (twoN 6 n 136))).heap[w.heap.size + 1]? = some (.cells zA 28 (0, 0))) := Lib.hid (heap_set_ne (by omega) hz)
  have HBB : Hid (Below w.heap.size w (w0.setCell ⟨w.heap.size, 33, none⟩ (.int .i64 (twoN 6 n 136)))) := Lib.hid (bw_set hb0 (Nat.le_refl _) _)
  clear hx hz hw0 hh
  generalize hrt : rsetH h 768 n = ht at *
  have HRT := Lib.hid hrt; clear hrt
  go_enter Try.func63, Try.ntmps63
  go_upto_region 1 with (fail)
  change Code.wp _ _ _ _ ((w.alloc (.cells (hA h) 28)).alloc (.cells zA 28))
  rw [← HW.out]
  go_upto_region 15 with (first | (go_at_call 39; (with_reducible refine (rtwo_any 6 n (-4) _ HN.out (by decide)).mono ?_); rintro e w' ⟨rfl, rfl⟩) | (go_at_call 39; (with_reducible refine (rtwo_any 6 n 136 _ HN.out (by decide)).mono ?_); rintro e w' ⟨rfl, rfl⟩))
  clear c0 f0
  go_wp2_with (first | (refine wpList_load_row rfl 28 _ rfl (w.heap.size) rfl 28 (hA ht) (0, 0) _ HXX.out Try.underlying28 rfl (infoA (hA_size ht hl)) ?_) | (refine wpList_store_row rfl 28 _ _ rfl (w.heap.size + 1) (hA ht) rfl rfl 28 zA HZZ.out (infoA (hA_size ht hl)) (by rw [hA_size ht hl]; rfl) (hA_one ht) ?_))
  exact bodyPost_ret (v := .agg (hA ht)) (results_cell_row rfl _ _ (w.heap.size + 1) 28 (hA ht) (0, 0) _ rfl (setRow_heap _ _ _ _ _ _ HZZ.out) Try.underlying28 rfl (infoA (hA_size ht hl))) rfl ⟨rfl, below_setRow HBB.out (by omega) _⟩
set_option maxHeartbeats 4000000 in
theorem rset_773 (h : Ht) (n : Int) (w : World) (h32 : h.r.length = 32) (hn : I64 n) :
    Calls Try.prog 63 #[.agg (hA h), .int .i64 773, .int .i64 n] w fun e w' => e = .returned (.agg (hA (rsetH h 773 n))) ∧ Below w.heap.size w w' := by
  have HN := Lib.hid hn; clear hn
  have hh : Hid (rsetH h 773 n = { h with ve := twoN 6 n (-4) }) := Lib.hid (by unfold rsetH; simp only [Int.reduceEq, if_false, if_true])
  have hl := rset_len 773 n h32
  obtain ⟨w0, hw0, hx, hz, hb0, hs0⟩ := two_new w (.cells (hA h) 28) (.cells zA 28)
  have c0 := cell_in hx (hA_fields h h32).2.2.1
  have f0 := frozen_in hx 34
  have HW := Lib.hid hw0
  have HXX : Hid ((w0.setCell ⟨w.heap.size, 34, none⟩ (.int .i64 (twoN 6 n (-4)))).heap[w.heap.size]? = some (.cells (hA (rsetH h 773 n)) 28 (0, 0))) := by
    have s1 := set_heap hx 34 (.int .i64 (twoN 6 n (-4))) _ (hA_ve h h32 (twoN 6 n (-4)))
    rw [hh.out]; exact Lib.hid s1
  have HZZ : Hid ((w0.setCell ⟨w.heap.size, 34, none⟩ (.int .i64 (twoN 6 n (-4)))).heap[w.heap.size + 1]? = some (.cells zA 28 (0, 0))) := Lib.hid (heap_set_ne (by omega) hz)
  have HBB : Hid (Below w.heap.size w (w0.setCell ⟨w.heap.size, 34, none⟩ (.int .i64 (twoN 6 n (-4))))) := Lib.hid (bw_set hb0 (Nat.le_refl _) _)
  clear hx hz hw0 hh
  generalize hrt : rsetH h 773 n = ht at *
  have HRT := Lib.hid hrt; clear hrt
  go_enter Try.func63, Try.ntmps63
  go_upto_region 1 with (fail)
  change Code.wp _ _ _ _ ((w.alloc (.cells (hA h) 28)).alloc (.cells zA 28))
  rw [← HW.out]
  go_upto_region 15 with (first | (go_at_call 39; (with_reducible refine (rtwo_any 6 n (-4) _ HN.out (by decide)).mono ?_); rintro e w' ⟨rfl, rfl⟩) | (go_at_call 39; (with_reducible refine (rtwo_any 6 n 136 _ HN.out (by decide)).mono ?_); rintro e w' ⟨rfl, rfl⟩))
  clear c0 f0
  go_wp2_with (first | (refine wpList_load_row rfl 28 _ rfl (w.heap.size) rfl 28 (hA ht) (0, 0) _ HXX.out Try.underlying28 rfl (infoA (hA_size ht hl)) ?_) | (refine wpList_store_row rfl 28 _ _ rfl (w.heap.size + 1) (hA ht) rfl rfl 28 zA HZZ.out (infoA (hA_size ht hl)) (by rw [hA_size ht hl]; rfl) (hA_one ht) ?_))
  exact bodyPost_ret (v := .agg (hA ht)) (results_cell_row rfl _ _ (w.heap.size + 1) 28 (hA ht) (0, 0) _ rfl (setRow_heap _ _ _ _ _ _ HZZ.out) Try.underlying28 rfl (infoA (hA_size ht hl))) rfl ⟨rfl, below_setRow HBB.out (by omega) _⟩
set_option maxHeartbeats 4000000 in
theorem rset_832 (h : Ht) (n : Int) (w : World) (h32 : h.r.length = 32) (hn : I64 n) :
    Calls Try.prog 63 #[.agg (hA h), .int .i64 832, .int .i64 n] w fun e w' => e = .returned (.agg (hA (rsetH h 832 n))) ∧ Below w.heap.size w w' := by
  have HN := Lib.hid hn; clear hn
  have hh : Hid (rsetH h 832 n = { h with sc := n }) := Lib.hid (by unfold rsetH; simp only [Int.reduceEq, if_false, if_true])
  have hl := rset_len 832 n h32
  obtain ⟨w0, hw0, hx, hz, hb0, hs0⟩ := two_new w (.cells (hA h) 28) (.cells zA 28)
  have c0 := cell_in hx (hA_fields h h32).2.2.2.1
  have f0 := frozen_in hx 35
  have HW := Lib.hid hw0
  have HXX : Hid ((w0.setCell ⟨w.heap.size, 35, none⟩ (.int .i64 (n))).heap[w.heap.size]? = some (.cells (hA (rsetH h 832 n)) 28 (0, 0))) := by
    have s1 := set_heap hx 35 (.int .i64 (n)) _ (hA_sc h h32 (n))
    rw [hh.out]; exact Lib.hid s1
  have HZZ : Hid ((w0.setCell ⟨w.heap.size, 35, none⟩ (.int .i64 (n))).heap[w.heap.size + 1]? = some (.cells zA 28 (0, 0))) := Lib.hid (heap_set_ne (by omega) hz)
  have HBB : Hid (Below w.heap.size w (w0.setCell ⟨w.heap.size, 35, none⟩ (.int .i64 (n)))) := Lib.hid (bw_set hb0 (Nat.le_refl _) _)
  clear hx hz hw0 hh
  generalize hrt : rsetH h 832 n = ht at *
  have HRT := Lib.hid hrt; clear hrt
  go_enter Try.func63, Try.ntmps63
  go_upto_region 1 with (fail)
  change Code.wp _ _ _ _ ((w.alloc (.cells (hA h) 28)).alloc (.cells zA 28))
  rw [← HW.out]
  go_upto_region 15 with (first | (go_at_call 39; (with_reducible refine (rtwo_any 6 n (-4) _ HN.out (by decide)).mono ?_); rintro e w' ⟨rfl, rfl⟩) | (go_at_call 39; (with_reducible refine (rtwo_any 6 n 136 _ HN.out (by decide)).mono ?_); rintro e w' ⟨rfl, rfl⟩))
  clear c0 f0
  go_wp2_with (first | (refine wpList_load_row rfl 28 _ rfl (w.heap.size) rfl 28 (hA ht) (0, 0) _ HXX.out Try.underlying28 rfl (infoA (hA_size ht hl)) ?_) | (refine wpList_store_row rfl 28 _ _ rfl (w.heap.size + 1) (hA ht) rfl rfl 28 zA HZZ.out (infoA (hA_size ht hl)) (by rw [hA_size ht hl]; rfl) (hA_one ht) ?_))
  exact bodyPost_ret (v := .agg (hA ht)) (results_cell_row rfl _ _ (w.heap.size + 1) 28 (hA ht) (0, 0) _ rfl (setRow_heap _ _ _ _ _ _ HZZ.out) Try.underlying28 rfl (infoA (hA_size ht hl))) rfl ⟨rfl, below_setRow HBB.out (by omega) _⟩
set_option maxHeartbeats 4000000 in
theorem rset_833 (h : Ht) (n : Int) (w : World) (h32 : h.r.length = 32) (hn : I64 n) :
    Calls Try.prog 63 #[.agg (hA h), .int .i64 833, .int .i64 n] w fun e w' => e = .returned (.agg (hA (rsetH h 833 n))) ∧ Below w.heap.size w w' := by
  have HN := Lib.hid hn; clear hn
  have hh : Hid (rsetH h 833 n = { h with ep := twoN 6 n (-4) }) := Lib.hid (by unfold rsetH; simp only [Int.reduceEq, if_false, if_true])
  have hl := rset_len 833 n h32
  obtain ⟨w0, hw0, hx, hz, hb0, hs0⟩ := two_new w (.cells (hA h) 28) (.cells zA 28)
  have c0 := cell_in hx (hA_fields h h32).2.2.2.2.1
  have f0 := frozen_in hx 36
  have HW := Lib.hid hw0
  have HXX : Hid ((w0.setCell ⟨w.heap.size, 36, none⟩ (.int .i64 (twoN 6 n (-4)))).heap[w.heap.size]? = some (.cells (hA (rsetH h 833 n)) 28 (0, 0))) := by
    have s1 := set_heap hx 36 (.int .i64 (twoN 6 n (-4))) _ (hA_ep h h32 (twoN 6 n (-4)))
    rw [hh.out]; exact Lib.hid s1
  have HZZ : Hid ((w0.setCell ⟨w.heap.size, 36, none⟩ (.int .i64 (twoN 6 n (-4)))).heap[w.heap.size + 1]? = some (.cells zA 28 (0, 0))) := Lib.hid (heap_set_ne (by omega) hz)
  have HBB : Hid (Below w.heap.size w (w0.setCell ⟨w.heap.size, 36, none⟩ (.int .i64 (twoN 6 n (-4))))) := Lib.hid (bw_set hb0 (Nat.le_refl _) _)
  clear hx hz hw0 hh
  generalize hrt : rsetH h 833 n = ht at *
  have HRT := Lib.hid hrt; clear hrt
  go_enter Try.func63, Try.ntmps63
  go_upto_region 1 with (fail)
  change Code.wp _ _ _ _ ((w.alloc (.cells (hA h) 28)).alloc (.cells zA 28))
  rw [← HW.out]
  go_upto_region 15 with (first | (go_at_call 39; (with_reducible refine (rtwo_any 6 n (-4) _ HN.out (by decide)).mono ?_); rintro e w' ⟨rfl, rfl⟩) | (go_at_call 39; (with_reducible refine (rtwo_any 6 n 136 _ HN.out (by decide)).mono ?_); rintro e w' ⟨rfl, rfl⟩))
  clear c0 f0
  go_wp2_with (first | (refine wpList_load_row rfl 28 _ rfl (w.heap.size) rfl 28 (hA ht) (0, 0) _ HXX.out Try.underlying28 rfl (infoA (hA_size ht hl)) ?_) | (refine wpList_store_row rfl 28 _ _ rfl (w.heap.size + 1) (hA ht) rfl rfl 28 zA HZZ.out (infoA (hA_size ht hl)) (by rw [hA_size ht hl]; rfl) (hA_one ht) ?_))
  exact bodyPost_ret (v := .agg (hA ht)) (results_cell_row rfl _ _ (w.heap.size + 1) 28 (hA ht) (0, 0) _ rfl (setRow_heap _ _ _ _ _ _ HZZ.out) Try.underlying28 rfl (infoA (hA_size ht hl))) rfl ⟨rfl, below_setRow HBB.out (by omega) _⟩
set_option maxHeartbeats 4000000 in
theorem rset_834 (h : Ht) (n : Int) (w : World) (h32 : h.r.length = 32) (hn : I64 n) :
    Calls Try.prog 63 #[.agg (hA h), .int .i64 834, .int .i64 n] w fun e w' => e = .returned (.agg (hA (rsetH h 834 n))) ∧ Below w.heap.size w w' := by
  have HN := Lib.hid hn; clear hn
  have hh : Hid (rsetH h 834 n = { h with ca := n }) := Lib.hid (by unfold rsetH; simp only [Int.reduceEq, if_false, if_true])
  have hl := rset_len 834 n h32
  obtain ⟨w0, hw0, hx, hz, hb0, hs0⟩ := two_new w (.cells (hA h) 28) (.cells zA 28)
  have c0 := cell_in hx (hA_fields h h32).2.2.2.2.2.1
  have f0 := frozen_in hx 37
  have HW := Lib.hid hw0
  have HXX : Hid ((w0.setCell ⟨w.heap.size, 37, none⟩ (.int .i64 (n))).heap[w.heap.size]? = some (.cells (hA (rsetH h 834 n)) 28 (0, 0))) := by
    have s1 := set_heap hx 37 (.int .i64 (n)) _ (hA_ca h h32 (n))
    rw [hh.out]; exact Lib.hid s1
  have HZZ : Hid ((w0.setCell ⟨w.heap.size, 37, none⟩ (.int .i64 (n))).heap[w.heap.size + 1]? = some (.cells zA 28 (0, 0))) := Lib.hid (heap_set_ne (by omega) hz)
  have HBB : Hid (Below w.heap.size w (w0.setCell ⟨w.heap.size, 37, none⟩ (.int .i64 (n)))) := Lib.hid (bw_set hb0 (Nat.le_refl _) _)
  clear hx hz hw0 hh
  generalize hrt : rsetH h 834 n = ht at *
  have HRT := Lib.hid hrt; clear hrt
  go_enter Try.func63, Try.ntmps63
  go_upto_region 1 with (fail)
  change Code.wp _ _ _ _ ((w.alloc (.cells (hA h) 28)).alloc (.cells zA 28))
  rw [← HW.out]
  go_upto_region 15 with (first | (go_at_call 39; (with_reducible refine (rtwo_any 6 n (-4) _ HN.out (by decide)).mono ?_); rintro e w' ⟨rfl, rfl⟩) | (go_at_call 39; (with_reducible refine (rtwo_any 6 n 136 _ HN.out (by decide)).mono ?_); rintro e w' ⟨rfl, rfl⟩))
  clear c0 f0
  go_wp2_with (first | (refine wpList_load_row rfl 28 _ rfl (w.heap.size) rfl 28 (hA ht) (0, 0) _ HXX.out Try.underlying28 rfl (infoA (hA_size ht hl)) ?_) | (refine wpList_store_row rfl 28 _ _ rfl (w.heap.size + 1) (hA ht) rfl rfl 28 zA HZZ.out (infoA (hA_size ht hl)) (by rw [hA_size ht hl]; rfl) (hA_one ht) ?_))
  exact bodyPost_ret (v := .agg (hA ht)) (results_cell_row rfl _ _ (w.heap.size + 1) 28 (hA ht) (0, 0) _ rfl (setRow_heap _ _ _ _ _ _ HZZ.out) Try.underlying28 rfl (infoA (hA_size ht hl))) rfl ⟨rfl, below_setRow HBB.out (by omega) _⟩
set_option maxHeartbeats 4000000 in
theorem rset_1984 (h : Ht) (n : Int) (w : World) (h32 : h.r.length = 32) (hn : I64 n) :
    Calls Try.prog 63 #[.agg (hA h), .int .i64 1984, .int .i64 n] w fun e w' => e = .returned (.agg (hA (rsetH h 1984 n))) ∧ Below w.heap.size w w' := by
  have HN := Lib.hid hn; clear hn
  have hh : Hid (rsetH h 1984 n = { h with le := n }) := Lib.hid (by unfold rsetH; simp only [Int.reduceEq, if_false, if_true])
  have hl := rset_len 1984 n h32
  obtain ⟨w0, hw0, hx, hz, hb0, hs0⟩ := two_new w (.cells (hA h) 28) (.cells zA 28)
  have c0 := cell_in hx (hA_fields h h32).2.2.2.2.2.2
  have f0 := frozen_in hx 38
  have HW := Lib.hid hw0
  have HXX : Hid ((w0.setCell ⟨w.heap.size, 38, none⟩ (.int .i64 (n))).heap[w.heap.size]? = some (.cells (hA (rsetH h 1984 n)) 28 (0, 0))) := by
    have s1 := set_heap hx 38 (.int .i64 (n)) _ (hA_le h h32 (n))
    rw [hh.out]; exact Lib.hid s1
  have HZZ : Hid ((w0.setCell ⟨w.heap.size, 38, none⟩ (.int .i64 (n))).heap[w.heap.size + 1]? = some (.cells zA 28 (0, 0))) := Lib.hid (heap_set_ne (by omega) hz)
  have HBB : Hid (Below w.heap.size w (w0.setCell ⟨w.heap.size, 38, none⟩ (.int .i64 (n)))) := Lib.hid (bw_set hb0 (Nat.le_refl _) _)
  clear hx hz hw0 hh
  generalize hrt : rsetH h 1984 n = ht at *
  have HRT := Lib.hid hrt; clear hrt
  go_enter Try.func63, Try.ntmps63
  go_upto_region 1 with (fail)
  change Code.wp _ _ _ _ ((w.alloc (.cells (hA h) 28)).alloc (.cells zA 28))
  rw [← HW.out]
  go_upto_region 15 with (first | (go_at_call 39; (with_reducible refine (rtwo_any 6 n (-4) _ HN.out (by decide)).mono ?_); rintro e w' ⟨rfl, rfl⟩) | (go_at_call 39; (with_reducible refine (rtwo_any 6 n 136 _ HN.out (by decide)).mono ?_); rintro e w' ⟨rfl, rfl⟩))
  clear c0 f0
  go_wp2_with (first | (refine wpList_load_row rfl 28 _ rfl (w.heap.size) rfl 28 (hA ht) (0, 0) _ HXX.out Try.underlying28 rfl (infoA (hA_size ht hl)) ?_) | (refine wpList_store_row rfl 28 _ _ rfl (w.heap.size + 1) (hA ht) rfl rfl 28 zA HZZ.out (infoA (hA_size ht hl)) (by rw [hA_size ht hl]; rfl) (hA_one ht) ?_))
  exact bodyPost_ret (v := .agg (hA ht)) (results_cell_row rfl _ _ (w.heap.size + 1) 28 (hA ht) (0, 0) _ rfl (setRow_heap _ _ _ _ _ _ HZZ.out) Try.underlying28 rfl (infoA (hA_size ht hl))) rfl ⟨rfl, below_setRow HBB.out (by omega) _⟩
set_option maxHeartbeats 4000000 in
theorem rset_no (h : Ht) (csr n : Int) (w : World) (h32 : h.r.length = 32) (hn : I64 n) (hc : noCtl csr) :
    Calls Try.prog 63 #[.agg (hA h), .int .i64 csr, .int .i64 n] w fun e w' => e = .returned (.agg (hA (rsetH h csr n))) ∧ Below w.heap.size w w' := by
  have HN := Lib.hid hn; clear hn
  obtain ⟨a1, a2, a3, a4, a5, a6⟩ := hc
  have q1 := beq_eq_false_iff_ne.2 a1; have q2 := beq_eq_false_iff_ne.2 a2; have q3 := beq_eq_false_iff_ne.2 a3; have q4 := beq_eq_false_iff_ne.2 a4; have q5 := beq_eq_false_iff_ne.2 a5; have q6 := beq_eq_false_iff_ne.2 a6
  have hh : rsetH h csr n = h := by unfold rsetH; rw [if_neg a1, if_neg a2, if_neg a3, if_neg a4, if_neg a5, if_neg a6]
  rw [hh]
  clear a1 a2 a3 a4 a5 a6 hh
  obtain ⟨w0, hw0, hx, hz, hb0, hs0⟩ := two_new w (.cells (hA h) 28) (.cells zA 28)
  have HW := Lib.hid hw0; have HXX := Lib.hid hx; have HZZ := Lib.hid hz
  clear hx hz hw0
  go_enter Try.func63, Try.ntmps63
  go_upto_region 1 with (fail)
  change Code.wp _ _ _ _ ((w.alloc (.cells (hA h) 28)).alloc (.cells zA 28))
  rw [← HW.out]
  go_upto_region 15 with (go_at_call 39; (with_reducible refine (rtwo_any 6 n (-4) _ HN.out (by decide)).mono ?_); rintro e w' ⟨rfl, rfl⟩)
  go_wp2_with (first | (refine wpList_load_row rfl 28 _ rfl (w.heap.size) rfl 28 (hA h) (0, 0) _ HXX.out Try.underlying28 rfl (infoA (hA_size h h32)) ?_) | (refine wpList_store_row rfl 28 _ _ rfl (w.heap.size + 1) (hA h) rfl rfl 28 zA HZZ.out (infoA (hA_size h h32)) (by rw [hA_size h h32]; rfl) (hA_one h) ?_))
  exact bodyPost_ret (v := .agg (hA h)) (results_cell_row rfl _ _ (w.heap.size + 1) 28 (hA h) (0, 0) _ rfl (setRow_heap _ _ _ _ _ _ HZZ.out) Try.underlying28 rfl (infoA (hA_size h h32))) rfl ⟨rfl, below_setRow (by repeat (first | (with_reducible exact Below.refl _ _) | (with_reducible refine bw_set ?_ ?_ _) | (with_reducible apply bw_alloc) | (with_reducible refine bw_tr ?_ (by with_reducible assumption)) | (with_reducible apply bw_drew) | omega)) (by omega) _⟩
theorem rset_any (h : Ht) (csr n : Int) (w : World) (h32 : h.r.length = 32) (hn : I64 n) :
    Calls Try.prog 63 #[.agg (hA h), .int .i64 csr, .int .i64 n] w fun e w' => e = .returned (.agg (hA (rsetH h csr n))) ∧ Below w.heap.size w w' := by
  by_cases h0 : csr = 768
  · subst h0; exact rset_768 h n w h32 hn
  by_cases h1 : csr = 773
  · subst h1; exact rset_773 h n w h32 hn
  by_cases h2 : csr = 832
  · subst h2; exact rset_832 h n w h32 hn
  by_cases h3 : csr = 833
  · subst h3; exact rset_833 h n w h32 hn
  by_cases h4 : csr = 834
  · subst h4; exact rset_834 h n w h32 hn
  by_cases h5 : csr = 1984
  · subst h5; exact rset_1984 h n w h32 hn
  exact rset_no h csr n w h32 hn ⟨h0, h1, h2, h3, h4, h5⟩
end Go.Proofs.Ytiahdhlfecgnpaa
