/-
  The walk of the law HartSwaps.
-/
import Derived.Test.YtiahdhlfecgnpaaHartSwapsP
import Derived.Test.YtiahdhlfecgnpaaHartMid
import Derived.Deep.QuietTactic
import Derived.BigQuiet
import Derived.Outline
namespace Go.Proofs.Ytiahdhlfecgnpaa
open Go.RowKit
set_option linter.unusedSimpArgs false
set_option maxRecDepth 100000 in
set_option maxHeartbeats 8000000 in
theorem hart_swaps (v : Value) (l : List Int) (which n : Int) (w : World) (ha : ArgS 1 c1 w v l) (hl : ∀ x ∈ l, I64 x) (h1 : I64 which) (_ : I64 n) :
    Calls Try.prog 5 #[v, .int .i64 which, .int .i64 n] w fun e w' => e = .returned (.bool true) ∧ Below w.heap.size w w' := by
  have HA := Lib.hid ha; have HL := Lib.hid hl; have H1 := Lib.hid h1
  clear ha hl h1
  have fine := fit_fine l
  obtain ⟨j, hj, hjb⟩ : ∃ j : Nat, pickN which 6 = j ∧ j < 6 := ⟨(pickN which 6).toNat, by have := pickN_bd which 6 (by omega); omega, by have := pickN_bd which 6 (by omega); omega⟩
  have HJ := Lib.hid hj; clear hj
  go_enter Try.func5, Try.ntmps5
  go_wp2_with fail
  refine (awake14 _).mono ?_
  rintro e w1 ⟨rfl, hb1⟩
  have bel1 : Below w.heap.size w w1 := hb1
  clear hb1
  go_wp2_with fail
  refine (hfit_any v l _ (HA.out.below bel1) HL.out).mono ?_
  rintro e w2 ⟨rfl, hb2⟩
  have bel2 : Below w.heap.size w w2 := bw_tr bel1 hb2
  clear bel1
  clear hb2
  generalize fitH l = h0 at *
  have hlh0 := fine.len
  go_wp2_with fail
  refine (put_any h0 9 n _ hlh0).mono ?_
  rintro e w3 ⟨rfl, hb3⟩
  have bel3 : Below w.heap.size w w3 := bw_tr bel2 hb3
  clear bel2
  clear hb3
  obtain ⟨h, hh⟩ : ∃ h : Ht, h = putH h0 9 n := ⟨_, rfl⟩
  rw [← hh]
  have hlh : h.r.length = 32 := by rw [hh]; exact put_len hlh0 _ _
  obtain ⟨a, b, p, q, r, sa, sb, sp, sq, sr, b11, bset, q10, w1, w2, bpc⟩ := swaps_all h0 fine n j hjb h hh
  have fpc : I32 h.pc := by rw [hh, (put_rest h0 9 n).1]; exact fine.pc.1
  clear hh fine
  have len_a := len_at hlh sa
  have len_b := len_at len_a sb
  have len_p := len_at hlh sp
  have len_q := len_at len_p sq
  have len_r := len_at len_q sr
  have hcs : ∀ j, j < 6 → csrN j = csrN j := fun _ _ => rfl
  generalize hcj : csrN j = cj at *
  generalize hbj : bitN j = bj at *
  have HCJ := Lib.hid hcj; have HBJ := Lib.hid hbj
  have SA := Lib.hid sa; have SB := Lib.hid sb; have SP := Lib.hid sp; have SQ := Lib.hid sq; have SR := Lib.hid sr; have B11 := Lib.hid b11; have BSET := Lib.hid bset; have Q10 := Lib.hid q10; have W1 := Lib.hid w1; have W2 := Lib.hid w2; have BPC := Lib.hid bpc
  clear sa sb sp sq sr b11 bset q10 w1 w2 bpc hcj hbj hcs
  have ij0 : (0 : Int) ≤ (j : Int) := by omega
  have ij6 : (j : Int) < 6 := by omega
  have ZN3x := Lib.hid (new_in w3 (.cells zA 28))
  go_upto_region 3 with (refine wpList_store_row rfl 28 _ _ rfl (w3.heap.size) (hA h) rfl rfl 28 zA ZN3x.out (infoA (hA_size h hlh)) (by rw [hA_size h hlh]; rfl) (hA_one h) ?_)
  obtain ⟨w3xx, hw3xx⟩ : ∃ w3xx : World, w3xx = (w3.alloc (.cells zA 28)).setRow w3.heap.size (hA h) := ⟨_, rfl⟩
  have HG3x : Hid (w3xx.heap[w3.heap.size]? = some (.cells (hA h) 28 (0, 0))) := by rw [hw3xx]; exact setRow_heap _ _ _ _ _ _ ZN3x.out
  have hbx3x : Below w3.heap.size w3 w3xx := by rw [hw3xx]; exact below_setRow ((Below.refl _ _).alloc (Nat.le_refl _) _) (Nat.le_refl _) _
  have hsx3x : w3.heap.size + 1 ≤ w3xx.heap.size := by have := lt_in HG3x.out; omega
  first | rw [← hw3xx] | (change Code.wp _ _ _ _ ((w3.alloc (.cells zA 28)).setRow w3.heap.size (hA h)); rw [← hw3xx])
  clear hw3xx ZN3x
  have bel4 : Below w.heap.size w w3xx := bw_tr bel3 hbx3x
  clear bel3
  clear hbx3x hsx3x
  have hpc : (w3xx.alloc (.cells #[.int .i64 768, .int .i64 773, .int .i64 832, .int .i64 833, .int .i64 834, .int .i64 1984] 3)).cell? ⟨w3xx.heap.size, j, none⟩ = some (.int .i64 cj) := by
    refine cell_in (new_in _ _) ?_
    rw [← HCJ.out]
    rcases (by omega : j = 0 ∨ j = 1 ∨ j = 2 ∨ j = 3 ∨ j = 4 ∨ j = 5) with rfl | rfl | rfl | rfl | rfl | rfl <;> rfl
  go_upto_region 4 with (go_at_call 15; ((with_reducible refine (pick14 which 6 _ H1.out (by omega)).mono ?_); rw [HJ.out]; rintro e w' ⟨rfl, rfl⟩))
  obtain ⟨wtcj, hwtcj⟩ : ∃ wtcj : World, wtcj = w3xx.alloc (.cells #[.int .i64 768, .int .i64 773, .int .i64 832, .int .i64 833, .int .i64 834, .int .i64 1984] 3) := ⟨_, rfl⟩
  have hbtcj : Below w3xx.heap.size w3xx wtcj := by rw [hwtcj]; exact (Below.refl _ _).alloc (Nat.le_refl _) _
  rw [← hwtcj]
  clear hwtcj hpc
  have F5 := Lib.hid (bel_in hbtcj (lt_in HG3x.out) HG3x.out)
  have bel6 : Below w.heap.size w wtcj := bw_tr bel4 hbtcj
  clear HG3x bel4
  have hpc : (wtcj.alloc (.cells #[.int .i64 136, .int .i64 (-4), .int .i64 (-1), .int .i64 (-4), .int .i64 (-1), .int .i64 (-1)] 3)).cell? ⟨wtcj.heap.size, j, none⟩ = some (.int .i64 bj) := by
    refine cell_in (new_in _ _) ?_
    rw [← HBJ.out]
    rcases (by omega : j = 0 ∨ j = 1 ∨ j = 2 ∨ j = 3 ∨ j = 4 ∨ j = 5) with rfl | rfl | rfl | rfl | rfl | rfl <;> rfl
  go_upto_region 5 with (go_at_call 15; ((with_reducible refine (pick14 which 6 _ H1.out (by omega)).mono ?_); rw [HJ.out]; rintro e w' ⟨rfl, rfl⟩))
  obtain ⟨wtbj, hwtbj⟩ : ∃ wtbj : World, wtbj = wtcj.alloc (.cells #[.int .i64 136, .int .i64 (-4), .int .i64 (-1), .int .i64 (-4), .int .i64 (-1), .int .i64 (-1)] 3) := ⟨_, rfl⟩
  have hbtbj : Below wtcj.heap.size wtcj wtbj := by rw [hwtbj]; exact (Below.refl _ _).alloc (Nat.le_refl _) _
  rw [← hwtbj]
  clear hwtbj hpc
  have F7 := Lib.hid (bel_in hbtbj (lt_in F5.out) F5.out)
  have bel8 : Below w.heap.size w wtbj := bw_tr bel6 hbtbj
  clear F5 bel6
  go_wp2_with (refine wpList_load_row rfl 28 _ rfl (w3.heap.size) rfl 28 (hA h) (0, 0) _ F7.out Try.underlying28 rfl (infoA (hA_size h hlh)) ?_)
  refine (step_at h 0 (40) (10) (9) (0) (cj) _ hlh a (0) (0) (0) (0) (0) SA.out).mono ?_
  rintro e w4 ⟨rfl, hb4⟩
  have F9 := Lib.hid (bel_in hb4 (lt_in F7.out) F7.out)
  have bel10 : Below w.heap.size w w4 := bw_tr bel8 hb4
  clear F7 bel8
  clear hb4
  have ZN4 := Lib.hid (heap_alloc2_old w4 (.cells zA 28) (.cells effZ 34))
  have YN4 := Lib.hid (row_ne (b := w4.heap.size) (cs := hA a) (by omega) (heap_alloc2_new w4 (.cells zA 28) (.cells effZ 34)))
  go_upto_region 6 with (first | (refine wpList_store_row rfl 28 _ _ rfl (w4.heap.size) (hA a) rfl rfl 28 zA ZN4.out (infoA (hA_size a len_a)) (by rw [hA_size a len_a]; rfl) (hA_one a) ?_) | (refine wpList_store_row rfl 34 _ _ rfl (w4.heap.size + 1) #[.int .i64 (0), .int .i64 (0), .int .i64 (0), .int .i64 (0), .int .i64 (0)] rfl rfl 34 effZ YN4.out (by kernel_rfl) rfl (by kernel_rfl) ?_))
  obtain ⟨w4x, hw4x⟩ : ∃ w4x : World, w4x = (((w4.alloc (.cells zA 28)).alloc (.cells effZ 34)).setRow w4.heap.size (hA a)).setRow (w4.heap.size + 1) #[.int .i64 (0), .int .i64 (0), .int .i64 (0), .int .i64 (0), .int .i64 (0)] := ⟨_, rfl⟩
  have HG4 : Hid (w4x.heap[w4.heap.size]? = some (.cells (hA a) 28 (0, 0))) := by rw [hw4x]; exact row_ne (by omega) (setRow_heap _ _ _ _ _ _ ZN4.out)
  have HE4 : Hid (w4x.heap[w4.heap.size + 1]? = some (.cells #[.int .i64 (0), .int .i64 (0), .int .i64 (0), .int .i64 (0), .int .i64 (0)] 34 (0, 0))) := by rw [hw4x]; exact setRow_heap _ _ _ _ _ _ YN4.out
  have hbx4 : Below w4.heap.size w4 w4x := by rw [hw4x]; exact below_setRow (below_setRow (((Below.refl _ _).alloc (Nat.le_refl _) _).alloc (by simp) _) (Nat.le_refl _) _) (by omega) _
  have hsx4 : w4.heap.size + 2 ≤ w4x.heap.size := by have := lt_in HE4.out; omega
  first | rw [← hw4x] | (change Code.wp _ _ _ _ ((((w4.alloc (.cells zA 28)).alloc (.cells effZ 34)).setRow w4.heap.size (hA a)).setRow (w4.heap.size + 1) #[.int .i64 (0), .int .i64 (0), .int .i64 (0), .int .i64 (0), .int .i64 (0)]); rw [← hw4x])
  clear hw4x ZN4 YN4
  have F11 := Lib.hid (bel_in hbx4 (lt_in F9.out) F9.out)
  have bel12 : Below w.heap.size w w4x := bw_tr bel10 hbx4
  clear F9 bel10
  clear hbx4 hsx4
  go_wp2_with (refine wpList_load_row rfl 28 _ rfl (w4.heap.size) rfl 28 (hA a) (0, 0) _ HG4.out Try.underlying28 rfl (infoA (hA_size a len_a)) ?_)
  refine (step_at a 0 (40) (11) (10) (0) (cj) _ len_a b (0) (0) (0) (0) (0) SB.out).mono ?_
  rintro e w5 ⟨rfl, hb5⟩
  have F13 := Lib.hid (bel_in hb5 (lt_in F11.out) F11.out)
  have F14 := Lib.hid (bel_in hb5 (lt_in HG4.out) HG4.out)
  have F15 := Lib.hid (bel_in hb5 (lt_in HE4.out) HE4.out)
  have bel16 : Below w.heap.size w w5 := bw_tr bel12 hb5
  clear F11 HG4 HE4 bel12
  clear hb5
  have ZN5 := Lib.hid (heap_alloc2_old w5 (.cells zA 28) (.cells effZ 34))
  have YN5 := Lib.hid (row_ne (b := w5.heap.size) (cs := hA b) (by omega) (heap_alloc2_new w5 (.cells zA 28) (.cells effZ 34)))
  go_upto_region 7 with (first | (refine wpList_store_row rfl 28 _ _ rfl (w5.heap.size) (hA b) rfl rfl 28 zA ZN5.out (infoA (hA_size b len_b)) (by rw [hA_size b len_b]; rfl) (hA_one b) ?_) | (refine wpList_store_row rfl 34 _ _ rfl (w5.heap.size + 1) #[.int .i64 (0), .int .i64 (0), .int .i64 (0), .int .i64 (0), .int .i64 (0)] rfl rfl 34 effZ YN5.out (by kernel_rfl) rfl (by kernel_rfl) ?_))
  obtain ⟨w5x, hw5x⟩ : ∃ w5x : World, w5x = (((w5.alloc (.cells zA 28)).alloc (.cells effZ 34)).setRow w5.heap.size (hA b)).setRow (w5.heap.size + 1) #[.int .i64 (0), .int .i64 (0), .int .i64 (0), .int .i64 (0), .int .i64 (0)] := ⟨_, rfl⟩
  have HG5 : Hid (w5x.heap[w5.heap.size]? = some (.cells (hA b) 28 (0, 0))) := by rw [hw5x]; exact row_ne (by omega) (setRow_heap _ _ _ _ _ _ ZN5.out)
  have HE5 : Hid (w5x.heap[w5.heap.size + 1]? = some (.cells #[.int .i64 (0), .int .i64 (0), .int .i64 (0), .int .i64 (0), .int .i64 (0)] 34 (0, 0))) := by rw [hw5x]; exact setRow_heap _ _ _ _ _ _ YN5.out
  have hbx5 : Below w5.heap.size w5 w5x := by rw [hw5x]; exact below_setRow (below_setRow (((Below.refl _ _).alloc (Nat.le_refl _) _).alloc (by simp) _) (Nat.le_refl _) _) (by omega) _
  have hsx5 : w5.heap.size + 2 ≤ w5x.heap.size := by have := lt_in HE5.out; omega
  first | rw [← hw5x] | (change Code.wp _ _ _ _ ((((w5.alloc (.cells zA 28)).alloc (.cells effZ 34)).setRow w5.heap.size (hA b)).setRow (w5.heap.size + 1) #[.int .i64 (0), .int .i64 (0), .int .i64 (0), .int .i64 (0), .int .i64 (0)]); rw [← hw5x])
  clear hw5x ZN5 YN5
  have F17 := Lib.hid (bel_in hbx5 (lt_in F13.out) F13.out)
  have F18 := Lib.hid (bel_in hbx5 (lt_in F14.out) F14.out)
  have F19 := Lib.hid (bel_in hbx5 (lt_in F15.out) F15.out)
  have bel20 : Below w.heap.size w w5x := bw_tr bel16 hbx5
  clear F13 F14 F15 bel16
  clear hbx5 hsx5
  go_wp2_with (refine wpList_load_row rfl 28 _ rfl (w3.heap.size) rfl 28 (hA h) (0, 0) _ F17.out Try.underlying28 rfl (infoA (hA_size h hlh)) ?_)
  refine (step_at h 0 (41) (10) (9) (0) (cj) _ hlh p (0) (0) (0) (0) (0) SP.out).mono ?_
  rintro e w6 ⟨rfl, hb6⟩
  have F21 := Lib.hid (bel_in hb6 (lt_in F17.out) F17.out)
  have F22 := Lib.hid (bel_in hb6 (lt_in F18.out) F18.out)
  have F23 := Lib.hid (bel_in hb6 (lt_in F19.out) F19.out)
  have F24 := Lib.hid (bel_in hb6 (lt_in HG5.out) HG5.out)
  have F25 := Lib.hid (bel_in hb6 (lt_in HE5.out) HE5.out)
  have bel26 : Below w.heap.size w w6 := bw_tr bel20 hb6
  clear F17 F18 F19 HG5 HE5 bel20
  clear hb6
  have ZN6 := Lib.hid (heap_alloc2_old w6 (.cells zA 28) (.cells effZ 34))
  have YN6 := Lib.hid (row_ne (b := w6.heap.size) (cs := hA p) (by omega) (heap_alloc2_new w6 (.cells zA 28) (.cells effZ 34)))
  go_upto_region 8 with (first | (refine wpList_store_row rfl 28 _ _ rfl (w6.heap.size) (hA p) rfl rfl 28 zA ZN6.out (infoA (hA_size p len_p)) (by rw [hA_size p len_p]; rfl) (hA_one p) ?_) | (refine wpList_store_row rfl 34 _ _ rfl (w6.heap.size + 1) #[.int .i64 (0), .int .i64 (0), .int .i64 (0), .int .i64 (0), .int .i64 (0)] rfl rfl 34 effZ YN6.out (by kernel_rfl) rfl (by kernel_rfl) ?_))
  obtain ⟨w6x, hw6x⟩ : ∃ w6x : World, w6x = (((w6.alloc (.cells zA 28)).alloc (.cells effZ 34)).setRow w6.heap.size (hA p)).setRow (w6.heap.size + 1) #[.int .i64 (0), .int .i64 (0), .int .i64 (0), .int .i64 (0), .int .i64 (0)] := ⟨_, rfl⟩
  have HG6 : Hid (w6x.heap[w6.heap.size]? = some (.cells (hA p) 28 (0, 0))) := by rw [hw6x]; exact row_ne (by omega) (setRow_heap _ _ _ _ _ _ ZN6.out)
  have HE6 : Hid (w6x.heap[w6.heap.size + 1]? = some (.cells #[.int .i64 (0), .int .i64 (0), .int .i64 (0), .int .i64 (0), .int .i64 (0)] 34 (0, 0))) := by rw [hw6x]; exact setRow_heap _ _ _ _ _ _ YN6.out
  have hbx6 : Below w6.heap.size w6 w6x := by rw [hw6x]; exact below_setRow (below_setRow (((Below.refl _ _).alloc (Nat.le_refl _) _).alloc (by simp) _) (Nat.le_refl _) _) (by omega) _
  have hsx6 : w6.heap.size + 2 ≤ w6x.heap.size := by have := lt_in HE6.out; omega
  first | rw [← hw6x] | (change Code.wp _ _ _ _ ((((w6.alloc (.cells zA 28)).alloc (.cells effZ 34)).setRow w6.heap.size (hA p)).setRow (w6.heap.size + 1) #[.int .i64 (0), .int .i64 (0), .int .i64 (0), .int .i64 (0), .int .i64 (0)]); rw [← hw6x])
  clear hw6x ZN6 YN6
  have F27 := Lib.hid (bel_in hbx6 (lt_in F21.out) F21.out)
  have F28 := Lib.hid (bel_in hbx6 (lt_in F22.out) F22.out)
  have F29 := Lib.hid (bel_in hbx6 (lt_in F23.out) F23.out)
  have F30 := Lib.hid (bel_in hbx6 (lt_in F24.out) F24.out)
  have F31 := Lib.hid (bel_in hbx6 (lt_in F25.out) F25.out)
  have bel32 : Below w.heap.size w w6x := bw_tr bel26 hbx6
  clear F21 F22 F23 F24 F25 bel26
  clear hbx6 hsx6
  go_wp2_with (refine wpList_load_row rfl 28 _ rfl (w6.heap.size) rfl 28 (hA p) (0, 0) _ HG6.out Try.underlying28 rfl (infoA (hA_size p len_p)) ?_)
  refine (step_at p 0 (42) (11) (9) (0) (cj) _ len_p q (0) (0) (0) (0) (0) SQ.out).mono ?_
  rintro e w7 ⟨rfl, hb7⟩
  have F33 := Lib.hid (bel_in hb7 (lt_in F27.out) F27.out)
  have F34 := Lib.hid (bel_in hb7 (lt_in F28.out) F28.out)
  have F35 := Lib.hid (bel_in hb7 (lt_in F29.out) F29.out)
  have F36 := Lib.hid (bel_in hb7 (lt_in F30.out) F30.out)
  have F37 := Lib.hid (bel_in hb7 (lt_in F31.out) F31.out)
  have F38 := Lib.hid (bel_in hb7 (lt_in HG6.out) HG6.out)
  have F39 := Lib.hid (bel_in hb7 (lt_in HE6.out) HE6.out)
  have bel40 : Below w.heap.size w w7 := bw_tr bel32 hb7
  clear F27 F28 F29 F30 F31 HG6 HE6 bel32
  clear hb7
  have ZN7 := Lib.hid (heap_alloc2_old w7 (.cells zA 28) (.cells effZ 34))
  have YN7 := Lib.hid (row_ne (b := w7.heap.size) (cs := hA q) (by omega) (heap_alloc2_new w7 (.cells zA 28) (.cells effZ 34)))
  go_upto_region 9 with (first | (refine wpList_store_row rfl 28 _ _ rfl (w7.heap.size) (hA q) rfl rfl 28 zA ZN7.out (infoA (hA_size q len_q)) (by rw [hA_size q len_q]; rfl) (hA_one q) ?_) | (refine wpList_store_row rfl 34 _ _ rfl (w7.heap.size + 1) #[.int .i64 (0), .int .i64 (0), .int .i64 (0), .int .i64 (0), .int .i64 (0)] rfl rfl 34 effZ YN7.out (by kernel_rfl) rfl (by kernel_rfl) ?_))
  obtain ⟨w7x, hw7x⟩ : ∃ w7x : World, w7x = (((w7.alloc (.cells zA 28)).alloc (.cells effZ 34)).setRow w7.heap.size (hA q)).setRow (w7.heap.size + 1) #[.int .i64 (0), .int .i64 (0), .int .i64 (0), .int .i64 (0), .int .i64 (0)] := ⟨_, rfl⟩
  have HG7 : Hid (w7x.heap[w7.heap.size]? = some (.cells (hA q) 28 (0, 0))) := by rw [hw7x]; exact row_ne (by omega) (setRow_heap _ _ _ _ _ _ ZN7.out)
  have HE7 : Hid (w7x.heap[w7.heap.size + 1]? = some (.cells #[.int .i64 (0), .int .i64 (0), .int .i64 (0), .int .i64 (0), .int .i64 (0)] 34 (0, 0))) := by rw [hw7x]; exact setRow_heap _ _ _ _ _ _ YN7.out
  have hbx7 : Below w7.heap.size w7 w7x := by rw [hw7x]; exact below_setRow (below_setRow (((Below.refl _ _).alloc (Nat.le_refl _) _).alloc (by simp) _) (Nat.le_refl _) _) (by omega) _
  have hsx7 : w7.heap.size + 2 ≤ w7x.heap.size := by have := lt_in HE7.out; omega
  first | rw [← hw7x] | (change Code.wp _ _ _ _ ((((w7.alloc (.cells zA 28)).alloc (.cells effZ 34)).setRow w7.heap.size (hA q)).setRow (w7.heap.size + 1) #[.int .i64 (0), .int .i64 (0), .int .i64 (0), .int .i64 (0), .int .i64 (0)]); rw [← hw7x])
  clear hw7x ZN7 YN7
  have F41 := Lib.hid (bel_in hbx7 (lt_in F33.out) F33.out)
  have F42 := Lib.hid (bel_in hbx7 (lt_in F34.out) F34.out)
  have F43 := Lib.hid (bel_in hbx7 (lt_in F35.out) F35.out)
  have F44 := Lib.hid (bel_in hbx7 (lt_in F36.out) F36.out)
  have F45 := Lib.hid (bel_in hbx7 (lt_in F37.out) F37.out)
  have F46 := Lib.hid (bel_in hbx7 (lt_in F38.out) F38.out)
  have F47 := Lib.hid (bel_in hbx7 (lt_in F39.out) F39.out)
  have bel48 : Below w.heap.size w w7x := bw_tr bel40 hbx7
  clear F33 F34 F35 F36 F37 F38 F39 bel40
  clear hbx7 hsx7
  go_wp2_with (refine wpList_load_row rfl 28 _ rfl (w7.heap.size) rfl 28 (hA q) (0, 0) _ HG7.out Try.underlying28 rfl (infoA (hA_size q len_q)) ?_)
  refine (step_at q 0 (41) (12) (0) (0) (cj) _ len_q r (0) (0) (0) (0) (0) SR.out).mono ?_
  rintro e w8 ⟨rfl, hb8⟩
  have F49 := Lib.hid (bel_in hb8 (lt_in F41.out) F41.out)
  have F50 := Lib.hid (bel_in hb8 (lt_in F42.out) F42.out)
  have F51 := Lib.hid (bel_in hb8 (lt_in F43.out) F43.out)
  have F52 := Lib.hid (bel_in hb8 (lt_in F44.out) F44.out)
  have F53 := Lib.hid (bel_in hb8 (lt_in F45.out) F45.out)
  have F54 := Lib.hid (bel_in hb8 (lt_in F46.out) F46.out)
  have F55 := Lib.hid (bel_in hb8 (lt_in F47.out) F47.out)
  have F56 := Lib.hid (bel_in hb8 (lt_in HG7.out) HG7.out)
  have F57 := Lib.hid (bel_in hb8 (lt_in HE7.out) HE7.out)
  have bel58 : Below w.heap.size w w8 := bw_tr bel48 hb8
  clear F41 F42 F43 F44 F45 F46 F47 HG7 HE7 bel48
  clear hb8
  have ZN8 := Lib.hid (heap_alloc2_old w8 (.cells zA 28) (.cells effZ 34))
  have YN8 := Lib.hid (row_ne (b := w8.heap.size) (cs := hA r) (by omega) (heap_alloc2_new w8 (.cells zA 28) (.cells effZ 34)))
  go_upto_region 10 with (first | (refine wpList_store_row rfl 28 _ _ rfl (w8.heap.size) (hA r) rfl rfl 28 zA ZN8.out (infoA (hA_size r len_r)) (by rw [hA_size r len_r]; rfl) (hA_one r) ?_) | (refine wpList_store_row rfl 34 _ _ rfl (w8.heap.size + 1) #[.int .i64 (0), .int .i64 (0), .int .i64 (0), .int .i64 (0), .int .i64 (0)] rfl rfl 34 effZ YN8.out (by kernel_rfl) rfl (by kernel_rfl) ?_))
  obtain ⟨w8x, hw8x⟩ : ∃ w8x : World, w8x = (((w8.alloc (.cells zA 28)).alloc (.cells effZ 34)).setRow w8.heap.size (hA r)).setRow (w8.heap.size + 1) #[.int .i64 (0), .int .i64 (0), .int .i64 (0), .int .i64 (0), .int .i64 (0)] := ⟨_, rfl⟩
  have HG8 : Hid (w8x.heap[w8.heap.size]? = some (.cells (hA r) 28 (0, 0))) := by rw [hw8x]; exact row_ne (by omega) (setRow_heap _ _ _ _ _ _ ZN8.out)
  have HE8 : Hid (w8x.heap[w8.heap.size + 1]? = some (.cells #[.int .i64 (0), .int .i64 (0), .int .i64 (0), .int .i64 (0), .int .i64 (0)] 34 (0, 0))) := by rw [hw8x]; exact setRow_heap _ _ _ _ _ _ YN8.out
  have hbx8 : Below w8.heap.size w8 w8x := by rw [hw8x]; exact below_setRow (below_setRow (((Below.refl _ _).alloc (Nat.le_refl _) _).alloc (by simp) _) (Nat.le_refl _) _) (by omega) _
  have hsx8 : w8.heap.size + 2 ≤ w8x.heap.size := by have := lt_in HE8.out; omega
  first | rw [← hw8x] | (change Code.wp _ _ _ _ ((((w8.alloc (.cells zA 28)).alloc (.cells effZ 34)).setRow w8.heap.size (hA r)).setRow (w8.heap.size + 1) #[.int .i64 (0), .int .i64 (0), .int .i64 (0), .int .i64 (0), .int .i64 (0)]); rw [← hw8x])
  clear hw8x ZN8 YN8
  have F59 := Lib.hid (bel_in hbx8 (lt_in F49.out) F49.out)
  have F60 := Lib.hid (bel_in hbx8 (lt_in F50.out) F50.out)
  have F61 := Lib.hid (bel_in hbx8 (lt_in F51.out) F51.out)
  have F62 := Lib.hid (bel_in hbx8 (lt_in F52.out) F52.out)
  have F63 := Lib.hid (bel_in hbx8 (lt_in F53.out) F53.out)
  have F64 := Lib.hid (bel_in hbx8 (lt_in F54.out) F54.out)
  have F65 := Lib.hid (bel_in hbx8 (lt_in F55.out) F55.out)
  have F66 := Lib.hid (bel_in hbx8 (lt_in F56.out) F56.out)
  have F67 := Lib.hid (bel_in hbx8 (lt_in F57.out) F57.out)
  have bel68 : Below w.heap.size w w8x := bw_tr bel58 hbx8
  clear F49 F50 F51 F52 F53 F54 F55 F56 F57 bel58
  clear hbx8 hsx8
  go_upto_region 11 with (go_at_call 24; refine (wrap_any _ _).mono ?_; rintro e w' ⟨rfl, rfl⟩)
  have lt_G3x := lt_in F59.out
  have lt_G4 := lt_in F60.out
  have lt_E4 := lt_in F61.out
  have lt_G5 := lt_in F62.out
  have lt_E5 := lt_in F63.out
  have lt_G6 := lt_in F64.out
  have lt_E6 := lt_in F65.out
  have lt_G7 := lt_in F66.out
  have lt_E7 := lt_in F67.out
  have lt_G8 := lt_in HG8.out
  have lt_E8 := lt_in HE8.out
  have ltw : w.heap.size ≤ w8x.heap.size := (bel68).size
  have ZN9 := Lib.hid (new_in w8x (.cells zA 28))
  go_upto_region 12 with (first | (refine wpList_load_row rfl 28 _ rfl (w5.heap.size) rfl 28 (hA b) (0, 0) _ F62.out Try.underlying28 rfl (infoA (hA_size b len_b)) ?_) | (refine wpList_store_row rfl 28 _ _ rfl (w8x.heap.size) (hA b) rfl rfl 28 zA ZN9.out (infoA (hA_size b len_b)) (by rw [hA_size b len_b]; rfl) (hA_one b) ?_))
  obtain ⟨w9x, hw9x⟩ : ∃ w9x : World, w9x = (w8x.alloc (.cells zA 28)).setRow w8x.heap.size (hA b) := ⟨_, rfl⟩
  have HG9 : Hid (w9x.heap[w8x.heap.size]? = some (.cells (hA b) 28 (0, 0))) := by rw [hw9x]; exact setRow_heap _ _ _ _ _ _ ZN9.out
  have hbx9 : Below w8x.heap.size w8x w9x := by rw [hw9x]; exact below_setRow ((Below.refl _ _).alloc (Nat.le_refl _) _) (Nat.le_refl _) _
  have hsx9 : w8x.heap.size + 1 ≤ w9x.heap.size := by have := lt_in HG9.out; omega
  first | rw [← hw9x] | (change Code.wp _ _ _ _ ((w8x.alloc (.cells zA 28)).setRow w8x.heap.size (hA b)); rw [← hw9x])
  clear hw9x ZN9
  have F69 := Lib.hid (bel_in hbx9 (lt_in F59.out) F59.out)
  have F70 := Lib.hid (bel_in hbx9 (lt_in F60.out) F60.out)
  have F71 := Lib.hid (bel_in hbx9 (lt_in F61.out) F61.out)
  have F72 := Lib.hid (bel_in hbx9 (lt_in F62.out) F62.out)
  have F73 := Lib.hid (bel_in hbx9 (lt_in F63.out) F63.out)
  have F74 := Lib.hid (bel_in hbx9 (lt_in F64.out) F64.out)
  have F75 := Lib.hid (bel_in hbx9 (lt_in F65.out) F65.out)
  have F76 := Lib.hid (bel_in hbx9 (lt_in F66.out) F66.out)
  have F77 := Lib.hid (bel_in hbx9 (lt_in F67.out) F67.out)
  have F78 := Lib.hid (bel_in hbx9 (lt_in HG8.out) HG8.out)
  have F79 := Lib.hid (bel_in hbx9 (lt_in HE8.out) HE8.out)
  have bel80 : Below w.heap.size w w9x := bw_tr bel68 hbx9
  clear F59 F60 F61 F62 F63 F64 F65 F66 F67 HG8 HE8 bel68
  clear hbx9 hsx9
  have HRLA : Hid ((loadVar 26 ⟨w3.heap.size, 0, none⟩).run Try.prog w9x = .ok (.agg (rA h.r)) w9x) := Lib.hid (run_load_regs _ _ h hlh _ _ F69.out)
  have HTHA := Lib.hid (there_hA len_b HG9.out)
  try simp only [Act.put, List.setIfInBounds_toArray, List.set_cons_succ, List.set_cons_zero]
  go_upto_region 13 with (first | ((with_reducible refine load_run_g (o := ⟨_, .load _ _, _, _, _, _⟩) ?_ 26 _ rfl (w3.heap.size) ?_ (.agg (rA h.r)) HRLA.out ?_); rotate_left; exact rfl; rotate_left; exact rfl) | ((with_reducible refine wpList_store_mid (op := ⟨_, .store _ _ _, _, _, _, _⟩) rfl 26 _ _ rfl (w8x.heap.size) 0 (rA h.r) ?_ ?_ (by rw [rA_size hlh]; exact HTHA.out) (by rw [rA_size hlh]; exact infoR) (rA_one _) ?_); exact rfl; exact rfl))
  obtain ⟨wrA, hwrA⟩ : ∃ wrA : World, wrA = w9x.setCells (w8x.heap.size) 0 (rA h.r).toList := ⟨_, rfl⟩
  have HKA : Hid (wrA.heap[w8x.heap.size]? = some (.cells (hA { b with r := h.r }) 28 (0, 0))) := by rw [hwrA]; exact Lib.hid (by have := setCells_heap (rA h.r).toList _ _ 0 _ _ HG9.out; rwa [ovr_hA b len_b _ hlh] at this)
  have F81' := setCells_ne (rA h.r).toList w9x (w8x.heap.size) _ 0 _ (Nat.ne_of_lt lt_G3x) F69.out
  rw [← hwrA] at F81'
  have F81 := Lib.hid F81'; clear F81'
  have F82' := setCells_ne (rA h.r).toList w9x (w8x.heap.size) _ 0 _ (Nat.ne_of_lt lt_G4) F70.out
  rw [← hwrA] at F82'
  have F82 := Lib.hid F82'; clear F82'
  have F83' := setCells_ne (rA h.r).toList w9x (w8x.heap.size) _ 0 _ (Nat.ne_of_lt lt_E4) F71.out
  rw [← hwrA] at F83'
  have F83 := Lib.hid F83'; clear F83'
  have F84' := setCells_ne (rA h.r).toList w9x (w8x.heap.size) _ 0 _ (Nat.ne_of_lt lt_G5) F72.out
  rw [← hwrA] at F84'
  have F84 := Lib.hid F84'; clear F84'
  have F85' := setCells_ne (rA h.r).toList w9x (w8x.heap.size) _ 0 _ (Nat.ne_of_lt lt_E5) F73.out
  rw [← hwrA] at F85'
  have F85 := Lib.hid F85'; clear F85'
  have F86' := setCells_ne (rA h.r).toList w9x (w8x.heap.size) _ 0 _ (Nat.ne_of_lt lt_G6) F74.out
  rw [← hwrA] at F86'
  have F86 := Lib.hid F86'; clear F86'
  have F87' := setCells_ne (rA h.r).toList w9x (w8x.heap.size) _ 0 _ (Nat.ne_of_lt lt_E6) F75.out
  rw [← hwrA] at F87'
  have F87 := Lib.hid F87'; clear F87'
  have F88' := setCells_ne (rA h.r).toList w9x (w8x.heap.size) _ 0 _ (Nat.ne_of_lt lt_G7) F76.out
  rw [← hwrA] at F88'
  have F88 := Lib.hid F88'; clear F88'
  have F89' := setCells_ne (rA h.r).toList w9x (w8x.heap.size) _ 0 _ (Nat.ne_of_lt lt_E7) F77.out
  rw [← hwrA] at F89'
  have F89 := Lib.hid F89'; clear F89'
  have F90' := setCells_ne (rA h.r).toList w9x (w8x.heap.size) _ 0 _ (Nat.ne_of_lt lt_G8) F78.out
  rw [← hwrA] at F90'
  have F90 := Lib.hid F90'; clear F90'
  have F91' := setCells_ne (rA h.r).toList w9x (w8x.heap.size) _ 0 _ (Nat.ne_of_lt lt_E8) F79.out
  rw [← hwrA] at F91'
  have F91 := Lib.hid F91'; clear F91'
  have bel92 : Below w.heap.size w wrA := by rw [hwrA]; exact bw_setCells _ _ _ _ ltw bel80
  rw [← hwrA]
  clear hwrA HRLA HTHA F69 F70 F71 F72 F73 F74 F75 F76 F77 F78 F79 bel80 HG9
  have pkA := cell_in F81.out (hA_fields h hlh).1
  have pqA := cell_in HKA.out (hA_fields { b with r := h.r } hlh).1
  have pfA := frozen_in HKA.out 32
  try simp only [Act.put, List.setIfInBounds_toArray, List.set_cons_succ, List.set_cons_zero]
  go_upto_region 14 with (fail)
  obtain ⟨wpA, hwpA⟩ : ∃ wpA : World, wpA = wrA.setCell ⟨w8x.heap.size, 32, none⟩ (.int .i64 h.pc) := ⟨_, rfl⟩
  have HMA : Hid (wpA.heap[w8x.heap.size]? = some (.cells (hA { b with r := h.r, pc := h.pc }) 28 (0, 0))) := by rw [hwpA]; exact Lib.hid (set_heap HKA.out 32 _ _ (hA_pc { b with r := h.r } hlh h.pc))
  have F93' := heap_set_ne (w := wrA) (b := w8x.heap.size) (o := 32) (u := .int .i64 h.pc) (Nat.ne_of_lt lt_G3x) F81.out
  rw [← hwpA] at F93'
  have F93 := Lib.hid F93'; clear F93'
  have F94' := heap_set_ne (w := wrA) (b := w8x.heap.size) (o := 32) (u := .int .i64 h.pc) (Nat.ne_of_lt lt_G4) F82.out
  rw [← hwpA] at F94'
  have F94 := Lib.hid F94'; clear F94'
  have F95' := heap_set_ne (w := wrA) (b := w8x.heap.size) (o := 32) (u := .int .i64 h.pc) (Nat.ne_of_lt lt_E4) F83.out
  rw [← hwpA] at F95'
  have F95 := Lib.hid F95'; clear F95'
  have F96' := heap_set_ne (w := wrA) (b := w8x.heap.size) (o := 32) (u := .int .i64 h.pc) (Nat.ne_of_lt lt_G5) F84.out
  rw [← hwpA] at F96'
  have F96 := Lib.hid F96'; clear F96'
  have F97' := heap_set_ne (w := wrA) (b := w8x.heap.size) (o := 32) (u := .int .i64 h.pc) (Nat.ne_of_lt lt_E5) F85.out
  rw [← hwpA] at F97'
  have F97 := Lib.hid F97'; clear F97'
  have F98' := heap_set_ne (w := wrA) (b := w8x.heap.size) (o := 32) (u := .int .i64 h.pc) (Nat.ne_of_lt lt_G6) F86.out
  rw [← hwpA] at F98'
  have F98 := Lib.hid F98'; clear F98'
  have F99' := heap_set_ne (w := wrA) (b := w8x.heap.size) (o := 32) (u := .int .i64 h.pc) (Nat.ne_of_lt lt_E6) F87.out
  rw [← hwpA] at F99'
  have F99 := Lib.hid F99'; clear F99'
  have F100' := heap_set_ne (w := wrA) (b := w8x.heap.size) (o := 32) (u := .int .i64 h.pc) (Nat.ne_of_lt lt_G7) F88.out
  rw [← hwpA] at F100'
  have F100 := Lib.hid F100'; clear F100'
  have F101' := heap_set_ne (w := wrA) (b := w8x.heap.size) (o := 32) (u := .int .i64 h.pc) (Nat.ne_of_lt lt_E7) F89.out
  rw [← hwpA] at F101'
  have F101 := Lib.hid F101'; clear F101'
  have F102' := heap_set_ne (w := wrA) (b := w8x.heap.size) (o := 32) (u := .int .i64 h.pc) (Nat.ne_of_lt lt_G8) F90.out
  rw [← hwpA] at F102'
  have F102 := Lib.hid F102'; clear F102'
  have F103' := heap_set_ne (w := wrA) (b := w8x.heap.size) (o := 32) (u := .int .i64 h.pc) (Nat.ne_of_lt lt_E8) F91.out
  rw [← hwpA] at F103'
  have F103 := Lib.hid F103'; clear F103'
  have bel104 : Below w.heap.size w wpA := by rw [hwpA]; exact bw_set bel92 ltw _
  rw [← hwpA]
  clear hwpA pkA pqA pfA F81 F82 F83 F84 F85 F86 F87 F88 F89 F90 F91 bel92 HKA
  have hBS := BSET.out
  have HKH : Hid (wpA.heap[w8x.heap.size]? = some (.cells (hA h) 28 (0, 0))) := by have := HMA.out; rw [hBS] at this; exact Lib.hid this
  clear hBS HMA
  have rc1' := cell_in F95.out (j := 0) (u := .int .i64 (0)) rfl
  have rc1 := fun x => wd_cell (lt_in F95.out) rc1' x
  clear rc1'
  have rc2' := cell_in F95.out (j := 1) (u := .int .i64 (0)) rfl
  have rc2 := fun x => wd_cell (lt_in F95.out) rc2' x
  clear rc2'
  have rc3' := cell_in F95.out (j := 2) (u := .int .i64 (0)) rfl
  have rc3 := fun x => wd_cell (lt_in F95.out) rc3' x
  clear rc3'
  have rc4' := cell_in F95.out (j := 3) (u := .int .i64 (0)) rfl
  have rc4 := fun x => wd_cell (lt_in F95.out) rc4' x
  clear rc4'
  have rc5' := cell_in F95.out (j := 4) (u := .int .i64 (0)) rfl
  have rc5 := fun x => wd_cell (lt_in F95.out) rc5' x
  clear rc5'
  have rc6' := cell_in F97.out (j := 0) (u := .int .i64 (0)) rfl
  have rc6 := fun x => wd_cell (lt_in F97.out) rc6' x
  clear rc6'
  have rc7' := cell_in F97.out (j := 1) (u := .int .i64 (0)) rfl
  have rc7 := fun x => wd_cell (lt_in F97.out) rc7' x
  clear rc7'
  have rc8' := cell_in F97.out (j := 2) (u := .int .i64 (0)) rfl
  have rc8 := fun x => wd_cell (lt_in F97.out) rc8' x
  clear rc8'
  have rc9' := cell_in F97.out (j := 3) (u := .int .i64 (0)) rfl
  have rc9 := fun x => wd_cell (lt_in F97.out) rc9' x
  clear rc9'
  have rc10' := cell_in F97.out (j := 4) (u := .int .i64 (0)) rfl
  have rc10 := fun x => wd_cell (lt_in F97.out) rc10' x
  clear rc10'
  have rc11' := cell_in F96.out (hA_r b len_b 11 (by omega))
  rw [B11.out] at rc11'
  have rc11 := fun x => wd_cell (lt_in F96.out) rc11' x
  clear rc11'
  have rc12' := cell_in F100.out (hA_r q len_q 11 (by omega))
  have rc12 := fun x => wd_cell (lt_in F100.out) rc12' x
  clear rc12'
  have rc13' := cell_in F100.out (hA_r q len_q 10 (by omega))
  rw [Q10.out] at rc13'
  have rc13 := fun x => wd_cell (lt_in F100.out) rc13' x
  clear rc13'
  have rc14' := cell_in F94.out (hA_r a len_a 10 (by omega))
  have rc14 := fun x => wd_cell (lt_in F94.out) rc14' x
  clear rc14'
  have rc15' := cell_in F102.out (hA_r r len_r 12 (by omega))
  have rc15 := fun x => wd_cell (lt_in F102.out) rc15' x
  clear rc15'
  have rc16' := cell_in F96.out (hA_fields b len_b).1
  rw [BPC.out] at rc16'
  have rc16 := fun x => wd_cell (lt_in F96.out) rc16' x
  clear rc16'
  have rc17' := cell_in F93.out (hA_fields h hlh).1
  have rc17 := fun x => wd_cell (lt_in F93.out) rc17' x
  clear rc17'
  have rh18 : Hid (∀ w' : World, (∃ x : Wd wpA, w' = x.val) → (loadVar 28 ⟨w8x.heap.size, 0, none⟩).run Try.prog w' = .ok (.agg (hA h)) w') := by
    rintro w' ⟨x, rfl⟩
    exact run_loadVar_row _ _ 28 28 (hA h) (0, 0) _ (bel_in x.bel (lt_in HKH.out) HKH.out) Try.underlying28 rfl (infoA (hA_size h hlh))
  have rh19 : Hid (∀ w' : World, (∃ x : Wd wpA, w' = x.val) → (loadVar 28 ⟨w3.heap.size, 0, none⟩).run Try.prog w' = .ok (.agg (hA h)) w') := by
    rintro w' ⟨x, rfl⟩
    exact run_loadVar_row _ _ 28 28 (hA h) (0, 0) _ (bel_in x.bel (lt_in F93.out) F93.out) Try.underlying28 rfl (infoA (hA_size h hlh))
  have qe := eq_eff 0 0 0 0 0
  have qh := eq_hA h hlh
  have t3 : IntKind.i64.wrap (h.pc + 8) = h.pc + 8 := IntWalk.i64_in _ (by omega)
  have hw1 := W1.out; have hw2 := W2.out
  generalize bits BinOp.and IntKind.i64 (wrap32 n) bj = mm at *
  generalize q.r.getD 11 0 = q11 at *
  generalize r.r.getD 12 0 = r12 at *
  clear F93 F94 F95 F96 F97 F98 F99 F100 F101 F102 F103 HKH 
  try simp only [List.append_eq, List.cons_append, List.nil_append] at *
  go_wp2_with fail
  refine wp_region_below (by kernel_rfl) (by kernel_rfl) ?_
  try simp only [Act.put, List.setIfInBounds_toArray, List.set_cons_succ, List.set_cons_zero]
  repeat (first | (go_big_quiet_want; (with_reducible refine quiet_load_row (o := ⟨_, .load _ _, _, _, _, _⟩) 28 _ (w8x.heap.size) (hA h) rfl ?_ rh18.out ?_); exact rfl; simp only [Act.put, List.setIfInBounds_toArray, List.set_cons_succ, List.set_cons_zero]; go_big_quiet_on) | (go_big_quiet_want; (with_reducible refine quiet_load_row (o := ⟨_, .load _ _, _, _, _, _⟩) 28 _ (w3.heap.size) (hA h) rfl ?_ rh19.out ?_); exact rfl; simp only [Act.put, List.setIfInBounds_toArray, List.set_cons_succ, List.set_cons_zero]; go_big_quiet_on) | go_big_quiet_step ((first | (go_at_call 24; first | with_reducible exact quiet_s (wrap_any _ _)))))
  refine wpQuiet_nil ?_
  rintro w99 ⟨⟨w99x, hb99⟩, rfl⟩
  go_wp2_with fail
  go_ret
  exact ⟨rfl, (bw_tr bel104 hb99)⟩
end Go.Proofs.Ytiahdhlfecgnpaa
