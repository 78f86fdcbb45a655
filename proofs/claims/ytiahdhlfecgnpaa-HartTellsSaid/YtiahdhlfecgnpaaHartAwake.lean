/-
  The contract of headstocklaw14.awake.
-/
import Derived.Test.YtiahdhlfecgnpaaHartLaw
import Derived.Test.YtiahdhlfecgnpaaHartEq
import Derived.Outline
namespace Go.Proofs.Ytiahdhlfecgnpaa
open Go.RowKit
theorem aw_g : (stepX (putH hZ 5 3) 0 ⟨13, 6, 5, 0, -4⟩).2 = ⟨0, 0, 0, 0, 0⟩ ∧ (hA (stepX (putH hZ 5 3) 0 ⟨13, 6, 5, 0, -4⟩).1)[6]? = some (.int .i64 (-1)) ∧ (hA (stepX (putH hZ 5 3) 0 ⟨13, 6, 5, 0, -4⟩).1)[32]? = some (.int .i64 4) := by
  refine ⟨?_, ?_, ?_⟩ <;> kernel_rfl
theorem aw_k : (stepX (putH hZ 5 3) 0 ⟨12, 0, 5, 5, 5⟩).2 = ⟨2, 0, 8, 3, 0⟩ ∧ (hA (stepX (putH hZ 5 3) 0 ⟨12, 0, 5, 5, 5⟩).1)[32]? = some (.int .i64 4) := by
  refine ⟨?_, ?_⟩ <;> kernel_rfl
theorem aw_b : (stepX (putH hZ 5 3) 0 ⟨0, 0, 0, 0, 0⟩).2 = ⟨9, 0, 0, 0, 0⟩ := by kernel_rfl
theorem aw_t : (hA (trapH (lH 40 8 100 0 0 0 0) 7))[32]? = some (.int .i64 100) ∧ (hA (trapH (lH 40 8 100 0 0 0 0) 7))[33]? = some (.int .i64 128) ∧ (hA (trapH (lH 40 8 100 0 0 0 0) 7))[36]? = some (.int .i64 40) ∧ (hA (trapH (lH 40 8 100 0 0 0 0) 7))[37]? = some (.int .i64 7) := by
  refine ⟨?_, ?_, ?_, ?_⟩ <;> kernel_rfl
theorem aw_l : letsB 8 3 4 = true ∧ letsB (trapH (lH 40 8 100 0 0 0 0) 7).st (trapH (lH 40 8 100 0 0 0 0) 7).le 9 = false := by
  refine ⟨?_, ?_⟩ <;> kernel_rfl
theorem eff_eq {p : Ht × Eff} {e : Eff} (h : p.2 = e) : p = (p.1, e) := by rw [← h]
set_option maxRecDepth 100000 in
set_option maxHeartbeats 8000000 in
theorem awake14 (w : World) :
    Calls Try.prog 12 #[] w fun e w' => e = .returned (.bool true) ∧ Below w.heap.size w w' := by
  obtain ⟨g0, g6, g32⟩ := aw_g
  obtain ⟨k0, k32⟩ := aw_k
  have b0 := aw_b
  obtain ⟨t32, t33, t36, t37⟩ := aw_t
  obtain ⟨l1, l2⟩ := aw_l
  have L1 := Lib.hid l1; have L2 := Lib.hid l2
  have SG := Lib.hid (eff_eq g0); have SK := Lib.hid (eff_eq k0); have SB := Lib.hid (eff_eq b0)
  have hlp : (putH hZ 5 3).r.length = 32 := put_len (h := hZ) rfl 5 3
  have hlg := len_at hlp SG.out
  have hlk := len_at hlp SK.out
  have hlb := len_at hlp SB.out
  have hlt : (trapH (lH 40 8 100 0 0 0 0) 7).r.length = 32 := rfl
  generalize (stepX (putH hZ 5 3) 0 ⟨13, 6, 5, 0, -4⟩).1 = hg at *
  generalize (stepX (putH hZ 5 3) 0 ⟨12, 0, 5, 5, 5⟩).1 = hk at *
  generalize (stepX (putH hZ 5 3) 0 ⟨0, 0, 0, 0, 0⟩).1 = hb at *
  clear l1 l2 g0 k0 b0
  go_enter Try.func12, Try.ntmps12
  go_wp2_with fail
  refine (put_z 5 3 _).mono ?_
  rintro e w1 ⟨rfl, hb1⟩
  generalize hpd : putH hZ 5 3 = hp at *
  clear hpd
  have ZN1 := Lib.hid (new_in w1 (.cells zA 28))
  go_upto_region 2 with (refine wpList_store_row rfl 28 _ _ rfl (w1.heap.size) (hA hp) rfl rfl 28 zA ZN1.out (infoA (hA_size hp hlp)) (by rw [hA_size hp hlp]; rfl) (hA_one hp) ?_)
  obtain ⟨w1x, hw1x⟩ : ∃ w1x : World, w1x = (w1.alloc (.cells zA 28)).setRow w1.heap.size (hA hp) := ⟨_, rfl⟩
  have HG1 : Hid (w1x.heap[w1.heap.size]? = some (.cells (hA hp) 28 (0, 0))) := by rw [hw1x]; exact setRow_heap _ _ _ _ _ _ ZN1.out
  have hbx1 : Below w1.heap.size w1 w1x := by rw [hw1x]; exact below_setRow ((Below.refl _ _).alloc (Nat.le_refl _) _) (Nat.le_refl _) _
  have hsx1 : w1.heap.size + 1 ≤ w1x.heap.size := by have := lt_in HG1.out; omega
  first | rw [← hw1x] | (change Code.wp _ _ _ _ ((w1.alloc (.cells zA 28)).setRow w1.heap.size (hA hp)); rw [← hw1x])
  clear hw1x ZN1

  go_wp2_with (refine wpList_load_row rfl 28 _ rfl (w1.heap.size) rfl 28 (hA hp) (0, 0) _ HG1.out Try.underlying28 rfl (infoA (hA_size hp hlp)) ?_)
  refine (step_at hp 0 13 6 5 0 (-4) _ hlp hg 0 0 0 0 0 SG.out).mono ?_
  rintro e w2 ⟨rfl, hb2⟩
  have ZN2 := Lib.hid (heap_alloc2_old w2 (.cells zA 28) (.cells effZ 34))
  have YN2 := Lib.hid (row_ne (b := w2.heap.size) (cs := hA hg) (by omega) (heap_alloc2_new w2 (.cells zA 28) (.cells effZ 34)))
  go_upto_region 3 with (first | (refine wpList_store_row rfl 28 _ _ rfl (w2.heap.size) (hA hg) rfl rfl 28 zA ZN2.out (infoA (hA_size hg hlg)) (by rw [hA_size hg hlg]; rfl) (hA_one hg) ?_) | (refine wpList_store_row rfl 34 _ _ rfl (w2.heap.size + 1) #[.int .i64 (0), .int .i64 (0), .int .i64 (0), .int .i64 (0), .int .i64 (0)] rfl rfl 34 effZ YN2.out (by kernel_rfl) rfl (by kernel_rfl) ?_))
  obtain ⟨w2x, hw2x⟩ : ∃ w2x : World, w2x = (((w2.alloc (.cells zA 28)).alloc (.cells effZ 34)).setRow w2.heap.size (hA hg)).setRow (w2.heap.size + 1) #[.int .i64 (0), .int .i64 (0), .int .i64 (0), .int .i64 (0), .int .i64 (0)] := ⟨_, rfl⟩
  have HG2 : Hid (w2x.heap[w2.heap.size]? = some (.cells (hA hg) 28 (0, 0))) := by rw [hw2x]; exact row_ne (by omega) (setRow_heap _ _ _ _ _ _ ZN2.out)
  have HE2 : Hid (w2x.heap[w2.heap.size + 1]? = some (.cells #[.int .i64 (0), .int .i64 (0), .int .i64 (0), .int .i64 (0), .int .i64 (0)] 34 (0, 0))) := by rw [hw2x]; exact setRow_heap _ _ _ _ _ _ YN2.out
  have hbx2 : Below w2.heap.size w2 w2x := by rw [hw2x]; exact below_setRow (below_setRow (((Below.refl _ _).alloc (Nat.le_refl _) _).alloc (by simp) _) (Nat.le_refl _) _) (by omega) _
  have hsx2 : w2.heap.size + 2 ≤ w2x.heap.size := by have := lt_in HE2.out; omega
  first | rw [← hw2x] | (change Code.wp _ _ _ _ ((((w2.alloc (.cells zA 28)).alloc (.cells effZ 34)).setRow w2.heap.size (hA hg)).setRow (w2.heap.size + 1) #[.int .i64 (0), .int .i64 (0), .int .i64 (0), .int .i64 (0), .int .i64 (0)]); rw [← hw2x])
  clear hw2x ZN2 YN2

  have HG1b := Lib.hid (bel_in hbx2 (by have := hb2.size; omega) (bel_in hb2 (by omega) HG1.out))
  go_wp2_with (refine wpList_load_row rfl 28 _ rfl (w1.heap.size) rfl 28 (hA hp) (0, 0) _ HG1b.out Try.underlying28 rfl (infoA (hA_size hp hlp)) ?_)
  refine (step_at hp 0 12 0 5 5 5 _ hlp hk 2 0 8 3 0 SK.out).mono ?_
  rintro e w3 ⟨rfl, hb3⟩
  have ZN3 := Lib.hid (heap_alloc2_old w3 (.cells zA 28) (.cells effZ 34))
  have YN3 := Lib.hid (row_ne (b := w3.heap.size) (cs := hA hk) (by omega) (heap_alloc2_new w3 (.cells zA 28) (.cells effZ 34)))
  go_upto_region 4 with (first | (refine wpList_store_row rfl 28 _ _ rfl (w3.heap.size) (hA hk) rfl rfl 28 zA ZN3.out (infoA (hA_size hk hlk)) (by rw [hA_size hk hlk]; rfl) (hA_one hk) ?_) | (refine wpList_store_row rfl 34 _ _ rfl (w3.heap.size + 1) #[.int .i64 (2), .int .i64 (0), .int .i64 (8), .int .i64 (3), .int .i64 (0)] rfl rfl 34 effZ YN3.out (by kernel_rfl) rfl (by kernel_rfl) ?_))
  obtain ⟨w3x, hw3x⟩ : ∃ w3x : World, w3x = (((w3.alloc (.cells zA 28)).alloc (.cells effZ 34)).setRow w3.heap.size (hA hk)).setRow (w3.heap.size + 1) #[.int .i64 (2), .int .i64 (0), .int .i64 (8), .int .i64 (3), .int .i64 (0)] := ⟨_, rfl⟩
  have HG3 : Hid (w3x.heap[w3.heap.size]? = some (.cells (hA hk) 28 (0, 0))) := by rw [hw3x]; exact row_ne (by omega) (setRow_heap _ _ _ _ _ _ ZN3.out)
  have HE3 : Hid (w3x.heap[w3.heap.size + 1]? = some (.cells #[.int .i64 (2), .int .i64 (0), .int .i64 (8), .int .i64 (3), .int .i64 (0)] 34 (0, 0))) := by rw [hw3x]; exact setRow_heap _ _ _ _ _ _ YN3.out
  have hbx3 : Below w3.heap.size w3 w3x := by rw [hw3x]; exact below_setRow (below_setRow (((Below.refl _ _).alloc (Nat.le_refl _) _).alloc (by simp) _) (Nat.le_refl _) _) (by omega) _
  have hsx3 : w3.heap.size + 2 ≤ w3x.heap.size := by have := lt_in HE3.out; omega
  first | rw [← hw3x] | (change Code.wp _ _ _ _ ((((w3.alloc (.cells zA 28)).alloc (.cells effZ 34)).setRow w3.heap.size (hA hk)).setRow (w3.heap.size + 1) #[.int .i64 (2), .int .i64 (0), .int .i64 (8), .int .i64 (3), .int .i64 (0)]); rw [← hw3x])
  clear hw3x ZN3 YN3

  go_wp2_with fail
  refine (trap_l 40 8 100 0 0 0 0 7 _).mono ?_
  rintro e w4 ⟨rfl, hb4⟩
  generalize htd : trapH (lH 40 8 100 0 0 0 0) 7 = ht at *
  clear htd
  have ZN4 := Lib.hid (new_in w4 (.cells zA 28))
  go_upto_region 5 with (refine wpList_store_row rfl 28 _ _ rfl (w4.heap.size) (hA ht) rfl rfl 28 zA ZN4.out (infoA (hA_size ht hlt)) (by rw [hA_size ht hlt]; rfl) (hA_one ht) ?_)
  obtain ⟨w4x, hw4x⟩ : ∃ w4x : World, w4x = (w4.alloc (.cells zA 28)).setRow w4.heap.size (hA ht) := ⟨_, rfl⟩
  have HG4 : Hid (w4x.heap[w4.heap.size]? = some (.cells (hA ht) 28 (0, 0))) := by rw [hw4x]; exact setRow_heap _ _ _ _ _ _ ZN4.out
  have hbx4 : Below w4.heap.size w4 w4x := by rw [hw4x]; exact below_setRow ((Below.refl _ _).alloc (Nat.le_refl _) _) (Nat.le_refl _) _
  have hsx4 : w4.heap.size + 1 ≤ w4x.heap.size := by have := lt_in HG4.out; omega
  first | rw [← hw4x] | (change Code.wp _ _ _ _ ((w4.alloc (.cells zA 28)).setRow w4.heap.size (hA ht)); rw [← hw4x])
  clear hw4x ZN4

  have z2 := hb2.size; have z3 := hb3.size; have z4 := hb4.size
  have HG1c := Lib.hid (bel_in hbx4 (by omega) (bel_in hb4 (by omega) (bel_in hbx3 (by omega) (bel_in hb3 (by omega) HG1b.out))))
  go_wp2_with (refine wpList_load_row rfl 28 _ rfl (w1.heap.size) rfl 28 (hA hp) (0, 0) _ HG1c.out Try.underlying28 rfl (infoA (hA_size hp hlp)) ?_)
  refine (step_at hp 0 0 0 0 0 0 _ hlp hb 9 0 0 0 0 SB.out).mono ?_
  rintro e w5 ⟨rfl, hb5⟩
  have z5 := hb5.size
  have ZN5 := Lib.hid (heap_alloc2_old w5 (.cells zA 28) (.cells effZ 34))
  have YN5 := Lib.hid (row_ne (b := w5.heap.size) (cs := hA hb) (by omega) (heap_alloc2_new w5 (.cells zA 28) (.cells effZ 34)))
  go_upto_region 6 with (first | (refine wpList_store_row rfl 28 _ _ rfl (w5.heap.size) (hA hb) rfl rfl 28 zA ZN5.out (infoA (hA_size hb hlb)) (by rw [hA_size hb hlb]; rfl) (hA_one hb) ?_) | (refine wpList_store_row rfl 34 _ _ rfl (w5.heap.size + 1) #[.int .i64 (9), .int .i64 (0), .int .i64 (0), .int .i64 (0), .int .i64 (0)] rfl rfl 34 effZ YN5.out (by kernel_rfl) rfl (by kernel_rfl) ?_))
  obtain ⟨w5x, hw5x⟩ : ∃ w5x : World, w5x = (((w5.alloc (.cells zA 28)).alloc (.cells effZ 34)).setRow w5.heap.size (hA hb)).setRow (w5.heap.size + 1) #[.int .i64 (9), .int .i64 (0), .int .i64 (0), .int .i64 (0), .int .i64 (0)] := ⟨_, rfl⟩
  have HG5 : Hid (w5x.heap[w5.heap.size]? = some (.cells (hA hb) 28 (0, 0))) := by rw [hw5x]; exact row_ne (by omega) (setRow_heap _ _ _ _ _ _ ZN5.out)
  have HE5 : Hid (w5x.heap[w5.heap.size + 1]? = some (.cells #[.int .i64 (9), .int .i64 (0), .int .i64 (0), .int .i64 (0), .int .i64 (0)] 34 (0, 0))) := by rw [hw5x]; exact setRow_heap _ _ _ _ _ _ YN5.out
  have hbx5 : Below w5.heap.size w5 w5x := by rw [hw5x]; exact below_setRow (below_setRow (((Below.refl _ _).alloc (Nat.le_refl _) _).alloc (by simp) _) (Nat.le_refl _) _) (by omega) _
  have hsx5 : w5.heap.size + 2 ≤ w5x.heap.size := by have := lt_in HE5.out; omega
  first | rw [← hw5x] | (change Code.wp _ _ _ _ ((((w5.alloc (.cells zA 28)).alloc (.cells effZ 34)).setRow w5.heap.size (hA hb)).setRow (w5.heap.size + 1) #[.int .i64 (9), .int .i64 (0), .int .i64 (0), .int .i64 (0), .int .i64 (0)]); rw [← hw5x])
  clear hw5x ZN5 YN5

  have HG2' := bel_in hbx5 (by omega) (bel_in hb5 (by omega) (bel_in hbx4 (by omega) (bel_in hb4 (by omega) (bel_in hbx3 (by omega) (bel_in hb3 (by omega) HG2.out)))))
  have HE2' := bel_in hbx5 (by omega) (bel_in hb5 (by omega) (bel_in hbx4 (by omega) (bel_in hb4 (by omega) (bel_in hbx3 (by omega) (bel_in hb3 (by omega) HE2.out)))))
  have HG3' := bel_in hbx5 (by omega) (bel_in hb5 (by omega) (bel_in hbx4 (by omega) (bel_in hb4 (by omega) HG3.out)))
  have HE3' := bel_in hbx5 (by omega) (bel_in hb5 (by omega) (bel_in hbx4 (by omega) (bel_in hb4 (by omega) HE3.out)))
  have HG4' := bel_in hbx5 (by omega) (bel_in hb5 (by omega) HG4.out)
  have HE5' := HE5.out
  have hbel : Below w.heap.size w w5x := (by repeat (first | (with_reducible exact Below.refl _ _) | (with_reducible refine bw_set ?_ ?_ _) | (with_reducible apply bw_alloc) | (with_reducible refine bw_tr ?_ (by with_reducible assumption)) | (with_reducible apply bw_drew) | omega))
  have a1 := cell_in HG2' g6; have a2 := cell_in HG2' g32
  have a3 := cell_in HG3' k32
  have a4 := cell_in HG4' t32; have a5 := cell_in HG4' t36; have a6 := cell_in HG4' t37; have a7 := cell_in HG4' t33
  have a8 := cell_in HE5' (j := 0) (u := .int .i64 9) rfl
  have e20 := cell_in HE2' (j := 0) (u := .int .i64 0) rfl
  have e21 := cell_in HE2' (j := 1) (u := .int .i64 0) rfl
  have e22 := cell_in HE2' (j := 2) (u := .int .i64 0) rfl
  have e23 := cell_in HE2' (j := 3) (u := .int .i64 0) rfl
  have e24 := cell_in HE2' (j := 4) (u := .int .i64 0) rfl
  have e30 := cell_in HE3' (j := 0) (u := .int .i64 2) rfl
  have e31 := cell_in HE3' (j := 1) (u := .int .i64 0) rfl
  have e32 := cell_in HE3' (j := 2) (u := .int .i64 8) rfl
  have e33 := cell_in HE3' (j := 3) (u := .int .i64 3) rfl
  have e34 := cell_in HE3' (j := 4) (u := .int .i64 0) rfl
  have HT := Lib.hid HG4'
  have q1 := eq_eff 0 0 0 0 0
  have q2 := eq_eff 2 0 8 3 0
  clear HG2' HE2' HG3' HE3' HG4' HE5' HG1 HG1b HG1c HG2 HG3 HG4 HG5 HE2 HE3 HE5 hb1 hb2 hb3 hb4 hb5 hbx1 hbx2 hbx3 hbx4 hbx5
  go_wp2_with fail
  refine (lets_l 0 8 0 0 0 0 3 4 true _ L1.out).mono ?_
  rintro e w6 ⟨rfl, hb6⟩
  have HT6 := Lib.hid (bel_in hb6 (by omega) HT.out)
  go_wp2_with (refine load_row_g rfl 28 _ rfl (w4.heap.size) rfl 28 (hA ht) (0, 0) _ HT6.out Try.underlying28 rfl (infoA (hA_size ht hlt)) ?_)
  refine (lets_at ht 9 false _ hlt L2.out).mono ?_
  rintro e w7 ⟨rfl, hb7⟩
  go_wp2_with fail
  go_ret
  exact ⟨rfl, (by repeat (first | (with_reducible exact Below.refl _ _) | (with_reducible refine bw_set ?_ ?_ _) | (with_reducible apply bw_alloc) | (with_reducible refine bw_tr ?_ (by with_reducible assumption)) | (with_reducible apply bw_drew) | omega))⟩
end Go.Proofs.Ytiahdhlfecgnpaa
