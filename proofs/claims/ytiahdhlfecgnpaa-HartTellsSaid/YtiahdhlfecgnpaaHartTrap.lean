/-
  The contracts of hart.back, Trap.
-/
import Derived.Test.YtiahdhlfecgnpaaHartPut
import Derived.Test.YtiahdhlfecgnpaaHartLeads
import Derived.RegionTactic
import Derived.Deep.RegionWith
namespace Go.Proofs.Ytiahdhlfecgnpaa
open Go.RowKit
def backSt (st : Int) : Int := bits .or .i64 (if (bits .and .i64 st 128 != 0) = true then bits .or .i64 st 8 else bits .andNot .i64 st 8) 128
def backH (h : Ht) : Ht := { h with pc := h.ep, st := backSt h.st }
def trapSt (st : Int) : Int := if (bits .and .i64 st 8 != 0) = true then 128 else 0
def trapH (h : Ht) (c : Int) : Ht := { h with pc := h.ve, st := trapSt h.st, ep := h.pc, ca := wrap32 c }
set_option maxHeartbeats 4000000 in
theorem back_any' (h : Ht) (w : World) (h32 : h.r.length = 32) :
    Calls Try.prog 33 #[.agg (hA h)] w fun e w' => e = .returned (.agg (hA (backH h))) ∧ Below w.heap.size w w' := by
  obtain ⟨g32, g33, _, _, g36, _, _⟩ := hA_fields h h32
  obtain ⟨w0, hw0, hx, hz, hb0, hs0⟩ := two_new w (.cells (hA h) 28) (.cells zA 28)
  have c32 := cell_in hx g32; have c33 := cell_in hx g33; have c36 := cell_in hx g36
  have f32 := frozen_in hx 32; have f33 := frozen_in hx 33
  have HW := Lib.hid hw0
  have HE : Hid (backH h = { h with pc := h.ep, st := bits .or .i64 (if (bits .and .i64 h.st 128 != 0) = true then bits .or .i64 h.st 8 else bits .andNot .i64 h.st 8) 128 }) := rfl
  have HS : Hid (∀ v1 v2 v3 : Int, (((w0.setCell ⟨w.heap.size, 32, none⟩ (.int .i64 v1)).setCell ⟨w.heap.size, 33, none⟩ (.int .i64 v2)).setCell ⟨w.heap.size, 33, none⟩ (.int .i64 v3)).heap[w.heap.size]? = some (.cells (hA { h with pc := v1, st := v3 }) 28 (0, 0))) := by
    intro v1 v2 v3
    have s1 := set_heap hx 32 (.int .i64 v1) _ (hA_pc h h32 v1)
    have s2 := set_heap s1 33 (.int .i64 v2) _ (hA_st { h with pc := v1 } h32 v2)
    exact set_heap s2 33 (.int .i64 v3) _ (hA_st { h with pc := v1, st := v2 } h32 v3)
  clear hx g32 g33 g36 hw0
  cases hq : (bits .and .i64 h.st 128 != 0)
  · have HEE : Hid (backH h = { h with pc := h.ep, st := bits .or .i64 (bits .andNot .i64 h.st 8) 128 }) := by rw [HE.out, hq]; exact rfl
    have HXX := Lib.hid (HS.out h.ep (bits .andNot .i64 h.st 8) (bits .or .i64 (bits .andNot .i64 h.st 8) 128))
    have HZZ : Hid ((((w0.setCell ⟨w.heap.size, 32, none⟩ (.int .i64 h.ep)).setCell ⟨w.heap.size, 33, none⟩ (.int .i64 (bits .andNot .i64 h.st 8))).setCell ⟨w.heap.size, 33, none⟩ (.int .i64 (bits .or .i64 (bits .andNot .i64 h.st 8) 128))).heap[w.heap.size + 1]? = some (.cells zA 28 (0, 0))) := heap_set_ne (by omega) (heap_set_ne (by omega) (heap_set_ne (by omega) hz))
    have HBB : Hid (Below w.heap.size w (((w0.setCell ⟨w.heap.size, 32, none⟩ (.int .i64 h.ep)).setCell ⟨w.heap.size, 33, none⟩ (.int .i64 (bits .andNot .i64 h.st 8))).setCell ⟨w.heap.size, 33, none⟩ (.int .i64 (bits .or .i64 (bits .andNot .i64 h.st 8) 128)))) := bw_set (bw_set (bw_set hb0 (Nat.le_refl _) _) (Nat.le_refl _) _) (Nat.le_refl _) _
    clear hz
    go_enter Try.func33, Try.ntmps33
    go_upto_region 1 with (fail)
    change Code.wp _ _ _ _ ((w.alloc (.cells (hA h) 28)).alloc (.cells zA 28))
    rw [← HW.out]
    go_upto_region 6 with (fail)
    clear c32 c33 c36 f32 f33 hq
    go_wp2_with (first | (refine wpList_load_row rfl 28 _ rfl (w.heap.size) rfl 28 (hA ({ h with pc := h.ep, st := bits .or .i64 (bits .andNot .i64 h.st 8) 128 })) (0, 0) _ HXX.out Try.underlying28 rfl (infoA (hA_size ({ h with pc := h.ep, st := bits .or .i64 (bits .andNot .i64 h.st 8) 128 }) h32)) ?_) | (refine wpList_store_row rfl 28 _ _ rfl (w.heap.size + 1) (hA ({ h with pc := h.ep, st := bits .or .i64 (bits .andNot .i64 h.st 8) 128 })) rfl rfl 28 zA HZZ.out (infoA (hA_size ({ h with pc := h.ep, st := bits .or .i64 (bits .andNot .i64 h.st 8) 128 }) h32)) (by rw [hA_size ({ h with pc := h.ep, st := bits .or .i64 (bits .andNot .i64 h.st 8) 128 }) h32]; rfl) (hA_one ({ h with pc := h.ep, st := bits .or .i64 (bits .andNot .i64 h.st 8) 128 })) ?_))
    exact bodyPost_ret (v := .agg (hA ({ h with pc := h.ep, st := bits .or .i64 (bits .andNot .i64 h.st 8) 128 }))) (results_cell_row rfl _ _ (w.heap.size + 1) 28 (hA ({ h with pc := h.ep, st := bits .or .i64 (bits .andNot .i64 h.st 8) 128 })) (0, 0) _ rfl (setRow_heap _ _ _ _ _ _ HZZ.out) Try.underlying28 rfl (infoA (hA_size ({ h with pc := h.ep, st := bits .or .i64 (bits .andNot .i64 h.st 8) 128 }) h32))) rfl ⟨by rw [HEE.out], below_setRow HBB.out (by omega) _⟩
  · have HEE : Hid (backH h = { h with pc := h.ep, st := bits .or .i64 (bits .or .i64 h.st 8) 128 }) := by rw [HE.out, hq]; exact rfl
    have HXX := Lib.hid (HS.out h.ep (bits .or .i64 h.st 8) (bits .or .i64 (bits .or .i64 h.st 8) 128))
    have HZZ : Hid ((((w0.setCell ⟨w.heap.size, 32, none⟩ (.int .i64 h.ep)).setCell ⟨w.heap.size, 33, none⟩ (.int .i64 (bits .or .i64 h.st 8))).setCell ⟨w.heap.size, 33, none⟩ (.int .i64 (bits .or .i64 (bits .or .i64 h.st 8) 128))).heap[w.heap.size + 1]? = some (.cells zA 28 (0, 0))) := heap_set_ne (by omega) (heap_set_ne (by omega) (heap_set_ne (by omega) hz))
    have HBB : Hid (Below w.heap.size w (((w0.setCell ⟨w.heap.size, 32, none⟩ (.int .i64 h.ep)).setCell ⟨w.heap.size, 33, none⟩ (.int .i64 (bits .or .i64 h.st 8))).setCell ⟨w.heap.size, 33, none⟩ (.int .i64 (bits .or .i64 (bits .or .i64 h.st 8) 128)))) := bw_set (bw_set (bw_set hb0 (Nat.le_refl _) _) (Nat.le_refl _) _) (Nat.le_refl _) _
    clear hz
    go_enter Try.func33, Try.ntmps33
    go_upto_region 1 with (fail)
    change Code.wp _ _ _ _ ((w.alloc (.cells (hA h) 28)).alloc (.cells zA 28))
    rw [← HW.out]
    go_upto_region 6 with (fail)
    clear c32 c33 c36 f32 f33 hq
    go_wp2_with (first | (refine wpList_load_row rfl 28 _ rfl (w.heap.size) rfl 28 (hA ({ h with pc := h.ep, st := bits .or .i64 (bits .or .i64 h.st 8) 128 })) (0, 0) _ HXX.out Try.underlying28 rfl (infoA (hA_size ({ h with pc := h.ep, st := bits .or .i64 (bits .or .i64 h.st 8) 128 }) h32)) ?_) | (refine wpList_store_row rfl 28 _ _ rfl (w.heap.size + 1) (hA ({ h with pc := h.ep, st := bits .or .i64 (bits .or .i64 h.st 8) 128 })) rfl rfl 28 zA HZZ.out (infoA (hA_size ({ h with pc := h.ep, st := bits .or .i64 (bits .or .i64 h.st 8) 128 }) h32)) (by rw [hA_size ({ h with pc := h.ep, st := bits .or .i64 (bits .or .i64 h.st 8) 128 }) h32]; rfl) (hA_one ({ h with pc := h.ep, st := bits .or .i64 (bits .or .i64 h.st 8) 128 })) ?_))
    exact bodyPost_ret (v := .agg (hA ({ h with pc := h.ep, st := bits .or .i64 (bits .or .i64 h.st 8) 128 }))) (results_cell_row rfl _ _ (w.heap.size + 1) 28 (hA ({ h with pc := h.ep, st := bits .or .i64 (bits .or .i64 h.st 8) 128 })) (0, 0) _ rfl (setRow_heap _ _ _ _ _ _ HZZ.out) Try.underlying28 rfl (infoA (hA_size ({ h with pc := h.ep, st := bits .or .i64 (bits .or .i64 h.st 8) 128 }) h32))) rfl ⟨by rw [HEE.out], below_setRow HBB.out (by omega) _⟩
set_option maxHeartbeats 4000000 in
theorem trap_any' (h : Ht) (c : Int) (w : World) (h32 : h.r.length = 32) :
    Calls Try.prog 20 #[.agg (hA h), .int .i64 c] w fun e w' => e = .returned (.agg (hA (trapH h c))) ∧ Below w.heap.size w w' := by
  obtain ⟨g32, g33, g34, _, g36, g37, _⟩ := hA_fields h h32
  obtain ⟨w0, hw0, hx, hz, hb0, hs0⟩ := two_new w (.cells (hA h) 28) (.cells zA 28)
  have c32 := cell_in hx g32; have c33 := cell_in hx g33; have c34 := cell_in hx g34; have c36 := cell_in hx g36; have c37 := cell_in hx g37
  have f32 := frozen_in hx 32; have f33 := frozen_in hx 33; have f36 := frozen_in hx 36; have f37 := frozen_in hx 37
  have HW := Lib.hid hw0
  have HS : Hid (∀ v1 v2 v3 v4 : Int, ((((w0.setCell ⟨w.heap.size, 36, none⟩ (.int .i64 v1)).setCell ⟨w.heap.size, 37, none⟩ (.int .i64 v2)).setCell ⟨w.heap.size, 32, none⟩ (.int .i64 v3)).setCell ⟨w.heap.size, 33, none⟩ (.int .i64 v4)).heap[w.heap.size]? = some (.cells (hA { h with pc := v3, st := v4, ep := v1, ca := v2 }) 28 (0, 0))) := by
    intro v1 v2 v3 v4
    have s1 := set_heap hx 36 (.int .i64 v1) _ (hA_ep h h32 v1)
    have s2 := set_heap s1 37 (.int .i64 v2) _ (hA_ca { h with ep := v1 } h32 v2)
    have s3 := set_heap s2 32 (.int .i64 v3) _ (hA_pc { h with ep := v1, ca := v2 } h32 v3)
    exact set_heap s3 33 (.int .i64 v4) _ (hA_st { h with ep := v1, ca := v2, pc := v3 } h32 v4)
  clear hx g32 g33 g34 g36 g37 hw0
  cases hq : (bits .and .i64 h.st 8 != 0)
  · have HEE : Hid (trapH h c = { h with pc := h.ve, st := 0, ep := h.pc, ca := wrap32 c }) := by unfold trapH trapSt; rw [hq]; exact rfl
    have HXX : Hid ((((((w0.setCell ⟨w.heap.size, 36, none⟩ (.int .i64 h.pc)).setCell ⟨w.heap.size, 37, none⟩ (.int .i64 (wrap32 c))).setCell ⟨w.heap.size, 32, none⟩ (.int .i64 h.ve)).setCell ⟨w.heap.size, 33, none⟩ (.int .i64 0)).drew).heap[w.heap.size]? = some (.cells (hA ({ h with pc := h.ve, st := 0, ep := h.pc, ca := wrap32 c })) 28 (0, 0))) := HS.out h.pc (wrap32 c) h.ve 0
    have HZZ : Hid ((((((w0.setCell ⟨w.heap.size, 36, none⟩ (.int .i64 h.pc)).setCell ⟨w.heap.size, 37, none⟩ (.int .i64 (wrap32 c))).setCell ⟨w.heap.size, 32, none⟩ (.int .i64 h.ve)).setCell ⟨w.heap.size, 33, none⟩ (.int .i64 0)).drew).heap[w.heap.size + 1]? = some (.cells zA 28 (0, 0))) := heap_set_ne (by omega) (heap_set_ne (by omega) (heap_set_ne (by omega) (heap_set_ne (by omega) hz)))
    have HBB : Hid (Below w.heap.size w (((((w0.setCell ⟨w.heap.size, 36, none⟩ (.int .i64 h.pc)).setCell ⟨w.heap.size, 37, none⟩ (.int .i64 (wrap32 c))).setCell ⟨w.heap.size, 32, none⟩ (.int .i64 h.ve)).setCell ⟨w.heap.size, 33, none⟩ (.int .i64 0)).drew)) := bw_drew (bw_set (bw_set (bw_set (bw_set hb0 (Nat.le_refl _) _) (Nat.le_refl _) _) (Nat.le_refl _) _) (Nat.le_refl _) _)
    clear hz
    go_enter Try.func20, Try.ntmps20
    go_upto_region 1 with (fail)
    change Code.wp _ _ _ _ ((w.alloc (.cells (hA h) 28)).alloc (.cells zA 28))
    rw [← HW.out]
    go_upto_region 4 with (fail)
    go_region_with (go_at_call 24; refine (wrap_any _ _).mono ?_; rintro e w' ⟨rfl, rfl⟩)
    all_goals
      clear c32 c33 c34 c36 c37 f32 f33 f36 f37 hq
      go_wp2_with (first | (refine wpList_load_row rfl 28 _ rfl (w.heap.size) rfl 28 (hA ({ h with pc := h.ve, st := 0, ep := h.pc, ca := wrap32 c })) (0, 0) _ HXX.out Try.underlying28 rfl (infoA (hA_size ({ h with pc := h.ve, st := 0, ep := h.pc, ca := wrap32 c }) h32)) ?_) | (refine wpList_store_row rfl 28 _ _ rfl (w.heap.size + 1) (hA ({ h with pc := h.ve, st := 0, ep := h.pc, ca := wrap32 c })) rfl rfl 28 zA HZZ.out (infoA (hA_size ({ h with pc := h.ve, st := 0, ep := h.pc, ca := wrap32 c }) h32)) (by rw [hA_size ({ h with pc := h.ve, st := 0, ep := h.pc, ca := wrap32 c }) h32]; rfl) (hA_one ({ h with pc := h.ve, st := 0, ep := h.pc, ca := wrap32 c })) ?_))
      exact bodyPost_ret (v := .agg (hA ({ h with pc := h.ve, st := 0, ep := h.pc, ca := wrap32 c }))) (results_cell_row rfl _ _ (w.heap.size + 1) 28 (hA ({ h with pc := h.ve, st := 0, ep := h.pc, ca := wrap32 c })) (0, 0) _ rfl (setRow_heap _ _ _ _ _ _ HZZ.out) Try.underlying28 rfl (infoA (hA_size ({ h with pc := h.ve, st := 0, ep := h.pc, ca := wrap32 c }) h32))) rfl ⟨by rw [HEE.out], below_setRow HBB.out (by omega) _⟩
  · have HEE : Hid (trapH h c = { h with pc := h.ve, st := 128, ep := h.pc, ca := wrap32 c }) := by unfold trapH trapSt; rw [hq]; exact rfl
    have HXX : Hid ((((((w0.setCell ⟨w.heap.size, 36, none⟩ (.int .i64 h.pc)).setCell ⟨w.heap.size, 37, none⟩ (.int .i64 (wrap32 c))).setCell ⟨w.heap.size, 32, none⟩ (.int .i64 h.ve)).setCell ⟨w.heap.size, 33, none⟩ (.int .i64 128)).drew).heap[w.heap.size]? = some (.cells (hA ({ h with pc := h.ve, st := 128, ep := h.pc, ca := wrap32 c })) 28 (0, 0))) := HS.out h.pc (wrap32 c) h.ve 128
    have HZZ : Hid ((((((w0.setCell ⟨w.heap.size, 36, none⟩ (.int .i64 h.pc)).setCell ⟨w.heap.size, 37, none⟩ (.int .i64 (wrap32 c))).setCell ⟨w.heap.size, 32, none⟩ (.int .i64 h.ve)).setCell ⟨w.heap.size, 33, none⟩ (.int .i64 128)).drew).heap[w.heap.size + 1]? = some (.cells zA 28 (0, 0))) := heap_set_ne (by omega) (heap_set_ne (by omega) (heap_set_ne (by omega) (heap_set_ne (by omega) hz)))
    have HBB : Hid (Below w.heap.size w (((((w0.setCell ⟨w.heap.size, 36, none⟩ (.int .i64 h.pc)).setCell ⟨w.heap.size, 37, none⟩ (.int .i64 (wrap32 c))).setCell ⟨w.heap.size, 32, none⟩ (.int .i64 h.ve)).setCell ⟨w.heap.size, 33, none⟩ (.int .i64 128)).drew)) := bw_drew (bw_set (bw_set (bw_set (bw_set hb0 (Nat.le_refl _) _) (Nat.le_refl _) _) (Nat.le_refl _) _) (Nat.le_refl _) _)
    clear hz
    go_enter Try.func20, Try.ntmps20
    go_upto_region 1 with (fail)
    change Code.wp _ _ _ _ ((w.alloc (.cells (hA h) 28)).alloc (.cells zA 28))
    rw [← HW.out]
    go_upto_region 4 with (fail)
    go_region_with (go_at_call 24; refine (wrap_any _ _).mono ?_; rintro e w' ⟨rfl, rfl⟩)
    all_goals
      clear c32 c33 c34 c36 c37 f32 f33 f36 f37 hq
      go_wp2_with (first | (refine wpList_load_row rfl 28 _ rfl (w.heap.size) rfl 28 (hA ({ h with pc := h.ve, st := 128, ep := h.pc, ca := wrap32 c })) (0, 0) _ HXX.out Try.underlying28 rfl (infoA (hA_size ({ h with pc := h.ve, st := 128, ep := h.pc, ca := wrap32 c }) h32)) ?_) | (refine wpList_store_row rfl 28 _ _ rfl (w.heap.size + 1) (hA ({ h with pc := h.ve, st := 128, ep := h.pc, ca := wrap32 c })) rfl rfl 28 zA HZZ.out (infoA (hA_size ({ h with pc := h.ve, st := 128, ep := h.pc, ca := wrap32 c }) h32)) (by rw [hA_size ({ h with pc := h.ve, st := 128, ep := h.pc, ca := wrap32 c }) h32]; rfl) (hA_one ({ h with pc := h.ve, st := 128, ep := h.pc, ca := wrap32 c })) ?_))
      exact bodyPost_ret (v := .agg (hA ({ h with pc := h.ve, st := 128, ep := h.pc, ca := wrap32 c }))) (results_cell_row rfl _ _ (w.heap.size + 1) 28 (hA ({ h with pc := h.ve, st := 128, ep := h.pc, ca := wrap32 c })) (0, 0) _ rfl (setRow_heap _ _ _ _ _ _ HZZ.out) Try.underlying28 rfl (infoA (hA_size ({ h with pc := h.ve, st := 128, ep := h.pc, ca := wrap32 c }) h32))) rfl ⟨by rw [HEE.out], below_setRow HBB.out (by omega) _⟩
end Go.Proofs.Ytiahdhlfecgnpaa
