/-
  The contracts of headstockref14.Put, Lets, Trap, goes.
-/
import Derived.Test.YtiahdhlfecgnpaaHartTrap
import Derived.Test.YtiahdhlfecgnpaaWrapRef
import Derived.Test.YtiahdhlfecgnpaaPickMath
namespace Go.Proofs.Ytiahdhlfecgnpaa
open Go.RowKit
set_option linter.unusedSimpArgs false
set_option maxHeartbeats 1000000 in
theorem rput_any (h : Ht) (d n : Int) (w : World) (h32 : h.r.length = 32) (hn : I64 n) :
    Calls Try.prog 19 #[.agg (hA h), .int .i64 d, .int .i64 n] w fun e w' => e = .returned (.agg (hA (putH h d n))) ∧ Below w.heap.size w w' := by
  have HN := Lib.hid hn; clear hn
  have hs := Lib.hid (hA_size h h32)
  have ho := Lib.hid (hA_one h)
  have HR := Lib.hid (fun k hk => hA_r h h32 k hk)
  have HSR := Lib.hid (fun k hk v => hA_set_r h h32 k hk v)
  by_cases hd : 0 < d ∧ d < 32
  · obtain ⟨k, rfl, hk1, hk2⟩ : ∃ k : Nat, d = k ∧ 0 < k ∧ k < 32 := ⟨d.toNat, by omega, by omega, by omega⟩
    have HE := Lib.hid (show putH h k n = { h with r := h.r.set k (wrap32 n) } by unfold putH; rw [if_pos hd]; rfl)
    have hs' := Lib.hid (hA_size (putH h k n) (put_len h32 k n))
    have ho' := Lib.hid (hA_one (putH h k n))
    obtain ⟨w0, hw0, hx, hz, hb0, hs0⟩ := two_new w (.cells (hA h) 28) (.cells zA 28)
    have HXS := Lib.hid (set_heap hx k (.int .i64 (wrap32 n)) (hA (putH h k n)) (by rw [HE.out]; exact HSR.out k hk2 _))
    have HZS := Lib.hid (heap_set_ne (b := w.heap.size) (o := k) (u := .int .i64 (wrap32 n)) (by omega : w.heap.size + 1 ≠ w.heap.size) hz)
    have c0 := cell_in hx (HR.out k hk2)
    have f0 := frozen_in hx k
    have HW := Lib.hid hw0
    clear HR hx hz hw0 HSR hd
    generalize hA (putH h k n) = B at *
    generalize hA h = A at *
    go_enter Try.func19, Try.ntmps19
    go_upto_region 1 with (fail)
    change Code.wp _ _ _ _ ((w.alloc (.cells A 28)).alloc (.cells zA 28))
    rw [← HW.out]
    go_wp2_with (first | (go_at_call 38; refine (rwrap_any n _ HN.out).mono ?_; rintro e w' ⟨rfl, rfl⟩) | (refine wpList_load_row rfl 28 _ rfl (w.heap.size) rfl 28 B (0, 0) _ HXS.out Try.underlying28 rfl (infoA hs'.out) ?_) | (refine wpList_store_row rfl 28 _ _ rfl (w.heap.size + 1) B rfl rfl 28 zA HZS.out (infoA hs'.out) (by rw [hs'.out]; rfl) ho'.out ?_))
    refine bodyPost_ret (v := .agg B) (results_cell_row rfl _ _ (w.heap.size + 1) 28 B (0, 0) _ rfl (setRow_heap _ _ _ _ _ _ HZS.out) Try.underlying28 rfl (infoA hs'.out)) rfl ⟨rfl, below_setRow (by repeat (first | (with_reducible exact Below.refl _ _) | (with_reducible refine bw_set ?_ ?_ _) | (with_reducible apply bw_alloc) | (with_reducible refine bw_tr ?_ (by with_reducible assumption)) | (with_reducible apply bw_drew) | omega)) (by omega) _⟩
  · have HE := Lib.hid (show putH h d n = h by unfold putH; rw [if_neg hd])
    obtain ⟨w0, hw0, hx, hz, hb0, hs0⟩ := two_new w (.cells (hA h) 28) (.cells zA 28)
    have HX := Lib.hid hx; have HZ := Lib.hid hz
    have HW := Lib.hid hw0
    clear HR hx hz hw0 HSR
    rw [HE.out]
    generalize hA h = A at *
    by_cases hd1 : 0 < d
    · have hd2 : ¬ d < 32 := fun x => hd ⟨hd1, x⟩
      clear hd
      go_enter Try.func19, Try.ntmps19
      go_upto_region 1 with (fail)
      change Code.wp _ _ _ _ ((w.alloc (.cells A 28)).alloc (.cells zA 28))
      rw [← HW.out]
      go_wp2_with (first | (refine wpList_load_row rfl 28 _ rfl (w.heap.size) rfl 28 A (0, 0) _ HX.out Try.underlying28 rfl (infoA hs.out) ?_) | (refine wpList_store_row rfl 28 _ _ rfl (w.heap.size + 1) A rfl rfl 28 zA HZ.out (infoA hs.out) (by rw [hs.out]; rfl) ho.out ?_))
      refine bodyPost_ret (v := .agg A) (results_cell_row rfl _ _ (w.heap.size + 1) 28 A (0, 0) _ rfl (setRow_heap _ _ _ _ _ _ HZ.out) Try.underlying28 rfl (infoA hs.out)) rfl ⟨rfl, below_setRow (by repeat (first | (with_reducible exact Below.refl _ _) | (with_reducible refine bw_set ?_ ?_ _) | (with_reducible apply bw_alloc) | (with_reducible refine bw_tr ?_ (by with_reducible assumption)) | (with_reducible apply bw_drew) | omega)) (by omega) _⟩
    · clear hd
      go_enter Try.func19, Try.ntmps19
      go_upto_region 1 with (fail)
      change Code.wp _ _ _ _ ((w.alloc (.cells A 28)).alloc (.cells zA 28))
      rw [← HW.out]
      go_wp2_with (first | (refine wpList_load_row rfl 28 _ rfl (w.heap.size) rfl 28 A (0, 0) _ HX.out Try.underlying28 rfl (infoA hs.out) ?_) | (refine wpList_store_row rfl 28 _ _ rfl (w.heap.size + 1) A rfl rfl 28 zA HZ.out (infoA hs.out) (by rw [hs.out]; rfl) ho.out ?_))
      refine bodyPost_ret (v := .agg A) (results_cell_row rfl _ _ (w.heap.size + 1) 28 A (0, 0) _ rfl (setRow_heap _ _ _ _ _ _ HZ.out) Try.underlying28 rfl (infoA hs.out)) rfl ⟨rfl, below_setRow (by repeat (first | (with_reducible exact Below.refl _ _) | (with_reducible refine bw_set ?_ ?_ _) | (with_reducible apply bw_alloc) | (with_reducible refine bw_tr ?_ (by with_reducible assumption)) | (with_reducible apply bw_drew) | omega)) (by omega) _⟩



theorem rlets_any (h : Ht) (p : Int) (w : World) (h32 : h.r.length = 32) (hs : 0 ≤ h.st ∧ h.st ≤ 136) :
    Calls Try.prog 23 #[.agg (hA h), .int .i64 p] w fun e w' => e = .returned (.bool ((h.st / 8 % 2 == 1) && decide (h.le < p))) ∧ Below w.heap.size w w' := by
  have g33 := (hA_fields h h32).2.1
  have g38 := (hA_fields h h32).2.2.2.2.2.2
  generalize h.st = st at *
  generalize h.le = le at *
  generalize hA h = A at *
  cases h1 : (st / 8 % 2 == 1) <;> cases h2 : decide (le < p)
  all_goals
    go_enter Try.func23, Try.ntmps23
    go_wp2_with fail
    go_ret
    exact ⟨rfl, (by repeat (first | (with_reducible exact Below.refl _ _) | (with_reducible refine bw_set ?_ ?_ _) | (with_reducible apply bw_alloc) | (with_reducible refine bw_tr ?_ (by with_reducible assumption)) | (with_reducible apply bw_drew) | omega))⟩
def rtrapH (h : Ht) (c : Int) : Ht := { h with ep := h.pc, ca := wrap32 c, pc := h.ve, st := 128 * (h.st / 8 % 2) }
set_option maxHeartbeats 4000000 in
theorem rtrap_any (h : Ht) (c : Int) (w : World) (h32 : h.r.length = 32) (hs : 0 ≤ h.st ∧ h.st ≤ 136) (hc : I64 c) :
    Calls Try.prog 21 #[.agg (hA h), .int .i64 c] w fun e w' => e = .returned (.agg (hA (rtrapH h c))) ∧ Below w.heap.size w w' := by
  have HC := Lib.hid hc; clear hc
  obtain ⟨g32, g33, g34, _, g36, g37, _⟩ := hA_fields h h32
  obtain ⟨w0, hw0, hx, hz, hb0, hs0⟩ := two_new w (.cells (hA h) 28) (.cells zA 28)
  have c32 := cell_in hx g32; have c33 := cell_in hx g33; have c34 := cell_in hx g34; have c36 := cell_in hx g36; have c37 := cell_in hx g37
  have f32 := frozen_in hx 32; have f33 := frozen_in hx 33; have f36 := frozen_in hx 36; have f37 := frozen_in hx 37
  have HW := Lib.hid hw0
  have HXX : Hid (((((w0.setCell ⟨w.heap.size, 36, none⟩ (.int .i64 h.pc)).setCell ⟨w.heap.size, 37, none⟩ (.int .i64 (wrap32 c))).setCell ⟨w.heap.size, 32, none⟩ (.int .i64 h.ve)).setCell ⟨w.heap.size, 33, none⟩ (.int .i64 (128 * (h.st / 8 % 2)))).heap[w.heap.size]? = some (.cells (hA (rtrapH h c)) 28 (0, 0))) := by
    have s1 := set_heap hx 36 (.int .i64 h.pc) _ (hA_ep h h32 h.pc)
    have s2 := set_heap s1 37 (.int .i64 (wrap32 c)) _ (hA_ca { h with ep := h.pc } h32 (wrap32 c))
    have s3 := set_heap s2 32 (.int .i64 h.ve) _ (hA_pc { h with ep := h.pc, ca := wrap32 c } h32 h.ve)
    exact Lib.hid (set_heap s3 33 (.int .i64 (128 * (h.st / 8 % 2))) _ (hA_st { h with ep := h.pc, ca := wrap32 c, pc := h.ve } h32 _))
  have HZZ : Hid (((((w0.setCell ⟨w.heap.size, 36, none⟩ (.int .i64 h.pc)).setCell ⟨w.heap.size, 37, none⟩ (.int .i64 (wrap32 c))).setCell ⟨w.heap.size, 32, none⟩ (.int .i64 h.ve)).setCell ⟨w.heap.size, 33, none⟩ (.int .i64 (128 * (h.st / 8 % 2)))).heap[w.heap.size + 1]? = some (.cells zA 28 (0, 0))) := Lib.hid (heap_set_ne (by omega) (heap_set_ne (by omega) (heap_set_ne (by omega) (heap_set_ne (by omega) hz))))
  have HBB : Hid (Below w.heap.size w ((((w0.setCell ⟨w.heap.size, 36, none⟩ (.int .i64 h.pc)).setCell ⟨w.heap.size, 37, none⟩ (.int .i64 (wrap32 c))).setCell ⟨w.heap.size, 32, none⟩ (.int .i64 h.ve)).setCell ⟨w.heap.size, 33, none⟩ (.int .i64 (128 * (h.st / 8 % 2))))) := Lib.hid (bw_set (bw_set (bw_set (bw_set hb0 (Nat.le_refl _) _) (Nat.le_refl _) _) (Nat.le_refl _) _) (Nat.le_refl _) _)
  have hl : (rtrapH h c).r.length = 32 := h32
  clear hx hz hw0 g32 g33 g34 g36 g37
  generalize hrt : rtrapH h c = ht at *
  have HRT := Lib.hid hrt; clear hrt
  generalize h.st = st at *
  generalize h.ve = ve at *
  generalize h.pc = pc at *
  go_enter Try.func21, Try.ntmps21
  go_upto_region 1 with (fail)
  change Code.wp _ _ _ _ ((w.alloc (.cells (hA h) 28)).alloc (.cells zA 28))
  rw [← HW.out]
  go_upto_region 6 with (go_at_call 38; refine (rwrap_any c _ HC.out).mono ?_; rintro e w' ⟨rfl, rfl⟩)
  clear c32 c33 c34 c36 c37 f32 f33 f36 f37
  go_wp2_with (first | (refine wpList_load_row rfl 28 _ rfl (w.heap.size) rfl 28 (hA ht) (0, 0) _ HXX.out Try.underlying28 rfl (infoA (hA_size ht hl)) ?_) | (refine wpList_store_row rfl 28 _ _ rfl (w.heap.size + 1) (hA ht) rfl rfl 28 zA HZZ.out (infoA (hA_size ht hl)) (by rw [hA_size ht hl]; rfl) (hA_one ht) ?_))
  exact bodyPost_ret (v := .agg (hA ht)) (results_cell_row rfl _ _ (w.heap.size + 1) 28 (hA ht) (0, 0) _ rfl (setRow_heap _ _ _ _ _ _ HZZ.out) Try.underlying28 rfl (infoA (hA_size ht hl))) rfl ⟨rfl, below_setRow HBB.out (by omega) _⟩
theorem rtrap_eq (h : Ht) (c : Int) (hs : h.st = 0 ∨ h.st = 8 ∨ h.st = 128 ∨ h.st = 136) : rtrapH h c = trapH h c := by
  unfold rtrapH trapH
  have : trapSt h.st = 128 * (h.st / 8 % 2) := by rcases hs with e | e | e | e <;> rw [e] <;> kernel_rfl
  rw [this]
end Go.Proofs.Ytiahdhlfecgnpaa
