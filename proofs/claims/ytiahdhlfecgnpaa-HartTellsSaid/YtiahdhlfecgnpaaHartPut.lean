/-
  The contracts of hart.Put, hart.Lets.
-/
import Derived.Test.YtiahdhlfecgnpaaHartDef
import Derived.Test.YtiahdhlfecgnpaaWrapWalks
import Derived.Test.YtiahdhlfecgnpaaBw
import Derived.Laws.Rows
import Derived.Laws.Tables
import Derived.Laws.CopyOwn
import Derived.WalkSpells
import Derived.WalkLawsBesides
import Derived.Outline
import Derived.Deep.DeepCutAuto
namespace Go.Proofs.Ytiahdhlfecgnpaa
open Go.RowKit
def putH (h : Ht) (d n : Int) : Ht := if 0 < d ∧ d < 32 then { h with r := h.r.set d.toNat (wrap32 n) } else h
theorem put_len {h : Ht} (h32 : h.r.length = 32) (d n : Int) : (putH h d n).r.length = 32 := by
  unfold putH; split
  · simpa using h32
  · exact h32
theorem infoH : (Try.prog.info? 28).map (·.size) = some 39 := by kernel_rfl
theorem infoA {A : Array Value} (h : A.size = 39) : (Try.prog.info? 28).map (·.size) = some A.size := by rw [h]; exact infoH
set_option maxHeartbeats 1000000 in
theorem put_any (h : Ht) (d n : Int) (w : World) (h32 : h.r.length = 32) :
    Calls Try.prog 18 #[.agg (hA h), .int .i64 d, .int .i64 n] w fun e w' => e = .returned (.agg (hA (putH h d n))) ∧ Below w.heap.size w w' := by
  have hs := Lib.hid (hA_size h h32)
  have ho := Lib.hid (hA_one h)
  have HR := Lib.hid (fun k hk => hA_r h h32 k hk)
  have HSR := Lib.hid (fun k hk v => hA_set_r h h32 k hk v)
  by_cases hd : 0 < d ∧ d < 32
  · obtain ⟨k, rfl, hk1, hk2⟩ : ∃ k : Nat, d = k ∧ 0 < k ∧ k < 32 := ⟨d.toNat, by omega, by omega, by omega⟩
    have HE := Lib.hid (show putH h k n = { h with r := h.r.set k (wrap32 n) } by unfold putH; rw [if_pos hd]; rfl)
    have hs' := Lib.hid (hA_size (putH h k n) (put_len h32 k n))
    have ho' := Lib.hid (hA_one (putH h k n))
    obtain ⟨w0, hw0, hx, hz, hb0, hs0⟩ := two_new w (.cells (hA h) 28) (.cells zA 28)
    have HXS := Lib.hid (set_heap hx k (.int .i64 (wrap32 n)) (hA (putH h k n)) (by rw [HE.out]; exact HSR.out k hk2 _))
    have HZS := Lib.hid (heap_set_ne (b := w.heap.size) (o := k) (u := .int .i64 (wrap32 n)) (by omega : w.heap.size + 1 ≠ w.heap.size) hz)
    have c0 := cell_in hx (HR.out k hk2)
    have f0 := frozen_in hx k
    have HW := Lib.hid hw0
    clear HR hx hz hw0 HSR hd
    generalize hA (putH h k n) = B at *
    generalize hA h = A at *
    go_enter Try.func18, Try.ntmps18
    go_upto_region 1 with (fail)
    change Code.wp _ _ _ _ ((w.alloc (.cells A 28)).alloc (.cells zA 28))
    rw [← HW.out]
    go_wp2_with (first | (go_at_call 24; refine (wrap_any _ _).mono ?_; rintro e w' ⟨rfl, rfl⟩) | (refine wpList_load_row rfl 28 _ rfl (w.heap.size) rfl 28 B (0, 0) _ HXS.out Try.underlying28 rfl (infoA hs'.out) ?_) | (refine wpList_store_row rfl 28 _ _ rfl (w.heap.size + 1) B rfl rfl 28 zA HZS.out (infoA hs'.out) (by rw [hs'.out]; rfl) ho'.out ?_))
    refine bodyPost_ret (v := .agg B) (results_cell_row rfl _ _ (w.heap.size + 1) 28 B (0, 0) _ rfl (setRow_heap _ _ _ _ _ _ HZS.out) Try.underlying28 rfl (infoA hs'.out)) rfl ⟨rfl, below_setRow (by repeat (first | (with_reducible exact Below.refl _ _) | (with_reducible refine bw_set ?_ ?_ _) | (with_reducible apply bw_alloc) | (with_reducible refine bw_tr ?_ (by with_reducible assumption)) | (with_reducible apply bw_drew) | omega)) (by omega) _⟩
  · have HE := Lib.hid (show putH h d n = h by unfold putH; rw [if_neg hd])
    obtain ⟨w0, hw0, hx, hz, hb0, hs0⟩ := two_new w (.cells (hA h) 28) (.cells zA 28)
    have HX := Lib.hid hx; have HZ := Lib.hid hz
    have HW := Lib.hid hw0
    clear HR hx hz hw0 HSR
    rw [HE.out]
    generalize hA h = A at *
    by_cases hd1 : 0 < d
    · have hd2 : ¬ d < 32 := fun x => hd ⟨hd1, x⟩
      clear hd
      go_enter Try.func18, Try.ntmps18
      go_upto_region 1 with (fail)
      change Code.wp _ _ _ _ ((w.alloc (.cells A 28)).alloc (.cells zA 28))
      rw [← HW.out]
      go_wp2_with (first | (refine wpList_load_row rfl 28 _ rfl (w.heap.size) rfl 28 A (0, 0) _ HX.out Try.underlying28 rfl (infoA hs.out) ?_) | (refine wpList_store_row rfl 28 _ _ rfl (w.heap.size + 1) A rfl rfl 28 zA HZ.out (infoA hs.out) (by rw [hs.out]; rfl) ho.out ?_))
      refine bodyPost_ret (v := .agg A) (results_cell_row rfl _ _ (w.heap.size + 1) 28 A (0, 0) _ rfl (setRow_heap _ _ _ _ _ _ HZ.out) Try.underlying28 rfl (infoA hs.out)) rfl ⟨rfl, below_setRow (by repeat (first | (with_reducible exact Below.refl _ _) | (with_reducible refine bw_set ?_ ?_ _) | (with_reducible apply bw_alloc) | (with_reducible refine bw_tr ?_ (by with_reducible assumption)) | (with_reducible apply bw_drew) | omega)) (by omega) _⟩
    · clear hd
      go_enter Try.func18, Try.ntmps18
      go_upto_region 1 with (fail)
      change Code.wp _ _ _ _ ((w.alloc (.cells A 28)).alloc (.cells zA 28))
      rw [← HW.out]
      go_wp2_with (first | (refine wpList_load_row rfl 28 _ rfl (w.heap.size) rfl 28 A (0, 0) _ HX.out Try.underlying28 rfl (infoA hs.out) ?_) | (refine wpList_store_row rfl 28 _ _ rfl (w.heap.size + 1) A rfl rfl 28 zA HZ.out (infoA hs.out) (by rw [hs.out]; rfl) ho.out ?_))
      refine bodyPost_ret (v := .agg A) (results_cell_row rfl _ _ (w.heap.size + 1) 28 A (0, 0) _ rfl (setRow_heap _ _ _ _ _ _ HZ.out) Try.underlying28 rfl (infoA hs.out)) rfl ⟨rfl, below_setRow (by repeat (first | (with_reducible exact Below.refl _ _) | (with_reducible refine bw_set ?_ ?_ _) | (with_reducible apply bw_alloc) | (with_reducible refine bw_tr ?_ (by with_reducible assumption)) | (with_reducible apply bw_drew) | omega)) (by omega) _⟩

end Go.Proofs.Ytiahdhlfecgnpaa
