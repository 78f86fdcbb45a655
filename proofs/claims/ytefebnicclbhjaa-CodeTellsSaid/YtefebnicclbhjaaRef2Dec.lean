/-
  The contracts of headstockref02.read, Decode.
-/
import Derived.Test.YtefebnicclbhjaaRef2Enc
import Derived.Test.YtefebnicclbhjaaRef2DecS
import Derived.Laws.Rows
namespace Go.Proofs.Ytefebnicclbhjaa
open Go.RowKit
theorem bits_e (W : Nat) (a b : Int) (fr mn t : Nat) (w : World) (hW : W < 4294967296) (ha : a = fr) (hb : b = mn) (hf : fr < 32) (hm : mn < 32) (ht : fieldN W fr mn = t) :
    Calls Try.prog 32 #[.int .i64 W, .int .i64 a, .int .i64 b] w fun e w' => e = .returned (.int .i64 (t : Nat)) ∧ ∃ q, w' = w.drewN q := by
  subst ha hb ht
  have := bits_any W fr mn w ⟨by omega, by omega⟩ hf hm
  rwa [show ((W : Int) % 4294967296).toNat = W by omega] at this
theorem signed_v (n m v : Int) (k : Nat) (w : World) (hk : m = k) (hm : m = 12 ∨ m = 13 ∨ m = 21) (hn : 0 ≤ n ∧ n < 4294967296) (hv : sgnN k n = v) :
    Calls Try.prog 47 #[.int .i64 n, .int .i64 m] w fun e w' => e = .returned (.int .i64 v) ∧ w = w' := by
  subst hk hv
  exact signed_any n k w hm hn
theorem has_v (f c : Int) (r : Bool) (w : World) (hf : form12 f) (hc : c = 68 ∨ c = 65 ∨ c = 66) (hr : hasB f c = r) :
    Calls Try.prog 36 #[.int .u8 f, .int .u8 c] w fun e w' => e = .returned (.bool r) ∧ w = w' := by
  subst hr; exact has_any f c w hf hc
theorem set_in5 {X : World} {b : Nat} {t : TypeId} {a0 a1 a2 a3 a4 v0 v1 v2 v3 v4 : Value} (h : X.heap[b]? = some (.cells #[a0, a1, a2, a3, a4] t (0, 0))) :
    (((((X.setCell ⟨b, 0, none⟩ v0).setCell ⟨b, 1, none⟩ v1).setCell ⟨b, 2, none⟩ v2).setCell ⟨b, 3, none⟩ v3).setCell ⟨b, 4, none⟩ v4).heap[b]? = some (.cells #[v0, v1, v2, v3, v4] t (0, 0)) := by
  have := set_in (set_in (set_in (set_in (set_in h 0 v0) 1 v1) 2 v2) 3 v3) 4 v4
  simpa using this
theorem drewN_in {w : World} {b q : Nat} {x : Option Obj} (h : w.heap[b]? = x) : (w.drewN q).heap[b]? = x := h
set_option maxHeartbeats 4000000 in
set_option maxRecDepth 100000 in
theorem refRead_82 (op : Int) (W : Nat) (w : World) (hW : W < 4294967296) (hf : (rowT op).form = 82) :
    Calls Try.prog 43 #[.int .i64 op, .int .i64 W] w fun e w' => e = .returned (insV (decI op W)) ∧ Below w.heap.size w w' := by
  have HD : Hid (decI op W = ⟨op, ((fieldN W 7 5 : Nat) : Int), ((fieldN W 15 5 : Nat) : Int), ((fieldN W 20 5 : Nat) : Int), 0⟩) := by
    have e : decI op W = decR (rowT op).form op W := rfl
    rw [e, hf]; exact decS_82 op W
  have b7_5 := field_lt W 7 5
  have b15_5 := field_lt W 15 5
  have b20_5 := field_lt W 20 5
  simp only [Nat.reducePow] at b7_5 b15_5 b20_5
  generalize g7_5 : fieldN W 7 5 = v7_5 at *
  have G7_5 := Lib.hid g7_5; clear g7_5
  generalize g15_5 : fieldN W 15 5 = v15_5 at *
  have G15_5 := Lib.hid g15_5; clear g15_5
  generalize g20_5 : fieldN W 20 5 = v20_5 at *
  have G20_5 := Lib.hid g20_5; clear g20_5
  generalize hrw : rowT op = r at *
  have HRW := Lib.hid hrw; clear hrw
  obtain ⟨nm, f, lo, mi, hi⟩ := r
  simp only at hf
  subst hf
  have hfld := fun w => field_form nm 82 lo mi hi w
  go_enter Try.func43, Try.ntmps43
  go_wp2_with fail
  refine (refRow_any op _).mono ?_
  rw [HRW.out]
  rintro e w1 ⟨rfl, hb1⟩
  obtain ⟨c1, f1⟩ := bcell hb1
  have s1 := hb1.size
  simp at s1
  have l1 : w.heap.size < w1.heap.size := by omega
  have l2 : w.heap.size + 1 < w1.heap.size := by omega
  have hz := bel_in (b := w.heap.size) (o := .cells #[.int .i64 0, .int .i64 0, .int .i64 0, .int .i64 0, .int .i64 0] 23 (0, 0)) hb1 (by simp <;> omega) (heap_alloc2_old w _ _)
  have HZ := Lib.hid hz; clear hz
  have f12 : form12 82 := by unfold form12; simp
  have F12 := Lib.hid f12; clear f12
  unfold rfV
  go_wp2_with (first | (go_at_call 36; first | ((with_reducible refine (has_v 82 68 true _ F12.out (by decide) rfl).mono ?_); rintro e w' ⟨rfl, rfl⟩) | ((with_reducible refine (has_v 82 65 true _ F12.out (by decide) rfl).mono ?_); rintro e w' ⟨rfl, rfl⟩) | ((with_reducible refine (has_v 82 66 true _ F12.out (by decide) rfl).mono ?_); rintro e w' ⟨rfl, rfl⟩)) | (go_at_call 32; first | ((with_reducible refine (bits_e W 7 5 7 5 v7_5 _ hW rfl rfl (by decide) (by decide) G7_5.out).mono ?_); rintro e w' ⟨rfl, q, rfl⟩) | ((with_reducible refine (bits_e W 15 5 15 5 v15_5 _ hW rfl rfl (by decide) (by decide) G15_5.out).mono ?_); rintro e w' ⟨rfl, q, rfl⟩) | ((with_reducible refine (bits_e W 20 5 20 5 v20_5 _ hW rfl rfl (by decide) (by decide) G20_5.out).mono ?_); rintro e w' ⟨rfl, q, rfl⟩)))
  refine bodyPost_ret (v := insV ⟨op, v7_5, v15_5, v20_5, 0⟩) (results_cell_row rfl _ _ w.heap.size 23 #[.int .i64 op, .int .i64 v7_5, .int .i64 v15_5, .int .i64 v20_5, .int .i64 0] (0, 0) _ rfl ?_ Try.underlying23 rfl (by kernel_rfl)) rfl ⟨by rw [HD.out], ?_⟩
  · refine set_in5 (a0 := .int .i64 0) (a1 := .int .i64 0) (a2 := .int .i64 0) (a3 := .int .i64 0) (a4 := .int .i64 0) ?_
    repeat (first | (with_reducible exact HZ.out) | (with_reducible apply drewN_in) | (with_reducible refine heap_set_ne (by omega) ?_))
  · repeat (first | (with_reducible exact Below.refl _ _) | (with_reducible refine bw_set ?_ (by omega) _) | (with_reducible apply below_drewN) | (with_reducible apply bw_alloc) | (with_reducible refine bw_tr ?_ (by with_reducible assumption)))
set_option maxHeartbeats 4000000 in
set_option maxRecDepth 100000 in
theorem refRead_73 (op : Int) (W : Nat) (w : World) (hW : W < 4294967296) (hf : (rowT op).form = 73) :
    Calls Try.prog 43 #[.int .i64 op, .int .i64 W] w fun e w' => e = .returned (insV (decI op W)) ∧ Below w.heap.size w w' := by
  have HD : Hid (decI op W = ⟨op, ((fieldN W 7 5 : Nat) : Int), ((fieldN W 15 5 : Nat) : Int), 0, sgnN 12 ((fieldN W 20 12 : Nat) : Int)⟩) := by
    have e : decI op W = decR (rowT op).form op W := rfl
    rw [e, hf]; exact decS_73 op W
  have b7_5 := field_lt W 7 5
  have b15_5 := field_lt W 15 5
  have b20_12 := field_lt W 20 12
  simp only [Nat.reducePow] at b7_5 b15_5 b20_12
  generalize g7_5 : fieldN W 7 5 = v7_5 at *
  have G7_5 := Lib.hid g7_5; clear g7_5
  generalize g15_5 : fieldN W 15 5 = v15_5 at *
  have G15_5 := Lib.hid g15_5; clear g15_5
  generalize g20_12 : fieldN W 20 12 = v20_12 at *
  have G20_12 := Lib.hid g20_12; clear g20_12
  generalize gs : sgnN 12 ((v20_12 : Nat) : Int) = sv at *
  have GS := Lib.hid gs; clear gs
  try simp only [Int.natCast_add, Int.natCast_mul, Int.cast_ofNat_Int] at GS
  generalize hrw : rowT op = r at *
  have HRW := Lib.hid hrw; clear hrw
  obtain ⟨nm, f, lo, mi, hi⟩ := r
  simp only at hf
  subst hf
  have hfld := fun w => field_form nm 73 lo mi hi w
  go_enter Try.func43, Try.ntmps43
  go_wp2_with fail
  refine (refRow_any op _).mono ?_
  rw [HRW.out]
  rintro e w1 ⟨rfl, hb1⟩
  obtain ⟨c1, f1⟩ := bcell hb1
  have s1 := hb1.size
  simp at s1
  have l1 : w.heap.size < w1.heap.size := by omega
  have l2 : w.heap.size + 1 < w1.heap.size := by omega
  have hz := bel_in (b := w.heap.size) (o := .cells #[.int .i64 0, .int .i64 0, .int .i64 0, .int .i64 0, .int .i64 0] 23 (0, 0)) hb1 (by simp <;> omega) (heap_alloc2_old w _ _)
  have HZ := Lib.hid hz; clear hz
  have f12 : form12 73 := by unfold form12; simp
  have F12 := Lib.hid f12; clear f12
  unfold rfV
  go_wp2_with (first | (go_at_call 36; first | ((with_reducible refine (has_v 73 68 true _ F12.out (by decide) rfl).mono ?_); rintro e w' ⟨rfl, rfl⟩) | ((with_reducible refine (has_v 73 65 true _ F12.out (by decide) rfl).mono ?_); rintro e w' ⟨rfl, rfl⟩) | ((with_reducible refine (has_v 73 66 false _ F12.out (by decide) rfl).mono ?_); rintro e w' ⟨rfl, rfl⟩)) | (go_at_call 32; first | ((with_reducible refine (bits_e W 7 5 7 5 v7_5 _ hW rfl rfl (by decide) (by decide) G7_5.out).mono ?_); rintro e w' ⟨rfl, q, rfl⟩) | ((with_reducible refine (bits_e W 15 5 15 5 v15_5 _ hW rfl rfl (by decide) (by decide) G15_5.out).mono ?_); rintro e w' ⟨rfl, q, rfl⟩) | ((with_reducible refine (bits_e W 20 12 20 12 v20_12 _ hW rfl rfl (by decide) (by decide) G20_12.out).mono ?_); rintro e w' ⟨rfl, q, rfl⟩)) | (go_at_call 47; ((refine (signed_v _ 12 sv 12 _ rfl (by decide) (by omega) GS.out).mono ?_); rintro e w' ⟨rfl, rfl⟩)))
  refine bodyPost_ret (v := insV ⟨op, v7_5, v15_5, 0, sv⟩) (results_cell_row rfl _ _ w.heap.size 23 #[.int .i64 op, .int .i64 v7_5, .int .i64 v15_5, .int .i64 0, .int .i64 sv] (0, 0) _ rfl ?_ Try.underlying23 rfl (by kernel_rfl)) rfl ⟨by rw [HD.out], ?_⟩
  · refine set_in5 (a0 := .int .i64 0) (a1 := .int .i64 0) (a2 := .int .i64 0) (a3 := .int .i64 0) (a4 := .int .i64 0) ?_
    repeat (first | (with_reducible exact HZ.out) | (with_reducible apply drewN_in) | (with_reducible refine heap_set_ne (by omega) ?_))
  · repeat (first | (with_reducible exact Below.refl _ _) | (with_reducible refine bw_set ?_ (by omega) _) | (with_reducible apply below_drewN) | (with_reducible apply bw_alloc) | (with_reducible refine bw_tr ?_ (by with_reducible assumption)))
set_option maxHeartbeats 4000000 in
set_option maxRecDepth 100000 in
theorem refRead_67 (op : Int) (W : Nat) (w : World) (hW : W < 4294967296) (hf : (rowT op).form = 67) :
    Calls Try.prog 43 #[.int .i64 op, .int .i64 W] w fun e w' => e = .returned (insV (decI op W)) ∧ Below w.heap.size w w' := by
  have HD : Hid (decI op W = ⟨op, ((fieldN W 7 5 : Nat) : Int), ((fieldN W 15 5 : Nat) : Int), 0, ((fieldN W 20 12 : Nat) : Int)⟩) := by
    have e : decI op W = decR (rowT op).form op W := rfl
    rw [e, hf]; exact decS_67 op W
  have b7_5 := field_lt W 7 5
  have b15_5 := field_lt W 15 5
  have b20_12 := field_lt W 20 12
  simp only [Nat.reducePow] at b7_5 b15_5 b20_12
  generalize g7_5 : fieldN W 7 5 = v7_5 at *
  have G7_5 := Lib.hid g7_5; clear g7_5
  generalize g15_5 : fieldN W 15 5 = v15_5 at *
  have G15_5 := Lib.hid g15_5; clear g15_5
  generalize g20_12 : fieldN W 20 12 = v20_12 at *
  have G20_12 := Lib.hid g20_12; clear g20_12
  generalize hrw : rowT op = r at *
  have HRW := Lib.hid hrw; clear hrw
  obtain ⟨nm, f, lo, mi, hi⟩ := r
  simp only at hf
  subst hf
  have hfld := fun w => field_form nm 67 lo mi hi w
  go_enter Try.func43, Try.ntmps43
  go_wp2_with fail
  refine (refRow_any op _).mono ?_
  rw [HRW.out]
  rintro e w1 ⟨rfl, hb1⟩
  obtain ⟨c1, f1⟩ := bcell hb1
  have s1 := hb1.size
  simp at s1
  have l1 : w.heap.size < w1.heap.size := by omega
  have l2 : w.heap.size + 1 < w1.heap.size := by omega
  have hz := bel_in (b := w.heap.size) (o := .cells #[.int .i64 0, .int .i64 0, .int .i64 0, .int .i64 0, .int .i64 0] 23 (0, 0)) hb1 (by simp <;> omega) (heap_alloc2_old w _ _)
  have HZ := Lib.hid hz; clear hz
  have f12 : form12 67 := by unfold form12; simp
  have F12 := Lib.hid f12; clear f12
  unfold rfV
  go_wp2_with (first | (go_at_call 36; first | ((with_reducible refine (has_v 67 68 true _ F12.out (by decide) rfl).mono ?_); rintro e w' ⟨rfl, rfl⟩) | ((with_reducible refine (has_v 67 65 true _ F12.out (by decide) rfl).mono ?_); rintro e w' ⟨rfl, rfl⟩) | ((with_reducible refine (has_v 67 66 false _ F12.out (by decide) rfl).mono ?_); rintro e w' ⟨rfl, rfl⟩)) | (go_at_call 32; first | ((with_reducible refine (bits_e W 7 5 7 5 v7_5 _ hW rfl rfl (by decide) (by decide) G7_5.out).mono ?_); rintro e w' ⟨rfl, q, rfl⟩) | ((with_reducible refine (bits_e W 15 5 15 5 v15_5 _ hW rfl rfl (by decide) (by decide) G15_5.out).mono ?_); rintro e w' ⟨rfl, q, rfl⟩) | ((with_reducible refine (bits_e W 20 12 20 12 v20_12 _ hW rfl rfl (by decide) (by decide) G20_12.out).mono ?_); rintro e w' ⟨rfl, q, rfl⟩)))
  refine bodyPost_ret (v := insV ⟨op, v7_5, v15_5, 0, v20_12⟩) (results_cell_row rfl _ _ w.heap.size 23 #[.int .i64 op, .int .i64 v7_5, .int .i64 v15_5, .int .i64 0, .int .i64 v20_12] (0, 0) _ rfl ?_ Try.underlying23 rfl (by kernel_rfl)) rfl ⟨by rw [HD.out], ?_⟩
  · refine set_in5 (a0 := .int .i64 0) (a1 := .int .i64 0) (a2 := .int .i64 0) (a3 := .int .i64 0) (a4 := .int .i64 0) ?_
    repeat (first | (with_reducible exact HZ.out) | (with_reducible apply drewN_in) | (with_reducible refine heap_set_ne (by omega) ?_))
  · repeat (first | (with_reducible exact Below.refl _ _) | (with_reducible refine bw_set ?_ (by omega) _) | (with_reducible apply below_drewN) | (with_reducible apply bw_alloc) | (with_reducible refine bw_tr ?_ (by with_reducible assumption)))
set_option maxHeartbeats 4000000 in
set_option maxRecDepth 100000 in
theorem refRead_72 (op : Int) (W : Nat) (w : World) (hW : W < 4294967296) (hf : (rowT op).form = 72) :
    Calls Try.prog 43 #[.int .i64 op, .int .i64 W] w fun e w' => e = .returned (insV (decI op W)) ∧ Below w.heap.size w w' := by
  have HD : Hid (decI op W = ⟨op, ((fieldN W 7 5 : Nat) : Int), ((fieldN W 15 5 : Nat) : Int), 0, ((fieldN W 20 5 : Nat) : Int)⟩) := by
    have e : decI op W = decR (rowT op).form op W := rfl
    rw [e, hf]; exact decS_72 op W
  have b7_5 := field_lt W 7 5
  have b15_5 := field_lt W 15 5
  have b20_5 := field_lt W 20 5
  simp only [Nat.reducePow] at b7_5 b15_5 b20_5
  generalize g7_5 : fieldN W 7 5 = v7_5 at *
  have G7_5 := Lib.hid g7_5; clear g7_5
  generalize g15_5 : fieldN W 15 5 = v15_5 at *
  have G15_5 := Lib.hid g15_5; clear g15_5
  generalize g20_5 : fieldN W 20 5 = v20_5 at *
  have G20_5 := Lib.hid g20_5; clear g20_5
  generalize hrw : rowT op = r at *
  have HRW := Lib.hid hrw; clear hrw
  obtain ⟨nm, f, lo, mi, hi⟩ := r
  simp only at hf
  subst hf
  have hfld := fun w => field_form nm 72 lo mi hi w
  go_enter Try.func43, Try.ntmps43
  go_wp2_with fail
  refine (refRow_any op _).mono ?_
  rw [HRW.out]
  rintro e w1 ⟨rfl, hb1⟩
  obtain ⟨c1, f1⟩ := bcell hb1
  have s1 := hb1.size
  simp at s1
  have l1 : w.heap.size < w1.heap.size := by omega
  have l2 : w.heap.size + 1 < w1.heap.size := by omega
  have hz := bel_in (b := w.heap.size) (o := .cells #[.int .i64 0, .int .i64 0, .int .i64 0, .int .i64 0, .int .i64 0] 23 (0, 0)) hb1 (by simp <;> omega) (heap_alloc2_old w _ _)
  have HZ := Lib.hid hz; clear hz
  have f12 : form12 72 := by unfold form12; simp
  have F12 := Lib.hid f12; clear f12
  unfold rfV
  go_wp2_with (first | (go_at_call 36; first | ((with_reducible refine (has_v 72 68 true _ F12.out (by decide) rfl).mono ?_); rintro e w' ⟨rfl, rfl⟩) | ((with_reducible refine (has_v 72 65 true _ F12.out (by decide) rfl).mono ?_); rintro e w' ⟨rfl, rfl⟩) | ((with_reducible refine (has_v 72 66 false _ F12.out (by decide) rfl).mono ?_); rintro e w' ⟨rfl, rfl⟩)) | (go_at_call 32; first | ((with_reducible refine (bits_e W 7 5 7 5 v7_5 _ hW rfl rfl (by decide) (by decide) G7_5.out).mono ?_); rintro e w' ⟨rfl, q, rfl⟩) | ((with_reducible refine (bits_e W 15 5 15 5 v15_5 _ hW rfl rfl (by decide) (by decide) G15_5.out).mono ?_); rintro e w' ⟨rfl, q, rfl⟩) | ((with_reducible refine (bits_e W 20 5 20 5 v20_5 _ hW rfl rfl (by decide) (by decide) G20_5.out).mono ?_); rintro e w' ⟨rfl, q, rfl⟩)))
  refine bodyPost_ret (v := insV ⟨op, v7_5, v15_5, 0, v20_5⟩) (results_cell_row rfl _ _ w.heap.size 23 #[.int .i64 op, .int .i64 v7_5, .int .i64 v15_5, .int .i64 0, .int .i64 v20_5] (0, 0) _ rfl ?_ Try.underlying23 rfl (by kernel_rfl)) rfl ⟨by rw [HD.out], ?_⟩
  · refine set_in5 (a0 := .int .i64 0) (a1 := .int .i64 0) (a2 := .int .i64 0) (a3 := .int .i64 0) (a4 := .int .i64 0) ?_
    repeat (first | (with_reducible exact HZ.out) | (with_reducible apply drewN_in) | (with_reducible refine heap_set_ne (by omega) ?_))
  · repeat (first | (with_reducible exact Below.refl _ _) | (with_reducible refine bw_set ?_ (by omega) _) | (with_reducible apply below_drewN) | (with_reducible apply bw_alloc) | (with_reducible refine bw_tr ?_ (by with_reducible assumption)))
set_option maxHeartbeats 4000000 in
set_option maxRecDepth 100000 in
theorem refRead_83 (op : Int) (W : Nat) (w : World) (hW : W < 4294967296) (hf : (rowT op).form = 83) :
    Calls Try.prog 43 #[.int .i64 op, .int .i64 W] w fun e w' => e = .returned (insV (decI op W)) ∧ Below w.heap.size w w' := by
  have HD : Hid (decI op W = ⟨op, 0, ((fieldN W 15 5 : Nat) : Int), ((fieldN W 20 5 : Nat) : Int), sgnN 12 ((fieldN W 7 5 + fieldN W 25 7 * 32 : Nat) : Int)⟩) := by
    have e : decI op W = decR (rowT op).form op W := rfl
    rw [e, hf]; exact decS_83 op W
  have b15_5 := field_lt W 15 5
  have b20_5 := field_lt W 20 5
  have b7_5 := field_lt W 7 5
  have b25_7 := field_lt W 25 7
  simp only [Nat.reducePow] at b15_5 b20_5 b7_5 b25_7
  generalize g15_5 : fieldN W 15 5 = v15_5 at *
  have G15_5 := Lib.hid g15_5; clear g15_5
  generalize g20_5 : fieldN W 20 5 = v20_5 at *
  have G20_5 := Lib.hid g20_5; clear g20_5
  generalize g7_5 : fieldN W 7 5 = v7_5 at *
  have G7_5 := Lib.hid g7_5; clear g7_5
  generalize g25_7 : fieldN W 25 7 = v25_7 at *
  have G25_7 := Lib.hid g25_7; clear g25_7
  generalize gs : sgnN 12 ((v7_5 + v25_7 * 32 : Nat) : Int) = sv at *
  have GS := Lib.hid gs; clear gs
  try simp only [Int.natCast_add, Int.natCast_mul, Int.cast_ofNat_Int] at GS
  generalize hrw : rowT op = r at *
  have HRW := Lib.hid hrw; clear hrw
  obtain ⟨nm, f, lo, mi, hi⟩ := r
  simp only at hf
  subst hf
  have hfld := fun w => field_form nm 83 lo mi hi w
  go_enter Try.func43, Try.ntmps43
  go_wp2_with fail
  refine (refRow_any op _).mono ?_
  rw [HRW.out]
  rintro e w1 ⟨rfl, hb1⟩
  obtain ⟨c1, f1⟩ := bcell hb1
  have s1 := hb1.size
  simp at s1
  have l1 : w.heap.size < w1.heap.size := by omega
  have l2 : w.heap.size + 1 < w1.heap.size := by omega
  have hz := bel_in (b := w.heap.size) (o := .cells #[.int .i64 0, .int .i64 0, .int .i64 0, .int .i64 0, .int .i64 0] 23 (0, 0)) hb1 (by simp <;> omega) (heap_alloc2_old w _ _)
  have HZ := Lib.hid hz; clear hz
  have f12 : form12 83 := by unfold form12; simp
  have F12 := Lib.hid f12; clear f12
  unfold rfV
  go_wp2_with (first | (go_at_call 36; first | ((with_reducible refine (has_v 83 68 false _ F12.out (by decide) rfl).mono ?_); rintro e w' ⟨rfl, rfl⟩) | ((with_reducible refine (has_v 83 65 true _ F12.out (by decide) rfl).mono ?_); rintro e w' ⟨rfl, rfl⟩) | ((with_reducible refine (has_v 83 66 true _ F12.out (by decide) rfl).mono ?_); rintro e w' ⟨rfl, rfl⟩)) | (go_at_call 32; first | ((with_reducible refine (bits_e W 15 5 15 5 v15_5 _ hW rfl rfl (by decide) (by decide) G15_5.out).mono ?_); rintro e w' ⟨rfl, q, rfl⟩) | ((with_reducible refine (bits_e W 20 5 20 5 v20_5 _ hW rfl rfl (by decide) (by decide) G20_5.out).mono ?_); rintro e w' ⟨rfl, q, rfl⟩) | ((with_reducible refine (bits_e W 7 5 7 5 v7_5 _ hW rfl rfl (by decide) (by decide) G7_5.out).mono ?_); rintro e w' ⟨rfl, q, rfl⟩) | ((with_reducible refine (bits_e W 25 7 25 7 v25_7 _ hW rfl rfl (by decide) (by decide) G25_7.out).mono ?_); rintro e w' ⟨rfl, q, rfl⟩)) | (go_at_call 47; ((refine (signed_v _ 12 sv 12 _ rfl (by decide) (by omega) GS.out).mono ?_); rintro e w' ⟨rfl, rfl⟩)))
  refine bodyPost_ret (v := insV ⟨op, 0, v15_5, v20_5, sv⟩) (results_cell_row rfl _ _ w.heap.size 23 #[.int .i64 op, .int .i64 0, .int .i64 v15_5, .int .i64 v20_5, .int .i64 sv] (0, 0) _ rfl ?_ Try.underlying23 rfl (by kernel_rfl)) rfl ⟨by rw [HD.out], ?_⟩
  · refine set_in5 (a0 := .int .i64 0) (a1 := .int .i64 0) (a2 := .int .i64 0) (a3 := .int .i64 0) (a4 := .int .i64 0) ?_
    repeat (first | (with_reducible exact HZ.out) | (with_reducible apply drewN_in) | (with_reducible refine heap_set_ne (by omega) ?_))
  · repeat (first | (with_reducible exact Below.refl _ _) | (with_reducible refine bw_set ?_ (by omega) _) | (with_reducible apply below_drewN) | (with_reducible apply bw_alloc) | (with_reducible refine bw_tr ?_ (by with_reducible assumption)))
set_option maxHeartbeats 4000000 in
set_option maxRecDepth 100000 in
theorem refRead_66 (op : Int) (W : Nat) (w : World) (hW : W < 4294967296) (hf : (rowT op).form = 66) :
    Calls Try.prog 43 #[.int .i64 op, .int .i64 W] w fun e w' => e = .returned (insV (decI op W)) ∧ Below w.heap.size w w' := by
  have HD : Hid (decI op W = ⟨op, 0, ((fieldN W 15 5 : Nat) : Int), ((fieldN W 20 5 : Nat) : Int), sgnN 13 ((fieldN W 8 4 * 2 + fieldN W 25 6 * 32 + fieldN W 7 1 * 2048 + fieldN W 31 1 * 4096 : Nat) : Int)⟩) := by
    have e : decI op W = decR (rowT op).form op W := rfl
    rw [e, hf]; exact decS_66 op W
  have b15_5 := field_lt W 15 5
  have b20_5 := field_lt W 20 5
  have b8_4 := field_lt W 8 4
  have b25_6 := field_lt W 25 6
  have b7_1 := field_lt W 7 1
  have b31_1 := field_lt W 31 1
  simp only [Nat.reducePow] at b15_5 b20_5 b8_4 b25_6 b7_1 b31_1
  generalize g15_5 : fieldN W 15 5 = v15_5 at *
  have G15_5 := Lib.hid g15_5; clear g15_5
  generalize g20_5 : fieldN W 20 5 = v20_5 at *
  have G20_5 := Lib.hid g20_5; clear g20_5
  generalize g8_4 : fieldN W 8 4 = v8_4 at *
  have G8_4 := Lib.hid g8_4; clear g8_4
  generalize g25_6 : fieldN W 25 6 = v25_6 at *
  have G25_6 := Lib.hid g25_6; clear g25_6
  generalize g7_1 : fieldN W 7 1 = v7_1 at *
  have G7_1 := Lib.hid g7_1; clear g7_1
  generalize g31_1 : fieldN W 31 1 = v31_1 at *
  have G31_1 := Lib.hid g31_1; clear g31_1
  generalize gs : sgnN 13 ((v8_4 * 2 + v25_6 * 32 + v7_1 * 2048 + v31_1 * 4096 : Nat) : Int) = sv at *
  have GS := Lib.hid gs; clear gs
  try simp only [Int.natCast_add, Int.natCast_mul, Int.cast_ofNat_Int] at GS
  generalize hrw : rowT op = r at *
  have HRW := Lib.hid hrw; clear hrw
  obtain ⟨nm, f, lo, mi, hi⟩ := r
  simp only at hf
  subst hf
  have hfld := fun w => field_form nm 66 lo mi hi w
  go_enter Try.func43, Try.ntmps43
  go_wp2_with fail
  refine (refRow_any op _).mono ?_
  rw [HRW.out]
  rintro e w1 ⟨rfl, hb1⟩
  obtain ⟨c1, f1⟩ := bcell hb1
  have s1 := hb1.size
  simp at s1
  have l1 : w.heap.size < w1.heap.size := by omega
  have l2 : w.heap.size + 1 < w1.heap.size := by omega
  have hz := bel_in (b := w.heap.size) (o := .cells #[.int .i64 0, .int .i64 0, .int .i64 0, .int .i64 0, .int .i64 0] 23 (0, 0)) hb1 (by simp <;> omega) (heap_alloc2_old w _ _)
  have HZ := Lib.hid hz; clear hz
  have f12 : form12 66 := by unfold form12; simp
  have F12 := Lib.hid f12; clear f12
  unfold rfV
  go_wp2_with (first | (go_at_call 36; first | ((with_reducible refine (has_v 66 68 false _ F12.out (by decide) rfl).mono ?_); rintro e w' ⟨rfl, rfl⟩) | ((with_reducible refine (has_v 66 65 true _ F12.out (by decide) rfl).mono ?_); rintro e w' ⟨rfl, rfl⟩) | ((with_reducible refine (has_v 66 66 true _ F12.out (by decide) rfl).mono ?_); rintro e w' ⟨rfl, rfl⟩)) | (go_at_call 32; first | ((with_reducible refine (bits_e W 15 5 15 5 v15_5 _ hW rfl rfl (by decide) (by decide) G15_5.out).mono ?_); rintro e w' ⟨rfl, q, rfl⟩) | ((with_reducible refine (bits_e W 20 5 20 5 v20_5 _ hW rfl rfl (by decide) (by decide) G20_5.out).mono ?_); rintro e w' ⟨rfl, q, rfl⟩) | ((with_reducible refine (bits_e W 8 4 8 4 v8_4 _ hW rfl rfl (by decide) (by decide) G8_4.out).mono ?_); rintro e w' ⟨rfl, q, rfl⟩) | ((with_reducible refine (bits_e W 25 6 25 6 v25_6 _ hW rfl rfl (by decide) (by decide) G25_6.out).mono ?_); rintro e w' ⟨rfl, q, rfl⟩) | ((with_reducible refine (bits_e W 7 1 7 1 v7_1 _ hW rfl rfl (by decide) (by decide) G7_1.out).mono ?_); rintro e w' ⟨rfl, q, rfl⟩) | ((with_reducible refine (bits_e W 31 1 31 1 v31_1 _ hW rfl rfl (by decide) (by decide) G31_1.out).mono ?_); rintro e w' ⟨rfl, q, rfl⟩)) | (go_at_call 47; ((refine (signed_v _ 13 sv 13 _ rfl (by decide) (by omega) GS.out).mono ?_); rintro e w' ⟨rfl, rfl⟩)))
  refine bodyPost_ret (v := insV ⟨op, 0, v15_5, v20_5, sv⟩) (results_cell_row rfl _ _ w.heap.size 23 #[.int .i64 op, .int .i64 0, .int .i64 v15_5, .int .i64 v20_5, .int .i64 sv] (0, 0) _ rfl ?_ Try.underlying23 rfl (by kernel_rfl)) rfl ⟨by rw [HD.out], ?_⟩
  · refine set_in5 (a0 := .int .i64 0) (a1 := .int .i64 0) (a2 := .int .i64 0) (a3 := .int .i64 0) (a4 := .int .i64 0) ?_
    repeat (first | (with_reducible exact HZ.out) | (with_reducible apply drewN_in) | (with_reducible refine heap_set_ne (by omega) ?_))
  · repeat (first | (with_reducible exact Below.refl _ _) | (with_reducible refine bw_set ?_ (by omega) _) | (with_reducible apply below_drewN) | (with_reducible apply bw_alloc) | (with_reducible refine bw_tr ?_ (by with_reducible assumption)))
set_option maxHeartbeats 4000000 in
set_option maxRecDepth 100000 in
theorem refRead_85 (op : Int) (W : Nat) (w : World) (hW : W < 4294967296) (hf : (rowT op).form = 85) :
    Calls Try.prog 43 #[.int .i64 op, .int .i64 W] w fun e w' => e = .returned (insV (decI op W)) ∧ Below w.heap.size w w' := by
  have HD : Hid (decI op W = ⟨op, ((fieldN W 7 5 : Nat) : Int), 0, 0, ((fieldN W 12 20 : Nat) : Int)⟩) := by
    have e : decI op W = decR (rowT op).form op W := rfl
    rw [e, hf]; exact decS_85 op W
  have b7_5 := field_lt W 7 5
  have b12_20 := field_lt W 12 20
  simp only [Nat.reducePow] at b7_5 b12_20
  generalize g7_5 : fieldN W 7 5 = v7_5 at *
  have G7_5 := Lib.hid g7_5; clear g7_5
  generalize g12_20 : fieldN W 12 20 = v12_20 at *
  have G12_20 := Lib.hid g12_20; clear g12_20
  generalize hrw : rowT op = r at *
  have HRW := Lib.hid hrw; clear hrw
  obtain ⟨nm, f, lo, mi, hi⟩ := r
  simp only at hf
  subst hf
  have hfld := fun w => field_form nm 85 lo mi hi w
  go_enter Try.func43, Try.ntmps43
  go_wp2_with fail
  refine (refRow_any op _).mono ?_
  rw [HRW.out]
  rintro e w1 ⟨rfl, hb1⟩
  obtain ⟨c1, f1⟩ := bcell hb1
  have s1 := hb1.size
  simp at s1
  have l1 : w.heap.size < w1.heap.size := by omega
  have l2 : w.heap.size + 1 < w1.heap.size := by omega
  have hz := bel_in (b := w.heap.size) (o := .cells #[.int .i64 0, .int .i64 0, .int .i64 0, .int .i64 0, .int .i64 0] 23 (0, 0)) hb1 (by simp <;> omega) (heap_alloc2_old w _ _)
  have HZ := Lib.hid hz; clear hz
  have f12 : form12 85 := by unfold form12; simp
  have F12 := Lib.hid f12; clear f12
  unfold rfV
  go_wp2_with (first | (go_at_call 36; first | ((with_reducible refine (has_v 85 68 true _ F12.out (by decide) rfl).mono ?_); rintro e w' ⟨rfl, rfl⟩) | ((with_reducible refine (has_v 85 65 false _ F12.out (by decide) rfl).mono ?_); rintro e w' ⟨rfl, rfl⟩) | ((with_reducible refine (has_v 85 66 false _ F12.out (by decide) rfl).mono ?_); rintro e w' ⟨rfl, rfl⟩)) | (go_at_call 32; first | ((with_reducible refine (bits_e W 7 5 7 5 v7_5 _ hW rfl rfl (by decide) (by decide) G7_5.out).mono ?_); rintro e w' ⟨rfl, q, rfl⟩) | ((with_reducible refine (bits_e W 12 20 12 20 v12_20 _ hW rfl rfl (by decide) (by decide) G12_20.out).mono ?_); rintro e w' ⟨rfl, q, rfl⟩)))
  refine bodyPost_ret (v := insV ⟨op, v7_5, 0, 0, v12_20⟩) (results_cell_row rfl _ _ w.heap.size 23 #[.int .i64 op, .int .i64 v7_5, .int .i64 0, .int .i64 0, .int .i64 v12_20] (0, 0) _ rfl ?_ Try.underlying23 rfl (by kernel_rfl)) rfl ⟨by rw [HD.out], ?_⟩
  · refine set_in5 (a0 := .int .i64 0) (a1 := .int .i64 0) (a2 := .int .i64 0) (a3 := .int .i64 0) (a4 := .int .i64 0) ?_
    repeat (first | (with_reducible exact HZ.out) | (with_reducible apply drewN_in) | (with_reducible refine heap_set_ne (by omega) ?_))
  · repeat (first | (with_reducible exact Below.refl _ _) | (with_reducible refine bw_set ?_ (by omega) _) | (with_reducible apply below_drewN) | (with_reducible apply bw_alloc) | (with_reducible refine bw_tr ?_ (by with_reducible assumption)))
set_option maxHeartbeats 4000000 in
set_option maxRecDepth 100000 in
theorem refRead_74 (op : Int) (W : Nat) (w : World) (hW : W < 4294967296) (hf : (rowT op).form = 74) :
    Calls Try.prog 43 #[.int .i64 op, .int .i64 W] w fun e w' => e = .returned (insV (decI op W)) ∧ Below w.heap.size w w' := by
  have HD : Hid (decI op W = ⟨op, ((fieldN W 7 5 : Nat) : Int), 0, 0, sgnN 21 ((fieldN W 21 10 * 2 + fieldN W 20 1 * 2048 + fieldN W 12 8 * 4096 + fieldN W 31 1 * 1048576 : Nat) : Int)⟩) := by
    have e : decI op W = decR (rowT op).form op W := rfl
    rw [e, hf]; exact decS_74 op W
  have b7_5 := field_lt W 7 5
  have b21_10 := field_lt W 21 10
  have b20_1 := field_lt W 20 1
  have b12_8 := field_lt W 12 8
  have b31_1 := field_lt W 31 1
  simp only [Nat.reducePow] at b7_5 b21_10 b20_1 b12_8 b31_1
  generalize g7_5 : fieldN W 7 5 = v7_5 at *
  have G7_5 := Lib.hid g7_5; clear g7_5
  generalize g21_10 : fieldN W 21 10 = v21_10 at *
  have G21_10 := Lib.hid g21_10; clear g21_10
  generalize g20_1 : fieldN W 20 1 = v20_1 at *
  have G20_1 := Lib.hid g20_1; clear g20_1
  generalize g12_8 : fieldN W 12 8 = v12_8 at *
  have G12_8 := Lib.hid g12_8; clear g12_8
  generalize g31_1 : fieldN W 31 1 = v31_1 at *
  have G31_1 := Lib.hid g31_1; clear g31_1
  generalize gs : sgnN 21 ((v21_10 * 2 + v20_1 * 2048 + v12_8 * 4096 + v31_1 * 1048576 : Nat) : Int) = sv at *
  have GS := Lib.hid gs; clear gs
  try simp only [Int.natCast_add, Int.natCast_mul, Int.cast_ofNat_Int] at GS
  generalize hrw : rowT op = r at *
  have HRW := Lib.hid hrw; clear hrw
  obtain ⟨nm, f, lo, mi, hi⟩ := r
  simp only at hf
  subst hf
  have hfld := fun w => field_form nm 74 lo mi hi w
  go_enter Try.func43, Try.ntmps43
  go_wp2_with fail
  refine (refRow_any op _).mono ?_
  rw [HRW.out]
  rintro e w1 ⟨rfl, hb1⟩
  obtain ⟨c1, f1⟩ := bcell hb1
  have s1 := hb1.size
  simp at s1
  have l1 : w.heap.size < w1.heap.size := by omega
  have l2 : w.heap.size + 1 < w1.heap.size := by omega
  have hz := bel_in (b := w.heap.size) (o := .cells #[.int .i64 0, .int .i64 0, .int .i64 0, .int .i64 0, .int .i64 0] 23 (0, 0)) hb1 (by simp <;> omega) (heap_alloc2_old w _ _)
  have HZ := Lib.hid hz; clear hz
  have f12 : form12 74 := by unfold form12; simp
  have F12 := Lib.hid f12; clear f12
  unfold rfV
  go_wp2_with (first | (go_at_call 36; first | ((with_reducible refine (has_v 74 68 true _ F12.out (by decide) rfl).mono ?_); rintro e w' ⟨rfl, rfl⟩) | ((with_reducible refine (has_v 74 65 false _ F12.out (by decide) rfl).mono ?_); rintro e w' ⟨rfl, rfl⟩) | ((with_reducible refine (has_v 74 66 false _ F12.out (by decide) rfl).mono ?_); rintro e w' ⟨rfl, rfl⟩)) | (go_at_call 32; first | ((with_reducible refine (bits_e W 7 5 7 5 v7_5 _ hW rfl rfl (by decide) (by decide) G7_5.out).mono ?_); rintro e w' ⟨rfl, q, rfl⟩) | ((with_reducible refine (bits_e W 21 10 21 10 v21_10 _ hW rfl rfl (by decide) (by decide) G21_10.out).mono ?_); rintro e w' ⟨rfl, q, rfl⟩) | ((with_reducible refine (bits_e W 20 1 20 1 v20_1 _ hW rfl rfl (by decide) (by decide) G20_1.out).mono ?_); rintro e w' ⟨rfl, q, rfl⟩) | ((with_reducible refine (bits_e W 12 8 12 8 v12_8 _ hW rfl rfl (by decide) (by decide) G12_8.out).mono ?_); rintro e w' ⟨rfl, q, rfl⟩) | ((with_reducible refine (bits_e W 31 1 31 1 v31_1 _ hW rfl rfl (by decide) (by decide) G31_1.out).mono ?_); rintro e w' ⟨rfl, q, rfl⟩)) | (go_at_call 47; ((refine (signed_v _ 21 sv 21 _ rfl (by decide) (by omega) GS.out).mono ?_); rintro e w' ⟨rfl, rfl⟩)))
  refine bodyPost_ret (v := insV ⟨op, v7_5, 0, 0, sv⟩) (results_cell_row rfl _ _ w.heap.size 23 #[.int .i64 op, .int .i64 v7_5, .int .i64 0, .int .i64 0, .int .i64 sv] (0, 0) _ rfl ?_ Try.underlying23 rfl (by kernel_rfl)) rfl ⟨by rw [HD.out], ?_⟩
  · refine set_in5 (a0 := .int .i64 0) (a1 := .int .i64 0) (a2 := .int .i64 0) (a3 := .int .i64 0) (a4 := .int .i64 0) ?_
    repeat (first | (with_reducible exact HZ.out) | (with_reducible apply drewN_in) | (with_reducible refine heap_set_ne (by omega) ?_))
  · repeat (first | (with_reducible exact Below.refl _ _) | (with_reducible refine bw_set ?_ (by omega) _) | (with_reducible apply below_drewN) | (with_reducible apply bw_alloc) | (with_reducible refine bw_tr ?_ (by with_reducible assumption)))
set_option maxHeartbeats 4000000 in
set_option maxRecDepth 100000 in
theorem refRead_70 (op : Int) (W : Nat) (w : World) (hW : W < 4294967296) (hf : (rowT op).form = 70) :
    Calls Try.prog 43 #[.int .i64 op, .int .i64 W] w fun e w' => e = .returned (insV (decI op W)) ∧ Below w.heap.size w w' := by
  have HD : Hid (decI op W = ⟨op, 0, 0, 0, ((fieldN W 20 8 : Nat) : Int)⟩) := by
    have e : decI op W = decR (rowT op).form op W := rfl
    rw [e, hf]; exact decS_70 op W
  have b20_8 := field_lt W 20 8
  simp only [Nat.reducePow] at b20_8
  generalize g20_8 : fieldN W 20 8 = v20_8 at *
  have G20_8 := Lib.hid g20_8; clear g20_8
  generalize hrw : rowT op = r at *
  have HRW := Lib.hid hrw; clear hrw
  obtain ⟨nm, f, lo, mi, hi⟩ := r
  simp only at hf
  subst hf
  have hfld := fun w => field_form nm 70 lo mi hi w
  go_enter Try.func43, Try.ntmps43
  go_wp2_with fail
  refine (refRow_any op _).mono ?_
  rw [HRW.out]
  rintro e w1 ⟨rfl, hb1⟩
  obtain ⟨c1, f1⟩ := bcell hb1
  have s1 := hb1.size
  simp at s1
  have l1 : w.heap.size < w1.heap.size := by omega
  have l2 : w.heap.size + 1 < w1.heap.size := by omega
  have hz := bel_in (b := w.heap.size) (o := .cells #[.int .i64 0, .int .i64 0, .int .i64 0, .int .i64 0, .int .i64 0] 23 (0, 0)) hb1 (by simp <;> omega) (heap_alloc2_old w _ _)
  have HZ := Lib.hid hz; clear hz
  have f12 : form12 70 := by unfold form12; simp
  have F12 := Lib.hid f12; clear f12
  unfold rfV
  go_wp2_with (first | (go_at_call 36; first | ((with_reducible refine (has_v 70 68 false _ F12.out (by decide) rfl).mono ?_); rintro e w' ⟨rfl, rfl⟩) | ((with_reducible refine (has_v 70 65 false _ F12.out (by decide) rfl).mono ?_); rintro e w' ⟨rfl, rfl⟩) | ((with_reducible refine (has_v 70 66 false _ F12.out (by decide) rfl).mono ?_); rintro e w' ⟨rfl, rfl⟩)) | (go_at_call 32; first | ((with_reducible refine (bits_e W 20 8 20 8 v20_8 _ hW rfl rfl (by decide) (by decide) G20_8.out).mono ?_); rintro e w' ⟨rfl, q, rfl⟩)))
  refine bodyPost_ret (v := insV ⟨op, 0, 0, 0, v20_8⟩) (results_cell_row rfl _ _ w.heap.size 23 #[.int .i64 op, .int .i64 0, .int .i64 0, .int .i64 0, .int .i64 v20_8] (0, 0) _ rfl ?_ Try.underlying23 rfl (by kernel_rfl)) rfl ⟨by rw [HD.out], ?_⟩
  · refine set_in5 (a0 := .int .i64 0) (a1 := .int .i64 0) (a2 := .int .i64 0) (a3 := .int .i64 0) (a4 := .int .i64 0) ?_
    repeat (first | (with_reducible exact HZ.out) | (with_reducible apply drewN_in) | (with_reducible refine heap_set_ne (by omega) ?_))
  · repeat (first | (with_reducible exact Below.refl _ _) | (with_reducible refine bw_set ?_ (by omega) _) | (with_reducible apply below_drewN) | (with_reducible apply bw_alloc) | (with_reducible refine bw_tr ?_ (by with_reducible assumption)))
set_option maxHeartbeats 4000000 in
set_option maxRecDepth 100000 in
theorem refRead_76 (op : Int) (W : Nat) (w : World) (hW : W < 4294967296) (hf : (rowT op).form = 76) :
    Calls Try.prog 43 #[.int .i64 op, .int .i64 W] w fun e w' => e = .returned (insV (decI op W)) ∧ Below w.heap.size w w' := by
  have HD : Hid (decI op W = ⟨op, ((fieldN W 7 5 : Nat) : Int), ((fieldN W 15 5 : Nat) : Int), 0, ((fieldN W 25 2 : Nat) : Int)⟩) := by
    have e : decI op W = decR (rowT op).form op W := rfl
    rw [e, hf]; exact decS_76 op W
  have b7_5 := field_lt W 7 5
  have b15_5 := field_lt W 15 5
  have b25_2 := field_lt W 25 2
  simp only [Nat.reducePow] at b7_5 b15_5 b25_2
  generalize g7_5 : fieldN W 7 5 = v7_5 at *
  have G7_5 := Lib.hid g7_5; clear g7_5
  generalize g15_5 : fieldN W 15 5 = v15_5 at *
  have G15_5 := Lib.hid g15_5; clear g15_5
  generalize g25_2 : fieldN W 25 2 = v25_2 at *
  have G25_2 := Lib.hid g25_2; clear g25_2
  generalize hrw : rowT op = r at *
  have HRW := Lib.hid hrw; clear hrw
  obtain ⟨nm, f, lo, mi, hi⟩ := r
  simp only at hf
  subst hf
  have hfld := fun w => field_form nm 76 lo mi hi w
  go_enter Try.func43, Try.ntmps43
  go_wp2_with fail
  refine (refRow_any op _).mono ?_
  rw [HRW.out]
  rintro e w1 ⟨rfl, hb1⟩
  obtain ⟨c1, f1⟩ := bcell hb1
  have s1 := hb1.size
  simp at s1
  have l1 : w.heap.size < w1.heap.size := by omega
  have l2 : w.heap.size + 1 < w1.heap.size := by omega
  have hz := bel_in (b := w.heap.size) (o := .cells #[.int .i64 0, .int .i64 0, .int .i64 0, .int .i64 0, .int .i64 0] 23 (0, 0)) hb1 (by simp <;> omega) (heap_alloc2_old w _ _)
  have HZ := Lib.hid hz; clear hz
  have f12 : form12 76 := by unfold form12; simp
  have F12 := Lib.hid f12; clear f12
  unfold rfV
  go_wp2_with (first | (go_at_call 36; first | ((with_reducible refine (has_v 76 68 true _ F12.out (by decide) rfl).mono ?_); rintro e w' ⟨rfl, rfl⟩) | ((with_reducible refine (has_v 76 65 true _ F12.out (by decide) rfl).mono ?_); rintro e w' ⟨rfl, rfl⟩) | ((with_reducible refine (has_v 76 66 false _ F12.out (by decide) rfl).mono ?_); rintro e w' ⟨rfl, rfl⟩)) | (go_at_call 32; first | ((with_reducible refine (bits_e W 7 5 7 5 v7_5 _ hW rfl rfl (by decide) (by decide) G7_5.out).mono ?_); rintro e w' ⟨rfl, q, rfl⟩) | ((with_reducible refine (bits_e W 15 5 15 5 v15_5 _ hW rfl rfl (by decide) (by decide) G15_5.out).mono ?_); rintro e w' ⟨rfl, q, rfl⟩) | ((with_reducible refine (bits_e W 25 2 25 2 v25_2 _ hW rfl rfl (by decide) (by decide) G25_2.out).mono ?_); rintro e w' ⟨rfl, q, rfl⟩)))
  refine bodyPost_ret (v := insV ⟨op, v7_5, v15_5, 0, v25_2⟩) (results_cell_row rfl _ _ w.heap.size 23 #[.int .i64 op, .int .i64 v7_5, .int .i64 v15_5, .int .i64 0, .int .i64 v25_2] (0, 0) _ rfl ?_ Try.underlying23 rfl (by kernel_rfl)) rfl ⟨by rw [HD.out], ?_⟩
  · refine set_in5 (a0 := .int .i64 0) (a1 := .int .i64 0) (a2 := .int .i64 0) (a3 := .int .i64 0) (a4 := .int .i64 0) ?_
    repeat (first | (with_reducible exact HZ.out) | (with_reducible apply drewN_in) | (with_reducible refine heap_set_ne (by omega) ?_))
  · repeat (first | (with_reducible exact Below.refl _ _) | (with_reducible refine bw_set ?_ (by omega) _) | (with_reducible apply below_drewN) | (with_reducible apply bw_alloc) | (with_reducible refine bw_tr ?_ (by with_reducible assumption)))
set_option maxHeartbeats 4000000 in
set_option maxRecDepth 100000 in
theorem refRead_65 (op : Int) (W : Nat) (w : World) (hW : W < 4294967296) (hf : (rowT op).form = 65) :
    Calls Try.prog 43 #[.int .i64 op, .int .i64 W] w fun e w' => e = .returned (insV (decI op W)) ∧ Below w.heap.size w w' := by
  have HD : Hid (decI op W = ⟨op, ((fieldN W 7 5 : Nat) : Int), ((fieldN W 15 5 : Nat) : Int), ((fieldN W 20 5 : Nat) : Int), ((fieldN W 25 2 : Nat) : Int)⟩) := by
    have e : decI op W = decR (rowT op).form op W := rfl
    rw [e, hf]; exact decS_65 op W
  have b7_5 := field_lt W 7 5
  have b15_5 := field_lt W 15 5
  have b20_5 := field_lt W 20 5
  have b25_2 := field_lt W 25 2
  simp only [Nat.reducePow] at b7_5 b15_5 b20_5 b25_2
  generalize g7_5 : fieldN W 7 5 = v7_5 at *
  have G7_5 := Lib.hid g7_5; clear g7_5
  generalize g15_5 : fieldN W 15 5 = v15_5 at *
  have G15_5 := Lib.hid g15_5; clear g15_5
  generalize g20_5 : fieldN W 20 5 = v20_5 at *
  have G20_5 := Lib.hid g20_5; clear g20_5
  generalize g25_2 : fieldN W 25 2 = v25_2 at *
  have G25_2 := Lib.hid g25_2; clear g25_2
  generalize hrw : rowT op = r at *
  have HRW := Lib.hid hrw; clear hrw
  obtain ⟨nm, f, lo, mi, hi⟩ := r
  simp only at hf
  subst hf
  have hfld := fun w => field_form nm 65 lo mi hi w
  go_enter Try.func43, Try.ntmps43
  go_wp2_with fail
  refine (refRow_any op _).mono ?_
  rw [HRW.out]
  rintro e w1 ⟨rfl, hb1⟩
  obtain ⟨c1, f1⟩ := bcell hb1
  have s1 := hb1.size
  simp at s1
  have l1 : w.heap.size < w1.heap.size := by omega
  have l2 : w.heap.size + 1 < w1.heap.size := by omega
  have hz := bel_in (b := w.heap.size) (o := .cells #[.int .i64 0, .int .i64 0, .int .i64 0, .int .i64 0, .int .i64 0] 23 (0, 0)) hb1 (by simp <;> omega) (heap_alloc2_old w _ _)
  have HZ := Lib.hid hz; clear hz
  have f12 : form12 65 := by unfold form12; simp
  have F12 := Lib.hid f12; clear f12
  unfold rfV
  go_wp2_with (first | (go_at_call 36; first | ((with_reducible refine (has_v 65 68 true _ F12.out (by decide) rfl).mono ?_); rintro e w' ⟨rfl, rfl⟩) | ((with_reducible refine (has_v 65 65 true _ F12.out (by decide) rfl).mono ?_); rintro e w' ⟨rfl, rfl⟩) | ((with_reducible refine (has_v 65 66 true _ F12.out (by decide) rfl).mono ?_); rintro e w' ⟨rfl, rfl⟩)) | (go_at_call 32; first | ((with_reducible refine (bits_e W 7 5 7 5 v7_5 _ hW rfl rfl (by decide) (by decide) G7_5.out).mono ?_); rintro e w' ⟨rfl, q, rfl⟩) | ((with_reducible refine (bits_e W 15 5 15 5 v15_5 _ hW rfl rfl (by decide) (by decide) G15_5.out).mono ?_); rintro e w' ⟨rfl, q, rfl⟩) | ((with_reducible refine (bits_e W 20 5 20 5 v20_5 _ hW rfl rfl (by decide) (by decide) G20_5.out).mono ?_); rintro e w' ⟨rfl, q, rfl⟩) | ((with_reducible refine (bits_e W 25 2 25 2 v25_2 _ hW rfl rfl (by decide) (by decide) G25_2.out).mono ?_); rintro e w' ⟨rfl, q, rfl⟩)))
  refine bodyPost_ret (v := insV ⟨op, v7_5, v15_5, v20_5, v25_2⟩) (results_cell_row rfl _ _ w.heap.size 23 #[.int .i64 op, .int .i64 v7_5, .int .i64 v15_5, .int .i64 v20_5, .int .i64 v25_2] (0, 0) _ rfl ?_ Try.underlying23 rfl (by kernel_rfl)) rfl ⟨by rw [HD.out], ?_⟩
  · refine set_in5 (a0 := .int .i64 0) (a1 := .int .i64 0) (a2 := .int .i64 0) (a3 := .int .i64 0) (a4 := .int .i64 0) ?_
    repeat (first | (with_reducible exact HZ.out) | (with_reducible apply drewN_in) | (with_reducible refine heap_set_ne (by omega) ?_))
  · repeat (first | (with_reducible exact Below.refl _ _) | (with_reducible refine bw_set ?_ (by omega) _) | (with_reducible apply below_drewN) | (with_reducible apply bw_alloc) | (with_reducible refine bw_tr ?_ (by with_reducible assumption)))
set_option maxHeartbeats 4000000 in
set_option maxRecDepth 100000 in
theorem refRead_90 (op : Int) (W : Nat) (w : World) (_ : W < 4294967296) (hf : (rowT op).form = 90) :
    Calls Try.prog 43 #[.int .i64 op, .int .i64 W] w fun e w' => e = .returned (insV (decI op W)) ∧ Below w.heap.size w w' := by
  have HD : Hid (decI op W = ⟨op, 0, 0, 0, 0⟩) := by
    have e : decI op W = decR (rowT op).form op W := rfl
    rw [e, hf]; exact decS_90 op W
  generalize hrw : rowT op = r at *
  have HRW := Lib.hid hrw; clear hrw
  obtain ⟨nm, f, lo, mi, hi⟩ := r
  simp only at hf
  subst hf
  have hfld := fun w => field_form nm 90 lo mi hi w
  go_enter Try.func43, Try.ntmps43
  go_wp2_with fail
  refine (refRow_any op _).mono ?_
  rw [HRW.out]
  rintro e w1 ⟨rfl, hb1⟩
  obtain ⟨c1, f1⟩ := bcell hb1
  have s1 := hb1.size
  simp at s1
  have l1 : w.heap.size < w1.heap.size := by omega
  have l2 : w.heap.size + 1 < w1.heap.size := by omega
  have hz := bel_in (b := w.heap.size) (o := .cells #[.int .i64 0, .int .i64 0, .int .i64 0, .int .i64 0, .int .i64 0] 23 (0, 0)) hb1 (by simp <;> omega) (heap_alloc2_old w _ _)
  have HZ := Lib.hid hz; clear hz
  have f12 : form12 90 := by unfold form12; simp
  have F12 := Lib.hid f12; clear f12
  unfold rfV
  go_wp2_with (first | (go_at_call 36; first | ((with_reducible refine (has_v 90 68 false _ F12.out (by decide) rfl).mono ?_); rintro e w' ⟨rfl, rfl⟩) | ((with_reducible refine (has_v 90 65 false _ F12.out (by decide) rfl).mono ?_); rintro e w' ⟨rfl, rfl⟩) | ((with_reducible refine (has_v 90 66 false _ F12.out (by decide) rfl).mono ?_); rintro e w' ⟨rfl, rfl⟩)))
  refine bodyPost_ret (v := insV ⟨op, 0, 0, 0, 0⟩) (results_cell_row rfl _ _ w.heap.size 23 #[.int .i64 op, .int .i64 0, .int .i64 0, .int .i64 0, .int .i64 0] (0, 0) _ rfl ?_ Try.underlying23 rfl (by kernel_rfl)) rfl ⟨by rw [HD.out], ?_⟩
  · refine set_in5 (a0 := .int .i64 0) (a1 := .int .i64 0) (a2 := .int .i64 0) (a3 := .int .i64 0) (a4 := .int .i64 0) ?_
    repeat (first | (with_reducible exact HZ.out) | (with_reducible apply drewN_in) | (with_reducible refine heap_set_ne (by omega) ?_))
  · repeat (first | (with_reducible exact Below.refl _ _) | (with_reducible refine bw_set ?_ (by omega) _) | (with_reducible apply below_drewN) | (with_reducible apply bw_alloc) | (with_reducible refine bw_tr ?_ (by with_reducible assumption)))
theorem refRead_any (op : Int) (W : Nat) (w : World) (hW : W < 4294967296) (h : 1 ≤ op ∧ op ≤ 49) :
    Calls Try.prog 43 #[.int .i64 op, .int .i64 W] w fun e w' => e = .returned (insV (decI op W)) ∧ Below w.heap.size w w' := by
  rcases form_mem _ h with h | h | h | h | h | h | h | h | h | h | h | h
  · exact refRead_82 op W w hW h
  · exact refRead_73 op W w hW h
  · exact refRead_72 op W w hW h
  · exact refRead_83 op W w hW h
  · exact refRead_66 op W w hW h
  · exact refRead_85 op W w hW h
  · exact refRead_74 op W w hW h
  · exact refRead_70 op W w hW h
  · exact refRead_67 op W w hW h
  · exact refRead_76 op W w hW h
  · exact refRead_65 op W w hW h
  · exact refRead_90 op W w hW h
theorem refDecode_far (word : Int) (w : World) (hw : word < 0 ∨ 4294967296 ≤ word) :
    Calls Try.prog 26 #[.int .i64 word] w fun e w' => e = .returned (.tuple #[insV noIns, .int .i64 20]) ∧ Below w.heap.size w w' := by
  rcases hw with hw | hw
  · go_enter Try.func26, Try.ntmps26
    go_wp2_with fail
    refine bodyPost_ret (v := .tuple #[insV noIns, .int .i64 20]) (by simp [results, Try.results26, go_sem, insV, noIns]) rfl ⟨rfl, (by repeat (first | (with_reducible exact Below.refl _ _) | (with_reducible refine bw_set ?_ ?_ _) | (with_reducible apply bw_alloc) | (with_reducible refine bw_tr ?_ (by with_reducible assumption)) | (with_reducible apply bw_drew) | omega))⟩
  · have h0 : ¬ word < 0 := by omega
    go_enter Try.func26, Try.ntmps26
    go_wp2_with fail
    refine bodyPost_ret (v := .tuple #[insV noIns, .int .i64 20]) (by simp [results, Try.results26, go_sem, insV, noIns]) rfl ⟨rfl, (by repeat (first | (with_reducible exact Below.refl _ _) | (with_reducible refine bw_set ?_ ?_ _) | (with_reducible apply bw_alloc) | (with_reducible refine bw_tr ?_ (by with_reducible assumption)) | (with_reducible apply bw_drew) | omega))⟩
theorem refEncode_at (op d a b n : Int) (w : World) :
    Calls Try.prog 14 #[.agg #[.int .i64 op, .int .i64 d, .int .i64 a, .int .i64 b, .int .i64 n]] w fun e w' => e = .returned (.tuple #[.int .i64 (encV ⟨op, d, a, b, n⟩), .int .i64 (encE ⟨op, d, a, b, n⟩)]) ∧ Below w.heap.size w w' := refEncode_any ⟨op, d, a, b, n⟩ w
set_option maxHeartbeats 8000000 in
set_option maxRecDepth 100000 in
theorem refDecode_near (word : Nat) (w : World) (hw : word < 4294967296) :
    Calls Try.prog 26 #[.int .i64 word] w fun e w' => e = .returned (.tuple #[insV (decX word), .int .i64 (decE word)]) ∧ Below w.heap.size w w' := by
  have q0 : decide ((word : Int) < 0) = false := by simp
  have q1 : decide (4294967296 ≤ (word : Int)) = false := by simp; omega
  have HW := Lib.hid hw; clear hw
  go_enter Try.func26, Try.ntmps26
  go_wp2_with fail
  clear q0 q1
  go_loopw [4] (fun i wr => ∃ op : Nat, 1 ≤ op ∧ op ≤ 50 ∧ i = .int .i64 op ∧ (∀ o, 1 ≤ o → o < op → decHit word o = false) ∧ wr.heap[w.heap.size]? = some (.cells #[.int .i64 0, .int .i64 0, .int .i64 0, .int .i64 0, .int .i64 0] 23 (0, 0)) ∧ Below w.heap.size w wr) (fun i _ => 50 - (intOf i).toNat)
  case atStart => exact ⟨1, by omega, by omega, rfl, fun o h1 h2 => by omega, new_in _ _, (by repeat (first | (with_reducible exact Below.refl _ _) | (with_reducible refine bw_set ?_ ?_ _) | (with_reducible apply bw_alloc) | (with_reducible refine bw_tr ?_ (by with_reducible assumption)) | (with_reducible apply bw_drew) | omega))⟩
  case round =>
    obtain ⟨op, hop1, hop2, rfl, hno, hx, hbb⟩ := hrel
    have HNO := Lib.hid hno; have HX := Lib.hid hx
    have ltx : w.heap.size < wr.heap.size := lt_in hx
    have k0 : wr.cell? ⟨w.heap.size, 0, none⟩ = some (.int .i64 0) := cell_in hx rfl
    have g0 := frozen_in hx 0
    have k1 : wr.cell? ⟨w.heap.size, 1, none⟩ = some (.int .i64 0) := cell_in hx rfl
    have g1 := frozen_in hx 1
    have k2 : wr.cell? ⟨w.heap.size, 2, none⟩ = some (.int .i64 0) := cell_in hx rfl
    have g2 := frozen_in hx 2
    have k3 : wr.cell? ⟨w.heap.size, 3, none⟩ = some (.int .i64 0) := cell_in hx rfl
    have g3 := frozen_in hx 3
    have k4 : wr.cell? ⟨w.heap.size, 4, none⟩ = some (.int .i64 0) := cell_in hx rfl
    have g4 := frozen_in hx 4
    by_cases hlt : (op : Int) ≤ 49
    · clear hno hx
      go_wp2_with fail
      refine (refRead_any op word _ HW.out (by omega)).mono ?_
      rintro e w1 ⟨rfl, hb1⟩
      obtain ⟨c1, f1⟩ := bcell hb1
      have s1 := hb1.size
      try simp at s1
      have l1x0 : w.heap.size < w1.heap.size := by omega
      have HI := Lib.hid (show decHit word op = (encE (decI op word) == 0 && encV (decI op word) == (word : Int)) from rfl)
      have HD : Hid (decI op word = decI op word) := rfl
      generalize hdi : decI op word = x at *
      obtain ⟨xop, xd, xa, xb, xn⟩ := x
      have HDI := Lib.hid hdi; clear hdi HD
      unfold insV
      go_wp2_with fail
      refine (refEncode_at _ _ _ _ _ _).mono ?_
      rintro e w2 ⟨rfl, hb2⟩
      obtain ⟨c2, f2⟩ := bcell hb2
      have s2 := hb2.size
      try simp at s2
      have l2x0 : w.heap.size < w2.heap.size := by omega
      have l2x1 : w1.heap.size < w2.heap.size := by omega
      have hk := bel_in (w := wr) (w' := w2) (B := wr.heap.size) (by repeat (first | (with_reducible exact Below.refl _ _) | (with_reducible refine bw_set ?_ ?_ _) | (with_reducible apply bw_alloc) | (with_reducible refine bw_tr ?_ (by with_reducible assumption)) | (with_reducible apply bw_drew) | omega)) ltx HX.out
      have HK := Lib.hid hk
      clear hk
      have hh0 := HI.out
      cases hh1 : (encE ⟨xop, xd, xa, xb, xn⟩ == 0) <;> cases hh2 : (encV ⟨xop, xd, xa, xb, xn⟩ == (word : Int))
      all_goals
        rw [hh1, hh2] at hh0
        have HH := Lib.hid hh0
        clear hh0
        generalize encE ⟨xop, xd, xa, xb, xn⟩ = ee at *
        generalize encV ⟨xop, xd, xa, xb, xn⟩ = ev at *
        go_wp2_with fail
        first
          | (refine ⟨⟨op + 1, by omega, by omega, by go_num, fun o h1 h2 => ?_, HK.out, (by repeat (first | (with_reducible exact Below.refl _ _) | (with_reducible refine bw_set ?_ ?_ _) | (with_reducible apply bw_alloc) | (with_reducible refine bw_tr ?_ (by with_reducible assumption)) | (with_reducible apply bw_drew) | omega))⟩, by simp [intOf]; omega⟩; by_cases ho : o = op; (subst ho; exact HH.out); (exact HNO.out o h1 (by omega)))
          | ((try simp only [Exit.inBlock, Exit.then]); obtain ⟨d1, d2⟩ := dec_hit (by omega) HH.out HNO.out; rw [HDI.out] at d1; have q0 : w2.cell? ⟨w.heap.size, 0, none⟩ = some (.int .i64 0) := cell_in HK.out rfl; have q1 : w2.cell? ⟨w.heap.size, 1, none⟩ = some (.int .i64 0) := cell_in HK.out rfl; have q2 : w2.cell? ⟨w.heap.size, 2, none⟩ = some (.int .i64 0) := cell_in HK.out rfl; have q3 : w2.cell? ⟨w.heap.size, 3, none⟩ = some (.int .i64 0) := cell_in HK.out rfl; have q4 : w2.cell? ⟨w.heap.size, 4, none⟩ = some (.int .i64 0) := cell_in HK.out rfl; refine bodyPost_ret (v := .tuple #[insV ⟨xop, xd, xa, xb, xn⟩, .int .i64 0]) (by simp [results, Try.results26, go_sem, insV, q0, q1, q2, q3, q4]) rfl ⟨by rw [d1, d2], (by repeat (first | (with_reducible exact Below.refl _ _) | (with_reducible refine bw_set ?_ ?_ _) | (with_reducible apply bw_alloc) | (with_reducible refine bw_tr ?_ (by with_reducible assumption)) | (with_reducible apply bw_drew) | omega))⟩)
    · have hop : op = 50 := by omega
      subst hop
      obtain ⟨d1, d2⟩ := dec_none (fun o h1 h2 => HNO.out o h1 h2)
      clear hno hx
      have HD1 := Lib.hid d1; have HD2 := Lib.hid d2
      clear d1 d2
      go_wp2_with fail
      try simp only [Exit.inBlock, Exit.then]
      refine bodyPost_ret (v := .tuple #[insV noIns, .int .i64 20]) (by simp [results, Try.results26, go_sem, insV, noIns, k0, k1, k2, k3, k4]) rfl ⟨by rw [HD1.out, HD2.out], (by repeat (first | (with_reducible exact Below.refl _ _) | (with_reducible refine bw_set ?_ ?_ _) | (with_reducible apply bw_alloc) | (with_reducible refine bw_tr ?_ (by with_reducible assumption)) | (with_reducible apply bw_drew) | omega))⟩
end Go.Proofs.Ytefebnicclbhjaa
