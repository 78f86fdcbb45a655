/-
  The contract of hart.controls.
-/
import Derived.Test.YtiahdhlfecgnpaaHartCtl
namespace Go.Proofs.Ytiahdhlfecgnpaa
open Go.RowKit
theorem four_new (w : World) (o1 o2 o3 o4 : Obj) : ∃ w0 : World, w0 = (((w.alloc o1).alloc o2).alloc o3).alloc o4 ∧ w0.heap[w.heap.size]? = some o1 ∧ w0.heap[w.heap.size + 1]? = some o2 ∧ w0.heap[w.heap.size + 2]? = some o3 ∧ w0.heap[w.heap.size + 3]? = some o4 ∧ Below w.heap.size w w0 ∧ w.heap.size + 4 ≤ w0.heap.size := by
  refine ⟨_, rfl, ?_, ?_, ?_, ?_, bw_alloc (bw_alloc (bw_alloc (bw_alloc (Below.refl _ _) _) _) _) _, by simp⟩
  · exact bel_in (B := (w.alloc o1).heap.size) (bw_alloc (bw_alloc (bw_alloc (Below.refl _ _) _) _) _) (by simp) (new_in w o1)
  · exact bel_in (B := ((w.alloc o1).alloc o2).heap.size) (bw_alloc (bw_alloc (Below.refl _ _) _) _) (by simp) (new_at _ _ _ (by simp))
  · exact bel_in (B := (((w.alloc o1).alloc o2).alloc o3).heap.size) (bw_alloc (Below.refl _ _) _) (by simp) (new_at _ _ _ (by simp))
  · exact new_at _ _ _ (by simp)
def effZ : Array Value := #[.int .i64 0, .int .i64 0, .int .i64 0, .int .i64 0, .int .i64 0]
/-- What an instruction does to a control register. -/
def ctlN (h : Ht) (x : Ins) : Int := h.r.getD x.a.toNat 0
def ctlH (h : Ht) (x : Ins) (off : Nat) (bt : Int) : Ht :=
  putH { setC h off (bits .and .i64 (changedN x.op (getC h off) (ctlN h x)) bt) with pc := wrap32 (h.pc + 4) } x.d (getC h off)
def ctlI (h : Ht) (id : Int) (x : Ins) : Ht := putH { h with pc := wrap32 (h.pc + 4) } x.d (wrap32 id)
set_option maxHeartbeats 8000000 in
theorem controls_yes (h : Ht) (id : Int) (x : Ins) (off : Nat) (bt : Int) (w : World) (h32 : h.r.length = 32) (ha : 0 ≤ x.a ∧ x.a < 32) (hc : isCtl x.n off bt) :
    Calls Try.prog 34 #[.agg (hA h), .int .i64 id, insV x] w fun e w' => e = .returned (.tuple #[.agg (hA (ctlH h x off bt)), effV ⟨0, 0, 0, 0, 0⟩]) ∧ Below w.heap.size w w' := by
  obtain ⟨op, d, a, b, n⟩ := x
  simp only at ha hc
  obtain ⟨k, rfl, hk⟩ : ∃ k : Nat, a = k ∧ k < 32 := ⟨a.toNat, by omega, by omega⟩
  have ho1 : ¬ off = 32 := by unfold isCtl at hc; omega
  have ho2 : ¬ 32 = off := by omega
  have ho3 : off < 39 := by unfold isCtl at hc; omega
  obtain ⟨w0, hw0, hx, hi, hz, hy, hb0, hs0⟩ := four_new w (.cells (hA h) 28) (.cells #[.int .i64 op, .int .i64 d, .int .i64 k, .int .i64 b, .int .i64 n] 24) (.cells zA 28) (.cells effZ 34)
  have g32 := (hA_fields h h32).1
  have ck := cell_in hx (hA_r h h32 k hk)
  have c32 := cell_in hx g32
  have f32 := frozen_in hx 32
  have cf := cell_in hx (getC_at h h32 n off bt hc)
  have ff := frozen_in hx off
  have i0 := cell_in hi (j := 0) (u := .int .i64 op) rfl
  have i1 := cell_in hi (j := 1) (u := .int .i64 d) rfl
  have i2 := cell_in hi (j := 2) (u := .int .i64 k) rfl
  have i4 := cell_in hi (j := 4) (u := .int .i64 n) rfl
  have HC := Lib.hid hc
  have HR : Hid (ctlH h ⟨op, d, k, b, n⟩ off bt = putH { setC h off (bits .and .i64 (changedN op (getC h off) (h.r.getD k 0)) bt) with pc := wrap32 (h.pc + 4) } d (getC h off)) := rfl
  have HX : Hid (∀ v p : Int, ((w0.setCell ⟨w.heap.size, off, none⟩ (.int .i64 v)).setCell ⟨w.heap.size, 32, none⟩ (.int .i64 p)).heap[w.heap.size]? = some (.cells (hA { setC h off v with pc := p }) 28 (0, 0))) := by
    intro v p
    have s1 := set_heap hx off (.int .i64 v) _ (setC_at h h32 n off bt hc v)
    exact set_heap s1 32 (.int .i64 p) _ (hA_pc (setC h off v) (setC_len h32 off v) p)
  have HL := Lib.hid (fun v => setC_len h32 off v)
  have F3 := Lib.hid (w32_w64 (h.pc + 4))
  have HW := Lib.hid hw0
  have HZ := Lib.hid hz
  have HY := Lib.hid hy
  rw [HR.out]
  clear hx hi hz hy hw0 g32 hc HR
  generalize h.r.getD k 0 = rn at *
  generalize getC h off = old at *
  unfold insV
  go_enter Try.func34, Try.ntmps34
  go_upto_region 1 with (fail)
  change Code.wp _ _ _ _ ((((w.alloc (.cells (hA h) 28)).alloc (.cells #[.int .i64 op, .int .i64 d, .int .i64 k, .int .i64 b, .int .i64 n] 24)).alloc (.cells zA 28)).alloc (.cells effZ 34))
  rw [← HW.out]
  go_upto_region 10 with (first | (go_at_call 24; refine (wrap_any _ _).mono ?_; rintro e w' ⟨rfl, rfl⟩) | (go_at_call 51; refine (control_yes _ n off bt _ HC.out).mono ?_; rintro e w' ⟨rfl, rfl⟩) | (go_at_call 52; refine (changed_any _ _ _ _).mono ?_; rintro e w' ⟨rfl, rfl⟩))
  rw [F3.out]
  have hx1 := HX.out (bits .and .i64 (changedN op old rn) bt) (wrap32 (h.pc + 4))
  have hl1 : ({ setC h off (bits .and .i64 (changedN op old rn) bt) with pc := wrap32 (h.pc + 4) } : Ht).r.length = 32 := HL.out _
  obtain ⟨w1, hw1⟩ : ∃ w1 : World, w1 = (w0.setCell ⟨w.heap.size, off, none⟩ (.int .i64 (bits .and .i64 (changedN op old rn) bt))).setCell ⟨w.heap.size, 32, none⟩ (.int .i64 (wrap32 (h.pc + 4))) := ⟨_, rfl⟩
  have hz1 : w1.heap[w.heap.size + 2]? = some (.cells zA 28 (0, 0)) := by rw [hw1]; exact heap_set_ne (by omega) (heap_set_ne (by omega) HZ.out)
  have hy1 : w1.heap[w.heap.size + 3]? = some (.cells effZ 34 (0, 0)) := by rw [hw1]; exact heap_set_ne (by omega) (heap_set_ne (by omega) HY.out)
  have j1 : w1.cell? ⟨w.heap.size + 1, 1, none⟩ = some (.int .i64 d) := by rw [hw1, cell_set_ne (by omega), cell_set_ne (by omega)]; exact i1
  have hb1 : Below w.heap.size w w1 := by rw [hw1]; exact bw_set (bw_set hb0 (Nat.le_refl _) _) (Nat.le_refl _) _
  have hs1 : w.heap.size + 4 ≤ w1.heap.size := by rw [hw1, size_set, size_set]; exact hs0
  rw [← hw1] at hx1 ⊢
  have HX1 := Lib.hid hx1; have HZ1 := Lib.hid hz1; have HY1 := Lib.hid hy1; have HL1 := Lib.hid hl1
  clear hw1 hx1 hz1 hy1 hl1 HX HZ HY HL HW F3 i0 i1 i2 i4 c32 f32 cf ff ck hb0 hs0 HC
  generalize hh2 : ({ setC h off (bits .and .i64 (changedN op old rn) bt) with pc := wrap32 (h.pc + 4) } : Ht) = h2 at *
  have HH2 := Lib.hid hh2; clear hh2
  go_wp2_with (refine wpList_load_row rfl 28 _ rfl (w.heap.size) rfl 28 (hA h2) (0, 0) _ HX1.out Try.underlying28 rfl (infoA (hA_size h2 HL1.out)) ?_)
  refine (put_any h2 d old _ HL1.out).mono ?_
  rintro e w5 ⟨rfl, hb5⟩
  have hz5 := bel_in hb5 (by omega) HZ1.out
  have hy5 := bel_in hb5 (by omega) HY1.out
  have hl5 := put_len HL1.out d old
  have HZ5 := Lib.hid hz5; have HY5 := Lib.hid (row_ne (by omega) hy5 : (w5.setRow (w.heap.size + 2) (hA (putH h2 d old))).heap[w.heap.size + 3]? = _); have HL5 := Lib.hid hl5
  clear hz5 hy5 hl5 j1
  generalize hh5 : putH h2 d old = h5 at *
  have HH5 := Lib.hid hh5; clear hh5
  go_wp2_with (first | (refine wpList_store_row rfl 28 _ _ rfl (w.heap.size + 2) (hA h5) rfl rfl 28 zA HZ5.out (infoA (hA_size h5 HL5.out)) (by rw [hA_size h5 HL5.out]; rfl) (hA_one h5) ?_) | (refine wpList_store_row rfl 34 _ _ rfl (w.heap.size + 3) effZ rfl rfl 34 effZ HY5.out (by kernel_rfl) rfl (by kernel_rfl) ?_))
  exact bodyPost_ret (v := .tuple #[.agg (hA h5), .agg effZ]) (results_cells2 rfl _ _ (w.heap.size + 2) (w.heap.size + 3) 28 34 (hA h5) effZ (0, 0) (0, 0) _ _ rfl rfl (row_ne (by omega) (setRow_heap _ _ _ _ _ _ HZ5.out)) (setRow_heap _ _ _ _ _ _ HY5.out) Try.underlying28 rfl (infoA (hA_size h5 HL5.out)) Try.underlying34 rfl (by kernel_rfl)) rfl ⟨by rw [HH2.out, HH5.out]; rfl, below_setRow (below_setRow (by repeat (first | (with_reducible exact Below.refl _ _) | (with_reducible refine bw_set ?_ ?_ _) | (with_reducible apply bw_alloc) | (with_reducible refine bw_tr ?_ (by with_reducible assumption)) | (with_reducible apply bw_drew) | omega)) (by omega) _) (by omega) _⟩
set_option maxHeartbeats 8000000 in
theorem controls_id (h : Ht) (id : Int) (x : Ins) (w : World) (h32 : h.r.length = 32) (ha : 0 ≤ x.a ∧ x.a < 32) (hc : x.n = 3860) :
    Calls Try.prog 34 #[.agg (hA h), .int .i64 id, insV x] w fun e w' => e = .returned (.tuple #[.agg (hA (ctlI h id x)), effV ⟨0, 0, 0, 0, 0⟩]) ∧ Below w.heap.size w w' := by
  obtain ⟨op, d, a, b, n⟩ := x
  simp only at ha hc
  obtain ⟨k, rfl, hk⟩ : ∃ k : Nat, a = k ∧ k < 32 := ⟨a.toNat, by omega, by omega⟩
  obtain ⟨w0, hw0, hx, hi, hz, hy, hb0, hs0⟩ := four_new w (.cells (hA h) 28) (.cells #[.int .i64 op, .int .i64 d, .int .i64 k, .int .i64 b, .int .i64 n] 24) (.cells zA 28) (.cells effZ 34)
  have g32 := (hA_fields h h32).1
  have ck := cell_in hx (hA_r h h32 k hk)
  have c32 := cell_in hx g32
  have f32 := frozen_in hx 32
  have i0 := cell_in hi (j := 0) (u := .int .i64 op) rfl
  have i1 := cell_in hi (j := 1) (u := .int .i64 d) rfl
  have i2 := cell_in hi (j := 2) (u := .int .i64 k) rfl
  have i4 := cell_in hi (j := 4) (u := .int .i64 n) rfl
  have F3 := Lib.hid (w32_w64 (h.pc + 4))
  have HW := Lib.hid hw0
  have HZ := Lib.hid hz
  have HY := Lib.hid hy
  have HX0 := Lib.hid hx
  clear hx hi hz hy hw0 g32
  subst hc
  have HR : Hid (ctlI h id ⟨op, d, k, b, 3860⟩ = putH { h with pc := wrap32 (h.pc + 4) } d (wrap32 id)) := rfl
  rw [HR.out]
  clear HR
  have hcn : noCtl 3860 := by unfold noCtl; omega
  have HCN := Lib.hid hcn; clear hcn
  unfold insV
  go_enter Try.func34, Try.ntmps34
  go_upto_region 1 with (fail)
  change Code.wp _ _ _ _ ((((w.alloc (.cells (hA h) 28)).alloc (.cells #[.int .i64 op, .int .i64 d, .int .i64 k, .int .i64 b, .int .i64 3860] 24)).alloc (.cells zA 28)).alloc (.cells effZ 34))
  rw [← HW.out]
  go_upto_region 10 with (first | (go_at_call 24; refine (wrap_any _ _).mono ?_; rintro e w' ⟨rfl, rfl⟩) | (go_at_call 51; refine (control_no _ 3860 _ HCN.out).mono ?_; rintro e w' ⟨rfl, rfl⟩))
  rw [F3.out]
  have hx1 := set_heap HX0.out 32 (.int .i64 (wrap32 (h.pc + 4))) _ (hA_pc h h32 (wrap32 (h.pc + 4)))
  have hl1 : ({ h with pc := wrap32 (h.pc + 4) } : Ht).r.length = 32 := h32
  obtain ⟨w1, hw1⟩ : ∃ w1 : World, w1 = w0.setCell ⟨w.heap.size, 32, none⟩ (.int .i64 (wrap32 (h.pc + 4))) := ⟨_, rfl⟩
  have hz1 : w1.heap[w.heap.size + 2]? = some (.cells zA 28 (0, 0)) := by rw [hw1]; exact heap_set_ne (by omega) HZ.out
  have hy1 : w1.heap[w.heap.size + 3]? = some (.cells effZ 34 (0, 0)) := by rw [hw1]; exact heap_set_ne (by omega) HY.out
  have j1 : w1.cell? ⟨w.heap.size + 1, 1, none⟩ = some (.int .i64 d) := by rw [hw1, cell_set_ne (by omega)]; exact i1
  have hb1 : Below w.heap.size w w1 := by rw [hw1]; exact bw_set hb0 (Nat.le_refl _) _
  have hs1 : w.heap.size + 4 ≤ w1.heap.size := by rw [hw1, size_set]; exact hs0
  rw [← hw1] at hx1 ⊢
  have HX1 := Lib.hid hx1; have HZ1 := Lib.hid hz1; have HY1 := Lib.hid hy1; have HL1 := Lib.hid hl1
  clear hw1 hx1 hz1 hy1 hl1 HX0 HZ HY HW F3 i0 i1 i2 i4 c32 f32 ck hb0 hs0 HCN
  generalize hh2 : ({ h with pc := wrap32 (h.pc + 4) } : Ht) = h2 at *
  have HH2 := Lib.hid hh2; clear hh2
  go_wp2_with (refine wpList_load_row rfl 28 _ rfl (w.heap.size) rfl 28 (hA h2) (0, 0) _ HX1.out Try.underlying28 rfl (infoA (hA_size h2 HL1.out)) ?_)
  refine (put_any h2 d (wrap32 id) _ HL1.out).mono ?_
  rintro e w5 ⟨rfl, hb5⟩
  have hz5 := bel_in hb5 (by omega) HZ1.out
  have hy5 := bel_in hb5 (by omega) HY1.out
  have hl5 := put_len HL1.out d (wrap32 id)
  have HZ5 := Lib.hid hz5; have HY5 := Lib.hid (row_ne (by omega) hy5 : (w5.setRow (w.heap.size + 2) (hA (putH h2 d (wrap32 id)))).heap[w.heap.size + 3]? = _); have HL5 := Lib.hid hl5
  clear hz5 hy5 hl5 j1
  generalize hh5 : putH h2 d (wrap32 id) = h5 at *
  have HH5 := Lib.hid hh5; clear hh5
  go_wp2_with (first | (refine wpList_store_row rfl 28 _ _ rfl (w.heap.size + 2) (hA h5) rfl rfl 28 zA HZ5.out (infoA (hA_size h5 HL5.out)) (by rw [hA_size h5 HL5.out]; rfl) (hA_one h5) ?_) | (refine wpList_store_row rfl 34 _ _ rfl (w.heap.size + 3) effZ rfl rfl 34 effZ HY5.out (by kernel_rfl) rfl (by kernel_rfl) ?_))
  exact bodyPost_ret (v := .tuple #[.agg (hA h5), .agg effZ]) (results_cells2 rfl _ _ (w.heap.size + 2) (w.heap.size + 3) 28 34 (hA h5) effZ (0, 0) (0, 0) _ _ rfl rfl (row_ne (by omega) (setRow_heap _ _ _ _ _ _ HZ5.out)) (setRow_heap _ _ _ _ _ _ HY5.out) Try.underlying28 rfl (infoA (hA_size h5 HL5.out)) Try.underlying34 rfl (by kernel_rfl)) rfl ⟨by rw [HH2.out, HH5.out]; rfl, below_setRow (below_setRow (by repeat (first | (with_reducible exact Below.refl _ _) | (with_reducible refine bw_set ?_ ?_ _) | (with_reducible apply bw_alloc) | (with_reducible refine bw_tr ?_ (by with_reducible assumption)) | (with_reducible apply bw_drew) | omega)) (by omega) _) (by omega) _⟩
set_option maxHeartbeats 8000000 in
theorem controls_bad (h : Ht) (id : Int) (x : Ins) (w : World) (h32 : h.r.length = 32) (ha : 0 ≤ x.a ∧ x.a < 32) (hc : noCtl x.n ∧ x.n ≠ 3860) :
    Calls Try.prog 34 #[.agg (hA h), .int .i64 id, insV x] w fun e w' => e = .returned (.tuple #[.agg (hA h), effV ⟨9, 0, 0, 0, 0⟩]) ∧ Below w.heap.size w w' := by
  obtain ⟨op, d, a, b, n⟩ := x
  simp only at ha hc
  obtain ⟨k, rfl, hk⟩ : ∃ k : Nat, a = k ∧ k < 32 := ⟨a.toNat, by omega, by omega⟩
  obtain ⟨w0, hw0, hx, hi, hz, hy, hb0, hs0⟩ := four_new w (.cells (hA h) 28) (.cells #[.int .i64 op, .int .i64 d, .int .i64 k, .int .i64 b, .int .i64 n] 24) (.cells zA 28) (.cells effZ 34)
  have g32 := (hA_fields h h32).1
  have ck := cell_in hx (hA_r h h32 k hk)
  have c32 := cell_in hx g32
  have f32 := frozen_in hx 32
  have i0 := cell_in hi (j := 0) (u := .int .i64 op) rfl
  have i1 := cell_in hi (j := 1) (u := .int .i64 d) rfl
  have i2 := cell_in hi (j := 2) (u := .int .i64 k) rfl
  have i4 := cell_in hi (j := 4) (u := .int .i64 n) rfl
  have F3 := Lib.hid (w32_w64 (h.pc + 4))
  have HW := Lib.hid hw0
  have HZ := Lib.hid hz
  have HY := Lib.hid hy
  have HX0 := Lib.hid hx
  clear hx hi hz hy hw0 g32
  have q := bne_iff_ne.2 hc.2
  have HCN := Lib.hid hc.1; clear hc
  unfold insV
  go_enter Try.func34, Try.ntmps34
  go_upto_region 1 with (fail)
  change Code.wp _ _ _ _ ((((w.alloc (.cells (hA h) 28)).alloc (.cells #[.int .i64 op, .int .i64 d, .int .i64 k, .int .i64 b, .int .i64 n] 24)).alloc (.cells zA 28)).alloc (.cells effZ 34))
  rw [← HW.out]
  go_wp2_with (first | (go_at_call 24; refine (wrap_any _ _).mono ?_; rintro e w' ⟨rfl, rfl⟩) | (go_at_call 51; refine (control_no _ n _ HCN.out).mono ?_; rintro e w' ⟨rfl, rfl⟩) | (refine wpList_load_row rfl 28 _ rfl (w.heap.size) rfl 28 (hA h) (0, 0) _ HX0.out Try.underlying28 rfl (infoA (hA_size h h32)) ?_) | (refine wpList_store_row rfl 28 _ _ rfl (w.heap.size + 2) (hA h) rfl rfl 28 zA HZ.out (infoA (hA_size h h32)) (by rw [hA_size h h32]; rfl) (hA_one h) ?_) | (refine wpList_store_row rfl 34 _ _ rfl (w.heap.size + 3) #[.int .i64 9, .int .i64 0, .int .i64 0, .int .i64 0, .int .i64 0] rfl rfl 34 effZ (row_ne (by omega) HY.out) (by kernel_rfl) rfl (by kernel_rfl) ?_))
  exact bodyPost_ret (v := .tuple #[.agg (hA h), effV ⟨9, 0, 0, 0, 0⟩]) (results_cells2 rfl _ _ (w.heap.size + 2) (w.heap.size + 3) 28 34 (hA h) #[.int .i64 9, .int .i64 0, .int .i64 0, .int .i64 0, .int .i64 0] (0, 0) (0, 0) _ _ rfl rfl (row_ne (by omega) (setRow_heap _ _ _ _ _ _ HZ.out)) (setRow_heap _ _ _ _ _ _ (row_ne (by omega) HY.out)) Try.underlying28 rfl (infoA (hA_size h h32)) Try.underlying34 rfl (by kernel_rfl)) rfl ⟨rfl, below_setRow (below_setRow hb0 (by omega) _) (by omega) _⟩
end Go.Proofs.Ytiahdhlfecgnpaa
