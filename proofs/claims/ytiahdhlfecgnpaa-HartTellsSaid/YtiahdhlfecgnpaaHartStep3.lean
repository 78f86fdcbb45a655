/- The contract of hart.Step: operations that write a register. -/
import Derived.Test.YtiahdhlfecgnpaaHartStep2
namespace Go.Proofs.Ytiahdhlfecgnpaa
open Go.RowKit
set_option maxRecDepth 100000 in
set_option maxHeartbeats 8000000 in
theorem step_1 (h : Ht) (id : Int) (x : Ins) (w : World) (h32 : h.r.length = 32) (hr : rightB x = true) (hop : x.op = 1) :
    Calls Try.prog 16 #[.agg (hA h), .int .i64 id, insV x] w fun e w' => e = .returned (.tuple #[.agg (hA (stepN h x).1), effV (stepN h x).2]) ∧ Below w.heap.size w w' := by
  obtain ⟨op, d, a, b, n⟩ := x
  have ra := (right_regs hr).1
  have rb := (right_regs hr).2
  simp only at ra rb
  obtain ⟨ka, rfl, hka⟩ : ∃ k : Nat, a = k ∧ k < 32 := ⟨a.toNat, by omega, by omega⟩
  obtain ⟨kb, rfl, hkb⟩ : ∃ k : Nat, b = k ∧ k < 32 := ⟨b.toNat, by omega, by omega⟩
  clear ra rb
  simp only at hop
  have HOP := Lib.hid hop; clear hop
  obtain ⟨w0, hw0, hx, hi, hz, hy, hb0, hs0⟩ := four_new w (.cells (hA h) 28) (.cells #[.int .i64 op, .int .i64 d, .int .i64 ka, .int .i64 kb, .int .i64 n] 24) (.cells zA 28) (.cells effZ 34)
  have i0 := cell_in hi (j := 0) (u := .int .i64 op) rfl
  have i1 := cell_in hi (j := 1) (u := .int .i64 d) rfl
  have i2 := cell_in hi (j := 2) (u := .int .i64 ka) rfl
  have i3 := cell_in hi (j := 3) (u := .int .i64 kb) rfl
  have i4 := cell_in hi (j := 4) (u := .int .i64 n) rfl
  have HW := Lib.hid hw0
  have HX := Lib.hid hx; have HZ := Lib.hid hz; have HY := Lib.hid hy; have HI := Lib.hid hi
  have HR := Lib.hid hr
  clear hx hi hz hy hw0 hr
  unfold insV
  go_enter Try.func16, Try.ntmps16
  go_upto_region 1 with (fail)
  change Code.wp _ _ _ _ ((((w.alloc (.cells (hA h) 28)).alloc (.cells #[.int .i64 op, .int .i64 d, .int .i64 ka, .int .i64 kb, .int .i64 n] 24)).alloc (.cells zA 28)).alloc (.cells effZ 34))
  rw [← HW.out]
  go_wp2_with fail
  refine (right_h op d ka kb n true _ HR.out).mono ?_
  rintro e w1 ⟨rfl, hb1⟩
  have hx1 := bel_in hb1 (by omega) HX.out
  have hi1 := bel_in hb1 (by omega) HI.out
  have ca := cell_in hx1 (hA_r h h32 ka hka)
  have cb := cell_in hx1 (hA_r h h32 kb hkb)
  have m0 := cell_in hi1 (j := 0) (u := .int .i64 op) rfl
  have m1 := cell_in hi1 (j := 1) (u := .int .i64 d) rfl
  have m2 := cell_in hi1 (j := 2) (u := .int .i64 ka) rfl
  have m3 := cell_in hi1 (j := 3) (u := .int .i64 kb) rfl
  have m4 := cell_in hi1 (j := 4) (u := .int .i64 n) rfl
  have ia : (0 : Int) ≤ (ka : Int) := by omega
  have ib : (ka : Int) < 32 := by omega
  have ic : (0 : Int) ≤ (kb : Int) := by omega
  have id' : (kb : Int) < 32 := by omega
  have HX1 := Lib.hid hx1; have HI1 := Lib.hid hi1
  have HZ1 := Lib.hid (bel_in hb1 (by omega) HZ.out)
  have HY1 := Lib.hid (bel_in hb1 (by omega) HY.out)
  have hs1 : w.heap.size + 4 ≤ w1.heap.size := by have := hb1.size; omega
  have hbw1 : Below w.heap.size w w1 := (by repeat (first | (with_reducible exact Below.refl _ _) | (with_reducible refine bw_set ?_ ?_ _) | (with_reducible apply bw_alloc) | (with_reducible refine bw_tr ?_ (by with_reducible assumption)) | (with_reducible apply bw_drew) | omega))
  clear i0 i1 i2 i3 i4 hx1 hi1 HX HI HZ HY HW hb0 hs0 hb1 HR
  generalize hva : h.r.getD ka 0 = va at *
  generalize hvb : h.r.getD kb 0 = vb at *
  have HVA := Lib.hid hva; have HVB := Lib.hid hvb; clear hva hvb
  go_wp2_with fail
  go_quiet (fail)
  go_wp2_with (refine wpList_load_row rfl 28 _ rfl (w.heap.size) rfl 28 (hA h) (0, 0) _ HX1.out Try.underlying28 rfl (infoA (hA_size h h32)) ?_)
  refine (leads_any h ⟨op, d, ka, kb, n⟩ va vb _ h32).mono ?_
  rintro e w2 ⟨rfl, hb2⟩
  have hsz : w1.heap.size ≤ w2.heap.size := hb2.size
  have hx2 := bel_in hb2 (show w.heap.size < w1.heap.size by omega) HX1.out
  have hi2 := bel_in hb2 (show w.heap.size + 1 < w1.heap.size by omega) HI1.out
  have hz2 := bel_in hb2 (show w.heap.size + 2 < w1.heap.size by omega) HZ1.out
  have hy2 := bel_in hb2 (show w.heap.size + 3 < w1.heap.size by omega) HY1.out
  have n0 := cell_in hi2 (j := 0) (u := .int .i64 op) rfl
  have n1 := cell_in hi2 (j := 1) (u := .int .i64 d) rfl
  have n2 := cell_in hi2 (j := 2) (u := .int .i64 ka) rfl
  have n3 := cell_in hi2 (j := 3) (u := .int .i64 kb) rfl
  have n4 := cell_in hi2 (j := 4) (u := .int .i64 n) rfl
  have HX2 := Lib.hid hx2; have HZ2 := Lib.hid hz2; have HY2 := Lib.hid hy2; have HI2 := Lib.hid hi2
  have hbw2 : Below w.heap.size w w2 := bw_tr hbw1 (show Below w1.heap.size w1 w2 from bw_tr (below_drewN (Below.refl _ _) _) hb2)
  have hs2 : w.heap.size + 4 ≤ w2.heap.size := by omega
  clear m0 m1 m2 m3 m4 HX1 HI1 HZ1 HY1 hs1 hbw1 ca cb hx2 hi2 hz2 hy2 hb2
  generalize hnx : leadsN h.pc ⟨op, d, ka, kb, n⟩ va vb = nx at *
  have HNX := Lib.hid hnx; clear hnx
  have hop := HOP.out
  have q0 : (op == 44) = false := by simp; omega
  have q1 : (op == 40) = false := by simp; omega
  have q2 : (op == 41) = false := by simp; omega
  have q3 : (op == 42) = false := by simp; omega
  have q4 : (op == 1) = true := by simp; omega
  clear hop
  go_wp2_with (refine wpList_load_row rfl 28 _ rfl (w.heap.size) rfl 28 (hA h) (0, 0) _ HX2.out Try.underlying28 rfl (infoA (hA_size h h32)) ?_)
  refine (put_any h d _ _ h32).mono ?_
  rintro e w5 ⟨rfl, hb5⟩
  have HX5 := Lib.hid (bel_in hb5 (by omega) HX2.out)
  have HZ5 := Lib.hid (bel_in hb5 (by omega) HZ2.out)
  have HY5 := Lib.hid (bel_in hb5 (by omega) HY2.out)
  have HI5 := Lib.hid (bel_in hb5 (by omega) HI2.out)
  generalize hh5 : putH h d _ = h5 at *
  have hl5 : h5.r.length = 32 := by rw [← hh5]; exact put_len h32 d _
  have HP : Hid (putX h ⟨op, d, ka, kb, n⟩ va vb = h5) := by
    have hop := HOP.out
    rw [← hh5]; unfold putX; rw [if_pos (by simp only; omega)]; exact Lib.hid (putH_wrap _ _ _ _ (by first | exact (w32_w64 _).symm | (simp only [wrap64, wrap32]; omega)))

  clear hh5
  go_upto_region 20 with (refine wpList_store_row rfl 28 _ _ rfl (w.heap.size) (hA h5) rfl rfl 28 (hA h) HX5.out (infoA (hA_size h5 hl5)) (by rw [hA_size h5 hl5, hA_size h h32]) (hA_one h5) ?_)
  obtain ⟨w6, hw6⟩ : ∃ w6 : World, w6 = w5.setRow w.heap.size (hA h5) := ⟨_, rfl⟩
  have HX6 : Hid (w6.heap[w.heap.size]? = some (.cells (hA h5) 28 (0, 0))) := by rw [hw6]; exact setRow_heap _ _ _ _ _ _ HX5.out
  have HZ6 : Hid (w6.heap[w.heap.size + 2]? = some (.cells zA 28 (0, 0))) := by rw [hw6]; exact row_ne (by omega) HZ5.out
  have HY6 : Hid (w6.heap[w.heap.size + 3]? = some (.cells effZ 34 (0, 0))) := by rw [hw6]; exact row_ne (by omega) HY5.out
  have HI6 : Hid (w6.heap[w.heap.size + 1]? = some (.cells #[.int .i64 op, .int .i64 d, .int .i64 ka, .int .i64 kb, .int .i64 n] 24 (0, 0))) := by rw [hw6]; exact row_ne (by omega) HI5.out
  have hbw6 : Below w.heap.size w w6 := by rw [hw6]; exact below_setRow (by repeat (first | (with_reducible exact Below.refl _ _) | (with_reducible refine bw_set ?_ ?_ _) | (with_reducible apply bw_alloc) | (with_reducible refine bw_tr ?_ (by with_reducible assumption)) | (with_reducible apply bw_drew) | omega)) (Nat.le_refl _) _
  have hs6 : w.heap.size + 4 ≤ w6.heap.size := by have h1 := hb5.size; have h2 := lt_in HY6.out; omega
  rw [← hw6]
  clear hw6 HX5 HZ5 HY5 HI5 HX2 HZ2 HY2 HI2 hb5 n0 n1 n2 n3 n4 hbw2 q0 q1 q2 q3 q4 
  have g32 := cell_in HX6.out (hA_fields h5 hl5).1
  have f32 := frozen_in HX6.out 32
  have HX3 := Lib.hid (set_heap HX6.out 32 (.int .i64 nx) _ (hA_pc h5 hl5 nx))
  go_upto_region 21 with (fail)
  obtain ⟨w3, hw3⟩ : ∃ w3 : World, w3 = w6.setCell ⟨w.heap.size, 32, none⟩ (.int .i64 nx) := ⟨_, rfl⟩
  have hx3 := HX3.out
  have hz3 : w3.heap[w.heap.size + 2]? = some (.cells zA 28 (0, 0)) := by rw [hw3]; exact heap_set_ne (by omega) HZ6.out
  have hy3 : w3.heap[w.heap.size + 3]? = some (.cells effZ 34 (0, 0)) := by rw [hw3]; exact heap_set_ne (by omega) HY6.out
  have hi3 : w3.heap[w.heap.size + 1]? = some (.cells #[.int .i64 op, .int .i64 d, .int .i64 ka, .int .i64 kb, .int .i64 n] 24 (0, 0)) := by rw [hw3]; exact heap_set_ne (by omega) HI6.out
  have hb3 : Below w.heap.size w w3 := by rw [hw3]; exact bw_set hbw6 (Nat.le_refl _) _
  have hs3 : w.heap.size + 4 ≤ w3.heap.size := by rw [hw3, size_set]; exact hs6
  rw [← hw3] at hx3 ⊢
  generalize hh3 : ({ h5 with pc := nx } : Ht) = h3 at *
  have HH3 := Lib.hid hh3; clear hh3
  have hl3' : h3.r.length = 32 := by rw [← HH3.out]; exact hl5
  have hsz3 := hA_size h3 hl3'
  have R0 : Hid (∀ w' : World, (∃ x : Wd w3, w' = x.val) → (loadVar 28 ⟨w.heap.size, 0, none⟩).run Try.prog w' = .ok (.agg (hA h3)) w') := by
    rintro w' ⟨x, rfl⟩
    exact run_loadVar_row _ _ 28 28 (hA h3) (0, 0) _ (bel_in x.bel (by omega) hx3) Try.underlying28 rfl (infoA hsz3)
  have r1 := fun x => wd_cell (by omega) (cell_in hi3 (j := 0) (u := .int .i64 op) rfl) x
  have r2 := fun x => wd_cell (by omega) (cell_in hi3 (j := 1) (u := .int .i64 d) rfl) x
  have r3 := fun x => wd_cell (by omega) (cell_in hi3 (j := 2) (u := .int .i64 ka) rfl) x
  have r4 := fun x => wd_cell (by omega) (cell_in hi3 (j := 3) (u := .int .i64 kb) rfl) x
  have r5 := fun x => wd_cell (by omega) (cell_in hi3 (j := 4) (u := .int .i64 n) rfl) x
  have HSZ := Lib.hid hsz3
  have HZ3 := Lib.hid hz3; have HY3 := Lib.hid hy3
  clear hw3 hx3 hz3 hy3 hi3 hsz3 HX3 HX6 HZ6 HY6 HI6 g32 f32 hbw6 hs6 
  refine wp_region_below_tail 5 (by kernel_rfl) (by kernel_rfl) ?_
  simp only [List.take_succ_cons, List.take_zero, List.drop_succ_cons, List.drop_zero]
  go_big_quiet_want
  refine quiet_load_row 28 _ (w.heap.size) (hA h3) rfl rfl R0.out ?_
  simp only [Act.put, List.setIfInBounds_toArray, List.set_cons_succ, List.set_cons_zero]
  go_big_quiet_on
  repeat (go_big_quiet_step ((go_at_call 36; exact quiet_b (effect_any ⟨op, d, ka, kb, n⟩ va vb _))))
  refine wpQuiet_nil ?_
  rintro w4 ⟨⟨w4x, hb4⟩, rfl⟩
  have HZ4 := Lib.hid (bel_in hb4 (by omega) HZ3.out)
  have HY4 := Lib.hid (row_ne (b := w.heap.size + 2) (cs := hA h3) (by omega) (bel_in hb4 (by omega) HY3.out))
  generalize hef : effX ⟨op, d, ka, kb, n⟩ va vb = ef at *
  have HEF := Lib.hid hef; clear hef
  obtain ⟨e0, e1, e2, e3, e4⟩ := ef
  unfold effV
  go_wp2_with (first | (refine wpList_store_row rfl 28 _ _ rfl (w.heap.size + 2) (hA h3) rfl rfl 28 zA HZ4.out (infoA HSZ.out) (by rw [HSZ.out]; rfl) (hA_one h3) ?_) | (refine wpList_store_row rfl 34 _ _ rfl (w.heap.size + 3) #[.int .i64 e0, .int .i64 e1, .int .i64 e2, .int .i64 e3, .int .i64 e4] rfl rfl 34 effZ HY4.out (by kernel_rfl) rfl (by kernel_rfl) ?_))
  exact bodyPost_ret (v := .tuple #[.agg (hA h3), .agg #[.int .i64 e0, .int .i64 e1, .int .i64 e2, .int .i64 e3, .int .i64 e4]]) (results_cells2 rfl _ _ (w.heap.size + 2) (w.heap.size + 3) 28 34 (hA h3) #[.int .i64 e0, .int .i64 e1, .int .i64 e2, .int .i64 e3, .int .i64 e4] (0, 0) (0, 0) _ _ rfl rfl (row_ne (by omega) (setRow_heap _ _ _ _ _ _ HZ4.out)) (setRow_heap _ _ _ _ _ _ HY4.out) Try.underlying28 rfl (infoA HSZ.out) Try.underlying34 rfl (by kernel_rfl)) rfl ⟨by unfold stepN; simp only [Int.toNat_natCast]; rw [HVA.out, HVB.out, HNX.out, HEF.out, HP.out, HH3.out]; rfl, below_setRow (below_setRow (by repeat (first | (with_reducible exact Below.refl _ _) | (with_reducible refine bw_set ?_ ?_ _) | (with_reducible apply bw_alloc) | (with_reducible refine bw_tr ?_ (by with_reducible assumption)) | (with_reducible apply bw_drew) | omega)) (by omega) _) (by omega) _⟩
set_option maxRecDepth 100000 in
set_option maxHeartbeats 8000000 in
theorem step_2 (h : Ht) (id : Int) (x : Ins) (w : World) (h32 : h.r.length = 32) (hr : rightB x = true) (hop : x.op = 2) :
    Calls Try.prog 16 #[.agg (hA h), .int .i64 id, insV x] w fun e w' => e = .returned (.tuple #[.agg (hA (stepN h x).1), effV (stepN h x).2]) ∧ Below w.heap.size w w' := by
  obtain ⟨op, d, a, b, n⟩ := x
  have ra := (right_regs hr).1
  have rb := (right_regs hr).2
  simp only at ra rb
  obtain ⟨ka, rfl, hka⟩ : ∃ k : Nat, a = k ∧ k < 32 := ⟨a.toNat, by omega, by omega⟩
  obtain ⟨kb, rfl, hkb⟩ : ∃ k : Nat, b = k ∧ k < 32 := ⟨b.toNat, by omega, by omega⟩
  clear ra rb
  simp only at hop
  have HOP := Lib.hid hop; clear hop
  obtain ⟨w0, hw0, hx, hi, hz, hy, hb0, hs0⟩ := four_new w (.cells (hA h) 28) (.cells #[.int .i64 op, .int .i64 d, .int .i64 ka, .int .i64 kb, .int .i64 n] 24) (.cells zA 28) (.cells effZ 34)
  have i0 := cell_in hi (j := 0) (u := .int .i64 op) rfl
  have i1 := cell_in hi (j := 1) (u := .int .i64 d) rfl
  have i2 := cell_in hi (j := 2) (u := .int .i64 ka) rfl
  have i3 := cell_in hi (j := 3) (u := .int .i64 kb) rfl
  have i4 := cell_in hi (j := 4) (u := .int .i64 n) rfl
  have HW := Lib.hid hw0
  have HX := Lib.hid hx; have HZ := Lib.hid hz; have HY := Lib.hid hy; have HI := Lib.hid hi
  have HR := Lib.hid hr
  clear hx hi hz hy hw0 hr
  unfold insV
  go_enter Try.func16, Try.ntmps16
  go_upto_region 1 with (fail)
  change Code.wp _ _ _ _ ((((w.alloc (.cells (hA h) 28)).alloc (.cells #[.int .i64 op, .int .i64 d, .int .i64 ka, .int .i64 kb, .int .i64 n] 24)).alloc (.cells zA 28)).alloc (.cells effZ 34))
  rw [← HW.out]
  go_wp2_with fail
  refine (right_h op d ka kb n true _ HR.out).mono ?_
  rintro e w1 ⟨rfl, hb1⟩
  have hx1 := bel_in hb1 (by omega) HX.out
  have hi1 := bel_in hb1 (by omega) HI.out
  have ca := cell_in hx1 (hA_r h h32 ka hka)
  have cb := cell_in hx1 (hA_r h h32 kb hkb)
  have m0 := cell_in hi1 (j := 0) (u := .int .i64 op) rfl
  have m1 := cell_in hi1 (j := 1) (u := .int .i64 d) rfl
  have m2 := cell_in hi1 (j := 2) (u := .int .i64 ka) rfl
  have m3 := cell_in hi1 (j := 3) (u := .int .i64 kb) rfl
  have m4 := cell_in hi1 (j := 4) (u := .int .i64 n) rfl
  have ia : (0 : Int) ≤ (ka : Int) := by omega
  have ib : (ka : Int) < 32 := by omega
  have ic : (0 : Int) ≤ (kb : Int) := by omega
  have id' : (kb : Int) < 32 := by omega
  have HX1 := Lib.hid hx1; have HI1 := Lib.hid hi1
  have HZ1 := Lib.hid (bel_in hb1 (by omega) HZ.out)
  have HY1 := Lib.hid (bel_in hb1 (by omega) HY.out)
  have hs1 : w.heap.size + 4 ≤ w1.heap.size := by have := hb1.size; omega
  have hbw1 : Below w.heap.size w w1 := (by repeat (first | (with_reducible exact Below.refl _ _) | (with_reducible refine bw_set ?_ ?_ _) | (with_reducible apply bw_alloc) | (with_reducible refine bw_tr ?_ (by with_reducible assumption)) | (with_reducible apply bw_drew) | omega))
  clear i0 i1 i2 i3 i4 hx1 hi1 HX HI HZ HY HW hb0 hs0 hb1 HR
  generalize hva : h.r.getD ka 0 = va at *
  generalize hvb : h.r.getD kb 0 = vb at *
  have HVA := Lib.hid hva; have HVB := Lib.hid hvb; clear hva hvb
  go_wp2_with fail
  go_quiet (fail)
  go_wp2_with (refine wpList_load_row rfl 28 _ rfl (w.heap.size) rfl 28 (hA h) (0, 0) _ HX1.out Try.underlying28 rfl (infoA (hA_size h h32)) ?_)
  refine (leads_any h ⟨op, d, ka, kb, n⟩ va vb _ h32).mono ?_
  rintro e w2 ⟨rfl, hb2⟩
  have hsz : w1.heap.size ≤ w2.heap.size := hb2.size
  have hx2 := bel_in hb2 (show w.heap.size < w1.heap.size by omega) HX1.out
  have hi2 := bel_in hb2 (show w.heap.size + 1 < w1.heap.size by omega) HI1.out
  have hz2 := bel_in hb2 (show w.heap.size + 2 < w1.heap.size by omega) HZ1.out
  have hy2 := bel_in hb2 (show w.heap.size + 3 < w1.heap.size by omega) HY1.out
  have n0 := cell_in hi2 (j := 0) (u := .int .i64 op) rfl
  have n1 := cell_in hi2 (j := 1) (u := .int .i64 d) rfl
  have n2 := cell_in hi2 (j := 2) (u := .int .i64 ka) rfl
  have n3 := cell_in hi2 (j := 3) (u := .int .i64 kb) rfl
  have n4 := cell_in hi2 (j := 4) (u := .int .i64 n) rfl
  have HX2 := Lib.hid hx2; have HZ2 := Lib.hid hz2; have HY2 := Lib.hid hy2; have HI2 := Lib.hid hi2
  have hbw2 : Below w.heap.size w w2 := bw_tr hbw1 (show Below w1.heap.size w1 w2 from bw_tr (below_drewN (Below.refl _ _) _) hb2)
  have hs2 : w.heap.size + 4 ≤ w2.heap.size := by omega
  clear m0 m1 m2 m3 m4 HX1 HI1 HZ1 HY1 hs1 hbw1 ca cb hx2 hi2 hz2 hy2 hb2
  generalize hnx : leadsN h.pc ⟨op, d, ka, kb, n⟩ va vb = nx at *
  have HNX := Lib.hid hnx; clear hnx
  have hop := HOP.out
  have q0 : (op == 44) = false := by simp; omega
  have q1 : (op == 40) = false := by simp; omega
  have q2 : (op == 41) = false := by simp; omega
  have q3 : (op == 42) = false := by simp; omega
  have q4 : (op == 1) = false := by simp; omega
  have q5 : (op == 2) = true := by simp; omega
  have g32 := cell_in HX2.out (hA_fields h h32).1
  clear hop
  go_wp2_with (refine wpList_load_row rfl 28 _ rfl (w.heap.size) rfl 28 (hA h) (0, 0) _ HX2.out Try.underlying28 rfl (infoA (hA_size h h32)) ?_)
  refine (put_any h d _ _ h32).mono ?_
  rintro e w5 ⟨rfl, hb5⟩
  have HX5 := Lib.hid (bel_in hb5 (by omega) HX2.out)
  have HZ5 := Lib.hid (bel_in hb5 (by omega) HZ2.out)
  have HY5 := Lib.hid (bel_in hb5 (by omega) HY2.out)
  have HI5 := Lib.hid (bel_in hb5 (by omega) HI2.out)
  generalize hh5 : putH h d _ = h5 at *
  have hl5 : h5.r.length = 32 := by rw [← hh5]; exact put_len h32 d _
  have HP : Hid (putX h ⟨op, d, ka, kb, n⟩ va vb = h5) := by
    have hop := HOP.out
    rw [← hh5]; unfold putX; rw [if_neg (by have hop := HOP.out; simp only; omega)]; rw [if_pos (by simp only; omega)]; exact Lib.hid (putH_wrap _ _ _ _ (by first | exact (w32_w64 _).symm | (simp only [wrap64, wrap32]; omega)))

  clear hh5
  go_upto_region 20 with (refine wpList_store_row rfl 28 _ _ rfl (w.heap.size) (hA h5) rfl rfl 28 (hA h) HX5.out (infoA (hA_size h5 hl5)) (by rw [hA_size h5 hl5, hA_size h h32]) (hA_one h5) ?_)
  obtain ⟨w6, hw6⟩ : ∃ w6 : World, w6 = w5.setRow w.heap.size (hA h5) := ⟨_, rfl⟩
  have HX6 : Hid (w6.heap[w.heap.size]? = some (.cells (hA h5) 28 (0, 0))) := by rw [hw6]; exact setRow_heap _ _ _ _ _ _ HX5.out
  have HZ6 : Hid (w6.heap[w.heap.size + 2]? = some (.cells zA 28 (0, 0))) := by rw [hw6]; exact row_ne (by omega) HZ5.out
  have HY6 : Hid (w6.heap[w.heap.size + 3]? = some (.cells effZ 34 (0, 0))) := by rw [hw6]; exact row_ne (by omega) HY5.out
  have HI6 : Hid (w6.heap[w.heap.size + 1]? = some (.cells #[.int .i64 op, .int .i64 d, .int .i64 ka, .int .i64 kb, .int .i64 n] 24 (0, 0))) := by rw [hw6]; exact row_ne (by omega) HI5.out
  have hbw6 : Below w.heap.size w w6 := by rw [hw6]; exact below_setRow (by repeat (first | (with_reducible exact Below.refl _ _) | (with_reducible refine bw_set ?_ ?_ _) | (with_reducible apply bw_alloc) | (with_reducible refine bw_tr ?_ (by with_reducible assumption)) | (with_reducible apply bw_drew) | omega)) (Nat.le_refl _) _
  have hs6 : w.heap.size + 4 ≤ w6.heap.size := by have h1 := hb5.size; have h2 := lt_in HY6.out; omega
  rw [← hw6]
  clear hw6 HX5 HZ5 HY5 HI5 HX2 HZ2 HY2 HI2 hb5 n0 n1 n2 n3 n4 hbw2 q0 q1 q2 q3 q4 q5 g32
  have g32 := cell_in HX6.out (hA_fields h5 hl5).1
  have f32 := frozen_in HX6.out 32
  have HX3 := Lib.hid (set_heap HX6.out 32 (.int .i64 nx) _ (hA_pc h5 hl5 nx))
  go_upto_region 21 with (fail)
  obtain ⟨w3, hw3⟩ : ∃ w3 : World, w3 = w6.setCell ⟨w.heap.size, 32, none⟩ (.int .i64 nx) := ⟨_, rfl⟩
  have hx3 := HX3.out
  have hz3 : w3.heap[w.heap.size + 2]? = some (.cells zA 28 (0, 0)) := by rw [hw3]; exact heap_set_ne (by omega) HZ6.out
  have hy3 : w3.heap[w.heap.size + 3]? = some (.cells effZ 34 (0, 0)) := by rw [hw3]; exact heap_set_ne (by omega) HY6.out
  have hi3 : w3.heap[w.heap.size + 1]? = some (.cells #[.int .i64 op, .int .i64 d, .int .i64 ka, .int .i64 kb, .int .i64 n] 24 (0, 0)) := by rw [hw3]; exact heap_set_ne (by omega) HI6.out
  have hb3 : Below w.heap.size w w3 := by rw [hw3]; exact bw_set hbw6 (Nat.le_refl _) _
  have hs3 : w.heap.size + 4 ≤ w3.heap.size := by rw [hw3, size_set]; exact hs6
  rw [← hw3] at hx3 ⊢
  generalize hh3 : ({ h5 with pc := nx } : Ht) = h3 at *
  have HH3 := Lib.hid hh3; clear hh3
  have hl3' : h3.r.length = 32 := by rw [← HH3.out]; exact hl5
  have hsz3 := hA_size h3 hl3'
  have R0 : Hid (∀ w' : World, (∃ x : Wd w3, w' = x.val) → (loadVar 28 ⟨w.heap.size, 0, none⟩).run Try.prog w' = .ok (.agg (hA h3)) w') := by
    rintro w' ⟨x, rfl⟩
    exact run_loadVar_row _ _ 28 28 (hA h3) (0, 0) _ (bel_in x.bel (by omega) hx3) Try.underlying28 rfl (infoA hsz3)
  have r1 := fun x => wd_cell (by omega) (cell_in hi3 (j := 0) (u := .int .i64 op) rfl) x
  have r2 := fun x => wd_cell (by omega) (cell_in hi3 (j := 1) (u := .int .i64 d) rfl) x
  have r3 := fun x => wd_cell (by omega) (cell_in hi3 (j := 2) (u := .int .i64 ka) rfl) x
  have r4 := fun x => wd_cell (by omega) (cell_in hi3 (j := 3) (u := .int .i64 kb) rfl) x
  have r5 := fun x => wd_cell (by omega) (cell_in hi3 (j := 4) (u := .int .i64 n) rfl) x
  have HSZ := Lib.hid hsz3
  have HZ3 := Lib.hid hz3; have HY3 := Lib.hid hy3
  clear hw3 hx3 hz3 hy3 hi3 hsz3 HX3 HX6 HZ6 HY6 HI6 g32 f32 hbw6 hs6 
  refine wp_region_below_tail 5 (by kernel_rfl) (by kernel_rfl) ?_
  simp only [List.take_succ_cons, List.take_zero, List.drop_succ_cons, List.drop_zero]
  go_big_quiet_want
  refine quiet_load_row 28 _ (w.heap.size) (hA h3) rfl rfl R0.out ?_
  simp only [Act.put, List.setIfInBounds_toArray, List.set_cons_succ, List.set_cons_zero]
  go_big_quiet_on
  repeat (go_big_quiet_step ((go_at_call 36; exact quiet_b (effect_any ⟨op, d, ka, kb, n⟩ va vb _))))
  refine wpQuiet_nil ?_
  rintro w4 ⟨⟨w4x, hb4⟩, rfl⟩
  have HZ4 := Lib.hid (bel_in hb4 (by omega) HZ3.out)
  have HY4 := Lib.hid (row_ne (b := w.heap.size + 2) (cs := hA h3) (by omega) (bel_in hb4 (by omega) HY3.out))
  generalize hef : effX ⟨op, d, ka, kb, n⟩ va vb = ef at *
  have HEF := Lib.hid hef; clear hef
  obtain ⟨e0, e1, e2, e3, e4⟩ := ef
  unfold effV
  go_wp2_with (first | (refine wpList_store_row rfl 28 _ _ rfl (w.heap.size + 2) (hA h3) rfl rfl 28 zA HZ4.out (infoA HSZ.out) (by rw [HSZ.out]; rfl) (hA_one h3) ?_) | (refine wpList_store_row rfl 34 _ _ rfl (w.heap.size + 3) #[.int .i64 e0, .int .i64 e1, .int .i64 e2, .int .i64 e3, .int .i64 e4] rfl rfl 34 effZ HY4.out (by kernel_rfl) rfl (by kernel_rfl) ?_))
  exact bodyPost_ret (v := .tuple #[.agg (hA h3), .agg #[.int .i64 e0, .int .i64 e1, .int .i64 e2, .int .i64 e3, .int .i64 e4]]) (results_cells2 rfl _ _ (w.heap.size + 2) (w.heap.size + 3) 28 34 (hA h3) #[.int .i64 e0, .int .i64 e1, .int .i64 e2, .int .i64 e3, .int .i64 e4] (0, 0) (0, 0) _ _ rfl rfl (row_ne (by omega) (setRow_heap _ _ _ _ _ _ HZ4.out)) (setRow_heap _ _ _ _ _ _ HY4.out) Try.underlying28 rfl (infoA HSZ.out) Try.underlying34 rfl (by kernel_rfl)) rfl ⟨by unfold stepN; simp only [Int.toNat_natCast]; rw [HVA.out, HVB.out, HNX.out, HEF.out, HP.out, HH3.out]; rfl, below_setRow (below_setRow (by repeat (first | (with_reducible exact Below.refl _ _) | (with_reducible refine bw_set ?_ ?_ _) | (with_reducible apply bw_alloc) | (with_reducible refine bw_tr ?_ (by with_reducible assumption)) | (with_reducible apply bw_drew) | omega)) (by omega) _) (by omega) _⟩
set_option maxRecDepth 100000 in
set_option maxHeartbeats 8000000 in
theorem step_3 (h : Ht) (id : Int) (x : Ins) (w : World) (h32 : h.r.length = 32) (hr : rightB x = true) (hop : x.op = 3) :
    Calls Try.prog 16 #[.agg (hA h), .int .i64 id, insV x] w fun e w' => e = .returned (.tuple #[.agg (hA (stepN h x).1), effV (stepN h x).2]) ∧ Below w.heap.size w w' := by
  obtain ⟨op, d, a, b, n⟩ := x
  have ra := (right_regs hr).1
  have rb := (right_regs hr).2
  simp only at ra rb
  obtain ⟨ka, rfl, hka⟩ : ∃ k : Nat, a = k ∧ k < 32 := ⟨a.toNat, by omega, by omega⟩
  obtain ⟨kb, rfl, hkb⟩ : ∃ k : Nat, b = k ∧ k < 32 := ⟨b.toNat, by omega, by omega⟩
  clear ra rb
  simp only at hop
  have HOP := Lib.hid hop; clear hop
  obtain ⟨w0, hw0, hx, hi, hz, hy, hb0, hs0⟩ := four_new w (.cells (hA h) 28) (.cells #[.int .i64 op, .int .i64 d, .int .i64 ka, .int .i64 kb, .int .i64 n] 24) (.cells zA 28) (.cells effZ 34)
  have i0 := cell_in hi (j := 0) (u := .int .i64 op) rfl
  have i1 := cell_in hi (j := 1) (u := .int .i64 d) rfl
  have i2 := cell_in hi (j := 2) (u := .int .i64 ka) rfl
  have i3 := cell_in hi (j := 3) (u := .int .i64 kb) rfl
  have i4 := cell_in hi (j := 4) (u := .int .i64 n) rfl
  have HW := Lib.hid hw0
  have HX := Lib.hid hx; have HZ := Lib.hid hz; have HY := Lib.hid hy; have HI := Lib.hid hi
  have HR := Lib.hid hr
  clear hx hi hz hy hw0 hr
  unfold insV
  go_enter Try.func16, Try.ntmps16
  go_upto_region 1 with (fail)
  change Code.wp _ _ _ _ ((((w.alloc (.cells (hA h) 28)).alloc (.cells #[.int .i64 op, .int .i64 d, .int .i64 ka, .int .i64 kb, .int .i64 n] 24)).alloc (.cells zA 28)).alloc (.cells effZ 34))
  rw [← HW.out]
  go_wp2_with fail
  refine (right_h op d ka kb n true _ HR.out).mono ?_
  rintro e w1 ⟨rfl, hb1⟩
  have hx1 := bel_in hb1 (by omega) HX.out
  have hi1 := bel_in hb1 (by omega) HI.out
  have ca := cell_in hx1 (hA_r h h32 ka hka)
  have cb := cell_in hx1 (hA_r h h32 kb hkb)
  have m0 := cell_in hi1 (j := 0) (u := .int .i64 op) rfl
  have m1 := cell_in hi1 (j := 1) (u := .int .i64 d) rfl
  have m2 := cell_in hi1 (j := 2) (u := .int .i64 ka) rfl
  have m3 := cell_in hi1 (j := 3) (u := .int .i64 kb) rfl
  have m4 := cell_in hi1 (j := 4) (u := .int .i64 n) rfl
  have ia : (0 : Int) ≤ (ka : Int) := by omega
  have ib : (ka : Int) < 32 := by omega
  have ic : (0 : Int) ≤ (kb : Int) := by omega
  have id' : (kb : Int) < 32 := by omega
  have HX1 := Lib.hid hx1; have HI1 := Lib.hid hi1
  have HZ1 := Lib.hid (bel_in hb1 (by omega) HZ.out)
  have HY1 := Lib.hid (bel_in hb1 (by omega) HY.out)
  have hs1 : w.heap.size + 4 ≤ w1.heap.size := by have := hb1.size; omega
  have hbw1 : Below w.heap.size w w1 := (by repeat (first | (with_reducible exact Below.refl _ _) | (with_reducible refine bw_set ?_ ?_ _) | (with_reducible apply bw_alloc) | (with_reducible refine bw_tr ?_ (by with_reducible assumption)) | (with_reducible apply bw_drew) | omega))
  clear i0 i1 i2 i3 i4 hx1 hi1 HX HI HZ HY HW hb0 hs0 hb1 HR
  generalize hva : h.r.getD ka 0 = va at *
  generalize hvb : h.r.getD kb 0 = vb at *
  have HVA := Lib.hid hva; have HVB := Lib.hid hvb; clear hva hvb
  go_wp2_with fail
  go_quiet (fail)
  go_wp2_with (refine wpList_load_row rfl 28 _ rfl (w.heap.size) rfl 28 (hA h) (0, 0) _ HX1.out Try.underlying28 rfl (infoA (hA_size h h32)) ?_)
  refine (leads_any h ⟨op, d, ka, kb, n⟩ va vb _ h32).mono ?_
  rintro e w2 ⟨rfl, hb2⟩
  have hsz : w1.heap.size ≤ w2.heap.size := hb2.size
  have hx2 := bel_in hb2 (show w.heap.size < w1.heap.size by omega) HX1.out
  have hi2 := bel_in hb2 (show w.heap.size + 1 < w1.heap.size by omega) HI1.out
  have hz2 := bel_in hb2 (show w.heap.size + 2 < w1.heap.size by omega) HZ1.out
  have hy2 := bel_in hb2 (show w.heap.size + 3 < w1.heap.size by omega) HY1.out
  have n0 := cell_in hi2 (j := 0) (u := .int .i64 op) rfl
  have n1 := cell_in hi2 (j := 1) (u := .int .i64 d) rfl
  have n2 := cell_in hi2 (j := 2) (u := .int .i64 ka) rfl
  have n3 := cell_in hi2 (j := 3) (u := .int .i64 kb) rfl
  have n4 := cell_in hi2 (j := 4) (u := .int .i64 n) rfl
  have HX2 := Lib.hid hx2; have HZ2 := Lib.hid hz2; have HY2 := Lib.hid hy2; have HI2 := Lib.hid hi2
  have hbw2 : Below w.heap.size w w2 := bw_tr hbw1 (show Below w1.heap.size w1 w2 from bw_tr (below_drewN (Below.refl _ _) _) hb2)
  have hs2 : w.heap.size + 4 ≤ w2.heap.size := by omega
  clear m0 m1 m2 m3 m4 HX1 HI1 HZ1 HY1 hs1 hbw1 ca cb hx2 hi2 hz2 hy2 hb2
  generalize hnx : leadsN h.pc ⟨op, d, ka, kb, n⟩ va vb = nx at *
  have HNX := Lib.hid hnx; clear hnx
  have hop := HOP.out
  have q0 : (op == 44) = false := by simp; omega
  have q1 : (op == 40) = false := by simp; omega
  have q2 : (op == 41) = false := by simp; omega
  have q3 : (op == 42) = false := by simp; omega
  have q4 : (op == 1) = false := by simp; omega
  have q5 : (op == 2) = false := by simp; omega
  have q6 : (op == 3) = true := by simp; omega
  have g32 := cell_in HX2.out (hA_fields h h32).1
  clear hop
  go_wp2_with (refine wpList_load_row rfl 28 _ rfl (w.heap.size) rfl 28 (hA h) (0, 0) _ HX2.out Try.underlying28 rfl (infoA (hA_size h h32)) ?_)
  refine (put_any h d _ _ h32).mono ?_
  rintro e w5 ⟨rfl, hb5⟩
  have HX5 := Lib.hid (bel_in hb5 (by omega) HX2.out)
  have HZ5 := Lib.hid (bel_in hb5 (by omega) HZ2.out)
  have HY5 := Lib.hid (bel_in hb5 (by omega) HY2.out)
  have HI5 := Lib.hid (bel_in hb5 (by omega) HI2.out)
  generalize hh5 : putH h d _ = h5 at *
  have hl5 : h5.r.length = 32 := by rw [← hh5]; exact put_len h32 d _
  have HP : Hid (putX h ⟨op, d, ka, kb, n⟩ va vb = h5) := by
    have hop := HOP.out
    rw [← hh5]; unfold putX; rw [if_neg (by have hop := HOP.out; simp only; omega)]; rw [if_neg (by have hop := HOP.out; simp only; omega)]; rw [if_pos (by simp only; omega)]; exact Lib.hid (putH_wrap _ _ _ _ (by first | exact (w32_w64 _).symm | (simp only [wrap64, wrap32]; omega)))

  clear hh5
  go_upto_region 20 with (refine wpList_store_row rfl 28 _ _ rfl (w.heap.size) (hA h5) rfl rfl 28 (hA h) HX5.out (infoA (hA_size h5 hl5)) (by rw [hA_size h5 hl5, hA_size h h32]) (hA_one h5) ?_)
  obtain ⟨w6, hw6⟩ : ∃ w6 : World, w6 = w5.setRow w.heap.size (hA h5) := ⟨_, rfl⟩
  have HX6 : Hid (w6.heap[w.heap.size]? = some (.cells (hA h5) 28 (0, 0))) := by rw [hw6]; exact setRow_heap _ _ _ _ _ _ HX5.out
  have HZ6 : Hid (w6.heap[w.heap.size + 2]? = some (.cells zA 28 (0, 0))) := by rw [hw6]; exact row_ne (by omega) HZ5.out
  have HY6 : Hid (w6.heap[w.heap.size + 3]? = some (.cells effZ 34 (0, 0))) := by rw [hw6]; exact row_ne (by omega) HY5.out
  have HI6 : Hid (w6.heap[w.heap.size + 1]? = some (.cells #[.int .i64 op, .int .i64 d, .int .i64 ka, .int .i64 kb, .int .i64 n] 24 (0, 0))) := by rw [hw6]; exact row_ne (by omega) HI5.out
  have hbw6 : Below w.heap.size w w6 := by rw [hw6]; exact below_setRow (by repeat (first | (with_reducible exact Below.refl _ _) | (with_reducible refine bw_set ?_ ?_ _) | (with_reducible apply bw_alloc) | (with_reducible refine bw_tr ?_ (by with_reducible assumption)) | (with_reducible apply bw_drew) | omega)) (Nat.le_refl _) _
  have hs6 : w.heap.size + 4 ≤ w6.heap.size := by have h1 := hb5.size; have h2 := lt_in HY6.out; omega
  rw [← hw6]
  clear hw6 HX5 HZ5 HY5 HI5 HX2 HZ2 HY2 HI2 hb5 n0 n1 n2 n3 n4 hbw2 q0 q1 q2 q3 q4 q5 q6 g32
  have g32 := cell_in HX6.out (hA_fields h5 hl5).1
  have f32 := frozen_in HX6.out 32
  have HX3 := Lib.hid (set_heap HX6.out 32 (.int .i64 nx) _ (hA_pc h5 hl5 nx))
  go_upto_region 21 with (fail)
  obtain ⟨w3, hw3⟩ : ∃ w3 : World, w3 = w6.setCell ⟨w.heap.size, 32, none⟩ (.int .i64 nx) := ⟨_, rfl⟩
  have hx3 := HX3.out
  have hz3 : w3.heap[w.heap.size + 2]? = some (.cells zA 28 (0, 0)) := by rw [hw3]; exact heap_set_ne (by omega) HZ6.out
  have hy3 : w3.heap[w.heap.size + 3]? = some (.cells effZ 34 (0, 0)) := by rw [hw3]; exact heap_set_ne (by omega) HY6.out
  have hi3 : w3.heap[w.heap.size + 1]? = some (.cells #[.int .i64 op, .int .i64 d, .int .i64 ka, .int .i64 kb, .int .i64 n] 24 (0, 0)) := by rw [hw3]; exact heap_set_ne (by omega) HI6.out
  have hb3 : Below w.heap.size w w3 := by rw [hw3]; exact bw_set hbw6 (Nat.le_refl _) _
  have hs3 : w.heap.size + 4 ≤ w3.heap.size := by rw [hw3, size_set]; exact hs6
  rw [← hw3] at hx3 ⊢
  generalize hh3 : ({ h5 with pc := nx } : Ht) = h3 at *
  have HH3 := Lib.hid hh3; clear hh3
  have hl3' : h3.r.length = 32 := by rw [← HH3.out]; exact hl5
  have hsz3 := hA_size h3 hl3'
  have R0 : Hid (∀ w' : World, (∃ x : Wd w3, w' = x.val) → (loadVar 28 ⟨w.heap.size, 0, none⟩).run Try.prog w' = .ok (.agg (hA h3)) w') := by
    rintro w' ⟨x, rfl⟩
    exact run_loadVar_row _ _ 28 28 (hA h3) (0, 0) _ (bel_in x.bel (by omega) hx3) Try.underlying28 rfl (infoA hsz3)
  have r1 := fun x => wd_cell (by omega) (cell_in hi3 (j := 0) (u := .int .i64 op) rfl) x
  have r2 := fun x => wd_cell (by omega) (cell_in hi3 (j := 1) (u := .int .i64 d) rfl) x
  have r3 := fun x => wd_cell (by omega) (cell_in hi3 (j := 2) (u := .int .i64 ka) rfl) x
  have r4 := fun x => wd_cell (by omega) (cell_in hi3 (j := 3) (u := .int .i64 kb) rfl) x
  have r5 := fun x => wd_cell (by omega) (cell_in hi3 (j := 4) (u := .int .i64 n) rfl) x
  have HSZ := Lib.hid hsz3
  have HZ3 := Lib.hid hz3; have HY3 := Lib.hid hy3
  clear hw3 hx3 hz3 hy3 hi3 hsz3 HX3 HX6 HZ6 HY6 HI6 g32 f32 hbw6 hs6 
  refine wp_region_below_tail 5 (by kernel_rfl) (by kernel_rfl) ?_
  simp only [List.take_succ_cons, List.take_zero, List.drop_succ_cons, List.drop_zero]
  go_big_quiet_want
  refine quiet_load_row 28 _ (w.heap.size) (hA h3) rfl rfl R0.out ?_
  simp only [Act.put, List.setIfInBounds_toArray, List.set_cons_succ, List.set_cons_zero]
  go_big_quiet_on
  repeat (go_big_quiet_step ((go_at_call 36; exact quiet_b (effect_any ⟨op, d, ka, kb, n⟩ va vb _))))
  refine wpQuiet_nil ?_
  rintro w4 ⟨⟨w4x, hb4⟩, rfl⟩
  have HZ4 := Lib.hid (bel_in hb4 (by omega) HZ3.out)
  have HY4 := Lib.hid (row_ne (b := w.heap.size + 2) (cs := hA h3) (by omega) (bel_in hb4 (by omega) HY3.out))
  generalize hef : effX ⟨op, d, ka, kb, n⟩ va vb = ef at *
  have HEF := Lib.hid hef; clear hef
  obtain ⟨e0, e1, e2, e3, e4⟩ := ef
  unfold effV
  go_wp2_with (first | (refine wpList_store_row rfl 28 _ _ rfl (w.heap.size + 2) (hA h3) rfl rfl 28 zA HZ4.out (infoA HSZ.out) (by rw [HSZ.out]; rfl) (hA_one h3) ?_) | (refine wpList_store_row rfl 34 _ _ rfl (w.heap.size + 3) #[.int .i64 e0, .int .i64 e1, .int .i64 e2, .int .i64 e3, .int .i64 e4] rfl rfl 34 effZ HY4.out (by kernel_rfl) rfl (by kernel_rfl) ?_))
  exact bodyPost_ret (v := .tuple #[.agg (hA h3), .agg #[.int .i64 e0, .int .i64 e1, .int .i64 e2, .int .i64 e3, .int .i64 e4]]) (results_cells2 rfl _ _ (w.heap.size + 2) (w.heap.size + 3) 28 34 (hA h3) #[.int .i64 e0, .int .i64 e1, .int .i64 e2, .int .i64 e3, .int .i64 e4] (0, 0) (0, 0) _ _ rfl rfl (row_ne (by omega) (setRow_heap _ _ _ _ _ _ HZ4.out)) (setRow_heap _ _ _ _ _ _ HY4.out) Try.underlying28 rfl (infoA HSZ.out) Try.underlying34 rfl (by kernel_rfl)) rfl ⟨by unfold stepN; simp only [Int.toNat_natCast]; rw [HVA.out, HVB.out, HNX.out, HEF.out, HP.out, HH3.out]; rfl, below_setRow (below_setRow (by repeat (first | (with_reducible exact Below.refl _ _) | (with_reducible refine bw_set ?_ ?_ _) | (with_reducible apply bw_alloc) | (with_reducible refine bw_tr ?_ (by with_reducible assumption)) | (with_reducible apply bw_drew) | omega)) (by omega) _) (by omega) _⟩
set_option maxRecDepth 100000 in
set_option maxHeartbeats 8000000 in
theorem step_4 (h : Ht) (id : Int) (x : Ins) (w : World) (h32 : h.r.length = 32) (hr : rightB x = true) (hop : x.op = 4) :
    Calls Try.prog 16 #[.agg (hA h), .int .i64 id, insV x] w fun e w' => e = .returned (.tuple #[.agg (hA (stepN h x).1), effV (stepN h x).2]) ∧ Below w.heap.size w w' := by
  obtain ⟨op, d, a, b, n⟩ := x
  have ra := (right_regs hr).1
  have rb := (right_regs hr).2
  simp only at ra rb
  obtain ⟨ka, rfl, hka⟩ : ∃ k : Nat, a = k ∧ k < 32 := ⟨a.toNat, by omega, by omega⟩
  obtain ⟨kb, rfl, hkb⟩ : ∃ k : Nat, b = k ∧ k < 32 := ⟨b.toNat, by omega, by omega⟩
  clear ra rb
  simp only at hop
  have HOP := Lib.hid hop; clear hop
  obtain ⟨w0, hw0, hx, hi, hz, hy, hb0, hs0⟩ := four_new w (.cells (hA h) 28) (.cells #[.int .i64 op, .int .i64 d, .int .i64 ka, .int .i64 kb, .int .i64 n] 24) (.cells zA 28) (.cells effZ 34)
  have i0 := cell_in hi (j := 0) (u := .int .i64 op) rfl
  have i1 := cell_in hi (j := 1) (u := .int .i64 d) rfl
  have i2 := cell_in hi (j := 2) (u := .int .i64 ka) rfl
  have i3 := cell_in hi (j := 3) (u := .int .i64 kb) rfl
  have i4 := cell_in hi (j := 4) (u := .int .i64 n) rfl
  have HW := Lib.hid hw0
  have HX := Lib.hid hx; have HZ := Lib.hid hz; have HY := Lib.hid hy; have HI := Lib.hid hi
  have HR := Lib.hid hr
  clear hx hi hz hy hw0 hr
  unfold insV
  go_enter Try.func16, Try.ntmps16
  go_upto_region 1 with (fail)
  change Code.wp _ _ _ _ ((((w.alloc (.cells (hA h) 28)).alloc (.cells #[.int .i64 op, .int .i64 d, .int .i64 ka, .int .i64 kb, .int .i64 n] 24)).alloc (.cells zA 28)).alloc (.cells effZ 34))
  rw [← HW.out]
  go_wp2_with fail
  refine (right_h op d ka kb n true _ HR.out).mono ?_
  rintro e w1 ⟨rfl, hb1⟩
  have hx1 := bel_in hb1 (by omega) HX.out
  have hi1 := bel_in hb1 (by omega) HI.out
  have ca := cell_in hx1 (hA_r h h32 ka hka)
  have cb := cell_in hx1 (hA_r h h32 kb hkb)
  have m0 := cell_in hi1 (j := 0) (u := .int .i64 op) rfl
  have m1 := cell_in hi1 (j := 1) (u := .int .i64 d) rfl
  have m2 := cell_in hi1 (j := 2) (u := .int .i64 ka) rfl
  have m3 := cell_in hi1 (j := 3) (u := .int .i64 kb) rfl
  have m4 := cell_in hi1 (j := 4) (u := .int .i64 n) rfl
  have ia : (0 : Int) ≤ (ka : Int) := by omega
  have ib : (ka : Int) < 32 := by omega
  have ic : (0 : Int) ≤ (kb : Int) := by omega
  have id' : (kb : Int) < 32 := by omega
  have HX1 := Lib.hid hx1; have HI1 := Lib.hid hi1
  have HZ1 := Lib.hid (bel_in hb1 (by omega) HZ.out)
  have HY1 := Lib.hid (bel_in hb1 (by omega) HY.out)
  have hs1 : w.heap.size + 4 ≤ w1.heap.size := by have := hb1.size; omega
  have hbw1 : Below w.heap.size w w1 := (by repeat (first | (with_reducible exact Below.refl _ _) | (with_reducible refine bw_set ?_ ?_ _) | (with_reducible apply bw_alloc) | (with_reducible refine bw_tr ?_ (by with_reducible assumption)) | (with_reducible apply bw_drew) | omega))
  clear i0 i1 i2 i3 i4 hx1 hi1 HX HI HZ HY HW hb0 hs0 hb1 HR
  generalize hva : h.r.getD ka 0 = va at *
  generalize hvb : h.r.getD kb 0 = vb at *
  have HVA := Lib.hid hva; have HVB := Lib.hid hvb; clear hva hvb
  go_wp2_with fail
  go_quiet (fail)
  go_wp2_with (refine wpList_load_row rfl 28 _ rfl (w.heap.size) rfl 28 (hA h) (0, 0) _ HX1.out Try.underlying28 rfl (infoA (hA_size h h32)) ?_)
  refine (leads_any h ⟨op, d, ka, kb, n⟩ va vb _ h32).mono ?_
  rintro e w2 ⟨rfl, hb2⟩
  have hsz : w1.heap.size ≤ w2.heap.size := hb2.size
  have hx2 := bel_in hb2 (show w.heap.size < w1.heap.size by omega) HX1.out
  have hi2 := bel_in hb2 (show w.heap.size + 1 < w1.heap.size by omega) HI1.out
  have hz2 := bel_in hb2 (show w.heap.size + 2 < w1.heap.size by omega) HZ1.out
  have hy2 := bel_in hb2 (show w.heap.size + 3 < w1.heap.size by omega) HY1.out
  have n0 := cell_in hi2 (j := 0) (u := .int .i64 op) rfl
  have n1 := cell_in hi2 (j := 1) (u := .int .i64 d) rfl
  have n2 := cell_in hi2 (j := 2) (u := .int .i64 ka) rfl
  have n3 := cell_in hi2 (j := 3) (u := .int .i64 kb) rfl
  have n4 := cell_in hi2 (j := 4) (u := .int .i64 n) rfl
  have HX2 := Lib.hid hx2; have HZ2 := Lib.hid hz2; have HY2 := Lib.hid hy2; have HI2 := Lib.hid hi2
  have hbw2 : Below w.heap.size w w2 := bw_tr hbw1 (show Below w1.heap.size w1 w2 from bw_tr (below_drewN (Below.refl _ _) _) hb2)
  have hs2 : w.heap.size + 4 ≤ w2.heap.size := by omega
  clear m0 m1 m2 m3 m4 HX1 HI1 HZ1 HY1 hs1 hbw1 ca cb hx2 hi2 hz2 hy2 hb2
  generalize hnx : leadsN h.pc ⟨op, d, ka, kb, n⟩ va vb = nx at *
  have HNX := Lib.hid hnx; clear hnx
  have hop := HOP.out
  have q0 : (op == 44) = false := by simp; omega
  have q1 : (op == 40) = false := by simp; omega
  have q2 : (op == 41) = false := by simp; omega
  have q3 : (op == 42) = false := by simp; omega
  have q4 : (op == 1) = false := by simp; omega
  have q5 : (op == 2) = false := by simp; omega
  have q6 : (op == 3) = false := by simp; omega
  have q7 : (op == 4) = true := by simp; omega
  have g32 := cell_in HX2.out (hA_fields h h32).1
  clear hop
  go_wp2_with (refine wpList_load_row rfl 28 _ rfl (w.heap.size) rfl 28 (hA h) (0, 0) _ HX2.out Try.underlying28 rfl (infoA (hA_size h h32)) ?_)
  refine (put_any h d _ _ h32).mono ?_
  rintro e w5 ⟨rfl, hb5⟩
  have HX5 := Lib.hid (bel_in hb5 (by omega) HX2.out)
  have HZ5 := Lib.hid (bel_in hb5 (by omega) HZ2.out)
  have HY5 := Lib.hid (bel_in hb5 (by omega) HY2.out)
  have HI5 := Lib.hid (bel_in hb5 (by omega) HI2.out)
  generalize hh5 : putH h d _ = h5 at *
  have hl5 : h5.r.length = 32 := by rw [← hh5]; exact put_len h32 d _
  have HP : Hid (putX h ⟨op, d, ka, kb, n⟩ va vb = h5) := by
    have hop := HOP.out
    rw [← hh5]; unfold putX; rw [if_neg (by have hop := HOP.out; simp only; omega)]; rw [if_neg (by have hop := HOP.out; simp only; omega)]; rw [if_pos (by simp only; omega)]; exact Lib.hid (putH_wrap _ _ _ _ (by first | exact (w32_w64 _).symm | (simp only [wrap64, wrap32]; omega)))

  clear hh5
  go_upto_region 20 with (refine wpList_store_row rfl 28 _ _ rfl (w.heap.size) (hA h5) rfl rfl 28 (hA h) HX5.out (infoA (hA_size h5 hl5)) (by rw [hA_size h5 hl5, hA_size h h32]) (hA_one h5) ?_)
  obtain ⟨w6, hw6⟩ : ∃ w6 : World, w6 = w5.setRow w.heap.size (hA h5) := ⟨_, rfl⟩
  have HX6 : Hid (w6.heap[w.heap.size]? = some (.cells (hA h5) 28 (0, 0))) := by rw [hw6]; exact setRow_heap _ _ _ _ _ _ HX5.out
  have HZ6 : Hid (w6.heap[w.heap.size + 2]? = some (.cells zA 28 (0, 0))) := by rw [hw6]; exact row_ne (by omega) HZ5.out
  have HY6 : Hid (w6.heap[w.heap.size + 3]? = some (.cells effZ 34 (0, 0))) := by rw [hw6]; exact row_ne (by omega) HY5.out
  have HI6 : Hid (w6.heap[w.heap.size + 1]? = some (.cells #[.int .i64 op, .int .i64 d, .int .i64 ka, .int .i64 kb, .int .i64 n] 24 (0, 0))) := by rw [hw6]; exact row_ne (by omega) HI5.out
  have hbw6 : Below w.heap.size w w6 := by rw [hw6]; exact below_setRow (by repeat (first | (with_reducible exact Below.refl _ _) | (with_reducible refine bw_set ?_ ?_ _) | (with_reducible apply bw_alloc) | (with_reducible refine bw_tr ?_ (by with_reducible assumption)) | (with_reducible apply bw_drew) | omega)) (Nat.le_refl _) _
  have hs6 : w.heap.size + 4 ≤ w6.heap.size := by have h1 := hb5.size; have h2 := lt_in HY6.out; omega
  rw [← hw6]
  clear hw6 HX5 HZ5 HY5 HI5 HX2 HZ2 HY2 HI2 hb5 n0 n1 n2 n3 n4 hbw2 q0 q1 q2 q3 q4 q5 q6 q7 g32
  have g32 := cell_in HX6.out (hA_fields h5 hl5).1
  have f32 := frozen_in HX6.out 32
  have HX3 := Lib.hid (set_heap HX6.out 32 (.int .i64 nx) _ (hA_pc h5 hl5 nx))
  go_upto_region 21 with (fail)
  obtain ⟨w3, hw3⟩ : ∃ w3 : World, w3 = w6.setCell ⟨w.heap.size, 32, none⟩ (.int .i64 nx) := ⟨_, rfl⟩
  have hx3 := HX3.out
  have hz3 : w3.heap[w.heap.size + 2]? = some (.cells zA 28 (0, 0)) := by rw [hw3]; exact heap_set_ne (by omega) HZ6.out
  have hy3 : w3.heap[w.heap.size + 3]? = some (.cells effZ 34 (0, 0)) := by rw [hw3]; exact heap_set_ne (by omega) HY6.out
  have hi3 : w3.heap[w.heap.size + 1]? = some (.cells #[.int .i64 op, .int .i64 d, .int .i64 ka, .int .i64 kb, .int .i64 n] 24 (0, 0)) := by rw [hw3]; exact heap_set_ne (by omega) HI6.out
  have hb3 : Below w.heap.size w w3 := by rw [hw3]; exact bw_set hbw6 (Nat.le_refl _) _
  have hs3 : w.heap.size + 4 ≤ w3.heap.size := by rw [hw3, size_set]; exact hs6
  rw [← hw3] at hx3 ⊢
  generalize hh3 : ({ h5 with pc := nx } : Ht) = h3 at *
  have HH3 := Lib.hid hh3; clear hh3
  have hl3' : h3.r.length = 32 := by rw [← HH3.out]; exact hl5
  have hsz3 := hA_size h3 hl3'
  have R0 : Hid (∀ w' : World, (∃ x : Wd w3, w' = x.val) → (loadVar 28 ⟨w.heap.size, 0, none⟩).run Try.prog w' = .ok (.agg (hA h3)) w') := by
    rintro w' ⟨x, rfl⟩
    exact run_loadVar_row _ _ 28 28 (hA h3) (0, 0) _ (bel_in x.bel (by omega) hx3) Try.underlying28 rfl (infoA hsz3)
  have r1 := fun x => wd_cell (by omega) (cell_in hi3 (j := 0) (u := .int .i64 op) rfl) x
  have r2 := fun x => wd_cell (by omega) (cell_in hi3 (j := 1) (u := .int .i64 d) rfl) x
  have r3 := fun x => wd_cell (by omega) (cell_in hi3 (j := 2) (u := .int .i64 ka) rfl) x
  have r4 := fun x => wd_cell (by omega) (cell_in hi3 (j := 3) (u := .int .i64 kb) rfl) x
  have r5 := fun x => wd_cell (by omega) (cell_in hi3 (j := 4) (u := .int .i64 n) rfl) x
  have HSZ := Lib.hid hsz3
  have HZ3 := Lib.hid hz3; have HY3 := Lib.hid hy3
  clear hw3 hx3 hz3 hy3 hi3 hsz3 HX3 HX6 HZ6 HY6 HI6 g32 f32 hbw6 hs6 
  refine wp_region_below_tail 5 (by kernel_rfl) (by kernel_rfl) ?_
  simp only [List.take_succ_cons, List.take_zero, List.drop_succ_cons, List.drop_zero]
  go_big_quiet_want
  refine quiet_load_row 28 _ (w.heap.size) (hA h3) rfl rfl R0.out ?_
  simp only [Act.put, List.setIfInBounds_toArray, List.set_cons_succ, List.set_cons_zero]
  go_big_quiet_on
  repeat (go_big_quiet_step ((go_at_call 36; exact quiet_b (effect_any ⟨op, d, ka, kb, n⟩ va vb _))))
  refine wpQuiet_nil ?_
  rintro w4 ⟨⟨w4x, hb4⟩, rfl⟩
  have HZ4 := Lib.hid (bel_in hb4 (by omega) HZ3.out)
  have HY4 := Lib.hid (row_ne (b := w.heap.size + 2) (cs := hA h3) (by omega) (bel_in hb4 (by omega) HY3.out))
  generalize hef : effX ⟨op, d, ka, kb, n⟩ va vb = ef at *
  have HEF := Lib.hid hef; clear hef
  obtain ⟨e0, e1, e2, e3, e4⟩ := ef
  unfold effV
  go_wp2_with (first | (refine wpList_store_row rfl 28 _ _ rfl (w.heap.size + 2) (hA h3) rfl rfl 28 zA HZ4.out (infoA HSZ.out) (by rw [HSZ.out]; rfl) (hA_one h3) ?_) | (refine wpList_store_row rfl 34 _ _ rfl (w.heap.size + 3) #[.int .i64 e0, .int .i64 e1, .int .i64 e2, .int .i64 e3, .int .i64 e4] rfl rfl 34 effZ HY4.out (by kernel_rfl) rfl (by kernel_rfl) ?_))
  exact bodyPost_ret (v := .tuple #[.agg (hA h3), .agg #[.int .i64 e0, .int .i64 e1, .int .i64 e2, .int .i64 e3, .int .i64 e4]]) (results_cells2 rfl _ _ (w.heap.size + 2) (w.heap.size + 3) 28 34 (hA h3) #[.int .i64 e0, .int .i64 e1, .int .i64 e2, .int .i64 e3, .int .i64 e4] (0, 0) (0, 0) _ _ rfl rfl (row_ne (by omega) (setRow_heap _ _ _ _ _ _ HZ4.out)) (setRow_heap _ _ _ _ _ _ HY4.out) Try.underlying28 rfl (infoA HSZ.out) Try.underlying34 rfl (by kernel_rfl)) rfl ⟨by unfold stepN; simp only [Int.toNat_natCast]; rw [HVA.out, HVB.out, HNX.out, HEF.out, HP.out, HH3.out]; rfl, below_setRow (below_setRow (by repeat (first | (with_reducible exact Below.refl _ _) | (with_reducible refine bw_set ?_ ?_ _) | (with_reducible apply bw_alloc) | (with_reducible refine bw_tr ?_ (by with_reducible assumption)) | (with_reducible apply bw_drew) | omega)) (by omega) _) (by omega) _⟩
set_option maxRecDepth 100000 in
set_option maxHeartbeats 8000000 in
theorem step_imm (h : Ht) (id : Int) (x : Ins) (w : World) (h32 : h.r.length = 32) (hr : rightB x = true) (hop : 13 ≤ x.op ∧ x.op ≤ 21) :
    Calls Try.prog 16 #[.agg (hA h), .int .i64 id, insV x] w fun e w' => e = .returned (.tuple #[.agg (hA (stepN h x).1), effV (stepN h x).2]) ∧ Below w.heap.size w w' := by
  obtain ⟨op, d, a, b, n⟩ := x
  have ra := (right_regs hr).1
  have rb := (right_regs hr).2
  simp only at ra rb
  obtain ⟨ka, rfl, hka⟩ : ∃ k : Nat, a = k ∧ k < 32 := ⟨a.toNat, by omega, by omega⟩
  obtain ⟨kb, rfl, hkb⟩ : ∃ k : Nat, b = k ∧ k < 32 := ⟨b.toNat, by omega, by omega⟩
  clear ra rb
  simp only at hop
  have HOP := Lib.hid hop; clear hop
  obtain ⟨w0, hw0, hx, hi, hz, hy, hb0, hs0⟩ := four_new w (.cells (hA h) 28) (.cells #[.int .i64 op, .int .i64 d, .int .i64 ka, .int .i64 kb, .int .i64 n] 24) (.cells zA 28) (.cells effZ 34)
  have i0 := cell_in hi (j := 0) (u := .int .i64 op) rfl
  have i1 := cell_in hi (j := 1) (u := .int .i64 d) rfl
  have i2 := cell_in hi (j := 2) (u := .int .i64 ka) rfl
  have i3 := cell_in hi (j := 3) (u := .int .i64 kb) rfl
  have i4 := cell_in hi (j := 4) (u := .int .i64 n) rfl
  have HW := Lib.hid hw0
  have HX := Lib.hid hx; have HZ := Lib.hid hz; have HY := Lib.hid hy; have HI := Lib.hid hi
  have HR := Lib.hid hr
  clear hx hi hz hy hw0 hr
  unfold insV
  go_enter Try.func16, Try.ntmps16
  go_upto_region 1 with (fail)
  change Code.wp _ _ _ _ ((((w.alloc (.cells (hA h) 28)).alloc (.cells #[.int .i64 op, .int .i64 d, .int .i64 ka, .int .i64 kb, .int .i64 n] 24)).alloc (.cells zA 28)).alloc (.cells effZ 34))
  rw [← HW.out]
  go_wp2_with fail
  refine (right_h op d ka kb n true _ HR.out).mono ?_
  rintro e w1 ⟨rfl, hb1⟩
  have hx1 := bel_in hb1 (by omega) HX.out
  have hi1 := bel_in hb1 (by omega) HI.out
  have ca := cell_in hx1 (hA_r h h32 ka hka)
  have cb := cell_in hx1 (hA_r h h32 kb hkb)
  have m0 := cell_in hi1 (j := 0) (u := .int .i64 op) rfl
  have m1 := cell_in hi1 (j := 1) (u := .int .i64 d) rfl
  have m2 := cell_in hi1 (j := 2) (u := .int .i64 ka) rfl
  have m3 := cell_in hi1 (j := 3) (u := .int .i64 kb) rfl
  have m4 := cell_in hi1 (j := 4) (u := .int .i64 n) rfl
  have ia : (0 : Int) ≤ (ka : Int) := by omega
  have ib : (ka : Int) < 32 := by omega
  have ic : (0 : Int) ≤ (kb : Int) := by omega
  have id' : (kb : Int) < 32 := by omega
  have HX1 := Lib.hid hx1; have HI1 := Lib.hid hi1
  have HZ1 := Lib.hid (bel_in hb1 (by omega) HZ.out)
  have HY1 := Lib.hid (bel_in hb1 (by omega) HY.out)
  have hs1 : w.heap.size + 4 ≤ w1.heap.size := by have := hb1.size; omega
  have hbw1 : Below w.heap.size w w1 := (by repeat (first | (with_reducible exact Below.refl _ _) | (with_reducible refine bw_set ?_ ?_ _) | (with_reducible apply bw_alloc) | (with_reducible refine bw_tr ?_ (by with_reducible assumption)) | (with_reducible apply bw_drew) | omega))
  clear i0 i1 i2 i3 i4 hx1 hi1 HX HI HZ HY HW hb0 hs0 hb1 HR
  generalize hva : h.r.getD ka 0 = va at *
  generalize hvb : h.r.getD kb 0 = vb at *
  have HVA := Lib.hid hva; have HVB := Lib.hid hvb; clear hva hvb
  go_wp2_with fail
  go_quiet (fail)
  go_wp2_with (refine wpList_load_row rfl 28 _ rfl (w.heap.size) rfl 28 (hA h) (0, 0) _ HX1.out Try.underlying28 rfl (infoA (hA_size h h32)) ?_)
  refine (leads_any h ⟨op, d, ka, kb, n⟩ va vb _ h32).mono ?_
  rintro e w2 ⟨rfl, hb2⟩
  have hsz : w1.heap.size ≤ w2.heap.size := hb2.size
  have hx2 := bel_in hb2 (show w.heap.size < w1.heap.size by omega) HX1.out
  have hi2 := bel_in hb2 (show w.heap.size + 1 < w1.heap.size by omega) HI1.out
  have hz2 := bel_in hb2 (show w.heap.size + 2 < w1.heap.size by omega) HZ1.out
  have hy2 := bel_in hb2 (show w.heap.size + 3 < w1.heap.size by omega) HY1.out
  have n0 := cell_in hi2 (j := 0) (u := .int .i64 op) rfl
  have n1 := cell_in hi2 (j := 1) (u := .int .i64 d) rfl
  have n2 := cell_in hi2 (j := 2) (u := .int .i64 ka) rfl
  have n3 := cell_in hi2 (j := 3) (u := .int .i64 kb) rfl
  have n4 := cell_in hi2 (j := 4) (u := .int .i64 n) rfl
  have HX2 := Lib.hid hx2; have HZ2 := Lib.hid hz2; have HY2 := Lib.hid hy2; have HI2 := Lib.hid hi2
  have hbw2 : Below w.heap.size w w2 := bw_tr hbw1 (show Below w1.heap.size w1 w2 from bw_tr (below_drewN (Below.refl _ _) _) hb2)
  have hs2 : w.heap.size + 4 ≤ w2.heap.size := by omega
  clear m0 m1 m2 m3 m4 HX1 HI1 HZ1 HY1 hs1 hbw1 ca cb hx2 hi2 hz2 hy2 hb2
  generalize hnx : leadsN h.pc ⟨op, d, ka, kb, n⟩ va vb = nx at *
  have HNX := Lib.hid hnx; clear hnx
  have hop := HOP.out
  have q0 : (op == 44) = false := by simp; omega
  have q1 : (op == 40) = false := by simp; omega
  have q2 : (op == 41) = false := by simp; omega
  have q3 : (op == 42) = false := by simp; omega
  have q4 : (op == 1) = false := by simp; omega
  have q5 : (op == 2) = false := by simp; omega
  have q6 : (op == 3) = false := by simp; omega
  have q7 : (op == 4) = false := by simp; omega
  have q8 : decide (13 ≤ op) = true := by simp; omega
  have q9 : decide (op ≤ 21) = true := by simp; omega
  clear hop
  have R2 : Hid (∀ w' : World, (∃ x : Wd w2, w' = x.val) → (loadVar 28 ⟨w.heap.size, 0, none⟩).run Try.prog w' = .ok (.agg (hA h)) w') := by
    rintro w' ⟨x, rfl⟩
    exact run_loadVar_row _ _ 28 28 (hA h) (0, 0) _ (bel_in x.bel (by omega) HX2.out) Try.underlying28 rfl (infoA (hA_size h h32))
  go_wp2_with fail
  have r1 := fun x => wd_cell (by omega) n0 x
  have r2 := fun x => wd_cell (by omega) n1 x
  have r5 := fun x => wd_cell (by omega) n4 x
  clear n0 n1 n2 n3 n4
  refine wp_region_below_tail 9 (by kernel_rfl) (by kernel_rfl) ?_
  simp only [List.take_succ_cons, List.take_zero, List.drop_succ_cons, List.drop_zero]
  go_big_quiet_want
  refine quiet_load_row 28 _ (w.heap.size) (hA h) rfl rfl R2.out ?_
  simp only [Act.put, List.setIfInBounds_toArray, List.set_cons_succ, List.set_cons_zero]
  go_big_quiet_on
  have HM := Lib.hid (fun w' => makes_any op va n w' (by have := HOP.out; omega))
  repeat (go_big_quiet_step ((first | (go_at_call 35; with_reducible exact quiet_b (HM.out _)) | (go_at_call 18; with_reducible exact quiet_b (put_any h d _ _ h32)))))
  refine wpQuiet_nil ?_
  clear r1 r2 r5 R2 HM
  rintro w5 ⟨⟨w5x, hb5⟩, rfl⟩
  have HX5 := Lib.hid (bel_in hb5 (by omega) HX2.out)
  have HZ5 := Lib.hid (bel_in hb5 (by omega) HZ2.out)
  have HY5 := Lib.hid (bel_in hb5 (by omega) HY2.out)
  have HI5 := Lib.hid (bel_in hb5 (by omega) HI2.out)
  generalize hh5 : putH h d _ = h5 at *
  have hl5 : h5.r.length = 32 := by rw [← hh5]; exact put_len h32 d _
  have HP : Hid (putX h ⟨op, d, ka, kb, n⟩ va vb = h5) := by
    rw [← hh5]; unfold putX; rw [if_neg (by have hop := HOP.out; simp only; omega)]; rw [if_neg (by have hop := HOP.out; simp only; omega)]; rw [if_neg (by have hop := HOP.out; simp only; omega)]; rw [if_pos HOP.out]; trivial

  clear hh5
  go_upto_region 20 with (refine wpList_store_row rfl 28 _ _ rfl (w.heap.size) (hA h5) rfl rfl 28 (hA h) HX5.out (infoA (hA_size h5 hl5)) (by rw [hA_size h5 hl5, hA_size h h32]) (hA_one h5) ?_)
  obtain ⟨w6, hw6⟩ : ∃ w6 : World, w6 = w5.setRow w.heap.size (hA h5) := ⟨_, rfl⟩
  have HX6 : Hid (w6.heap[w.heap.size]? = some (.cells (hA h5) 28 (0, 0))) := by rw [hw6]; exact setRow_heap _ _ _ _ _ _ HX5.out
  have HZ6 : Hid (w6.heap[w.heap.size + 2]? = some (.cells zA 28 (0, 0))) := by rw [hw6]; exact row_ne (by omega) HZ5.out
  have HY6 : Hid (w6.heap[w.heap.size + 3]? = some (.cells effZ 34 (0, 0))) := by rw [hw6]; exact row_ne (by omega) HY5.out
  have HI6 : Hid (w6.heap[w.heap.size + 1]? = some (.cells #[.int .i64 op, .int .i64 d, .int .i64 ka, .int .i64 kb, .int .i64 n] 24 (0, 0))) := by rw [hw6]; exact row_ne (by omega) HI5.out
  have hbw6 : Below w.heap.size w w6 := by rw [hw6]; exact below_setRow (by repeat (first | (with_reducible exact Below.refl _ _) | (with_reducible refine bw_set ?_ ?_ _) | (with_reducible apply bw_alloc) | (with_reducible refine bw_tr ?_ (by with_reducible assumption)) | (with_reducible apply bw_drew) | omega)) (Nat.le_refl _) _
  have hs6 : w.heap.size + 4 ≤ w6.heap.size := by have h1 := hb5.size; have h2 := lt_in HY6.out; omega
  rw [← hw6]
  clear hw6 HX5 HZ5 HY5 HI5 HX2 HZ2 HY2 HI2 hb5 hbw2 q0 q1 q2 q3 q4 q5 q6 q7 q8 q9 
  have g32 := cell_in HX6.out (hA_fields h5 hl5).1
  have f32 := frozen_in HX6.out 32
  have HX3 := Lib.hid (set_heap HX6.out 32 (.int .i64 nx) _ (hA_pc h5 hl5 nx))
  go_upto_region 21 with (fail)
  obtain ⟨w3, hw3⟩ : ∃ w3 : World, w3 = w6.setCell ⟨w.heap.size, 32, none⟩ (.int .i64 nx) := ⟨_, rfl⟩
  have hx3 := HX3.out
  have hz3 : w3.heap[w.heap.size + 2]? = some (.cells zA 28 (0, 0)) := by rw [hw3]; exact heap_set_ne (by omega) HZ6.out
  have hy3 : w3.heap[w.heap.size + 3]? = some (.cells effZ 34 (0, 0)) := by rw [hw3]; exact heap_set_ne (by omega) HY6.out
  have hi3 : w3.heap[w.heap.size + 1]? = some (.cells #[.int .i64 op, .int .i64 d, .int .i64 ka, .int .i64 kb, .int .i64 n] 24 (0, 0)) := by rw [hw3]; exact heap_set_ne (by omega) HI6.out
  have hb3 : Below w.heap.size w w3 := by rw [hw3]; exact bw_set hbw6 (Nat.le_refl _) _
  have hs3 : w.heap.size + 4 ≤ w3.heap.size := by rw [hw3, size_set]; exact hs6
  rw [← hw3] at hx3 ⊢
  generalize hh3 : ({ h5 with pc := nx } : Ht) = h3 at *
  have HH3 := Lib.hid hh3; clear hh3
  have hl3' : h3.r.length = 32 := by rw [← HH3.out]; exact hl5
  have hsz3 := hA_size h3 hl3'
  have R0 : Hid (∀ w' : World, (∃ x : Wd w3, w' = x.val) → (loadVar 28 ⟨w.heap.size, 0, none⟩).run Try.prog w' = .ok (.agg (hA h3)) w') := by
    rintro w' ⟨x, rfl⟩
    exact run_loadVar_row _ _ 28 28 (hA h3) (0, 0) _ (bel_in x.bel (by omega) hx3) Try.underlying28 rfl (infoA hsz3)
  have r1 := fun x => wd_cell (by omega) (cell_in hi3 (j := 0) (u := .int .i64 op) rfl) x
  have r2 := fun x => wd_cell (by omega) (cell_in hi3 (j := 1) (u := .int .i64 d) rfl) x
  have r3 := fun x => wd_cell (by omega) (cell_in hi3 (j := 2) (u := .int .i64 ka) rfl) x
  have r4 := fun x => wd_cell (by omega) (cell_in hi3 (j := 3) (u := .int .i64 kb) rfl) x
  have r5 := fun x => wd_cell (by omega) (cell_in hi3 (j := 4) (u := .int .i64 n) rfl) x
  have HSZ := Lib.hid hsz3
  have HZ3 := Lib.hid hz3; have HY3 := Lib.hid hy3
  clear hw3 hx3 hz3 hy3 hi3 hsz3 HX3 HX6 HZ6 HY6 HI6 g32 f32 hbw6 hs6 
  refine wp_region_below_tail 5 (by kernel_rfl) (by kernel_rfl) ?_
  simp only [List.take_succ_cons, List.take_zero, List.drop_succ_cons, List.drop_zero]
  go_big_quiet_want
  refine quiet_load_row 28 _ (w.heap.size) (hA h3) rfl rfl R0.out ?_
  simp only [Act.put, List.setIfInBounds_toArray, List.set_cons_succ, List.set_cons_zero]
  go_big_quiet_on
  repeat (go_big_quiet_step ((go_at_call 36; exact quiet_b (effect_any ⟨op, d, ka, kb, n⟩ va vb _))))
  refine wpQuiet_nil ?_
  rintro w4 ⟨⟨w4x, hb4⟩, rfl⟩
  have HZ4 := Lib.hid (bel_in hb4 (by omega) HZ3.out)
  have HY4 := Lib.hid (row_ne (b := w.heap.size + 2) (cs := hA h3) (by omega) (bel_in hb4 (by omega) HY3.out))
  generalize hef : effX ⟨op, d, ka, kb, n⟩ va vb = ef at *
  have HEF := Lib.hid hef; clear hef
  obtain ⟨e0, e1, e2, e3, e4⟩ := ef
  unfold effV
  go_wp2_with (first | (refine wpList_store_row rfl 28 _ _ rfl (w.heap.size + 2) (hA h3) rfl rfl 28 zA HZ4.out (infoA HSZ.out) (by rw [HSZ.out]; rfl) (hA_one h3) ?_) | (refine wpList_store_row rfl 34 _ _ rfl (w.heap.size + 3) #[.int .i64 e0, .int .i64 e1, .int .i64 e2, .int .i64 e3, .int .i64 e4] rfl rfl 34 effZ HY4.out (by kernel_rfl) rfl (by kernel_rfl) ?_))
  exact bodyPost_ret (v := .tuple #[.agg (hA h3), .agg #[.int .i64 e0, .int .i64 e1, .int .i64 e2, .int .i64 e3, .int .i64 e4]]) (results_cells2 rfl _ _ (w.heap.size + 2) (w.heap.size + 3) 28 34 (hA h3) #[.int .i64 e0, .int .i64 e1, .int .i64 e2, .int .i64 e3, .int .i64 e4] (0, 0) (0, 0) _ _ rfl rfl (row_ne (by omega) (setRow_heap _ _ _ _ _ _ HZ4.out)) (setRow_heap _ _ _ _ _ _ HY4.out) Try.underlying28 rfl (infoA HSZ.out) Try.underlying34 rfl (by kernel_rfl)) rfl ⟨by unfold stepN; simp only [Int.toNat_natCast]; rw [HVA.out, HVB.out, HNX.out, HEF.out, HP.out, HH3.out]; rfl, below_setRow (below_setRow (by repeat (first | (with_reducible exact Below.refl _ _) | (with_reducible refine bw_set ?_ ?_ _) | (with_reducible apply bw_alloc) | (with_reducible refine bw_tr ?_ (by with_reducible assumption)) | (with_reducible apply bw_drew) | omega)) (by omega) _) (by omega) _⟩
set_option maxRecDepth 100000 in
set_option maxHeartbeats 8000000 in
theorem step_reg (h : Ht) (id : Int) (x : Ins) (w : World) (h32 : h.r.length = 32) (hr : rightB x = true) (hop : 22 ≤ x.op ∧ x.op ≤ 38) :
    Calls Try.prog 16 #[.agg (hA h), .int .i64 id, insV x] w fun e w' => e = .returned (.tuple #[.agg (hA (stepN h x).1), effV (stepN h x).2]) ∧ Below w.heap.size w w' := by
  obtain ⟨op, d, a, b, n⟩ := x
  have ra := (right_regs hr).1
  have rb := (right_regs hr).2
  simp only at ra rb
  obtain ⟨ka, rfl, hka⟩ : ∃ k : Nat, a = k ∧ k < 32 := ⟨a.toNat, by omega, by omega⟩
  obtain ⟨kb, rfl, hkb⟩ : ∃ k : Nat, b = k ∧ k < 32 := ⟨b.toNat, by omega, by omega⟩
  clear ra rb
  simp only at hop
  have HOP := Lib.hid hop; clear hop
  obtain ⟨w0, hw0, hx, hi, hz, hy, hb0, hs0⟩ := four_new w (.cells (hA h) 28) (.cells #[.int .i64 op, .int .i64 d, .int .i64 ka, .int .i64 kb, .int .i64 n] 24) (.cells zA 28) (.cells effZ 34)
  have i0 := cell_in hi (j := 0) (u := .int .i64 op) rfl
  have i1 := cell_in hi (j := 1) (u := .int .i64 d) rfl
  have i2 := cell_in hi (j := 2) (u := .int .i64 ka) rfl
  have i3 := cell_in hi (j := 3) (u := .int .i64 kb) rfl
  have i4 := cell_in hi (j := 4) (u := .int .i64 n) rfl
  have HW := Lib.hid hw0
  have HX := Lib.hid hx; have HZ := Lib.hid hz; have HY := Lib.hid hy; have HI := Lib.hid hi
  have HR := Lib.hid hr
  clear hx hi hz hy hw0 hr
  unfold insV
  go_enter Try.func16, Try.ntmps16
  go_upto_region 1 with (fail)
  change Code.wp _ _ _ _ ((((w.alloc (.cells (hA h) 28)).alloc (.cells #[.int .i64 op, .int .i64 d, .int .i64 ka, .int .i64 kb, .int .i64 n] 24)).alloc (.cells zA 28)).alloc (.cells effZ 34))
  rw [← HW.out]
  go_wp2_with fail
  refine (right_h op d ka kb n true _ HR.out).mono ?_
  rintro e w1 ⟨rfl, hb1⟩
  have hx1 := bel_in hb1 (by omega) HX.out
  have hi1 := bel_in hb1 (by omega) HI.out
  have ca := cell_in hx1 (hA_r h h32 ka hka)
  have cb := cell_in hx1 (hA_r h h32 kb hkb)
  have m0 := cell_in hi1 (j := 0) (u := .int .i64 op) rfl
  have m1 := cell_in hi1 (j := 1) (u := .int .i64 d) rfl
  have m2 := cell_in hi1 (j := 2) (u := .int .i64 ka) rfl
  have m3 := cell_in hi1 (j := 3) (u := .int .i64 kb) rfl
  have m4 := cell_in hi1 (j := 4) (u := .int .i64 n) rfl
  have ia : (0 : Int) ≤ (ka : Int) := by omega
  have ib : (ka : Int) < 32 := by omega
  have ic : (0 : Int) ≤ (kb : Int) := by omega
  have id' : (kb : Int) < 32 := by omega
  have HX1 := Lib.hid hx1; have HI1 := Lib.hid hi1
  have HZ1 := Lib.hid (bel_in hb1 (by omega) HZ.out)
  have HY1 := Lib.hid (bel_in hb1 (by omega) HY.out)
  have hs1 : w.heap.size + 4 ≤ w1.heap.size := by have := hb1.size; omega
  have hbw1 : Below w.heap.size w w1 := (by repeat (first | (with_reducible exact Below.refl _ _) | (with_reducible refine bw_set ?_ ?_ _) | (with_reducible apply bw_alloc) | (with_reducible refine bw_tr ?_ (by with_reducible assumption)) | (with_reducible apply bw_drew) | omega))
  clear i0 i1 i2 i3 i4 hx1 hi1 HX HI HZ HY HW hb0 hs0 hb1 HR
  generalize hva : h.r.getD ka 0 = va at *
  generalize hvb : h.r.getD kb 0 = vb at *
  have HVA := Lib.hid hva; have HVB := Lib.hid hvb; clear hva hvb
  go_wp2_with fail
  go_quiet (fail)
  go_wp2_with (refine wpList_load_row rfl 28 _ rfl (w.heap.size) rfl 28 (hA h) (0, 0) _ HX1.out Try.underlying28 rfl (infoA (hA_size h h32)) ?_)
  refine (leads_any h ⟨op, d, ka, kb, n⟩ va vb _ h32).mono ?_
  rintro e w2 ⟨rfl, hb2⟩
  have hsz : w1.heap.size ≤ w2.heap.size := hb2.size
  have hx2 := bel_in hb2 (show w.heap.size < w1.heap.size by omega) HX1.out
  have hi2 := bel_in hb2 (show w.heap.size + 1 < w1.heap.size by omega) HI1.out
  have hz2 := bel_in hb2 (show w.heap.size + 2 < w1.heap.size by omega) HZ1.out
  have hy2 := bel_in hb2 (show w.heap.size + 3 < w1.heap.size by omega) HY1.out
  have n0 := cell_in hi2 (j := 0) (u := .int .i64 op) rfl
  have n1 := cell_in hi2 (j := 1) (u := .int .i64 d) rfl
  have n2 := cell_in hi2 (j := 2) (u := .int .i64 ka) rfl
  have n3 := cell_in hi2 (j := 3) (u := .int .i64 kb) rfl
  have n4 := cell_in hi2 (j := 4) (u := .int .i64 n) rfl
  have HX2 := Lib.hid hx2; have HZ2 := Lib.hid hz2; have HY2 := Lib.hid hy2; have HI2 := Lib.hid hi2
  have hbw2 : Below w.heap.size w w2 := bw_tr hbw1 (show Below w1.heap.size w1 w2 from bw_tr (below_drewN (Below.refl _ _) _) hb2)
  have hs2 : w.heap.size + 4 ≤ w2.heap.size := by omega
  clear m0 m1 m2 m3 m4 HX1 HI1 HZ1 HY1 hs1 hbw1 ca cb hx2 hi2 hz2 hy2 hb2
  generalize hnx : leadsN h.pc ⟨op, d, ka, kb, n⟩ va vb = nx at *
  have HNX := Lib.hid hnx; clear hnx
  have hop := HOP.out
  have q0 : (op == 44) = false := by simp; omega
  have q1 : (op == 40) = false := by simp; omega
  have q2 : (op == 41) = false := by simp; omega
  have q3 : (op == 42) = false := by simp; omega
  have q4 : (op == 1) = false := by simp; omega
  have q5 : (op == 2) = false := by simp; omega
  have q6 : (op == 3) = false := by simp; omega
  have q7 : (op == 4) = false := by simp; omega
  have q8 : decide (13 ≤ op) = true := by simp; omega
  have q9 : decide (op ≤ 21) = false := by simp; omega
  have q10 : decide (22 ≤ op) = true := by simp; omega
  have q11 : decide (op ≤ 38) = true := by simp; omega
  clear hop
  have R2 : Hid (∀ w' : World, (∃ x : Wd w2, w' = x.val) → (loadVar 28 ⟨w.heap.size, 0, none⟩).run Try.prog w' = .ok (.agg (hA h)) w') := by
    rintro w' ⟨x, rfl⟩
    exact run_loadVar_row _ _ 28 28 (hA h) (0, 0) _ (bel_in x.bel (by omega) HX2.out) Try.underlying28 rfl (infoA (hA_size h h32))
  go_wp2_with fail
  have r1 := fun x => wd_cell (by omega) n0 x
  have r2 := fun x => wd_cell (by omega) n1 x
  have r5 := fun x => wd_cell (by omega) n4 x
  clear n0 n1 n2 n3 n4
  refine wp_region_below_tail 8 (by kernel_rfl) (by kernel_rfl) ?_
  simp only [List.take_succ_cons, List.take_zero, List.drop_succ_cons, List.drop_zero]
  go_big_quiet_want
  refine quiet_load_row 28 _ (w.heap.size) (hA h) rfl rfl R2.out ?_
  simp only [Act.put, List.setIfInBounds_toArray, List.set_cons_succ, List.set_cons_zero]
  go_big_quiet_on
  have HM := Lib.hid (fun w' => makes_any op va vb w' (by have := HOP.out; omega))
  repeat (go_big_quiet_step ((first | (go_at_call 35; with_reducible exact quiet_b (HM.out _)) | (go_at_call 18; with_reducible exact quiet_b (put_any h d _ _ h32)))))
  refine wpQuiet_nil ?_
  clear r1 r2 r5 R2 HM
  rintro w5 ⟨⟨w5x, hb5⟩, rfl⟩
  have HX5 := Lib.hid (bel_in hb5 (by omega) HX2.out)
  have HZ5 := Lib.hid (bel_in hb5 (by omega) HZ2.out)
  have HY5 := Lib.hid (bel_in hb5 (by omega) HY2.out)
  have HI5 := Lib.hid (bel_in hb5 (by omega) HI2.out)
  generalize hh5 : putH h d _ = h5 at *
  have hl5 : h5.r.length = 32 := by rw [← hh5]; exact put_len h32 d _
  have HP : Hid (putX h ⟨op, d, ka, kb, n⟩ va vb = h5) := by
    rw [← hh5]; unfold putX; rw [if_neg (by have hop := HOP.out; simp only; omega)]; rw [if_neg (by have hop := HOP.out; simp only; omega)]; rw [if_neg (by have hop := HOP.out; simp only; omega)]; rw [if_neg (by have hop := HOP.out; simp only; omega)]; rw [if_pos HOP.out]; trivial

  clear hh5
  go_upto_region 20 with (refine wpList_store_row rfl 28 _ _ rfl (w.heap.size) (hA h5) rfl rfl 28 (hA h) HX5.out (infoA (hA_size h5 hl5)) (by rw [hA_size h5 hl5, hA_size h h32]) (hA_one h5) ?_)
  obtain ⟨w6, hw6⟩ : ∃ w6 : World, w6 = w5.setRow w.heap.size (hA h5) := ⟨_, rfl⟩
  have HX6 : Hid (w6.heap[w.heap.size]? = some (.cells (hA h5) 28 (0, 0))) := by rw [hw6]; exact setRow_heap _ _ _ _ _ _ HX5.out
  have HZ6 : Hid (w6.heap[w.heap.size + 2]? = some (.cells zA 28 (0, 0))) := by rw [hw6]; exact row_ne (by omega) HZ5.out
  have HY6 : Hid (w6.heap[w.heap.size + 3]? = some (.cells effZ 34 (0, 0))) := by rw [hw6]; exact row_ne (by omega) HY5.out
  have HI6 : Hid (w6.heap[w.heap.size + 1]? = some (.cells #[.int .i64 op, .int .i64 d, .int .i64 ka, .int .i64 kb, .int .i64 n] 24 (0, 0))) := by rw [hw6]; exact row_ne (by omega) HI5.out
  have hbw6 : Below w.heap.size w w6 := by rw [hw6]; exact below_setRow (by repeat (first | (with_reducible exact Below.refl _ _) | (with_reducible refine bw_set ?_ ?_ _) | (with_reducible apply bw_alloc) | (with_reducible refine bw_tr ?_ (by with_reducible assumption)) | (with_reducible apply bw_drew) | omega)) (Nat.le_refl _) _
  have hs6 : w.heap.size + 4 ≤ w6.heap.size := by have h1 := hb5.size; have h2 := lt_in HY6.out; omega
  rw [← hw6]
  clear hw6 HX5 HZ5 HY5 HI5 HX2 HZ2 HY2 HI2 hb5 hbw2 q0 q1 q2 q3 q4 q5 q6 q7 q8 q9 q10 q11 
  have g32 := cell_in HX6.out (hA_fields h5 hl5).1
  have f32 := frozen_in HX6.out 32
  have HX3 := Lib.hid (set_heap HX6.out 32 (.int .i64 nx) _ (hA_pc h5 hl5 nx))
  go_upto_region 21 with (fail)
  obtain ⟨w3, hw3⟩ : ∃ w3 : World, w3 = w6.setCell ⟨w.heap.size, 32, none⟩ (.int .i64 nx) := ⟨_, rfl⟩
  have hx3 := HX3.out
  have hz3 : w3.heap[w.heap.size + 2]? = some (.cells zA 28 (0, 0)) := by rw [hw3]; exact heap_set_ne (by omega) HZ6.out
  have hy3 : w3.heap[w.heap.size + 3]? = some (.cells effZ 34 (0, 0)) := by rw [hw3]; exact heap_set_ne (by omega) HY6.out
  have hi3 : w3.heap[w.heap.size + 1]? = some (.cells #[.int .i64 op, .int .i64 d, .int .i64 ka, .int .i64 kb, .int .i64 n] 24 (0, 0)) := by rw [hw3]; exact heap_set_ne (by omega) HI6.out
  have hb3 : Below w.heap.size w w3 := by rw [hw3]; exact bw_set hbw6 (Nat.le_refl _) _
  have hs3 : w.heap.size + 4 ≤ w3.heap.size := by rw [hw3, size_set]; exact hs6
  rw [← hw3] at hx3 ⊢
  generalize hh3 : ({ h5 with pc := nx } : Ht) = h3 at *
  have HH3 := Lib.hid hh3; clear hh3
  have hl3' : h3.r.length = 32 := by rw [← HH3.out]; exact hl5
  have hsz3 := hA_size h3 hl3'
  have R0 : Hid (∀ w' : World, (∃ x : Wd w3, w' = x.val) → (loadVar 28 ⟨w.heap.size, 0, none⟩).run Try.prog w' = .ok (.agg (hA h3)) w') := by
    rintro w' ⟨x, rfl⟩
    exact run_loadVar_row _ _ 28 28 (hA h3) (0, 0) _ (bel_in x.bel (by omega) hx3) Try.underlying28 rfl (infoA hsz3)
  have r1 := fun x => wd_cell (by omega) (cell_in hi3 (j := 0) (u := .int .i64 op) rfl) x
  have r2 := fun x => wd_cell (by omega) (cell_in hi3 (j := 1) (u := .int .i64 d) rfl) x
  have r3 := fun x => wd_cell (by omega) (cell_in hi3 (j := 2) (u := .int .i64 ka) rfl) x
  have r4 := fun x => wd_cell (by omega) (cell_in hi3 (j := 3) (u := .int .i64 kb) rfl) x
  have r5 := fun x => wd_cell (by omega) (cell_in hi3 (j := 4) (u := .int .i64 n) rfl) x
  have HSZ := Lib.hid hsz3
  have HZ3 := Lib.hid hz3; have HY3 := Lib.hid hy3
  clear hw3 hx3 hz3 hy3 hi3 hsz3 HX3 HX6 HZ6 HY6 HI6 g32 f32 hbw6 hs6 
  refine wp_region_below_tail 5 (by kernel_rfl) (by kernel_rfl) ?_
  simp only [List.take_succ_cons, List.take_zero, List.drop_succ_cons, List.drop_zero]
  go_big_quiet_want
  refine quiet_load_row 28 _ (w.heap.size) (hA h3) rfl rfl R0.out ?_
  simp only [Act.put, List.setIfInBounds_toArray, List.set_cons_succ, List.set_cons_zero]
  go_big_quiet_on
  repeat (go_big_quiet_step ((go_at_call 36; exact quiet_b (effect_any ⟨op, d, ka, kb, n⟩ va vb _))))
  refine wpQuiet_nil ?_
  rintro w4 ⟨⟨w4x, hb4⟩, rfl⟩
  have HZ4 := Lib.hid (bel_in hb4 (by omega) HZ3.out)
  have HY4 := Lib.hid (row_ne (b := w.heap.size + 2) (cs := hA h3) (by omega) (bel_in hb4 (by omega) HY3.out))
  generalize hef : effX ⟨op, d, ka, kb, n⟩ va vb = ef at *
  have HEF := Lib.hid hef; clear hef
  obtain ⟨e0, e1, e2, e3, e4⟩ := ef
  unfold effV
  go_wp2_with (first | (refine wpList_store_row rfl 28 _ _ rfl (w.heap.size + 2) (hA h3) rfl rfl 28 zA HZ4.out (infoA HSZ.out) (by rw [HSZ.out]; rfl) (hA_one h3) ?_) | (refine wpList_store_row rfl 34 _ _ rfl (w.heap.size + 3) #[.int .i64 e0, .int .i64 e1, .int .i64 e2, .int .i64 e3, .int .i64 e4] rfl rfl 34 effZ HY4.out (by kernel_rfl) rfl (by kernel_rfl) ?_))
  exact bodyPost_ret (v := .tuple #[.agg (hA h3), .agg #[.int .i64 e0, .int .i64 e1, .int .i64 e2, .int .i64 e3, .int .i64 e4]]) (results_cells2 rfl _ _ (w.heap.size + 2) (w.heap.size + 3) 28 34 (hA h3) #[.int .i64 e0, .int .i64 e1, .int .i64 e2, .int .i64 e3, .int .i64 e4] (0, 0) (0, 0) _ _ rfl rfl (row_ne (by omega) (setRow_heap _ _ _ _ _ _ HZ4.out)) (setRow_heap _ _ _ _ _ _ HY4.out) Try.underlying28 rfl (infoA HSZ.out) Try.underlying34 rfl (by kernel_rfl)) rfl ⟨by unfold stepN; simp only [Int.toNat_natCast]; rw [HVA.out, HVB.out, HNX.out, HEF.out, HP.out, HH3.out]; rfl, below_setRow (below_setRow (by repeat (first | (with_reducible exact Below.refl _ _) | (with_reducible refine bw_set ?_ ?_ _) | (with_reducible apply bw_alloc) | (with_reducible refine bw_tr ?_ (by with_reducible assumption)) | (with_reducible apply bw_drew) | omega)) (by omega) _) (by omega) _⟩
/-- What Step does. -/
def stepX (h : Ht) (id : Int) (x : Ins) : Ht × Eff :=
  if rightB x = false then (h, ⟨9, 0, 0, 0, 0⟩) else if x.op = 44 then (backH h, ⟨0, 0, 0, 0, 0⟩) else if x.op = 40 ∨ x.op = 41 ∨ x.op = 42 then ctlR h id x else stepN h x
theorem stepX_ok {h : Ht} {id : Int} {x : Ins} (hr : rightB x = true) (h1 : x.op ≠ 44) (h2 : x.op ≠ 40 ∧ x.op ≠ 41 ∧ x.op ≠ 42) : stepX h id x = stepN h x := by
  unfold stepX; rw [if_neg (by rw [hr]; decide), if_neg h1, if_neg (by omega)]
theorem stepX_ctl {h : Ht} {id : Int} {x : Ins} (hr : rightB x = true) (h2 : x.op = 40 ∨ x.op = 41 ∨ x.op = 42) : stepX h id x = ctlR h id x := by
  unfold stepX; rw [if_neg (by rw [hr]; decide), if_neg (by omega), if_pos h2]
theorem stepX_back {h : Ht} {id : Int} {x : Ins} (hr : rightB x = true) (h2 : x.op = 44) : stepX h id x = (backH h, ⟨0, 0, 0, 0, 0⟩) := by
  unfold stepX; rw [if_neg (by rw [hr]; decide), if_pos h2]
theorem stepX_bad {h : Ht} {id : Int} {x : Ins} (hr : rightB x = false) : stepX h id x = (h, ⟨9, 0, 0, 0, 0⟩) := by
  unfold stepX; rw [if_pos hr]
theorem step_any (h : Ht) (id : Int) (x : Ins) (w : World) (h32 : h.r.length = 32) :
    Calls Try.prog 16 #[.agg (hA h), .int .i64 id, insV x] w fun e w' => e = .returned (.tuple #[.agg (hA (stepX h id x).1), effV (stepX h id x).2]) ∧ Below w.heap.size w w' := by
  cases hr : rightB x
  · rw [stepX_bad hr]; exact step_bad h id x w h32 hr
  by_cases h1 : x.op = 44
  · rw [stepX_back hr h1]; exact step_back h id x w h32 hr h1
  by_cases h2 : x.op = 40 ∨ x.op = 41 ∨ x.op = 42
  · rw [stepX_ctl hr h2]; exact step_ctl h id x w h32 hr h2
  rw [stepX_ok hr h1 (by omega)]
  have hop : 1 ≤ x.op ∧ x.op ≤ 49 := by
    by_cases hq : 1 ≤ x.op ∧ x.op ≤ 49
    · exact hq
    · unfold rightB at hr; rw [isOp_no hq] at hr; simp at hr
  by_cases k1 : x.op = 1
  · exact step_1 h id x w h32 hr k1
  by_cases k2 : x.op = 2
  · exact step_2 h id x w h32 hr k2
  by_cases k3 : x.op = 3
  · exact step_3 h id x w h32 hr k3
  by_cases k4 : x.op = 4
  · exact step_4 h id x w h32 hr k4
  by_cases k5 : x.op ≤ 12
  · exact step_low h id x w h32 hr ⟨by omega, k5⟩
  by_cases k6 : x.op ≤ 21
  · exact step_imm h id x w h32 hr ⟨by omega, k6⟩
  by_cases k7 : x.op ≤ 38
  · exact step_reg h id x w h32 hr ⟨by omega, k7⟩
  exact step_hi h id x w h32 hr (by omega)
end Go.Proofs.Ytiahdhlfecgnpaa
