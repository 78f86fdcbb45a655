/-
  The contract of hart.Step: all operations that are not control registers'.
-/
import Derived.Test.YtiahdhlfecgnpaaHartStep
namespace Go.Proofs.Ytiahdhlfecgnpaa
open Go.RowKit
def putX (h : Ht) (x : Ins) (a b : Int) : Ht :=
  if x.op = 1 then putH h x.d (x.n * 4096) else if x.op = 2 then putH h x.d (h.pc + x.n * 4096) else if x.op = 3 ∨ x.op = 4 then putH h x.d (h.pc + 4)
  else if 13 ≤ x.op ∧ x.op ≤ 21 then putH h x.d (makesN x.op a x.n) else if 22 ≤ x.op ∧ x.op ≤ 38 then putH h x.d (makesN x.op a b) else h
def stepN (h : Ht) (x : Ins) : Ht × Eff :=
  ({ putX h x (h.r.getD x.a.toNat 0) (h.r.getD x.b.toNat 0) with pc := leadsN h.pc x (h.r.getD x.a.toNat 0) (h.r.getD x.b.toNat 0) }, effX x (h.r.getD x.a.toNat 0) (h.r.getD x.b.toNat 0))
theorem putH_wrap (h : Ht) (d a b : Int) (e : wrap32 a = wrap32 b) : putH h d a = putH h d b := by unfold putH; rw [e]
set_option maxRecDepth 100000 in
set_option maxHeartbeats 8000000 in
theorem step_low (h : Ht) (id : Int) (x : Ins) (w : World) (h32 : h.r.length = 32) (hr : rightB x = true) (hop : 5 ≤ x.op ∧ x.op ≤ 12) :
    Calls Try.prog 16 #[.agg (hA h), .int .i64 id, insV x] w fun e w' => e = .returned (.tuple #[.agg (hA (stepN h x).1), effV (stepN h x).2]) ∧ Below w.heap.size w w' := by
  obtain ⟨op, d, a, b, n⟩ := x
  have ra := (right_regs hr).1
  have rb := (right_regs hr).2
  simp only at ra rb
  obtain ⟨ka, rfl, hka⟩ : ∃ k : Nat, a = k ∧ k < 32 := ⟨a.toNat, by omega, by omega⟩
  obtain ⟨kb, rfl, hkb⟩ : ∃ k : Nat, b = k ∧ k < 32 := ⟨b.toNat, by omega, by omega⟩
  clear ra rb
  simp only at hop
  have HOP := Lib.hid hop; clear hop
  obtain ⟨w0, hw0, hx, hi, hz, hy, hb0, hs0⟩ := four_new w (.cells (hA h) 28) (.cells #[.int .i64 op, .int .i64 d, .int .i64 ka, .int .i64 kb, .int .i64 n] 24) (.cells zA 28) (.cells effZ 34)
  have i0 := cell_in hi (j := 0) (u := .int .i64 op) rfl
  have i1 := cell_in hi (j := 1) (u := .int .i64 d) rfl
  have i2 := cell_in hi (j := 2) (u := .int .i64 ka) rfl
  have i3 := cell_in hi (j := 3) (u := .int .i64 kb) rfl
  have i4 := cell_in hi (j := 4) (u := .int .i64 n) rfl
  have HW := Lib.hid hw0
  have HX := Lib.hid hx; have HZ := Lib.hid hz; have HY := Lib.hid hy; have HI := Lib.hid hi
  have HR := Lib.hid hr
  clear hx hi hz hy hw0 hr
  unfold insV
  go_enter Try.func16, Try.ntmps16
  go_upto_region 1 with (fail)
  change Code.wp _ _ _ _ ((((w.alloc (.cells (hA h) 28)).alloc (.cells #[.int .i64 op, .int .i64 d, .int .i64 ka, .int .i64 kb, .int .i64 n] 24)).alloc (.cells zA 28)).alloc (.cells effZ 34))
  rw [← HW.out]
  go_wp2_with fail
  refine (right_h op d ka kb n true _ HR.out).mono ?_
  rintro e w1 ⟨rfl, hb1⟩
  have hx1 := bel_in hb1 (by omega) HX.out
  have hi1 := bel_in hb1 (by omega) HI.out
  have ca := cell_in hx1 (hA_r h h32 ka hka)
  have cb := cell_in hx1 (hA_r h h32 kb hkb)
  have m0 := cell_in hi1 (j := 0) (u := .int .i64 op) rfl
  have m1 := cell_in hi1 (j := 1) (u := .int .i64 d) rfl
  have m2 := cell_in hi1 (j := 2) (u := .int .i64 ka) rfl
  have m3 := cell_in hi1 (j := 3) (u := .int .i64 kb) rfl
  have m4 := cell_in hi1 (j := 4) (u := .int .i64 n) rfl
  have ia : (0 : Int) ≤ (ka : Int) := by omega
  have ib : (ka : Int) < 32 := by omega
  have ic : (0 : Int) ≤ (kb : Int) := by omega
  have id' : (kb : Int) < 32 := by omega
  have HX1 := Lib.hid hx1; have HI1 := Lib.hid hi1
  have HZ1 := Lib.hid (bel_in hb1 (by omega) HZ.out)
  have HY1 := Lib.hid (bel_in hb1 (by omega) HY.out)
  have hs1 : w.heap.size + 4 ≤ w1.heap.size := by have := hb1.size; omega
  have hbw1 : Below w.heap.size w w1 := (by repeat (first | (with_reducible exact Below.refl _ _) | (with_reducible refine bw_set ?_ ?_ _) | (with_reducible apply bw_alloc) | (with_reducible refine bw_tr ?_ (by with_reducible assumption)) | (with_reducible apply bw_drew) | omega))
  clear i0 i1 i2 i3 i4 hx1 hi1 HX HI HZ HY HW hb0 hs0 hb1 HR
  generalize hva : h.r.getD ka 0 = va at *
  generalize hvb : h.r.getD kb 0 = vb at *
  have HVA := Lib.hid hva; have HVB := Lib.hid hvb; clear hva hvb
  go_wp2_with fail
  go_quiet (fail)
  go_wp2_with (refine wpList_load_row rfl 28 _ rfl (w.heap.size) rfl 28 (hA h) (0, 0) _ HX1.out Try.underlying28 rfl (infoA (hA_size h h32)) ?_)
  refine (leads_any h ⟨op, d, ka, kb, n⟩ va vb _ h32).mono ?_
  rintro e w2 ⟨rfl, hb2⟩
  have hsz : w1.heap.size ≤ w2.heap.size := hb2.size
  have hx2 := bel_in hb2 (show w.heap.size < w1.heap.size by omega) HX1.out
  have hi2 := bel_in hb2 (show w.heap.size + 1 < w1.heap.size by omega) HI1.out
  have hz2 := bel_in hb2 (show w.heap.size + 2 < w1.heap.size by omega) HZ1.out
  have hy2 := bel_in hb2 (show w.heap.size + 3 < w1.heap.size by omega) HY1.out
  have n0 := cell_in hi2 (j := 0) (u := .int .i64 op) rfl
  have n1 := cell_in hi2 (j := 1) (u := .int .i64 d) rfl
  have n2 := cell_in hi2 (j := 2) (u := .int .i64 ka) rfl
  have n3 := cell_in hi2 (j := 3) (u := .int .i64 kb) rfl
  have n4 := cell_in hi2 (j := 4) (u := .int .i64 n) rfl
  have HX2 := Lib.hid hx2; have HZ2 := Lib.hid hz2; have HY2 := Lib.hid hy2; have HI2 := Lib.hid hi2
  have hbw2 : Below w.heap.size w w2 := bw_tr hbw1 (show Below w1.heap.size w1 w2 from bw_tr (below_drewN (Below.refl _ _) _) hb2)
  have hs2 : w.heap.size + 4 ≤ w2.heap.size := by omega
  clear m0 m1 m2 m3 m4 HX1 HI1 HZ1 HY1 hs1 hbw1 ca cb hx2 hi2 hz2 hy2 hb2
  generalize hnx : leadsN h.pc ⟨op, d, ka, kb, n⟩ va vb = nx at *
  have HNX := Lib.hid hnx; clear hnx
  have hop := HOP.out
  have q0 : (op == 44) = false := by simp; omega
  have q1 : (op == 40) = false := by simp; omega
  have q2 : (op == 41) = false := by simp; omega
  have q3 : (op == 42) = false := by simp; omega
  have q4 : (op == 1) = false := by simp; omega
  have q5 : (op == 2) = false := by simp; omega
  have q6 : (op == 3) = false := by simp; omega
  have q7 : (op == 4) = false := by simp; omega
  have q8 : decide (13 ≤ op) = false := by simp; omega
  have q10 : decide (22 ≤ op) = false := by simp; omega
  have HP : Hid (putX h ⟨op, d, ka, kb, n⟩ va vb = h) := by unfold putX; rw [if_neg (by simp only; omega), if_neg (by simp only; omega), if_neg (by simp only; omega), if_neg (by simp only; omega), if_neg (by simp only; omega)]; trivial
  clear hop
  have g32 := cell_in HX2.out (hA_fields h h32).1
  have f32 := frozen_in HX2.out 32
  have HX3 := Lib.hid (set_heap HX2.out 32 (.int .i64 nx) _ (hA_pc h h32 nx))
  go_upto_region 21 with (fail)
  obtain ⟨w3, hw3⟩ : ∃ w3 : World, w3 = w2.setCell ⟨w.heap.size, 32, none⟩ (.int .i64 nx) := ⟨_, rfl⟩
  have hx3 := HX3.out
  have hz3 : w3.heap[w.heap.size + 2]? = some (.cells zA 28 (0, 0)) := by rw [hw3]; exact heap_set_ne (by omega) HZ2.out
  have hy3 : w3.heap[w.heap.size + 3]? = some (.cells effZ 34 (0, 0)) := by rw [hw3]; exact heap_set_ne (by omega) HY2.out
  have hi3 : w3.heap[w.heap.size + 1]? = some (.cells #[.int .i64 op, .int .i64 d, .int .i64 ka, .int .i64 kb, .int .i64 n] 24 (0, 0)) := by rw [hw3]; exact heap_set_ne (by omega) HI2.out
  have hb3 : Below w.heap.size w w3 := by rw [hw3]; exact bw_set hbw2 (Nat.le_refl _) _
  have hs3 : w.heap.size + 4 ≤ w3.heap.size := by rw [hw3, size_set]; exact hs2
  rw [← hw3] at hx3 ⊢
  generalize hh3 : ({ h with pc := nx } : Ht) = h3 at *
  have HH3 := Lib.hid hh3; clear hh3
  have hl3' : h3.r.length = 32 := by rw [← HH3.out]; exact h32
  have hsz3 := hA_size h3 hl3'
  have R0 : Hid (∀ w' : World, (∃ x : Wd w3, w' = x.val) → (loadVar 28 ⟨w.heap.size, 0, none⟩).run Try.prog w' = .ok (.agg (hA h3)) w') := by
    rintro w' ⟨x, rfl⟩
    exact run_loadVar_row _ _ 28 28 (hA h3) (0, 0) _ (bel_in x.bel (by omega) hx3) Try.underlying28 rfl (infoA hsz3)
  have r1 := fun x => wd_cell (by omega) (cell_in hi3 (j := 0) (u := .int .i64 op) rfl) x
  have r2 := fun x => wd_cell (by omega) (cell_in hi3 (j := 1) (u := .int .i64 d) rfl) x
  have r3 := fun x => wd_cell (by omega) (cell_in hi3 (j := 2) (u := .int .i64 ka) rfl) x
  have r4 := fun x => wd_cell (by omega) (cell_in hi3 (j := 3) (u := .int .i64 kb) rfl) x
  have r5 := fun x => wd_cell (by omega) (cell_in hi3 (j := 4) (u := .int .i64 n) rfl) x
  have HSZ := Lib.hid hsz3
  have HZ3 := Lib.hid hz3; have HY3 := Lib.hid hy3
  clear hw3 hx3 hz3 hy3 hi3 hsz3 HX3 HX2 HZ2 HY2 HI2 g32 f32 hbw2 hs2 q0 q1 q2 q3 q4 q5 q6 q7 q8 q10 n0 n1 n2 n3 n4
  refine wp_region_below_tail 5 (by kernel_rfl) (by kernel_rfl) ?_
  simp only [List.take_succ_cons, List.take_zero, List.drop_succ_cons, List.drop_zero]
  go_big_quiet_want
  refine quiet_load_row 28 _ (w.heap.size) (hA h3) rfl rfl R0.out ?_
  simp only [Act.put, List.setIfInBounds_toArray, List.set_cons_succ, List.set_cons_zero]
  go_big_quiet_on
  repeat (go_big_quiet_step ((go_at_call 36; exact quiet_b (effect_any ⟨op, d, ka, kb, n⟩ va vb _))))
  refine wpQuiet_nil ?_
  rintro w4 ⟨⟨w4x, hb4⟩, rfl⟩
  have HZ4 := Lib.hid (bel_in hb4 (by omega) HZ3.out)
  have HY4 := Lib.hid (row_ne (b := w.heap.size + 2) (cs := hA h3) (by omega) (bel_in hb4 (by omega) HY3.out))
  generalize hef : effX ⟨op, d, ka, kb, n⟩ va vb = ef at *
  have HEF := Lib.hid hef; clear hef
  obtain ⟨e0, e1, e2, e3, e4⟩ := ef
  unfold effV
  go_wp2_with (first | (refine wpList_store_row rfl 28 _ _ rfl (w.heap.size + 2) (hA h3) rfl rfl 28 zA HZ4.out (infoA HSZ.out) (by rw [HSZ.out]; rfl) (hA_one h3) ?_) | (refine wpList_store_row rfl 34 _ _ rfl (w.heap.size + 3) #[.int .i64 e0, .int .i64 e1, .int .i64 e2, .int .i64 e3, .int .i64 e4] rfl rfl 34 effZ HY4.out (by kernel_rfl) rfl (by kernel_rfl) ?_))
  exact bodyPost_ret (v := .tuple #[.agg (hA h3), .agg #[.int .i64 e0, .int .i64 e1, .int .i64 e2, .int .i64 e3, .int .i64 e4]]) (results_cells2 rfl _ _ (w.heap.size + 2) (w.heap.size + 3) 28 34 (hA h3) #[.int .i64 e0, .int .i64 e1, .int .i64 e2, .int .i64 e3, .int .i64 e4] (0, 0) (0, 0) _ _ rfl rfl (row_ne (by omega) (setRow_heap _ _ _ _ _ _ HZ4.out)) (setRow_heap _ _ _ _ _ _ HY4.out) Try.underlying28 rfl (infoA HSZ.out) Try.underlying34 rfl (by kernel_rfl)) rfl ⟨by unfold stepN; simp only [Int.toNat_natCast]; rw [HVA.out, HVB.out, HNX.out, HEF.out, HP.out, HH3.out]; rfl, below_setRow (below_setRow (by repeat (first | (with_reducible exact Below.refl _ _) | (with_reducible refine bw_set ?_ ?_ _) | (with_reducible apply bw_alloc) | (with_reducible refine bw_tr ?_ (by with_reducible assumption)) | (with_reducible apply bw_drew) | omega)) (by omega) _) (by omega) _⟩
set_option maxRecDepth 100000 in
set_option maxHeartbeats 8000000 in
theorem step_hi (h : Ht) (id : Int) (x : Ins) (w : World) (h32 : h.r.length = 32) (hr : rightB x = true) (hop : x.op = 39 ∨ x.op = 43 ∨ 45 ≤ x.op) :
    Calls Try.prog 16 #[.agg (hA h), .int .i64 id, insV x] w fun e w' => e = .returned (.tuple #[.agg (hA (stepN h x).1), effV (stepN h x).2]) ∧ Below w.heap.size w w' := by
  obtain ⟨op, d, a, b, n⟩ := x
  have ra := (right_regs hr).1
  have rb := (right_regs hr).2
  simp only at ra rb
  obtain ⟨ka, rfl, hka⟩ : ∃ k : Nat, a = k ∧ k < 32 := ⟨a.toNat, by omega, by omega⟩
  obtain ⟨kb, rfl, hkb⟩ : ∃ k : Nat, b = k ∧ k < 32 := ⟨b.toNat, by omega, by omega⟩
  clear ra rb
  simp only at hop
  have HOP := Lib.hid hop; clear hop
  obtain ⟨w0, hw0, hx, hi, hz, hy, hb0, hs0⟩ := four_new w (.cells (hA h) 28) (.cells #[.int .i64 op, .int .i64 d, .int .i64 ka, .int .i64 kb, .int .i64 n] 24) (.cells zA 28) (.cells effZ 34)
  have i0 := cell_in hi (j := 0) (u := .int .i64 op) rfl
  have i1 := cell_in hi (j := 1) (u := .int .i64 d) rfl
  have i2 := cell_in hi (j := 2) (u := .int .i64 ka) rfl
  have i3 := cell_in hi (j := 3) (u := .int .i64 kb) rfl
  have i4 := cell_in hi (j := 4) (u := .int .i64 n) rfl
  have HW := Lib.hid hw0
  have HX := Lib.hid hx; have HZ := Lib.hid hz; have HY := Lib.hid hy; have HI := Lib.hid hi
  have HR := Lib.hid hr
  clear hx hi hz hy hw0 hr
  unfold insV
  go_enter Try.func16, Try.ntmps16
  go_upto_region 1 with (fail)
  change Code.wp _ _ _ _ ((((w.alloc (.cells (hA h) 28)).alloc (.cells #[.int .i64 op, .int .i64 d, .int .i64 ka, .int .i64 kb, .int .i64 n] 24)).alloc (.cells zA 28)).alloc (.cells effZ 34))
  rw [← HW.out]
  go_wp2_with fail
  refine (right_h op d ka kb n true _ HR.out).mono ?_
  rintro e w1 ⟨rfl, hb1⟩
  have hx1 := bel_in hb1 (by omega) HX.out
  have hi1 := bel_in hb1 (by omega) HI.out
  have ca := cell_in hx1 (hA_r h h32 ka hka)
  have cb := cell_in hx1 (hA_r h h32 kb hkb)
  have m0 := cell_in hi1 (j := 0) (u := .int .i64 op) rfl
  have m1 := cell_in hi1 (j := 1) (u := .int .i64 d) rfl
  have m2 := cell_in hi1 (j := 2) (u := .int .i64 ka) rfl
  have m3 := cell_in hi1 (j := 3) (u := .int .i64 kb) rfl
  have m4 := cell_in hi1 (j := 4) (u := .int .i64 n) rfl
  have ia : (0 : Int) ≤ (ka : Int) := by omega
  have ib : (ka : Int) < 32 := by omega
  have ic : (0 : Int) ≤ (kb : Int) := by omega
  have id' : (kb : Int) < 32 := by omega
  have HX1 := Lib.hid hx1; have HI1 := Lib.hid hi1
  have HZ1 := Lib.hid (bel_in hb1 (by omega) HZ.out)
  have HY1 := Lib.hid (bel_in hb1 (by omega) HY.out)
  have hs1 : w.heap.size + 4 ≤ w1.heap.size := by have := hb1.size; omega
  have hbw1 : Below w.heap.size w w1 := (by repeat (first | (with_reducible exact Below.refl _ _) | (with_reducible refine bw_set ?_ ?_ _) | (with_reducible apply bw_alloc) | (with_reducible refine bw_tr ?_ (by with_reducible assumption)) | (with_reducible apply bw_drew) | omega))
  clear i0 i1 i2 i3 i4 hx1 hi1 HX HI HZ HY HW hb0 hs0 hb1 HR
  generalize hva : h.r.getD ka 0 = va at *
  generalize hvb : h.r.getD kb 0 = vb at *
  have HVA := Lib.hid hva; have HVB := Lib.hid hvb; clear hva hvb
  go_wp2_with fail
  go_quiet (fail)
  go_wp2_with (refine wpList_load_row rfl 28 _ rfl (w.heap.size) rfl 28 (hA h) (0, 0) _ HX1.out Try.underlying28 rfl (infoA (hA_size h h32)) ?_)
  refine (leads_any h ⟨op, d, ka, kb, n⟩ va vb _ h32).mono ?_
  rintro e w2 ⟨rfl, hb2⟩
  have hsz : w1.heap.size ≤ w2.heap.size := hb2.size
  have hx2 := bel_in hb2 (show w.heap.size < w1.heap.size by omega) HX1.out
  have hi2 := bel_in hb2 (show w.heap.size + 1 < w1.heap.size by omega) HI1.out
  have hz2 := bel_in hb2 (show w.heap.size + 2 < w1.heap.size by omega) HZ1.out
  have hy2 := bel_in hb2 (show w.heap.size + 3 < w1.heap.size by omega) HY1.out
  have n0 := cell_in hi2 (j := 0) (u := .int .i64 op) rfl
  have n1 := cell_in hi2 (j := 1) (u := .int .i64 d) rfl
  have n2 := cell_in hi2 (j := 2) (u := .int .i64 ka) rfl
  have n3 := cell_in hi2 (j := 3) (u := .int .i64 kb) rfl
  have n4 := cell_in hi2 (j := 4) (u := .int .i64 n) rfl
  have HX2 := Lib.hid hx2; have HZ2 := Lib.hid hz2; have HY2 := Lib.hid hy2; have HI2 := Lib.hid hi2
  have hbw2 : Below w.heap.size w w2 := bw_tr hbw1 (show Below w1.heap.size w1 w2 from bw_tr (below_drewN (Below.refl _ _) _) hb2)
  have hs2 : w.heap.size + 4 ≤ w2.heap.size := by omega
  clear m0 m1 m2 m3 m4 HX1 HI1 HZ1 HY1 hs1 hbw1 ca cb hx2 hi2 hz2 hy2 hb2
  generalize hnx : leadsN h.pc ⟨op, d, ka, kb, n⟩ va vb = nx at *
  have HNX := Lib.hid hnx; clear hnx
  have hop := HOP.out
  have q0 : (op == 44) = false := by simp; omega
  have q1 : (op == 40) = false := by simp; omega
  have q2 : (op == 41) = false := by simp; omega
  have q3 : (op == 42) = false := by simp; omega
  have q4 : (op == 1) = false := by simp; omega
  have q5 : (op == 2) = false := by simp; omega
  have q6 : (op == 3) = false := by simp; omega
  have q7 : (op == 4) = false := by simp; omega
  have q8 : decide (13 ≤ op) = true := by simp; omega
  have q9 : decide (op ≤ 21) = false := by simp; omega
  have q10 : decide (22 ≤ op) = true := by simp; omega
  have q11 : decide (op ≤ 38) = false := by simp; omega
  have HP : Hid (putX h ⟨op, d, ka, kb, n⟩ va vb = h) := by unfold putX; rw [if_neg (by simp only; omega), if_neg (by simp only; omega), if_neg (by simp only; omega), if_neg (by simp only; omega), if_neg (by simp only; omega)]; trivial
  clear hop
  have g32 := cell_in HX2.out (hA_fields h h32).1
  have f32 := frozen_in HX2.out 32
  have HX3 := Lib.hid (set_heap HX2.out 32 (.int .i64 nx) _ (hA_pc h h32 nx))
  go_upto_region 21 with (fail)
  obtain ⟨w3, hw3⟩ : ∃ w3 : World, w3 = w2.setCell ⟨w.heap.size, 32, none⟩ (.int .i64 nx) := ⟨_, rfl⟩
  have hx3 := HX3.out
  have hz3 : w3.heap[w.heap.size + 2]? = some (.cells zA 28 (0, 0)) := by rw [hw3]; exact heap_set_ne (by omega) HZ2.out
  have hy3 : w3.heap[w.heap.size + 3]? = some (.cells effZ 34 (0, 0)) := by rw [hw3]; exact heap_set_ne (by omega) HY2.out
  have hi3 : w3.heap[w.heap.size + 1]? = some (.cells #[.int .i64 op, .int .i64 d, .int .i64 ka, .int .i64 kb, .int .i64 n] 24 (0, 0)) := by rw [hw3]; exact heap_set_ne (by omega) HI2.out
  have hb3 : Below w.heap.size w w3 := by rw [hw3]; exact bw_set hbw2 (Nat.le_refl _) _
  have hs3 : w.heap.size + 4 ≤ w3.heap.size := by rw [hw3, size_set]; exact hs2
  rw [← hw3] at hx3 ⊢
  generalize hh3 : ({ h with pc := nx } : Ht) = h3 at *
  have HH3 := Lib.hid hh3; clear hh3
  have hl3' : h3.r.length = 32 := by rw [← HH3.out]; exact h32
  have hsz3 := hA_size h3 hl3'
  have R0 : Hid (∀ w' : World, (∃ x : Wd w3, w' = x.val) → (loadVar 28 ⟨w.heap.size, 0, none⟩).run Try.prog w' = .ok (.agg (hA h3)) w') := by
    rintro w' ⟨x, rfl⟩
    exact run_loadVar_row _ _ 28 28 (hA h3) (0, 0) _ (bel_in x.bel (by omega) hx3) Try.underlying28 rfl (infoA hsz3)
  have r1 := fun x => wd_cell (by omega) (cell_in hi3 (j := 0) (u := .int .i64 op) rfl) x
  have r2 := fun x => wd_cell (by omega) (cell_in hi3 (j := 1) (u := .int .i64 d) rfl) x
  have r3 := fun x => wd_cell (by omega) (cell_in hi3 (j := 2) (u := .int .i64 ka) rfl) x
  have r4 := fun x => wd_cell (by omega) (cell_in hi3 (j := 3) (u := .int .i64 kb) rfl) x
  have r5 := fun x => wd_cell (by omega) (cell_in hi3 (j := 4) (u := .int .i64 n) rfl) x
  have HSZ := Lib.hid hsz3
  have HZ3 := Lib.hid hz3; have HY3 := Lib.hid hy3
  clear hw3 hx3 hz3 hy3 hi3 hsz3 HX3 HX2 HZ2 HY2 HI2 g32 f32 hbw2 hs2 q0 q1 q2 q3 q4 q5 q6 q7 q8 q9 q10 q11 n0 n1 n2 n3 n4
  refine wp_region_below_tail 5 (by kernel_rfl) (by kernel_rfl) ?_
  simp only [List.take_succ_cons, List.take_zero, List.drop_succ_cons, List.drop_zero]
  go_big_quiet_want
  refine quiet_load_row 28 _ (w.heap.size) (hA h3) rfl rfl R0.out ?_
  simp only [Act.put, List.setIfInBounds_toArray, List.set_cons_succ, List.set_cons_zero]
  go_big_quiet_on
  repeat (go_big_quiet_step ((go_at_call 36; exact quiet_b (effect_any ⟨op, d, ka, kb, n⟩ va vb _))))
  refine wpQuiet_nil ?_
  rintro w4 ⟨⟨w4x, hb4⟩, rfl⟩
  have HZ4 := Lib.hid (bel_in hb4 (by omega) HZ3.out)
  have HY4 := Lib.hid (row_ne (b := w.heap.size + 2) (cs := hA h3) (by omega) (bel_in hb4 (by omega) HY3.out))
  generalize hef : effX ⟨op, d, ka, kb, n⟩ va vb = ef at *
  have HEF := Lib.hid hef; clear hef
  obtain ⟨e0, e1, e2, e3, e4⟩ := ef
  unfold effV
  go_wp2_with (first | (refine wpList_store_row rfl 28 _ _ rfl (w.heap.size + 2) (hA h3) rfl rfl 28 zA HZ4.out (infoA HSZ.out) (by rw [HSZ.out]; rfl) (hA_one h3) ?_) | (refine wpList_store_row rfl 34 _ _ rfl (w.heap.size + 3) #[.int .i64 e0, .int .i64 e1, .int .i64 e2, .int .i64 e3, .int .i64 e4] rfl rfl 34 effZ HY4.out (by kernel_rfl) rfl (by kernel_rfl) ?_))
  exact bodyPost_ret (v := .tuple #[.agg (hA h3), .agg #[.int .i64 e0, .int .i64 e1, .int .i64 e2, .int .i64 e3, .int .i64 e4]]) (results_cells2 rfl _ _ (w.heap.size + 2) (w.heap.size + 3) 28 34 (hA h3) #[.int .i64 e0, .int .i64 e1, .int .i64 e2, .int .i64 e3, .int .i64 e4] (0, 0) (0, 0) _ _ rfl rfl (row_ne (by omega) (setRow_heap _ _ _ _ _ _ HZ4.out)) (setRow_heap _ _ _ _ _ _ HY4.out) Try.underlying28 rfl (infoA HSZ.out) Try.underlying34 rfl (by kernel_rfl)) rfl ⟨by unfold stepN; simp only [Int.toNat_natCast]; rw [HVA.out, HVB.out, HNX.out, HEF.out, HP.out, HH3.out]; rfl, below_setRow (below_setRow (by repeat (first | (with_reducible exact Below.refl _ _) | (with_reducible refine bw_set ?_ ?_ _) | (with_reducible apply bw_alloc) | (with_reducible refine bw_tr ?_ (by with_reducible assumption)) | (with_reducible apply bw_drew) | omega)) (by omega) _) (by omega) _⟩
end Go.Proofs.Ytiahdhlfecgnpaa
