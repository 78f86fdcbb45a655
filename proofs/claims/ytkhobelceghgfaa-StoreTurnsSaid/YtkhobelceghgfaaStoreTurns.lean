/-
  The walk of the law StoreTurns (printed).
-/
import Derived.Test.YtkhobelceghgfaaMemMade
import Derived.Test.YtkhobelceghgfaaMemTurns
import Derived.Test.YtkhobelceghgfaaMemCell
namespace Go.Proofs.Ytkhobelceghgfaa
open Go.RowKit
set_option maxHeartbeats 8000000 in
set_option maxRecDepth 100000 in
theorem walkStoreTurns (harts words : Int) (v : Value) (raw : List R4) (one0 one1 two0 two1 : Int) (w : World) (hi1 : I64 harts) (hi2 : I64 words) (hv : ArgS 4 c4 w v raw) (hok : ∀ r ∈ raw, ok4 r) (hj0 : I64 one0) (hj1 : I64 one1) (hj2 : I64 two0) (hj3 : I64 two1) :
    Calls Try.prog 4 #[.int .i64 harts, .int .i64 words, v, .agg #[.int .i64 one0, .int .i64 one1], .agg #[.int .i64 two0, .int .i64 two1]] w fun e w' => e = .returned (.bool true) ∧ Below w.heap.size w w' := by
  obtain ⟨a, len, cap, rfl, h⟩ := rows4_of hv hok
  have H4 := Lib.hid h
  have I1 := Lib.hid hi1; have I2 := Lib.hid hi2; have J0 := Lib.hid hj0; have J1 := Lib.hid hj1; have J2 := Lib.hid hj2; have J3 := Lib.hid hj3
  clear hv hok h hi1 hi2 hj0 hj1 hj2 hj3
  have HB : Hid (Below w.heap.size w w) := Lib.hid (Below.refl _ _)
  go_enter Try.func4, Try.ntmps4
  go_upto_region 1 with (fail)
  have U1 := up_in (bel_new (w.alloc (.cells #[.int .i64 one0, .int .i64 one1] 40)) (.cells #[.int .i64 two0, .int .i64 two1] 40)) (new_in w (.cells #[.int .i64 one0, .int .i64 one1] 40))
  have U2 := new_in (w.alloc (.cells #[.int .i64 one0, .int .i64 one1] 40)) (.cells #[.int .i64 two0, .int .i64 two1] 40)
  rw [World.size_alloc] at U2
  have BB := bw_tr (bel_new w (.cells #[.int .i64 one0, .int .i64 one1] 40)) (bel_new (w.alloc (.cells #[.int .i64 one0, .int .i64 one1] 40)) (.cells #[.int .i64 two0, .int .i64 two1] 40))
  obtain ⟨gw, hgw⟩ : ∃ u, (w.alloc (.cells #[.int .i64 one0, .int .i64 one1] 40)).alloc (.cells #[.int .i64 two0, .int .i64 two1] 40) = u := ⟨_, rfl⟩
  rw [hgw] at U1 U2 BB
  rw [hgw]
  have HU1 := Lib.hid U1; have HU2 := Lib.hid U2; have HBB := Lib.hid BB; clear hgw U1 U2 BB HB
  go_wp2_with fail
  refine (awake11 _).mono ?_
  rintro e w1 ⟨rfl, hb1⟩
  have B_2 := Lib.hid (bw_tr HBB.out hb1)
  clear HBB
  have one_2 := Lib.hid (up_in hb1 HU1.out)
  clear HU1
  have two_2 := Lib.hid (up_in hb1 HU2.out)
  clear HU2
  clear hb1
  go_wp2_with fail
  refine (made_good harts words a len cap raw _ I1.out I2.out ?mk).mono ?_
  case mk => exact rows4_up H4.out B_2.out
  rintro e w3 ⟨a31, n31, b31, a32, n32, b32, a33, n33, b33, m, p, q, rfl, hmk, hgk, hp3, hq4, hbk⟩
  obtain ⟨H, hH⟩ : ∃ H, 2 + p = H := ⟨_, rfl⟩; obtain ⟨W, hW⟩ : ∃ W, 1 + q = W := ⟨_, rfl⟩
  rw [hH, hW] at hgk
  have hH2 : 2 ≤ H ∧ H ≤ 4 := (by omega); have hW2 : 1 ≤ W ∧ W ≤ 4 := (by omega)
  obtain ⟨rfl, rfl, rfl⟩ : W = n31 ∧ H = n32 ∧ H = n33 := lens_of hmk hgk
  clear hH hW hp3 hq4 p q
  have B_4 := Lib.hid (bw_tr B_2.out hbk)
  clear B_2
  have one_4 := Lib.hid (up_in hbk one_2.out)
  clear one_2
  have two_4 := Lib.hid (up_in hbk two_2.out)
  clear two_2
  have HM3 := Lib.hid hmk; have GD := Lib.hid hgk; clear hmk hgk hbk
  go_upto_region 3 with (fail)
  have LB_m : Hid (w.heap.size ≤ w3.heap.size) := Lib.hid (B_4.out).size
  have m_5 := Lib.hid (mv_new HM3.out)
  have B_6 := Lib.hid (bw_tr B_4.out (bel_new w3 (.cells #[.slice a31 W b31, .slice a32 H b32, .slice a33 H b33] 27)))
  clear B_4
  have one_6 := Lib.hid (up_in (bel_new w3 (.cells #[.slice a31 W b31, .slice a32 H b32, .slice a33 H b33] 27)) one_4.out)
  clear one_4
  have two_6 := Lib.hid (up_in (bel_new w3 (.cells #[.slice a31 W b31, .slice a32 H b32, .slice a33 H b33] 27)) two_4.out)
  clear two_4
  clear HM3
  obtain ⟨gw7, hu7⟩ : ∃ u, w3.alloc (.cells #[.slice a31 W b31, .slice a32 H b32, .slice a33 H b33] 27) = u := ⟨_, rfl⟩
  rw [hu7] at B_6 one_6 two_6 m_5
  rw [hu7]
  clear hu7
  obtain ⟨b_m, hq⟩ : ∃ q, w3.heap.size = q := ⟨_, rfl⟩
  rw [hq] at m_5
  have LB_m := Lib.hid (Nat.le_trans LB_m.out (Nat.le_of_eq hq))
  rw [hq]
  clear hq
  have SM := Lib.hid (GD.out.small (by omega) (by omega))
  have pA := pickN_bd one0 H (by omega); have pB := pickN_bd two0 H (by omega)
  obtain ⟨aa, e1⟩ : ∃ aa, pickN one0 H = aa := ⟨_, rfl⟩; obtain ⟨bb, e2⟩ : ∃ bb, pickN two0 H = bb := ⟨_, rfl⟩
  rw [e1] at pA; rw [e2] at pB; have DA := Lib.hid e1; have DB := Lib.hid e2; clear e1 e2
  have hd1 : decide ((H : Int) < 2) = false := (by simp; omega)
  obtain ⟨rb, ro, ra, rc, e0, e9, hc9, hc8, hrb, hcl, hrdA⟩ := IsMem.row m_5.out.2 (h := aa) (by rw [GD.out.pend]; omega) pA.1
  subst e0; clear e9
  obtain ⟨rb', ro', ra', rc', e0, e9, e8, e7, e6, hcl', hrdB⟩ := IsMem.row m_5.out.2 (h := bb) (by rw [GD.out.pend]; omega) pB.1
  injection e0 with e0; injection e0 with e0 e1; subst e0 e1; clear e9 e8 e7 e6
  have lA8 := GD.out.len (GD.out.hart pA.1 pA.2); have lB8 := GD.out.len (GD.out.hart pB.1 pB.2)
  obtain ⟨la, hla⟩ : ∃ la, (pendOf m aa).length = la := ⟨_, rfl⟩; obtain ⟨lb, hlb⟩ : ∃ lb, (pendOf m bb).length = lb := ⟨_, rfl⟩
  rw [hla] at hcl hrdA lA8; rw [hlb] at hcl' hrdB lB8
  have HLA := Lib.hid hla; have HLB := Lib.hid hlb; have HRA := Lib.hid hrdA; have HRB := Lib.hid hrdB; clear hla hlb hrdA hrdB
  have hcA : CellAt _ _ _ _ := ⟨hrb, hcl⟩; have hcB : CellAt _ _ _ _ := ⟨hrb, hcl'⟩; clear hrb hcl hcl'
  have cA_0 := Lib.hid (hcA)
  have cB_0 := Lib.hid (hcB)
  clear hcA hcB
  obtain ⟨⟨c00, c01, c02⟩, d00, d01, d02⟩ := six (m_5.out).1
  have t0 := mv_lt m_5.out
  have tb1 := lt_in one_6.out; have tb2 := lt_in two_6.out
  have k10 : gw7.cell? ⟨w.heap.size, 0, none⟩ = some (.int .i64 one0) := cell_in one_6.out (j := 0) rfl
  have k11 : gw7.cell? ⟨w.heap.size, 1, none⟩ = some (.int .i64 one1) := cell_in one_6.out (j := 1) rfl
  have k20 : gw7.cell? ⟨w.heap.size + 1, 0, none⟩ = some (.int .i64 two0) := cell_in two_6.out (j := 0) rfl
  have k21 : gw7.cell? ⟨w.heap.size + 1, 1, none⟩ = some (.int .i64 two1) := cell_in two_6.out (j := 1) rfl
  obtain ⟨tcA, vcA⟩ := cA_0.out
  obtain ⟨tcB, vcB⟩ := cB_0.out
  go_upto_region 8 with (first | (go_at_call 12; (with_reducible refine (pick11 _ _ _ _ J0.out (by omega) DA.out).mono ?_); rintro e w' ⟨rfl, rfl⟩) | (go_at_call 12; (with_reducible refine (pick11 _ _ _ _ J2.out (by omega) DB.out).mono ?_); rintro e w' ⟨rfl, rfl⟩))
  by_cases hz : la = 0
  · subst hz
    go_wp2_with fail
    go_ret
    exact ⟨ret1 (rbool rfl), B_6.out⟩
  by_cases hz' : lb = 0
  · subst hz'
    have nz : ((la : Int) == 0) = false := by simp; omega
    go_wp2_with fail
    go_ret
    exact ⟨ret1 (rbool rfl), B_6.out⟩
  have nz : ((la : Int) == 0) = false := by simp; omega
  have nz' : ((lb : Int) == 0) = false := by simp; omega
  go_upto_region 10 with fail
  clear c00 d00 c01 d01 c02 d02 t0 tb1 tb2 k10 k11 k20 k21 tcA vcA tcB vcB
  have pI := pickN_bd one1 la (by omega); have pK := pickN_bd two1 lb (by omega)
  obtain ⟨i, hi⟩ : ∃ i : Nat, pickN one1 la = i := ⟨(pickN one1 la).toNat, by omega⟩; obtain ⟨k, hk⟩ : ∃ k : Nat, pickN two1 lb = k := ⟨(pickN two1 lb).toNat, by omega⟩
  rw [hi] at pI; rw [hk] at pK; have DI := Lib.hid hi; have DK := Lib.hid hk; clear hi hk
  have iA : i < (pendOf m aa).length := (by rw [HLA.out]; omega); have kB : k < (pendOf m bb).length := (by rw [HLB.out]; omega)
  obtain ⟨⟨x1, x2⟩, hx⟩ : ∃ x, (pendOf m aa)[i]? = some x := ⟨_, List.getElem?_eq_getElem iA⟩; obtain ⟨⟨y1, y2⟩, hy⟩ : ∃ y, (pendOf m bb)[k]? = some y := ⟨_, List.getElem?_eq_getElem kB⟩
  obtain ⟨xb, xo, e0, hxc, hxm, cx1, cx2⟩ := entry_cells (HRA.out) hx (by omega)
  subst e0
  obtain ⟨yb, yo, e0, hyc, hym, cy1, cy2⟩ := entry_cells HRB.out hy (by omega)
  subst e0
  have HX := Lib.hid hx; have HY := Lib.hid hy; have HIA := Lib.hid iA; have HKB := Lib.hid kB; clear hx hy iA kB HRA HRB
  simp only at cx1 cx2 cy1 cy2
  have cx1_0 := Lib.hid (cx1)
  clear cx1
  have cx2_0 := Lib.hid (cx2)
  clear cx2
  have cy1_0 := Lib.hid (cy1)
  clear cy1
  have cy2_0 := Lib.hid (cy2)
  clear cy2
  obtain ⟨⟨c00, c01, c02⟩, d00, d01, d02⟩ := six (m_5.out).1
  have t0 := mv_lt m_5.out
  have tb1 := lt_in one_6.out; have tb2 := lt_in two_6.out
  have k10 : gw7.cell? ⟨w.heap.size, 0, none⟩ = some (.int .i64 one0) := cell_in one_6.out (j := 0) rfl
  have k11 : gw7.cell? ⟨w.heap.size, 1, none⟩ = some (.int .i64 one1) := cell_in one_6.out (j := 1) rfl
  have k20 : gw7.cell? ⟨w.heap.size + 1, 0, none⟩ = some (.int .i64 two0) := cell_in two_6.out (j := 0) rfl
  have k21 : gw7.cell? ⟨w.heap.size + 1, 1, none⟩ = some (.int .i64 two1) := cell_in two_6.out (j := 1) rfl
  obtain ⟨tcA, vcA⟩ := cA_0.out
  obtain ⟨tcB, vcB⟩ := cB_0.out
  refine wp_region_below (by kernel_rfl) (by kernel_rfl) ?_
  have z1 := fun x => wd_cell t0 c01 x
  have z2 := fun x => wd_cell tcA vcA x
  have z3 := fun x => wd_cell tcB vcB x
  have z4 := fun x => wd_cell tb1 k11 x
  have z5 := fun x => wd_cell tb2 k21 x
  clear c00 d00 c01 d01 c02 d02 t0 tb1 tb2 k10 k11 k20 k21 tcA vcA tcB vcB
  repeat (go_big_quiet_step ((go_at_call 12; with_reducible exact quiet_s (pick11 _ _ _ _ J1.out (by omega) DI.out))))
  refine wpQuiet_nil ?_; rintro w8 ⟨⟨w8x, hb7⟩, rfl⟩
  change Below gw7.heap.size gw7 w8 at hb7
  clear z1 z2 z3 z4 z5
  have B_9 := Lib.hid (bw_tr B_6.out hb7)
  clear B_6
  have one_9 := Lib.hid (up_in hb7 one_6.out)
  clear one_6
  have two_9 := Lib.hid (up_in hb7 two_6.out)
  clear two_6
  have m_9 := Lib.hid (MV.up m_5.out hb7)
  clear m_5
  have cA_9 := Lib.hid (CellAt.up cA_0.out hb7)
  clear cA_0
  have cB_9 := Lib.hid (CellAt.up cB_0.out hb7)
  clear cB_0
  have cx1_9 := Lib.hid (CellAt.up cx1_0.out hb7)
  clear cx1_0
  have cx2_9 := Lib.hid (CellAt.up cx2_0.out hb7)
  clear cx2_0
  have cy1_9 := Lib.hid (CellAt.up cy1_0.out hb7)
  clear cy1_0
  have cy2_9 := Lib.hid (CellAt.up cy2_0.out hb7)
  clear cy2_0
  clear hb7
  go_upto_region 11 with fail
  obtain ⟨⟨c00, c01, c02⟩, d00, d01, d02⟩ := six (m_9.out).1
  have t0 := mv_lt m_9.out
  have tb1 := lt_in one_9.out; have tb2 := lt_in two_9.out
  have k10 : w8.cell? ⟨w.heap.size, 0, none⟩ = some (.int .i64 one0) := cell_in one_9.out (j := 0) rfl
  have k11 : w8.cell? ⟨w.heap.size, 1, none⟩ = some (.int .i64 one1) := cell_in one_9.out (j := 1) rfl
  have k20 : w8.cell? ⟨w.heap.size + 1, 0, none⟩ = some (.int .i64 two0) := cell_in two_9.out (j := 0) rfl
  have k21 : w8.cell? ⟨w.heap.size + 1, 1, none⟩ = some (.int .i64 two1) := cell_in two_9.out (j := 1) rfl
  obtain ⟨tcA, vcA⟩ := cA_9.out
  obtain ⟨tcB, vcB⟩ := cB_9.out
  refine wp_region_below (by kernel_rfl) (by kernel_rfl) ?_
  have z1 := fun x => wd_cell t0 c01 x
  have z2 := fun x => wd_cell tcA vcA x
  have z3 := fun x => wd_cell tcB vcB x
  have z4 := fun x => wd_cell tb1 k11 x
  have z5 := fun x => wd_cell tb2 k21 x
  clear c00 d00 c01 d01 c02 d02 t0 tb1 tb2 k10 k11 k20 k21 tcA vcA tcB vcB
  repeat (go_big_quiet_step ((go_at_call 12; with_reducible exact quiet_s (pick11 _ _ _ _ J3.out (by omega) DK.out))))
  refine wpQuiet_nil ?_; rintro w10 ⟨⟨w10x, hb7⟩, rfl⟩
  change Below w8.heap.size w8 w10 at hb7
  clear z1 z2 z3 z4 z5
  have B_11 := Lib.hid (bw_tr B_9.out hb7)
  clear B_9
  have one_11 := Lib.hid (up_in hb7 one_9.out)
  clear one_9
  have two_11 := Lib.hid (up_in hb7 two_9.out)
  clear two_9
  have m_11 := Lib.hid (MV.up m_9.out hb7)
  clear m_9
  have cA_11 := Lib.hid (CellAt.up cA_9.out hb7)
  clear cA_9
  have cB_11 := Lib.hid (CellAt.up cB_9.out hb7)
  clear cB_9
  have cx1_11 := Lib.hid (CellAt.up cx1_9.out hb7)
  clear cx1_9
  have cx2_11 := Lib.hid (CellAt.up cx2_9.out hb7)
  clear cx2_9
  have cy1_11 := Lib.hid (CellAt.up cy1_9.out hb7)
  clear cy1_9
  have cy2_11 := Lib.hid (CellAt.up cy2_9.out hb7)
  clear cy2_9
  clear hb7
  go_upto_region 12 with fail
  obtain ⟨⟨c00, c01, c02⟩, d00, d01, d02⟩ := six (m_11.out).1
  have t0 := mv_lt m_11.out
  obtain ⟨tcA, vcA⟩ := cA_11.out
  obtain ⟨tcx1, vcx1⟩ := cx1_11.out
  obtain ⟨tcx2, vcx2⟩ := cx2_11.out
  go_upto_region 13 with fail
  clear c00 d00 c01 d01 c02 d02 t0 tcA vcA tcx1 vcx1 tcx2 vcx2
  have LB_x := Lib.hid (B_11.out).size
  have N_one_x := Lib.hid (lt_in one_11.out)
  have N_two_x := Lib.hid (lt_in two_11.out)
  have N_m_x := Lib.hid (mv_lt m_11.out)
  have x_12 := Lib.hid (new_in w10 (.cells #[.int .i64 x1, .int .i64 x2] 44))
  have B_13 := Lib.hid (bw_tr B_11.out (bel_new w10 (.cells #[.int .i64 x1, .int .i64 x2] 44)))
  clear B_11
  have one_13 := Lib.hid (up_in (bel_new w10 (.cells #[.int .i64 x1, .int .i64 x2] 44)) one_11.out)
  clear one_11
  have two_13 := Lib.hid (up_in (bel_new w10 (.cells #[.int .i64 x1, .int .i64 x2] 44)) two_11.out)
  clear two_11
  have m_13 := Lib.hid (MV.up m_11.out (bel_new w10 (.cells #[.int .i64 x1, .int .i64 x2] 44)))
  clear m_11
  have cA_13 := Lib.hid (CellAt.up cA_11.out (bel_new w10 (.cells #[.int .i64 x1, .int .i64 x2] 44)))
  clear cA_11
  have cB_13 := Lib.hid (CellAt.up cB_11.out (bel_new w10 (.cells #[.int .i64 x1, .int .i64 x2] 44)))
  clear cB_11
  have cx1_13 := Lib.hid (CellAt.up cx1_11.out (bel_new w10 (.cells #[.int .i64 x1, .int .i64 x2] 44)))
  clear cx1_11
  have cx2_13 := Lib.hid (CellAt.up cx2_11.out (bel_new w10 (.cells #[.int .i64 x1, .int .i64 x2] 44)))
  clear cx2_11
  have cy1_13 := Lib.hid (CellAt.up cy1_11.out (bel_new w10 (.cells #[.int .i64 x1, .int .i64 x2] 44)))
  clear cy1_11
  have cy2_13 := Lib.hid (CellAt.up cy2_11.out (bel_new w10 (.cells #[.int .i64 x1, .int .i64 x2] 44)))
  clear cy2_11
  obtain ⟨gw14, hu14⟩ : ∃ u, w10.alloc (.cells #[.int .i64 x1, .int .i64 x2] 44) = u := ⟨_, rfl⟩
  rw [hu14] at B_13 one_13 two_13 m_13 cA_13 cB_13 cx1_13 cx2_13 cy1_13 cy2_13 x_12
  rw [hu14]
  clear hu14
  obtain ⟨b_x, hq⟩ : ∃ q, w10.heap.size = q := ⟨_, rfl⟩
  rw [hq] at x_12
  have LB_x := Lib.hid (Nat.le_trans LB_x.out (Nat.le_of_eq hq))
  have N_one_x := Lib.hid (Nat.lt_of_lt_of_le N_one_x.out (Nat.le_of_eq hq))
  have N_two_x := Lib.hid (Nat.lt_of_lt_of_le N_two_x.out (Nat.le_of_eq hq))
  have N_m_x := Lib.hid (Nat.lt_of_lt_of_le N_m_x.out (Nat.le_of_eq hq))
  rw [hq]
  clear hq
  obtain ⟨⟨c00, c01, c02⟩, d00, d01, d02⟩ := six (m_13.out).1
  have t0 := mv_lt m_13.out
  obtain ⟨tcB, vcB⟩ := cB_13.out
  obtain ⟨tcy1, vcy1⟩ := cy1_13.out
  obtain ⟨tcy2, vcy2⟩ := cy2_13.out
  go_upto_region 14 with fail
  clear c00 d00 c01 d01 c02 d02 t0 tcB vcB tcy1 vcy1 tcy2 vcy2
  have LB_y := Lib.hid (B_13.out).size
  have N_one_y := Lib.hid (lt_in one_13.out)
  have N_two_y := Lib.hid (lt_in two_13.out)
  have N_m_y := Lib.hid (mv_lt m_13.out)
  have N_x_y := Lib.hid (lt_in x_12.out)
  have y_15 := Lib.hid (new_in gw14 (.cells #[.int .i64 y1, .int .i64 y2] 44))
  have B_16 := Lib.hid (bw_tr B_13.out (bel_new gw14 (.cells #[.int .i64 y1, .int .i64 y2] 44)))
  clear B_13
  have one_16 := Lib.hid (up_in (bel_new gw14 (.cells #[.int .i64 y1, .int .i64 y2] 44)) one_13.out)
  clear one_13
  have two_16 := Lib.hid (up_in (bel_new gw14 (.cells #[.int .i64 y1, .int .i64 y2] 44)) two_13.out)
  clear two_13
  have m_16 := Lib.hid (MV.up m_13.out (bel_new gw14 (.cells #[.int .i64 y1, .int .i64 y2] 44)))
  clear m_13
  have cA_16 := Lib.hid (CellAt.up cA_13.out (bel_new gw14 (.cells #[.int .i64 y1, .int .i64 y2] 44)))
  clear cA_13
  have cB_16 := Lib.hid (CellAt.up cB_13.out (bel_new gw14 (.cells #[.int .i64 y1, .int .i64 y2] 44)))
  clear cB_13
  have cx1_16 := Lib.hid (CellAt.up cx1_13.out (bel_new gw14 (.cells #[.int .i64 y1, .int .i64 y2] 44)))
  clear cx1_13
  have cx2_16 := Lib.hid (CellAt.up cx2_13.out (bel_new gw14 (.cells #[.int .i64 y1, .int .i64 y2] 44)))
  clear cx2_13
  have cy1_16 := Lib.hid (CellAt.up cy1_13.out (bel_new gw14 (.cells #[.int .i64 y1, .int .i64 y2] 44)))
  clear cy1_13
  have cy2_16 := Lib.hid (CellAt.up cy2_13.out (bel_new gw14 (.cells #[.int .i64 y1, .int .i64 y2] 44)))
  clear cy2_13
  have x_16 := Lib.hid (up_in (bel_new gw14 (.cells #[.int .i64 y1, .int .i64 y2] 44)) x_12.out)
  clear x_12
  obtain ⟨gw17, hu17⟩ : ∃ u, gw14.alloc (.cells #[.int .i64 y1, .int .i64 y2] 44) = u := ⟨_, rfl⟩
  rw [hu17] at B_16 one_16 two_16 m_16 cA_16 cB_16 cx1_16 cx2_16 cy1_16 cy2_16 x_16 y_15
  rw [hu17]
  clear hu17
  obtain ⟨b_y, hq⟩ : ∃ q, gw14.heap.size = q := ⟨_, rfl⟩
  rw [hq] at y_15
  have LB_y := Lib.hid (Nat.le_trans LB_y.out (Nat.le_of_eq hq))
  have N_one_y := Lib.hid (Nat.lt_of_lt_of_le N_one_y.out (Nat.le_of_eq hq))
  have N_two_y := Lib.hid (Nat.lt_of_lt_of_le N_two_y.out (Nat.le_of_eq hq))
  have N_m_y := Lib.hid (Nat.lt_of_lt_of_le N_m_y.out (Nat.le_of_eq hq))
  have N_x_y := Lib.hid (Nat.lt_of_lt_of_le N_x_y.out (Nat.le_of_eq hq))
  rw [hq]
  clear hq
  by_cases hxy : x1 = y1
  · have qxy : (x1 == y1) = true := by simp [hxy]
    clear hxy
    have kx : gw17.cell? ⟨b_x, 0, none⟩ = some (.int .i64 x1) := cell_in x_16.out (j := 0) rfl
    have ky : gw17.cell? ⟨b_y, 0, none⟩ = some (.int .i64 y1) := cell_in y_15.out (j := 0) rfl
    go_wp2_with fail
    go_ret
    exact ⟨ret1 (rbool rfl), B_16.out⟩
  have qxy : (x1 == y1) = false := by simp [hxy]
  have HXY := Lib.hid hxy; clear hxy
  have kx : gw17.cell? ⟨b_x, 0, none⟩ = some (.int .i64 x1) := cell_in x_16.out (j := 0) rfl
  have ky : gw17.cell? ⟨b_y, 0, none⟩ = some (.int .i64 y1) := cell_in y_15.out (j := 0) rfl
  obtain ⟨⟨c00, c01, c02⟩, d00, d01, d02⟩ := six (m_16.out).1
  have t0 := mv_lt m_16.out
  obtain ⟨⟨p, pe⟩, hp⟩ : ∃ r, drainR m aa i = r := ⟨_, rfl⟩; obtain ⟨⟨q, qe⟩, hq⟩ : ∃ r, drainR m bb k = r := ⟨_, rfl⟩
  have pe2 := drain_err GD.out pA.1 pA.2 HIA.out; have qe2 := drain_err GD.out pB.1 pB.2 HKB.out
  rw [hp] at pe2; rw [hq] at qe2; simp only at pe2 qe2
  have DP := Lib.hid hp; have DQ := Lib.hid hq; have PE2 := Lib.hid pe2; have QE2 := Lib.hid qe2; clear hp hq pe2 qe2
  go_wp2_with fail
  refine (drain_lit _ m aa i (p, pe) _ m_16.out.2 SM.out DP.out).mono ?_
  rintro e w18 hr18
  obtain ⟨a181, n181, b181, a182, n182, b182, a183, n183, b183, rfl, hm18, LN18, hb18⟩ := hr18.parts
  clear kx ky c00 c01 c02 d00 d01 d02 t0
  have B_19 := Lib.hid (bw_tr B_16.out hb18)
  clear B_16
  have one_19 := Lib.hid (up_in hb18 one_16.out)
  clear one_16
  have two_19 := Lib.hid (up_in hb18 two_16.out)
  clear two_16
  have m_19 := Lib.hid (MV.up m_16.out hb18)
  clear m_16
  have cA_19 := Lib.hid (CellAt.up cA_16.out hb18)
  clear cA_16
  have cB_19 := Lib.hid (CellAt.up cB_16.out hb18)
  clear cB_16
  have cx1_19 := Lib.hid (CellAt.up cx1_16.out hb18)
  clear cx1_16
  have cx2_19 := Lib.hid (CellAt.up cx2_16.out hb18)
  clear cx2_16
  have cy1_19 := Lib.hid (CellAt.up cy1_16.out hb18)
  clear cy1_16
  have cy2_19 := Lib.hid (CellAt.up cy2_16.out hb18)
  clear cy2_16
  have x_19 := Lib.hid (up_in hb18 x_16.out)
  clear x_16
  have y_19 := Lib.hid (up_in hb18 y_15.out)
  clear y_15
  have HM18 := Lib.hid hm18; clear hm18 hb18
  go_upto_region 17 with fail
  have N_m_p := Lib.hid (mv_lt m_19.out)
  have LB_p : Hid (w.heap.size ≤ w18.heap.size) := Lib.hid (B_19.out).size
  have p_20 := Lib.hid (mv_new HM18.out)
  have B_21 := Lib.hid (bw_tr B_19.out (bel_new w18 (.cells #[.slice a181 n181 b181, .slice a182 n182 b182, .slice a183 n183 b183] 27)))
  clear B_19
  have one_21 := Lib.hid (up_in (bel_new w18 (.cells #[.slice a181 n181 b181, .slice a182 n182 b182, .slice a183 n183 b183] 27)) one_19.out)
  clear one_19
  have two_21 := Lib.hid (up_in (bel_new w18 (.cells #[.slice a181 n181 b181, .slice a182 n182 b182, .slice a183 n183 b183] 27)) two_19.out)
  clear two_19
  have m_21 := Lib.hid (MV.up m_19.out (bel_new w18 (.cells #[.slice a181 n181 b181, .slice a182 n182 b182, .slice a183 n183 b183] 27)))
  clear m_19
  have cA_21 := Lib.hid (CellAt.up cA_19.out (bel_new w18 (.cells #[.slice a181 n181 b181, .slice a182 n182 b182, .slice a183 n183 b183] 27)))
  clear cA_19
  have cB_21 := Lib.hid (CellAt.up cB_19.out (bel_new w18 (.cells #[.slice a181 n181 b181, .slice a182 n182 b182, .slice a183 n183 b183] 27)))
  clear cB_19
  have cx1_21 := Lib.hid (CellAt.up cx1_19.out (bel_new w18 (.cells #[.slice a181 n181 b181, .slice a182 n182 b182, .slice a183 n183 b183] 27)))
  clear cx1_19
  have cx2_21 := Lib.hid (CellAt.up cx2_19.out (bel_new w18 (.cells #[.slice a181 n181 b181, .slice a182 n182 b182, .slice a183 n183 b183] 27)))
  clear cx2_19
  have cy1_21 := Lib.hid (CellAt.up cy1_19.out (bel_new w18 (.cells #[.slice a181 n181 b181, .slice a182 n182 b182, .slice a183 n183 b183] 27)))
  clear cy1_19
  have cy2_21 := Lib.hid (CellAt.up cy2_19.out (bel_new w18 (.cells #[.slice a181 n181 b181, .slice a182 n182 b182, .slice a183 n183 b183] 27)))
  clear cy2_19
  have x_21 := Lib.hid (up_in (bel_new w18 (.cells #[.slice a181 n181 b181, .slice a182 n182 b182, .slice a183 n183 b183] 27)) x_19.out)
  clear x_19
  have y_21 := Lib.hid (up_in (bel_new w18 (.cells #[.slice a181 n181 b181, .slice a182 n182 b182, .slice a183 n183 b183] 27)) y_19.out)
  clear y_19
  clear HM18
  obtain ⟨gw22, hu22⟩ : ∃ u, w18.alloc (.cells #[.slice a181 n181 b181, .slice a182 n182 b182, .slice a183 n183 b183] 27) = u := ⟨_, rfl⟩
  rw [hu22] at B_21 one_21 two_21 m_21 cA_21 cB_21 cx1_21 cx2_21 cy1_21 cy2_21 x_21 y_21 p_20
  rw [hu22]
  clear hu22
  obtain ⟨b_p, hq⟩ : ∃ q, w18.heap.size = q := ⟨_, rfl⟩
  rw [hq] at p_20
  have N_m_p := Lib.hid (Nat.lt_of_lt_of_le N_m_p.out (Nat.le_of_eq hq))
  have LB_p := Lib.hid (Nat.le_trans LB_p.out (Nat.le_of_eq hq))
  rw [hq]
  clear hq
  obtain ⟨⟨c00, c01, c02⟩, d00, d01, d02⟩ := six (m_21.out).1
  have t0 := mv_lt m_21.out
  go_wp2_with fail
  refine (drain_lit _ m bb k (q, qe) _ m_21.out.2 SM.out DQ.out).mono ?_
  rintro e w23 hr23
  obtain ⟨a231, n231, b231, a232, n232, b232, a233, n233, b233, rfl, hm23, LN23, hb23⟩ := hr23.parts
  clear c00 d00 c01 d01 c02 d02 t0
  have B_24 := Lib.hid (bw_tr B_21.out hb23)
  clear B_21
  have one_24 := Lib.hid (up_in hb23 one_21.out)
  clear one_21
  have two_24 := Lib.hid (up_in hb23 two_21.out)
  clear two_21
  have m_24 := Lib.hid (MV.up m_21.out hb23)
  clear m_21
  have cA_24 := Lib.hid (CellAt.up cA_21.out hb23)
  clear cA_21
  have cB_24 := Lib.hid (CellAt.up cB_21.out hb23)
  clear cB_21
  have cx1_24 := Lib.hid (CellAt.up cx1_21.out hb23)
  clear cx1_21
  have cx2_24 := Lib.hid (CellAt.up cx2_21.out hb23)
  clear cx2_21
  have cy1_24 := Lib.hid (CellAt.up cy1_21.out hb23)
  clear cy1_21
  have cy2_24 := Lib.hid (CellAt.up cy2_21.out hb23)
  clear cy2_21
  have x_24 := Lib.hid (up_in hb23 x_21.out)
  clear x_21
  have y_24 := Lib.hid (up_in hb23 y_21.out)
  clear y_21
  have p_24 := Lib.hid (MV.up p_20.out hb23)
  clear p_20
  have HM23 := Lib.hid hm23; clear hm23 hb23
  go_upto_region 18 with fail
  have N_m_q := Lib.hid (mv_lt m_24.out)
  have N_p_q := Lib.hid (mv_lt p_24.out)
  have LB_q : Hid (w.heap.size ≤ w23.heap.size) := Lib.hid (B_24.out).size
  have q_25 := Lib.hid (mv_new HM23.out)
  have B_26 := Lib.hid (bw_tr B_24.out (bel_new w23 (.cells #[.slice a231 n231 b231, .slice a232 n232 b232, .slice a233 n233 b233] 27)))
  clear B_24
  have one_26 := Lib.hid (up_in (bel_new w23 (.cells #[.slice a231 n231 b231, .slice a232 n232 b232, .slice a233 n233 b233] 27)) one_24.out)
  clear one_24
  have two_26 := Lib.hid (up_in (bel_new w23 (.cells #[.slice a231 n231 b231, .slice a232 n232 b232, .slice a233 n233 b233] 27)) two_24.out)
  clear two_24
  have m_26 := Lib.hid (MV.up m_24.out (bel_new w23 (.cells #[.slice a231 n231 b231, .slice a232 n232 b232, .slice a233 n233 b233] 27)))
  clear m_24
  have cA_26 := Lib.hid (CellAt.up cA_24.out (bel_new w23 (.cells #[.slice a231 n231 b231, .slice a232 n232 b232, .slice a233 n233 b233] 27)))
  clear cA_24
  have cB_26 := Lib.hid (CellAt.up cB_24.out (bel_new w23 (.cells #[.slice a231 n231 b231, .slice a232 n232 b232, .slice a233 n233 b233] 27)))
  clear cB_24
  have cx1_26 := Lib.hid (CellAt.up cx1_24.out (bel_new w23 (.cells #[.slice a231 n231 b231, .slice a232 n232 b232, .slice a233 n233 b233] 27)))
  clear cx1_24
  have cx2_26 := Lib.hid (CellAt.up cx2_24.out (bel_new w23 (.cells #[.slice a231 n231 b231, .slice a232 n232 b232, .slice a233 n233 b233] 27)))
  clear cx2_24
  have cy1_26 := Lib.hid (CellAt.up cy1_24.out (bel_new w23 (.cells #[.slice a231 n231 b231, .slice a232 n232 b232, .slice a233 n233 b233] 27)))
  clear cy1_24
  have cy2_26 := Lib.hid (CellAt.up cy2_24.out (bel_new w23 (.cells #[.slice a231 n231 b231, .slice a232 n232 b232, .slice a233 n233 b233] 27)))
  clear cy2_24
  have x_26 := Lib.hid (up_in (bel_new w23 (.cells #[.slice a231 n231 b231, .slice a232 n232 b232, .slice a233 n233 b233] 27)) x_24.out)
  clear x_24
  have y_26 := Lib.hid (up_in (bel_new w23 (.cells #[.slice a231 n231 b231, .slice a232 n232 b232, .slice a233 n233 b233] 27)) y_24.out)
  clear y_24
  have p_26 := Lib.hid (MV.up p_24.out (bel_new w23 (.cells #[.slice a231 n231 b231, .slice a232 n232 b232, .slice a233 n233 b233] 27)))
  clear p_24
  clear HM23
  obtain ⟨gw27, hu27⟩ : ∃ u, w23.alloc (.cells #[.slice a231 n231 b231, .slice a232 n232 b232, .slice a233 n233 b233] 27) = u := ⟨_, rfl⟩
  rw [hu27] at B_26 one_26 two_26 m_26 cA_26 cB_26 cx1_26 cx2_26 cy1_26 cy2_26 x_26 y_26 p_26 q_25
  rw [hu27]
  clear hu27
  obtain ⟨b_q, hq⟩ : ∃ q, w23.heap.size = q := ⟨_, rfl⟩
  rw [hq] at q_25
  have N_m_q := Lib.hid (Nat.lt_of_lt_of_le N_m_q.out (Nat.le_of_eq hq))
  have N_p_q := Lib.hid (Nat.lt_of_lt_of_le N_p_q.out (Nat.le_of_eq hq))
  have LB_q := Lib.hid (Nat.le_trans LB_q.out (Nat.le_of_eq hq))
  rw [hq]
  clear hq
  clear cA_26
  clear cB_26
  clear cx1_26
  clear cx2_26
  clear cy1_26
  clear cy2_26
  clear one_26
  clear two_26
  clear x_26
  clear y_26
  obtain h9 | h9 := PE2.out
  rotate_left
  · subst h9
    go_wp2_with fail
    go_ret
    exact ⟨ret1 (rbool rfl), B_26.out⟩
  subst h9
  obtain h9 | h9 := QE2.out
  rotate_left
  · subst h9
    go_wp2_with fail
    go_ret
    exact ⟨ret1 (rbool rfl), B_26.out⟩
  subst h9
  have SP := Lib.hid ((good_drain GD.out DP.out).small (by omega) (by omega)); have SQ := Lib.hid ((good_drain GD.out DQ.out).small (by omega) (by omega))
  by_cases hab : aa = bb
  · subst hab
    have hs : (aa == aa) = true := by simp
    rcases Nat.lt_trichotomy i k with hik | hik | hik
    · obtain ⟨r, h1, h2⟩ := turns_one GD.out pA.1 pA.2 hik HX.out HY.out HXY.out DP.out DQ.out
      rw [show ((k - 1 : Nat) : Int) = (k : Int) - 1 by omega] at h1
      have E1 := Lib.hid h1; have E2 := Lib.hid h2; clear h1 h2
      have l1 : decide ((i : Int) < k) = true := by simp; omega
      have l2 : decide ((k : Int) < i) = false := by simp; omega
      have SR := Lib.hid ((good_drain (good_drain GD.out DP.out) E1.out).small (by omega) (by omega))
      obtain ⟨⟨c00, c01, c02⟩, d00, d01, d02⟩ := six (p_26.out).1
      have t0 := mv_lt p_26.out
      go_wp2_with fail
      refine (drain_lit _ p aa ((k : Int) - 1) (r, 0) _ p_26.out.2 SP.out E1.out).mono ?_
      rintro e w28 hr28
      obtain ⟨a281, n281, b281, a282, n282, b282, a283, n283, b283, rfl, hm28, LN28, hb28⟩ := hr28.parts
      clear c00 d00 c01 d01 c02 d02 t0
      have B_29 := Lib.hid (bw_tr B_26.out hb28)
      clear B_26
      have m_29 := Lib.hid (MV.up m_26.out hb28)
      clear m_26
      have p_29 := Lib.hid (MV.up p_26.out hb28)
      clear p_26
      have q_29 := Lib.hid (MV.up q_25.out hb28)
      clear q_25
      have HM28 := Lib.hid hm28; clear hm28 hb28
      obtain ⟨⟨c00, c01, c02⟩, d00, d01, d02⟩ := six (p_29.out).1
      have t0 := mv_lt p_29.out
      go_upto_region 27 with fail
      clear c00 d00 c01 d01 c02 d02 t0
      have B_30 := Lib.hid (bel_set3 (x := .slice a281 n281 b281) (y := .slice a282 n282 b282) (z := .slice a283 n283 b283) B_29.out (LB_p.out))
      have m_31 := Lib.hid (mv_other (.slice a281 n281 b281) (.slice a282 n282 b282) (.slice a283 n283 b283) m_29.out p_29.out (Nat.ne_of_lt N_m_p.out))
      have p_32 := Lib.hid (mv_set p_29.out HM28.out)
      have q_33 := Lib.hid (mv_other (.slice a281 n281 b281) (.slice a282 n282 b282) (.slice a283 n283 b283) q_29.out p_29.out (Ne.symm (Nat.ne_of_lt N_p_q.out)))
      clear B_29
      clear m_29
      clear p_29
      clear q_29
      clear HM28
      obtain ⟨gw34, hu34⟩ : ∃ u, ((w28.setCell ⟨b_p, 0, none⟩ (.slice a281 n281 b281)).setCell ⟨b_p, 1, none⟩ (.slice a282 n282 b282)).setCell ⟨b_p, 2, none⟩ (.slice a283 n283 b283) = u := ⟨_, rfl⟩
      rw [hu34] at B_30 m_31 p_32 q_33
      rw [hu34]
      clear hu34
      obtain ⟨⟨c00, c01, c02⟩, d00, d01, d02⟩ := six (q_33.out).1
      have t0 := mv_lt q_33.out
      go_wp2_with fail
      refine (drain_lit _ q aa ((i : Int)) (r, 0) _ q_33.out.2 SQ.out E2.out).mono ?_
      rintro e w35 hr35
      obtain ⟨a351, n351, b351, a352, n352, b352, a353, n353, b353, rfl, hm35, LN35, hb35⟩ := hr35.parts
      clear c00 d00 c01 d01 c02 d02 t0
      have B_36 := Lib.hid (bw_tr B_30.out hb35)
      clear B_30
      have m_36 := Lib.hid (MV.up m_31.out hb35)
      clear m_31
      have p_36 := Lib.hid (MV.up p_32.out hb35)
      clear p_32
      have q_36 := Lib.hid (MV.up q_33.out hb35)
      clear q_33
      have HM35 := Lib.hid hm35; clear hm35 hb35
      obtain ⟨⟨c00, c01, c02⟩, d00, d01, d02⟩ := six (q_36.out).1
      have t0 := mv_lt q_36.out
      go_upto_region 28 with fail
      clear c00 d00 c01 d01 c02 d02 t0
      have B_37 := Lib.hid (bel_set3 (x := .slice a351 n351 b351) (y := .slice a352 n352 b352) (z := .slice a353 n353 b353) B_36.out (LB_q.out))
      have m_38 := Lib.hid (mv_other (.slice a351 n351 b351) (.slice a352 n352 b352) (.slice a353 n353 b353) m_36.out q_36.out (Nat.ne_of_lt N_m_q.out))
      have p_39 := Lib.hid (mv_other (.slice a351 n351 b351) (.slice a352 n352 b352) (.slice a353 n353 b353) p_36.out q_36.out (Nat.ne_of_lt N_p_q.out))
      have q_40 := Lib.hid (mv_set q_36.out HM35.out)
      clear B_36
      clear m_36
      clear p_36
      clear q_36
      clear HM35
      obtain ⟨gw41, hu41⟩ : ∃ u, ((w35.setCell ⟨b_q, 0, none⟩ (.slice a351 n351 b351)).setCell ⟨b_q, 1, none⟩ (.slice a352 n352 b352)).setCell ⟨b_q, 2, none⟩ (.slice a353 n353 b353) = u := ⟨_, rfl⟩
      rw [hu41] at B_37 m_38 p_39 q_40
      rw [hu41]
      clear hu41
      obtain ⟨⟨c00, c01, c02⟩, d00, d01, d02⟩ := six (p_39.out).1
      have t0 := mv_lt p_39.out
      obtain ⟨⟨c10, c11, c12⟩, d10, d11, d12⟩ := six (q_40.out).1
      have t1 := mv_lt q_40.out
      go_wp2_with fail
      refine (samem_lit _ _ r r true _ p_39.out.2 q_40.out.2 (by simp)).mono ?_
      rintro e w42 ⟨rfl, hb42⟩
      clear c00 d00 c01 d01 c02 d02 c10 d10 c11 d11 c12 d12 t0 t1
      have B_43 := Lib.hid (bw_tr B_37.out hb42)
      clear B_37
      have m_43 := Lib.hid (MV.up m_38.out hb42)
      clear m_38
      have p_43 := Lib.hid (MV.up p_39.out hb42)
      clear p_39
      have q_43 := Lib.hid (MV.up q_40.out hb42)
      clear q_40
      clear hb42
      go_wp2_with fail
      go_ret
      exact ⟨ret1 (rbool rfl), B_43.out⟩
    · exfalso; subst hik; have := HX.out.symm.trans HY.out; injection this with this; injection this with this _; exact HXY.out this
    · obtain ⟨r, h2, h1⟩ := turns_one GD.out pA.1 pA.2 hik HY.out HX.out (Ne.symm HXY.out) DQ.out DP.out
      rw [show ((i - 1 : Nat) : Int) = (i : Int) - 1 by omega] at h2
      have E1 := Lib.hid h1; have E2 := Lib.hid h2; clear h1 h2
      have l1 : decide ((i : Int) < k) = false := by simp; omega
      have l2 : decide ((k : Int) < i) = true := by simp; omega
      have SR := Lib.hid ((good_drain (good_drain GD.out DP.out) E1.out).small (by omega) (by omega))
      obtain ⟨⟨c00, c01, c02⟩, d00, d01, d02⟩ := six (p_26.out).1
      have t0 := mv_lt p_26.out
      go_wp2_with fail
      refine (drain_lit _ p aa ((k : Int)) (r, 0) _ p_26.out.2 SP.out E1.out).mono ?_
      rintro e w44 hr44
      obtain ⟨a441, n441, b441, a442, n442, b442, a443, n443, b443, rfl, hm44, LN44, hb44⟩ := hr44.parts
      clear c00 d00 c01 d01 c02 d02 t0
      have B_45 := Lib.hid (bw_tr B_26.out hb44)
      clear B_26
      have m_45 := Lib.hid (MV.up m_26.out hb44)
      clear m_26
      have p_45 := Lib.hid (MV.up p_26.out hb44)
      clear p_26
      have q_45 := Lib.hid (MV.up q_25.out hb44)
      clear q_25
      have HM44 := Lib.hid hm44; clear hm44 hb44
      obtain ⟨⟨c00, c01, c02⟩, d00, d01, d02⟩ := six (p_45.out).1
      have t0 := mv_lt p_45.out
      go_upto_region 27 with fail
      clear c00 d00 c01 d01 c02 d02 t0
      have B_46 := Lib.hid (bel_set3 (x := .slice a441 n441 b441) (y := .slice a442 n442 b442) (z := .slice a443 n443 b443) B_45.out (LB_p.out))
      have m_47 := Lib.hid (mv_other (.slice a441 n441 b441) (.slice a442 n442 b442) (.slice a443 n443 b443) m_45.out p_45.out (Nat.ne_of_lt N_m_p.out))
      have p_48 := Lib.hid (mv_set p_45.out HM44.out)
      have q_49 := Lib.hid (mv_other (.slice a441 n441 b441) (.slice a442 n442 b442) (.slice a443 n443 b443) q_45.out p_45.out (Ne.symm (Nat.ne_of_lt N_p_q.out)))
      clear B_45
      clear m_45
      clear p_45
      clear q_45
      clear HM44
      obtain ⟨gw50, hu50⟩ : ∃ u, ((w44.setCell ⟨b_p, 0, none⟩ (.slice a441 n441 b441)).setCell ⟨b_p, 1, none⟩ (.slice a442 n442 b442)).setCell ⟨b_p, 2, none⟩ (.slice a443 n443 b443) = u := ⟨_, rfl⟩
      rw [hu50] at B_46 m_47 p_48 q_49
      rw [hu50]
      clear hu50
      obtain ⟨⟨c00, c01, c02⟩, d00, d01, d02⟩ := six (q_49.out).1
      have t0 := mv_lt q_49.out
      go_wp2_with fail
      refine (drain_lit _ q aa ((i : Int) - 1) (r, 0) _ q_49.out.2 SQ.out E2.out).mono ?_
      rintro e w51 hr51
      obtain ⟨a511, n511, b511, a512, n512, b512, a513, n513, b513, rfl, hm51, LN51, hb51⟩ := hr51.parts
      clear c00 d00 c01 d01 c02 d02 t0
      have B_52 := Lib.hid (bw_tr B_46.out hb51)
      clear B_46
      have m_52 := Lib.hid (MV.up m_47.out hb51)
      clear m_47
      have p_52 := Lib.hid (MV.up p_48.out hb51)
      clear p_48
      have q_52 := Lib.hid (MV.up q_49.out hb51)
      clear q_49
      have HM51 := Lib.hid hm51; clear hm51 hb51
      obtain ⟨⟨c00, c01, c02⟩, d00, d01, d02⟩ := six (q_52.out).1
      have t0 := mv_lt q_52.out
      go_upto_region 28 with fail
      clear c00 d00 c01 d01 c02 d02 t0
      have B_53 := Lib.hid (bel_set3 (x := .slice a511 n511 b511) (y := .slice a512 n512 b512) (z := .slice a513 n513 b513) B_52.out (LB_q.out))
      have m_54 := Lib.hid (mv_other (.slice a511 n511 b511) (.slice a512 n512 b512) (.slice a513 n513 b513) m_52.out q_52.out (Nat.ne_of_lt N_m_q.out))
      have p_55 := Lib.hid (mv_other (.slice a511 n511 b511) (.slice a512 n512 b512) (.slice a513 n513 b513) p_52.out q_52.out (Nat.ne_of_lt N_p_q.out))
      have q_56 := Lib.hid (mv_set q_52.out HM51.out)
      clear B_52
      clear m_52
      clear p_52
      clear q_52
      clear HM51
      obtain ⟨gw57, hu57⟩ : ∃ u, ((w51.setCell ⟨b_q, 0, none⟩ (.slice a511 n511 b511)).setCell ⟨b_q, 1, none⟩ (.slice a512 n512 b512)).setCell ⟨b_q, 2, none⟩ (.slice a513 n513 b513) = u := ⟨_, rfl⟩
      rw [hu57] at B_53 m_54 p_55 q_56
      rw [hu57]
      clear hu57
      obtain ⟨⟨c00, c01, c02⟩, d00, d01, d02⟩ := six (p_55.out).1
      have t0 := mv_lt p_55.out
      obtain ⟨⟨c10, c11, c12⟩, d10, d11, d12⟩ := six (q_56.out).1
      have t1 := mv_lt q_56.out
      go_wp2_with fail
      refine (samem_lit _ _ r r true _ p_55.out.2 q_56.out.2 (by simp)).mono ?_
      rintro e w58 ⟨rfl, hb58⟩
      clear c00 d00 c01 d01 c02 d02 c10 d10 c11 d11 c12 d12 t0 t1
      have B_59 := Lib.hid (bw_tr B_53.out hb58)
      clear B_53
      have m_59 := Lib.hid (MV.up m_54.out hb58)
      clear m_54
      have p_59 := Lib.hid (MV.up p_55.out hb58)
      clear p_55
      have q_59 := Lib.hid (MV.up q_56.out hb58)
      clear q_56
      clear hb58
      go_wp2_with fail
      go_ret
      exact ⟨ret1 (rbool rfl), B_59.out⟩
  · have hs : (aa == bb) = false := by simp [hab]
    obtain ⟨r, h1, h2⟩ := turns_two GD.out pA.1 pA.2 pB.1 pB.2 hab HX.out HY.out HXY.out DP.out DQ.out
    have E1 := Lib.hid h1; have E2 := Lib.hid h2; clear h1 h2 hab
    have SR := Lib.hid ((good_drain (good_drain GD.out DP.out) E1.out).small (by omega) (by omega))
    obtain ⟨⟨c00, c01, c02⟩, d00, d01, d02⟩ := six (p_26.out).1
    have t0 := mv_lt p_26.out
    go_wp2_with fail
    refine (drain_lit _ p bb ((k : Int)) (r, 0) _ p_26.out.2 SP.out E1.out).mono ?_
    rintro e w60 hr60
    obtain ⟨a601, n601, b601, a602, n602, b602, a603, n603, b603, rfl, hm60, LN60, hb60⟩ := hr60.parts
    clear c00 d00 c01 d01 c02 d02 t0
    have B_61 := Lib.hid (bw_tr B_26.out hb60)
    clear B_26
    have m_61 := Lib.hid (MV.up m_26.out hb60)
    clear m_26
    have p_61 := Lib.hid (MV.up p_26.out hb60)
    clear p_26
    have q_61 := Lib.hid (MV.up q_25.out hb60)
    clear q_25
    have HM60 := Lib.hid hm60; clear hm60 hb60
    obtain ⟨⟨c00, c01, c02⟩, d00, d01, d02⟩ := six (p_61.out).1
    have t0 := mv_lt p_61.out
    go_upto_region 27 with fail
    clear c00 d00 c01 d01 c02 d02 t0
    have B_62 := Lib.hid (bel_set3 (x := .slice a601 n601 b601) (y := .slice a602 n602 b602) (z := .slice a603 n603 b603) B_61.out (LB_p.out))
    have m_63 := Lib.hid (mv_other (.slice a601 n601 b601) (.slice a602 n602 b602) (.slice a603 n603 b603) m_61.out p_61.out (Nat.ne_of_lt N_m_p.out))
    have p_64 := Lib.hid (mv_set p_61.out HM60.out)
    have q_65 := Lib.hid (mv_other (.slice a601 n601 b601) (.slice a602 n602 b602) (.slice a603 n603 b603) q_61.out p_61.out (Ne.symm (Nat.ne_of_lt N_p_q.out)))
    clear B_61
    clear m_61
    clear p_61
    clear q_61
    clear HM60
    obtain ⟨gw66, hu66⟩ : ∃ u, ((w60.setCell ⟨b_p, 0, none⟩ (.slice a601 n601 b601)).setCell ⟨b_p, 1, none⟩ (.slice a602 n602 b602)).setCell ⟨b_p, 2, none⟩ (.slice a603 n603 b603) = u := ⟨_, rfl⟩
    rw [hu66] at B_62 m_63 p_64 q_65
    rw [hu66]
    clear hu66
    obtain ⟨⟨c00, c01, c02⟩, d00, d01, d02⟩ := six (q_65.out).1
    have t0 := mv_lt q_65.out
    go_wp2_with fail
    refine (drain_lit _ q aa ((i : Int)) (r, 0) _ q_65.out.2 SQ.out E2.out).mono ?_
    rintro e w67 hr67
    obtain ⟨a671, n671, b671, a672, n672, b672, a673, n673, b673, rfl, hm67, LN67, hb67⟩ := hr67.parts
    clear c00 d00 c01 d01 c02 d02 t0
    have B_68 := Lib.hid (bw_tr B_62.out hb67)
    clear B_62
    have m_68 := Lib.hid (MV.up m_63.out hb67)
    clear m_63
    have p_68 := Lib.hid (MV.up p_64.out hb67)
    clear p_64
    have q_68 := Lib.hid (MV.up q_65.out hb67)
    clear q_65
    have HM67 := Lib.hid hm67; clear hm67 hb67
    obtain ⟨⟨c00, c01, c02⟩, d00, d01, d02⟩ := six (q_68.out).1
    have t0 := mv_lt q_68.out
    go_upto_region 28 with fail
    clear c00 d00 c01 d01 c02 d02 t0
    have B_69 := Lib.hid (bel_set3 (x := .slice a671 n671 b671) (y := .slice a672 n672 b672) (z := .slice a673 n673 b673) B_68.out (LB_q.out))
    have m_70 := Lib.hid (mv_other (.slice a671 n671 b671) (.slice a672 n672 b672) (.slice a673 n673 b673) m_68.out q_68.out (Nat.ne_of_lt N_m_q.out))
    have p_71 := Lib.hid (mv_other (.slice a671 n671 b671) (.slice a672 n672 b672) (.slice a673 n673 b673) p_68.out q_68.out (Nat.ne_of_lt N_p_q.out))
    have q_72 := Lib.hid (mv_set q_68.out HM67.out)
    clear B_68
    clear m_68
    clear p_68
    clear q_68
    clear HM67
    obtain ⟨gw73, hu73⟩ : ∃ u, ((w67.setCell ⟨b_q, 0, none⟩ (.slice a671 n671 b671)).setCell ⟨b_q, 1, none⟩ (.slice a672 n672 b672)).setCell ⟨b_q, 2, none⟩ (.slice a673 n673 b673) = u := ⟨_, rfl⟩
    rw [hu73] at B_69 m_70 p_71 q_72
    rw [hu73]
    clear hu73
    obtain ⟨⟨c00, c01, c02⟩, d00, d01, d02⟩ := six (p_71.out).1
    have t0 := mv_lt p_71.out
    obtain ⟨⟨c10, c11, c12⟩, d10, d11, d12⟩ := six (q_72.out).1
    have t1 := mv_lt q_72.out
    go_wp2_with fail
    refine (samem_lit _ _ r r true _ p_71.out.2 q_72.out.2 (by simp)).mono ?_
    rintro e w74 ⟨rfl, hb74⟩
    clear c00 d00 c01 d01 c02 d02 c10 d10 c11 d11 c12 d12 t0 t1
    have B_75 := Lib.hid (bw_tr B_69.out hb74)
    clear B_69
    have m_75 := Lib.hid (MV.up m_70.out hb74)
    clear m_70
    have p_75 := Lib.hid (MV.up p_71.out hb74)
    clear p_71
    have q_75 := Lib.hid (MV.up q_72.out hb74)
    clear q_72
    clear hb74
    go_wp2_with fail
    go_ret
    exact ⟨ret1 (rbool rfl), B_75.out⟩
end Go.Proofs.Ytkhobelceghgfaa
