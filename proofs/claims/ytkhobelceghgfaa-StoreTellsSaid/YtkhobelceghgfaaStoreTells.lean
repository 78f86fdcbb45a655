/-
  The walk of the law StoreTells (printed by gen_tells.py).
-/
import Derived.Test.YtkhobelceghgfaaTellsMath
import Derived.Deep.CutBlock
import Derived.Deep.DeepCutAuto
namespace Go.Proofs.Ytkhobelceghgfaa
open Go.RowKit
set_option maxHeartbeats 16000000 in
set_option maxRecDepth 100000 in
theorem walkStoreTells (harts words : Int) (v : Value) (raw : List R4) (w : World) (hi1 : I64 harts) (hi2 : I64 words) (hv : ArgS 4 c4 w v raw) (hok : ∀ r ∈ raw, ok4 r) :
    Calls Try.prog 7 #[.int .i64 harts, .int .i64 words, v] w fun e w' => e = .returned (.bool true) ∧ Below w.heap.size w w' := by
  obtain ⟨a, len, cap, rfl, h⟩ := rows4_of hv hok
  have H := Lib.hid h; have J1 := Lib.hid hi1; have J2 := Lib.hid hi2
  obtain ⟨_, _, hlc, hcm, _⟩ := h
  unfold maxLen at hcm
  clear hv hok hi1 hi2
  have p4 := pickN_bd harts 4 (by decide); have p5 := pickN_bd words 5 (by decide)
  obtain ⟨P, hp⟩ : ∃ p : Nat, pickN harts 4 = p := ⟨(pickN harts 4).toNat, by omega⟩
  obtain ⟨Q, hq⟩ : ∃ q : Nat, pickN words 5 = q := ⟨(pickN words 5).toNat, by omega⟩
  rw [hp] at p4; rw [hq] at p5
  have DP := Lib.hid hp; have DQ := Lib.hid hq; clear hp hq
  have NR := Lib.hid (newR_tell P Q (by omega) (by omega))
  obtain ⟨⟨am, ae⟩, har⟩ : ∃ r, newR harts words = r := ⟨_, rfl⟩
  have AR := Lib.hid har; clear har
  have ab : (ae != ae) = false := by simp
  have HB : Hid (Below w.heap.size w w) := Lib.hid (Below.refl _ _)
  go_enter Try.func7, Try.ntmps7
  go_wp2_with fail
  refine (awake11 _).mono ?_
  rintro e w1 ⟨rfl, hb1⟩
  have B_2 := Lib.hid (bw_tr HB.out hb1)
  clear HB
  clear hb1
  go_wp2_with fail
  refine (new_lit harts words (am, ae) _ AR.out).mono ?_
  rintro e w3 hr3
  obtain ⟨a31, n31, b31, a32, n32, b32, a33, n33, b33, rfl, hm3, LN3, hb3⟩ := hr3.parts
  have B_4 := Lib.hid (bw_tr B_2.out hb3)
  clear B_2
  have HM3 := Lib.hid hm3; clear hm3 hb3
  go_upto_region 3 with (fail)
  have LB_a : Hid (w.heap.size ≤ w3.heap.size) := Lib.hid (B_4.out).size
  have a_5 := Lib.hid (mv_new HM3.out)
  have B_6 := Lib.hid (bw_tr B_4.out (bel_new w3 (.cells #[.slice a31 n31 b31, .slice a32 n32 b32, .slice a33 n33 b33] 27)))
  clear B_4
  clear HM3
  obtain ⟨gw7, hu7⟩ : ∃ u, w3.alloc (.cells #[.slice a31 n31 b31, .slice a32 n32 b32, .slice a33 n33 b33] 27) = u := ⟨_, rfl⟩
  rw [hu7] at B_6 a_5
  rw [hu7]
  clear hu7
  obtain ⟨b_a, hq⟩ : ∃ q, w3.heap.size = q := ⟨_, rfl⟩
  rw [hq] at a_5
  have LB_a := Lib.hid (Nat.le_trans LB_a.out (Nat.le_of_eq hq))
  rw [hq]
  clear hq
  go_wp2_with fail
  refine (rnew_lit harts words (am, ae) _ AR.out).mono ?_
  rintro e w8 hr8
  obtain ⟨a81, n81, b81, a82, n82, b82, a83, n83, b83, rfl, hm8, LN8, hb8⟩ := hr8.parts
  have B_9 := Lib.hid (bw_tr B_6.out hb8)
  clear B_6
  have a_9 := Lib.hid (MV.up a_5.out hb8)
  clear a_5
  have HM8 := Lib.hid hm8; clear hm8 hb8
  go_upto_region 4 with (fail)
  have N_a_b := Lib.hid (mv_lt a_9.out)
  have LB_b : Hid (w.heap.size ≤ w8.heap.size) := Lib.hid (B_9.out).size
  have b_10 := Lib.hid (mv_new HM8.out)
  have B_11 := Lib.hid (bw_tr B_9.out (bel_new w8 (.cells #[.slice a81 n81 b81, .slice a82 n82 b82, .slice a83 n83 b83] 27)))
  clear B_9
  have a_11 := Lib.hid (MV.up a_9.out (bel_new w8 (.cells #[.slice a81 n81 b81, .slice a82 n82 b82, .slice a83 n83 b83] 27)))
  clear a_9
  clear HM8
  obtain ⟨gw12, hu12⟩ : ∃ u, w8.alloc (.cells #[.slice a81 n81 b81, .slice a82 n82 b82, .slice a83 n83 b83] 27) = u := ⟨_, rfl⟩
  rw [hu12] at B_11 a_11 b_10
  rw [hu12]
  clear hu12
  obtain ⟨b_b, hq⟩ : ∃ q, w8.heap.size = q := ⟨_, rfl⟩
  rw [hq] at b_10
  have N_a_b := Lib.hid (Nat.lt_of_lt_of_le N_a_b.out (Nat.le_of_eq hq))
  have LB_b := Lib.hid (Nat.le_trans LB_b.out (Nat.le_of_eq hq))
  rw [hq]
  clear hq
  obtain ⟨⟨c00, c01, c02⟩, d00, d01, d02⟩ := six (a_11.out).1
  have t0 := mv_lt a_11.out
  obtain ⟨⟨c10, c11, c12⟩, d10, d11, d12⟩ := six (b_10.out).1
  have t1 := mv_lt b_10.out
  go_wp2_with fail
  refine (rsame_lit _ _ am am true _ a_11.out.2 b_10.out.2 (by simp)).mono ?_
  rintro e w13 ⟨rfl, hb13⟩
  clear c00 d00 c01 d01 c02 d02 c10 d10 c11 d11 c12 d12 t0 t1
  have B_14 := Lib.hid (bw_tr B_11.out hb13)
  clear B_11
  have a_14 := Lib.hid (MV.up a_11.out hb13)
  clear a_11
  have b_14 := Lib.hid (MV.up b_10.out hb13)
  clear b_10
  clear hb13
  obtain ⟨⟨c00, c01, c02⟩, d00, d01, d02⟩ := six (a_14.out).1
  have t0 := mv_lt a_14.out
  obtain ⟨⟨c10, c11, c12⟩, d10, d11, d12⟩ := six (b_14.out).1
  have t1 := mv_lt b_14.out
  go_wp2_with fail
  refine (samem_lit _ _ am am true _ a_14.out.2 b_14.out.2 (by simp)).mono ?_
  rintro e w15 ⟨rfl, hb15⟩
  clear c00 d00 c01 d01 c02 d02 c10 d10 c11 d11 c12 d12 t0 t1
  have B_16 := Lib.hid (bw_tr B_14.out hb15)
  clear B_14
  have a_16 := Lib.hid (MV.up a_14.out hb15)
  clear a_14
  have b_16 := Lib.hid (MV.up b_14.out hb15)
  clear b_14
  clear hb15
  clear ab a_16 b_16
  go_wp2_with (first | (go_at_call 12; (with_reducible refine (pick11 _ _ _ _ J1.out (by decide) DP.out).mono ?_); rintro e w' ⟨rfl, rfl⟩) | (go_at_call 12; (with_reducible refine (pick11 _ _ _ _ J2.out (by decide) DQ.out).mono ?_); rintro e w' ⟨rfl, rfl⟩))
  refine (new_lit (1 + P) Q (newMem (1 + P) Q, 0) _ NR.out).mono ?_
  rintro e w17 hr17
  obtain ⟨a171, n171, b171, a172, n172, b172, a173, n173, b173, rfl, hm17, LN17, hb17⟩ := hr17.parts
  have B_18 := Lib.hid (bw_tr B_16.out hb17)
  clear B_16
  have HM17 := Lib.hid hm17; clear hm17 hb17
  go_upto_region 7 with (fail)
  have LB_m : Hid (w.heap.size ≤ w17.heap.size) := Lib.hid (B_18.out).size
  have m_19 := Lib.hid (mv_new HM17.out)
  have B_20 := Lib.hid (bw_tr B_18.out (bel_new w17 (.cells #[.slice a171 n171 b171, .slice a172 n172 b172, .slice a173 n173 b173] 27)))
  clear B_18
  clear HM17
  obtain ⟨gw21, hu21⟩ : ∃ u, w17.alloc (.cells #[.slice a171 n171 b171, .slice a172 n172 b172, .slice a173 n173 b173] 27) = u := ⟨_, rfl⟩
  rw [hu21] at B_20 m_19
  rw [hu21]
  clear hu21
  obtain ⟨b_m, hq⟩ : ∃ q, w17.heap.size = q := ⟨_, rfl⟩
  rw [hq] at m_19
  have LB_m := Lib.hid (Nat.le_trans LB_m.out (Nat.le_of_eq hq))
  rw [hq]
  clear hq
  obtain ⟨HH, hHH⟩ : ∃ n, 1 + P = n := ⟨_, rfl⟩
  have RA : Hid (TellAt gw21 b_m HH Q) := Lib.hid ⟨_, _, _, _, m_19.out, by rw [← hHH]; exact good_new _ _, wok_new _ _⟩
  have hHQ : HH ≤ 4 ∧ Q ≤ 4 := (by omega)
  clear hHH NR AR DP DQ p4 p5 m_19
  go_wp2_with fail
  go_loopw [13] (fun i wr => ∃ j : Nat, j ≤ len ∧ j ≤ 40 ∧ i = .int .i64 j ∧ TellAt wr b_m HH Q ∧ Below w.heap.size w wr) (fun i _ => len - (intOf i).toNat)
  case atStart => exact ⟨0, Nat.zero_le _, Nat.zero_le _, rfl, RA.out, B_20.out⟩
  case round =>
    obtain ⟨j, hj, hj40, rfl, hra, hbb⟩ := hrel
    have HBR := Lib.hid hbb
    by_cases hc1 : j < len
    rotate_left
    · clear hra hbb
      go_wp2_with fail
      go_ret
      exact ⟨ret1 (rbool rfl), HBR.out⟩
    by_cases hc2 : j < 40
    rotate_left
    · clear hra hbb
      go_wp2_with fail
      go_ret
      exact ⟨ret1 (rbool rfl), HBR.out⟩
    obtain ⟨x, y, z, m, hm, hgd, hwk⟩ := hra
    have HM := Lib.hid hm; have GD := Lib.hid hgd; have WK := Lib.hid hwk; clear hm hgd hwk hbb RA
    obtain ⟨a221, n221, c221, a222, n222, c222, a223, n223, c223, rfl, rfl, rfl, LN22⟩ := (HM.out).shape
    have SM := Lib.hid (GD.out.small (by omega) (by omega))
    obtain ⟨b, o, r0, r1, r2, r3, rfl, hbl, hrow, ⟨i0, i1, i2, i3⟩, g0, g1, g2, g3⟩ := H.out.row hc1
    have G0 := Lib.hid g0; have I0 := Lib.hid i0
    have G1 := Lib.hid g1; have I1 := Lib.hid i1
    have G2 := Lib.hid g2; have I2 := Lib.hid i2
    have G3 := Lib.hid g3; have I3 := Lib.hid i3
    clear g0 g1 g2 g3 i0 i1 i2 i3 hrow
    have p6 := pickN_bd r1 6 (by decide); have p7 := pickN_bd r2 7 (by decide); have p8 := pickN_bd r0 8 (by decide); have p20 := pickN_bd r3 20 (by decide)
    generalize hd6 : pickN r1 6 = d6 at *; generalize hd7 : pickN r2 7 = d7 at *; generalize hd8 : pickN r0 8 = d8 at *; generalize hd20 : pickN r3 20 = d20 at *
    have D6 := Lib.hid hd6; have D7 := Lib.hid hd7; have D8 := Lib.hid hd8; have D20 := Lib.hid hd20; clear hd6 hd7 hd8 hd20
    have w6 : IntKind.i64.wrap (d6 - 1) = d6 - 1 := IntWalk.i64_in _ (by omega); have w7 : IntKind.i64.wrap (d7 - 1) = d7 - 1 := IntWalk.i64_in _ (by omega); have w20 : IntKind.i64.wrap (d20 - 1) = d20 - 1 := IntWalk.i64_in _ (by omega)
    have X0_0 := Lib.hid (show CellAt _ _ _ _ from ⟨Nat.lt_of_lt_of_le hbl HBR.out.size, rd_cell HBR.out hbl G0.out⟩)
    have X1_0 := Lib.hid (show CellAt _ _ _ _ from ⟨Nat.lt_of_lt_of_le hbl HBR.out.size, rd_cell HBR.out hbl G1.out⟩)
    have X2_0 := Lib.hid (show CellAt _ _ _ _ from ⟨Nat.lt_of_lt_of_le hbl HBR.out.size, rd_cell HBR.out hbl G2.out⟩)
    have X3_0 := Lib.hid (show CellAt _ _ _ _ from ⟨Nat.lt_of_lt_of_le hbl HBR.out.size, rd_cell HBR.out hbl G3.out⟩)
    clear G0 G1 G2 G3
    obtain ⟨⟨c00, c01, c02⟩, d00, d01, d02⟩ := six (HM.out).1
    have t0 := mv_lt HM.out
    obtain ⟨tX1, vX1⟩ := X1_0.out
    obtain ⟨tX2, vX2⟩ := X2_0.out
    obtain ⟨tX3, vX3⟩ := X3_0.out
    go_upto_region 16 with (first | (go_at_call 12; (with_reducible refine (pick11 _ _ _ _ I1.out (by decide) D6.out).mono ?_); rintro e w' ⟨rfl, rfl⟩) | (go_at_call 12; (with_reducible refine (pick11 _ _ _ _ I2.out (by decide) D7.out).mono ?_); rintro e w' ⟨rfl, rfl⟩))
    clear c00 d00 c01 d01 c02 d02 t0 tX1 vX1 tX2 vX2 tX3 vX3
    have LB_p := Lib.hid (HBR.out).size
    have N_m_p := Lib.hid (mv_lt HM.out)
    have p_23 := Lib.hid (mv_new HM.out.2)
    have B_24 := Lib.hid (bw_tr HBR.out (bel_new wr (.cells #[.slice a221 n221 c221, .slice a222 n222 c222, .slice a223 n223 c223] 27)))
    clear HBR
    have m_24 := Lib.hid (MV.up HM.out (bel_new wr (.cells #[.slice a221 n221 c221, .slice a222 n222 c222, .slice a223 n223 c223] 27)))
    clear HM
    have X0_24 := Lib.hid (CellAt.up X0_0.out (bel_new wr (.cells #[.slice a221 n221 c221, .slice a222 n222 c222, .slice a223 n223 c223] 27)))
    clear X0_0
    have X1_24 := Lib.hid (CellAt.up X1_0.out (bel_new wr (.cells #[.slice a221 n221 c221, .slice a222 n222 c222, .slice a223 n223 c223] 27)))
    clear X1_0
    have X2_24 := Lib.hid (CellAt.up X2_0.out (bel_new wr (.cells #[.slice a221 n221 c221, .slice a222 n222 c222, .slice a223 n223 c223] 27)))
    clear X2_0
    have X3_24 := Lib.hid (CellAt.up X3_0.out (bel_new wr (.cells #[.slice a221 n221 c221, .slice a222 n222 c222, .slice a223 n223 c223] 27)))
    clear X3_0
    obtain ⟨gw25, hu25⟩ : ∃ u, wr.alloc (.cells #[.slice a221 n221 c221, .slice a222 n222 c222, .slice a223 n223 c223] 27) = u := ⟨_, rfl⟩
    rw [hu25] at B_24 m_24 X0_24 X1_24 X2_24 X3_24 p_23
    rw [hu25]
    clear hu25
    obtain ⟨b_p, hq⟩ : ∃ q, wr.heap.size = q := ⟨_, rfl⟩
    rw [hq] at p_23
    have LB_p := Lib.hid (Nat.le_trans LB_p.out (Nat.le_of_eq hq))
    have N_m_p := Lib.hid (Nat.lt_of_lt_of_le N_m_p.out (Nat.le_of_eq hq))
    rw [hq]
    clear hq
    obtain ⟨⟨c00, c01, c02⟩, d00, d01, d02⟩ := six (m_24.out).1
    have t0 := mv_lt m_24.out
    go_upto_region 17 with fail
    clear c00 d00 c01 d01 c02 d02 t0
    have LB_q := Lib.hid (B_24.out).size
    have N_m_q := Lib.hid (mv_lt m_24.out)
    have N_p_q := Lib.hid (mv_lt p_23.out)
    have q_26 := Lib.hid (mv_new m_24.out.2)
    have B_27 := Lib.hid (bw_tr B_24.out (bel_new gw25 (.cells #[.slice a221 n221 c221, .slice a222 n222 c222, .slice a223 n223 c223] 27)))
    clear B_24
    have m_27 := Lib.hid (MV.up m_24.out (bel_new gw25 (.cells #[.slice a221 n221 c221, .slice a222 n222 c222, .slice a223 n223 c223] 27)))
    clear m_24
    have X0_27 := Lib.hid (CellAt.up X0_24.out (bel_new gw25 (.cells #[.slice a221 n221 c221, .slice a222 n222 c222, .slice a223 n223 c223] 27)))
    clear X0_24
    have X1_27 := Lib.hid (CellAt.up X1_24.out (bel_new gw25 (.cells #[.slice a221 n221 c221, .slice a222 n222 c222, .slice a223 n223 c223] 27)))
    clear X1_24
    have X2_27 := Lib.hid (CellAt.up X2_24.out (bel_new gw25 (.cells #[.slice a221 n221 c221, .slice a222 n222 c222, .slice a223 n223 c223] 27)))
    clear X2_24
    have X3_27 := Lib.hid (CellAt.up X3_24.out (bel_new gw25 (.cells #[.slice a221 n221 c221, .slice a222 n222 c222, .slice a223 n223 c223] 27)))
    clear X3_24
    have p_27 := Lib.hid (MV.up p_23.out (bel_new gw25 (.cells #[.slice a221 n221 c221, .slice a222 n222 c222, .slice a223 n223 c223] 27)))
    clear p_23
    obtain ⟨gw28, hu28⟩ : ∃ u, gw25.alloc (.cells #[.slice a221 n221 c221, .slice a222 n222 c222, .slice a223 n223 c223] 27) = u := ⟨_, rfl⟩
    rw [hu28] at B_27 m_27 X0_27 X1_27 X2_27 X3_27 p_27 q_26
    rw [hu28]
    clear hu28
    obtain ⟨b_q, hq⟩ : ∃ q, gw25.heap.size = q := ⟨_, rfl⟩
    rw [hq] at q_26
    have LB_q := Lib.hid (Nat.le_trans LB_q.out (Nat.le_of_eq hq))
    have N_m_q := Lib.hid (Nat.lt_of_lt_of_le N_m_q.out (Nat.le_of_eq hq))
    have N_p_q := Lib.hid (Nat.lt_of_lt_of_le N_p_q.out (Nat.le_of_eq hq))
    rw [hq]
    clear hq
    obtain ⟨tX0, vX0⟩ := X0_27.out
    go_upto_block 2 with (go_at_call 12; (with_reducible refine (pick11 _ _ _ _ I0.out (by decide) D8.out).mono ?_); rintro e w' ⟨rfl, rfl⟩)
    clear tX0 vX0
    clear X0_27
    clear X1_27
    clear X2_27
    clear X3_27
    go_cut [9, 17, 18, 21] (fun s9 s17 s18 s21 wx => ∃ (x0 : Int) (sr : Mem × Int) (xp yp zp xq yq zq : Value), s9 = .int .i64 sr.2 ∧ s17 = .int .i64 x0 ∧ s18 = .int .i64 x0 ∧ s21 = .int .i64 sr.2 ∧ MV wx b_m (.slice a221 n221 c221) (.slice a222 n222 c222) (.slice a223 n223 c223) m ∧ MV wx b_p xp yp zp sr.1 ∧ MV wx b_q xq yq zq sr.1 ∧ Below w.heap.size w wx ∧ (sr.2 = 0 → Good sr.1 HH Q ∧ WOk sr.1))
    case first =>
      have hd : d8 = 0 ∨ d8 = 1 ∨ d8 = 2 ∨ d8 = 3 ∨ d8 = 4 ∨ d8 = 5 ∨ d8 = 6 ∨ d8 = 7 := by omega
      rcases hd with rfl | rfl | rfl | rfl | rfl | rfl | rfl | rfl
      · as_aux_lemma =>
          obtain ⟨⟨lx, le⟩, hlr⟩ : ∃ r, loadR m (d6 - 1) (d7 - 1) = r := ⟨_, rfl⟩; have LR := Lib.hid hlr; clear hlr
          obtain ⟨⟨c00, c01, c02⟩, d00, d01, d02⟩ := six (m_27.out).1
          have t0 := mv_lt m_27.out
          go_wp2_with fail
          refine (load_any _ m (d6 - 1) (d7 - 1) (lx, le) _ m_27.out.2 SM.out LR.out).mono ?_
          rintro e w29 ⟨rfl, hb29⟩
          clear c00 d00 c01 d01 c02 d02 t0
          have B_30 := Lib.hid (bw_tr B_27.out hb29)
          clear B_27
          have m_30 := Lib.hid (MV.up m_27.out hb29)
          clear m_27
          have p_30 := Lib.hid (MV.up p_27.out hb29)
          clear p_27
          have q_30 := Lib.hid (MV.up q_26.out hb29)
          clear q_26
          clear hb29
          obtain ⟨⟨c00, c01, c02⟩, d00, d01, d02⟩ := six (m_30.out).1
          have t0 := mv_lt m_30.out
          go_wp2_with fail
          refine (rload_any _ m (d6 - 1) (d7 - 1) (lx, le) _ m_30.out.2 SM.out LR.out).mono ?_
          rintro e w31 ⟨rfl, hb31⟩
          clear c00 d00 c01 d01 c02 d02 t0
          have B_32 := Lib.hid (bw_tr B_30.out hb31)
          clear B_30
          have m_32 := Lib.hid (MV.up m_30.out hb31)
          clear m_30
          have p_32 := Lib.hid (MV.up p_30.out hb31)
          clear p_30
          have q_32 := Lib.hid (MV.up q_30.out hb31)
          clear q_30
          clear hb31
          go_wp2_with fail
          go_meet
          case rel => exact ⟨lx, (m, le), _, _, _, _, _, _, rfl, rfl, rfl, rfl, m_32.out, p_32.out, q_32.out, B_32.out, fun e => ⟨GD.out, WK.out⟩⟩
      · as_aux_lemma =>
          obtain ⟨sr, hsr⟩ : ∃ sr, storeR m (d6 - 1) (d7 - 1) r3 = sr := ⟨_, rfl⟩; have SR := Lib.hid hsr; clear hsr
          obtain ⟨⟨c00, c01, c02⟩, d00, d01, d02⟩ := six (m_27.out).1
          have t0 := mv_lt m_27.out
          go_wp2_with fail
          refine (store_lit _ m (d6 - 1) (d7 - 1) r3 sr _ m_27.out.2 SM.out SR.out).mono ?_
          rintro e w33 hr33
          obtain ⟨a331, n331, b331, a332, n332, b332, a333, n333, b333, rfl, hm33, LN33, hb33⟩ := hr33.parts
          clear c00 d00 c01 d01 c02 d02 t0
          have B_34 := Lib.hid (bw_tr B_27.out hb33)
          clear B_27
          have m_34 := Lib.hid (MV.up m_27.out hb33)
          clear m_27
          have p_34 := Lib.hid (MV.up p_27.out hb33)
          clear p_27
          have q_34 := Lib.hid (MV.up q_26.out hb33)
          clear q_26
          have HM33 := Lib.hid hm33; clear hm33 hb33
          obtain ⟨⟨c00, c01, c02⟩, d00, d01, d02⟩ := six (p_34.out).1
          have t0 := mv_lt p_34.out
          go_upto_region 27 with fail
          clear c00 d00 c01 d01 c02 d02 t0
          have B_35 := Lib.hid (bel_set3 (x := .slice a331 n331 b331) (y := .slice a332 n332 b332) (z := .slice a333 n333 b333) B_34.out (LB_p.out))
          have m_36 := Lib.hid (mv_other (.slice a331 n331 b331) (.slice a332 n332 b332) (.slice a333 n333 b333) m_34.out p_34.out (Nat.ne_of_lt N_m_p.out))
          have p_37 := Lib.hid (mv_set p_34.out HM33.out)
          have q_38 := Lib.hid (mv_other (.slice a331 n331 b331) (.slice a332 n332 b332) (.slice a333 n333 b333) q_34.out p_34.out (Ne.symm (Nat.ne_of_lt N_p_q.out)))
          clear B_34
          clear m_34
          clear p_34
          clear q_34
          clear HM33
          obtain ⟨gw39, hu39⟩ : ∃ u, ((w33.setCell ⟨b_p, 0, none⟩ (.slice a331 n331 b331)).setCell ⟨b_p, 1, none⟩ (.slice a332 n332 b332)).setCell ⟨b_p, 2, none⟩ (.slice a333 n333 b333) = u := ⟨_, rfl⟩
          rw [hu39] at B_35 m_36 p_37 q_38
          rw [hu39]
          clear hu39
          obtain ⟨⟨c00, c01, c02⟩, d00, d01, d02⟩ := six (m_36.out).1
          have t0 := mv_lt m_36.out
          go_wp2_with fail
          refine (rstore_lit _ m (d6 - 1) (d7 - 1) r3 sr _ m_36.out.2 SM.out I3.out SR.out).mono ?_
          rintro e w40 hr40
          obtain ⟨a401, n401, b401, a402, n402, b402, a403, n403, b403, rfl, hm40, LN40, hb40⟩ := hr40.parts
          clear c00 d00 c01 d01 c02 d02 t0
          have B_41 := Lib.hid (bw_tr B_35.out hb40)
          clear B_35
          have m_41 := Lib.hid (MV.up m_36.out hb40)
          clear m_36
          have p_41 := Lib.hid (MV.up p_37.out hb40)
          clear p_37
          have q_41 := Lib.hid (MV.up q_38.out hb40)
          clear q_38
          have HM40 := Lib.hid hm40; clear hm40 hb40
          obtain ⟨⟨c00, c01, c02⟩, d00, d01, d02⟩ := six (q_41.out).1
          have t0 := mv_lt q_41.out
          go_wp2_with fail
          clear c00 d00 c01 d01 c02 d02 t0
          have B_42 := Lib.hid (bel_set3 (x := .slice a401 n401 b401) (y := .slice a402 n402 b402) (z := .slice a403 n403 b403) B_41.out (LB_q.out))
          have m_43 := Lib.hid (mv_other (.slice a401 n401 b401) (.slice a402 n402 b402) (.slice a403 n403 b403) m_41.out q_41.out (Nat.ne_of_lt N_m_q.out))
          have p_44 := Lib.hid (mv_other (.slice a401 n401 b401) (.slice a402 n402 b402) (.slice a403 n403 b403) p_41.out q_41.out (Nat.ne_of_lt N_p_q.out))
          have q_45 := Lib.hid (mv_set q_41.out HM40.out)
          clear B_41
          clear m_41
          clear p_41
          clear q_41
          clear HM40
          obtain ⟨gw46, hu46⟩ : ∃ u, ((w40.setCell ⟨b_q, 0, none⟩ (.slice a401 n401 b401)).setCell ⟨b_q, 1, none⟩ (.slice a402 n402 b402)).setCell ⟨b_q, 2, none⟩ (.slice a403 n403 b403) = u := ⟨_, rfl⟩
          rw [hu46] at B_42 m_43 p_44 q_45
          rw [hu46]
          clear hu46
          go_meet
          case rel => exact ⟨0, sr, _, _, _, _, _, _, rfl, rfl, rfl, rfl, m_43.out, p_44.out, q_45.out, B_42.out, fun e => ⟨good_store GD.out (m' := sr.1) (h := (d6 - 1)) (a := (d7 - 1)) (n := r3) (by rw [SR.out, ← e]), wok_store WK.out (m' := sr.1) (h := (d6 - 1)) (a := (d7 - 1)) (n := r3) (by rw [SR.out, ← e])⟩⟩
      · as_aux_lemma =>
          obtain ⟨sr, hsr⟩ : ∃ sr, storeR m (d6 - 1) (d7 - 1) r3 = sr := ⟨_, rfl⟩; have SR := Lib.hid hsr; clear hsr
          obtain ⟨⟨c00, c01, c02⟩, d00, d01, d02⟩ := six (m_27.out).1
          have t0 := mv_lt m_27.out
          go_wp2_with fail
          refine (store_lit _ m (d6 - 1) (d7 - 1) r3 sr _ m_27.out.2 SM.out SR.out).mono ?_
          rintro e w47 hr47
          obtain ⟨a471, n471, b471, a472, n472, b472, a473, n473, b473, rfl, hm47, LN47, hb47⟩ := hr47.parts
          clear c00 d00 c01 d01 c02 d02 t0
          have B_48 := Lib.hid (bw_tr B_27.out hb47)
          clear B_27
          have m_48 := Lib.hid (MV.up m_27.out hb47)
          clear m_27
          have p_48 := Lib.hid (MV.up p_27.out hb47)
          clear p_27
          have q_48 := Lib.hid (MV.up q_26.out hb47)
          clear q_26
          have HM47 := Lib.hid hm47; clear hm47 hb47
          obtain ⟨⟨c00, c01, c02⟩, d00, d01, d02⟩ := six (p_48.out).1
          have t0 := mv_lt p_48.out
          go_upto_region 27 with fail
          clear c00 d00 c01 d01 c02 d02 t0
          have B_49 := Lib.hid (bel_set3 (x := .slice a471 n471 b471) (y := .slice a472 n472 b472) (z := .slice a473 n473 b473) B_48.out (LB_p.out))
          have m_50 := Lib.hid (mv_other (.slice a471 n471 b471) (.slice a472 n472 b472) (.slice a473 n473 b473) m_48.out p_48.out (Nat.ne_of_lt N_m_p.out))
          have p_51 := Lib.hid (mv_set p_48.out HM47.out)
          have q_52 := Lib.hid (mv_other (.slice a471 n471 b471) (.slice a472 n472 b472) (.slice a473 n473 b473) q_48.out p_48.out (Ne.symm (Nat.ne_of_lt N_p_q.out)))
          clear B_48
          clear m_48
          clear p_48
          clear q_48
          clear HM47
          obtain ⟨gw53, hu53⟩ : ∃ u, ((w47.setCell ⟨b_p, 0, none⟩ (.slice a471 n471 b471)).setCell ⟨b_p, 1, none⟩ (.slice a472 n472 b472)).setCell ⟨b_p, 2, none⟩ (.slice a473 n473 b473) = u := ⟨_, rfl⟩
          rw [hu53] at B_49 m_50 p_51 q_52
          rw [hu53]
          clear hu53
          obtain ⟨⟨c00, c01, c02⟩, d00, d01, d02⟩ := six (m_50.out).1
          have t0 := mv_lt m_50.out
          go_wp2_with fail
          refine (rstore_lit _ m (d6 - 1) (d7 - 1) r3 sr _ m_50.out.2 SM.out I3.out SR.out).mono ?_
          rintro e w54 hr54
          obtain ⟨a541, n541, b541, a542, n542, b542, a543, n543, b543, rfl, hm54, LN54, hb54⟩ := hr54.parts
          clear c00 d00 c01 d01 c02 d02 t0
          have B_55 := Lib.hid (bw_tr B_49.out hb54)
          clear B_49
          have m_55 := Lib.hid (MV.up m_50.out hb54)
          clear m_50
          have p_55 := Lib.hid (MV.up p_51.out hb54)
          clear p_51
          have q_55 := Lib.hid (MV.up q_52.out hb54)
          clear q_52
          have HM54 := Lib.hid hm54; clear hm54 hb54
          obtain ⟨⟨c00, c01, c02⟩, d00, d01, d02⟩ := six (q_55.out).1
          have t0 := mv_lt q_55.out
          go_wp2_with fail
          clear c00 d00 c01 d01 c02 d02 t0
          have B_56 := Lib.hid (bel_set3 (x := .slice a541 n541 b541) (y := .slice a542 n542 b542) (z := .slice a543 n543 b543) B_55.out (LB_q.out))
          have m_57 := Lib.hid (mv_other (.slice a541 n541 b541) (.slice a542 n542 b542) (.slice a543 n543 b543) m_55.out q_55.out (Nat.ne_of_lt N_m_q.out))
          have p_58 := Lib.hid (mv_other (.slice a541 n541 b541) (.slice a542 n542 b542) (.slice a543 n543 b543) p_55.out q_55.out (Nat.ne_of_lt N_p_q.out))
          have q_59 := Lib.hid (mv_set q_55.out HM54.out)
          clear B_55
          clear m_55
          clear p_55
          clear q_55
          clear HM54
          obtain ⟨gw60, hu60⟩ : ∃ u, ((w54.setCell ⟨b_q, 0, none⟩ (.slice a541 n541 b541)).setCell ⟨b_q, 1, none⟩ (.slice a542 n542 b542)).setCell ⟨b_q, 2, none⟩ (.slice a543 n543 b543) = u := ⟨_, rfl⟩
          rw [hu60] at B_56 m_57 p_58 q_59
          rw [hu60]
          clear hu60
          go_meet
          case rel => exact ⟨0, sr, _, _, _, _, _, _, rfl, rfl, rfl, rfl, m_57.out, p_58.out, q_59.out, B_56.out, fun e => ⟨good_store GD.out (m' := sr.1) (h := (d6 - 1)) (a := (d7 - 1)) (n := r3) (by rw [SR.out, ← e]), wok_store WK.out (m' := sr.1) (h := (d6 - 1)) (a := (d7 - 1)) (n := r3) (by rw [SR.out, ← e])⟩⟩
      · as_aux_lemma =>
          obtain ⟨sr, hsr⟩ : ∃ sr, drainR m (d6 - 1) (d7 - 1) = sr := ⟨_, rfl⟩; have SR := Lib.hid hsr; clear hsr
          obtain ⟨⟨c00, c01, c02⟩, d00, d01, d02⟩ := six (m_27.out).1
          have t0 := mv_lt m_27.out
          go_wp2_with fail
          refine (drain_lit _ m (d6 - 1) (d7 - 1) sr _ m_27.out.2 SM.out SR.out).mono ?_
          rintro e w61 hr61
          obtain ⟨a611, n611, b611, a612, n612, b612, a613, n613, b613, rfl, hm61, LN61, hb61⟩ := hr61.parts
          clear c00 d00 c01 d01 c02 d02 t0
          have B_62 := Lib.hid (bw_tr B_27.out hb61)
          clear B_27
          have m_62 := Lib.hid (MV.up m_27.out hb61)
          clear m_27
          have p_62 := Lib.hid (MV.up p_27.out hb61)
          clear p_27
          have q_62 := Lib.hid (MV.up q_26.out hb61)
          clear q_26
          have HM61 := Lib.hid hm61; clear hm61 hb61
          obtain ⟨⟨c00, c01, c02⟩, d00, d01, d02⟩ := six (p_62.out).1
          have t0 := mv_lt p_62.out
          go_upto_region 30 with fail
          clear c00 d00 c01 d01 c02 d02 t0
          have B_63 := Lib.hid (bel_set3 (x := .slice a611 n611 b611) (y := .slice a612 n612 b612) (z := .slice a613 n613 b613) B_62.out (LB_p.out))
          have m_64 := Lib.hid (mv_other (.slice a611 n611 b611) (.slice a612 n612 b612) (.slice a613 n613 b613) m_62.out p_62.out (Nat.ne_of_lt N_m_p.out))
          have p_65 := Lib.hid (mv_set p_62.out HM61.out)
          have q_66 := Lib.hid (mv_other (.slice a611 n611 b611) (.slice a612 n612 b612) (.slice a613 n613 b613) q_62.out p_62.out (Ne.symm (Nat.ne_of_lt N_p_q.out)))
          clear B_62
          clear m_62
          clear p_62
          clear q_62
          clear HM61
          obtain ⟨gw67, hu67⟩ : ∃ u, ((w61.setCell ⟨b_p, 0, none⟩ (.slice a611 n611 b611)).setCell ⟨b_p, 1, none⟩ (.slice a612 n612 b612)).setCell ⟨b_p, 2, none⟩ (.slice a613 n613 b613) = u := ⟨_, rfl⟩
          rw [hu67] at B_63 m_64 p_65 q_66
          rw [hu67]
          clear hu67
          obtain ⟨⟨c00, c01, c02⟩, d00, d01, d02⟩ := six (m_64.out).1
          have t0 := mv_lt m_64.out
          go_wp2_with fail
          refine (rdrain_lit _ m (d6 - 1) (d7 - 1) sr _ m_64.out.2 SM.out SR.out).mono ?_
          rintro e w68 hr68
          obtain ⟨a681, n681, b681, a682, n682, b682, a683, n683, b683, rfl, hm68, LN68, hb68⟩ := hr68.parts
          clear c00 d00 c01 d01 c02 d02 t0
          have B_69 := Lib.hid (bw_tr B_63.out hb68)
          clear B_63
          have m_69 := Lib.hid (MV.up m_64.out hb68)
          clear m_64
          have p_69 := Lib.hid (MV.up p_65.out hb68)
          clear p_65
          have q_69 := Lib.hid (MV.up q_66.out hb68)
          clear q_66
          have HM68 := Lib.hid hm68; clear hm68 hb68
          obtain ⟨⟨c00, c01, c02⟩, d00, d01, d02⟩ := six (q_69.out).1
          have t0 := mv_lt q_69.out
          go_wp2_with fail
          clear c00 d00 c01 d01 c02 d02 t0
          have B_70 := Lib.hid (bel_set3 (x := .slice a681 n681 b681) (y := .slice a682 n682 b682) (z := .slice a683 n683 b683) B_69.out (LB_q.out))
          have m_71 := Lib.hid (mv_other (.slice a681 n681 b681) (.slice a682 n682 b682) (.slice a683 n683 b683) m_69.out q_69.out (Nat.ne_of_lt N_m_q.out))
          have p_72 := Lib.hid (mv_other (.slice a681 n681 b681) (.slice a682 n682 b682) (.slice a683 n683 b683) p_69.out q_69.out (Nat.ne_of_lt N_p_q.out))
          have q_73 := Lib.hid (mv_set q_69.out HM68.out)
          clear B_69
          clear m_69
          clear p_69
          clear q_69
          clear HM68
          obtain ⟨gw74, hu74⟩ : ∃ u, ((w68.setCell ⟨b_q, 0, none⟩ (.slice a681 n681 b681)).setCell ⟨b_q, 1, none⟩ (.slice a682 n682 b682)).setCell ⟨b_q, 2, none⟩ (.slice a683 n683 b683) = u := ⟨_, rfl⟩
          rw [hu74] at B_70 m_71 p_72 q_73
          rw [hu74]
          clear hu74
          go_meet
          case rel => exact ⟨0, sr, _, _, _, _, _, _, rfl, rfl, rfl, rfl, m_71.out, p_72.out, q_73.out, B_70.out, fun e => ⟨good_drain GD.out (m' := sr.1) (h := (d6 - 1)) (k := (d7 - 1)) (by rw [SR.out, ← e]), wok_drain WK.out (m' := sr.1) (h := (d6 - 1)) (d := (d7 - 1)) (by rw [SR.out, ← e])⟩⟩
      · as_aux_lemma =>
          obtain ⟨sr, hsr⟩ : ∃ sr, flushR m (d6 - 1) = sr := ⟨_, rfl⟩; have SR := Lib.hid hsr; clear hsr
          obtain ⟨⟨c00, c01, c02⟩, d00, d01, d02⟩ := six (m_27.out).1
          have t0 := mv_lt m_27.out
          go_wp2_with fail
          refine (flush_lit _ m (d6 - 1) sr _ m_27.out.2 SM.out SR.out).mono ?_
          rintro e w75 hr75
          obtain ⟨a751, n751, b751, a752, n752, b752, a753, n753, b753, rfl, hm75, LN75, hb75⟩ := hr75.parts
          clear c00 d00 c01 d01 c02 d02 t0
          have B_76 := Lib.hid (bw_tr B_27.out hb75)
          clear B_27
          have m_76 := Lib.hid (MV.up m_27.out hb75)
          clear m_27
          have p_76 := Lib.hid (MV.up p_27.out hb75)
          clear p_27
          have q_76 := Lib.hid (MV.up q_26.out hb75)
          clear q_26
          have HM75 := Lib.hid hm75; clear hm75 hb75
          obtain ⟨⟨c00, c01, c02⟩, d00, d01, d02⟩ := six (p_76.out).1
          have t0 := mv_lt p_76.out
          go_upto_region 33 with fail
          clear c00 d00 c01 d01 c02 d02 t0
          have B_77 := Lib.hid (bel_set3 (x := .slice a751 n751 b751) (y := .slice a752 n752 b752) (z := .slice a753 n753 b753) B_76.out (LB_p.out))
          have m_78 := Lib.hid (mv_other (.slice a751 n751 b751) (.slice a752 n752 b752) (.slice a753 n753 b753) m_76.out p_76.out (Nat.ne_of_lt N_m_p.out))
          have p_79 := Lib.hid (mv_set p_76.out HM75.out)
          have q_80 := Lib.hid (mv_other (.slice a751 n751 b751) (.slice a752 n752 b752) (.slice a753 n753 b753) q_76.out p_76.out (Ne.symm (Nat.ne_of_lt N_p_q.out)))
          clear B_76
          clear m_76
          clear p_76
          clear q_76
          clear HM75
          obtain ⟨gw81, hu81⟩ : ∃ u, ((w75.setCell ⟨b_p, 0, none⟩ (.slice a751 n751 b751)).setCell ⟨b_p, 1, none⟩ (.slice a752 n752 b752)).setCell ⟨b_p, 2, none⟩ (.slice a753 n753 b753) = u := ⟨_, rfl⟩
          rw [hu81] at B_77 m_78 p_79 q_80
          rw [hu81]
          clear hu81
          obtain ⟨⟨c00, c01, c02⟩, d00, d01, d02⟩ := six (m_78.out).1
          have t0 := mv_lt m_78.out
          go_wp2_with fail
          refine (rflush_lit _ m (d6 - 1) sr _ m_78.out.2 SM.out SR.out).mono ?_
          rintro e w82 hr82
          obtain ⟨a821, n821, b821, a822, n822, b822, a823, n823, b823, rfl, hm82, LN82, hb82⟩ := hr82.parts
          clear c00 d00 c01 d01 c02 d02 t0
          have B_83 := Lib.hid (bw_tr B_77.out hb82)
          clear B_77
          have m_83 := Lib.hid (MV.up m_78.out hb82)
          clear m_78
          have p_83 := Lib.hid (MV.up p_79.out hb82)
          clear p_79
          have q_83 := Lib.hid (MV.up q_80.out hb82)
          clear q_80
          have HM82 := Lib.hid hm82; clear hm82 hb82
          obtain ⟨⟨c00, c01, c02⟩, d00, d01, d02⟩ := six (q_83.out).1
          have t0 := mv_lt q_83.out
          go_wp2_with fail
          clear c00 d00 c01 d01 c02 d02 t0
          have B_84 := Lib.hid (bel_set3 (x := .slice a821 n821 b821) (y := .slice a822 n822 b822) (z := .slice a823 n823 b823) B_83.out (LB_q.out))
          have m_85 := Lib.hid (mv_other (.slice a821 n821 b821) (.slice a822 n822 b822) (.slice a823 n823 b823) m_83.out q_83.out (Nat.ne_of_lt N_m_q.out))
          have p_86 := Lib.hid (mv_other (.slice a821 n821 b821) (.slice a822 n822 b822) (.slice a823 n823 b823) p_83.out q_83.out (Nat.ne_of_lt N_p_q.out))
          have q_87 := Lib.hid (mv_set q_83.out HM82.out)
          clear B_83
          clear m_83
          clear p_83
          clear q_83
          clear HM82
          obtain ⟨gw88, hu88⟩ : ∃ u, ((w82.setCell ⟨b_q, 0, none⟩ (.slice a821 n821 b821)).setCell ⟨b_q, 1, none⟩ (.slice a822 n822 b822)).setCell ⟨b_q, 2, none⟩ (.slice a823 n823 b823) = u := ⟨_, rfl⟩
          rw [hu88] at B_84 m_85 p_86 q_87
          rw [hu88]
          clear hu88
          go_meet
          case rel => exact ⟨0, sr, _, _, _, _, _, _, rfl, rfl, rfl, rfl, m_85.out, p_86.out, q_87.out, B_84.out, fun e => ⟨good_flush GD.out (m' := sr.1) (h := (d6 - 1)) (by rw [SR.out, ← e]), wok_flush WK.out (m' := sr.1) (h := (d6 - 1)) (by rw [SR.out, ← e])⟩⟩
      · as_aux_lemma =>
          obtain ⟨⟨su, sr⟩, hsr⟩ : ∃ sr, reserveR m (d6 - 1) (d7 - 1) = sr := ⟨_, rfl⟩; have SR := Lib.hid hsr; clear hsr
          obtain ⟨⟨c00, c01, c02⟩, d00, d01, d02⟩ := six (m_27.out).1
          have t0 := mv_lt m_27.out
          go_wp2_with fail
          refine (reserve_lit _ m (d6 - 1) (d7 - 1) su sr _ m_27.out.2 SM.out SR.out).mono ?_
          rintro e w89 hr89
          obtain ⟨a891, n891, b891, a892, n892, b892, a893, n893, b893, rfl, hm89, LN89, hb89⟩ := hr89.parts
          clear c00 d00 c01 d01 c02 d02 t0
          have B_90 := Lib.hid (bw_tr B_27.out hb89)
          clear B_27
          have m_90 := Lib.hid (MV.up m_27.out hb89)
          clear m_27
          have p_90 := Lib.hid (MV.up p_27.out hb89)
          clear p_27
          have q_90 := Lib.hid (MV.up q_26.out hb89)
          clear q_26
          have HM89 := Lib.hid hm89; clear hm89 hb89
          obtain ⟨⟨c00, c01, c02⟩, d00, d01, d02⟩ := six (p_90.out).1
          have t0 := mv_lt p_90.out
          go_upto_region 36 with fail
          clear c00 d00 c01 d01 c02 d02 t0
          have B_91 := Lib.hid (bel_set3 (x := .slice a891 n891 b891) (y := .slice a892 n892 b892) (z := .slice a893 n893 b893) B_90.out (LB_p.out))
          have m_92 := Lib.hid (mv_other (.slice a891 n891 b891) (.slice a892 n892 b892) (.slice a893 n893 b893) m_90.out p_90.out (Nat.ne_of_lt N_m_p.out))
          have p_93 := Lib.hid (mv_set p_90.out HM89.out)
          have q_94 := Lib.hid (mv_other (.slice a891 n891 b891) (.slice a892 n892 b892) (.slice a893 n893 b893) q_90.out p_90.out (Ne.symm (Nat.ne_of_lt N_p_q.out)))
          clear B_90
          clear m_90
          clear p_90
          clear q_90
          clear HM89
          obtain ⟨gw95, hu95⟩ : ∃ u, ((w89.setCell ⟨b_p, 0, none⟩ (.slice a891 n891 b891)).setCell ⟨b_p, 1, none⟩ (.slice a892 n892 b892)).setCell ⟨b_p, 2, none⟩ (.slice a893 n893 b893) = u := ⟨_, rfl⟩
          rw [hu95] at B_91 m_92 p_93 q_94
          rw [hu95]
          clear hu95
          obtain ⟨⟨c00, c01, c02⟩, d00, d01, d02⟩ := six (m_92.out).1
          have t0 := mv_lt m_92.out
          go_wp2_with fail
          refine (rreserve_lit _ m (d6 - 1) (d7 - 1) su sr _ m_92.out.2 SM.out SR.out).mono ?_
          rintro e w96 hr96
          obtain ⟨a961, n961, b961, a962, n962, b962, a963, n963, b963, rfl, hm96, LN96, hb96⟩ := hr96.parts
          clear c00 d00 c01 d01 c02 d02 t0
          have B_97 := Lib.hid (bw_tr B_91.out hb96)
          clear B_91
          have m_97 := Lib.hid (MV.up m_92.out hb96)
          clear m_92
          have p_97 := Lib.hid (MV.up p_93.out hb96)
          clear p_93
          have q_97 := Lib.hid (MV.up q_94.out hb96)
          clear q_94
          have HM96 := Lib.hid hm96; clear hm96 hb96
          obtain ⟨⟨c00, c01, c02⟩, d00, d01, d02⟩ := six (q_97.out).1
          have t0 := mv_lt q_97.out
          go_wp2_with fail
          clear c00 d00 c01 d01 c02 d02 t0
          have B_98 := Lib.hid (bel_set3 (x := .slice a961 n961 b961) (y := .slice a962 n962 b962) (z := .slice a963 n963 b963) B_97.out (LB_q.out))
          have m_99 := Lib.hid (mv_other (.slice a961 n961 b961) (.slice a962 n962 b962) (.slice a963 n963 b963) m_97.out q_97.out (Nat.ne_of_lt N_m_q.out))
          have p_100 := Lib.hid (mv_other (.slice a961 n961 b961) (.slice a962 n962 b962) (.slice a963 n963 b963) p_97.out q_97.out (Nat.ne_of_lt N_p_q.out))
          have q_101 := Lib.hid (mv_set q_97.out HM96.out)
          clear B_97
          clear m_97
          clear p_97
          clear q_97
          clear HM96
          obtain ⟨gw102, hu102⟩ : ∃ u, ((w96.setCell ⟨b_q, 0, none⟩ (.slice a961 n961 b961)).setCell ⟨b_q, 1, none⟩ (.slice a962 n962 b962)).setCell ⟨b_q, 2, none⟩ (.slice a963 n963 b963) = u := ⟨_, rfl⟩
          rw [hu102] at B_98 m_99 p_100 q_101
          rw [hu102]
          clear hu102
          go_meet
          case rel => exact ⟨su, sr, _, _, _, _, _, _, rfl, rfl, rfl, rfl, m_99.out, p_100.out, q_101.out, B_98.out, fun e => ⟨good_reserve GD.out (m' := sr.1) (h := (d6 - 1)) (a := (d7 - 1)) (u := su) (by rw [SR.out, ← e]), wok_reserve WK.out (m' := sr.1) (h := (d6 - 1)) (a := (d7 - 1)) (u := su) (by rw [SR.out, ← e])⟩⟩
      · as_aux_lemma =>
          obtain ⟨⟨su, sr⟩, hsr⟩ : ∃ sr, condR m (d6 - 1) (d7 - 1) r3 = sr := ⟨_, rfl⟩; have SR := Lib.hid hsr; clear hsr
          cases su
          · have SR' := SR; clear SR'
            obtain ⟨⟨c00, c01, c02⟩, d00, d01, d02⟩ := six (m_27.out).1
            have t0 := mv_lt m_27.out
            go_wp2_with fail
            refine (cond_lit _ m (d6 - 1) (d7 - 1) r3 false sr _ m_27.out.2 SM.out SR.out).mono ?_
            rintro e w103 hr103
            obtain ⟨a1031, n1031, b1031, a1032, n1032, b1032, a1033, n1033, b1033, rfl, hm103, LN103, hb103⟩ := hr103.parts
            clear c00 d00 c01 d01 c02 d02 t0
            have B_104 := Lib.hid (bw_tr B_27.out hb103)
            clear B_27
            have m_104 := Lib.hid (MV.up m_27.out hb103)
            clear m_27
            have p_104 := Lib.hid (MV.up p_27.out hb103)
            clear p_27
            have q_104 := Lib.hid (MV.up q_26.out hb103)
            clear q_26
            have HM103 := Lib.hid hm103; clear hm103 hb103
            obtain ⟨⟨c00, c01, c02⟩, d00, d01, d02⟩ := six (p_104.out).1
            have t0 := mv_lt p_104.out
            go_upto_region 41 with fail
            clear c00 d00 c01 d01 c02 d02 t0
            have B_105 := Lib.hid (bel_set3 (x := .slice a1031 n1031 b1031) (y := .slice a1032 n1032 b1032) (z := .slice a1033 n1033 b1033) B_104.out (LB_p.out))
            have m_106 := Lib.hid (mv_other (.slice a1031 n1031 b1031) (.slice a1032 n1032 b1032) (.slice a1033 n1033 b1033) m_104.out p_104.out (Nat.ne_of_lt N_m_p.out))
            have p_107 := Lib.hid (mv_set p_104.out HM103.out)
            have q_108 := Lib.hid (mv_other (.slice a1031 n1031 b1031) (.slice a1032 n1032 b1032) (.slice a1033 n1033 b1033) q_104.out p_104.out (Ne.symm (Nat.ne_of_lt N_p_q.out)))
            clear B_104
            clear m_104
            clear p_104
            clear q_104
            clear HM103
            obtain ⟨gw109, hu109⟩ : ∃ u, ((w103.setCell ⟨b_p, 0, none⟩ (.slice a1031 n1031 b1031)).setCell ⟨b_p, 1, none⟩ (.slice a1032 n1032 b1032)).setCell ⟨b_p, 2, none⟩ (.slice a1033 n1033 b1033) = u := ⟨_, rfl⟩
            rw [hu109] at B_105 m_106 p_107 q_108
            rw [hu109]
            clear hu109
            obtain ⟨⟨c00, c01, c02⟩, d00, d01, d02⟩ := six (m_106.out).1
            have t0 := mv_lt m_106.out
            go_wp2_with fail
            refine (rcond_lit _ m (d6 - 1) (d7 - 1) r3 false sr _ m_106.out.2 SM.out I3.out SR.out).mono ?_
            rintro e w110 hr110
            obtain ⟨a1101, n1101, b1101, a1102, n1102, b1102, a1103, n1103, b1103, rfl, hm110, LN110, hb110⟩ := hr110.parts
            clear c00 d00 c01 d01 c02 d02 t0
            have B_111 := Lib.hid (bw_tr B_105.out hb110)
            clear B_105
            have m_111 := Lib.hid (MV.up m_106.out hb110)
            clear m_106
            have p_111 := Lib.hid (MV.up p_107.out hb110)
            clear p_107
            have q_111 := Lib.hid (MV.up q_108.out hb110)
            clear q_108
            have HM110 := Lib.hid hm110; clear hm110 hb110
            obtain ⟨⟨c00, c01, c02⟩, d00, d01, d02⟩ := six (q_111.out).1
            have t0 := mv_lt q_111.out
            go_upto_region 42 with fail
            clear c00 d00 c01 d01 c02 d02 t0
            have B_112 := Lib.hid (bel_set3 (x := .slice a1101 n1101 b1101) (y := .slice a1102 n1102 b1102) (z := .slice a1103 n1103 b1103) B_111.out (LB_q.out))
            have m_113 := Lib.hid (mv_other (.slice a1101 n1101 b1101) (.slice a1102 n1102 b1102) (.slice a1103 n1103 b1103) m_111.out q_111.out (Nat.ne_of_lt N_m_q.out))
            have p_114 := Lib.hid (mv_other (.slice a1101 n1101 b1101) (.slice a1102 n1102 b1102) (.slice a1103 n1103 b1103) p_111.out q_111.out (Nat.ne_of_lt N_p_q.out))
            have q_115 := Lib.hid (mv_set q_111.out HM110.out)
            clear B_111
            clear m_111
            clear p_111
            clear q_111
            clear HM110
            obtain ⟨gw116, hu116⟩ : ∃ u, ((w110.setCell ⟨b_q, 0, none⟩ (.slice a1101 n1101 b1101)).setCell ⟨b_q, 1, none⟩ (.slice a1102 n1102 b1102)).setCell ⟨b_q, 2, none⟩ (.slice a1103 n1103 b1103) = u := ⟨_, rfl⟩
            rw [hu116] at B_112 m_113 p_114 q_115
            rw [hu116]
            clear hu116
            go_wp2_with fail
            go_meet
            case rel => exact ⟨0, sr, _, _, _, _, _, _, rfl, rfl, rfl, rfl, m_113.out, p_114.out, q_115.out, B_112.out, fun e => ⟨good_cond GD.out (m' := sr.1) (h := (d6 - 1)) (a := (d7 - 1)) (n := r3) (u := false) (by rw [SR.out, ← e]), wok_cond WK.out (m' := sr.1) (h := (d6 - 1)) (a := (d7 - 1)) (n := r3) (u := false) (by rw [SR.out, ← e])⟩⟩
          · have SR' := SR; clear SR'
            obtain ⟨⟨c00, c01, c02⟩, d00, d01, d02⟩ := six (m_27.out).1
            have t0 := mv_lt m_27.out
            go_wp2_with fail
            refine (cond_lit _ m (d6 - 1) (d7 - 1) r3 true sr _ m_27.out.2 SM.out SR.out).mono ?_
            rintro e w117 hr117
            obtain ⟨a1171, n1171, b1171, a1172, n1172, b1172, a1173, n1173, b1173, rfl, hm117, LN117, hb117⟩ := hr117.parts
            clear c00 d00 c01 d01 c02 d02 t0
            have B_118 := Lib.hid (bw_tr B_27.out hb117)
            clear B_27
            have m_118 := Lib.hid (MV.up m_27.out hb117)
            clear m_27
            have p_118 := Lib.hid (MV.up p_27.out hb117)
            clear p_27
            have q_118 := Lib.hid (MV.up q_26.out hb117)
            clear q_26
            have HM117 := Lib.hid hm117; clear hm117 hb117
            obtain ⟨⟨c00, c01, c02⟩, d00, d01, d02⟩ := six (p_118.out).1
            have t0 := mv_lt p_118.out
            go_upto_region 41 with fail
            clear c00 d00 c01 d01 c02 d02 t0
            have B_119 := Lib.hid (bel_set3 (x := .slice a1171 n1171 b1171) (y := .slice a1172 n1172 b1172) (z := .slice a1173 n1173 b1173) B_118.out (LB_p.out))
            have m_120 := Lib.hid (mv_other (.slice a1171 n1171 b1171) (.slice a1172 n1172 b1172) (.slice a1173 n1173 b1173) m_118.out p_118.out (Nat.ne_of_lt N_m_p.out))
            have p_121 := Lib.hid (mv_set p_118.out HM117.out)
            have q_122 := Lib.hid (mv_other (.slice a1171 n1171 b1171) (.slice a1172 n1172 b1172) (.slice a1173 n1173 b1173) q_118.out p_118.out (Ne.symm (Nat.ne_of_lt N_p_q.out)))
            clear B_118
            clear m_118
            clear p_118
            clear q_118
            clear HM117
            obtain ⟨gw123, hu123⟩ : ∃ u, ((w117.setCell ⟨b_p, 0, none⟩ (.slice a1171 n1171 b1171)).setCell ⟨b_p, 1, none⟩ (.slice a1172 n1172 b1172)).setCell ⟨b_p, 2, none⟩ (.slice a1173 n1173 b1173) = u := ⟨_, rfl⟩
            rw [hu123] at B_119 m_120 p_121 q_122
            rw [hu123]
            clear hu123
            obtain ⟨⟨c00, c01, c02⟩, d00, d01, d02⟩ := six (m_120.out).1
            have t0 := mv_lt m_120.out
            go_wp2_with fail
            refine (rcond_lit _ m (d6 - 1) (d7 - 1) r3 true sr _ m_120.out.2 SM.out I3.out SR.out).mono ?_
            rintro e w124 hr124
            obtain ⟨a1241, n1241, b1241, a1242, n1242, b1242, a1243, n1243, b1243, rfl, hm124, LN124, hb124⟩ := hr124.parts
            clear c00 d00 c01 d01 c02 d02 t0
            have B_125 := Lib.hid (bw_tr B_119.out hb124)
            clear B_119
            have m_125 := Lib.hid (MV.up m_120.out hb124)
            clear m_120
            have p_125 := Lib.hid (MV.up p_121.out hb124)
            clear p_121
            have q_125 := Lib.hid (MV.up q_122.out hb124)
            clear q_122
            have HM124 := Lib.hid hm124; clear hm124 hb124
            obtain ⟨⟨c00, c01, c02⟩, d00, d01, d02⟩ := six (q_125.out).1
            have t0 := mv_lt q_125.out
            go_upto_region 42 with fail
            clear c00 d00 c01 d01 c02 d02 t0
            have B_126 := Lib.hid (bel_set3 (x := .slice a1241 n1241 b1241) (y := .slice a1242 n1242 b1242) (z := .slice a1243 n1243 b1243) B_125.out (LB_q.out))
            have m_127 := Lib.hid (mv_other (.slice a1241 n1241 b1241) (.slice a1242 n1242 b1242) (.slice a1243 n1243 b1243) m_125.out q_125.out (Nat.ne_of_lt N_m_q.out))
            have p_128 := Lib.hid (mv_other (.slice a1241 n1241 b1241) (.slice a1242 n1242 b1242) (.slice a1243 n1243 b1243) p_125.out q_125.out (Nat.ne_of_lt N_p_q.out))
            have q_129 := Lib.hid (mv_set q_125.out HM124.out)
            clear B_125
            clear m_125
            clear p_125
            clear q_125
            clear HM124
            obtain ⟨gw130, hu130⟩ : ∃ u, ((w124.setCell ⟨b_q, 0, none⟩ (.slice a1241 n1241 b1241)).setCell ⟨b_q, 1, none⟩ (.slice a1242 n1242 b1242)).setCell ⟨b_q, 2, none⟩ (.slice a1243 n1243 b1243) = u := ⟨_, rfl⟩
            rw [hu130] at B_126 m_127 p_128 q_129
            rw [hu130]
            clear hu130
            go_wp2_with fail
            go_meet
            case rel => exact ⟨0, sr, _, _, _, _, _, _, rfl, rfl, rfl, rfl, m_127.out, p_128.out, q_129.out, B_126.out, fun e => ⟨good_cond GD.out (m' := sr.1) (h := (d6 - 1)) (a := (d7 - 1)) (n := r3) (u := true) (by rw [SR.out, ← e]), wok_cond WK.out (m' := sr.1) (h := (d6 - 1)) (a := (d7 - 1)) (n := r3) (u := true) (by rw [SR.out, ← e])⟩⟩
      · as_aux_lemma =>
          obtain ⟨⟨su, sr⟩, hsr⟩ : ∃ sr, changeR m (d6 - 1) (d7 - 1) (d20 - 1) r3 = sr := ⟨_, rfl⟩; have SR := Lib.hid hsr; clear hsr
          go_upto_region 19 with fail
          go_cut [9, 17] (fun s9 s17 wx => ∃ xp yp zp, s9 = .int .i64 sr.2 ∧ s17 = .int .i64 su ∧ MV wx b_m (.slice a221 n221 c221) (.slice a222 n222 c222) (.slice a223 n223 c223) m ∧ MV wx b_p xp yp zp sr.1 ∧ MV wx b_q (.slice a221 n221 c221) (.slice a222 n222 c222) (.slice a223 n223 c223) m ∧ Below w.heap.size w wx)
          case first =>
            refine wp_region_up (UpB b_p gw28) [true, true, true, true, true, true, true] (by kernel_rfl) (by kernel_rfl) (by kernel_rfl) (fun _ _ h hu => h.up hu) (upb_refl _ _) ?ra131 ?rh131 ?rt131
            case rh131 =>
              intro w0 h0
              obtain ⟨⟨c0, c1, c2⟩, d0, d1, d2⟩ := six (m_27.out).1
              have t0 := mv_lt m_27.out
              have ne0 := Nat.ne_of_lt N_m_p.out
              have rx0 := fun x => h0.wd t0 ne0 c0 x
              have rx1 := fun x => h0.wd t0 ne0 c1 x
              have rx2 := fun x => h0.wd t0 ne0 c2 x
              clear c0 c1 c2 d0 d1 d2
              simp only [pickM]
              repeat (go_big_quiet_step ((go_at_call 12; with_reducible exact quiet_s (pick11 _ _ _ _ I3.out (by decide) D20.out))))
              refine wpQuiet_nil ?_
              rfl
            case rt131 =>
              change wpAnyU _ _ _ _ _ 8 _ _ _
              refine anyU_one (i := 7) (by kernel_rfl) rfl ?_
              intro w132 hu132 hc132
              have hu132 := bw_undrew hu132
              have B_133 := Lib.hid (bw_tr B_27.out hu132)
              clear B_27
              have m_133 := Lib.hid (MV.up m_27.out hu132)
              clear m_27
              have p_133 := Lib.hid (MV.up p_27.out hu132)
              clear p_27
              have q_133 := Lib.hid (MV.up q_26.out hu132)
              clear q_26
              have C_132 := Lib.hid hc132; clear hc132 hu132
              go_wp2_with fail
              refine (change_lit _ m (d6 - 1) (d7 - 1) (d20 - 1) r3 su sr _ m_133.out.2 SM.out SR.out).mono ?_
              rintro e w134 hr134
              obtain ⟨a1341, n1341, b1341, a1342, n1342, b1342, a1343, n1343, b1343, rfl, hm134, LN134, hb134⟩ := hr134.parts
              have B_135 := Lib.hid (bw_tr B_133.out hb134)
              clear B_133
              have m_135 := Lib.hid (MV.up m_133.out hb134)
              clear m_133
              have p_135 := Lib.hid (MV.up p_133.out hb134)
              clear p_133
              have q_135 := Lib.hid (MV.up q_133.out hb134)
              clear q_133
              have C_135 := Lib.hid ((C_132.out).up hb134)
              clear C_132
              have HM134 := Lib.hid hm134; clear hm134 hb134
              go_wp2_with fail
              refine ⟨C_135.out, ?_⟩
              refine anyU_pures [false, false, false, false, false, false, false, false, true, true, true, true] 3 (by kernel_rfl) (by kernel_rfl) (by kernel_rfl) (fun _ _ h hu => h.up hu) C_135.out ?ra136 ?rh136 ?rt136
              case rh136 =>
                intro w0 h0
                simp only [pickM]
                repeat (go_big_quiet_step (fail))
                refine wpQuiet_nil ?_
                rfl
              case rt136 =>
                refine anyU_one (i := 12) (by kernel_rfl) rfl ?_
                intro w137 hu137 hc137
                have B_138 := Lib.hid (bw_tr B_135.out hu137)
                clear B_135
                have m_138 := Lib.hid (MV.up m_135.out hu137)
                clear m_135
                have p_138 := Lib.hid (MV.up p_135.out hu137)
                clear p_135
                have q_138 := Lib.hid (MV.up q_135.out hu137)
                clear q_135
                have R134_138 := Lib.hid ((HM134.out).below hu137)
                clear HM134
                have C_137 := Lib.hid hc137; clear hc137 hu137
                go_wp2_with fail
                refine ⟨C_137.out, ?_⟩
                refine anyU_one (i := 13) (by kernel_rfl) rfl ?_
                intro w139 hu139 hc139
                have B_140 := Lib.hid (bw_tr B_138.out hu139)
                clear B_138
                have m_140 := Lib.hid (MV.up m_138.out hu139)
                clear m_138
                have p_140 := Lib.hid (MV.up p_138.out hu139)
                clear p_138
                have q_140 := Lib.hid (MV.up q_138.out hu139)
                clear q_138
                have R134_140 := Lib.hid ((R134_138.out).below hu139)
                clear R134_138
                have C_139 := Lib.hid hc139; clear hc139 hu139
                obtain ⟨⟨c00, c01, c02⟩, d00, d01, d02⟩ := six (p_140.out).1
                have t0 := mv_lt p_140.out
                go_wp2_with fail
                clear c00 d00 c01 d01 c02 d02 t0
                have B_141 := Lib.hid (bel_set3 (x := .slice a1341 n1341 b1341) (y := .slice a1342 n1342 b1342) (z := .slice a1343 n1343 b1343) B_140.out (LB_p.out))
                have m_142 := Lib.hid (mv_other (.slice a1341 n1341 b1341) (.slice a1342 n1342 b1342) (.slice a1343 n1343 b1343) m_140.out p_140.out (Nat.ne_of_lt N_m_p.out))
                have p_143 := Lib.hid (mv_set p_140.out R134_140.out)
                have q_144 := Lib.hid (mv_other (.slice a1341 n1341 b1341) (.slice a1342 n1342 b1342) (.slice a1343 n1343 b1343) q_140.out p_140.out (Ne.symm (Nat.ne_of_lt N_p_q.out)))
                have C_145 := Lib.hid (upb_set3 (q := b_p) (.slice a1341 n1341 b1341) (.slice a1342 n1342 b1342) (.slice a1343 n1343 b1343) C_139.out)
                clear B_140
                clear m_140
                clear p_140
                clear q_140
                clear R134_140
                clear C_139
                obtain ⟨gw146, hu146⟩ : ∃ u, ((w139.setCell ⟨b_p, 0, none⟩ (.slice a1341 n1341 b1341)).setCell ⟨b_p, 1, none⟩ (.slice a1342 n1342 b1342)).setCell ⟨b_p, 2, none⟩ (.slice a1343 n1343 b1343) = u := ⟨_, rfl⟩
                rw [hu146] at B_141 m_142 p_143 q_144 C_145
                rw [hu146]
                clear hu146
                refine ⟨C_145.out, ?_⟩
                refine anyU_one (i := 14) (by kernel_rfl) rfl ?_
                intro w147 hu147 hc147
                have B_148 := Lib.hid (bw_tr B_141.out hu147)
                clear B_141
                have m_148 := Lib.hid (MV.up m_142.out hu147)
                clear m_142
                have p_148 := Lib.hid (MV.up p_143.out hu147)
                clear p_143
                have q_148 := Lib.hid (MV.up q_144.out hu147)
                clear q_144
                have C_147 := Lib.hid hc147; clear hc147 hu147
                go_wp2_with fail
                refine ⟨C_147.out, ?_⟩
                refine anyU_nil (by kernel_rfl) ?_
                intro w149 hu149 hc149
                have B_150 := Lib.hid (bw_tr B_148.out hu149)
                clear B_148
                have m_150 := Lib.hid (MV.up m_148.out hu149)
                clear m_148
                have p_150 := Lib.hid (MV.up p_148.out hu149)
                clear p_148
                have q_150 := Lib.hid (MV.up q_148.out hu149)
                clear q_148
                have C_149 := Lib.hid hc149; clear hc149 hu149
                go_wp2_with fail
                go_meet
                case rel => exact ⟨_, _, _, rfl, rfl, m_150.out, p_150.out, q_150.out, B_150.out⟩
          case rest =>
            obtain ⟨xp, yp, zp, rfl, rfl, hm, hp, hq, hb⟩ := hcut
            have HM2 := Lib.hid hm; have HP2 := Lib.hid hp; have HQ2 := Lib.hid hq; have HB2 := Lib.hid hb
            clear hm hp hq hb B_27 m_27 p_27 q_26
            go_upto_region 20 with fail
            refine wp_region_up (UpB b_q wc) [true, true, true, true, true, true, true] (by kernel_rfl) (by kernel_rfl) (by kernel_rfl) (fun _ _ h hu => h.up hu) (upb_refl _ _) ?ra151 ?rh151 ?rt151
            case rh151 =>
              intro w0 h0
              obtain ⟨⟨c0, c1, c2⟩, d0, d1, d2⟩ := six (HM2.out).1
              have t0 := mv_lt HM2.out
              have ne0 := Nat.ne_of_lt N_m_q.out
              have rx0 := fun x => h0.wd t0 ne0 c0 x
              have rx1 := fun x => h0.wd t0 ne0 c1 x
              have rx2 := fun x => h0.wd t0 ne0 c2 x
              clear c0 c1 c2 d0 d1 d2
              simp only [pickM]
              repeat (go_big_quiet_step ((go_at_call 12; with_reducible exact quiet_s (pick11 _ _ _ _ I3.out (by decide) D20.out))))
              refine wpQuiet_nil ?_
              rfl
            case rt151 =>
              change wpAnyU _ _ _ _ _ 8 _ _ _
              refine anyU_one (i := 7) (by kernel_rfl) rfl ?_
              intro w152 hu152 hc152
              have hu152 := bw_undrew hu152
              have m_153 := Lib.hid (MV.up HM2.out hu152)
              clear HM2
              have p_153 := Lib.hid (MV.up HP2.out hu152)
              clear HP2
              have q_153 := Lib.hid (MV.up HQ2.out hu152)
              clear HQ2
              have B_153 := Lib.hid (bw_tr HB2.out hu152)
              clear HB2
              have C_152 := Lib.hid hc152; clear hc152 hu152
              go_wp2_with fail
              refine (rchange_lit _ m (d6 - 1) (d7 - 1) (d20 - 1) r3 su sr _ m_153.out.2 SM.out I3.out WK.out SR.out).mono ?_
              rintro e w154 hr154
              obtain ⟨a1541, n1541, b1541, a1542, n1542, b1542, a1543, n1543, b1543, rfl, hm154, LN154, hb154⟩ := hr154.parts
              have m_155 := Lib.hid (MV.up m_153.out hb154)
              clear m_153
              have p_155 := Lib.hid (MV.up p_153.out hb154)
              clear p_153
              have q_155 := Lib.hid (MV.up q_153.out hb154)
              clear q_153
              have B_155 := Lib.hid (bw_tr B_153.out hb154)
              clear B_153
              have C_155 := Lib.hid ((C_152.out).up hb154)
              clear C_152
              have HM154 := Lib.hid hm154; clear hm154 hb154
              go_wp2_with fail
              refine ⟨C_155.out, ?_⟩
              refine anyU_pures [false, false, false, false, false, false, false, false, true, true, true, true] 3 (by kernel_rfl) (by kernel_rfl) (by kernel_rfl) (fun _ _ h hu => h.up hu) C_155.out ?ra156 ?rh156 ?rt156
              case rh156 =>
                intro w0 h0
                simp only [pickM]
                repeat (go_big_quiet_step (fail))
                refine wpQuiet_nil ?_
                rfl
              case rt156 =>
                refine anyU_one (i := 12) (by kernel_rfl) rfl ?_
                intro w157 hu157 hc157
                have m_158 := Lib.hid (MV.up m_155.out hu157)
                clear m_155
                have p_158 := Lib.hid (MV.up p_155.out hu157)
                clear p_155
                have q_158 := Lib.hid (MV.up q_155.out hu157)
                clear q_155
                have B_158 := Lib.hid (bw_tr B_155.out hu157)
                clear B_155
                have R154_158 := Lib.hid ((HM154.out).below hu157)
                clear HM154
                have C_157 := Lib.hid hc157; clear hc157 hu157
                go_wp2_with fail
                refine ⟨C_157.out, ?_⟩
                refine anyU_one (i := 13) (by kernel_rfl) rfl ?_
                intro w159 hu159 hc159
                have m_160 := Lib.hid (MV.up m_158.out hu159)
                clear m_158
                have p_160 := Lib.hid (MV.up p_158.out hu159)
                clear p_158
                have q_160 := Lib.hid (MV.up q_158.out hu159)
                clear q_158
                have B_160 := Lib.hid (bw_tr B_158.out hu159)
                clear B_158
                have R154_160 := Lib.hid ((R154_158.out).below hu159)
                clear R154_158
                have C_159 := Lib.hid hc159; clear hc159 hu159
                obtain ⟨⟨c00, c01, c02⟩, d00, d01, d02⟩ := six (q_160.out).1
                have t0 := mv_lt q_160.out
                go_wp2_with fail
                clear c00 d00 c01 d01 c02 d02 t0
                have m_161 := Lib.hid (mv_other (.slice a1541 n1541 b1541) (.slice a1542 n1542 b1542) (.slice a1543 n1543 b1543) m_160.out q_160.out (Nat.ne_of_lt N_m_q.out))
                have p_162 := Lib.hid (mv_other (.slice a1541 n1541 b1541) (.slice a1542 n1542 b1542) (.slice a1543 n1543 b1543) p_160.out q_160.out (Nat.ne_of_lt N_p_q.out))
                have q_163 := Lib.hid (mv_set q_160.out R154_160.out)
                have B_164 := Lib.hid (bel_set3 (x := .slice a1541 n1541 b1541) (y := .slice a1542 n1542 b1542) (z := .slice a1543 n1543 b1543) B_160.out (LB_q.out))
                have C_165 := Lib.hid (upb_set3 (q := b_q) (.slice a1541 n1541 b1541) (.slice a1542 n1542 b1542) (.slice a1543 n1543 b1543) C_159.out)
                clear m_160
                clear p_160
                clear q_160
                clear B_160
                clear R154_160
                clear C_159
                obtain ⟨gw166, hu166⟩ : ∃ u, ((w159.setCell ⟨b_q, 0, none⟩ (.slice a1541 n1541 b1541)).setCell ⟨b_q, 1, none⟩ (.slice a1542 n1542 b1542)).setCell ⟨b_q, 2, none⟩ (.slice a1543 n1543 b1543) = u := ⟨_, rfl⟩
                rw [hu166] at m_161 p_162 q_163 B_164 C_165
                rw [hu166]
                clear hu166
                refine ⟨C_165.out, ?_⟩
                refine anyU_one (i := 14) (by kernel_rfl) rfl ?_
                intro w167 hu167 hc167
                have m_168 := Lib.hid (MV.up m_161.out hu167)
                clear m_161
                have p_168 := Lib.hid (MV.up p_162.out hu167)
                clear p_162
                have q_168 := Lib.hid (MV.up q_163.out hu167)
                clear q_163
                have B_168 := Lib.hid (bw_tr B_164.out hu167)
                clear B_164
                have C_167 := Lib.hid hc167; clear hc167 hu167
                go_wp2_with fail
                refine ⟨C_167.out, ?_⟩
                refine anyU_nil (by kernel_rfl) ?_
                intro w169 hu169 hc169
                have m_170 := Lib.hid (MV.up m_168.out hu169)
                clear m_168
                have p_170 := Lib.hid (MV.up p_168.out hu169)
                clear p_168
                have q_170 := Lib.hid (MV.up q_168.out hu169)
                clear q_168
                have B_170 := Lib.hid (bw_tr B_168.out hu169)
                clear B_168
                have C_169 := Lib.hid hc169; clear hc169 hu169
                go_wp2_with fail
                go_meet
                case rel => exact ⟨su, sr, _, _, _, _, _, _, rfl, rfl, rfl, rfl, m_170.out, p_170.out, q_170.out, B_170.out, fun e => ⟨good_change GD.out (m' := sr.1) (h := (d6 - 1)) (a := (d7 - 1)) (op := (d20 - 1)) (n := r3) (u := su) (by rw [SR.out, ← e]), wok_change WK.out (m' := sr.1) (h := (d6 - 1)) (a := (d7 - 1)) (op := (d20 - 1)) (n := r3) (u := su) (by rw [SR.out, ← e])⟩⟩
    case rest =>
      obtain ⟨x0, sr, xp, yp, zp, xq, yq, zq, rfl, rfl, rfl, rfl, hm, hp, hq, hb, hok⟩ := hcut
      have HM2 := Lib.hid hm; have HP2 := Lib.hid hp; have HQ2 := Lib.hid hq; have HB2 := Lib.hid hb; have HY := Lib.hid hok
      clear hm hp hq hb hok B_27 m_27 p_27 q_26
      obtain ⟨a1711, n1711, c1711, a1712, n1712, c1712, a1713, n1713, c1713, rfl, rfl, rfl, LN171⟩ := (HP2.out).shape
      obtain ⟨a1721, n1721, c1721, a1722, n1722, c1722, a1723, n1723, c1723, rfl, rfl, rfl, LN172⟩ := (HQ2.out).shape
      obtain ⟨sb, hsb⟩ : ∃ b, decide (sr.1 = m) = b := ⟨_, rfl⟩; have SB := Lib.hid hsb; clear hsb
      have b1 : (x0 != x0) = false := (by simp); have b2 : (sr.2 != sr.2) = false := (by simp); have b3 : (sb != sb) = false := (by cases sb <;> rfl)
      go_upto_region 44 with fail
      obtain ⟨⟨c00, c01, c02⟩, _⟩ := six (HP2.out).1; obtain ⟨⟨c10, c11, c12⟩, _⟩ := six (HQ2.out).1; obtain ⟨⟨c20, c21, c22⟩, _⟩ := six (HM2.out).1
      have t0 := mv_lt HP2.out; have t1 := mv_lt HQ2.out; have t2 := mv_lt HM2.out
      refine wp_region_below (by kernel_rfl) (by kernel_rfl) ?_
      have y00 := fun x => wd_cell t0 c00 x
      have y01 := fun x => wd_cell t0 c01 x
      have y02 := fun x => wd_cell t0 c02 x
      have y10 := fun x => wd_cell t1 c10 x
      have y11 := fun x => wd_cell t1 c11 x
      have y12 := fun x => wd_cell t1 c12 x
      have y20 := fun x => wd_cell t2 c20 x
      have y21 := fun x => wd_cell t2 c21 x
      have y22 := fun x => wd_cell t2 c22 x
      clear c00 c01 c02 c10 c11 c12 c20 c21 c22 t0 t1 t2
      have QIp : Hid (IsMem _ _ _) := Lib.hid HP2.out.2
      have QIq : Hid (IsMem _ _ _) := Lib.hid HQ2.out.2
      have QIm : Hid (IsMem _ _ _) := Lib.hid HM2.out.2
      repeat (go_big_quiet_step ((first | (go_at_call 25; with_reducible exact quiet_b (rsame_lit _ _ sr.1 sr.1 true _ (IsMem.below QIp.out (Wd.bel _)) (IsMem.below QIq.out (Wd.bel _)) (by simp))) | (go_at_call 19; with_reducible exact quiet_b (samem_lit _ _ sr.1 sr.1 true _ (IsMem.below QIp.out (Wd.bel _)) (IsMem.below QIq.out (Wd.bel _)) (by simp))) | (go_at_call 19; with_reducible exact quiet_b (samem_lit _ _ sr.1 m sb _ (IsMem.below QIp.out (Wd.bel _)) (IsMem.below QIm.out (Wd.bel _)) SB.out)) | (go_at_call 25; with_reducible exact quiet_b (rsame_lit _ _ sr.1 m sb _ (IsMem.below QIp.out (Wd.bel _)) (IsMem.below QIm.out (Wd.bel _)) SB.out)))))
      refine wpQuiet_nil ?_; rintro w173 ⟨⟨w173x, hb173⟩, rfl⟩
      clear b1 b2 b3 y00 y01 y02 y10 y11 y12 y20 y21 y22
      have m_174 := Lib.hid (MV.up HM2.out hb173)
      clear HM2
      have p_174 := Lib.hid (MV.up HP2.out hb173)
      clear HP2
      have q_174 := Lib.hid (MV.up HQ2.out hb173)
      clear HQ2
      have B_174 := Lib.hid (bw_tr HB2.out hb173)
      clear HB2
      clear hb173
      by_cases hz : sr.2 = 0
      rotate_left
      · go_wp2_with fail
        exact ⟨⟨j + 1, by omega, by omega, by go_num, ⟨_, _, _, m, m_174.out, GD.out, WK.out⟩, B_174.out⟩, by simp [intOf]; omega⟩
      obtain ⟨⟨c00, c01, c02⟩, d00, d01, d02⟩ := six (p_174.out).1
      have t0 := mv_lt p_174.out
      obtain ⟨⟨c10, c11, c12⟩, d10, d11, d12⟩ := six (m_174.out).1
      have t1 := mv_lt m_174.out
      go_wp2_with fail
      clear c00 d00 c01 d01 c02 d02 c10 d10 c11 d11 c12 d12 t0 t1
      have R175_0 := Lib.hid p_174.out.2
      have m_176 := Lib.hid (mv_set m_174.out R175_0.out)
      have p_177 := Lib.hid (mv_other (.slice a1711 n1711 c1711) (.slice a1712 n1712 c1712) (.slice a1713 n1713 c1713) p_174.out m_174.out (Ne.symm (Nat.ne_of_lt N_m_p.out)))
      have q_178 := Lib.hid (mv_other (.slice a1711 n1711 c1711) (.slice a1712 n1712 c1712) (.slice a1713 n1713 c1713) q_174.out m_174.out (Ne.symm (Nat.ne_of_lt N_m_q.out)))
      have B_179 := Lib.hid (bel_set3 (x := .slice a1711 n1711 c1711) (y := .slice a1712 n1712 c1712) (z := .slice a1713 n1713 c1713) B_174.out (LB_m.out))
      clear m_174
      clear p_174
      clear q_174
      clear B_174
      clear R175_0
      obtain ⟨gw180, hu180⟩ : ∃ u, ((w173.setCell ⟨b_m, 0, none⟩ (.slice a1711 n1711 c1711)).setCell ⟨b_m, 1, none⟩ (.slice a1712 n1712 c1712)).setCell ⟨b_m, 2, none⟩ (.slice a1713 n1713 c1713) = u := ⟨_, rfl⟩
      rw [hu180] at m_176 p_177 q_178 B_179
      rw [hu180]
      clear hu180
      exact ⟨⟨j + 1, by omega, by omega, by go_num, ⟨_, _, _, sr.1, m_176.out, (HY.out hz).1, (HY.out hz).2⟩, B_179.out⟩, by simp [intOf]; omega⟩
end Go.Proofs.Ytkhobelceghgfaa
