/-
  The walk of the law StoreSums (printed by gen_sums.py).
-/
import Derived.Test.YtkhobelceghgfaaMemRes
import Derived.Test.YtkhobelceghgfaaMemCell
import Derived.Deep.CutBlock
import Derived.Deep.DeepCutAuto
namespace Go.Proofs.Ytkhobelceghgfaa
open Go.RowKit
/-- The law's memory at a loop's head. -/
def SumAt (w : World) (bm : Nat) (s : Int) : Prop := ∃ x y z m, MV w bm x y z m ∧ SumOK m s
theorem pick11m (c n r : Int) (w : World) (hc : I64 c) (hn : 0 < n ∧ n ≤ 9223372036854775807) (hr : pickN c n = r) (B : Nat) :
    Calls Try.prog 12 #[.int .i64 c, .int .i64 n] w fun e w' => e = .returned (.int .i64 r) ∧ Below B w w' :=
  (pick11 c n r w hc hn hr).mono fun _ _ ⟨h, e⟩ => ⟨h, by subst e; exact Below.refl _ _⟩
set_option maxHeartbeats 8000000 in
set_option maxRecDepth 100000 in
theorem walkStoreSums (v : Value) (raw : List R4) (w : World) (hv : ArgS 4 c4 w v raw) (hok : ∀ r ∈ raw, ok4 r) :
    Calls Try.prog 6 #[v] w fun e w' => e = .returned (.bool true) ∧ Below w.heap.size w w' := by
  obtain ⟨a, len, cap, rfl, h⟩ := rows4_of hv hok
  have H := Lib.hid h
  obtain ⟨_, _, hlc, hcm, _⟩ := h
  unfold maxLen at hcm
  clear hv hok
  have HB : Hid (Below w.heap.size w w) := Lib.hid (Below.refl _ _)
  go_enter Try.func6, Try.ntmps6
  go_wp2_with fail
  refine (awake11 _).mono ?_
  rintro e w1 ⟨rfl, hb1⟩
  have B_2 := Lib.hid (bw_tr HB.out hb1)
  clear HB
  clear hb1
  go_wp2_with fail
  refine (new_lit 3 4 (newMem 3 4, 0) _ (by decide +kernel)).mono ?_
  rintro e w3 hr3
  obtain ⟨a31, n31, b31, a32, n32, b32, a33, n33, b33, rfl, hm3, LN3, hb3⟩ := hr3.parts
  have B_4 := Lib.hid (bw_tr B_2.out hb3)
  clear B_2
  have HM3 := Lib.hid hm3; clear hm3 hb3
  go_upto_region 3 with (fail)
  have LB_m : Hid (w.heap.size ≤ w3.heap.size) := Lib.hid (B_4.out).size
  have m_5 := Lib.hid (mv_new HM3.out)
  have B_6 := Lib.hid (bw_tr B_4.out (bel_new w3 (.cells #[.slice a31 n31 b31, .slice a32 n32 b32, .slice a33 n33 b33] 27)))
  clear B_4
  clear HM3
  obtain ⟨gw7, hu7⟩ : ∃ u, w3.alloc (.cells #[.slice a31 n31 b31, .slice a32 n32 b32, .slice a33 n33 b33] 27) = u := ⟨_, rfl⟩
  rw [hu7] at B_6 m_5
  rw [hu7]
  clear hu7
  obtain ⟨b_m, hq⟩ : ∃ q, w3.heap.size = q := ⟨_, rfl⟩
  rw [hq] at m_5
  have LB_m := Lib.hid (Nat.le_trans LB_m.out (Nat.le_of_eq hq))
  rw [hq]
  clear hq
  have RA : Hid (SumAt gw7 b_m 0) := Lib.hid ⟨_, _, _, _, m_5.out, sum_new⟩
  clear m_5
  go_upto_block 0 with fail
  go_cut [6] (fun s6 wx => ∃ s : Int, s6 = .int .i64 s ∧ SumAt wx b_m s ∧ Below w.heap.size w wx)
  case first =>
    go_wp2_with fail
    go_loopw [6, 7] (fun s6 i wr => ∃ (j : Nat) (s : Int), j ≤ len ∧ j ≤ 40 ∧ s6 = .int .i64 s ∧ i = .int .i64 j ∧ SumAt wr b_m s ∧ Below w.heap.size w wr) (fun _ i _ => len - (intOf i).toNat)
    case atStart => exact ⟨0, _, Nat.zero_le _, Nat.zero_le _, rfl, rfl, RA.out, B_6.out⟩
    case round =>
      obtain ⟨j, s, hj, hj40, rfl, rfl, hra, hbb⟩ := hrel
      have HRA := Lib.hid hra; have HBR := Lib.hid hbb
      by_cases hlt : j < len
      rotate_left
      · clear hra hbb
        go_wp2_with fail
        go_meet
        case rel => exact ⟨_, rfl, HRA.out, HBR.out⟩
      by_cases h40 : j < 40
      rotate_left
      · clear hra hbb
        go_wp2_with fail
        go_meet
        case rel => exact ⟨_, rfl, HRA.out, HBR.out⟩
      obtain ⟨x, y, z, m, hm, hok⟩ := hra
      have HM := Lib.hid hm; have OK := Lib.hid hok; clear hm hok hbb HRA RA
      obtain ⟨a81, n81, c81, a82, n82, c82, a83, n83, c83, rfl, rfl, rfl, LN8⟩ := (HM.out).shape
      have SM := Lib.hid (OK.out.good.small (by decide) (by decide))
      obtain ⟨b, o, r0, r1, r2, r3, rfl, hbl, hrow, ⟨i0, i1, i2, i3⟩, g0, g1, g2, g3⟩ := H.out.row hlt
      have G0 := Lib.hid g0; have I0 := Lib.hid i0
      have G1 := Lib.hid g1; have I1 := Lib.hid i1
      have G2 := Lib.hid g2; have I2 := Lib.hid i2
      have G3 := Lib.hid g3; have I3 := Lib.hid i3
      clear g0 g1 g2 g3 i0 i1 i2 i3 hrow
      have p3 := pickN_bd r2 3 (by decide); have p8 := pickN_bd r2 8 (by decide); have p0 := pickN_bd r0 3 (by decide); have ph := pickN_bd r1 3 (by decide)
      generalize hd8 : pickN r2 8 = d8 at *; generalize hd3 : pickN r2 3 = d3 at *; generalize hd0 : pickN r0 3 = d0 at *; generalize hdh : pickN r1 3 = hh at *
      have D8 := Lib.hid hd8; have D3 := Lib.hid hd3; have D0 := Lib.hid hd0; have DH := Lib.hid hdh; clear hd8 hd3 hd0 hdh
      have X0_0 := Lib.hid (show CellAt _ _ _ _ from ⟨Nat.lt_of_lt_of_le hbl HBR.out.size, rd_cell HBR.out hbl G0.out⟩)
      have X1_0 := Lib.hid (show CellAt _ _ _ _ from ⟨Nat.lt_of_lt_of_le hbl HBR.out.size, rd_cell HBR.out hbl G1.out⟩)
      have X2_0 := Lib.hid (show CellAt _ _ _ _ from ⟨Nat.lt_of_lt_of_le hbl HBR.out.size, rd_cell HBR.out hbl G2.out⟩)
      have X3_0 := Lib.hid (show CellAt _ _ _ _ from ⟨Nat.lt_of_lt_of_le hbl HBR.out.size, rd_cell HBR.out hbl G3.out⟩)
      have y2 := hbl; clear G0 G1 G2 G3
      obtain ⟨⟨c00, c01, c02⟩, d00, d01, d02⟩ := six (HM.out).1
      have t0 := mv_lt HM.out
      obtain ⟨tX1, vX1⟩ := X1_0.out
      go_upto_region 9 with (go_at_call 12; (with_reducible refine (pick11 _ _ _ _ I1.out (by decide) DH.out).mono ?_); rintro e w' ⟨rfl, rfl⟩)
      clear c00 d00 c01 d01 c02 d02 t0 tX1 vX1
      have LB_n := Lib.hid (HBR.out).size
      have N_m_n := Lib.hid (mv_lt HM.out)
      have n_9 := Lib.hid (mv_new HM.out.2)
      have B_10 := Lib.hid (bw_tr HBR.out (bel_new wr (.cells #[.slice a81 n81 c81, .slice a82 n82 c82, .slice a83 n83 c83] 27)))
      clear HBR
      have m_10 := Lib.hid (MV.up HM.out (bel_new wr (.cells #[.slice a81 n81 c81, .slice a82 n82 c82, .slice a83 n83 c83] 27)))
      clear HM
      have X0_10 := Lib.hid (CellAt.up X0_0.out (bel_new wr (.cells #[.slice a81 n81 c81, .slice a82 n82 c82, .slice a83 n83 c83] 27)))
      clear X0_0
      have X1_10 := Lib.hid (CellAt.up X1_0.out (bel_new wr (.cells #[.slice a81 n81 c81, .slice a82 n82 c82, .slice a83 n83 c83] 27)))
      clear X1_0
      have X2_10 := Lib.hid (CellAt.up X2_0.out (bel_new wr (.cells #[.slice a81 n81 c81, .slice a82 n82 c82, .slice a83 n83 c83] 27)))
      clear X2_0
      have X3_10 := Lib.hid (CellAt.up X3_0.out (bel_new wr (.cells #[.slice a81 n81 c81, .slice a82 n82 c82, .slice a83 n83 c83] 27)))
      clear X3_0
      obtain ⟨gw11, hu11⟩ : ∃ u, wr.alloc (.cells #[.slice a81 n81 c81, .slice a82 n82 c82, .slice a83 n83 c83] 27) = u := ⟨_, rfl⟩
      rw [hu11] at B_10 m_10 X0_10 X1_10 X2_10 X3_10 n_9
      rw [hu11]
      clear hu11
      obtain ⟨b_n, hq⟩ : ∃ q, wr.heap.size = q := ⟨_, rfl⟩
      rw [hq] at n_9
      have LB_n := Lib.hid (Nat.le_trans LB_n.out (Nat.le_of_eq hq))
      have N_m_n := Lib.hid (Nat.lt_of_lt_of_le N_m_n.out (Nat.le_of_eq hq))
      rw [hq]
      clear hq
      have N_X : Hid (b < b_n) := Lib.hid (Nat.lt_of_lt_of_le y2 LB_n.out)
      obtain ⟨tX0, vX0⟩ := X0_10.out
      go_upto_block 2 with (go_at_call 12; (with_reducible refine (pick11 _ _ _ _ I0.out (by decide) D0.out).mono ?_); rintro e w' ⟨rfl, rfl⟩)
      clear tX0 vX0
      go_cut [6, 10] (fun s6 s10 wx => ∃ (xn yn zn : Value) (sr : Mem × Int) (s' : Int), s10 = .int .i64 sr.2 ∧ s6 = .int .i64 s' ∧ MV wx b_m (.slice a81 n81 c81) (.slice a82 n82 c82) (.slice a83 n83 c83) m ∧ MV wx b_n xn yn zn sr.1 ∧ Below w.heap.size w wx ∧ (sr.2 = 0 → SumOK sr.1 s') ∧ (sr.2 ≠ 0 → s' = s))
      case first =>
        have hd : d0 = 0 ∨ d0 = 1 ∨ d0 = 2 := by omega
        rcases hd with rfl | rfl | rfl
        · as_aux_lemma =>
            obtain ⟨⟨su, sr⟩, hsr⟩ : ∃ sr, changeR m hh 0 1 r3 = sr := ⟨_, rfl⟩; have SR := Lib.hid hsr; clear hsr
            go_upto_region 14 with fail
            go_cut [10, 11] (fun s10 s11 wx => ∃ xn yn zn, s10 = .int .i64 sr.2 ∧ s11 = .int .i64 su ∧ MV wx b_m (.slice a81 n81 c81) (.slice a82 n82 c82) (.slice a83 n83 c83) m ∧ MV wx b_n xn yn zn sr.1 ∧ Below w.heap.size w wx ∧ CellAt wx b (o + j * 4 + 3) (.int .i64 r3))
            case first =>
              refine wp_region_up (UpB b_n gw11) [true, true, true, true, true, true, true] (by kernel_rfl) (by kernel_rfl) (by kernel_rfl) (fun _ _ h hu => h.up hu) (upb_refl _ _) ?ra12 ?rh12 ?rt12
              case rh12 =>
                intro w0 h0
                obtain ⟨⟨c0, c1, c2⟩, d0, d1, d2⟩ := six (m_10.out).1
                have t0 := mv_lt m_10.out
                have ne0 := Nat.ne_of_lt N_m_n.out
                have rx0 := fun x => h0.wd t0 ne0 c0 x
                have rx1 := fun x => h0.wd t0 ne0 c1 x
                have rx2 := fun x => h0.wd t0 ne0 c2 x
                clear c0 c1 c2 d0 d1 d2
                have rx3 := fun x => h0.wd (X3_10.out).1 (Nat.ne_of_lt N_X.out) (X3_10.out).2 x
                simp only [pickM]
                repeat (go_big_quiet_step ((fail)))
                refine wpQuiet_nil ?_
                rfl
              case rt12 =>
                change wpAnyU _ _ _ _ _ 8 _ _ _
                refine anyU_one (i := 7) (by kernel_rfl) rfl ?_
                intro w13 hu13 hc13
                have hu13 := bw_undrew hu13
                have B_14 := Lib.hid (bw_tr B_10.out hu13)
                clear B_10
                have m_14 := Lib.hid (MV.up m_10.out hu13)
                clear m_10
                have X0_14 := Lib.hid (CellAt.up X0_10.out hu13)
                clear X0_10
                have X1_14 := Lib.hid (CellAt.up X1_10.out hu13)
                clear X1_10
                have X2_14 := Lib.hid (CellAt.up X2_10.out hu13)
                clear X2_10
                have X3_14 := Lib.hid (CellAt.up X3_10.out hu13)
                clear X3_10
                have n_14 := Lib.hid (MV.up n_9.out hu13)
                clear n_9
                have C_13 := Lib.hid hc13; clear hc13 hu13
                go_wp2_with fail
                refine (change_lit _ m hh 0 1 r3 su sr _ m_14.out.2 SM.out SR.out).mono ?_
                rintro e w15 hr15
                obtain ⟨a151, n151, b151, a152, n152, b152, a153, n153, b153, rfl, hm15, LN15, hb15⟩ := hr15.parts
                have B_16 := Lib.hid (bw_tr B_14.out hb15)
                clear B_14
                have m_16 := Lib.hid (MV.up m_14.out hb15)
                clear m_14
                have X0_16 := Lib.hid (CellAt.up X0_14.out hb15)
                clear X0_14
                have X1_16 := Lib.hid (CellAt.up X1_14.out hb15)
                clear X1_14
                have X2_16 := Lib.hid (CellAt.up X2_14.out hb15)
                clear X2_14
                have X3_16 := Lib.hid (CellAt.up X3_14.out hb15)
                clear X3_14
                have n_16 := Lib.hid (MV.up n_14.out hb15)
                clear n_14
                have C_16 := Lib.hid ((C_13.out).up hb15)
                clear C_13
                have HM15 := Lib.hid hm15; clear hm15 hb15
                go_wp2_with fail
                refine ⟨C_16.out, ?_⟩
                refine anyU_pures [false, false, false, false, false, false, false, false, true, true, true, true] 3 (by kernel_rfl) (by kernel_rfl) (by kernel_rfl) (fun _ _ h hu => h.up hu) C_16.out ?ra17 ?rh17 ?rt17
                case rh17 =>
                  intro w0 h0
                  simp only [pickM]
                  repeat (go_big_quiet_step (fail))
                  refine wpQuiet_nil ?_
                  rfl
                case rt17 =>
                  refine anyU_one (i := 12) (by kernel_rfl) rfl ?_
                  intro w18 hu18 hc18
                  have B_19 := Lib.hid (bw_tr B_16.out hu18)
                  clear B_16
                  have m_19 := Lib.hid (MV.up m_16.out hu18)
                  clear m_16
                  have X0_19 := Lib.hid (CellAt.up X0_16.out hu18)
                  clear X0_16
                  have X1_19 := Lib.hid (CellAt.up X1_16.out hu18)
                  clear X1_16
                  have X2_19 := Lib.hid (CellAt.up X2_16.out hu18)
                  clear X2_16
                  have X3_19 := Lib.hid (CellAt.up X3_16.out hu18)
                  clear X3_16
                  have n_19 := Lib.hid (MV.up n_16.out hu18)
                  clear n_16
                  have R15_19 := Lib.hid ((HM15.out).below hu18)
                  clear HM15
                  have C_18 := Lib.hid hc18; clear hc18 hu18
                  go_wp2_with fail
                  refine ⟨C_18.out, ?_⟩
                  refine anyU_one (i := 13) (by kernel_rfl) rfl ?_
                  intro w20 hu20 hc20
                  have B_21 := Lib.hid (bw_tr B_19.out hu20)
                  clear B_19
                  have m_21 := Lib.hid (MV.up m_19.out hu20)
                  clear m_19
                  have X0_21 := Lib.hid (CellAt.up X0_19.out hu20)
                  clear X0_19
                  have X1_21 := Lib.hid (CellAt.up X1_19.out hu20)
                  clear X1_19
                  have X2_21 := Lib.hid (CellAt.up X2_19.out hu20)
                  clear X2_19
                  have X3_21 := Lib.hid (CellAt.up X3_19.out hu20)
                  clear X3_19
                  have n_21 := Lib.hid (MV.up n_19.out hu20)
                  clear n_19
                  have R15_21 := Lib.hid ((R15_19.out).below hu20)
                  clear R15_19
                  have C_20 := Lib.hid hc20; clear hc20 hu20
                  obtain ⟨⟨c00, c01, c02⟩, d00, d01, d02⟩ := six (n_21.out).1
                  have t0 := mv_lt n_21.out
                  go_wp2_with fail
                  clear c00 d00 c01 d01 c02 d02 t0
                  have B_22 := Lib.hid (bel_set3 (x := .slice a151 n151 b151) (y := .slice a152 n152 b152) (z := .slice a153 n153 b153) B_21.out (LB_n.out))
                  have m_23 := Lib.hid (mv_other (.slice a151 n151 b151) (.slice a152 n152 b152) (.slice a153 n153 b153) m_21.out n_21.out (Nat.ne_of_lt N_m_n.out))
                  have X0_24 := Lib.hid (CellAt.set3 (.slice a151 n151 b151) (.slice a152 n152 b152) (.slice a153 n153 b153) X0_21.out (Nat.ne_of_lt N_X.out))
                  have X1_25 := Lib.hid (CellAt.set3 (.slice a151 n151 b151) (.slice a152 n152 b152) (.slice a153 n153 b153) X1_21.out (Nat.ne_of_lt N_X.out))
                  have X2_26 := Lib.hid (CellAt.set3 (.slice a151 n151 b151) (.slice a152 n152 b152) (.slice a153 n153 b153) X2_21.out (Nat.ne_of_lt N_X.out))
                  have X3_27 := Lib.hid (CellAt.set3 (.slice a151 n151 b151) (.slice a152 n152 b152) (.slice a153 n153 b153) X3_21.out (Nat.ne_of_lt N_X.out))
                  have n_28 := Lib.hid (mv_set n_21.out R15_21.out)
                  have C_29 := Lib.hid (upb_set3 (q := b_n) (.slice a151 n151 b151) (.slice a152 n152 b152) (.slice a153 n153 b153) C_20.out)
                  clear B_21
                  clear m_21
                  clear X0_21
                  clear X1_21
                  clear X2_21
                  clear X3_21
                  clear n_21
                  clear R15_21
                  clear C_20
                  obtain ⟨gw30, hu30⟩ : ∃ u, ((w20.setCell ⟨b_n, 0, none⟩ (.slice a151 n151 b151)).setCell ⟨b_n, 1, none⟩ (.slice a152 n152 b152)).setCell ⟨b_n, 2, none⟩ (.slice a153 n153 b153) = u := ⟨_, rfl⟩
                  rw [hu30] at B_22 m_23 X0_24 X1_25 X2_26 X3_27 n_28 C_29
                  rw [hu30]
                  clear hu30
                  refine ⟨C_29.out, ?_⟩
                  refine anyU_one (i := 14) (by kernel_rfl) rfl ?_
                  intro w31 hu31 hc31
                  have B_32 := Lib.hid (bw_tr B_22.out hu31)
                  clear B_22
                  have m_32 := Lib.hid (MV.up m_23.out hu31)
                  clear m_23
                  have X0_32 := Lib.hid (CellAt.up X0_24.out hu31)
                  clear X0_24
                  have X1_32 := Lib.hid (CellAt.up X1_25.out hu31)
                  clear X1_25
                  have X2_32 := Lib.hid (CellAt.up X2_26.out hu31)
                  clear X2_26
                  have X3_32 := Lib.hid (CellAt.up X3_27.out hu31)
                  clear X3_27
                  have n_32 := Lib.hid (MV.up n_28.out hu31)
                  clear n_28
                  have C_31 := Lib.hid hc31; clear hc31 hu31
                  go_wp2_with fail
                  refine ⟨C_31.out, ?_⟩
                  refine anyU_nil (by kernel_rfl) ?_
                  intro w33 hu33 hc33
                  have B_34 := Lib.hid (bw_tr B_32.out hu33)
                  clear B_32
                  have m_34 := Lib.hid (MV.up m_32.out hu33)
                  clear m_32
                  have X0_34 := Lib.hid (CellAt.up X0_32.out hu33)
                  clear X0_32
                  have X1_34 := Lib.hid (CellAt.up X1_32.out hu33)
                  clear X1_32
                  have X2_34 := Lib.hid (CellAt.up X2_32.out hu33)
                  clear X2_32
                  have X3_34 := Lib.hid (CellAt.up X3_32.out hu33)
                  clear X3_32
                  have n_34 := Lib.hid (MV.up n_32.out hu33)
                  clear n_32
                  have C_33 := Lib.hid hc33; clear hc33 hu33
                  go_wp2_with fail
                  go_meet
                  case rel => exact ⟨_, _, _, rfl, rfl, m_34.out, n_34.out, B_34.out, X3_34.out⟩
            case rest =>
              obtain ⟨xn, yn, zn, rfl, rfl, hm, hn, hb, hx3⟩ := hcut
              have HM2 := Lib.hid hm; have HN2 := Lib.hid hn; have HB2 := Lib.hid hb; have X3_2 := Lib.hid hx3
              clear hm hn hb hx3 B_10 m_10 X0_10 X1_10 X2_10 X3_10 n_9
              by_cases hz : sr.2 = 0
              rotate_left
              · go_wp2_with fail
                go_meet
                case rel => exact ⟨_, _, _, sr, s, by first | rfl | rw [hz], by rfl, HM2.out, HN2.out, HB2.out, fun e => absurd e hz, fun _ => rfl⟩
              obtain ⟨rfl, hk⟩ := sum_change OK.out (m' := sr.1) (h := hh) (n := r3) (u := su) (by rw [SR.out, ← hz])
              have OK2 := Lib.hid hk; clear hk
              obtain ⟨tX3, vX3⟩ := X3_2.out
              go_wp2_with (go_at_call 23; (refine (two_any 1 _ _ _).mono ?_); rintro e w' ⟨rfl, rfl⟩)
              clear tX3 vX3
              go_meet
              case rel => exact ⟨_, _, _, sr, (twoN 1 su r3), by first | rfl | rw [hz], by rfl, HM2.out, HN2.out, HB2.out, fun _ => OK2.out, fun e => absurd hz e⟩
        · as_aux_lemma =>
            obtain ⟨sr, hsr⟩ : ∃ sr, storeR m hh (1 + d3) r3 = sr := ⟨_, rfl⟩; have SR := Lib.hid hsr; clear hsr
            go_upto_region 20 with fail
            have w1 : IntKind.i64.wrap (1 + d3) = 1 + d3 := IntWalk.i64_in _ (by omega)
            refine wp_region_up (UpB b_n gw11) [true, true, true, true, true, true, true, true, true, true, true, true, true, true] (by kernel_rfl) (by kernel_rfl) (by kernel_rfl) (fun _ _ h hu => h.up hu) (upb_refl _ _) ?ra35 ?rh35 ?rt35
            case rh35 =>
              intro w0 h0
              obtain ⟨⟨c0, c1, c2⟩, d0, d1, d2⟩ := six (m_10.out).1
              have t0 := mv_lt m_10.out
              have ne0 := Nat.ne_of_lt N_m_n.out
              have rx0 := fun x => h0.wd t0 ne0 c0 x
              have rx1 := fun x => h0.wd t0 ne0 c1 x
              have rx2 := fun x => h0.wd t0 ne0 c2 x
              clear c0 c1 c2 d0 d1 d2
              have rx3 := fun x => h0.wd (X2_10.out).1 (Nat.ne_of_lt N_X.out) (X2_10.out).2 x
              have rx4 := fun x => h0.wd (X3_10.out).1 (Nat.ne_of_lt N_X.out) (X3_10.out).2 x
              simp only [pickM]
              repeat (go_big_quiet_step ((go_at_call 12; with_reducible exact quiet_s (pick11 _ _ _ _ I2.out (by decide) D3.out))))
              refine wpQuiet_nil ?_
              rfl
            case rt35 =>
              change wpAnyU _ _ _ _ _ 6 _ _ _
              refine anyU_one (i := 14) (by kernel_rfl) rfl ?_
              intro w36 hu36 hc36
              have hu36 := bw_undrew hu36
              have B_37 := Lib.hid (bw_tr B_10.out hu36)
              clear B_10
              have m_37 := Lib.hid (MV.up m_10.out hu36)
              clear m_10
              have X0_37 := Lib.hid (CellAt.up X0_10.out hu36)
              clear X0_10
              have X1_37 := Lib.hid (CellAt.up X1_10.out hu36)
              clear X1_10
              have X2_37 := Lib.hid (CellAt.up X2_10.out hu36)
              clear X2_10
              have X3_37 := Lib.hid (CellAt.up X3_10.out hu36)
              clear X3_10
              have n_37 := Lib.hid (MV.up n_9.out hu36)
              clear n_9
              have C_36 := Lib.hid hc36; clear hc36 hu36
              go_wp2_with fail
              refine (store_lit _ m hh (1 + d3) r3 sr _ m_37.out.2 SM.out SR.out).mono ?_
              rintro e w38 hr38
              obtain ⟨a381, n381, b381, a382, n382, b382, a383, n383, b383, rfl, hm38, LN38, hb38⟩ := hr38.parts
              have B_39 := Lib.hid (bw_tr B_37.out hb38)
              clear B_37
              have m_39 := Lib.hid (MV.up m_37.out hb38)
              clear m_37
              have X0_39 := Lib.hid (CellAt.up X0_37.out hb38)
              clear X0_37
              have X1_39 := Lib.hid (CellAt.up X1_37.out hb38)
              clear X1_37
              have X2_39 := Lib.hid (CellAt.up X2_37.out hb38)
              clear X2_37
              have X3_39 := Lib.hid (CellAt.up X3_37.out hb38)
              clear X3_37
              have n_39 := Lib.hid (MV.up n_37.out hb38)
              clear n_37
              have C_39 := Lib.hid ((C_36.out).up hb38)
              clear C_36
              have HM38 := Lib.hid hm38; clear hm38 hb38
              go_wp2_with fail
              refine ⟨C_39.out, ?_⟩
              refine anyU_pures [false, false, false, false, false, false, false, false, false, false, false, false, false, false, false, true, true, true] 2 (by kernel_rfl) (by kernel_rfl) (by kernel_rfl) (fun _ _ h hu => h.up hu) C_39.out ?ra40 ?rh40 ?rt40
              case rh40 =>
                intro w0 h0
                simp only [pickM]
                repeat (go_big_quiet_step (fail))
                refine wpQuiet_nil ?_
                rfl
              case rt40 =>
                refine anyU_one (i := 18) (by kernel_rfl) rfl ?_
                intro w41 hu41 hc41
                have B_42 := Lib.hid (bw_tr B_39.out hu41)
                clear B_39
                have m_42 := Lib.hid (MV.up m_39.out hu41)
                clear m_39
                have X0_42 := Lib.hid (CellAt.up X0_39.out hu41)
                clear X0_39
                have X1_42 := Lib.hid (CellAt.up X1_39.out hu41)
                clear X1_39
                have X2_42 := Lib.hid (CellAt.up X2_39.out hu41)
                clear X2_39
                have X3_42 := Lib.hid (CellAt.up X3_39.out hu41)
                clear X3_39
                have n_42 := Lib.hid (MV.up n_39.out hu41)
                clear n_39
                have R38_42 := Lib.hid ((HM38.out).below hu41)
                clear HM38
                have C_41 := Lib.hid hc41; clear hc41 hu41
                obtain ⟨⟨c00, c01, c02⟩, d00, d01, d02⟩ := six (n_42.out).1
                have t0 := mv_lt n_42.out
                go_wp2_with fail
                clear c00 d00 c01 d01 c02 d02 t0
                have B_43 := Lib.hid (bel_set3 (x := .slice a381 n381 b381) (y := .slice a382 n382 b382) (z := .slice a383 n383 b383) B_42.out (LB_n.out))
                have m_44 := Lib.hid (mv_other (.slice a381 n381 b381) (.slice a382 n382 b382) (.slice a383 n383 b383) m_42.out n_42.out (Nat.ne_of_lt N_m_n.out))
                have X0_45 := Lib.hid (CellAt.set3 (.slice a381 n381 b381) (.slice a382 n382 b382) (.slice a383 n383 b383) X0_42.out (Nat.ne_of_lt N_X.out))
                have X1_46 := Lib.hid (CellAt.set3 (.slice a381 n381 b381) (.slice a382 n382 b382) (.slice a383 n383 b383) X1_42.out (Nat.ne_of_lt N_X.out))
                have X2_47 := Lib.hid (CellAt.set3 (.slice a381 n381 b381) (.slice a382 n382 b382) (.slice a383 n383 b383) X2_42.out (Nat.ne_of_lt N_X.out))
                have X3_48 := Lib.hid (CellAt.set3 (.slice a381 n381 b381) (.slice a382 n382 b382) (.slice a383 n383 b383) X3_42.out (Nat.ne_of_lt N_X.out))
                have n_49 := Lib.hid (mv_set n_42.out R38_42.out)
                have C_50 := Lib.hid (upb_set3 (q := b_n) (.slice a381 n381 b381) (.slice a382 n382 b382) (.slice a383 n383 b383) C_41.out)
                clear B_42
                clear m_42
                clear X0_42
                clear X1_42
                clear X2_42
                clear X3_42
                clear n_42
                clear R38_42
                clear C_41
                obtain ⟨gw51, hu51⟩ : ∃ u, ((w41.setCell ⟨b_n, 0, none⟩ (.slice a381 n381 b381)).setCell ⟨b_n, 1, none⟩ (.slice a382 n382 b382)).setCell ⟨b_n, 2, none⟩ (.slice a383 n383 b383) = u := ⟨_, rfl⟩
                rw [hu51] at B_43 m_44 X0_45 X1_46 X2_47 X3_48 n_49 C_50
                rw [hu51]
                clear hu51
                refine ⟨C_50.out, ?_⟩
                refine anyU_one (i := 19) (by kernel_rfl) rfl ?_
                intro w52 hu52 hc52
                have B_53 := Lib.hid (bw_tr B_43.out hu52)
                clear B_43
                have m_53 := Lib.hid (MV.up m_44.out hu52)
                clear m_44
                have X0_53 := Lib.hid (CellAt.up X0_45.out hu52)
                clear X0_45
                have X1_53 := Lib.hid (CellAt.up X1_46.out hu52)
                clear X1_46
                have X2_53 := Lib.hid (CellAt.up X2_47.out hu52)
                clear X2_47
                have X3_53 := Lib.hid (CellAt.up X3_48.out hu52)
                clear X3_48
                have n_53 := Lib.hid (MV.up n_49.out hu52)
                clear n_49
                have C_52 := Lib.hid hc52; clear hc52 hu52
                go_wp2_with fail
                refine ⟨C_52.out, ?_⟩
                refine anyU_nil (by kernel_rfl) ?_
                intro w54 hu54 hc54
                have B_55 := Lib.hid (bw_tr B_53.out hu54)
                clear B_53
                have m_55 := Lib.hid (MV.up m_53.out hu54)
                clear m_53
                have X0_55 := Lib.hid (CellAt.up X0_53.out hu54)
                clear X0_53
                have X1_55 := Lib.hid (CellAt.up X1_53.out hu54)
                clear X1_53
                have X2_55 := Lib.hid (CellAt.up X2_53.out hu54)
                clear X2_53
                have X3_55 := Lib.hid (CellAt.up X3_53.out hu54)
                clear X3_53
                have n_55 := Lib.hid (MV.up n_53.out hu54)
                clear n_53
                have C_54 := Lib.hid hc54; clear hc54 hu54
                go_wp2_with fail
                go_meet
                case rel => exact ⟨_, _, _, sr, s, by first | rfl | rw [hz], by rfl, m_55.out, n_55.out, B_55.out, fun e => sum_store OK.out (by omega) (m' := sr.1) (h := hh) (a := 1 + d3) (n := r3) (by rw [SR.out, ← e]), fun _ => rfl⟩
        · as_aux_lemma =>
            obtain ⟨sr, hsr⟩ : ∃ sr, drainR m hh d8 = sr := ⟨_, rfl⟩; have SR := Lib.hid hsr; clear hsr
            go_upto_region 11 with fail
            refine wp_region_up (UpB b_n gw11) [true, true, true, true, true, true, true, true] (by kernel_rfl) (by kernel_rfl) (by kernel_rfl) (fun _ _ h hu => h.up hu) (upb_refl _ _) ?ra56 ?rh56 ?rt56
            case rh56 =>
              intro w0 h0
              obtain ⟨⟨c0, c1, c2⟩, d0, d1, d2⟩ := six (m_10.out).1
              have t0 := mv_lt m_10.out
              have ne0 := Nat.ne_of_lt N_m_n.out
              have rx0 := fun x => h0.wd t0 ne0 c0 x
              have rx1 := fun x => h0.wd t0 ne0 c1 x
              have rx2 := fun x => h0.wd t0 ne0 c2 x
              clear c0 c1 c2 d0 d1 d2
              have rx3 := fun x => h0.wd (X2_10.out).1 (Nat.ne_of_lt N_X.out) (X2_10.out).2 x
              simp only [pickM]
              repeat (go_big_quiet_step ((go_at_call 12; with_reducible exact quiet_s (pick11 _ _ _ _ I2.out (by decide) D8.out))))
              refine wpQuiet_nil ?_
              rfl
            case rt56 =>
              change wpAnyU _ _ _ _ _ 6 _ _ _
              refine anyU_one (i := 8) (by kernel_rfl) rfl ?_
              intro w57 hu57 hc57
              have hu57 := bw_undrew hu57
              have B_58 := Lib.hid (bw_tr B_10.out hu57)
              clear B_10
              have m_58 := Lib.hid (MV.up m_10.out hu57)
              clear m_10
              have X0_58 := Lib.hid (CellAt.up X0_10.out hu57)
              clear X0_10
              have X1_58 := Lib.hid (CellAt.up X1_10.out hu57)
              clear X1_10
              have X2_58 := Lib.hid (CellAt.up X2_10.out hu57)
              clear X2_10
              have X3_58 := Lib.hid (CellAt.up X3_10.out hu57)
              clear X3_10
              have n_58 := Lib.hid (MV.up n_9.out hu57)
              clear n_9
              have C_57 := Lib.hid hc57; clear hc57 hu57
              go_wp2_with fail
              refine (drain_lit _ m hh d8 sr _ m_58.out.2 SM.out SR.out).mono ?_
              rintro e w59 hr59
              obtain ⟨a591, n591, b591, a592, n592, b592, a593, n593, b593, rfl, hm59, LN59, hb59⟩ := hr59.parts
              have B_60 := Lib.hid (bw_tr B_58.out hb59)
              clear B_58
              have m_60 := Lib.hid (MV.up m_58.out hb59)
              clear m_58
              have X0_60 := Lib.hid (CellAt.up X0_58.out hb59)
              clear X0_58
              have X1_60 := Lib.hid (CellAt.up X1_58.out hb59)
              clear X1_58
              have X2_60 := Lib.hid (CellAt.up X2_58.out hb59)
              clear X2_58
              have X3_60 := Lib.hid (CellAt.up X3_58.out hb59)
              clear X3_58
              have n_60 := Lib.hid (MV.up n_58.out hb59)
              clear n_58
              have C_60 := Lib.hid ((C_57.out).up hb59)
              clear C_57
              have HM59 := Lib.hid hm59; clear hm59 hb59
              go_wp2_with fail
              refine ⟨C_60.out, ?_⟩
              refine anyU_pures [false, false, false, false, false, false, false, false, false, true, true, true] 2 (by kernel_rfl) (by kernel_rfl) (by kernel_rfl) (fun _ _ h hu => h.up hu) C_60.out ?ra61 ?rh61 ?rt61
              case rh61 =>
                intro w0 h0
                simp only [pickM]
                repeat (go_big_quiet_step (fail))
                refine wpQuiet_nil ?_
                rfl
              case rt61 =>
                refine anyU_one (i := 12) (by kernel_rfl) rfl ?_
                intro w62 hu62 hc62
                have B_63 := Lib.hid (bw_tr B_60.out hu62)
                clear B_60
                have m_63 := Lib.hid (MV.up m_60.out hu62)
                clear m_60
                have X0_63 := Lib.hid (CellAt.up X0_60.out hu62)
                clear X0_60
                have X1_63 := Lib.hid (CellAt.up X1_60.out hu62)
                clear X1_60
                have X2_63 := Lib.hid (CellAt.up X2_60.out hu62)
                clear X2_60
                have X3_63 := Lib.hid (CellAt.up X3_60.out hu62)
                clear X3_60
                have n_63 := Lib.hid (MV.up n_60.out hu62)
                clear n_60
                have R59_63 := Lib.hid ((HM59.out).below hu62)
                clear HM59
                have C_62 := Lib.hid hc62; clear hc62 hu62
                obtain ⟨⟨c00, c01, c02⟩, d00, d01, d02⟩ := six (n_63.out).1
                have t0 := mv_lt n_63.out
                go_wp2_with fail
                clear c00 d00 c01 d01 c02 d02 t0
                have B_64 := Lib.hid (bel_set3 (x := .slice a591 n591 b591) (y := .slice a592 n592 b592) (z := .slice a593 n593 b593) B_63.out (LB_n.out))
                have m_65 := Lib.hid (mv_other (.slice a591 n591 b591) (.slice a592 n592 b592) (.slice a593 n593 b593) m_63.out n_63.out (Nat.ne_of_lt N_m_n.out))
                have X0_66 := Lib.hid (CellAt.set3 (.slice a591 n591 b591) (.slice a592 n592 b592) (.slice a593 n593 b593) X0_63.out (Nat.ne_of_lt N_X.out))
                have X1_67 := Lib.hid (CellAt.set3 (.slice a591 n591 b591) (.slice a592 n592 b592) (.slice a593 n593 b593) X1_63.out (Nat.ne_of_lt N_X.out))
                have X2_68 := Lib.hid (CellAt.set3 (.slice a591 n591 b591) (.slice a592 n592 b592) (.slice a593 n593 b593) X2_63.out (Nat.ne_of_lt N_X.out))
                have X3_69 := Lib.hid (CellAt.set3 (.slice a591 n591 b591) (.slice a592 n592 b592) (.slice a593 n593 b593) X3_63.out (Nat.ne_of_lt N_X.out))
                have n_70 := Lib.hid (mv_set n_63.out R59_63.out)
                have C_71 := Lib.hid (upb_set3 (q := b_n) (.slice a591 n591 b591) (.slice a592 n592 b592) (.slice a593 n593 b593) C_62.out)
                clear B_63
                clear m_63
                clear X0_63
                clear X1_63
                clear X2_63
                clear X3_63
                clear n_63
                clear R59_63
                clear C_62
                obtain ⟨gw72, hu72⟩ : ∃ u, ((w62.setCell ⟨b_n, 0, none⟩ (.slice a591 n591 b591)).setCell ⟨b_n, 1, none⟩ (.slice a592 n592 b592)).setCell ⟨b_n, 2, none⟩ (.slice a593 n593 b593) = u := ⟨_, rfl⟩
                rw [hu72] at B_64 m_65 X0_66 X1_67 X2_68 X3_69 n_70 C_71
                rw [hu72]
                clear hu72
                refine ⟨C_71.out, ?_⟩
                refine anyU_one (i := 13) (by kernel_rfl) rfl ?_
                intro w73 hu73 hc73
                have B_74 := Lib.hid (bw_tr B_64.out hu73)
                clear B_64
                have m_74 := Lib.hid (MV.up m_65.out hu73)
                clear m_65
                have X0_74 := Lib.hid (CellAt.up X0_66.out hu73)
                clear X0_66
                have X1_74 := Lib.hid (CellAt.up X1_67.out hu73)
                clear X1_67
                have X2_74 := Lib.hid (CellAt.up X2_68.out hu73)
                clear X2_68
                have X3_74 := Lib.hid (CellAt.up X3_69.out hu73)
                clear X3_69
                have n_74 := Lib.hid (MV.up n_70.out hu73)
                clear n_70
                have C_73 := Lib.hid hc73; clear hc73 hu73
                go_wp2_with fail
                refine ⟨C_73.out, ?_⟩
                refine anyU_nil (by kernel_rfl) ?_
                intro w75 hu75 hc75
                have B_76 := Lib.hid (bw_tr B_74.out hu75)
                clear B_74
                have m_76 := Lib.hid (MV.up m_74.out hu75)
                clear m_74
                have X0_76 := Lib.hid (CellAt.up X0_74.out hu75)
                clear X0_74
                have X1_76 := Lib.hid (CellAt.up X1_74.out hu75)
                clear X1_74
                have X2_76 := Lib.hid (CellAt.up X2_74.out hu75)
                clear X2_74
                have X3_76 := Lib.hid (CellAt.up X3_74.out hu75)
                clear X3_74
                have n_76 := Lib.hid (MV.up n_74.out hu75)
                clear n_74
                have C_75 := Lib.hid hc75; clear hc75 hu75
                go_wp2_with fail
                go_meet
                case rel => exact ⟨_, _, _, sr, s, by first | rfl | rw [hz], by rfl, m_76.out, n_76.out, B_76.out, fun e => sum_drain OK.out (m' := sr.1) (h := hh) (d := d8) (by rw [SR.out, ← e]), fun _ => rfl⟩
      case rest =>
        obtain ⟨xn, yn, zn, sr, s', rfl, rfl, hm, hn, hb, hok1, hno1⟩ := hcut
        have HM2 := Lib.hid hm; have HN2 := Lib.hid hn; have HB2 := Lib.hid hb; have HY := Lib.hid hok1; have HNo := Lib.hid hno1
        clear hm hn hb hok1 hno1 B_10 m_10 X0_10 X1_10 X2_10 X3_10 n_9
        by_cases hz : sr.2 = 0
        rotate_left
        · obtain rfl := HNo.out hz
          go_wp2_with fail
          exact ⟨⟨j + 1, _, by omega, by omega, rfl, by go_num, ⟨_, _, _, _, HM2.out, OK.out⟩, HB2.out⟩, by simp [intOf]; omega⟩
        obtain ⟨a771, n771, c771, a772, n772, c772, a773, n773, c773, rfl, rfl, rfl, LN77⟩ := (HN2.out).shape
        obtain ⟨⟨c00, c01, c02⟩, d00, d01, d02⟩ := six (HN2.out).1
        have t0 := mv_lt HN2.out
        obtain ⟨⟨c10, c11, c12⟩, d10, d11, d12⟩ := six (HM2.out).1
        have t1 := mv_lt HM2.out
        go_wp2_with fail
        clear c00 d00 c01 d01 c02 d02 c10 d10 c11 d11 c12 d12 t0 t1
        have R78_0 := Lib.hid HN2.out.2
        have m_79 := Lib.hid (mv_set HM2.out R78_0.out)
        have n_80 := Lib.hid (mv_other (.slice a771 n771 c771) (.slice a772 n772 c772) (.slice a773 n773 c773) HN2.out HM2.out (Ne.symm (Nat.ne_of_lt N_m_n.out)))
        have B_81 := Lib.hid (bel_set3 (x := .slice a771 n771 c771) (y := .slice a772 n772 c772) (z := .slice a773 n773 c773) HB2.out (LB_m.out))
        clear HM2
        clear HN2
        clear HB2
        clear R78_0
        obtain ⟨gw82, hu82⟩ : ∃ u, ((wc.setCell ⟨b_m, 0, none⟩ (.slice a771 n771 c771)).setCell ⟨b_m, 1, none⟩ (.slice a772 n772 c772)).setCell ⟨b_m, 2, none⟩ (.slice a773 n773 c773) = u := ⟨_, rfl⟩
        rw [hu82] at m_79 n_80 B_81
        rw [hu82]
        clear hu82
        exact ⟨⟨j + 1, _, by omega, by omega, rfl, by go_num, ⟨_, _, _, _, m_79.out, HY.out hz⟩, B_81.out⟩, by simp [intOf]; omega⟩
  case rest =>
    obtain ⟨s, rfl, hra, hbb⟩ := hcut
    obtain ⟨x, y, z, m, hm, hok⟩ := hra
    have HBR := Lib.hid hbb; have HM := Lib.hid hm; have OK := Lib.hid hok
    clear hbb hm hok RA B_6
    have SM := Lib.hid (OK.out.good.small (by decide) (by decide)); have LD := Lib.hid (sum_load OK.out)
    obtain ⟨⟨c00, c01, c02⟩, d00, d01, d02⟩ := six (HM.out).1
    have t0 := mv_lt HM.out
    go_wp2_with fail
    refine (load_any _ m 1 0 (s, 0) _ HM.out.2 SM.out LD.out).mono ?_
    rintro e w83 ⟨rfl, hb83⟩
    clear c00 d00 c01 d01 c02 d02 t0
    have B_84 := Lib.hid (bw_tr HBR.out hb83)
    clear HBR
    have m_84 := Lib.hid (MV.up HM.out hb83)
    clear HM
    clear hb83
    go_wp2_with fail
    go_ret
    exact ⟨ret1 (rbool rfl), B_84.out⟩
end Go.Proofs.Ytkhobelceghgfaa
