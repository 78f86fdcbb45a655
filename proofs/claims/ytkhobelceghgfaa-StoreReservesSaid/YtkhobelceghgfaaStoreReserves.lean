/-
  The walk of the law StoreReserves (printed by gen_reserves.py).
-/
import Derived.Test.YtkhobelceghgfaaMemRes
import Derived.Test.YtkhobelceghgfaaMemCell
import Derived.Deep.CutBlock
import Derived.Deep.DeepCutAuto
namespace Go.Proofs.Ytkhobelceghgfaa
open Go.RowKit
/-- The law's memory at a loop's head. -/
def ResAt (w : World) (bm : Nat) (ww : Int) (t : Bool) : Prop := ∃ x y z m, MV w bm x y z m ∧ ResOK m ww t
set_option maxHeartbeats 8000000 in
set_option maxRecDepth 100000 in
theorem walkStoreReserves (v : Value) (raw : List R4) (at' other n : Int) (w : World) (hv : ArgS 4 c4 w v raw) (hok : ∀ r ∈ raw, ok4 r) (hj0 : I64 at') (hj1 : I64 other) (_ : I64 n) :
    Calls Try.prog 5 #[v, .int .i64 at', .int .i64 other, .int .i64 n] w fun e w' => e = .returned (.bool true) ∧ Below w.heap.size w w' := by
  obtain ⟨a, len, cap, rfl, h⟩ := rows4_of hv hok
  have H := Lib.hid h; have J0 := Lib.hid hj0; have J1 := Lib.hid hj1
  obtain ⟨_, _, hlc, hcm, _⟩ := h
  unfold maxLen at hcm
  clear hv hok hj0 hj1
  have pw := pickN_bd at' 4 (by decide); have po := pickN_bd other 4 (by decide)
  obtain ⟨ww, e1⟩ : ∃ ww, pickN at' 4 = ww := ⟨_, rfl⟩; obtain ⟨oo, e2⟩ : ∃ oo, pickN other 4 = oo := ⟨_, rfl⟩
  rw [e1] at pw; rw [e2] at po; have DW := Lib.hid e1; have DO := Lib.hid e2; clear e1 e2
  obtain ⟨u0, m0, hr0, hk0⟩ := res_new pw.1 pw.2
  have RR0 := Lib.hid hr0; have RK0 := Lib.hid hk0; clear hr0 hk0
  have SN : Hid (Small (newMem 2 4)) := Lib.hid ((good_new 2 4).small (by decide) (by decide))
  have HB : Hid (Below w.heap.size w w) := Lib.hid (Below.refl _ _)
  go_enter Try.func5, Try.ntmps5
  go_wp2_with fail
  refine (awake11 _).mono ?_
  rintro e w1 ⟨rfl, hb1⟩
  have B_2 := Lib.hid (bw_tr HB.out hb1)
  clear HB
  clear hb1
  go_wp2_with fail
  refine (new_lit 2 4 (newMem 2 4, 0) _ (by decide +kernel)).mono ?_
  rintro e w3 hr3
  obtain ⟨a31, n31, b31, a32, n32, b32, a33, n33, b33, rfl, hm3, LN3, hb3⟩ := hr3.parts
  have B_4 := Lib.hid (bw_tr B_2.out hb3)
  clear B_2
  have HM3 := Lib.hid hm3; clear hm3 hb3
  go_upto_region 3 with (fail)
  have LB_m : Hid (w.heap.size ≤ w3.heap.size) := Lib.hid (B_4.out).size
  have m_5 := Lib.hid (mv_new HM3.out)
  have B_6 := Lib.hid (bw_tr B_4.out (bel_new w3 (.cells #[.slice a31 n31 b31, .slice a32 n32 b32, .slice a33 n33 b33] 27)))
  clear B_4
  clear HM3
  obtain ⟨gw7, hu7⟩ : ∃ u, w3.alloc (.cells #[.slice a31 n31 b31, .slice a32 n32 b32, .slice a33 n33 b33] 27) = u := ⟨_, rfl⟩
  rw [hu7] at B_6 m_5
  rw [hu7]
  clear hu7
  obtain ⟨b_m, hq⟩ : ∃ q, w3.heap.size = q := ⟨_, rfl⟩
  rw [hq] at m_5
  have LB_m := Lib.hid (Nat.le_trans LB_m.out (Nat.le_of_eq hq))
  rw [hq]
  clear hq
  obtain ⟨⟨c00, c01, c02⟩, d00, d01, d02⟩ := six (m_5.out).1
  have t0 := mv_lt m_5.out
  go_wp2_with (go_at_call 12; (with_reducible refine (pick11 _ _ _ _ J0.out (by decide) DW.out).mono ?_); rintro e w' ⟨rfl, rfl⟩)
  refine (reserve_lit _ (newMem 2 4) 0 ww u0 (m0, 0) _ m_5.out.2 SN.out RR0.out).mono ?_
  rintro e w8 hr8
  obtain ⟨a81, n81, b81, a82, n82, b82, a83, n83, b83, rfl, hm8, LN8, hb8⟩ := hr8.parts
  clear c00 d00 c01 d01 c02 d02 t0
  have B_9 := Lib.hid (bw_tr B_6.out hb8)
  clear B_6
  have m_9 := Lib.hid (MV.up m_5.out hb8)
  clear m_5
  have HM8 := Lib.hid hm8; clear hm8 hb8
  obtain ⟨⟨c00, c01, c02⟩, d00, d01, d02⟩ := six (m_9.out).1
  have t0 := mv_lt m_9.out
  go_upto_region 5 with fail
  clear c00 d00 c01 d01 c02 d02 t0
  have B_10 := Lib.hid (bel_set3 (x := .slice a81 n81 b81) (y := .slice a82 n82 b82) (z := .slice a83 n83 b83) B_9.out (LB_m.out))
  have m_11 := Lib.hid (mv_set m_9.out HM8.out)
  clear B_9
  clear m_9
  clear HM8
  obtain ⟨gw12, hu12⟩ : ∃ u, ((w8.setCell ⟨b_m, 0, none⟩ (.slice a81 n81 b81)).setCell ⟨b_m, 1, none⟩ (.slice a82 n82 b82)).setCell ⟨b_m, 2, none⟩ (.slice a83 n83 b83) = u := ⟨_, rfl⟩
  rw [hu12] at B_10 m_11
  rw [hu12]
  clear hu12
  have RA : Hid (ResAt gw12 b_m ww false) := Lib.hid ⟨_, _, _, _, m_11.out, RK0.out⟩
  clear m_11
  go_upto_block 0 with fail
  go_cut [15] (fun s15 wx => ∃ t : Bool, s15 = .bool t ∧ ResAt wx b_m ww t ∧ Below w.heap.size w wx)
  case first =>
    go_wp2_with fail
    go_loopw [15, 16] (fun s15 i wr => ∃ (j : Nat) (t : Bool), j ≤ len ∧ j ≤ 20 ∧ s15 = .bool t ∧ i = .int .i64 j ∧ ResAt wr b_m ww t ∧ Below w.heap.size w wr) (fun _ i _ => len - (intOf i).toNat)
    case atStart => exact ⟨0, _, Nat.zero_le _, Nat.zero_le _, rfl, rfl, RA.out, B_10.out⟩
    case round =>
      obtain ⟨j, t, hj, hj20, rfl, rfl, hra, hbb⟩ := hrel
      have HRA := Lib.hid hra; have HBR := Lib.hid hbb
      by_cases hlt : j < len
      rotate_left
      · clear hra hbb
        go_wp2_with fail
        go_meet
        case rel => exact ⟨_, rfl, HRA.out, HBR.out⟩
      by_cases h20 : j < 20
      rotate_left
      · clear hra hbb
        go_wp2_with fail
        go_meet
        case rel => exact ⟨_, rfl, HRA.out, HBR.out⟩
      obtain ⟨x, y, z, m, hm, hok⟩ := hra
      have HM := Lib.hid hm; have OK := Lib.hid hok; clear hm hok hbb HRA RA RK0 RR0
      obtain ⟨a131, n131, c131, a132, n132, c132, a133, n133, c133, rfl, rfl, rfl, LN13⟩ := (HM.out).shape
      obtain ⟨rfl, rfl, rfl⟩ : 4 = n131 ∧ 2 = n132 ∧ 2 = n133 := lens_of HM.out.2 OK.out.good
      have SM := Lib.hid (OK.out.good.small (by decide) (by decide))
      obtain ⟨b, o, r0, r1, r2, r3, rfl, hbl, hrow, ⟨i0, i1, i2, i3⟩, g0, g1, g2, g3⟩ := H.out.row hlt
      have G0 := Lib.hid g0; have I0 := Lib.hid i0
      have G2 := Lib.hid g2; have I2 := Lib.hid i2
      have G3 := Lib.hid g3; have I3 := Lib.hid i3
      clear g0 g1 g2 g3 i0 i1 i2 i3 hrow
      have p4 := pickN_bd r2 4 (by decide); have p8 := pickN_bd r2 8 (by decide); have p0 := pickN_bd r0 4 (by decide)
      generalize hd8 : pickN r2 8 = d8 at *; generalize hd4 : pickN r2 4 = kk at *; generalize hd0 : pickN r0 4 = d0 at *
      have D8 := Lib.hid hd8; have D4 := Lib.hid hd4; have D0 := Lib.hid hd0; clear hd8 hd4 hd0
      have x2 := rd_cell HBR.out hbl G2.out; have x0 := rd_cell HBR.out hbl G0.out; have hsz := HBR.out.size
      go_upto_region 14 with (first | (go_at_call 12; (with_reducible refine (pick11 _ _ _ _ I2.out (by decide) D4.out).mono ?_); rintro e w' ⟨rfl, rfl⟩) | (go_at_call 12; (with_reducible refine (pick11 _ _ _ _ I0.out (by decide) D0.out).mono ?_); rintro e w' ⟨rfl, rfl⟩))
      have hd : d0 = 0 ∨ d0 = 1 ∨ d0 = 2 ∨ d0 = 3 := by omega
      rcases hd with rfl | rfl | rfl | rfl
      · as_aux_lemma =>
          obtain ⟨sr, hsr⟩ : ∃ sr, storeR m 1 kk r3 = sr := ⟨_, rfl⟩; have SR := Lib.hid hsr; clear hsr
          go_upto_region 15 with fail
          go_cut [18, 19] (fun s18 s19 wx => ∃ bn xn yn zn, s18 = .pointer (some ⟨bn, 0, none⟩) ∧ s19 = .int .i64 sr.2 ∧ MV wx bn xn yn zn sr.1 ∧ wr.heap.size ≤ bn ∧ Below wr.heap.size wr wx)
          case first =>
            have HE : Hid (Below wr.heap.size wr wr) := Lib.hid (Below.refl _ _)
            clear x2 x0
            have y2 := Nat.lt_of_lt_of_le hbl hsz
            refine wp_region_up (UpB wr.heap.size wr) [true, true, true, true, true, true, true] (by kernel_rfl) (by kernel_rfl) (by kernel_rfl) (fun _ _ h hu => h.up hu) (upb_refl _ _) ?ra14 ?rh14 ?rt14
            case rh14 =>
              intro w0 h0
              obtain ⟨⟨c0, c1, c2⟩, d0, d1, d2⟩ := six (HM.out).1
              have t0 := mv_lt HM.out
              have ne0 := Nat.ne_of_lt t0
              have rx0 := fun x => h0.wd t0 ne0 c0 x
              have rx1 := fun x => h0.wd t0 ne0 c1 x
              have rx2 := fun x => h0.wd t0 ne0 c2 x
              clear c0 c1 c2 d0 d1 d2
              have rx3 := fun x => h0.wd y2 (Nat.ne_of_lt y2) (rd_cell HBR.out hbl G3.out) x
              simp only [pickM]
              repeat (go_big_quiet_step ((fail)))
              refine wpQuiet_nil ?_
              rfl
            case rt14 =>
              change wpAnyU _ _ _ _ _ 7 _ _ _
              refine anyU_two (i := 7) (k := 11) (by kernel_rfl) rfl rfl ?_ ?_
              · intro w15 hu15 hc15
                have hu15 := bw_undrew hu15
                have B_16 := Lib.hid (bw_tr HBR.out hu15)
                clear HBR
                have m_16 := Lib.hid (MV.up HM.out hu15)
                clear HM
                have E_16 := Lib.hid (bw_tr HE.out hu15)
                clear HE
                have C_15 := Lib.hid hc15; clear hc15 hu15
                go_wp2_with fail
                refine (store_lit _ m 1 kk r3 sr _ m_16.out.2 SM.out SR.out).mono ?_
                rintro e w17 hr17
                obtain ⟨a171, n171, b171, a172, n172, b172, a173, n173, b173, rfl, hm17, LN17, hb17⟩ := hr17.parts
                have B_18 := Lib.hid (bw_tr B_16.out hb17)
                clear B_16
                have m_18 := Lib.hid (MV.up m_16.out hb17)
                clear m_16
                have E_18 := Lib.hid (bw_tr E_16.out hb17)
                clear E_16
                have C_18 := Lib.hid ((C_15.out).up hb17)
                clear C_15
                have HM17 := Lib.hid hm17; clear hm17 hb17
                go_wp2_with fail
                refine ⟨C_18.out, ?_⟩
                refine anyU_pures [false, false, false, false, false, false, false, false, true, true, true] 3 (by kernel_rfl) (by kernel_rfl) (by kernel_rfl) (fun _ _ h hu => h.up hu) C_18.out ?ra19 ?rh19 ?rt19
                case rh19 =>
                  intro w0 h0
                  simp only [pickM]
                  repeat (go_big_quiet_step (fail))
                  refine wpQuiet_nil ?_
                  rfl
                case rt19 =>
                  refine anyU_one (i := 11) (by kernel_rfl) rfl ?_
                  intro w20 hu20 hc20
                  have B_21 := Lib.hid (bw_tr B_18.out hu20)
                  clear B_18
                  have m_21 := Lib.hid (MV.up m_18.out hu20)
                  clear m_18
                  have E_21 := Lib.hid (bw_tr E_18.out hu20)
                  clear E_18
                  have R17_21 := Lib.hid ((HM17.out).below hu20)
                  clear HM17
                  have C_20 := Lib.hid hc20; clear hc20 hu20
                  go_wp2_with fail
                  have N_m_n := Lib.hid (mv_lt m_21.out)
                  have LB_n := Lib.hid (B_21.out).size
                  have LE_n := Lib.hid (E_21.out).size
                  have LC_n := Lib.hid (C_20.out).1
                  have n_22 := Lib.hid (mv_new (isMem_no w20))
                  have B_23 := Lib.hid (bw_tr B_21.out (bel_new w20 (.cells #[.slice none 0 0, .slice none 0 0, .slice none 0 0] 27)))
                  clear B_21
                  have m_23 := Lib.hid (MV.up m_21.out (bel_new w20 (.cells #[.slice none 0 0, .slice none 0 0, .slice none 0 0] 27)))
                  clear m_21
                  have E_23 := Lib.hid (bw_tr E_21.out (bel_new w20 (.cells #[.slice none 0 0, .slice none 0 0, .slice none 0 0] 27)))
                  clear E_21
                  have R17_23 := Lib.hid ((R17_21.out).below (bel_new w20 (.cells #[.slice none 0 0, .slice none 0 0, .slice none 0 0] 27)))
                  clear R17_21
                  have C_23 := Lib.hid ((C_20.out).up (bel_new w20 (.cells #[.slice none 0 0, .slice none 0 0, .slice none 0 0] 27)))
                  clear C_20
                  obtain ⟨gw24, hu24⟩ : ∃ u, w20.alloc (.cells #[.slice none 0 0, .slice none 0 0, .slice none 0 0] 27) = u := ⟨_, rfl⟩
                  rw [hu24] at B_23 m_23 E_23 R17_23 C_23 n_22
                  rw [hu24]
                  clear hu24
                  obtain ⟨b_n, hq⟩ : ∃ q, w20.heap.size = q := ⟨_, rfl⟩
                  rw [hq] at n_22
                  have N_m_n := Lib.hid (Nat.lt_of_lt_of_le N_m_n.out (Nat.le_of_eq hq))
                  have LB_n := Lib.hid (Nat.le_trans LB_n.out (Nat.le_of_eq hq))
                  have LE_n := Lib.hid (Nat.le_trans LE_n.out (Nat.le_of_eq hq))
                  have LC_n := Lib.hid (Nat.le_trans LC_n.out (Nat.le_of_eq hq))
                  rw [hq]
                  clear hq
                  refine ⟨C_23.out, ?_⟩
                  refine anyU_one (i := 12) (by kernel_rfl) rfl ?_
                  intro w25 hu25 hc25
                  have B_26 := Lib.hid (bw_tr B_23.out hu25)
                  clear B_23
                  have m_26 := Lib.hid (MV.up m_23.out hu25)
                  clear m_23
                  have E_26 := Lib.hid (bw_tr E_23.out hu25)
                  clear E_23
                  have R17_26 := Lib.hid ((R17_23.out).below hu25)
                  clear R17_23
                  have n_26 := Lib.hid (MV.up n_22.out hu25)
                  clear n_22
                  have C_25 := Lib.hid hc25; clear hc25 hu25
                  obtain ⟨⟨c00, c01, c02⟩, d00, d01, d02⟩ := six (n_26.out).1
                  have t0 := mv_lt n_26.out
                  go_wp2_with fail
                  clear c00 d00 c01 d01 c02 d02 t0
                  have B_27 := Lib.hid (bel_set3 (x := .slice a171 n171 b171) (y := .slice a172 n172 b172) (z := .slice a173 n173 b173) B_26.out (LB_n.out))
                  have m_28 := Lib.hid (mv_other (.slice a171 n171 b171) (.slice a172 n172 b172) (.slice a173 n173 b173) m_26.out n_26.out (Nat.ne_of_lt N_m_n.out))
                  have E_29 := Lib.hid (bel_set3 (x := .slice a171 n171 b171) (y := .slice a172 n172 b172) (z := .slice a173 n173 b173) E_26.out (LE_n.out))
                  have n_30 := Lib.hid (mv_set n_26.out R17_26.out)
                  have C_31 := Lib.hid (upb_new3 (.slice a171 n171 b171) (.slice a172 n172 b172) (.slice a173 n173 b173) C_25.out LC_n.out)
                  clear B_26
                  clear m_26
                  clear E_26
                  clear R17_26
                  clear n_26
                  clear C_25
                  obtain ⟨gw32, hu32⟩ : ∃ u, ((w25.setCell ⟨b_n, 0, none⟩ (.slice a171 n171 b171)).setCell ⟨b_n, 1, none⟩ (.slice a172 n172 b172)).setCell ⟨b_n, 2, none⟩ (.slice a173 n173 b173) = u := ⟨_, rfl⟩
                  rw [hu32] at B_27 m_28 E_29 n_30 C_31
                  rw [hu32]
                  clear hu32
                  refine ⟨C_31.out, ?_⟩
                  refine anyU_one (i := 13) (by kernel_rfl) rfl ?_
                  intro w33 hu33 hc33
                  have B_34 := Lib.hid (bw_tr B_27.out hu33)
                  clear B_27
                  have m_34 := Lib.hid (MV.up m_28.out hu33)
                  clear m_28
                  have E_34 := Lib.hid (bw_tr E_29.out hu33)
                  clear E_29
                  have n_34 := Lib.hid (MV.up n_30.out hu33)
                  clear n_30
                  have C_33 := Lib.hid hc33; clear hc33 hu33
                  go_wp2_with fail
                  refine ⟨C_33.out, ?_⟩
                  refine anyU_nil (by kernel_rfl) ?_
                  intro w35 hu35 hc35
                  have B_36 := Lib.hid (bw_tr B_34.out hu35)
                  clear B_34
                  have m_36 := Lib.hid (MV.up m_34.out hu35)
                  clear m_34
                  have E_36 := Lib.hid (bw_tr E_34.out hu35)
                  clear E_34
                  have n_36 := Lib.hid (MV.up n_34.out hu35)
                  clear n_34
                  have C_35 := Lib.hid hc35; clear hc35 hu35
                  go_wp2_with fail
                  go_meet
                  case rel => exact ⟨_, _, _, _, rfl, rfl, n_36.out, LE_n.out, E_36.out⟩
              · intro w37 hu37 hc37
                have hu37 := bw_undrew hu37
                have B_38 := Lib.hid (bw_tr HBR.out hu37)
                clear HBR
                have m_38 := Lib.hid (MV.up HM.out hu37)
                clear HM
                have E_38 := Lib.hid (bw_tr HE.out hu37)
                clear HE
                have C_37 := Lib.hid hc37; clear hc37 hu37
                go_wp2_with fail
                have N_m_n := Lib.hid (mv_lt m_38.out)
                have LB_n := Lib.hid (B_38.out).size
                have LE_n := Lib.hid (E_38.out).size
                have LC_n := Lib.hid (C_37.out).1
                have n_39 := Lib.hid (mv_new (isMem_no w37))
                have B_40 := Lib.hid (bw_tr B_38.out (bel_new w37 (.cells #[.slice none 0 0, .slice none 0 0, .slice none 0 0] 27)))
                clear B_38
                have m_40 := Lib.hid (MV.up m_38.out (bel_new w37 (.cells #[.slice none 0 0, .slice none 0 0, .slice none 0 0] 27)))
                clear m_38
                have E_40 := Lib.hid (bw_tr E_38.out (bel_new w37 (.cells #[.slice none 0 0, .slice none 0 0, .slice none 0 0] 27)))
                clear E_38
                have C_40 := Lib.hid ((C_37.out).up (bel_new w37 (.cells #[.slice none 0 0, .slice none 0 0, .slice none 0 0] 27)))
                clear C_37
                obtain ⟨gw41, hu41⟩ : ∃ u, w37.alloc (.cells #[.slice none 0 0, .slice none 0 0, .slice none 0 0] 27) = u := ⟨_, rfl⟩
                rw [hu41] at B_40 m_40 E_40 C_40 n_39
                rw [hu41]
                clear hu41
                obtain ⟨b_n, hq⟩ : ∃ q, w37.heap.size = q := ⟨_, rfl⟩
                rw [hq] at n_39
                have N_m_n := Lib.hid (Nat.lt_of_lt_of_le N_m_n.out (Nat.le_of_eq hq))
                have LB_n := Lib.hid (Nat.le_trans LB_n.out (Nat.le_of_eq hq))
                have LE_n := Lib.hid (Nat.le_trans LE_n.out (Nat.le_of_eq hq))
                have LC_n := Lib.hid (Nat.le_trans LC_n.out (Nat.le_of_eq hq))
                rw [hq]
                clear hq
                refine ⟨C_40.out, ?_⟩
                refine anyU_one (i := 7) (by kernel_rfl) rfl ?_
                intro w42 hu42 hc42
                have B_43 := Lib.hid (bw_tr B_40.out hu42)
                clear B_40
                have m_43 := Lib.hid (MV.up m_40.out hu42)
                clear m_40
                have E_43 := Lib.hid (bw_tr E_40.out hu42)
                clear E_40
                have n_43 := Lib.hid (MV.up n_39.out hu42)
                clear n_39
                have C_42 := Lib.hid hc42; clear hc42 hu42
                go_wp2_with fail
                refine (store_lit _ m 1 kk r3 sr _ m_43.out.2 SM.out SR.out).mono ?_
                rintro e w44 hr44
                obtain ⟨a441, n441, b441, a442, n442, b442, a443, n443, b443, rfl, hm44, LN44, hb44⟩ := hr44.parts
                have B_45 := Lib.hid (bw_tr B_43.out hb44)
                clear B_43
                have m_45 := Lib.hid (MV.up m_43.out hb44)
                clear m_43
                have E_45 := Lib.hid (bw_tr E_43.out hb44)
                clear E_43
                have n_45 := Lib.hid (MV.up n_43.out hb44)
                clear n_43
                have C_45 := Lib.hid ((C_42.out).up hb44)
                clear C_42
                have HM44 := Lib.hid hm44; clear hm44 hb44
                go_wp2_with fail
                refine ⟨C_45.out, ?_⟩
                refine anyU_pures [false, false, false, false, false, false, false, false, true, true, true] 2 (by kernel_rfl) (by kernel_rfl) (by kernel_rfl) (fun _ _ h hu => h.up hu) C_45.out ?ra46 ?rh46 ?rt46
                case rh46 =>
                  intro w0 h0
                  simp only [pickM]
                  repeat (go_big_quiet_step (fail))
                  refine wpQuiet_nil ?_
                  rfl
                case rt46 =>
                  refine anyU_one (i := 12) (by kernel_rfl) rfl ?_
                  intro w47 hu47 hc47
                  have B_48 := Lib.hid (bw_tr B_45.out hu47)
                  clear B_45
                  have m_48 := Lib.hid (MV.up m_45.out hu47)
                  clear m_45
                  have E_48 := Lib.hid (bw_tr E_45.out hu47)
                  clear E_45
                  have n_48 := Lib.hid (MV.up n_45.out hu47)
                  clear n_45
                  have R44_48 := Lib.hid ((HM44.out).below hu47)
                  clear HM44
                  have C_47 := Lib.hid hc47; clear hc47 hu47
                  obtain ⟨⟨c00, c01, c02⟩, d00, d01, d02⟩ := six (n_48.out).1
                  have t0 := mv_lt n_48.out
                  go_wp2_with fail
                  clear c00 d00 c01 d01 c02 d02 t0
                  have B_49 := Lib.hid (bel_set3 (x := .slice a441 n441 b441) (y := .slice a442 n442 b442) (z := .slice a443 n443 b443) B_48.out (LB_n.out))
                  have m_50 := Lib.hid (mv_other (.slice a441 n441 b441) (.slice a442 n442 b442) (.slice a443 n443 b443) m_48.out n_48.out (Nat.ne_of_lt N_m_n.out))
                  have E_51 := Lib.hid (bel_set3 (x := .slice a441 n441 b441) (y := .slice a442 n442 b442) (z := .slice a443 n443 b443) E_48.out (LE_n.out))
                  have n_52 := Lib.hid (mv_set n_48.out R44_48.out)
                  have C_53 := Lib.hid (upb_new3 (.slice a441 n441 b441) (.slice a442 n442 b442) (.slice a443 n443 b443) C_47.out LC_n.out)
                  clear B_48
                  clear m_48
                  clear E_48
                  clear n_48
                  clear R44_48
                  clear C_47
                  obtain ⟨gw54, hu54⟩ : ∃ u, ((w47.setCell ⟨b_n, 0, none⟩ (.slice a441 n441 b441)).setCell ⟨b_n, 1, none⟩ (.slice a442 n442 b442)).setCell ⟨b_n, 2, none⟩ (.slice a443 n443 b443) = u := ⟨_, rfl⟩
                  rw [hu54] at B_49 m_50 E_51 n_52 C_53
                  rw [hu54]
                  clear hu54
                  refine ⟨C_53.out, ?_⟩
                  refine anyU_one (i := 13) (by kernel_rfl) rfl ?_
                  intro w55 hu55 hc55
                  have B_56 := Lib.hid (bw_tr B_49.out hu55)
                  clear B_49
                  have m_56 := Lib.hid (MV.up m_50.out hu55)
                  clear m_50
                  have E_56 := Lib.hid (bw_tr E_51.out hu55)
                  clear E_51
                  have n_56 := Lib.hid (MV.up n_52.out hu55)
                  clear n_52
                  have C_55 := Lib.hid hc55; clear hc55 hu55
                  go_wp2_with fail
                  refine ⟨C_55.out, ?_⟩
                  refine anyU_nil (by kernel_rfl) ?_
                  intro w57 hu57 hc57
                  have B_58 := Lib.hid (bw_tr B_56.out hu57)
                  clear B_56
                  have m_58 := Lib.hid (MV.up m_56.out hu57)
                  clear m_56
                  have E_58 := Lib.hid (bw_tr E_56.out hu57)
                  clear E_56
                  have n_58 := Lib.hid (MV.up n_56.out hu57)
                  clear n_56
                  have C_57 := Lib.hid hc57; clear hc57 hu57
                  go_wp2_with fail
                  go_meet
                  case rel => exact ⟨_, _, _, _, rfl, rfl, n_58.out, LE_n.out, E_58.out⟩
          case rest =>
            obtain ⟨b_n, xn, yn, zn, rfl, rfl, hn, hbn, hbx⟩ := hcut
            have HN0 := Lib.hid hn
            have N_m_n : Hid (b_m < b_n) := Lib.hid (Nat.lt_of_lt_of_le (mv_lt HM.out) hbn); have LB_n : Hid (w.heap.size ≤ b_n) := Lib.hid (Nat.le_trans hsz hbn)
            clear x2 x0 hsz
            have B_59 := Lib.hid (bw_tr HBR.out hbx)
            clear HBR
            have m_59 := Lib.hid (MV.up HM.out hbx)
            clear HM
            clear hbx hn hbn
            by_cases hz : sr.2 = 0
            rotate_left
            · obtain ⟨⟨c00, c01, c02⟩, d00, d01, d02⟩ := six (m_59.out).1
              have t0 := mv_lt m_59.out
              go_wp2_with fail
              exact ⟨⟨j + 1, _, by omega, by omega, rfl, by go_num, ⟨_, _, _, m, m_59.out, OK.out⟩, B_59.out⟩, by simp [intOf]; omega⟩
            obtain ⟨a601, n601, c601, a602, n602, c602, a603, n603, c603, rfl, rfl, rfl, LN60⟩ := (HN0.out).shape
            obtain ⟨⟨c00, c01, c02⟩, d00, d01, d02⟩ := six (HN0.out).1
            have t0 := mv_lt HN0.out
            obtain ⟨⟨c10, c11, c12⟩, d10, d11, d12⟩ := six (m_59.out).1
            have t1 := mv_lt m_59.out
            go_wp2_with fail
            clear c00 d00 c01 d01 c02 d02 c10 d10 c11 d11 c12 d12 t0 t1
            have R61_0 := Lib.hid HN0.out.2
            have B_62 := Lib.hid (bel_set3 (x := .slice a601 n601 c601) (y := .slice a602 n602 c602) (z := .slice a603 n603 c603) B_59.out (LB_m.out))
            have m_63 := Lib.hid (mv_set m_59.out R61_0.out)
            have n_64 := Lib.hid (mv_other (.slice a601 n601 c601) (.slice a602 n602 c602) (.slice a603 n603 c603) HN0.out m_59.out (Ne.symm (Nat.ne_of_lt N_m_n.out)))
            clear B_59
            clear m_59
            clear HN0
            clear R61_0
            obtain ⟨gw65, hu65⟩ : ∃ u, ((wc.setCell ⟨b_m, 0, none⟩ (.slice a601 n601 c601)).setCell ⟨b_m, 1, none⟩ (.slice a602 n602 c602)).setCell ⟨b_m, 2, none⟩ (.slice a603 n603 c603) = u := ⟨_, rfl⟩
            rw [hu65] at B_62 m_63 n_64
            rw [hu65]
            clear hu65
            exact ⟨⟨j + 1, _, by omega, by omega, rfl, by go_num, ⟨_, _, _, sr.1, m_63.out, res_store OK.out (a := kk) (n := r3) (by rw [SR.out, ← hz])⟩, B_62.out⟩, by simp [intOf]; omega⟩
      · as_aux_lemma =>
          obtain ⟨sr, hsr⟩ : ∃ sr, drainR m 1 d8 = sr := ⟨_, rfl⟩; have SR := Lib.hid hsr; clear hsr
          obtain ⟨⟨c00, c01, c02⟩, d00, d01, d02⟩ := six (HM.out).1
          have t0 := mv_lt HM.out
          go_wp2_with (go_at_call 12; (with_reducible refine (pick11 _ _ _ _ I2.out (by decide) D8.out).mono ?_); rintro e w' ⟨rfl, rfl⟩)
          refine (drain_lit _ m 1 d8 sr _ HM.out.2 SM.out SR.out).mono ?_
          rintro e w66 hr66
          obtain ⟨a661, n661, b661, a662, n662, b662, a663, n663, b663, rfl, hm66, LN66, hb66⟩ := hr66.parts
          clear c00 d00 c01 d01 c02 d02 t0
          have B_67 := Lib.hid (bw_tr HBR.out hb66)
          clear HBR
          have m_67 := Lib.hid (MV.up HM.out hb66)
          clear HM
          have HM66 := Lib.hid hm66; clear hm66 hb66
          clear x2 x0
          go_upto_region 21 with fail
          have N_m_n := Lib.hid (mv_lt m_67.out)
          have LB_n : Hid (w.heap.size ≤ w66.heap.size) := Lib.hid (B_67.out).size
          have n_68 := Lib.hid (mv_new HM66.out)
          have B_69 := Lib.hid (bw_tr B_67.out (bel_new w66 (.cells #[.slice a661 n661 b661, .slice a662 n662 b662, .slice a663 n663 b663] 27)))
          clear B_67
          have m_69 := Lib.hid (MV.up m_67.out (bel_new w66 (.cells #[.slice a661 n661 b661, .slice a662 n662 b662, .slice a663 n663 b663] 27)))
          clear m_67
          clear HM66
          obtain ⟨gw70, hu70⟩ : ∃ u, w66.alloc (.cells #[.slice a661 n661 b661, .slice a662 n662 b662, .slice a663 n663 b663] 27) = u := ⟨_, rfl⟩
          rw [hu70] at B_69 m_69 n_68
          rw [hu70]
          clear hu70
          obtain ⟨b_n, hq⟩ : ∃ q, w66.heap.size = q := ⟨_, rfl⟩
          rw [hq] at n_68
          have N_m_n := Lib.hid (Nat.lt_of_lt_of_le N_m_n.out (Nat.le_of_eq hq))
          have LB_n := Lib.hid (Nat.le_trans LB_n.out (Nat.le_of_eq hq))
          rw [hq]
          clear hq
          by_cases hz : sr.2 = 0
          rotate_left
          · as_aux_lemma =>
              obtain ⟨⟨c00, c01, c02⟩, d00, d01, d02⟩ := six (m_69.out).1
              have t0 := mv_lt m_69.out
              go_wp2_with fail
              exact ⟨⟨j + 1, _, by omega, by omega, rfl, by go_num, ⟨_, _, _, m, m_69.out, OK.out⟩, B_69.out⟩, by simp [intOf]; omega⟩
          obtain ⟨d0', ⟨x1, x2⟩, hx, hok'⟩ := res_drain OK.out pw.1 (m' := sr.1) (d := d8) (by rw [SR.out, ← hz])
          simp only at hok'
          obtain ⟨d, rfl⟩ : ∃ d : Nat, d8 = d := ⟨d8.toNat, by omega⟩
          simp only [Int.toNat_natCast] at hx
          have OK' := Lib.hid hok'; clear hok'
          obtain ⟨rb, ro, ra, rc, e0, e9, hc9, hc8, hrb, hcl, hrd⟩ := IsMem.row m_69.out.2 (h := 1) (by rw [OK.out.good.pend]; decide) (by decide)
          subst e0; clear e9
          rw [show (1 : Int).toNat = 1 from rfl] at hcl
          have hdl : d < (pendOf m 1).length := (List.getElem?_eq_some_iff.1 hx).1
          obtain ⟨lb, hlb⟩ : ∃ lb, (pendOf m 1).length = lb := ⟨_, rfl⟩
          rw [hlb] at hcl hrd hdl; clear hlb
          obtain ⟨xb, xo, e0, hxc, hxm, ⟨tx, cx⟩, _⟩ := entry_cells hrd hx (by omega)
          subst e0; simp only at cx; clear hrd hx
          cases t
          · as_aux_lemma =>
              cases hq : (x1 == ww)
              · have OK2 := OK'.out; rw [hq] at OK2; have OK3 := Lib.hid OK2; clear OK2
                obtain ⟨⟨c00, c01, c02⟩, d00, d01, d02⟩ := six (n_68.out).1
                have t0 := mv_lt n_68.out
                obtain ⟨⟨c10, c11, c12⟩, d10, d11, d12⟩ := six (m_69.out).1
                have t1 := mv_lt m_69.out
                go_wp2_with fail
                clear c00 d00 c01 d01 c02 d02 c10 d10 c11 d11 c12 d12 t0 t1
                have R71_0 := Lib.hid n_68.out.2
                have B_72 := Lib.hid (bel_set3 (x := .slice a661 n661 b661) (y := .slice a662 n662 b662) (z := .slice a663 n663 b663) B_69.out (LB_m.out))
                have m_73 := Lib.hid (mv_set m_69.out R71_0.out)
                have n_74 := Lib.hid (mv_other (.slice a661 n661 b661) (.slice a662 n662 b662) (.slice a663 n663 b663) n_68.out m_69.out (Ne.symm (Nat.ne_of_lt N_m_n.out)))
                clear B_69
                clear m_69
                clear n_68
                clear R71_0
                obtain ⟨gw75, hu75⟩ : ∃ u, ((gw70.setCell ⟨b_m, 0, none⟩ (.slice a661 n661 b661)).setCell ⟨b_m, 1, none⟩ (.slice a662 n662 b662)).setCell ⟨b_m, 2, none⟩ (.slice a663 n663 b663) = u := ⟨_, rfl⟩
                rw [hu75] at B_72 m_73 n_74
                rw [hu75]
                clear hu75
                exact ⟨⟨j + 1, _, by omega, by omega, rfl, by go_num, ⟨_, _, _, sr.1, m_73.out, OK3.out⟩, B_72.out⟩, by simp [intOf]; omega⟩
              · have OK2 := OK'.out; rw [hq] at OK2; have OK3 := Lib.hid OK2; clear OK2
                obtain ⟨⟨c00, c01, c02⟩, d00, d01, d02⟩ := six (n_68.out).1
                have t0 := mv_lt n_68.out
                obtain ⟨⟨c10, c11, c12⟩, d10, d11, d12⟩ := six (m_69.out).1
                have t1 := mv_lt m_69.out
                go_wp2_with fail
                clear c00 d00 c01 d01 c02 d02 c10 d10 c11 d11 c12 d12 t0 t1
                have R76_0 := Lib.hid n_68.out.2
                have B_77 := Lib.hid (bel_set3 (x := .slice a661 n661 b661) (y := .slice a662 n662 b662) (z := .slice a663 n663 b663) B_69.out (LB_m.out))
                have m_78 := Lib.hid (mv_set m_69.out R76_0.out)
                have n_79 := Lib.hid (mv_other (.slice a661 n661 b661) (.slice a662 n662 b662) (.slice a663 n663 b663) n_68.out m_69.out (Ne.symm (Nat.ne_of_lt N_m_n.out)))
                clear B_69
                clear m_69
                clear n_68
                clear R76_0
                obtain ⟨gw80, hu80⟩ : ∃ u, ((gw70.setCell ⟨b_m, 0, none⟩ (.slice a661 n661 b661)).setCell ⟨b_m, 1, none⟩ (.slice a662 n662 b662)).setCell ⟨b_m, 2, none⟩ (.slice a663 n663 b663) = u := ⟨_, rfl⟩
                rw [hu80] at B_77 m_78 n_79
                rw [hu80]
                clear hu80
                exact ⟨⟨j + 1, _, by omega, by omega, rfl, by go_num, ⟨_, _, _, sr.1, m_78.out, OK3.out⟩, B_77.out⟩, by simp [intOf]; omega⟩
          · as_aux_lemma =>
              obtain ⟨⟨c00, c01, c02⟩, d00, d01, d02⟩ := six (n_68.out).1
              have t0 := mv_lt n_68.out
              obtain ⟨⟨c10, c11, c12⟩, d10, d11, d12⟩ := six (m_69.out).1
              have t1 := mv_lt m_69.out
              go_wp2_with fail
              clear c00 d00 c01 d01 c02 d02 c10 d10 c11 d11 c12 d12 t0 t1
              have R81_0 := Lib.hid n_68.out.2
              have B_82 := Lib.hid (bel_set3 (x := .slice a661 n661 b661) (y := .slice a662 n662 b662) (z := .slice a663 n663 b663) B_69.out (LB_m.out))
              have m_83 := Lib.hid (mv_set m_69.out R81_0.out)
              have n_84 := Lib.hid (mv_other (.slice a661 n661 b661) (.slice a662 n662 b662) (.slice a663 n663 b663) n_68.out m_69.out (Ne.symm (Nat.ne_of_lt N_m_n.out)))
              clear B_69
              clear m_69
              clear n_68
              clear R81_0
              obtain ⟨gw85, hu85⟩ : ∃ u, ((gw70.setCell ⟨b_m, 0, none⟩ (.slice a661 n661 b661)).setCell ⟨b_m, 1, none⟩ (.slice a662 n662 b662)).setCell ⟨b_m, 2, none⟩ (.slice a663 n663 b663) = u := ⟨_, rfl⟩
              rw [hu85] at B_82 m_83 n_84
              rw [hu85]
              clear hu85
              exact ⟨⟨j + 1, _, by omega, by omega, rfl, by go_num, ⟨_, _, _, sr.1, m_83.out, OK'.out⟩, B_82.out⟩, by simp [intOf]; omega⟩
      · as_aux_lemma =>
          obtain ⟨⟨su, sr⟩, hsr⟩ : ∃ sr, changeR m 1 kk 0 r3 = sr := ⟨_, rfl⟩; have SR := Lib.hid hsr; clear hsr
          go_upto_region 25 with fail
          go_cut [24, 25] (fun s24 s25 wx => ∃ bn xn yn zn, s24 = .pointer (some ⟨bn, 0, none⟩) ∧ s25 = .int .i64 sr.2 ∧ MV wx bn xn yn zn sr.1 ∧ wr.heap.size ≤ bn ∧ Below wr.heap.size wr wx)
          case first =>
            have HE : Hid (Below wr.heap.size wr wr) := Lib.hid (Below.refl _ _)
            clear x2 x0
            have y2 := Nat.lt_of_lt_of_le hbl hsz
            refine wp_region_up (UpB wr.heap.size wr) [true, true, true, true, true, true, true] (by kernel_rfl) (by kernel_rfl) (by kernel_rfl) (fun _ _ h hu => h.up hu) (upb_refl _ _) ?ra86 ?rh86 ?rt86
            case rh86 =>
              intro w0 h0
              obtain ⟨⟨c0, c1, c2⟩, d0, d1, d2⟩ := six (HM.out).1
              have t0 := mv_lt HM.out
              have ne0 := Nat.ne_of_lt t0
              have rx0 := fun x => h0.wd t0 ne0 c0 x
              have rx1 := fun x => h0.wd t0 ne0 c1 x
              have rx2 := fun x => h0.wd t0 ne0 c2 x
              clear c0 c1 c2 d0 d1 d2
              have rx3 := fun x => h0.wd y2 (Nat.ne_of_lt y2) (rd_cell HBR.out hbl G3.out) x
              simp only [pickM]
              repeat (go_big_quiet_step ((fail)))
              refine wpQuiet_nil ?_
              rfl
            case rt86 =>
              change wpAnyU _ _ _ _ _ 9 _ _ _
              refine anyU_two (i := 7) (k := 12) (by kernel_rfl) rfl rfl ?_ ?_
              · intro w87 hu87 hc87
                have hu87 := bw_undrew hu87
                have B_88 := Lib.hid (bw_tr HBR.out hu87)
                clear HBR
                have m_88 := Lib.hid (MV.up HM.out hu87)
                clear HM
                have E_88 := Lib.hid (bw_tr HE.out hu87)
                clear HE
                have C_87 := Lib.hid hc87; clear hc87 hu87
                go_wp2_with fail
                refine (change_lit _ m 1 kk 0 r3 su sr _ m_88.out.2 SM.out SR.out).mono ?_
                rintro e w89 hr89
                obtain ⟨a891, n891, b891, a892, n892, b892, a893, n893, b893, rfl, hm89, LN89, hb89⟩ := hr89.parts
                have B_90 := Lib.hid (bw_tr B_88.out hb89)
                clear B_88
                have m_90 := Lib.hid (MV.up m_88.out hb89)
                clear m_88
                have E_90 := Lib.hid (bw_tr E_88.out hb89)
                clear E_88
                have C_90 := Lib.hid ((C_87.out).up hb89)
                clear C_87
                have HM89 := Lib.hid hm89; clear hm89 hb89
                go_wp2_with fail
                refine ⟨C_90.out, ?_⟩
                refine anyU_pures [false, false, false, false, false, false, false, false, true, true, true, true] 4 (by kernel_rfl) (by kernel_rfl) (by kernel_rfl) (fun _ _ h hu => h.up hu) C_90.out ?ra91 ?rh91 ?rt91
                case rh91 =>
                  intro w0 h0
                  simp only [pickM]
                  repeat (go_big_quiet_step (fail))
                  refine wpQuiet_nil ?_
                  rfl
                case rt91 =>
                  refine anyU_one (i := 12) (by kernel_rfl) rfl ?_
                  intro w92 hu92 hc92
                  have B_93 := Lib.hid (bw_tr B_90.out hu92)
                  clear B_90
                  have m_93 := Lib.hid (MV.up m_90.out hu92)
                  clear m_90
                  have E_93 := Lib.hid (bw_tr E_90.out hu92)
                  clear E_90
                  have R89_93 := Lib.hid ((HM89.out).below hu92)
                  clear HM89
                  have C_92 := Lib.hid hc92; clear hc92 hu92
                  go_wp2_with fail
                  have N_m_n := Lib.hid (mv_lt m_93.out)
                  have LB_n := Lib.hid (B_93.out).size
                  have LE_n := Lib.hid (E_93.out).size
                  have LC_n := Lib.hid (C_92.out).1
                  have n_94 := Lib.hid (mv_new (isMem_no w92))
                  have B_95 := Lib.hid (bw_tr B_93.out (bel_new w92 (.cells #[.slice none 0 0, .slice none 0 0, .slice none 0 0] 27)))
                  clear B_93
                  have m_95 := Lib.hid (MV.up m_93.out (bel_new w92 (.cells #[.slice none 0 0, .slice none 0 0, .slice none 0 0] 27)))
                  clear m_93
                  have E_95 := Lib.hid (bw_tr E_93.out (bel_new w92 (.cells #[.slice none 0 0, .slice none 0 0, .slice none 0 0] 27)))
                  clear E_93
                  have R89_95 := Lib.hid ((R89_93.out).below (bel_new w92 (.cells #[.slice none 0 0, .slice none 0 0, .slice none 0 0] 27)))
                  clear R89_93
                  have C_95 := Lib.hid ((C_92.out).up (bel_new w92 (.cells #[.slice none 0 0, .slice none 0 0, .slice none 0 0] 27)))
                  clear C_92
                  obtain ⟨gw96, hu96⟩ : ∃ u, w92.alloc (.cells #[.slice none 0 0, .slice none 0 0, .slice none 0 0] 27) = u := ⟨_, rfl⟩
                  rw [hu96] at B_95 m_95 E_95 R89_95 C_95 n_94
                  rw [hu96]
                  clear hu96
                  obtain ⟨b_n, hq⟩ : ∃ q, w92.heap.size = q := ⟨_, rfl⟩
                  rw [hq] at n_94
                  have N_m_n := Lib.hid (Nat.lt_of_lt_of_le N_m_n.out (Nat.le_of_eq hq))
                  have LB_n := Lib.hid (Nat.le_trans LB_n.out (Nat.le_of_eq hq))
                  have LE_n := Lib.hid (Nat.le_trans LE_n.out (Nat.le_of_eq hq))
                  have LC_n := Lib.hid (Nat.le_trans LC_n.out (Nat.le_of_eq hq))
                  rw [hq]
                  clear hq
                  refine ⟨C_95.out, ?_⟩
                  refine anyU_one (i := 13) (by kernel_rfl) rfl ?_
                  intro w97 hu97 hc97
                  have B_98 := Lib.hid (bw_tr B_95.out hu97)
                  clear B_95
                  have m_98 := Lib.hid (MV.up m_95.out hu97)
                  clear m_95
                  have E_98 := Lib.hid (bw_tr E_95.out hu97)
                  clear E_95
                  have R89_98 := Lib.hid ((R89_95.out).below hu97)
                  clear R89_95
                  have n_98 := Lib.hid (MV.up n_94.out hu97)
                  clear n_94
                  have C_97 := Lib.hid hc97; clear hc97 hu97
                  go_wp2_with fail
                  refine ⟨C_97.out, ?_⟩
                  refine anyU_one (i := 14) (by kernel_rfl) rfl ?_
                  intro w99 hu99 hc99
                  have B_100 := Lib.hid (bw_tr B_98.out hu99)
                  clear B_98
                  have m_100 := Lib.hid (MV.up m_98.out hu99)
                  clear m_98
                  have E_100 := Lib.hid (bw_tr E_98.out hu99)
                  clear E_98
                  have R89_100 := Lib.hid ((R89_98.out).below hu99)
                  clear R89_98
                  have n_100 := Lib.hid (MV.up n_98.out hu99)
                  clear n_98
                  have C_99 := Lib.hid hc99; clear hc99 hu99
                  obtain ⟨⟨c00, c01, c02⟩, d00, d01, d02⟩ := six (n_100.out).1
                  have t0 := mv_lt n_100.out
                  go_wp2_with fail
                  clear c00 d00 c01 d01 c02 d02 t0
                  have B_101 := Lib.hid (bel_set3 (x := .slice a891 n891 b891) (y := .slice a892 n892 b892) (z := .slice a893 n893 b893) B_100.out (LB_n.out))
                  have m_102 := Lib.hid (mv_other (.slice a891 n891 b891) (.slice a892 n892 b892) (.slice a893 n893 b893) m_100.out n_100.out (Nat.ne_of_lt N_m_n.out))
                  have E_103 := Lib.hid (bel_set3 (x := .slice a891 n891 b891) (y := .slice a892 n892 b892) (z := .slice a893 n893 b893) E_100.out (LE_n.out))
                  have n_104 := Lib.hid (mv_set n_100.out R89_100.out)
                  have C_105 := Lib.hid (upb_new3 (.slice a891 n891 b891) (.slice a892 n892 b892) (.slice a893 n893 b893) C_99.out LC_n.out)
                  clear B_100
                  clear m_100
                  clear E_100
                  clear R89_100
                  clear n_100
                  clear C_99
                  obtain ⟨gw106, hu106⟩ : ∃ u, ((w99.setCell ⟨b_n, 0, none⟩ (.slice a891 n891 b891)).setCell ⟨b_n, 1, none⟩ (.slice a892 n892 b892)).setCell ⟨b_n, 2, none⟩ (.slice a893 n893 b893) = u := ⟨_, rfl⟩
                  rw [hu106] at B_101 m_102 E_103 n_104 C_105
                  rw [hu106]
                  clear hu106
                  refine ⟨C_105.out, ?_⟩
                  refine anyU_one (i := 15) (by kernel_rfl) rfl ?_
                  intro w107 hu107 hc107
                  have B_108 := Lib.hid (bw_tr B_101.out hu107)
                  clear B_101
                  have m_108 := Lib.hid (MV.up m_102.out hu107)
                  clear m_102
                  have E_108 := Lib.hid (bw_tr E_103.out hu107)
                  clear E_103
                  have n_108 := Lib.hid (MV.up n_104.out hu107)
                  clear n_104
                  have C_107 := Lib.hid hc107; clear hc107 hu107
                  go_wp2_with fail
                  refine ⟨C_107.out, ?_⟩
                  refine anyU_nil (by kernel_rfl) ?_
                  intro w109 hu109 hc109
                  have B_110 := Lib.hid (bw_tr B_108.out hu109)
                  clear B_108
                  have m_110 := Lib.hid (MV.up m_108.out hu109)
                  clear m_108
                  have E_110 := Lib.hid (bw_tr E_108.out hu109)
                  clear E_108
                  have n_110 := Lib.hid (MV.up n_108.out hu109)
                  clear n_108
                  have C_109 := Lib.hid hc109; clear hc109 hu109
                  go_wp2_with fail
                  go_meet
                  case rel => exact ⟨_, _, _, _, rfl, rfl, n_110.out, LE_n.out, E_110.out⟩
              · intro w111 hu111 hc111
                have hu111 := bw_undrew hu111
                have B_112 := Lib.hid (bw_tr HBR.out hu111)
                clear HBR
                have m_112 := Lib.hid (MV.up HM.out hu111)
                clear HM
                have E_112 := Lib.hid (bw_tr HE.out hu111)
                clear HE
                have C_111 := Lib.hid hc111; clear hc111 hu111
                go_wp2_with fail
                have N_m_n := Lib.hid (mv_lt m_112.out)
                have LB_n := Lib.hid (B_112.out).size
                have LE_n := Lib.hid (E_112.out).size
                have LC_n := Lib.hid (C_111.out).1
                have n_113 := Lib.hid (mv_new (isMem_no w111))
                have B_114 := Lib.hid (bw_tr B_112.out (bel_new w111 (.cells #[.slice none 0 0, .slice none 0 0, .slice none 0 0] 27)))
                clear B_112
                have m_114 := Lib.hid (MV.up m_112.out (bel_new w111 (.cells #[.slice none 0 0, .slice none 0 0, .slice none 0 0] 27)))
                clear m_112
                have E_114 := Lib.hid (bw_tr E_112.out (bel_new w111 (.cells #[.slice none 0 0, .slice none 0 0, .slice none 0 0] 27)))
                clear E_112
                have C_114 := Lib.hid ((C_111.out).up (bel_new w111 (.cells #[.slice none 0 0, .slice none 0 0, .slice none 0 0] 27)))
                clear C_111
                obtain ⟨gw115, hu115⟩ : ∃ u, w111.alloc (.cells #[.slice none 0 0, .slice none 0 0, .slice none 0 0] 27) = u := ⟨_, rfl⟩
                rw [hu115] at B_114 m_114 E_114 C_114 n_113
                rw [hu115]
                clear hu115
                obtain ⟨b_n, hq⟩ : ∃ q, w111.heap.size = q := ⟨_, rfl⟩
                rw [hq] at n_113
                have N_m_n := Lib.hid (Nat.lt_of_lt_of_le N_m_n.out (Nat.le_of_eq hq))
                have LB_n := Lib.hid (Nat.le_trans LB_n.out (Nat.le_of_eq hq))
                have LE_n := Lib.hid (Nat.le_trans LE_n.out (Nat.le_of_eq hq))
                have LC_n := Lib.hid (Nat.le_trans LC_n.out (Nat.le_of_eq hq))
                rw [hq]
                clear hq
                refine ⟨C_114.out, ?_⟩
                refine anyU_one (i := 7) (by kernel_rfl) rfl ?_
                intro w116 hu116 hc116
                have B_117 := Lib.hid (bw_tr B_114.out hu116)
                clear B_114
                have m_117 := Lib.hid (MV.up m_114.out hu116)
                clear m_114
                have E_117 := Lib.hid (bw_tr E_114.out hu116)
                clear E_114
                have n_117 := Lib.hid (MV.up n_113.out hu116)
                clear n_113
                have C_116 := Lib.hid hc116; clear hc116 hu116
                go_wp2_with fail
                refine (change_lit _ m 1 kk 0 r3 su sr _ m_117.out.2 SM.out SR.out).mono ?_
                rintro e w118 hr118
                obtain ⟨a1181, n1181, b1181, a1182, n1182, b1182, a1183, n1183, b1183, rfl, hm118, LN118, hb118⟩ := hr118.parts
                have B_119 := Lib.hid (bw_tr B_117.out hb118)
                clear B_117
                have m_119 := Lib.hid (MV.up m_117.out hb118)
                clear m_117
                have E_119 := Lib.hid (bw_tr E_117.out hb118)
                clear E_117
                have n_119 := Lib.hid (MV.up n_117.out hb118)
                clear n_117
                have C_119 := Lib.hid ((C_116.out).up hb118)
                clear C_116
                have HM118 := Lib.hid hm118; clear hm118 hb118
                go_wp2_with fail
                refine ⟨C_119.out, ?_⟩
                refine anyU_pures [false, false, false, false, false, false, false, false, true, true, true, true] 3 (by kernel_rfl) (by kernel_rfl) (by kernel_rfl) (fun _ _ h hu => h.up hu) C_119.out ?ra120 ?rh120 ?rt120
                case rh120 =>
                  intro w0 h0
                  simp only [pickM]
                  repeat (go_big_quiet_step (fail))
                  refine wpQuiet_nil ?_
                  rfl
                case rt120 =>
                  refine anyU_one (i := 13) (by kernel_rfl) rfl ?_
                  intro w121 hu121 hc121
                  have B_122 := Lib.hid (bw_tr B_119.out hu121)
                  clear B_119
                  have m_122 := Lib.hid (MV.up m_119.out hu121)
                  clear m_119
                  have E_122 := Lib.hid (bw_tr E_119.out hu121)
                  clear E_119
                  have n_122 := Lib.hid (MV.up n_119.out hu121)
                  clear n_119
                  have R118_122 := Lib.hid ((HM118.out).below hu121)
                  clear HM118
                  have C_121 := Lib.hid hc121; clear hc121 hu121
                  go_wp2_with fail
                  refine ⟨C_121.out, ?_⟩
                  refine anyU_one (i := 14) (by kernel_rfl) rfl ?_
                  intro w123 hu123 hc123
                  have B_124 := Lib.hid (bw_tr B_122.out hu123)
                  clear B_122
                  have m_124 := Lib.hid (MV.up m_122.out hu123)
                  clear m_122
                  have E_124 := Lib.hid (bw_tr E_122.out hu123)
                  clear E_122
                  have n_124 := Lib.hid (MV.up n_122.out hu123)
                  clear n_122
                  have R118_124 := Lib.hid ((R118_122.out).below hu123)
                  clear R118_122
                  have C_123 := Lib.hid hc123; clear hc123 hu123
                  obtain ⟨⟨c00, c01, c02⟩, d00, d01, d02⟩ := six (n_124.out).1
                  have t0 := mv_lt n_124.out
                  go_wp2_with fail
                  clear c00 d00 c01 d01 c02 d02 t0
                  have B_125 := Lib.hid (bel_set3 (x := .slice a1181 n1181 b1181) (y := .slice a1182 n1182 b1182) (z := .slice a1183 n1183 b1183) B_124.out (LB_n.out))
                  have m_126 := Lib.hid (mv_other (.slice a1181 n1181 b1181) (.slice a1182 n1182 b1182) (.slice a1183 n1183 b1183) m_124.out n_124.out (Nat.ne_of_lt N_m_n.out))
                  have E_127 := Lib.hid (bel_set3 (x := .slice a1181 n1181 b1181) (y := .slice a1182 n1182 b1182) (z := .slice a1183 n1183 b1183) E_124.out (LE_n.out))
                  have n_128 := Lib.hid (mv_set n_124.out R118_124.out)
                  have C_129 := Lib.hid (upb_new3 (.slice a1181 n1181 b1181) (.slice a1182 n1182 b1182) (.slice a1183 n1183 b1183) C_123.out LC_n.out)
                  clear B_124
                  clear m_124
                  clear E_124
                  clear n_124
                  clear R118_124
                  clear C_123
                  obtain ⟨gw130, hu130⟩ : ∃ u, ((w123.setCell ⟨b_n, 0, none⟩ (.slice a1181 n1181 b1181)).setCell ⟨b_n, 1, none⟩ (.slice a1182 n1182 b1182)).setCell ⟨b_n, 2, none⟩ (.slice a1183 n1183 b1183) = u := ⟨_, rfl⟩
                  rw [hu130] at B_125 m_126 E_127 n_128 C_129
                  rw [hu130]
                  clear hu130
                  refine ⟨C_129.out, ?_⟩
                  refine anyU_one (i := 15) (by kernel_rfl) rfl ?_
                  intro w131 hu131 hc131
                  have B_132 := Lib.hid (bw_tr B_125.out hu131)
                  clear B_125
                  have m_132 := Lib.hid (MV.up m_126.out hu131)
                  clear m_126
                  have E_132 := Lib.hid (bw_tr E_127.out hu131)
                  clear E_127
                  have n_132 := Lib.hid (MV.up n_128.out hu131)
                  clear n_128
                  have C_131 := Lib.hid hc131; clear hc131 hu131
                  go_wp2_with fail
                  refine ⟨C_131.out, ?_⟩
                  refine anyU_nil (by kernel_rfl) ?_
                  intro w133 hu133 hc133
                  have B_134 := Lib.hid (bw_tr B_132.out hu133)
                  clear B_132
                  have m_134 := Lib.hid (MV.up m_132.out hu133)
                  clear m_132
                  have E_134 := Lib.hid (bw_tr E_132.out hu133)
                  clear E_132
                  have n_134 := Lib.hid (MV.up n_132.out hu133)
                  clear n_132
                  have C_133 := Lib.hid hc133; clear hc133 hu133
                  go_wp2_with fail
                  go_meet
                  case rel => exact ⟨_, _, _, _, rfl, rfl, n_134.out, LE_n.out, E_134.out⟩
          case rest =>
            obtain ⟨b_n, xn, yn, zn, rfl, rfl, hn, hbn, hbx⟩ := hcut
            have HN0 := Lib.hid hn
            have N_m_n : Hid (b_m < b_n) := Lib.hid (Nat.lt_of_lt_of_le (mv_lt HM.out) hbn); have LB_n : Hid (w.heap.size ≤ b_n) := Lib.hid (Nat.le_trans hsz hbn)
            clear x2 x0 hsz
            have B_135 := Lib.hid (bw_tr HBR.out hbx)
            clear HBR
            have m_135 := Lib.hid (MV.up HM.out hbx)
            clear HM
            clear hbx hn hbn
            by_cases hz : sr.2 = 0
            rotate_left
            · obtain ⟨⟨c00, c01, c02⟩, d00, d01, d02⟩ := six (m_135.out).1
              have t0 := mv_lt m_135.out
              go_wp2_with fail
              exact ⟨⟨j + 1, _, by omega, by omega, rfl, by go_num, ⟨_, _, _, m, m_135.out, OK.out⟩, B_135.out⟩, by simp [intOf]; omega⟩
            obtain ⟨a1361, n1361, c1361, a1362, n1362, c1362, a1363, n1363, c1363, rfl, rfl, rfl, LN136⟩ := (HN0.out).shape
            have ok' := res_change OK.out pw.1 p4.1 (m' := sr.1) (op := 0) (n := r3) (u := su) (by rw [SR.out, ← hz])
            have OK' := Lib.hid ok'; clear ok'
            cases t
            · cases hq : (kk == ww)
              · have OK2 := OK'.out; rw [hq] at OK2; have OK3 := Lib.hid OK2; clear OK2
                obtain ⟨⟨c00, c01, c02⟩, d00, d01, d02⟩ := six (HN0.out).1
                have t0 := mv_lt HN0.out
                obtain ⟨⟨c10, c11, c12⟩, d10, d11, d12⟩ := six (m_135.out).1
                have t1 := mv_lt m_135.out
                go_wp2_with fail
                clear c00 d00 c01 d01 c02 d02 c10 d10 c11 d11 c12 d12 t0 t1
                have R137_0 := Lib.hid HN0.out.2
                have B_138 := Lib.hid (bel_set3 (x := .slice a1361 n1361 c1361) (y := .slice a1362 n1362 c1362) (z := .slice a1363 n1363 c1363) B_135.out (LB_m.out))
                have m_139 := Lib.hid (mv_set m_135.out R137_0.out)
                have n_140 := Lib.hid (mv_other (.slice a1361 n1361 c1361) (.slice a1362 n1362 c1362) (.slice a1363 n1363 c1363) HN0.out m_135.out (Ne.symm (Nat.ne_of_lt N_m_n.out)))
                clear B_135
                clear m_135
                clear HN0
                clear R137_0
                obtain ⟨gw141, hu141⟩ : ∃ u, ((wc.setCell ⟨b_m, 0, none⟩ (.slice a1361 n1361 c1361)).setCell ⟨b_m, 1, none⟩ (.slice a1362 n1362 c1362)).setCell ⟨b_m, 2, none⟩ (.slice a1363 n1363 c1363) = u := ⟨_, rfl⟩
                rw [hu141] at B_138 m_139 n_140
                rw [hu141]
                clear hu141
                exact ⟨⟨j + 1, _, by omega, by omega, rfl, by go_num, ⟨_, _, _, sr.1, m_139.out, OK3.out⟩, B_138.out⟩, by simp [intOf]; omega⟩
              · have OK2 := OK'.out; rw [hq] at OK2; have OK3 := Lib.hid OK2; clear OK2
                obtain ⟨⟨c00, c01, c02⟩, d00, d01, d02⟩ := six (HN0.out).1
                have t0 := mv_lt HN0.out
                obtain ⟨⟨c10, c11, c12⟩, d10, d11, d12⟩ := six (m_135.out).1
                have t1 := mv_lt m_135.out
                go_wp2_with fail
                clear c00 d00 c01 d01 c02 d02 c10 d10 c11 d11 c12 d12 t0 t1
                have R142_0 := Lib.hid HN0.out.2
                have B_143 := Lib.hid (bel_set3 (x := .slice a1361 n1361 c1361) (y := .slice a1362 n1362 c1362) (z := .slice a1363 n1363 c1363) B_135.out (LB_m.out))
                have m_144 := Lib.hid (mv_set m_135.out R142_0.out)
                have n_145 := Lib.hid (mv_other (.slice a1361 n1361 c1361) (.slice a1362 n1362 c1362) (.slice a1363 n1363 c1363) HN0.out m_135.out (Ne.symm (Nat.ne_of_lt N_m_n.out)))
                clear B_135
                clear m_135
                clear HN0
                clear R142_0
                obtain ⟨gw146, hu146⟩ : ∃ u, ((wc.setCell ⟨b_m, 0, none⟩ (.slice a1361 n1361 c1361)).setCell ⟨b_m, 1, none⟩ (.slice a1362 n1362 c1362)).setCell ⟨b_m, 2, none⟩ (.slice a1363 n1363 c1363) = u := ⟨_, rfl⟩
                rw [hu146] at B_143 m_144 n_145
                rw [hu146]
                clear hu146
                exact ⟨⟨j + 1, _, by omega, by omega, rfl, by go_num, ⟨_, _, _, sr.1, m_144.out, OK3.out⟩, B_143.out⟩, by simp [intOf]; omega⟩
            · obtain ⟨⟨c00, c01, c02⟩, d00, d01, d02⟩ := six (HN0.out).1
              have t0 := mv_lt HN0.out
              obtain ⟨⟨c10, c11, c12⟩, d10, d11, d12⟩ := six (m_135.out).1
              have t1 := mv_lt m_135.out
              go_wp2_with fail
              clear c00 d00 c01 d01 c02 d02 c10 d10 c11 d11 c12 d12 t0 t1
              have R147_0 := Lib.hid HN0.out.2
              have B_148 := Lib.hid (bel_set3 (x := .slice a1361 n1361 c1361) (y := .slice a1362 n1362 c1362) (z := .slice a1363 n1363 c1363) B_135.out (LB_m.out))
              have m_149 := Lib.hid (mv_set m_135.out R147_0.out)
              have n_150 := Lib.hid (mv_other (.slice a1361 n1361 c1361) (.slice a1362 n1362 c1362) (.slice a1363 n1363 c1363) HN0.out m_135.out (Ne.symm (Nat.ne_of_lt N_m_n.out)))
              clear B_135
              clear m_135
              clear HN0
              clear R147_0
              obtain ⟨gw151, hu151⟩ : ∃ u, ((wc.setCell ⟨b_m, 0, none⟩ (.slice a1361 n1361 c1361)).setCell ⟨b_m, 1, none⟩ (.slice a1362 n1362 c1362)).setCell ⟨b_m, 2, none⟩ (.slice a1363 n1363 c1363) = u := ⟨_, rfl⟩
              rw [hu151] at B_148 m_149 n_150
              rw [hu151]
              clear hu151
              exact ⟨⟨j + 1, _, by omega, by omega, rfl, by go_num, ⟨_, _, _, sr.1, m_149.out, OK'.out⟩, B_148.out⟩, by simp [intOf]; omega⟩
      · as_aux_lemma =>
          obtain ⟨⟨su, sr⟩, hsr⟩ : ∃ sr, reserveR m 1 kk = sr := ⟨_, rfl⟩; have SR := Lib.hid hsr; clear hsr
          clear x2 x0
          obtain ⟨⟨c00, c01, c02⟩, d00, d01, d02⟩ := six (HM.out).1
          have t0 := mv_lt HM.out
          go_wp2_with fail
          refine (reserve_lit _ m 1 kk su sr _ HM.out.2 SM.out SR.out).mono ?_
          rintro e w152 hr152
          obtain ⟨a1521, n1521, b1521, a1522, n1522, b1522, a1523, n1523, b1523, rfl, hm152, LN152, hb152⟩ := hr152.parts
          clear c00 d00 c01 d01 c02 d02 t0
          have B_153 := Lib.hid (bw_tr HBR.out hb152)
          clear HBR
          have m_153 := Lib.hid (MV.up HM.out hb152)
          clear HM
          have HM152 := Lib.hid hm152; clear hm152 hb152
          go_upto_region 12 with fail
          have N_m_n := Lib.hid (mv_lt m_153.out)
          have LB_n : Hid (w.heap.size ≤ w152.heap.size) := Lib.hid (B_153.out).size
          have n_154 := Lib.hid (mv_new HM152.out)
          have B_155 := Lib.hid (bw_tr B_153.out (bel_new w152 (.cells #[.slice a1521 n1521 b1521, .slice a1522 n1522 b1522, .slice a1523 n1523 b1523] 27)))
          clear B_153
          have m_155 := Lib.hid (MV.up m_153.out (bel_new w152 (.cells #[.slice a1521 n1521 b1521, .slice a1522 n1522 b1522, .slice a1523 n1523 b1523] 27)))
          clear m_153
          clear HM152
          obtain ⟨gw156, hu156⟩ : ∃ u, w152.alloc (.cells #[.slice a1521 n1521 b1521, .slice a1522 n1522 b1522, .slice a1523 n1523 b1523] 27) = u := ⟨_, rfl⟩
          rw [hu156] at B_155 m_155 n_154
          rw [hu156]
          clear hu156
          obtain ⟨b_n, hq⟩ : ∃ q, w152.heap.size = q := ⟨_, rfl⟩
          rw [hq] at n_154
          have N_m_n := Lib.hid (Nat.lt_of_lt_of_le N_m_n.out (Nat.le_of_eq hq))
          have LB_n := Lib.hid (Nat.le_trans LB_n.out (Nat.le_of_eq hq))
          rw [hq]
          clear hq
          by_cases hz : sr.2 = 0
          rotate_left
          · obtain ⟨⟨c00, c01, c02⟩, d00, d01, d02⟩ := six (m_155.out).1
            have t0 := mv_lt m_155.out
            go_wp2_with fail
            exact ⟨⟨j + 1, _, by omega, by omega, rfl, by go_num, ⟨_, _, _, m, m_155.out, OK.out⟩, B_155.out⟩, by simp [intOf]; omega⟩
          obtain ⟨⟨c00, c01, c02⟩, d00, d01, d02⟩ := six (n_154.out).1
          have t0 := mv_lt n_154.out
          obtain ⟨⟨c10, c11, c12⟩, d10, d11, d12⟩ := six (m_155.out).1
          have t1 := mv_lt m_155.out
          go_wp2_with fail
          clear c00 d00 c01 d01 c02 d02 c10 d10 c11 d11 c12 d12 t0 t1
          have R157_0 := Lib.hid n_154.out.2
          have B_158 := Lib.hid (bel_set3 (x := .slice a1521 n1521 b1521) (y := .slice a1522 n1522 b1522) (z := .slice a1523 n1523 b1523) B_155.out (LB_m.out))
          have m_159 := Lib.hid (mv_set m_155.out R157_0.out)
          have n_160 := Lib.hid (mv_other (.slice a1521 n1521 b1521) (.slice a1522 n1522 b1522) (.slice a1523 n1523 b1523) n_154.out m_155.out (Ne.symm (Nat.ne_of_lt N_m_n.out)))
          clear B_155
          clear m_155
          clear n_154
          clear R157_0
          obtain ⟨gw161, hu161⟩ : ∃ u, ((gw156.setCell ⟨b_m, 0, none⟩ (.slice a1521 n1521 b1521)).setCell ⟨b_m, 1, none⟩ (.slice a1522 n1522 b1522)).setCell ⟨b_m, 2, none⟩ (.slice a1523 n1523 b1523) = u := ⟨_, rfl⟩
          rw [hu161] at B_158 m_159 n_160
          rw [hu161]
          clear hu161
          exact ⟨⟨j + 1, _, by omega, by omega, rfl, by go_num, ⟨_, _, _, sr.1, m_159.out, res_reserve OK.out (a := kk) (u := su) (by rw [SR.out, ← hz])⟩, B_158.out⟩, by simp [intOf]; omega⟩
  case rest =>
    obtain ⟨t, rfl, hra, hbb⟩ := hcut
    obtain ⟨x, y, z, m, hm, hok⟩ := hra
    have HBR := Lib.hid hbb; have HM := Lib.hid hm; have OK := Lib.hid hok
    clear hbb hm hok RA RK0 RR0 B_10
    cases t
    · as_aux_lemma =>
        obtain ⟨m1, m2, m3, wr, x, was, hend⟩ := res_end (n := n) OK.out pw.1 pw.2 po.1 po.2
        have E := Lib.hid hend; clear hend
        have SM := Lib.hid (E.out.g.small (by decide) (by decide)); have S2 := Lib.hid (E.out.g2.small (by decide) (by decide))
        have hx := E.out.yes rfl; subst hx
        cases hq : (oo == ww)
        · as_aux_lemma =>
            obtain rfl : wr = false := by rw [E.out.wrong, hq]; rfl
            obtain ⟨⟨c00, c01, c02⟩, d00, d01, d02⟩ := six (HM.out).1
            have t0 := mv_lt HM.out
            go_wp2_with (go_at_call 12; (with_reducible refine (pick11 _ _ _ _ J1.out (by decide) DO.out).mono ?_); rintro e w' ⟨rfl, rfl⟩)
            refine (cond_lit _ m 0 oo n false (m1, 0) _ HM.out.2 SM.out E.out.c1).mono ?_
            rintro e w162 hr162
            obtain ⟨a1621, n1621, b1621, a1622, n1622, b1622, a1623, n1623, b1623, rfl, hm162, LN162, hb162⟩ := hr162.parts
            clear c00 d00 c01 d01 c02 d02 t0
            have B_163 := Lib.hid (bw_tr HBR.out hb162)
            clear HBR
            have m_163 := Lib.hid (MV.up HM.out hb162)
            clear HM
            have HM162 := Lib.hid hm162; clear hm162 hb162
            go_upto_region 31 with fail
            have N_m_v1 := Lib.hid (mv_lt m_163.out)
            have LB_v1 : Hid (w.heap.size ≤ w162.heap.size) := Lib.hid (B_163.out).size
            have v1_164 := Lib.hid (mv_new HM162.out)
            have B_165 := Lib.hid (bw_tr B_163.out (bel_new w162 (.cells #[.slice a1621 n1621 b1621, .slice a1622 n1622 b1622, .slice a1623 n1623 b1623] 27)))
            clear B_163
            have m_165 := Lib.hid (MV.up m_163.out (bel_new w162 (.cells #[.slice a1621 n1621 b1621, .slice a1622 n1622 b1622, .slice a1623 n1623 b1623] 27)))
            clear m_163
            clear HM162
            obtain ⟨gw166, hu166⟩ : ∃ u, w162.alloc (.cells #[.slice a1621 n1621 b1621, .slice a1622 n1622 b1622, .slice a1623 n1623 b1623] 27) = u := ⟨_, rfl⟩
            rw [hu166] at B_165 m_165 v1_164
            rw [hu166]
            clear hu166
            obtain ⟨b_v1, hq⟩ : ∃ q, w162.heap.size = q := ⟨_, rfl⟩
            rw [hq] at v1_164
            have N_m_v1 := Lib.hid (Nat.lt_of_lt_of_le N_m_v1.out (Nat.le_of_eq hq))
            have LB_v1 := Lib.hid (Nat.le_trans LB_v1.out (Nat.le_of_eq hq))
            rw [hq]
            clear hq
            obtain ⟨⟨c00, c01, c02⟩, d00, d01, d02⟩ := six (m_165.out).1
            have t0 := mv_lt m_165.out
            go_wp2_with fail
            refine (cond_lit _ m 0 ww n true (m2, 0) _ m_165.out.2 SM.out E.out.c2).mono ?_
            rintro e w167 hr167
            obtain ⟨a1671, n1671, b1671, a1672, n1672, b1672, a1673, n1673, b1673, rfl, hm167, LN167, hb167⟩ := hr167.parts
            clear c00 d00 c01 d01 c02 d02 t0
            have B_168 := Lib.hid (bw_tr B_165.out hb167)
            clear B_165
            have m_168 := Lib.hid (MV.up m_165.out hb167)
            clear m_165
            have v1_168 := Lib.hid (MV.up v1_164.out hb167)
            clear v1_164
            have HM167 := Lib.hid hm167; clear hm167 hb167
            go_upto_region 32 with fail
            have N_m_nx := Lib.hid (mv_lt m_168.out)
            have N_v1_nx := Lib.hid (mv_lt v1_168.out)
            have LB_nx : Hid (w.heap.size ≤ w167.heap.size) := Lib.hid (B_168.out).size
            have nx_169 := Lib.hid (mv_new HM167.out)
            have B_170 := Lib.hid (bw_tr B_168.out (bel_new w167 (.cells #[.slice a1671 n1671 b1671, .slice a1672 n1672 b1672, .slice a1673 n1673 b1673] 27)))
            clear B_168
            have m_170 := Lib.hid (MV.up m_168.out (bel_new w167 (.cells #[.slice a1671 n1671 b1671, .slice a1672 n1672 b1672, .slice a1673 n1673 b1673] 27)))
            clear m_168
            have v1_170 := Lib.hid (MV.up v1_168.out (bel_new w167 (.cells #[.slice a1671 n1671 b1671, .slice a1672 n1672 b1672, .slice a1673 n1673 b1673] 27)))
            clear v1_168
            clear HM167
            obtain ⟨gw171, hu171⟩ : ∃ u, w167.alloc (.cells #[.slice a1671 n1671 b1671, .slice a1672 n1672 b1672, .slice a1673 n1673 b1673] 27) = u := ⟨_, rfl⟩
            rw [hu171] at B_170 m_170 v1_170 nx_169
            rw [hu171]
            clear hu171
            obtain ⟨b_nx, hq⟩ : ∃ q, w167.heap.size = q := ⟨_, rfl⟩
            rw [hq] at nx_169
            have N_m_nx := Lib.hid (Nat.lt_of_lt_of_le N_m_nx.out (Nat.le_of_eq hq))
            have N_v1_nx := Lib.hid (Nat.lt_of_lt_of_le N_v1_nx.out (Nat.le_of_eq hq))
            have LB_nx := Lib.hid (Nat.le_trans LB_nx.out (Nat.le_of_eq hq))
            rw [hq]
            clear hq
            obtain ⟨⟨c00, c01, c02⟩, d00, d01, d02⟩ := six (nx_169.out).1
            have t0 := mv_lt nx_169.out
            go_wp2_with fail
            refine (cond_lit _ m2 0 ww n false (m3, 0) _ nx_169.out.2 S2.out E.out.c3).mono ?_
            rintro e w172 hr172
            obtain ⟨a1721, n1721, b1721, a1722, n1722, b1722, a1723, n1723, b1723, rfl, hm172, LN172, hb172⟩ := hr172.parts
            clear c00 d00 c01 d01 c02 d02 t0
            have B_173 := Lib.hid (bw_tr B_170.out hb172)
            clear B_170
            have m_173 := Lib.hid (MV.up m_170.out hb172)
            clear m_170
            have v1_173 := Lib.hid (MV.up v1_170.out hb172)
            clear v1_170
            have nx_173 := Lib.hid (MV.up nx_169.out hb172)
            clear nx_169
            have HM172 := Lib.hid hm172; clear hm172 hb172
            go_upto_region 33 with fail
            have N_m_v3 := Lib.hid (mv_lt m_173.out)
            have N_v1_v3 := Lib.hid (mv_lt v1_173.out)
            have N_nx_v3 := Lib.hid (mv_lt nx_173.out)
            have LB_v3 : Hid (w.heap.size ≤ w172.heap.size) := Lib.hid (B_173.out).size
            have v3_174 := Lib.hid (mv_new HM172.out)
            have B_175 := Lib.hid (bw_tr B_173.out (bel_new w172 (.cells #[.slice a1721 n1721 b1721, .slice a1722 n1722 b1722, .slice a1723 n1723 b1723] 27)))
            clear B_173
            have m_175 := Lib.hid (MV.up m_173.out (bel_new w172 (.cells #[.slice a1721 n1721 b1721, .slice a1722 n1722 b1722, .slice a1723 n1723 b1723] 27)))
            clear m_173
            have v1_175 := Lib.hid (MV.up v1_173.out (bel_new w172 (.cells #[.slice a1721 n1721 b1721, .slice a1722 n1722 b1722, .slice a1723 n1723 b1723] 27)))
            clear v1_173
            have nx_175 := Lib.hid (MV.up nx_173.out (bel_new w172 (.cells #[.slice a1721 n1721 b1721, .slice a1722 n1722 b1722, .slice a1723 n1723 b1723] 27)))
            clear nx_173
            clear HM172
            obtain ⟨gw176, hu176⟩ : ∃ u, w172.alloc (.cells #[.slice a1721 n1721 b1721, .slice a1722 n1722 b1722, .slice a1723 n1723 b1723] 27) = u := ⟨_, rfl⟩
            rw [hu176] at B_175 m_175 v1_175 nx_175 v3_174
            rw [hu176]
            clear hu176
            obtain ⟨b_v3, hq⟩ : ∃ q, w172.heap.size = q := ⟨_, rfl⟩
            rw [hq] at v3_174
            have N_m_v3 := Lib.hid (Nat.lt_of_lt_of_le N_m_v3.out (Nat.le_of_eq hq))
            have N_v1_v3 := Lib.hid (Nat.lt_of_lt_of_le N_v1_v3.out (Nat.le_of_eq hq))
            have N_nx_v3 := Lib.hid (Nat.lt_of_lt_of_le N_nx_v3.out (Nat.le_of_eq hq))
            have LB_v3 := Lib.hid (Nat.le_trans LB_v3.out (Nat.le_of_eq hq))
            rw [hq]
            clear hq
            obtain ⟨⟨c00, c01, c02⟩, d00, d01, d02⟩ := six (nx_175.out).1
            have t0 := mv_lt nx_175.out
            go_wp2_with fail
            refine (load_any _ m2 0 ww (wrap32 n, 0) _ nx_175.out.2 S2.out E.out.l1).mono ?_
            rintro e w177 ⟨rfl, hb177⟩
            clear c00 d00 c01 d01 c02 d02 t0
            have B_178 := Lib.hid (bw_tr B_175.out hb177)
            clear B_175
            have m_178 := Lib.hid (MV.up m_175.out hb177)
            clear m_175
            have v1_178 := Lib.hid (MV.up v1_175.out hb177)
            clear v1_175
            have nx_178 := Lib.hid (MV.up nx_175.out hb177)
            clear nx_175
            have v3_178 := Lib.hid (MV.up v3_174.out hb177)
            clear v3_174
            clear hb177
            obtain ⟨⟨c00, c01, c02⟩, d00, d01, d02⟩ := six (m_178.out).1
            have t0 := mv_lt m_178.out
            go_wp2_with fail
            refine (load_any _ m 0 ww (was, 0) _ m_178.out.2 SM.out E.out.l2).mono ?_
            rintro e w179 ⟨rfl, hb179⟩
            clear c00 d00 c01 d01 c02 d02 t0
            have B_180 := Lib.hid (bw_tr B_178.out hb179)
            clear B_178
            have m_180 := Lib.hid (MV.up m_178.out hb179)
            clear m_178
            have v1_180 := Lib.hid (MV.up v1_178.out hb179)
            clear v1_178
            have nx_180 := Lib.hid (MV.up nx_178.out hb179)
            clear nx_178
            have v3_180 := Lib.hid (MV.up v3_178.out hb179)
            clear v3_178
            clear hb179
            go_wp2_with (go_at_call 15; refine (wrap_any _ _).mono ?_; rintro e w' ⟨rfl, rfl⟩)
            go_ret
            exact ⟨ret1 (rbool rfl), B_180.out⟩
        · as_aux_lemma =>
            obtain rfl : wr = true := by rw [E.out.wrong, hq]; rfl
            obtain ⟨⟨c00, c01, c02⟩, d00, d01, d02⟩ := six (HM.out).1
            have t0 := mv_lt HM.out
            go_wp2_with (go_at_call 12; (with_reducible refine (pick11 _ _ _ _ J1.out (by decide) DO.out).mono ?_); rintro e w' ⟨rfl, rfl⟩)
            refine (cond_lit _ m 0 oo n true (m1, 0) _ HM.out.2 SM.out E.out.c1).mono ?_
            rintro e w181 hr181
            obtain ⟨a1811, n1811, b1811, a1812, n1812, b1812, a1813, n1813, b1813, rfl, hm181, LN181, hb181⟩ := hr181.parts
            clear c00 d00 c01 d01 c02 d02 t0
            have B_182 := Lib.hid (bw_tr HBR.out hb181)
            clear HBR
            have m_182 := Lib.hid (MV.up HM.out hb181)
            clear HM
            have HM181 := Lib.hid hm181; clear hm181 hb181
            go_upto_region 31 with fail
            have N_m_v1 := Lib.hid (mv_lt m_182.out)
            have LB_v1 : Hid (w.heap.size ≤ w181.heap.size) := Lib.hid (B_182.out).size
            have v1_183 := Lib.hid (mv_new HM181.out)
            have B_184 := Lib.hid (bw_tr B_182.out (bel_new w181 (.cells #[.slice a1811 n1811 b1811, .slice a1812 n1812 b1812, .slice a1813 n1813 b1813] 27)))
            clear B_182
            have m_184 := Lib.hid (MV.up m_182.out (bel_new w181 (.cells #[.slice a1811 n1811 b1811, .slice a1812 n1812 b1812, .slice a1813 n1813 b1813] 27)))
            clear m_182
            clear HM181
            obtain ⟨gw185, hu185⟩ : ∃ u, w181.alloc (.cells #[.slice a1811 n1811 b1811, .slice a1812 n1812 b1812, .slice a1813 n1813 b1813] 27) = u := ⟨_, rfl⟩
            rw [hu185] at B_184 m_184 v1_183
            rw [hu185]
            clear hu185
            obtain ⟨b_v1, hq⟩ : ∃ q, w181.heap.size = q := ⟨_, rfl⟩
            rw [hq] at v1_183
            have N_m_v1 := Lib.hid (Nat.lt_of_lt_of_le N_m_v1.out (Nat.le_of_eq hq))
            have LB_v1 := Lib.hid (Nat.le_trans LB_v1.out (Nat.le_of_eq hq))
            rw [hq]
            clear hq
            obtain ⟨⟨c00, c01, c02⟩, d00, d01, d02⟩ := six (m_184.out).1
            have t0 := mv_lt m_184.out
            go_wp2_with fail
            refine (cond_lit _ m 0 ww n true (m2, 0) _ m_184.out.2 SM.out E.out.c2).mono ?_
            rintro e w186 hr186
            obtain ⟨a1861, n1861, b1861, a1862, n1862, b1862, a1863, n1863, b1863, rfl, hm186, LN186, hb186⟩ := hr186.parts
            clear c00 d00 c01 d01 c02 d02 t0
            have B_187 := Lib.hid (bw_tr B_184.out hb186)
            clear B_184
            have m_187 := Lib.hid (MV.up m_184.out hb186)
            clear m_184
            have v1_187 := Lib.hid (MV.up v1_183.out hb186)
            clear v1_183
            have HM186 := Lib.hid hm186; clear hm186 hb186
            go_upto_region 32 with fail
            have N_m_nx := Lib.hid (mv_lt m_187.out)
            have N_v1_nx := Lib.hid (mv_lt v1_187.out)
            have LB_nx : Hid (w.heap.size ≤ w186.heap.size) := Lib.hid (B_187.out).size
            have nx_188 := Lib.hid (mv_new HM186.out)
            have B_189 := Lib.hid (bw_tr B_187.out (bel_new w186 (.cells #[.slice a1861 n1861 b1861, .slice a1862 n1862 b1862, .slice a1863 n1863 b1863] 27)))
            clear B_187
            have m_189 := Lib.hid (MV.up m_187.out (bel_new w186 (.cells #[.slice a1861 n1861 b1861, .slice a1862 n1862 b1862, .slice a1863 n1863 b1863] 27)))
            clear m_187
            have v1_189 := Lib.hid (MV.up v1_187.out (bel_new w186 (.cells #[.slice a1861 n1861 b1861, .slice a1862 n1862 b1862, .slice a1863 n1863 b1863] 27)))
            clear v1_187
            clear HM186
            obtain ⟨gw190, hu190⟩ : ∃ u, w186.alloc (.cells #[.slice a1861 n1861 b1861, .slice a1862 n1862 b1862, .slice a1863 n1863 b1863] 27) = u := ⟨_, rfl⟩
            rw [hu190] at B_189 m_189 v1_189 nx_188
            rw [hu190]
            clear hu190
            obtain ⟨b_nx, hq⟩ : ∃ q, w186.heap.size = q := ⟨_, rfl⟩
            rw [hq] at nx_188
            have N_m_nx := Lib.hid (Nat.lt_of_lt_of_le N_m_nx.out (Nat.le_of_eq hq))
            have N_v1_nx := Lib.hid (Nat.lt_of_lt_of_le N_v1_nx.out (Nat.le_of_eq hq))
            have LB_nx := Lib.hid (Nat.le_trans LB_nx.out (Nat.le_of_eq hq))
            rw [hq]
            clear hq
            obtain ⟨⟨c00, c01, c02⟩, d00, d01, d02⟩ := six (nx_188.out).1
            have t0 := mv_lt nx_188.out
            go_wp2_with fail
            refine (cond_lit _ m2 0 ww n false (m3, 0) _ nx_188.out.2 S2.out E.out.c3).mono ?_
            rintro e w191 hr191
            obtain ⟨a1911, n1911, b1911, a1912, n1912, b1912, a1913, n1913, b1913, rfl, hm191, LN191, hb191⟩ := hr191.parts
            clear c00 d00 c01 d01 c02 d02 t0
            have B_192 := Lib.hid (bw_tr B_189.out hb191)
            clear B_189
            have m_192 := Lib.hid (MV.up m_189.out hb191)
            clear m_189
            have v1_192 := Lib.hid (MV.up v1_189.out hb191)
            clear v1_189
            have nx_192 := Lib.hid (MV.up nx_188.out hb191)
            clear nx_188
            have HM191 := Lib.hid hm191; clear hm191 hb191
            go_upto_region 33 with fail
            have N_m_v3 := Lib.hid (mv_lt m_192.out)
            have N_v1_v3 := Lib.hid (mv_lt v1_192.out)
            have N_nx_v3 := Lib.hid (mv_lt nx_192.out)
            have LB_v3 : Hid (w.heap.size ≤ w191.heap.size) := Lib.hid (B_192.out).size
            have v3_193 := Lib.hid (mv_new HM191.out)
            have B_194 := Lib.hid (bw_tr B_192.out (bel_new w191 (.cells #[.slice a1911 n1911 b1911, .slice a1912 n1912 b1912, .slice a1913 n1913 b1913] 27)))
            clear B_192
            have m_194 := Lib.hid (MV.up m_192.out (bel_new w191 (.cells #[.slice a1911 n1911 b1911, .slice a1912 n1912 b1912, .slice a1913 n1913 b1913] 27)))
            clear m_192
            have v1_194 := Lib.hid (MV.up v1_192.out (bel_new w191 (.cells #[.slice a1911 n1911 b1911, .slice a1912 n1912 b1912, .slice a1913 n1913 b1913] 27)))
            clear v1_192
            have nx_194 := Lib.hid (MV.up nx_192.out (bel_new w191 (.cells #[.slice a1911 n1911 b1911, .slice a1912 n1912 b1912, .slice a1913 n1913 b1913] 27)))
            clear nx_192
            clear HM191
            obtain ⟨gw195, hu195⟩ : ∃ u, w191.alloc (.cells #[.slice a1911 n1911 b1911, .slice a1912 n1912 b1912, .slice a1913 n1913 b1913] 27) = u := ⟨_, rfl⟩
            rw [hu195] at B_194 m_194 v1_194 nx_194 v3_193
            rw [hu195]
            clear hu195
            obtain ⟨b_v3, hq⟩ : ∃ q, w191.heap.size = q := ⟨_, rfl⟩
            rw [hq] at v3_193
            have N_m_v3 := Lib.hid (Nat.lt_of_lt_of_le N_m_v3.out (Nat.le_of_eq hq))
            have N_v1_v3 := Lib.hid (Nat.lt_of_lt_of_le N_v1_v3.out (Nat.le_of_eq hq))
            have N_nx_v3 := Lib.hid (Nat.lt_of_lt_of_le N_nx_v3.out (Nat.le_of_eq hq))
            have LB_v3 := Lib.hid (Nat.le_trans LB_v3.out (Nat.le_of_eq hq))
            rw [hq]
            clear hq
            obtain ⟨⟨c00, c01, c02⟩, d00, d01, d02⟩ := six (nx_194.out).1
            have t0 := mv_lt nx_194.out
            go_wp2_with fail
            refine (load_any _ m2 0 ww (wrap32 n, 0) _ nx_194.out.2 S2.out E.out.l1).mono ?_
            rintro e w196 ⟨rfl, hb196⟩
            clear c00 d00 c01 d01 c02 d02 t0
            have B_197 := Lib.hid (bw_tr B_194.out hb196)
            clear B_194
            have m_197 := Lib.hid (MV.up m_194.out hb196)
            clear m_194
            have v1_197 := Lib.hid (MV.up v1_194.out hb196)
            clear v1_194
            have nx_197 := Lib.hid (MV.up nx_194.out hb196)
            clear nx_194
            have v3_197 := Lib.hid (MV.up v3_193.out hb196)
            clear v3_193
            clear hb196
            obtain ⟨⟨c00, c01, c02⟩, d00, d01, d02⟩ := six (m_197.out).1
            have t0 := mv_lt m_197.out
            go_wp2_with fail
            refine (load_any _ m 0 ww (was, 0) _ m_197.out.2 SM.out E.out.l2).mono ?_
            rintro e w198 ⟨rfl, hb198⟩
            clear c00 d00 c01 d01 c02 d02 t0
            have B_199 := Lib.hid (bw_tr B_197.out hb198)
            clear B_197
            have m_199 := Lib.hid (MV.up m_197.out hb198)
            clear m_197
            have v1_199 := Lib.hid (MV.up v1_197.out hb198)
            clear v1_197
            have nx_199 := Lib.hid (MV.up nx_197.out hb198)
            clear nx_197
            have v3_199 := Lib.hid (MV.up v3_197.out hb198)
            clear v3_197
            clear hb198
            go_wp2_with (go_at_call 15; refine (wrap_any _ _).mono ?_; rintro e w' ⟨rfl, rfl⟩)
            go_ret
            exact ⟨ret1 (rbool rfl), B_199.out⟩
    · as_aux_lemma =>
        obtain ⟨m1, m2, m3, wr, x, was, hend⟩ := res_end (n := n) OK.out pw.1 pw.2 po.1 po.2
        have E := Lib.hid hend; clear hend
        have SM := Lib.hid (E.out.g.small (by decide) (by decide)); have S2 := Lib.hid (E.out.g2.small (by decide) (by decide))
        obtain rfl : wr = false := E.out.wrong
        have hx := E.out.no rfl; subst hx
        obtain ⟨⟨c00, c01, c02⟩, d00, d01, d02⟩ := six (HM.out).1
        have t0 := mv_lt HM.out
        go_wp2_with (go_at_call 12; (with_reducible refine (pick11 _ _ _ _ J1.out (by decide) DO.out).mono ?_); rintro e w' ⟨rfl, rfl⟩)
        refine (cond_lit _ m 0 oo n false (m1, 0) _ HM.out.2 SM.out E.out.c1).mono ?_
        rintro e w200 hr200
        obtain ⟨a2001, n2001, b2001, a2002, n2002, b2002, a2003, n2003, b2003, rfl, hm200, LN200, hb200⟩ := hr200.parts
        clear c00 d00 c01 d01 c02 d02 t0
        have B_201 := Lib.hid (bw_tr HBR.out hb200)
        clear HBR
        have m_201 := Lib.hid (MV.up HM.out hb200)
        clear HM
        have HM200 := Lib.hid hm200; clear hm200 hb200
        go_upto_region 31 with fail
        have N_m_v1 := Lib.hid (mv_lt m_201.out)
        have LB_v1 : Hid (w.heap.size ≤ w200.heap.size) := Lib.hid (B_201.out).size
        have v1_202 := Lib.hid (mv_new HM200.out)
        have B_203 := Lib.hid (bw_tr B_201.out (bel_new w200 (.cells #[.slice a2001 n2001 b2001, .slice a2002 n2002 b2002, .slice a2003 n2003 b2003] 27)))
        clear B_201
        have m_203 := Lib.hid (MV.up m_201.out (bel_new w200 (.cells #[.slice a2001 n2001 b2001, .slice a2002 n2002 b2002, .slice a2003 n2003 b2003] 27)))
        clear m_201
        clear HM200
        obtain ⟨gw204, hu204⟩ : ∃ u, w200.alloc (.cells #[.slice a2001 n2001 b2001, .slice a2002 n2002 b2002, .slice a2003 n2003 b2003] 27) = u := ⟨_, rfl⟩
        rw [hu204] at B_203 m_203 v1_202
        rw [hu204]
        clear hu204
        obtain ⟨b_v1, hq⟩ : ∃ q, w200.heap.size = q := ⟨_, rfl⟩
        rw [hq] at v1_202
        have N_m_v1 := Lib.hid (Nat.lt_of_lt_of_le N_m_v1.out (Nat.le_of_eq hq))
        have LB_v1 := Lib.hid (Nat.le_trans LB_v1.out (Nat.le_of_eq hq))
        rw [hq]
        clear hq
        obtain ⟨⟨c00, c01, c02⟩, d00, d01, d02⟩ := six (m_203.out).1
        have t0 := mv_lt m_203.out
        go_wp2_with fail
        refine (cond_lit _ m 0 ww n false (m2, 0) _ m_203.out.2 SM.out E.out.c2).mono ?_
        rintro e w205 hr205
        obtain ⟨a2051, n2051, b2051, a2052, n2052, b2052, a2053, n2053, b2053, rfl, hm205, LN205, hb205⟩ := hr205.parts
        clear c00 d00 c01 d01 c02 d02 t0
        have B_206 := Lib.hid (bw_tr B_203.out hb205)
        clear B_203
        have m_206 := Lib.hid (MV.up m_203.out hb205)
        clear m_203
        have v1_206 := Lib.hid (MV.up v1_202.out hb205)
        clear v1_202
        have HM205 := Lib.hid hm205; clear hm205 hb205
        go_upto_region 32 with fail
        have N_m_nx := Lib.hid (mv_lt m_206.out)
        have N_v1_nx := Lib.hid (mv_lt v1_206.out)
        have LB_nx : Hid (w.heap.size ≤ w205.heap.size) := Lib.hid (B_206.out).size
        have nx_207 := Lib.hid (mv_new HM205.out)
        have B_208 := Lib.hid (bw_tr B_206.out (bel_new w205 (.cells #[.slice a2051 n2051 b2051, .slice a2052 n2052 b2052, .slice a2053 n2053 b2053] 27)))
        clear B_206
        have m_208 := Lib.hid (MV.up m_206.out (bel_new w205 (.cells #[.slice a2051 n2051 b2051, .slice a2052 n2052 b2052, .slice a2053 n2053 b2053] 27)))
        clear m_206
        have v1_208 := Lib.hid (MV.up v1_206.out (bel_new w205 (.cells #[.slice a2051 n2051 b2051, .slice a2052 n2052 b2052, .slice a2053 n2053 b2053] 27)))
        clear v1_206
        clear HM205
        obtain ⟨gw209, hu209⟩ : ∃ u, w205.alloc (.cells #[.slice a2051 n2051 b2051, .slice a2052 n2052 b2052, .slice a2053 n2053 b2053] 27) = u := ⟨_, rfl⟩
        rw [hu209] at B_208 m_208 v1_208 nx_207
        rw [hu209]
        clear hu209
        obtain ⟨b_nx, hq⟩ : ∃ q, w205.heap.size = q := ⟨_, rfl⟩
        rw [hq] at nx_207
        have N_m_nx := Lib.hid (Nat.lt_of_lt_of_le N_m_nx.out (Nat.le_of_eq hq))
        have N_v1_nx := Lib.hid (Nat.lt_of_lt_of_le N_v1_nx.out (Nat.le_of_eq hq))
        have LB_nx := Lib.hid (Nat.le_trans LB_nx.out (Nat.le_of_eq hq))
        rw [hq]
        clear hq
        obtain ⟨⟨c00, c01, c02⟩, d00, d01, d02⟩ := six (nx_207.out).1
        have t0 := mv_lt nx_207.out
        go_wp2_with fail
        refine (cond_lit _ m2 0 ww n false (m3, 0) _ nx_207.out.2 S2.out E.out.c3).mono ?_
        rintro e w210 hr210
        obtain ⟨a2101, n2101, b2101, a2102, n2102, b2102, a2103, n2103, b2103, rfl, hm210, LN210, hb210⟩ := hr210.parts
        clear c00 d00 c01 d01 c02 d02 t0
        have B_211 := Lib.hid (bw_tr B_208.out hb210)
        clear B_208
        have m_211 := Lib.hid (MV.up m_208.out hb210)
        clear m_208
        have v1_211 := Lib.hid (MV.up v1_208.out hb210)
        clear v1_208
        have nx_211 := Lib.hid (MV.up nx_207.out hb210)
        clear nx_207
        have HM210 := Lib.hid hm210; clear hm210 hb210
        go_upto_region 33 with fail
        have N_m_v3 := Lib.hid (mv_lt m_211.out)
        have N_v1_v3 := Lib.hid (mv_lt v1_211.out)
        have N_nx_v3 := Lib.hid (mv_lt nx_211.out)
        have LB_v3 : Hid (w.heap.size ≤ w210.heap.size) := Lib.hid (B_211.out).size
        have v3_212 := Lib.hid (mv_new HM210.out)
        have B_213 := Lib.hid (bw_tr B_211.out (bel_new w210 (.cells #[.slice a2101 n2101 b2101, .slice a2102 n2102 b2102, .slice a2103 n2103 b2103] 27)))
        clear B_211
        have m_213 := Lib.hid (MV.up m_211.out (bel_new w210 (.cells #[.slice a2101 n2101 b2101, .slice a2102 n2102 b2102, .slice a2103 n2103 b2103] 27)))
        clear m_211
        have v1_213 := Lib.hid (MV.up v1_211.out (bel_new w210 (.cells #[.slice a2101 n2101 b2101, .slice a2102 n2102 b2102, .slice a2103 n2103 b2103] 27)))
        clear v1_211
        have nx_213 := Lib.hid (MV.up nx_211.out (bel_new w210 (.cells #[.slice a2101 n2101 b2101, .slice a2102 n2102 b2102, .slice a2103 n2103 b2103] 27)))
        clear nx_211
        clear HM210
        obtain ⟨gw214, hu214⟩ : ∃ u, w210.alloc (.cells #[.slice a2101 n2101 b2101, .slice a2102 n2102 b2102, .slice a2103 n2103 b2103] 27) = u := ⟨_, rfl⟩
        rw [hu214] at B_213 m_213 v1_213 nx_213 v3_212
        rw [hu214]
        clear hu214
        obtain ⟨b_v3, hq⟩ : ∃ q, w210.heap.size = q := ⟨_, rfl⟩
        rw [hq] at v3_212
        have N_m_v3 := Lib.hid (Nat.lt_of_lt_of_le N_m_v3.out (Nat.le_of_eq hq))
        have N_v1_v3 := Lib.hid (Nat.lt_of_lt_of_le N_v1_v3.out (Nat.le_of_eq hq))
        have N_nx_v3 := Lib.hid (Nat.lt_of_lt_of_le N_nx_v3.out (Nat.le_of_eq hq))
        have LB_v3 := Lib.hid (Nat.le_trans LB_v3.out (Nat.le_of_eq hq))
        rw [hq]
        clear hq
        obtain ⟨⟨c00, c01, c02⟩, d00, d01, d02⟩ := six (nx_213.out).1
        have t0 := mv_lt nx_213.out
        go_wp2_with fail
        refine (load_any _ m2 0 ww (x, 0) _ nx_213.out.2 S2.out E.out.l1).mono ?_
        rintro e w215 ⟨rfl, hb215⟩
        clear c00 d00 c01 d01 c02 d02 t0
        have B_216 := Lib.hid (bw_tr B_213.out hb215)
        clear B_213
        have m_216 := Lib.hid (MV.up m_213.out hb215)
        clear m_213
        have v1_216 := Lib.hid (MV.up v1_213.out hb215)
        clear v1_213
        have nx_216 := Lib.hid (MV.up nx_213.out hb215)
        clear nx_213
        have v3_216 := Lib.hid (MV.up v3_212.out hb215)
        clear v3_212
        clear hb215
        obtain ⟨⟨c00, c01, c02⟩, d00, d01, d02⟩ := six (m_216.out).1
        have t0 := mv_lt m_216.out
        go_wp2_with fail
        refine (load_any _ m 0 ww (x, 0) _ m_216.out.2 SM.out E.out.l2).mono ?_
        rintro e w217 ⟨rfl, hb217⟩
        clear c00 d00 c01 d01 c02 d02 t0
        have B_218 := Lib.hid (bw_tr B_216.out hb217)
        clear B_216
        have m_218 := Lib.hid (MV.up m_216.out hb217)
        clear m_216
        have v1_218 := Lib.hid (MV.up v1_216.out hb217)
        clear v1_216
        have nx_218 := Lib.hid (MV.up nx_216.out hb217)
        clear nx_216
        have v3_218 := Lib.hid (MV.up v3_216.out hb217)
        clear v3_216
        clear hb217
        go_wp2_with (go_at_call 15; refine (wrap_any _ _).mono ?_; rintro e w' ⟨rfl, rfl⟩)
        go_ret
        exact ⟨ret1 (rbool rfl), B_218.out⟩
end Go.Proofs.Ytkhobelceghgfaa
