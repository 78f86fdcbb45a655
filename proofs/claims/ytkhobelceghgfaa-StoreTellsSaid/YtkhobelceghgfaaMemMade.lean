/-
  The contract of headstocklaw11.Made (printed by gen_memmade.py).
-/
import Derived.Test.YtkhobelceghgfaaMemStep
namespace Go.Proofs.Ytkhobelceghgfaa
open Go.RowKit
theorem newR_ok (p q : Nat) (hp : p < 3) (hq : q < 4) : newR (2 + p) (1 + q) = (newMem (2 + p) (1 + q), 0) := by
  unfold newR
  rw [if_pos (by omega)]
  congr 2 <;> omega
theorem rows4_up {w w' : World} {a : Option Addr} {len cap : Nat} {raw : List R4} (h : Rows4 w a len cap raw) (hb : Below w.heap.size w w') : Rows4 w' a len cap raw := by
  obtain ⟨h1, h2, h3, h4, h5⟩ := h
  refine ⟨h1, h2, h3, h4, ?_⟩
  rcases h5 with h5 | ⟨b, o, ha, hlt, hc⟩
  · exact .inl h5
  · refine .inr ⟨b, o, ha, Nat.lt_of_lt_of_le hlt hb.size, fun i r hr => ?_⟩
    obtain ⟨c1, c2, c3, c4⟩ := hc i r hr
    exact ⟨rd_cell hb hlt c1, rd_cell hb hlt c2, rd_cell hb hlt c3, rd_cell hb hlt c4⟩
theorem lens_of {w : World} {a1 a2 a3 : Option Addr} {n1 n2 n3 c1 c2 c3 : Nat} {m : Mem} {H W : Nat} (h : IsMem w (.agg #[.slice a1 n1 c1, .slice a2 n2 c2, .slice a3 n3 c3]) m) (g : Good m H W) : W = n1 ∧ H = n2 ∧ H = n3 := by
  obtain ⟨a1', n1', b1', a2', n2', b2', a3', n3', b3', e, ln⟩ := h.parts9
  injection e with e
  have e1 := congrArg (fun x => x[0]?) e
  have e2 := congrArg (fun x => x[1]?) e
  have e3 := congrArg (fun x => x[2]?) e
  simp at e1 e2 e3
  obtain ⟨_, rfl, _⟩ := e1
  obtain ⟨_, rfl, _⟩ := e2
  obtain ⟨_, rfl, _⟩ := e3
  exact ⟨(ln.out.1.trans g.words).symm, (ln.out.2.1.trans g.pend).symm, (ln.out.2.2.trans g.res).symm⟩
set_option maxHeartbeats 8000000 in
set_option maxRecDepth 100000 in
theorem made_good (harts words : Int) (a : Option Addr) (len cap : Nat) (raw : List R4) (w : World) (hi1 : I64 harts) (hi2 : I64 words) (h : Rows4 w a len cap raw) :
    Calls Try.prog 18 #[.int .i64 harts, .int .i64 words, .slice a len cap] w fun e w' => ∃ a1 n1 b1 a2 n2 b2 a3 n3 b3 m p q, e = .returned (.agg #[.slice a1 n1 b1, .slice a2 n2 b2, .slice a3 n3 b3]) ∧ IsMem w' (.agg #[.slice a1 n1 b1, .slice a2 n2 b2, .slice a3 n3 b3]) m ∧ Good m (2 + p) (1 + q) ∧ p < 3 ∧ q < 4 ∧ Below w.heap.size w w' := by
  have I1 := Lib.hid hi1; have I2 := Lib.hid hi2; clear hi1 hi2
  have H := Lib.hid h
  obtain ⟨_, _, hlc, hcm, _⟩ := h
  unfold maxLen at hcm
  have p3 := pickN_bd harts 3 (by decide); have p4 := pickN_bd words 4 (by decide)
  obtain ⟨p, hp⟩ : ∃ p : Nat, pickN harts 3 = p := ⟨(pickN harts 3).toNat, by omega⟩
  obtain ⟨q, hq⟩ : ∃ q : Nat, pickN words 4 = q := ⟨(pickN words 4).toNat, by omega⟩
  rw [hp] at p3; rw [hq] at p4
  have hp3 : p < 3 := (by omega)
  have hq4 : q < 4 := (by omega)
  have HP := Lib.hid hp; have HQ := Lib.hid hq; clear hp hq
  have NR := Lib.hid (newR_ok p q hp3 hq4)
  have HB : Hid (Below w.heap.size w w) := Lib.hid (Below.refl _ _)
  go_enter Try.func18, Try.ntmps18
  go_upto_region 1 with (fail)
  have LB_o := Lib.hid (HB.out).size
  have o_1 := Lib.hid (mv_new (isMem_no w))
  have B_2 := Lib.hid (bw_tr HB.out (bel_new w (.cells #[.slice none 0 0, .slice none 0 0, .slice none 0 0] 27)))
  clear HB
  obtain ⟨gw3, hu3⟩ : ∃ u, w.alloc (.cells #[.slice none 0 0, .slice none 0 0, .slice none 0 0] 27) = u := ⟨_, rfl⟩
  rw [hu3] at B_2 o_1
  rw [hu3]
  clear hu3
  obtain ⟨b_o, hq⟩ : ∃ q, w.heap.size = q := ⟨_, rfl⟩
  rw [hq] at o_1
  have LB_o := Lib.hid (Nat.le_trans LB_o.out (Nat.le_of_eq hq))
  rw [hq]
  clear hq
  go_wp2_with (first | (go_at_call 12; (with_reducible refine (pick11 _ _ _ _ I1.out (by decide) HP.out).mono ?_); rintro e w' ⟨rfl, rfl⟩) | (go_at_call 12; (with_reducible refine (pick11 _ _ _ _ I2.out (by decide) HQ.out).mono ?_); rintro e w' ⟨rfl, rfl⟩))
  refine (new_lit (2 + p) (1 + q) (newMem (2 + p) (1 + q), 0) _ NR.out).mono ?_
  rintro e w4 hr4
  obtain ⟨a41, n41, b41, a42, n42, b42, a43, n43, b43, rfl, hm4, LN4, hb4⟩ := hr4.parts
  have B_5 := Lib.hid (bw_tr B_2.out hb4)
  clear B_2
  have o_5 := Lib.hid (MV.up o_1.out hb4)
  clear o_1
  have HM4 := Lib.hid hm4; clear hm4 hb4
  go_upto_region 2 with (fail)
  have N_o_m := Lib.hid (mv_lt o_5.out)
  have LB_m : Hid (w.heap.size ≤ w4.heap.size) := Lib.hid (B_5.out).size
  have m_6 := Lib.hid (mv_new HM4.out)
  have B_7 := Lib.hid (bw_tr B_5.out (bel_new w4 (.cells #[.slice a41 n41 b41, .slice a42 n42 b42, .slice a43 n43 b43] 27)))
  clear B_5
  have o_7 := Lib.hid (MV.up o_5.out (bel_new w4 (.cells #[.slice a41 n41 b41, .slice a42 n42 b42, .slice a43 n43 b43] 27)))
  clear o_5
  clear HM4
  obtain ⟨gw8, hu8⟩ : ∃ u, w4.alloc (.cells #[.slice a41 n41 b41, .slice a42 n42 b42, .slice a43 n43 b43] 27) = u := ⟨_, rfl⟩
  rw [hu8] at B_7 o_7 m_6
  rw [hu8]
  clear hu8
  obtain ⟨b_m, hq⟩ : ∃ q, w4.heap.size = q := ⟨_, rfl⟩
  rw [hq] at m_6
  have N_o_m := Lib.hid (Nat.lt_of_lt_of_le N_o_m.out (Nat.le_of_eq hq))
  have LB_m := Lib.hid (Nat.le_trans LB_m.out (Nat.le_of_eq hq))
  rw [hq]
  clear hq
  go_upto_block 0 with fail
  have HI : Hid ((fun wx => (∃ a1 n1 b1 a2 n2 b2 a3 n3 b3 m, MV wx b_m (.slice a1 n1 b1) (.slice a2 n2 b2) (.slice a3 n3 b3) m ∧ Good m (2 + p) (1 + q) ∧ MV wx b_o (.slice none 0 0) (.slice none 0 0) (.slice none 0 0) noMem ∧ Below w.heap.size w wx)) gw8) := Lib.hid ⟨_, _, _, _, _, _, _, _, _, _, m_6.out, good_new _ _, o_7.out, B_7.out⟩
  clear B_7 o_7 m_6
  go_cut [] (fun wx => (∃ a1 n1 b1 a2 n2 b2 a3 n3 b3 m, MV wx b_m (.slice a1 n1 b1) (.slice a2 n2 b2) (.slice a3 n3 b3) m ∧ Good m (2 + p) (1 + q) ∧ MV wx b_o (.slice none 0 0) (.slice none 0 0) (.slice none 0 0) noMem ∧ Below w.heap.size w wx))
  case first =>
    go_wp2_with fail
    go_loopw [9] (fun i wx => ∃ j : Nat, j ≤ len ∧ j ≤ 40 ∧ i = .int .i64 j ∧ (∃ a1 n1 b1 a2 n2 b2 a3 n3 b3 m, MV wx b_m (.slice a1 n1 b1) (.slice a2 n2 b2) (.slice a3 n3 b3) m ∧ Good m (2 + p) (1 + q) ∧ MV wx b_o (.slice none 0 0) (.slice none 0 0) (.slice none 0 0) noMem ∧ Below w.heap.size w wx)) (fun i _ => len - (intOf i).toNat)
    case atStart => exact ⟨0, Nat.zero_le _, Nat.zero_le _, rfl, HI.out⟩
    case round =>
      obtain ⟨j, hj, hj40, rfl, hiv⟩ := hrel
      have HIV := Lib.hid hiv
      by_cases hlt : j < len
      rotate_left
      · clear hiv
        go_wp2_with fail
        go_meet
        case rel => exact HIV.out
      by_cases h40 : j < 40
      rotate_left
      · clear hiv
        go_wp2_with fail
        go_meet
        case rel => exact HIV.out
      obtain ⟨a1, n1, c1, a2, n2, c2, a3, n3, c3, m, hm, hg, ho, hb⟩ := hiv
      have HM := Lib.hid hm; have GD := Lib.hid hg; have HO := Lib.hid ho; have HB := Lib.hid hb
      clear hm hg ho hb HIV HI
      obtain ⟨b, o, r0, r1, r2, r3, rfl, hbl, hrow, ri, g0, g1, g2, g3⟩ := H.out.row hlt
      have G0 := Lib.hid g0
      have G1 := Lib.hid g1
      have G2 := Lib.hid g2
      have G3 := Lib.hid g3
      have RI := Lib.hid ri; clear ri g0 g1 g2 g3 hrow
      have hsz := HB.out.size
      have y2 := Nat.lt_of_lt_of_le hbl hsz
      have ne2 : b ≠ b_m := Nat.ne_of_lt (Nat.lt_of_lt_of_le hbl LB_m.out)
      go_upto_region 5 with (fail)
      have ne3 : b ≠ wr.heap.size := Nat.ne_of_lt y2
      refine wp_region_ut (UpB wr.heap.size wr) 9 [true, true, true, true, true] (by kernel_rfl) (by kernel_rfl) (by kernel_rfl) (fun _ _ h hu => h.up hu) (upb_refl _ _) ?ra9 ?rh9 ?rt9
      case rh9 =>
        intro w0 h0
        obtain ⟨⟨c0, c1, c2⟩, d0, d1, d2⟩ := six (HM.out).1
        have t0 := mv_lt HM.out
        have ne0 := Nat.ne_of_lt t0
        have rx0 := fun x => h0.wd t0 ne0 c0 x
        have rx1 := fun x => h0.wd t0 ne0 c1 x
        have rx2 := fun x => h0.wd t0 ne0 c2 x
        clear c0 c1 c2 d0 d1 d2
        have rx3 := fun x => h0.wd y2 ne3 (rd_cell HB.out hbl G0.out) x
        have rx4 := fun x => h0.wd y2 ne3 (rd_cell HB.out hbl G1.out) x
        have rx5 := fun x => h0.wd y2 ne3 (rd_cell HB.out hbl G2.out) x
        have rx6 := fun x => h0.wd y2 ne3 (rd_cell HB.out hbl G3.out) x
        simp only [pickM]
        repeat (go_big_quiet_step ((fail)))
        refine wpQuiet_nil ?_
        rfl
      case rt9 =>
        change headU _ _ _ _ _ _ 4 _ _ _
        refine headU_one (i := 5) (by kernel_rfl) (by decide) rfl ?_
        intro w10 hu10 hc10
        have hu10 := bw_undrew hu10
        have m_11 := Lib.hid (MV.up HM.out hu10)
        clear HM
        have o_11 := Lib.hid (MV.up HO.out hu10)
        clear HO
        have B_11 := Lib.hid (bw_tr HB.out hu10)
        clear HB
        have C_10 := Lib.hid hc10; clear hc10 hu10
        go_wp2_with fail
        refine (step_good _ m (2 + p) (1 + q) r0 r1 r2 r3 _ m_11.out.2 GD.out (by omega) (by omega) RI.out).mono ?_
        rintro e w12 ⟨nk, v', mk, rfl, hmk, hgk, hbk⟩
        obtain ⟨a121, n121, b121, a122, n122, b122, a123, n123, b123, rfl, LN12⟩ := hmk.parts9
        have m_13 := Lib.hid (MV.up m_11.out hbk)
        clear m_11
        have o_13 := Lib.hid (MV.up o_11.out hbk)
        clear o_11
        have B_13 := Lib.hid (bw_tr B_11.out hbk)
        clear B_11
        have C_13 := Lib.hid ((C_10.out).up hbk)
        clear C_10
        have HM12 := Lib.hid hmk; have GK := Lib.hid hgk; clear hmk hgk hbk
        go_wp2_with fail
        refine ⟨C_13.out, ?_⟩
        refine headU_one (i := 6) (by kernel_rfl) (by decide) rfl ?_
        intro w14 hu14 hc14
        have m_15 := Lib.hid (MV.up m_13.out hu14)
        clear m_13
        have o_15 := Lib.hid (MV.up o_13.out hu14)
        clear o_13
        have B_15 := Lib.hid (bw_tr B_13.out hu14)
        clear B_13
        have R12_15 := Lib.hid ((HM12.out).below hu14)
        clear HM12
        have C_14 := Lib.hid hc14; clear hc14 hu14
        go_wp2_with fail
        refine ⟨C_14.out, ?_⟩
        refine headU_two (i := 7) (k := 8) (by kernel_rfl) (by decide) (by decide) rfl rfl ?_ ?_
        · intro w16 hu16 hc16
          have m_17 := Lib.hid (MV.up m_15.out hu16)
          clear m_15
          have o_17 := Lib.hid (MV.up o_15.out hu16)
          clear o_15
          have B_17 := Lib.hid (bw_tr B_15.out hu16)
          clear B_15
          have R12_17 := Lib.hid ((R12_15.out).below hu16)
          clear R12_15
          have C_16 := Lib.hid hc16; clear hc16 hu16
          go_wp2_with fail
          refine ⟨C_16.out, ?_⟩
          refine headU_one (i := 8) (by kernel_rfl) (by decide) rfl ?_
          intro w18 hu18 hc18
          have m_19 := Lib.hid (MV.up m_17.out hu18)
          clear m_17
          have o_19 := Lib.hid (MV.up o_17.out hu18)
          clear o_17
          have B_19 := Lib.hid (bw_tr B_17.out hu18)
          clear B_17
          have R12_19 := Lib.hid ((R12_17.out).below hu18)
          clear R12_17
          have C_18 := Lib.hid hc18; clear hc18 hu18
          go_wp2_with fail
          refine ⟨C_18.out, ?_⟩
          refine headU_end (by kernel_rfl) ?_
          intro w20 hu20 hc20
          have m_21 := Lib.hid (MV.up m_19.out hu20)
          clear m_19
          have o_21 := Lib.hid (MV.up o_19.out hu20)
          clear o_19
          have B_21 := Lib.hid (bw_tr B_19.out hu20)
          clear B_19
          have R12_21 := Lib.hid ((R12_19.out).below hu20)
          clear R12_19
          have C_20 := Lib.hid hc20; clear hc20 hu20
          simp only [List.drop_succ_cons, List.drop_zero]
          obtain ⟨⟨c00, c01, c02⟩, d00, d01, d02⟩ := six (m_21.out).1
          have t0 := mv_lt m_21.out
          go_wp2_with fail
          clear c00 d00 c01 d01 c02 d02 t0
          clear C_20
          have m_22 := Lib.hid (mv_set m_21.out R12_21.out)
          have o_23 := Lib.hid (mv_other (.slice a121 n121 b121) (.slice a122 n122 b122) (.slice a123 n123 b123) o_21.out m_21.out (Nat.ne_of_lt N_o_m.out))
          have B_24 := Lib.hid (bel_set3 (x := .slice a121 n121 b121) (y := .slice a122 n122 b122) (z := .slice a123 n123 b123) B_21.out (LB_m.out))
          clear m_21
          clear o_21
          clear B_21
          clear R12_21
          obtain ⟨gw25, hu25⟩ : ∃ u, ((w20.setCell ⟨b_m, 0, none⟩ (.slice a121 n121 b121)).setCell ⟨b_m, 1, none⟩ (.slice a122 n122 b122)).setCell ⟨b_m, 2, none⟩ (.slice a123 n123 b123) = u := ⟨_, rfl⟩
          rw [hu25] at m_22 o_23 B_24
          rw [hu25]
          clear hu25
          refine ⟨⟨j + 1, by omega, by omega, by go_num, ⟨_, _, _, _, _, _, _, _, _, _, m_22.out, GK.out, o_23.out, B_24.out⟩⟩, by simp [intOf]; omega⟩
        · intro w26 hu26 hc26
          have m_27 := Lib.hid (MV.up m_15.out hu26)
          clear m_15
          have o_27 := Lib.hid (MV.up o_15.out hu26)
          clear o_15
          have B_27 := Lib.hid (bw_tr B_15.out hu26)
          clear B_15
          have R12_27 := Lib.hid ((R12_15.out).below hu26)
          clear R12_15
          have C_26 := Lib.hid hc26; clear hc26 hu26
          go_wp2_with fail
          refine ⟨C_26.out, ?_⟩
          refine headU_one (i := 7) (by kernel_rfl) (by decide) rfl ?_
          intro w28 hu28 hc28
          have m_29 := Lib.hid (MV.up m_27.out hu28)
          clear m_27
          have o_29 := Lib.hid (MV.up o_27.out hu28)
          clear o_27
          have B_29 := Lib.hid (bw_tr B_27.out hu28)
          clear B_27
          have R12_29 := Lib.hid ((R12_27.out).below hu28)
          clear R12_27
          have C_28 := Lib.hid hc28; clear hc28 hu28
          go_wp2_with fail
          refine ⟨C_28.out, ?_⟩
          refine headU_end (by kernel_rfl) ?_
          intro w30 hu30 hc30
          have m_31 := Lib.hid (MV.up m_29.out hu30)
          clear m_29
          have o_31 := Lib.hid (MV.up o_29.out hu30)
          clear o_29
          have B_31 := Lib.hid (bw_tr B_29.out hu30)
          clear B_29
          have R12_31 := Lib.hid ((R12_29.out).below hu30)
          clear R12_29
          have C_30 := Lib.hid hc30; clear hc30 hu30
          simp only [List.drop_succ_cons, List.drop_zero]
          obtain ⟨⟨c00, c01, c02⟩, d00, d01, d02⟩ := six (m_31.out).1
          have t0 := mv_lt m_31.out
          go_wp2_with fail
          clear c00 d00 c01 d01 c02 d02 t0
          clear C_30
          have m_32 := Lib.hid (mv_set m_31.out R12_31.out)
          have o_33 := Lib.hid (mv_other (.slice a121 n121 b121) (.slice a122 n122 b122) (.slice a123 n123 b123) o_31.out m_31.out (Nat.ne_of_lt N_o_m.out))
          have B_34 := Lib.hid (bel_set3 (x := .slice a121 n121 b121) (y := .slice a122 n122 b122) (z := .slice a123 n123 b123) B_31.out (LB_m.out))
          clear m_31
          clear o_31
          clear B_31
          clear R12_31
          obtain ⟨gw35, hu35⟩ : ∃ u, ((w30.setCell ⟨b_m, 0, none⟩ (.slice a121 n121 b121)).setCell ⟨b_m, 1, none⟩ (.slice a122 n122 b122)).setCell ⟨b_m, 2, none⟩ (.slice a123 n123 b123) = u := ⟨_, rfl⟩
          rw [hu35] at m_32 o_33 B_34
          rw [hu35]
          clear hu35
          refine ⟨⟨j + 1, by omega, by omega, by go_num, ⟨_, _, _, _, _, _, _, _, _, _, m_32.out, GK.out, o_33.out, B_34.out⟩⟩, by simp [intOf]; omega⟩
  case rest =>
    obtain ⟨a1, n1, c1, a2, n2, c2, a3, n3, c3, m, hm, hg, ho, hb⟩ := hcut
    have HM := Lib.hid hm; have GD := Lib.hid hg; have HO := Lib.hid ho; have HB := Lib.hid hb
    clear hm hg ho hb HI
    obtain ⟨⟨c00, c01, c02⟩, d00, d01, d02⟩ := six (HM.out).1
    have t0 := mv_lt HM.out
    obtain ⟨⟨c10, c11, c12⟩, d10, d11, d12⟩ := six (HO.out).1
    have t1 := mv_lt HO.out
    go_wp2_with fail
    clear c00 d00 c01 d01 c02 d02 c10 d10 c11 d11 c12 d12 t0 t1
    have R36_0 := Lib.hid HM.out.2
    have m_37 := Lib.hid (mv_other (.slice a1 n1 c1) (.slice a2 n2 c2) (.slice a3 n3 c3) HM.out HO.out (Ne.symm (Nat.ne_of_lt N_o_m.out)))
    have o_38 := Lib.hid (mv_set HO.out R36_0.out)
    have B_39 := Lib.hid (bel_set3 (x := .slice a1 n1 c1) (y := .slice a2 n2 c2) (z := .slice a3 n3 c3) HB.out (LB_o.out))
    clear HM
    clear HO
    clear HB
    clear R36_0
    obtain ⟨gw40, hu40⟩ : ∃ u, ((wc.setCell ⟨b_o, 0, none⟩ (.slice a1 n1 c1)).setCell ⟨b_o, 1, none⟩ (.slice a2 n2 c2)).setCell ⟨b_o, 2, none⟩ (.slice a3 n3 c3) = u := ⟨_, rfl⟩
    rw [hu40] at m_37 o_38 B_39
    rw [hu40]
    clear hu40
    obtain ⟨s0, s1, s2⟩ := three_cells o_38.out.1
    exact bodyPost_ret (v := .agg #[.slice a1 n1 c1, .slice a2 n2 c2, .slice a3 n3 c3]) (by simp [results, Try.results18, go_sem, s0, s1, s2]) rfl ⟨_, _, _, _, _, _, _, _, _, _, _, _, rfl, o_38.out.2, GD.out, hp3, hq4, B_39.out⟩
end Go.Proofs.Ytkhobelceghgfaa
