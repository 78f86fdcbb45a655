/-
  The walk of the law StoreAway (printed).
-/
import Derived.Test.YtkhobelceghgfaaMemMade
namespace Go.Proofs.Ytkhobelceghgfaa
open Go.RowKit
structure AwayOK (m nx md : Mem) (H W : Nat) (h k : Int) : Prop where
  gx : Good nx H W
  gd : Good md H W
  fl : flushR nx h = (md, 0)
  em : pendOf md h = []
  all : ∀ i w : Nat, i < H → w < W → ∃ a b c, loadR m i w = (a, 0) ∧ loadR nx i w = (b, 0) ∧ loadR md i w = (c, 0) ∧ ((i : Int) ≠ h → a = b) ∧ ((i : Int) = h → b = c) ∧ ((w : Int) ≠ k → a = b)
theorem away_of {m nx : Mem} {H W : Nat} (g : Good m H W) (gx : Good nx H W) {h k : Int} (h0 : 0 ≤ h) (h1 : h < H)
    (ho : ∀ i w : Int, 0 ≤ i → 0 ≤ w → i ≠ h → loadN nx i w = loadN m i w) (hw : ∀ i w : Int, 0 ≤ i → 0 ≤ w → w ≠ k → loadN nx i w = loadN m i w) : ∃ md, AwayOK m nx md H W h k := by
  obtain ⟨md, e, gd, pe, po, wo⟩ := flush_ok gx h0 h1
  refine ⟨md, gx, gd, e, pe, fun i w hi hwW => ⟨_, _, _, load_good g (by omega) (by omega) (by omega) (by omega), load_good gx (by omega) (by omega) (by omega) (by omega), load_good gd (by omega) (by omega) (by omega) (by omega), ?_, ?_, ?_⟩⟩
  · intro hne; exact (ho i w (by omega) (by omega) hne).symm
  · intro he
    rw [he, load_word pe, wo w (by omega)]
  · intro hne; exact (hw i w (by omega) (by omega) hne).symm
theorem away_full {m : Mem} {H W : Nat} (g : Good m H W) {h k : Int} (h0 : 0 ≤ h) (h1 : h < H) : ∃ md, AwayOK m m md H W h k := away_of g g h0 h1 (fun _ _ _ _ _ => rfl) (fun _ _ _ _ _ => rfl)
theorem away_store {m nx : Mem} {H W : Nat} (g : Good m H W) {h k n : Int} (h0 : 0 ≤ h) (h1 : h < H) (e : storeR m h k n = (nx, 0)) : ∃ md, AwayOK m nx md H W h k := by
  refine away_of g (good_store g e) h0 h1 ?_ ?_
  · intro i w hi _ hne
    obtain ⟨e1, e2⟩ := store_other (b := w) e hi hne
    unfold loadN; rw [e1, e2]
  · intro i w hi _ hne
    by_cases he : i = h
    · subst he; rw [load_store e, if_neg (Ne.symm hne)]
    · obtain ⟨e1, e2⟩ := store_other (b := w) e hi he
      unfold loadN; rw [e1, e2]
set_option maxHeartbeats 8000000 in
set_option maxRecDepth 100000 in
theorem walkStoreAway (harts words : Int) (v : Value) (raw : List R4) (which at' n : Int) (w : World) (hi1 : I64 harts) (hi2 : I64 words) (hv : ArgS 4 c4 w v raw) (hok : ∀ r ∈ raw, ok4 r) (hj0 : I64 which) (hj1 : I64 at') (hj2 : I64 n) :
    Calls Try.prog 8 #[.int .i64 harts, .int .i64 words, v, .int .i64 which, .int .i64 at', .int .i64 n] w fun e w' => e = .returned (.bool true) ∧ Below w.heap.size w w' := by
  obtain ⟨a, len, cap, rfl, h⟩ := rows4_of hv hok
  have H4 := Lib.hid h
  have I1 := Lib.hid hi1; have I2 := Lib.hid hi2; have J0 := Lib.hid hj0; have J1 := Lib.hid hj1; have J2 := Lib.hid hj2
  clear hv hok h hi1 hi2 hj0 hj1 hj2
  have HB : Hid (Below w.heap.size w w) := Lib.hid (Below.refl _ _)
  go_enter Try.func8, Try.ntmps8
  go_wp2_with fail
  refine (awake11 _).mono ?_
  rintro e w1 ⟨rfl, hb1⟩
  have B_2 := Lib.hid (bw_tr HB.out hb1)
  clear HB
  clear hb1
  go_wp2_with fail
  refine (made_good harts words a len cap raw _ I1.out I2.out ?mk).mono ?_
  case mk => exact rows4_up H4.out B_2.out
  rintro e w3 ⟨a31, n31, b31, a32, n32, b32, a33, n33, b33, m, p, q, rfl, hmk, hgk, hp3, hq4, hbk⟩
  obtain ⟨H, hH⟩ : ∃ H, 2 + p = H := ⟨_, rfl⟩; obtain ⟨W, hW⟩ : ∃ W, 1 + q = W := ⟨_, rfl⟩
  rw [hH, hW] at hgk
  have hH2 : 2 ≤ H ∧ H ≤ 4 := (by omega); have hW2 : 1 ≤ W ∧ W ≤ 4 := (by omega)
  obtain ⟨rfl, rfl, rfl⟩ : W = n31 ∧ H = n32 ∧ H = n33 := lens_of hmk hgk
  clear hH hW hp3 hq4 p q
  have B_4 := Lib.hid (bw_tr B_2.out hbk)
  clear B_2
  have HM3 := Lib.hid hmk; have GD := Lib.hid hgk; clear hmk hgk hbk
  go_upto_region 3 with (fail)
  have LB_m : Hid (w.heap.size ≤ w3.heap.size) := Lib.hid (B_4.out).size
  have m_5 := Lib.hid (mv_new HM3.out)
  have B_6 := Lib.hid (bw_tr B_4.out (bel_new w3 (.cells #[.slice a31 W b31, .slice a32 H b32, .slice a33 H b33] 27)))
  clear B_4
  clear HM3
  obtain ⟨gw7, hu7⟩ : ∃ u, w3.alloc (.cells #[.slice a31 W b31, .slice a32 H b32, .slice a33 H b33] 27) = u := ⟨_, rfl⟩
  rw [hu7] at B_6 m_5
  rw [hu7]
  clear hu7
  obtain ⟨b_m, hq⟩ : ∃ q, w3.heap.size = q := ⟨_, rfl⟩
  rw [hq] at m_5
  have LB_m := Lib.hid (Nat.le_trans LB_m.out (Nat.le_of_eq hq))
  rw [hq]
  clear hq
  have SM := Lib.hid (GD.out.small (by omega) (by omega))
  have pH := pickN_bd which H (by omega); have pW := pickN_bd at' W (by omega)
  obtain ⟨hh, e1⟩ : ∃ hh, pickN which H = hh := ⟨_, rfl⟩; obtain ⟨kk, e2⟩ : ∃ kk, pickN at' W = kk := ⟨_, rfl⟩
  rw [e1] at pH; rw [e2] at pW; have DH := Lib.hid e1; have DK := Lib.hid e2; clear e1 e2
  obtain ⟨sr, hsr⟩ : ∃ sr, storeR m hh kk n = sr := ⟨_, rfl⟩; have SR := Lib.hid hsr
  have hcase : sr.2 = 90 ∨ sr.2 = 0 := by rw [← hsr, store_in GD.out n pH.1 pH.2 pW.1 pW.2]; split <;> simp
  clear hsr
  obtain ⟨⟨c00, c01, c02⟩, d00, d01, d02⟩ := six (m_5.out).1
  have t0 := mv_lt m_5.out
  go_wp2_with (first | (go_at_call 12; (with_reducible refine (pick11 _ _ _ _ J0.out (by omega) DH.out).mono ?_); rintro e w' ⟨rfl, rfl⟩) | (go_at_call 12; (with_reducible refine (pick11 _ _ _ _ J1.out (by omega) DK.out).mono ?_); rintro e w' ⟨rfl, rfl⟩))
  refine (store_lit _ m hh kk n sr _ m_5.out.2 SM.out SR.out).mono ?_
  rintro e w8 hr8
  obtain ⟨a81, n81, b81, a82, n82, b82, a83, n83, b83, rfl, hm8, LN8, hb8⟩ := hr8.parts
  clear c00 d00 c01 d01 c02 d02 t0
  have B_9 := Lib.hid (bw_tr B_6.out hb8)
  clear B_6
  have m_9 := Lib.hid (MV.up m_5.out hb8)
  clear m_5
  have HM8 := Lib.hid hm8; clear hm8 hb8
  go_upto_region 6 with (fail)
  have N_m_nx := Lib.hid (mv_lt m_9.out)
  have LB_nx : Hid (w.heap.size ≤ w8.heap.size) := Lib.hid (B_9.out).size
  have nx_10 := Lib.hid (mv_new HM8.out)
  have B_11 := Lib.hid (bw_tr B_9.out (bel_new w8 (.cells #[.slice a81 n81 b81, .slice a82 n82 b82, .slice a83 n83 b83] 27)))
  clear B_9
  have m_11 := Lib.hid (MV.up m_9.out (bel_new w8 (.cells #[.slice a81 n81 b81, .slice a82 n82 b82, .slice a83 n83 b83] 27)))
  clear m_9
  clear HM8
  obtain ⟨gw12, hu12⟩ : ∃ u, w8.alloc (.cells #[.slice a81 n81 b81, .slice a82 n82 b82, .slice a83 n83 b83] 27) = u := ⟨_, rfl⟩
  rw [hu12] at B_11 m_11 nx_10
  rw [hu12]
  clear hu12
  obtain ⟨b_nx, hq⟩ : ∃ q, w8.heap.size = q := ⟨_, rfl⟩
  rw [hq] at nx_10
  have N_m_nx := Lib.hid (Nat.lt_of_lt_of_le N_m_nx.out (Nat.le_of_eq hq))
  have LB_nx := Lib.hid (Nat.le_trans LB_nx.out (Nat.le_of_eq hq))
  rw [hq]
  clear hq
  go_upto_if 55 with fail
  go_cut [18] (fun s18 wx => ∃ (a1 : Option Addr) (n1 c1 : Nat) (a2 : Option Addr) (n2 c2 : Nat) (a3 : Option Addr) (n3 c3 : Nat) (mx md : Mem), s18 = .int .i64 0 ∧ MV wx b_m (.slice a31 W b31) (.slice a32 H b32) (.slice a33 H b33) m ∧ MV wx b_nx (.slice a1 n1 c1) (.slice a2 n2 c2) (.slice a3 n3 c3) mx ∧ Below w.heap.size w wx ∧ AwayOK m mx md H W hh kk)
  case first =>
    obtain ⟨sm, se⟩ := sr
    rcases hcase with h9 | h9
    · subst h9
      obtain ⟨md, hmd⟩ := away_full GD.out (k := kk) pH.1 pH.2
      obtain ⟨⟨c00, c01, c02⟩, d00, d01, d02⟩ := six (m_11.out).1
      have t0 := mv_lt m_11.out
      obtain ⟨⟨c10, c11, c12⟩, d10, d11, d12⟩ := six (nx_10.out).1
      have t1 := mv_lt nx_10.out
      go_wp2_with fail
      clear c00 d00 c01 d01 c02 d02 c10 d10 c11 d11 c12 d12 t0 t1
      have R13_0 := Lib.hid m_11.out.2
      have B_14 := Lib.hid (bel_set3 (x := .slice a31 W b31) (y := .slice a32 H b32) (z := .slice a33 H b33) B_11.out (LB_nx.out))
      have m_15 := Lib.hid (mv_other (.slice a31 W b31) (.slice a32 H b32) (.slice a33 H b33) m_11.out nx_10.out (Nat.ne_of_lt N_m_nx.out))
      have nx_16 := Lib.hid (mv_set nx_10.out R13_0.out)
      clear B_11
      clear m_11
      clear nx_10
      clear R13_0
      obtain ⟨gw17, hu17⟩ : ∃ u, ((gw12.setCell ⟨b_nx, 0, none⟩ (.slice a31 W b31)).setCell ⟨b_nx, 1, none⟩ (.slice a32 H b32)).setCell ⟨b_nx, 2, none⟩ (.slice a33 H b33) = u := ⟨_, rfl⟩
      rw [hu17] at B_14 m_15 nx_16
      rw [hu17]
      clear hu17
      go_meet
      case rel => exact ⟨_, _, _, _, _, _, _, _, _, _, _, rfl, m_15.out, nx_16.out, B_14.out, hmd⟩
    · subst h9
      obtain ⟨md, hmd⟩ := away_store GD.out pH.1 pH.2 SR.out
      go_wp2_with fail
      go_meet
      case rel => exact ⟨_, _, _, _, _, _, _, _, _, _, _, rfl, m_11.out, nx_10.out, B_11.out, hmd⟩
  case rest =>
    obtain ⟨a1, n1, c1, a2, n2, c2, a3, n3, c3, mx, md, rfl, hm, hx, hb, hok⟩ := hcut
    have HM := Lib.hid hm; have HX := Lib.hid hx; have HBX := Lib.hid hb; have OK := Lib.hid hok
    clear hm hx hb hok hcase SR B_11 m_11 nx_10
    have SX := Lib.hid (OK.out.gx.small (by omega) (by omega)); have SD := Lib.hid (OK.out.gd.small (by omega) (by omega))
    obtain ⟨⟨c00, c01, c02⟩, d00, d01, d02⟩ := six (HX.out).1
    have t0 := mv_lt HX.out
    go_wp2_with fail
    refine (flush_lit _ mx hh (md, 0) _ HX.out.2 SX.out OK.out.fl).mono ?_
    rintro e w18 hr18
    obtain ⟨a181, n181, b181, a182, n182, b182, a183, n183, b183, rfl, hm18, LN18, hb18⟩ := hr18.parts
    clear c00 d00 c01 d01 c02 d02 t0
    have m_19 := Lib.hid (MV.up HM.out hb18)
    clear HM
    have nx_19 := Lib.hid (MV.up HX.out hb18)
    clear HX
    have B_19 := Lib.hid (bw_tr HBX.out hb18)
    clear HBX
    have HM18 := Lib.hid hm18; clear hm18 hb18
    go_upto_region 9 with (fail)
    have N_m_dn := Lib.hid (mv_lt m_19.out)
    have N_nx_dn := Lib.hid (mv_lt nx_19.out)
    have LB_dn : Hid (w.heap.size ≤ w18.heap.size) := Lib.hid (B_19.out).size
    have dn_20 := Lib.hid (mv_new HM18.out)
    have m_21 := Lib.hid (MV.up m_19.out (bel_new w18 (.cells #[.slice a181 n181 b181, .slice a182 n182 b182, .slice a183 n183 b183] 27)))
    clear m_19
    have nx_21 := Lib.hid (MV.up nx_19.out (bel_new w18 (.cells #[.slice a181 n181 b181, .slice a182 n182 b182, .slice a183 n183 b183] 27)))
    clear nx_19
    have B_21 := Lib.hid (bw_tr B_19.out (bel_new w18 (.cells #[.slice a181 n181 b181, .slice a182 n182 b182, .slice a183 n183 b183] 27)))
    clear B_19
    clear HM18
    obtain ⟨gw22, hu22⟩ : ∃ u, w18.alloc (.cells #[.slice a181 n181 b181, .slice a182 n182 b182, .slice a183 n183 b183] 27) = u := ⟨_, rfl⟩
    rw [hu22] at m_21 nx_21 B_21 dn_20
    rw [hu22]
    clear hu22
    obtain ⟨b_dn, hq⟩ : ∃ q, w18.heap.size = q := ⟨_, rfl⟩
    rw [hq] at dn_20
    have N_m_dn := Lib.hid (Nat.lt_of_lt_of_le N_m_dn.out (Nat.le_of_eq hq))
    have N_nx_dn := Lib.hid (Nat.lt_of_lt_of_le N_nx_dn.out (Nat.le_of_eq hq))
    have LB_dn := Lib.hid (Nat.le_trans LB_dn.out (Nat.le_of_eq hq))
    rw [hq]
    clear hq
    obtain ⟨rfl, rfl, rfl⟩ : W = n181 ∧ H = n182 ∧ H = n183 := lens_of dn_20.out.2 OK.out.gd
    go_upto_block 0 with fail
    have HI : Hid (MV gw22 b_m (.slice a31 W b31) (.slice a32 H b32) (.slice a33 H b33) m ∧ MV gw22 b_nx (.slice a1 n1 c1) (.slice a2 n2 c2) (.slice a3 n3 c3) mx ∧ MV gw22 b_dn (.slice a181 W b181) (.slice a182 H b182) (.slice a183 H b183) md ∧ Below w.heap.size w gw22) := Lib.hid ⟨m_21.out, nx_21.out, dn_20.out, B_21.out⟩
    clear m_21 nx_21 B_21 dn_20
    go_cut [] (fun wx => MV wx b_m (.slice a31 W b31) (.slice a32 H b32) (.slice a33 H b33) m ∧ MV wx b_nx (.slice a1 n1 c1) (.slice a2 n2 c2) (.slice a3 n3 c3) mx ∧ MV wx b_dn (.slice a181 W b181) (.slice a182 H b182) (.slice a183 H b183) md ∧ Below w.heap.size w wx)
    case first =>
      go_wp2_with fail
      go_loopw [21] (fun i wx => ∃ j : Nat, j ≤ H ∧ i = .int .i64 j ∧ MV wx b_m (.slice a31 W b31) (.slice a32 H b32) (.slice a33 H b33) m ∧ MV wx b_nx (.slice a1 n1 c1) (.slice a2 n2 c2) (.slice a3 n3 c3) mx ∧ MV wx b_dn (.slice a181 W b181) (.slice a182 H b182) (.slice a183 H b183) md ∧ Below w.heap.size w wx) (fun i _ => H - (intOf i).toNat)
      case atStart => exact ⟨0, Nat.zero_le _, rfl, HI.out⟩
      case round =>
        obtain ⟨j, hj, rfl, hm, hx, hdn, hb⟩ := hrel
        have HM := Lib.hid hm; have HX := Lib.hid hx; have HD := Lib.hid hdn; have HBX := Lib.hid hb; clear hm hx hdn hb HI
        by_cases hlt : j < H
        rotate_left
        · obtain ⟨⟨c00, c01, c02⟩, d00, d01, d02⟩ := six (HM.out).1
          go_wp2_with fail
          go_meet
          case rel => exact ⟨HM.out, HX.out, HD.out, HBX.out⟩
        obtain ⟨⟨c00, c01, c02⟩, d00, d01, d02⟩ := six (HM.out).1
        have t0 := mv_lt HM.out
        go_wp2_with fail
        clear c00 d00 c01 d01 c02 d02 t0
        go_loopw [22] (fun i wx => ∃ k : Nat, k ≤ W ∧ i = .int .i64 k ∧ MV wx b_m (.slice a31 W b31) (.slice a32 H b32) (.slice a33 H b33) m ∧ MV wx b_nx (.slice a1 n1 c1) (.slice a2 n2 c2) (.slice a3 n3 c3) mx ∧ MV wx b_dn (.slice a181 W b181) (.slice a182 H b182) (.slice a183 H b183) md ∧ Below w.heap.size w wx) (fun i _ => W - (intOf i).toNat)
        case atStart => exact ⟨0, Nat.zero_le _, rfl, HM.out, HX.out, HD.out, HBX.out⟩
        case round =>
          obtain ⟨k, hk, rfl, hm, hx, hdn, hb⟩ := hrel
          clear HM HX HD HBX
          have HM := Lib.hid hm; have HX := Lib.hid hx; have HD := Lib.hid hdn; have HBX := Lib.hid hb; clear hm hx hdn hb
          by_cases hlk : k < W
          rotate_left
          · obtain ⟨⟨c00, c01, c02⟩, d00, d01, d02⟩ := six (HM.out).1
            go_wp2_with fail
            exact ⟨⟨j + 1, by omega, by go_num, HM.out, HX.out, HD.out, HBX.out⟩, by simp [intOf]; omega⟩
          obtain ⟨la, lb, lc, ha, hb, hc, e1, e2, e3⟩ := OK.out.all j k hlt hlk
          have LA := Lib.hid ha; have LB := Lib.hid hb; have LC := Lib.hid hc; have E1 := Lib.hid e1; have E2 := Lib.hid e2; have E3 := Lib.hid e3; clear ha hb hc e1 e2 e3
          obtain ⟨⟨c00, c01, c02⟩, d00, d01, d02⟩ := six (HM.out).1
          have t0 := mv_lt HM.out
          go_wp2_with fail
          refine (load_any _ m j k (la, 0) _ HM.out.2 SM.out LA.out).mono ?_
          rintro e w23 ⟨rfl, hb23⟩
          clear c00 d00 c01 d01 c02 d02 t0
          have m_24 := Lib.hid (MV.up HM.out hb23)
          clear HM
          have nx_24 := Lib.hid (MV.up HX.out hb23)
          clear HX
          have dn_24 := Lib.hid (MV.up HD.out hb23)
          clear HD
          have B_24 := Lib.hid (bw_tr HBX.out hb23)
          clear HBX
          clear hb23
          obtain ⟨⟨c00, c01, c02⟩, d00, d01, d02⟩ := six (nx_24.out).1
          have t0 := mv_lt nx_24.out
          go_wp2_with fail
          refine (load_any _ mx j k (lb, 0) _ nx_24.out.2 SX.out LB.out).mono ?_
          rintro e w25 ⟨rfl, hb25⟩
          clear c00 d00 c01 d01 c02 d02 t0
          have m_26 := Lib.hid (MV.up m_24.out hb25)
          clear m_24
          have nx_26 := Lib.hid (MV.up nx_24.out hb25)
          clear nx_24
          have dn_26 := Lib.hid (MV.up dn_24.out hb25)
          clear dn_24
          have B_26 := Lib.hid (bw_tr B_24.out hb25)
          clear B_24
          clear hb25
          obtain ⟨⟨c00, c01, c02⟩, d00, d01, d02⟩ := six (dn_26.out).1
          have t0 := mv_lt dn_26.out
          go_wp2_with fail
          refine (load_any _ md j k (lc, 0) _ dn_26.out.2 SD.out LC.out).mono ?_
          rintro e w27 ⟨rfl, hb27⟩
          clear c00 d00 c01 d01 c02 d02 t0
          have m_28 := Lib.hid (MV.up m_26.out hb27)
          clear m_26
          have nx_28 := Lib.hid (MV.up nx_26.out hb27)
          clear nx_26
          have dn_28 := Lib.hid (MV.up dn_26.out hb27)
          clear dn_26
          have B_28 := Lib.hid (bw_tr B_26.out hb27)
          clear B_26
          clear hb27
          by_cases hi : (j : Int) = hh
          · have i1 : ((j : Int) != hh) = false := by simp [hi]
            have i2 : ((j : Int) == hh) = true := by simp [hi]
            obtain rfl := E2.out hi
            clear hi
            by_cases hw : (k : Int) = kk
            · have i3 : ((k : Int) != kk) = false := by simp [hw]
              clear hw
              go_wp2_with fail
              exact ⟨⟨k + 1, by omega, by go_num, m_28.out, nx_28.out, dn_28.out, B_28.out⟩, by simp [intOf]; omega⟩
            · have i3 : ((k : Int) != kk) = true := by simp [hw]
              have e3 := E3.out hw; subst e3
              clear hw
              go_wp2_with fail
              exact ⟨⟨k + 1, by omega, by go_num, m_28.out, nx_28.out, dn_28.out, B_28.out⟩, by simp [intOf]; omega⟩
          · have i1 : ((j : Int) != hh) = true := by simp [hi]
            have i2 : ((j : Int) == hh) = false := by simp [hi]
            obtain rfl := E1.out hi
            clear hi
            by_cases hw : (k : Int) = kk
            · have i3 : ((k : Int) != kk) = false := by simp [hw]
              clear hw
              go_wp2_with fail
              exact ⟨⟨k + 1, by omega, by go_num, m_28.out, nx_28.out, dn_28.out, B_28.out⟩, by simp [intOf]; omega⟩
            · have i3 : ((k : Int) != kk) = true := by simp [hw]
              skip
              clear hw
              go_wp2_with fail
              exact ⟨⟨k + 1, by omega, by go_num, m_28.out, nx_28.out, dn_28.out, B_28.out⟩, by simp [intOf]; omega⟩
    case rest =>
      obtain ⟨hm, hx, hdn, hb⟩ := hcut
      have HM := Lib.hid hm; have HX := Lib.hid hx; have HD := Lib.hid hdn; have HBX := Lib.hid hb; clear hm hx hdn hb HI
      obtain ⟨rb, ro, ra, rc, rfl, _, hc9, hc8, hrb, hcl, _⟩ := IsMem.row HD.out.2 (h := hh) (by rw [OK.out.gd.pend]; omega) pH.1
      rw [OK.out.em] at hcl
      have hcl' := hcl; simp only [List.length_nil] at hcl'; clear hcl
      obtain ⟨⟨c00, c01, c02⟩, d00, d01, d02⟩ := six (HM.out).1
      have t0 := mv_lt HM.out
      obtain ⟨⟨c10, c11, c12⟩, d10, d11, d12⟩ := six (HD.out).1
      have t1 := mv_lt HD.out
      go_wp2_with fail
      go_ret
      exact ⟨ret1 (rbool rfl), HBX.out⟩
end Go.Proofs.Ytkhobelceghgfaa
