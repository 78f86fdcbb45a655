/-
  The walk of the law StoreOwn (printed by gen_own.py).
-/
import Derived.Test.YtkhobelceghgfaaMemReg
import Derived.Deep.CutBlock
import Derived.Deep.DeepCutAuto
namespace Go.Proofs.Ytkhobelceghgfaa
open Go.RowKit
structure OwnOK (m : Mem) (l0 l1 l2 l3 : Int) : Prop where
  good : Good m 2 4
  none : pendOf m 0 = []
  k0 : loadR m 1 0 = (l0, 0)
  k1 : loadR m 1 1 = (l1, 0)
  k2 : loadR m 1 2 = (l2, 0)
  k3 : loadR m 1 3 = (l3, 0)
theorem load_in {m : Mem} {H W : Nat} (g : Good m H W) {h a : Int} (h0 : 0 ≤ h) (h1 : h < H) (a0 : 0 ≤ a) (a1 : a < W) : loadR m h a = (loadN m h a, 0) := by
  unfold loadR; rw [if_pos (g.has h0 h1 a0 a1)]
theorem own_of {m : Mem} (g : Good m 2 4) (hn : pendOf m 0 = []) : OwnOK m (loadN m 1 0) (loadN m 1 1) (loadN m 1 2) (loadN m 1 3) :=
  ⟨g, hn, load_in g (by decide) (by decide) (by decide) (by decide), load_in g (by decide) (by decide) (by decide) (by decide), load_in g (by decide) (by decide) (by decide) (by decide), load_in g (by decide) (by decide) (by decide) (by decide)⟩
theorem own_loads {m : Mem} {l0 l1 l2 l3 : Int} (h : OwnOK m l0 l1 l2 l3) : l0 = loadN m 1 0 ∧ l1 = loadN m 1 1 ∧ l2 = loadN m 1 2 ∧ l3 = loadN m 1 3 := by
  have e (k : Int) (k0 : 0 ≤ k) (k1 : k < 4) := load_in h.good (h := 1) (a := k) (by decide) (by decide) k0 k1
  have a0 := (e 0 (by decide) (by decide)).symm.trans h.k0
  have a1 := (e 1 (by decide) (by decide)).symm.trans h.k1
  have a2 := (e 2 (by decide) (by decide)).symm.trans h.k2
  have a3 := (e 3 (by decide) (by decide)).symm.trans h.k3
  injection a0 with a0 _; injection a1 with a1 _; injection a2 with a2 _; injection a3 with a3 _
  exact ⟨a0.symm, a1.symm, a2.symm, a3.symm⟩
theorem own_drain {m m' : Mem} {l0 l1 l2 l3 d : Int} (h : OwnOK m l0 l1 l2 l3) (e : drainR m 1 d = (m', 0)) : OwnOK m' l0 l1 l2 l3 := by
  obtain ⟨rfl, rfl, rfl, rfl⟩ := own_loads h
  have := own_of (good_drain h.good e) ((drain_other e (by decide) (by decide)).trans h.none)
  rwa [load_drain h.good e (by decide), load_drain h.good e (by decide), load_drain h.good e (by decide), load_drain h.good e (by decide)] at this
theorem own_store {m m' : Mem} {l0 l1 l2 l3 a n : Int} (h : OwnOK m l0 l1 l2 l3) (e : storeR m 1 a n = (m', 0)) : OwnOK m' (if a = 0 then wrap32 n else l0) (if a = 1 then wrap32 n else l1) (if a = 2 then wrap32 n else l2) (if a = 3 then wrap32 n else l3) := by
  obtain ⟨rfl, rfl, rfl, rfl⟩ := own_loads h
  have := own_of (good_store h.good e) ((store_other (b := 0) e (by decide) (by decide)).1.trans h.none)
  rwa [load_store e, load_store e, load_store e, load_store e] at this
theorem own_flush {m : Mem} {l0 l1 l2 l3 : Int} (h : OwnOK m l0 l1 l2 l3) : ∃ m', flushR m 1 = (m', 0) ∧ Good m' 2 4 ∧ loadR m' 0 0 = (l0, 0) ∧ loadR m' 0 1 = (l1, 0) ∧ loadR m' 0 2 = (l2, 0) ∧ loadR m' 0 3 = (l3, 0) := by
  obtain ⟨rfl, rfl, rfl, rfl⟩ := own_loads h
  obtain ⟨m', e, g, _, hp, hw⟩ := flush_ok h.good (h := 1) (by decide) (by decide)
  have hp0 : pendOf m' 0 = [] := (hp 0 (by decide) (by decide)).trans h.none
  have hl (k : Int) (k0 : 0 ≤ k) (k1 : k < 4) : loadR m' 0 k = (loadN m 1 k, 0) := by
    rw [load_in g (by decide) (by decide) k0 k1, ← hw k k0]
    unfold loadN; rw [hp0]; rfl
  exact ⟨m', e, g, hl 0 (by decide) (by decide), hl 1 (by decide) (by decide), hl 2 (by decide) (by decide), hl 3 (by decide) (by decide)⟩
theorem own_new : OwnOK (newMem 2 4) 0 0 0 0 := ⟨good_new 2 4, rfl, by decide, by decide, by decide, by decide⟩
theorem four_cells {w : World} {b : Nat} {v0 v1 v2 v3 : Value} {t : TypeId} (h : w.heap[b]? = some (.cells #[v0, v1, v2, v3] t (0, 0))) : w.cell? ⟨b, 0, none⟩ = some v0 ∧ w.cell? ⟨b, 1, none⟩ = some v1 ∧ w.cell? ⟨b, 2, none⟩ = some v2 ∧ w.cell? ⟨b, 3, none⟩ = some v3 :=
  ⟨cell_in h rfl, cell_in h rfl, cell_in h rfl, cell_in h rfl⟩
theorem mv_cell {w : World} {b b' : Nat} {x y z : Value} {m : Mem} {cs : Array Value} {k : Nat} {u : Value} (h : MV w b x y z m) (h' : w.heap[b']? = some (.cells cs 31 (0, 0))) (hne : b ≠ b') : MV (w.setCell ⟨b', k, none⟩ u) b x y z m :=
  ⟨(heap_set hne).trans h.1, h.2.setVar h' (by decide) (by decide) (by decide)⟩
/-- The law's two variables at a loop's head. -/
def OwnAt (w : World) (bm bl : Nat) : Prop := ∃ x y z m l0 l1 l2 l3, MV w bm x y z m ∧ w.heap[bl]? = some (.cells #[.int .i64 l0, .int .i64 l1, .int .i64 l2, .int .i64 l3] 31 (0, 0)) ∧ OwnOK m l0 l1 l2 l3
set_option maxHeartbeats 8000000 in
set_option maxRecDepth 100000 in
theorem walkStoreOwn (v : Value) (raw : List R4) (w : World) (hv : ArgS 4 c4 w v raw) (hok : ∀ r ∈ raw, ok4 r) :
    Calls Try.prog 3 #[v] w fun e w' => e = .returned (.bool true) ∧ Below w.heap.size w w' := by
  obtain ⟨a, len, cap, rfl, h⟩ := rows4_of hv hok
  have H := Lib.hid h
  obtain ⟨_, _, hlc, hcm, _⟩ := h
  unfold maxLen at hcm
  clear hv hok
  have HB : Hid (Below w.heap.size w w) := Lib.hid (Below.refl _ _)
  go_enter Try.func3, Try.ntmps3
  go_wp2_with fail
  refine (awake11 _).mono ?_
  rintro e w1 ⟨rfl, hb1⟩
  have B_2 := Lib.hid (bw_tr HB.out hb1)
  clear HB
  clear hb1
  go_wp2_with fail
  refine (new_lit 2 4 (newMem 2 4, 0) _ (by decide +kernel)).mono ?_
  rintro e w3 hr3
  obtain ⟨a31, n31, b31, a32, n32, b32, a33, n33, b33, rfl, hm3, LN3, hb3⟩ := hr3.parts
  have B_4 := Lib.hid (bw_tr B_2.out hb3)
  clear B_2
  have HM3 := Lib.hid hm3; clear hm3 hb3
  go_upto_region 3 with (fail)
  have LB_m : Hid (w.heap.size ≤ w3.heap.size) := Lib.hid (B_4.out).size
  have m_5 := Lib.hid (mv_new HM3.out)
  have B_6 := Lib.hid (bw_tr B_4.out (bel_new w3 (.cells #[.slice a31 n31 b31, .slice a32 n32 b32, .slice a33 n33 b33] 27)))
  clear B_4
  clear HM3
  obtain ⟨gw7, hu7⟩ : ∃ u, w3.alloc (.cells #[.slice a31 n31 b31, .slice a32 n32 b32, .slice a33 n33 b33] 27) = u := ⟨_, rfl⟩
  rw [hu7] at B_6 m_5
  rw [hu7]
  clear hu7
  obtain ⟨b_m, hq⟩ : ∃ q, w3.heap.size = q := ⟨_, rfl⟩
  rw [hq] at m_5 LB_m
  rw [hq]
  clear hq
  go_upto_block 0 with fail
  have LB_l := Lib.hid (B_6.out).size
  have N_m_l := Lib.hid (mv_lt m_5.out)
  have l_8 := Lib.hid (new_in gw7 (.cells #[.int .i64 0, .int .i64 0, .int .i64 0, .int .i64 0] 31))
  have B_9 := Lib.hid (bw_tr B_6.out (bel_new gw7 (.cells #[.int .i64 0, .int .i64 0, .int .i64 0, .int .i64 0] 31)))
  clear B_6
  have m_9 := Lib.hid (MV.up m_5.out (bel_new gw7 (.cells #[.int .i64 0, .int .i64 0, .int .i64 0, .int .i64 0] 31)))
  clear m_5
  obtain ⟨gw10, hu10⟩ : ∃ u, gw7.alloc (.cells #[.int .i64 0, .int .i64 0, .int .i64 0, .int .i64 0] 31) = u := ⟨_, rfl⟩
  rw [hu10] at B_9 m_9 l_8
  rw [hu10]
  clear hu10
  obtain ⟨b_l, hq⟩ : ∃ q, gw7.heap.size = q := ⟨_, rfl⟩
  rw [hq] at l_8 LB_l N_m_l
  rw [hq]
  clear hq
  have OA : Hid (OwnAt gw10 b_m b_l) := Lib.hid ⟨_, _, _, _, _, _, _, _, m_9.out, l_8.out, own_new⟩
  clear m_9 l_8
  go_cut [] (fun wx => OwnAt wx b_m b_l ∧ Below w.heap.size w wx)
  case first =>
    go_wp2_with fail
    go_loopw [7] (fun i wr => ∃ j : Nat, j ≤ len ∧ j ≤ 40 ∧ i = .int .i64 j ∧ OwnAt wr b_m b_l ∧ Below w.heap.size w wr) (fun i _ => len - (intOf i).toNat)
    case atStart => exact ⟨0, Nat.zero_le _, Nat.zero_le _, rfl, OA.out, B_9.out⟩
    case round =>
      obtain ⟨j, hj, hj40, rfl, hown, hbb⟩ := hrel
      have HOW := Lib.hid hown
      obtain ⟨x, y, z, m, l0, l1, l2, l3, hm, hl, hok⟩ := hown
      have HBR := Lib.hid hbb; have HM := Lib.hid hm; have HL := Lib.hid hl; have OK := Lib.hid hok
      clear hbb hm hl hok
      by_cases hlt : j < len
      rotate_left
      · go_wp2_with fail
        go_meet
        case rel => exact ⟨HOW.out, HBR.out⟩
      by_cases h40 : j < 40
      rotate_left
      · go_wp2_with fail
        go_meet
        case rel => exact ⟨HOW.out, HBR.out⟩
      obtain ⟨b, o, r0, r1, r2, r3, rfl, hbl, hrow, ⟨i0, i1, i2, i3⟩, g0, g1, g2, g3⟩ := H.out.row hlt
      have G0 := Lib.hid g0; have I0 := Lib.hid i0
      have G1 := Lib.hid g1; have I1 := Lib.hid i1
      have G2 := Lib.hid g2; have I2 := Lib.hid i2
      have G3 := Lib.hid g3; have I3 := Lib.hid i3
      clear g0 g1 g2 g3 i0 i1 i2 i3 hrow HOW
      have p4 := pickN_bd r2 4 (by decide); have p8 := pickN_bd r2 8 (by decide); have p2 := pickN_bd r0 2 (by decide)
      have x2 := rd_cell HBR.out hbl G2.out; have hsz := HBR.out.size
      go_upto_region 8 with (go_at_call 12; (with_reducible refine (pick11 _ _ _ _ I2.out (by decide) rfl).mono ?_); rintro e w' ⟨rfl, rfl⟩)
      generalize hd8 : pickN r2 8 = d8 at *; generalize hd4 : pickN r2 4 = d4 at *; generalize hd2 : pickN r0 2 = d2 at *
      have D8 := Lib.hid hd8; have D4 := Lib.hid hd4; have D2 := Lib.hid hd2
      obtain ⟨dr, hdr⟩ : ∃ dr, drainR m 1 d8 = dr := ⟨_, rfl⟩; have DR := Lib.hid hdr
      have SM := Lib.hid (OK.out.good.small (by decide) (by decide))
      clear hd8 hd4 hd2 hdr
      go_cut [9, 10] (fun s9 s10 wx => ∃ bn xn yn zn, s9 = .pointer (some ⟨bn, 0, none⟩) ∧ s10 = .int .i64 dr.2 ∧ MV wx bn xn yn zn dr.1 ∧ wr.heap.size ≤ bn ∧ Below wr.heap.size wr wx)
      case first =>
        have HE : Hid (Below wr.heap.size wr wr) := Lib.hid (Below.refl _ _)
        clear x2
        have y2 := Nat.lt_of_lt_of_le hbl hsz
        refine wp_region_up (UpB wr.heap.size wr) [true, true, true, true, true, true, true] (by kernel_rfl) (by kernel_rfl) (by kernel_rfl) (fun _ _ h hu => h.up hu) (upb_refl _ _) ?ra11 ?rh11 ?rt11
        case rh11 =>
          intro w0 h0
          obtain ⟨⟨c0, c1, c2⟩, d0, d1, d2⟩ := six (HM.out).1
          have t0 := mv_lt HM.out
          have ne0 := Nat.ne_of_lt t0
          have rx0 := fun x => h0.wd t0 ne0 c0 x
          have rx1 := fun x => h0.wd t0 ne0 c1 x
          have rx2 := fun x => h0.wd t0 ne0 c2 x
          clear c0 c1 c2 d0 d1 d2
          have rx3 := fun x => h0.wd y2 (Nat.ne_of_lt y2) (rd_cell HBR.out hbl G2.out) x
          simp only [pickM]
          repeat (go_big_quiet_step ((go_at_call 12; with_reducible exact quiet_s (pick11 _ _ _ _ I2.out (by decide) D8.out))))
          refine wpQuiet_nil ?_
          rfl
        case rt11 =>
          change wpAnyU _ _ _ _ _ 7 _ _ _
          refine anyU_two (i := 7) (k := 11) (by kernel_rfl) rfl rfl ?_ ?_
          · intro w12 hu12 hc12
            have hu12 := bw_undrew hu12
            have B_13 := Lib.hid (bw_tr HBR.out hu12)
            clear HBR
            have m_13 := Lib.hid (MV.up HM.out hu12)
            clear HM
            have l_13 := Lib.hid (up_in hu12 HL.out)
            clear HL
            have E_13 := Lib.hid (bw_tr HE.out hu12)
            clear HE
            have C_12 := Lib.hid hc12; clear hc12 hu12
            go_wp2_with fail
            refine (drain_lit _ m 1 d8 dr _ m_13.out.2 SM.out DR.out).mono ?_
            rintro e w14 hr14
            obtain ⟨a141, n141, b141, a142, n142, b142, a143, n143, b143, rfl, hm14, LN14, hb14⟩ := hr14.parts
            have B_15 := Lib.hid (bw_tr B_13.out hb14)
            clear B_13
            have m_15 := Lib.hid (MV.up m_13.out hb14)
            clear m_13
            have l_15 := Lib.hid (up_in hb14 l_13.out)
            clear l_13
            have E_15 := Lib.hid (bw_tr E_13.out hb14)
            clear E_13
            have C_15 := Lib.hid ((C_12.out).up hb14)
            clear C_12
            have HM14 := Lib.hid hm14; clear hm14 hb14
            go_wp2_with fail
            refine ⟨C_15.out, ?_⟩
            refine anyU_two (i := 8) (k := 11) (by kernel_rfl) rfl rfl ?_ ?_
            · intro w16 hu16 hc16
              have B_17 := Lib.hid (bw_tr B_15.out hu16)
              clear B_15
              have m_17 := Lib.hid (MV.up m_15.out hu16)
              clear m_15
              have l_17 := Lib.hid (up_in hu16 l_15.out)
              clear l_15
              have E_17 := Lib.hid (bw_tr E_15.out hu16)
              clear E_15
              have R14_17 := Lib.hid ((HM14.out).below hu16)
              clear HM14
              have C_16 := Lib.hid hc16; clear hc16 hu16
              go_wp2_with fail
              refine ⟨C_16.out, ?_⟩
              refine three_ready (i := 9) (k := 10) (j := 11) (by kernel_rfl) rfl rfl rfl ?_ ?_ ?_
              · intro w18 hu18 hc18
                have B_19 := Lib.hid (bw_tr B_17.out hu18)
                clear B_17
                have m_19 := Lib.hid (MV.up m_17.out hu18)
                clear m_17
                have l_19 := Lib.hid (up_in hu18 l_17.out)
                clear l_17
                have E_19 := Lib.hid (bw_tr E_17.out hu18)
                clear E_17
                have R14_19 := Lib.hid ((R14_17.out).below hu18)
                clear R14_17
                have C_18 := Lib.hid hc18; clear hc18 hu18
                go_wp2_with fail
                refine ⟨C_18.out, ?_⟩
                refine anyU_two (i := 10) (k := 11) (by kernel_rfl) rfl rfl ?_ ?_
                · intro w20 hu20 hc20
                  have B_21 := Lib.hid (bw_tr B_19.out hu20)
                  clear B_19
                  have m_21 := Lib.hid (MV.up m_19.out hu20)
                  clear m_19
                  have l_21 := Lib.hid (up_in hu20 l_19.out)
                  clear l_19
                  have E_21 := Lib.hid (bw_tr E_19.out hu20)
                  clear E_19
                  have R14_21 := Lib.hid ((R14_19.out).below hu20)
                  clear R14_19
                  have C_20 := Lib.hid hc20; clear hc20 hu20
                  go_wp2_with fail
                  refine ⟨C_20.out, ?_⟩
                  refine anyU_one (i := 11) (by kernel_rfl) rfl ?_
                  intro w22 hu22 hc22
                  have B_23 := Lib.hid (bw_tr B_21.out hu22)
                  clear B_21
                  have m_23 := Lib.hid (MV.up m_21.out hu22)
                  clear m_21
                  have l_23 := Lib.hid (up_in hu22 l_21.out)
                  clear l_21
                  have E_23 := Lib.hid (bw_tr E_21.out hu22)
                  clear E_21
                  have R14_23 := Lib.hid ((R14_21.out).below hu22)
                  clear R14_21
                  have C_22 := Lib.hid hc22; clear hc22 hu22
                  go_wp2_with fail
                  have N_m_n := Lib.hid (mv_lt m_23.out)
                  have N_l_n := Lib.hid (lt_in l_23.out)
                  have LB_n := Lib.hid (B_23.out).size
                  have LE_n := Lib.hid (E_23.out).size
                  have LC_n := Lib.hid (C_22.out).1
                  have n_24 := Lib.hid (mv_new (isMem_no w22))
                  have B_25 := Lib.hid (bw_tr B_23.out (bel_new w22 (.cells #[.slice none 0 0, .slice none 0 0, .slice none 0 0] 27)))
                  clear B_23
                  have m_25 := Lib.hid (MV.up m_23.out (bel_new w22 (.cells #[.slice none 0 0, .slice none 0 0, .slice none 0 0] 27)))
                  clear m_23
                  have l_25 := Lib.hid (up_in (bel_new w22 (.cells #[.slice none 0 0, .slice none 0 0, .slice none 0 0] 27)) l_23.out)
                  clear l_23
                  have E_25 := Lib.hid (bw_tr E_23.out (bel_new w22 (.cells #[.slice none 0 0, .slice none 0 0, .slice none 0 0] 27)))
                  clear E_23
                  have R14_25 := Lib.hid ((R14_23.out).below (bel_new w22 (.cells #[.slice none 0 0, .slice none 0 0, .slice none 0 0] 27)))
                  clear R14_23
                  have C_25 := Lib.hid ((C_22.out).up (bel_new w22 (.cells #[.slice none 0 0, .slice none 0 0, .slice none 0 0] 27)))
                  clear C_22
                  obtain ⟨gw26, hu26⟩ : ∃ u, w22.alloc (.cells #[.slice none 0 0, .slice none 0 0, .slice none 0 0] 27) = u := ⟨_, rfl⟩
                  rw [hu26] at B_25 m_25 l_25 E_25 R14_25 C_25 n_24
                  rw [hu26]
                  clear hu26
                  obtain ⟨b_n, hq⟩ : ∃ q, w22.heap.size = q := ⟨_, rfl⟩
                  rw [hq] at n_24 N_m_n N_l_n LB_n LE_n LC_n
                  rw [hq]
                  clear hq
                  refine ⟨C_25.out, ?_⟩
                  refine anyU_one (i := 12) (by kernel_rfl) rfl ?_
                  intro w27 hu27 hc27
                  have B_28 := Lib.hid (bw_tr B_25.out hu27)
                  clear B_25
                  have m_28 := Lib.hid (MV.up m_25.out hu27)
                  clear m_25
                  have l_28 := Lib.hid (up_in hu27 l_25.out)
                  clear l_25
                  have E_28 := Lib.hid (bw_tr E_25.out hu27)
                  clear E_25
                  have R14_28 := Lib.hid ((R14_25.out).below hu27)
                  clear R14_25
                  have n_28 := Lib.hid (MV.up n_24.out hu27)
                  clear n_24
                  have C_27 := Lib.hid hc27; clear hc27 hu27
                  obtain ⟨⟨c00, c01, c02⟩, d00, d01, d02⟩ := six (n_28.out).1
                  have t0 := mv_lt n_28.out
                  go_wp2_with fail
                  clear c00 d00 c01 d01 c02 d02 t0
                  have B_29 := Lib.hid (bel_set3 (x := .slice a141 n141 b141) (y := .slice a142 n142 b142) (z := .slice a143 n143 b143) B_28.out (LB_n.out))
                  have m_30 := Lib.hid (mv_other (.slice a141 n141 b141) (.slice a142 n142 b142) (.slice a143 n143 b143) m_28.out n_28.out (Nat.ne_of_lt N_m_n.out))
                  have l_31 := Lib.hid (((set3_spec (x := .slice a141 n141 b141) (y := .slice a142 n142 b142) (z := .slice a143 n143 b143) n_28.out.1).2 _ (Nat.ne_of_lt N_l_n.out)).trans l_28.out)
                  have E_32 := Lib.hid (bel_set3 (x := .slice a141 n141 b141) (y := .slice a142 n142 b142) (z := .slice a143 n143 b143) E_28.out (LE_n.out))
                  have n_33 := Lib.hid (mv_set n_28.out R14_28.out)
                  have C_34 := Lib.hid (upb_new3 (.slice a141 n141 b141) (.slice a142 n142 b142) (.slice a143 n143 b143) C_27.out LC_n.out)
                  clear B_28
                  clear m_28
                  clear l_28
                  clear E_28
                  clear R14_28
                  clear n_28
                  clear C_27
                  obtain ⟨gw35, hu35⟩ : ∃ u, ((w27.setCell ⟨b_n, 0, none⟩ (.slice a141 n141 b141)).setCell ⟨b_n, 1, none⟩ (.slice a142 n142 b142)).setCell ⟨b_n, 2, none⟩ (.slice a143 n143 b143) = u := ⟨_, rfl⟩
                  rw [hu35] at B_29 m_30 l_31 E_32 n_33 C_34
                  rw [hu35]
                  clear hu35
                  refine ⟨C_34.out, ?_⟩
                  refine anyU_one (i := 13) (by kernel_rfl) rfl ?_
                  intro w36 hu36 hc36
                  have B_37 := Lib.hid (bw_tr B_29.out hu36)
                  clear B_29
                  have m_37 := Lib.hid (MV.up m_30.out hu36)
                  clear m_30
                  have l_37 := Lib.hid (up_in hu36 l_31.out)
                  clear l_31
                  have E_37 := Lib.hid (bw_tr E_32.out hu36)
                  clear E_32
                  have n_37 := Lib.hid (MV.up n_33.out hu36)
                  clear n_33
                  have C_36 := Lib.hid hc36; clear hc36 hu36
                  go_wp2_with fail
                  refine ⟨C_36.out, ?_⟩
                  refine anyU_nil (by kernel_rfl) ?_
                  intro w38 hu38 hc38
                  have B_39 := Lib.hid (bw_tr B_37.out hu38)
                  clear B_37
                  have m_39 := Lib.hid (MV.up m_37.out hu38)
                  clear m_37
                  have l_39 := Lib.hid (up_in hu38 l_37.out)
                  clear l_37
                  have E_39 := Lib.hid (bw_tr E_37.out hu38)
                  clear E_37
                  have n_39 := Lib.hid (MV.up n_37.out hu38)
                  clear n_37
                  have C_38 := Lib.hid hc38; clear hc38 hu38
                  go_wp2_with fail
                  go_meet
                  case rel => exact ⟨_, _, _, _, rfl, rfl, n_39.out, LE_n.out, E_39.out⟩
                · intro w40 hu40 hc40
                  have B_41 := Lib.hid (bw_tr B_19.out hu40)
                  clear B_19
                  have m_41 := Lib.hid (MV.up m_19.out hu40)
                  clear m_19
                  have l_41 := Lib.hid (up_in hu40 l_19.out)
                  clear l_19
                  have E_41 := Lib.hid (bw_tr E_19.out hu40)
                  clear E_19
                  have R14_41 := Lib.hid ((R14_19.out).below hu40)
                  clear R14_19
                  have C_40 := Lib.hid hc40; clear hc40 hu40
                  go_wp2_with fail
                  have N_m_n := Lib.hid (mv_lt m_41.out)
                  have N_l_n := Lib.hid (lt_in l_41.out)
                  have LB_n := Lib.hid (B_41.out).size
                  have LE_n := Lib.hid (E_41.out).size
                  have LC_n := Lib.hid (C_40.out).1
                  have n_42 := Lib.hid (mv_new (isMem_no w40))
                  have B_43 := Lib.hid (bw_tr B_41.out (bel_new w40 (.cells #[.slice none 0 0, .slice none 0 0, .slice none 0 0] 27)))
                  clear B_41
                  have m_43 := Lib.hid (MV.up m_41.out (bel_new w40 (.cells #[.slice none 0 0, .slice none 0 0, .slice none 0 0] 27)))
                  clear m_41
                  have l_43 := Lib.hid (up_in (bel_new w40 (.cells #[.slice none 0 0, .slice none 0 0, .slice none 0 0] 27)) l_41.out)
                  clear l_41
                  have E_43 := Lib.hid (bw_tr E_41.out (bel_new w40 (.cells #[.slice none 0 0, .slice none 0 0, .slice none 0 0] 27)))
                  clear E_41
                  have R14_43 := Lib.hid ((R14_41.out).below (bel_new w40 (.cells #[.slice none 0 0, .slice none 0 0, .slice none 0 0] 27)))
                  clear R14_41
                  have C_43 := Lib.hid ((C_40.out).up (bel_new w40 (.cells #[.slice none 0 0, .slice none 0 0, .slice none 0 0] 27)))
                  clear C_40
                  obtain ⟨gw44, hu44⟩ : ∃ u, w40.alloc (.cells #[.slice none 0 0, .slice none 0 0, .slice none 0 0] 27) = u := ⟨_, rfl⟩
                  rw [hu44] at B_43 m_43 l_43 E_43 R14_43 C_43 n_42
                  rw [hu44]
                  clear hu44
                  obtain ⟨b_n, hq⟩ : ∃ q, w40.heap.size = q := ⟨_, rfl⟩
                  rw [hq] at n_42 N_m_n N_l_n LB_n LE_n LC_n
                  rw [hq]
                  clear hq
                  refine ⟨C_43.out, ?_⟩
                  refine anyU_two (i := 10) (k := 12) (by kernel_rfl) rfl rfl ?_ ?_
                  · intro w45 hu45 hc45
                    have B_46 := Lib.hid (bw_tr B_43.out hu45)
                    clear B_43
                    have m_46 := Lib.hid (MV.up m_43.out hu45)
                    clear m_43
                    have l_46 := Lib.hid (up_in hu45 l_43.out)
                    clear l_43
                    have E_46 := Lib.hid (bw_tr E_43.out hu45)
                    clear E_43
                    have R14_46 := Lib.hid ((R14_43.out).below hu45)
                    clear R14_43
                    have n_46 := Lib.hid (MV.up n_42.out hu45)
                    clear n_42
                    have C_45 := Lib.hid hc45; clear hc45 hu45
                    go_wp2_with fail
                    refine ⟨C_45.out, ?_⟩
                    refine anyU_one (i := 12) (by kernel_rfl) rfl ?_
                    intro w47 hu47 hc47
                    have B_48 := Lib.hid (bw_tr B_46.out hu47)
                    clear B_46
                    have m_48 := Lib.hid (MV.up m_46.out hu47)
                    clear m_46
                    have l_48 := Lib.hid (up_in hu47 l_46.out)
                    clear l_46
                    have E_48 := Lib.hid (bw_tr E_46.out hu47)
                    clear E_46
                    have R14_48 := Lib.hid ((R14_46.out).below hu47)
                    clear R14_46
                    have n_48 := Lib.hid (MV.up n_46.out hu47)
                    clear n_46
                    have C_47 := Lib.hid hc47; clear hc47 hu47
                    obtain ⟨⟨c00, c01, c02⟩, d00, d01, d02⟩ := six (n_48.out).1
                    have t0 := mv_lt n_48.out
                    go_wp2_with fail
                    clear c00 d00 c01 d01 c02 d02 t0
                    have B_49 := Lib.hid (bel_set3 (x := .slice a141 n141 b141) (y := .slice a142 n142 b142) (z := .slice a143 n143 b143) B_48.out (LB_n.out))
                    have m_50 := Lib.hid (mv_other (.slice a141 n141 b141) (.slice a142 n142 b142) (.slice a143 n143 b143) m_48.out n_48.out (Nat.ne_of_lt N_m_n.out))
                    have l_51 := Lib.hid (((set3_spec (x := .slice a141 n141 b141) (y := .slice a142 n142 b142) (z := .slice a143 n143 b143) n_48.out.1).2 _ (Nat.ne_of_lt N_l_n.out)).trans l_48.out)
                    have E_52 := Lib.hid (bel_set3 (x := .slice a141 n141 b141) (y := .slice a142 n142 b142) (z := .slice a143 n143 b143) E_48.out (LE_n.out))
                    have n_53 := Lib.hid (mv_set n_48.out R14_48.out)
                    have C_54 := Lib.hid (upb_new3 (.slice a141 n141 b141) (.slice a142 n142 b142) (.slice a143 n143 b143) C_47.out LC_n.out)
                    clear B_48
                    clear m_48
                    clear l_48
                    clear E_48
                    clear R14_48
                    clear n_48
                    clear C_47
                    obtain ⟨gw55, hu55⟩ : ∃ u, ((w47.setCell ⟨b_n, 0, none⟩ (.slice a141 n141 b141)).setCell ⟨b_n, 1, none⟩ (.slice a142 n142 b142)).setCell ⟨b_n, 2, none⟩ (.slice a143 n143 b143) = u := ⟨_, rfl⟩
                    rw [hu55] at B_49 m_50 l_51 E_52 n_53 C_54
                    rw [hu55]
                    clear hu55
                    refine ⟨C_54.out, ?_⟩
                    refine anyU_one (i := 13) (by kernel_rfl) rfl ?_
                    intro w56 hu56 hc56
                    have B_57 := Lib.hid (bw_tr B_49.out hu56)
                    clear B_49
                    have m_57 := Lib.hid (MV.up m_50.out hu56)
                    clear m_50
                    have l_57 := Lib.hid (up_in hu56 l_51.out)
                    clear l_51
                    have E_57 := Lib.hid (bw_tr E_52.out hu56)
                    clear E_52
                    have n_57 := Lib.hid (MV.up n_53.out hu56)
                    clear n_53
                    have C_56 := Lib.hid hc56; clear hc56 hu56
                    go_wp2_with fail
                    refine ⟨C_56.out, ?_⟩
                    refine anyU_nil (by kernel_rfl) ?_
                    intro w58 hu58 hc58
                    have B_59 := Lib.hid (bw_tr B_57.out hu58)
                    clear B_57
                    have m_59 := Lib.hid (MV.up m_57.out hu58)
                    clear m_57
                    have l_59 := Lib.hid (up_in hu58 l_57.out)
                    clear l_57
                    have E_59 := Lib.hid (bw_tr E_57.out hu58)
                    clear E_57
                    have n_59 := Lib.hid (MV.up n_57.out hu58)
                    clear n_57
                    have C_58 := Lib.hid hc58; clear hc58 hu58
                    go_wp2_with fail
                    go_meet
                    case rel => exact ⟨_, _, _, _, rfl, rfl, n_59.out, LE_n.out, E_59.out⟩
                  · intro w60 hu60 hc60
                    have B_61 := Lib.hid (bw_tr B_43.out hu60)
                    clear B_43
                    have m_61 := Lib.hid (MV.up m_43.out hu60)
                    clear m_43
                    have l_61 := Lib.hid (up_in hu60 l_43.out)
                    clear l_43
                    have E_61 := Lib.hid (bw_tr E_43.out hu60)
                    clear E_43
                    have R14_61 := Lib.hid ((R14_43.out).below hu60)
                    clear R14_43
                    have n_61 := Lib.hid (MV.up n_42.out hu60)
                    clear n_42
                    have C_60 := Lib.hid hc60; clear hc60 hu60
                    obtain ⟨⟨c00, c01, c02⟩, d00, d01, d02⟩ := six (n_61.out).1
                    have t0 := mv_lt n_61.out
                    go_wp2_with fail
                    clear c00 d00 c01 d01 c02 d02 t0
                    have B_62 := Lib.hid (bel_set3 (x := .slice a141 n141 b141) (y := .slice a142 n142 b142) (z := .slice a143 n143 b143) B_61.out (LB_n.out))
                    have m_63 := Lib.hid (mv_other (.slice a141 n141 b141) (.slice a142 n142 b142) (.slice a143 n143 b143) m_61.out n_61.out (Nat.ne_of_lt N_m_n.out))
                    have l_64 := Lib.hid (((set3_spec (x := .slice a141 n141 b141) (y := .slice a142 n142 b142) (z := .slice a143 n143 b143) n_61.out.1).2 _ (Nat.ne_of_lt N_l_n.out)).trans l_61.out)
                    have E_65 := Lib.hid (bel_set3 (x := .slice a141 n141 b141) (y := .slice a142 n142 b142) (z := .slice a143 n143 b143) E_61.out (LE_n.out))
                    have n_66 := Lib.hid (mv_set n_61.out R14_61.out)
                    have C_67 := Lib.hid (upb_new3 (.slice a141 n141 b141) (.slice a142 n142 b142) (.slice a143 n143 b143) C_60.out LC_n.out)
                    clear B_61
                    clear m_61
                    clear l_61
                    clear E_61
                    clear R14_61
                    clear n_61
                    clear C_60
                    obtain ⟨gw68, hu68⟩ : ∃ u, ((w60.setCell ⟨b_n, 0, none⟩ (.slice a141 n141 b141)).setCell ⟨b_n, 1, none⟩ (.slice a142 n142 b142)).setCell ⟨b_n, 2, none⟩ (.slice a143 n143 b143) = u := ⟨_, rfl⟩
                    rw [hu68] at B_62 m_63 l_64 E_65 n_66 C_67
                    rw [hu68]
                    clear hu68
                    refine ⟨C_67.out, ?_⟩
                    refine anyU_one (i := 10) (by kernel_rfl) rfl ?_
                    intro w69 hu69 hc69
                    have B_70 := Lib.hid (bw_tr B_62.out hu69)
                    clear B_62
                    have m_70 := Lib.hid (MV.up m_63.out hu69)
                    clear m_63
                    have l_70 := Lib.hid (up_in hu69 l_64.out)
                    clear l_64
                    have E_70 := Lib.hid (bw_tr E_65.out hu69)
                    clear E_65
                    have n_70 := Lib.hid (MV.up n_66.out hu69)
                    clear n_66
                    have C_69 := Lib.hid hc69; clear hc69 hu69
                    go_wp2_with fail
                    refine ⟨C_69.out, ?_⟩
                    refine anyU_one (i := 13) (by kernel_rfl) rfl ?_
                    intro w71 hu71 hc71
                    have B_72 := Lib.hid (bw_tr B_70.out hu71)
                    clear B_70
                    have m_72 := Lib.hid (MV.up m_70.out hu71)
                    clear m_70
                    have l_72 := Lib.hid (up_in hu71 l_70.out)
                    clear l_70
                    have E_72 := Lib.hid (bw_tr E_70.out hu71)
                    clear E_70
                    have n_72 := Lib.hid (MV.up n_70.out hu71)
                    clear n_70
                    have C_71 := Lib.hid hc71; clear hc71 hu71
                    go_wp2_with fail
                    refine ⟨C_71.out, ?_⟩
                    refine anyU_nil (by kernel_rfl) ?_
                    intro w73 hu73 hc73
                    have B_74 := Lib.hid (bw_tr B_72.out hu73)
                    clear B_72
                    have m_74 := Lib.hid (MV.up m_72.out hu73)
                    clear m_72
                    have l_74 := Lib.hid (up_in hu73 l_72.out)
                    clear l_72
                    have E_74 := Lib.hid (bw_tr E_72.out hu73)
                    clear E_72
                    have n_74 := Lib.hid (MV.up n_72.out hu73)
                    clear n_72
                    have C_73 := Lib.hid hc73; clear hc73 hu73
                    go_wp2_with fail
                    go_meet
                    case rel => exact ⟨_, _, _, _, rfl, rfl, n_74.out, LE_n.out, E_74.out⟩
              · intro w75 hu75 hc75
                have B_76 := Lib.hid (bw_tr B_17.out hu75)
                clear B_17
                have m_76 := Lib.hid (MV.up m_17.out hu75)
                clear m_17
                have l_76 := Lib.hid (up_in hu75 l_17.out)
                clear l_17
                have E_76 := Lib.hid (bw_tr E_17.out hu75)
                clear E_17
                have R14_76 := Lib.hid ((R14_17.out).below hu75)
                clear R14_17
                have C_75 := Lib.hid hc75; clear hc75 hu75
                go_wp2_with fail
                refine ⟨C_75.out, ?_⟩
                refine anyU_two (i := 9) (k := 11) (by kernel_rfl) rfl rfl ?_ ?_
                · intro w77 hu77 hc77
                  have B_78 := Lib.hid (bw_tr B_76.out hu77)
                  clear B_76
                  have m_78 := Lib.hid (MV.up m_76.out hu77)
                  clear m_76
                  have l_78 := Lib.hid (up_in hu77 l_76.out)
                  clear l_76
                  have E_78 := Lib.hid (bw_tr E_76.out hu77)
                  clear E_76
                  have R14_78 := Lib.hid ((R14_76.out).below hu77)
                  clear R14_76
                  have C_77 := Lib.hid hc77; clear hc77 hu77
                  go_wp2_with fail
                  refine ⟨C_77.out, ?_⟩
                  refine anyU_one (i := 11) (by kernel_rfl) rfl ?_
                  intro w79 hu79 hc79
                  have B_80 := Lib.hid (bw_tr B_78.out hu79)
                  clear B_78
                  have m_80 := Lib.hid (MV.up m_78.out hu79)
                  clear m_78
                  have l_80 := Lib.hid (up_in hu79 l_78.out)
                  clear l_78
                  have E_80 := Lib.hid (bw_tr E_78.out hu79)
                  clear E_78
                  have R14_80 := Lib.hid ((R14_78.out).below hu79)
                  clear R14_78
                  have C_79 := Lib.hid hc79; clear hc79 hu79
                  go_wp2_with fail
                  have N_m_n := Lib.hid (mv_lt m_80.out)
                  have N_l_n := Lib.hid (lt_in l_80.out)
                  have LB_n := Lib.hid (B_80.out).size
                  have LE_n := Lib.hid (E_80.out).size
                  have LC_n := Lib.hid (C_79.out).1
                  have n_81 := Lib.hid (mv_new (isMem_no w79))
                  have B_82 := Lib.hid (bw_tr B_80.out (bel_new w79 (.cells #[.slice none 0 0, .slice none 0 0, .slice none 0 0] 27)))
                  clear B_80
                  have m_82 := Lib.hid (MV.up m_80.out (bel_new w79 (.cells #[.slice none 0 0, .slice none 0 0, .slice none 0 0] 27)))
                  clear m_80
                  have l_82 := Lib.hid (up_in (bel_new w79 (.cells #[.slice none 0 0, .slice none 0 0, .slice none 0 0] 27)) l_80.out)
                  clear l_80
                  have E_82 := Lib.hid (bw_tr E_80.out (bel_new w79 (.cells #[.slice none 0 0, .slice none 0 0, .slice none 0 0] 27)))
                  clear E_80
                  have R14_82 := Lib.hid ((R14_80.out).below (bel_new w79 (.cells #[.slice none 0 0, .slice none 0 0, .slice none 0 0] 27)))
                  clear R14_80
                  have C_82 := Lib.hid ((C_79.out).up (bel_new w79 (.cells #[.slice none 0 0, .slice none 0 0, .slice none 0 0] 27)))
                  clear C_79
                  obtain ⟨gw83, hu83⟩ : ∃ u, w79.alloc (.cells #[.slice none 0 0, .slice none 0 0, .slice none 0 0] 27) = u := ⟨_, rfl⟩
                  rw [hu83] at B_82 m_82 l_82 E_82 R14_82 C_82 n_81
                  rw [hu83]
                  clear hu83
                  obtain ⟨b_n, hq⟩ : ∃ q, w79.heap.size = q := ⟨_, rfl⟩
                  rw [hq] at n_81 N_m_n N_l_n LB_n LE_n LC_n
                  rw [hq]
                  clear hq
                  refine ⟨C_82.out, ?_⟩
                  refine anyU_one (i := 12) (by kernel_rfl) rfl ?_
                  intro w84 hu84 hc84
                  have B_85 := Lib.hid (bw_tr B_82.out hu84)
                  clear B_82
                  have m_85 := Lib.hid (MV.up m_82.out hu84)
                  clear m_82
                  have l_85 := Lib.hid (up_in hu84 l_82.out)
                  clear l_82
                  have E_85 := Lib.hid (bw_tr E_82.out hu84)
                  clear E_82
                  have R14_85 := Lib.hid ((R14_82.out).below hu84)
                  clear R14_82
                  have n_85 := Lib.hid (MV.up n_81.out hu84)
                  clear n_81
                  have C_84 := Lib.hid hc84; clear hc84 hu84
                  obtain ⟨⟨c00, c01, c02⟩, d00, d01, d02⟩ := six (n_85.out).1
                  have t0 := mv_lt n_85.out
                  go_wp2_with fail
                  clear c00 d00 c01 d01 c02 d02 t0
                  have B_86 := Lib.hid (bel_set3 (x := .slice a141 n141 b141) (y := .slice a142 n142 b142) (z := .slice a143 n143 b143) B_85.out (LB_n.out))
                  have m_87 := Lib.hid (mv_other (.slice a141 n141 b141) (.slice a142 n142 b142) (.slice a143 n143 b143) m_85.out n_85.out (Nat.ne_of_lt N_m_n.out))
                  have l_88 := Lib.hid (((set3_spec (x := .slice a141 n141 b141) (y := .slice a142 n142 b142) (z := .slice a143 n143 b143) n_85.out.1).2 _ (Nat.ne_of_lt N_l_n.out)).trans l_85.out)
                  have E_89 := Lib.hid (bel_set3 (x := .slice a141 n141 b141) (y := .slice a142 n142 b142) (z := .slice a143 n143 b143) E_85.out (LE_n.out))
                  have n_90 := Lib.hid (mv_set n_85.out R14_85.out)
                  have C_91 := Lib.hid (upb_new3 (.slice a141 n141 b141) (.slice a142 n142 b142) (.slice a143 n143 b143) C_84.out LC_n.out)
                  clear B_85
                  clear m_85
                  clear l_85
                  clear E_85
                  clear R14_85
                  clear n_85
                  clear C_84
                  obtain ⟨gw92, hu92⟩ : ∃ u, ((w84.setCell ⟨b_n, 0, none⟩ (.slice a141 n141 b141)).setCell ⟨b_n, 1, none⟩ (.slice a142 n142 b142)).setCell ⟨b_n, 2, none⟩ (.slice a143 n143 b143) = u := ⟨_, rfl⟩
                  rw [hu92] at B_86 m_87 l_88 E_89 n_90 C_91
                  rw [hu92]
                  clear hu92
                  refine ⟨C_91.out, ?_⟩
                  refine anyU_one (i := 13) (by kernel_rfl) rfl ?_
                  intro w93 hu93 hc93
                  have B_94 := Lib.hid (bw_tr B_86.out hu93)
                  clear B_86
                  have m_94 := Lib.hid (MV.up m_87.out hu93)
                  clear m_87
                  have l_94 := Lib.hid (up_in hu93 l_88.out)
                  clear l_88
                  have E_94 := Lib.hid (bw_tr E_89.out hu93)
                  clear E_89
                  have n_94 := Lib.hid (MV.up n_90.out hu93)
                  clear n_90
                  have C_93 := Lib.hid hc93; clear hc93 hu93
                  go_wp2_with fail
                  refine ⟨C_93.out, ?_⟩
                  refine anyU_nil (by kernel_rfl) ?_
                  intro w95 hu95 hc95
                  have B_96 := Lib.hid (bw_tr B_94.out hu95)
                  clear B_94
                  have m_96 := Lib.hid (MV.up m_94.out hu95)
                  clear m_94
                  have l_96 := Lib.hid (up_in hu95 l_94.out)
                  clear l_94
                  have E_96 := Lib.hid (bw_tr E_94.out hu95)
                  clear E_94
                  have n_96 := Lib.hid (MV.up n_94.out hu95)
                  clear n_94
                  have C_95 := Lib.hid hc95; clear hc95 hu95
                  go_wp2_with fail
                  go_meet
                  case rel => exact ⟨_, _, _, _, rfl, rfl, n_96.out, LE_n.out, E_96.out⟩
                · intro w97 hu97 hc97
                  have B_98 := Lib.hid (bw_tr B_76.out hu97)
                  clear B_76
                  have m_98 := Lib.hid (MV.up m_76.out hu97)
                  clear m_76
                  have l_98 := Lib.hid (up_in hu97 l_76.out)
                  clear l_76
                  have E_98 := Lib.hid (bw_tr E_76.out hu97)
                  clear E_76
                  have R14_98 := Lib.hid ((R14_76.out).below hu97)
                  clear R14_76
                  have C_97 := Lib.hid hc97; clear hc97 hu97
                  go_wp2_with fail
                  have N_m_n := Lib.hid (mv_lt m_98.out)
                  have N_l_n := Lib.hid (lt_in l_98.out)
                  have LB_n := Lib.hid (B_98.out).size
                  have LE_n := Lib.hid (E_98.out).size
                  have LC_n := Lib.hid (C_97.out).1
                  have n_99 := Lib.hid (mv_new (isMem_no w97))
                  have B_100 := Lib.hid (bw_tr B_98.out (bel_new w97 (.cells #[.slice none 0 0, .slice none 0 0, .slice none 0 0] 27)))
                  clear B_98
                  have m_100 := Lib.hid (MV.up m_98.out (bel_new w97 (.cells #[.slice none 0 0, .slice none 0 0, .slice none 0 0] 27)))
                  clear m_98
                  have l_100 := Lib.hid (up_in (bel_new w97 (.cells #[.slice none 0 0, .slice none 0 0, .slice none 0 0] 27)) l_98.out)
                  clear l_98
                  have E_100 := Lib.hid (bw_tr E_98.out (bel_new w97 (.cells #[.slice none 0 0, .slice none 0 0, .slice none 0 0] 27)))
                  clear E_98
                  have R14_100 := Lib.hid ((R14_98.out).below (bel_new w97 (.cells #[.slice none 0 0, .slice none 0 0, .slice none 0 0] 27)))
                  clear R14_98
                  have C_100 := Lib.hid ((C_97.out).up (bel_new w97 (.cells #[.slice none 0 0, .slice none 0 0, .slice none 0 0] 27)))
                  clear C_97
                  obtain ⟨gw101, hu101⟩ : ∃ u, w97.alloc (.cells #[.slice none 0 0, .slice none 0 0, .slice none 0 0] 27) = u := ⟨_, rfl⟩
                  rw [hu101] at B_100 m_100 l_100 E_100 R14_100 C_100 n_99
                  rw [hu101]
                  clear hu101
                  obtain ⟨b_n, hq⟩ : ∃ q, w97.heap.size = q := ⟨_, rfl⟩
                  rw [hq] at n_99 N_m_n N_l_n LB_n LE_n LC_n
                  rw [hq]
                  clear hq
                  refine ⟨C_100.out, ?_⟩
                  refine anyU_one (i := 9) (by kernel_rfl) rfl ?_
                  intro w102 hu102 hc102
                  have B_103 := Lib.hid (bw_tr B_100.out hu102)
                  clear B_100
                  have m_103 := Lib.hid (MV.up m_100.out hu102)
                  clear m_100
                  have l_103 := Lib.hid (up_in hu102 l_100.out)
                  clear l_100
                  have E_103 := Lib.hid (bw_tr E_100.out hu102)
                  clear E_100
                  have R14_103 := Lib.hid ((R14_100.out).below hu102)
                  clear R14_100
                  have n_103 := Lib.hid (MV.up n_99.out hu102)
                  clear n_99
                  have C_102 := Lib.hid hc102; clear hc102 hu102
                  go_wp2_with fail
                  refine ⟨C_102.out, ?_⟩
                  refine anyU_one (i := 12) (by kernel_rfl) rfl ?_
                  intro w104 hu104 hc104
                  have B_105 := Lib.hid (bw_tr B_103.out hu104)
                  clear B_103
                  have m_105 := Lib.hid (MV.up m_103.out hu104)
                  clear m_103
                  have l_105 := Lib.hid (up_in hu104 l_103.out)
                  clear l_103
                  have E_105 := Lib.hid (bw_tr E_103.out hu104)
                  clear E_103
                  have R14_105 := Lib.hid ((R14_103.out).below hu104)
                  clear R14_103
                  have n_105 := Lib.hid (MV.up n_103.out hu104)
                  clear n_103
                  have C_104 := Lib.hid hc104; clear hc104 hu104
                  obtain ⟨⟨c00, c01, c02⟩, d00, d01, d02⟩ := six (n_105.out).1
                  have t0 := mv_lt n_105.out
                  go_wp2_with fail
                  clear c00 d00 c01 d01 c02 d02 t0
                  have B_106 := Lib.hid (bel_set3 (x := .slice a141 n141 b141) (y := .slice a142 n142 b142) (z := .slice a143 n143 b143) B_105.out (LB_n.out))
                  have m_107 := Lib.hid (mv_other (.slice a141 n141 b141) (.slice a142 n142 b142) (.slice a143 n143 b143) m_105.out n_105.out (Nat.ne_of_lt N_m_n.out))
                  have l_108 := Lib.hid (((set3_spec (x := .slice a141 n141 b141) (y := .slice a142 n142 b142) (z := .slice a143 n143 b143) n_105.out.1).2 _ (Nat.ne_of_lt N_l_n.out)).trans l_105.out)
                  have E_109 := Lib.hid (bel_set3 (x := .slice a141 n141 b141) (y := .slice a142 n142 b142) (z := .slice a143 n143 b143) E_105.out (LE_n.out))
                  have n_110 := Lib.hid (mv_set n_105.out R14_105.out)
                  have C_111 := Lib.hid (upb_new3 (.slice a141 n141 b141) (.slice a142 n142 b142) (.slice a143 n143 b143) C_104.out LC_n.out)
                  clear B_105
                  clear m_105
                  clear l_105
                  clear E_105
                  clear R14_105
                  clear n_105
                  clear C_104
                  obtain ⟨gw112, hu112⟩ : ∃ u, ((w104.setCell ⟨b_n, 0, none⟩ (.slice a141 n141 b141)).setCell ⟨b_n, 1, none⟩ (.slice a142 n142 b142)).setCell ⟨b_n, 2, none⟩ (.slice a143 n143 b143) = u := ⟨_, rfl⟩
                  rw [hu112] at B_106 m_107 l_108 E_109 n_110 C_111
                  rw [hu112]
                  clear hu112
                  refine ⟨C_111.out, ?_⟩
                  refine anyU_one (i := 13) (by kernel_rfl) rfl ?_
                  intro w113 hu113 hc113
                  have B_114 := Lib.hid (bw_tr B_106.out hu113)
                  clear B_106
                  have m_114 := Lib.hid (MV.up m_107.out hu113)
                  clear m_107
                  have l_114 := Lib.hid (up_in hu113 l_108.out)
                  clear l_108
                  have E_114 := Lib.hid (bw_tr E_109.out hu113)
                  clear E_109
                  have n_114 := Lib.hid (MV.up n_110.out hu113)
                  clear n_110
                  have C_113 := Lib.hid hc113; clear hc113 hu113
                  go_wp2_with fail
                  refine ⟨C_113.out, ?_⟩
                  refine anyU_nil (by kernel_rfl) ?_
                  intro w115 hu115 hc115
                  have B_116 := Lib.hid (bw_tr B_114.out hu115)
                  clear B_114
                  have m_116 := Lib.hid (MV.up m_114.out hu115)
                  clear m_114
                  have l_116 := Lib.hid (up_in hu115 l_114.out)
                  clear l_114
                  have E_116 := Lib.hid (bw_tr E_114.out hu115)
                  clear E_114
                  have n_116 := Lib.hid (MV.up n_114.out hu115)
                  clear n_114
                  have C_115 := Lib.hid hc115; clear hc115 hu115
                  go_wp2_with fail
                  go_meet
                  case rel => exact ⟨_, _, _, _, rfl, rfl, n_116.out, LE_n.out, E_116.out⟩
              · intro w117 hu117 hc117
                have B_118 := Lib.hid (bw_tr B_17.out hu117)
                clear B_17
                have m_118 := Lib.hid (MV.up m_17.out hu117)
                clear m_17
                have l_118 := Lib.hid (up_in hu117 l_17.out)
                clear l_17
                have E_118 := Lib.hid (bw_tr E_17.out hu117)
                clear E_17
                have R14_118 := Lib.hid ((R14_17.out).below hu117)
                clear R14_17
                have C_117 := Lib.hid hc117; clear hc117 hu117
                go_wp2_with fail
                have N_m_n := Lib.hid (mv_lt m_118.out)
                have N_l_n := Lib.hid (lt_in l_118.out)
                have LB_n := Lib.hid (B_118.out).size
                have LE_n := Lib.hid (E_118.out).size
                have LC_n := Lib.hid (C_117.out).1
                have n_119 := Lib.hid (mv_new (isMem_no w117))
                have B_120 := Lib.hid (bw_tr B_118.out (bel_new w117 (.cells #[.slice none 0 0, .slice none 0 0, .slice none 0 0] 27)))
                clear B_118
                have m_120 := Lib.hid (MV.up m_118.out (bel_new w117 (.cells #[.slice none 0 0, .slice none 0 0, .slice none 0 0] 27)))
                clear m_118
                have l_120 := Lib.hid (up_in (bel_new w117 (.cells #[.slice none 0 0, .slice none 0 0, .slice none 0 0] 27)) l_118.out)
                clear l_118
                have E_120 := Lib.hid (bw_tr E_118.out (bel_new w117 (.cells #[.slice none 0 0, .slice none 0 0, .slice none 0 0] 27)))
                clear E_118
                have R14_120 := Lib.hid ((R14_118.out).below (bel_new w117 (.cells #[.slice none 0 0, .slice none 0 0, .slice none 0 0] 27)))
                clear R14_118
                have C_120 := Lib.hid ((C_117.out).up (bel_new w117 (.cells #[.slice none 0 0, .slice none 0 0, .slice none 0 0] 27)))
                clear C_117
                obtain ⟨gw121, hu121⟩ : ∃ u, w117.alloc (.cells #[.slice none 0 0, .slice none 0 0, .slice none 0 0] 27) = u := ⟨_, rfl⟩
                rw [hu121] at B_120 m_120 l_120 E_120 R14_120 C_120 n_119
                rw [hu121]
                clear hu121
                obtain ⟨b_n, hq⟩ : ∃ q, w117.heap.size = q := ⟨_, rfl⟩
                rw [hq] at n_119 N_m_n N_l_n LB_n LE_n LC_n
                rw [hq]
                clear hq
                refine ⟨C_120.out, ?_⟩
                refine anyU_two (i := 9) (k := 10) (by kernel_rfl) rfl rfl ?_ ?_
                · intro w122 hu122 hc122
                  have B_123 := Lib.hid (bw_tr B_120.out hu122)
                  clear B_120
                  have m_123 := Lib.hid (MV.up m_120.out hu122)
                  clear m_120
                  have l_123 := Lib.hid (up_in hu122 l_120.out)
                  clear l_120
                  have E_123 := Lib.hid (bw_tr E_120.out hu122)
                  clear E_120
                  have R14_123 := Lib.hid ((R14_120.out).below hu122)
                  clear R14_120
                  have n_123 := Lib.hid (MV.up n_119.out hu122)
                  clear n_119
                  have C_122 := Lib.hid hc122; clear hc122 hu122
                  go_wp2_with fail
                  refine ⟨C_122.out, ?_⟩
                  refine anyU_two (i := 10) (k := 12) (by kernel_rfl) rfl rfl ?_ ?_
                  · intro w124 hu124 hc124
                    have B_125 := Lib.hid (bw_tr B_123.out hu124)
                    clear B_123
                    have m_125 := Lib.hid (MV.up m_123.out hu124)
                    clear m_123
                    have l_125 := Lib.hid (up_in hu124 l_123.out)
                    clear l_123
                    have E_125 := Lib.hid (bw_tr E_123.out hu124)
                    clear E_123
                    have R14_125 := Lib.hid ((R14_123.out).below hu124)
                    clear R14_123
                    have n_125 := Lib.hid (MV.up n_123.out hu124)
                    clear n_123
                    have C_124 := Lib.hid hc124; clear hc124 hu124
                    go_wp2_with fail
                    refine ⟨C_124.out, ?_⟩
                    refine anyU_one (i := 12) (by kernel_rfl) rfl ?_
                    intro w126 hu126 hc126
                    have B_127 := Lib.hid (bw_tr B_125.out hu126)
                    clear B_125
                    have m_127 := Lib.hid (MV.up m_125.out hu126)
                    clear m_125
                    have l_127 := Lib.hid (up_in hu126 l_125.out)
                    clear l_125
                    have E_127 := Lib.hid (bw_tr E_125.out hu126)
                    clear E_125
                    have R14_127 := Lib.hid ((R14_125.out).below hu126)
                    clear R14_125
                    have n_127 := Lib.hid (MV.up n_125.out hu126)
                    clear n_125
                    have C_126 := Lib.hid hc126; clear hc126 hu126
                    obtain ⟨⟨c00, c01, c02⟩, d00, d01, d02⟩ := six (n_127.out).1
                    have t0 := mv_lt n_127.out
                    go_wp2_with fail
                    clear c00 d00 c01 d01 c02 d02 t0
                    have B_128 := Lib.hid (bel_set3 (x := .slice a141 n141 b141) (y := .slice a142 n142 b142) (z := .slice a143 n143 b143) B_127.out (LB_n.out))
                    have m_129 := Lib.hid (mv_other (.slice a141 n141 b141) (.slice a142 n142 b142) (.slice a143 n143 b143) m_127.out n_127.out (Nat.ne_of_lt N_m_n.out))
                    have l_130 := Lib.hid (((set3_spec (x := .slice a141 n141 b141) (y := .slice a142 n142 b142) (z := .slice a143 n143 b143) n_127.out.1).2 _ (Nat.ne_of_lt N_l_n.out)).trans l_127.out)
                    have E_131 := Lib.hid (bel_set3 (x := .slice a141 n141 b141) (y := .slice a142 n142 b142) (z := .slice a143 n143 b143) E_127.out (LE_n.out))
                    have n_132 := Lib.hid (mv_set n_127.out R14_127.out)
                    have C_133 := Lib.hid (upb_new3 (.slice a141 n141 b141) (.slice a142 n142 b142) (.slice a143 n143 b143) C_126.out LC_n.out)
                    clear B_127
                    clear m_127
                    clear l_127
                    clear E_127
                    clear R14_127
                    clear n_127
                    clear C_126
                    obtain ⟨gw134, hu134⟩ : ∃ u, ((w126.setCell ⟨b_n, 0, none⟩ (.slice a141 n141 b141)).setCell ⟨b_n, 1, none⟩ (.slice a142 n142 b142)).setCell ⟨b_n, 2, none⟩ (.slice a143 n143 b143) = u := ⟨_, rfl⟩
                    rw [hu134] at B_128 m_129 l_130 E_131 n_132 C_133
                    rw [hu134]
                    clear hu134
                    refine ⟨C_133.out, ?_⟩
                    refine anyU_one (i := 13) (by kernel_rfl) rfl ?_
                    intro w135 hu135 hc135
                    have B_136 := Lib.hid (bw_tr B_128.out hu135)
                    clear B_128
                    have m_136 := Lib.hid (MV.up m_129.out hu135)
                    clear m_129
                    have l_136 := Lib.hid (up_in hu135 l_130.out)
                    clear l_130
                    have E_136 := Lib.hid (bw_tr E_131.out hu135)
                    clear E_131
                    have n_136 := Lib.hid (MV.up n_132.out hu135)
                    clear n_132
                    have C_135 := Lib.hid hc135; clear hc135 hu135
                    go_wp2_with fail
                    refine ⟨C_135.out, ?_⟩
                    refine anyU_nil (by kernel_rfl) ?_
                    intro w137 hu137 hc137
                    have B_138 := Lib.hid (bw_tr B_136.out hu137)
                    clear B_136
                    have m_138 := Lib.hid (MV.up m_136.out hu137)
                    clear m_136
                    have l_138 := Lib.hid (up_in hu137 l_136.out)
                    clear l_136
                    have E_138 := Lib.hid (bw_tr E_136.out hu137)
                    clear E_136
                    have n_138 := Lib.hid (MV.up n_136.out hu137)
                    clear n_136
                    have C_137 := Lib.hid hc137; clear hc137 hu137
                    go_wp2_with fail
                    go_meet
                    case rel => exact ⟨_, _, _, _, rfl, rfl, n_138.out, LE_n.out, E_138.out⟩
                  · intro w139 hu139 hc139
                    have B_140 := Lib.hid (bw_tr B_123.out hu139)
                    clear B_123
                    have m_140 := Lib.hid (MV.up m_123.out hu139)
                    clear m_123
                    have l_140 := Lib.hid (up_in hu139 l_123.out)
                    clear l_123
                    have E_140 := Lib.hid (bw_tr E_123.out hu139)
                    clear E_123
                    have R14_140 := Lib.hid ((R14_123.out).below hu139)
                    clear R14_123
                    have n_140 := Lib.hid (MV.up n_123.out hu139)
                    clear n_123
                    have C_139 := Lib.hid hc139; clear hc139 hu139
                    obtain ⟨⟨c00, c01, c02⟩, d00, d01, d02⟩ := six (n_140.out).1
                    have t0 := mv_lt n_140.out
                    go_wp2_with fail
                    clear c00 d00 c01 d01 c02 d02 t0
                    have B_141 := Lib.hid (bel_set3 (x := .slice a141 n141 b141) (y := .slice a142 n142 b142) (z := .slice a143 n143 b143) B_140.out (LB_n.out))
                    have m_142 := Lib.hid (mv_other (.slice a141 n141 b141) (.slice a142 n142 b142) (.slice a143 n143 b143) m_140.out n_140.out (Nat.ne_of_lt N_m_n.out))
                    have l_143 := Lib.hid (((set3_spec (x := .slice a141 n141 b141) (y := .slice a142 n142 b142) (z := .slice a143 n143 b143) n_140.out.1).2 _ (Nat.ne_of_lt N_l_n.out)).trans l_140.out)
                    have E_144 := Lib.hid (bel_set3 (x := .slice a141 n141 b141) (y := .slice a142 n142 b142) (z := .slice a143 n143 b143) E_140.out (LE_n.out))
                    have n_145 := Lib.hid (mv_set n_140.out R14_140.out)
                    have C_146 := Lib.hid (upb_new3 (.slice a141 n141 b141) (.slice a142 n142 b142) (.slice a143 n143 b143) C_139.out LC_n.out)
                    clear B_140
                    clear m_140
                    clear l_140
                    clear E_140
                    clear R14_140
                    clear n_140
                    clear C_139
                    obtain ⟨gw147, hu147⟩ : ∃ u, ((w139.setCell ⟨b_n, 0, none⟩ (.slice a141 n141 b141)).setCell ⟨b_n, 1, none⟩ (.slice a142 n142 b142)).setCell ⟨b_n, 2, none⟩ (.slice a143 n143 b143) = u := ⟨_, rfl⟩
                    rw [hu147] at B_141 m_142 l_143 E_144 n_145 C_146
                    rw [hu147]
                    clear hu147
                    refine ⟨C_146.out, ?_⟩
                    refine anyU_one (i := 10) (by kernel_rfl) rfl ?_
                    intro w148 hu148 hc148
                    have B_149 := Lib.hid (bw_tr B_141.out hu148)
                    clear B_141
                    have m_149 := Lib.hid (MV.up m_142.out hu148)
                    clear m_142
                    have l_149 := Lib.hid (up_in hu148 l_143.out)
                    clear l_143
                    have E_149 := Lib.hid (bw_tr E_144.out hu148)
                    clear E_144
                    have n_149 := Lib.hid (MV.up n_145.out hu148)
                    clear n_145
                    have C_148 := Lib.hid hc148; clear hc148 hu148
                    go_wp2_with fail
                    refine ⟨C_148.out, ?_⟩
                    refine anyU_one (i := 13) (by kernel_rfl) rfl ?_
                    intro w150 hu150 hc150
                    have B_151 := Lib.hid (bw_tr B_149.out hu150)
                    clear B_149
                    have m_151 := Lib.hid (MV.up m_149.out hu150)
                    clear m_149
                    have l_151 := Lib.hid (up_in hu150 l_149.out)
                    clear l_149
                    have E_151 := Lib.hid (bw_tr E_149.out hu150)
                    clear E_149
                    have n_151 := Lib.hid (MV.up n_149.out hu150)
                    clear n_149
                    have C_150 := Lib.hid hc150; clear hc150 hu150
                    go_wp2_with fail
                    refine ⟨C_150.out, ?_⟩
                    refine anyU_nil (by kernel_rfl) ?_
                    intro w152 hu152 hc152
                    have B_153 := Lib.hid (bw_tr B_151.out hu152)
                    clear B_151
                    have m_153 := Lib.hid (MV.up m_151.out hu152)
                    clear m_151
                    have l_153 := Lib.hid (up_in hu152 l_151.out)
                    clear l_151
                    have E_153 := Lib.hid (bw_tr E_151.out hu152)
                    clear E_151
                    have n_153 := Lib.hid (MV.up n_151.out hu152)
                    clear n_151
                    have C_152 := Lib.hid hc152; clear hc152 hu152
                    go_wp2_with fail
                    go_meet
                    case rel => exact ⟨_, _, _, _, rfl, rfl, n_153.out, LE_n.out, E_153.out⟩
                · intro w154 hu154 hc154
                  have B_155 := Lib.hid (bw_tr B_120.out hu154)
                  clear B_120
                  have m_155 := Lib.hid (MV.up m_120.out hu154)
                  clear m_120
                  have l_155 := Lib.hid (up_in hu154 l_120.out)
                  clear l_120
                  have E_155 := Lib.hid (bw_tr E_120.out hu154)
                  clear E_120
                  have R14_155 := Lib.hid ((R14_120.out).below hu154)
                  clear R14_120
                  have n_155 := Lib.hid (MV.up n_119.out hu154)
                  clear n_119
                  have C_154 := Lib.hid hc154; clear hc154 hu154
                  go_wp2_with fail
                  refine ⟨C_154.out, ?_⟩
                  refine anyU_one (i := 9) (by kernel_rfl) rfl ?_
                  intro w156 hu156 hc156
                  have B_157 := Lib.hid (bw_tr B_155.out hu156)
                  clear B_155
                  have m_157 := Lib.hid (MV.up m_155.out hu156)
                  clear m_155
                  have l_157 := Lib.hid (up_in hu156 l_155.out)
                  clear l_155
                  have E_157 := Lib.hid (bw_tr E_155.out hu156)
                  clear E_155
                  have R14_157 := Lib.hid ((R14_155.out).below hu156)
                  clear R14_155
                  have n_157 := Lib.hid (MV.up n_155.out hu156)
                  clear n_155
                  have C_156 := Lib.hid hc156; clear hc156 hu156
                  go_wp2_with fail
                  refine ⟨C_156.out, ?_⟩
                  refine anyU_one (i := 12) (by kernel_rfl) rfl ?_
                  intro w158 hu158 hc158
                  have B_159 := Lib.hid (bw_tr B_157.out hu158)
                  clear B_157
                  have m_159 := Lib.hid (MV.up m_157.out hu158)
                  clear m_157
                  have l_159 := Lib.hid (up_in hu158 l_157.out)
                  clear l_157
                  have E_159 := Lib.hid (bw_tr E_157.out hu158)
                  clear E_157
                  have R14_159 := Lib.hid ((R14_157.out).below hu158)
                  clear R14_157
                  have n_159 := Lib.hid (MV.up n_157.out hu158)
                  clear n_157
                  have C_158 := Lib.hid hc158; clear hc158 hu158
                  obtain ⟨⟨c00, c01, c02⟩, d00, d01, d02⟩ := six (n_159.out).1
                  have t0 := mv_lt n_159.out
                  go_wp2_with fail
                  clear c00 d00 c01 d01 c02 d02 t0
                  have B_160 := Lib.hid (bel_set3 (x := .slice a141 n141 b141) (y := .slice a142 n142 b142) (z := .slice a143 n143 b143) B_159.out (LB_n.out))
                  have m_161 := Lib.hid (mv_other (.slice a141 n141 b141) (.slice a142 n142 b142) (.slice a143 n143 b143) m_159.out n_159.out (Nat.ne_of_lt N_m_n.out))
                  have l_162 := Lib.hid (((set3_spec (x := .slice a141 n141 b141) (y := .slice a142 n142 b142) (z := .slice a143 n143 b143) n_159.out.1).2 _ (Nat.ne_of_lt N_l_n.out)).trans l_159.out)
                  have E_163 := Lib.hid (bel_set3 (x := .slice a141 n141 b141) (y := .slice a142 n142 b142) (z := .slice a143 n143 b143) E_159.out (LE_n.out))
                  have n_164 := Lib.hid (mv_set n_159.out R14_159.out)
                  have C_165 := Lib.hid (upb_new3 (.slice a141 n141 b141) (.slice a142 n142 b142) (.slice a143 n143 b143) C_158.out LC_n.out)
                  clear B_159
                  clear m_159
                  clear l_159
                  clear E_159
                  clear R14_159
                  clear n_159
                  clear C_158
                  obtain ⟨gw166, hu166⟩ : ∃ u, ((w158.setCell ⟨b_n, 0, none⟩ (.slice a141 n141 b141)).setCell ⟨b_n, 1, none⟩ (.slice a142 n142 b142)).setCell ⟨b_n, 2, none⟩ (.slice a143 n143 b143) = u := ⟨_, rfl⟩
                  rw [hu166] at B_160 m_161 l_162 E_163 n_164 C_165
                  rw [hu166]
                  clear hu166
                  refine ⟨C_165.out, ?_⟩
                  refine anyU_one (i := 13) (by kernel_rfl) rfl ?_
                  intro w167 hu167 hc167
                  have B_168 := Lib.hid (bw_tr B_160.out hu167)
                  clear B_160
                  have m_168 := Lib.hid (MV.up m_161.out hu167)
                  clear m_161
                  have l_168 := Lib.hid (up_in hu167 l_162.out)
                  clear l_162
                  have E_168 := Lib.hid (bw_tr E_163.out hu167)
                  clear E_163
                  have n_168 := Lib.hid (MV.up n_164.out hu167)
                  clear n_164
                  have C_167 := Lib.hid hc167; clear hc167 hu167
                  go_wp2_with fail
                  refine ⟨C_167.out, ?_⟩
                  refine anyU_nil (by kernel_rfl) ?_
                  intro w169 hu169 hc169
                  have B_170 := Lib.hid (bw_tr B_168.out hu169)
                  clear B_168
                  have m_170 := Lib.hid (MV.up m_168.out hu169)
                  clear m_168
                  have l_170 := Lib.hid (up_in hu169 l_168.out)
                  clear l_168
                  have E_170 := Lib.hid (bw_tr E_168.out hu169)
                  clear E_168
                  have n_170 := Lib.hid (MV.up n_168.out hu169)
                  clear n_168
                  have C_169 := Lib.hid hc169; clear hc169 hu169
                  go_wp2_with fail
                  go_meet
                  case rel => exact ⟨_, _, _, _, rfl, rfl, n_170.out, LE_n.out, E_170.out⟩
            · intro w171 hu171 hc171
              have B_172 := Lib.hid (bw_tr B_15.out hu171)
              clear B_15
              have m_172 := Lib.hid (MV.up m_15.out hu171)
              clear m_15
              have l_172 := Lib.hid (up_in hu171 l_15.out)
              clear l_15
              have E_172 := Lib.hid (bw_tr E_15.out hu171)
              clear E_15
              have R14_172 := Lib.hid ((HM14.out).below hu171)
              clear HM14
              have C_171 := Lib.hid hc171; clear hc171 hu171
              go_wp2_with fail
              have N_m_n := Lib.hid (mv_lt m_172.out)
              have N_l_n := Lib.hid (lt_in l_172.out)
              have LB_n := Lib.hid (B_172.out).size
              have LE_n := Lib.hid (E_172.out).size
              have LC_n := Lib.hid (C_171.out).1
              have n_173 := Lib.hid (mv_new (isMem_no w171))
              have B_174 := Lib.hid (bw_tr B_172.out (bel_new w171 (.cells #[.slice none 0 0, .slice none 0 0, .slice none 0 0] 27)))
              clear B_172
              have m_174 := Lib.hid (MV.up m_172.out (bel_new w171 (.cells #[.slice none 0 0, .slice none 0 0, .slice none 0 0] 27)))
              clear m_172
              have l_174 := Lib.hid (up_in (bel_new w171 (.cells #[.slice none 0 0, .slice none 0 0, .slice none 0 0] 27)) l_172.out)
              clear l_172
              have E_174 := Lib.hid (bw_tr E_172.out (bel_new w171 (.cells #[.slice none 0 0, .slice none 0 0, .slice none 0 0] 27)))
              clear E_172
              have R14_174 := Lib.hid ((R14_172.out).below (bel_new w171 (.cells #[.slice none 0 0, .slice none 0 0, .slice none 0 0] 27)))
              clear R14_172
              have C_174 := Lib.hid ((C_171.out).up (bel_new w171 (.cells #[.slice none 0 0, .slice none 0 0, .slice none 0 0] 27)))
              clear C_171
              obtain ⟨gw175, hu175⟩ : ∃ u, w171.alloc (.cells #[.slice none 0 0, .slice none 0 0, .slice none 0 0] 27) = u := ⟨_, rfl⟩
              rw [hu175] at B_174 m_174 l_174 E_174 R14_174 C_174 n_173
              rw [hu175]
              clear hu175
              obtain ⟨b_n, hq⟩ : ∃ q, w171.heap.size = q := ⟨_, rfl⟩
              rw [hq] at n_173 N_m_n N_l_n LB_n LE_n LC_n
              rw [hq]
              clear hq
              refine ⟨C_174.out, ?_⟩
              refine anyU_one (i := 8) (by kernel_rfl) rfl ?_
              intro w176 hu176 hc176
              have B_177 := Lib.hid (bw_tr B_174.out hu176)
              clear B_174
              have m_177 := Lib.hid (MV.up m_174.out hu176)
              clear m_174
              have l_177 := Lib.hid (up_in hu176 l_174.out)
              clear l_174
              have E_177 := Lib.hid (bw_tr E_174.out hu176)
              clear E_174
              have R14_177 := Lib.hid ((R14_174.out).below hu176)
              clear R14_174
              have n_177 := Lib.hid (MV.up n_173.out hu176)
              clear n_173
              have C_176 := Lib.hid hc176; clear hc176 hu176
              go_wp2_with fail
              refine ⟨C_176.out, ?_⟩
              refine anyU_two (i := 9) (k := 10) (by kernel_rfl) rfl rfl ?_ ?_
              · intro w178 hu178 hc178
                have B_179 := Lib.hid (bw_tr B_177.out hu178)
                clear B_177
                have m_179 := Lib.hid (MV.up m_177.out hu178)
                clear m_177
                have l_179 := Lib.hid (up_in hu178 l_177.out)
                clear l_177
                have E_179 := Lib.hid (bw_tr E_177.out hu178)
                clear E_177
                have R14_179 := Lib.hid ((R14_177.out).below hu178)
                clear R14_177
                have n_179 := Lib.hid (MV.up n_177.out hu178)
                clear n_177
                have C_178 := Lib.hid hc178; clear hc178 hu178
                go_wp2_with fail
                refine ⟨C_178.out, ?_⟩
                refine anyU_two (i := 10) (k := 12) (by kernel_rfl) rfl rfl ?_ ?_
                · intro w180 hu180 hc180
                  have B_181 := Lib.hid (bw_tr B_179.out hu180)
                  clear B_179
                  have m_181 := Lib.hid (MV.up m_179.out hu180)
                  clear m_179
                  have l_181 := Lib.hid (up_in hu180 l_179.out)
                  clear l_179
                  have E_181 := Lib.hid (bw_tr E_179.out hu180)
                  clear E_179
                  have R14_181 := Lib.hid ((R14_179.out).below hu180)
                  clear R14_179
                  have n_181 := Lib.hid (MV.up n_179.out hu180)
                  clear n_179
                  have C_180 := Lib.hid hc180; clear hc180 hu180
                  go_wp2_with fail
                  refine ⟨C_180.out, ?_⟩
                  refine anyU_one (i := 12) (by kernel_rfl) rfl ?_
                  intro w182 hu182 hc182
                  have B_183 := Lib.hid (bw_tr B_181.out hu182)
                  clear B_181
                  have m_183 := Lib.hid (MV.up m_181.out hu182)
                  clear m_181
                  have l_183 := Lib.hid (up_in hu182 l_181.out)
                  clear l_181
                  have E_183 := Lib.hid (bw_tr E_181.out hu182)
                  clear E_181
                  have R14_183 := Lib.hid ((R14_181.out).below hu182)
                  clear R14_181
                  have n_183 := Lib.hid (MV.up n_181.out hu182)
                  clear n_181
                  have C_182 := Lib.hid hc182; clear hc182 hu182
                  obtain ⟨⟨c00, c01, c02⟩, d00, d01, d02⟩ := six (n_183.out).1
                  have t0 := mv_lt n_183.out
                  go_wp2_with fail
                  clear c00 d00 c01 d01 c02 d02 t0
                  have B_184 := Lib.hid (bel_set3 (x := .slice a141 n141 b141) (y := .slice a142 n142 b142) (z := .slice a143 n143 b143) B_183.out (LB_n.out))
                  have m_185 := Lib.hid (mv_other (.slice a141 n141 b141) (.slice a142 n142 b142) (.slice a143 n143 b143) m_183.out n_183.out (Nat.ne_of_lt N_m_n.out))
                  have l_186 := Lib.hid (((set3_spec (x := .slice a141 n141 b141) (y := .slice a142 n142 b142) (z := .slice a143 n143 b143) n_183.out.1).2 _ (Nat.ne_of_lt N_l_n.out)).trans l_183.out)
                  have E_187 := Lib.hid (bel_set3 (x := .slice a141 n141 b141) (y := .slice a142 n142 b142) (z := .slice a143 n143 b143) E_183.out (LE_n.out))
                  have n_188 := Lib.hid (mv_set n_183.out R14_183.out)
                  have C_189 := Lib.hid (upb_new3 (.slice a141 n141 b141) (.slice a142 n142 b142) (.slice a143 n143 b143) C_182.out LC_n.out)
                  clear B_183
                  clear m_183
                  clear l_183
                  clear E_183
                  clear R14_183
                  clear n_183
                  clear C_182
                  obtain ⟨gw190, hu190⟩ : ∃ u, ((w182.setCell ⟨b_n, 0, none⟩ (.slice a141 n141 b141)).setCell ⟨b_n, 1, none⟩ (.slice a142 n142 b142)).setCell ⟨b_n, 2, none⟩ (.slice a143 n143 b143) = u := ⟨_, rfl⟩
                  rw [hu190] at B_184 m_185 l_186 E_187 n_188 C_189
                  rw [hu190]
                  clear hu190
                  refine ⟨C_189.out, ?_⟩
                  refine anyU_one (i := 13) (by kernel_rfl) rfl ?_
                  intro w191 hu191 hc191
                  have B_192 := Lib.hid (bw_tr B_184.out hu191)
                  clear B_184
                  have m_192 := Lib.hid (MV.up m_185.out hu191)
                  clear m_185
                  have l_192 := Lib.hid (up_in hu191 l_186.out)
                  clear l_186
                  have E_192 := Lib.hid (bw_tr E_187.out hu191)
                  clear E_187
                  have n_192 := Lib.hid (MV.up n_188.out hu191)
                  clear n_188
                  have C_191 := Lib.hid hc191; clear hc191 hu191
                  go_wp2_with fail
                  refine ⟨C_191.out, ?_⟩
                  refine anyU_nil (by kernel_rfl) ?_
                  intro w193 hu193 hc193
                  have B_194 := Lib.hid (bw_tr B_192.out hu193)
                  clear B_192
                  have m_194 := Lib.hid (MV.up m_192.out hu193)
                  clear m_192
                  have l_194 := Lib.hid (up_in hu193 l_192.out)
                  clear l_192
                  have E_194 := Lib.hid (bw_tr E_192.out hu193)
                  clear E_192
                  have n_194 := Lib.hid (MV.up n_192.out hu193)
                  clear n_192
                  have C_193 := Lib.hid hc193; clear hc193 hu193
                  go_wp2_with fail
                  go_meet
                  case rel => exact ⟨_, _, _, _, rfl, rfl, n_194.out, LE_n.out, E_194.out⟩
                · intro w195 hu195 hc195
                  have B_196 := Lib.hid (bw_tr B_179.out hu195)
                  clear B_179
                  have m_196 := Lib.hid (MV.up m_179.out hu195)
                  clear m_179
                  have l_196 := Lib.hid (up_in hu195 l_179.out)
                  clear l_179
                  have E_196 := Lib.hid (bw_tr E_179.out hu195)
                  clear E_179
                  have R14_196 := Lib.hid ((R14_179.out).below hu195)
                  clear R14_179
                  have n_196 := Lib.hid (MV.up n_179.out hu195)
                  clear n_179
                  have C_195 := Lib.hid hc195; clear hc195 hu195
                  obtain ⟨⟨c00, c01, c02⟩, d00, d01, d02⟩ := six (n_196.out).1
                  have t0 := mv_lt n_196.out
                  go_wp2_with fail
                  clear c00 d00 c01 d01 c02 d02 t0
                  have B_197 := Lib.hid (bel_set3 (x := .slice a141 n141 b141) (y := .slice a142 n142 b142) (z := .slice a143 n143 b143) B_196.out (LB_n.out))
                  have m_198 := Lib.hid (mv_other (.slice a141 n141 b141) (.slice a142 n142 b142) (.slice a143 n143 b143) m_196.out n_196.out (Nat.ne_of_lt N_m_n.out))
                  have l_199 := Lib.hid (((set3_spec (x := .slice a141 n141 b141) (y := .slice a142 n142 b142) (z := .slice a143 n143 b143) n_196.out.1).2 _ (Nat.ne_of_lt N_l_n.out)).trans l_196.out)
                  have E_200 := Lib.hid (bel_set3 (x := .slice a141 n141 b141) (y := .slice a142 n142 b142) (z := .slice a143 n143 b143) E_196.out (LE_n.out))
                  have n_201 := Lib.hid (mv_set n_196.out R14_196.out)
                  have C_202 := Lib.hid (upb_new3 (.slice a141 n141 b141) (.slice a142 n142 b142) (.slice a143 n143 b143) C_195.out LC_n.out)
                  clear B_196
                  clear m_196
                  clear l_196
                  clear E_196
                  clear R14_196
                  clear n_196
                  clear C_195
                  obtain ⟨gw203, hu203⟩ : ∃ u, ((w195.setCell ⟨b_n, 0, none⟩ (.slice a141 n141 b141)).setCell ⟨b_n, 1, none⟩ (.slice a142 n142 b142)).setCell ⟨b_n, 2, none⟩ (.slice a143 n143 b143) = u := ⟨_, rfl⟩
                  rw [hu203] at B_197 m_198 l_199 E_200 n_201 C_202
                  rw [hu203]
                  clear hu203
                  refine ⟨C_202.out, ?_⟩
                  refine anyU_one (i := 10) (by kernel_rfl) rfl ?_
                  intro w204 hu204 hc204
                  have B_205 := Lib.hid (bw_tr B_197.out hu204)
                  clear B_197
                  have m_205 := Lib.hid (MV.up m_198.out hu204)
                  clear m_198
                  have l_205 := Lib.hid (up_in hu204 l_199.out)
                  clear l_199
                  have E_205 := Lib.hid (bw_tr E_200.out hu204)
                  clear E_200
                  have n_205 := Lib.hid (MV.up n_201.out hu204)
                  clear n_201
                  have C_204 := Lib.hid hc204; clear hc204 hu204
                  go_wp2_with fail
                  refine ⟨C_204.out, ?_⟩
                  refine anyU_one (i := 13) (by kernel_rfl) rfl ?_
                  intro w206 hu206 hc206
                  have B_207 := Lib.hid (bw_tr B_205.out hu206)
                  clear B_205
                  have m_207 := Lib.hid (MV.up m_205.out hu206)
                  clear m_205
                  have l_207 := Lib.hid (up_in hu206 l_205.out)
                  clear l_205
                  have E_207 := Lib.hid (bw_tr E_205.out hu206)
                  clear E_205
                  have n_207 := Lib.hid (MV.up n_205.out hu206)
                  clear n_205
                  have C_206 := Lib.hid hc206; clear hc206 hu206
                  go_wp2_with fail
                  refine ⟨C_206.out, ?_⟩
                  refine anyU_nil (by kernel_rfl) ?_
                  intro w208 hu208 hc208
                  have B_209 := Lib.hid (bw_tr B_207.out hu208)
                  clear B_207
                  have m_209 := Lib.hid (MV.up m_207.out hu208)
                  clear m_207
                  have l_209 := Lib.hid (up_in hu208 l_207.out)
                  clear l_207
                  have E_209 := Lib.hid (bw_tr E_207.out hu208)
                  clear E_207
                  have n_209 := Lib.hid (MV.up n_207.out hu208)
                  clear n_207
                  have C_208 := Lib.hid hc208; clear hc208 hu208
                  go_wp2_with fail
                  go_meet
                  case rel => exact ⟨_, _, _, _, rfl, rfl, n_209.out, LE_n.out, E_209.out⟩
              · intro w210 hu210 hc210
                have B_211 := Lib.hid (bw_tr B_177.out hu210)
                clear B_177
                have m_211 := Lib.hid (MV.up m_177.out hu210)
                clear m_177
                have l_211 := Lib.hid (up_in hu210 l_177.out)
                clear l_177
                have E_211 := Lib.hid (bw_tr E_177.out hu210)
                clear E_177
                have R14_211 := Lib.hid ((R14_177.out).below hu210)
                clear R14_177
                have n_211 := Lib.hid (MV.up n_177.out hu210)
                clear n_177
                have C_210 := Lib.hid hc210; clear hc210 hu210
                go_wp2_with fail
                refine ⟨C_210.out, ?_⟩
                refine anyU_one (i := 9) (by kernel_rfl) rfl ?_
                intro w212 hu212 hc212
                have B_213 := Lib.hid (bw_tr B_211.out hu212)
                clear B_211
                have m_213 := Lib.hid (MV.up m_211.out hu212)
                clear m_211
                have l_213 := Lib.hid (up_in hu212 l_211.out)
                clear l_211
                have E_213 := Lib.hid (bw_tr E_211.out hu212)
                clear E_211
                have R14_213 := Lib.hid ((R14_211.out).below hu212)
                clear R14_211
                have n_213 := Lib.hid (MV.up n_211.out hu212)
                clear n_211
                have C_212 := Lib.hid hc212; clear hc212 hu212
                go_wp2_with fail
                refine ⟨C_212.out, ?_⟩
                refine anyU_one (i := 12) (by kernel_rfl) rfl ?_
                intro w214 hu214 hc214
                have B_215 := Lib.hid (bw_tr B_213.out hu214)
                clear B_213
                have m_215 := Lib.hid (MV.up m_213.out hu214)
                clear m_213
                have l_215 := Lib.hid (up_in hu214 l_213.out)
                clear l_213
                have E_215 := Lib.hid (bw_tr E_213.out hu214)
                clear E_213
                have R14_215 := Lib.hid ((R14_213.out).below hu214)
                clear R14_213
                have n_215 := Lib.hid (MV.up n_213.out hu214)
                clear n_213
                have C_214 := Lib.hid hc214; clear hc214 hu214
                obtain ⟨⟨c00, c01, c02⟩, d00, d01, d02⟩ := six (n_215.out).1
                have t0 := mv_lt n_215.out
                go_wp2_with fail
                clear c00 d00 c01 d01 c02 d02 t0
                have B_216 := Lib.hid (bel_set3 (x := .slice a141 n141 b141) (y := .slice a142 n142 b142) (z := .slice a143 n143 b143) B_215.out (LB_n.out))
                have m_217 := Lib.hid (mv_other (.slice a141 n141 b141) (.slice a142 n142 b142) (.slice a143 n143 b143) m_215.out n_215.out (Nat.ne_of_lt N_m_n.out))
                have l_218 := Lib.hid (((set3_spec (x := .slice a141 n141 b141) (y := .slice a142 n142 b142) (z := .slice a143 n143 b143) n_215.out.1).2 _ (Nat.ne_of_lt N_l_n.out)).trans l_215.out)
                have E_219 := Lib.hid (bel_set3 (x := .slice a141 n141 b141) (y := .slice a142 n142 b142) (z := .slice a143 n143 b143) E_215.out (LE_n.out))
                have n_220 := Lib.hid (mv_set n_215.out R14_215.out)
                have C_221 := Lib.hid (upb_new3 (.slice a141 n141 b141) (.slice a142 n142 b142) (.slice a143 n143 b143) C_214.out LC_n.out)
                clear B_215
                clear m_215
                clear l_215
                clear E_215
                clear R14_215
                clear n_215
                clear C_214
                obtain ⟨gw222, hu222⟩ : ∃ u, ((w214.setCell ⟨b_n, 0, none⟩ (.slice a141 n141 b141)).setCell ⟨b_n, 1, none⟩ (.slice a142 n142 b142)).setCell ⟨b_n, 2, none⟩ (.slice a143 n143 b143) = u := ⟨_, rfl⟩
                rw [hu222] at B_216 m_217 l_218 E_219 n_220 C_221
                rw [hu222]
                clear hu222
                refine ⟨C_221.out, ?_⟩
                refine anyU_one (i := 13) (by kernel_rfl) rfl ?_
                intro w223 hu223 hc223
                have B_224 := Lib.hid (bw_tr B_216.out hu223)
                clear B_216
                have m_224 := Lib.hid (MV.up m_217.out hu223)
                clear m_217
                have l_224 := Lib.hid (up_in hu223 l_218.out)
                clear l_218
                have E_224 := Lib.hid (bw_tr E_219.out hu223)
                clear E_219
                have n_224 := Lib.hid (MV.up n_220.out hu223)
                clear n_220
                have C_223 := Lib.hid hc223; clear hc223 hu223
                go_wp2_with fail
                refine ⟨C_223.out, ?_⟩
                refine anyU_nil (by kernel_rfl) ?_
                intro w225 hu225 hc225
                have B_226 := Lib.hid (bw_tr B_224.out hu225)
                clear B_224
                have m_226 := Lib.hid (MV.up m_224.out hu225)
                clear m_224
                have l_226 := Lib.hid (up_in hu225 l_224.out)
                clear l_224
                have E_226 := Lib.hid (bw_tr E_224.out hu225)
                clear E_224
                have n_226 := Lib.hid (MV.up n_224.out hu225)
                clear n_224
                have C_225 := Lib.hid hc225; clear hc225 hu225
                go_wp2_with fail
                go_meet
                case rel => exact ⟨_, _, _, _, rfl, rfl, n_226.out, LE_n.out, E_226.out⟩
          · intro w227 hu227 hc227
            have hu227 := bw_undrew hu227
            have B_228 := Lib.hid (bw_tr HBR.out hu227)
            clear HBR
            have m_228 := Lib.hid (MV.up HM.out hu227)
            clear HM
            have l_228 := Lib.hid (up_in hu227 HL.out)
            clear HL
            have E_228 := Lib.hid (bw_tr HE.out hu227)
            clear HE
            have C_227 := Lib.hid hc227; clear hc227 hu227
            go_wp2_with fail
            have N_m_n := Lib.hid (mv_lt m_228.out)
            have N_l_n := Lib.hid (lt_in l_228.out)
            have LB_n := Lib.hid (B_228.out).size
            have LE_n := Lib.hid (E_228.out).size
            have LC_n := Lib.hid (C_227.out).1
            have n_229 := Lib.hid (mv_new (isMem_no w227))
            have B_230 := Lib.hid (bw_tr B_228.out (bel_new w227 (.cells #[.slice none 0 0, .slice none 0 0, .slice none 0 0] 27)))
            clear B_228
            have m_230 := Lib.hid (MV.up m_228.out (bel_new w227 (.cells #[.slice none 0 0, .slice none 0 0, .slice none 0 0] 27)))
            clear m_228
            have l_230 := Lib.hid (up_in (bel_new w227 (.cells #[.slice none 0 0, .slice none 0 0, .slice none 0 0] 27)) l_228.out)
            clear l_228
            have E_230 := Lib.hid (bw_tr E_228.out (bel_new w227 (.cells #[.slice none 0 0, .slice none 0 0, .slice none 0 0] 27)))
            clear E_228
            have C_230 := Lib.hid ((C_227.out).up (bel_new w227 (.cells #[.slice none 0 0, .slice none 0 0, .slice none 0 0] 27)))
            clear C_227
            obtain ⟨gw231, hu231⟩ : ∃ u, w227.alloc (.cells #[.slice none 0 0, .slice none 0 0, .slice none 0 0] 27) = u := ⟨_, rfl⟩
            rw [hu231] at B_230 m_230 l_230 E_230 C_230 n_229
            rw [hu231]
            clear hu231
            obtain ⟨b_n, hq⟩ : ∃ q, w227.heap.size = q := ⟨_, rfl⟩
            rw [hq] at n_229 N_m_n N_l_n LB_n LE_n LC_n
            rw [hq]
            clear hq
            refine ⟨C_230.out, ?_⟩
            refine anyU_one (i := 7) (by kernel_rfl) rfl ?_
            intro w232 hu232 hc232
            have B_233 := Lib.hid (bw_tr B_230.out hu232)
            clear B_230
            have m_233 := Lib.hid (MV.up m_230.out hu232)
            clear m_230
            have l_233 := Lib.hid (up_in hu232 l_230.out)
            clear l_230
            have E_233 := Lib.hid (bw_tr E_230.out hu232)
            clear E_230
            have n_233 := Lib.hid (MV.up n_229.out hu232)
            clear n_229
            have C_232 := Lib.hid hc232; clear hc232 hu232
            go_wp2_with fail
            refine (drain_lit _ m 1 d8 dr _ m_233.out.2 SM.out DR.out).mono ?_
            rintro e w234 hr234
            obtain ⟨a2341, n2341, b2341, a2342, n2342, b2342, a2343, n2343, b2343, rfl, hm234, LN234, hb234⟩ := hr234.parts
            have B_235 := Lib.hid (bw_tr B_233.out hb234)
            clear B_233
            have m_235 := Lib.hid (MV.up m_233.out hb234)
            clear m_233
            have l_235 := Lib.hid (up_in hb234 l_233.out)
            clear l_233
            have E_235 := Lib.hid (bw_tr E_233.out hb234)
            clear E_233
            have n_235 := Lib.hid (MV.up n_233.out hb234)
            clear n_233
            have C_235 := Lib.hid ((C_232.out).up hb234)
            clear C_232
            have HM234 := Lib.hid hm234; clear hm234 hb234
            go_wp2_with fail
            refine ⟨C_235.out, ?_⟩
            refine anyU_one (i := 8) (by kernel_rfl) rfl ?_
            intro w236 hu236 hc236
            have B_237 := Lib.hid (bw_tr B_235.out hu236)
            clear B_235
            have m_237 := Lib.hid (MV.up m_235.out hu236)
            clear m_235
            have l_237 := Lib.hid (up_in hu236 l_235.out)
            clear l_235
            have E_237 := Lib.hid (bw_tr E_235.out hu236)
            clear E_235
            have n_237 := Lib.hid (MV.up n_235.out hu236)
            clear n_235
            have R234_237 := Lib.hid ((HM234.out).below hu236)
            clear HM234
            have C_236 := Lib.hid hc236; clear hc236 hu236
            go_wp2_with fail
            refine ⟨C_236.out, ?_⟩
            refine anyU_two (i := 9) (k := 10) (by kernel_rfl) rfl rfl ?_ ?_
            · intro w238 hu238 hc238
              have B_239 := Lib.hid (bw_tr B_237.out hu238)
              clear B_237
              have m_239 := Lib.hid (MV.up m_237.out hu238)
              clear m_237
              have l_239 := Lib.hid (up_in hu238 l_237.out)
              clear l_237
              have E_239 := Lib.hid (bw_tr E_237.out hu238)
              clear E_237
              have n_239 := Lib.hid (MV.up n_237.out hu238)
              clear n_237
              have R234_239 := Lib.hid ((R234_237.out).below hu238)
              clear R234_237
              have C_238 := Lib.hid hc238; clear hc238 hu238
              go_wp2_with fail
              refine ⟨C_238.out, ?_⟩
              refine anyU_two (i := 10) (k := 12) (by kernel_rfl) rfl rfl ?_ ?_
              · intro w240 hu240 hc240
                have B_241 := Lib.hid (bw_tr B_239.out hu240)
                clear B_239
                have m_241 := Lib.hid (MV.up m_239.out hu240)
                clear m_239
                have l_241 := Lib.hid (up_in hu240 l_239.out)
                clear l_239
                have E_241 := Lib.hid (bw_tr E_239.out hu240)
                clear E_239
                have n_241 := Lib.hid (MV.up n_239.out hu240)
                clear n_239
                have R234_241 := Lib.hid ((R234_239.out).below hu240)
                clear R234_239
                have C_240 := Lib.hid hc240; clear hc240 hu240
                go_wp2_with fail
                refine ⟨C_240.out, ?_⟩
                refine anyU_one (i := 12) (by kernel_rfl) rfl ?_
                intro w242 hu242 hc242
                have B_243 := Lib.hid (bw_tr B_241.out hu242)
                clear B_241
                have m_243 := Lib.hid (MV.up m_241.out hu242)
                clear m_241
                have l_243 := Lib.hid (up_in hu242 l_241.out)
                clear l_241
                have E_243 := Lib.hid (bw_tr E_241.out hu242)
                clear E_241
                have n_243 := Lib.hid (MV.up n_241.out hu242)
                clear n_241
                have R234_243 := Lib.hid ((R234_241.out).below hu242)
                clear R234_241
                have C_242 := Lib.hid hc242; clear hc242 hu242
                obtain ⟨⟨c00, c01, c02⟩, d00, d01, d02⟩ := six (n_243.out).1
                have t0 := mv_lt n_243.out
                go_wp2_with fail
                clear c00 d00 c01 d01 c02 d02 t0
                have B_244 := Lib.hid (bel_set3 (x := .slice a2341 n2341 b2341) (y := .slice a2342 n2342 b2342) (z := .slice a2343 n2343 b2343) B_243.out (LB_n.out))
                have m_245 := Lib.hid (mv_other (.slice a2341 n2341 b2341) (.slice a2342 n2342 b2342) (.slice a2343 n2343 b2343) m_243.out n_243.out (Nat.ne_of_lt N_m_n.out))
                have l_246 := Lib.hid (((set3_spec (x := .slice a2341 n2341 b2341) (y := .slice a2342 n2342 b2342) (z := .slice a2343 n2343 b2343) n_243.out.1).2 _ (Nat.ne_of_lt N_l_n.out)).trans l_243.out)
                have E_247 := Lib.hid (bel_set3 (x := .slice a2341 n2341 b2341) (y := .slice a2342 n2342 b2342) (z := .slice a2343 n2343 b2343) E_243.out (LE_n.out))
                have n_248 := Lib.hid (mv_set n_243.out R234_243.out)
                have C_249 := Lib.hid (upb_new3 (.slice a2341 n2341 b2341) (.slice a2342 n2342 b2342) (.slice a2343 n2343 b2343) C_242.out LC_n.out)
                clear B_243
                clear m_243
                clear l_243
                clear E_243
                clear n_243
                clear R234_243
                clear C_242
                obtain ⟨gw250, hu250⟩ : ∃ u, ((w242.setCell ⟨b_n, 0, none⟩ (.slice a2341 n2341 b2341)).setCell ⟨b_n, 1, none⟩ (.slice a2342 n2342 b2342)).setCell ⟨b_n, 2, none⟩ (.slice a2343 n2343 b2343) = u := ⟨_, rfl⟩
                rw [hu250] at B_244 m_245 l_246 E_247 n_248 C_249
                rw [hu250]
                clear hu250
                refine ⟨C_249.out, ?_⟩
                refine anyU_one (i := 13) (by kernel_rfl) rfl ?_
                intro w251 hu251 hc251
                have B_252 := Lib.hid (bw_tr B_244.out hu251)
                clear B_244
                have m_252 := Lib.hid (MV.up m_245.out hu251)
                clear m_245
                have l_252 := Lib.hid (up_in hu251 l_246.out)
                clear l_246
                have E_252 := Lib.hid (bw_tr E_247.out hu251)
                clear E_247
                have n_252 := Lib.hid (MV.up n_248.out hu251)
                clear n_248
                have C_251 := Lib.hid hc251; clear hc251 hu251
                go_wp2_with fail
                refine ⟨C_251.out, ?_⟩
                refine anyU_nil (by kernel_rfl) ?_
                intro w253 hu253 hc253
                have B_254 := Lib.hid (bw_tr B_252.out hu253)
                clear B_252
                have m_254 := Lib.hid (MV.up m_252.out hu253)
                clear m_252
                have l_254 := Lib.hid (up_in hu253 l_252.out)
                clear l_252
                have E_254 := Lib.hid (bw_tr E_252.out hu253)
                clear E_252
                have n_254 := Lib.hid (MV.up n_252.out hu253)
                clear n_252
                have C_253 := Lib.hid hc253; clear hc253 hu253
                go_wp2_with fail
                go_meet
                case rel => exact ⟨_, _, _, _, rfl, rfl, n_254.out, LE_n.out, E_254.out⟩
              · intro w255 hu255 hc255
                have B_256 := Lib.hid (bw_tr B_239.out hu255)
                clear B_239
                have m_256 := Lib.hid (MV.up m_239.out hu255)
                clear m_239
                have l_256 := Lib.hid (up_in hu255 l_239.out)
                clear l_239
                have E_256 := Lib.hid (bw_tr E_239.out hu255)
                clear E_239
                have n_256 := Lib.hid (MV.up n_239.out hu255)
                clear n_239
                have R234_256 := Lib.hid ((R234_239.out).below hu255)
                clear R234_239
                have C_255 := Lib.hid hc255; clear hc255 hu255
                obtain ⟨⟨c00, c01, c02⟩, d00, d01, d02⟩ := six (n_256.out).1
                have t0 := mv_lt n_256.out
                go_wp2_with fail
                clear c00 d00 c01 d01 c02 d02 t0
                have B_257 := Lib.hid (bel_set3 (x := .slice a2341 n2341 b2341) (y := .slice a2342 n2342 b2342) (z := .slice a2343 n2343 b2343) B_256.out (LB_n.out))
                have m_258 := Lib.hid (mv_other (.slice a2341 n2341 b2341) (.slice a2342 n2342 b2342) (.slice a2343 n2343 b2343) m_256.out n_256.out (Nat.ne_of_lt N_m_n.out))
                have l_259 := Lib.hid (((set3_spec (x := .slice a2341 n2341 b2341) (y := .slice a2342 n2342 b2342) (z := .slice a2343 n2343 b2343) n_256.out.1).2 _ (Nat.ne_of_lt N_l_n.out)).trans l_256.out)
                have E_260 := Lib.hid (bel_set3 (x := .slice a2341 n2341 b2341) (y := .slice a2342 n2342 b2342) (z := .slice a2343 n2343 b2343) E_256.out (LE_n.out))
                have n_261 := Lib.hid (mv_set n_256.out R234_256.out)
                have C_262 := Lib.hid (upb_new3 (.slice a2341 n2341 b2341) (.slice a2342 n2342 b2342) (.slice a2343 n2343 b2343) C_255.out LC_n.out)
                clear B_256
                clear m_256
                clear l_256
                clear E_256
                clear n_256
                clear R234_256
                clear C_255
                obtain ⟨gw263, hu263⟩ : ∃ u, ((w255.setCell ⟨b_n, 0, none⟩ (.slice a2341 n2341 b2341)).setCell ⟨b_n, 1, none⟩ (.slice a2342 n2342 b2342)).setCell ⟨b_n, 2, none⟩ (.slice a2343 n2343 b2343) = u := ⟨_, rfl⟩
                rw [hu263] at B_257 m_258 l_259 E_260 n_261 C_262
                rw [hu263]
                clear hu263
                refine ⟨C_262.out, ?_⟩
                refine anyU_one (i := 10) (by kernel_rfl) rfl ?_
                intro w264 hu264 hc264
                have B_265 := Lib.hid (bw_tr B_257.out hu264)
                clear B_257
                have m_265 := Lib.hid (MV.up m_258.out hu264)
                clear m_258
                have l_265 := Lib.hid (up_in hu264 l_259.out)
                clear l_259
                have E_265 := Lib.hid (bw_tr E_260.out hu264)
                clear E_260
                have n_265 := Lib.hid (MV.up n_261.out hu264)
                clear n_261
                have C_264 := Lib.hid hc264; clear hc264 hu264
                go_wp2_with fail
                refine ⟨C_264.out, ?_⟩
                refine anyU_one (i := 13) (by kernel_rfl) rfl ?_
                intro w266 hu266 hc266
                have B_267 := Lib.hid (bw_tr B_265.out hu266)
                clear B_265
                have m_267 := Lib.hid (MV.up m_265.out hu266)
                clear m_265
                have l_267 := Lib.hid (up_in hu266 l_265.out)
                clear l_265
                have E_267 := Lib.hid (bw_tr E_265.out hu266)
                clear E_265
                have n_267 := Lib.hid (MV.up n_265.out hu266)
                clear n_265
                have C_266 := Lib.hid hc266; clear hc266 hu266
                go_wp2_with fail
                refine ⟨C_266.out, ?_⟩
                refine anyU_nil (by kernel_rfl) ?_
                intro w268 hu268 hc268
                have B_269 := Lib.hid (bw_tr B_267.out hu268)
                clear B_267
                have m_269 := Lib.hid (MV.up m_267.out hu268)
                clear m_267
                have l_269 := Lib.hid (up_in hu268 l_267.out)
                clear l_267
                have E_269 := Lib.hid (bw_tr E_267.out hu268)
                clear E_267
                have n_269 := Lib.hid (MV.up n_267.out hu268)
                clear n_267
                have C_268 := Lib.hid hc268; clear hc268 hu268
                go_wp2_with fail
                go_meet
                case rel => exact ⟨_, _, _, _, rfl, rfl, n_269.out, LE_n.out, E_269.out⟩
            · intro w270 hu270 hc270
              have B_271 := Lib.hid (bw_tr B_237.out hu270)
              clear B_237
              have m_271 := Lib.hid (MV.up m_237.out hu270)
              clear m_237
              have l_271 := Lib.hid (up_in hu270 l_237.out)
              clear l_237
              have E_271 := Lib.hid (bw_tr E_237.out hu270)
              clear E_237
              have n_271 := Lib.hid (MV.up n_237.out hu270)
              clear n_237
              have R234_271 := Lib.hid ((R234_237.out).below hu270)
              clear R234_237
              have C_270 := Lib.hid hc270; clear hc270 hu270
              go_wp2_with fail
              refine ⟨C_270.out, ?_⟩
              refine anyU_one (i := 9) (by kernel_rfl) rfl ?_
              intro w272 hu272 hc272
              have B_273 := Lib.hid (bw_tr B_271.out hu272)
              clear B_271
              have m_273 := Lib.hid (MV.up m_271.out hu272)
              clear m_271
              have l_273 := Lib.hid (up_in hu272 l_271.out)
              clear l_271
              have E_273 := Lib.hid (bw_tr E_271.out hu272)
              clear E_271
              have n_273 := Lib.hid (MV.up n_271.out hu272)
              clear n_271
              have R234_273 := Lib.hid ((R234_271.out).below hu272)
              clear R234_271
              have C_272 := Lib.hid hc272; clear hc272 hu272
              go_wp2_with fail
              refine ⟨C_272.out, ?_⟩
              refine anyU_one (i := 12) (by kernel_rfl) rfl ?_
              intro w274 hu274 hc274
              have B_275 := Lib.hid (bw_tr B_273.out hu274)
              clear B_273
              have m_275 := Lib.hid (MV.up m_273.out hu274)
              clear m_273
              have l_275 := Lib.hid (up_in hu274 l_273.out)
              clear l_273
              have E_275 := Lib.hid (bw_tr E_273.out hu274)
              clear E_273
              have n_275 := Lib.hid (MV.up n_273.out hu274)
              clear n_273
              have R234_275 := Lib.hid ((R234_273.out).below hu274)
              clear R234_273
              have C_274 := Lib.hid hc274; clear hc274 hu274
              obtain ⟨⟨c00, c01, c02⟩, d00, d01, d02⟩ := six (n_275.out).1
              have t0 := mv_lt n_275.out
              go_wp2_with fail
              clear c00 d00 c01 d01 c02 d02 t0
              have B_276 := Lib.hid (bel_set3 (x := .slice a2341 n2341 b2341) (y := .slice a2342 n2342 b2342) (z := .slice a2343 n2343 b2343) B_275.out (LB_n.out))
              have m_277 := Lib.hid (mv_other (.slice a2341 n2341 b2341) (.slice a2342 n2342 b2342) (.slice a2343 n2343 b2343) m_275.out n_275.out (Nat.ne_of_lt N_m_n.out))
              have l_278 := Lib.hid (((set3_spec (x := .slice a2341 n2341 b2341) (y := .slice a2342 n2342 b2342) (z := .slice a2343 n2343 b2343) n_275.out.1).2 _ (Nat.ne_of_lt N_l_n.out)).trans l_275.out)
              have E_279 := Lib.hid (bel_set3 (x := .slice a2341 n2341 b2341) (y := .slice a2342 n2342 b2342) (z := .slice a2343 n2343 b2343) E_275.out (LE_n.out))
              have n_280 := Lib.hid (mv_set n_275.out R234_275.out)
              have C_281 := Lib.hid (upb_new3 (.slice a2341 n2341 b2341) (.slice a2342 n2342 b2342) (.slice a2343 n2343 b2343) C_274.out LC_n.out)
              clear B_275
              clear m_275
              clear l_275
              clear E_275
              clear n_275
              clear R234_275
              clear C_274
              obtain ⟨gw282, hu282⟩ : ∃ u, ((w274.setCell ⟨b_n, 0, none⟩ (.slice a2341 n2341 b2341)).setCell ⟨b_n, 1, none⟩ (.slice a2342 n2342 b2342)).setCell ⟨b_n, 2, none⟩ (.slice a2343 n2343 b2343) = u := ⟨_, rfl⟩
              rw [hu282] at B_276 m_277 l_278 E_279 n_280 C_281
              rw [hu282]
              clear hu282
              refine ⟨C_281.out, ?_⟩
              refine anyU_one (i := 13) (by kernel_rfl) rfl ?_
              intro w283 hu283 hc283
              have B_284 := Lib.hid (bw_tr B_276.out hu283)
              clear B_276
              have m_284 := Lib.hid (MV.up m_277.out hu283)
              clear m_277
              have l_284 := Lib.hid (up_in hu283 l_278.out)
              clear l_278
              have E_284 := Lib.hid (bw_tr E_279.out hu283)
              clear E_279
              have n_284 := Lib.hid (MV.up n_280.out hu283)
              clear n_280
              have C_283 := Lib.hid hc283; clear hc283 hu283
              go_wp2_with fail
              refine ⟨C_283.out, ?_⟩
              refine anyU_nil (by kernel_rfl) ?_
              intro w285 hu285 hc285
              have B_286 := Lib.hid (bw_tr B_284.out hu285)
              clear B_284
              have m_286 := Lib.hid (MV.up m_284.out hu285)
              clear m_284
              have l_286 := Lib.hid (up_in hu285 l_284.out)
              clear l_284
              have E_286 := Lib.hid (bw_tr E_284.out hu285)
              clear E_284
              have n_286 := Lib.hid (MV.up n_284.out hu285)
              clear n_284
              have C_285 := Lib.hid hc285; clear hc285 hu285
              go_wp2_with fail
              go_meet
              case rel => exact ⟨_, _, _, _, rfl, rfl, n_286.out, LE_n.out, E_286.out⟩
      case rest =>
        obtain ⟨b_n, xn, yn, zn, rfl, rfl, hn, hbn, hbx⟩ := hcut
        have HN0 := Lib.hid hn
        have N_m_n : Hid (b_m < b_n) := Lib.hid (Nat.lt_of_lt_of_le (mv_lt HM.out) hbn); have N_l_n : Hid (b_l < b_n) := Lib.hid (Nat.lt_of_lt_of_le (lt_in HL.out) hbn); have LB_n : Hid (w.heap.size ≤ b_n) := Lib.hid (Nat.le_trans hsz hbn)
        clear x2 hsz
        have B_287 := Lib.hid (bw_tr HBR.out hbx)
        clear HBR
        have m_287 := Lib.hid (MV.up HM.out hbx)
        clear HM
        have l_287 := Lib.hid (up_in hbx HL.out)
        clear HL
        clear hbx hn hbn
        have x0 := rd_cell B_287.out hbl G0.out; have hsz := B_287.out.size
        go_upto_if 56 with (go_at_call 12; (with_reducible refine (pick11 _ _ _ _ I0.out (by decide) D2.out).mono ?_); rintro e w' ⟨rfl, rfl⟩)
        clear x0
        go_cut [10] (fun s10 wx2 => ∃ (x2 y2 z2 : Value) (r : Mem × Int) (k0 k1 k2 k3 : Int), s10 = .int .i64 r.2 ∧ MV wx2 b_n x2 y2 z2 r.1 ∧ MV wx2 b_m x y z m ∧ wx2.heap[b_l]? = some (.cells #[.int .i64 k0, .int .i64 k1, .int .i64 k2, .int .i64 k3] 31 (0, 0)) ∧ Below w.heap.size w wx2 ∧ (r.2 = 0 → OwnOK r.1 k0 k1 k2 k3) ∧ (r.2 ≠ 0 → OwnOK m k0 k1 k2 k3))
        case first =>
          by_cases h0 : d2 = 0
          rotate_left
          · go_wp2_with fail
            go_meet
            case rel => exact ⟨_, _, _, dr, _, _, _, _, rfl, HN0.out, m_287.out, l_287.out, B_287.out, fun e => own_drain OK.out (m' := dr.1) (d := d8) (by rw [DR.out, ← e]), fun _ => OK.out⟩
          obtain ⟨sr, hsr⟩ : ∃ sr, storeR m 1 d4 r3 = sr := ⟨_, rfl⟩; have SR := Lib.hid hsr; clear hsr
          go_upto_region 10 with (fail)
          go_cut [10] (fun s10 wy => ∃ x2 y2 z2, s10 = .int .i64 sr.2 ∧ MV wy b_n x2 y2 z2 sr.1 ∧ MV wy b_m x y z m ∧ wy.heap[b_l]? = some (.cells #[.int .i64 l0, .int .i64 l1, .int .i64 l2, .int .i64 l3] 31 (0, 0)) ∧ Below w.heap.size w wy)
          case first =>
            have y3 := Nat.lt_of_lt_of_le hbl hsz
            refine wp_region_up (UpB b_n wc) [true, true, true, true, true, true, true] (by kernel_rfl) (by kernel_rfl) (by kernel_rfl) (fun _ _ h hu => h.up hu) (upb_refl _ _) ?ra288 ?rh288 ?rt288
            case rh288 =>
              intro w0 h0
              obtain ⟨⟨c0, c1, c2⟩, d0, d1, d2⟩ := six (m_287.out).1
              have t0 := mv_lt m_287.out
              have ne0 := Nat.ne_of_lt N_m_n.out
              have rx0 := fun x => h0.wd t0 ne0 c0 x
              have rx1 := fun x => h0.wd t0 ne0 c1 x
              have rx2 := fun x => h0.wd t0 ne0 c2 x
              clear c0 c1 c2 d0 d1 d2
              have rx3 := fun x => h0.wd y3 (Nat.ne_of_lt (Nat.lt_of_lt_of_le hbl LB_n.out)) (rd_cell B_287.out hbl G3.out) x
              simp only [pickM]
              repeat (go_big_quiet_step ((fail)))
              refine wpQuiet_nil ?_
              rfl
            case rt288 =>
              change wpAnyU _ _ _ _ _ 6 _ _ _
              refine anyU_one (i := 7) (by kernel_rfl) rfl ?_
              intro w289 hu289 hc289
              have hu289 := bw_undrew hu289
              have B_290 := Lib.hid (bw_tr B_287.out hu289)
              clear B_287
              have m_290 := Lib.hid (MV.up m_287.out hu289)
              clear m_287
              have l_290 := Lib.hid (up_in hu289 l_287.out)
              clear l_287
              have n_290 := Lib.hid (MV.up HN0.out hu289)
              clear HN0
              have C_289 := Lib.hid hc289; clear hc289 hu289
              go_wp2_with fail
              refine (store_lit _ m 1 d4 r3 sr _ m_290.out.2 SM.out SR.out).mono ?_
              rintro e w291 hr291
              obtain ⟨a2911, n2911, b2911, a2912, n2912, b2912, a2913, n2913, b2913, rfl, hm291, LN291, hb291⟩ := hr291.parts
              have B_292 := Lib.hid (bw_tr B_290.out hb291)
              clear B_290
              have m_292 := Lib.hid (MV.up m_290.out hb291)
              clear m_290
              have l_292 := Lib.hid (up_in hb291 l_290.out)
              clear l_290
              have n_292 := Lib.hid (MV.up n_290.out hb291)
              clear n_290
              have C_292 := Lib.hid ((C_289.out).up hb291)
              clear C_289
              have HM291 := Lib.hid hm291; clear hm291 hb291
              go_wp2_with fail
              refine ⟨C_292.out, ?_⟩
              refine anyU_one (i := 8) (by kernel_rfl) rfl ?_
              intro w293 hu293 hc293
              have B_294 := Lib.hid (bw_tr B_292.out hu293)
              clear B_292
              have m_294 := Lib.hid (MV.up m_292.out hu293)
              clear m_292
              have l_294 := Lib.hid (up_in hu293 l_292.out)
              clear l_292
              have n_294 := Lib.hid (MV.up n_292.out hu293)
              clear n_292
              have R291_294 := Lib.hid ((HM291.out).below hu293)
              clear HM291
              have C_293 := Lib.hid hc293; clear hc293 hu293
              go_wp2_with fail
              refine ⟨C_293.out, ?_⟩
              refine anyU_two (i := 9) (k := 10) (by kernel_rfl) rfl rfl ?_ ?_
              · intro w295 hu295 hc295
                have B_296 := Lib.hid (bw_tr B_294.out hu295)
                clear B_294
                have m_296 := Lib.hid (MV.up m_294.out hu295)
                clear m_294
                have l_296 := Lib.hid (up_in hu295 l_294.out)
                clear l_294
                have n_296 := Lib.hid (MV.up n_294.out hu295)
                clear n_294
                have R291_296 := Lib.hid ((R291_294.out).below hu295)
                clear R291_294
                have C_295 := Lib.hid hc295; clear hc295 hu295
                go_wp2_with fail
                refine ⟨C_295.out, ?_⟩
                refine anyU_two (i := 10) (k := 11) (by kernel_rfl) rfl rfl ?_ ?_
                · intro w297 hu297 hc297
                  have B_298 := Lib.hid (bw_tr B_296.out hu297)
                  clear B_296
                  have m_298 := Lib.hid (MV.up m_296.out hu297)
                  clear m_296
                  have l_298 := Lib.hid (up_in hu297 l_296.out)
                  clear l_296
                  have n_298 := Lib.hid (MV.up n_296.out hu297)
                  clear n_296
                  have R291_298 := Lib.hid ((R291_296.out).below hu297)
                  clear R291_296
                  have C_297 := Lib.hid hc297; clear hc297 hu297
                  go_wp2_with fail
                  refine ⟨C_297.out, ?_⟩
                  refine anyU_one (i := 11) (by kernel_rfl) rfl ?_
                  intro w299 hu299 hc299
                  have B_300 := Lib.hid (bw_tr B_298.out hu299)
                  clear B_298
                  have m_300 := Lib.hid (MV.up m_298.out hu299)
                  clear m_298
                  have l_300 := Lib.hid (up_in hu299 l_298.out)
                  clear l_298
                  have n_300 := Lib.hid (MV.up n_298.out hu299)
                  clear n_298
                  have R291_300 := Lib.hid ((R291_298.out).below hu299)
                  clear R291_298
                  have C_299 := Lib.hid hc299; clear hc299 hu299
                  obtain ⟨⟨c00, c01, c02⟩, d00, d01, d02⟩ := six (n_300.out).1
                  have t0 := mv_lt n_300.out
                  go_wp2_with fail
                  clear c00 d00 c01 d01 c02 d02 t0
                  have B_301 := Lib.hid (bel_set3 (x := .slice a2911 n2911 b2911) (y := .slice a2912 n2912 b2912) (z := .slice a2913 n2913 b2913) B_300.out (LB_n.out))
                  have m_302 := Lib.hid (mv_other (.slice a2911 n2911 b2911) (.slice a2912 n2912 b2912) (.slice a2913 n2913 b2913) m_300.out n_300.out (Nat.ne_of_lt N_m_n.out))
                  have l_303 := Lib.hid (((set3_spec (x := .slice a2911 n2911 b2911) (y := .slice a2912 n2912 b2912) (z := .slice a2913 n2913 b2913) n_300.out.1).2 _ (Nat.ne_of_lt N_l_n.out)).trans l_300.out)
                  have n_304 := Lib.hid (mv_set n_300.out R291_300.out)
                  have C_305 := Lib.hid (upb_set3 (q := b_n) (.slice a2911 n2911 b2911) (.slice a2912 n2912 b2912) (.slice a2913 n2913 b2913) C_299.out)
                  clear B_300
                  clear m_300
                  clear l_300
                  clear n_300
                  clear R291_300
                  clear C_299
                  obtain ⟨gw306, hu306⟩ : ∃ u, ((w299.setCell ⟨b_n, 0, none⟩ (.slice a2911 n2911 b2911)).setCell ⟨b_n, 1, none⟩ (.slice a2912 n2912 b2912)).setCell ⟨b_n, 2, none⟩ (.slice a2913 n2913 b2913) = u := ⟨_, rfl⟩
                  rw [hu306] at B_301 m_302 l_303 n_304 C_305
                  rw [hu306]
                  clear hu306
                  refine ⟨C_305.out, ?_⟩
                  refine anyU_one (i := 12) (by kernel_rfl) rfl ?_
                  intro w307 hu307 hc307
                  have B_308 := Lib.hid (bw_tr B_301.out hu307)
                  clear B_301
                  have m_308 := Lib.hid (MV.up m_302.out hu307)
                  clear m_302
                  have l_308 := Lib.hid (up_in hu307 l_303.out)
                  clear l_303
                  have n_308 := Lib.hid (MV.up n_304.out hu307)
                  clear n_304
                  have C_307 := Lib.hid hc307; clear hc307 hu307
                  go_wp2_with fail
                  refine ⟨C_307.out, ?_⟩
                  refine anyU_nil (by kernel_rfl) ?_
                  intro w309 hu309 hc309
                  have B_310 := Lib.hid (bw_tr B_308.out hu309)
                  clear B_308
                  have m_310 := Lib.hid (MV.up m_308.out hu309)
                  clear m_308
                  have l_310 := Lib.hid (up_in hu309 l_308.out)
                  clear l_308
                  have n_310 := Lib.hid (MV.up n_308.out hu309)
                  clear n_308
                  have C_309 := Lib.hid hc309; clear hc309 hu309
                  go_wp2_with fail
                  go_meet
                  case rel => exact ⟨_, _, _, rfl, n_310.out, m_310.out, l_310.out, B_310.out⟩
                · intro w311 hu311 hc311
                  have B_312 := Lib.hid (bw_tr B_296.out hu311)
                  clear B_296
                  have m_312 := Lib.hid (MV.up m_296.out hu311)
                  clear m_296
                  have l_312 := Lib.hid (up_in hu311 l_296.out)
                  clear l_296
                  have n_312 := Lib.hid (MV.up n_296.out hu311)
                  clear n_296
                  have R291_312 := Lib.hid ((R291_296.out).below hu311)
                  clear R291_296
                  have C_311 := Lib.hid hc311; clear hc311 hu311
                  obtain ⟨⟨c00, c01, c02⟩, d00, d01, d02⟩ := six (n_312.out).1
                  have t0 := mv_lt n_312.out
                  go_wp2_with fail
                  clear c00 d00 c01 d01 c02 d02 t0
                  have B_313 := Lib.hid (bel_set3 (x := .slice a2911 n2911 b2911) (y := .slice a2912 n2912 b2912) (z := .slice a2913 n2913 b2913) B_312.out (LB_n.out))
                  have m_314 := Lib.hid (mv_other (.slice a2911 n2911 b2911) (.slice a2912 n2912 b2912) (.slice a2913 n2913 b2913) m_312.out n_312.out (Nat.ne_of_lt N_m_n.out))
                  have l_315 := Lib.hid (((set3_spec (x := .slice a2911 n2911 b2911) (y := .slice a2912 n2912 b2912) (z := .slice a2913 n2913 b2913) n_312.out.1).2 _ (Nat.ne_of_lt N_l_n.out)).trans l_312.out)
                  have n_316 := Lib.hid (mv_set n_312.out R291_312.out)
                  have C_317 := Lib.hid (upb_set3 (q := b_n) (.slice a2911 n2911 b2911) (.slice a2912 n2912 b2912) (.slice a2913 n2913 b2913) C_311.out)
                  clear B_312
                  clear m_312
                  clear l_312
                  clear n_312
                  clear R291_312
                  clear C_311
                  obtain ⟨gw318, hu318⟩ : ∃ u, ((w311.setCell ⟨b_n, 0, none⟩ (.slice a2911 n2911 b2911)).setCell ⟨b_n, 1, none⟩ (.slice a2912 n2912 b2912)).setCell ⟨b_n, 2, none⟩ (.slice a2913 n2913 b2913) = u := ⟨_, rfl⟩
                  rw [hu318] at B_313 m_314 l_315 n_316 C_317
                  rw [hu318]
                  clear hu318
                  refine ⟨C_317.out, ?_⟩
                  refine anyU_one (i := 10) (by kernel_rfl) rfl ?_
                  intro w319 hu319 hc319
                  have B_320 := Lib.hid (bw_tr B_313.out hu319)
                  clear B_313
                  have m_320 := Lib.hid (MV.up m_314.out hu319)
                  clear m_314
                  have l_320 := Lib.hid (up_in hu319 l_315.out)
                  clear l_315
                  have n_320 := Lib.hid (MV.up n_316.out hu319)
                  clear n_316
                  have C_319 := Lib.hid hc319; clear hc319 hu319
                  go_wp2_with fail
                  refine ⟨C_319.out, ?_⟩
                  refine anyU_one (i := 12) (by kernel_rfl) rfl ?_
                  intro w321 hu321 hc321
                  have B_322 := Lib.hid (bw_tr B_320.out hu321)
                  clear B_320
                  have m_322 := Lib.hid (MV.up m_320.out hu321)
                  clear m_320
                  have l_322 := Lib.hid (up_in hu321 l_320.out)
                  clear l_320
                  have n_322 := Lib.hid (MV.up n_320.out hu321)
                  clear n_320
                  have C_321 := Lib.hid hc321; clear hc321 hu321
                  go_wp2_with fail
                  refine ⟨C_321.out, ?_⟩
                  refine anyU_nil (by kernel_rfl) ?_
                  intro w323 hu323 hc323
                  have B_324 := Lib.hid (bw_tr B_322.out hu323)
                  clear B_322
                  have m_324 := Lib.hid (MV.up m_322.out hu323)
                  clear m_322
                  have l_324 := Lib.hid (up_in hu323 l_322.out)
                  clear l_322
                  have n_324 := Lib.hid (MV.up n_322.out hu323)
                  clear n_322
                  have C_323 := Lib.hid hc323; clear hc323 hu323
                  go_wp2_with fail
                  go_meet
                  case rel => exact ⟨_, _, _, rfl, n_324.out, m_324.out, l_324.out, B_324.out⟩
              · intro w325 hu325 hc325
                have B_326 := Lib.hid (bw_tr B_294.out hu325)
                clear B_294
                have m_326 := Lib.hid (MV.up m_294.out hu325)
                clear m_294
                have l_326 := Lib.hid (up_in hu325 l_294.out)
                clear l_294
                have n_326 := Lib.hid (MV.up n_294.out hu325)
                clear n_294
                have R291_326 := Lib.hid ((R291_294.out).below hu325)
                clear R291_294
                have C_325 := Lib.hid hc325; clear hc325 hu325
                go_wp2_with fail
                refine ⟨C_325.out, ?_⟩
                refine anyU_one (i := 9) (by kernel_rfl) rfl ?_
                intro w327 hu327 hc327
                have B_328 := Lib.hid (bw_tr B_326.out hu327)
                clear B_326
                have m_328 := Lib.hid (MV.up m_326.out hu327)
                clear m_326
                have l_328 := Lib.hid (up_in hu327 l_326.out)
                clear l_326
                have n_328 := Lib.hid (MV.up n_326.out hu327)
                clear n_326
                have R291_328 := Lib.hid ((R291_326.out).below hu327)
                clear R291_326
                have C_327 := Lib.hid hc327; clear hc327 hu327
                go_wp2_with fail
                refine ⟨C_327.out, ?_⟩
                refine anyU_one (i := 11) (by kernel_rfl) rfl ?_
                intro w329 hu329 hc329
                have B_330 := Lib.hid (bw_tr B_328.out hu329)
                clear B_328
                have m_330 := Lib.hid (MV.up m_328.out hu329)
                clear m_328
                have l_330 := Lib.hid (up_in hu329 l_328.out)
                clear l_328
                have n_330 := Lib.hid (MV.up n_328.out hu329)
                clear n_328
                have R291_330 := Lib.hid ((R291_328.out).below hu329)
                clear R291_328
                have C_329 := Lib.hid hc329; clear hc329 hu329
                obtain ⟨⟨c00, c01, c02⟩, d00, d01, d02⟩ := six (n_330.out).1
                have t0 := mv_lt n_330.out
                go_wp2_with fail
                clear c00 d00 c01 d01 c02 d02 t0
                have B_331 := Lib.hid (bel_set3 (x := .slice a2911 n2911 b2911) (y := .slice a2912 n2912 b2912) (z := .slice a2913 n2913 b2913) B_330.out (LB_n.out))
                have m_332 := Lib.hid (mv_other (.slice a2911 n2911 b2911) (.slice a2912 n2912 b2912) (.slice a2913 n2913 b2913) m_330.out n_330.out (Nat.ne_of_lt N_m_n.out))
                have l_333 := Lib.hid (((set3_spec (x := .slice a2911 n2911 b2911) (y := .slice a2912 n2912 b2912) (z := .slice a2913 n2913 b2913) n_330.out.1).2 _ (Nat.ne_of_lt N_l_n.out)).trans l_330.out)
                have n_334 := Lib.hid (mv_set n_330.out R291_330.out)
                have C_335 := Lib.hid (upb_set3 (q := b_n) (.slice a2911 n2911 b2911) (.slice a2912 n2912 b2912) (.slice a2913 n2913 b2913) C_329.out)
                clear B_330
                clear m_330
                clear l_330
                clear n_330
                clear R291_330
                clear C_329
                obtain ⟨gw336, hu336⟩ : ∃ u, ((w329.setCell ⟨b_n, 0, none⟩ (.slice a2911 n2911 b2911)).setCell ⟨b_n, 1, none⟩ (.slice a2912 n2912 b2912)).setCell ⟨b_n, 2, none⟩ (.slice a2913 n2913 b2913) = u := ⟨_, rfl⟩
                rw [hu336] at B_331 m_332 l_333 n_334 C_335
                rw [hu336]
                clear hu336
                refine ⟨C_335.out, ?_⟩
                refine anyU_one (i := 12) (by kernel_rfl) rfl ?_
                intro w337 hu337 hc337
                have B_338 := Lib.hid (bw_tr B_331.out hu337)
                clear B_331
                have m_338 := Lib.hid (MV.up m_332.out hu337)
                clear m_332
                have l_338 := Lib.hid (up_in hu337 l_333.out)
                clear l_333
                have n_338 := Lib.hid (MV.up n_334.out hu337)
                clear n_334
                have C_337 := Lib.hid hc337; clear hc337 hu337
                go_wp2_with fail
                refine ⟨C_337.out, ?_⟩
                refine anyU_nil (by kernel_rfl) ?_
                intro w339 hu339 hc339
                have B_340 := Lib.hid (bw_tr B_338.out hu339)
                clear B_338
                have m_340 := Lib.hid (MV.up m_338.out hu339)
                clear m_338
                have l_340 := Lib.hid (up_in hu339 l_338.out)
                clear l_338
                have n_340 := Lib.hid (MV.up n_338.out hu339)
                clear n_338
                have C_339 := Lib.hid hc339; clear hc339 hu339
                go_wp2_with fail
                go_meet
                case rel => exact ⟨_, _, _, rfl, n_340.out, m_340.out, l_340.out, B_340.out⟩
          case rest =>
            obtain ⟨x2, y2, z2, rfl, hn2, hm2, hl2, hb2⟩ := hcut
            have HN2 := Lib.hid hn2; have HM2 := Lib.hid hm2; have HL2 := Lib.hid hl2; have HB2 := Lib.hid hb2
            clear HN0 m_287 l_287 B_287 hn2 hm2 hl2 hb2 hsz
            by_cases hz : sr.2 = 0
            rotate_left
            · go_wp2_with fail
              go_meet
              case rel => exact ⟨_, _, _, sr, _, _, _, _, rfl, HN2.out, HM2.out, HL2.out, HB2.out, fun e => absurd e hz, fun _ => OK.out⟩
            have x3 := rd_cell HB2.out hbl G3.out; have q0 := lt_in HL2.out; have q1 := N_m_l.out; have q2 := N_l_n.out; have q3 := LB_l.out
            have HST := Lib.hid (own_store OK.out (m' := sr.1) (a := d4) (n := r3) (by rw [SR.out, ← hz]))
            obtain ⟨e0, e1, e2, e3⟩ := four_cells HL2.out; have f0 := frozen_in HL2.out 0; have f1 := frozen_in HL2.out 1; have f2 := frozen_in HL2.out 2; have f3 := frozen_in HL2.out 3
            have hd : d4 = 0 ∨ d4 = 1 ∨ d4 = 2 ∨ d4 = 3 := by omega
            rcases hd with rfl | rfl | rfl | rfl
            · go_wp2_with (go_at_call 15; refine (wrap_any _ _).mono ?_; rintro e w' ⟨rfl, rfl⟩)
              go_meet
              case rel => exact ⟨_, _, _, sr, (wrap32 r3), l1, l2, l3, by rw [hz], mv_cell HN2.out HL2.out (Ne.symm (Nat.ne_of_lt q2)), mv_cell HM2.out HL2.out (Nat.ne_of_lt q1), set_in HL2.out 0 (.int .i64 (wrap32 r3)), bw_set HB2.out q3 _, fun _ => by simpa using HST.out, fun e => absurd hz e⟩
            · go_wp2_with (go_at_call 15; refine (wrap_any _ _).mono ?_; rintro e w' ⟨rfl, rfl⟩)
              go_meet
              case rel => exact ⟨_, _, _, sr, l0, (wrap32 r3), l2, l3, by rw [hz], mv_cell HN2.out HL2.out (Ne.symm (Nat.ne_of_lt q2)), mv_cell HM2.out HL2.out (Nat.ne_of_lt q1), set_in HL2.out 1 (.int .i64 (wrap32 r3)), bw_set HB2.out q3 _, fun _ => by simpa using HST.out, fun e => absurd hz e⟩
            · go_wp2_with (go_at_call 15; refine (wrap_any _ _).mono ?_; rintro e w' ⟨rfl, rfl⟩)
              go_meet
              case rel => exact ⟨_, _, _, sr, l0, l1, (wrap32 r3), l3, by rw [hz], mv_cell HN2.out HL2.out (Ne.symm (Nat.ne_of_lt q2)), mv_cell HM2.out HL2.out (Nat.ne_of_lt q1), set_in HL2.out 2 (.int .i64 (wrap32 r3)), bw_set HB2.out q3 _, fun _ => by simpa using HST.out, fun e => absurd hz e⟩
            · go_wp2_with (go_at_call 15; refine (wrap_any _ _).mono ?_; rintro e w' ⟨rfl, rfl⟩)
              go_meet
              case rel => exact ⟨_, _, _, sr, l0, l1, l2, (wrap32 r3), by rw [hz], mv_cell HN2.out HL2.out (Ne.symm (Nat.ne_of_lt q2)), mv_cell HM2.out HL2.out (Nat.ne_of_lt q1), set_in HL2.out 3 (.int .i64 (wrap32 r3)), bw_set HB2.out q3 _, fun _ => by simpa using HST.out, fun e => absurd hz e⟩
        case rest =>
          obtain ⟨x2, y2, z2, r, k0, k1, k2, k3, rfl, hn3, hm3, hl3, hb3, hok3, hno3⟩ := hcut
          have HN3 := Lib.hid hn3; have HM3 := Lib.hid hm3; have HL3 := Lib.hid hl3; have HB3 := Lib.hid hb3; have HY := Lib.hid hok3; have HNo := Lib.hid hno3
          clear hn3 hm3 hl3 hb3 hok3 hno3 hsz
          clear HN0 m_287 l_287 B_287
          go_upto_if 79 with fail
          go_cut [] (fun wx => ∃ x y z m, MV wx b_m x y z m ∧ wx.heap[b_l]? = some (.cells #[.int .i64 k0, .int .i64 k1, .int .i64 k2, .int .i64 k3] 31 (0, 0)) ∧ Below w.heap.size w wx ∧ OwnOK m k0 k1 k2 k3)
          case first =>
            by_cases hz : r.2 = 0
            rotate_left
            · go_wp2_with fail
              go_meet
              case rel => exact ⟨_, _, _, m, HM3.out, HL3.out, HB3.out, HNo.out hz⟩
            obtain ⟨a3411, n3411, c3411, a3412, n3412, c3412, a3413, n3413, c3413, rfl, rfl, rfl, LN341⟩ := (HN3.out).shape
            obtain ⟨⟨c00, c01, c02⟩, d00, d01, d02⟩ := six (HN3.out).1
            have t0 := mv_lt HN3.out
            obtain ⟨⟨c10, c11, c12⟩, d10, d11, d12⟩ := six (HM3.out).1
            have t1 := mv_lt HM3.out
            go_wp2_with fail
            clear c00 d00 c01 d01 c02 d02 c10 d10 c11 d11 c12 d12 t0 t1
            have R342_0 := Lib.hid HN3.out.2
            have n_343 := Lib.hid (mv_other (.slice a3411 n3411 c3411) (.slice a3412 n3412 c3412) (.slice a3413 n3413 c3413) HN3.out HM3.out (Ne.symm (Nat.ne_of_lt N_m_n.out)))
            have m_344 := Lib.hid (mv_set HM3.out R342_0.out)
            have l_345 := Lib.hid (((set3_spec (x := .slice a3411 n3411 c3411) (y := .slice a3412 n3412 c3412) (z := .slice a3413 n3413 c3413) HM3.out.1).2 _ (Ne.symm (Nat.ne_of_lt N_m_l.out))).trans HL3.out)
            have B_346 := Lib.hid (bel_set3 (x := .slice a3411 n3411 c3411) (y := .slice a3412 n3412 c3412) (z := .slice a3413 n3413 c3413) HB3.out (LB_m.out))
            clear HN3
            clear HM3
            clear HL3
            clear HB3
            clear R342_0
            obtain ⟨gw347, hu347⟩ : ∃ u, ((wc.setCell ⟨b_m, 0, none⟩ (.slice a3411 n3411 c3411)).setCell ⟨b_m, 1, none⟩ (.slice a3412 n3412 c3412)).setCell ⟨b_m, 2, none⟩ (.slice a3413 n3413 c3413) = u := ⟨_, rfl⟩
            rw [hu347] at n_343 m_344 l_345 B_346
            rw [hu347]
            clear hu347
            go_meet
            case rel => exact ⟨_, _, _, r.1, m_344.out, l_345.out, B_346.out, HY.out hz⟩
          case rest =>
            obtain ⟨xm, ym, zm, mm, hm4, hl4, hb4, hok4⟩ := hcut
            have HM4 := Lib.hid hm4; have HL4 := Lib.hid hl4; have HB4 := Lib.hid hb4; have OK4 := Lib.hid hok4
            have SM4 := Lib.hid (OK4.out.good.small (by decide) (by decide))
            clear hm4 hl4 hb4 hok4 HN3 HM3 HL3 HB3
            go_wp2_with fail
            refine wp_loop_rounds 5 ?_
            rw [rounds_succ]
            obtain ⟨⟨c00, c01, c02⟩, d00, d01, d02⟩ := six (HM4.out).1
            have t0 := mv_lt HM4.out
            obtain ⟨e0, e1, e2, e3⟩ := four_cells HL4.out
            go_wp2_with fail
            clear e0 e1 e2 e3
            refine (load_any _ mm 1 0 (k0, 0) _ HM4.out.2 SM4.out OK4.out.k0).mono ?_
            rintro e w348 ⟨rfl, hb348⟩
            clear c00 d00 c01 d01 c02 d02 t0
            have m_349 := Lib.hid (MV.up HM4.out hb348)
            clear HM4
            have l_349 := Lib.hid (up_in hb348 HL4.out)
            clear HL4
            have B_349 := Lib.hid (bw_tr HB4.out hb348)
            clear HB4
            clear hb348
            obtain ⟨e0, e1, e2, e3⟩ := four_cells l_349.out
            go_wp2_with fail
            clear e0 e1 e2 e3
            rw [rounds_succ]
            obtain ⟨⟨c00, c01, c02⟩, d00, d01, d02⟩ := six (m_349.out).1
            have t0 := mv_lt m_349.out
            obtain ⟨e0, e1, e2, e3⟩ := four_cells l_349.out
            go_wp2_with fail
            clear e0 e1 e2 e3
            refine (load_any _ mm 1 1 (k1, 0) _ m_349.out.2 SM4.out OK4.out.k1).mono ?_
            rintro e w350 ⟨rfl, hb350⟩
            clear c00 d00 c01 d01 c02 d02 t0
            have m_351 := Lib.hid (MV.up m_349.out hb350)
            clear m_349
            have l_351 := Lib.hid (up_in hb350 l_349.out)
            clear l_349
            have B_351 := Lib.hid (bw_tr B_349.out hb350)
            clear B_349
            clear hb350
            obtain ⟨e0, e1, e2, e3⟩ := four_cells l_351.out
            go_wp2_with fail
            clear e0 e1 e2 e3
            rw [rounds_succ]
            obtain ⟨⟨c00, c01, c02⟩, d00, d01, d02⟩ := six (m_351.out).1
            have t0 := mv_lt m_351.out
            obtain ⟨e0, e1, e2, e3⟩ := four_cells l_351.out
            go_wp2_with fail
            clear e0 e1 e2 e3
            refine (load_any _ mm 1 2 (k2, 0) _ m_351.out.2 SM4.out OK4.out.k2).mono ?_
            rintro e w352 ⟨rfl, hb352⟩
            clear c00 d00 c01 d01 c02 d02 t0
            have m_353 := Lib.hid (MV.up m_351.out hb352)
            clear m_351
            have l_353 := Lib.hid (up_in hb352 l_351.out)
            clear l_351
            have B_353 := Lib.hid (bw_tr B_351.out hb352)
            clear B_351
            clear hb352
            obtain ⟨e0, e1, e2, e3⟩ := four_cells l_353.out
            go_wp2_with fail
            clear e0 e1 e2 e3
            rw [rounds_succ]
            obtain ⟨⟨c00, c01, c02⟩, d00, d01, d02⟩ := six (m_353.out).1
            have t0 := mv_lt m_353.out
            obtain ⟨e0, e1, e2, e3⟩ := four_cells l_353.out
            go_wp2_with fail
            clear e0 e1 e2 e3
            refine (load_any _ mm 1 3 (k3, 0) _ m_353.out.2 SM4.out OK4.out.k3).mono ?_
            rintro e w354 ⟨rfl, hb354⟩
            clear c00 d00 c01 d01 c02 d02 t0
            have m_355 := Lib.hid (MV.up m_353.out hb354)
            clear m_353
            have l_355 := Lib.hid (up_in hb354 l_353.out)
            clear l_353
            have B_355 := Lib.hid (bw_tr B_353.out hb354)
            clear B_353
            clear hb354
            obtain ⟨e0, e1, e2, e3⟩ := four_cells l_355.out
            go_wp2_with fail
            clear e0 e1 e2 e3
            rw [rounds_succ]
            go_wp2_with fail
            refine ⟨⟨j + 1, by omega, by omega, by go_num, ⟨_, _, _, _, _, _, _, _, m_355.out, l_355.out, OK4.out⟩, B_355.out⟩, by simp [intOf]; omega⟩
  case rest =>
    obtain ⟨hown, hbb⟩ := hcut
    obtain ⟨x, y, z, m, l0, l1, l2, l3, hm, hl, hok⟩ := hown
    have HBR := Lib.hid hbb; have HM := Lib.hid hm; have HL := Lib.hid hl; have OK := Lib.hid hok
    clear hbb hm hl hok B_9 OA
    have SM := Lib.hid (OK.out.good.small (by decide) (by decide))
    obtain ⟨m', hf, hg', hl0, hl1, hl2, hl3⟩ := own_flush OK.out
    have FR := Lib.hid hf; have GD := Lib.hid hg'; have P0 := Lib.hid hl0; have P1 := Lib.hid hl1; have P2 := Lib.hid hl2; have P3 := Lib.hid hl3; clear hf hg' hl0 hl1 hl2 hl3
    have SM' := Lib.hid (GD.out.small (by decide) (by decide))
    obtain ⟨⟨c00, c01, c02⟩, d00, d01, d02⟩ := six (HM.out).1
    have t0 := mv_lt HM.out
    go_wp2_with fail
    refine (flush_lit _ m 1 (m', 0) _ HM.out.2 SM.out FR.out).mono ?_
    rintro e w356 hr356
    obtain ⟨a3561, n3561, b3561, a3562, n3562, b3562, a3563, n3563, b3563, rfl, hm356, LN356, hb356⟩ := hr356.parts
    clear c00 d00 c01 d01 c02 d02 t0
    have B_357 := Lib.hid (bw_tr HBR.out hb356)
    clear HBR
    have m_357 := Lib.hid (MV.up HM.out hb356)
    clear HM
    have l_357 := Lib.hid (up_in hb356 HL.out)
    clear HL
    have HM356 := Lib.hid hm356; clear hm356 hb356
    obtain ⟨⟨c00, c01, c02⟩, d00, d01, d02⟩ := six (m_357.out).1
    have t0 := mv_lt m_357.out
    go_upto_region 22 with fail
    clear c00 d00 c01 d01 c02 d02 t0
    have B_358 := Lib.hid (bel_set3 (x := .slice a3561 n3561 b3561) (y := .slice a3562 n3562 b3562) (z := .slice a3563 n3563 b3563) B_357.out (LB_m.out))
    have m_359 := Lib.hid (mv_set m_357.out HM356.out)
    have l_360 := Lib.hid (((set3_spec (x := .slice a3561 n3561 b3561) (y := .slice a3562 n3562 b3562) (z := .slice a3563 n3563 b3563) m_357.out.1).2 _ (Ne.symm (Nat.ne_of_lt N_m_l.out))).trans l_357.out)
    clear B_357
    clear m_357
    clear l_357
    clear HM356
    obtain ⟨gw361, hu361⟩ : ∃ u, ((w356.setCell ⟨b_m, 0, none⟩ (.slice a3561 n3561 b3561)).setCell ⟨b_m, 1, none⟩ (.slice a3562 n3562 b3562)).setCell ⟨b_m, 2, none⟩ (.slice a3563 n3563 b3563) = u := ⟨_, rfl⟩
    rw [hu361] at B_358 m_359 l_360
    rw [hu361]
    clear hu361
    go_wp2_with fail
    refine wp_loop_rounds 5 ?_
    rw [rounds_succ]
    obtain ⟨⟨c00, c01, c02⟩, d00, d01, d02⟩ := six (m_359.out).1
    have t0 := mv_lt m_359.out
    go_wp2_with fail
    refine (load_any _ m' 0 0 (l0, 0) _ m_359.out.2 SM'.out P0.out).mono ?_
    rintro e w362 ⟨rfl, hb362⟩
    clear c00 d00 c01 d01 c02 d02 t0
    have B_363 := Lib.hid (bw_tr B_358.out hb362)
    clear B_358
    have m_363 := Lib.hid (MV.up m_359.out hb362)
    clear m_359
    have l_363 := Lib.hid (up_in hb362 l_360.out)
    clear l_360
    clear hb362
    obtain ⟨e0, e1, e2, e3⟩ := four_cells l_363.out
    go_wp2_with fail
    clear e0 e1 e2 e3
    rw [rounds_succ]
    obtain ⟨⟨c00, c01, c02⟩, d00, d01, d02⟩ := six (m_363.out).1
    have t0 := mv_lt m_363.out
    go_wp2_with fail
    refine (load_any _ m' 0 1 (l1, 0) _ m_363.out.2 SM'.out P1.out).mono ?_
    rintro e w364 ⟨rfl, hb364⟩
    clear c00 d00 c01 d01 c02 d02 t0
    have B_365 := Lib.hid (bw_tr B_363.out hb364)
    clear B_363
    have m_365 := Lib.hid (MV.up m_363.out hb364)
    clear m_363
    have l_365 := Lib.hid (up_in hb364 l_363.out)
    clear l_363
    clear hb364
    obtain ⟨e0, e1, e2, e3⟩ := four_cells l_365.out
    go_wp2_with fail
    clear e0 e1 e2 e3
    rw [rounds_succ]
    obtain ⟨⟨c00, c01, c02⟩, d00, d01, d02⟩ := six (m_365.out).1
    have t0 := mv_lt m_365.out
    go_wp2_with fail
    refine (load_any _ m' 0 2 (l2, 0) _ m_365.out.2 SM'.out P2.out).mono ?_
    rintro e w366 ⟨rfl, hb366⟩
    clear c00 d00 c01 d01 c02 d02 t0
    have B_367 := Lib.hid (bw_tr B_365.out hb366)
    clear B_365
    have m_367 := Lib.hid (MV.up m_365.out hb366)
    clear m_365
    have l_367 := Lib.hid (up_in hb366 l_365.out)
    clear l_365
    clear hb366
    obtain ⟨e0, e1, e2, e3⟩ := four_cells l_367.out
    go_wp2_with fail
    clear e0 e1 e2 e3
    rw [rounds_succ]
    obtain ⟨⟨c00, c01, c02⟩, d00, d01, d02⟩ := six (m_367.out).1
    have t0 := mv_lt m_367.out
    go_wp2_with fail
    refine (load_any _ m' 0 3 (l3, 0) _ m_367.out.2 SM'.out P3.out).mono ?_
    rintro e w368 ⟨rfl, hb368⟩
    clear c00 d00 c01 d01 c02 d02 t0
    have B_369 := Lib.hid (bw_tr B_367.out hb368)
    clear B_367
    have m_369 := Lib.hid (MV.up m_367.out hb368)
    clear m_367
    have l_369 := Lib.hid (up_in hb368 l_367.out)
    clear l_367
    clear hb368
    obtain ⟨e0, e1, e2, e3⟩ := four_cells l_369.out
    go_wp2_with fail
    clear e0 e1 e2 e3
    rw [rounds_succ]
    go_wp2_with fail
    go_ret
    exact ⟨ret1 (rbool rfl), B_369.out⟩
end Go.Proofs.Ytkhobelceghgfaa
