/-
  The contract of headstocklaw11.Step (printed by gen_memstep.py).
-/
import Derived.Test.YtkhobelceghgfaaMemReg
import Derived.Test.YtkhobelceghgfaaMemPlain2
import Derived.Deep.CutBlock
import Derived.Deep.DeepCutAuto
namespace Go.Proofs.Ytkhobelceghgfaa
open Go.RowKit
theorem four_cells {w : World} {b : Nat} {v0 v1 v2 v3 : Value} {t : TypeId} (h : w.heap[b]? = some (.cells #[v0, v1, v2, v3] t (0, 0))) : w.cell? ⟨b, 0, none⟩ = some v0 ∧ w.cell? ⟨b, 1, none⟩ = some v1 ∧ w.cell? ⟨b, 2, none⟩ = some v2 ∧ w.cell? ⟨b, 3, none⟩ = some v3 :=
  ⟨cell_in h rfl, cell_in h rfl, cell_in h rfl, cell_in h rfl⟩
theorem step_new {w : World} {x y z u0 u1 u2 u3 : Value} {m : Mem} (h : IsMem w (.agg #[x, y, z]) m) : ∃ b1 b2 b3, w.heap.size = b1 ∧ b1 + 1 = b2 ∧ b2 + 1 = b3 ∧
    MV (((w.alloc (.cells #[x, y, z] 27)).alloc (.cells #[u0, u1, u2, u3] 31)).alloc zM) b1 x y z m ∧
    (((w.alloc (.cells #[x, y, z] 27)).alloc (.cells #[u0, u1, u2, u3] 31)).alloc zM).heap[b2]? = some (.cells #[u0, u1, u2, u3] 31 (0, 0)) ∧
    MV (((w.alloc (.cells #[x, y, z] 27)).alloc (.cells #[u0, u1, u2, u3] 31)).alloc zM) b3 (.slice none 0 0) (.slice none 0 0) (.slice none 0 0) noMem ∧
    Below w.heap.size w (((w.alloc (.cells #[x, y, z] 27)).alloc (.cells #[u0, u1, u2, u3] 31)).alloc zM) := by
  refine ⟨_, _, _, rfl, rfl, rfl, ((mv_new h).up (bel_new _ _)).up (bel_new _ _), up_in (bel_new _ _) ?_, ?_, bw_tr (bw_tr (bel_new _ _) (bel_new _ _)) (bel_new _ _)⟩
  · have := new_in (w.alloc (.cells #[x, y, z] 27)) (.cells #[u0, u1, u2, u3] 31); simpa using this
  · have := mv_new (isMem_no ((w.alloc (.cells #[x, y, z] 27)).alloc (.cells #[u0, u1, u2, u3] 31))); simpa using this
set_option maxHeartbeats 8000000 in
set_option maxRecDepth 100000 in
theorem step_good (v : Value) (m : Mem) (H W : Nat) (r0 r1 r2 r3 : Int) (w : World) (hv : IsMem w v m) (hg : Good m H W) (hH : 2 ≤ H ∧ H ≤ 4) (hW : 1 ≤ W ∧ W ≤ 4) (hr : I64 r0 ∧ I64 r1 ∧ I64 r2 ∧ I64 r3) :
    Calls Try.prog 41 #[v, .agg #[.int .i64 r0, .int .i64 r1, .int .i64 r2, .int .i64 r3]] w fun e w' => ∃ n v' m', e = .returned (.tuple #[.int .i64 n, v']) ∧ IsMem w' v' m' ∧ Good m' H W ∧ Below w.heap.size w w' := by
  obtain ⟨i0, i1, i2, i3⟩ := hr
  have I0 := Lib.hid i0; have I1 := Lib.hid i1; have I2 := Lib.hid i2; have I3 := Lib.hid i3; clear i0 i1 i2 i3
  have pH := pickN_bd r1 H (by omega); have pW := pickN_bd r2 W (by omega); have p8 := pickN_bd r2 8 (by decide); have p3 := pickN_bd r2 3 (by decide); have p0 := pickN_bd r0 8 (by decide)
  obtain ⟨hh, e1⟩ : ∃ hh, pickN r1 H = hh := ⟨_, rfl⟩
  obtain ⟨at', e2⟩ : ∃ at', pickN r2 W = at' := ⟨_, rfl⟩
  obtain ⟨d8, e3⟩ : ∃ d8, pickN r2 8 = d8 := ⟨_, rfl⟩
  obtain ⟨d3, e4⟩ : ∃ d3, pickN r2 3 = d3 := ⟨_, rfl⟩
  obtain ⟨d0, e5⟩ : ∃ d0, pickN r0 8 = d0 := ⟨_, rfl⟩
  rw [e1] at pH; rw [e2] at pW; rw [e3] at p8; rw [e4] at p3; rw [e5] at p0
  have DH := Lib.hid e1; have DA := Lib.hid e2; have D8 := Lib.hid e3; have D3 := Lib.hid e4; have D0 := Lib.hid e5; clear e1 e2 e3 e4 e5
  have GD := Lib.hid hg; have SM := Lib.hid (hg.small (by omega) (by omega))
  obtain ⟨ax, nx, cx, ay, ny, cy, az, nz, cz, rfl, ln⟩ := hv.parts9
  obtain ⟨rfl, rfl, rfl⟩ : W = nx ∧ H = ny ∧ H = nz := ⟨(ln.out.1.trans hg.words).symm, (ln.out.2.1.trans hg.pend).symm, (ln.out.2.2.trans hg.res).symm⟩
  obtain ⟨b_m, b_r, b_o, eb1, eb2, eb3, hm1, hr1, ho1, hb1⟩ := step_new (u0 := .int .i64 r0) (u1 := .int .i64 r1) (u2 := .int .i64 r2) (u3 := .int .i64 r3) hv
  have HM := Lib.hid hm1; have HR := Lib.hid hr1; have HO := Lib.hid ho1; have HB := Lib.hid hb1
  have N_m_r : Hid (b_m < b_r) := Lib.hid (by omega); have N_m_o : Hid (b_m < b_o) := Lib.hid (by omega); have N_r_o : Hid (b_r < b_o) := Lib.hid (by omega)
  have LB_m : Hid (w.heap.size ≤ b_m) := Lib.hid (by omega); have LB_r : Hid (w.heap.size ≤ b_r) := Lib.hid (by omega); have LB_o : Hid (w.heap.size ≤ b_o) := Lib.hid (by omega)
  have E1 := Lib.hid eb1; have E2 := Lib.hid eb2; have E3 := Lib.hid eb3
  clear hm1 hr1 ho1 hb1 hv hg ln eb1 eb2 eb3
  go_enter Try.func41, Try.ntmps41
  go_upto_region 1 with (fail)
  rw [E1.out, E2.out, E3.out]
  obtain ⟨gw1, hu1⟩ : ∃ u, (((w.alloc (.cells #[.slice ax W cx, .slice ay H cy, .slice az H cz] 27)).alloc (.cells #[.int .i64 r0, .int .i64 r1, .int .i64 r2, .int .i64 r3] 31)).alloc zM) = u := ⟨_, rfl⟩
  rw [hu1] at HM HR HO HB
  rw [hu1]
  clear hu1
  obtain ⟨⟨c00, c01, c02⟩, d00, d01, d02⟩ := six (HM.out).1
  have t0 := mv_lt HM.out
  obtain ⟨e0, e1, e2, e3⟩ := four_cells HR.out
  go_upto_region 5 with (first | (go_at_call 12; (with_reducible refine (pick11 _ _ _ _ I1.out (by omega) DH.out).mono ?_); rintro e w' ⟨rfl, rfl⟩) | (go_at_call 12; (with_reducible refine (pick11 _ _ _ _ I2.out (by omega) DA.out).mono ?_); rintro e w' ⟨rfl, rfl⟩))
  clear c00 d00 c01 d01 c02 d02 t0
  clear e0 e1 e2 e3
  have N_m_n := Lib.hid (mv_lt HM.out)
  have N_r_n := Lib.hid (lt_in HR.out)
  have N_o_n := Lib.hid (mv_lt HO.out)
  have LB_n := Lib.hid (HB.out).size
  have n_2 := Lib.hid (mv_new HM.out.2)
  have m_3 := Lib.hid (MV.up HM.out (bel_new gw1 (.cells #[.slice ax W cx, .slice ay H cy, .slice az H cz] 27)))
  clear HM
  have r_3 := Lib.hid (up_in (bel_new gw1 (.cells #[.slice ax W cx, .slice ay H cy, .slice az H cz] 27)) HR.out)
  clear HR
  have o_3 := Lib.hid (MV.up HO.out (bel_new gw1 (.cells #[.slice ax W cx, .slice ay H cy, .slice az H cz] 27)))
  clear HO
  have B_3 := Lib.hid (bw_tr HB.out (bel_new gw1 (.cells #[.slice ax W cx, .slice ay H cy, .slice az H cz] 27)))
  clear HB
  obtain ⟨gw4, hu4⟩ : ∃ u, gw1.alloc (.cells #[.slice ax W cx, .slice ay H cy, .slice az H cz] 27) = u := ⟨_, rfl⟩
  rw [hu4] at m_3 r_3 o_3 B_3 n_2
  rw [hu4]
  clear hu4
  obtain ⟨b_n, hq⟩ : ∃ q, gw1.heap.size = q := ⟨_, rfl⟩
  rw [hq] at n_2 N_m_n N_r_n N_o_n LB_n
  rw [hq]
  clear hq
  obtain ⟨e0, e1, e2, e3⟩ := four_cells r_3.out
  go_upto_block 0 with (go_at_call 12; (with_reducible refine (pick11 _ _ _ _ I0.out (by decide) D0.out).mono ?_); rintro e w' ⟨rfl, rfl⟩)
  clear e0 e1 e2 e3
  go_cut [8, 10] (fun s8 s10 wx => ∃ (u k : Int) (a1 : Option Addr) (n1 c1 : Nat) (a2 : Option Addr) (n2 c2 : Nat) (a3 : Option Addr) (n3 c3 : Nat) (m' : Mem), s8 = .int .i64 u ∧ s10 = .int .i64 k ∧ MV wx b_m (.slice ax W cx) (.slice ay H cy) (.slice az H cz) m ∧ MV wx b_n (.slice a1 n1 c1) (.slice a2 n2 c2) (.slice a3 n3 c3) m' ∧ MV wx b_o (.slice none 0 0) (.slice none 0 0) (.slice none 0 0) noMem ∧ Below w.heap.size w wx ∧ (k = 0 → Good m' H W))
  case first =>
    have hd : d0 = 0 ∨ d0 = 1 ∨ d0 = 2 ∨ d0 = 3 ∨ d0 = 4 ∨ d0 = 5 ∨ d0 = 6 ∨ d0 = 7 := by omega
    have hW3 : W ≤ 1000 := (by omega)
    rcases hd with rfl | rfl | rfl | rfl | rfl | rfl | rfl | rfl
    · have D0' := D0; clear D0'
      obtain ⟨⟨c00, c01, c02⟩, d00, d01, d02⟩ := six (m_3.out).1
      have t0 := mv_lt m_3.out
      go_wp2_with fail
      obtain ⟨lr, hlr⟩ : ∃ lr, loadR m hh at' = lr := ⟨_, rfl⟩; have LR := Lib.hid hlr; clear hlr
      refine (load_any _ m hh at' lr _ m_3.out.2 SM.out LR.out).mono ?_
      rintro e w5 ⟨rfl, hb5⟩
      clear c00 d00 c01 d01 c02 d02 t0
      have m_6 := Lib.hid (MV.up m_3.out hb5)
      clear m_3
      have r_6 := Lib.hid (up_in hb5 r_3.out)
      clear r_3
      have o_6 := Lib.hid (MV.up o_3.out hb5)
      clear o_3
      have B_6 := Lib.hid (bw_tr B_3.out hb5)
      clear B_3
      have n_6 := Lib.hid (MV.up n_2.out hb5)
      clear n_2
      clear hb5
      go_wp2_with fail
      go_meet
      case rel => exact ⟨_, _, _, _, _, _, _, _, _, _, _, _, rfl, rfl, m_6.out, n_6.out, o_6.out, B_6.out, fun _ => GD.out⟩
    · have D0' := D0; clear D0'
      obtain ⟨sr, hsr⟩ : ∃ sr, storeR m hh at' r3 = sr := ⟨_, rfl⟩; have SR := Lib.hid hsr; clear hsr
      obtain ⟨⟨c00, c01, c02⟩, d00, d01, d02⟩ := six (m_3.out).1
      have t0 := mv_lt m_3.out
      obtain ⟨e0, e1, e2, e3⟩ := four_cells r_3.out
      go_wp2_with fail
      clear e0 e1 e2 e3
      refine (store_lit _ m hh at' r3 sr _ m_3.out.2 SM.out SR.out).mono ?_
      rintro e w7 hr7
      obtain ⟨a71, n71, b71, a72, n72, b72, a73, n73, b73, rfl, hm7, LN7, hb7⟩ := hr7.parts
      clear c00 d00 c01 d01 c02 d02 t0
      have m_8 := Lib.hid (MV.up m_3.out hb7)
      clear m_3
      have r_8 := Lib.hid (up_in hb7 r_3.out)
      clear r_3
      have o_8 := Lib.hid (MV.up o_3.out hb7)
      clear o_3
      have B_8 := Lib.hid (bw_tr B_3.out hb7)
      clear B_3
      have n_8 := Lib.hid (MV.up n_2.out hb7)
      clear n_2
      have HM7 := Lib.hid hm7; clear hm7 hb7
      obtain ⟨⟨c00, c01, c02⟩, d00, d01, d02⟩ := six (n_8.out).1
      have t0 := mv_lt n_8.out
      go_wp2_with fail
      clear c00 d00 c01 d01 c02 d02 t0
      have m_9 := Lib.hid (mv_other (.slice a71 n71 b71) (.slice a72 n72 b72) (.slice a73 n73 b73) m_8.out n_8.out (Nat.ne_of_lt N_m_n.out))
      have r_10 := Lib.hid (((set3_spec (x := .slice a71 n71 b71) (y := .slice a72 n72 b72) (z := .slice a73 n73 b73) n_8.out.1).2 _ (Nat.ne_of_lt N_r_n.out)).trans r_8.out)
      have o_11 := Lib.hid (mv_other (.slice a71 n71 b71) (.slice a72 n72 b72) (.slice a73 n73 b73) o_8.out n_8.out (Nat.ne_of_lt N_o_n.out))
      have B_12 := Lib.hid (bel_set3 (x := .slice a71 n71 b71) (y := .slice a72 n72 b72) (z := .slice a73 n73 b73) B_8.out (LB_n.out))
      have n_13 := Lib.hid (mv_set n_8.out HM7.out)
      clear m_8
      clear r_8
      clear o_8
      clear B_8
      clear n_8
      clear HM7
      obtain ⟨gw14, hu14⟩ : ∃ u, ((w7.setCell ⟨b_n, 0, none⟩ (.slice a71 n71 b71)).setCell ⟨b_n, 1, none⟩ (.slice a72 n72 b72)).setCell ⟨b_n, 2, none⟩ (.slice a73 n73 b73) = u := ⟨_, rfl⟩
      rw [hu14] at m_9 r_10 o_11 B_12 n_13
      rw [hu14]
      clear hu14
      go_meet
      case rel => exact ⟨_, _, _, _, _, _, _, _, _, _, _, _, rfl, rfl, m_9.out, n_13.out, o_11.out, B_12.out, fun e => good_store GD.out (m' := sr.1) (h := hh) (a := at') (n := r3) (by rw [SR.out, ← e])⟩
    · have D0' := D0; clear D0'
      obtain ⟨sr, hsr⟩ : ∃ sr, storeR m hh at' r3 = sr := ⟨_, rfl⟩; have SR := Lib.hid hsr; clear hsr
      obtain ⟨⟨c00, c01, c02⟩, d00, d01, d02⟩ := six (m_3.out).1
      have t0 := mv_lt m_3.out
      obtain ⟨e0, e1, e2, e3⟩ := four_cells r_3.out
      go_wp2_with fail
      clear e0 e1 e2 e3
      refine (store_lit _ m hh at' r3 sr _ m_3.out.2 SM.out SR.out).mono ?_
      rintro e w15 hr15
      obtain ⟨a151, n151, b151, a152, n152, b152, a153, n153, b153, rfl, hm15, LN15, hb15⟩ := hr15.parts
      clear c00 d00 c01 d01 c02 d02 t0
      have m_16 := Lib.hid (MV.up m_3.out hb15)
      clear m_3
      have r_16 := Lib.hid (up_in hb15 r_3.out)
      clear r_3
      have o_16 := Lib.hid (MV.up o_3.out hb15)
      clear o_3
      have B_16 := Lib.hid (bw_tr B_3.out hb15)
      clear B_3
      have n_16 := Lib.hid (MV.up n_2.out hb15)
      clear n_2
      have HM15 := Lib.hid hm15; clear hm15 hb15
      obtain ⟨⟨c00, c01, c02⟩, d00, d01, d02⟩ := six (n_16.out).1
      have t0 := mv_lt n_16.out
      go_wp2_with fail
      clear c00 d00 c01 d01 c02 d02 t0
      have m_17 := Lib.hid (mv_other (.slice a151 n151 b151) (.slice a152 n152 b152) (.slice a153 n153 b153) m_16.out n_16.out (Nat.ne_of_lt N_m_n.out))
      have r_18 := Lib.hid (((set3_spec (x := .slice a151 n151 b151) (y := .slice a152 n152 b152) (z := .slice a153 n153 b153) n_16.out.1).2 _ (Nat.ne_of_lt N_r_n.out)).trans r_16.out)
      have o_19 := Lib.hid (mv_other (.slice a151 n151 b151) (.slice a152 n152 b152) (.slice a153 n153 b153) o_16.out n_16.out (Nat.ne_of_lt N_o_n.out))
      have B_20 := Lib.hid (bel_set3 (x := .slice a151 n151 b151) (y := .slice a152 n152 b152) (z := .slice a153 n153 b153) B_16.out (LB_n.out))
      have n_21 := Lib.hid (mv_set n_16.out HM15.out)
      clear m_16
      clear r_16
      clear o_16
      clear B_16
      clear n_16
      clear HM15
      obtain ⟨gw22, hu22⟩ : ∃ u, ((w15.setCell ⟨b_n, 0, none⟩ (.slice a151 n151 b151)).setCell ⟨b_n, 1, none⟩ (.slice a152 n152 b152)).setCell ⟨b_n, 2, none⟩ (.slice a153 n153 b153) = u := ⟨_, rfl⟩
      rw [hu22] at m_17 r_18 o_19 B_20 n_21
      rw [hu22]
      clear hu22
      go_meet
      case rel => exact ⟨_, _, _, _, _, _, _, _, _, _, _, _, rfl, rfl, m_17.out, n_21.out, o_19.out, B_20.out, fun e => good_store GD.out (m' := sr.1) (h := hh) (a := at') (n := r3) (by rw [SR.out, ← e])⟩
    · have D0' := D0; clear D0'
      obtain ⟨sr, hsr⟩ : ∃ sr, drainR m hh d8 = sr := ⟨_, rfl⟩; have SR := Lib.hid hsr; clear hsr
      go_upto_region 15 with (fail)
      refine wp_region_up (UpB b_n gw4) [true, true, true, true, true] (by kernel_rfl) (by kernel_rfl) (by kernel_rfl) (fun _ _ h hu => h.up hu) (upb_refl _ _) ?ra23 ?rh23 ?rt23
      case rh23 =>
        intro w0 h0
        obtain ⟨⟨c0, c1, c2⟩, d0, d1, d2⟩ := six (m_3.out).1
        have t0 := mv_lt m_3.out
        have ne0 := Nat.ne_of_lt N_m_n.out
        have rx0 := fun x => h0.wd t0 ne0 c0 x
        have rx1 := fun x => h0.wd t0 ne0 c1 x
        have rx2 := fun x => h0.wd t0 ne0 c2 x
        clear c0 c1 c2 d0 d1 d2
        have rx3 := fun x => h0.wd (lt_in r_3.out) (Nat.ne_of_lt N_r_n.out) (four_cells r_3.out).2.2.1 x
        simp only [pickM]
        repeat (go_big_quiet_step ((go_at_call 12; with_reducible exact quiet_s (pick11 _ _ _ _ I2.out (by decide) D8.out))))
        refine wpQuiet_nil ?_
        rfl
      case rt23 =>
        change wpAnyU _ _ _ _ _ 6 _ _ _
        refine anyU_one (i := 5) (by kernel_rfl) rfl ?_
        intro w24 hu24 hc24
        have hu24 := bw_undrew hu24
        have m_25 := Lib.hid (MV.up m_3.out hu24)
        clear m_3
        have r_25 := Lib.hid (up_in hu24 r_3.out)
        clear r_3
        have o_25 := Lib.hid (MV.up o_3.out hu24)
        clear o_3
        have B_25 := Lib.hid (bw_tr B_3.out hu24)
        clear B_3
        have n_25 := Lib.hid (MV.up n_2.out hu24)
        clear n_2
        have C_24 := Lib.hid hc24; clear hc24 hu24
        go_wp2_with fail
        refine (drain_lit _ m hh d8 sr _ m_25.out.2 SM.out SR.out).mono ?_
        rintro e w26 hr26
        obtain ⟨a261, n261, b261, a262, n262, b262, a263, n263, b263, rfl, hm26, LN26, hb26⟩ := hr26.parts
        have m_27 := Lib.hid (MV.up m_25.out hb26)
        clear m_25
        have r_27 := Lib.hid (up_in hb26 r_25.out)
        clear r_25
        have o_27 := Lib.hid (MV.up o_25.out hb26)
        clear o_25
        have B_27 := Lib.hid (bw_tr B_25.out hb26)
        clear B_25
        have n_27 := Lib.hid (MV.up n_25.out hb26)
        clear n_25
        have C_27 := Lib.hid ((C_24.out).up hb26)
        clear C_24
        have HM26 := Lib.hid hm26; clear hm26 hb26
        go_wp2_with fail
        refine ⟨C_27.out, ?_⟩
        refine anyU_pures [false, false, false, false, false, false, true, true, true] 2 (by kernel_rfl) (by kernel_rfl) (by kernel_rfl) (fun _ _ h hu => h.up hu) C_27.out ?ra28 ?rh28 ?rt28
        case rh28 =>
          intro w0 h0
          simp only [pickM]
          repeat (go_big_quiet_step (fail))
          refine wpQuiet_nil ?_
          rfl
        case rt28 =>
          refine anyU_one (i := 9) (by kernel_rfl) rfl ?_
          intro w29 hu29 hc29
          have m_30 := Lib.hid (MV.up m_27.out hu29)
          clear m_27
          have r_30 := Lib.hid (up_in hu29 r_27.out)
          clear r_27
          have o_30 := Lib.hid (MV.up o_27.out hu29)
          clear o_27
          have B_30 := Lib.hid (bw_tr B_27.out hu29)
          clear B_27
          have n_30 := Lib.hid (MV.up n_27.out hu29)
          clear n_27
          have R26_30 := Lib.hid ((HM26.out).below hu29)
          clear HM26
          have C_29 := Lib.hid hc29; clear hc29 hu29
          obtain ⟨⟨c00, c01, c02⟩, d00, d01, d02⟩ := six (n_30.out).1
          have t0 := mv_lt n_30.out
          go_wp2_with fail
          clear c00 d00 c01 d01 c02 d02 t0
          have m_31 := Lib.hid (mv_other (.slice a261 n261 b261) (.slice a262 n262 b262) (.slice a263 n263 b263) m_30.out n_30.out (Nat.ne_of_lt N_m_n.out))
          have r_32 := Lib.hid (((set3_spec (x := .slice a261 n261 b261) (y := .slice a262 n262 b262) (z := .slice a263 n263 b263) n_30.out.1).2 _ (Nat.ne_of_lt N_r_n.out)).trans r_30.out)
          have o_33 := Lib.hid (mv_other (.slice a261 n261 b261) (.slice a262 n262 b262) (.slice a263 n263 b263) o_30.out n_30.out (Nat.ne_of_lt N_o_n.out))
          have B_34 := Lib.hid (bel_set3 (x := .slice a261 n261 b261) (y := .slice a262 n262 b262) (z := .slice a263 n263 b263) B_30.out (LB_n.out))
          have n_35 := Lib.hid (mv_set n_30.out R26_30.out)
          have C_36 := Lib.hid (upb_set3 (q := b_n) (.slice a261 n261 b261) (.slice a262 n262 b262) (.slice a263 n263 b263) C_29.out)
          clear m_30
          clear r_30
          clear o_30
          clear B_30
          clear n_30
          clear R26_30
          clear C_29
          obtain ⟨gw37, hu37⟩ : ∃ u, ((w29.setCell ⟨b_n, 0, none⟩ (.slice a261 n261 b261)).setCell ⟨b_n, 1, none⟩ (.slice a262 n262 b262)).setCell ⟨b_n, 2, none⟩ (.slice a263 n263 b263) = u := ⟨_, rfl⟩
          rw [hu37] at m_31 r_32 o_33 B_34 n_35 C_36
          rw [hu37]
          clear hu37
          refine ⟨C_36.out, ?_⟩
          refine anyU_one (i := 10) (by kernel_rfl) rfl ?_
          intro w38 hu38 hc38
          have m_39 := Lib.hid (MV.up m_31.out hu38)
          clear m_31
          have r_39 := Lib.hid (up_in hu38 r_32.out)
          clear r_32
          have o_39 := Lib.hid (MV.up o_33.out hu38)
          clear o_33
          have B_39 := Lib.hid (bw_tr B_34.out hu38)
          clear B_34
          have n_39 := Lib.hid (MV.up n_35.out hu38)
          clear n_35
          have C_38 := Lib.hid hc38; clear hc38 hu38
          go_wp2_with fail
          refine ⟨C_38.out, ?_⟩
          refine anyU_nil (by kernel_rfl) ?_
          intro w40 hu40 hc40
          have m_41 := Lib.hid (MV.up m_39.out hu40)
          clear m_39
          have r_41 := Lib.hid (up_in hu40 r_39.out)
          clear r_39
          have o_41 := Lib.hid (MV.up o_39.out hu40)
          clear o_39
          have B_41 := Lib.hid (bw_tr B_39.out hu40)
          clear B_39
          have n_41 := Lib.hid (MV.up n_39.out hu40)
          clear n_39
          have C_40 := Lib.hid hc40; clear hc40 hu40
          go_wp2_with fail
          go_meet
          case rel => exact ⟨_, _, _, _, _, _, _, _, _, _, _, _, rfl, rfl, m_41.out, n_41.out, o_41.out, B_41.out, fun e => good_drain GD.out (m' := sr.1) (h := hh) (k := d8) (by rw [SR.out, ← e])⟩
    · have D0' := D0; clear D0'
      obtain ⟨sr, hsr⟩ : ∃ sr, drainR m hh d8 = sr := ⟨_, rfl⟩; have SR := Lib.hid hsr; clear hsr
      go_upto_region 15 with (fail)
      refine wp_region_up (UpB b_n gw4) [true, true, true, true, true] (by kernel_rfl) (by kernel_rfl) (by kernel_rfl) (fun _ _ h hu => h.up hu) (upb_refl _ _) ?ra42 ?rh42 ?rt42
      case rh42 =>
        intro w0 h0
        obtain ⟨⟨c0, c1, c2⟩, d0, d1, d2⟩ := six (m_3.out).1
        have t0 := mv_lt m_3.out
        have ne0 := Nat.ne_of_lt N_m_n.out
        have rx0 := fun x => h0.wd t0 ne0 c0 x
        have rx1 := fun x => h0.wd t0 ne0 c1 x
        have rx2 := fun x => h0.wd t0 ne0 c2 x
        clear c0 c1 c2 d0 d1 d2
        have rx3 := fun x => h0.wd (lt_in r_3.out) (Nat.ne_of_lt N_r_n.out) (four_cells r_3.out).2.2.1 x
        simp only [pickM]
        repeat (go_big_quiet_step ((go_at_call 12; with_reducible exact quiet_s (pick11 _ _ _ _ I2.out (by decide) D8.out))))
        refine wpQuiet_nil ?_
        rfl
      case rt42 =>
        change wpAnyU _ _ _ _ _ 6 _ _ _
        refine anyU_one (i := 5) (by kernel_rfl) rfl ?_
        intro w43 hu43 hc43
        have hu43 := bw_undrew hu43
        have m_44 := Lib.hid (MV.up m_3.out hu43)
        clear m_3
        have r_44 := Lib.hid (up_in hu43 r_3.out)
        clear r_3
        have o_44 := Lib.hid (MV.up o_3.out hu43)
        clear o_3
        have B_44 := Lib.hid (bw_tr B_3.out hu43)
        clear B_3
        have n_44 := Lib.hid (MV.up n_2.out hu43)
        clear n_2
        have C_43 := Lib.hid hc43; clear hc43 hu43
        go_wp2_with fail
        refine (drain_lit _ m hh d8 sr _ m_44.out.2 SM.out SR.out).mono ?_
        rintro e w45 hr45
        obtain ⟨a451, n451, b451, a452, n452, b452, a453, n453, b453, rfl, hm45, LN45, hb45⟩ := hr45.parts
        have m_46 := Lib.hid (MV.up m_44.out hb45)
        clear m_44
        have r_46 := Lib.hid (up_in hb45 r_44.out)
        clear r_44
        have o_46 := Lib.hid (MV.up o_44.out hb45)
        clear o_44
        have B_46 := Lib.hid (bw_tr B_44.out hb45)
        clear B_44
        have n_46 := Lib.hid (MV.up n_44.out hb45)
        clear n_44
        have C_46 := Lib.hid ((C_43.out).up hb45)
        clear C_43
        have HM45 := Lib.hid hm45; clear hm45 hb45
        go_wp2_with fail
        refine ⟨C_46.out, ?_⟩
        refine anyU_pures [false, false, false, false, false, false, true, true, true] 2 (by kernel_rfl) (by kernel_rfl) (by kernel_rfl) (fun _ _ h hu => h.up hu) C_46.out ?ra47 ?rh47 ?rt47
        case rh47 =>
          intro w0 h0
          simp only [pickM]
          repeat (go_big_quiet_step (fail))
          refine wpQuiet_nil ?_
          rfl
        case rt47 =>
          refine anyU_one (i := 9) (by kernel_rfl) rfl ?_
          intro w48 hu48 hc48
          have m_49 := Lib.hid (MV.up m_46.out hu48)
          clear m_46
          have r_49 := Lib.hid (up_in hu48 r_46.out)
          clear r_46
          have o_49 := Lib.hid (MV.up o_46.out hu48)
          clear o_46
          have B_49 := Lib.hid (bw_tr B_46.out hu48)
          clear B_46
          have n_49 := Lib.hid (MV.up n_46.out hu48)
          clear n_46
          have R45_49 := Lib.hid ((HM45.out).below hu48)
          clear HM45
          have C_48 := Lib.hid hc48; clear hc48 hu48
          obtain ⟨⟨c00, c01, c02⟩, d00, d01, d02⟩ := six (n_49.out).1
          have t0 := mv_lt n_49.out
          go_wp2_with fail
          clear c00 d00 c01 d01 c02 d02 t0
          have m_50 := Lib.hid (mv_other (.slice a451 n451 b451) (.slice a452 n452 b452) (.slice a453 n453 b453) m_49.out n_49.out (Nat.ne_of_lt N_m_n.out))
          have r_51 := Lib.hid (((set3_spec (x := .slice a451 n451 b451) (y := .slice a452 n452 b452) (z := .slice a453 n453 b453) n_49.out.1).2 _ (Nat.ne_of_lt N_r_n.out)).trans r_49.out)
          have o_52 := Lib.hid (mv_other (.slice a451 n451 b451) (.slice a452 n452 b452) (.slice a453 n453 b453) o_49.out n_49.out (Nat.ne_of_lt N_o_n.out))
          have B_53 := Lib.hid (bel_set3 (x := .slice a451 n451 b451) (y := .slice a452 n452 b452) (z := .slice a453 n453 b453) B_49.out (LB_n.out))
          have n_54 := Lib.hid (mv_set n_49.out R45_49.out)
          have C_55 := Lib.hid (upb_set3 (q := b_n) (.slice a451 n451 b451) (.slice a452 n452 b452) (.slice a453 n453 b453) C_48.out)
          clear m_49
          clear r_49
          clear o_49
          clear B_49
          clear n_49
          clear R45_49
          clear C_48
          obtain ⟨gw56, hu56⟩ : ∃ u, ((w48.setCell ⟨b_n, 0, none⟩ (.slice a451 n451 b451)).setCell ⟨b_n, 1, none⟩ (.slice a452 n452 b452)).setCell ⟨b_n, 2, none⟩ (.slice a453 n453 b453) = u := ⟨_, rfl⟩
          rw [hu56] at m_50 r_51 o_52 B_53 n_54 C_55
          rw [hu56]
          clear hu56
          refine ⟨C_55.out, ?_⟩
          refine anyU_one (i := 10) (by kernel_rfl) rfl ?_
          intro w57 hu57 hc57
          have m_58 := Lib.hid (MV.up m_50.out hu57)
          clear m_50
          have r_58 := Lib.hid (up_in hu57 r_51.out)
          clear r_51
          have o_58 := Lib.hid (MV.up o_52.out hu57)
          clear o_52
          have B_58 := Lib.hid (bw_tr B_53.out hu57)
          clear B_53
          have n_58 := Lib.hid (MV.up n_54.out hu57)
          clear n_54
          have C_57 := Lib.hid hc57; clear hc57 hu57
          go_wp2_with fail
          refine ⟨C_57.out, ?_⟩
          refine anyU_nil (by kernel_rfl) ?_
          intro w59 hu59 hc59
          have m_60 := Lib.hid (MV.up m_58.out hu59)
          clear m_58
          have r_60 := Lib.hid (up_in hu59 r_58.out)
          clear r_58
          have o_60 := Lib.hid (MV.up o_58.out hu59)
          clear o_58
          have B_60 := Lib.hid (bw_tr B_58.out hu59)
          clear B_58
          have n_60 := Lib.hid (MV.up n_58.out hu59)
          clear n_58
          have C_59 := Lib.hid hc59; clear hc59 hu59
          go_wp2_with fail
          go_meet
          case rel => exact ⟨_, _, _, _, _, _, _, _, _, _, _, _, rfl, rfl, m_60.out, n_60.out, o_60.out, B_60.out, fun e => good_drain GD.out (m' := sr.1) (h := hh) (k := d8) (by rw [SR.out, ← e])⟩
    · have D0' := D0; clear D0'
      obtain ⟨sr, hsr⟩ : ∃ sr, reserveR m hh at' = sr := ⟨_, rfl⟩; have SR := Lib.hid hsr; clear hsr
      obtain ⟨su, sr⟩ := sr
      obtain ⟨⟨c00, c01, c02⟩, d00, d01, d02⟩ := six (m_3.out).1
      have t0 := mv_lt m_3.out
      obtain ⟨e0, e1, e2, e3⟩ := four_cells r_3.out
      go_wp2_with fail
      clear e0 e1 e2 e3
      refine (reserve_lit _ m hh at' su sr _ m_3.out.2 SM.out SR.out).mono ?_
      rintro e w61 hr61
      obtain ⟨a611, n611, b611, a612, n612, b612, a613, n613, b613, rfl, hm61, LN61, hb61⟩ := hr61.parts
      clear c00 d00 c01 d01 c02 d02 t0
      have m_62 := Lib.hid (MV.up m_3.out hb61)
      clear m_3
      have r_62 := Lib.hid (up_in hb61 r_3.out)
      clear r_3
      have o_62 := Lib.hid (MV.up o_3.out hb61)
      clear o_3
      have B_62 := Lib.hid (bw_tr B_3.out hb61)
      clear B_3
      have n_62 := Lib.hid (MV.up n_2.out hb61)
      clear n_2
      have HM61 := Lib.hid hm61; clear hm61 hb61
      obtain ⟨⟨c00, c01, c02⟩, d00, d01, d02⟩ := six (n_62.out).1
      have t0 := mv_lt n_62.out
      go_wp2_with fail
      clear c00 d00 c01 d01 c02 d02 t0
      have m_63 := Lib.hid (mv_other (.slice a611 n611 b611) (.slice a612 n612 b612) (.slice a613 n613 b613) m_62.out n_62.out (Nat.ne_of_lt N_m_n.out))
      have r_64 := Lib.hid (((set3_spec (x := .slice a611 n611 b611) (y := .slice a612 n612 b612) (z := .slice a613 n613 b613) n_62.out.1).2 _ (Nat.ne_of_lt N_r_n.out)).trans r_62.out)
      have o_65 := Lib.hid (mv_other (.slice a611 n611 b611) (.slice a612 n612 b612) (.slice a613 n613 b613) o_62.out n_62.out (Nat.ne_of_lt N_o_n.out))
      have B_66 := Lib.hid (bel_set3 (x := .slice a611 n611 b611) (y := .slice a612 n612 b612) (z := .slice a613 n613 b613) B_62.out (LB_n.out))
      have n_67 := Lib.hid (mv_set n_62.out HM61.out)
      clear m_62
      clear r_62
      clear o_62
      clear B_62
      clear n_62
      clear HM61
      obtain ⟨gw68, hu68⟩ : ∃ u, ((w61.setCell ⟨b_n, 0, none⟩ (.slice a611 n611 b611)).setCell ⟨b_n, 1, none⟩ (.slice a612 n612 b612)).setCell ⟨b_n, 2, none⟩ (.slice a613 n613 b613) = u := ⟨_, rfl⟩
      rw [hu68] at m_63 r_64 o_65 B_66 n_67
      rw [hu68]
      clear hu68
      go_meet
      case rel => exact ⟨_, _, _, _, _, _, _, _, _, _, _, _, rfl, rfl, m_63.out, n_67.out, o_65.out, B_66.out, fun e => good_reserve GD.out (m' := sr.1) (h := hh) (a := at') (u := su) (by rw [SR.out, ← e])⟩
    · have D0' := D0; clear D0'
      obtain ⟨sr, hsr⟩ : ∃ sr, condR m hh at' r3 = sr := ⟨_, rfl⟩; have SR := Lib.hid hsr; clear hsr
      obtain ⟨su, sr⟩ := sr
      cases su
      · have SR' := SR; clear SR'
        obtain ⟨⟨c00, c01, c02⟩, d00, d01, d02⟩ := six (m_3.out).1
        have t0 := mv_lt m_3.out
        obtain ⟨e0, e1, e2, e3⟩ := four_cells r_3.out
        go_wp2_with fail
        clear e0 e1 e2 e3
        refine (cond_lit _ m hh at' r3 false sr _ m_3.out.2 SM.out SR.out).mono ?_
        rintro e w69 hr69
        obtain ⟨a691, n691, b691, a692, n692, b692, a693, n693, b693, rfl, hm69, LN69, hb69⟩ := hr69.parts
        clear c00 d00 c01 d01 c02 d02 t0
        have m_70 := Lib.hid (MV.up m_3.out hb69)
        clear m_3
        have r_70 := Lib.hid (up_in hb69 r_3.out)
        clear r_3
        have o_70 := Lib.hid (MV.up o_3.out hb69)
        clear o_3
        have B_70 := Lib.hid (bw_tr B_3.out hb69)
        clear B_3
        have n_70 := Lib.hid (MV.up n_2.out hb69)
        clear n_2
        have HM69 := Lib.hid hm69; clear hm69 hb69
        obtain ⟨⟨c00, c01, c02⟩, d00, d01, d02⟩ := six (n_70.out).1
        have t0 := mv_lt n_70.out
        go_wp2_with fail
        clear c00 d00 c01 d01 c02 d02 t0
        have m_71 := Lib.hid (mv_other (.slice a691 n691 b691) (.slice a692 n692 b692) (.slice a693 n693 b693) m_70.out n_70.out (Nat.ne_of_lt N_m_n.out))
        have r_72 := Lib.hid (((set3_spec (x := .slice a691 n691 b691) (y := .slice a692 n692 b692) (z := .slice a693 n693 b693) n_70.out.1).2 _ (Nat.ne_of_lt N_r_n.out)).trans r_70.out)
        have o_73 := Lib.hid (mv_other (.slice a691 n691 b691) (.slice a692 n692 b692) (.slice a693 n693 b693) o_70.out n_70.out (Nat.ne_of_lt N_o_n.out))
        have B_74 := Lib.hid (bel_set3 (x := .slice a691 n691 b691) (y := .slice a692 n692 b692) (z := .slice a693 n693 b693) B_70.out (LB_n.out))
        have n_75 := Lib.hid (mv_set n_70.out HM69.out)
        clear m_70
        clear r_70
        clear o_70
        clear B_70
        clear n_70
        clear HM69
        obtain ⟨gw76, hu76⟩ : ∃ u, ((w69.setCell ⟨b_n, 0, none⟩ (.slice a691 n691 b691)).setCell ⟨b_n, 1, none⟩ (.slice a692 n692 b692)).setCell ⟨b_n, 2, none⟩ (.slice a693 n693 b693) = u := ⟨_, rfl⟩
        rw [hu76] at m_71 r_72 o_73 B_74 n_75
        rw [hu76]
        clear hu76
        go_meet
        case rel => exact ⟨_, _, _, _, _, _, _, _, _, _, _, _, rfl, rfl, m_71.out, n_75.out, o_73.out, B_74.out, fun e => good_cond GD.out (m' := sr.1) (h := hh) (a := at') (n := r3) (u := false) (by rw [SR.out, ← e])⟩
      · have SR' := SR; clear SR'
        obtain ⟨⟨c00, c01, c02⟩, d00, d01, d02⟩ := six (m_3.out).1
        have t0 := mv_lt m_3.out
        obtain ⟨e0, e1, e2, e3⟩ := four_cells r_3.out
        go_wp2_with fail
        clear e0 e1 e2 e3
        refine (cond_lit _ m hh at' r3 true sr _ m_3.out.2 SM.out SR.out).mono ?_
        rintro e w77 hr77
        obtain ⟨a771, n771, b771, a772, n772, b772, a773, n773, b773, rfl, hm77, LN77, hb77⟩ := hr77.parts
        clear c00 d00 c01 d01 c02 d02 t0
        have m_78 := Lib.hid (MV.up m_3.out hb77)
        clear m_3
        have r_78 := Lib.hid (up_in hb77 r_3.out)
        clear r_3
        have o_78 := Lib.hid (MV.up o_3.out hb77)
        clear o_3
        have B_78 := Lib.hid (bw_tr B_3.out hb77)
        clear B_3
        have n_78 := Lib.hid (MV.up n_2.out hb77)
        clear n_2
        have HM77 := Lib.hid hm77; clear hm77 hb77
        obtain ⟨⟨c00, c01, c02⟩, d00, d01, d02⟩ := six (n_78.out).1
        have t0 := mv_lt n_78.out
        go_wp2_with fail
        clear c00 d00 c01 d01 c02 d02 t0
        have m_79 := Lib.hid (mv_other (.slice a771 n771 b771) (.slice a772 n772 b772) (.slice a773 n773 b773) m_78.out n_78.out (Nat.ne_of_lt N_m_n.out))
        have r_80 := Lib.hid (((set3_spec (x := .slice a771 n771 b771) (y := .slice a772 n772 b772) (z := .slice a773 n773 b773) n_78.out.1).2 _ (Nat.ne_of_lt N_r_n.out)).trans r_78.out)
        have o_81 := Lib.hid (mv_other (.slice a771 n771 b771) (.slice a772 n772 b772) (.slice a773 n773 b773) o_78.out n_78.out (Nat.ne_of_lt N_o_n.out))
        have B_82 := Lib.hid (bel_set3 (x := .slice a771 n771 b771) (y := .slice a772 n772 b772) (z := .slice a773 n773 b773) B_78.out (LB_n.out))
        have n_83 := Lib.hid (mv_set n_78.out HM77.out)
        clear m_78
        clear r_78
        clear o_78
        clear B_78
        clear n_78
        clear HM77
        obtain ⟨gw84, hu84⟩ : ∃ u, ((w77.setCell ⟨b_n, 0, none⟩ (.slice a771 n771 b771)).setCell ⟨b_n, 1, none⟩ (.slice a772 n772 b772)).setCell ⟨b_n, 2, none⟩ (.slice a773 n773 b773) = u := ⟨_, rfl⟩
        rw [hu84] at m_79 r_80 o_81 B_82 n_83
        rw [hu84]
        clear hu84
        go_meet
        case rel => exact ⟨_, _, _, _, _, _, _, _, _, _, _, _, rfl, rfl, m_79.out, n_83.out, o_81.out, B_82.out, fun e => good_cond GD.out (m' := sr.1) (h := hh) (a := at') (n := r3) (u := true) (by rw [SR.out, ← e])⟩
    · have D0' := D0; clear D0'
      obtain ⟨sr, hsr⟩ : ∃ sr, changeR m hh at' d3 r3 = sr := ⟨_, rfl⟩; have SR := Lib.hid hsr; clear hsr
      obtain ⟨su, sr⟩ := sr
      go_upto_region 7 with (fail)
      refine wp_region_up (UpB b_n gw4) [true, true, true, true, true, true, true, true] (by kernel_rfl) (by kernel_rfl) (by kernel_rfl) (fun _ _ h hu => h.up hu) (upb_refl _ _) ?ra85 ?rh85 ?rt85
      case rh85 =>
        intro w0 h0
        obtain ⟨⟨c0, c1, c2⟩, d0, d1, d2⟩ := six (m_3.out).1
        have t0 := mv_lt m_3.out
        have ne0 := Nat.ne_of_lt N_m_n.out
        have rx0 := fun x => h0.wd t0 ne0 c0 x
        have rx1 := fun x => h0.wd t0 ne0 c1 x
        have rx2 := fun x => h0.wd t0 ne0 c2 x
        clear c0 c1 c2 d0 d1 d2
        have rx3 := fun x => h0.wd (lt_in r_3.out) (Nat.ne_of_lt N_r_n.out) (four_cells r_3.out).2.2.1 x
        have rx4 := fun x => h0.wd (lt_in r_3.out) (Nat.ne_of_lt N_r_n.out) (four_cells r_3.out).2.2.2 x
        simp only [pickM]
        repeat (go_big_quiet_step ((go_at_call 12; with_reducible exact quiet_s (pick11 _ _ _ _ I2.out (by decide) D3.out))))
        refine wpQuiet_nil ?_
        rfl
      case rt85 =>
        change wpAnyU _ _ _ _ _ 8 _ _ _
        refine anyU_one (i := 8) (by kernel_rfl) rfl ?_
        intro w86 hu86 hc86
        have hu86 := bw_undrew hu86
        have m_87 := Lib.hid (MV.up m_3.out hu86)
        clear m_3
        have r_87 := Lib.hid (up_in hu86 r_3.out)
        clear r_3
        have o_87 := Lib.hid (MV.up o_3.out hu86)
        clear o_3
        have B_87 := Lib.hid (bw_tr B_3.out hu86)
        clear B_3
        have n_87 := Lib.hid (MV.up n_2.out hu86)
        clear n_2
        have C_86 := Lib.hid hc86; clear hc86 hu86
        go_wp2_with fail
        refine (change_lit _ m hh at' d3 r3 su sr _ m_87.out.2 SM.out SR.out).mono ?_
        rintro e w88 hr88
        obtain ⟨a881, n881, b881, a882, n882, b882, a883, n883, b883, rfl, hm88, LN88, hb88⟩ := hr88.parts
        have m_89 := Lib.hid (MV.up m_87.out hb88)
        clear m_87
        have r_89 := Lib.hid (up_in hb88 r_87.out)
        clear r_87
        have o_89 := Lib.hid (MV.up o_87.out hb88)
        clear o_87
        have B_89 := Lib.hid (bw_tr B_87.out hb88)
        clear B_87
        have n_89 := Lib.hid (MV.up n_87.out hb88)
        clear n_87
        have C_89 := Lib.hid ((C_86.out).up hb88)
        clear C_86
        have HM88 := Lib.hid hm88; clear hm88 hb88
        go_wp2_with fail
        refine ⟨C_89.out, ?_⟩
        refine anyU_pures [false, false, false, false, false, false, false, false, false, true, true, true, true] 3 (by kernel_rfl) (by kernel_rfl) (by kernel_rfl) (fun _ _ h hu => h.up hu) C_89.out ?ra90 ?rh90 ?rt90
        case rh90 =>
          intro w0 h0
          simp only [pickM]
          repeat (go_big_quiet_step (fail))
          refine wpQuiet_nil ?_
          rfl
        case rt90 =>
          refine anyU_one (i := 13) (by kernel_rfl) rfl ?_
          intro w91 hu91 hc91
          have m_92 := Lib.hid (MV.up m_89.out hu91)
          clear m_89
          have r_92 := Lib.hid (up_in hu91 r_89.out)
          clear r_89
          have o_92 := Lib.hid (MV.up o_89.out hu91)
          clear o_89
          have B_92 := Lib.hid (bw_tr B_89.out hu91)
          clear B_89
          have n_92 := Lib.hid (MV.up n_89.out hu91)
          clear n_89
          have R88_92 := Lib.hid ((HM88.out).below hu91)
          clear HM88
          have C_91 := Lib.hid hc91; clear hc91 hu91
          go_wp2_with fail
          refine ⟨C_91.out, ?_⟩
          refine anyU_one (i := 14) (by kernel_rfl) rfl ?_
          intro w93 hu93 hc93
          have m_94 := Lib.hid (MV.up m_92.out hu93)
          clear m_92
          have r_94 := Lib.hid (up_in hu93 r_92.out)
          clear r_92
          have o_94 := Lib.hid (MV.up o_92.out hu93)
          clear o_92
          have B_94 := Lib.hid (bw_tr B_92.out hu93)
          clear B_92
          have n_94 := Lib.hid (MV.up n_92.out hu93)
          clear n_92
          have R88_94 := Lib.hid ((R88_92.out).below hu93)
          clear R88_92
          have C_93 := Lib.hid hc93; clear hc93 hu93
          obtain ⟨⟨c00, c01, c02⟩, d00, d01, d02⟩ := six (n_94.out).1
          have t0 := mv_lt n_94.out
          go_wp2_with fail
          clear c00 d00 c01 d01 c02 d02 t0
          have m_95 := Lib.hid (mv_other (.slice a881 n881 b881) (.slice a882 n882 b882) (.slice a883 n883 b883) m_94.out n_94.out (Nat.ne_of_lt N_m_n.out))
          have r_96 := Lib.hid (((set3_spec (x := .slice a881 n881 b881) (y := .slice a882 n882 b882) (z := .slice a883 n883 b883) n_94.out.1).2 _ (Nat.ne_of_lt N_r_n.out)).trans r_94.out)
          have o_97 := Lib.hid (mv_other (.slice a881 n881 b881) (.slice a882 n882 b882) (.slice a883 n883 b883) o_94.out n_94.out (Nat.ne_of_lt N_o_n.out))
          have B_98 := Lib.hid (bel_set3 (x := .slice a881 n881 b881) (y := .slice a882 n882 b882) (z := .slice a883 n883 b883) B_94.out (LB_n.out))
          have n_99 := Lib.hid (mv_set n_94.out R88_94.out)
          have C_100 := Lib.hid (upb_set3 (q := b_n) (.slice a881 n881 b881) (.slice a882 n882 b882) (.slice a883 n883 b883) C_93.out)
          clear m_94
          clear r_94
          clear o_94
          clear B_94
          clear n_94
          clear R88_94
          clear C_93
          obtain ⟨gw101, hu101⟩ : ∃ u, ((w93.setCell ⟨b_n, 0, none⟩ (.slice a881 n881 b881)).setCell ⟨b_n, 1, none⟩ (.slice a882 n882 b882)).setCell ⟨b_n, 2, none⟩ (.slice a883 n883 b883) = u := ⟨_, rfl⟩
          rw [hu101] at m_95 r_96 o_97 B_98 n_99 C_100
          rw [hu101]
          clear hu101
          refine ⟨C_100.out, ?_⟩
          refine anyU_one (i := 15) (by kernel_rfl) rfl ?_
          intro w102 hu102 hc102
          have m_103 := Lib.hid (MV.up m_95.out hu102)
          clear m_95
          have r_103 := Lib.hid (up_in hu102 r_96.out)
          clear r_96
          have o_103 := Lib.hid (MV.up o_97.out hu102)
          clear o_97
          have B_103 := Lib.hid (bw_tr B_98.out hu102)
          clear B_98
          have n_103 := Lib.hid (MV.up n_99.out hu102)
          clear n_99
          have C_102 := Lib.hid hc102; clear hc102 hu102
          go_wp2_with fail
          refine ⟨C_102.out, ?_⟩
          refine anyU_nil (by kernel_rfl) ?_
          intro w104 hu104 hc104
          have m_105 := Lib.hid (MV.up m_103.out hu104)
          clear m_103
          have r_105 := Lib.hid (up_in hu104 r_103.out)
          clear r_103
          have o_105 := Lib.hid (MV.up o_103.out hu104)
          clear o_103
          have B_105 := Lib.hid (bw_tr B_103.out hu104)
          clear B_103
          have n_105 := Lib.hid (MV.up n_103.out hu104)
          clear n_103
          have C_104 := Lib.hid hc104; clear hc104 hu104
          go_wp2_with fail
          go_meet
          case rel => exact ⟨_, _, _, _, _, _, _, _, _, _, _, _, rfl, rfl, m_105.out, n_105.out, o_105.out, B_105.out, fun e => good_change GD.out (m' := sr.1) (h := hh) (a := at') (op := d3) (n := r3) (u := su) (by rw [SR.out, ← e])⟩
  case rest =>
    obtain ⟨u, k, a1, n1, c1, a2, n2, c2, a3, n3, c3, m', rfl, rfl, hm2, hn2, ho2, hb2, hgd⟩ := hcut
    have HM2 := Lib.hid hm2; have HN2 := Lib.hid hn2; have HO2 := Lib.hid ho2; have HB2 := Lib.hid hb2; have HG := Lib.hid hgd
    clear hm2 hn2 ho2 hb2 hgd m_3 r_3 o_3 B_3 n_2
    by_cases hz : k = 0
    · go_upto_region 25 with (fail)
      refine wp_region_up (UpB b_o wc) [true, true] (by kernel_rfl) (by kernel_rfl) (by kernel_rfl) (fun _ _ h hu => h.up hu) (upb_refl _ _) ?ra106 ?rh106 ?rt106
      case rh106 =>
        intro w0 h0
        obtain ⟨⟨c0, c1, c2⟩, d0, d1, d2⟩ := six (HN2.out).1
        have t0 := mv_lt HN2.out
        have ne0 := Ne.symm (Nat.ne_of_lt N_o_n.out)
        have rx0 := fun x => h0.wd t0 ne0 c0 x
        have rx1 := fun x => h0.wd t0 ne0 c1 x
        have rx2 := fun x => h0.wd t0 ne0 c2 x
        clear c0 c1 c2 d0 d1 d2
        simp only [pickM]
        repeat (go_big_quiet_step ((fail)))
        refine wpQuiet_nil ?_
        rfl
      case rt106 =>
        change wpAnyU _ _ _ _ _ 2 _ _ _
        refine anyU_one (i := 2) (by kernel_rfl) rfl ?_
        intro w107 hu107 hc107
        have hu107 := bw_undrew hu107
        have m_108 := Lib.hid (MV.up HM2.out hu107)
        clear HM2
        have n_108 := Lib.hid (MV.up HN2.out hu107)
        clear HN2
        have o_108 := Lib.hid (MV.up HO2.out hu107)
        clear HO2
        have B_108 := Lib.hid (bw_tr HB2.out hu107)
        clear HB2
        have C_107 := Lib.hid hc107; clear hc107 hu107
        go_wp2_with fail
        refine ⟨C_107.out, ?_⟩
        refine anyU_one (i := 3) (by kernel_rfl) rfl ?_
        intro w109 hu109 hc109
        have m_110 := Lib.hid (MV.up m_108.out hu109)
        clear m_108
        have n_110 := Lib.hid (MV.up n_108.out hu109)
        clear n_108
        have o_110 := Lib.hid (MV.up o_108.out hu109)
        clear o_108
        have B_110 := Lib.hid (bw_tr B_108.out hu109)
        clear B_108
        have C_109 := Lib.hid hc109; clear hc109 hu109
        obtain ⟨⟨c00, c01, c02⟩, d00, d01, d02⟩ := six (o_110.out).1
        have t0 := mv_lt o_110.out
        go_wp2_with fail
        clear c00 d00 c01 d01 c02 d02 t0
        have R111_0 := Lib.hid n_110.out.2
        have m_112 := Lib.hid (mv_other (.slice a1 n1 c1) (.slice a2 n2 c2) (.slice a3 n3 c3) m_110.out o_110.out (Nat.ne_of_lt N_m_o.out))
        have n_113 := Lib.hid (mv_other (.slice a1 n1 c1) (.slice a2 n2 c2) (.slice a3 n3 c3) n_110.out o_110.out (Ne.symm (Nat.ne_of_lt N_o_n.out)))
        have o_114 := Lib.hid (mv_set o_110.out R111_0.out)
        have B_115 := Lib.hid (bel_set3 (x := .slice a1 n1 c1) (y := .slice a2 n2 c2) (z := .slice a3 n3 c3) B_110.out (LB_o.out))
        have C_116 := Lib.hid (upb_set3 (q := b_o) (.slice a1 n1 c1) (.slice a2 n2 c2) (.slice a3 n3 c3) C_109.out)
        clear m_110
        clear n_110
        clear o_110
        clear B_110
        clear C_109
        clear R111_0
        obtain ⟨gw117, hu117⟩ : ∃ u, ((w109.setCell ⟨b_o, 0, none⟩ (.slice a1 n1 c1)).setCell ⟨b_o, 1, none⟩ (.slice a2 n2 c2)).setCell ⟨b_o, 2, none⟩ (.slice a3 n3 c3) = u := ⟨_, rfl⟩
        rw [hu117] at m_112 n_113 o_114 B_115 C_116
        rw [hu117]
        clear hu117
        refine ⟨C_116.out, ?_⟩
        refine anyU_nil (by kernel_rfl) ?_
        intro w118 hu118 hc118
        have m_119 := Lib.hid (MV.up m_112.out hu118)
        clear m_112
        have n_119 := Lib.hid (MV.up n_113.out hu118)
        clear n_113
        have o_119 := Lib.hid (MV.up o_114.out hu118)
        clear o_114
        have B_119 := Lib.hid (bw_tr B_115.out hu118)
        clear B_115
        have C_118 := Lib.hid hc118; clear hc118 hu118
        obtain ⟨⟨c00, c01, c02⟩, d00, d01, d02⟩ := six (o_119.out).1
        have t0 := mv_lt o_119.out
        go_wp2_with fail
        exact bodyPost_ret (v := .tuple #[.int .i64 u, .agg #[.slice a1 n1 c1, .slice a2 n2 c2, .slice a3 n3 c3]]) (by simp [results, Try.results41, go_sem, c00, c01, c02]) rfl ⟨_, _, _, rfl, o_119.out.2, HG.out hz, B_119.out⟩
    · go_upto_region 24 with (fail)
      refine wp_region_up (UpB b_o wc) [true, true] (by kernel_rfl) (by kernel_rfl) (by kernel_rfl) (fun _ _ h hu => h.up hu) (upb_refl _ _) ?ra120 ?rh120 ?rt120
      case rh120 =>
        intro w0 h0
        obtain ⟨⟨c0, c1, c2⟩, d0, d1, d2⟩ := six (HM2.out).1
        have t0 := mv_lt HM2.out
        have ne0 := Nat.ne_of_lt N_m_o.out
        have rx0 := fun x => h0.wd t0 ne0 c0 x
        have rx1 := fun x => h0.wd t0 ne0 c1 x
        have rx2 := fun x => h0.wd t0 ne0 c2 x
        clear c0 c1 c2 d0 d1 d2
        simp only [pickM]
        repeat (go_big_quiet_step ((fail)))
        refine wpQuiet_nil ?_
        rfl
      case rt120 =>
        change wpAnyU _ _ _ _ _ 2 _ _ _
        refine anyU_one (i := 2) (by kernel_rfl) rfl ?_
        intro w121 hu121 hc121
        have hu121 := bw_undrew hu121
        have m_122 := Lib.hid (MV.up HM2.out hu121)
        clear HM2
        have n_122 := Lib.hid (MV.up HN2.out hu121)
        clear HN2
        have o_122 := Lib.hid (MV.up HO2.out hu121)
        clear HO2
        have B_122 := Lib.hid (bw_tr HB2.out hu121)
        clear HB2
        have C_121 := Lib.hid hc121; clear hc121 hu121
        go_wp2_with fail
        refine ⟨C_121.out, ?_⟩
        refine anyU_one (i := 3) (by kernel_rfl) rfl ?_
        intro w123 hu123 hc123
        have m_124 := Lib.hid (MV.up m_122.out hu123)
        clear m_122
        have n_124 := Lib.hid (MV.up n_122.out hu123)
        clear n_122
        have o_124 := Lib.hid (MV.up o_122.out hu123)
        clear o_122
        have B_124 := Lib.hid (bw_tr B_122.out hu123)
        clear B_122
        have C_123 := Lib.hid hc123; clear hc123 hu123
        obtain ⟨⟨c00, c01, c02⟩, d00, d01, d02⟩ := six (o_124.out).1
        have t0 := mv_lt o_124.out
        go_wp2_with fail
        clear c00 d00 c01 d01 c02 d02 t0
        have R125_0 := Lib.hid m_124.out.2
        have m_126 := Lib.hid (mv_other (.slice ax W cx) (.slice ay H cy) (.slice az H cz) m_124.out o_124.out (Nat.ne_of_lt N_m_o.out))
        have n_127 := Lib.hid (mv_other (.slice ax W cx) (.slice ay H cy) (.slice az H cz) n_124.out o_124.out (Ne.symm (Nat.ne_of_lt N_o_n.out)))
        have o_128 := Lib.hid (mv_set o_124.out R125_0.out)
        have B_129 := Lib.hid (bel_set3 (x := .slice ax W cx) (y := .slice ay H cy) (z := .slice az H cz) B_124.out (LB_o.out))
        have C_130 := Lib.hid (upb_set3 (q := b_o) (.slice ax W cx) (.slice ay H cy) (.slice az H cz) C_123.out)
        clear m_124
        clear n_124
        clear o_124
        clear B_124
        clear C_123
        clear R125_0
        obtain ⟨gw131, hu131⟩ : ∃ u, ((w123.setCell ⟨b_o, 0, none⟩ (.slice ax W cx)).setCell ⟨b_o, 1, none⟩ (.slice ay H cy)).setCell ⟨b_o, 2, none⟩ (.slice az H cz) = u := ⟨_, rfl⟩
        rw [hu131] at m_126 n_127 o_128 B_129 C_130
        rw [hu131]
        clear hu131
        refine ⟨C_130.out, ?_⟩
        refine anyU_nil (by kernel_rfl) ?_
        intro w132 hu132 hc132
        have m_133 := Lib.hid (MV.up m_126.out hu132)
        clear m_126
        have n_133 := Lib.hid (MV.up n_127.out hu132)
        clear n_127
        have o_133 := Lib.hid (MV.up o_128.out hu132)
        clear o_128
        have B_133 := Lib.hid (bw_tr B_129.out hu132)
        clear B_129
        have C_132 := Lib.hid hc132; clear hc132 hu132
        obtain ⟨⟨c00, c01, c02⟩, d00, d01, d02⟩ := six (o_133.out).1
        have t0 := mv_lt o_133.out
        go_wp2_with fail
        exact bodyPost_ret (v := .tuple #[.int .i64 k, .agg #[.slice ax W cx, .slice ay H cy, .slice az H cz]]) (by simp [results, Try.results41, go_sem, c00, c01, c02]) rfl ⟨_, _, _, rfl, o_133.out.2, GD.out, B_133.out⟩
end Go.Proofs.Ytkhobelceghgfaa
