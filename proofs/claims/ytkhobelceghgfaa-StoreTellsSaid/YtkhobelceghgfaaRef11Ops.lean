/-
  The contracts of headstockref11's Reserve, Conditional, Change (printed by gen_ref11ops.py).
-/
import Derived.Test.YtkhobelceghgfaaRef11Store
namespace Go.Proofs.Ytkhobelceghgfaa
open Go.RowKit
theorem once_no {m : Mem} {h a : Int} (hh : hasB m h a = false) : onceE m h a = 1 := by unfold onceE; rw [hh]; rfl
theorem once_busy {m : Mem} {h a : Int} (hh : hasB m h a = true) (hl : (pendOf m h).length ≠ 0) : onceE m h a = 92 := by unfold onceE; rw [if_pos hh, if_neg hl]
theorem once_yes {m : Mem} {h a : Int} (hh : hasB m h a = true) (hl : (pendOf m h).length = 0) : onceE m h a = 0 := by unfold onceE; rw [if_pos hh, if_pos hl]
set_option maxHeartbeats 4000000 in
theorem rreserve_any (v : Value) (m : Mem) (h a : Int) (w : World) (hm : IsMem w v m) (hs : Small m) :
    Calls Try.prog 30 #[v, .int .i64 h, .int .i64 a] w (MemRet3 w w.heap.size (.int .i64 (reserveR m h a).1) (reserveR m h a).2) := by
  have HM := Lib.hid hm; have HS := Lib.hid hs
  obtain ⟨a1, c1, a2, c2, a3, c3, rows, rfl, _, _, _, _⟩ := hm.parts
  clear hs
  unfold MemRet3
  cases hh : hasB m h a
  case false =>
    have E := Lib.hid (show reserveR m h a = (0, noMem, 1) by unfold reserveR; rw [once_no hh]; rfl)
    rw [E.out]
    have HH := Lib.hid hh; clear hh hm
    generalize hn1 : m.words.length = n1 at *
    generalize hn2 : m.pend.length = n2 at *
    generalize hn3 : m.res.length = n3 at *
    have HN1 := Lib.hid hn1; have HN2 := Lib.hid hn2; have HN3 := Lib.hid hn3
    clear hn1 hn2 hn3
    go_enter Try.func30, Try.ntmps30
    go_wp2_with fail
    have hb0 := bw_tr (bel_new w (.cells #[.slice a1 n1 c1, .slice a2 n2 c2, .slice a3 n3 c3] 27)) (bel_new (w.alloc (.cells #[.slice a1 n1 c1, .slice a2 n2 c2, .slice a3 n3 c3] 27)) (.cells #[.slice none 0 0, .slice none 0 0, .slice none 0 0] 27))
    have hq0 := up_in (bel_new (w.alloc (.cells #[.slice a1 n1 c1, .slice a2 n2 c2, .slice a3 n3 c3] 27)) (.cells #[.slice none 0 0, .slice none 0 0, .slice none 0 0] 27)) (new_in w (.cells #[.slice a1 n1 c1, .slice a2 n2 c2, .slice a3 n3 c3] 27))
    have hr0 := new_in (w.alloc (.cells #[.slice a1 n1 c1, .slice a2 n2 c2, .slice a3 n3 c3] 27)) (.cells #[.slice none 0 0, .slice none 0 0, .slice none 0 0] 27)
    rw [World.size_alloc] at hr0
    refine (rthere_any _ m h a false _ (HM.out.below hb0) HH.out).mono ?_
    rintro e w1 ⟨rfl, hb1⟩
    have HQ1 : Hid (w1.heap[w.heap.size + 1]? = some zM3) := Lib.hid (up_in hb1 hr0); have HX1 := Lib.hid (up_in hb1 hq0); have B1 := Lib.hid (bw_tr hb0 hb1)
    clear hb0 hq0 hr0 hb1
    obtain ⟨⟨k0, k1, k2⟩, f0, f1, f2⟩ := six HQ1.out
    have tq := lt_in HQ1.out
    obtain ⟨s0, s1, s2⟩ := three_cells (set3_spec (x := .slice none 0 0) (y := .slice none 0 0) (z := .slice none 0 0) HQ1.out).1
    go_wp2_with fail
    exact bodyPost_ret (v := .tuple #[.int .i64 0, .agg #[.slice none 0 0, .slice none 0 0, .slice none 0 0], .int .i64 1]) (by simp [results, Try.results30, go_sem, s0, s1, s2]) rfl ⟨_, rfl, isMem_no _, bel_set3 B1.out (by omega)⟩
  case true =>
    obtain ⟨h0, h1, h2, h3, h4⟩ := hasB_spec hh
    obtain ⟨b2, o2, ar, cr0, e00, e0, e1, e2, e3, hrc0, _⟩ := hm.row h1 h0
    obtain ⟨wb, wo, e01, e02, q11, q12, hw1, hw2⟩ := hm.word h3 h4
    subst e00 e01
    have HH := Lib.hid hh; have HRC := Lib.hid (show CellAt w b2 (o2 + h.toNat) _ from ⟨e3, hrc0⟩); have HWC := Lib.hid (show CellAt w wb (wo + a.toNat) _ from ⟨hw1, hw2⟩); clear e0 e02 hrc0 hw2 e3
    by_cases hl : (pendOf m h).length = 0
    rotate_left
    · have E := Lib.hid (show reserveR m h a = (0, noMem, 92) by unfold reserveR; rw [once_busy HH.out hl]; rfl)
      rw [E.out]
      clear hm
      obtain ⟨ln, hln⟩ : ∃ ln, (pendOf m h).length = ln := ⟨_, rfl⟩
      rw [hln] at HRC hl
      clear hln
      generalize hn1 : m.words.length = n1 at *
      generalize hn2 : m.pend.length = n2 at *
      generalize hn3 : m.res.length = n3 at *
      have HN1 := Lib.hid hn1; have HN2 := Lib.hid hn2; have HN3 := Lib.hid hn3
      clear hn1 hn2 hn3
      go_enter Try.func30, Try.ntmps30
      go_wp2_with fail
      have hb0 := bw_tr (bel_new w (.cells #[.slice (some ⟨wb, wo, none⟩) n1 c1, .slice (some ⟨b2, o2, none⟩) n2 c2, .slice a3 n3 c3] 27)) (bel_new (w.alloc (.cells #[.slice (some ⟨wb, wo, none⟩) n1 c1, .slice (some ⟨b2, o2, none⟩) n2 c2, .slice a3 n3 c3] 27)) (.cells #[.slice none 0 0, .slice none 0 0, .slice none 0 0] 27))
      have hq0 := up_in (bel_new (w.alloc (.cells #[.slice (some ⟨wb, wo, none⟩) n1 c1, .slice (some ⟨b2, o2, none⟩) n2 c2, .slice a3 n3 c3] 27)) (.cells #[.slice none 0 0, .slice none 0 0, .slice none 0 0] 27)) (new_in w (.cells #[.slice (some ⟨wb, wo, none⟩) n1 c1, .slice (some ⟨b2, o2, none⟩) n2 c2, .slice a3 n3 c3] 27))
      have hr0 := new_in (w.alloc (.cells #[.slice (some ⟨wb, wo, none⟩) n1 c1, .slice (some ⟨b2, o2, none⟩) n2 c2, .slice a3 n3 c3] 27)) (.cells #[.slice none 0 0, .slice none 0 0, .slice none 0 0] 27)
      rw [World.size_alloc] at hr0
      refine (rthere_any _ m h a true _ (HM.out.below hb0) HH.out).mono ?_
      rintro e w1 ⟨rfl, hb1⟩
      have HQ1 : Hid (w1.heap[w.heap.size + 1]? = some zM3) := Lib.hid (up_in hb1 hr0); have HX1 := Lib.hid (up_in hb1 hq0); have B1 := Lib.hid (bw_tr hb0 hb1)
      clear hb0 hq0 hr0 hb1
      obtain ⟨⟨k0, k1, k2⟩, _⟩ := six HX1.out
      have tx := lt_in HX1.out
      obtain ⟨tr, vr⟩ := HRC.out.up B1.out
      obtain ⟨tw, vw⟩ := HWC.out.up B1.out
      have hlp : 0 < ln := by omega
      have HL := Lib.hid hl; clear hl
      go_upto_if 24 with fail
      clear k0 k1 k2
      obtain ⟨⟨k0, k1, k2⟩, f0, f1, f2⟩ := six HQ1.out
      have tq := lt_in HQ1.out
      obtain ⟨s0, s1, s2⟩ := three_cells (set3_spec (x := .slice none 0 0) (y := .slice none 0 0) (z := .slice none 0 0) HQ1.out).1
      go_wp2_with fail
      exact bodyPost_ret (v := .tuple #[.int .i64 0, .agg #[.slice none 0 0, .slice none 0 0, .slice none 0 0], .int .i64 92]) (by simp [results, Try.results30, go_sem, s0, s1, s2]) rfl ⟨_, rfl, isMem_no _, bel_set3 B1.out (by omega)⟩
    have E := Lib.hid (show reserveR m h a = (wordOf m a, setRes m h a, 0) by unfold reserveR; rw [once_yes HH.out hl]; rfl)
    rw [E.out]
    rw [hl] at HRC
    clear hm hl
    generalize wordOf m a = wd at *
    generalize hn1 : m.words.length = n1 at *
    generalize hn2 : m.pend.length = n2 at *
    generalize hn3 : m.res.length = n3 at *
    have HN1 := Lib.hid hn1; have HN2 := Lib.hid hn2; have HN3 := Lib.hid hn3
    clear hn1 hn2 hn3
    go_enter Try.func30, Try.ntmps30
    go_wp2_with fail
    have hb0 := bw_tr (bel_new w (.cells #[.slice (some ⟨wb, wo, none⟩) n1 c1, .slice (some ⟨b2, o2, none⟩) n2 c2, .slice a3 n3 c3] 27)) (bel_new (w.alloc (.cells #[.slice (some ⟨wb, wo, none⟩) n1 c1, .slice (some ⟨b2, o2, none⟩) n2 c2, .slice a3 n3 c3] 27)) (.cells #[.slice none 0 0, .slice none 0 0, .slice none 0 0] 27))
    have hq0 := up_in (bel_new (w.alloc (.cells #[.slice (some ⟨wb, wo, none⟩) n1 c1, .slice (some ⟨b2, o2, none⟩) n2 c2, .slice a3 n3 c3] 27)) (.cells #[.slice none 0 0, .slice none 0 0, .slice none 0 0] 27)) (new_in w (.cells #[.slice (some ⟨wb, wo, none⟩) n1 c1, .slice (some ⟨b2, o2, none⟩) n2 c2, .slice a3 n3 c3] 27))
    have hr0 := new_in (w.alloc (.cells #[.slice (some ⟨wb, wo, none⟩) n1 c1, .slice (some ⟨b2, o2, none⟩) n2 c2, .slice a3 n3 c3] 27)) (.cells #[.slice none 0 0, .slice none 0 0, .slice none 0 0] 27)
    rw [World.size_alloc] at hr0
    refine (rthere_any _ m h a true _ (HM.out.below hb0) HH.out).mono ?_
    rintro e w1 ⟨rfl, hb1⟩
    have HQ1 : Hid (w1.heap[w.heap.size + 1]? = some zM3) := Lib.hid (up_in hb1 hr0); have HX1 := Lib.hid (up_in hb1 hq0); have B1 := Lib.hid (bw_tr hb0 hb1)
    clear hb0 hq0 hr0 hb1
    obtain ⟨⟨k0, k1, k2⟩, _⟩ := six HX1.out
    have tx := lt_in HX1.out
    obtain ⟨tr, vr⟩ := HRC.out.up B1.out
    obtain ⟨tw, vw⟩ := HWC.out.up B1.out
    go_wp2_with fail
    clear k0 k1 k2 tx tr vr tw vw
    refine (rown_ret _ m _ (HM.out.below B1.out) HS.out).mono ?_
    rintro e w2 ⟨q0, y1, z1, y2, z2, y3, z3, rs, rfl, ho2, hb2⟩
    rw [HN1.out, HN2.out, HN3.out] at ho2 ⊢
    go_upto_region 7 with fail
    have hO := ho2.move (new_in w2 (.cells #[.slice y1 n1 z1, .slice y2 n2 z2, .slice y3 n3 z3] 27)) hb2.size (bel_new w2 _)
    have hU := bw_tr hb2 (bel_new w2 (.cells #[.slice y1 n1 z1, .slice y2 n2 z2, .slice y3 n3 z3] 27))
    have lqp : w.heap.size + 1 < w2.heap.size := Nat.lt_of_lt_of_le (lt_in HQ1.out) hb2.size
    obtain ⟨W, hW⟩ : ∃ W, w2.alloc (.cells #[.slice y1 n1 z1, .slice y2 n2 z2, .slice y3 n3 z3] 27) = W := ⟨_, rfl⟩
    rw [hW] at hO hU ⊢
    obtain ⟨q, hq⟩ : ∃ q, w2.heap.size = q := ⟨_, rfl⟩
    rw [hq] at hO lqp ⊢
    clear hW hq ho2 hb2
    have HO := Lib.hid (hO.low B1.out.size); have HQ2 := Lib.hid (up_in hU HQ1.out); have HX2 := Lib.hid (up_in hU HX1.out); have BU := Lib.hid hU; have B2 := Lib.hid (bw_tr B1.out hU)
    clear hO hU
    obtain ⟨g3, o3, e7, e70, hgc, hgm, tg, vg⟩ := IsMem.resv HO.out.isMem h0 (by show h < (m.res.length : Int); rw [HN3.out]; exact h2)
    have hro := HO.out.res
    rw [HN3.out] at hro
    obtain ⟨g, cg, e9, hcg, hmg⟩ := own_some hro (by omega)
    injection e9 with e9 e8 e6
    subst e9 e6
    clear e8
    injection e7 with e7
    injection e7 with e7 e5 e71
    subst e7 e5
    clear e70 e71
    obtain ⟨⟨m0, m1, m2⟩, _⟩ := six HO.out.at_
    have tm := lt_in HO.out.at_
    have H3 := Lib.hid (HO.out.setResv (by decide) rfl h.toNat a)
    have R3 : Hid ((W.setCell ⟨g, h.toNat, none⟩ (.int .i64 a)).heap[w.heap.size + 1]? = some zM3) := Lib.hid (cell_other hro rfl HQ2.out (by decide))
    have X3 := Lib.hid (cell_other (j := h.toNat) (u := .int .i64 a) hro rfl HX2.out (by decide))
    have hgB : w.heap.size ≤ g := (hro.lt g rfl).1
    have hfz : W.frozen? ⟨g, h.toNat, none⟩ = false := by
      obtain ⟨cc, hcc⟩ := own_block hro (g := g) rfl
      exact frozen_in hcc _
    have B3 : Hid (Below w.heap.size w (W.setCell ⟨g, h.toNat, none⟩ (.int .i64 a))) := Lib.hid (bw_set B2.out hgB _)
    rw [Nat.zero_add] at vg
    go_upto_region 8 with fail
    obtain ⟨W3, hW⟩ : ∃ W', W.setCell ⟨g, h.toNat, none⟩ (.int .i64 a) = W' := ⟨_, rfl⟩
    rw [hW] at H3 R3 X3 B3 ⊢
    clear hW m0 m1 m2 tm tg vg hfz HO HQ2 HX2 hro BU B2
    obtain ⟨⟨m0, m1, m2⟩, _⟩ := six H3.out.at_
    have tm := lt_in H3.out.at_
    obtain ⟨⟨k0, k1, k2⟩, _⟩ := six X3.out
    have tx := lt_in X3.out
    obtain ⟨tw, vw⟩ := HWC.out.up B3.out
    refine wp_region_below_tail 7 (by kernel_rfl) (by kernel_rfl) ?_
    simp only [List.take_succ_cons, List.take_zero, List.drop_succ_cons, List.drop_zero]
    have p0 := fun x => wd_cell tm m0 x
    have p1 := fun x => wd_cell tm m1 x
    have p2 := fun x => wd_cell tm m2 x
    have p3 := fun x => wd_cell tx k0 x
    have p4 := fun x => wd_cell tw vw x
    clear m0 m1 m2 k0 k1 k2 vw
    repeat (go_big_quiet_step (fail))
    refine wpQuiet_nil ?_
    rintro w9 ⟨⟨w9x, hb9⟩, rfl⟩
    have HOW := Lib.hid (H3.out.below hb9); have HRW := Lib.hid (up_in hb9 R3.out); have BWW := Lib.hid (bw_tr B3.out hb9)
    clear p0 p1 p2 p3 p4 hb9
    obtain ⟨⟨e20, e21, e22⟩, f20, f21, f22⟩ := six HRW.out
    have t2' := lt_in HRW.out
    go_wp2_with fail
    obtain ⟨k0, k1, k2⟩ := three_cells (set3_spec (x := .slice y1 n1 z1) (y := .slice y2 n2 z2) (z := .slice (some ⟨g, 0, none⟩) n3 z3) HRW.out).1
    have HMW := Lib.hid (isMem_set3 (.slice y1 n1 z1) (.slice y2 n2 z2) (.slice (some ⟨g, 0, none⟩) n3 z3) HOW.out.isMem HRW.out)
    have BW := Lib.hid (bel_set3 (x := .slice y1 n1 z1) (y := .slice y2 n2 z2) (z := .slice (some ⟨g, 0, none⟩) n3 z3) BWW.out (by omega : w.heap.size ≤ w.heap.size + 1))
    exact bodyPost_ret (v := .tuple #[.int .i64 wd, .agg #[.slice y1 n1 z1, .slice y2 n2 z2, .slice (some ⟨g, 0, none⟩) n3 z3], .int .i64 0]) (by simp [results, Try.results30, go_sem, k0, k1, k2]) rfl ⟨_, rfl, HMW.out, BW.out⟩
set_option maxHeartbeats 4000000 in
theorem rcond_any (v : Value) (m : Mem) (h a n : Int) (w : World) (hm : IsMem w v m) (hs : Small m) (hn : I64 n) :
    Calls Try.prog 31 #[v, .int .i64 h, .int .i64 a, .int .i64 n] w (MemRet3 w w.heap.size (.bool (condR m h a n).1) (condR m h a n).2) := by
  have HM := Lib.hid hm; have HS := Lib.hid hs; have HI := Lib.hid hn
  obtain ⟨a1, c1, a2, c2, a3, c3, rows, rfl, _, _, _, _⟩ := hm.parts
  clear hs hn
  unfold MemRet3
  cases hh : hasB m h a
  case false =>
    have E := Lib.hid (show condR m h a n = (false, noMem, 1) by unfold condR; rw [once_no hh]; rfl)
    rw [E.out]
    have HH := Lib.hid hh; clear hh hm
    generalize hn1 : m.words.length = n1 at *
    generalize hn2 : m.pend.length = n2 at *
    generalize hn3 : m.res.length = n3 at *
    have HN1 := Lib.hid hn1; have HN2 := Lib.hid hn2; have HN3 := Lib.hid hn3
    clear hn1 hn2 hn3
    go_enter Try.func31, Try.ntmps31
    go_wp2_with fail
    have hb0 := bw_tr (bel_new w (.cells #[.slice a1 n1 c1, .slice a2 n2 c2, .slice a3 n3 c3] 27)) (bel_new (w.alloc (.cells #[.slice a1 n1 c1, .slice a2 n2 c2, .slice a3 n3 c3] 27)) (.cells #[.slice none 0 0, .slice none 0 0, .slice none 0 0] 27))
    have hq0 := up_in (bel_new (w.alloc (.cells #[.slice a1 n1 c1, .slice a2 n2 c2, .slice a3 n3 c3] 27)) (.cells #[.slice none 0 0, .slice none 0 0, .slice none 0 0] 27)) (new_in w (.cells #[.slice a1 n1 c1, .slice a2 n2 c2, .slice a3 n3 c3] 27))
    have hr0 := new_in (w.alloc (.cells #[.slice a1 n1 c1, .slice a2 n2 c2, .slice a3 n3 c3] 27)) (.cells #[.slice none 0 0, .slice none 0 0, .slice none 0 0] 27)
    rw [World.size_alloc] at hr0
    refine (rthere_any _ m h a false _ (HM.out.below hb0) HH.out).mono ?_
    rintro e w1 ⟨rfl, hb1⟩
    have HQ1 : Hid (w1.heap[w.heap.size + 1]? = some zM3) := Lib.hid (up_in hb1 hr0); have HX1 := Lib.hid (up_in hb1 hq0); have B1 := Lib.hid (bw_tr hb0 hb1)
    clear hb0 hq0 hr0 hb1
    obtain ⟨⟨k0, k1, k2⟩, f0, f1, f2⟩ := six HQ1.out
    have tq := lt_in HQ1.out
    obtain ⟨s0, s1, s2⟩ := three_cells (set3_spec (x := .slice none 0 0) (y := .slice none 0 0) (z := .slice none 0 0) HQ1.out).1
    go_wp2_with fail
    exact bodyPost_ret (v := .tuple #[.bool false, .agg #[.slice none 0 0, .slice none 0 0, .slice none 0 0], .int .i64 1]) (by simp [results, Try.results31, go_sem, s0, s1, s2]) rfl ⟨_, rfl, isMem_no _, bel_set3 B1.out (by omega)⟩
  case true =>
    obtain ⟨h0, h1, h2, h3, h4⟩ := hasB_spec hh
    obtain ⟨b2, o2, ar, cr0, e00, e0, e1, e2, e3, hrc0, _⟩ := hm.row h1 h0
    obtain ⟨cb, co, e01, e02, q11, q12, hw1, hw2⟩ := hm.resv h0 h2
    subst e00 e01
    have HH := Lib.hid hh; have HRC := Lib.hid (show CellAt w b2 (o2 + h.toNat) _ from ⟨e3, hrc0⟩); have HWC := Lib.hid (show CellAt w cb (co + h.toNat) _ from ⟨hw1, hw2⟩); clear e0 e02 hrc0 hw2 e3
    by_cases hl : (pendOf m h).length = 0
    rotate_left
    · have E := Lib.hid (show condR m h a n = (false, noMem, 92) by unfold condR; rw [once_busy HH.out hl]; rfl)
      rw [E.out]
      clear hm
      obtain ⟨ln, hln⟩ : ∃ ln, (pendOf m h).length = ln := ⟨_, rfl⟩
      rw [hln] at HRC hl
      clear hln
      generalize hn1 : m.words.length = n1 at *
      generalize hn2 : m.pend.length = n2 at *
      generalize hn3 : m.res.length = n3 at *
      have HN1 := Lib.hid hn1; have HN2 := Lib.hid hn2; have HN3 := Lib.hid hn3
      clear hn1 hn2 hn3
      go_enter Try.func31, Try.ntmps31
      go_wp2_with fail
      have hb0 := bw_tr (bel_new w (.cells #[.slice a1 n1 c1, .slice (some ⟨b2, o2, none⟩) n2 c2, .slice (some ⟨cb, co, none⟩) n3 c3] 27)) (bel_new (w.alloc (.cells #[.slice a1 n1 c1, .slice (some ⟨b2, o2, none⟩) n2 c2, .slice (some ⟨cb, co, none⟩) n3 c3] 27)) (.cells #[.slice none 0 0, .slice none 0 0, .slice none 0 0] 27))
      have hq0 := up_in (bel_new (w.alloc (.cells #[.slice a1 n1 c1, .slice (some ⟨b2, o2, none⟩) n2 c2, .slice (some ⟨cb, co, none⟩) n3 c3] 27)) (.cells #[.slice none 0 0, .slice none 0 0, .slice none 0 0] 27)) (new_in w (.cells #[.slice a1 n1 c1, .slice (some ⟨b2, o2, none⟩) n2 c2, .slice (some ⟨cb, co, none⟩) n3 c3] 27))
      have hr0 := new_in (w.alloc (.cells #[.slice a1 n1 c1, .slice (some ⟨b2, o2, none⟩) n2 c2, .slice (some ⟨cb, co, none⟩) n3 c3] 27)) (.cells #[.slice none 0 0, .slice none 0 0, .slice none 0 0] 27)
      rw [World.size_alloc] at hr0
      refine (rthere_any _ m h a true _ (HM.out.below hb0) HH.out).mono ?_
      rintro e w1 ⟨rfl, hb1⟩
      have HQ1 : Hid (w1.heap[w.heap.size + 1]? = some zM3) := Lib.hid (up_in hb1 hr0); have HX1 := Lib.hid (up_in hb1 hq0); have B1 := Lib.hid (bw_tr hb0 hb1)
      clear hb0 hq0 hr0 hb1
      obtain ⟨⟨k0, k1, k2⟩, _⟩ := six HX1.out
      have tx := lt_in HX1.out
      obtain ⟨tr, vr⟩ := HRC.out.up B1.out
      obtain ⟨tw, vw⟩ := HWC.out.up B1.out
      have hlp : 0 < ln := by omega
      have HL := Lib.hid hl; clear hl
      go_upto_if 27 with fail
      clear k0 k1 k2
      obtain ⟨⟨k0, k1, k2⟩, f0, f1, f2⟩ := six HQ1.out
      have tq := lt_in HQ1.out
      obtain ⟨s0, s1, s2⟩ := three_cells (set3_spec (x := .slice none 0 0) (y := .slice none 0 0) (z := .slice none 0 0) HQ1.out).1
      go_wp2_with fail
      exact bodyPost_ret (v := .tuple #[.bool false, .agg #[.slice none 0 0, .slice none 0 0, .slice none 0 0], .int .i64 92]) (by simp [results, Try.results31, go_sem, s0, s1, s2]) rfl ⟨_, rfl, isMem_no _, bel_set3 B1.out (by omega)⟩
    by_cases hra : resOf m h = a
    rotate_left
    · have E := Lib.hid (show condR m h a n = (false, setRes m h (-1), 0) by unfold condR; rw [once_yes HH.out hl, if_pos rfl, if_neg hra])
      rw [E.out]
      rw [hl] at HRC
      have hrb : (resOf m h == a) = false := by simp [hra]
      clear hm hl hra
      generalize resOf m h = rv at *
      generalize hn1 : m.words.length = n1 at *
      generalize hn2 : m.pend.length = n2 at *
      generalize hn3 : m.res.length = n3 at *
      have HN1 := Lib.hid hn1; have HN2 := Lib.hid hn2; have HN3 := Lib.hid hn3
      clear hn1 hn2 hn3
      go_enter Try.func31, Try.ntmps31
      go_wp2_with fail
      have hb0 := bw_tr (bel_new w (.cells #[.slice a1 n1 c1, .slice (some ⟨b2, o2, none⟩) n2 c2, .slice (some ⟨cb, co, none⟩) n3 c3] 27)) (bel_new (w.alloc (.cells #[.slice a1 n1 c1, .slice (some ⟨b2, o2, none⟩) n2 c2, .slice (some ⟨cb, co, none⟩) n3 c3] 27)) (.cells #[.slice none 0 0, .slice none 0 0, .slice none 0 0] 27))
      have hq0 := up_in (bel_new (w.alloc (.cells #[.slice a1 n1 c1, .slice (some ⟨b2, o2, none⟩) n2 c2, .slice (some ⟨cb, co, none⟩) n3 c3] 27)) (.cells #[.slice none 0 0, .slice none 0 0, .slice none 0 0] 27)) (new_in w (.cells #[.slice a1 n1 c1, .slice (some ⟨b2, o2, none⟩) n2 c2, .slice (some ⟨cb, co, none⟩) n3 c3] 27))
      have hr0 := new_in (w.alloc (.cells #[.slice a1 n1 c1, .slice (some ⟨b2, o2, none⟩) n2 c2, .slice (some ⟨cb, co, none⟩) n3 c3] 27)) (.cells #[.slice none 0 0, .slice none 0 0, .slice none 0 0] 27)
      rw [World.size_alloc] at hr0
      refine (rthere_any _ m h a true _ (HM.out.below hb0) HH.out).mono ?_
      rintro e w1 ⟨rfl, hb1⟩
      have HQ1 : Hid (w1.heap[w.heap.size + 1]? = some zM3) := Lib.hid (up_in hb1 hr0); have HX1 := Lib.hid (up_in hb1 hq0); have B1 := Lib.hid (bw_tr hb0 hb1)
      clear hb0 hq0 hr0 hb1
      obtain ⟨⟨k0, k1, k2⟩, _⟩ := six HX1.out
      have tx := lt_in HX1.out
      obtain ⟨tr, vr⟩ := HRC.out.up B1.out
      obtain ⟨tw, vw⟩ := HWC.out.up B1.out
      go_wp2_with fail
      clear k0 k1 k2 tx tr vr tw vw
      refine (rown_ret _ m _ (HM.out.below B1.out) HS.out).mono ?_
      rintro e w2 ⟨q0, y1, z1, y2, z2, y3, z3, rs, rfl, ho2, hb2⟩
      rw [HN1.out, HN2.out, HN3.out] at ho2 ⊢
      go_upto_region 8 with fail
      have hO := ho2.move (new_in w2 (.cells #[.slice y1 n1 z1, .slice y2 n2 z2, .slice y3 n3 z3] 27)) hb2.size (bel_new w2 _)
      have hU := bw_tr hb2 (bel_new w2 (.cells #[.slice y1 n1 z1, .slice y2 n2 z2, .slice y3 n3 z3] 27))
      have lqp : w.heap.size + 1 < w2.heap.size := Nat.lt_of_lt_of_le (lt_in HQ1.out) hb2.size
      obtain ⟨W, hW⟩ : ∃ W, w2.alloc (.cells #[.slice y1 n1 z1, .slice y2 n2 z2, .slice y3 n3 z3] 27) = W := ⟨_, rfl⟩
      rw [hW] at hO hU ⊢
      obtain ⟨q, hq⟩ : ∃ q, w2.heap.size = q := ⟨_, rfl⟩
      rw [hq] at hO lqp ⊢
      clear hW hq ho2 hb2
      have HO := Lib.hid (hO.low B1.out.size); have HQ2 := Lib.hid (up_in hU HQ1.out); have HX2 := Lib.hid (up_in hU HX1.out); have BU := Lib.hid hU; have B2 := Lib.hid (bw_tr B1.out hU)
      clear hO hU
      go_upto_region 10 with fail
      have hro := HO.out.res
      rw [HN3.out] at hro
      obtain ⟨g, cg, e9, hcg, hmg⟩ := own_some hro (by omega)
      injection e9 with e9 e8 e6
      subst e9 e6
      clear e8
      unfold maxLen at hmg
      obtain ⟨xr, hxr⟩ : ∃ x, (m).res[h.toNat]? = some x := ⟨_, List.getElem?_eq_getElem (by rw [HN3.out]; omega)⟩
      obtain ⟨vg, hfz⟩ := own_cell1 (k := h.toNat) (u := .int .i64 xr) hro (by unfold intC; rw [List.getElem?_map, hxr]; rfl)
      obtain ⟨⟨m0, m1, m2⟩, _⟩ := six HO.out.at_
      have tm := lt_in HO.out.at_
      have tg := (hro.lt g rfl).2
      have H3 := Lib.hid (HO.out.setResv (by decide) rfl h.toNat (-1))
      have R3 : Hid ((W.setCell ⟨g, h.toNat, none⟩ (.int .i64 (-1))).heap[w.heap.size + 1]? = some zM3) := Lib.hid (cell_other hro rfl HQ2.out (by decide))
      have hgB : w.heap.size ≤ g := (hro.lt g rfl).1
      have B3 : Hid (Below w.heap.size w (W.setCell ⟨g, h.toNat, none⟩ (.int .i64 (-1)))) := Lib.hid (bw_set B2.out hgB _)
      go_upto_region 11 with fail
      obtain ⟨W3, hW⟩ : ∃ W', W.setCell ⟨g, h.toNat, none⟩ (.int .i64 (-1)) = W' := ⟨_, rfl⟩
      rw [hW] at H3 R3 B3 ⊢
      clear hW m0 m1 m2 tm tg vg hfz HO HQ2 hro B2 hxr
      obtain ⟨⟨m0, m1, m2⟩, _⟩ := six H3.out.at_
      have tm := lt_in H3.out.at_
      refine wp_region_below_tail 3 (by kernel_rfl) (by kernel_rfl) ?_
      simp only [List.take_succ_cons, List.take_zero, List.drop_succ_cons, List.drop_zero]
      have p0 := fun x => wd_cell tm m0 x
      have p1 := fun x => wd_cell tm m1 x
      have p2 := fun x => wd_cell tm m2 x
      clear m0 m1 m2
      repeat (go_big_quiet_step (fail))
      refine wpQuiet_nil ?_
      rintro w9 ⟨⟨w9x, hb9⟩, rfl⟩
      have HOW := Lib.hid (H3.out.below hb9); have HRW := Lib.hid (up_in hb9 R3.out); have BWW := Lib.hid (bw_tr B3.out hb9)
      clear p0 p1 p2 hb9
      obtain ⟨⟨e20, e21, e22⟩, f20, f21, f22⟩ := six HRW.out
      have t2' := lt_in HRW.out
      go_wp2_with fail
      obtain ⟨k0, k1, k2⟩ := three_cells (set3_spec (x := .slice y1 n1 z1) (y := .slice y2 n2 z2) (z := .slice (some ⟨g, 0, none⟩) n3 z3) HRW.out).1
      have HMW := Lib.hid (isMem_set3 (.slice y1 n1 z1) (.slice y2 n2 z2) (.slice (some ⟨g, 0, none⟩) n3 z3) HOW.out.isMem HRW.out)
      have BW := Lib.hid (bel_set3 (x := .slice y1 n1 z1) (y := .slice y2 n2 z2) (z := .slice (some ⟨g, 0, none⟩) n3 z3) BWW.out (by omega : w.heap.size ≤ w.heap.size + 1))
      exact bodyPost_ret (v := .tuple #[.bool false, .agg #[.slice y1 n1 z1, .slice y2 n2 z2, .slice (some ⟨g, 0, none⟩) n3 z3], .int .i64 0]) (by simp [results, Try.results31, go_sem, k0, k1, k2]) rfl ⟨_, rfl, HMW.out, BW.out⟩
    have E := Lib.hid (show condR m h a n = (true, setRes (goesM m h a (wrap32 n)) h (-1), 0) by unfold condR; rw [once_yes HH.out hl, if_pos rfl, if_pos hra])
    rw [E.out]
    rw [hl] at HRC
    have hrb : (resOf m h == a) = true := by simp [hra]
    clear hm hl hra
    generalize resOf m h = rv at *
    generalize hn1 : m.words.length = n1 at *
    generalize hn2 : m.pend.length = n2 at *
    generalize hn3 : m.res.length = n3 at *
    have HN1 := Lib.hid hn1; have HN2 := Lib.hid hn2; have HN3 := Lib.hid hn3
    clear hn1 hn2 hn3
    go_enter Try.func31, Try.ntmps31
    go_wp2_with fail
    have hb0 := bw_tr (bel_new w (.cells #[.slice a1 n1 c1, .slice (some ⟨b2, o2, none⟩) n2 c2, .slice (some ⟨cb, co, none⟩) n3 c3] 27)) (bel_new (w.alloc (.cells #[.slice a1 n1 c1, .slice (some ⟨b2, o2, none⟩) n2 c2, .slice (some ⟨cb, co, none⟩) n3 c3] 27)) (.cells #[.slice none 0 0, .slice none 0 0, .slice none 0 0] 27))
    have hq0 := up_in (bel_new (w.alloc (.cells #[.slice a1 n1 c1, .slice (some ⟨b2, o2, none⟩) n2 c2, .slice (some ⟨cb, co, none⟩) n3 c3] 27)) (.cells #[.slice none 0 0, .slice none 0 0, .slice none 0 0] 27)) (new_in w (.cells #[.slice a1 n1 c1, .slice (some ⟨b2, o2, none⟩) n2 c2, .slice (some ⟨cb, co, none⟩) n3 c3] 27))
    have hr0 := new_in (w.alloc (.cells #[.slice a1 n1 c1, .slice (some ⟨b2, o2, none⟩) n2 c2, .slice (some ⟨cb, co, none⟩) n3 c3] 27)) (.cells #[.slice none 0 0, .slice none 0 0, .slice none 0 0] 27)
    rw [World.size_alloc] at hr0
    refine (rthere_any _ m h a true _ (HM.out.below hb0) HH.out).mono ?_
    rintro e w1 ⟨rfl, hb1⟩
    have HQ1 : Hid (w1.heap[w.heap.size + 1]? = some zM3) := Lib.hid (up_in hb1 hr0); have HX1 := Lib.hid (up_in hb1 hq0); have B1 := Lib.hid (bw_tr hb0 hb1)
    clear hb0 hq0 hr0 hb1
    obtain ⟨⟨k0, k1, k2⟩, _⟩ := six HX1.out
    have tx := lt_in HX1.out
    obtain ⟨tr, vr⟩ := HRC.out.up B1.out
    obtain ⟨tw, vw⟩ := HWC.out.up B1.out
    go_wp2_with fail
    clear k0 k1 k2 tx tr vr tw vw
    refine (rown_ret _ m _ (HM.out.below B1.out) HS.out).mono ?_
    rintro e w2 ⟨q0, y1, z1, y2, z2, y3, z3, rs, rfl, ho2, hb2⟩
    rw [HN1.out, HN2.out, HN3.out] at ho2 ⊢
    go_upto_region 8 with fail
    have hO := ho2.move (new_in w2 (.cells #[.slice y1 n1 z1, .slice y2 n2 z2, .slice y3 n3 z3] 27)) hb2.size (bel_new w2 _)
    have hU := bw_tr hb2 (bel_new w2 (.cells #[.slice y1 n1 z1, .slice y2 n2 z2, .slice y3 n3 z3] 27))
    have lqp : w.heap.size + 1 < w2.heap.size := Nat.lt_of_lt_of_le (lt_in HQ1.out) hb2.size
    obtain ⟨W, hW⟩ : ∃ W, w2.alloc (.cells #[.slice y1 n1 z1, .slice y2 n2 z2, .slice y3 n3 z3] 27) = W := ⟨_, rfl⟩
    rw [hW] at hO hU ⊢
    obtain ⟨q, hq⟩ : ∃ q, w2.heap.size = q := ⟨_, rfl⟩
    rw [hq] at hO lqp ⊢
    clear hW hq ho2 hb2
    have HO := Lib.hid (hO.low B1.out.size); have HQ2 := Lib.hid (up_in hU HQ1.out); have HX2 := Lib.hid (up_in hU HX1.out); have BU := Lib.hid hU; have B2 := Lib.hid (bw_tr B1.out hU)
    clear hO hU
    have LG : Hid ((goesM m h a (wrap32 n)).words.length = n1 ∧ (goesM m h a (wrap32 n)).pend.length = n2 ∧ (goesM m h a (wrap32 n)).res.length = n3) := Lib.hid ⟨by simp [goesM, HN1.out], HN2.out, by simp [goesM, goRes_len, HN3.out]⟩
    obtain ⟨⟨k0, k1, k2⟩, _⟩ := six HX2.out
    have tx := lt_in HX2.out
    go_upto_region 9 with fail
    refine wp_region_below_tail 5 (by kernel_rfl) (by kernel_rfl) ?_
    simp only [List.take_succ_cons, List.take_zero, List.drop_succ_cons, List.drop_zero]
    have p0 := fun x => wd_cell tx k0 x
    have p1 := fun x => wd_cell tx k1 x
    have p2 := fun x => wd_cell tx k2 x
    clear k0 k1 k2
    repeat (go_big_quiet_step ((go_at_call 54; with_reducible exact quiet_s (rwrap_any n _ HI.out))))
    refine wpQuiet_nil ?_
    rintro w5 ⟨⟨w5x, hb5⟩, rfl⟩
    clear p0 p1 p2
    have HX5 := Lib.hid (up_in hb5 HX2.out); have HQ5 := Lib.hid (up_in hb5 HQ2.out); have B5 := Lib.hid (bw_tr B2.out hb5); have HP5 := Lib.hid (up_in hb5 HO.out.at_)
    clear hb5 HX2 HQ2 B2 HO
    go_wp2_with fail
    refine (rgoes_any _ m h a (wrap32 n) _ (HM.out.below B5.out) HS.out ⟨h3, by rw [HN1.out]; exact h4⟩).mono ?_
    rintro e w6 ⟨q6, y1', z1', y2', z2', y3', z3', rs', rfl, ho6, hb6⟩
    rw [LG.out.1, LG.out.2.1, LG.out.2.2] at ho6 ⊢
    have HQ6 := Lib.hid (up_in hb6 HQ5.out); have HP6 := Lib.hid (up_in hb6 HP5.out); have B6 := Lib.hid (bw_tr B5.out hb6)
    have hq6 : w5.heap.size ≤ q6 := ho6.base
    have lq5 := lt_in HP5.out
    have O6 := Lib.hid (ho6.low B5.out.size)
    clear ho6 hb6 HP5 HQ5 B5
    obtain ⟨⟨k0, k1, k2⟩, f0, f1, f2⟩ := six HP6.out
    have tq := lt_in HP6.out
    have O7 := Lib.hid ((O6.out.set3 (.slice y1' n1 z1') (.slice y2' n2 z2') (.slice y3' n3 z3') HP6.out (by omega)).move (set3_spec (x := .slice y1' n1 z1') (y := .slice y2' n2 z2') (z := .slice y3' n3 z3') HP6.out).1 (by omega) (Below.refl _ _))
    have Q7 : Hid ((((w6.setCell ⟨q, 0, none⟩ (.slice y1' n1 z1')).setCell ⟨q, 1, none⟩ (.slice y2' n2 z2')).setCell ⟨q, 2, none⟩ (.slice y3' n3 z3')).heap[w.heap.size + 1]? = some zM3) := Lib.hid (((set3_spec HP6.out).2 _ (by omega)).trans HQ6.out)
    have B7 := Lib.hid (bel_set3 (x := .slice y1' n1 z1') (y := .slice y2' n2 z2') (z := .slice y3' n3 z3') B6.out (by omega : w.heap.size ≤ q))
    go_upto_region 10 with fail
    obtain ⟨W7, hW⟩ : ∃ W', ((w6.setCell ⟨q, 0, none⟩ (.slice y1' n1 z1')).setCell ⟨q, 1, none⟩ (.slice y2' n2 z2')).setCell ⟨q, 2, none⟩ (.slice y3' n3 z3') = W' := ⟨_, rfl⟩
    rw [hW] at O7 Q7 B7 ⊢
    clear hW k0 k1 k2 f0 f1 f2 tq O6 HQ6 HP6 B6
    have hro := O7.out.res
    rw [LG.out.2.2] at hro
    obtain ⟨g, cg, e9, hcg, hmg⟩ := own_some hro (by omega)
    injection e9 with e9 e8 e6
    subst e9 e6
    clear e8
    unfold maxLen at hmg
    obtain ⟨xr, hxr⟩ : ∃ x, (goesM m h a (wrap32 n)).res[h.toNat]? = some x := ⟨_, List.getElem?_eq_getElem (by rw [LG.out.2.2]; omega)⟩
    obtain ⟨vg, hfz⟩ := own_cell1 (k := h.toNat) (u := .int .i64 xr) hro (by unfold intC; rw [List.getElem?_map, hxr]; rfl)
    obtain ⟨⟨m0, m1, m2⟩, _⟩ := six O7.out.at_
    have tm := lt_in O7.out.at_
    have tg := (hro.lt g rfl).2
    have H3 := Lib.hid (O7.out.setResv (by decide) rfl h.toNat (-1))
    have R3 : Hid ((W7.setCell ⟨g, h.toNat, none⟩ (.int .i64 (-1))).heap[w.heap.size + 1]? = some zM3) := Lib.hid (cell_other hro rfl Q7.out (by decide))
    have hgB : w.heap.size ≤ g := (hro.lt g rfl).1
    have B3 : Hid (Below w.heap.size w (W7.setCell ⟨g, h.toNat, none⟩ (.int .i64 (-1)))) := Lib.hid (bw_set B7.out hgB _)
    go_upto_region 11 with fail
    obtain ⟨W3, hW⟩ : ∃ W', W7.setCell ⟨g, h.toNat, none⟩ (.int .i64 (-1)) = W' := ⟨_, rfl⟩
    rw [hW] at H3 R3 B3 ⊢
    clear hW m0 m1 m2 tm tg vg hfz O7 Q7 hro B7 hxr
    obtain ⟨⟨m0, m1, m2⟩, _⟩ := six H3.out.at_
    have tm := lt_in H3.out.at_
    refine wp_region_below_tail 3 (by kernel_rfl) (by kernel_rfl) ?_
    simp only [List.take_succ_cons, List.take_zero, List.drop_succ_cons, List.drop_zero]
    have p0 := fun x => wd_cell tm m0 x
    have p1 := fun x => wd_cell tm m1 x
    have p2 := fun x => wd_cell tm m2 x
    clear m0 m1 m2
    repeat (go_big_quiet_step (fail))
    refine wpQuiet_nil ?_
    rintro w9 ⟨⟨w9x, hb9⟩, rfl⟩
    have HOW := Lib.hid (H3.out.below hb9); have HRW := Lib.hid (up_in hb9 R3.out); have BWW := Lib.hid (bw_tr B3.out hb9)
    clear p0 p1 p2 hb9
    obtain ⟨⟨e20, e21, e22⟩, f20, f21, f22⟩ := six HRW.out
    have t2' := lt_in HRW.out
    go_wp2_with fail
    obtain ⟨k0, k1, k2⟩ := three_cells (set3_spec (x := .slice y1' n1 z1') (y := .slice y2' n2 z2') (z := .slice (some ⟨g, 0, none⟩) n3 z3') HRW.out).1
    have HMW := Lib.hid (isMem_set3 (.slice y1' n1 z1') (.slice y2' n2 z2') (.slice (some ⟨g, 0, none⟩) n3 z3') HOW.out.isMem HRW.out)
    have BW := Lib.hid (bel_set3 (x := .slice y1' n1 z1') (y := .slice y2' n2 z2') (z := .slice (some ⟨g, 0, none⟩) n3 z3') BWW.out (by omega : w.heap.size ≤ w.heap.size + 1))
    exact bodyPost_ret (v := .tuple #[.bool true, .agg #[.slice y1' n1 z1', .slice y2' n2 z2', .slice (some ⟨g, 0, none⟩) n3 z3'], .int .i64 0]) (by simp [results, Try.results31, go_sem, k0, k1, k2]) rfl ⟨_, rfl, HMW.out, BW.out⟩
set_option maxHeartbeats 4000000 in
theorem rchange_any (v : Value) (m : Mem) (h a op n : Int) (w : World) (hm : IsMem w v m) (hs : Small m) (hn : I64 n) (hwa : I64 (wordOf m a)) :
    Calls Try.prog 32 #[v, .int .i64 h, .int .i64 a, .int .i64 op, .int .i64 n] w (MemRet3 w w.heap.size (.int .i64 (changeR m h a op n).1) (changeR m h a op n).2) := by
  have HM := Lib.hid hm; have HS := Lib.hid hs; have HI := Lib.hid hn; have HWA := Lib.hid hwa
  obtain ⟨a1, c1, a2, c2, a3, c3, rows, rfl, _, _, _, _⟩ := hm.parts
  clear hs hn hwa
  unfold MemRet3
  cases hh : hasB m h a
  case false =>
    have E := Lib.hid (show changeR m h a op n = (0, noMem, 1) by unfold changeR changeE; rw [once_no hh]; split <;> rfl)
    rw [E.out]
    have HH := Lib.hid hh; clear hh hm
    generalize hn1 : m.words.length = n1 at *
    generalize hn2 : m.pend.length = n2 at *
    generalize hn3 : m.res.length = n3 at *
    have HN1 := Lib.hid hn1; have HN2 := Lib.hid hn2; have HN3 := Lib.hid hn3
    clear hn1 hn2 hn3
    go_enter Try.func32, Try.ntmps32
    go_wp2_with fail
    have hb0 := bw_tr (bel_new w (.cells #[.slice a1 n1 c1, .slice a2 n2 c2, .slice a3 n3 c3] 27)) (bel_new (w.alloc (.cells #[.slice a1 n1 c1, .slice a2 n2 c2, .slice a3 n3 c3] 27)) (.cells #[.slice none 0 0, .slice none 0 0, .slice none 0 0] 27))
    have hq0 := up_in (bel_new (w.alloc (.cells #[.slice a1 n1 c1, .slice a2 n2 c2, .slice a3 n3 c3] 27)) (.cells #[.slice none 0 0, .slice none 0 0, .slice none 0 0] 27)) (new_in w (.cells #[.slice a1 n1 c1, .slice a2 n2 c2, .slice a3 n3 c3] 27))
    have hr0 := new_in (w.alloc (.cells #[.slice a1 n1 c1, .slice a2 n2 c2, .slice a3 n3 c3] 27)) (.cells #[.slice none 0 0, .slice none 0 0, .slice none 0 0] 27)
    rw [World.size_alloc] at hr0
    refine (rthere_any _ m h a false _ (HM.out.below hb0) HH.out).mono ?_
    rintro e w1 ⟨rfl, hb1⟩
    have HQ1 : Hid (w1.heap[w.heap.size + 1]? = some zM3) := Lib.hid (up_in hb1 hr0); have HX1 := Lib.hid (up_in hb1 hq0); have B1 := Lib.hid (bw_tr hb0 hb1)
    clear hb0 hq0 hr0 hb1
    obtain ⟨⟨k0, k1, k2⟩, f0, f1, f2⟩ := six HQ1.out
    have tq := lt_in HQ1.out
    obtain ⟨s0, s1, s2⟩ := three_cells (set3_spec (x := .slice none 0 0) (y := .slice none 0 0) (z := .slice none 0 0) HQ1.out).1
    go_wp2_with fail
    exact bodyPost_ret (v := .tuple #[.int .i64 0, .agg #[.slice none 0 0, .slice none 0 0, .slice none 0 0], .int .i64 1]) (by simp [results, Try.results32, go_sem, s0, s1, s2]) rfl ⟨_, rfl, isMem_no _, bel_set3 B1.out (by omega)⟩
  case true =>
    obtain ⟨h0, h1, h2, h3, h4⟩ := hasB_spec hh
    obtain ⟨b2, o2, ar, cr0, e00, e0, e1, e2, e3, hrc0, _⟩ := hm.row h1 h0
    obtain ⟨wb, wo, e01, e02, q11, q12, hw1, hw2⟩ := hm.word h3 h4
    subst e00 e01
    have HH := Lib.hid hh; have HRC := Lib.hid (show CellAt w b2 (o2 + h.toNat) _ from ⟨e3, hrc0⟩); have HWC := Lib.hid (show CellAt w wb (wo + a.toNat) _ from ⟨hw1, hw2⟩); clear e0 e02 hrc0 hw2 e3
    by_cases hop : op = 0
    rotate_left
    by_cases hlv : levelN op = 0
    · have E := Lib.hid (show changeR m h a op n = (0, noMem, 1) by have ce : changeE m h a op = 1 := (by unfold changeE; rw [if_pos ⟨hop, hlv⟩]); unfold changeR; rw [ce]; rfl)
      rw [E.out]
      have ob : (op != 0) = true := by simp [hop]
      have HLV := Lib.hid hlv
      clear hm hop hlv
      generalize hn1 : m.words.length = n1 at *
      generalize hn2 : m.pend.length = n2 at *
      generalize hn3 : m.res.length = n3 at *
      have HN1 := Lib.hid hn1; have HN2 := Lib.hid hn2; have HN3 := Lib.hid hn3
      clear hn1 hn2 hn3
      go_enter Try.func32, Try.ntmps32
      go_wp2_with fail
      have hb0 := bw_tr (bel_new w (.cells #[.slice (some ⟨wb, wo, none⟩) n1 c1, .slice (some ⟨b2, o2, none⟩) n2 c2, .slice a3 n3 c3] 27)) (bel_new (w.alloc (.cells #[.slice (some ⟨wb, wo, none⟩) n1 c1, .slice (some ⟨b2, o2, none⟩) n2 c2, .slice a3 n3 c3] 27)) (.cells #[.slice none 0 0, .slice none 0 0, .slice none 0 0] 27))
      have hq0 := up_in (bel_new (w.alloc (.cells #[.slice (some ⟨wb, wo, none⟩) n1 c1, .slice (some ⟨b2, o2, none⟩) n2 c2, .slice a3 n3 c3] 27)) (.cells #[.slice none 0 0, .slice none 0 0, .slice none 0 0] 27)) (new_in w (.cells #[.slice (some ⟨wb, wo, none⟩) n1 c1, .slice (some ⟨b2, o2, none⟩) n2 c2, .slice a3 n3 c3] 27))
      have hr0 := new_in (w.alloc (.cells #[.slice (some ⟨wb, wo, none⟩) n1 c1, .slice (some ⟨b2, o2, none⟩) n2 c2, .slice a3 n3 c3] 27)) (.cells #[.slice none 0 0, .slice none 0 0, .slice none 0 0] 27)
      rw [World.size_alloc] at hr0
      refine (rthere_any _ m h a true _ (HM.out.below hb0) HH.out).mono ?_
      rintro e w1 ⟨rfl, hb1⟩
      have HQ1 : Hid (w1.heap[w.heap.size + 1]? = some zM3) := Lib.hid (up_in hb1 hr0); have HX1 := Lib.hid (up_in hb1 hq0); have B1 := Lib.hid (bw_tr hb0 hb1)
      clear hb0 hq0 hr0 hb1
      go_wp2_with fail
      refine (rlevel_any op _).mono ?_
      rintro e w2 ⟨rfl, hb2⟩
      have HQ2 := Lib.hid (up_in hb2 HQ1.out); have HX2 := Lib.hid (up_in hb2 HX1.out); have B2 := Lib.hid (bw_tr B1.out hb2)
      clear hb2 HQ1 HX1 B1
      rw [HLV.out]
      obtain ⟨⟨k0, k1, k2⟩, f0, f1, f2⟩ := six HQ2.out
      have tq := lt_in HQ2.out
      obtain ⟨s0, s1, s2⟩ := three_cells (set3_spec (x := .slice none 0 0) (y := .slice none 0 0) (z := .slice none 0 0) HQ2.out).1
      go_wp2_with fail
      exact bodyPost_ret (v := .tuple #[.int .i64 0, .agg #[.slice none 0 0, .slice none 0 0, .slice none 0 0], .int .i64 1]) (by simp [results, Try.results32, go_sem, s0, s1, s2]) rfl ⟨_, rfl, isMem_no _, bel_set3 B2.out (by omega)⟩
    · have CE : Hid (changeE m h a op = onceE m h a) := Lib.hid (by unfold changeE; rw [if_neg (fun e => hlv e.2)])
      by_cases hl : (pendOf m h).length = 0
      rotate_left
      · have E := Lib.hid (show changeR m h a op n = (0, noMem, 92) by unfold changeR; rw [CE.out, once_busy HH.out hl]; rfl)
        rw [E.out]
        have ob : (op != 0) = true := by simp [hop]
        have lb : (levelN op == 0) = false := by simp [hlv]
        have HOP := Lib.hid hop; have HLV := Lib.hid hlv
        clear hop hlv
        clear hm E CE
        obtain ⟨ln, hln⟩ : ∃ ln, (pendOf m h).length = ln := ⟨_, rfl⟩
        rw [hln] at HRC hl
        clear hln
        generalize hn1 : m.words.length = n1 at *
        generalize hn2 : m.pend.length = n2 at *
        generalize hn3 : m.res.length = n3 at *
        have HN1 := Lib.hid hn1; have HN2 := Lib.hid hn2; have HN3 := Lib.hid hn3
        clear hn1 hn2 hn3
        go_enter Try.func32, Try.ntmps32
        go_wp2_with fail
        have hb0 := bw_tr (bel_new w (.cells #[.slice (some ⟨wb, wo, none⟩) n1 c1, .slice (some ⟨b2, o2, none⟩) n2 c2, .slice a3 n3 c3] 27)) (bel_new (w.alloc (.cells #[.slice (some ⟨wb, wo, none⟩) n1 c1, .slice (some ⟨b2, o2, none⟩) n2 c2, .slice a3 n3 c3] 27)) (.cells #[.slice none 0 0, .slice none 0 0, .slice none 0 0] 27))
        have hq0 := up_in (bel_new (w.alloc (.cells #[.slice (some ⟨wb, wo, none⟩) n1 c1, .slice (some ⟨b2, o2, none⟩) n2 c2, .slice a3 n3 c3] 27)) (.cells #[.slice none 0 0, .slice none 0 0, .slice none 0 0] 27)) (new_in w (.cells #[.slice (some ⟨wb, wo, none⟩) n1 c1, .slice (some ⟨b2, o2, none⟩) n2 c2, .slice a3 n3 c3] 27))
        have hr0 := new_in (w.alloc (.cells #[.slice (some ⟨wb, wo, none⟩) n1 c1, .slice (some ⟨b2, o2, none⟩) n2 c2, .slice a3 n3 c3] 27)) (.cells #[.slice none 0 0, .slice none 0 0, .slice none 0 0] 27)
        rw [World.size_alloc] at hr0
        refine (rthere_any _ m h a true _ (HM.out.below hb0) HH.out).mono ?_
        rintro e w1 ⟨rfl, hb1⟩
        have HQ1 : Hid (w1.heap[w.heap.size + 1]? = some zM3) := Lib.hid (up_in hb1 hr0); have HX1 := Lib.hid (up_in hb1 hq0); have B1 := Lib.hid (bw_tr hb0 hb1)
        clear hb0 hq0 hr0 hb1
        go_wp2_with fail
        refine (rlevel_any op _).mono ?_
        rintro e w2 ⟨rfl, hb2⟩
        have HQ2 := Lib.hid (up_in hb2 HQ1.out); have HX2 := Lib.hid (up_in hb2 HX1.out); have B2 := Lib.hid (bw_tr B1.out hb2)
        clear hb2 HQ1 HX1 B1
        obtain ⟨⟨k0, k1, k2⟩, _⟩ := six HX2.out
        have tx := lt_in HX2.out
        obtain ⟨tr, vr⟩ := HRC.out.up B2.out
        obtain ⟨tw, vw⟩ := HWC.out.up B2.out
        have hlp : 0 < ln := by omega
        have HL := Lib.hid hl; clear hl
        go_upto_if 37 with fail
        clear k0 k1 k2
        obtain ⟨⟨k0, k1, k2⟩, f0, f1, f2⟩ := six HQ2.out
        have tq := lt_in HQ2.out
        obtain ⟨s0, s1, s2⟩ := three_cells (set3_spec (x := .slice none 0 0) (y := .slice none 0 0) (z := .slice none 0 0) HQ2.out).1
        go_wp2_with fail
        exact bodyPost_ret (v := .tuple #[.int .i64 0, .agg #[.slice none 0 0, .slice none 0 0, .slice none 0 0], .int .i64 92]) (by simp [results, Try.results32, go_sem, s0, s1, s2]) rfl ⟨_, rfl, isMem_no _, bel_set3 B2.out (by omega)⟩
      have E := Lib.hid (show changeR m h a op n = (wordOf m a, goesM m h a (changeN op (wordOf m a) n), 0) by unfold changeR; rw [CE.out, once_yes HH.out hl]; rfl)
      rw [E.out]
      have CN : Hid (changeN op (wordOf m a) n = twoN op (wordOf m a) n) := Lib.hid (by unfold changeN; rw [if_neg hop])
      rw [CN.out]
      rw [hl] at HRC
      clear hm hl CE E CN
      generalize wordOf m a = wd at *
      have ob : (op != 0) = true := by simp [hop]
      have lb : (levelN op == 0) = false := by simp [hlv]
      have HOP := Lib.hid hop; have HLV := Lib.hid hlv
      clear hop hlv
      generalize hn1 : m.words.length = n1 at *
      generalize hn2 : m.pend.length = n2 at *
      generalize hn3 : m.res.length = n3 at *
      have HN1 := Lib.hid hn1; have HN2 := Lib.hid hn2; have HN3 := Lib.hid hn3
      clear hn1 hn2 hn3
      go_enter Try.func32, Try.ntmps32
      go_wp2_with fail
      have hb0 := bw_tr (bel_new w (.cells #[.slice (some ⟨wb, wo, none⟩) n1 c1, .slice (some ⟨b2, o2, none⟩) n2 c2, .slice a3 n3 c3] 27)) (bel_new (w.alloc (.cells #[.slice (some ⟨wb, wo, none⟩) n1 c1, .slice (some ⟨b2, o2, none⟩) n2 c2, .slice a3 n3 c3] 27)) (.cells #[.slice none 0 0, .slice none 0 0, .slice none 0 0] 27))
      have hq0 := up_in (bel_new (w.alloc (.cells #[.slice (some ⟨wb, wo, none⟩) n1 c1, .slice (some ⟨b2, o2, none⟩) n2 c2, .slice a3 n3 c3] 27)) (.cells #[.slice none 0 0, .slice none 0 0, .slice none 0 0] 27)) (new_in w (.cells #[.slice (some ⟨wb, wo, none⟩) n1 c1, .slice (some ⟨b2, o2, none⟩) n2 c2, .slice a3 n3 c3] 27))
      have hr0 := new_in (w.alloc (.cells #[.slice (some ⟨wb, wo, none⟩) n1 c1, .slice (some ⟨b2, o2, none⟩) n2 c2, .slice a3 n3 c3] 27)) (.cells #[.slice none 0 0, .slice none 0 0, .slice none 0 0] 27)
      rw [World.size_alloc] at hr0
      refine (rthere_any _ m h a true _ (HM.out.below hb0) HH.out).mono ?_
      rintro e w1 ⟨rfl, hb1⟩
      have HQ1 : Hid (w1.heap[w.heap.size + 1]? = some zM3) := Lib.hid (up_in hb1 hr0); have HX1 := Lib.hid (up_in hb1 hq0); have B1 := Lib.hid (bw_tr hb0 hb1)
      clear hb0 hq0 hr0 hb1
      go_wp2_with fail
      refine (rlevel_any op _).mono ?_
      rintro e w2 ⟨rfl, hb2⟩
      have HQ2 := Lib.hid (up_in hb2 HQ1.out); have HX2 := Lib.hid (up_in hb2 HX1.out); have B2 := Lib.hid (bw_tr B1.out hb2)
      clear hb2 HQ1 HX1 B1
      obtain ⟨⟨k0, k1, k2⟩, _⟩ := six HX2.out
      have tx := lt_in HX2.out
      obtain ⟨tr, vr⟩ := HRC.out.up B2.out
      obtain ⟨tw, vw⟩ := HWC.out.up B2.out
      have LG : Hid (∀ x, (goesM m h a x).words.length = n1 ∧ (goesM m h a x).pend.length = n2 ∧ (goesM m h a x).res.length = n3) := Lib.hid (fun x => ⟨by simp [goesM, HN1.out], HN2.out, by simp [goesM, goRes_len, HN3.out]⟩)
      go_upto_region 9 with (first | (go_at_call 54; (with_reducible refine (rwrap_any n _ HI.out).mono ?_); rintro e w' ⟨rfl, rfl⟩) | (go_at_call 58; (with_reducible refine (rtwo_any op wd n _ HWA.out HI.out).mono ?_); rintro e w' ⟨rfl, rfl⟩))
      clear k0 k1 k2 tr vr tx
      have XW := Lib.hid (show CellAt _ _ _ _ from ⟨tw, vw⟩)
      clear tw vw
      refine wp_region_ut (fun w' => w'.heap[w.heap.size]? = some (.cells #[.slice (some ⟨wb, wo, none⟩) n1 c1, .slice (some ⟨b2, o2, none⟩) n2 c2, .slice a3 n3 c3] 27 (0, 0)) ∧ CellAt w' wb (wo + a.toNat) (.int .i64 wd)) 11 [true, true, true, true, true, true, true, true, true] (by kernel_rfl) (by kernel_rfl) (by kernel_rfl) (fun _ _ h hu => ⟨up_in hu h.1, h.2.up hu⟩) ⟨HX2.out, XW.out⟩ ?ra2x ?rh2x ?rt2x
      case rh2x =>
        intro w0 ⟨hc, hd⟩
        obtain ⟨⟨k0, k1, k2⟩, _⟩ := six hc
        have tx := lt_in hc
        have p0 := fun x => wd_cell tx k0 x
        have p1 := fun x => wd_cell tx k1 x
        have p2 := fun x => wd_cell tx k2 x
        have p3 := fun x => wd_cell hd.1 hd.2 x
        clear k0 k1 k2 hc hd tx
        simp only [pickM]
        repeat (go_big_quiet_step (fail))
        refine wpQuiet_nil ?_
        rfl
      case rt2x =>
      change headU _ _ _ _ _ _ 2 _ _ _
      refine headU_one (i := 9) (by kernel_rfl) (by decide) rfl ?_
      intro w5 hu5 hc5
      have hb5 := bw_undrew hu5
      have HC5 := Lib.hid hc5
      have HQ5 := Lib.hid (up_in hb5 HQ2.out); have B5 := Lib.hid (bw_tr B2.out hb5)
      clear hb5 hu5 hc5
      go_wp2_with fail
      refine (rgoes_any _ m h a (twoN op wd n) _ (HM.out.below B5.out) HS.out ⟨h3, by rw [HN1.out]; exact h4⟩).mono ?_
      rintro e w6 ⟨q6, y1, z1, y2, z2, y3, z3, rs', rfl, ho6, hb6⟩
      rw [(LG.out _).1, (LG.out _).2.1, (LG.out _).2.2] at ho6 ⊢
      have HR6 := Lib.hid (up_in hb6 HQ5.out); have B6 := Lib.hid (bw_tr B5.out hb6); have HO6 := Lib.hid ho6; have HC6 := Lib.hid (And.intro (up_in hb6 HC5.out.1) (HC5.out.2.up hb6))
      clear ho6 hb6 HQ5 B5 HC5
      go_wp2_with fail
      refine ⟨HC6.out, ?_⟩
      refine headU_one (i := 10) (by kernel_rfl) (by decide) rfl ?_
      intro w7 hu7 hc7
      have HR7 := Lib.hid (up_in hu7 HR6.out); have B7 := Lib.hid (bw_tr B6.out hu7); have HO7 := Lib.hid (HO6.out.below hu7)
      clear hu7
      go_wp2_with fail
      refine ⟨hc7, ?_⟩
      clear hc7
      refine headU_end (by kernel_rfl) ?_
      intro w8 hu8 _
      have HRW := Lib.hid (up_in hu8 HR7.out); have BWW := Lib.hid (bw_tr B7.out hu8); have HOW := Lib.hid (HO7.out.below hu8)
      clear hu8
      simp only [List.drop_succ_cons, List.drop_zero]
      obtain ⟨⟨e20, e21, e22⟩, f20, f21, f22⟩ := six HRW.out
      have t2' := lt_in HRW.out
      go_wp2_with fail
      obtain ⟨k0, k1, k2⟩ := three_cells (set3_spec (x := .slice y1 n1 z1) (y := .slice y2 n2 z2) (z := .slice y3 n3 z3) HRW.out).1
      have HMW := Lib.hid (isMem_set3 (.slice y1 n1 z1) (.slice y2 n2 z2) (.slice y3 n3 z3) HOW.out.isMem HRW.out)
      have BW := Lib.hid (bel_set3 (x := .slice y1 n1 z1) (y := .slice y2 n2 z2) (z := .slice y3 n3 z3) BWW.out (by omega : w.heap.size ≤ w.heap.size + 1))
      exact bodyPost_ret (v := .tuple #[.int .i64 wd, .agg #[.slice y1 n1 z1, .slice y2 n2 z2, .slice y3 n3 z3], .int .i64 0]) (by simp [results, Try.results32, go_sem, k0, k1, k2]) rfl ⟨_, rfl, HMW.out, BW.out⟩
    have CE : Hid (changeE m h a op = onceE m h a) := Lib.hid (by unfold changeE; rw [if_neg (fun e => e.1 hop)])
    by_cases hl : (pendOf m h).length = 0
    rotate_left
    · have E := Lib.hid (show changeR m h a op n = (0, noMem, 92) by unfold changeR; rw [CE.out, once_busy HH.out hl]; rfl)
      rw [E.out]
      subst hop
      clear hm E CE
      obtain ⟨ln, hln⟩ : ∃ ln, (pendOf m h).length = ln := ⟨_, rfl⟩
      rw [hln] at HRC hl
      clear hln
      generalize hn1 : m.words.length = n1 at *
      generalize hn2 : m.pend.length = n2 at *
      generalize hn3 : m.res.length = n3 at *
      have HN1 := Lib.hid hn1; have HN2 := Lib.hid hn2; have HN3 := Lib.hid hn3
      clear hn1 hn2 hn3
      go_enter Try.func32, Try.ntmps32
      go_wp2_with fail
      have hb0 := bw_tr (bel_new w (.cells #[.slice (some ⟨wb, wo, none⟩) n1 c1, .slice (some ⟨b2, o2, none⟩) n2 c2, .slice a3 n3 c3] 27)) (bel_new (w.alloc (.cells #[.slice (some ⟨wb, wo, none⟩) n1 c1, .slice (some ⟨b2, o2, none⟩) n2 c2, .slice a3 n3 c3] 27)) (.cells #[.slice none 0 0, .slice none 0 0, .slice none 0 0] 27))
      have hq0 := up_in (bel_new (w.alloc (.cells #[.slice (some ⟨wb, wo, none⟩) n1 c1, .slice (some ⟨b2, o2, none⟩) n2 c2, .slice a3 n3 c3] 27)) (.cells #[.slice none 0 0, .slice none 0 0, .slice none 0 0] 27)) (new_in w (.cells #[.slice (some ⟨wb, wo, none⟩) n1 c1, .slice (some ⟨b2, o2, none⟩) n2 c2, .slice a3 n3 c3] 27))
      have hr0 := new_in (w.alloc (.cells #[.slice (some ⟨wb, wo, none⟩) n1 c1, .slice (some ⟨b2, o2, none⟩) n2 c2, .slice a3 n3 c3] 27)) (.cells #[.slice none 0 0, .slice none 0 0, .slice none 0 0] 27)
      rw [World.size_alloc] at hr0
      refine (rthere_any _ m h a true _ (HM.out.below hb0) HH.out).mono ?_
      rintro e w1 ⟨rfl, hb1⟩
      have HQ1 : Hid (w1.heap[w.heap.size + 1]? = some zM3) := Lib.hid (up_in hb1 hr0); have HX1 := Lib.hid (up_in hb1 hq0); have B1 := Lib.hid (bw_tr hb0 hb1)
      clear hb0 hq0 hr0 hb1
      obtain ⟨⟨k0, k1, k2⟩, _⟩ := six HX1.out
      have tx := lt_in HX1.out
      obtain ⟨tr, vr⟩ := HRC.out.up B1.out
      obtain ⟨tw, vw⟩ := HWC.out.up B1.out
      have hlp : 0 < ln := by omega
      have HL := Lib.hid hl; clear hl
      go_upto_if 37 with fail
      clear k0 k1 k2
      obtain ⟨⟨k0, k1, k2⟩, f0, f1, f2⟩ := six HQ1.out
      have tq := lt_in HQ1.out
      obtain ⟨s0, s1, s2⟩ := three_cells (set3_spec (x := .slice none 0 0) (y := .slice none 0 0) (z := .slice none 0 0) HQ1.out).1
      go_wp2_with fail
      exact bodyPost_ret (v := .tuple #[.int .i64 0, .agg #[.slice none 0 0, .slice none 0 0, .slice none 0 0], .int .i64 92]) (by simp [results, Try.results32, go_sem, s0, s1, s2]) rfl ⟨_, rfl, isMem_no _, bel_set3 B1.out (by omega)⟩
    have E := Lib.hid (show changeR m h a op n = (wordOf m a, goesM m h a (changeN op (wordOf m a) n), 0) by unfold changeR; rw [CE.out, once_yes HH.out hl]; rfl)
    rw [E.out]
    have CN : Hid (changeN op (wordOf m a) n = wrap32 n) := Lib.hid (by unfold changeN; rw [if_pos hop])
    rw [CN.out]
    rw [hl] at HRC
    clear hm hl CE E CN
    generalize wordOf m a = wd at *
    subst hop
    generalize hn1 : m.words.length = n1 at *
    generalize hn2 : m.pend.length = n2 at *
    generalize hn3 : m.res.length = n3 at *
    have HN1 := Lib.hid hn1; have HN2 := Lib.hid hn2; have HN3 := Lib.hid hn3
    clear hn1 hn2 hn3
    go_enter Try.func32, Try.ntmps32
    go_wp2_with fail
    have hb0 := bw_tr (bel_new w (.cells #[.slice (some ⟨wb, wo, none⟩) n1 c1, .slice (some ⟨b2, o2, none⟩) n2 c2, .slice a3 n3 c3] 27)) (bel_new (w.alloc (.cells #[.slice (some ⟨wb, wo, none⟩) n1 c1, .slice (some ⟨b2, o2, none⟩) n2 c2, .slice a3 n3 c3] 27)) (.cells #[.slice none 0 0, .slice none 0 0, .slice none 0 0] 27))
    have hq0 := up_in (bel_new (w.alloc (.cells #[.slice (some ⟨wb, wo, none⟩) n1 c1, .slice (some ⟨b2, o2, none⟩) n2 c2, .slice a3 n3 c3] 27)) (.cells #[.slice none 0 0, .slice none 0 0, .slice none 0 0] 27)) (new_in w (.cells #[.slice (some ⟨wb, wo, none⟩) n1 c1, .slice (some ⟨b2, o2, none⟩) n2 c2, .slice a3 n3 c3] 27))
    have hr0 := new_in (w.alloc (.cells #[.slice (some ⟨wb, wo, none⟩) n1 c1, .slice (some ⟨b2, o2, none⟩) n2 c2, .slice a3 n3 c3] 27)) (.cells #[.slice none 0 0, .slice none 0 0, .slice none 0 0] 27)
    rw [World.size_alloc] at hr0
    refine (rthere_any _ m h a true _ (HM.out.below hb0) HH.out).mono ?_
    rintro e w1 ⟨rfl, hb1⟩
    have HQ1 : Hid (w1.heap[w.heap.size + 1]? = some zM3) := Lib.hid (up_in hb1 hr0); have HX1 := Lib.hid (up_in hb1 hq0); have B1 := Lib.hid (bw_tr hb0 hb1)
    clear hb0 hq0 hr0 hb1
    obtain ⟨⟨k0, k1, k2⟩, _⟩ := six HX1.out
    have tx := lt_in HX1.out
    obtain ⟨tr, vr⟩ := HRC.out.up B1.out
    obtain ⟨tw, vw⟩ := HWC.out.up B1.out
    have LG : Hid (∀ x, (goesM m h a x).words.length = n1 ∧ (goesM m h a x).pend.length = n2 ∧ (goesM m h a x).res.length = n3) := Lib.hid (fun x => ⟨by simp [goesM, HN1.out], HN2.out, by simp [goesM, goRes_len, HN3.out]⟩)
    go_upto_region 9 with (first | (go_at_call 54; (with_reducible refine (rwrap_any n _ HI.out).mono ?_); rintro e w' ⟨rfl, rfl⟩) | (go_at_call 58; (with_reducible refine (rtwo_any op wd n _ HWA.out HI.out).mono ?_); rintro e w' ⟨rfl, rfl⟩))
    clear k0 k1 k2 tr vr tx
    have XW := Lib.hid (show CellAt _ _ _ _ from ⟨tw, vw⟩)
    clear tw vw
    refine wp_region_ut (fun w' => w'.heap[w.heap.size]? = some (.cells #[.slice (some ⟨wb, wo, none⟩) n1 c1, .slice (some ⟨b2, o2, none⟩) n2 c2, .slice a3 n3 c3] 27 (0, 0)) ∧ CellAt w' wb (wo + a.toNat) (.int .i64 wd)) 11 [true, true, true, true, true, true, true, true, true] (by kernel_rfl) (by kernel_rfl) (by kernel_rfl) (fun _ _ h hu => ⟨up_in hu h.1, h.2.up hu⟩) ⟨HX1.out, XW.out⟩ ?ra1x ?rh1x ?rt1x
    case rh1x =>
      intro w0 ⟨hc, hd⟩
      obtain ⟨⟨k0, k1, k2⟩, _⟩ := six hc
      have tx := lt_in hc
      have p0 := fun x => wd_cell tx k0 x
      have p1 := fun x => wd_cell tx k1 x
      have p2 := fun x => wd_cell tx k2 x
      have p3 := fun x => wd_cell hd.1 hd.2 x
      clear k0 k1 k2 hc hd tx
      simp only [pickM]
      repeat (go_big_quiet_step (fail))
      refine wpQuiet_nil ?_
      rfl
    case rt1x =>
    change headU _ _ _ _ _ _ 2 _ _ _
    refine headU_one (i := 9) (by kernel_rfl) (by decide) rfl ?_
    intro w5 hu5 hc5
    have hb5 := bw_undrew hu5
    have HC5 := Lib.hid hc5
    have HQ5 := Lib.hid (up_in hb5 HQ1.out); have B5 := Lib.hid (bw_tr B1.out hb5)
    clear hb5 hu5 hc5
    go_wp2_with fail
    refine (rgoes_any _ m h a (wrap32 n) _ (HM.out.below B5.out) HS.out ⟨h3, by rw [HN1.out]; exact h4⟩).mono ?_
    rintro e w6 ⟨q6, y1, z1, y2, z2, y3, z3, rs', rfl, ho6, hb6⟩
    rw [(LG.out _).1, (LG.out _).2.1, (LG.out _).2.2] at ho6 ⊢
    have HR6 := Lib.hid (up_in hb6 HQ5.out); have B6 := Lib.hid (bw_tr B5.out hb6); have HO6 := Lib.hid ho6; have HC6 := Lib.hid (And.intro (up_in hb6 HC5.out.1) (HC5.out.2.up hb6))
    clear ho6 hb6 HQ5 B5 HC5
    go_wp2_with fail
    refine ⟨HC6.out, ?_⟩
    refine headU_one (i := 10) (by kernel_rfl) (by decide) rfl ?_
    intro w7 hu7 hc7
    have HR7 := Lib.hid (up_in hu7 HR6.out); have B7 := Lib.hid (bw_tr B6.out hu7); have HO7 := Lib.hid (HO6.out.below hu7)
    clear hu7
    go_wp2_with fail
    refine ⟨hc7, ?_⟩
    clear hc7
    refine headU_end (by kernel_rfl) ?_
    intro w8 hu8 _
    have HRW := Lib.hid (up_in hu8 HR7.out); have BWW := Lib.hid (bw_tr B7.out hu8); have HOW := Lib.hid (HO7.out.below hu8)
    clear hu8
    simp only [List.drop_succ_cons, List.drop_zero]
    obtain ⟨⟨e20, e21, e22⟩, f20, f21, f22⟩ := six HRW.out
    have t2' := lt_in HRW.out
    go_wp2_with fail
    obtain ⟨k0, k1, k2⟩ := three_cells (set3_spec (x := .slice y1 n1 z1) (y := .slice y2 n2 z2) (z := .slice y3 n3 z3) HRW.out).1
    have HMW := Lib.hid (isMem_set3 (.slice y1 n1 z1) (.slice y2 n2 z2) (.slice y3 n3 z3) HOW.out.isMem HRW.out)
    have BW := Lib.hid (bel_set3 (x := .slice y1 n1 z1) (y := .slice y2 n2 z2) (z := .slice y3 n3 z3) BWW.out (by omega : w.heap.size ≤ w.heap.size + 1))
    exact bodyPost_ret (v := .tuple #[.int .i64 wd, .agg #[.slice y1 n1 z1, .slice y2 n2 z2, .slice y3 n3 z3], .int .i64 0]) (by simp [results, Try.results32, go_sem, k0, k1, k2]) rfl ⟨_, rfl, HMW.out, BW.out⟩
end Go.Proofs.Ytkhobelceghgfaa
