/-
  The contract of headstockref11.Flush (printed by gen_ref11flush.py).
-/
import Derived.Test.YtkhobelceghgfaaRef11Drain
import Derived.Deep.LoopGhost
namespace Go.Proofs.Ytkhobelceghgfaa
open Go.RowKit
theorem flush_bad {m : Mem} {h : Int} {x : Int × Int} (hh : hartB m h = true) (hx : (pendOf m h)[0]? = some x) (hc : ¬ (0 ≤ x.1 ∧ x.1 < (m.words.length : Int))) (n : Nat) : drainR m h 0 = (noMem, 1) ∧ flushL h (n + 1) m = (noMem, 1) := by
  have e := drain_is hh hx
  rw [if_neg hc] at e
  refine ⟨e, ?_⟩
  rw [flushL_succ h n m x hx, if_neg]
  unfold hasB
  rw [hh, Bool.true_and]
  simp
  omega
theorem flush_good {m : Mem} {h : Int} {x : Int × Int} (hh : hartB m h = true) (hx : (pendOf m h)[0]? = some x) (hc : 0 ≤ x.1 ∧ x.1 < (m.words.length : Int)) (n : Nat) : drainR m h 0 = (drainX m h 0, 0) ∧ flushL h (n + 1) m = flushL h n (drainX m h 0) := by
  have e := drain_is hh hx
  rw [if_pos hc, if_neg (by simp [anyAt])] at e
  have e4 : drainX m h 0 = setPend (goesM m h x.1 x.2) h ((pendOf m h).eraseIdx 0) := by
    unfold drainX
    rw [show (pendOf m h).getD 0 (0, 0) = x by rw [List.getD_eq_getElem?_getD, hx]; rfl]
  refine ⟨by rw [e4]; exact e, ?_⟩
  rw [flushL_succ h n m x hx, if_pos]
  unfold hasB
  rw [hh, Bool.true_and]
  simp
  omega
set_option maxHeartbeats 8000000 in
set_option maxRecDepth 100000 in
theorem rflush_any (v : Value) (m : Mem) (h : Int) (w : World) (hm : IsMem w v m) (hs : Small m) :
    Calls Try.prog 29 #[v, .int .i64 h] w (MemRet w w.heap.size (flushR m h)) := by
  have HM := Lib.hid hm; have HS := Lib.hid hs
  obtain ⟨a1, c1, a2, c2, a3, c3, rows, rfl, _, _, _, _⟩ := hm.parts
  clear hs
  unfold MemRet
  cases hh : hartB m h
  case false =>
    have E := Lib.hid (show flushR m h = (noMem, 1) by unfold flushR; rw [hh]; rfl)
    rw [E.out]
    have HH := Lib.hid hh; clear hh hm
    generalize hn1 : m.words.length = n1 at *
    generalize hn2 : m.pend.length = n2 at *
    generalize hn3 : m.res.length = n3 at *
    have HN1 := Lib.hid hn1; have HN2 := Lib.hid hn2; have HN3 := Lib.hid hn3
    clear hn1 hn2 hn3
    go_enter Try.func29, Try.ntmps29
    go_wp2_with fail
    have hb0 := bw_tr (bel_new w (.cells #[.slice a1 n1 c1, .slice a2 n2 c2, .slice a3 n3 c3] 27)) (bel_new (w.alloc (.cells #[.slice a1 n1 c1, .slice a2 n2 c2, .slice a3 n3 c3] 27)) (.cells #[.slice none 0 0, .slice none 0 0, .slice none 0 0] 27))
    have hq0 := up_in (bel_new (w.alloc (.cells #[.slice a1 n1 c1, .slice a2 n2 c2, .slice a3 n3 c3] 27)) (.cells #[.slice none 0 0, .slice none 0 0, .slice none 0 0] 27)) (new_in w (.cells #[.slice a1 n1 c1, .slice a2 n2 c2, .slice a3 n3 c3] 27))
    have hr0 := new_in (w.alloc (.cells #[.slice a1 n1 c1, .slice a2 n2 c2, .slice a3 n3 c3] 27)) (.cells #[.slice none 0 0, .slice none 0 0, .slice none 0 0] 27)
    rw [World.size_alloc] at hr0
    refine (rhart_any _ m h false _ (HM.out.below hb0) HH.out).mono ?_
    rintro e w1 ⟨rfl, hb1⟩
    have HQ1 : Hid (w1.heap[w.heap.size + 1]? = some zM3) := Lib.hid (up_in hb1 hr0); have HX1 := Lib.hid (up_in hb1 hq0); have B1 := Lib.hid (bw_tr hb0 hb1)
    clear hb0 hq0 hr0 hb1
    obtain ⟨⟨k0, k1, k2⟩, f0, f1, f2⟩ := six HQ1.out
    have tq := lt_in HQ1.out
    obtain ⟨s0, s1, s2⟩ := three_cells (set3_spec (x := .slice none 0 0) (y := .slice none 0 0) (z := .slice none 0 0) HQ1.out).1
    go_wp2_with fail
    exact bodyPost_ret (v := .tuple #[.agg #[.slice none 0 0, .slice none 0 0, .slice none 0 0], .int .i64 1]) (by simp [results, Try.results29, go_sem, s0, s1, s2]) rfl ⟨_, rfl, isMem_no _, bel_set3 B1.out (by omega)⟩
  case true =>
    have E := Lib.hid (show flushR m h = flushL h (pendOf m h).length m by unfold flushR; rw [if_pos hh])
    rw [E.out]
    obtain ⟨h0, h1, h2⟩ := hartB_spec hh
    have HH := Lib.hid hh; clear hh hm E
    obtain ⟨fr, hfr⟩ : ∃ fr, flushL h (pendOf m h).length m = fr := ⟨_, rfl⟩
    rw [hfr]
    have HF := Lib.hid hfr; clear hfr
    generalize hn1 : m.words.length = n1 at *
    generalize hn2 : m.pend.length = n2 at *
    generalize hn3 : m.res.length = n3 at *
    have HN1 := Lib.hid hn1; have HN2 := Lib.hid hn2; have HN3 := Lib.hid hn3
    clear hn1 hn2 hn3
    go_enter Try.func29, Try.ntmps29
    go_wp2_with fail
    have hb0 := bw_tr (bel_new w (.cells #[.slice a1 n1 c1, .slice a2 n2 c2, .slice a3 n3 c3] 27)) (bel_new (w.alloc (.cells #[.slice a1 n1 c1, .slice a2 n2 c2, .slice a3 n3 c3] 27)) (.cells #[.slice none 0 0, .slice none 0 0, .slice none 0 0] 27))
    have hq0 := up_in (bel_new (w.alloc (.cells #[.slice a1 n1 c1, .slice a2 n2 c2, .slice a3 n3 c3] 27)) (.cells #[.slice none 0 0, .slice none 0 0, .slice none 0 0] 27)) (new_in w (.cells #[.slice a1 n1 c1, .slice a2 n2 c2, .slice a3 n3 c3] 27))
    have hr0 := new_in (w.alloc (.cells #[.slice a1 n1 c1, .slice a2 n2 c2, .slice a3 n3 c3] 27)) (.cells #[.slice none 0 0, .slice none 0 0, .slice none 0 0] 27)
    rw [World.size_alloc] at hr0
    refine (rhart_any _ m h true _ (HM.out.below hb0) HH.out).mono ?_
    rintro e w1 ⟨rfl, hb1⟩
    have HQ1 : Hid (w1.heap[w.heap.size + 1]? = some zM3) := Lib.hid (up_in hb1 hr0); have HX1 := Lib.hid (up_in hb1 hq0); have B1 := Lib.hid (bw_tr hb0 hb1)
    clear hb0 hq0 hr0 hb1
    obtain ⟨⟨k0, k1, k2⟩, _⟩ := six HX1.out
    have tx := lt_in HX1.out
    go_wp2_with fail
    clear k0 k1 k2 tx
    refine (rown_ret _ m _ (HM.out.below B1.out) HS.out).mono ?_
    rintro e w2 ⟨q0, y1, z1, y2, z2, y3, z3, rs, rfl, ho2, hb2⟩
    rw [HN1.out, HN2.out, HN3.out] at ho2 ⊢
    go_upto_block 0 with fail
    have hO := ho2.move (new_in w2 (.cells #[.slice y1 n1 z1, .slice y2 n2 z2, .slice y3 n3 z3] 27)) hb2.size (bel_new w2 _)
    have hU := bw_tr hb2 (bel_new w2 (.cells #[.slice y1 n1 z1, .slice y2 n2 z2, .slice y3 n3 z3] 27))
    have lqp : w.heap.size + 1 < w2.heap.size := Nat.lt_of_lt_of_le (lt_in HQ1.out) hb2.size
    obtain ⟨W, hW⟩ : ∃ W, w2.alloc (.cells #[.slice y1 n1 z1, .slice y2 n2 z2, .slice y3 n3 z3] 27) = W := ⟨_, rfl⟩
    rw [hW] at hO hU ⊢
    obtain ⟨q, hq⟩ : ∃ q, w2.heap.size = q := ⟨_, rfl⟩
    rw [hq] at hO lqp ⊢
    clear hW hq ho2 hb2
    have HO := Lib.hid (hO.low B1.out.size); have HQ2 := Lib.hid (up_in hU HQ1.out); have HX2 := Lib.hid (up_in hU HX1.out); have BU := Lib.hid hU; have B2 := Lib.hid (bw_tr B1.out hU)
    clear hO hU
    have MV0 : Hid (MV W q (.slice y1 n1 z1) (.slice y2 n2 z2) (.slice y3 n3 z3) m) := Lib.hid ⟨HO.out.at_, HO.out.isMem⟩
    clear HO HX2 HX1 HQ1 B1 BU
    go_wp2_with fail
    go_loopg [9] (pendOf m h).length (fun k _ wr => ∃ (x y z : Value) (m' : Mem), MV wr q x y z m' ∧ (Small m' ∧ hartB m' h = true) ∧ (pendOf m' h).length = k ∧ flushL h k m' = fr ∧ wr.heap[w.heap.size + 1]? = some zM3 ∧ Below w.heap.size w wr)
    case atStart => exact ⟨_, _, _, _, MV0.out, ⟨HS.out, HH.out⟩, rfl, HF.out, HQ2.out, B2.out⟩
    case round =>
      obtain ⟨x, y, z, m', hmv, ⟨hs', hh'⟩, hln, hfl, hq, hb⟩ := hrel
      obtain ⟨xa, xn, xc, ya, yn, yc, za, zn, zc, rfl, rfl, rfl, LN⟩ := hmv.shape
      have HMV := Lib.hid hmv; have HS' := Lib.hid hs'; have HH' := Lib.hid hh'; have HLN := Lib.hid hln; have HFL := Lib.hid hfl; have HQ := Lib.hid hq; have HB := Lib.hid hb
      obtain ⟨g0, g1, g2⟩ := hartB_spec hh'
      obtain ⟨b2, o2, ar, cr0, e00, e0, e1, e2, e3, hrc0, hrd0⟩ := hmv.2.row g1 g0
      subst e00
      have hl8 : (pendOf m' h).length ≤ 1000 := hs'.each _ (List.mem_of_getElem? (pendOf_at g1 g0))
      rw [hln] at hrc0 hrd0 hl8
      have HRD := Lib.hid hrd0
      rw [← e0] at g1
      clear hmv hs' hh' hln hfl hq hb e0 LN MV0 hrd0
      obtain ⟨⟨k0, k1, k2⟩, f0, f1, f2⟩ := six HMV.out.1
      have tq := lt_in HMV.out.1
      by_cases hz : gk = 0
      · subst hz
        have HFm : Hid (fr = (m', 0)) := Lib.hid HFL.out.symm
        go_upto_region 10 with fail
        clear f0 f1 f2
        obtain ⟨⟨e20, e21, e22⟩, f20, f21, f22⟩ := six HQ.out
        have t2' := lt_in HQ.out
        go_wp2_with fail
        obtain ⟨s0, s1, s2⟩ := three_cells (set3_spec (x := .slice xa xn xc) (y := .slice (some ⟨b2, o2, none⟩) yn yc) (z := .slice za zn zc) HQ.out).1
        have HMW := Lib.hid (isMem_set3 (.slice xa xn xc) (.slice (some ⟨b2, o2, none⟩) yn yc) (.slice za zn zc) HMV.out.2 HQ.out)
        have BW := Lib.hid (bel_set3 (x := .slice xa xn xc) (y := .slice (some ⟨b2, o2, none⟩) yn yc) (z := .slice za zn zc) HB.out (by omega : w.heap.size ≤ w.heap.size + 1))
        exact bodyPost_ret (v := .tuple #[.agg #[.slice xa xn xc, .slice (some ⟨b2, o2, none⟩) yn yc, .slice za zn zc], .int .i64 0]) (by simp [results, Try.results29, go_sem, s0, s1, s2]) rfl (by rw [HFm.out]; exact ⟨_, rfl, HMW.out, BW.out⟩)
      · obtain ⟨k, rfl⟩ : ∃ k, gk = k + 1 := ⟨gk - 1, by omega⟩
        obtain ⟨e, he⟩ : ∃ e, (pendOf m' h)[0]? = some e := ⟨_, List.getElem?_eq_getElem (by rw [HLN.out]; omega)⟩
        have hk1 : (0 : Int) < ((k + 1 : Nat) : Int) := by omega
        by_cases hc : 0 ≤ e.1 ∧ e.1 < (m'.words.length : Int)
        · obtain ⟨d1, d2⟩ := flush_good HH'.out he hc k
          have D1 := Lib.hid d1; have D2 := Lib.hid (d2.symm.trans HFL.out)
          have P1 := Lib.hid (drain_pend (k := 0) HH'.out)
          clear d1 d2 he hc hz
          go_wp2_with fail
          refine (rdrain_any _ m' h 0 _ HMV.out.2 HS'.out).mono ?_
          rintro e' w5 hr
          rw [D1.out] at hr
          obtain ⟨A1, N1, C1, A2, N2, C2, A3, N3, C3, rfl, hm5, _, hb5⟩ := hr.parts
          have HM5 := Lib.hid hm5; have MV5 := Lib.hid (HMV.out.up hb5); have HQ5 := Lib.hid (up_in hb5 HQ.out); have B5 := Lib.hid (bw_tr HB.out hb5)
          clear hr hm5 hb5 k0 k1 k2 f0 f1 f2 tq
          go_upto_region 7 with fail
          have hm6 := mv_new HM5.out
          have hu := bel_new w5 (.cells #[.slice A1 N1 C1, .slice A2 N2 C2, .slice A3 N3 C3] 27)
          obtain ⟨U, hU⟩ : ∃ U, w5.alloc (.cells #[.slice A1 N1 C1, .slice A2 N2 C2, .slice A3 N3 C3] 27) = U := ⟨_, rfl⟩
          rw [hU] at hm6 hu ⊢
          have lq : q < w5.heap.size := mv_lt MV5.out
          obtain ⟨p, hp⟩ : ∃ p, w5.heap.size = p := ⟨_, rfl⟩
          have MV6 := Lib.hid (MV5.out.up hu); have HQ6 := Lib.hid (up_in hu HQ5.out); have B6 := Lib.hid (bw_tr B5.out hu)
          rw [hp] at hm6 lq ⊢
          have HN6 := Lib.hid hm6
          clear hU hp hm6 hu MV5 HQ5 B5 HM5
          obtain ⟨⟨k0, k1, k2⟩, f0, f1, f2⟩ := six HN6.out.1
          obtain ⟨⟨m0, m1, m2⟩, n0, n1', n2'⟩ := six MV6.out.1
          have tq := mv_lt MV6.out; have tp := mv_lt HN6.out
          have MV7 := Lib.hid (mv_set MV6.out HN6.out.2)
          have HQ7 : Hid ((((U.setCell ⟨q, 0, none⟩ (.slice A1 N1 C1)).setCell ⟨q, 1, none⟩ (.slice A2 N2 C2)).setCell ⟨q, 2, none⟩ (.slice A3 N3 C3)).heap[w.heap.size + 1]? = some zM3) := Lib.hid (((set3_spec MV6.out.1).2 _ (by omega)).trans HQ6.out)
          have B7 := Lib.hid (bel_set3 (x := .slice A1 N1 C1) (y := .slice A2 N2 C2) (z := .slice A3 N3 C3) B6.out (by omega : w.heap.size ≤ q))
          go_wp2_with fail
          go_roundg k
          case measure => omega
          case rel => exact ⟨_, _, _, _, MV7.out, ⟨drain_small HS'.out h 0, by rw [drain_hart]; exact HH'.out⟩, by rw [P1.out, List.length_eraseIdx, HLN.out, if_pos (by omega)]; rfl, D2.out, HQ7.out, B7.out⟩
        · obtain ⟨d1, d2⟩ := flush_bad HH'.out he hc k
          have D1 := Lib.hid d1; have D2 : Hid (fr = (noMem, 1)) := Lib.hid (HFL.out.symm.trans d2)
          clear d1 d2 he hc hz
          go_wp2_with fail
          refine (rdrain_any _ m' h 0 _ HMV.out.2 HS'.out).mono ?_
          rintro e' w5 hr
          rw [D1.out] at hr
          obtain ⟨A1, N1, C1, A2, N2, C2, A3, N3, C3, rfl, hm5, _, hb5⟩ := hr.parts
          have HQ5 := Lib.hid (up_in hb5 HQ.out); have B5 := Lib.hid (bw_tr HB.out hb5)
          clear hr hm5 hb5 k0 k1 k2 f0 f1 f2 tq
          go_upto_region 7 with fail
          have hu := bel_new w5 (.cells #[.slice A1 N1 C1, .slice A2 N2 C2, .slice A3 N3 C3] 27)
          obtain ⟨U, hU⟩ : ∃ U, w5.alloc (.cells #[.slice A1 N1 C1, .slice A2 N2 C2, .slice A3 N3 C3] 27) = U := ⟨_, rfl⟩
          rw [hU] at hu ⊢
          have HQ6 := Lib.hid (up_in hu HQ5.out); have B6 := Lib.hid (bw_tr B5.out hu)
          clear hU hu HQ5 B5
          obtain ⟨⟨k0, k1, k2⟩, f0, f1, f2⟩ := six HQ6.out
          have tq := lt_in HQ6.out
          obtain ⟨s0, s1, s2⟩ := three_cells (set3_spec (x := .slice none 0 0) (y := .slice none 0 0) (z := .slice none 0 0) HQ6.out).1
          go_wp2_with fail
          exact bodyPost_ret (v := .tuple #[.agg #[.slice none 0 0, .slice none 0 0, .slice none 0 0], .int .i64 1]) (by simp [results, Try.results29, go_sem, s0, s1, s2]) rfl (by rw [D2.out]; exact ⟨_, rfl, isMem_no _, bel_set3 B6.out (by omega)⟩)
end Go.Proofs.Ytkhobelceghgfaa
