/-
  The contract of store.Flush (printed by gen_memflush.py).
-/
import Derived.Test.YtkhobelceghgfaaMemDrain2
namespace Go.Proofs.Ytkhobelceghgfaa
open Go.RowKit
def sliceLen : Option Value → Nat
  | some (.slice _ n _) => n
  | _ => 0
theorem drain_small {m : Mem} (hs : Small m) (h : Int) (k : Nat) : Small (drainX m h k) := by
  unfold drainX setPend goesM
  refine ⟨by simp; exact hs.words, by simp; exact hs.pend, by simp [goRes_len]; exact hs.res, fun l hl => ?_⟩
  have := List.mem_or_eq_of_mem_set hl
  rcases this with h1 | h1
  · exact hs.each l h1
  · subst h1
    by_cases hh : h.toNat < m.pend.length
    · have := hs.each (pendOf m h) (by unfold pendOf; simp [hh])
      have := List.length_eraseIdx_le (pendOf m h) k
      omega
    · have : pendOf m h = [] := by unfold pendOf; simp [hh]
      rw [this]; simp
theorem drain_pend {m : Mem} {h : Int} {k : Nat} (hh : hartB m h = true) : pendOf (drainX m h k) h = (pendOf m h).eraseIdx k := by
  obtain ⟨h0, h1, _⟩ := hartB_spec hh
  have : h.toNat < m.pend.length := by omega
  unfold drainX setPend goesM pendOf
  simp [this]
theorem drain_hart {m : Mem} {h : Int} {k : Nat} (h' : Int) : hartB (drainX m h k) h' = hartB m h' := by
  unfold drainX setPend goesM hartB
  simp [goRes_len]
theorem drain_lens (m : Mem) (h : Int) (k : Nat) : (drainX m h k).words.length = m.words.length ∧ (drainX m h k).pend.length = m.pend.length ∧ (drainX m h k).res.length = m.res.length := by
  unfold drainX setPend goesM
  simp [goRes_len]
theorem flushL_succ (h : Int) (n : Nat) (m : Mem) (x : Int × Int) (hx : (pendOf m h)[0]? = some x) : flushL h (n + 1) m = if hasB m h x.1 then flushL h n (drainX m h 0) else (noMem, 1) := by
  have e : (pendOf m h).getD 0 (0, 0) = x := by rw [List.getD_eq_getElem?_getD, hx]; rfl
  rw [show flushL h (n + 1) m = if hasB m h ((pendOf m h).getD 0 (0, 0)).1 then flushL h n (drainX m h 0) else (noMem, 1) from rfl, e]
set_option maxHeartbeats 8000000 in
theorem flush_any (v : Value) (m : Mem) (h : Int) (w : World) (hm : IsMem w v m) (hs : Small m) :
    Calls Try.prog 17 #[v, .int .i64 h] w (MemRet w w.heap.size (flushR m h)) := by
  have HM := Lib.hid hm; have HS := Lib.hid hs
  obtain ⟨a1, c1, a2, c2, a3, c3, rows, rfl, _, _, _, _⟩ := hm.parts
  unfold MemRet flushR
  cases hh : hartB m h
  · rw [if_neg (by decide)]
    have HH := Lib.hid hh; clear hh hm
    generalize hn1 : m.words.length = n1 at *
    generalize hn2 : m.pend.length = n2 at *
    generalize hn3 : m.res.length = n3 at *
    clear hn1 hn2 hn3
    go_enter Try.func17, Try.ntmps17
    go_wp2_with fail
    refine (hasHart_any _ m h false _ (HM.out.below (by repeat (first | (with_reducible exact Below.refl _ _) | (with_reducible refine bw_set ?_ ?_ _) | (with_reducible apply bw_alloc) | (with_reducible refine bw_tr ?_ (by with_reducible assumption)) | (with_reducible apply bw_drew) | omega))) HH.out).mono ?_
    rintro e w1 ⟨rfl, hb1⟩
    have hq1 : w1.heap[w.heap.size + 1]? = some (.cells #[.slice none 0 0, .slice none 0 0, .slice none 0 0] 27 (0, 0)) := up_in hb1 (by have := new_in (w.alloc (.cells #[.slice a1 n1 c1, .slice a2 n2 c2, .slice a3 n3 c3] 27)) zM; simpa using this)
    have hx1 : w1.heap[w.heap.size]? = some (.cells #[.slice a1 n1 c1, .slice a2 n2 c2, .slice a3 n3 c3] 27 (0, 0)) := up_in hb1 (up_in (bel_new _ _) (new_in w _))
    have B1 : Hid (Below w.heap.size w w1) := Lib.hid ((by repeat (first | (with_reducible exact Below.refl _ _) | (with_reducible refine bw_set ?_ ?_ _) | (with_reducible apply bw_alloc) | (with_reducible refine bw_tr ?_ (by with_reducible assumption)) | (with_reducible apply bw_drew) | omega)))
    have HQ1 := Lib.hid hq1; have HX1 := Lib.hid hx1
    have sz1 : w.heap.size + 1 + 1 ≤ w1.heap.size := by have := hb1.size; simpa using this
    clear hq1 hx1 hb1
    obtain ⟨⟨k0, k1, k2⟩, f0, f1, f2⟩ := six HQ1.out
    obtain ⟨s0, s1, s2⟩ := three_cells (set3_spec (x := .slice none 0 0) (y := .slice none 0 0) (z := .slice none 0 0) HQ1.out).1
    go_wp2_with fail
    exact bodyPost_ret (v := .tuple #[.agg #[.slice none 0 0, .slice none 0 0, .slice none 0 0], .int .i64 1]) (by simp [results, Try.results17, go_sem, s0, s1, s2]) rfl ⟨_, rfl, isMem_no _, bel_set3 B1.out (by omega)⟩
  · rw [if_pos rfl]
    obtain ⟨h0, h1, h2⟩ := hartB_spec hh
    have HH := Lib.hid hh; clear hh hm
    generalize hn1 : m.words.length = n1 at *
    generalize hn2 : m.pend.length = n2 at *
    generalize hn3 : m.res.length = n3 at *
    have HN1 := Lib.hid hn1; have HN2 := Lib.hid hn2; have HN3 := Lib.hid hn3
    clear hn1 hn2 hn3
    go_enter Try.func17, Try.ntmps17
    go_wp2_with fail
    refine (hasHart_any _ m h true _ (HM.out.below (by repeat (first | (with_reducible exact Below.refl _ _) | (with_reducible refine bw_set ?_ ?_ _) | (with_reducible apply bw_alloc) | (with_reducible refine bw_tr ?_ (by with_reducible assumption)) | (with_reducible apply bw_drew) | omega))) HH.out).mono ?_
    rintro e w1 ⟨rfl, hb1⟩
    have hq1 : w1.heap[w.heap.size + 1]? = some (.cells #[.slice none 0 0, .slice none 0 0, .slice none 0 0] 27 (0, 0)) := up_in hb1 (by have := new_in (w.alloc (.cells #[.slice a1 n1 c1, .slice a2 n2 c2, .slice a3 n3 c3] 27)) zM; simpa using this)
    have hx1 : w1.heap[w.heap.size]? = some (.cells #[.slice a1 n1 c1, .slice a2 n2 c2, .slice a3 n3 c3] 27 (0, 0)) := up_in hb1 (up_in (bel_new _ _) (new_in w _))
    have B1 : Hid (Below w.heap.size w w1) := Lib.hid ((by repeat (first | (with_reducible exact Below.refl _ _) | (with_reducible refine bw_set ?_ ?_ _) | (with_reducible apply bw_alloc) | (with_reducible refine bw_tr ?_ (by with_reducible assumption)) | (with_reducible apply bw_drew) | omega)))
    have HQ1 := Lib.hid hq1; have HX1 := Lib.hid hx1
    have sz1 : w.heap.size + 1 + 1 ≤ w1.heap.size := by have := hb1.size; simpa using this
    clear hq1 hx1 hb1
    obtain ⟨k0, k1, k2⟩ := three_cells HX1.out
    go_wp2_with fail
    refine (of_any _ m _ (HM.out.below B1.out) HS.out).mono ?_
    rintro e w2 ⟨p, wv, pv, rv, rs, rfl, ho2, hb2⟩
    obtain ⟨gp, cp, _, rfl, hcp, hcm, _, _, _, _⟩ := ho2.rowAt h0 (by rw [HN2.out]; exact h1)
    obtain ⟨aw, cw, rfl⟩ := own_shape ho2.words
    obtain ⟨ar, cr, rfl⟩ := own_shape ho2.res
    rw [HN2.out] at hcp
    have HO2 := Lib.hid ho2; have HQ2 := Lib.hid (up_in hb2 HQ1.out); have B2 := Lib.hid (bw_tr B1.out hb2); have sz2 := hb2.size
    have hgp := ho2.base
    clear ho2 hb2 k0 k1 k2 HQ1 HX1
    rw [HN1.out, HN2.out, HN3.out] at HO2
    go_wp2_with fail
    go_loopw [22] (fun _ wr => ∃ (m' : Mem) (rs' : List Value), OwnMem wr w1.heap.size p 66 m' (.slice aw n1 cw) (.slice (some ⟨gp, 0, none⟩) n2 cp) (.slice ar n3 cr) rs' ∧ (Small m' ∧ hartB m' h = true ∧ m'.words.length = n1 ∧ m'.pend.length = n2 ∧ m'.res.length = n3) ∧ flushL h (pendOf m' h).length m' = flushL h (pendOf m h).length m ∧ wr.heap[w.heap.size + 1]? = some (.cells #[.slice none 0 0, .slice none 0 0, .slice none 0 0] 27 (0, 0)) ∧ Below w.heap.size w wr) (fun _ wr => sliceLen (wr.cell? ⟨gp, h.toNat, none⟩))
    case atStart => exact ⟨m, _, HO2.out, ⟨HS.out, HH.out, HN1.out, HN2.out, HN3.out⟩, rfl, HQ2.out, B2.out⟩
    case round =>
      obtain ⟨m', rs', ho, ⟨hs', hh', l1, l2, l3⟩, hfl, hq, hb⟩ := hrel
      obtain ⟨gp', cp', r, e1, _, _, hr, hrc, hrf, hro⟩ := ho.rowAt h0 (by rw [l2]; exact h1)
      injection e1 with e2 e2n e3
      clear e2n
      injection e2 with e2
      injection e2 with e2
      subst e2 e3
      have HO := Lib.hid ho; have HSm := Lib.hid hs'; have HHm := Lib.hid hh'; have HFL := Lib.hid hfl; have HQ := Lib.hid hq; have HB := Lib.hid hb; have L1 := Lib.hid l1; have L2 := Lib.hid l2; have L3 := Lib.hid l3; have HR := Lib.hid hr; have HRO := Lib.hid hro; have HRC := Lib.hid hrc
      obtain ⟨k0, k1, k2⟩ := three_cells ho.at_
      have lp := lt_in ho.at_; have lgp := (ho.pend.lt gp rfl).2
      obtain ⟨ln, hln⟩ : ∃ ln, (pendOf m' h).length = ln := ⟨_, rfl⟩
      have hl8 : (pendOf m' h).length ≤ 1000 := hs'.each _ (List.mem_of_getElem? (pendOf_at (m := m') (by omega) h0))
      rw [hln] at HRO HFL hl8
      have HLN := Lib.hid hln
      clear ho hs' hh' hfl hq hb l1 l2 l3 hr hro hln
      obtain ⟨xr, yr, rfl⟩ := own_shape HRO.out
      by_cases hl0 : ln = 0
      · subst hl0
        have HFm : Hid (flushL h (pendOf m h).length m = (m', 0)) := Lib.hid (by rw [← HFL.out]; rfl)
        obtain ⟨⟨q0, q1, q2⟩, g0, g1, g2⟩ := six HQ.out
        obtain ⟨s0, s1, s2⟩ := three_cells (set3_spec (x := .slice aw n1 cw) (y := .slice (some ⟨gp, 0, none⟩) n2 cp) (z := .slice ar n3 cr) HQ.out).1
        have HM6 := Lib.hid (isMem_set3 (.slice aw n1 cw) (.slice (some ⟨gp, 0, none⟩) n2 cp) (.slice ar n3 cr) HO.out.isMem HQ.out)
        have B6 := Lib.hid (bel_set3 (x := .slice aw n1 cw) (y := .slice (some ⟨gp, 0, none⟩) n2 cp) (z := .slice ar n3 cr) HB.out (show w.heap.size ≤ w.heap.size + 1 by omega))
        go_wp2_with fail
        exact bodyPost_ret (v := .tuple #[.agg #[.slice aw n1 cw, .slice (some ⟨gp, 0, none⟩) n2 cp, .slice ar n3 cr], .int .i64 0]) (by simp [results, Try.results17, go_sem, s0, s1, s2]) rfl (by rw [HFm.out]; exact ⟨_, rfl, HM6.out, B6.out⟩)
      · obtain ⟨mm, rfl⟩ : ∃ mm, ln = 0 + 1 + mm := ⟨ln - 1, by omega⟩
        obtain ⟨gr, cr', e4, e5, e6⟩ := own_some HRO.out (by omega)
        injection e4 with e7 _ e8
        subst e7 e8
        unfold maxLen at e6
        have hx : (pendOf m' h)[0]? = some ((pendOf m' h)[0]'(by rw [HLN.out]; omega)) := by simp
        generalize (pendOf m' h)[0]'(by rw [HLN.out]; omega) = x at hx
        obtain ⟨x1, x2⟩ := x
        obtain ⟨z1, z2⟩ := own_cell2 HRO.out hx
        have lgr := (HRO.out.lt gr rfl).2
        have HX := Lib.hid hx
        have HF1 : Hid (flushL h (pendOf m h).length m = if hasB m' h x1 then flushL h mm (drainX m' h 0) else (noMem, 1)) := Lib.hid (by rw [← HFL.out, show 0 + 1 + mm = mm + 1 by omega, flushL_succ h mm m' _ hx])
        clear hx
        simp only [Nat.zero_mul] at z1
        go_wp2_with fail
        have y0 := fun x => wd_cell lp k0 x; have y1 := fun x => wd_cell lp k1 x; have y2 := fun x => wd_cell lp k2 x; have y3 := fun x => wd_cell lgp hrc x; have y4 := fun x => wd_cell lgr z1 x
        have HIM := Lib.hid HO.out.isMem
        cases hhb : hasB m' h x1
        · have HHB := Lib.hid hhb; clear hhb
          have HF2 := HF1.out
          rw [HHB.out] at HF2
          rw [if_neg (by decide)] at HF2
          have HF3 := Lib.hid HF2; clear HF2
          refine wp_region_below (by kernel_rfl) (by kernel_rfl) ?_
          repeat (go_big_quiet_step ((go_at_call 35; with_reducible exact quiet_b (has_any (.agg #[.slice aw n1 cw, .slice (some ⟨gp, 0, none⟩) n2 cp, .slice ar n3 cr]) m' h x1 false _ (HIM.out.below (Wd.bel _)) HHB.out))))
          refine wpQuiet_nil ?_
          rintro w7 ⟨⟨w7x, hb7⟩, rfl⟩
          try dsimp only
          clear y0 y1 y2 y3 y4 k0 k1 k2 z1 z2
          have HB7 := Lib.hid (bw_tr HB.out hb7); have HQ7 := Lib.hid (up_in hb7 HQ.out); have HO7 := Lib.hid (HO.out.below hb7)
          clear hb7 hrc hrf
          obtain ⟨⟨k0, k1, k2⟩, f0, f1, f2⟩ := six HQ7.out
          obtain ⟨s0, s1, s2⟩ := three_cells (set3_spec (x := .slice none 0 0) (y := .slice none 0 0) (z := .slice none 0 0) HQ7.out).1
          go_wp2_with fail
          exact bodyPost_ret (v := .tuple #[.agg #[.slice none 0 0, .slice none 0 0, .slice none 0 0], .int .i64 1]) (by simp [results, Try.results17, go_sem, s0, s1, s2]) rfl (by rw [HF3.out]; exact ⟨_, rfl, isMem_no _, bel_set3 HB7.out (by omega)⟩)
        · have HHB := Lib.hid hhb; clear hhb
          have HF2 := HF1.out
          rw [HHB.out] at HF2
          rw [if_pos rfl] at HF2
          have HF3 := Lib.hid HF2; clear HF2
          refine wp_region_below (by kernel_rfl) (by kernel_rfl) ?_
          repeat (go_big_quiet_step ((go_at_call 35; with_reducible exact quiet_b (has_any (.agg #[.slice aw n1 cw, .slice (some ⟨gp, 0, none⟩) n2 cp, .slice ar n3 cr]) m' h x1 true _ (HIM.out.below (Wd.bel _)) HHB.out))))
          refine wpQuiet_nil ?_
          rintro w7 ⟨⟨w7x, hb7⟩, rfl⟩
          try dsimp only
          clear y0 y1 y2 y3 y4 k0 k1 k2 z1 z2
          have HB7 := Lib.hid (bw_tr HB.out hb7); have HQ7 := Lib.hid (up_in hb7 HQ.out); have HO7 := Lib.hid (HO.out.below hb7)
          have HRC7 : Hid (w7.cell? ⟨gp, h.toNat, none⟩ = some (.slice (some ⟨gr, 0, none⟩) (0 + 1 + mm) yr)) := Lib.hid ((hb7.cell (p := ⟨gp, h.toNat, none⟩) lgp).trans HRC.out)
          have sz7 : w1.heap.size ≤ w7.heap.size := by have := HB7.out.size; have := hb7.size; omega
          clear hb7 hrc hrf
          go_wp2_with fail
          refine (drain_any w1.heap.size p 0 mm m' _ _ _ rs' h (x1, x2) _ HO7.out HSm.out sz7 HHB.out HLN.out HX.out).mono ?_
          rintro e w8 ⟨rfl, ⟨rs8, ho8⟩, hb8⟩
          have HO8 := Lib.hid ho8; have HQ8 := Lib.hid (bel_in hb8 (by omega) HQ7.out); have B8 : Hid (Below w.heap.size w w8) := Lib.hid (HB7.out.trans (hb8.mono (by have := B1.out.size; omega)))
          clear ho8 hb8
          have DL := Lib.hid (drain_lens m' h 0)
          have HP8 : Hid ((pendOf (drainX m' h 0) h).length = mm) := Lib.hid (by rw [drain_pend HHm.out, List.length_eraseIdx, HLN.out, if_pos (by omega)]; omega)
          have HME : Hid (sliceLen (w8.cell? ⟨gp, h.toNat, none⟩) < sliceLen (wr.cell? ⟨gp, h.toNat, none⟩)) := Lib.hid (by
            obtain ⟨gp8, cp8, r8, f1, _, _, _, f2, _, f3⟩ := HO8.out.rowAt h0 (by rw [DL.out.2.1, L2.out]; exact h1)
            injection f1 with f4 _ _
            injection f4 with f4
            injection f4 with f4
            subst f4
            obtain ⟨x8, y8, rfl⟩ := own_shape f3
            rw [f2, HRC.out, HP8.out]
            simp only [sliceLen]
            omega)
          go_wp2_with fail
          go_roundw
          case rel => exact ⟨drainX m' h 0, rs8, HO8.out, ⟨drain_small HSm.out h 0, by rw [drain_hart]; exact HHm.out, by rw [DL.out.1]; exact L1.out, by rw [DL.out.2.1]; exact L2.out, by rw [DL.out.2.2]; exact L3.out⟩, by rw [HP8.out]; exact HF3.out.symm, HQ8.out, B8.out⟩
          case measure => exact HME.out
end Go.Proofs.Ytkhobelceghgfaa
