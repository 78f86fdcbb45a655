/-
  The contract of store.Store (printed by gen_memstore3.py).
-/
import Derived.Test.YtkhobelceghgfaaMemStore2
namespace Go.Proofs.Ytkhobelceghgfaa
open Go.RowKit
set_option maxHeartbeats 8000000 in
theorem store_any (v : Value) (m : Mem) (h a n : Int) (w : World) (hm : IsMem w v m) (hs : Small m) :
    Calls Try.prog 14 #[v, .int .i64 h, .int .i64 a, .int .i64 n] w (MemRet w w.heap.size (storeR m h a n)) := by
  have HM := Lib.hid hm; have HS := Lib.hid hs
  obtain ⟨a1, c1, a2, c2, a3, c3, rows, rfl, _, _, _, _⟩ := hm.parts
  unfold MemRet storeR
  cases hh : hasB m h a
  · rw [if_neg (by decide)]
    have HH := Lib.hid hh; clear hh hm
    generalize hn1 : m.words.length = n1 at *
    generalize hn2 : m.pend.length = n2 at *
    generalize hn3 : m.res.length = n3 at *
    clear hn1 hn2 hn3
    go_enter Try.func14, Try.ntmps14
    go_wp2_with fail
    refine (has_any _ m h a false _ (HM.out.below (by repeat (first | (with_reducible exact Below.refl _ _) | (with_reducible refine bw_set ?_ ?_ _) | (with_reducible apply bw_alloc) | (with_reducible refine bw_tr ?_ (by with_reducible assumption)) | (with_reducible apply bw_drew) | omega))) HH.out).mono ?_
    rintro e w1 ⟨rfl, hb1⟩
    have hq1 : w1.heap[w.heap.size + 1]? = some (.cells #[.slice none 0 0, .slice none 0 0, .slice none 0 0] 27 (0, 0)) := up_in hb1 (by have := new_in (w.alloc (.cells #[.slice a1 n1 c1, .slice a2 n2 c2, .slice a3 n3 c3] 27)) zM; simpa using this)
    have hx1 : w1.heap[w.heap.size]? = some (.cells #[.slice a1 n1 c1, .slice a2 n2 c2, .slice a3 n3 c3] 27 (0, 0)) := up_in hb1 (up_in (bel_new _ _) (new_in w _))
    have B1 : Hid (Below w.heap.size w w1) := Lib.hid ((by repeat (first | (with_reducible exact Below.refl _ _) | (with_reducible refine bw_set ?_ ?_ _) | (with_reducible apply bw_alloc) | (with_reducible refine bw_tr ?_ (by with_reducible assumption)) | (with_reducible apply bw_drew) | omega)))
    have HQ1 := Lib.hid hq1; have HX1 := Lib.hid hx1
    have sz1 : w.heap.size + 1 + 1 ≤ w1.heap.size := by have := hb1.size; simpa using this
    clear hq1 hx1 hb1
    obtain ⟨⟨k0, k1, k2⟩, f0, f1, f2⟩ := six HQ1.out
    obtain ⟨s0, s1, s2⟩ := three_cells (set3_spec (x := .slice none 0 0) (y := .slice none 0 0) (z := .slice none 0 0) HQ1.out).1
    go_wp2_with fail
    exact bodyPost_ret (v := .tuple #[.agg #[.slice none 0 0, .slice none 0 0, .slice none 0 0], .int .i64 1]) (by simp [results, Try.results14, go_sem, s0, s1, s2]) rfl ⟨_, rfl, isMem_no _, bel_set3 B1.out (by omega)⟩
  · rw [if_pos rfl]
    obtain ⟨h0, h1, h2, h3, h4⟩ := hasB_spec hh
    obtain ⟨b2, o2, ar, cr0, rfl, e0, e1, e2, e3, hrc0, hrd0⟩ := hm.row h1 h0
    have HH := Lib.hid hh; have HRC0 := Lib.hid hrc0; clear hh hm hrc0 hrd0 e0
    have hl8 : (pendOf m h).length ≤ 1000 := HS.out.each _ (List.mem_of_getElem? (pendOf_at h1 h0))
    by_cases hfull : 8 ≤ (pendOf m h).length
    · rw [if_pos hfull]
      generalize hn1 : m.words.length = n1 at *
      generalize hn2 : m.pend.length = n2 at *
      generalize hn3 : m.res.length = n3 at *
      clear hn1 hn2 hn3
      generalize hln : (pendOf m h).length = ln at *
      clear hln
      go_enter Try.func14, Try.ntmps14
      go_wp2_with fail
      refine (has_any _ m h a true _ (HM.out.below (by repeat (first | (with_reducible exact Below.refl _ _) | (with_reducible refine bw_set ?_ ?_ _) | (with_reducible apply bw_alloc) | (with_reducible refine bw_tr ?_ (by with_reducible assumption)) | (with_reducible apply bw_drew) | omega))) HH.out).mono ?_
      rintro e w1 ⟨rfl, hb1⟩
      have hq1 : w1.heap[w.heap.size + 1]? = some (.cells #[.slice none 0 0, .slice none 0 0, .slice none 0 0] 27 (0, 0)) := up_in hb1 (by have := new_in (w.alloc (.cells #[.slice a1 n1 c1, .slice (some ⟨b2, o2, none⟩) n2 c2, .slice a3 n3 c3] 27)) zM; simpa using this)
      have hx1 : w1.heap[w.heap.size]? = some (.cells #[.slice a1 n1 c1, .slice (some ⟨b2, o2, none⟩) n2 c2, .slice a3 n3 c3] 27 (0, 0)) := up_in hb1 (up_in (bel_new _ _) (new_in w _))
      have B1 : Hid (Below w.heap.size w w1) := Lib.hid ((by repeat (first | (with_reducible exact Below.refl _ _) | (with_reducible refine bw_set ?_ ?_ _) | (with_reducible apply bw_alloc) | (with_reducible refine bw_tr ?_ (by with_reducible assumption)) | (with_reducible apply bw_drew) | omega)))
      have HQ1 := Lib.hid hq1; have HX1 := Lib.hid hx1
      have sz1 : w.heap.size + 1 + 1 ≤ w1.heap.size := by have := hb1.size; simpa using this
      clear hq1 hx1 hb1
      have kk := (three_cells HX1.out).2.1
      have kr := (B1.out.cell (p := ⟨b2, o2 + h.toNat, none⟩) e3).trans HRC0.out
      obtain ⟨⟨k0, k1, k2⟩, f0, f1, f2⟩ := six HQ1.out
      obtain ⟨s0, s1, s2⟩ := three_cells (set3_spec (x := .slice none 0 0) (y := .slice none 0 0) (z := .slice none 0 0) HQ1.out).1
      go_wp2_with fail
      exact bodyPost_ret (v := .tuple #[.agg #[.slice none 0 0, .slice none 0 0, .slice none 0 0], .int .i64 90]) (by simp [results, Try.results14, go_sem, s0, s1, s2]) rfl ⟨_, rfl, isMem_no _, bel_set3 B1.out (by omega)⟩
    · rw [if_neg hfull]
      have hfull' : (pendOf m h).length < 8 := by omega
      clear hfull
      generalize hn1 : m.words.length = n1 at *
      generalize hn2 : m.pend.length = n2 at *
      generalize hn3 : m.res.length = n3 at *
      have HN1 := Lib.hid hn1; have HN2 := Lib.hid hn2; have HN3 := Lib.hid hn3
      clear hn1 hn2 hn3
      obtain ⟨ln, hln⟩ : ∃ ln, (pendOf m h).length = ln := ⟨_, rfl⟩
      rw [hln] at HRC0 hfull' hl8
      have HLN := Lib.hid hln; clear hln
      obtain ⟨i0, hi, hz0, hz1, hz2⟩ := info_parts info_ent
      go_enter Try.func14, Try.ntmps14
      go_wp2_with fail
      refine (has_any _ m h a true _ (HM.out.below (by repeat (first | (with_reducible exact Below.refl _ _) | (with_reducible refine bw_set ?_ ?_ _) | (with_reducible apply bw_alloc) | (with_reducible refine bw_tr ?_ (by with_reducible assumption)) | (with_reducible apply bw_drew) | omega))) HH.out).mono ?_
      rintro e w1 ⟨rfl, hb1⟩
      have hq1 : w1.heap[w.heap.size + 1]? = some (.cells #[.slice none 0 0, .slice none 0 0, .slice none 0 0] 27 (0, 0)) := up_in hb1 (by have := new_in (w.alloc (.cells #[.slice a1 n1 c1, .slice (some ⟨b2, o2, none⟩) n2 c2, .slice a3 n3 c3] 27)) zM; simpa using this)
      have hx1 : w1.heap[w.heap.size]? = some (.cells #[.slice a1 n1 c1, .slice (some ⟨b2, o2, none⟩) n2 c2, .slice a3 n3 c3] 27 (0, 0)) := up_in hb1 (up_in (bel_new _ _) (new_in w _))
      have B1 : Hid (Below w.heap.size w w1) := Lib.hid ((by repeat (first | (with_reducible exact Below.refl _ _) | (with_reducible refine bw_set ?_ ?_ _) | (with_reducible apply bw_alloc) | (with_reducible refine bw_tr ?_ (by with_reducible assumption)) | (with_reducible apply bw_drew) | omega)))
      have HQ1 := Lib.hid hq1; have HX1 := Lib.hid hx1
      have sz1 : w.heap.size + 1 + 1 ≤ w1.heap.size := by have := hb1.size; simpa using this
      clear hq1 hx1 hb1
      have kk := (three_cells HX1.out).2.1
      have kr := (B1.out.cell (p := ⟨b2, o2 + h.toNat, none⟩) e3).trans HRC0.out
      obtain ⟨k0, k1, k2⟩ := three_cells HX1.out
      go_wp2_with fail
      refine (of_any _ m _ (HM.out.below B1.out) HS.out).mono ?_
      rintro e w2 ⟨p, wv, pv, rv, rs, rfl, ho2, hb2⟩
      have HQ2 := Lib.hid (up_in hb2 HQ1.out)
      have B2 : Hid (Below w.heap.size w w2) := Lib.hid (bw_tr B1.out hb2)
      obtain ⟨gp, cp, r, rfl, hcp, hcm, hr, hrc, hrf, hro⟩ := ho2.rowAt h0 (by rw [HN2.out]; exact h1)
      obtain ⟨aw, cw, rfl⟩ := own_shape ho2.words
      obtain ⟨arr, crr, rfl⟩ := own_shape ho2.res
      obtain ⟨xr, yr, rfl⟩ := own_shape hro
      rw [HLN.out] at hr hrc hro
      rw [HN2.out] at hcp
      have hgpB : w1.heap.size ≤ gp := (ho2.pend.lt gp rfl).1
      have hgp := ho2.base
      have hgl := (ho2.pend.lt gp rfl).2
      have HO2 := Lib.hid ho2; have HR := Lib.hid hr; have HRO := Lib.hid hro
      have lp := lt_in ho2.at_
      clear ho2 hb2 hr hro k0 k1 k2 kk kr HQ1
      rw [HN1.out, HN2.out, HN3.out] at HO2
      have szz : w.heap.size + 1 < w2.heap.size := lt_in HQ2.out
      go_wp2_with fail
      refine wp_region_ut (fun w' => (p < w'.heap.size ∧ gp < w'.heap.size) ∧ w'.heap[p]? = some (.cells #[.slice aw n1 cw, .slice (some ⟨gp, 0, none⟩) n2 cp, .slice arr n3 crr] 66 (0, 0)) ∧ w'.cell? ⟨gp, h.toNat, none⟩ = some (.slice xr ln yr)) 20 [true, true, true, true, true, true, true, true, true, true, true, true, true, true, true, true] (by kernel_rfl) (by kernel_rfl) (by kernel_rfl)
        (fun w1 w2 h hu => ⟨⟨Nat.lt_of_lt_of_le h.1.1 hu.size, Nat.lt_of_lt_of_le h.1.2 hu.size⟩, up_in hu h.2.1, by rw [hu.cell (p := ⟨gp, _, none⟩) h.1.2]; exact h.2.2⟩) ⟨⟨lp, hgl⟩, HO2.out.at_, hrc⟩ ?a' ?h ?ht
      case h =>
        intro w0 ⟨⟨l1, l2⟩, c1, c2⟩
        obtain ⟨k0, k1, k2⟩ := three_cells c1
        have y0 := fun x => wd_cell l1 k0 x
        have y1 := fun x => wd_cell l1 k1 x
        have y2 := fun x => wd_cell l1 k2 x
        have y3 := fun x => wd_cell l2 c2 x
        clear c1 c2 k0 k1 k2
        simp only [pickM]
        repeat (go_big_quiet_step (fail))
        refine wpQuiet_nil ?_
        rfl
      case ht =>
        change headU _ _ _ _ _ _ 4 _ _ _
        refine headU_one (i := 16) (by kernel_rfl) (by decide) rfl ?_
        intro w3 hu3 hc3
        have HU3 : Hid (Up w2 w3) := Lib.hid (bw_undrew hu3); have HC3 := Lib.hid hc3; clear hu3 hc3
        go_wp2_with (go_at_call 15; ((with_reducible refine (wrap_any n _).mono ?_); rintro e w' ⟨rfl, rfl⟩))
        refine ⟨HC3.out, ?_⟩
        refine headU_one (i := 17) (by kernel_rfl) (by decide) rfl ?_
        intro w4 hu4 hc4
        have HU4 := Lib.hid (up_tr HU3.out hu4); have HC4 := Lib.hid hc4; clear hu4 hc4
        go_wp2_with fail
        refine ⟨HC4.out, ?_⟩
        refine headU_one (i := 18) (by kernel_rfl) (by decide) rfl ?_
        intro w5 hu5 hc5
        have HU5 := Lib.hid (up_tr HU4.out hu5); have HC5 := Lib.hid hc5; clear hu5 hc5
        go_wp2_with fail
        refine ⟨⟨⟨Nat.lt_of_lt_of_le HC5.out.1.1 (bel_new w5 _).size, Nat.lt_of_lt_of_le HC5.out.1.2 (bel_new w5 _).size⟩, up_in (bel_new w5 _) HC5.out.2.1, by rw [(bel_new w5 _).cell (p := ⟨gp, _, none⟩) HC5.out.1.2]; exact HC5.out.2.2⟩, ?_⟩
        refine headU_one (i := 19) (by kernel_rfl) (by decide) rfl ?_
        intro w6 hu6 hc6
        have HN6 : Hid (w6.heap[w5.heap.size]? = some (.cells #[.int .i64 a, .int .i64 (wrap32 n)] 44 (0, 0))) := Lib.hid (up_in hu6 (new_in w5 _))
        have HU6 : Hid (Up w2 w6) := Lib.hid (up_tr HU5.out (up_tr (bel_new w5 _) hu6)); have HC6 := Lib.hid hc6; clear hu6 hc6
        have HO6 := Lib.hid (HO2.out.below HU6.out); have HRO6 := Lib.hid (own_below HRO.out HU6.out)
        have HS6 : Hid (∀ j u, (entC [(a, wrap32 n)])[j]? = some u → w6.cell? ((⟨w5.heap.size, 0, none⟩ : Addr).add j) = some u) := Lib.hid (fun j u hj => by
            rw [addr_add]
            have hj' := (List.getElem?_eq_some_iff.1 hj).1
            simp only [entC, List.length_cons, List.length_nil] at hj'
            rcases (by omega : j = 0 ∨ j = 1) with rfl | rfl
            · simp [entC] at hj; subst hj; exact cell_in HN6.out rfl
            · simp [entC] at hj; subst hj; exact cell_in HN6.out rfl)
        have hby : (ln + 1) * 16 ≤ 140737488355328 := by omega
        have hmx : ln + 1 ≤ maxLen := by unfold maxLen; omega
        have hsz6 : w1.heap.size ≤ w6.heap.size := by have := HU6.out.size; omega
        refine wpList_append_own _ rfl _ _ 42 rfl w1.heap.size 44 i0 (.agg #[.int .i64 0, .int .i64 0]) 2 16 Try.underlying42 hi hz0 hz1 hz2 rfl (by decide) _ _ _ rfl HRO6.out ⟨w5.heap.size, 0, none⟩ 1 1 (entC [(a, wrap32 n)]) rfl rfl HS6.out (entC_one _) hmx hby hsz6 ?_
        intro v' w7 hown7 hgrow7 _
        obtain ⟨xv, yv, rfl⟩ := own_shape hown7
        rw [← entC_app] at hown7
        have HO7 := Lib.hid hown7; have HG7 := Lib.hid hgrow7
        clear hown7 hgrow7
        have q1 : w7.heap[p]? = w6.heap[p]? := HG7.out.block p HC6.out.1.1 (fun e => own_not HRO6.out HC6.out.2.1 (by decide) e.symm)
        have q2 : w7.heap[gp]? = w6.heap[gp]? := HG7.out.block gp HC6.out.1.2 (fun e => own_apart HO6.out.pend HRO6.out (by decide) (g := gp) rfl e.symm)
        have HC7 : Hid ((p < w7.heap.size ∧ gp < w7.heap.size) ∧ w7.heap[p]? = some (.cells #[.slice aw n1 cw, .slice (some ⟨gp, 0, none⟩) n2 cp, .slice arr n3 crr] 66 (0, 0)) ∧ w7.cell? ⟨gp, h.toNat, none⟩ = some (.slice xr ln yr)) := Lib.hid ⟨⟨Nat.lt_of_lt_of_le HC6.out.1.1 HG7.out.size, Nat.lt_of_lt_of_le HC6.out.1.2 HG7.out.size⟩, by rw [q1]; exact HC6.out.2.1, by rw [World.cell?_of_block (a := ⟨gp, h.toNat, none⟩) q2]; exact HC6.out.2.2⟩
        have hq7 : w7.heap[w.heap.size + 1]? = some (.cells #[.slice none 0 0, .slice none 0 0, .slice none 0 0] 27 (0, 0)) := by rw [HG7.out.block (w.heap.size + 1) (by have := HU6.out.size; omega) (fun e => own_not HRO6.out (up_in HU6.out HQ2.out) (by decide) e.symm)]; exact up_in HU6.out HQ2.out
        have HQ7 := Lib.hid hq7; clear hq7 q1 q2
        have B7 : Hid (Below w.heap.size w w7) := Lib.hid (grown_bel (bw_tr B2.out HU6.out) HG7.out (fun g e => by have := (HRO6.out.lt g e).1; omega))
        go_wp2_with fail
        refine ⟨HC7.out, ?_⟩
        refine headU_end (by kernel_rfl) ?_
        intro w8 hu8 hc8
        have HU8 := Lib.hid hu8; clear hu8 hc8
        have HST := Lib.hid (HO6.out.stored (by decide) (by decide) HR.out (grown_tr HG7.out HG7.out.size HU8.out) (r' := .slice xv (ln + 1) yv) (l' := pendOf m h ++ [(a, wrap32 n)]) (by simp only [List.length_append, List.length_cons, List.length_nil, HLN.out]; exact own_below HO7.out HU8.out) rfl)
        obtain ⟨cc, hcc⟩ := own_block HO6.out.pend (g := gp) rfl
        have hff : w8.frozen? ⟨gp, h.toNat, none⟩ = false := frozen_in (show w8.heap[gp]? = some (.cells cc _ (0, 0)) by rw [HU8.out.block gp HC7.out.1.2, HG7.out.block gp HC6.out.1.2 (fun e => own_apart HO6.out.pend HRO6.out (by decide) (g := gp) rfl e.symm)]; exact hcc) _
        have hcl := (HU8.out.cell (p := ⟨gp, h.toNat, none⟩) HC7.out.1.2).trans HC7.out.2.2
        have HQ8 := Lib.hid (up_in HU8.out HQ7.out); have B8 := Lib.hid (bw_tr B7.out HU8.out)
        clear hcc
        have HQ9 : Hid ((w8.setCell ⟨gp, h.toNat, none⟩ (.slice xv (ln + 1) yv)).heap[w.heap.size + 1]? = some (.cells #[.slice none 0 0, .slice none 0 0, .slice none 0 0] 27 (0, 0))) := Lib.hid (by rw [heap_set (by omega)]; exact HQ8.out)
        have B9 : Hid (Below w.heap.size w (w8.setCell ⟨gp, h.toNat, none⟩ (.slice xv (ln + 1) yv))) := Lib.hid (bw_set B8.out (by omega) _)
        simp only [List.drop_succ_cons, List.drop_zero]
        go_upto_region 7 with (fail)
        obtain ⟨w9, hw9⟩ : ∃ w9, w8.setCell ⟨gp, h.toNat, none⟩ (.slice xv (ln + 1) yv) = w9 := ⟨_, rfl⟩
        rw [hw9] at HQ9 B9 HST
        rw [hw9]
        clear hw9 hff hcl
        obtain ⟨⟨f0, f1, f2⟩, g0, g1, g2⟩ := six HQ9.out
        obtain ⟨t0, t1, t2⟩ := three_cells HST.out.1
        obtain ⟨s0, s1, s2⟩ := three_cells (set3_spec (x := .slice aw n1 cw) (y := .slice (some ⟨gp, 0, none⟩) n2 cp) (z := .slice arr n3 crr) HQ9.out).1
        have HM9 := Lib.hid (isMem_set3 (.slice aw n1 cw) (.slice (some ⟨gp, 0, none⟩) n2 cp) (.slice arr n3 crr) HST.out.2 HQ9.out)
        have B10 := Lib.hid (bel_set3 (x := .slice aw n1 cw) (y := .slice (some ⟨gp, 0, none⟩) n2 cp) (z := .slice arr n3 crr) B9.out (show w.heap.size ≤ w.heap.size + 1 by omega))
        go_wp2_with fail
        exact bodyPost_ret (v := .tuple #[.agg #[.slice aw n1 cw, .slice (some ⟨gp, 0, none⟩) n2 cp, .slice arr n3 crr], .int .i64 0]) (by simp [results, Try.results14, go_sem, s0, s1, s2]) rfl ⟨_, rfl, HM9.out, B10.out⟩
end Go.Proofs.Ytkhobelceghgfaa
