/-
  The contracts of store's Conditional and Change (printed by gen_memstore.py).
-/
import Derived.Test.YtkhobelceghgfaaMemStore
namespace Go.Proofs.Ytkhobelceghgfaa
open Go.RowKit
theorem goes_small {m : Mem} (hs : Small m) (h a n : Int) : Small (goesM m h a n) := ⟨by simp [goesM]; exact hs.words, hs.pend, by simp [goesM, goRes_len]; exact hs.res, hs.each⟩
theorem once_has {m : Mem} {h a : Int} (h0 : onceE m h a = 0) : hasB m h a = true := by
  cases e : hasB m h a
  · unfold onceE at h0; rw [e] at h0; simp at h0
  · rfl
theorem resOf_at {m : Mem} {h : Int} (h0 : 0 ≤ h) (h1 : h < m.res.length) : m.res[h.toNat]? = some (resOf m h) := by
  unfold resOf
  simp [show h.toNat < m.res.length by omega]
theorem wordOf_at {m : Mem} {a : Int} (h0 : 0 ≤ a) (h1 : a < m.words.length) : m.words[a.toNat]? = some (wordOf m a) := by
  unfold wordOf
  simp [show a.toNat < m.words.length by omega]
theorem intC_at' {l : List Int} {k : Nat} {x : Int} (h : l[k]? = some x) : (intC l)[k]? = some (.int .i64 x) := by simp [intC, h]
set_option maxHeartbeats 4000000 in
theorem cond_any (v : Value) (m : Mem) (h a n : Int) (w : World) (hm : IsMem w v m) (hs : Small m) :
    Calls Try.prog 22 #[v, .int .i64 h, .int .i64 a, .int .i64 n] w (MemRet3 w w.heap.size (.bool (condR m h a n).1) ((condR m h a n).2)) := by
  have HM := Lib.hid hm; have HS := Lib.hid hs
  obtain ⟨a1, c1, a2, c2, a3, c3, rows, rfl, _, _, _, _⟩ := hm.parts
  cases he : (onceE m h a == 0)
  · have hr : condR m h a n = (false, noMem, onceE m h a) := by unfold condR; rw [if_neg (by simpa using he)]
    rw [hr]
    have he' : (onceE m h a != 0) = true := by simpa [bne] using he
    clear hm he hr
    generalize hon : onceE m h a = er at *
    have HON := Lib.hid hon; clear hon
    generalize hn1 : m.words.length = n1 at *
    generalize hn2 : m.pend.length = n2 at *
    generalize hn3 : m.res.length = n3 at *
    have HN1 := Lib.hid hn1; have HN2 := Lib.hid hn2; have HN3 := Lib.hid hn3
    clear hn1 hn2 hn3
    unfold MemRet3
    go_enter Try.func22, Try.ntmps22
    go_wp2_with fail
    refine (once_any _ m h a er _ (HM.out.below (by repeat (first | (with_reducible exact Below.refl _ _) | (with_reducible refine bw_set ?_ ?_ _) | (with_reducible apply bw_alloc) | (with_reducible refine bw_tr ?_ (by with_reducible assumption)) | (with_reducible apply bw_drew) | omega))) HON.out).mono ?_
    rintro e w1 ⟨rfl, hb1⟩
    have hq1 : w1.heap[w.heap.size + 1]? = some (.cells #[.slice none 0 0, .slice none 0 0, .slice none 0 0] 27 (0, 0)) := up_in hb1 (by have := new_in (w.alloc (.cells #[.slice a1 n1 c1, .slice a2 n2 c2, .slice a3 n3 c3] 27)) zM; simpa using this)
    have hx1 : w1.heap[w.heap.size]? = some (.cells #[.slice a1 n1 c1, .slice a2 n2 c2, .slice a3 n3 c3] 27 (0, 0)) := up_in hb1 (up_in (bel_new _ _) (new_in w _))
    have B1 : Hid (Below w.heap.size w w1) := Lib.hid ((by repeat (first | (with_reducible exact Below.refl _ _) | (with_reducible refine bw_set ?_ ?_ _) | (with_reducible apply bw_alloc) | (with_reducible refine bw_tr ?_ (by with_reducible assumption)) | (with_reducible apply bw_drew) | omega)))
    have HQ1 := Lib.hid hq1; have HX1 := Lib.hid hx1
    have sz1 : w.heap.size + 1 + 1 ≤ w1.heap.size := by have := hb1.size; simpa using this
    clear hq1 hx1 hb1
    obtain ⟨⟨k0, k1, k2⟩, f0, f1, f2⟩ := six HQ1.out
    obtain ⟨s0, s1, s2⟩ := three_cells (set3_spec (x := .slice none 0 0) (y := .slice none 0 0) (z := .slice none 0 0) HQ1.out).1
    go_wp2_with fail
    exact bodyPost_ret (v := .tuple #[.bool false, .agg #[.slice none 0 0, .slice none 0 0, .slice none 0 0], .int .i64 er]) (by simp [results, Try.results22, go_sem, s0, s1, s2]) rfl ⟨_, rfl, isMem_no _, bel_set3 B1.out (by omega)⟩
  · have he0 : onceE m h a = 0 := by simpa using he
    obtain ⟨h0, h1, h2, h3, h4⟩ := hasB_spec (once_has he0)
    have hra := Lib.hid (resOf_at h0 h2)
    have hr : condR m h a n = (if resOf m h = a then (true, setRes (goesM m h a (wrap32 n)) h (-1), 0) else (false, setRes m h (-1), 0)) := by unfold condR; rw [if_pos he0]
    rw [hr]
    have HON := Lib.hid he0
    clear hm he he0 hr
    unfold MemRet3
    generalize hn1 : m.words.length = n1 at *
    generalize hn2 : m.pend.length = n2 at *
    generalize hn3 : m.res.length = n3 at *
    have HN1 := Lib.hid hn1; have HN2 := Lib.hid hn2; have HN3 := Lib.hid hn3
    clear hn1 hn2 hn3
    cases hc : (resOf m h == a)
    · have hif : resOf m h ≠ a := by simpa using hc
      rw [if_neg hif]
      clear hif
      generalize resOf m h = ro at *
      have HC := Lib.hid hc; clear hc
      go_enter Try.func22, Try.ntmps22
      go_wp2_with fail
      refine (once_any _ m h a 0 _ (HM.out.below (by repeat (first | (with_reducible exact Below.refl _ _) | (with_reducible refine bw_set ?_ ?_ _) | (with_reducible apply bw_alloc) | (with_reducible refine bw_tr ?_ (by with_reducible assumption)) | (with_reducible apply bw_drew) | omega))) HON.out).mono ?_
      rintro e w1 ⟨rfl, hb1⟩
      have hq1 : w1.heap[w.heap.size + 1]? = some (.cells #[.slice none 0 0, .slice none 0 0, .slice none 0 0] 27 (0, 0)) := up_in hb1 (by have := new_in (w.alloc (.cells #[.slice a1 n1 c1, .slice a2 n2 c2, .slice a3 n3 c3] 27)) zM; simpa using this)
      have hx1 : w1.heap[w.heap.size]? = some (.cells #[.slice a1 n1 c1, .slice a2 n2 c2, .slice a3 n3 c3] 27 (0, 0)) := up_in hb1 (up_in (bel_new _ _) (new_in w _))
      have B1 : Hid (Below w.heap.size w w1) := Lib.hid ((by repeat (first | (with_reducible exact Below.refl _ _) | (with_reducible refine bw_set ?_ ?_ _) | (with_reducible apply bw_alloc) | (with_reducible refine bw_tr ?_ (by with_reducible assumption)) | (with_reducible apply bw_drew) | omega)))
      have HQ1 := Lib.hid hq1; have HX1 := Lib.hid hx1
      have sz1 : w.heap.size + 1 + 1 ≤ w1.heap.size := by have := hb1.size; simpa using this
      clear hq1 hx1 hb1
      obtain ⟨k0, k1, k2⟩ := three_cells HX1.out
      go_wp2_with fail
      refine (of_any _ m _ (HM.out.below B1.out) HS.out).mono ?_
      rintro e w2 ⟨p, wv, pv, rv, rs, rfl, ho2, hb2⟩
      have HQ2 := Lib.hid (up_in hb2 HQ1.out)
      have B2 : Hid (Below w.heap.size w w2) := Lib.hid (bw_tr B1.out hb2)
      clear k0 k1 k2 HQ1 hb2
      obtain ⟨gw, cw, rfl, hcw, hmw⟩ := own_some ho2.words (by rw [HN1.out]; omega)
      obtain ⟨gr, cr, rfl, hcr, hmr⟩ := own_some ho2.res (by rw [HN3.out]; omega)
      obtain ⟨ap, cp, rfl⟩ := own_shape ho2.pend
      have hgr := (ho2.res.lt gr rfl).1
      have hgp := ho2.base
      unfold maxLen at hmw hmr
      have HO2 := Lib.hid ho2; clear ho2
      rw [HN1.out] at HO2 hcw
      rw [HN2.out] at HO2
      rw [HN3.out] at HO2 hcr
      obtain ⟨t0, t1, t2⟩ := three_cells HO2.out.at_
      have hres := HO2.out.res; (try simp only at hres); rw [HN3.out] at hres
      obtain ⟨u1, u2⟩ := own_cell1 hres (intC_at' hra.out)
      clear hres
      have hcb := HC.out
      have HO3 := Lib.hid (HO2.out.setResv (by decide) rfl h.toNat (-1))
      have B3 : Hid (Below w.heap.size w (w2.setCell ⟨gr, h.toNat, none⟩ (.int .i64 (-1)))) := Lib.hid (bw_set B2.out (by omega) _)
      have HQ3 : Hid ((w2.setCell ⟨gr, h.toNat, none⟩ (.int .i64 (-1))).heap[w.heap.size + 1]? = some (.cells #[.slice none 0 0, .slice none 0 0, .slice none 0 0] 27 (0, 0))) := Lib.hid (by rw [heap_set (by omega)]; exact HQ2.out)
      go_wp2_with fail
      obtain ⟨w3, hw3⟩ : ∃ w3, w2.setCell ⟨gr, h.toNat, none⟩ (.int .i64 (-1)) = w3 := ⟨_, rfl⟩
      rw [hw3] at B3 HQ3 HO3
      rw [hw3]
      clear hw3 t0 t1 t2 u1 u2
      have lp := lt_in HO3.out.at_
      have hpq : w.heap.size + 1 ≠ p := by omega
      refine wp_region_up (fun w' => p < w'.heap.size ∧ w'.heap[p]? = some (.cells #[.slice (some ⟨gw, 0, none⟩) n1 cw, .slice ap n2 cp, .slice (some ⟨gr, 0, none⟩) n3 cr] 66 (0, 0))) [true, true, true, true, true] (by kernel_rfl) (by kernel_rfl) (by kernel_rfl)
        (fun w1 w2 h hu => ⟨Nat.lt_of_lt_of_le h.1 hu.size, up_in hu h.2⟩) ⟨lp, HO3.out.at_⟩ ?ac1 ?hc1 ?htc1
      case hc1 =>
        intro w0 ⟨l1, c1⟩
        obtain ⟨k0, k1, k2⟩ := three_cells c1
        have y0 := fun x => wd_cell l1 k0 x
        have y1 := fun x => wd_cell l1 k1 x
        have y2 := fun x => wd_cell l1 k2 x
        clear c1 k0 k1 k2
        simp only [pickM]
        repeat (go_big_quiet_step (fail))
        refine wpQuiet_nil ?_
        rfl
      case htc1 =>
        change wpAnyU _ _ _ _ _ 3 _ _ _
        refine anyU_one (i := 5) (by kernel_rfl) rfl ?_
        intro w4 hu4 hc4
        have HU4 : Hid (Up w3 w4) := Lib.hid (bw_undrew hu4)
        have HC4 := Lib.hid hc4
        clear hu4 hc4
        go_wp2_with fail
        refine ⟨HC4.out, ?_⟩
        refine anyU_one (i := 6) (by kernel_rfl) rfl ?_
        intro w5 hu5 hc5
        have HU5 : Hid (Up w3 w5) := Lib.hid (up_tr HU4.out hu5)
        have HC5 := Lib.hid hc5
        clear hu5 hc5
        have HQ5 := Lib.hid (up_in HU5.out HQ3.out)
        obtain ⟨⟨v0, v1, v2⟩, f0, f1, f2⟩ := six HQ5.out
        go_wp2_with fail
        have HQ6 := Lib.hid (set3_spec (x := .slice (some ⟨gw, 0, none⟩) n1 cw) (y := .slice ap n2 cp) (z := .slice (some ⟨gr, 0, none⟩) n3 cr) HQ5.out)
        refine ⟨⟨by simp only [size_set]; exact HC5.out.1, by rw [HQ6.out.2 p (Ne.symm hpq)]; exact HC5.out.2⟩, ?_⟩
        have HM6 := Lib.hid (isMem_set3 (.slice (some ⟨gw, 0, none⟩) n1 cw) (.slice ap n2 cp) (.slice (some ⟨gr, 0, none⟩) n3 cr) ((HO3.out.isMem).below HU5.out) HQ5.out)
        have B6 := Lib.hid (bel_set3 (x := .slice (some ⟨gw, 0, none⟩) n1 cw) (y := .slice ap n2 cp) (z := .slice (some ⟨gr, 0, none⟩) n3 cr) (bw_tr B3.out HU5.out) (show w.heap.size ≤ w.heap.size + 1 by omega))
        have HQ7 := Lib.hid (HQ6.out.1)
        clear v0 v1 v2 f0 f1 f2 HQ6
        refine anyU_one (i := 7) (by kernel_rfl) rfl ?_
        intro w7 hu7 hc7
        have HM7 := Lib.hid (HM6.out.below hu7); have B7 := Lib.hid (bw_tr B6.out hu7); have HQ8 := Lib.hid (up_in hu7 HQ7.out); have HC7 := Lib.hid hc7
        clear hu7 hc7
        go_wp2_with fail
        refine ⟨HC7.out, ?_⟩
        refine anyU_nil (by kernel_rfl) ?_
        intro w8 hu8 _
        have HM8 := Lib.hid (HM7.out.below hu8); have B8 := Lib.hid (bw_tr B7.out hu8)
        obtain ⟨r0, r1, r2⟩ := three_cells (up_in hu8 HQ8.out)
        clear hu8
        go_wp2_with fail
        exact bodyPost_ret (v := .tuple #[.bool false, .agg #[.slice (some ⟨gw, 0, none⟩) n1 cw, .slice ap n2 cp, .slice (some ⟨gr, 0, none⟩) n3 cr], .int .i64 0]) (by simp [results, Try.results22, go_sem, r0, r1, r2]) rfl ⟨_, rfl, HM8.out, B8.out⟩
    · have hif : resOf m h = a := by simpa using hc
      rw [if_pos hif]
      clear hif
      generalize resOf m h = ro at *
      have HC := Lib.hid hc; clear hc
      go_enter Try.func22, Try.ntmps22
      go_wp2_with fail
      refine (once_any _ m h a 0 _ (HM.out.below (by repeat (first | (with_reducible exact Below.refl _ _) | (with_reducible refine bw_set ?_ ?_ _) | (with_reducible apply bw_alloc) | (with_reducible refine bw_tr ?_ (by with_reducible assumption)) | (with_reducible apply bw_drew) | omega))) HON.out).mono ?_
      rintro e w1 ⟨rfl, hb1⟩
      have hq1 : w1.heap[w.heap.size + 1]? = some (.cells #[.slice none 0 0, .slice none 0 0, .slice none 0 0] 27 (0, 0)) := up_in hb1 (by have := new_in (w.alloc (.cells #[.slice a1 n1 c1, .slice a2 n2 c2, .slice a3 n3 c3] 27)) zM; simpa using this)
      have hx1 : w1.heap[w.heap.size]? = some (.cells #[.slice a1 n1 c1, .slice a2 n2 c2, .slice a3 n3 c3] 27 (0, 0)) := up_in hb1 (up_in (bel_new _ _) (new_in w _))
      have B1 : Hid (Below w.heap.size w w1) := Lib.hid ((by repeat (first | (with_reducible exact Below.refl _ _) | (with_reducible refine bw_set ?_ ?_ _) | (with_reducible apply bw_alloc) | (with_reducible refine bw_tr ?_ (by with_reducible assumption)) | (with_reducible apply bw_drew) | omega)))
      have HQ1 := Lib.hid hq1; have HX1 := Lib.hid hx1
      have sz1 : w.heap.size + 1 + 1 ≤ w1.heap.size := by have := hb1.size; simpa using this
      clear hq1 hx1 hb1
      obtain ⟨k0, k1, k2⟩ := three_cells HX1.out
      go_wp2_with fail
      refine (of_any _ m _ (HM.out.below B1.out) HS.out).mono ?_
      rintro e w2 ⟨p, wv, pv, rv, rs, rfl, ho2, hb2⟩
      have HQ2 := Lib.hid (up_in hb2 HQ1.out)
      have B2 : Hid (Below w.heap.size w w2) := Lib.hid (bw_tr B1.out hb2)
      clear k0 k1 k2 HQ1 hb2
      obtain ⟨gw, cw, rfl, hcw, hmw⟩ := own_some ho2.words (by rw [HN1.out]; omega)
      obtain ⟨gr, cr, rfl, hcr, hmr⟩ := own_some ho2.res (by rw [HN3.out]; omega)
      obtain ⟨ap, cp, rfl⟩ := own_shape ho2.pend
      have hgr := (ho2.res.lt gr rfl).1
      have hgp := ho2.base
      unfold maxLen at hmw hmr
      have HO2 := Lib.hid ho2; clear ho2
      rw [HN1.out] at HO2 hcw
      rw [HN2.out] at HO2
      rw [HN3.out] at HO2 hcr
      obtain ⟨t0, t1, t2⟩ := three_cells HO2.out.at_
      have hres := HO2.out.res; (try simp only at hres); rw [HN3.out] at hres
      obtain ⟨u1, u2⟩ := own_cell1 hres (intC_at' hra.out)
      clear hres
      have hcb := HC.out
      go_wp2_with (go_at_call 15; ((with_reducible refine (wrap_any n _).mono ?_); rintro e w' ⟨rfl, rfl⟩))
      refine (goes_any w1.heap.size p m _ _ _ rs h a (wrap32 n) _ HO2.out HS.out ⟨h3, by rw [HN1.out]; exact h4⟩).mono ?_
      rintro e wg ⟨rfl, hog, hbg⟩
      have HOG := Lib.hid hog; have BG : Hid (Below w.heap.size w wg) := Lib.hid (B2.out.trans (hbg.mono (by have := B1.out.size; omega)))
      have HQG : Hid (wg.heap[w.heap.size + 1]? = some (.cells #[.slice none 0 0, .slice none 0 0, .slice none 0 0] 27 (0, 0))) := Lib.hid (bel_in hbg (by omega) HQ2.out)
      clear hog hbg t0 t1 t2 u1 u2 HQ2
      obtain ⟨t0, t1, t2⟩ := three_cells HOG.out.at_
      have hres := HOG.out.res; (try simp only [goesM, goRes_len] at hres); rw [HN3.out] at hres
      have hra2 : (goRes h a 0 m.res)[h.toNat]? = some ro := by rw [goRes_get, hra.out]; simp; intro hne; omega
      obtain ⟨u1, u2⟩ := own_cell1 hres (intC_at' hra2)
      clear hres hra2
      have HO3 := Lib.hid (HOG.out.setResv (by decide) rfl h.toNat (-1))
      have B3 : Hid (Below w.heap.size w (wg.setCell ⟨gr, h.toNat, none⟩ (.int .i64 (-1)))) := Lib.hid (bw_set BG.out (by omega) _)
      have HQ3 : Hid ((wg.setCell ⟨gr, h.toNat, none⟩ (.int .i64 (-1))).heap[w.heap.size + 1]? = some (.cells #[.slice none 0 0, .slice none 0 0, .slice none 0 0] 27 (0, 0))) := Lib.hid (by rw [heap_set (by omega)]; exact HQG.out)
      go_wp2_with fail
      obtain ⟨w3, hw3⟩ : ∃ w3, wg.setCell ⟨gr, h.toNat, none⟩ (.int .i64 (-1)) = w3 := ⟨_, rfl⟩
      rw [hw3] at B3 HQ3 HO3
      rw [hw3]
      clear hw3 t0 t1 t2 u1 u2
      have lp := lt_in HO3.out.at_
      have hpq : w.heap.size + 1 ≠ p := by omega
      refine wp_region_up (fun w' => p < w'.heap.size ∧ w'.heap[p]? = some (.cells #[.slice (some ⟨gw, 0, none⟩) n1 cw, .slice ap n2 cp, .slice (some ⟨gr, 0, none⟩) n3 cr] 66 (0, 0))) [true, true, true, true, true] (by kernel_rfl) (by kernel_rfl) (by kernel_rfl)
        (fun w1 w2 h hu => ⟨Nat.lt_of_lt_of_le h.1 hu.size, up_in hu h.2⟩) ⟨lp, HO3.out.at_⟩ ?ac2 ?hc2 ?htc2
      case hc2 =>
        intro w0 ⟨l1, c1⟩
        obtain ⟨k0, k1, k2⟩ := three_cells c1
        have y0 := fun x => wd_cell l1 k0 x
        have y1 := fun x => wd_cell l1 k1 x
        have y2 := fun x => wd_cell l1 k2 x
        clear c1 k0 k1 k2
        simp only [pickM]
        repeat (go_big_quiet_step (fail))
        refine wpQuiet_nil ?_
        rfl
      case htc2 =>
        change wpAnyU _ _ _ _ _ 3 _ _ _
        refine anyU_one (i := 5) (by kernel_rfl) rfl ?_
        intro w4 hu4 hc4
        have HU4 : Hid (Up w3 w4) := Lib.hid (bw_undrew hu4)
        have HC4 := Lib.hid hc4
        clear hu4 hc4
        go_wp2_with fail
        refine ⟨HC4.out, ?_⟩
        refine anyU_one (i := 6) (by kernel_rfl) rfl ?_
        intro w5 hu5 hc5
        have HU5 : Hid (Up w3 w5) := Lib.hid (up_tr HU4.out hu5)
        have HC5 := Lib.hid hc5
        clear hu5 hc5
        have HQ5 := Lib.hid (up_in HU5.out HQ3.out)
        obtain ⟨⟨v0, v1, v2⟩, f0, f1, f2⟩ := six HQ5.out
        go_wp2_with fail
        have HQ6 := Lib.hid (set3_spec (x := .slice (some ⟨gw, 0, none⟩) n1 cw) (y := .slice ap n2 cp) (z := .slice (some ⟨gr, 0, none⟩) n3 cr) HQ5.out)
        refine ⟨⟨by simp only [size_set]; exact HC5.out.1, by rw [HQ6.out.2 p (Ne.symm hpq)]; exact HC5.out.2⟩, ?_⟩
        have HM6 := Lib.hid (isMem_set3 (.slice (some ⟨gw, 0, none⟩) n1 cw) (.slice ap n2 cp) (.slice (some ⟨gr, 0, none⟩) n3 cr) ((HO3.out.isMem).below HU5.out) HQ5.out)
        have B6 := Lib.hid (bel_set3 (x := .slice (some ⟨gw, 0, none⟩) n1 cw) (y := .slice ap n2 cp) (z := .slice (some ⟨gr, 0, none⟩) n3 cr) (bw_tr B3.out HU5.out) (show w.heap.size ≤ w.heap.size + 1 by omega))
        have HQ7 := Lib.hid (HQ6.out.1)
        clear v0 v1 v2 f0 f1 f2 HQ6
        refine anyU_one (i := 7) (by kernel_rfl) rfl ?_
        intro w7 hu7 hc7
        have HM7 := Lib.hid (HM6.out.below hu7); have B7 := Lib.hid (bw_tr B6.out hu7); have HQ8 := Lib.hid (up_in hu7 HQ7.out); have HC7 := Lib.hid hc7
        clear hu7 hc7
        go_wp2_with fail
        refine ⟨HC7.out, ?_⟩
        refine anyU_nil (by kernel_rfl) ?_
        intro w8 hu8 _
        have HM8 := Lib.hid (HM7.out.below hu8); have B8 := Lib.hid (bw_tr B7.out hu8)
        obtain ⟨r0, r1, r2⟩ := three_cells (up_in hu8 HQ8.out)
        clear hu8
        go_wp2_with fail
        exact bodyPost_ret (v := .tuple #[.bool true, .agg #[.slice (some ⟨gw, 0, none⟩) n1 cw, .slice ap n2 cp, .slice (some ⟨gr, 0, none⟩) n3 cr], .int .i64 0]) (by simp [results, Try.results22, go_sem, r0, r1, r2]) rfl ⟨_, rfl, HM8.out, B8.out⟩
theorem level_lit (op l : Int) (w : World) (hl : levelN op = l) : Calls Try.prog 47 #[.int .i64 op] w fun e w' => e = .returned (.int .i64 l) ∧ w = w' := by subst hl; exact level_any op w
theorem own_drewN {w : World} {B p T : Nat} {m : Mem} {wv pv rv : Value} {rows : List Value} (h : OwnMem w B p T m wv pv rv rows) (q : Nat) : OwnMem (w.drewN q) B p T m wv pv rv rows := h.kept fun _ _ => rfl
theorem change_bad {m : Mem} {h a op n e : Int} (he : changeE m h a op = e) (hne : e ≠ 0) : changeR m h a op n = (0, noMem, e) := by unfold changeR; rw [he, if_neg hne]
set_option maxHeartbeats 8000000 in
theorem change_any (v : Value) (m : Mem) (h a op n : Int) (w : World) (hm : IsMem w v m) (hs : Small m) :
    Calls Try.prog 21 #[v, .int .i64 h, .int .i64 a, .int .i64 op, .int .i64 n] w (MemRet3 w w.heap.size (.int .i64 (changeR m h a op n).1) ((changeR m h a op n).2)) := by
  have HM := Lib.hid hm; have HS := Lib.hid hs
  obtain ⟨a1, c1, a2, c2, a3, c3, rows, rfl, _, _, _, _⟩ := hm.parts
  obtain ⟨lv, hlv⟩ : ∃ l, levelN op = l := ⟨_, rfl⟩
  have HLV := Lib.hid hlv
  unfold MemRet3
  by_cases hop : op = 0
  · subst hop
    clear hlv HLV
    have hce : changeE m h a 0 = onceE m h a := by unfold changeE; rw [if_neg (by simp)]
    have HCE := Lib.hid hce; clear hce
    cases he : (onceE m h a == 0)
    · rw [change_bad (n := n) (HCE.out) (by simpa using he)]
      have he' : (onceE m h a != 0) = true := by simpa [bne] using he
      clear hm he
      generalize hon : onceE m h a = er at *
      have HON := Lib.hid hon; clear hon HCE
      generalize hn1 : m.words.length = n1 at *
      generalize hn2 : m.pend.length = n2 at *
      generalize hn3 : m.res.length = n3 at *
      clear hn1 hn2 hn3
      go_enter Try.func21, Try.ntmps21
      go_wp2_with (fail)
      refine (once_any _ m h a er _ (HM.out.below (by repeat (first | (with_reducible exact Below.refl _ _) | (with_reducible refine bw_set ?_ ?_ _) | (with_reducible apply bw_alloc) | (with_reducible refine bw_tr ?_ (by with_reducible assumption)) | (with_reducible apply bw_drew) | omega))) HON.out).mono ?_
      rintro e w1 ⟨rfl, hb1⟩
      have hq1 : w1.heap[w.heap.size + 1]? = some (.cells #[.slice none 0 0, .slice none 0 0, .slice none 0 0] 27 (0, 0)) := up_in hb1 (by have := new_in (w.alloc (.cells #[.slice a1 n1 c1, .slice a2 n2 c2, .slice a3 n3 c3] 27)) zM; simpa using this)
      have hx1 : w1.heap[w.heap.size]? = some (.cells #[.slice a1 n1 c1, .slice a2 n2 c2, .slice a3 n3 c3] 27 (0, 0)) := up_in hb1 (up_in (bel_new _ _) (new_in w _))
      have B1 : Hid (Below w.heap.size w w1) := Lib.hid ((by repeat (first | (with_reducible exact Below.refl _ _) | (with_reducible refine bw_set ?_ ?_ _) | (with_reducible apply bw_alloc) | (with_reducible refine bw_tr ?_ (by with_reducible assumption)) | (with_reducible apply bw_drew) | omega)))
      have HQ1 := Lib.hid hq1; have HX1 := Lib.hid hx1
      have sz1 : w.heap.size + 1 + 1 ≤ w1.heap.size := by have := hb1.size; simpa using this
      clear hq1 hx1 hb1
      obtain ⟨⟨k0, k1, k2⟩, f0, f1, f2⟩ := six HQ1.out
      obtain ⟨s0, s1, s2⟩ := three_cells (set3_spec (x := .slice none 0 0) (y := .slice none 0 0) (z := .slice none 0 0) HQ1.out).1
      go_wp2_with fail
      exact bodyPost_ret (v := .tuple #[.int .i64 0, .agg #[.slice none 0 0, .slice none 0 0, .slice none 0 0], .int .i64 er]) (by simp [results, Try.results21, go_sem, s0, s1, s2]) rfl ⟨_, rfl, isMem_no _, bel_set3 B1.out (by omega)⟩
    · have he0 : onceE m h a = 0 := by simpa using he
      obtain ⟨h0, h1, h2, h3, h4⟩ := hasB_spec (once_has he0)
      have hwa := Lib.hid (wordOf_at h3 h4)
      have hr : changeR m h a 0 n = (wordOf m a, goesM m h a (changeN 0 (wordOf m a) n), 0) := by unfold changeR; rw [HCE.out, if_pos he0]
      rw [hr, show changeN 0 (wordOf m a) n = wrap32 n by simp [changeN]]
      have HON := Lib.hid he0
      clear hm he he0 hr
      generalize hn1 : m.words.length = n1 at *
      generalize hn2 : m.pend.length = n2 at *
      generalize hn3 : m.res.length = n3 at *
      have HN1 := Lib.hid hn1; have HN2 := Lib.hid hn2; have HN3 := Lib.hid hn3
      clear hn1 hn2 hn3
      generalize wordOf m a = wa at *
      go_enter Try.func21, Try.ntmps21
      go_wp2_with (fail)
      refine (once_any _ m h a 0 _ (HM.out.below (by repeat (first | (with_reducible exact Below.refl _ _) | (with_reducible refine bw_set ?_ ?_ _) | (with_reducible apply bw_alloc) | (with_reducible refine bw_tr ?_ (by with_reducible assumption)) | (with_reducible apply bw_drew) | omega))) HON.out).mono ?_
      rintro e w1 ⟨rfl, hb1⟩
      have hq1 : w1.heap[w.heap.size + 1]? = some (.cells #[.slice none 0 0, .slice none 0 0, .slice none 0 0] 27 (0, 0)) := up_in hb1 (by have := new_in (w.alloc (.cells #[.slice a1 n1 c1, .slice a2 n2 c2, .slice a3 n3 c3] 27)) zM; simpa using this)
      have hx1 : w1.heap[w.heap.size]? = some (.cells #[.slice a1 n1 c1, .slice a2 n2 c2, .slice a3 n3 c3] 27 (0, 0)) := up_in hb1 (up_in (bel_new _ _) (new_in w _))
      have B1 : Hid (Below w.heap.size w w1) := Lib.hid ((by repeat (first | (with_reducible exact Below.refl _ _) | (with_reducible refine bw_set ?_ ?_ _) | (with_reducible apply bw_alloc) | (with_reducible refine bw_tr ?_ (by with_reducible assumption)) | (with_reducible apply bw_drew) | omega)))
      have HQ1 := Lib.hid hq1; have HX1 := Lib.hid hx1
      have sz1 : w.heap.size + 1 + 1 ≤ w1.heap.size := by have := hb1.size; simpa using this
      clear hq1 hx1 hb1
      obtain ⟨k0, k1, k2⟩ := three_cells HX1.out
      go_wp2_with fail
      refine (of_any _ m _ (HM.out.below B1.out) HS.out).mono ?_
      rintro e w2 ⟨p, wv, pv, rv, rs, rfl, ho2, hb2⟩
      have HQ2 := Lib.hid (up_in hb2 HQ1.out)
      have B2 : Hid (Below w.heap.size w w2) := Lib.hid (bw_tr B1.out hb2)
      clear k0 k1 k2 HQ1 hb2
      obtain ⟨gw, cw, rfl, hcw, hmw⟩ := own_some ho2.words (by rw [HN1.out]; omega)
      obtain ⟨gr, cr, rfl, hcr, hmr⟩ := own_some ho2.res (by rw [HN3.out]; omega)
      obtain ⟨ap, cp, rfl⟩ := own_shape ho2.pend
      have hgr := (ho2.res.lt gr rfl).1
      have hgp := ho2.base
      unfold maxLen at hmw hmr
      have HO2 := Lib.hid ho2; clear ho2
      rw [HN1.out] at HO2 hcw
      rw [HN2.out] at HO2
      rw [HN3.out] at HO2 hcr
      obtain ⟨t0, t1, t2⟩ := three_cells HO2.out.at_
      have hwrd := HO2.out.words; (try simp only at hwrd); rw [HN1.out] at hwrd
      obtain ⟨u1, u2⟩ := own_cell1 hwrd (intC_at' hwa.out)
      clear hwrd
      go_wp2_with fail
      go_quiet ((go_at_call 15; exact Calls.quiet_of_same ((wrap_any n _).mono fun _ _ hh => ⟨hh.1, hh.2.symm⟩)))
      have HO2d := Lib.hid (own_drewN HO2.out nq)
      have B2d : Hid (Below w.heap.size w (w2.drewN nq)) := Lib.hid (below_drewN B2.out nq)
      have HQ2d : Hid ((w2.drewN nq).heap[w.heap.size + 1]? = some (.cells #[.slice none 0 0, .slice none 0 0, .slice none 0 0] 27 (0, 0))) := Lib.hid HQ2.out
      clear t0 t1 t2 u1 u2
      generalize w2.drewN nq = w2d at *
      go_wp2_with fail
      refine (goes_any w1.heap.size p m _ _ _ rs h a (wrap32 n) _ HO2d.out HS.out ⟨h3, by rw [HN1.out]; exact h4⟩).mono ?_
      rintro e wg ⟨rfl, hog, hbg⟩
      have HOG := Lib.hid hog; have BG : Hid (Below w.heap.size w wg) := Lib.hid (B2d.out.trans (hbg.mono (by have := B1.out.size; omega)))
      have HQG : Hid (wg.heap[w.heap.size + 1]? = some (.cells #[.slice none 0 0, .slice none 0 0, .slice none 0 0] 27 (0, 0))) := Lib.hid (bel_in hbg (by omega) HQ2d.out)
      clear hog hbg
      go_wp2_with fail
      have lp := lt_in HOG.out.at_
      have hpq : w.heap.size + 1 ≠ p := by omega
      refine wp_region_up (fun w' => p < w'.heap.size ∧ w'.heap[p]? = some (.cells #[.slice (some ⟨gw, 0, none⟩) n1 cw, .slice ap n2 cp, .slice (some ⟨gr, 0, none⟩) n3 cr] 66 (0, 0))) [true, true, true, true, true] (by kernel_rfl) (by kernel_rfl) (by kernel_rfl)
        (fun w1 w2 h hu => ⟨Nat.lt_of_lt_of_le h.1 hu.size, up_in hu h.2⟩) ⟨lp, HOG.out.at_⟩ ?ad1 ?hd1 ?htd1
      case hd1 =>
        intro w0 ⟨l1, c1⟩
        obtain ⟨k0, k1, k2⟩ := three_cells c1
        have y0 := fun x => wd_cell l1 k0 x
        have y1 := fun x => wd_cell l1 k1 x
        have y2 := fun x => wd_cell l1 k2 x
        clear c1 k0 k1 k2
        simp only [pickM]
        repeat (go_big_quiet_step (fail))
        refine wpQuiet_nil ?_
        rfl
      case htd1 =>
        change wpAnyU _ _ _ _ _ 3 _ _ _
        refine anyU_one (i := 5) (by kernel_rfl) rfl ?_
        intro w4 hu4 hc4
        have HU4 : Hid (Up wg w4) := Lib.hid (bw_undrew hu4)
        have HC4 := Lib.hid hc4
        clear hu4 hc4
        go_wp2_with fail
        refine ⟨HC4.out, ?_⟩
        refine anyU_one (i := 6) (by kernel_rfl) rfl ?_
        intro w5 hu5 hc5
        have HU5 : Hid (Up wg w5) := Lib.hid (up_tr HU4.out hu5)
        have HC5 := Lib.hid hc5
        clear hu5 hc5
        have HQ5 := Lib.hid (up_in HU5.out HQG.out)
        obtain ⟨⟨v0, v1, v2⟩, f0, f1, f2⟩ := six HQ5.out
        go_wp2_with fail
        have HQ6 := Lib.hid (set3_spec (x := .slice (some ⟨gw, 0, none⟩) n1 cw) (y := .slice ap n2 cp) (z := .slice (some ⟨gr, 0, none⟩) n3 cr) HQ5.out)
        refine ⟨⟨by simp only [size_set]; exact HC5.out.1, by rw [HQ6.out.2 p (Ne.symm hpq)]; exact HC5.out.2⟩, ?_⟩
        have HM6 := Lib.hid (isMem_set3 (.slice (some ⟨gw, 0, none⟩) n1 cw) (.slice ap n2 cp) (.slice (some ⟨gr, 0, none⟩) n3 cr) ((HOG.out.isMem).below HU5.out) HQ5.out)
        have B6 := Lib.hid (bel_set3 (x := .slice (some ⟨gw, 0, none⟩) n1 cw) (y := .slice ap n2 cp) (z := .slice (some ⟨gr, 0, none⟩) n3 cr) (bw_tr BG.out HU5.out) (show w.heap.size ≤ w.heap.size + 1 by omega))
        have HQ7 := Lib.hid (HQ6.out.1)
        clear v0 v1 v2 f0 f1 f2 HQ6
        refine anyU_one (i := 7) (by kernel_rfl) rfl ?_
        intro w7 hu7 hc7
        have HM7 := Lib.hid (HM6.out.below hu7); have B7 := Lib.hid (bw_tr B6.out hu7); have HQ8 := Lib.hid (up_in hu7 HQ7.out); have HC7 := Lib.hid hc7
        clear hu7 hc7
        go_wp2_with fail
        refine ⟨HC7.out, ?_⟩
        refine anyU_nil (by kernel_rfl) ?_
        intro w8 hu8 _
        have HM8 := Lib.hid (HM7.out.below hu8); have B8 := Lib.hid (bw_tr B7.out hu8)
        obtain ⟨r0, r1, r2⟩ := three_cells (up_in hu8 HQ8.out)
        clear hu8
        go_wp2_with fail
        exact bodyPost_ret (v := .tuple #[.int .i64 wa, .agg #[.slice (some ⟨gw, 0, none⟩) n1 cw, .slice ap n2 cp, .slice (some ⟨gr, 0, none⟩) n3 cr], .int .i64 0]) (by simp [results, Try.results21, go_sem, r0, r1, r2]) rfl ⟨_, rfl, HM8.out, B8.out⟩
  · have hob : (op != 0) = true := by simpa [bne] using hop
    by_cases hlv0 : lv = 0
    · have hce : changeE m h a op = 1 := by unfold changeE; rw [if_pos ⟨hop, by rw [hlv]; exact hlv0⟩]
      rw [change_bad (n := n) hce (by decide)]
      subst hlv0
      clear hm hop hlv hce
      generalize hn1 : m.words.length = n1 at *
      generalize hn2 : m.pend.length = n2 at *
      generalize hn3 : m.res.length = n3 at *
      clear hn1 hn2 hn3
      go_enter Try.func21, Try.ntmps21
      go_wp2_with (go_at_call 47; ((with_reducible refine (level_lit op 0 _ HLV.out).mono ?_); rintro e w' ⟨rfl, rfl⟩))
      exact bodyPost_ret (v := .tuple #[.int .i64 0, .agg #[.slice none 0 0, .slice none 0 0, .slice none 0 0], .int .i64 1]) (by simp [results, Try.results21, go_sem]) rfl ⟨_, rfl, isMem_no _, (by repeat (first | (with_reducible exact Below.refl _ _) | (with_reducible refine bw_set ?_ ?_ _) | (with_reducible apply bw_alloc) | (with_reducible refine bw_tr ?_ (by with_reducible assumption)) | (with_reducible apply bw_drew) | omega))⟩
    · have HOP := Lib.hid hop; clear hop hlv
      have hce : changeE m h a op = onceE m h a := by unfold changeE; rw [if_neg (by rintro ⟨_, h2⟩; rw [HLV.out] at h2; exact hlv0 h2)]
      have HCE := Lib.hid hce; clear hce
      have hlb : (lv == 0) = false := by simpa using hlv0
      clear hlv0
      cases he : (onceE m h a == 0)
      · rw [change_bad (n := n) (HCE.out) (by simpa using he)]
        have he' : (onceE m h a != 0) = true := by simpa [bne] using he
        clear hm he
        generalize hon : onceE m h a = er at *
        have HON := Lib.hid hon; clear hon HCE
        generalize hn1 : m.words.length = n1 at *
        generalize hn2 : m.pend.length = n2 at *
        generalize hn3 : m.res.length = n3 at *
        clear hn1 hn2 hn3
        go_enter Try.func21, Try.ntmps21
        go_wp2_with (go_at_call 47; ((with_reducible refine (level_lit op lv _ HLV.out).mono ?_); rintro e w' ⟨rfl, rfl⟩))
        refine (once_any _ m h a er _ (HM.out.below (by repeat (first | (with_reducible exact Below.refl _ _) | (with_reducible refine bw_set ?_ ?_ _) | (with_reducible apply bw_alloc) | (with_reducible refine bw_tr ?_ (by with_reducible assumption)) | (with_reducible apply bw_drew) | omega))) HON.out).mono ?_
        rintro e w1 ⟨rfl, hb1⟩
        have hq1 : w1.heap[w.heap.size + 1]? = some (.cells #[.slice none 0 0, .slice none 0 0, .slice none 0 0] 27 (0, 0)) := up_in hb1 (by have := new_in (w.alloc (.cells #[.slice a1 n1 c1, .slice a2 n2 c2, .slice a3 n3 c3] 27)) zM; simpa using this)
        have hx1 : w1.heap[w.heap.size]? = some (.cells #[.slice a1 n1 c1, .slice a2 n2 c2, .slice a3 n3 c3] 27 (0, 0)) := up_in hb1 (up_in (bel_new _ _) (new_in w _))
        have B1 : Hid (Below w.heap.size w w1) := Lib.hid ((by repeat (first | (with_reducible exact Below.refl _ _) | (with_reducible refine bw_set ?_ ?_ _) | (with_reducible apply bw_alloc) | (with_reducible refine bw_tr ?_ (by with_reducible assumption)) | (with_reducible apply bw_drew) | omega)))
        have HQ1 := Lib.hid hq1; have HX1 := Lib.hid hx1
        have sz1 : w.heap.size + 1 + 1 ≤ w1.heap.size := by have := hb1.size; simpa using this
        clear hq1 hx1 hb1
        obtain ⟨⟨k0, k1, k2⟩, f0, f1, f2⟩ := six HQ1.out
        obtain ⟨s0, s1, s2⟩ := three_cells (set3_spec (x := .slice none 0 0) (y := .slice none 0 0) (z := .slice none 0 0) HQ1.out).1
        go_wp2_with fail
        exact bodyPost_ret (v := .tuple #[.int .i64 0, .agg #[.slice none 0 0, .slice none 0 0, .slice none 0 0], .int .i64 er]) (by simp [results, Try.results21, go_sem, s0, s1, s2]) rfl ⟨_, rfl, isMem_no _, bel_set3 B1.out (by omega)⟩
      · have he0 : onceE m h a = 0 := by simpa using he
        obtain ⟨h0, h1, h2, h3, h4⟩ := hasB_spec (once_has he0)
        have hwa := Lib.hid (wordOf_at h3 h4)
        have hr : changeR m h a op n = (wordOf m a, goesM m h a (changeN op (wordOf m a) n), 0) := by unfold changeR; rw [HCE.out, if_pos he0]
        rw [hr, show changeN op (wordOf m a) n = twoN op (wordOf m a) n by simp [changeN, HOP.out]]
        have HON := Lib.hid he0
        clear hm he he0 hr
        generalize hn1 : m.words.length = n1 at *
        generalize hn2 : m.pend.length = n2 at *
        generalize hn3 : m.res.length = n3 at *
        have HN1 := Lib.hid hn1; have HN2 := Lib.hid hn2; have HN3 := Lib.hid hn3
        clear hn1 hn2 hn3
        generalize wordOf m a = wa at *
        go_enter Try.func21, Try.ntmps21
        go_wp2_with (go_at_call 47; ((with_reducible refine (level_lit op lv _ HLV.out).mono ?_); rintro e w' ⟨rfl, rfl⟩))
        refine (once_any _ m h a 0 _ (HM.out.below (by repeat (first | (with_reducible exact Below.refl _ _) | (with_reducible refine bw_set ?_ ?_ _) | (with_reducible apply bw_alloc) | (with_reducible refine bw_tr ?_ (by with_reducible assumption)) | (with_reducible apply bw_drew) | omega))) HON.out).mono ?_
        rintro e w1 ⟨rfl, hb1⟩
        have hq1 : w1.heap[w.heap.size + 1]? = some (.cells #[.slice none 0 0, .slice none 0 0, .slice none 0 0] 27 (0, 0)) := up_in hb1 (by have := new_in (w.alloc (.cells #[.slice a1 n1 c1, .slice a2 n2 c2, .slice a3 n3 c3] 27)) zM; simpa using this)
        have hx1 : w1.heap[w.heap.size]? = some (.cells #[.slice a1 n1 c1, .slice a2 n2 c2, .slice a3 n3 c3] 27 (0, 0)) := up_in hb1 (up_in (bel_new _ _) (new_in w _))
        have B1 : Hid (Below w.heap.size w w1) := Lib.hid ((by repeat (first | (with_reducible exact Below.refl _ _) | (with_reducible refine bw_set ?_ ?_ _) | (with_reducible apply bw_alloc) | (with_reducible refine bw_tr ?_ (by with_reducible assumption)) | (with_reducible apply bw_drew) | omega)))
        have HQ1 := Lib.hid hq1; have HX1 := Lib.hid hx1
        have sz1 : w.heap.size + 1 + 1 ≤ w1.heap.size := by have := hb1.size; simpa using this
        clear hq1 hx1 hb1
        obtain ⟨k0, k1, k2⟩ := three_cells HX1.out
        go_wp2_with fail
        refine (of_any _ m _ (HM.out.below B1.out) HS.out).mono ?_
        rintro e w2 ⟨p, wv, pv, rv, rs, rfl, ho2, hb2⟩
        have HQ2 := Lib.hid (up_in hb2 HQ1.out)
        have B2 : Hid (Below w.heap.size w w2) := Lib.hid (bw_tr B1.out hb2)
        clear k0 k1 k2 HQ1 hb2
        obtain ⟨gw, cw, rfl, hcw, hmw⟩ := own_some ho2.words (by rw [HN1.out]; omega)
        obtain ⟨gr, cr, rfl, hcr, hmr⟩ := own_some ho2.res (by rw [HN3.out]; omega)
        obtain ⟨ap, cp, rfl⟩ := own_shape ho2.pend
        have hgr := (ho2.res.lt gr rfl).1
        have hgp := ho2.base
        unfold maxLen at hmw hmr
        have HO2 := Lib.hid ho2; clear ho2
        rw [HN1.out] at HO2 hcw
        rw [HN2.out] at HO2
        rw [HN3.out] at HO2 hcr
        obtain ⟨t0, t1, t2⟩ := three_cells HO2.out.at_
        have hwrd := HO2.out.words; (try simp only at hwrd); rw [HN1.out] at hwrd
        obtain ⟨u1, u2⟩ := own_cell1 hwrd (intC_at' hwa.out)
        clear hwrd
        go_wp2_with fail
        go_quiet ((go_at_call 15; exact Calls.quiet_of_same ((wrap_any n _).mono fun _ _ hh => ⟨hh.1, hh.2.symm⟩)))
        have HO2d := Lib.hid (own_drewN HO2.out nq)
        have B2d : Hid (Below w.heap.size w (w2.drewN nq)) := Lib.hid (below_drewN B2.out nq)
        have HQ2d : Hid ((w2.drewN nq).heap[w.heap.size + 1]? = some (.cells #[.slice none 0 0, .slice none 0 0, .slice none 0 0] 27 (0, 0))) := Lib.hid HQ2.out
        clear t0 t1 t2 u1 u2
        generalize w2.drewN nq = w2d at *
        go_wp2_with (go_at_call 23; ((with_reducible refine (two_any op wa n _).mono ?_); rintro e w' ⟨rfl, rfl⟩))
        refine (goes_any w1.heap.size p m _ _ _ rs h a (twoN op wa n) _ HO2d.out HS.out ⟨h3, by rw [HN1.out]; exact h4⟩).mono ?_
        rintro e wg ⟨rfl, hog, hbg⟩
        have HOG := Lib.hid hog; have BG : Hid (Below w.heap.size w wg) := Lib.hid (B2d.out.trans (hbg.mono (by have := B1.out.size; omega)))
        have HQG : Hid (wg.heap[w.heap.size + 1]? = some (.cells #[.slice none 0 0, .slice none 0 0, .slice none 0 0] 27 (0, 0))) := Lib.hid (bel_in hbg (by omega) HQ2d.out)
        clear hog hbg
        go_wp2_with fail
        have lp := lt_in HOG.out.at_
        have hpq : w.heap.size + 1 ≠ p := by omega
        refine wp_region_up (fun w' => p < w'.heap.size ∧ w'.heap[p]? = some (.cells #[.slice (some ⟨gw, 0, none⟩) n1 cw, .slice ap n2 cp, .slice (some ⟨gr, 0, none⟩) n3 cr] 66 (0, 0))) [true, true, true, true, true] (by kernel_rfl) (by kernel_rfl) (by kernel_rfl)
          (fun w1 w2 h hu => ⟨Nat.lt_of_lt_of_le h.1 hu.size, up_in hu h.2⟩) ⟨lp, HOG.out.at_⟩ ?ad2 ?hd2 ?htd2
        case hd2 =>
          intro w0 ⟨l1, c1⟩
          obtain ⟨k0, k1, k2⟩ := three_cells c1
          have y0 := fun x => wd_cell l1 k0 x
          have y1 := fun x => wd_cell l1 k1 x
          have y2 := fun x => wd_cell l1 k2 x
          clear c1 k0 k1 k2
          simp only [pickM]
          repeat (go_big_quiet_step (fail))
          refine wpQuiet_nil ?_
          rfl
        case htd2 =>
          change wpAnyU _ _ _ _ _ 3 _ _ _
          refine anyU_one (i := 5) (by kernel_rfl) rfl ?_
          intro w4 hu4 hc4
          have HU4 : Hid (Up wg w4) := Lib.hid (bw_undrew hu4)
          have HC4 := Lib.hid hc4
          clear hu4 hc4
          go_wp2_with fail
          refine ⟨HC4.out, ?_⟩
          refine anyU_one (i := 6) (by kernel_rfl) rfl ?_
          intro w5 hu5 hc5
          have HU5 : Hid (Up wg w5) := Lib.hid (up_tr HU4.out hu5)
          have HC5 := Lib.hid hc5
          clear hu5 hc5
          have HQ5 := Lib.hid (up_in HU5.out HQG.out)
          obtain ⟨⟨v0, v1, v2⟩, f0, f1, f2⟩ := six HQ5.out
          go_wp2_with fail
          have HQ6 := Lib.hid (set3_spec (x := .slice (some ⟨gw, 0, none⟩) n1 cw) (y := .slice ap n2 cp) (z := .slice (some ⟨gr, 0, none⟩) n3 cr) HQ5.out)
          refine ⟨⟨by simp only [size_set]; exact HC5.out.1, by rw [HQ6.out.2 p (Ne.symm hpq)]; exact HC5.out.2⟩, ?_⟩
          have HM6 := Lib.hid (isMem_set3 (.slice (some ⟨gw, 0, none⟩) n1 cw) (.slice ap n2 cp) (.slice (some ⟨gr, 0, none⟩) n3 cr) ((HOG.out.isMem).below HU5.out) HQ5.out)
          have B6 := Lib.hid (bel_set3 (x := .slice (some ⟨gw, 0, none⟩) n1 cw) (y := .slice ap n2 cp) (z := .slice (some ⟨gr, 0, none⟩) n3 cr) (bw_tr BG.out HU5.out) (show w.heap.size ≤ w.heap.size + 1 by omega))
          have HQ7 := Lib.hid (HQ6.out.1)
          clear v0 v1 v2 f0 f1 f2 HQ6
          refine anyU_one (i := 7) (by kernel_rfl) rfl ?_
          intro w7 hu7 hc7
          have HM7 := Lib.hid (HM6.out.below hu7); have B7 := Lib.hid (bw_tr B6.out hu7); have HQ8 := Lib.hid (up_in hu7 HQ7.out); have HC7 := Lib.hid hc7
          clear hu7 hc7
          go_wp2_with fail
          refine ⟨HC7.out, ?_⟩
          refine anyU_nil (by kernel_rfl) ?_
          intro w8 hu8 _
          have HM8 := Lib.hid (HM7.out.below hu8); have B8 := Lib.hid (bw_tr B7.out hu8)
          obtain ⟨r0, r1, r2⟩ := three_cells (up_in hu8 HQ8.out)
          clear hu8
          go_wp2_with fail
          exact bodyPost_ret (v := .tuple #[.int .i64 wa, .agg #[.slice (some ⟨gw, 0, none⟩) n1 cw, .slice ap n2 cp, .slice (some ⟨gr, 0, none⟩) n3 cr], .int .i64 0]) (by simp [results, Try.results21, go_sem, r0, r1, r2]) rfl ⟨_, rfl, HM8.out, B8.out⟩
end Go.Proofs.Ytkhobelceghgfaa
