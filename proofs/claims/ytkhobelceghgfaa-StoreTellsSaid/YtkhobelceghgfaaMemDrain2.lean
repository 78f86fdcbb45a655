/-
  The contracts of store.Drain and store.Flush (printed by gen_memdrain.py).
-/
import Derived.Test.YtkhobelceghgfaaMemIdx
namespace Go.Proofs.Ytkhobelceghgfaa
open Go.RowKit
theorem hartB_spec {m : Mem} {h : Int} (hh : hartB m h = true) : 0 ≤ h ∧ h < m.pend.length ∧ h < m.res.length := by
  simp only [hartB, Bool.and_eq_true, decide_eq_true_eq] at hh
  omega
/-- A list of stores that is read: its cells. -/
theorem reads_ents {w : World} {a : Option Addr} {n c : Nat} {l : List (Int × Int)} (h : Reads w 2 n (.slice a n c) (entC l)) (hn : 0 < n) : ∃ b o, a = some ⟨b, o, none⟩ ∧ b < w.heap.size ∧ n ≤ c ∧ c ≤ 9223372036854775807 ∧
    ∀ j x, l[j]? = some x → w.cell? ⟨b, o + j * 2, none⟩ = some (.int .i64 x.1) ∧ w.cell? ⟨b, o + j * 2 + 1, none⟩ = some (.int .i64 x.2) := by
  obtain ⟨b, o, c', e, hlt, hc, hm, hcell⟩ := h.some hn
  injection e with e1 _ e2
  subst e1 e2
  unfold maxLen at hm
  refine ⟨b, o, rfl, hlt, hc, by omega, fun j x hx => ?_⟩
  obtain ⟨h1, h2⟩ := entC_at l j x hx
  exact ⟨hcell _ _ h1, hcell _ _ h2⟩
theorem drain_mem {m : Mem} {h : Int} {k : Nat} {x : Int × Int} (hh : hartB m h = true) (hx : (pendOf m h)[k]? = some x) : drainR m h k = (if hasB m h x.1 then (if anyAt ((pendOf m h).take k) x.1 then (noMem, 91) else (drainX m h k, 0)) else (noMem, 1)) := by
  have hk := (List.getElem?_eq_some_iff.1 hx).1
  unfold drainR aheadB anyAt
  rw [hh]
  simp only [Int.toNat_natCast]
  have e : (pendOf m h).getD k (0, 0) = x := by rw [List.getD_eq_getElem?_getD, hx]; rfl
  simp only [e]
  rw [if_pos (by simp; omega)]
theorem drain_no {m : Mem} {h k : Int} (hh : hartB m h = false ∨ k < 0 ∨ (pendOf m h).length ≤ k) : drainR m h k = (noMem, 1) := by
  unfold drainR
  rw [if_neg]
  intro h2
  simp only [Bool.and_eq_true, decide_eq_true_eq] at h2
  rcases hh with h3 | h3
  · rw [h3] at h2; exact absurd h2.1 (by decide)
  · omega
set_option maxHeartbeats 8000000 in
theorem sdrain_any (v : Value) (m : Mem) (h k : Int) (w : World) (hm : IsMem w v m) (hs : Small m) :
    Calls Try.prog 13 #[v, .int .i64 h, .int .i64 k] w (MemRet w w.heap.size (drainR m h k)) := by
  have HM := Lib.hid hm; have HS := Lib.hid hs
  obtain ⟨a1, c1, a2, c2, a3, c3, rows, rfl, _, _, _, _⟩ := hm.parts
  unfold MemRet
  cases hh : hartB m h
  · rw [drain_no (.inl hh)]
    have HH := Lib.hid hh; clear hh hm
    generalize hn1 : m.words.length = n1 at *
    generalize hn2 : m.pend.length = n2 at *
    generalize hn3 : m.res.length = n3 at *
    clear hn1 hn2 hn3
    go_enter Try.func13, Try.ntmps13
    go_wp2_with fail
    refine (hasHart_any _ m h false _ (HM.out.below (by repeat (first | (with_reducible exact Below.refl _ _) | (with_reducible refine bw_set ?_ ?_ _) | (with_reducible apply bw_alloc) | (with_reducible refine bw_tr ?_ (by with_reducible assumption)) | (with_reducible apply bw_drew) | omega))) HH.out).mono ?_
    rintro e w1 ⟨rfl, hb1⟩
    have hq1 : w1.heap[w.heap.size + 1]? = some (.cells #[.slice none 0 0, .slice none 0 0, .slice none 0 0] 27 (0, 0)) := up_in hb1 (by have := new_in (w.alloc (.cells #[.slice a1 n1 c1, .slice a2 n2 c2, .slice a3 n3 c3] 27)) zM; simpa using this)
    have hx1 : w1.heap[w.heap.size]? = some (.cells #[.slice a1 n1 c1, .slice a2 n2 c2, .slice a3 n3 c3] 27 (0, 0)) := up_in hb1 (up_in (bel_new _ _) (new_in w _))
    have B1 : Hid (Below w.heap.size w w1) := Lib.hid ((by repeat (first | (with_reducible exact Below.refl _ _) | (with_reducible refine bw_set ?_ ?_ _) | (with_reducible apply bw_alloc) | (with_reducible refine bw_tr ?_ (by with_reducible assumption)) | (with_reducible apply bw_drew) | omega)))
    have HQ1 := Lib.hid hq1; have HX1 := Lib.hid hx1
    have sz1 : w.heap.size + 1 + 1 ≤ w1.heap.size := by have := hb1.size; simpa using this
    clear hq1 hx1 hb1
    obtain ⟨⟨k0, k1, k2⟩, f0, f1, f2⟩ := six HQ1.out
    obtain ⟨s0, s1, s2⟩ := three_cells (set3_spec (x := .slice none 0 0) (y := .slice none 0 0) (z := .slice none 0 0) HQ1.out).1
    go_wp2_with fail
    exact bodyPost_ret (v := .tuple #[.agg #[.slice none 0 0, .slice none 0 0, .slice none 0 0], .int .i64 1]) (by simp [results, Try.results13, go_sem, s0, s1, s2]) rfl ⟨_, rfl, isMem_no _, bel_set3 B1.out (by omega)⟩
  · obtain ⟨h0, h1, h2⟩ := hartB_spec hh
    by_cases hk0 : k < 0
    · rw [drain_no (.inr (.inl hk0))]
      have HH := Lib.hid hh; clear hh hm
      generalize hn1 : m.words.length = n1 at *
      generalize hn2 : m.pend.length = n2 at *
      generalize hn3 : m.res.length = n3 at *
      clear hn1 hn2 hn3
      go_enter Try.func13, Try.ntmps13
      go_wp2_with fail
      refine (hasHart_any _ m h true _ (HM.out.below (by repeat (first | (with_reducible exact Below.refl _ _) | (with_reducible refine bw_set ?_ ?_ _) | (with_reducible apply bw_alloc) | (with_reducible refine bw_tr ?_ (by with_reducible assumption)) | (with_reducible apply bw_drew) | omega))) HH.out).mono ?_
      rintro e w1 ⟨rfl, hb1⟩
      have hq1 : w1.heap[w.heap.size + 1]? = some (.cells #[.slice none 0 0, .slice none 0 0, .slice none 0 0] 27 (0, 0)) := up_in hb1 (by have := new_in (w.alloc (.cells #[.slice a1 n1 c1, .slice a2 n2 c2, .slice a3 n3 c3] 27)) zM; simpa using this)
      have hx1 : w1.heap[w.heap.size]? = some (.cells #[.slice a1 n1 c1, .slice a2 n2 c2, .slice a3 n3 c3] 27 (0, 0)) := up_in hb1 (up_in (bel_new _ _) (new_in w _))
      have B1 : Hid (Below w.heap.size w w1) := Lib.hid ((by repeat (first | (with_reducible exact Below.refl _ _) | (with_reducible refine bw_set ?_ ?_ _) | (with_reducible apply bw_alloc) | (with_reducible refine bw_tr ?_ (by with_reducible assumption)) | (with_reducible apply bw_drew) | omega)))
      have HQ1 := Lib.hid hq1; have HX1 := Lib.hid hx1
      have sz1 : w.heap.size + 1 + 1 ≤ w1.heap.size := by have := hb1.size; simpa using this
      clear hq1 hx1 hb1
      obtain ⟨⟨k0, k1, k2⟩, f0, f1, f2⟩ := six HQ1.out
      obtain ⟨s0, s1, s2⟩ := three_cells (set3_spec (x := .slice none 0 0) (y := .slice none 0 0) (z := .slice none 0 0) HQ1.out).1
      go_wp2_with fail
      exact bodyPost_ret (v := .tuple #[.agg #[.slice none 0 0, .slice none 0 0, .slice none 0 0], .int .i64 1]) (by simp [results, Try.results13, go_sem, s0, s1, s2]) rfl ⟨_, rfl, isMem_no _, bel_set3 B1.out (by omega)⟩
    · obtain ⟨kk, rfl⟩ : ∃ kk : Nat, k = kk := ⟨k.toNat, by omega⟩
      obtain ⟨b2, o2, ar, cr0, rfl, e0, e1, e2, e3, hrc0, hrd0⟩ := hm.row h1 h0
      have HH := Lib.hid hh; have HRC0 := Lib.hid hrc0; have HRD0 := Lib.hid hrd0; clear hm hrc0 hrd0 e0 hk0
      have hl8 : (pendOf m h).length ≤ 1000 := HS.out.each _ (List.mem_of_getElem? (pendOf_at h1 h0))
      by_cases hkl : kk < (pendOf m h).length
      rotate_left
      · rw [drain_no (.inr (.inr (by omega)))]
        clear hh
        generalize hn1 : m.words.length = n1 at *
        generalize hn2 : m.pend.length = n2 at *
        generalize hn3 : m.res.length = n3 at *
        clear hn1 hn2 hn3
        have hkl' : ((pendOf m h).length : Int) ≤ kk := by omega
        generalize (pendOf m h).length = ln at *
        clear hkl
        go_enter Try.func13, Try.ntmps13
        go_wp2_with fail
        refine (hasHart_any _ m h true _ (HM.out.below (by repeat (first | (with_reducible exact Below.refl _ _) | (with_reducible refine bw_set ?_ ?_ _) | (with_reducible apply bw_alloc) | (with_reducible refine bw_tr ?_ (by with_reducible assumption)) | (with_reducible apply bw_drew) | omega))) HH.out).mono ?_
        rintro e w1 ⟨rfl, hb1⟩
        have hq1 : w1.heap[w.heap.size + 1]? = some (.cells #[.slice none 0 0, .slice none 0 0, .slice none 0 0] 27 (0, 0)) := up_in hb1 (by have := new_in (w.alloc (.cells #[.slice a1 n1 c1, .slice (some ⟨b2, o2, none⟩) n2 c2, .slice a3 n3 c3] 27)) zM; simpa using this)
        have hx1 : w1.heap[w.heap.size]? = some (.cells #[.slice a1 n1 c1, .slice (some ⟨b2, o2, none⟩) n2 c2, .slice a3 n3 c3] 27 (0, 0)) := up_in hb1 (up_in (bel_new _ _) (new_in w _))
        have B1 : Hid (Below w.heap.size w w1) := Lib.hid ((by repeat (first | (with_reducible exact Below.refl _ _) | (with_reducible refine bw_set ?_ ?_ _) | (with_reducible apply bw_alloc) | (with_reducible refine bw_tr ?_ (by with_reducible assumption)) | (with_reducible apply bw_drew) | omega)))
        have HQ1 := Lib.hid hq1; have HX1 := Lib.hid hx1
        have sz1 : w.heap.size + 1 + 1 ≤ w1.heap.size := by have := hb1.size; simpa using this
        clear hq1 hx1 hb1
        have kk2 := (three_cells HX1.out).2.1
        have kr := (B1.out.cell (p := ⟨b2, o2 + h.toNat, none⟩) e3).trans HRC0.out
        obtain ⟨⟨k0, k1, k2⟩, f0, f1, f2⟩ := six HQ1.out
        obtain ⟨s0, s1, s2⟩ := three_cells (set3_spec (x := .slice none 0 0) (y := .slice none 0 0) (z := .slice none 0 0) HQ1.out).1
        go_wp2_with fail
        exact bodyPost_ret (v := .tuple #[.agg #[.slice none 0 0, .slice none 0 0, .slice none 0 0], .int .i64 1]) (by simp [results, Try.results13, go_sem, s0, s1, s2]) rfl ⟨_, rfl, isMem_no _, bel_set3 B1.out (by omega)⟩
      · have hx : (pendOf m h)[kk]? = some (pendOf m h)[kk] := by simp
        generalize (pendOf m h)[kk] = x at hx
        rw [drain_mem hh hx]
        obtain ⟨b3, o3, rfl, f1, f2, f3, f4⟩ := reads_ents HRD0.out (by omega)
        obtain ⟨g1, g2⟩ := f4 kk x hx
        have HF4 := Lib.hid f4; have HX0 := Lib.hid hx; have HG1 := Lib.hid g1; clear f4 hh hx g1 g2 HRD0
        obtain ⟨x1, x2⟩ := x
        simp only at *
        generalize hn1 : m.words.length = n1 at *
        generalize hn2 : m.pend.length = n2 at *
        generalize hn3 : m.res.length = n3 at *
        have HN1 := Lib.hid hn1; have HN2 := Lib.hid hn2; have HN3 := Lib.hid hn3
        clear hn1 hn2 hn3
        obtain ⟨ln, hln⟩ : ∃ ln, (pendOf m h).length = ln := ⟨_, rfl⟩
        rw [hln] at hkl hl8 f2 HRC0
        have HLN := Lib.hid hln; clear hln
        cases hhb : hasB m h x1
        · rw [if_neg (by decide)]
          have HHB := Lib.hid hhb; clear hhb
          go_enter Try.func13, Try.ntmps13
          go_wp2_with fail
          refine (hasHart_any _ m h true _ (HM.out.below (by repeat (first | (with_reducible exact Below.refl _ _) | (with_reducible refine bw_set ?_ ?_ _) | (with_reducible apply bw_alloc) | (with_reducible refine bw_tr ?_ (by with_reducible assumption)) | (with_reducible apply bw_drew) | omega))) HH.out).mono ?_
          rintro e w1 ⟨rfl, hb1⟩
          have hq1 : w1.heap[w.heap.size + 1]? = some (.cells #[.slice none 0 0, .slice none 0 0, .slice none 0 0] 27 (0, 0)) := up_in hb1 (by have := new_in (w.alloc (.cells #[.slice a1 n1 c1, .slice (some ⟨b2, o2, none⟩) n2 c2, .slice a3 n3 c3] 27)) zM; simpa using this)
          have hx1 : w1.heap[w.heap.size]? = some (.cells #[.slice a1 n1 c1, .slice (some ⟨b2, o2, none⟩) n2 c2, .slice a3 n3 c3] 27 (0, 0)) := up_in hb1 (up_in (bel_new _ _) (new_in w _))
          have B1 : Hid (Below w.heap.size w w1) := Lib.hid ((by repeat (first | (with_reducible exact Below.refl _ _) | (with_reducible refine bw_set ?_ ?_ _) | (with_reducible apply bw_alloc) | (with_reducible refine bw_tr ?_ (by with_reducible assumption)) | (with_reducible apply bw_drew) | omega)))
          have HQ1 := Lib.hid hq1; have HX1 := Lib.hid hx1
          have sz1 : w.heap.size + 1 + 1 ≤ w1.heap.size := by have := hb1.size; simpa using this
          clear hq1 hx1 hb1
          have kk2 := (three_cells HX1.out).2.1
          have kr := (B1.out.cell (p := ⟨b2, o2 + h.toNat, none⟩) e3).trans HRC0.out
          have kg := (B1.out.cell (p := ⟨b3, o3 + kk * 2, none⟩) f1).trans HG1.out
          obtain ⟨k0, k1, k2⟩ := three_cells HX1.out
          have lw1 : w.heap.size < w1.heap.size := by omega
          go_wp2_with fail
          refine (has_any _ m h x1 false _ (HM.out.below (bw_tr B1.out (bel_new _ _))) HHB.out).mono ?_
          rintro e w2 ⟨rfl, hb2⟩
          have U2 : Hid (Below w1.heap.size w1 w2) := Lib.hid (bw_tr (bel_new _ _) hb2)
          have HA2 : Hid (w2.heap[w1.heap.size]? = some (.cells #[.int .i64 x1] 3 (0, 0))) := Lib.hid (up_in hb2 (new_in w1 _))
          have HQ2 := Lib.hid (up_in U2.out HQ1.out); have HX2 := Lib.hid (up_in U2.out HX1.out); have B2 := Lib.hid (bw_tr B1.out U2.out)
          clear hb2 k0 k1 k2 kk2 kr kg HQ1 HX1
          obtain ⟨⟨k0, k1, k2⟩, f0, f1, f2⟩ := six HQ2.out
          obtain ⟨s0, s1, s2⟩ := three_cells (set3_spec (x := .slice none 0 0) (y := .slice none 0 0) (z := .slice none 0 0) HQ2.out).1
          go_wp2_with fail
          exact bodyPost_ret (v := .tuple #[.agg #[.slice none 0 0, .slice none 0 0, .slice none 0 0], .int .i64 1]) (by simp [results, Try.results13, go_sem, s0, s1, s2]) rfl ⟨_, rfl, isMem_no _, bel_set3 B2.out (by omega)⟩
        · rw [if_pos rfl]
          have HHB := Lib.hid hhb
          cases han : anyAt ((pendOf m h).take kk) x1
          · rw [if_neg (by decide)]
            have HAN := Lib.hid han; clear han
            go_enter Try.func13, Try.ntmps13
            go_wp2_with fail
            refine (hasHart_any _ m h true _ (HM.out.below (by repeat (first | (with_reducible exact Below.refl _ _) | (with_reducible refine bw_set ?_ ?_ _) | (with_reducible apply bw_alloc) | (with_reducible refine bw_tr ?_ (by with_reducible assumption)) | (with_reducible apply bw_drew) | omega))) HH.out).mono ?_
            rintro e w1 ⟨rfl, hb1⟩
            have hq1 : w1.heap[w.heap.size + 1]? = some (.cells #[.slice none 0 0, .slice none 0 0, .slice none 0 0] 27 (0, 0)) := up_in hb1 (by have := new_in (w.alloc (.cells #[.slice a1 n1 c1, .slice (some ⟨b2, o2, none⟩) n2 c2, .slice a3 n3 c3] 27)) zM; simpa using this)
            have hx1 : w1.heap[w.heap.size]? = some (.cells #[.slice a1 n1 c1, .slice (some ⟨b2, o2, none⟩) n2 c2, .slice a3 n3 c3] 27 (0, 0)) := up_in hb1 (up_in (bel_new _ _) (new_in w _))
            have B1 : Hid (Below w.heap.size w w1) := Lib.hid ((by repeat (first | (with_reducible exact Below.refl _ _) | (with_reducible refine bw_set ?_ ?_ _) | (with_reducible apply bw_alloc) | (with_reducible refine bw_tr ?_ (by with_reducible assumption)) | (with_reducible apply bw_drew) | omega)))
            have HQ1 := Lib.hid hq1; have HX1 := Lib.hid hx1
            have sz1 : w.heap.size + 1 + 1 ≤ w1.heap.size := by have := hb1.size; simpa using this
            clear hq1 hx1 hb1
            have kk2 := (three_cells HX1.out).2.1
            have kr := (B1.out.cell (p := ⟨b2, o2 + h.toNat, none⟩) e3).trans HRC0.out
            have kg := (B1.out.cell (p := ⟨b3, o3 + kk * 2, none⟩) f1).trans HG1.out
            obtain ⟨k0, k1, k2⟩ := three_cells HX1.out
            have lw1 : w.heap.size < w1.heap.size := by omega
            go_wp2_with fail
            refine (has_any _ m h x1 true _ (HM.out.below (bw_tr B1.out (bel_new _ _))) HHB.out).mono ?_
            rintro e w2 ⟨rfl, hb2⟩
            have U2 : Hid (Below w1.heap.size w1 w2) := Lib.hid (bw_tr (bel_new _ _) hb2)
            have HA2 : Hid (w2.heap[w1.heap.size]? = some (.cells #[.int .i64 x1] 3 (0, 0))) := Lib.hid (up_in hb2 (new_in w1 _))
            have HQ2 := Lib.hid (up_in U2.out HQ1.out); have HX2 := Lib.hid (up_in U2.out HX1.out); have B2 := Lib.hid (bw_tr B1.out U2.out)
            clear hb2 k0 k1 k2 kk2 kr kg HQ1 HX1
            have ka := cell_in (j := 0) HA2.out rfl
            obtain ⟨k0, k1, k2⟩ := three_cells HX2.out
            go_wp2_with fail
            refine (contains_ent b3 o3 kk _ w1.heap.size (pendOf m h) x1 false _ HAN.out (by rw [HLN.out]; omega) (by omega) (by omega) (by have := B2.out.size; omega) (fun j x hx => ⟨(B2.out.cell (p := ⟨b3, o3 + j * 2, none⟩) f1).trans (HF4.out j x hx).1, (B2.out.cell (p := ⟨b3, o3 + j * 2 + 1, none⟩) f1).trans (HF4.out j x hx).2⟩) (cell_in HA2.out rfl) (lt_in HA2.out) (by omega)).mono ?_
            rintro e w3 ⟨rfl, hb3⟩
            have HQ3 := Lib.hid (up_in hb3 HQ2.out); have HX3 := Lib.hid (up_in hb3 HX2.out); have B3 := Lib.hid (bw_tr B2.out hb3)
            clear hb3 k0 k1 k2 ka HQ2 HX2 HA2
            obtain ⟨k0, k1, k2⟩ := three_cells HX3.out
            go_wp2_with fail
            refine (of_any _ m _ (HM.out.below B3.out) HS.out).mono ?_
            rintro e w4 ⟨p, wv, pv, rv, rs, rfl, ho4, hb4⟩
            have HO4 := Lib.hid ho4; have HQ4 := Lib.hid (up_in hb4 HQ3.out); have B4 : Hid (Below w.heap.size w w4) := Lib.hid (bw_tr B3.out hb4); have sz4 := hb4.size
            have sz3 := B3.out.size; have lq3 := lt_in HQ3.out
            clear ho4 hb4 k0 k1 k2 hhb
            obtain ⟨mm, hmm⟩ : ∃ mm, ln = kk + 1 + mm := ⟨ln - (kk + 1), by omega⟩
            have HMM := Lib.hid hmm; clear hmm
            go_wp2_with fail
            refine (drain_any w3.heap.size p kk mm m wv pv rv rs h (x1, x2) _ HO4.out HS.out sz4 HHB.out (by rw [HLN.out]; exact HMM.out) HX0.out).mono ?_
            rintro e w5 ⟨rfl, ⟨rs5, ho5⟩, hb5⟩
            obtain ⟨x1', y1', rfl⟩ := own_shape ho5.words
            obtain ⟨x2', y2', rfl⟩ := own_shape ho5.pend
            obtain ⟨x3', y3', rfl⟩ := own_shape ho5.res
            generalize (drainX m h kk).words.length = d1 at *
            generalize (drainX m h kk).pend.length = d2 at *
            generalize (drainX m h kk).res.length = d3 at *
            have HO5 := Lib.hid ho5; have HQ5 : Hid (w5.heap[w.heap.size + 1]? = some (.cells #[.slice none 0 0, .slice none 0 0, .slice none 0 0] 27 (0, 0))) := Lib.hid (bel_in hb5 lq3 HQ4.out); have B5 : Hid (Below w.heap.size w w5) := Lib.hid (B4.out.trans (hb5.mono sz3))
            clear ho5 hb5
            obtain ⟨t0, t1, t2⟩ := three_cells HO5.out.at_
            obtain ⟨⟨k0, k1, k2⟩, g0, g1, g2⟩ := six HQ5.out
            obtain ⟨s0, s1, s2⟩ := three_cells (set3_spec (x := .slice x1' d1 y1') (y := .slice x2' d2 y2') (z := .slice x3' d3 y3') HQ5.out).1
            have HM6 := Lib.hid (isMem_set3 (.slice x1' d1 y1') (.slice x2' d2 y2') (.slice x3' d3 y3') HO5.out.isMem HQ5.out)
            have B6 := Lib.hid (bel_set3 (x := .slice x1' d1 y1') (y := .slice x2' d2 y2') (z := .slice x3' d3 y3') B5.out (show w.heap.size ≤ w.heap.size + 1 by omega))
            go_wp2_with fail
            exact bodyPost_ret (v := .tuple #[.agg #[.slice x1' d1 y1', .slice x2' d2 y2', .slice x3' d3 y3'], .int .i64 0]) (by simp [results, Try.results13, go_sem, s0, s1, s2]) rfl ⟨_, rfl, HM6.out, B6.out⟩
          · rw [if_pos rfl]
            clear hhb
            have HAN := Lib.hid han; clear han
            go_enter Try.func13, Try.ntmps13
            go_wp2_with fail
            refine (hasHart_any _ m h true _ (HM.out.below (by repeat (first | (with_reducible exact Below.refl _ _) | (with_reducible refine bw_set ?_ ?_ _) | (with_reducible apply bw_alloc) | (with_reducible refine bw_tr ?_ (by with_reducible assumption)) | (with_reducible apply bw_drew) | omega))) HH.out).mono ?_
            rintro e w1 ⟨rfl, hb1⟩
            have hq1 : w1.heap[w.heap.size + 1]? = some (.cells #[.slice none 0 0, .slice none 0 0, .slice none 0 0] 27 (0, 0)) := up_in hb1 (by have := new_in (w.alloc (.cells #[.slice a1 n1 c1, .slice (some ⟨b2, o2, none⟩) n2 c2, .slice a3 n3 c3] 27)) zM; simpa using this)
            have hx1 : w1.heap[w.heap.size]? = some (.cells #[.slice a1 n1 c1, .slice (some ⟨b2, o2, none⟩) n2 c2, .slice a3 n3 c3] 27 (0, 0)) := up_in hb1 (up_in (bel_new _ _) (new_in w _))
            have B1 : Hid (Below w.heap.size w w1) := Lib.hid ((by repeat (first | (with_reducible exact Below.refl _ _) | (with_reducible refine bw_set ?_ ?_ _) | (with_reducible apply bw_alloc) | (with_reducible refine bw_tr ?_ (by with_reducible assumption)) | (with_reducible apply bw_drew) | omega)))
            have HQ1 := Lib.hid hq1; have HX1 := Lib.hid hx1
            have sz1 : w.heap.size + 1 + 1 ≤ w1.heap.size := by have := hb1.size; simpa using this
            clear hq1 hx1 hb1
            have kk2 := (three_cells HX1.out).2.1
            have kr := (B1.out.cell (p := ⟨b2, o2 + h.toNat, none⟩) e3).trans HRC0.out
            have kg := (B1.out.cell (p := ⟨b3, o3 + kk * 2, none⟩) f1).trans HG1.out
            obtain ⟨k0, k1, k2⟩ := three_cells HX1.out
            have lw1 : w.heap.size < w1.heap.size := by omega
            go_wp2_with fail
            refine (has_any _ m h x1 true _ (HM.out.below (bw_tr B1.out (bel_new _ _))) HHB.out).mono ?_
            rintro e w2 ⟨rfl, hb2⟩
            have U2 : Hid (Below w1.heap.size w1 w2) := Lib.hid (bw_tr (bel_new _ _) hb2)
            have HA2 : Hid (w2.heap[w1.heap.size]? = some (.cells #[.int .i64 x1] 3 (0, 0))) := Lib.hid (up_in hb2 (new_in w1 _))
            have HQ2 := Lib.hid (up_in U2.out HQ1.out); have HX2 := Lib.hid (up_in U2.out HX1.out); have B2 := Lib.hid (bw_tr B1.out U2.out)
            clear hb2 k0 k1 k2 kk2 kr kg HQ1 HX1
            have ka := cell_in (j := 0) HA2.out rfl
            obtain ⟨k0, k1, k2⟩ := three_cells HX2.out
            go_wp2_with fail
            refine (contains_ent b3 o3 kk _ w1.heap.size (pendOf m h) x1 true _ HAN.out (by rw [HLN.out]; omega) (by omega) (by omega) (by have := B2.out.size; omega) (fun j x hx => ⟨(B2.out.cell (p := ⟨b3, o3 + j * 2, none⟩) f1).trans (HF4.out j x hx).1, (B2.out.cell (p := ⟨b3, o3 + j * 2 + 1, none⟩) f1).trans (HF4.out j x hx).2⟩) (cell_in HA2.out rfl) (lt_in HA2.out) (by omega)).mono ?_
            rintro e w3 ⟨rfl, hb3⟩
            have HQ3 := Lib.hid (up_in hb3 HQ2.out); have HX3 := Lib.hid (up_in hb3 HX2.out); have B3 := Lib.hid (bw_tr B2.out hb3)
            clear hb3 k0 k1 k2 ka HQ2 HX2 HA2
            obtain ⟨⟨k0, k1, k2⟩, f0, f1, f2⟩ := six HQ3.out
            obtain ⟨s0, s1, s2⟩ := three_cells (set3_spec (x := .slice none 0 0) (y := .slice none 0 0) (z := .slice none 0 0) HQ3.out).1
            go_wp2_with fail
            exact bodyPost_ret (v := .tuple #[.agg #[.slice none 0 0, .slice none 0 0, .slice none 0 0], .int .i64 91]) (by simp [results, Try.results13, go_sem, s0, s1, s2]) rfl ⟨_, rfl, isMem_no _, bel_set3 B3.out (by omega)⟩
end Go.Proofs.Ytkhobelceghgfaa
