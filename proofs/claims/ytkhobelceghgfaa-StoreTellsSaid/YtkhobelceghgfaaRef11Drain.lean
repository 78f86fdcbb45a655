/-
  The contract of headstockref11.Drain.
-/
import Derived.Test.YtkhobelceghgfaaRef11Ops
namespace Go.Proofs.Ytkhobelceghgfaa
open Go.RowKit
theorem erase_all {α : Type} (l : List α) (k : Nat) : (l.take l.length).eraseIdx k = l.eraseIdx k := by rw [List.take_length]
theorem erase_at {α : Type} (l : List α) (k : Nat) (hk : k < l.length) : (l.take (k + 1)).eraseIdx k = (l.take k).eraseIdx k := by
  rw [List.eraseIdx_of_length_le (l := l.take k) (by simp; omega), List.take_succ_eq_append_getElem hk, List.eraseIdx_append_of_length_le (by simp; omega)]
  simp [show min k l.length = k by omega]
theorem erase_ne {α : Type} (l : List α) (k j : Nat) {x : α} (hx : l[j]? = some x) (hne : j ≠ k) : (l.take (j + 1)).eraseIdx k = (l.take j).eraseIdx k ++ [x] := by
  obtain ⟨hj, rfl⟩ := List.getElem?_eq_some_iff.1 hx
  rw [List.take_succ_eq_append_getElem hj]
  by_cases h : k < j
  · rw [List.eraseIdx_append_of_lt_length (by simp; omega)]
  · rw [List.eraseIdx_append_of_length_le (by simp; omega)]
    rw [List.eraseIdx_of_length_le (l := l.take j) (by simp; omega)]
    congr 1
    rw [show (l.take j).length = j by simp; omega]
    rw [List.eraseIdx_of_length_le (by simp; omega)]
theorem grown_of {w w' : World} (hb : Below w.heap.size w w') (row : Option Nat) : w.grownBy w' row := ⟨hb.os, hb.tape, hb.output, hb.size, fun b h _ => hb.block b h⟩
theorem entry_new (w : World) (x1 x2 : Int) : ∀ j u, (entC [(x1, x2)])[j]? = some u → (w.alloc (.cells #[.int .i64 x1, .int .i64 x2] 44)).cell? ((⟨w.heap.size, 0, none⟩ : Addr).add j) = some u := fun j u hj => by
  rw [addr_add]
  have hj' := (List.getElem?_eq_some_iff.1 hj).1
  simp only [entC, List.length_cons, List.length_nil] at hj'
  rcases (by omega : j = 0 ∨ j = 1) with rfl | rfl
  · simp [entC] at hj; subst hj; exact cell_in (new_in w _) rfl
  · simp [entC] at hj; subst hj; exact cell_in (new_in w _) rfl
theorem drain_no1 {m : Mem} {h k : Int} (hh : hartB m h = false) : drainR m h k = (noMem, 1) := by unfold drainR; rw [hh]; rfl
theorem drain_no2 {m : Mem} {h k : Int} (hk : ¬ (0 ≤ k ∧ k < (pendOf m h).length)) : drainR m h k = (noMem, 1) := by
  unfold drainR
  rw [if_neg]
  simp only [Bool.and_eq_true, decide_eq_true_eq]
  exact fun e => hk e.2
theorem drain_is {m : Mem} {h : Int} {k : Nat} {x : Int × Int} (hh : hartB m h = true) (hx : (pendOf m h)[k]? = some x) :
    drainR m h k = if 0 ≤ x.1 ∧ x.1 < m.words.length then (if anyAt ((pendOf m h).take k) x.1 then (noMem, 91) else (setPend (goesM m h x.1 x.2) h ((pendOf m h).eraseIdx k), 0)) else (noMem, 1) := by
  obtain ⟨hk, rfl⟩ := List.getElem?_eq_some_iff.1 hx
  have e' : (pendOf m h).getD k (0, 0) = (pendOf m h)[k] := by simp [List.getD, List.getElem?_eq_getElem hk]
  unfold drainR
  rw [hh, Bool.true_and, if_pos (by simp; omega)]
  simp only [Int.toNat_natCast]
  rw [e']
  have e2 : hasB m h (pendOf m h)[k].1 = decide (0 ≤ (pendOf m h)[k].1 ∧ (pendOf m h)[k].1 < m.words.length) := by
    unfold hasB; rw [hh, Bool.true_and, Bool.decide_and]
  rw [e2]
  have e3 : aheadB (pendOf m h) k = anyAt ((pendOf m h).take k) (pendOf m h)[k].1 := by unfold aheadB anyAt; rw [e']
  rw [e3]
  have e4 : drainX m h k = setPend (goesM m h (pendOf m h)[k].1 (pendOf m h)[k].2) h ((pendOf m h).eraseIdx k) := by unfold drainX; rw [e']
  rw [e4]
  by_cases c : 0 ≤ (pendOf m h)[k].1 ∧ (pendOf m h)[k].1 < m.words.length
  · rw [if_pos c, decide_eq_true c, if_pos rfl]
  · rw [if_neg c, decide_eq_false c]; rfl
set_option maxHeartbeats 8000000 in
set_option maxRecDepth 100000 in
theorem rdrain_any (v : Value) (m : Mem) (h k : Int) (w : World) (hm : IsMem w v m) (hs : Small m) :
    Calls Try.prog 28 #[v, .int .i64 h, .int .i64 k] w (MemRet w w.heap.size (drainR m h k)) := by
  have HM := Lib.hid hm; have HS := Lib.hid hs
  obtain ⟨a1, c1, a2, c2, a3, c3, rows, rfl, _, _, _, _⟩ := hm.parts
  clear hs
  unfold MemRet
  cases hh : hartB m h
  case false =>
    rw [drain_no1 hh]
    have HH := Lib.hid hh; clear hh hm
    generalize hn1 : m.words.length = n1 at *
    generalize hn2 : m.pend.length = n2 at *
    generalize hn3 : m.res.length = n3 at *
    have HN1 := Lib.hid hn1; have HN2 := Lib.hid hn2; have HN3 := Lib.hid hn3
    clear hn1 hn2 hn3
    go_enter Try.func28, Try.ntmps28
    go_wp2_with fail
    have hb0 := bw_tr (bel_new w (.cells #[.slice a1 n1 c1, .slice a2 n2 c2, .slice a3 n3 c3] 27)) (bel_new (w.alloc (.cells #[.slice a1 n1 c1, .slice a2 n2 c2, .slice a3 n3 c3] 27)) (.cells #[.slice none 0 0, .slice none 0 0, .slice none 0 0] 27))
    have hq0 := up_in (bel_new (w.alloc (.cells #[.slice a1 n1 c1, .slice a2 n2 c2, .slice a3 n3 c3] 27)) (.cells #[.slice none 0 0, .slice none 0 0, .slice none 0 0] 27)) (new_in w (.cells #[.slice a1 n1 c1, .slice a2 n2 c2, .slice a3 n3 c3] 27))
    have hr0 := new_in (w.alloc (.cells #[.slice a1 n1 c1, .slice a2 n2 c2, .slice a3 n3 c3] 27)) (.cells #[.slice none 0 0, .slice none 0 0, .slice none 0 0] 27)
    rw [World.size_alloc] at hr0
    refine (rhart_any _ m h false _ (HM.out.below hb0) HH.out).mono ?_
    rintro e w1 ⟨rfl, hb1⟩
    have HQ1 : Hid (w1.heap[w.heap.size + 1]? = some zM3) := Lib.hid (up_in hb1 hr0); have HX1 := Lib.hid (up_in hb1 hq0); have B1 := Lib.hid (bw_tr hb0 hb1)
    clear hb0 hq0 hr0 hb1
    obtain ⟨⟨k0, k1, k2⟩, f0, f1, f2⟩ := six HQ1.out
    have tq := lt_in HQ1.out
    obtain ⟨s0, s1, s2⟩ := three_cells (set3_spec (x := .slice none 0 0) (y := .slice none 0 0) (z := .slice none 0 0) HQ1.out).1
    go_wp2_with fail
    exact bodyPost_ret (v := .tuple #[.agg #[.slice none 0 0, .slice none 0 0, .slice none 0 0], .int .i64 1]) (by simp [results, Try.results28, go_sem, s0, s1, s2]) rfl ⟨_, rfl, isMem_no _, bel_set3 B1.out (by omega)⟩
  case true =>
    obtain ⟨h0, h1, h2⟩ := hartB_spec hh
    obtain ⟨b2, o2, ar, cr0, e00, e0, e1, e2, e3, hrc0, hrd0⟩ := hm.row h1 h0
    subst e00
    have hl8 : (pendOf m h).length ≤ 1000 := HS.out.each _ (List.mem_of_getElem? (pendOf_at h1 h0))
    have HH := Lib.hid hh; have HRC := Lib.hid (show CellAt w b2 (o2 + h.toNat) _ from ⟨e3, hrc0⟩); have HRD := Lib.hid hrd0
    clear e0 hrc0 e3 hh hm hrd0
    by_cases hk : 0 ≤ k ∧ k < (pendOf m h).length
    rotate_left
    · rw [drain_no2 hk]
      generalize hL : pendOf m h = L at *
      clear hL
      generalize hln : L.length = ln at *
      clear hln HRD
      generalize hn1 : m.words.length = n1 at *
      generalize hn2 : m.pend.length = n2 at *
      generalize hn3 : m.res.length = n3 at *
      have HN1 := Lib.hid hn1; have HN2 := Lib.hid hn2; have HN3 := Lib.hid hn3
      clear hn1 hn2 hn3
      by_cases hk0 : 0 ≤ k
      · go_enter Try.func28, Try.ntmps28
        go_wp2_with fail
        have hb0 := bw_tr (bel_new w (.cells #[.slice a1 n1 c1, .slice (some ⟨b2, o2, none⟩) n2 c2, .slice a3 n3 c3] 27)) (bel_new (w.alloc (.cells #[.slice a1 n1 c1, .slice (some ⟨b2, o2, none⟩) n2 c2, .slice a3 n3 c3] 27)) (.cells #[.slice none 0 0, .slice none 0 0, .slice none 0 0] 27))
        have hq0 := up_in (bel_new (w.alloc (.cells #[.slice a1 n1 c1, .slice (some ⟨b2, o2, none⟩) n2 c2, .slice a3 n3 c3] 27)) (.cells #[.slice none 0 0, .slice none 0 0, .slice none 0 0] 27)) (new_in w (.cells #[.slice a1 n1 c1, .slice (some ⟨b2, o2, none⟩) n2 c2, .slice a3 n3 c3] 27))
        have hr0 := new_in (w.alloc (.cells #[.slice a1 n1 c1, .slice (some ⟨b2, o2, none⟩) n2 c2, .slice a3 n3 c3] 27)) (.cells #[.slice none 0 0, .slice none 0 0, .slice none 0 0] 27)
        rw [World.size_alloc] at hr0
        refine (rhart_any _ m h true _ (HM.out.below hb0) HH.out).mono ?_
        rintro e w1 ⟨rfl, hb1⟩
        have HQ1 : Hid (w1.heap[w.heap.size + 1]? = some zM3) := Lib.hid (up_in hb1 hr0); have HX1 := Lib.hid (up_in hb1 hq0); have B1 := Lib.hid (bw_tr hb0 hb1)
        clear hb0 hq0 hr0 hb1
        obtain ⟨⟨k0, k1, k2⟩, _⟩ := six HX1.out
        have tx := lt_in HX1.out
        obtain ⟨tr, vr⟩ := HRC.out.up B1.out
        have hk1 : ¬ k < (ln : Int) := fun e => hk ⟨hk0, e⟩
        clear hk
        go_upto_if 32 with fail
        clear k0 k1 k2
        obtain ⟨⟨k0, k1, k2⟩, f0, f1, f2⟩ := six HQ1.out
        have tq := lt_in HQ1.out
        obtain ⟨s0, s1, s2⟩ := three_cells (set3_spec (x := .slice none 0 0) (y := .slice none 0 0) (z := .slice none 0 0) HQ1.out).1
        go_wp2_with fail
        exact bodyPost_ret (v := .tuple #[.agg #[.slice none 0 0, .slice none 0 0, .slice none 0 0], .int .i64 1]) (by simp [results, Try.results28, go_sem, s0, s1, s2]) rfl ⟨_, rfl, isMem_no _, bel_set3 B1.out (by omega)⟩
      · go_enter Try.func28, Try.ntmps28
        go_wp2_with fail
        have hb0 := bw_tr (bel_new w (.cells #[.slice a1 n1 c1, .slice (some ⟨b2, o2, none⟩) n2 c2, .slice a3 n3 c3] 27)) (bel_new (w.alloc (.cells #[.slice a1 n1 c1, .slice (some ⟨b2, o2, none⟩) n2 c2, .slice a3 n3 c3] 27)) (.cells #[.slice none 0 0, .slice none 0 0, .slice none 0 0] 27))
        have hq0 := up_in (bel_new (w.alloc (.cells #[.slice a1 n1 c1, .slice (some ⟨b2, o2, none⟩) n2 c2, .slice a3 n3 c3] 27)) (.cells #[.slice none 0 0, .slice none 0 0, .slice none 0 0] 27)) (new_in w (.cells #[.slice a1 n1 c1, .slice (some ⟨b2, o2, none⟩) n2 c2, .slice a3 n3 c3] 27))
        have hr0 := new_in (w.alloc (.cells #[.slice a1 n1 c1, .slice (some ⟨b2, o2, none⟩) n2 c2, .slice a3 n3 c3] 27)) (.cells #[.slice none 0 0, .slice none 0 0, .slice none 0 0] 27)
        rw [World.size_alloc] at hr0
        refine (rhart_any _ m h true _ (HM.out.below hb0) HH.out).mono ?_
        rintro e w1 ⟨rfl, hb1⟩
        have HQ1 : Hid (w1.heap[w.heap.size + 1]? = some zM3) := Lib.hid (up_in hb1 hr0); have HX1 := Lib.hid (up_in hb1 hq0); have B1 := Lib.hid (bw_tr hb0 hb1)
        clear hb0 hq0 hr0 hb1
        clear hk
        obtain ⟨⟨k0, k1, k2⟩, f0, f1, f2⟩ := six HQ1.out
        have tq := lt_in HQ1.out
        obtain ⟨s0, s1, s2⟩ := three_cells (set3_spec (x := .slice none 0 0) (y := .slice none 0 0) (z := .slice none 0 0) HQ1.out).1
        go_wp2_with fail
        exact bodyPost_ret (v := .tuple #[.agg #[.slice none 0 0, .slice none 0 0, .slice none 0 0], .int .i64 1]) (by simp [results, Try.results28, go_sem, s0, s1, s2]) rfl ⟨_, rfl, isMem_no _, bel_set3 B1.out (by omega)⟩
    obtain ⟨kk, rfl⟩ : ∃ kk : Nat, k = kk := ⟨k.toNat, by omega⟩
    have hkl : kk < (pendOf m h).length := by omega
    obtain ⟨⟨x1, x2⟩, hx⟩ : ∃ x, (pendOf m h)[kk]? = some x := ⟨_, List.getElem?_eq_getElem hkl⟩
    have DI := Lib.hid (drain_is HH.out hx)
    rw [DI.out]
    clear DI
    simp only
    obtain ⟨xb, xo, e9, hxc, hxm, hx1, hx2⟩ := entry_cells HRD.out hx (by omega)
    subst e9
    simp only at hx1 hx2
    have HC1 := Lib.hid hx1; have HC2 := Lib.hid hx2
    clear hk hx1 hx2
    have HPL := Lib.hid (pendOf_at h1 h0)
    obtain ⟨L, hL⟩ : ∃ L, pendOf m h = L := ⟨_, rfl⟩
    rw [hL] at HRC HRD hl8 hkl hx hxc HPL ⊢
    have HLL := Lib.hid hL
    clear hL
    obtain ⟨ln, hln⟩ : ∃ ln, L.length = ln := ⟨_, rfl⟩
    rw [hln] at HRC HRD hl8 hkl hxc
    have HLN := Lib.hid hln; have HX := Lib.hid hx
    clear hln hx
    have hkI : (kk : Int) < (ln : Int) := by omega
    have hkI2 : ((ln : Int) ≤ (kk : Int)) = False := by simp; omega
    generalize hn1 : m.words.length = n1 at *
    generalize hn2 : m.pend.length = n2 at *
    generalize hn3 : m.res.length = n3 at *
    have HN1 := Lib.hid hn1; have HN2 := Lib.hid hn2; have HN3 := Lib.hid hn3
    clear hn1 hn2 hn3
    by_cases hc : 0 ≤ x1 ∧ x1 < (n1 : Int)
    rotate_left
    · rw [if_neg hc]
      go_enter Try.func28, Try.ntmps28
      go_wp2_with fail
      have hb0 := bw_tr (bel_new w (.cells #[.slice a1 n1 c1, .slice (some ⟨b2, o2, none⟩) n2 c2, .slice a3 n3 c3] 27)) (bel_new (w.alloc (.cells #[.slice a1 n1 c1, .slice (some ⟨b2, o2, none⟩) n2 c2, .slice a3 n3 c3] 27)) (.cells #[.slice none 0 0, .slice none 0 0, .slice none 0 0] 27))
      have hq0 := up_in (bel_new (w.alloc (.cells #[.slice a1 n1 c1, .slice (some ⟨b2, o2, none⟩) n2 c2, .slice a3 n3 c3] 27)) (.cells #[.slice none 0 0, .slice none 0 0, .slice none 0 0] 27)) (new_in w (.cells #[.slice a1 n1 c1, .slice (some ⟨b2, o2, none⟩) n2 c2, .slice a3 n3 c3] 27))
      have hr0 := new_in (w.alloc (.cells #[.slice a1 n1 c1, .slice (some ⟨b2, o2, none⟩) n2 c2, .slice a3 n3 c3] 27)) (.cells #[.slice none 0 0, .slice none 0 0, .slice none 0 0] 27)
      rw [World.size_alloc] at hr0
      refine (rhart_any _ m h true _ (HM.out.below hb0) HH.out).mono ?_
      rintro e w1 ⟨rfl, hb1⟩
      have HQ1 : Hid (w1.heap[w.heap.size + 1]? = some zM3) := Lib.hid (up_in hb1 hr0); have HX1 := Lib.hid (up_in hb1 hq0); have B1 := Lib.hid (bw_tr hb0 hb1)
      clear hb0 hq0 hr0 hb1
      obtain ⟨⟨k0, k1, k2⟩, _⟩ := six HX1.out
      have tx := lt_in HX1.out
      obtain ⟨tr, vr⟩ := HRC.out.up B1.out
      obtain ⟨tc1, vc1⟩ := HC1.out.up B1.out
      obtain ⟨tc2, vc2⟩ := HC2.out.up B1.out
      go_upto_region 5 with fail
      clear k0 k1 k2 tx tr vr tc1 vc1 tc2 vc2
      have hqx := new_in w1 (.cells #[.int .i64 x1, .int .i64 x2] 44)
      have hu := bel_new w1 (.cells #[.int .i64 x1, .int .i64 x2] 44)
      obtain ⟨W, hW⟩ : ∃ W, w1.alloc (.cells #[.int .i64 x1, .int .i64 x2] 44) = W := ⟨_, rfl⟩
      rw [hW] at hqx hu ⊢
      obtain ⟨q, hq⟩ : ∃ q, w1.heap.size = q := ⟨_, rfl⟩
      have lq : w.heap.size + 1 < q := by have := lt_in HQ1.out; omega
      have HQ2 : Hid (W.heap[w.heap.size + 1]? = some zM3) := Lib.hid (up_in hu HQ1.out); have HX2 := Lib.hid (up_in hu HX1.out); have B2 := Lib.hid (bw_tr B1.out hu)
      rw [hq] at hqx ⊢
      have HE := Lib.hid hqx
      clear hW hu hq hqx HQ1 HX1 B1
      have y1 : W.cell? ⟨q, 0, none⟩ = some (.int .i64 x1) := cell_in (j := 0) HE.out rfl
      have y2 : W.cell? ⟨q, 1, none⟩ = some (.int .i64 x2) := cell_in (j := 1) HE.out rfl
      have ty := lt_in HE.out
      obtain ⟨⟨k0, k1, k2⟩, _⟩ := six HX2.out
      have tx := lt_in HX2.out
      by_cases hc0 : 0 ≤ x1
      · have hc1 : ¬ x1 < (n1 : Int) := fun e => hc ⟨hc0, e⟩
        clear hc
        go_upto_if 52 with fail
        clear k0 k1 k2
        obtain ⟨⟨k0, k1, k2⟩, f0, f1, f2⟩ := six HQ2.out
        have tq := lt_in HQ2.out
        obtain ⟨s0, s1, s2⟩ := three_cells (set3_spec (x := .slice none 0 0) (y := .slice none 0 0) (z := .slice none 0 0) HQ2.out).1
        go_wp2_with fail
        exact bodyPost_ret (v := .tuple #[.agg #[.slice none 0 0, .slice none 0 0, .slice none 0 0], .int .i64 1]) (by simp [results, Try.results28, go_sem, s0, s1, s2]) rfl ⟨_, rfl, isMem_no _, bel_set3 B2.out (by omega)⟩
      · clear hc k0 k1 k2
        obtain ⟨⟨k0, k1, k2⟩, f0, f1, f2⟩ := six HQ2.out
        have tq := lt_in HQ2.out
        obtain ⟨s0, s1, s2⟩ := three_cells (set3_spec (x := .slice none 0 0) (y := .slice none 0 0) (z := .slice none 0 0) HQ2.out).1
        go_wp2_with fail
        exact bodyPost_ret (v := .tuple #[.agg #[.slice none 0 0, .slice none 0 0, .slice none 0 0], .int .i64 1]) (by simp [results, Try.results28, go_sem, s0, s1, s2]) rfl ⟨_, rfl, isMem_no _, bel_set3 B2.out (by omega)⟩
    rw [if_pos hc]
    cases hA0 : anyAt (L.take kk) x1
    · as_aux_lemma =>
      rw [if_neg (by decide)]
      have HA0 := Lib.hid hA0; clear hA0
      go_enter Try.func28, Try.ntmps28
      go_wp2_with fail
      have hb0 := bw_tr (bel_new w (.cells #[.slice a1 n1 c1, .slice (some ⟨b2, o2, none⟩) n2 c2, .slice a3 n3 c3] 27)) (bel_new (w.alloc (.cells #[.slice a1 n1 c1, .slice (some ⟨b2, o2, none⟩) n2 c2, .slice a3 n3 c3] 27)) (.cells #[.slice none 0 0, .slice none 0 0, .slice none 0 0] 27))
      have hq0 := up_in (bel_new (w.alloc (.cells #[.slice a1 n1 c1, .slice (some ⟨b2, o2, none⟩) n2 c2, .slice a3 n3 c3] 27)) (.cells #[.slice none 0 0, .slice none 0 0, .slice none 0 0] 27)) (new_in w (.cells #[.slice a1 n1 c1, .slice (some ⟨b2, o2, none⟩) n2 c2, .slice a3 n3 c3] 27))
      have hr0 := new_in (w.alloc (.cells #[.slice a1 n1 c1, .slice (some ⟨b2, o2, none⟩) n2 c2, .slice a3 n3 c3] 27)) (.cells #[.slice none 0 0, .slice none 0 0, .slice none 0 0] 27)
      rw [World.size_alloc] at hr0
      refine (rhart_any _ m h true _ (HM.out.below hb0) HH.out).mono ?_
      rintro e w1 ⟨rfl, hb1⟩
      have HQ1 : Hid (w1.heap[w.heap.size + 1]? = some zM3) := Lib.hid (up_in hb1 hr0); have HX1 := Lib.hid (up_in hb1 hq0); have B1 := Lib.hid (bw_tr hb0 hb1)
      clear hb0 hq0 hr0 hb1
      obtain ⟨⟨k0, k1, k2⟩, _⟩ := six HX1.out
      have tx := lt_in HX1.out
      obtain ⟨tr, vr⟩ := HRC.out.up B1.out
      obtain ⟨tc1, vc1⟩ := HC1.out.up B1.out
      obtain ⟨tc2, vc2⟩ := HC2.out.up B1.out
      go_upto_region 5 with fail
      clear k0 k1 k2 tx tr vr tc1 vc1 tc2 vc2
      have hqx := new_in w1 (.cells #[.int .i64 x1, .int .i64 x2] 44)
      have hu := bel_new w1 (.cells #[.int .i64 x1, .int .i64 x2] 44)
      obtain ⟨W, hW⟩ : ∃ W, w1.alloc (.cells #[.int .i64 x1, .int .i64 x2] 44) = W := ⟨_, rfl⟩
      rw [hW] at hqx hu ⊢
      obtain ⟨q, hq⟩ : ∃ q, w1.heap.size = q := ⟨_, rfl⟩
      have lq : w.heap.size + 1 < q := by have := lt_in HQ1.out; omega
      have HQ2 : Hid (W.heap[w.heap.size + 1]? = some zM3) := Lib.hid (up_in hu HQ1.out); have HX2 := Lib.hid (up_in hu HX1.out); have B2 := Lib.hid (bw_tr B1.out hu)
      rw [hq] at hqx ⊢
      have HE := Lib.hid hqx
      clear hW hu hq hqx HQ1 HX1 B1
      have y1 : W.cell? ⟨q, 0, none⟩ = some (.int .i64 x1) := cell_in (j := 0) HE.out rfl
      have y2 : W.cell? ⟨q, 1, none⟩ = some (.int .i64 x2) := cell_in (j := 1) HE.out rfl
      have ty := lt_in HE.out
      obtain ⟨⟨k0, k1, k2⟩, _⟩ := six HX2.out
      have tx := lt_in HX2.out
      have hc1 := hc.1; have hc2 := hc.2
      have hcd : decide (x1 < 0) = false := by simp; omega
      go_upto_region 7 with fail
      clear k0 k1 k2 y1 y2 ty tx hcd
      have HR2 := Lib.hid (HRC.out.up B2.out)
      have HD2 := Lib.hid (HRD.out.below B2.out)
      go_wp2_with fail
      go_loopw [10] (fun i wr => ∃ j : Nat, j ≤ kk ∧ i = .int .i64 j ∧ anyAt (L.take j) x1 = false ∧ Below W.heap.size W wr) (fun i _ => kk - (intOf i).toNat)
      case atStart => exact ⟨0, Nat.zero_le _, rfl, rfl, Below.refl _ _⟩
      case round =>
        obtain ⟨j, hj, rfl, hany, hbb⟩ := hrel
        have HA := Lib.hid hany; have BB := Lib.hid hbb
        clear hany hbb
        by_cases hlt : j < kk
        · as_aux_lemma =>
          have hjl : j < L.length := by rw [HLN.out]; omega
          obtain ⟨⟨z1, z2⟩, hz⟩ : ∃ x, L[j]? = some x := ⟨_, List.getElem?_eq_getElem hjl⟩
          have HS1 : Hid (anyAt (L.take (j + 1)) x1 = (anyAt (L.take j) x1 || decide (z1 = x1))) := Lib.hid (by obtain ⟨_, e⟩ := List.getElem?_eq_some_iff.1 hz; rw [List.take_succ_eq_append_getElem hjl, anyAt_snoc, e])
          have HT1 : z1 = x1 → anyAt (L.take kk) x1 = true := fun e => anyAt_take hlt hz e
          obtain ⟨xb', xo', e9, _, _, hz1, _⟩ := entry_cells (HD2.out.below BB.out) hz (by omega)
          injection e9 with e9
          injection e9 with e9 e8 _
          subst e9 e8
          simp only at hz1
          obtain ⟨tz, vz⟩ := hz1
          obtain ⟨tr, vr⟩ := HR2.out.up BB.out
          have hx2 := up_in BB.out HX2.out
          have he2 := up_in BB.out HE.out
          obtain ⟨⟨k0, k1, k2⟩, _⟩ := six hx2
          have tx := lt_in hx2
          have y1 : wr.cell? ⟨q, 0, none⟩ = some (.int .i64 x1) := cell_in (j := 0) he2 rfl
          have ty := lt_in he2
          have jI : (j : Int) < (ln : Int) := by omega
          have jI0 : (0 : Int) ≤ (j : Int) := by omega
          clear hx2 he2 hz
          cases hq : (z1 == x1)
          · have HS2 : Hid (anyAt (L.take (j + 1)) x1 = false) := Lib.hid (by rw [HS1.out, HA.out]; simp at hq; simp [hq])
            clear HT1
            go_wp2_with fail
            go_quiet (fail)
            go_wp2_with fail
            exact ⟨⟨j + 1, by omega, by go_num, HS2.out, below_drewN BB.out _⟩, by simp [intOf]; omega⟩
          · exact absurd ((HT1 (by simpa using hq)).symm.trans HA0.out) (by decide)
        · have hjk : kk = j := by omega
          subst hjk
          clear HA
          have HX3 := Lib.hid (up_in BB.out HX2.out); have HQ3 := Lib.hid (up_in BB.out HQ2.out); have HE3 := Lib.hid (up_in BB.out HE.out); have B3 := Lib.hid (bw_tr B2.out BB.out)
          clear BB HX2 HQ2 HE HR2 HD2
          obtain ⟨⟨k0, k1, k2⟩, _⟩ := six HX3.out
          have tx := lt_in HX3.out
          have y1 : wr.cell? ⟨q, 0, none⟩ = some (.int .i64 x1) := cell_in (j := 0) HE3.out rfl
          have y2 : wr.cell? ⟨q, 1, none⟩ = some (.int .i64 x2) := cell_in (j := 1) HE3.out rfl
          have ty := lt_in HE3.out
          have LG : Hid ((goesM m h x1 x2).words.length = n1 ∧ (goesM m h x1 x2).pend.length = n2 ∧ (goesM m h x1 x2).res.length = n3) := Lib.hid ⟨by simp [goesM, HN1.out], HN2.out, by simp [goesM, goRes_len, HN3.out]⟩
          go_wp2_with fail
          refine (rgoes_any _ m h x1 x2 _ (HM.out.below B3.out) HS.out ⟨hc1, by rw [HN1.out]; exact hc2⟩).mono ?_
          rintro e w4 ⟨q4, Y1, Z1, Y2, Z2, Y3, Z3, rs, rfl, ho4, hb4⟩
          rw [LG.out.1, LG.out.2.1, LG.out.2.2] at ho4 ⊢
          clear k0 k1 k2 tx y1 y2 ty
          go_upto_region 13 with fail
          have hO := ho4.move (new_in w4 (.cells #[.slice Y1 n1 Z1, .slice Y2 n2 Z2, .slice Y3 n3 Z3] 27)) hb4.size (bel_new w4 _)
          have hU := bw_tr hb4 (bel_new w4 (.cells #[.slice Y1 n1 Z1, .slice Y2 n2 Z2, .slice Y3 n3 Z3] 27))
          have lqr : w.heap.size + 1 < wr.heap.size := lt_in HQ3.out
          obtain ⟨V, hV⟩ : ∃ W', w4.alloc (.cells #[.slice Y1 n1 Z1, .slice Y2 n2 Z2, .slice Y3 n3 Z3] 27) = W' := ⟨_, rfl⟩
          rw [hV] at hO hU ⊢
          obtain ⟨p, hp⟩ : ∃ p, w4.heap.size = p := ⟨_, rfl⟩
          have lqp : w.heap.size + 1 < p := by have := hb4.size; omega
          rw [hp] at hO ⊢
          clear hV hp ho4 hb4
          have HO := Lib.hid (hO.low B3.out.size); have HQ4 := Lib.hid (up_in hU HQ3.out); have HX4 := Lib.hid (up_in hU HX3.out); have B4 := Lib.hid (bw_tr B3.out hU)
          clear hO hU HX3 HQ3 HE3 B3
          have HR4 := Lib.hid (HRC.out.up B4.out); have HD4 := Lib.hid (HRD.out.below B4.out)
          obtain ⟨l0, hl, hx0, hx1, hx2⟩ := info_parts info_ent
          go_wp2_with fail
          go_loopw [12, 13] (fun s i wr => ∃ (j : Nat) (lv : Value), j ≤ ln ∧ s = lv ∧ i = .int .i64 j ∧ wr.ownsRow V.heap.size 44 2 lv ((L.take j).eraseIdx kk).length (entC ((L.take j).eraseIdx kk)) ∧ Below V.heap.size V wr) (fun _ i _ => ln - (intOf i).toNat)
          case atStart => exact ⟨0, _, Nat.zero_le _, rfl, rfl, by simpa [entC] using World.ownsRow_nil _ _ _ _, Below.refl _ _⟩
          case round =>
            obtain ⟨j, lv, hj2, rfl, rfl, hlv, hbb⟩ := hrel
            have HL := Lib.hid hlv; have BB := Lib.hid hbb
            obtain ⟨xl, yl, rfl⟩ := own_shape hlv
            clear hlv hbb
            obtain ⟨⟨k0, k1, k2⟩, _⟩ := six (up_in BB.out HX4.out)
            have tx := lt_in (up_in BB.out HX4.out)
            obtain ⟨tr, vr⟩ := HR4.out.up BB.out
            by_cases hlt : j < ln
            · as_aux_lemma =>
              have hjl : j < L.length := by rw [HLN.out]; omega
              obtain ⟨⟨z1, z2⟩, hz⟩ : ∃ x, L[j]? = some x := ⟨_, List.getElem?_eq_getElem hjl⟩
              by_cases hjk : j = kk
              · have HS1 : Hid ((L.take (j + 1)).eraseIdx kk = (L.take j).eraseIdx kk) := Lib.hid (by rw [hjk]; exact erase_at L kk (by rw [HLN.out]; omega))
                have hb : ((j : Int) != (kk : Int)) = false := by simp [hjk]
                clear hjk hz
                go_wp2_with fail
                exact ⟨⟨j + 1, _, by omega, rfl, by go_num, by rw [HS1.out]; exact HL.out, BB.out⟩, by simp [intOf]; omega⟩
              · have HS1 : Hid ((L.take (j + 1)).eraseIdx kk = (L.take j).eraseIdx kk ++ [(z1, z2)]) := Lib.hid (erase_ne L kk j hz hjk)
                have hb : ((j : Int) != (kk : Int)) = true := by simp; omega
                obtain ⟨xb', xo', e9, _, _, hz1, hz2⟩ := entry_cells (HD4.out.below BB.out) hz (by omega)
                injection e9 with e9
                injection e9 with e9 e8 _
                subst e9 e8
                simp only at hz1 hz2
                obtain ⟨tz, vz⟩ := hz1
                obtain ⟨tz2, vz2⟩ := hz2
                clear hjk hz
                have hlen : ((L.take j).eraseIdx kk).length ≤ 1000 := by
                  have h1 := List.length_eraseIdx_le (L.take j) kk
                  have h2 : (L.take j).length ≤ L.length := by rw [List.length_take]; exact Nat.min_le_right _ _
                  rw [HLN.out] at h2
                  omega
                generalize (L.take j).eraseIdx kk = K at *
                have hby : (K.length + 1) * 16 ≤ 140737488355328 := by omega
                have hmx : K.length + 1 ≤ maxLen := by unfold maxLen; omega
                have hsz : V.heap.size ≤ (wr.alloc (.cells #[.int .i64 z1, .int .i64 z2] 44)).heap.size := by have := BB.out.size; simp; omega
                go_wp2_with (at_builtin; refine wpList_append_own _ rfl _ _ 42 rfl V.heap.size 44 l0 (.agg #[.int .i64 0, .int .i64 0]) 2 16 Try.underlying42 hl hx0 hx1 hx2 rfl (by decide) _ _ _ rfl (own_below HL.out (bel_new wr (.cells #[.int .i64 z1, .int .i64 z2] 44))) ⟨wr.heap.size, 0, none⟩ 1 1 (entC [(z1, z2)]) rfl rfl (entry_new wr z1 z2) (entC_one _) hmx hby hsz ?_; intro v' w7 hown7 hgrow7 _; obtain ⟨xv, yv, rfl⟩ := own_shape hown7)
                exact ⟨⟨j + 1, _, by omega, rfl, by go_num, by rw [HS1.out, List.length_append, entC_app]; exact hown7, grown_bel (bw_tr BB.out (bel_new wr (.cells #[.int .i64 z1, .int .i64 z2] 44))) hgrow7 (fun g e => ((own_below HL.out (bel_new wr (.cells #[.int .i64 z1, .int .i64 z2] 44))).lt g e).1)⟩, by simp [intOf]; omega⟩
            · have hjn : j = ln := by omega
              subst hjn
              have HL2 : Hid (wr.ownsRow V.heap.size 44 2 (.slice xl ((L.take j).eraseIdx kk).length yl) (L.eraseIdx kk).length (entC (L.eraseIdx kk))) := Lib.hid (by
                have := HL.out
                rw [show L.take j = L by rw [← HLN.out, List.take_length]] at this ⊢
                exact this)
              have HO5 := Lib.hid (HO.out.below BB.out)
              have HQ5 := Lib.hid (up_in BB.out HQ4.out); have B5 := Lib.hid (bw_tr B4.out BB.out)
              obtain ⟨gp, cp, r, e9, hcp, hcm, hr, hrc, hrf, hro⟩ := HO5.out.rowAt h0 (by show h < ((goesM m h x1 x2).pend.length : Int); rw [LG.out.2.1]; exact h1)
              injection e9 with e9 e8 e7
              subst e9 e7
              clear e8
              rw [LG.out.2.1] at hcp
              have HRW := Lib.hid hr
              have hgp := (HO5.out.pend.lt gp rfl).1
              have hgl := (HO5.out.pend.lt gp rfl).2
              have ST := Lib.hid (HO.out.stored (by decide) (by decide) hr (w1 := wr) (grown_of BB.out _) (r' := .slice xl ((L.take j).eraseIdx kk).length yl) (l' := L.eraseIdx kk) (own_base HL2.out (by have := B4.out.size; omega)) (g := gp) rfl)
              obtain ⟨⟨m0, m1, m2⟩, _⟩ := six HO5.out.at_
              have tm := lt_in HO5.out.at_
              have HQ6 : Hid ((wr.setCell ⟨gp, h.toNat, none⟩ (.slice xl ((L.take j).eraseIdx kk).length yl)).heap[w.heap.size + 1]? = some zM3) := Lib.hid (cell_other HO5.out.pend rfl HQ5.out (by decide))
              have B6 := Lib.hid (bw_set B5.out hgp (.slice xl ((L.take j).eraseIdx kk).length yl) (o := h.toNat))
              clear hro hr
              generalize ((L.take j).eraseIdx kk).length = nl at *
              go_upto_region 20 with fail
              obtain ⟨U, hU⟩ : ∃ W', wr.setCell ⟨gp, h.toNat, none⟩ (.slice xl nl yl) = W' := ⟨_, rfl⟩
              rw [hU] at ST HQ6 B6 ⊢
              clear hU m0 m1 m2 tm hrc hrf k0 k1 k2 tx tr vr
              obtain ⟨⟨m0, m1, m2⟩, _⟩ := six ST.out.1
              have tm := lt_in ST.out.1
              obtain ⟨⟨e20, e21, e22⟩, f20, f21, f22⟩ := six HQ6.out
              have t2' := lt_in HQ6.out
              go_wp2_with fail
              obtain ⟨s0, s1, s2⟩ := three_cells (set3_spec (x := .slice Y1 n1 Z1) (y := .slice (some ⟨gp, 0, none⟩) n2 Z2) (z := .slice Y3 n3 Z3) HQ6.out).1
              have HMW := Lib.hid (isMem_set3 (.slice Y1 n1 Z1) (.slice (some ⟨gp, 0, none⟩) n2 Z2) (.slice Y3 n3 Z3) ST.out.2 HQ6.out)
              have BW := Lib.hid (bel_set3 (x := .slice Y1 n1 Z1) (y := .slice (some ⟨gp, 0, none⟩) n2 Z2) (z := .slice Y3 n3 Z3) B6.out (by omega : w.heap.size ≤ w.heap.size + 1))
              exact bodyPost_ret (v := .tuple #[.agg #[.slice Y1 n1 Z1, .slice (some ⟨gp, 0, none⟩) n2 Z2, .slice Y3 n3 Z3], .int .i64 0]) (by simp [results, Try.results28, go_sem, s0, s1, s2]) rfl ⟨_, rfl, HMW.out, BW.out⟩
    · as_aux_lemma =>
      rw [if_pos rfl]
      have HA0 := Lib.hid hA0; clear hA0
      go_enter Try.func28, Try.ntmps28
      go_wp2_with fail
      have hb0 := bw_tr (bel_new w (.cells #[.slice a1 n1 c1, .slice (some ⟨b2, o2, none⟩) n2 c2, .slice a3 n3 c3] 27)) (bel_new (w.alloc (.cells #[.slice a1 n1 c1, .slice (some ⟨b2, o2, none⟩) n2 c2, .slice a3 n3 c3] 27)) (.cells #[.slice none 0 0, .slice none 0 0, .slice none 0 0] 27))
      have hq0 := up_in (bel_new (w.alloc (.cells #[.slice a1 n1 c1, .slice (some ⟨b2, o2, none⟩) n2 c2, .slice a3 n3 c3] 27)) (.cells #[.slice none 0 0, .slice none 0 0, .slice none 0 0] 27)) (new_in w (.cells #[.slice a1 n1 c1, .slice (some ⟨b2, o2, none⟩) n2 c2, .slice a3 n3 c3] 27))
      have hr0 := new_in (w.alloc (.cells #[.slice a1 n1 c1, .slice (some ⟨b2, o2, none⟩) n2 c2, .slice a3 n3 c3] 27)) (.cells #[.slice none 0 0, .slice none 0 0, .slice none 0 0] 27)
      rw [World.size_alloc] at hr0
      refine (rhart_any _ m h true _ (HM.out.below hb0) HH.out).mono ?_
      rintro e w1 ⟨rfl, hb1⟩
      have HQ1 : Hid (w1.heap[w.heap.size + 1]? = some zM3) := Lib.hid (up_in hb1 hr0); have HX1 := Lib.hid (up_in hb1 hq0); have B1 := Lib.hid (bw_tr hb0 hb1)
      clear hb0 hq0 hr0 hb1
      obtain ⟨⟨k0, k1, k2⟩, _⟩ := six HX1.out
      have tx := lt_in HX1.out
      obtain ⟨tr, vr⟩ := HRC.out.up B1.out
      obtain ⟨tc1, vc1⟩ := HC1.out.up B1.out
      obtain ⟨tc2, vc2⟩ := HC2.out.up B1.out
      go_upto_region 5 with fail
      clear k0 k1 k2 tx tr vr tc1 vc1 tc2 vc2
      have hqx := new_in w1 (.cells #[.int .i64 x1, .int .i64 x2] 44)
      have hu := bel_new w1 (.cells #[.int .i64 x1, .int .i64 x2] 44)
      obtain ⟨W, hW⟩ : ∃ W, w1.alloc (.cells #[.int .i64 x1, .int .i64 x2] 44) = W := ⟨_, rfl⟩
      rw [hW] at hqx hu ⊢
      obtain ⟨q, hq⟩ : ∃ q, w1.heap.size = q := ⟨_, rfl⟩
      have lq : w.heap.size + 1 < q := by have := lt_in HQ1.out; omega
      have HQ2 : Hid (W.heap[w.heap.size + 1]? = some zM3) := Lib.hid (up_in hu HQ1.out); have HX2 := Lib.hid (up_in hu HX1.out); have B2 := Lib.hid (bw_tr B1.out hu)
      rw [hq] at hqx ⊢
      have HE := Lib.hid hqx
      clear hW hu hq hqx HQ1 HX1 B1
      have y1 : W.cell? ⟨q, 0, none⟩ = some (.int .i64 x1) := cell_in (j := 0) HE.out rfl
      have y2 : W.cell? ⟨q, 1, none⟩ = some (.int .i64 x2) := cell_in (j := 1) HE.out rfl
      have ty := lt_in HE.out
      obtain ⟨⟨k0, k1, k2⟩, _⟩ := six HX2.out
      have tx := lt_in HX2.out
      have hc1 := hc.1; have hc2 := hc.2
      have hcd : decide (x1 < 0) = false := by simp; omega
      go_upto_region 7 with fail
      clear k0 k1 k2 y1 y2 ty tx hcd
      have HR2 := Lib.hid (HRC.out.up B2.out)
      have HD2 := Lib.hid (HRD.out.below B2.out)
      go_wp2_with fail
      go_loopw [10] (fun i wr => ∃ j : Nat, j ≤ kk ∧ i = .int .i64 j ∧ anyAt (L.take j) x1 = false ∧ Below W.heap.size W wr) (fun i _ => kk - (intOf i).toNat)
      case atStart => exact ⟨0, Nat.zero_le _, rfl, rfl, Below.refl _ _⟩
      case round =>
        obtain ⟨j, hj, rfl, hany, hbb⟩ := hrel
        have HA := Lib.hid hany; have BB := Lib.hid hbb
        clear hany hbb
        by_cases hlt : j < kk
        · as_aux_lemma =>
          have hjl : j < L.length := by rw [HLN.out]; omega
          obtain ⟨⟨z1, z2⟩, hz⟩ : ∃ x, L[j]? = some x := ⟨_, List.getElem?_eq_getElem hjl⟩
          have HS1 : Hid (anyAt (L.take (j + 1)) x1 = (anyAt (L.take j) x1 || decide (z1 = x1))) := Lib.hid (by obtain ⟨_, e⟩ := List.getElem?_eq_some_iff.1 hz; rw [List.take_succ_eq_append_getElem hjl, anyAt_snoc, e])
          have HT1 : z1 = x1 → anyAt (L.take kk) x1 = true := fun e => anyAt_take hlt hz e
          obtain ⟨xb', xo', e9, _, _, hz1, _⟩ := entry_cells (HD2.out.below BB.out) hz (by omega)
          injection e9 with e9
          injection e9 with e9 e8 _
          subst e9 e8
          simp only at hz1
          obtain ⟨tz, vz⟩ := hz1
          obtain ⟨tr, vr⟩ := HR2.out.up BB.out
          have hx2 := up_in BB.out HX2.out
          have he2 := up_in BB.out HE.out
          obtain ⟨⟨k0, k1, k2⟩, _⟩ := six hx2
          have tx := lt_in hx2
          have y1 : wr.cell? ⟨q, 0, none⟩ = some (.int .i64 x1) := cell_in (j := 0) he2 rfl
          have ty := lt_in he2
          have jI : (j : Int) < (ln : Int) := by omega
          have jI0 : (0 : Int) ≤ (j : Int) := by omega
          clear hx2 he2 hz
          cases hq : (z1 == x1)
          · have HS2 : Hid (anyAt (L.take (j + 1)) x1 = false) := Lib.hid (by rw [HS1.out, HA.out]; simp at hq; simp [hq])
            clear HT1
            go_wp2_with fail
            go_quiet (fail)
            go_wp2_with fail
            exact ⟨⟨j + 1, by omega, by go_num, HS2.out, below_drewN BB.out _⟩, by simp [intOf]; omega⟩
          · clear HT1 HS1
            go_wp2_with fail
            refine wp_region_below (by kernel_rfl) (by kernel_rfl) ?_
            have p1 := fun x => wd_cell tx k1 x
            have p2 := fun x => wd_cell tr vr x
            have p3 := fun x => wd_cell tz vz x
            have p4 := fun x => wd_cell ty y1 x
            clear k0 k1 k2 tz vz tr vr tx ty y1
            repeat (go_big_quiet_step (fail))
            refine wpQuiet_nil ?_
            rintro w9 ⟨⟨w9x, hb9⟩, rfl⟩
            clear p1 p2 p3 p4
            have HQ3 := Lib.hid (up_in (bw_tr BB.out hb9) HQ2.out); have B3 := Lib.hid (bw_tr B2.out (bw_tr BB.out hb9))
            clear hb9
            obtain ⟨⟨k0, k1, k2⟩, f0, f1, f2⟩ := six HQ3.out
            have tq := lt_in HQ3.out
            obtain ⟨s0, s1, s2⟩ := three_cells (set3_spec (x := .slice none 0 0) (y := .slice none 0 0) (z := .slice none 0 0) HQ3.out).1
            go_wp2_with fail
            exact bodyPost_ret (v := .tuple #[.agg #[.slice none 0 0, .slice none 0 0, .slice none 0 0], .int .i64 91]) (by simp [results, Try.results28, go_sem, s0, s1, s2]) rfl ⟨_, rfl, isMem_no _, bel_set3 B3.out (by omega)⟩
        · have hjk : kk = j := by omega
          subst hjk
          exact absurd (HA.out.symm.trans HA0.out) (by decide)
end Go.Proofs.Ytkhobelceghgfaa
