/-
  The contract of headstockref11.New.
-/
import Derived.Test.YtkhobelceghgfaaRef11Own
namespace Go.Proofs.Ytkhobelceghgfaa
open Go.RowKit
set_option maxHeartbeats 2000000 in
theorem rnew_no (h n : Int) (w : World) (hh : ¬ (1 ≤ h ∧ h ≤ 4 ∧ 0 ≤ n ∧ n ≤ 4096)) :
    Calls Try.prog 24 #[.int .i64 h, .int .i64 n] w (MemRet w w.heap.size (noMem, 1)) := by
  unfold MemRet
  have e : (h < 1) ∨ (1 ≤ h ∧ 4 < h) ∨ (1 ≤ h ∧ h ≤ 4 ∧ n < 0) ∨ (1 ≤ h ∧ h ≤ 4 ∧ 0 ≤ n ∧ 4096 < n) := by omega
  clear hh
  rcases e with e | e | e | e
  all_goals
    go_enter Try.func24, Try.ntmps24
    go_wp2_with fail
    exact bodyPost_ret (v := .tuple #[.agg #[.slice none 0 0, .slice none 0 0, .slice none 0 0], .int .i64 1]) (by simp [results, Try.results24, go_sem]) rfl ⟨_, rfl, isMem_no _, bel_new _ _⟩
theorem one_new {e : Nat} (w : World) (u : Value) : ∀ j v, [u][j]? = some v → (w.alloc (.cells #[u] e)).cell? ((⟨w.heap.size, 0, none⟩ : Addr).add j) = some v := fun j v hj => by
  have : j = 0 := by
    have := (List.getElem?_eq_some_iff.1 hj).1
    simp at this; exact this
  subst this
  simp at hj; subst hj
  rw [addr_add]; exact cell_in (new_in w _) rfl
theorem intC_snoc (k : Nat) (x : Int) : intC (List.replicate k x) ++ [.int .i64 x] = intC (List.replicate (k + 1) x) := by
  simp [intC, List.replicate_succ', List.map_replicate]
set_option maxHeartbeats 8000000 in
set_option maxRecDepth 100000 in
theorem rnew_yes (hk nk : Nat) (w : World) (hh : 1 ≤ hk ∧ hk ≤ 4) (hn : nk ≤ 4096) :
    Calls Try.prog 24 #[.int .i64 hk, .int .i64 nk] w (MemRet w w.heap.size (newMem hk nk, 0)) := by
  unfold MemRet
  obtain ⟨i0, hi, hz0, hz1, hz2⟩ := info_parts info_ents
  obtain ⟨j0, hj, hy0, hy1, hy2⟩ := info_parts info_ints
  go_enter Try.func24, Try.ntmps24
  go_upto_region 4 with fail
  have hr0 := up_in (bel_new (w.alloc (.cells #[.slice none 0 0, .slice none 0 0, .slice none 0 0] 27)) (.cells #[.slice none 0 0, .slice none 0 0, .slice none 0 0] 27)) (new_in w (.cells #[.slice none 0 0, .slice none 0 0, .slice none 0 0] 27))
  have hq0 := new_in (w.alloc (.cells #[.slice none 0 0, .slice none 0 0, .slice none 0 0] 27)) (.cells #[.slice none 0 0, .slice none 0 0, .slice none 0 0] 27)
  rw [World.size_alloc] at hq0
  have hb0 := bw_tr (bel_new w (.cells #[.slice none 0 0, .slice none 0 0, .slice none 0 0] 27)) (bel_new (w.alloc (.cells #[.slice none 0 0, .slice none 0 0, .slice none 0 0] 27)) (.cells #[.slice none 0 0, .slice none 0 0, .slice none 0 0] 27))
  obtain ⟨W0, hW⟩ : ∃ W, (w.alloc (.cells #[.slice none 0 0, .slice none 0 0, .slice none 0 0] 27)).alloc (.cells #[.slice none 0 0, .slice none 0 0, .slice none 0 0] 27) = W := ⟨_, rfl⟩
  rw [hW] at hr0 hq0 hb0 ⊢
  obtain ⟨q, hq⟩ : ∃ q, w.heap.size + 1 = q := ⟨_, rfl⟩
  have hqw : w.heap.size < q := by omega
  rw [hq] at hq0 ⊢
  have HR0 := Lib.hid hr0; have HQ0 := Lib.hid hq0; have B0 := Lib.hid hb0
  clear hW hq hr0 hq0 hb0
  go_wp2_with fail
  go_loopw [7] (fun i wr => ∃ (k : Nat) (pv rv : Value), k ≤ hk ∧ i = .int .i64 k ∧ wr.heap[q]? = some (.cells #[.slice none 0 0, pv, rv] 27 (0, 0)) ∧ wr.ownsRow w.heap.size 42 1 pv k (List.replicate k (.slice none 0 0)) ∧ wr.ownsRow w.heap.size 3 1 rv k (intC (List.replicate k (-1))) ∧ wr.heap[w.heap.size]? = some (.cells #[.slice none 0 0, .slice none 0 0, .slice none 0 0] 27 (0, 0)) ∧ Below w.heap.size w wr) (fun i _ => hk - (intOf i).toNat)
  case atStart => exact ⟨0, _, _, Nat.zero_le _, rfl, HQ0.out, World.ownsRow_nil _ _ _ _, World.ownsRow_nil _ _ _ _, HR0.out, B0.out⟩
  case round =>
    obtain ⟨k, pv, rv, hkk, rfl, hq, hp, hr, hz, hb⟩ := hrel
    have HQ := Lib.hid hq; have O2 := Lib.hid hp; have O3 := Lib.hid hr; have HZ := Lib.hid hz; have HB := Lib.hid hb
    obtain ⟨x2, y2, rfl⟩ := own_shape hp
    obtain ⟨x3, y3, rfl⟩ := own_shape hr
    clear hq hp hr hz hb
    by_cases hlt : k < hk
    · as_aux_lemma =>
      have hmx : k + 1 ≤ maxLen := by unfold maxLen; omega
      have hby : (k + 1) * 24 ≤ 140737488355328 := by omega
      have hby2 : (k + 1) * 8 ≤ 140737488355328 := by omega
      have hszw := HB.out.size
      have hsz : w.heap.size ≤ (wr.alloc (.cells #[.slice none 0 0] 42)).heap.size := by simp; omega
      obtain ⟨⟨m0, m1, m2⟩, f0, f1, f2⟩ := six HQ.out
      have tq := lt_in HQ.out
      have A2 := Lib.hid (own_below O2.out (bel_new wr (.cells #[.slice none 0 0] 42))); have A3 := Lib.hid (own_below O3.out (bel_new wr (.cells #[.slice none 0 0] 42)))
      have AQ := Lib.hid (up_in (bel_new wr (.cells #[.slice none 0 0] 42)) HQ.out); have AZ := Lib.hid (up_in (bel_new wr (.cells #[.slice none 0 0] 42)) HZ.out); have AB := Lib.hid (bw_tr HB.out (bel_new wr (.cells #[.slice none 0 0] 42)))
      clear HQ O2 O3 HZ HB
      go_upto_region 8 with (at_builtin; refine wpList_append_own _ rfl _ _ 25 rfl w.heap.size 42 i0 (.slice none 0 0) 1 24 Try.underlying25 hi hz0 hz1 hz2 rfl (by decide) _ _ _ rfl A2.out ⟨wr.heap.size, 0, none⟩ 1 1 [.slice none 0 0] rfl rfl (one_new wr _) (by simp [Value.oneCell']) hmx hby hsz ?_; intro v' w7 hown hgrow _; obtain ⟨xv, yv, rfl⟩ := own_shape hown; have HO7 := Lib.hid hown; have HQ7 := Lib.hid ((hgrow.block q (lt_in AQ.out) (fun e => own_not A2.out AQ.out (by decide) e.symm)).trans AQ.out); have HZ7 := Lib.hid ((hgrow.block w.heap.size (lt_in AZ.out) (fun e => own_not A2.out AZ.out (by decide) e.symm)).trans AZ.out); have HR7 := Lib.hid (own_kept A3.out (fun g e => hgrow.block g (A3.out.lt g e).2 (Ne.symm (own_apart A3.out A2.out (by decide) e)))); have HB7 := Lib.hid (grown_bel AB.out hgrow (fun g e => (A2.out.lt g e).1)); clear hown hgrow m0 m1 m2 f0 f1 f2 tq; obtain ⟨⟨m0, m1, m2⟩, f0, f1, f2⟩ := six HQ7.out; have tq := lt_in HQ7.out)
      have hq8 := set_in HQ7.out 1 (.slice xv (k + 1) yv)
      have ho8 := own_cell (j := 1) (u := .slice xv (k + 1) yv) HO7.out HQ7.out (by decide)
      have hr8 := own_cell (j := 1) (u := .slice xv (k + 1) yv) HR7.out HQ7.out (by decide)
      have hz8 : (w7.setCell ⟨q, 1, none⟩ (.slice xv (k + 1) yv)).heap[w.heap.size]? = _ := (heap_set (Nat.ne_of_lt hqw)).trans HZ7.out
      have hb8 := bw_set HB7.out (Nat.le_of_lt hqw) (.slice xv (k + 1) yv) (o := 1)
      obtain ⟨w8, hW⟩ : ∃ W, w7.setCell ⟨q, 1, none⟩ (.slice xv (k + 1) yv) = W := ⟨_, rfl⟩
      rw [hW] at hq8 ho8 hr8 hz8 hb8 ⊢
      rw [← List.replicate_succ'] at ho8
      have HQ8 := Lib.hid (show w8.heap[q]? = some (.cells #[.slice none 0 0, .slice xv (k + 1) yv, .slice x3 k y3] 27 (0, 0)) from hq8); have HO8 := Lib.hid ho8; have HR8 := Lib.hid hr8; have HZ8 := Lib.hid hz8; have HB8 := Lib.hid hb8
      clear hW hq8 ho8 hr8 hz8 hb8 m0 m1 m2 f0 f1 f2 tq A2 A3 AQ AZ AB HO7 HQ7 HZ7 HR7 HB7 hsz
      have hsz8 := HB8.out.size
      have hsz : w.heap.size ≤ (w8.alloc (.cells #[.int .i64 (-1)] 3)).heap.size := by simp; omega
      obtain ⟨⟨m0, m1, m2⟩, f0, f1, f2⟩ := six HQ8.out
      have tq := lt_in HQ8.out
      have A2 := Lib.hid (own_below HO8.out (bel_new w8 (.cells #[.int .i64 (-1)] 3))); have A3 := Lib.hid (own_below HR8.out (bel_new w8 (.cells #[.int .i64 (-1)] 3)))
      have AQ := Lib.hid (up_in (bel_new w8 (.cells #[.int .i64 (-1)] 3)) HQ8.out); have AZ := Lib.hid (up_in (bel_new w8 (.cells #[.int .i64 (-1)] 3)) HZ8.out); have AB := Lib.hid (bw_tr HB8.out (bel_new w8 (.cells #[.int .i64 (-1)] 3)))
      clear HQ8 HO8 HR8 HZ8 HB8
      go_wp2_with (at_builtin; refine wpList_append_own _ rfl _ _ 24 rfl w.heap.size 3 j0 (.int .i64 0) 1 8 Try.underlying24 hj hy0 hy1 hy2 rfl (by decide) _ _ _ rfl A3.out ⟨w8.heap.size, 0, none⟩ 1 1 [.int .i64 (-1)] rfl rfl (one_new w8 _) (by simp [Value.oneCell']) hmx hby2 hsz ?_; intro v' w9 hown hgrow _; obtain ⟨xw, yw, rfl⟩ := own_shape hown; have HO9 := Lib.hid hown; have HQ9 := Lib.hid ((hgrow.block q (lt_in AQ.out) (fun e => own_not A3.out AQ.out (by decide) e.symm)).trans AQ.out); have HZ9 := Lib.hid ((hgrow.block w.heap.size (lt_in AZ.out) (fun e => own_not A3.out AZ.out (by decide) e.symm)).trans AZ.out); have HR9 := Lib.hid (own_kept A2.out (fun g e => hgrow.block g (A2.out.lt g e).2 (Ne.symm (own_apart A2.out A3.out (by decide) e)))); have HB9 := Lib.hid (grown_bel AB.out hgrow (fun g e => (A3.out.lt g e).1)); clear hown hgrow m0 m1 m2 f0 f1 f2 tq; obtain ⟨⟨m0, m1, m2⟩, f0, f1, f2⟩ := six HQ9.out; have tq := lt_in HQ9.out)
      have hq8 := set_in HQ9.out 2 (.slice xw (k + 1) yw)
      have ho8 := own_cell (j := 2) (u := .slice xw (k + 1) yw) HO9.out HQ9.out (by decide)
      have hr8 := own_cell (j := 2) (u := .slice xw (k + 1) yw) HR9.out HQ9.out (by decide)
      have hz8 : (w9.setCell ⟨q, 2, none⟩ (.slice xw (k + 1) yw)).heap[w.heap.size]? = _ := (heap_set (Nat.ne_of_lt hqw)).trans HZ9.out
      have hb8 := bw_set HB9.out (Nat.le_of_lt hqw) (.slice xw (k + 1) yw) (o := 2)
      rw [intC_snoc] at ho8
      exact ⟨⟨k + 1, _, _, by omega, by go_num, hq8, hr8, ho8, hz8, hb8⟩, by simp [intOf]; omega⟩
    · have hkn : k = hk := by omega
      subst hkn
      obtain ⟨V, hV⟩ : ∃ u, u = wr := ⟨_, rfl⟩
      subst hV
      go_wp2_with fail
      go_loopw [8] (fun i wt => ∃ (j : Nat) (wv : Value), j ≤ nk ∧ i = .int .i64 j ∧ wt.heap[q]? = some (.cells #[wv, .slice x2 k y2, .slice x3 k y3] 27 (0, 0)) ∧ wt.ownsRow V.heap.size 3 1 wv j (intC (List.replicate j 0)) ∧ UpB q V wt ∧ Below w.heap.size w wt) (fun i _ => nk - (intOf i).toNat)
      case atStart => exact ⟨0, _, Nat.zero_le _, rfl, HQ.out, World.ownsRow_nil _ _ _ _, upb_refl _ _, HB.out⟩
      case round =>
        obtain ⟨j, wv, hjj, rfl, hq, hwo, hu, hb⟩ := hrel
        have HQ' := Lib.hid hq; have OW := Lib.hid hwo; have HU := Lib.hid hu; have HB' := Lib.hid hb
        obtain ⟨x1, y1, rfl⟩ := own_shape hwo
        clear hq hwo hu hb
        by_cases hlt2 : j < nk
        · as_aux_lemma =>
          have hmx : j + 1 ≤ maxLen := by unfold maxLen; omega
          have hby : (j + 1) * 8 ≤ 140737488355328 := by omega
          have hsw := HB.out.size; have hsv := HU.out.1; have hqV := lt_in HQ.out
          have hsz : V.heap.size ≤ (wr.alloc (.cells #[.int .i64 0] 3)).heap.size := by simp; omega
          obtain ⟨⟨m0, m1, m2⟩, f0, f1, f2⟩ := six HQ'.out
          have tq := lt_in HQ'.out
          have A1 := Lib.hid (own_below OW.out (bel_new wr (.cells #[.int .i64 0] 3)))
          have AQ := Lib.hid (up_in (bel_new wr (.cells #[.int .i64 0] 3)) HQ'.out); have AU := Lib.hid (HU.out.up (bel_new wr (.cells #[.int .i64 0] 3))); have AB := Lib.hid (bw_tr HB'.out (bel_new wr (.cells #[.int .i64 0] 3)))
          clear HQ' OW HU HB'
          go_wp2_with (at_builtin; refine wpList_append_own _ rfl _ _ 24 rfl V.heap.size 3 j0 (.int .i64 0) 1 8 Try.underlying24 hj hy0 hy1 hy2 rfl (by decide) _ _ _ rfl A1.out ⟨wr.heap.size, 0, none⟩ 1 1 [.int .i64 0] rfl rfl (one_new wr _) (by simp [Value.oneCell']) hmx hby hsz ?_; intro v' w9 hown hgrow _; obtain ⟨xw, yw, rfl⟩ := own_shape hown; have HO9 := Lib.hid hown; have HQ9 := Lib.hid ((hgrow.block q (lt_in AQ.out) (fun e => own_not A1.out AQ.out (by decide) e.symm)).trans AQ.out); have HU9 : Hid (UpB q V w9) := Lib.hid ⟨Nat.le_trans AU.out.1 hgrow.size, fun b hb hn => (hgrow.block b (Nat.lt_of_lt_of_le hb AU.out.1) (fun e => Nat.lt_irrefl _ (Nat.lt_of_lt_of_le hb (A1.out.lt b e.symm).1))).trans (AU.out.2 b hb hn)⟩; have HB9 := Lib.hid (grown_bel AB.out hgrow (fun g e => Nat.le_trans hsw (A1.out.lt g e).1)); clear hown hgrow m0 m1 m2 f0 f1 f2 tq; obtain ⟨⟨m0, m1, m2⟩, f0, f1, f2⟩ := six HQ9.out; have tq := lt_in HQ9.out)
          have hq8 := set_in HQ9.out 0 (.slice xw (j + 1) yw)
          have ho8 := own_cell (j := 0) (u := .slice xw (j + 1) yw) HO9.out HQ9.out (by decide)
          have hu8 : UpB q V (w9.setCell ⟨q, 0, none⟩ (.slice xw (j + 1) yw)) := ⟨by simp only [size_set]; exact HU9.out.1, fun b hb hn => (heap_set hn).trans (HU9.out.2 b hb hn)⟩
          have hb8 := bw_set HB9.out (Nat.le_of_lt hqw) (.slice xw (j + 1) yw) (o := 0)
          rw [intC_snoc] at ho8
          exact ⟨⟨j + 1, _, by omega, by go_num, hq8, ho8, hu8, hb8⟩, by simp [intOf]; omega⟩
        · have hjn : j = nk := by omega
          subst hjn
          have O2' := Lib.hid (own_kept O2.out (fun g e => HU.out.2 g (O2.out.lt g e).2 (fun e' => own_not O2.out HQ.out (by decide) (by rw [← e']; exact e))))
          have O3' := Lib.hid (own_kept O3.out (fun g e => HU.out.2 g (O3.out.lt g e).2 (fun e' => own_not O3.out HQ.out (by decide) (by rw [← e']; exact e))))
          have HZ' := Lib.hid ((HU.out.2 w.heap.size (lt_in HZ.out) (Nat.ne_of_lt hqw)).trans HZ.out)
          have HM : Hid (IsMem wr (.agg #[.slice x1 j y1, .slice x2 k y2, .slice x3 k y3]) (newMem k j)) := Lib.hid ⟨_, _, _, List.replicate k (.slice none 0 0), rfl, by
            have := own_base OW.out (Nat.zero_le _)
            simpa [newMem] using this, by
            have := own_base O2'.out (Nat.zero_le _)
            simpa [newMem] using this, by
            have := own_base O3'.out (Nat.zero_le _)
            simpa [newMem] using this, ⟨by simp [newMem], rows_nil (B := 0) (Below.refl 0 wr)⟩⟩
          clear O2 O3 HZ OW HU O2' O3' HQ
          obtain ⟨⟨m0, m1, m2⟩, _⟩ := six HQ'.out
          have tq := lt_in HQ'.out
          obtain ⟨⟨e20, e21, e22⟩, f20, f21, f22⟩ := six HZ'.out
          have t2' := lt_in HZ'.out
          go_wp2_with fail
          obtain ⟨s0, s1, s2⟩ := three_cells (set3_spec (x := .slice x1 j y1) (y := .slice x2 k y2) (z := .slice x3 k y3) HZ'.out).1
          have HMW := Lib.hid (isMem_set3 (.slice x1 j y1) (.slice x2 k y2) (.slice x3 k y3) HM.out HZ'.out)
          have BW := Lib.hid (bel_set3 (x := .slice x1 j y1) (y := .slice x2 k y2) (z := .slice x3 k y3) HB'.out (Nat.le_refl _))
          exact bodyPost_ret (v := .tuple #[.agg #[.slice x1 j y1, .slice x2 k y2, .slice x3 k y3], .int .i64 0]) (by simp [results, Try.results24, go_sem, s0, s1, s2]) rfl ⟨_, rfl, HMW.out, BW.out⟩
theorem rnew_any (h n : Int) (w : World) : Calls Try.prog 24 #[.int .i64 h, .int .i64 n] w (MemRet w w.heap.size (newR h n)) := by
  unfold newR
  by_cases hh : 1 ≤ h ∧ h ≤ 4 ∧ 0 ≤ n ∧ n ≤ 4096
  · rw [if_pos hh]
    obtain ⟨hk, rfl⟩ : ∃ k : Nat, h = k := ⟨h.toNat, by omega⟩
    obtain ⟨nk, rfl⟩ : ∃ k : Nat, n = k := ⟨n.toNat, by omega⟩
    simp only [Int.toNat_natCast]
    exact rnew_yes _ _ w (by omega) (by omega)
  · rw [if_neg hh]; exact rnew_no h n w hh
end Go.Proofs.Ytkhobelceghgfaa
