/-
  The contract of headstockref11.Same.
-/
import Derived.Test.YtkhobelceghgfaaRef11
import Derived.Test.YtkhobelceghgfaaInts
namespace Go.Proofs.Ytkhobelceghgfaa
open Go.RowKit
theorem take_ne {α : Type} [DecidableEq α] {xs ys : List α} {i : Nat} {x y : α} (hx : xs[i]? = some x) (hy : ys[i]? = some y) (h : x ≠ y) : decide (xs = ys) = false := decide_eq_false (fun e => h (by subst e; rw [hx] at hy; injection hy))
theorem take_next {α : Type} {xs ys : List α} {i : Nat} {x : α} (hx : xs[i]? = some x) (hy : ys[i]? = some x) (h : xs.take i = ys.take i) : xs.take (i + 1) = ys.take (i + 1) := by
  obtain ⟨h1, e1⟩ := List.getElem?_eq_some_iff.1 hx
  obtain ⟨h2, e2⟩ := List.getElem?_eq_some_iff.1 hy
  rw [List.take_succ_eq_append_getElem h1, List.take_succ_eq_append_getElem h2, h, e1, e2]
theorem take_all {α : Type} {xs ys : List α} {n : Nat} (h1 : xs.length = n) (h2 : ys.length = n) (h : xs.take n = ys.take n) : xs = ys := by
  rw [← h1, List.take_length] at h
  rw [h, h1, ← h2, List.take_length]
set_option maxHeartbeats 8000000 in
set_option maxRecDepth 100000 in
theorem rsame_any (v v' : Value) (a b : Mem) (w : World) (h : IsMem w v a) (h' : IsMem w v' b) :
    Calls Try.prog 25 #[v, v'] w fun e w' => e = .returned (.bool (decide (a = b))) ∧ Below w.heap.size w w' := by
  obtain ⟨a1, c1, a2, c2, a3, c3, rows, rfl, r1, r2, r3, r4⟩ := h.parts
  obtain ⟨b1, d1, b2, d2, b3, d3, rows', rfl, s1, s2, s3, s4⟩ := h'.parts
  have R1 := Lib.hid r1; have R2 := Lib.hid r2; have R3 := Lib.hid r3; have R4 := Lib.hid r4; have S1 := Lib.hid s1; have S2 := Lib.hid s2; have S3 := Lib.hid s3; have S4 := Lib.hid s4
  clear h h' r1 r2 r3 r4 s1 s2 s3 s4
  rw [mem_eq]
  obtain ⟨e1, hd1⟩ : ∃ e, decide (a.words = b.words) = e := ⟨_, rfl⟩
  obtain ⟨e2, hd2⟩ : ∃ e, decide (a.res = b.res) = e := ⟨_, rfl⟩
  rw [hd1, hd2]
  have D1 := Lib.hid hd1; have D2 := Lib.hid hd2
  clear hd1 hd2
  obtain ⟨n1, hn1⟩ : ∃ n, a.words.length = n := ⟨_, rfl⟩; obtain ⟨n2, hn2⟩ : ∃ n, a.pend.length = n := ⟨_, rfl⟩; obtain ⟨n3, hn3⟩ : ∃ n, a.res.length = n := ⟨_, rfl⟩
  obtain ⟨m1, hm1⟩ : ∃ n, b.words.length = n := ⟨_, rfl⟩; obtain ⟨m2, hm2⟩ : ∃ n, b.pend.length = n := ⟨_, rfl⟩; obtain ⟨m3, hm3⟩ : ∃ n, b.res.length = n := ⟨_, rfl⟩
  have N2 := Lib.hid hn2; have M2 := Lib.hid hm2
  have I1 := Lib.hid (fun u hb => ints_ref11 _ _ a.words b.words u (R1.out.below hb) (S1.out.below hb)); have I2 := Lib.hid (fun u hb => ints_ref11 _ _ a.res b.res u (R3.out.below hb) (S3.out.below hb))
  rw [hn1, hm1] at I1; rw [hn3, hm3] at I2; rw [hn2] at R2; rw [hm2] at S2
  rw [hn1, hn2, hn3, hm1, hm2, hm3]
  clear hn1 hn2 hn3 hm1 hm2 hm3 R1 R3 S1 S3
  go_enter Try.func25, Try.ntmps25
  go_upto_region 1 with fail
  have hx0 := up_in (bel_new (w.alloc (.cells #[.slice a1 n1 c1, .slice a2 n2 c2, .slice a3 n3 c3] 27)) (.cells #[.slice b1 m1 d1, .slice b2 m2 d2, .slice b3 m3 d3] 27)) (new_in w (.cells #[.slice a1 n1 c1, .slice a2 n2 c2, .slice a3 n3 c3] 27))
  have hy0 := new_in (w.alloc (.cells #[.slice a1 n1 c1, .slice a2 n2 c2, .slice a3 n3 c3] 27)) (.cells #[.slice b1 m1 d1, .slice b2 m2 d2, .slice b3 m3 d3] 27)
  rw [World.size_alloc] at hy0
  have hb0 := bw_tr (bel_new w (.cells #[.slice a1 n1 c1, .slice a2 n2 c2, .slice a3 n3 c3] 27)) (bel_new (w.alloc (.cells #[.slice a1 n1 c1, .slice a2 n2 c2, .slice a3 n3 c3] 27)) (.cells #[.slice b1 m1 d1, .slice b2 m2 d2, .slice b3 m3 d3] 27))
  obtain ⟨W0, hW⟩ : ∃ W, (w.alloc (.cells #[.slice a1 n1 c1, .slice a2 n2 c2, .slice a3 n3 c3] 27)).alloc (.cells #[.slice b1 m1 d1, .slice b2 m2 d2, .slice b3 m3 d3] 27) = W := ⟨_, rfl⟩
  rw [hW] at hx0 hy0 hb0 ⊢
  have HX := Lib.hid hx0; have HY := Lib.hid hy0; have B0 := Lib.hid hb0
  clear hW hx0 hy0 hb0
  obtain ⟨⟨k0, k1, k2⟩, _⟩ := six HX.out; obtain ⟨⟨l0, l1, l2⟩, _⟩ := six HY.out
  have tx := lt_in HX.out; have ty := lt_in HY.out
  go_wp2_with fail
  refine (I1.out _ B0.out).mono ?_
  rintro e u1 ⟨rfl, hb1⟩
  rw [D1.out]
  have HX1 := Lib.hid (up_in hb1 HX.out); have HY1 := Lib.hid (up_in hb1 HY.out); have B1 := Lib.hid (bw_tr B0.out hb1)
  clear hb1 k0 k1 k2 l0 l1 l2 tx ty HX HY B0
  obtain ⟨⟨k0, k1, k2⟩, _⟩ := six HX1.out; obtain ⟨⟨l0, l1, l2⟩, _⟩ := six HY1.out
  have tx := lt_in HX1.out; have ty := lt_in HY1.out
  go_wp2_with fail
  refine (I2.out _ B1.out).mono ?_
  rintro e u2 ⟨rfl, hb2⟩
  rw [D2.out]
  have HX2 := Lib.hid (up_in hb2 HX1.out); have HY2 := Lib.hid (up_in hb2 HY1.out); have B2 := Lib.hid (bw_tr B1.out hb2)
  clear hb2 k0 k1 k2 l0 l1 l2 tx ty HX1 HY1 B1
  obtain ⟨⟨k0, k1, k2⟩, _⟩ := six HX2.out; obtain ⟨⟨l0, l1, l2⟩, _⟩ := six HY2.out
  have tx := lt_in HX2.out; have ty := lt_in HY2.out
  cases e1
  · go_wp2_with fail
    go_ret
    exact ⟨ret1 (rbool rfl), B2.out⟩
  cases e2
  · go_wp2_with fail
    go_ret
    exact ⟨ret1 (rbool rfl), B2.out⟩
  by_cases hl : n2 = m2
  rotate_left
  · have hd : Hid (decide (a.pend = b.pend) = false) := Lib.hid (decide_eq_false (fun e => hl (by rw [← N2.out, ← M2.out, e])))
    have hlb : ((n2 : Int) != (m2 : Int)) = true := by simp; omega
    have HL := Lib.hid hl; clear hl
    go_wp2_with fail
    go_ret
    exact ⟨ret1 (rbool (by rw [hd.out]; rfl)), B2.out⟩
  subst hl
  have hlb : ((n2 : Int) != (n2 : Int)) = false := by simp
  go_wp2_with fail
  clear k0 k1 k2 l0 l1 l2 tx ty hlb
  go_loopw [7] (fun i wr => ∃ j : Nat, j ≤ n2 ∧ i = .int .i64 j ∧ a.pend.take j = b.pend.take j ∧ Below u2.heap.size u2 wr) (fun i _ => n2 - (intOf i).toNat)
  case atStart => exact ⟨0, Nat.zero_le _, rfl, rfl, Below.refl _ _⟩
  case round =>
    obtain ⟨j, hj, rfl, ht, hb⟩ := hrel
    have HT := Lib.hid ht; have HB := Lib.hid hb
    clear ht hb
    obtain ⟨V, hV⟩ : ∃ u, u = wr := ⟨_, rfl⟩
    subst hV
    have HX3 := Lib.hid (up_in HB.out HX2.out); have HY3 := Lib.hid (up_in HB.out HY2.out); have B3 := Lib.hid (bw_tr B2.out HB.out)
    obtain ⟨⟨k0, k1, k2⟩, _⟩ := six HX3.out; obtain ⟨⟨l0, l1, l2⟩, _⟩ := six HY3.out
    have tx := lt_in HX3.out; have ty := lt_in HY3.out
    by_cases hlt : j < n2
    · obtain ⟨b', o', c', e9, hb9, hc9, hm9, hcell⟩ := R2.out.some (by omega)
      obtain ⟨b'', o'', c'', e8, hb8, hc8, hm8, hcell2⟩ := S2.out.some (by omega)
      injection e9 with e9 _ e7; injection e8 with e8 _ e6
      subst e9 e7 e8 e6
      unfold maxLen at hm9 hm8
      obtain ⟨la, hla⟩ : ∃ l, a.pend[j]? = some l := ⟨_, List.getElem?_eq_getElem (by rw [N2.out]; exact hlt)⟩
      obtain ⟨lb, hlb⟩ : ∃ l, b.pend[j]? = some l := ⟨_, List.getElem?_eq_getElem (by rw [M2.out]; exact hlt)⟩
      obtain ⟨ra, hra⟩ : ∃ r, rows[j]? = some r := ⟨_, List.getElem?_eq_getElem (by rw [R4.out.1, N2.out]; exact hlt)⟩
      obtain ⟨rb, hrb⟩ : ∃ r, rows'[j]? = some r := ⟨_, List.getElem?_eq_getElem (by rw [S4.out.1, M2.out]; exact hlt)⟩
      have hA := Reads.own (R4.out.2 j ra la hra hla) (entC_one _)
      have hB := Reads.own (S4.out.2 j rb lb hrb hlb) (entC_one _)
      obtain ⟨x1, y1, rfl⟩ := hA.shape; obtain ⟨x2, y2, rfl⟩ := hB.shape
      obtain ⟨tr, vr⟩ := CellAt.up (v := .slice x1 la.length y1) ⟨hb9, hcell _ _ hra⟩ B3.out
      obtain ⟨ts, vs⟩ := CellAt.up (v := .slice x2 lb.length y2) ⟨hb8, hcell2 _ _ hrb⟩ B3.out
      have HA := Lib.hid hA; have HBB := Lib.hid hB; have LA := Lib.hid hla; have LB := Lib.hid hlb
      clear hcell hcell2 hra hrb hA hB hla hlb
      obtain ⟨na, hna⟩ : ∃ n, la.length = n := ⟨_, rfl⟩; obtain ⟨nb, hnb⟩ : ∃ n, lb.length = n := ⟨_, rfl⟩
      rw [hna] at vr HA; rw [hnb] at vs HBB
      have NA := Lib.hid hna; have NB := Lib.hid hnb
      clear hna hnb
      have jI : (j : Int) < (n2 : Int) := by omega
      have jI0 : (0 : Int) ≤ (j : Int) := by omega
      have RA := Lib.hid (show CellAt V _ _ _ from ⟨tr, vr⟩); have RB := Lib.hid (show CellAt V _ _ _ from ⟨ts, vs⟩)
      go_wp2_with fail
      refine wp_region_below (by kernel_rfl) (by kernel_rfl) ?_
      have p1 := fun x => wd_cell tx k1 x
      have p2 := fun x => wd_cell ty l1 x
      have p3 := fun x => wd_cell tr vr x
      have p4 := fun x => wd_cell ts vs x
      clear k0 k1 k2 l0 l1 l2 tx ty tr vr ts vs
      repeat (go_big_quiet_step (fail))
      refine wpQuiet_nil ?_
      rintro w9 ⟨⟨w9x, hb9'⟩, rfl⟩
      clear p1 p2 p3 p4
      by_cases hl : na = nb
      rotate_left
      · have hd : Hid (decide (a.pend = b.pend) = false) := Lib.hid (take_ne LA.out LB.out (fun e => hl (by rw [← NA.out, ← NB.out, e])))
        have hlb : ((na : Int) != (nb : Int)) = true := by simp; omega
        clear hl
        go_wp2_with fail
        go_ret
        exact ⟨ret1 (rbool (by rw [hd.out]; rfl)), bw_tr B3.out hb9'⟩
      subst hl
      have hlb : ((na : Int) != (na : Int)) = false := by simp
      have HX4 := Lib.hid (up_in hb9' HX3.out); have HY4 := Lib.hid (up_in hb9' HY3.out); have B4 := Lib.hid (bw_tr B3.out hb9'); have RA4 := Lib.hid (RA.out.up hb9'); have RB4 := Lib.hid (RB.out.up hb9'); have BV := Lib.hid (bw_tr HB.out hb9')
      clear hb9' HX3 HY3 B3 RA RB HB
      go_wp2_with fail
      clear hlb
      go_loopw [8] (fun i wr => ∃ k : Nat, k ≤ na ∧ i = .int .i64 k ∧ la.take k = lb.take k ∧ Below w9.heap.size w9 wr) (fun i _ => na - (intOf i).toNat)
      case atStart => exact ⟨0, Nat.zero_le _, rfl, rfl, Below.refl _ _⟩
      case round =>
        obtain ⟨k, hk, rfl, ht2, hb2⟩ := hrel
        have HT2 := Lib.hid ht2; have HB2 := Lib.hid hb2
        clear ht2 hb2
        have hx5 := up_in HB2.out HX4.out; have hy5 := up_in HB2.out HY4.out
        obtain ⟨⟨k0, k1, k2⟩, _⟩ := six hx5; obtain ⟨⟨l0, l1, l2⟩, _⟩ := six hy5
        have tx := lt_in hx5; have ty := lt_in hy5
        obtain ⟨tr, vr⟩ := RA4.out.up HB2.out; obtain ⟨ts, vs⟩ := RB4.out.up HB2.out
        by_cases hltk : k < na
        · as_aux_lemma =>
          obtain ⟨⟨z1, z2⟩, hz⟩ : ∃ x, la[k]? = some x := ⟨_, List.getElem?_eq_getElem (by rw [NA.out]; exact hltk)⟩
          obtain ⟨⟨z3, z4⟩, hz'⟩ : ∃ x, lb[k]? = some x := ⟨_, List.getElem?_eq_getElem (by rw [NB.out]; exact hltk)⟩
          have B5 := bw_tr B4.out HB2.out
          obtain ⟨xb, xo, rfl, q1, q2, ⟨t1, v1⟩, ⟨t2, v2⟩⟩ := entry_cells (HA.out.below B5) hz (by omega)
          obtain ⟨yb, yo, rfl, q3, q4, ⟨t3, v3⟩, ⟨t4, v4⟩⟩ := entry_cells (HBB.out.below B5) hz' (by omega)
          simp only at v1 v2 v3 v4
          have HZ := Lib.hid hz; have HZ' := Lib.hid hz'; have HB5 := Lib.hid B5
          clear hz hz' B5
          have kI : (k : Int) < (na : Int) := by omega
          have kI0 : (0 : Int) ≤ (k : Int) := by omega
          by_cases hq : ((z1, z2) : Int × Int) = (z3, z4)
          · have HQ := Lib.hid hq
            have hqb := fun w => eqE true (z1, z2) (z3, z4) (by simp [hq]) w
            simp only at hqb
            clear hq
            go_wp2_with fail
            refine wp_region_below (by kernel_rfl) (by kernel_rfl) ?_
            have p1 := fun x => wd_cell tx k1 x
            have p2 := fun x => wd_cell ty l1 x
            have p3 := fun x => wd_cell tr vr x
            have p4 := fun x => wd_cell ts vs x
            have p5 := fun x => wd_cell t1 v1 x
            have p6 := fun x => wd_cell t2 v2 x
            have p7 := fun x => wd_cell t3 v3 x
            have p8 := fun x => wd_cell t4 v4 x
            clear k0 k1 k2 l0 l1 l2 tx ty tr vr ts vs t1 v1 t2 v2 t3 v3 t4 v4 hx5 hy5
            repeat (go_big_quiet_step (fail))
            refine wpQuiet_nil ?_
            rintro w7 ⟨⟨w7x, hb7⟩, rfl⟩
            clear p1 p2 p3 p4 p5 p6 p7 p8 hqb
            go_wp2_with fail
            exact ⟨⟨k + 1, by omega, by go_num, take_next HZ.out (by rw [HQ.out]; exact HZ'.out) HT2.out, bw_tr HB2.out hb7⟩, by simp [intOf]; omega⟩
          · have hd : Hid (decide (a.pend = b.pend) = false) := Lib.hid (take_ne LA.out LB.out (fun e => by
              have h1 := HZ.out; have h2 := HZ'.out
              rw [e] at h1
              rw [h1] at h2
              injection h2 with h2
              exact hq h2))
            have hqb := fun w => eqE false (z1, z2) (z3, z4) (by simp only [decide_eq_false_iff_not]; exact hq) w
            simp only at hqb
            clear hq
            go_wp2_with fail
            refine wp_region_below (by kernel_rfl) (by kernel_rfl) ?_
            have p1 := fun x => wd_cell tx k1 x
            have p2 := fun x => wd_cell ty l1 x
            have p3 := fun x => wd_cell tr vr x
            have p4 := fun x => wd_cell ts vs x
            have p5 := fun x => wd_cell t1 v1 x
            have p6 := fun x => wd_cell t2 v2 x
            have p7 := fun x => wd_cell t3 v3 x
            have p8 := fun x => wd_cell t4 v4 x
            clear k0 k1 k2 l0 l1 l2 tx ty tr vr ts vs t1 v1 t2 v2 t3 v3 t4 v4 hx5 hy5
            repeat (go_big_quiet_step (fail))
            refine wpQuiet_nil ?_
            rintro w7 ⟨⟨w7x, hb7⟩, rfl⟩
            clear p1 p2 p3 p4 p5 p6 p7 p8 hqb
            go_wp2_with fail
            go_ret
            exact ⟨ret1 (rbool (by rw [hd.out]; rfl)), bw_tr HB5.out hb7⟩
        · have hkn : k = na := by omega
          subst hkn
          have HE := Lib.hid (take_all NA.out NB.out HT2.out)
          go_wp2_with fail
          exact ⟨⟨j + 1, by omega, by go_num, take_next LA.out (by rw [HE.out]; exact LB.out) HT.out, bw_tr BV.out HB2.out⟩, by simp [intOf]; omega⟩
    · have hjn : j = n2 := by omega
      subst hjn
      have HE := Lib.hid (take_all N2.out M2.out HT.out)
      go_wp2_with fail
      go_ret
      exact ⟨ret1 (rbool (by rw [HE.out]; simp)), B3.out⟩
end Go.Proofs.Ytkhobelceghgfaa
