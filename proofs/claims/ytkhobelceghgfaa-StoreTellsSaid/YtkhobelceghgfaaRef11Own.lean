/-
  The contract of headstockref11.own.
-/
import Derived.Test.YtkhobelceghgfaaRef11
import Derived.Laws.AppendOwnNone
namespace Go.Proofs.Ytkhobelceghgfaa
open Go.RowKit
/-- 'append(nil, l...)', whatever l is. -/
theorem app_nil {P : Program} (w : World) {ops : Array Oper} {rest : List Oper} {o : Oper} {a : Act} {Q : Exit → Act → World → Prop} (hgd : o.guard = none) (s x : Operand) (t e : TypeId)
    (ho : o.op = .call { callee := .builtin .append, args := #[s, x], argTypes := #[t, t] }) (i : TypeInfo) (z : Value) (size bytes : Nat) (ht : P.underlying t = some (.slice e)) (hi : P.info? e = some i) (hz : i.zero = some z)
    (hsize : i.size = size) (hby : i.bytes = bytes) (hzs : z.cells.size = size) (hsz : 0 < size) (hs : a.eval s = .slice none 0 0) (v : Value) (n : Nat) (xs : List Value) (hx : a.eval x = v) (hr : Reads w size n v xs) (hb : n * bytes ≤ 140737488355328)
    (h : ∀ v' w', w'.ownsRow w.heap.size e size v' n xs → Below w.heap.size w w' → wpList P ops Q rest (a.put o.dst v') w') : wpList P ops Q (o :: rest) a w := by
  obtain ⟨hl, h1, h2⟩ := hr
  rcases h2 with ⟨rfl, rfl⟩ | ⟨b, o', c, rfl, hlt, hn, hm, hcell⟩
  · have hxs : xs = [] := List.eq_nil_of_length_eq_zero (by simpa using hl)
    subst hxs
    exact wpList_append_own_none hgd s x t ho w.heap.size e i size ht hi _ 0 [] hs (World.ownsRow_nil _ _ _ _) hx (h _ _ (World.ownsRow_nil _ _ _ _) (Below.refl _ _))
  · refine wpList_append_own w hgd s x t ho w.heap.size e i z size bytes ht hi hz hsize hby hzs hsz _ 0 [] hs (World.ownsRow_nil _ _ _ _) ⟨b, o', none⟩ n c xs hx hl (fun j u hj => by rw [addr_add]; exact hcell j u hj) h1 (by omega) (by rw [Nat.zero_add]; exact hb) (Nat.le_refl _) ?_
    intro v' w' hown hgrow _
    exact h v' w' (by simpa using hown) ((Below.refl _ _).grown hgrow (Nat.le_refl _) (fun k hk => by simp [Value.ownBlock] at hk))
theorem own_cell {w : World} {B e k n b j T : Nat} {u v : Value} {xs : List Value} {cs : Array Value} (ho : w.ownsRow B e k v n xs) (hq : w.heap[b]? = some (.cells cs T (0, 0))) (hne : e ≠ T) : (w.setCell ⟨b, j, none⟩ u).ownsRow B e k v n xs :=
  own_kept ho fun g e' => heap_set (fun e'' => own_not ho hq hne (by rw [← e'']; exact e'))
/-- The blocks of headstockref11.own's variables: what came in, what it gives, what it makes. -/
def OwnC (p q : Nat) (x y z u1 u2 u3 : Value) (w : World) : Prop :=
  w.heap[p]? = some (.cells #[x, y, z] 27 (0, 0)) ∧ w.heap[p + 1]? = some (.cells #[.slice none 0 0, .slice none 0 0, .slice none 0 0] 27 (0, 0)) ∧ w.heap[q]? = some (.cells #[u1, u2, u3] 27 (0, 0))
theorem OwnC.up {p q : Nat} {x y z u1 u2 u3 : Value} {w w' : World} (h : OwnC p q x y z u1 u2 u3 w) (hu : Below w.heap.size w w') : OwnC p q x y z u1 u2 u3 w' := ⟨up_in hu h.1, up_in hu h.2.1, up_in hu h.2.2⟩
theorem OwnMem.set3 {w : World} {B p T : Nat} {m : Mem} {wv pv rv : Value} {rows : List Value} (h : OwnMem w B p T m wv pv rv rows) {r : Nat} {z0 z1 z2 : Value} (x y z : Value) (hr : w.heap[r]? = some (.cells #[z0, z1, z2] 27 (0, 0))) (hne : p ≠ r) :
    OwnMem (((w.setCell ⟨r, 0, none⟩ x).setCell ⟨r, 1, none⟩ y).setCell ⟨r, 2, none⟩ z) B p T m wv pv rv rows where
  at_ := ((set3_spec hr).2 p hne).trans h.at_
  base := h.base
  words := own_set3 x y z h.words hr (by decide)
  pend := own_set3 x y z h.pend hr (by decide)
  res := own_set3 x y z h.res hr (by decide)
  len := h.len
  each := fun i v l hv hl => own_set3 x y z (h.each i v l hv hl) hr (by decide)
  apart := h.apart
  rowsApart := h.rowsApart
set_option maxHeartbeats 4000000 in
theorem rown_any (v : Value) (m : Mem) (w : World) (hm : IsMem w v m) (hs : Small m) :
    Calls Try.prog 53 #[v] w fun e w' => ∃ q wv pv rv rows, e = .returned (.agg #[wv, pv, rv]) ∧ OwnMem w' w.heap.size q 27 m wv pv rv rows ∧ Below w.heap.size w w' := by
  obtain ⟨a1, c1, a2, c2, a3, c3, rows, rfl, h1, h2, h3, h4⟩ := hm.parts
  have s1 := hs.words; have s2 := hs.pend; have s3 := hs.res
  have H1 := Lib.hid h1; have H2 := Lib.hid h2; have H3 := Lib.hid h3; have H4 := Lib.hid h4
  have HS := Lib.hid hs.each
  clear hm h1 h2 h3 h4 hs
  obtain ⟨n1, hn1⟩ : ∃ n, m.words.length = n := ⟨_, rfl⟩
  obtain ⟨n2, hn2⟩ : ∃ n, m.pend.length = n := ⟨_, rfl⟩
  obtain ⟨n3, hn3⟩ : ∃ n, m.res.length = n := ⟨_, rfl⟩
  rw [hn1] at H1 s1
  rw [hn2] at H2 s2
  rw [hn3] at H3 s3
  rw [hn1, hn2, hn3]
  have HN1 := Lib.hid hn1; have HN2 := Lib.hid hn2; have HN3 := Lib.hid hn3
  clear hn1 hn2 hn3
  obtain ⟨i0, hi, hz0, hz1, hz2⟩ := info_parts info_ents
  obtain ⟨j0, hj, hy0, hy1, hy2⟩ := info_parts info_ints
  obtain ⟨l0, hl, hx0, hx1, hx2⟩ := info_parts info_ent
  go_enter Try.func53, Try.ntmps53
  go_upto_region 2 with (fail)
  obtain ⟨W0, hW0⟩ : ∃ W0, ((w.alloc (.cells #[.slice a1 n1 c1, .slice a2 n2 c2, .slice a3 n3 c3] 27)).alloc (.cells #[.slice none 0 0, .slice none 0 0, .slice none 0 0] 27)).alloc (.cells #[.slice none 0 0, .slice none 0 0, .slice none 0 0] 27) = W0 := ⟨_, rfl⟩
  have hC0 : OwnC w.heap.size (w.heap.size + 1 + 1) (.slice a1 n1 c1) (.slice a2 n2 c2) (.slice a3 n3 c3) (.slice none 0 0) (.slice none 0 0) (.slice none 0 0) W0 := by
    subst hW0
    refine ⟨up_in (bel_new _ _) (up_in (bel_new _ _) (new_in w _)), up_in (bel_new _ _) ?_, ?_⟩
    · have := new_in (w.alloc (.cells #[.slice a1 n1 c1, .slice a2 n2 c2, .slice a3 n3 c3] 27)) (.cells #[.slice none 0 0, .slice none 0 0, .slice none 0 0] 27)
      rwa [World.size_alloc] at this
    · have := new_in ((w.alloc (.cells #[.slice a1 n1 c1, .slice a2 n2 c2, .slice a3 n3 c3] 27)).alloc (.cells #[.slice none 0 0, .slice none 0 0, .slice none 0 0] 27)) (.cells #[.slice none 0 0, .slice none 0 0, .slice none 0 0] 27)
      rwa [World.size_alloc, World.size_alloc] at this
  have hB0 : Below w.heap.size w W0 := by subst hW0; exact bw_tr (bw_tr (bel_new _ _) (bel_new _ _)) (bel_new _ _)
  rw [hW0]
  clear hW0
  obtain ⟨q, hq⟩ : ∃ q, w.heap.size + 1 + 1 = q := ⟨_, rfl⟩
  have hqw : w.heap.size ≤ q ∧ w.heap.size ≠ q ∧ w.heap.size + 1 ≠ q := by omega
  rw [hq] at hC0 ⊢
  clear hq
  have C0 := Lib.hid hC0; have B0 := Lib.hid hB0
  obtain ⟨⟨e10, e11, e12⟩, _⟩ := six hC0.1
  obtain ⟨⟨e30, e31, e32⟩, f30, f31, f32⟩ := six hC0.2.2
  have t1 := lt_in hC0.1; have t3 := lt_in hC0.2.2
  clear hC0 hB0
  go_upto_region 3 with (at_builtin; refine app_nil _ rfl _ _ 24 3 rfl j0 (.int .i64 0) 1 8 Try.underlying24 hj hy0 hy1 hy2 rfl (by decide) rfl _ n1 _ rfl (H1.out.below B0.out) (by omega) ?_; intro v1 W1 ho1 hb1; have C1 := Lib.hid (C0.out.up hb1); have O1 := Lib.hid ho1; have B1 := Lib.hid (bw_tr B0.out hb1); obtain ⟨x1, y1, rfl⟩ := own_shape ho1; clear e10 e11 e12 e30 e31 e32 f30 f31 f32 t1 t3 ho1 hb1; obtain ⟨⟨e30, e31, e32⟩, f30, f31, f32⟩ := six C1.out.2.2; have t3 := lt_in C1.out.2.2)
  have hC2 : OwnC w.heap.size q (.slice a1 n1 c1) (.slice a2 n2 c2) (.slice a3 n3 c3) (.slice x1 n1 y1) (.slice none 0 0) (.slice none 0 0) (W1.setCell ⟨q, 0, none⟩ (.slice x1 n1 y1)) :=
    ⟨(heap_set hqw.2.1).trans C1.out.1, (heap_set hqw.2.2).trans C1.out.2.1, set_in C1.out.2.2 0 _⟩
  have hO2 := own_cell (j := 0) (u := .slice x1 n1 y1) O1.out C1.out.2.2 (by decide)
  have hB2 := bw_set B1.out hqw.1 (.slice x1 n1 y1) (o := 0)
  have hSZ : W1.heap.size ≤ (W1.setCell ⟨q, 0, none⟩ (.slice x1 n1 y1)).heap.size := by simp only [size_set]; exact Nat.le_refl _
  obtain ⟨W2, hW2⟩ : ∃ W2, W1.setCell ⟨q, 0, none⟩ (.slice x1 n1 y1) = W2 := ⟨_, rfl⟩
  rw [hW2] at hC2 hO2 hB2 hSZ ⊢
  have C2 := Lib.hid hC2; have O2 := Lib.hid hO2; have B2 := Lib.hid hB2; have SZ := Lib.hid hSZ
  clear hW2 hO2 hB2 hSZ e30 e31 e32 f30 f31 f32 t3
  obtain ⟨⟨e10, e11, e12⟩, _⟩ := six hC2.1
  obtain ⟨⟨e30, e31, e32⟩, f30, f31, f32⟩ := six hC2.2.2
  have t1 := lt_in hC2.1; have t3 := lt_in hC2.2.2
  clear hC2
  go_upto_region 4 with (at_builtin; refine app_nil _ rfl _ _ 24 3 rfl j0 (.int .i64 0) 1 8 Try.underlying24 hj hy0 hy1 hy2 rfl (by decide) rfl _ n3 _ rfl (H3.out.below B2.out) (by omega) ?_; intro v3 W3 ho3 hb3; have C3 := Lib.hid (C2.out.up hb3); have O3 := Lib.hid ho3; have O13 := Lib.hid (own_below O2.out hb3); have B3 := Lib.hid (bw_tr B2.out hb3); obtain ⟨x3, y3, rfl⟩ := own_shape ho3; clear e10 e11 e12 e30 e31 e32 f30 f31 f32 t1 t3 ho3 hb3; obtain ⟨⟨e30, e31, e32⟩, f30, f31, f32⟩ := six C3.out.2.2; have t3 := lt_in C3.out.2.2)
  have hC4 : OwnC w.heap.size q (.slice a1 n1 c1) (.slice a2 n2 c2) (.slice a3 n3 c3) (.slice x1 n1 y1) (.slice none 0 0) (.slice x3 n3 y3) (W3.setCell ⟨q, 2, none⟩ (.slice x3 n3 y3)) :=
    ⟨(heap_set hqw.2.1).trans C3.out.1, (heap_set hqw.2.2).trans C3.out.2.1, set_in C3.out.2.2 2 _⟩
  have hO4 := own_base (own_cell (j := 2) (u := .slice x3 n3 y3) O13.out C3.out.2.2 (by decide)) B0.out.size
  have hO5 := own_base (own_cell (j := 2) (u := .slice x3 n3 y3) O3.out C3.out.2.2 (by decide)) B2.out.size
  have hB4 := bw_set B3.out hqw.1 (.slice x3 n3 y3) (o := 2)
  obtain ⟨W4, hW4⟩ : ∃ W4, W3.setCell ⟨q, 2, none⟩ (.slice x3 n3 y3) = W4 := ⟨_, rfl⟩
  rw [hW4] at hC4 hO4 hO5 hB4 ⊢
  have HO := Lib.hid (own_mem_new hC4.2.2 hqw.1 hO4 hO5 (row_apart O1.out O3.out SZ.out))
  have C4 := Lib.hid hC4; have HB := Lib.hid hB4
  clear hW4 hO4 hO5 hB4 e30 e31 e32 f30 f31 f32 t3 hC4 C0 C1 C2 C3 B0 B1 B2 B3 O1 O2 O3 O13 SZ
  generalize (.slice x1 n1 y1 : Value) = wv at *
  generalize (.slice x3 n3 y3 : Value) = rv at *
  go_wp2_with fail
  go_loopw [4] (fun i wr => ∃ (k : Nat) (pv : Value) (rs : List Value), k ≤ n2 ∧ i = .int .i64 k ∧ OwnMem wr w.heap.size q 27 ⟨m.words, m.pend.take k, m.res⟩ wv pv rv rs ∧ Below w.heap.size w wr ∧ OwnC w.heap.size q (.slice a1 n1 c1) (.slice a2 n2 c2) (.slice a3 n3 c3) wv pv rv wr) (fun i _ => n2 - (intOf i).toNat)
  case atStart => exact ⟨0, _, _, Nat.zero_le _, rfl, by simpa using HO.out, HB.out, C4.out⟩
  case round =>
    obtain ⟨k, pv, rs, hk, rfl, hown, hbb, hcc⟩ := hrel
    have HO' := Lib.hid hown; have HBB := Lib.hid hbb; have CC := Lib.hid hcc
    clear hown hbb hcc
    obtain ⟨⟨e10, e11, e12⟩, _⟩ := six CC.out.1
    have t1 := lt_in CC.out.1
    by_cases hlt : k < n2
    · obtain ⟨b, o, c, e2, hb2, hc2, hm2, hcell⟩ := H2.out.some (by omega)
      injection e2 with e3 e4 e5
      subst e3 e5
      have hkp : k < m.pend.length := by rw [HN2.out]; exact hlt
      have hkr : k < rows.length := by rw [H4.out.1]; exact hkp
      have hrow := (H4.out.2 k rows[k] m.pend[k] (by simp) (by simp))
      obtain ⟨ra, rc, hrs⟩ := own_shape hrow
      have hcl := hcell k rows[k] (by simp)
      rw [hrs] at hcl hrow
      have HR := Lib.hid (Reads.own hrow (entC_one _))
      have HCA := Lib.hid (CellAt.up ⟨hb2, hcl⟩ HBB.out)
      have hl8 := HS.out m.pend[k] (by simp)
      unfold maxLen at hm2
      clear hcell hrs hrow e4 hcl
      have HPk : Hid (m.pend.take (k + 1) = m.pend.take k ++ [m.pend[k]]) := Lib.hid (List.take_succ_eq_append_getElem hkp)
      have HTL : Hid ((m.pend.take k).length = k) := Lib.hid (by simp; omega)
      generalize m.pend[k] = L at *
      go_wp2_with fail
      clear e10 e11 e12 t1
      have ik : (k : Int) < (n2 : Int) := by omega
      have ik0 : (0 : Int) ≤ (k : Int) := by omega
      refine wp_region_ut (fun w' => OwnC w.heap.size q (.slice a1 n1 c1) (.slice (some ⟨b, o, none⟩) n2 c2) (.slice a3 n3 c3) wv pv rv w' ∧ CellAt w' b (o + k) (.slice ra L.length rc)) 10 [true, true, true, true, true, true, true] (by kernel_rfl) (by kernel_rfl) (by kernel_rfl) (fun _ _ h hu => ⟨h.1.up hu, h.2.up hu⟩) ⟨CC.out, HCA.out⟩ ?a2 ?h2 ?ht2
      case h2 =>
        intro w0 ⟨hcs, hca⟩
        obtain ⟨⟨k10, k11, k12⟩, _⟩ := six hcs.1
        obtain ⟨⟨k30, k31, k32⟩, _⟩ := six hcs.2.2
        have y1 := fun x => wd_cell (lt_in hcs.1) k11 x
        have y3 := fun x => wd_cell (lt_in hcs.2.2) k31 x
        have y4 := fun x => wd_cell hca.1 hca.2 x
        clear k10 k11 k12 k30 k31 k32 hcs hca
        simp only [pickM]
        repeat (go_big_quiet_step (fail))
        refine wpQuiet_nil ?_
        rfl
      case ht2 =>
        change headU _ _ _ _ _ _ 3 _ _ _
        refine headU_one (i := 7) (by kernel_rfl) (by decide) rfl ?_
        intro w1 hu1 ⟨hc1, hr1⟩
        have hbu : Below wr.heap.size wr w1 := (by repeat (first | (with_reducible exact Below.refl _ _) | (with_reducible refine bw_set ?_ ?_ _) | (with_reducible apply bw_alloc) | (with_reducible refine bw_tr ?_ (by with_reducible assumption)) | (with_reducible apply bw_drew) | omega))
        have O1 := Lib.hid (HO'.out.below hbu)
        have B1 : Hid (Below w.heap.size w w1) := Lib.hid (bw_tr HBB.out hbu)
        clear hbu hu1
        refine app_nil _ rfl _ _ 42 44 rfl l0 (.agg #[.int .i64 0, .int .i64 0]) 2 16 Try.underlying42 hl hx0 hx1 hx2 rfl (by decide) rfl _ L.length _ rfl (HR.out.below B1.out) (by omega) ?_
        intro v2 w2 hor hb2'
        obtain ⟨xr, yr, rfl⟩ := own_shape hor
        have HOR := Lib.hid hor; clear hor
        have B2 := Lib.hid hb2'
        go_wp2_with fail
        refine ⟨⟨hc1.up hb2', hr1.up hb2'⟩, ?_⟩
        clear hb2' hc1 hr1
        refine headU_one (i := 8) (by kernel_rfl) (by decide) rfl ?_
        intro w3 hu3 ⟨hc3, hr3⟩
        have B3 := Lib.hid (bw_tr B2.out hu3)
        have HOR3 := Lib.hid (own_below HOR.out hu3)
        clear hu3
        go_wp2_with fail
        refine ⟨⟨hc3.up (bel_new w3 _), hr3.up (bel_new w3 _)⟩, ?_⟩
        clear hc3 hr3
        refine headU_one (i := 9) (by kernel_rfl) (by decide) rfl ?_
        intro w4 hu4 ⟨hc4, hr4⟩
        have hcell4 : w4.cell? ⟨w3.heap.size, 0, none⟩ = some (.slice xr L.length yr) := cell_in (up_in hu4 (new_in w3 _)) rfl
        have hu4' : Below w3.heap.size w3 w4 := bw_tr (bel_new w3 _) hu4
        have B4 := Lib.hid (bw_tr B3.out hu4')
        have HOR4 := Lib.hid (own_below HOR3.out hu4')
        have O4 := Lib.hid (O1.out.below B4.out)
        have HC4 : Hid (∀ j u, [Value.slice xr L.length yr][j]? = some u → w4.cell? ((⟨w3.heap.size, 0, none⟩ : Addr).add j) = some u) := Lib.hid (fun j u hj => by
          have : j = 0 := by
            have := (List.getElem?_eq_some_iff.1 hj).1
            simp at this; exact this
          subst this
          simp at hj; subst hj
          rw [addr_add]; exact hcell4)
        have hsz : w.heap.size ≤ w4.heap.size := (bw_tr B1.out B4.out).size
        clear hu4 hu4' hcell4
        have hp4 : Hid (w4.ownsRow w.heap.size 42 1 pv k rs) := Lib.hid (by have := O4.out.pend; simp only at this; rwa [HTL.out] at this)
        obtain ⟨xp, yp, rfl⟩ := own_shape hp4.out
        have hby : (k + 1) * 24 ≤ 140737488355328 := by omega
        have hmx : k + 1 ≤ maxLen := by unfold maxLen; omega
        refine wpList_append_own _ rfl _ _ 25 rfl w.heap.size 42 i0 (.slice none 0 0) 1 24 Try.underlying25 hi hz0 hz1 hz2 rfl (by decide) _ _ _ rfl hp4.out ⟨w3.heap.size, 0, none⟩ 1 1 [.slice xr L.length yr] rfl rfl HC4.out (by simp [Value.oneCell']) hmx hby hsz ?_
        intro v' w5 hown5 hgrow5 _
        obtain ⟨xv, yv, rfl⟩ := own_shape hown5
        have HO5 := Lib.hid hown5; have HG5 := Lib.hid hgrow5
        clear hown5 hgrow5
        have hC5 : OwnC w.heap.size q (.slice a1 n1 c1) (.slice (some ⟨b, o, none⟩) n2 c2) (.slice a3 n3 c3) wv (.slice xp k yp) rv w5 :=
          ⟨(HG5.out.block _ (lt_in hc4.1) (fun e => own_not hp4.out hc4.1 (by decide) e.symm)).trans hc4.1, (HG5.out.block _ (lt_in hc4.2.1) (fun e => own_not hp4.out hc4.2.1 (by decide) e.symm)).trans hc4.2.1, (HG5.out.block _ (lt_in hc4.2.2) (fun e => own_not hp4.out hc4.2.2 (by decide) e.symm)).trans hc4.2.2⟩
        have hr5 : CellAt w5 b (o + k) (.slice ra L.length rc) := by
          have e := HG5.out.block b hr4.1 (fun e => by have := (hp4.out.lt b e.symm).1; omega)
          refine ⟨Nat.lt_of_lt_of_le hr4.1 HG5.out.size, ?_⟩
          have h2 := hr4.2
          unfold World.cell? at h2 ⊢
          simp only [e]
          exact h2
        go_wp2_with fail
        refine ⟨⟨hC5, hr5⟩, ?_⟩
        clear hC5 hr5 hc4 hr4
        refine headU_end (by kernel_rfl) ?_
        intro w6 hu6 ⟨hc6, _⟩
        obtain ⟨⟨k0, k1, k2⟩, f0, f1, f2⟩ := six hc6.2.2
        have t6 := lt_in hc6.2.2
        have HU6 := Lib.hid hu6; have HX6 := Lib.hid hc6
        clear hu6 hc6
        have P6 := Lib.hid (O1.out.push (by decide) (by decide) (by decide) B4.out HOR4.out (pv' := .slice xv (k + 1) yv) (w2 := w6) (by have := own_below HO5.out HU6.out; simpa [HTL.out] using this) (grown_tr HG5.out HG5.out.size HU6.out) B1.out.size)
        simp only [List.drop_succ_cons, List.drop_zero]
        go_wp2_with fail
        go_roundw
        case rel => exact ⟨k + 1, _, _, by omega, by go_num, by rw [HPk.out]; exact P6.out, (bw_set (bw_tr (grown_bel (bw_tr B1.out B4.out) HG5.out (by intro g e; exact (hp4.out.lt g e).1)) HU6.out) hqw.1 _), (heap_set hqw.2.1).trans HX6.out.1, (heap_set hqw.2.2).trans HX6.out.2.1, set_in HX6.out.2.2 1 _⟩
        case measure => simp [intOf]; omega
    · have hkn : k = n2 := by omega
      subst hkn
      have O7 : Hid (OwnMem wr w.heap.size q 27 m wv pv rv rs) := Lib.hid (by
        have := HO'.out
        rw [← HN2.out, List.take_length] at this
        exact this)
      clear HO' HS
      obtain ⟨xw, yw, rfl⟩ := own_shape O7.out.words; obtain ⟨xp, yp, rfl⟩ := own_shape O7.out.pend; obtain ⟨xv, yv, rfl⟩ := own_shape O7.out.res
      obtain ⟨⟨e30, e31, e32⟩, _⟩ := six CC.out.2.2
      obtain ⟨⟨e20, e21, e22⟩, f20, f21, f22⟩ := six CC.out.2.1
      have t2 := lt_in CC.out.2.1; have t3 := lt_in CC.out.2.2
      go_wp2_with fail
      have s3 := set3_spec (x := .slice xw m.words.length yw) (y := .slice xp m.pend.length yp) (z := .slice xv m.res.length yv) CC.out.2.1
      obtain ⟨k0, k1, k2⟩ := three_cells s3.1
      have OE := Lib.hid (O7.out.set3 (.slice xw m.words.length yw) (.slice xp m.pend.length yp) (.slice xv m.res.length yv) CC.out.2.1 (Ne.symm hqw.2.2))
      have BE := Lib.hid (bel_set3 (x := .slice xw m.words.length yw) (y := .slice xp m.pend.length yp) (z := .slice xv m.res.length yv) HBB.out (by omega : w.heap.size ≤ w.heap.size + 1))
      exact bodyPost_ret (v := .agg #[.slice xw m.words.length yw, .slice xp m.pend.length yp, .slice xv m.res.length yv]) (by simp [results, Try.results53, go_sem, k0, k1, k2]) rfl ⟨_, _, _, _, _, rfl, OE.out, BE.out⟩
end Go.Proofs.Ytkhobelceghgfaa
