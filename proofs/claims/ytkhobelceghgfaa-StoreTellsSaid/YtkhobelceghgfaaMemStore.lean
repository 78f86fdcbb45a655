/-
  The contracts of store's Reserve, Conditional, Change, Store.
-/
import Derived.Test.YtkhobelceghgfaaMemDrain
import Derived.Test.YtkhobelceghgfaaQuietU
import Derived.Test.YtkhobelceghgfaaWrapMath2
import Derived.Deep.QuietTactic
import Derived.BigQuiet
import Derived.RegionTactic
import Derived.ChangeAlike
namespace Go.Proofs.Ytkhobelceghgfaa
open Go.RowKit
/-- The answer of what makes a memory: the memory and the error. -/
def MemRet (w : World) (B : Nat) (r : Mem × Int) (e : Ending) (w' : World) : Prop := ∃ v', e = .returned (.tuple #[v', .int .i64 r.2]) ∧ IsMem w' v' r.1 ∧ Below B w w'
def MemRet3 (w : World) (B : Nat) (u : Value) (r : Mem × Int) (e : Ending) (w' : World) : Prop := ∃ v', e = .returned (.tuple #[u, v', .int .i64 r.2]) ∧ IsMem w' v' r.1 ∧ Below B w w'
abbrev zM : Obj := .cells #[.slice none 0 0, .slice none 0 0, .slice none 0 0] 27
theorem isMem_set3 {w : World} {q : Nat} {z0 z1 z2 v : Value} {m : Mem} (x y z : Value) (hm : IsMem w v m) (hq : w.heap[q]? = some (.cells #[z0, z1, z2] 27 (0, 0))) : IsMem (((w.setCell ⟨q, 0, none⟩ x).setCell ⟨q, 1, none⟩ y).setCell ⟨q, 2, none⟩ z) v m := by
  have h0 := set_in hq 0 x
  have h1 := set_in h0 1 y
  exact ((hm.setVar hq (by decide) (by decide) (by decide)).setVar h0 (by decide) (by decide) (by decide)).setVar h1 (by decide) (by decide) (by decide)
theorem six {w : World} {b : Nat} {x y z : Value} {t : TypeId} (h : w.heap[b]? = some (.cells #[x, y, z] t (0, 0))) : (w.cell? ⟨b, 0, none⟩ = some x ∧ w.cell? ⟨b, 1, none⟩ = some y ∧ w.cell? ⟨b, 2, none⟩ = some z) ∧ (w.frozen? ⟨b, 0, none⟩ = false ∧ w.frozen? ⟨b, 1, none⟩ = false ∧ w.frozen? ⟨b, 2, none⟩ = false) :=
  ⟨three_cells h, frozen_in h 0, frozen_in h 1, frozen_in h 2⟩
set_option maxHeartbeats 2000000 in
theorem reserve_any (v : Value) (m : Mem) (h a : Int) (w : World) (hm : IsMem w v m) (hs : Small m) :
    Calls Try.prog 20 #[v, .int .i64 h, .int .i64 a] w (MemRet3 w w.heap.size (.int .i64 (reserveR m h a).1) ((reserveR m h a).2)) := by
  have HM := Lib.hid hm; have HS := Lib.hid hs
  obtain ⟨a1, c1, a2, c2, a3, c3, rows, rfl, _, _, _, _⟩ := hm.parts
  cases he : (onceE m h a == 0)
  · have HE := Lib.hid he
    have hr : reserveR m h a = (0, noMem, onceE m h a) := by unfold reserveR; rw [if_neg (by simpa using he)]
    rw [hr]
    have he' : (onceE m h a != 0) = true := by simpa [bne] using he
    clear hm he
    generalize hon : onceE m h a = er at *
    have HON := Lib.hid hon; clear hon
    generalize m.words.length = n1 at *
    generalize m.pend.length = n2 at *
    generalize m.res.length = n3 at *
    unfold MemRet3
    go_enter Try.func20, Try.ntmps20
    go_wp2_with fail
    refine (once_any _ m h a er _ (HM.out.below (by repeat (first | (with_reducible exact Below.refl _ _) | (with_reducible refine bw_set ?_ ?_ _) | (with_reducible apply bw_alloc) | (with_reducible refine bw_tr ?_ (by with_reducible assumption)) | (with_reducible apply bw_drew) | omega))) HON.out).mono ?_
    rintro e w1 ⟨rfl, hb1⟩
    have hq : w1.heap[w.heap.size + 1]? = some (.cells #[.slice none 0 0, .slice none 0 0, .slice none 0 0] 27 (0, 0)) := up_in hb1 (by have := new_in (w.alloc (.cells #[.slice a1 n1 c1, .slice a2 n2 c2, .slice a3 n3 c3] 27)) zM; simpa using this)
    obtain ⟨⟨k0, k1, k2⟩, f0, f1, f2⟩ := six hq
    obtain ⟨s0, s1, s2⟩ := three_cells (set3_spec (x := .slice none 0 0) (y := .slice none 0 0) (z := .slice none 0 0) hq).1
    have HB : Hid (Below w.heap.size w w1) := Lib.hid ((by repeat (first | (with_reducible exact Below.refl _ _) | (with_reducible refine bw_set ?_ ?_ _) | (with_reducible apply bw_alloc) | (with_reducible refine bw_tr ?_ (by with_reducible assumption)) | (with_reducible apply bw_drew) | omega)))
    clear hq hb1
    go_wp2_with fail
    exact bodyPost_ret (v := .tuple #[.int .i64 0, .agg #[.slice none 0 0, .slice none 0 0, .slice none 0 0], .int .i64 er]) (by simp [results, Try.results20, go_sem, s0, s1, s2]) rfl ⟨_, rfl, isMem_no _, bel_set3 HB.out (by omega)⟩
  · have he0 : onceE m h a = 0 := by simpa using he
    have hh : hasB m h a = true := by
      cases e : hasB m h a
      · unfold onceE at he0; rw [e] at he0; simp at he0
      · rfl
    obtain ⟨h0, h1, h2, h3, h4⟩ := hasB_spec hh
    have hr : reserveR m h a = (wordOf m a, setRes m h a, 0) := by unfold reserveR; rw [if_pos he0]
    rw [hr]
    have HON := Lib.hid he0
    clear hm he he0 hh hr
    unfold MemRet3
    generalize hn1 : m.words.length = n1 at *
    generalize hn2 : m.pend.length = n2 at *
    generalize hn3 : m.res.length = n3 at *
    have HN1 := Lib.hid hn1; have HN2 := Lib.hid hn2; have HN3 := Lib.hid hn3
    clear hn1 hn2 hn3
    go_enter Try.func20, Try.ntmps20
    go_wp2_with fail
    refine (once_any _ m h a 0 _ (HM.out.below (by repeat (first | (with_reducible exact Below.refl _ _) | (with_reducible refine bw_set ?_ ?_ _) | (with_reducible apply bw_alloc) | (with_reducible refine bw_tr ?_ (by with_reducible assumption)) | (with_reducible apply bw_drew) | omega))) HON.out).mono ?_
    rintro e w1 ⟨rfl, hb1⟩
    have hq1 : w1.heap[w.heap.size + 1]? = some (.cells #[.slice none 0 0, .slice none 0 0, .slice none 0 0] 27 (0, 0)) := up_in hb1 (by have := new_in (w.alloc (.cells #[.slice a1 n1 c1, .slice a2 n2 c2, .slice a3 n3 c3] 27)) zM; simpa using this)
    have hx1 : w1.heap[w.heap.size]? = some (.cells #[.slice a1 n1 c1, .slice a2 n2 c2, .slice a3 n3 c3] 27 (0, 0)) := up_in hb1 (up_in (bel_new _ _) (new_in w _))
    obtain ⟨k0, k1, k2⟩ := three_cells hx1
    have B1 : Hid (Below w.heap.size w w1) := Lib.hid ((by repeat (first | (with_reducible exact Below.refl _ _) | (with_reducible refine bw_set ?_ ?_ _) | (with_reducible apply bw_alloc) | (with_reducible refine bw_tr ?_ (by with_reducible assumption)) | (with_reducible apply bw_drew) | omega)))
    have HQ1 := Lib.hid hq1; have HB1 := Lib.hid hb1
    have sz1 : w.heap.size + 1 + 1 ≤ w1.heap.size := by have := hb1.size; simpa using this
    clear hq1 hx1 hb1
    go_wp2_with fail
    refine (of_any _ m _ (HM.out.below B1.out) HS.out).mono ?_
    rintro e w2 ⟨p, wv, pv, rv, rs, rfl, ho2, hb2⟩
    have HQ2 := Lib.hid (up_in hb2 HQ1.out); have HB2 := Lib.hid hb2
    have B2 : Hid (Below w.heap.size w w2) := Lib.hid (bw_tr B1.out hb2)
    clear k0 k1 k2 HQ1 hb2
    obtain ⟨gw, cw, rfl, hcw, hmw⟩ := own_some ho2.words (by rw [HN1.out]; omega)
    obtain ⟨gr, cr, rfl, hcr, hmr⟩ := own_some ho2.res (by rw [HN3.out]; omega)
    obtain ⟨ap, cp, rfl⟩ := own_shape ho2.pend
    have hgr := (ho2.res.lt gr rfl).1
    have hgp := ho2.base
    have t012 := three_cells ho2.at_
    have hat := ho2.at_
    obtain ⟨u1, u2⟩ := own_cell1 ho2.res (k := h.toNat) (intC_at m.res h.toNat (by rw [HN3.out]; omega))
    have HO3 := Lib.hid (ho2.setResv (by decide) rfl h.toNat a)
    unfold maxLen at hmw hmr
    clear ho2
    rw [HN1.out] at t012 hcw hat HO3
    rw [HN2.out] at t012 hat HO3
    rw [HN3.out] at t012 hcr hat HO3
    have HW : Hid (wordOf m a = m.words[a.toNat]'(by rw [HN1.out]; omega)) := Lib.hid (by unfold wordOf; simp [List.getD_eq_getElem?_getD, HN1.out, show a.toNat < n1 by omega])
    have HC3 : Hid ((w2.setCell ⟨gr, h.toNat, none⟩ (.int .i64 a)).cell? ⟨gw, a.toNat, none⟩ = some (.int .i64 (wordOf m a))) := Lib.hid (by
      have hw := HO3.out.words
      simp only at hw
      rw [HN1.out] at hw
      rw [HW.out]; exact (own_cell1 hw (k := a.toNat) (intC_at m.words a.toNat (by rw [HN1.out]; omega))).1)
    obtain ⟨t0, t1, t2⟩ := t012
    have B3 : Hid (Below w.heap.size w (w2.setCell ⟨gr, h.toNat, none⟩ (.int .i64 a))) := Lib.hid (bw_set B2.out (by omega) _)
    have HQ3 : Hid ((w2.setCell ⟨gr, h.toNat, none⟩ (.int .i64 a)).heap[w.heap.size + 1]? = some (.cells #[.slice none 0 0, .slice none 0 0, .slice none 0 0] 27 (0, 0))) := Lib.hid (by rw [heap_set (by omega)]; exact HQ2.out)
    have hgl : gw < (w2.setCell ⟨gr, h.toNat, none⟩ (.int .i64 a)).heap.size := (HO3.out.words.lt gw rfl).2
    clear hat
    go_wp2_with fail
    obtain ⟨w3, hw3⟩ : ∃ w3, w2.setCell ⟨gr, h.toNat, none⟩ (.int .i64 a) = w3 := ⟨_, rfl⟩
    rw [hw3] at HC3 B3 HQ3 HO3 hgl
    rw [hw3]
    have s3 := B3.out.size
    clear hw3 t0 t1 t2 u1 u2 HQ2 B2 HB2
    have lp := lt_in HO3.out.at_
    have hqn := lt_in HQ3.out
    have hpq : w.heap.size + 1 ≠ p := by omega
    have hgwq : gw ≠ w.heap.size + 1 := by have := (HO3.out.words.lt gw rfl).1; omega
    refine wp_region_up (fun w' => p < w'.heap.size ∧ gw < w'.heap.size ∧ w'.heap[p]? = some (.cells #[.slice (some ⟨gw, 0, none⟩) n1 cw, .slice ap n2 cp, .slice (some ⟨gr, 0, none⟩) n3 cr] 66 (0, 0)) ∧ w'.cell? ⟨gw, a.toNat, none⟩ = some (.int .i64 (wordOf m a))) [true, true, true, true, true, true, true, true, true, true, true, true] (by kernel_rfl) (by kernel_rfl) (by kernel_rfl)
      (fun w1 w2 h hu => ⟨Nat.lt_of_lt_of_le h.1 hu.size, Nat.lt_of_lt_of_le h.2.1 hu.size, up_in hu h.2.2.1, by rw [hu.cell (p := ⟨gw, _, none⟩) h.2.1]; exact h.2.2.2⟩) ⟨lp, hgl, HO3.out.at_, HC3.out⟩ ?a' ?h ?ht
    case h =>
      intro w0 ⟨l1, l2, c1, c2⟩
      obtain ⟨k0, k1, k2⟩ := three_cells c1
      have y0 := fun x => wd_cell l1 k0 x
      have y1 := fun x => wd_cell l1 k1 x
      have y2 := fun x => wd_cell l1 k2 x
      have y3 := fun x => wd_cell l2 c2 x
      clear c1 c2 k0 k1 k2
      simp only [pickM]
      repeat (go_big_quiet_step (fail))
      refine wpQuiet_nil ?_
      rfl
    case ht =>
      change wpAnyU _ _ _ _ _ 3 _ _ _
      refine anyU_one (i := 12) (by kernel_rfl) rfl ?_
      intro w4 hu4 hc4
      have HU4 : Hid (Up w3 w4) := Lib.hid (bw_undrew hu4)
      have HC4 := Lib.hid hc4
      clear hu4 hc4
      go_wp2_with fail
      refine ⟨HC4.out, ?_⟩
      refine anyU_one (i := 13) (by kernel_rfl) rfl ?_
      intro w5 hu5 hc5
      have HU5 : Hid (Up w3 w5) := Lib.hid (up_tr HU4.out hu5)
      have HC5 := Lib.hid hc5
      clear hu5 hc5
      have HQ5 := Lib.hid (up_in HU5.out HQ3.out)
      obtain ⟨⟨v0, v1, v2⟩, f0, f1, f2⟩ := six HQ5.out
      go_wp2_with fail
      have HQ6 := Lib.hid (set3_spec (x := .slice (some ⟨gw, 0, none⟩) n1 cw) (y := .slice ap n2 cp) (z := .slice (some ⟨gr, 0, none⟩) n3 cr) HQ5.out)
      refine ⟨⟨by simp only [size_set]; exact HC5.out.1, by simp only [size_set]; exact HC5.out.2.1, by rw [HQ6.out.2 p (Ne.symm hpq)]; exact HC5.out.2.2.1, by rw [World.cell?_of_block (a := ⟨gw, a.toNat, none⟩) (HQ6.out.2 gw hgwq)]; exact HC5.out.2.2.2⟩, ?_⟩
      have HM6 := Lib.hid (isMem_set3 (.slice (some ⟨gw, 0, none⟩) n1 cw) (.slice ap n2 cp) (.slice (some ⟨gr, 0, none⟩) n3 cr) ((HO3.out.isMem).below HU5.out) HQ5.out)
      have B6 := Lib.hid (bel_set3 (x := .slice (some ⟨gw, 0, none⟩) n1 cw) (y := .slice ap n2 cp) (z := .slice (some ⟨gr, 0, none⟩) n3 cr) (bw_tr B3.out HU5.out) (show w.heap.size ≤ w.heap.size + 1 by omega))
      have HQ7 := Lib.hid (HQ6.out.1)
      clear v0 v1 v2 f0 f1 f2 HQ6
      refine anyU_one (i := 14) (by kernel_rfl) rfl ?_
      intro w7 hu7 hc7
      have HM7 := Lib.hid (HM6.out.below hu7); have B7 := Lib.hid (bw_tr B6.out hu7); have HQ8 := Lib.hid (up_in hu7 HQ7.out); have HC7 := Lib.hid hc7
      clear hu7 hc7
      go_wp2_with fail
      refine ⟨HC7.out, ?_⟩
      refine anyU_nil (by kernel_rfl) ?_
      intro w8 hu8 _
      have HM8 := Lib.hid (HM7.out.below hu8); have B8 := Lib.hid (bw_tr B7.out hu8)
      obtain ⟨r0, r1, r2⟩ := three_cells (up_in hu8 HQ8.out)
      clear hu8
      go_wp2_with fail
      exact bodyPost_ret (v := .tuple #[.int .i64 (wordOf m a), .agg #[.slice (some ⟨gw, 0, none⟩) n1 cw, .slice ap n2 cp, .slice (some ⟨gr, 0, none⟩) n3 cr], .int .i64 0]) (by simp [results, Try.results20, go_sem, r0, r1, r2]) rfl ⟨_, rfl, HM8.out, B8.out⟩
end Go.Proofs.Ytkhobelceghgfaa
