/-
  What the walks of this statement lean on (MemStore, MemStore2, MemStore3, MemIdx, MemDrain2, MemFlush, MemBack): shown.
-/
import Derived.Test.YtdobddiibgfeaaaGreatZk
import Derived.Test.YtdobddiibgfeaaaGreatZa
import Derived.Test.YtdobddiibgfeaaaGreatZb
import Derived.Deep.QuietTactic
import Derived.BigQuiet
import Derived.RegionTactic
import Derived.ChangeAlike
import Derived.RangeFuncNested
import Derived.RangeFuncBound
import Derived.RangeFuncCalls
import Derived.RangeFuncLeaves
import Derived.Shelf.Abstract
import Derived.Shelf.RegionOpen
import Derived.WalkKit
import Derived.OwnWalkIn
import Derived.TacticsInMore
import Derived.LoopNIn
import Derived.LoopIn
set_option linter.unusedVariables false
set_option linter.unusedSimpArgs false
namespace Go.Proofs.YtdobddiibgfeaaaGreat
section
open Go.RowKit
def zej (w : World) (B : Nat) (r : Mem × Int) (e : Ending) (w' : World) : Prop := ∃ v', e = .returned (.tuple #[v', .int .i64 r.2]) ∧ IsMem w' v' r.1 ∧ Below B w w'
def zd1 (w : World) (B : Nat) (u : Value) (r : Mem × Int) (e : Ending) (w' : World) : Prop := ∃ v', e = .returned (.tuple #[u, v', .int .i64 r.2]) ∧ IsMem w' v' r.1 ∧ Below B w w'
abbrev zM : Obj := .cells #[.slice none 0 0, .slice none 0 0, .slice none 0 0] 33
theorem zbt {w : World} {q : Nat} {z0 z1 z2 v : Value} {m : Mem} (x y z : Value) (hm : IsMem w v m) (hq : w.heap[q]? = some (.cells #[z0, z1, z2] 33 (0, 0))) : IsMem (((w.setCell ⟨q, 0, none⟩ x).setCell ⟨q, 1, none⟩ y).setCell ⟨q, 2, none⟩ z) v m := by
 have h0 := zaG hq 0 x
 have h1 := zaG h0 1 y
 exact ((hm.setVar hq (by decide) (by decide) (by decide)).setVar h0 (by decide) (by decide) (by decide)).setVar h1 (by decide) (by decide) (by decide)
theorem six {w : World} {b : Nat} {x y z : Value} {t : TypeId} (h : w.heap[b]? = some (.cells #[x, y, z] t (0, 0))) : (w.cell? ⟨b, 0, none⟩ = some x ∧ w.cell? ⟨b, 1, none⟩ = some y ∧ w.cell? ⟨b, 2, none⟩ = some z) ∧ (w.frozen? ⟨b, 0, none⟩ = false ∧ w.frozen? ⟨b, 1, none⟩ = false ∧ w.frozen? ⟨b, 2, none⟩ = false) :=
 ⟨zah h, zaa h 0, zaa h 1, zaa h 2⟩
set_option maxHeartbeats 2000000 in
theorem zig (v : Value) (m : Mem) (h a : Int) (w : World) (hm : IsMem w v m) (hs : Small m) :
 Calls Tryz.prog 162 #[v, .int .i64 h, .int .i64 a] w (zd1 w w.heap.size (.int .i64 (zbJ m h a).1) ((zbJ m h a).2)) := by
 have HM := zhd hm; have HS := zhd hs
 obtain ⟨a1, c1, a2, c2, a3, c3, rows, rfl, _, _, _, _⟩ := hm.parts
 cases he : (zca m h a == 0)
 · have HE := zhd he
   have hr : zbJ m h a = (0, zdD, zca m h a) := by unfold zbJ; rw [if_neg (by simpa using he)]
   rw [hr]
   have he' : (zca m h a != 0) = true := by simpa [bne] using he
   clear hm he
   generalize hon : zca m h a = er at *
   have HON := zhd hon; clear hon
   generalize m.words.length = n1 at *
   generalize m.pend.length = n2 at *
   generalize m.res.length = n3 at *
   unfold zd1
   go_enter Tryz.func162, Tryz.ntmps162
   go_wp2_with fail
   refine (zcP _ m h a er _ (HM.out.below (by repeat (first | (with_reducible first | exact Below.refl _ _ | refine zaj ?_ ?_ _ | apply zag | refine zae ?_ (by assumption) | apply zak) | omega))) HON.out).mono ?_
   rintro e w1 ⟨rfl, hb1⟩
   have hq : w1.heap[w.heap.size + 1]? = some (.cells #[.slice none 0 0, .slice none 0 0, .slice none 0 0] 33 (0, 0)) := zaf hb1 (by have := zat (w.alloc (.cells #[.slice a1 n1 c1, .slice a2 n2 c2, .slice a3 n3 c3] 33)) zM; simpa using this)
   obtain ⟨⟨k0, k1, k2⟩, f0, f1, f2⟩ := six hq
   obtain ⟨s0, s1, s2⟩ := zah (zaR (x := .slice none 0 0) (y := .slice none 0 0) (z := .slice none 0 0) hq).1
   have HB : Hid (Below w.heap.size w w1) := zhd ((by repeat (first | (with_reducible first | exact Below.refl _ _ | refine zaj ?_ ?_ _ | apply zag | refine zae ?_ (by assumption) | apply zak) | omega)))
   clear hq hb1
   go_wp2_with fail
   exact bodyPost_ret (v := .tuple #[.int .i64 0, .agg #[.slice none 0 0, .slice none 0 0, .slice none 0 0], .int .i64 er]) (by simp [results, Tryz.results162, go_sem, s0, s1, s2]) rfl ⟨_, rfl, zb3 _, za9 HB.out (by omega)⟩
 · have he0 : zca m h a = 0 := by simpa using he
   have hh : hasB m h a = true := by
    cases e : hasB m h a
    · unfold zca at he0; rw [e] at he0; simp at he0
    · rfl
   obtain ⟨h0, h1, h2, h3, h4⟩ := zcG hh
   have hr : zbJ m h a = (zbR m a, zdK m h a, 0) := by unfold zbJ; rw [if_pos he0]
   rw [hr]
   have HON := zhd he0
   clear hm he he0 hh hr
   unfold zd1
   generalize hn1 : m.words.length = n1 at *
   generalize hn2 : m.pend.length = n2 at *
   generalize hn3 : m.res.length = n3 at *
   have HN1 := zhd hn1; have HN2 := zhd hn2; have HN3 := zhd hn3
   clear hn1 hn2 hn3
   go_enter Tryz.func162, Tryz.ntmps162
   go_wp2_with fail
   refine (zcP _ m h a 0 _ (HM.out.below (by repeat (first | (with_reducible first | exact Below.refl _ _ | refine zaj ?_ ?_ _ | apply zag | refine zae ?_ (by assumption) | apply zak) | omega))) HON.out).mono ?_
   rintro e w1 ⟨rfl, hb1⟩
   have hq1 : w1.heap[w.heap.size + 1]? = some (.cells #[.slice none 0 0, .slice none 0 0, .slice none 0 0] 33 (0, 0)) := zaf hb1 (by have := zat (w.alloc (.cells #[.slice a1 n1 c1, .slice a2 n2 c2, .slice a3 n3 c3] 33)) zM; simpa using this)
   have hx1 : w1.heap[w.heap.size]? = some (.cells #[.slice a1 n1 c1, .slice a2 n2 c2, .slice a3 n3 c3] 33 (0, 0)) := zaf hb1 (zaf (zan _ _) (zat w _))
   obtain ⟨k0, k1, k2⟩ := zah hx1
   have B1 : Hid (Below w.heap.size w w1) := zhd ((by repeat (first | (with_reducible first | exact Below.refl _ _ | refine zaj ?_ ?_ _ | apply zag | refine zae ?_ (by assumption) | apply zak) | omega)))
   have HQ1 := zhd hq1; have HB1 := zhd hb1
   have sz1 : w.heap.size + 1 + 1 ≤ w1.heap.size := by have := hb1.size; simpa using this
   clear hq1 hx1 hb1
   go_wp2_with fail
   refine (zfG _ m _ (HM.out.below B1.out) HS.out).mono ?_
   rintro e w2 ⟨p, wv, pv, rv, rs, rfl, ho2, hb2⟩
   have HQ2 := zhd (zaf hb2 HQ1.out); have HB2 := zhd hb2
   have B2 : Hid (Below w.heap.size w w2) := zhd (zae B1.out hb2)
   clear k0 k1 k2 HQ1 hb2
   obtain ⟨gw, cw, rfl, hcw, hmw⟩ := zb1 ho2.words (by rw [HN1.out]; omega)
   obtain ⟨gr, cr, rfl, hcr, hmr⟩ := zb1 ho2.res (by rw [HN3.out]; omega)
   obtain ⟨ap, cp, rfl⟩ := zai ho2.pend
   have hgr := (ho2.res.lt gr rfl).1
   have hgp := ho2.base
   have t012 := zah ho2.at_
   have hat := ho2.at_
   obtain ⟨u1, u2⟩ := zcc ho2.res (k := h.toNat) (ziw m.res h.toNat (by rw [HN3.out]; omega))
   have HO3 := zhd (ho2.setResv (by decide) rfl h.toNat a)
   unfold maxLen at hmw hmr
   clear ho2
   rw [HN1.out] at t012 hcw hat HO3
   rw [HN2.out] at t012 hat HO3
   rw [HN3.out] at t012 hcr hat HO3
   have HW : Hid (zbR m a = m.words[a.toNat]'(by rw [HN1.out]; omega)) := zhd (by unfold zbR; simp [List.getD_eq_getElem?_getD, HN1.out, show a.toNat < n1 by omega])
   have HC3 : Hid ((w2.setCell ⟨gr, h.toNat, none⟩ (.int .i64 a)).cell? ⟨gw, a.toNat, none⟩ = some (.int .i64 (zbR m a))) := zhd (by
    have hw := HO3.out.words
    simp only at hw
    rw [HN1.out] at hw
    rw [HW.out]; exact (zcc hw (k := a.toNat) (ziw m.words a.toNat (by rw [HN1.out]; omega))).1)
   obtain ⟨t0, t1, t2⟩ := t012
   have B3 : Hid (Below w.heap.size w (w2.setCell ⟨gr, h.toNat, none⟩ (.int .i64 a))) := zhd (zaj B2.out (by omega) _)
   have HQ3 : Hid ((w2.setCell ⟨gr, h.toNat, none⟩ (.int .i64 a)).heap[w.heap.size + 1]? = some (.cells #[.slice none 0 0, .slice none 0 0, .slice none 0 0] 33 (0, 0))) := zhd (by rw [zaD (by omega)]; exact HQ2.out)
   have hgl : gw < (w2.setCell ⟨gr, h.toNat, none⟩ (.int .i64 a)).heap.size := (HO3.out.words.lt gw rfl).2
   clear hat
   go_wp2_with fail
   obtain ⟨w3, hw3⟩ : ∃ w3, w2.setCell ⟨gr, h.toNat, none⟩ (.int .i64 a) = w3 := ⟨_, rfl⟩
   rw [hw3] at HC3 B3 HQ3 HO3 hgl
   rw [hw3]
   have s3 := B3.out.size
   clear hw3 t0 t1 t2 u1 u2 HQ2 B2 HB2
   have lp := zao HO3.out.at_
   have hqn := zao HQ3.out
   have hpq : w.heap.size + 1 ≠ p := by omega
   have hgwq : gw ≠ w.heap.size + 1 := by have := (HO3.out.words.lt gw rfl).1; omega
   refine zaV (fun w' => p < w'.heap.size ∧ gw < w'.heap.size ∧ w'.heap[p]? = some (.cells #[.slice (some ⟨gw, 0, none⟩) n1 cw, .slice ap n2 cp, .slice (some ⟨gr, 0, none⟩) n3 cr] 187 (0, 0)) ∧ w'.cell? ⟨gw, a.toNat, none⟩ = some (.int .i64 (zbR m a))) [true, true, true, true, true, true, true, true, true, true, true, true] (by kernel_rfl) (by kernel_rfl) (by kernel_rfl)
    (fun w1 w2 h hu => ⟨Nat.lt_of_lt_of_le h.1 hu.size, Nat.lt_of_lt_of_le h.2.1 hu.size, zaf hu h.2.2.1, by rw [hu.cell (p := ⟨gw, _, none⟩) h.2.1]; exact h.2.2.2⟩) ⟨lp, hgl, HO3.out.at_, HC3.out⟩ ?a' ?h ?ht
   case h =>
    intro w0 ⟨l1, l2, c1, c2⟩
    obtain ⟨k0, k1, k2⟩ := zah c1
    have y0 := fun x => zal l1 k0 x
    have y1 := fun x => zal l1 k1 x
    have y2 := fun x => zal l1 k2 x
    have y3 := fun x => zal l2 c2 x
    clear c1 c2 k0 k1 k2
    simp only [zbb]
    repeat (go_big_quiet_step (fail))
    refine wpQuiet_nil ?_
    rfl
   case ht =>
    change zbh _ _ _ _ _ 3 _ _ _
    refine zaA (i := 12) (by kernel_rfl) rfl ?_
    intro w4 hu4 hc4
    have HU4 : Hid (Up w3 w4) := zhd (zbk hu4)
    have HC4 := zhd hc4
    clear hu4 hc4
    go_wp2_with fail
    refine ⟨HC4.out, ?_⟩
    refine zaA (i := 13) (by kernel_rfl) rfl ?_
    intro w5 hu5 hc5
    have HU5 : Hid (Up w3 w5) := zhd (zcI HU4.out hu5)
    have HC5 := zhd hc5
    clear hu5 hc5
    have HQ5 := zhd (zaf HU5.out HQ3.out)
    obtain ⟨⟨v0, v1, v2⟩, f0, f1, f2⟩ := six HQ5.out
    go_wp2_with fail
    have HQ6 := zhd (zaR (x := .slice (some ⟨gw, 0, none⟩) n1 cw) (y := .slice ap n2 cp) (z := .slice (some ⟨gr, 0, none⟩) n3 cr) HQ5.out)
    refine ⟨⟨by simp only [zaH]; exact HC5.out.1, by simp only [zaH]; exact HC5.out.2.1, by rw [HQ6.out.2 p (Ne.symm hpq)]; exact HC5.out.2.2.1, by rw [World.cell?_of_block (a := ⟨gw, a.toNat, none⟩) (HQ6.out.2 gw hgwq)]; exact HC5.out.2.2.2⟩, ?_⟩
    have HM6 := zhd (zbt (.slice (some ⟨gw, 0, none⟩) n1 cw) (.slice ap n2 cp) (.slice (some ⟨gr, 0, none⟩) n3 cr) ((HO3.out.isMem).below HU5.out) HQ5.out)
    have B6 := zhd (za9 (x := .slice (some ⟨gw, 0, none⟩) n1 cw) (y := .slice ap n2 cp) (z := .slice (some ⟨gr, 0, none⟩) n3 cr) (zae B3.out HU5.out) (show w.heap.size ≤ w.heap.size + 1 by omega))
    have HQ7 := zhd (HQ6.out.1)
    clear v0 v1 v2 f0 f1 f2 HQ6
    refine zaA (i := 14) (by kernel_rfl) rfl ?_
    intro w7 hu7 hc7
    have HM7 := zhd (HM6.out.below hu7); have B7 := zhd (zae B6.out hu7); have HQ8 := zhd (zaf hu7 HQ7.out); have HC7 := zhd hc7
    clear hu7 hc7
    go_wp2_with fail
    refine ⟨HC7.out, ?_⟩
    refine zbv (by kernel_rfl) ?_
    intro w8 hu8 _
    have HM8 := zhd (HM7.out.below hu8); have B8 := zhd (zae B7.out hu8)
    obtain ⟨r0, r1, r2⟩ := zah (zaf hu8 HQ8.out)
    clear hu8
    go_wp2_with fail
    exact bodyPost_ret (v := .tuple #[.int .i64 (zbR m a), .agg #[.slice (some ⟨gw, 0, none⟩) n1 cw, .slice ap n2 cp, .slice (some ⟨gr, 0, none⟩) n3 cr], .int .i64 0]) (by simp [results, Tryz.results162, go_sem, r0, r1, r2]) rfl ⟨_, rfl, HM8.out, B8.out⟩
end
section
open Go.RowKit
theorem zgQ {m : Mem} {h a : Int} (h0 : zca m h a = 0) : hasB m h a = true := by
 cases e : hasB m h a
 · unfold zca at h0; rw [e] at h0; simp at h0
 · rfl
theorem resOf_at {m : Mem} {h : Int} (h0 : 0 ≤ h) (h1 : h < m.res.length) : m.res[h.toNat]? = some (zfD m h) := by
 unfold zfD
 simp [show h.toNat < m.res.length by omega]
theorem zfy {m : Mem} {a : Int} (h0 : 0 ≤ a) (h1 : a < m.words.length) : m.words[a.toNat]? = some (zbR m a) := by
 unfold zbR
 simp [show a.toNat < m.words.length by omega]
theorem zd6 {l : List Int} {k : Nat} {x : Int} (h : l[k]? = some x) : (intC l)[k]? = some (.int .i64 x) := by simp [intC, h]
set_option maxHeartbeats 4000000 in
theorem zjt (v : Value) (m : Mem) (h a n : Int) (w : World) (hm : IsMem w v m) (hs : Small m) :
 Calls Tryz.prog 163 #[v, .int .i64 h, .int .i64 a, .int .i64 n] w (zd1 w w.heap.size (.bool (zcA m h a n).1) ((zcA m h a n).2)) := by
 have HM := zhd hm; have HS := zhd hs
 obtain ⟨a1, c1, a2, c2, a3, c3, rows, rfl, _, _, _, _⟩ := hm.parts
 cases he : (zca m h a == 0)
 · have hr : zcA m h a n = (false, zdD, zca m h a) := by unfold zcA; rw [if_neg (by simpa using he)]
   rw [hr]
   have he' : (zca m h a != 0) = true := by simpa [bne] using he
   clear hm he hr
   generalize hon : zca m h a = er at *
   have HON := zhd hon; clear hon
   generalize hn1 : m.words.length = n1 at *
   generalize hn2 : m.pend.length = n2 at *
   generalize hn3 : m.res.length = n3 at *
   have HN1 := zhd hn1; have HN2 := zhd hn2; have HN3 := zhd hn3
   clear hn1 hn2 hn3
   unfold zd1
   go_enter Tryz.func163, Tryz.ntmps163
   go_wp2_with fail
   refine (zcP _ m h a er _ (HM.out.below (by repeat (first | (with_reducible first | exact Below.refl _ _ | refine zaj ?_ ?_ _ | apply zag | refine zae ?_ (by assumption) | apply zak) | omega))) HON.out).mono ?_
   rintro e w1 ⟨rfl, hb1⟩
   have hq1 : w1.heap[w.heap.size + 1]? = some (.cells #[.slice none 0 0, .slice none 0 0, .slice none 0 0] 33 (0, 0)) := zaf hb1 (by have := zat (w.alloc (.cells #[.slice a1 n1 c1, .slice a2 n2 c2, .slice a3 n3 c3] 33)) zM; simpa using this)
   have hx1 : w1.heap[w.heap.size]? = some (.cells #[.slice a1 n1 c1, .slice a2 n2 c2, .slice a3 n3 c3] 33 (0, 0)) := zaf hb1 (zaf (zan _ _) (zat w _))
   have B1 : Hid (Below w.heap.size w w1) := zhd ((by repeat (first | (with_reducible first | exact Below.refl _ _ | refine zaj ?_ ?_ _ | apply zag | refine zae ?_ (by assumption) | apply zak) | omega)))
   have HQ1 := zhd hq1; have HX1 := zhd hx1
   have sz1 : w.heap.size + 1 + 1 ≤ w1.heap.size := by have := hb1.size; simpa using this
   clear hq1 hx1 hb1
   obtain ⟨⟨k0, k1, k2⟩, f0, f1, f2⟩ := six HQ1.out
   obtain ⟨s0, s1, s2⟩ := zah (zaR (x := .slice none 0 0) (y := .slice none 0 0) (z := .slice none 0 0) HQ1.out).1
   go_wp2_with fail
   exact bodyPost_ret (v := .tuple #[.bool false, .agg #[.slice none 0 0, .slice none 0 0, .slice none 0 0], .int .i64 er]) (by simp [results, Tryz.results163, go_sem, s0, s1, s2]) rfl ⟨_, rfl, zb3 _, za9 B1.out (by omega)⟩
 · have he0 : zca m h a = 0 := by simpa using he
   obtain ⟨h0, h1, h2, h3, h4⟩ := zcG (zgQ he0)
   have hra := zhd (resOf_at h0 h2)
   have hr : zcA m h a n = (if zfD m h = a then (true, zdK (zdw m h a (wrap32 n)) h (-1), 0) else (false, zdK m h (-1), 0)) := by unfold zcA; rw [if_pos he0]
   rw [hr]
   have HON := zhd he0
   clear hm he he0 hr
   unfold zd1
   generalize hn1 : m.words.length = n1 at *
   generalize hn2 : m.pend.length = n2 at *
   generalize hn3 : m.res.length = n3 at *
   have HN1 := zhd hn1; have HN2 := zhd hn2; have HN3 := zhd hn3
   clear hn1 hn2 hn3
   cases hc : (zfD m h == a)
   · have hif : zfD m h ≠ a := by simpa using hc
     rw [if_neg hif]
     clear hif
     generalize zfD m h = ro at *
     have HC := zhd hc; clear hc
     go_enter Tryz.func163, Tryz.ntmps163
     go_wp2_with fail
     refine (zcP _ m h a 0 _ (HM.out.below (by repeat (first | (with_reducible first | exact Below.refl _ _ | refine zaj ?_ ?_ _ | apply zag | refine zae ?_ (by assumption) | apply zak) | omega))) HON.out).mono ?_
     rintro e w1 ⟨rfl, hb1⟩
     have hq1 : w1.heap[w.heap.size + 1]? = some (.cells #[.slice none 0 0, .slice none 0 0, .slice none 0 0] 33 (0, 0)) := zaf hb1 (by have := zat (w.alloc (.cells #[.slice a1 n1 c1, .slice a2 n2 c2, .slice a3 n3 c3] 33)) zM; simpa using this)
     have hx1 : w1.heap[w.heap.size]? = some (.cells #[.slice a1 n1 c1, .slice a2 n2 c2, .slice a3 n3 c3] 33 (0, 0)) := zaf hb1 (zaf (zan _ _) (zat w _))
     have B1 : Hid (Below w.heap.size w w1) := zhd ((by repeat (first | (with_reducible first | exact Below.refl _ _ | refine zaj ?_ ?_ _ | apply zag | refine zae ?_ (by assumption) | apply zak) | omega)))
     have HQ1 := zhd hq1; have HX1 := zhd hx1
     have sz1 : w.heap.size + 1 + 1 ≤ w1.heap.size := by have := hb1.size; simpa using this
     clear hq1 hx1 hb1
     obtain ⟨k0, k1, k2⟩ := zah HX1.out
     go_wp2_with fail
     refine (zfG _ m _ (HM.out.below B1.out) HS.out).mono ?_
     rintro e w2 ⟨p, wv, pv, rv, rs, rfl, ho2, hb2⟩
     have HQ2 := zhd (zaf hb2 HQ1.out)
     have B2 : Hid (Below w.heap.size w w2) := zhd (zae B1.out hb2)
     clear k0 k1 k2 HQ1 hb2
     obtain ⟨gw, cw, rfl, hcw, hmw⟩ := zb1 ho2.words (by rw [HN1.out]; omega)
     obtain ⟨gr, cr, rfl, hcr, hmr⟩ := zb1 ho2.res (by rw [HN3.out]; omega)
     obtain ⟨ap, cp, rfl⟩ := zai ho2.pend
     have hgr := (ho2.res.lt gr rfl).1
     have hgp := ho2.base
     unfold maxLen at hmw hmr
     have HO2 := zhd ho2; clear ho2
     rw [HN1.out] at HO2 hcw
     rw [HN2.out] at HO2
     rw [HN3.out] at HO2 hcr
     obtain ⟨t0, t1, t2⟩ := zah HO2.out.at_
     have hres := HO2.out.res; (try simp only at hres); rw [HN3.out] at hres
     obtain ⟨u1, u2⟩ := zcc hres (zd6 hra.out)
     clear hres
     have hcb := HC.out
     have HO3 := zhd (HO2.out.setResv (by decide) rfl h.toNat (-1))
     have B3 : Hid (Below w.heap.size w (w2.setCell ⟨gr, h.toNat, none⟩ (.int .i64 (-1)))) := zhd (zaj B2.out (by omega) _)
     have HQ3 : Hid ((w2.setCell ⟨gr, h.toNat, none⟩ (.int .i64 (-1))).heap[w.heap.size + 1]? = some (.cells #[.slice none 0 0, .slice none 0 0, .slice none 0 0] 33 (0, 0))) := zhd (by rw [zaD (by omega)]; exact HQ2.out)
     go_wp2_with fail
     obtain ⟨w3, hw3⟩ : ∃ w3, w2.setCell ⟨gr, h.toNat, none⟩ (.int .i64 (-1)) = w3 := ⟨_, rfl⟩
     rw [hw3] at B3 HQ3 HO3
     rw [hw3]
     clear hw3 t0 t1 t2 u1 u2
     have lp := zao HO3.out.at_
     have hpq : w.heap.size + 1 ≠ p := by omega
     refine zaV (fun w' => p < w'.heap.size ∧ w'.heap[p]? = some (.cells #[.slice (some ⟨gw, 0, none⟩) n1 cw, .slice ap n2 cp, .slice (some ⟨gr, 0, none⟩) n3 cr] 187 (0, 0))) [true, true, true, true, true] (by kernel_rfl) (by kernel_rfl) (by kernel_rfl)
      (fun w1 w2 h hu => ⟨Nat.lt_of_lt_of_le h.1 hu.size, zaf hu h.2⟩) ⟨lp, HO3.out.at_⟩ ?ac1 ?hc1 ?htc1
     case hc1 =>
      intro w0 ⟨l1, c1⟩
      obtain ⟨k0, k1, k2⟩ := zah c1
      have y0 := fun x => zal l1 k0 x
      have y1 := fun x => zal l1 k1 x
      have y2 := fun x => zal l1 k2 x
      clear c1 k0 k1 k2
      simp only [zbb]
      repeat (go_big_quiet_step (fail))
      refine wpQuiet_nil ?_
      rfl
     case htc1 =>
      change zbh _ _ _ _ _ 3 _ _ _
      refine zaA (i := 5) (by kernel_rfl) rfl ?_
      intro w4 hu4 hc4
      have HU4 : Hid (Up w3 w4) := zhd (zbk hu4)
      have HC4 := zhd hc4
      clear hu4 hc4
      go_wp2_with fail
      refine ⟨HC4.out, ?_⟩
      refine zaA (i := 6) (by kernel_rfl) rfl ?_
      intro w5 hu5 hc5
      have HU5 : Hid (Up w3 w5) := zhd (zcI HU4.out hu5)
      have HC5 := zhd hc5
      clear hu5 hc5
      have HQ5 := zhd (zaf HU5.out HQ3.out)
      obtain ⟨⟨v0, v1, v2⟩, f0, f1, f2⟩ := six HQ5.out
      go_wp2_with fail
      have HQ6 := zhd (zaR (x := .slice (some ⟨gw, 0, none⟩) n1 cw) (y := .slice ap n2 cp) (z := .slice (some ⟨gr, 0, none⟩) n3 cr) HQ5.out)
      refine ⟨⟨by simp only [zaH]; exact HC5.out.1, by rw [HQ6.out.2 p (Ne.symm hpq)]; exact HC5.out.2⟩, ?_⟩
      have HM6 := zhd (zbt (.slice (some ⟨gw, 0, none⟩) n1 cw) (.slice ap n2 cp) (.slice (some ⟨gr, 0, none⟩) n3 cr) ((HO3.out.isMem).below HU5.out) HQ5.out)
      have B6 := zhd (za9 (x := .slice (some ⟨gw, 0, none⟩) n1 cw) (y := .slice ap n2 cp) (z := .slice (some ⟨gr, 0, none⟩) n3 cr) (zae B3.out HU5.out) (show w.heap.size ≤ w.heap.size + 1 by omega))
      have HQ7 := zhd (HQ6.out.1)
      clear v0 v1 v2 f0 f1 f2 HQ6
      refine zaA (i := 7) (by kernel_rfl) rfl ?_
      intro w7 hu7 hc7
      have HM7 := zhd (HM6.out.below hu7); have B7 := zhd (zae B6.out hu7); have HQ8 := zhd (zaf hu7 HQ7.out); have HC7 := zhd hc7
      clear hu7 hc7
      go_wp2_with fail
      refine ⟨HC7.out, ?_⟩
      refine zbv (by kernel_rfl) ?_
      intro w8 hu8 _
      have HM8 := zhd (HM7.out.below hu8); have B8 := zhd (zae B7.out hu8)
      obtain ⟨r0, r1, r2⟩ := zah (zaf hu8 HQ8.out)
      clear hu8
      go_wp2_with fail
      exact bodyPost_ret (v := .tuple #[.bool false, .agg #[.slice (some ⟨gw, 0, none⟩) n1 cw, .slice ap n2 cp, .slice (some ⟨gr, 0, none⟩) n3 cr], .int .i64 0]) (by simp [results, Tryz.results163, go_sem, r0, r1, r2]) rfl ⟨_, rfl, HM8.out, B8.out⟩
   · have hif : zfD m h = a := by simpa using hc
     rw [if_pos hif]
     clear hif
     generalize zfD m h = ro at *
     have HC := zhd hc; clear hc
     go_enter Tryz.func163, Tryz.ntmps163
     go_wp2_with fail
     refine (zcP _ m h a 0 _ (HM.out.below (by repeat (first | (with_reducible first | exact Below.refl _ _ | refine zaj ?_ ?_ _ | apply zag | refine zae ?_ (by assumption) | apply zak) | omega))) HON.out).mono ?_
     rintro e w1 ⟨rfl, hb1⟩
     have hq1 : w1.heap[w.heap.size + 1]? = some (.cells #[.slice none 0 0, .slice none 0 0, .slice none 0 0] 33 (0, 0)) := zaf hb1 (by have := zat (w.alloc (.cells #[.slice a1 n1 c1, .slice a2 n2 c2, .slice a3 n3 c3] 33)) zM; simpa using this)
     have hx1 : w1.heap[w.heap.size]? = some (.cells #[.slice a1 n1 c1, .slice a2 n2 c2, .slice a3 n3 c3] 33 (0, 0)) := zaf hb1 (zaf (zan _ _) (zat w _))
     have B1 : Hid (Below w.heap.size w w1) := zhd ((by repeat (first | (with_reducible first | exact Below.refl _ _ | refine zaj ?_ ?_ _ | apply zag | refine zae ?_ (by assumption) | apply zak) | omega)))
     have HQ1 := zhd hq1; have HX1 := zhd hx1
     have sz1 : w.heap.size + 1 + 1 ≤ w1.heap.size := by have := hb1.size; simpa using this
     clear hq1 hx1 hb1
     obtain ⟨k0, k1, k2⟩ := zah HX1.out
     go_wp2_with fail
     refine (zfG _ m _ (HM.out.below B1.out) HS.out).mono ?_
     rintro e w2 ⟨p, wv, pv, rv, rs, rfl, ho2, hb2⟩
     have HQ2 := zhd (zaf hb2 HQ1.out)
     have B2 : Hid (Below w.heap.size w w2) := zhd (zae B1.out hb2)
     clear k0 k1 k2 HQ1 hb2
     obtain ⟨gw, cw, rfl, hcw, hmw⟩ := zb1 ho2.words (by rw [HN1.out]; omega)
     obtain ⟨gr, cr, rfl, hcr, hmr⟩ := zb1 ho2.res (by rw [HN3.out]; omega)
     obtain ⟨ap, cp, rfl⟩ := zai ho2.pend
     have hgr := (ho2.res.lt gr rfl).1
     have hgp := ho2.base
     unfold maxLen at hmw hmr
     have HO2 := zhd ho2; clear ho2
     rw [HN1.out] at HO2 hcw
     rw [HN2.out] at HO2
     rw [HN3.out] at HO2 hcr
     obtain ⟨t0, t1, t2⟩ := zah HO2.out.at_
     have hres := HO2.out.res; (try simp only at hres); rw [HN3.out] at hres
     obtain ⟨u1, u2⟩ := zcc hres (zd6 hra.out)
     clear hres
     have hcb := HC.out
     go_wp2_with (go_at_call 124; ((with_reducible refine (zaX n _).mono ?_); rintro e w' ⟨rfl, rfl⟩))
     refine (zfx w1.heap.size p m _ _ _ rs h a (wrap32 n) _ HO2.out HS.out ⟨h3, by rw [HN1.out]; exact h4⟩).mono ?_
     rintro e wg ⟨rfl, hog, hbg⟩
     have HOG := zhd hog; have BG : Hid (Below w.heap.size w wg) := zhd (B2.out.trans (hbg.mono (by have := B1.out.size; omega)))
     have HQG : Hid (wg.heap[w.heap.size + 1]? = some (.cells #[.slice none 0 0, .slice none 0 0, .slice none 0 0] 33 (0, 0))) := zhd (zaq hbg (by omega) HQ2.out)
     clear hog hbg t0 t1 t2 u1 u2 HQ2
     obtain ⟨t0, t1, t2⟩ := zah HOG.out.at_
     have hres := HOG.out.res; (try simp only [zdw, zdY] at hres); rw [HN3.out] at hres
     have hra2 : (zed h a 0 m.res)[h.toNat]? = some ro := by rw [zmm, hra.out]; simp; intro hne; omega
     obtain ⟨u1, u2⟩ := zcc hres (zd6 hra2)
     clear hres hra2
     have HO3 := zhd (HOG.out.setResv (by decide) rfl h.toNat (-1))
     have B3 : Hid (Below w.heap.size w (wg.setCell ⟨gr, h.toNat, none⟩ (.int .i64 (-1)))) := zhd (zaj BG.out (by omega) _)
     have HQ3 : Hid ((wg.setCell ⟨gr, h.toNat, none⟩ (.int .i64 (-1))).heap[w.heap.size + 1]? = some (.cells #[.slice none 0 0, .slice none 0 0, .slice none 0 0] 33 (0, 0))) := zhd (by rw [zaD (by omega)]; exact HQG.out)
     go_wp2_with fail
     obtain ⟨w3, hw3⟩ : ∃ w3, wg.setCell ⟨gr, h.toNat, none⟩ (.int .i64 (-1)) = w3 := ⟨_, rfl⟩
     rw [hw3] at B3 HQ3 HO3
     rw [hw3]
     clear hw3 t0 t1 t2 u1 u2
     have lp := zao HO3.out.at_
     have hpq : w.heap.size + 1 ≠ p := by omega
     refine zaV (fun w' => p < w'.heap.size ∧ w'.heap[p]? = some (.cells #[.slice (some ⟨gw, 0, none⟩) n1 cw, .slice ap n2 cp, .slice (some ⟨gr, 0, none⟩) n3 cr] 187 (0, 0))) [true, true, true, true, true] (by kernel_rfl) (by kernel_rfl) (by kernel_rfl)
      (fun w1 w2 h hu => ⟨Nat.lt_of_lt_of_le h.1 hu.size, zaf hu h.2⟩) ⟨lp, HO3.out.at_⟩ ?ac2 ?hc2 ?htc2
     case hc2 =>
      intro w0 ⟨l1, c1⟩
      obtain ⟨k0, k1, k2⟩ := zah c1
      have y0 := fun x => zal l1 k0 x
      have y1 := fun x => zal l1 k1 x
      have y2 := fun x => zal l1 k2 x
      clear c1 k0 k1 k2
      simp only [zbb]
      repeat (go_big_quiet_step (fail))
      refine wpQuiet_nil ?_
      rfl
     case htc2 =>
      change zbh _ _ _ _ _ 3 _ _ _
      refine zaA (i := 5) (by kernel_rfl) rfl ?_
      intro w4 hu4 hc4
      have HU4 : Hid (Up w3 w4) := zhd (zbk hu4)
      have HC4 := zhd hc4
      clear hu4 hc4
      go_wp2_with fail
      refine ⟨HC4.out, ?_⟩
      refine zaA (i := 6) (by kernel_rfl) rfl ?_
      intro w5 hu5 hc5
      have HU5 : Hid (Up w3 w5) := zhd (zcI HU4.out hu5)
      have HC5 := zhd hc5
      clear hu5 hc5
      have HQ5 := zhd (zaf HU5.out HQ3.out)
      obtain ⟨⟨v0, v1, v2⟩, f0, f1, f2⟩ := six HQ5.out
      go_wp2_with fail
      have HQ6 := zhd (zaR (x := .slice (some ⟨gw, 0, none⟩) n1 cw) (y := .slice ap n2 cp) (z := .slice (some ⟨gr, 0, none⟩) n3 cr) HQ5.out)
      refine ⟨⟨by simp only [zaH]; exact HC5.out.1, by rw [HQ6.out.2 p (Ne.symm hpq)]; exact HC5.out.2⟩, ?_⟩
      have HM6 := zhd (zbt (.slice (some ⟨gw, 0, none⟩) n1 cw) (.slice ap n2 cp) (.slice (some ⟨gr, 0, none⟩) n3 cr) ((HO3.out.isMem).below HU5.out) HQ5.out)
      have B6 := zhd (za9 (x := .slice (some ⟨gw, 0, none⟩) n1 cw) (y := .slice ap n2 cp) (z := .slice (some ⟨gr, 0, none⟩) n3 cr) (zae B3.out HU5.out) (show w.heap.size ≤ w.heap.size + 1 by omega))
      have HQ7 := zhd (HQ6.out.1)
      clear v0 v1 v2 f0 f1 f2 HQ6
      refine zaA (i := 7) (by kernel_rfl) rfl ?_
      intro w7 hu7 hc7
      have HM7 := zhd (HM6.out.below hu7); have B7 := zhd (zae B6.out hu7); have HQ8 := zhd (zaf hu7 HQ7.out); have HC7 := zhd hc7
      clear hu7 hc7
      go_wp2_with fail
      refine ⟨HC7.out, ?_⟩
      refine zbv (by kernel_rfl) ?_
      intro w8 hu8 _
      have HM8 := zhd (HM7.out.below hu8); have B8 := zhd (zae B7.out hu8)
      obtain ⟨r0, r1, r2⟩ := zah (zaf hu8 HQ8.out)
      clear hu8
      go_wp2_with fail
      exact bodyPost_ret (v := .tuple #[.bool true, .agg #[.slice (some ⟨gw, 0, none⟩) n1 cw, .slice ap n2 cp, .slice (some ⟨gr, 0, none⟩) n3 cr], .int .i64 0]) (by simp [results, Tryz.results163, go_sem, r0, r1, r2]) rfl ⟨_, rfl, HM8.out, B8.out⟩
theorem zfT (op l : Int) (w : World) (hl : zhI op = l) : Calls Tryz.prog 190 #[.int .i64 op] w fun e w' => e = .returned (.int .i64 l) ∧ w = w' := by subst hl; exact zlT op w
theorem zhD {w : World} {B p T : Nat} {m : Mem} {wv pv rv : Value} {rows : List Value} (h : OwnMem w B p T m wv pv rv rows) (q : Nat) : OwnMem (w.drewN q) B p T m wv pv rv rows := h.kept fun _ _ => rfl
theorem zeT {m : Mem} {h a op n e : Int} (he : zdg m h a op = e) (hne : e ≠ 0) : zbZ m h a op n = (0, zdD, e) := by unfold zbZ; rw [he, if_neg hne]
set_option maxHeartbeats 8000000 in
theorem zkG (v : Value) (m : Mem) (h a op n : Int) (w : World) (hm : IsMem w v m) (hs : Small m) :
 Calls Tryz.prog 164 #[v, .int .i64 h, .int .i64 a, .int .i64 op, .int .i64 n] w (zd1 w w.heap.size (.int .i64 (zbZ m h a op n).1) ((zbZ m h a op n).2)) := by
 have HM := zhd hm; have HS := zhd hs
 obtain ⟨a1, c1, a2, c2, a3, c3, rows, rfl, _, _, _, _⟩ := hm.parts
 obtain ⟨lv, hlv⟩ : ∃ l, zhI op = l := ⟨_, rfl⟩
 have HLV := zhd hlv
 unfold zd1
 by_cases hop : op = 0
 · subst hop
   clear hlv HLV
   have hce : zdg m h a 0 = zca m h a := by unfold zdg; rw [if_neg (by simp)]
   have HCE := zhd hce; clear hce
   cases he : (zca m h a == 0)
   · rw [zeT (n := n) (HCE.out) (by simpa using he)]
     have he' : (zca m h a != 0) = true := by simpa [bne] using he
     clear hm he
     generalize hon : zca m h a = er at *
     have HON := zhd hon; clear hon HCE
     generalize hn1 : m.words.length = n1 at *
     generalize hn2 : m.pend.length = n2 at *
     generalize hn3 : m.res.length = n3 at *
     clear hn1 hn2 hn3
     go_enter Tryz.func164, Tryz.ntmps164
     go_wp2_with (fail)
     refine (zcP _ m h a er _ (HM.out.below (by repeat (first | (with_reducible first | exact Below.refl _ _ | refine zaj ?_ ?_ _ | apply zag | refine zae ?_ (by assumption) | apply zak) | omega))) HON.out).mono ?_
     rintro e w1 ⟨rfl, hb1⟩
     have hq1 : w1.heap[w.heap.size + 1]? = some (.cells #[.slice none 0 0, .slice none 0 0, .slice none 0 0] 33 (0, 0)) := zaf hb1 (by have := zat (w.alloc (.cells #[.slice a1 n1 c1, .slice a2 n2 c2, .slice a3 n3 c3] 33)) zM; simpa using this)
     have hx1 : w1.heap[w.heap.size]? = some (.cells #[.slice a1 n1 c1, .slice a2 n2 c2, .slice a3 n3 c3] 33 (0, 0)) := zaf hb1 (zaf (zan _ _) (zat w _))
     have B1 : Hid (Below w.heap.size w w1) := zhd ((by repeat (first | (with_reducible first | exact Below.refl _ _ | refine zaj ?_ ?_ _ | apply zag | refine zae ?_ (by assumption) | apply zak) | omega)))
     have HQ1 := zhd hq1; have HX1 := zhd hx1
     have sz1 : w.heap.size + 1 + 1 ≤ w1.heap.size := by have := hb1.size; simpa using this
     clear hq1 hx1 hb1
     obtain ⟨⟨k0, k1, k2⟩, f0, f1, f2⟩ := six HQ1.out
     obtain ⟨s0, s1, s2⟩ := zah (zaR (x := .slice none 0 0) (y := .slice none 0 0) (z := .slice none 0 0) HQ1.out).1
     go_wp2_with fail
     exact bodyPost_ret (v := .tuple #[.int .i64 0, .agg #[.slice none 0 0, .slice none 0 0, .slice none 0 0], .int .i64 er]) (by simp [results, Tryz.results164, go_sem, s0, s1, s2]) rfl ⟨_, rfl, zb3 _, za9 B1.out (by omega)⟩
   · have he0 : zca m h a = 0 := by simpa using he
     obtain ⟨h0, h1, h2, h3, h4⟩ := zcG (zgQ he0)
     have hwa := zhd (zfy h3 h4)
     have hr : zbZ m h a 0 n = (zbR m a, zdw m h a (zd0 0 (zbR m a) n), 0) := by unfold zbZ; rw [HCE.out, if_pos he0]
     rw [hr, show zd0 0 (zbR m a) n = wrap32 n by simp [zd0]]
     have HON := zhd he0
     clear hm he he0 hr
     generalize hn1 : m.words.length = n1 at *
     generalize hn2 : m.pend.length = n2 at *
     generalize hn3 : m.res.length = n3 at *
     have HN1 := zhd hn1; have HN2 := zhd hn2; have HN3 := zhd hn3
     clear hn1 hn2 hn3
     generalize zbR m a = wa at *
     go_enter Tryz.func164, Tryz.ntmps164
     go_wp2_with (fail)
     refine (zcP _ m h a 0 _ (HM.out.below (by repeat (first | (with_reducible first | exact Below.refl _ _ | refine zaj ?_ ?_ _ | apply zag | refine zae ?_ (by assumption) | apply zak) | omega))) HON.out).mono ?_
     rintro e w1 ⟨rfl, hb1⟩
     have hq1 : w1.heap[w.heap.size + 1]? = some (.cells #[.slice none 0 0, .slice none 0 0, .slice none 0 0] 33 (0, 0)) := zaf hb1 (by have := zat (w.alloc (.cells #[.slice a1 n1 c1, .slice a2 n2 c2, .slice a3 n3 c3] 33)) zM; simpa using this)
     have hx1 : w1.heap[w.heap.size]? = some (.cells #[.slice a1 n1 c1, .slice a2 n2 c2, .slice a3 n3 c3] 33 (0, 0)) := zaf hb1 (zaf (zan _ _) (zat w _))
     have B1 : Hid (Below w.heap.size w w1) := zhd ((by repeat (first | (with_reducible first | exact Below.refl _ _ | refine zaj ?_ ?_ _ | apply zag | refine zae ?_ (by assumption) | apply zak) | omega)))
     have HQ1 := zhd hq1; have HX1 := zhd hx1
     have sz1 : w.heap.size + 1 + 1 ≤ w1.heap.size := by have := hb1.size; simpa using this
     clear hq1 hx1 hb1
     obtain ⟨k0, k1, k2⟩ := zah HX1.out
     go_wp2_with fail
     refine (zfG _ m _ (HM.out.below B1.out) HS.out).mono ?_
     rintro e w2 ⟨p, wv, pv, rv, rs, rfl, ho2, hb2⟩
     have HQ2 := zhd (zaf hb2 HQ1.out)
     have B2 : Hid (Below w.heap.size w w2) := zhd (zae B1.out hb2)
     clear k0 k1 k2 HQ1 hb2
     obtain ⟨gw, cw, rfl, hcw, hmw⟩ := zb1 ho2.words (by rw [HN1.out]; omega)
     obtain ⟨gr, cr, rfl, hcr, hmr⟩ := zb1 ho2.res (by rw [HN3.out]; omega)
     obtain ⟨ap, cp, rfl⟩ := zai ho2.pend
     have hgr := (ho2.res.lt gr rfl).1
     have hgp := ho2.base
     unfold maxLen at hmw hmr
     have HO2 := zhd ho2; clear ho2
     rw [HN1.out] at HO2 hcw
     rw [HN2.out] at HO2
     rw [HN3.out] at HO2 hcr
     obtain ⟨t0, t1, t2⟩ := zah HO2.out.at_
     have hwrd := HO2.out.words; (try simp only at hwrd); rw [HN1.out] at hwrd
     obtain ⟨u1, u2⟩ := zcc hwrd (zd6 hwa.out)
     clear hwrd
     go_wp2_with fail
     go_quiet ((go_at_call 124; exact Calls.quiet_of_same ((zaX n _).mono fun _ _ hh => ⟨hh.1, hh.2.symm⟩)))
     have HO2d := zhd (zhD HO2.out nq)
     have B2d : Hid (Below w.heap.size w (w2.drewN nq)) := zhd (zaF B2.out nq)
     have HQ2d : Hid ((w2.drewN nq).heap[w.heap.size + 1]? = some (.cells #[.slice none 0 0, .slice none 0 0, .slice none 0 0] 33 (0, 0))) := zhd HQ2.out
     clear t0 t1 t2 u1 u2
     generalize w2.drewN nq = w2d at *
     go_wp2_with fail
     refine (zfx w1.heap.size p m _ _ _ rs h a (wrap32 n) _ HO2d.out HS.out ⟨h3, by rw [HN1.out]; exact h4⟩).mono ?_
     rintro e wg ⟨rfl, hog, hbg⟩
     have HOG := zhd hog; have BG : Hid (Below w.heap.size w wg) := zhd (B2d.out.trans (hbg.mono (by have := B1.out.size; omega)))
     have HQG : Hid (wg.heap[w.heap.size + 1]? = some (.cells #[.slice none 0 0, .slice none 0 0, .slice none 0 0] 33 (0, 0))) := zhd (zaq hbg (by omega) HQ2d.out)
     clear hog hbg
     go_wp2_with fail
     have lp := zao HOG.out.at_
     have hpq : w.heap.size + 1 ≠ p := by omega
     refine zaV (fun w' => p < w'.heap.size ∧ w'.heap[p]? = some (.cells #[.slice (some ⟨gw, 0, none⟩) n1 cw, .slice ap n2 cp, .slice (some ⟨gr, 0, none⟩) n3 cr] 187 (0, 0))) [true, true, true, true, true] (by kernel_rfl) (by kernel_rfl) (by kernel_rfl)
      (fun w1 w2 h hu => ⟨Nat.lt_of_lt_of_le h.1 hu.size, zaf hu h.2⟩) ⟨lp, HOG.out.at_⟩ ?ad1 ?hd1 ?htd1
     case hd1 =>
      intro w0 ⟨l1, c1⟩
      obtain ⟨k0, k1, k2⟩ := zah c1
      have y0 := fun x => zal l1 k0 x
      have y1 := fun x => zal l1 k1 x
      have y2 := fun x => zal l1 k2 x
      clear c1 k0 k1 k2
      simp only [zbb]
      repeat (go_big_quiet_step (fail))
      refine wpQuiet_nil ?_
      rfl
     case htd1 =>
      change zbh _ _ _ _ _ 3 _ _ _
      refine zaA (i := 5) (by kernel_rfl) rfl ?_
      intro w4 hu4 hc4
      have HU4 : Hid (Up wg w4) := zhd (zbk hu4)
      have HC4 := zhd hc4
      clear hu4 hc4
      go_wp2_with fail
      refine ⟨HC4.out, ?_⟩
      refine zaA (i := 6) (by kernel_rfl) rfl ?_
      intro w5 hu5 hc5
      have HU5 : Hid (Up wg w5) := zhd (zcI HU4.out hu5)
      have HC5 := zhd hc5
      clear hu5 hc5
      have HQ5 := zhd (zaf HU5.out HQG.out)
      obtain ⟨⟨v0, v1, v2⟩, f0, f1, f2⟩ := six HQ5.out
      go_wp2_with fail
      have HQ6 := zhd (zaR (x := .slice (some ⟨gw, 0, none⟩) n1 cw) (y := .slice ap n2 cp) (z := .slice (some ⟨gr, 0, none⟩) n3 cr) HQ5.out)
      refine ⟨⟨by simp only [zaH]; exact HC5.out.1, by rw [HQ6.out.2 p (Ne.symm hpq)]; exact HC5.out.2⟩, ?_⟩
      have HM6 := zhd (zbt (.slice (some ⟨gw, 0, none⟩) n1 cw) (.slice ap n2 cp) (.slice (some ⟨gr, 0, none⟩) n3 cr) ((HOG.out.isMem).below HU5.out) HQ5.out)
      have B6 := zhd (za9 (x := .slice (some ⟨gw, 0, none⟩) n1 cw) (y := .slice ap n2 cp) (z := .slice (some ⟨gr, 0, none⟩) n3 cr) (zae BG.out HU5.out) (show w.heap.size ≤ w.heap.size + 1 by omega))
      have HQ7 := zhd (HQ6.out.1)
      clear v0 v1 v2 f0 f1 f2 HQ6
      refine zaA (i := 7) (by kernel_rfl) rfl ?_
      intro w7 hu7 hc7
      have HM7 := zhd (HM6.out.below hu7); have B7 := zhd (zae B6.out hu7); have HQ8 := zhd (zaf hu7 HQ7.out); have HC7 := zhd hc7
      clear hu7 hc7
      go_wp2_with fail
      refine ⟨HC7.out, ?_⟩
      refine zbv (by kernel_rfl) ?_
      intro w8 hu8 _
      have HM8 := zhd (HM7.out.below hu8); have B8 := zhd (zae B7.out hu8)
      obtain ⟨r0, r1, r2⟩ := zah (zaf hu8 HQ8.out)
      clear hu8
      go_wp2_with fail
      exact bodyPost_ret (v := .tuple #[.int .i64 wa, .agg #[.slice (some ⟨gw, 0, none⟩) n1 cw, .slice ap n2 cp, .slice (some ⟨gr, 0, none⟩) n3 cr], .int .i64 0]) (by simp [results, Tryz.results164, go_sem, r0, r1, r2]) rfl ⟨_, rfl, HM8.out, B8.out⟩
 · have hob : (op != 0) = true := by simpa [bne] using hop
   by_cases hlv0 : lv = 0
   · have hce : zdg m h a op = 1 := by unfold zdg; rw [if_pos ⟨hop, by rw [hlv]; exact hlv0⟩]
     rw [zeT (n := n) hce (by decide)]
     subst hlv0
     clear hm hop hlv hce
     generalize hn1 : m.words.length = n1 at *
     generalize hn2 : m.pend.length = n2 at *
     generalize hn3 : m.res.length = n3 at *
     clear hn1 hn2 hn3
     go_enter Tryz.func164, Tryz.ntmps164
     go_wp2_with (go_at_call 190; ((with_reducible refine (zfT op 0 _ HLV.out).mono ?_); rintro e w' ⟨rfl, rfl⟩))
     exact bodyPost_ret (v := .tuple #[.int .i64 0, .agg #[.slice none 0 0, .slice none 0 0, .slice none 0 0], .int .i64 1]) (by simp [results, Tryz.results164, go_sem]) rfl ⟨_, rfl, zb3 _, (by repeat (first | (with_reducible first | exact Below.refl _ _ | refine zaj ?_ ?_ _ | apply zag | refine zae ?_ (by assumption) | apply zak) | omega))⟩
   · have HOP := zhd hop; clear hop hlv
     have hce : zdg m h a op = zca m h a := by unfold zdg; rw [if_neg (by rintro ⟨_, h2⟩; rw [HLV.out] at h2; exact hlv0 h2)]
     have HCE := zhd hce; clear hce
     have hlb : (lv == 0) = false := by simpa using hlv0
     clear hlv0
     cases he : (zca m h a == 0)
     · rw [zeT (n := n) (HCE.out) (by simpa using he)]
       have he' : (zca m h a != 0) = true := by simpa [bne] using he
       clear hm he
       generalize hon : zca m h a = er at *
       have HON := zhd hon; clear hon HCE
       generalize hn1 : m.words.length = n1 at *
       generalize hn2 : m.pend.length = n2 at *
       generalize hn3 : m.res.length = n3 at *
       clear hn1 hn2 hn3
       go_enter Tryz.func164, Tryz.ntmps164
       go_wp2_with (go_at_call 190; ((with_reducible refine (zfT op lv _ HLV.out).mono ?_); rintro e w' ⟨rfl, rfl⟩))
       refine (zcP _ m h a er _ (HM.out.below (by repeat (first | (with_reducible first | exact Below.refl _ _ | refine zaj ?_ ?_ _ | apply zag | refine zae ?_ (by assumption) | apply zak) | omega))) HON.out).mono ?_
       rintro e w1 ⟨rfl, hb1⟩
       have hq1 : w1.heap[w.heap.size + 1]? = some (.cells #[.slice none 0 0, .slice none 0 0, .slice none 0 0] 33 (0, 0)) := zaf hb1 (by have := zat (w.alloc (.cells #[.slice a1 n1 c1, .slice a2 n2 c2, .slice a3 n3 c3] 33)) zM; simpa using this)
       have hx1 : w1.heap[w.heap.size]? = some (.cells #[.slice a1 n1 c1, .slice a2 n2 c2, .slice a3 n3 c3] 33 (0, 0)) := zaf hb1 (zaf (zan _ _) (zat w _))
       have B1 : Hid (Below w.heap.size w w1) := zhd ((by repeat (first | (with_reducible first | exact Below.refl _ _ | refine zaj ?_ ?_ _ | apply zag | refine zae ?_ (by assumption) | apply zak) | omega)))
       have HQ1 := zhd hq1; have HX1 := zhd hx1
       have sz1 : w.heap.size + 1 + 1 ≤ w1.heap.size := by have := hb1.size; simpa using this
       clear hq1 hx1 hb1
       obtain ⟨⟨k0, k1, k2⟩, f0, f1, f2⟩ := six HQ1.out
       obtain ⟨s0, s1, s2⟩ := zah (zaR (x := .slice none 0 0) (y := .slice none 0 0) (z := .slice none 0 0) HQ1.out).1
       go_wp2_with fail
       exact bodyPost_ret (v := .tuple #[.int .i64 0, .agg #[.slice none 0 0, .slice none 0 0, .slice none 0 0], .int .i64 er]) (by simp [results, Tryz.results164, go_sem, s0, s1, s2]) rfl ⟨_, rfl, zb3 _, za9 B1.out (by omega)⟩
     · have he0 : zca m h a = 0 := by simpa using he
       obtain ⟨h0, h1, h2, h3, h4⟩ := zcG (zgQ he0)
       have hwa := zhd (zfy h3 h4)
       have hr : zbZ m h a op n = (zbR m a, zdw m h a (zd0 op (zbR m a) n), 0) := by unfold zbZ; rw [HCE.out, if_pos he0]
       rw [hr, show zd0 op (zbR m a) n = twoN op (zbR m a) n by simp [zd0, HOP.out]]
       have HON := zhd he0
       clear hm he he0 hr
       generalize hn1 : m.words.length = n1 at *
       generalize hn2 : m.pend.length = n2 at *
       generalize hn3 : m.res.length = n3 at *
       have HN1 := zhd hn1; have HN2 := zhd hn2; have HN3 := zhd hn3
       clear hn1 hn2 hn3
       generalize zbR m a = wa at *
       go_enter Tryz.func164, Tryz.ntmps164
       go_wp2_with (go_at_call 190; ((with_reducible refine (zfT op lv _ HLV.out).mono ?_); rintro e w' ⟨rfl, rfl⟩))
       refine (zcP _ m h a 0 _ (HM.out.below (by repeat (first | (with_reducible first | exact Below.refl _ _ | refine zaj ?_ ?_ _ | apply zag | refine zae ?_ (by assumption) | apply zak) | omega))) HON.out).mono ?_
       rintro e w1 ⟨rfl, hb1⟩
       have hq1 : w1.heap[w.heap.size + 1]? = some (.cells #[.slice none 0 0, .slice none 0 0, .slice none 0 0] 33 (0, 0)) := zaf hb1 (by have := zat (w.alloc (.cells #[.slice a1 n1 c1, .slice a2 n2 c2, .slice a3 n3 c3] 33)) zM; simpa using this)
       have hx1 : w1.heap[w.heap.size]? = some (.cells #[.slice a1 n1 c1, .slice a2 n2 c2, .slice a3 n3 c3] 33 (0, 0)) := zaf hb1 (zaf (zan _ _) (zat w _))
       have B1 : Hid (Below w.heap.size w w1) := zhd ((by repeat (first | (with_reducible first | exact Below.refl _ _ | refine zaj ?_ ?_ _ | apply zag | refine zae ?_ (by assumption) | apply zak) | omega)))
       have HQ1 := zhd hq1; have HX1 := zhd hx1
       have sz1 : w.heap.size + 1 + 1 ≤ w1.heap.size := by have := hb1.size; simpa using this
       clear hq1 hx1 hb1
       obtain ⟨k0, k1, k2⟩ := zah HX1.out
       go_wp2_with fail
       refine (zfG _ m _ (HM.out.below B1.out) HS.out).mono ?_
       rintro e w2 ⟨p, wv, pv, rv, rs, rfl, ho2, hb2⟩
       have HQ2 := zhd (zaf hb2 HQ1.out)
       have B2 : Hid (Below w.heap.size w w2) := zhd (zae B1.out hb2)
       clear k0 k1 k2 HQ1 hb2
       obtain ⟨gw, cw, rfl, hcw, hmw⟩ := zb1 ho2.words (by rw [HN1.out]; omega)
       obtain ⟨gr, cr, rfl, hcr, hmr⟩ := zb1 ho2.res (by rw [HN3.out]; omega)
       obtain ⟨ap, cp, rfl⟩ := zai ho2.pend
       have hgr := (ho2.res.lt gr rfl).1
       have hgp := ho2.base
       unfold maxLen at hmw hmr
       have HO2 := zhd ho2; clear ho2
       rw [HN1.out] at HO2 hcw
       rw [HN2.out] at HO2
       rw [HN3.out] at HO2 hcr
       obtain ⟨t0, t1, t2⟩ := zah HO2.out.at_
       have hwrd := HO2.out.words; (try simp only at hwrd); rw [HN1.out] at hwrd
       obtain ⟨u1, u2⟩ := zcc hwrd (zd6 hwa.out)
       clear hwrd
       go_wp2_with fail
       go_quiet ((go_at_call 124; exact Calls.quiet_of_same ((zaX n _).mono fun _ _ hh => ⟨hh.1, hh.2.symm⟩)))
       have HO2d := zhd (zhD HO2.out nq)
       have B2d : Hid (Below w.heap.size w (w2.drewN nq)) := zhd (zaF B2.out nq)
       have HQ2d : Hid ((w2.drewN nq).heap[w.heap.size + 1]? = some (.cells #[.slice none 0 0, .slice none 0 0, .slice none 0 0] 33 (0, 0))) := zhd HQ2.out
       clear t0 t1 t2 u1 u2
       generalize w2.drewN nq = w2d at *
       go_wp2_with (go_at_call 158; ((with_reducible refine (zkT op wa n _).mono ?_); rintro e w' ⟨rfl, rfl⟩))
       refine (zfx w1.heap.size p m _ _ _ rs h a (twoN op wa n) _ HO2d.out HS.out ⟨h3, by rw [HN1.out]; exact h4⟩).mono ?_
       rintro e wg ⟨rfl, hog, hbg⟩
       have HOG := zhd hog; have BG : Hid (Below w.heap.size w wg) := zhd (B2d.out.trans (hbg.mono (by have := B1.out.size; omega)))
       have HQG : Hid (wg.heap[w.heap.size + 1]? = some (.cells #[.slice none 0 0, .slice none 0 0, .slice none 0 0] 33 (0, 0))) := zhd (zaq hbg (by omega) HQ2d.out)
       clear hog hbg
       go_wp2_with fail
       have lp := zao HOG.out.at_
       have hpq : w.heap.size + 1 ≠ p := by omega
       refine zaV (fun w' => p < w'.heap.size ∧ w'.heap[p]? = some (.cells #[.slice (some ⟨gw, 0, none⟩) n1 cw, .slice ap n2 cp, .slice (some ⟨gr, 0, none⟩) n3 cr] 187 (0, 0))) [true, true, true, true, true] (by kernel_rfl) (by kernel_rfl) (by kernel_rfl)
        (fun w1 w2 h hu => ⟨Nat.lt_of_lt_of_le h.1 hu.size, zaf hu h.2⟩) ⟨lp, HOG.out.at_⟩ ?ad2 ?hd2 ?htd2
       case hd2 =>
        intro w0 ⟨l1, c1⟩
        obtain ⟨k0, k1, k2⟩ := zah c1
        have y0 := fun x => zal l1 k0 x
        have y1 := fun x => zal l1 k1 x
        have y2 := fun x => zal l1 k2 x
        clear c1 k0 k1 k2
        simp only [zbb]
        repeat (go_big_quiet_step (fail))
        refine wpQuiet_nil ?_
        rfl
       case htd2 =>
        change zbh _ _ _ _ _ 3 _ _ _
        refine zaA (i := 5) (by kernel_rfl) rfl ?_
        intro w4 hu4 hc4
        have HU4 : Hid (Up wg w4) := zhd (zbk hu4)
        have HC4 := zhd hc4
        clear hu4 hc4
        go_wp2_with fail
        refine ⟨HC4.out, ?_⟩
        refine zaA (i := 6) (by kernel_rfl) rfl ?_
        intro w5 hu5 hc5
        have HU5 : Hid (Up wg w5) := zhd (zcI HU4.out hu5)
        have HC5 := zhd hc5
        clear hu5 hc5
        have HQ5 := zhd (zaf HU5.out HQG.out)
        obtain ⟨⟨v0, v1, v2⟩, f0, f1, f2⟩ := six HQ5.out
        go_wp2_with fail
        have HQ6 := zhd (zaR (x := .slice (some ⟨gw, 0, none⟩) n1 cw) (y := .slice ap n2 cp) (z := .slice (some ⟨gr, 0, none⟩) n3 cr) HQ5.out)
        refine ⟨⟨by simp only [zaH]; exact HC5.out.1, by rw [HQ6.out.2 p (Ne.symm hpq)]; exact HC5.out.2⟩, ?_⟩
        have HM6 := zhd (zbt (.slice (some ⟨gw, 0, none⟩) n1 cw) (.slice ap n2 cp) (.slice (some ⟨gr, 0, none⟩) n3 cr) ((HOG.out.isMem).below HU5.out) HQ5.out)
        have B6 := zhd (za9 (x := .slice (some ⟨gw, 0, none⟩) n1 cw) (y := .slice ap n2 cp) (z := .slice (some ⟨gr, 0, none⟩) n3 cr) (zae BG.out HU5.out) (show w.heap.size ≤ w.heap.size + 1 by omega))
        have HQ7 := zhd (HQ6.out.1)
        clear v0 v1 v2 f0 f1 f2 HQ6
        refine zaA (i := 7) (by kernel_rfl) rfl ?_
        intro w7 hu7 hc7
        have HM7 := zhd (HM6.out.below hu7); have B7 := zhd (zae B6.out hu7); have HQ8 := zhd (zaf hu7 HQ7.out); have HC7 := zhd hc7
        clear hu7 hc7
        go_wp2_with fail
        refine ⟨HC7.out, ?_⟩
        refine zbv (by kernel_rfl) ?_
        intro w8 hu8 _
        have HM8 := zhd (HM7.out.below hu8); have B8 := zhd (zae B7.out hu8)
        obtain ⟨r0, r1, r2⟩ := zah (zaf hu8 HQ8.out)
        clear hu8
        go_wp2_with fail
        exact bodyPost_ret (v := .tuple #[.int .i64 wa, .agg #[.slice (some ⟨gw, 0, none⟩) n1 cw, .slice ap n2 cp, .slice (some ⟨gr, 0, none⟩) n3 cr], .int .i64 0]) (by simp [results, Tryz.results164, go_sem, r0, r1, r2]) rfl ⟨_, rfl, HM8.out, B8.out⟩
end
section
open Go.RowKit
set_option maxRecDepth 100000
set_option maxHeartbeats 8000000 in
theorem zkX (v : Value) (m : Mem) (h a n : Int) (w : World) (hm : IsMem w v m) (hs : Small m) :
 Calls Tryz.prog 161 #[v, .int .i64 h, .int .i64 a, .int .i64 n] w (zej w w.heap.size (zee m h a n)) := by
 have HM := zhd hm; have HS := zhd hs
 obtain ⟨a1, c1, a2, c2, a3, c3, rows, rfl, _, _, _, _⟩ := hm.parts
 unfold zej zee
 cases hh : hasB m h a
 · rw [if_neg (by decide)]
   have HH := zhd hh; clear hh hm
   generalize hn1 : m.words.length = n1 at *
   generalize hn2 : m.pend.length = n2 at *
   generalize hn3 : m.res.length = n3 at *
   clear hn1 hn2 hn3
   go_enter Tryz.func161, Tryz.ntmps161
   go_wp2_with fail
   refine (zc2 _ m h a false _ (HM.out.below (by repeat (first | (with_reducible first | exact Below.refl _ _ | refine zaj ?_ ?_ _ | apply zag | refine zae ?_ (by assumption) | apply zak) | omega))) HH.out).mono ?_
   rintro e w1 ⟨rfl, hb1⟩
   have hq1 : w1.heap[w.heap.size + 1]? = some (.cells #[.slice none 0 0, .slice none 0 0, .slice none 0 0] 33 (0, 0)) := zaf hb1 (by have := zat (w.alloc (.cells #[.slice a1 n1 c1, .slice a2 n2 c2, .slice a3 n3 c3] 33)) zM; simpa using this)
   have hx1 : w1.heap[w.heap.size]? = some (.cells #[.slice a1 n1 c1, .slice a2 n2 c2, .slice a3 n3 c3] 33 (0, 0)) := zaf hb1 (zaf (zan _ _) (zat w _))
   have B1 : Hid (Below w.heap.size w w1) := zhd ((by repeat (first | (with_reducible first | exact Below.refl _ _ | refine zaj ?_ ?_ _ | apply zag | refine zae ?_ (by assumption) | apply zak) | omega)))
   have HQ1 := zhd hq1; have HX1 := zhd hx1
   have sz1 : w.heap.size + 1 + 1 ≤ w1.heap.size := by have := hb1.size; simpa using this
   clear hq1 hx1 hb1
   obtain ⟨⟨k0, k1, k2⟩, f0, f1, f2⟩ := six HQ1.out
   obtain ⟨s0, s1, s2⟩ := zah (zaR (x := .slice none 0 0) (y := .slice none 0 0) (z := .slice none 0 0) HQ1.out).1
   go_wp2_with fail
   exact bodyPost_ret (v := .tuple #[.agg #[.slice none 0 0, .slice none 0 0, .slice none 0 0], .int .i64 1]) (by simp [results, Tryz.results161, go_sem, s0, s1, s2]) rfl ⟨_, rfl, zb3 _, za9 B1.out (by omega)⟩
 · rw [if_pos rfl]
   obtain ⟨h0, h1, h2, h3, h4⟩ := zcG hh
   obtain ⟨b2, o2, ar, cr0, rfl, e0, e1, e2, e3, hrc0, hrd0⟩ := hm.row h1 h0
   have HH := zhd hh; have HRC0 := zhd hrc0; clear hh hm hrc0 hrd0 e0
   have hl8 : (zaJ m h).length ≤ 1000 := HS.out.each _ (List.mem_of_getElem? (zdi h1 h0))
   by_cases hfull : 8 ≤ (zaJ m h).length
   · rw [if_pos hfull]
     generalize hn1 : m.words.length = n1 at *
     generalize hn2 : m.pend.length = n2 at *
     generalize hn3 : m.res.length = n3 at *
     clear hn1 hn2 hn3
     generalize hln : (zaJ m h).length = ln at *
     clear hln
     go_enter Tryz.func161, Tryz.ntmps161
     go_wp2_with fail
     refine (zc2 _ m h a true _ (HM.out.below (by repeat (first | (with_reducible first | exact Below.refl _ _ | refine zaj ?_ ?_ _ | apply zag | refine zae ?_ (by assumption) | apply zak) | omega))) HH.out).mono ?_
     rintro e w1 ⟨rfl, hb1⟩
     have hq1 : w1.heap[w.heap.size + 1]? = some (.cells #[.slice none 0 0, .slice none 0 0, .slice none 0 0] 33 (0, 0)) := zaf hb1 (by have := zat (w.alloc (.cells #[.slice a1 n1 c1, .slice (some ⟨b2, o2, none⟩) n2 c2, .slice a3 n3 c3] 33)) zM; simpa using this)
     have hx1 : w1.heap[w.heap.size]? = some (.cells #[.slice a1 n1 c1, .slice (some ⟨b2, o2, none⟩) n2 c2, .slice a3 n3 c3] 33 (0, 0)) := zaf hb1 (zaf (zan _ _) (zat w _))
     have B1 : Hid (Below w.heap.size w w1) := zhd ((by repeat (first | (with_reducible first | exact Below.refl _ _ | refine zaj ?_ ?_ _ | apply zag | refine zae ?_ (by assumption) | apply zak) | omega)))
     have HQ1 := zhd hq1; have HX1 := zhd hx1
     have sz1 : w.heap.size + 1 + 1 ≤ w1.heap.size := by have := hb1.size; simpa using this
     clear hq1 hx1 hb1
     have kk := (zah HX1.out).2.1
     have kr := (B1.out.cell (p := ⟨b2, o2 + h.toNat, none⟩) e3).trans HRC0.out
     obtain ⟨⟨k0, k1, k2⟩, f0, f1, f2⟩ := six HQ1.out
     obtain ⟨s0, s1, s2⟩ := zah (zaR (x := .slice none 0 0) (y := .slice none 0 0) (z := .slice none 0 0) HQ1.out).1
     go_wp2_with fail
     exact bodyPost_ret (v := .tuple #[.agg #[.slice none 0 0, .slice none 0 0, .slice none 0 0], .int .i64 90]) (by simp [results, Tryz.results161, go_sem, s0, s1, s2]) rfl ⟨_, rfl, zb3 _, za9 B1.out (by omega)⟩
   · rw [if_neg hfull]
     have hfull' : (zaJ m h).length < 8 := by omega
     clear hfull
     generalize hn1 : m.words.length = n1 at *
     generalize hn2 : m.pend.length = n2 at *
     generalize hn3 : m.res.length = n3 at *
     have HN1 := zhd hn1; have HN2 := zhd hn2; have HN3 := zhd hn3
     clear hn1 hn2 hn3
     obtain ⟨ln, hln⟩ : ∃ ln, (zaJ m h).length = ln := ⟨_, rfl⟩
     rw [hln] at HRC0 hfull' hl8
     have HLN := zhd hln; clear hln
     obtain ⟨i0, hi, hz0, hz1, hz2⟩ := info_parts zft
     go_enter Tryz.func161, Tryz.ntmps161
     go_wp2_with fail
     refine (zc2 _ m h a true _ (HM.out.below (by repeat (first | (with_reducible first | exact Below.refl _ _ | refine zaj ?_ ?_ _ | apply zag | refine zae ?_ (by assumption) | apply zak) | omega))) HH.out).mono ?_
     rintro e w1 ⟨rfl, hb1⟩
     have hq1 : w1.heap[w.heap.size + 1]? = some (.cells #[.slice none 0 0, .slice none 0 0, .slice none 0 0] 33 (0, 0)) := zaf hb1 (by have := zat (w.alloc (.cells #[.slice a1 n1 c1, .slice (some ⟨b2, o2, none⟩) n2 c2, .slice a3 n3 c3] 33)) zM; simpa using this)
     have hx1 : w1.heap[w.heap.size]? = some (.cells #[.slice a1 n1 c1, .slice (some ⟨b2, o2, none⟩) n2 c2, .slice a3 n3 c3] 33 (0, 0)) := zaf hb1 (zaf (zan _ _) (zat w _))
     have B1 : Hid (Below w.heap.size w w1) := zhd ((by repeat (first | (with_reducible first | exact Below.refl _ _ | refine zaj ?_ ?_ _ | apply zag | refine zae ?_ (by assumption) | apply zak) | omega)))
     have HQ1 := zhd hq1; have HX1 := zhd hx1
     have sz1 : w.heap.size + 1 + 1 ≤ w1.heap.size := by have := hb1.size; simpa using this
     clear hq1 hx1 hb1
     have kk := (zah HX1.out).2.1
     have kr := (B1.out.cell (p := ⟨b2, o2 + h.toNat, none⟩) e3).trans HRC0.out
     obtain ⟨k0, k1, k2⟩ := zah HX1.out
     go_wp2_with fail
     refine (zfG _ m _ (HM.out.below B1.out) HS.out).mono ?_
     rintro e w2 ⟨p, wv, pv, rv, rs, rfl, ho2, hb2⟩
     have HQ2 := zhd (zaf hb2 HQ1.out)
     have B2 : Hid (Below w.heap.size w w2) := zhd (zae B1.out hb2)
     obtain ⟨gp, cp, r, rfl, hcp, hcm, hr, hrc, hrf, hro⟩ := ho2.rowAt h0 (by rw [HN2.out]; exact h1)
     obtain ⟨aw, cw, rfl⟩ := zai ho2.words
     obtain ⟨arr, crr, rfl⟩ := zai ho2.res
     obtain ⟨xr, yr, rfl⟩ := zai hro
     rw [HLN.out] at hr hrc hro
     rw [HN2.out] at hcp
     have hgpB : w1.heap.size ≤ gp := (ho2.pend.lt gp rfl).1
     have hgp := ho2.base
     have hgl := (ho2.pend.lt gp rfl).2
     have HO2 := zhd ho2; have HR := zhd hr; have HRO := zhd hro
     have lp := zao ho2.at_
     clear ho2 hb2 hr hro k0 k1 k2 kk kr HQ1
     rw [HN1.out, HN2.out, HN3.out] at HO2
     have szz : w.heap.size + 1 < w2.heap.size := zao HQ2.out
     go_wp2_with fail
     refine zaL (fun w' => (p < w'.heap.size ∧ gp < w'.heap.size) ∧ w'.heap[p]? = some (.cells #[.slice aw n1 cw, .slice (some ⟨gp, 0, none⟩) n2 cp, .slice arr n3 crr] 187 (0, 0)) ∧ w'.cell? ⟨gp, h.toNat, none⟩ = some (.slice xr ln yr)) 20 [true, true, true, true, true, true, true, true, true, true, true, true, true, true, true, true] (by kernel_rfl) (by kernel_rfl) (by kernel_rfl)
      (fun w1 w2 h hu => ⟨⟨Nat.lt_of_lt_of_le h.1.1 hu.size, Nat.lt_of_lt_of_le h.1.2 hu.size⟩, zaf hu h.2.1, by rw [hu.cell (p := ⟨gp, _, none⟩) h.1.2]; exact h.2.2⟩) ⟨⟨lp, hgl⟩, HO2.out.at_, hrc⟩ ?a' ?h ?ht
     case h =>
      intro w0 ⟨⟨l1, l2⟩, c1, c2⟩
      obtain ⟨k0, k1, k2⟩ := zah c1
      have y0 := fun x => zal l1 k0 x
      have y1 := fun x => zal l1 k1 x
      have y2 := fun x => zal l1 k2 x
      have y3 := fun x => zal l2 c2 x
      clear c1 c2 k0 k1 k2
      simp only [zbb]
      repeat (go_big_quiet_step (fail))
      refine wpQuiet_nil ?_
      rfl
     case ht =>
      change zbO _ _ _ _ _ _ 4 _ _ _
      refine zaz (i := 16) (by kernel_rfl) (by decide) rfl ?_
      intro w3 hu3 hc3
      have HU3 : Hid (Up w2 w3) := zhd (zbk hu3); have HC3 := zhd hc3; clear hu3 hc3
      go_wp2_with (go_at_call 124; ((with_reducible refine (zaX n _).mono ?_); rintro e w' ⟨rfl, rfl⟩))
      refine ⟨HC3.out, ?_⟩
      refine zaz (i := 17) (by kernel_rfl) (by decide) rfl ?_
      intro w4 hu4 hc4
      have HU4 := zhd (zcI HU3.out hu4); have HC4 := zhd hc4; clear hu4 hc4
      go_wp2_with fail
      refine ⟨HC4.out, ?_⟩
      refine zaz (i := 18) (by kernel_rfl) (by decide) rfl ?_
      intro w5 hu5 hc5
      have HU5 := zhd (zcI HU4.out hu5); have HC5 := zhd hc5; clear hu5 hc5
      go_wp2_with fail
      refine ⟨⟨⟨Nat.lt_of_lt_of_le HC5.out.1.1 (zan w5 _).size, Nat.lt_of_lt_of_le HC5.out.1.2 (zan w5 _).size⟩, zaf (zan w5 _) HC5.out.2.1, by rw [(zan w5 _).cell (p := ⟨gp, _, none⟩) HC5.out.1.2]; exact HC5.out.2.2⟩, ?_⟩
      refine zaz (i := 19) (by kernel_rfl) (by decide) rfl ?_
      intro w6 hu6 hc6
      have HN6 : Hid (w6.heap[w5.heap.size]? = some (.cells #[.int .i64 a, .int .i64 (wrap32 n)] 127 (0, 0))) := zhd (zaf hu6 (zat w5 _))
      have HU6 : Hid (Up w2 w6) := zhd (zcI HU5.out (zcI (zan w5 _) hu6)); have HC6 := zhd hc6; clear hu6 hc6
      have HO6 := zhd (HO2.out.below HU6.out); have HRO6 := zhd (zab HRO.out HU6.out)
      have HS6 : Hid (∀ j u, (entC [(a, wrap32 n)])[j]? = some u → w6.cell? ((⟨w5.heap.size, 0, none⟩ : Addr).add j) = some u) := zhd (fun j u hj => by
       rw [zaQ]
       have hj' := (List.getElem?_eq_some_iff.1 hj).1
       simp only [entC, List.length_cons, List.length_nil] at hj'
       rcases (by omega : j = 0 ∨ j = 1) with rfl | rfl
       · simp [entC] at hj; subst hj; exact zad HN6.out rfl
       · simp [entC] at hj; subst hj; exact zad HN6.out rfl)
      have hby : (ln + 1) * 16 ≤ 140737488355328 := by omega
      have hmx : ln + 1 ≤ maxLen := by unfold maxLen; omega
      have hsz6 : w1.heap.size ≤ w6.heap.size := by have := HU6.out.size; omega
      refine wpList_append_own _ rfl _ _ 57 rfl w1.heap.size 127 i0 (.agg #[.int .i64 0, .int .i64 0]) 2 16 Tryz.underlying57 hi hz0 hz1 hz2 rfl (by decide) _ _ _ rfl HRO6.out ⟨w5.heap.size, 0, none⟩ 1 1 (entC [(a, wrap32 n)]) rfl rfl HS6.out (zdb _) hmx hby hsz6 ?_
      intro v' w7 hown7 hgrow7 _
      obtain ⟨xv, yv, rfl⟩ := zai hown7
      rw [← zjp] at hown7
      have HO7 := zhd hown7; have HG7 := zhd hgrow7
      clear hown7 hgrow7
      have q1 : w7.heap[p]? = w6.heap[p]? := HG7.out.block p HC6.out.1.1 (fun e => zar HRO6.out HC6.out.2.1 (by decide) e.symm)
      have q2 : w7.heap[gp]? = w6.heap[gp]? := HG7.out.block gp HC6.out.1.2 (fun e => zaC HO6.out.pend HRO6.out (by decide) (g := gp) rfl e.symm)
      have HC7 : Hid ((p < w7.heap.size ∧ gp < w7.heap.size) ∧ w7.heap[p]? = some (.cells #[.slice aw n1 cw, .slice (some ⟨gp, 0, none⟩) n2 cp, .slice arr n3 crr] 187 (0, 0)) ∧ w7.cell? ⟨gp, h.toNat, none⟩ = some (.slice xr ln yr)) := zhd ⟨⟨Nat.lt_of_lt_of_le HC6.out.1.1 HG7.out.size, Nat.lt_of_lt_of_le HC6.out.1.2 HG7.out.size⟩, by rw [q1]; exact HC6.out.2.1, by rw [World.cell?_of_block (a := ⟨gp, h.toNat, none⟩) q2]; exact HC6.out.2.2⟩
      have hq7 : w7.heap[w.heap.size + 1]? = some (.cells #[.slice none 0 0, .slice none 0 0, .slice none 0 0] 33 (0, 0)) := by rw [HG7.out.block (w.heap.size + 1) (by have := HU6.out.size; omega) (fun e => zar HRO6.out (zaf HU6.out HQ2.out) (by decide) e.symm)]; exact zaf HU6.out HQ2.out
      have HQ7 := zhd hq7; clear hq7 q1 q2
      have B7 : Hid (Below w.heap.size w w7) := zhd (zhQ (zae B2.out HU6.out) HG7.out (fun g e => by have := (HRO6.out.lt g e).1; omega))
      go_wp2_with fail
      refine ⟨HC7.out, ?_⟩
      refine zaO (by kernel_rfl) ?_
      intro w8 hu8 hc8
      have HU8 := zhd hu8; clear hu8 hc8
      have HST := zhd (HO6.out.stored (by decide) (by decide) HR.out (zdv HG7.out HG7.out.size HU8.out) (r' := .slice xv (ln + 1) yv) (l' := zaJ m h ++ [(a, wrap32 n)]) (by simp only [List.length_append, List.length_cons, List.length_nil, HLN.out]; exact zab HO7.out HU8.out) rfl)
      obtain ⟨cc, hcc⟩ := zbx HO6.out.pend (g := gp) rfl
      have hff : w8.frozen? ⟨gp, h.toNat, none⟩ = false := zaa (show w8.heap[gp]? = some (.cells cc _ (0, 0)) by rw [HU8.out.block gp HC7.out.1.2, HG7.out.block gp HC6.out.1.2 (fun e => zaC HO6.out.pend HRO6.out (by decide) (g := gp) rfl e.symm)]; exact hcc) _
      have hcl := (HU8.out.cell (p := ⟨gp, h.toNat, none⟩) HC7.out.1.2).trans HC7.out.2.2
      have HQ8 := zhd (zaf HU8.out HQ7.out); have B8 := zhd (zae B7.out HU8.out)
      clear hcc
      have HQ9 : Hid ((w8.setCell ⟨gp, h.toNat, none⟩ (.slice xv (ln + 1) yv)).heap[w.heap.size + 1]? = some (.cells #[.slice none 0 0, .slice none 0 0, .slice none 0 0] 33 (0, 0))) := zhd (by rw [zaD (by omega)]; exact HQ8.out)
      have B9 : Hid (Below w.heap.size w (w8.setCell ⟨gp, h.toNat, none⟩ (.slice xv (ln + 1) yv))) := zhd (zaj B8.out (by omega) _)
      simp only [List.drop_succ_cons, List.drop_zero]
      go_upto_region 7 with (fail)
      obtain ⟨w9, hw9⟩ : ∃ w9, w8.setCell ⟨gp, h.toNat, none⟩ (.slice xv (ln + 1) yv) = w9 := ⟨_, rfl⟩
      rw [hw9] at HQ9 B9 HST
      rw [hw9]
      clear hw9 hff hcl
      obtain ⟨⟨f0, f1, f2⟩, g0, g1, g2⟩ := six HQ9.out
      obtain ⟨t0, t1, t2⟩ := zah HST.out.1
      obtain ⟨s0, s1, s2⟩ := zah (zaR (x := .slice aw n1 cw) (y := .slice (some ⟨gp, 0, none⟩) n2 cp) (z := .slice arr n3 crr) HQ9.out).1
      have HM9 := zhd (zbt (.slice aw n1 cw) (.slice (some ⟨gp, 0, none⟩) n2 cp) (.slice arr n3 crr) HST.out.2 HQ9.out)
      have B10 := zhd (za9 (x := .slice aw n1 cw) (y := .slice (some ⟨gp, 0, none⟩) n2 cp) (z := .slice arr n3 crr) B9.out (show w.heap.size ≤ w.heap.size + 1 by omega))
      go_wp2_with fail
      exact bodyPost_ret (v := .tuple #[.agg #[.slice aw n1 cw, .slice (some ⟨gp, 0, none⟩) n2 cp, .slice arr n3 crr], .int .i64 0]) (by simp [results, Tryz.results161, go_sem, s0, s1, s2]) rfl ⟨_, rfl, HM9.out, B10.out⟩
end
section
open Go.RowKit
set_option maxRecDepth 100000
theorem zmP (x1 x2 a : Int) (q : Nat) (r : Bool) (w : World) (hq : w.cell? ⟨q, 0, none⟩ = some (.int .i64 a)) (hlt : q < w.heap.size) (hr : (x1 == a) = r) :
 Calls Tryz.prog 121 #[.agg #[.int .i64 x1, .int .i64 x2], .pointer (some ⟨q, 0, none⟩)] w fun e w' => e = .returned (.bool r) ∧ Below w.heap.size w w' := by
 go_enter Tryz.func121, Tryz.ntmps121
 go_wp2_with fail
 go_ret
 exact ⟨ret1 (za1 (by first | rfl | exact hr)), zan _ _⟩
def zer (l : List (Int × Int)) (a : Int) : Bool := l.any fun x => decide (x.1 = a)
theorem zkK (l : List (Int × Int)) (x : Int × Int) (a : Int) : zer (l ++ [x]) a = (zer l a || decide (x.1 = a)) := by simp [zer]
theorem zkJ {l : List (Int × Int)} {a : Int} {j k : Nat} {x : Int × Int} (hj : j < k) (hx : l[j]? = some x) (h : x.1 = a) : zer (l.take k) a = true := by
 unfold zer
 rw [List.any_eq_true]
 refine ⟨x, ?_, by simp [h]⟩
 apply List.mem_of_getElem? (i := j)
 rw [List.getElem?_take, if_pos hj, hx]
def zmZ (w : World) (r : Bool) (e : Ending) (w' : World) : Prop := (∃ n : Int, e = .returned (.int .i64 n) ∧ decide (0 ≤ n) = r) ∧ Below w.heap.size w w'
set_option maxHeartbeats 1000000 in
theorem zma (b o k c q : Nat) (l : List (Int × Int)) (a : Int) (w : World) (hk : k ≤ l.length) (hkc : k ≤ c) (_ : c ≤ 9223372036854775807) (hlt : b < w.heap.size) (hc : ∀ j x, l[j]? = some x → w.cell? ⟨b, o + j * 2, none⟩ = some (.int .i64 x.1) ∧ w.cell? ⟨b, o + j * 2 + 1, none⟩ = some (.int .i64 x.2))
 (hq : w.cell? ⟨q, 0, none⟩ = some (.int .i64 a)) (hql : q < w.heap.size) (hb : k ≤ 1000) :
 Calls Tryz.prog 167 #[.slice (some ⟨b, o, none⟩) k c, .func (.func 121) #[] #[.pointer (some ⟨q, 0, none⟩)]] w (zmZ w (zer (l.take k) a)) := by
 have HC := zhd hc; have HQ := zhd hq; clear hc hq
 unfold zmZ
 go_enter Tryz.func167, Tryz.ntmps167
 go_wp2_with fail
 go_loopw [8, 5] (fun i _ wr => ∃ j : Nat, j ≤ k ∧ i = .int .i64 j ∧ zer (l.take j) a = false ∧ Below w.heap.size w wr) (fun i _ _ => k - (intOf i).toNat)
 case atStart => exact ⟨0, Nat.zero_le _, rfl, rfl, Below.refl _ _⟩
 case round =>
  obtain ⟨j, hj, rfl, ha, hbb⟩ := hrel
  have HA := zhd ha; have HB := zhd hbb; clear ha hbb
  have HQr := zhd ((HB.out.cell (p := ⟨q, 0, none⟩) hql).trans HQ.out)
  have hqr : q < wr.heap.size := Nat.lt_of_lt_of_le hql HB.out.size
  by_cases hjk : j < k
  · have hjl : j < l.length := by omega
    obtain ⟨h1, h2⟩ := HC.out j l[j] (by simp)
    have g1 := (HB.out.cell (p := ⟨b, o + j * 2, none⟩) hlt).trans h1
    have g2 := (HB.out.cell (p := ⟨b, o + j * 2 + 1, none⟩) hlt).trans h2
    have HX : Hid (l[j]? = some l[j]) := zhd (by simp)
    have HS : Hid (zer (l.take (j + 1)) a = (zer (l.take j) a || decide (l[j].1 = a))) := zhd (by rw [List.take_succ_eq_append_getElem hjl, zkK])
    clear h1 h2
    generalize l[j] = x at *
    obtain ⟨x1, x2⟩ := x
    simp only at *
    cases hx : (x1 == a)
    · have HN : Hid (zer (l.take (j + 1)) a = false) := zhd (by rw [HS.out, HA.out]; simp at hx; simp [hx])
      have HE := zhd hx; clear hx
      go_wp2_with (go_at_call 121; ((with_reducible refine (zmP x1 x2 a q false _ HQr.out hqr HE.out).mono ?_); rintro e w1 ⟨rfl, hb1⟩))
      go_roundw
      case rel => exact ⟨j + 1, by omega, by go_num, HN.out, zae HB.out hb1⟩
      case measure => simp [intOf]; omega
    · have HT : Hid (zer (l.take k) a = true) := zhd (zkJ hjk HX.out (by simpa using hx))
      have HE := zhd hx; clear hx
      go_wp2_with (go_at_call 121; ((with_reducible refine (zmP x1 x2 a q true _ HQr.out hqr HE.out).mono ?_); rintro e w1 ⟨rfl, hb1⟩))
      go_ret
      exact ⟨⟨_, rfl, by rw [HT.out]; simp⟩, zae HB.out hb1⟩
  · have hjn : j = k := by omega
    subst hjn
    go_wp2_with fail
    go_ret
    exact ⟨⟨_, rfl, by rw [HA.out]; rfl⟩, HB.out⟩
theorem ze6 (b o k c q : Nat) (l : List (Int × Int)) (a : Int) (r : Bool) (w : World) (hr : zer (l.take k) a = r) (hk : k ≤ l.length) (hkc : k ≤ c) (hcm : c ≤ 9223372036854775807) (hlt : b < w.heap.size) (hc : ∀ j x, l[j]? = some x → w.cell? ⟨b, o + j * 2, none⟩ = some (.int .i64 x.1) ∧ w.cell? ⟨b, o + j * 2 + 1, none⟩ = some (.int .i64 x.2))
 (hq : w.cell? ⟨q, 0, none⟩ = some (.int .i64 a)) (hql : q < w.heap.size) (hb : k ≤ 1000) :
 Calls Tryz.prog 120 #[.slice (some ⟨b, o, none⟩) k c, .func (.func 121) #[] #[.pointer (some ⟨q, 0, none⟩)]] w fun e w' => e = .returned (.bool r) ∧ Below w.heap.size w w' := by
 subst hr
 have HI := zhd (zma b o k c q l a w hk hkc hcm hlt hc hq hql hb)
 clear hc hq
 go_enter Tryz.func120, Tryz.ntmps120
 go_wp2_with (go_at_call 167; ((with_reducible refine (HI.out).mono ?_); rintro e w1 ⟨⟨n, rfl, hn⟩, hb1⟩; have HNN := zhd hn; clear hn))
 go_ret
 exact ⟨ret1 (za1 (by first | exact HNN.out | rfl)), hb1⟩
end
section
open Go.RowKit
set_option maxRecDepth 100000
theorem zgw {m : Mem} {h : Int} (hh : zdu m h = true) : 0 ≤ h ∧ h < m.pend.length ∧ h < m.res.length := by
 simp only [zdu, Bool.and_eq_true, decide_eq_true_eq] at hh
 omega
theorem zeL {w : World} {a : Option Addr} {n c : Nat} {l : List (Int × Int)} (h : Reads w 2 n (.slice a n c) (entC l)) (hn : 0 < n) : ∃ b o, a = some ⟨b, o, none⟩ ∧ b < w.heap.size ∧ n ≤ c ∧ c ≤ 9223372036854775807 ∧
 ∀ j x, l[j]? = some x → w.cell? ⟨b, o + j * 2, none⟩ = some (.int .i64 x.1) ∧ w.cell? ⟨b, o + j * 2 + 1, none⟩ = some (.int .i64 x.2) := by
 obtain ⟨b, o, c', e, hlt, hc, hm, hcell⟩ := h.some hn
 injection e with e1 _ e2
 subst e1 e2
 unfold maxLen at hm
 refine ⟨b, o, rfl, hlt, hc, by omega, fun j x hx => ?_⟩
 obtain ⟨h1, h2⟩ := zg7 l j x hx
 exact ⟨hcell _ _ h1, hcell _ _ h2⟩
theorem zmE {m : Mem} {h : Int} {k : Nat} {x : Int × Int} (hh : zdu m h = true) (hx : (zaJ m h)[k]? = some x) : zc6 m h k = (if hasB m h x.1 then (if zer ((zaJ m h).take k) x.1 then (zdD, 91) else (zei m h k, 0)) else (zdD, 1)) := by
 have hk := (List.getElem?_eq_some_iff.1 hx).1
 unfold zc6 zmY zer
 rw [hh]
 simp only [Int.toNat_natCast]
 have e : (zaJ m h).getD k (0, 0) = x := by rw [List.getD_eq_getElem?_getD, hx]; rfl
 simp only [e]
 rw [if_pos (by simp; omega)]
theorem zg9 {m : Mem} {h k : Int} (hh : zdu m h = false ∨ k < 0 ∨ (zaJ m h).length ≤ k) : zc6 m h k = (zdD, 1) := by
 unfold zc6
 rw [if_neg]
 intro h2
 simp only [Bool.and_eq_true, decide_eq_true_eq] at h2
 rcases hh with h3 | h3
 · rw [h3] at h2; exact absurd h2.1 (by decide)
 · omega
set_option maxHeartbeats 8000000 in
theorem zgm (v : Value) (m : Mem) (h k : Int) (w : World) (hm : IsMem w v m) (hs : Small m) :
 Calls Tryz.prog 78 #[v, .int .i64 h, .int .i64 k] w (zej w w.heap.size (zc6 m h k)) := by
 have HM := zhd hm; have HS := zhd hs
 obtain ⟨a1, c1, a2, c2, a3, c3, rows, rfl, _, _, _, _⟩ := hm.parts
 unfold zej
 cases hh : zdu m h
 · rw [zg9 (.inl hh)]
   have HH := zhd hh; clear hh hm
   generalize hn1 : m.words.length = n1 at *
   generalize hn2 : m.pend.length = n2 at *
   generalize hn3 : m.res.length = n3 at *
   clear hn1 hn2 hn3
   go_enter Tryz.func78, Tryz.ntmps78
   go_wp2_with fail
   refine (zbT _ m h false _ (HM.out.below (by repeat (first | (with_reducible first | exact Below.refl _ _ | refine zaj ?_ ?_ _ | apply zag | refine zae ?_ (by assumption) | apply zak) | omega))) HH.out).mono ?_
   rintro e w1 ⟨rfl, hb1⟩
   have hq1 : w1.heap[w.heap.size + 1]? = some (.cells #[.slice none 0 0, .slice none 0 0, .slice none 0 0] 33 (0, 0)) := zaf hb1 (by have := zat (w.alloc (.cells #[.slice a1 n1 c1, .slice a2 n2 c2, .slice a3 n3 c3] 33)) zM; simpa using this)
   have hx1 : w1.heap[w.heap.size]? = some (.cells #[.slice a1 n1 c1, .slice a2 n2 c2, .slice a3 n3 c3] 33 (0, 0)) := zaf hb1 (zaf (zan _ _) (zat w _))
   have B1 : Hid (Below w.heap.size w w1) := zhd ((by repeat (first | (with_reducible first | exact Below.refl _ _ | refine zaj ?_ ?_ _ | apply zag | refine zae ?_ (by assumption) | apply zak) | omega)))
   have HQ1 := zhd hq1; have HX1 := zhd hx1
   have sz1 : w.heap.size + 1 + 1 ≤ w1.heap.size := by have := hb1.size; simpa using this
   clear hq1 hx1 hb1
   obtain ⟨⟨k0, k1, k2⟩, f0, f1, f2⟩ := six HQ1.out
   obtain ⟨s0, s1, s2⟩ := zah (zaR (x := .slice none 0 0) (y := .slice none 0 0) (z := .slice none 0 0) HQ1.out).1
   go_wp2_with fail
   exact bodyPost_ret (v := .tuple #[.agg #[.slice none 0 0, .slice none 0 0, .slice none 0 0], .int .i64 1]) (by simp [results, Tryz.results78, go_sem, s0, s1, s2]) rfl ⟨_, rfl, zb3 _, za9 B1.out (by omega)⟩
 · obtain ⟨h0, h1, h2⟩ := zgw hh
   by_cases hk0 : k < 0
   · rw [zg9 (.inr (.inl hk0))]
     have HH := zhd hh; clear hh hm
     generalize hn1 : m.words.length = n1 at *
     generalize hn2 : m.pend.length = n2 at *
     generalize hn3 : m.res.length = n3 at *
     clear hn1 hn2 hn3
     go_enter Tryz.func78, Tryz.ntmps78
     go_wp2_with fail
     refine (zbT _ m h true _ (HM.out.below (by repeat (first | (with_reducible first | exact Below.refl _ _ | refine zaj ?_ ?_ _ | apply zag | refine zae ?_ (by assumption) | apply zak) | omega))) HH.out).mono ?_
     rintro e w1 ⟨rfl, hb1⟩
     have hq1 : w1.heap[w.heap.size + 1]? = some (.cells #[.slice none 0 0, .slice none 0 0, .slice none 0 0] 33 (0, 0)) := zaf hb1 (by have := zat (w.alloc (.cells #[.slice a1 n1 c1, .slice a2 n2 c2, .slice a3 n3 c3] 33)) zM; simpa using this)
     have hx1 : w1.heap[w.heap.size]? = some (.cells #[.slice a1 n1 c1, .slice a2 n2 c2, .slice a3 n3 c3] 33 (0, 0)) := zaf hb1 (zaf (zan _ _) (zat w _))
     have B1 : Hid (Below w.heap.size w w1) := zhd ((by repeat (first | (with_reducible first | exact Below.refl _ _ | refine zaj ?_ ?_ _ | apply zag | refine zae ?_ (by assumption) | apply zak) | omega)))
     have HQ1 := zhd hq1; have HX1 := zhd hx1
     have sz1 : w.heap.size + 1 + 1 ≤ w1.heap.size := by have := hb1.size; simpa using this
     clear hq1 hx1 hb1
     obtain ⟨⟨k0, k1, k2⟩, f0, f1, f2⟩ := six HQ1.out
     obtain ⟨s0, s1, s2⟩ := zah (zaR (x := .slice none 0 0) (y := .slice none 0 0) (z := .slice none 0 0) HQ1.out).1
     go_wp2_with fail
     exact bodyPost_ret (v := .tuple #[.agg #[.slice none 0 0, .slice none 0 0, .slice none 0 0], .int .i64 1]) (by simp [results, Tryz.results78, go_sem, s0, s1, s2]) rfl ⟨_, rfl, zb3 _, za9 B1.out (by omega)⟩
   · obtain ⟨kk, rfl⟩ : ∃ kk : Nat, k = kk := ⟨k.toNat, by omega⟩
     obtain ⟨b2, o2, ar, cr0, rfl, e0, e1, e2, e3, hrc0, hrd0⟩ := hm.row h1 h0
     have HH := zhd hh; have HRC0 := zhd hrc0; have HRD0 := zhd hrd0; clear hm hrc0 hrd0 e0 hk0
     have hl8 : (zaJ m h).length ≤ 1000 := HS.out.each _ (List.mem_of_getElem? (zdi h1 h0))
     by_cases hkl : kk < (zaJ m h).length
     rotate_left
     · rw [zg9 (.inr (.inr (by omega)))]
       clear hh
       generalize hn1 : m.words.length = n1 at *
       generalize hn2 : m.pend.length = n2 at *
       generalize hn3 : m.res.length = n3 at *
       clear hn1 hn2 hn3
       have hkl' : ((zaJ m h).length : Int) ≤ kk := by omega
       generalize (zaJ m h).length = ln at *
       clear hkl
       go_enter Tryz.func78, Tryz.ntmps78
       go_wp2_with fail
       refine (zbT _ m h true _ (HM.out.below (by repeat (first | (with_reducible first | exact Below.refl _ _ | refine zaj ?_ ?_ _ | apply zag | refine zae ?_ (by assumption) | apply zak) | omega))) HH.out).mono ?_
       rintro e w1 ⟨rfl, hb1⟩
       have hq1 : w1.heap[w.heap.size + 1]? = some (.cells #[.slice none 0 0, .slice none 0 0, .slice none 0 0] 33 (0, 0)) := zaf hb1 (by have := zat (w.alloc (.cells #[.slice a1 n1 c1, .slice (some ⟨b2, o2, none⟩) n2 c2, .slice a3 n3 c3] 33)) zM; simpa using this)
       have hx1 : w1.heap[w.heap.size]? = some (.cells #[.slice a1 n1 c1, .slice (some ⟨b2, o2, none⟩) n2 c2, .slice a3 n3 c3] 33 (0, 0)) := zaf hb1 (zaf (zan _ _) (zat w _))
       have B1 : Hid (Below w.heap.size w w1) := zhd ((by repeat (first | (with_reducible first | exact Below.refl _ _ | refine zaj ?_ ?_ _ | apply zag | refine zae ?_ (by assumption) | apply zak) | omega)))
       have HQ1 := zhd hq1; have HX1 := zhd hx1
       have sz1 : w.heap.size + 1 + 1 ≤ w1.heap.size := by have := hb1.size; simpa using this
       clear hq1 hx1 hb1
       have kk2 := (zah HX1.out).2.1
       have kr := (B1.out.cell (p := ⟨b2, o2 + h.toNat, none⟩) e3).trans HRC0.out
       obtain ⟨⟨k0, k1, k2⟩, f0, f1, f2⟩ := six HQ1.out
       obtain ⟨s0, s1, s2⟩ := zah (zaR (x := .slice none 0 0) (y := .slice none 0 0) (z := .slice none 0 0) HQ1.out).1
       go_wp2_with fail
       exact bodyPost_ret (v := .tuple #[.agg #[.slice none 0 0, .slice none 0 0, .slice none 0 0], .int .i64 1]) (by simp [results, Tryz.results78, go_sem, s0, s1, s2]) rfl ⟨_, rfl, zb3 _, za9 B1.out (by omega)⟩
     · have hx : (zaJ m h)[kk]? = some (zaJ m h)[kk] := by simp
       generalize (zaJ m h)[kk] = x at hx
       rw [zmE hh hx]
       obtain ⟨b3, o3, rfl, f1, f2, f3, f4⟩ := zeL HRD0.out (by omega)
       obtain ⟨g1, g2⟩ := f4 kk x hx
       have HF4 := zhd f4; have HX0 := zhd hx; have HG1 := zhd g1; clear f4 hh hx g1 g2 HRD0
       obtain ⟨x1, x2⟩ := x
       simp only at *
       generalize hn1 : m.words.length = n1 at *
       generalize hn2 : m.pend.length = n2 at *
       generalize hn3 : m.res.length = n3 at *
       have HN1 := zhd hn1; have HN2 := zhd hn2; have HN3 := zhd hn3
       clear hn1 hn2 hn3
       obtain ⟨ln, hln⟩ : ∃ ln, (zaJ m h).length = ln := ⟨_, rfl⟩
       rw [hln] at hkl hl8 f2 HRC0
       have HLN := zhd hln; clear hln
       cases hhb : hasB m h x1
       · rw [if_neg (by decide)]
         have HHB := zhd hhb; clear hhb
         go_enter Tryz.func78, Tryz.ntmps78
         go_wp2_with fail
         refine (zbT _ m h true _ (HM.out.below (by repeat (first | (with_reducible first | exact Below.refl _ _ | refine zaj ?_ ?_ _ | apply zag | refine zae ?_ (by assumption) | apply zak) | omega))) HH.out).mono ?_
         rintro e w1 ⟨rfl, hb1⟩
         have hq1 : w1.heap[w.heap.size + 1]? = some (.cells #[.slice none 0 0, .slice none 0 0, .slice none 0 0] 33 (0, 0)) := zaf hb1 (by have := zat (w.alloc (.cells #[.slice a1 n1 c1, .slice (some ⟨b2, o2, none⟩) n2 c2, .slice a3 n3 c3] 33)) zM; simpa using this)
         have hx1 : w1.heap[w.heap.size]? = some (.cells #[.slice a1 n1 c1, .slice (some ⟨b2, o2, none⟩) n2 c2, .slice a3 n3 c3] 33 (0, 0)) := zaf hb1 (zaf (zan _ _) (zat w _))
         have B1 : Hid (Below w.heap.size w w1) := zhd ((by repeat (first | (with_reducible first | exact Below.refl _ _ | refine zaj ?_ ?_ _ | apply zag | refine zae ?_ (by assumption) | apply zak) | omega)))
         have HQ1 := zhd hq1; have HX1 := zhd hx1
         have sz1 : w.heap.size + 1 + 1 ≤ w1.heap.size := by have := hb1.size; simpa using this
         clear hq1 hx1 hb1
         have kk2 := (zah HX1.out).2.1
         have kr := (B1.out.cell (p := ⟨b2, o2 + h.toNat, none⟩) e3).trans HRC0.out
         have kg := (B1.out.cell (p := ⟨b3, o3 + kk * 2, none⟩) f1).trans HG1.out
         obtain ⟨k0, k1, k2⟩ := zah HX1.out
         have lw1 : w.heap.size < w1.heap.size := by omega
         go_wp2_with fail
         refine (zc2 _ m h x1 false _ (HM.out.below (zae B1.out (zan _ _))) HHB.out).mono ?_
         rintro e w2 ⟨rfl, hb2⟩
         have U2 : Hid (Below w1.heap.size w1 w2) := zhd (zae (zan _ _) hb2)
         have HA2 : Hid (w2.heap[w1.heap.size]? = some (.cells #[.int .i64 x1] 3 (0, 0))) := zhd (zaf hb2 (zat w1 _))
         have HQ2 := zhd (zaf U2.out HQ1.out); have HX2 := zhd (zaf U2.out HX1.out); have B2 := zhd (zae B1.out U2.out)
         clear hb2 k0 k1 k2 kk2 kr kg HQ1 HX1
         obtain ⟨⟨k0, k1, k2⟩, f0, f1, f2⟩ := six HQ2.out
         obtain ⟨s0, s1, s2⟩ := zah (zaR (x := .slice none 0 0) (y := .slice none 0 0) (z := .slice none 0 0) HQ2.out).1
         go_wp2_with fail
         exact bodyPost_ret (v := .tuple #[.agg #[.slice none 0 0, .slice none 0 0, .slice none 0 0], .int .i64 1]) (by simp [results, Tryz.results78, go_sem, s0, s1, s2]) rfl ⟨_, rfl, zb3 _, za9 B2.out (by omega)⟩
       · rw [if_pos rfl]
         have HHB := zhd hhb
         cases han : zer ((zaJ m h).take kk) x1
         · rw [if_neg (by decide)]
           have HAN := zhd han; clear han
           go_enter Tryz.func78, Tryz.ntmps78
           go_wp2_with fail
           refine (zbT _ m h true _ (HM.out.below (by repeat (first | (with_reducible first | exact Below.refl _ _ | refine zaj ?_ ?_ _ | apply zag | refine zae ?_ (by assumption) | apply zak) | omega))) HH.out).mono ?_
           rintro e w1 ⟨rfl, hb1⟩
           have hq1 : w1.heap[w.heap.size + 1]? = some (.cells #[.slice none 0 0, .slice none 0 0, .slice none 0 0] 33 (0, 0)) := zaf hb1 (by have := zat (w.alloc (.cells #[.slice a1 n1 c1, .slice (some ⟨b2, o2, none⟩) n2 c2, .slice a3 n3 c3] 33)) zM; simpa using this)
           have hx1 : w1.heap[w.heap.size]? = some (.cells #[.slice a1 n1 c1, .slice (some ⟨b2, o2, none⟩) n2 c2, .slice a3 n3 c3] 33 (0, 0)) := zaf hb1 (zaf (zan _ _) (zat w _))
           have B1 : Hid (Below w.heap.size w w1) := zhd ((by repeat (first | (with_reducible first | exact Below.refl _ _ | refine zaj ?_ ?_ _ | apply zag | refine zae ?_ (by assumption) | apply zak) | omega)))
           have HQ1 := zhd hq1; have HX1 := zhd hx1
           have sz1 : w.heap.size + 1 + 1 ≤ w1.heap.size := by have := hb1.size; simpa using this
           clear hq1 hx1 hb1
           have kk2 := (zah HX1.out).2.1
           have kr := (B1.out.cell (p := ⟨b2, o2 + h.toNat, none⟩) e3).trans HRC0.out
           have kg := (B1.out.cell (p := ⟨b3, o3 + kk * 2, none⟩) f1).trans HG1.out
           obtain ⟨k0, k1, k2⟩ := zah HX1.out
           have lw1 : w.heap.size < w1.heap.size := by omega
           go_wp2_with fail
           refine (zc2 _ m h x1 true _ (HM.out.below (zae B1.out (zan _ _))) HHB.out).mono ?_
           rintro e w2 ⟨rfl, hb2⟩
           have U2 : Hid (Below w1.heap.size w1 w2) := zhd (zae (zan _ _) hb2)
           have HA2 : Hid (w2.heap[w1.heap.size]? = some (.cells #[.int .i64 x1] 3 (0, 0))) := zhd (zaf hb2 (zat w1 _))
           have HQ2 := zhd (zaf U2.out HQ1.out); have HX2 := zhd (zaf U2.out HX1.out); have B2 := zhd (zae B1.out U2.out)
           clear hb2 k0 k1 k2 kk2 kr kg HQ1 HX1
           have ka := zad (j := 0) HA2.out rfl
           obtain ⟨k0, k1, k2⟩ := zah HX2.out
           go_wp2_with fail
           refine (ze6 b3 o3 kk _ w1.heap.size (zaJ m h) x1 false _ HAN.out (by rw [HLN.out]; omega) (by omega) (by omega) (by have := B2.out.size; omega) (fun j x hx => ⟨(B2.out.cell (p := ⟨b3, o3 + j * 2, none⟩) f1).trans (HF4.out j x hx).1, (B2.out.cell (p := ⟨b3, o3 + j * 2 + 1, none⟩) f1).trans (HF4.out j x hx).2⟩) (zad HA2.out rfl) (zao HA2.out) (by omega)).mono ?_
           rintro e w3 ⟨rfl, hb3⟩
           have HQ3 := zhd (zaf hb3 HQ2.out); have HX3 := zhd (zaf hb3 HX2.out); have B3 := zhd (zae B2.out hb3)
           clear hb3 k0 k1 k2 ka HQ2 HX2 HA2
           obtain ⟨k0, k1, k2⟩ := zah HX3.out
           go_wp2_with fail
           refine (zfG _ m _ (HM.out.below B3.out) HS.out).mono ?_
           rintro e w4 ⟨p, wv, pv, rv, rs, rfl, ho4, hb4⟩
           have HO4 := zhd ho4; have HQ4 := zhd (zaf hb4 HQ3.out); have B4 : Hid (Below w.heap.size w w4) := zhd (zae B3.out hb4); have sz4 := hb4.size
           have sz3 := B3.out.size; have lq3 := zao HQ3.out
           clear ho4 hb4 k0 k1 k2 hhb
           obtain ⟨mm, hmm⟩ : ∃ mm, ln = kk + 1 + mm := ⟨ln - (kk + 1), by omega⟩
           have HMM := zhd hmm; clear hmm
           go_wp2_with fail
           refine (zmG w3.heap.size p kk mm m wv pv rv rs h (x1, x2) _ HO4.out HS.out sz4 HHB.out (by rw [HLN.out]; exact HMM.out) HX0.out).mono ?_
           rintro e w5 ⟨rfl, ⟨rs5, ho5⟩, hb5⟩
           obtain ⟨x1', y1', rfl⟩ := zai ho5.words
           obtain ⟨x2', y2', rfl⟩ := zai ho5.pend
           obtain ⟨x3', y3', rfl⟩ := zai ho5.res
           generalize (zei m h kk).words.length = d1 at *
           generalize (zei m h kk).pend.length = d2 at *
           generalize (zei m h kk).res.length = d3 at *
           have HO5 := zhd ho5; have HQ5 : Hid (w5.heap[w.heap.size + 1]? = some (.cells #[.slice none 0 0, .slice none 0 0, .slice none 0 0] 33 (0, 0))) := zhd (zaq hb5 lq3 HQ4.out); have B5 : Hid (Below w.heap.size w w5) := zhd (B4.out.trans (hb5.mono sz3))
           clear ho5 hb5
           obtain ⟨t0, t1, t2⟩ := zah HO5.out.at_
           obtain ⟨⟨k0, k1, k2⟩, g0, g1, g2⟩ := six HQ5.out
           obtain ⟨s0, s1, s2⟩ := zah (zaR (x := .slice x1' d1 y1') (y := .slice x2' d2 y2') (z := .slice x3' d3 y3') HQ5.out).1
           have HM6 := zhd (zbt (.slice x1' d1 y1') (.slice x2' d2 y2') (.slice x3' d3 y3') HO5.out.isMem HQ5.out)
           have B6 := zhd (za9 (x := .slice x1' d1 y1') (y := .slice x2' d2 y2') (z := .slice x3' d3 y3') B5.out (show w.heap.size ≤ w.heap.size + 1 by omega))
           go_wp2_with fail
           exact bodyPost_ret (v := .tuple #[.agg #[.slice x1' d1 y1', .slice x2' d2 y2', .slice x3' d3 y3'], .int .i64 0]) (by simp [results, Tryz.results78, go_sem, s0, s1, s2]) rfl ⟨_, rfl, HM6.out, B6.out⟩
         · rw [if_pos rfl]
           clear hhb
           have HAN := zhd han; clear han
           go_enter Tryz.func78, Tryz.ntmps78
           go_wp2_with fail
           refine (zbT _ m h true _ (HM.out.below (by repeat (first | (with_reducible first | exact Below.refl _ _ | refine zaj ?_ ?_ _ | apply zag | refine zae ?_ (by assumption) | apply zak) | omega))) HH.out).mono ?_
           rintro e w1 ⟨rfl, hb1⟩
           have hq1 : w1.heap[w.heap.size + 1]? = some (.cells #[.slice none 0 0, .slice none 0 0, .slice none 0 0] 33 (0, 0)) := zaf hb1 (by have := zat (w.alloc (.cells #[.slice a1 n1 c1, .slice (some ⟨b2, o2, none⟩) n2 c2, .slice a3 n3 c3] 33)) zM; simpa using this)
           have hx1 : w1.heap[w.heap.size]? = some (.cells #[.slice a1 n1 c1, .slice (some ⟨b2, o2, none⟩) n2 c2, .slice a3 n3 c3] 33 (0, 0)) := zaf hb1 (zaf (zan _ _) (zat w _))
           have B1 : Hid (Below w.heap.size w w1) := zhd ((by repeat (first | (with_reducible first | exact Below.refl _ _ | refine zaj ?_ ?_ _ | apply zag | refine zae ?_ (by assumption) | apply zak) | omega)))
           have HQ1 := zhd hq1; have HX1 := zhd hx1
           have sz1 : w.heap.size + 1 + 1 ≤ w1.heap.size := by have := hb1.size; simpa using this
           clear hq1 hx1 hb1
           have kk2 := (zah HX1.out).2.1
           have kr := (B1.out.cell (p := ⟨b2, o2 + h.toNat, none⟩) e3).trans HRC0.out
           have kg := (B1.out.cell (p := ⟨b3, o3 + kk * 2, none⟩) f1).trans HG1.out
           obtain ⟨k0, k1, k2⟩ := zah HX1.out
           have lw1 : w.heap.size < w1.heap.size := by omega
           go_wp2_with fail
           refine (zc2 _ m h x1 true _ (HM.out.below (zae B1.out (zan _ _))) HHB.out).mono ?_
           rintro e w2 ⟨rfl, hb2⟩
           have U2 : Hid (Below w1.heap.size w1 w2) := zhd (zae (zan _ _) hb2)
           have HA2 : Hid (w2.heap[w1.heap.size]? = some (.cells #[.int .i64 x1] 3 (0, 0))) := zhd (zaf hb2 (zat w1 _))
           have HQ2 := zhd (zaf U2.out HQ1.out); have HX2 := zhd (zaf U2.out HX1.out); have B2 := zhd (zae B1.out U2.out)
           clear hb2 k0 k1 k2 kk2 kr kg HQ1 HX1
           have ka := zad (j := 0) HA2.out rfl
           obtain ⟨k0, k1, k2⟩ := zah HX2.out
           go_wp2_with fail
           refine (ze6 b3 o3 kk _ w1.heap.size (zaJ m h) x1 true _ HAN.out (by rw [HLN.out]; omega) (by omega) (by omega) (by have := B2.out.size; omega) (fun j x hx => ⟨(B2.out.cell (p := ⟨b3, o3 + j * 2, none⟩) f1).trans (HF4.out j x hx).1, (B2.out.cell (p := ⟨b3, o3 + j * 2 + 1, none⟩) f1).trans (HF4.out j x hx).2⟩) (zad HA2.out rfl) (zao HA2.out) (by omega)).mono ?_
           rintro e w3 ⟨rfl, hb3⟩
           have HQ3 := zhd (zaf hb3 HQ2.out); have HX3 := zhd (zaf hb3 HX2.out); have B3 := zhd (zae B2.out hb3)
           clear hb3 k0 k1 k2 ka HQ2 HX2 HA2
           obtain ⟨⟨k0, k1, k2⟩, f0, f1, f2⟩ := six HQ3.out
           obtain ⟨s0, s1, s2⟩ := zah (zaR (x := .slice none 0 0) (y := .slice none 0 0) (z := .slice none 0 0) HQ3.out).1
           go_wp2_with fail
           exact bodyPost_ret (v := .tuple #[.agg #[.slice none 0 0, .slice none 0 0, .slice none 0 0], .int .i64 91]) (by simp [results, Tryz.results78, go_sem, s0, s1, s2]) rfl ⟨_, rfl, zb3 _, za9 B3.out (by omega)⟩
end
section
open Go.RowKit Go.Shelf
attribute [local go_sem] Oper.semAt_some
def upto {α : Type} (f : Nat → α) (k : Nat) : List α := (List.range k).map f
theorem zfz {α : Type} (f : Nat → α) (k : Nat) : upto f (k + 1) = upto f k ++ [f k] := by simp [upto, List.range_succ]
theorem zic {α : Type} (f : Nat → α) (k : Nat) : (upto f k).length = k := by simp [upto]
theorem zjc {α : Type} {f : Nat → α} {k : Nat} {x : α} : x ∈ upto f k ↔ ∃ j, j < k ∧ f j = x := by simp [upto]
def zeV (l : List (Int × Int)) (j : Nat) : Nat × Int × Int := (l.length - 1 - j, l.getD (l.length - 1 - j) (0, 0))
def backE (x : Nat × Int × Int) : Array Value := #[.int .i64 (x.1 : Int), .agg #[.int .i64 x.2.1, .int .i64 x.2.2]]
set_option maxRecDepth 100000 in
set_option maxHeartbeats 2000000 in
theorem back1_in (F : Fence) (n : Nat) (h7 : F.fn 194) (hro : F.round = none) (hn : 1 ≤ n) (z Bs n₀ b off cap : Nat) (l : List (Int × Int)) (hlen : l.length ≤ 1000) (hb : b < n₀) (J Jx : List (Nat × Int × Int) → World → Prop)
 (hY : ∀ pre x W, J pre W → pre.length < l.length → YieldAt F (n - 1) Tryz.prog z (backE x) W fun e W' =>
  (e = .returned (.bool true) ∧ J (pre ++ [x]) W' ∧ Below n₀ W W') ∨ (e = .returned (.bool false) ∧ Jx (pre ++ [x]) W'))
 (W : World) (hBn : Bs < n₀) (hBs : W.cell? ⟨Bs, 0, none⟩ = some (.slice (some ⟨b, off, none⟩) l.length cap)) (hcap : l.length ≤ cap ∧ cap ≤ 9223372036854775807)
 (hc : ∀ j x, l[j]? = some x → W.cell? ⟨b, off + j * 2, none⟩ = some (.int .i64 x.1) ∧ W.cell? ⟨b, off + j * 2 + 1, none⟩ = some (.int .i64 x.2)) (h0 : J [] W) :
 CallsIn F n Tryz.prog 194 #[.func (.yield z) #[] #[], .pointer (some ⟨Bs, 0, none⟩)] W fun e W' => (∃ v, e = .returned v) ∧
  ((∃ ys, ys = upto (zeV l) l.length ∧ J ys W') ∨ (∃ pre, (∃ k, k ≤ l.length ∧ pre = upto (zeV l) k) ∧ Jx pre W')) := by
 have HC := zhd hc; clear hc
 obtain ⟨hcap1, hcap2⟩ := hcap
 have HBS := zhd hBs; have kb := hBs
 clear hBs
 refine callsIn_of_wp Tryz.func194 rfl h7 ?_ hro
 simp only [Tryz.ntmps194, List.size_toArray, List.length_cons, List.length_nil, Nat.reduceAdd, Nat.reduceSub, Array.replicate_succ, Array.replicate_zero, List.push_toArray, List.append_toArray, List.nil_append, List.cons_append]
 obtain ⟨ln, hln⟩ : ∃ ln, l.length = ln := ⟨_, rfl⟩
 rw [hln] at kb hcap1 hlen
 have HLN := zhd hln
 clear hln
 gi_wp2
 gi_loopw [3] (fun i wr => ∃ k r : Nat, ln = k + r ∧ i = .int .i64 ((r : Int) - 1) ∧ J (upto (zeV l) k) wr ∧ Below n₀ W wr)
  (fun i _ => (intOf i + 1).toNat)
 case atStart => exact ⟨0, ln, by omega, rfl, h0, Below.refl _ _⟩
 case round =>
  obtain ⟨k, r, hkr, hi, hJs, hnx⟩ := hrel
  have HBr := zhd ((hnx.cell (p := ⟨Bs, 0, none⟩) hBn).trans HBS.out)
  cases r with
  |
   zero =>
   obtain rfl : k = ln := by omega
   subst hi
   gi_wp2
   go_end0
   exact ⟨⟨_, rfl⟩, .inl ⟨_, by rw [HLN.out], hJs⟩⟩
  |
   succ r =>
   rw [show ((r + 1 : Nat) : Int) - 1 = (r : Int) by omega] at hi
   subst hi
   have hrl : r < l.length := by rw [HLN.out]; omega
   have hx : l[r]? = some (l[r]) := by simp
   obtain ⟨c1, c2⟩ := HC.out r _ hx
   have d1 := (hnx.cell (p := ⟨b, off + r * 2, none⟩) hb).trans c1
   have d2 := (hnx.cell (p := ⟨b, off + r * 2 + 1, none⟩) hb).trans c2
   have hbf : Hid (zeV l k = (r, l[r])) := zhd (by unfold zeV; rw [show l.length - 1 - k = r by rw [HLN.out]; omega]; simp [hrl])
   generalize l[r] = x at *
   obtain ⟨x1, x2⟩ := x
   obtain ⟨fn, tmps, assign, body, hy, hR⟩ := hY _ (r, x1, x2) wr hJs (by rw [zic, HLN.out]; omega)
   simp only [backE] at hy hR
   have kr := HBr.out
   simp only at d1 d2
   have hrln : r < ln := by omega
   have HKR := zhd hkr
   clear c1 c2 hx hkr
   gi_wp2
   refine hR.mono ?_
   rintro e W3 (⟨rfl, hJ3, hk3⟩ | ⟨rfl, hJx3⟩)
   · clear kr d1 d2
     gi_wp2
     go_roundw
     case rel => exact ⟨k + 1, r, by have := HKR.out; omega, by first | rfl | go_num, by rw [zfz, hbf.out]; exact hJ3, hnx.trans hk3⟩
     case measure => simp [intOf]
   · clear kr d1 d2
     gi_wp2
     refine bodyPost_ret (results_none rfl _ _ _) rfl ?_
     exact ⟨⟨_, rfl⟩, .inr ⟨_, ⟨k + 1, by rw [HLN.out]; have := HKR.out; omega, rfl⟩, by rw [zfz, hbf.out]; exact hJx3⟩⟩
set_option maxRecDepth 100000 in
set_option maxHeartbeats 1000000 in
theorem zh4 (F : Fence) (n : Nat) (h7 : F.fn 194) (hro : F.round = none) (z Bs cap : Nat) (a : Option Addr) (J : List (Nat × Int × Int) → World → Prop) (W : World) (hBs : W.cell? ⟨Bs, 0, none⟩ = some (.slice a 0 cap)) (h0 : J [] W) :
 CallsIn F n Tryz.prog 194 #[.func (.yield z) #[] #[], .pointer (some ⟨Bs, 0, none⟩)] W fun e W' => (∃ v, e = .returned v) ∧ J [] W' := by
 refine callsIn_of_wp Tryz.func194 rfl h7 ?_ hro
 simp only [Tryz.ntmps194, List.size_toArray, List.length_cons, List.length_nil, Nat.reduceAdd, Nat.reduceSub, Array.replicate_succ, Array.replicate_zero, List.push_toArray, List.append_toArray, List.nil_append, List.cons_append]
 gi_wp2
 gi_loopw [3] (fun i wr => i = .int .i64 (-1) ∧ J [] wr) (fun _ _ => 0)
 case atStart => exact ⟨rfl, h0⟩
 case round =>
  obtain ⟨rfl, hJs⟩ := hrel
  gi_wp2
  go_end0
  exact ⟨⟨_, rfl⟩, hJs⟩
set_option maxHeartbeats 1000000 in
theorem back_in (F : Fence) (n : Nat) (h5 : F.fn 188) (hro : F.round = none) (a : Option Addr) (len cap : Nat) (w : World) :
 CallsIn F n Tryz.prog 188 #[.slice a len cap] w fun e w' => e = .returned (.func (.func 194) #[] #[.pointer (some ⟨w.heap.size, 0, none⟩)]) ∧ w' = w.alloc (.cells #[.slice a len cap] 57) := by
 refine callsIn_of_wp Tryz.func188 rfl h5 ?_ hro
 simp only [Tryz.ntmps188, List.size_toArray, List.length_cons, List.length_nil, Nat.reduceAdd, Nat.reduceSub, Array.replicate_succ, Array.replicate_zero, List.push_toArray, List.append_toArray, List.nil_append, List.cons_append]
 gi_wp2
 go_ret
 exact ⟨rfl, rfl⟩
theorem zkH (F : Fence) (n : Nat) (h7 : F.fn 194) (hro : F.round = none) (hn : 1 ≤ n) (Bs n₀ cap : Nat) (a : Option Addr) (l : List (Int × Int)) (hlen : l.length ≤ 1000) (w : World) (hBs : Bs < n₀) (hn₀ : n₀ ≤ w.heap.size)
 (hc : w.cell? ⟨Bs, 0, none⟩ = some (.slice a l.length cap)) (hr : Reads w 2 l.length (.slice a l.length cap) (entC l)) (hb : ∀ b, a.map (·.block) = some b → b < n₀) :
 SeqStopsK F n Tryz.prog 194 #[.pointer (some ⟨Bs, 0, none⟩)] backE (Below n₀) (fun ys => ys = upto (zeV l) l.length) (fun pre => ∃ k, k ≤ l.length ∧ pre = upto (zeV l) k) l.length w := fun z J Jx W hW _ _ hY h0 => by
 have hc' := (hW.cell (p := ⟨Bs, 0, none⟩) (Nat.lt_of_lt_of_le hBs hn₀)).trans hc
 by_cases h0l : l.length = 0
 · rw [h0l] at hc'
   exact (zh4 F n h7 hro z Bs cap a J W hc' h0).mono fun e W' ⟨he, hj⟩ => ⟨he, .inl ⟨_, rfl, by rw [h0l]; exact hj⟩⟩
 · obtain ⟨b, o, rfl, hlt, e1, e2, e3⟩ := zeL hr (by omega)
   exact back1_in F n h7 hro hn z Bs n₀ b o cap l hlen (hb b rfl) J Jx hY W hBs hc' ⟨e1, e2⟩ (fun j x hx => ⟨(hW.cell (p := ⟨b, o + j * 2, none⟩) hlt).trans (e3 j x hx).1, (hW.cell (p := ⟨b, o + j * 2 + 1, none⟩) hlt).trans (e3 j x hx).2⟩) h0
end
end Go.Proofs.YtdobddiibgfeaaaGreat
