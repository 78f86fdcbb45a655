/-
  What the walks of this statement lean on (MacMem, MacReg): shown.
-/
import Derived.Test.YtdobddiibgfeaaaGreatZa
import Derived.Test.YtdobddiibgfeaaaGreatZr
import Derived.Test.YtdobddiibgfeaaaGreatZl
import Derived.Test.YtdobddiibgfeaaaGreatZm
import Derived.Maps.AppendAt
set_option linter.unusedVariables false
set_option linter.unusedSimpArgs false
namespace Go.Proofs.YtdobddiibgfeaaaGreat
section
open Go.RowKit
set_option maxRecDepth 100000
theorem zch (w : World) (o1 o2 o3 : Obj) : ∃ w0 : World, w0 = ((w.alloc o1).alloc o2).alloc o3 ∧ w0.heap[w.heap.size]? = some o1 ∧ w0.heap[w.heap.size + 1]? = some o2 ∧ w0.heap[w.heap.size + 2]? = some o3 ∧ Below w.heap.size w w0 := by
 have h1 := zaf (zan (w.alloc o1) o2) (zat w o1)
 have h2 := zat (w.alloc o1) o2
 refine ⟨_, rfl, zaf (zan _ o3) h1, ?_, ?_, zae (zae (zan w o1) (zan _ o2)) (zan _ o3)⟩
 · have := zaf (zan ((w.alloc o1).alloc o2) o3) h2; simpa using this
 · have := zat ((w.alloc o1).alloc o2) o3; simpa using this
theorem zaK {w : World} {b : Nat} {c0 c1 c2 c3 c4 : Value} {t : TypeId} (h : w.heap[b]? = some (.cells #[c0, c1, c2, c3, c4] t (0, 0))) :
 w.cell? ⟨b, 0, none⟩ = some c0 ∧ w.cell? ⟨b, 1, none⟩ = some c1 ∧ w.cell? ⟨b, 2, none⟩ = some c2 ∧ w.cell? ⟨b, 3, none⟩ = some c3 ∧ w.cell? ⟨b, 4, none⟩ = some c4 :=
 ⟨zad h rfl, zad h rfl, zad h rfl, zad h rfl, zad h rfl⟩
def effC (e : Eff) : Array Value := #[.int .i64 e.k, .int .i64 e.d, .int .i64 e.ad, .int .i64 e.n, .int .i64 e.o]
structure Boxes (w0 w : World) (h : Ht) (e : Eff) : Prop where
 hart : w.heap[w0.heap.size]? = some (.cells (hA h) 56 (0, 0))
 eff : w.heap[w0.heap.size + 1]? = some (.cells (effC e) 131 (0, 0))
 bel : Below w0.heap.size w0 w
theorem Boxes.up {w0 w w' : World} {h : Ht} {e : Eff} (b : Boxes w0 w h e) (hu : Below w.heap.size w w') : Boxes w0 w' h e := ⟨zaf hu b.hart, zaf hu b.eff, zae b.bel hu⟩
theorem Boxes.set3 {w0 w : World} {h : Ht} {e : Eff} (b : Boxes w0 w h e) (x y z : Value) : Boxes w0 (((w.setCell ⟨w0.heap.size + 2, 0, none⟩ x).setCell ⟨w0.heap.size + 2, 1, none⟩ y).setCell ⟨w0.heap.size + 2, 2, none⟩ z) h e := by
 have K := but3 w (w0.heap.size + 2) 0 1 2 x y z
 exact ⟨(K.2 _ (by omega)).trans b.hart, (K.2 _ (by omega)).trans b.eff, zaj (zaj (zaj b.bel (by omega) _) (by omega) _) (by omega) _⟩
theorem Boxes.row {w0 w : World} {h h' : Ht} {e : Eff} (b : Boxes w0 w h e) : Boxes w0 (w.setRow w0.heap.size (hA h')) h' e :=
 ⟨setRow_heap _ _ _ _ _ _ b.hart, zbf (by omega) b.eff, below_setRow b.bel (Nat.le_refl _) _⟩
theorem zf8 (w : World) (g : Nat) (cs : Array Value) : But g w (w.setRow g cs) := ⟨by simp, fun b hb => setRow_other w g b cs hb⟩
theorem zdV {w : World} {b : Nat} {m : Mem} {m1 m2 m3 : Value} {old cs : Array Value} (h : IsMem w (.agg #[m1, m2, m3]) m) (hb : w.heap[b]? = some (.cells old 56 (0, 0))) : IsMem (w.setRow b cs) (.agg #[m1, m2, m3]) m :=
 zcu h (zf8 w b cs) hb (by decide) (by decide)

set_option maxHeartbeats 8000000 in
theorem memory_1 (w : World) (B p : Nat) (wv hv ev m1 m2 m3 dv lv tv : Value) (qs : List Value) (M : Mac) (H N : Nat) (ho : OwnMac w B p wv hv ev m1 m2 m3 dv lv tv qs M) (hg : GoodM M H N) (hB : B ≤ w.heap.size) (k : Nat) (hk : k < M.harts.length) (h : Ht) (h32 : h.r.length = 32) (e : Eff) (a : Int) (hk1 : e.k = 1) :
 Calls Tryz.prog 116 #[.pointer (some ⟨p, 0, none⟩), .int .i64 k, .agg (hA h), effV e, .int .i64 a] w (MPost B p w (zbN M k h e a)) := by
 obtain ⟨ek, ed, ead, en, eo⟩ := e
 simp only at hk1
 subst hk1
 have hsh := zaw h h32
 obtain ⟨R, hR⟩ : ∃ R, R = zbN M k h ⟨1, ed, ead, en, eo⟩ a := ⟨_, rfl⟩
 rw [← hR]
 obtain ⟨r, hr⟩ : ∃ r, r = memR M k ⟨1, ed, ead, en, eo⟩ a := ⟨_, rfl⟩
 have HR : Hid (R = if r.2.2 = 0 then ({ zb5 M k (putH h ed r.1) with mem := r.2.1 }, 0) else (zbQ, r.2.2)) := zhd (by rw [hR, hr]; rfl)
 have hr' : r = ((zgj M.mem k a).1, M.mem, (zgj M.mem k a).2) := hr
 clear hR hr
 obtain ⟨a1, c1, a2, c2, a3, c3, b1, d1, b2, d2, b3, d3, a5, c5, a6, c6, a7, c7, rfl, rfl, rfl, rfl, rfl, rfl, rfl, rfl, rfl⟩ := ho.shapes
 unfold effV
 simp only
 have HO := zhd ho
 have hm0 := ho.parts.mem
 have hpl := zao ho.at_
 obtain ⟨z0, z1, z2, z3, z4, z5, z6, z7, z8⟩ := zam ho.at_
 obtain ⟨n1, hn1⟩ : ∃ n, n = M.mem.words.length := ⟨_, rfl⟩
 obtain ⟨n2, hn2⟩ : ∃ n, n = M.mem.pend.length := ⟨_, rfl⟩
 obtain ⟨n3, hn3⟩ : ∃ n, n = M.mem.res.length := ⟨_, rfl⟩
 rw [← hn1, ← hn2, ← hn3] at hm0
 rw [← hn1] at z3; rw [← hn2] at z4; rw [← hn3] at z5
 have HK : Hid (k < M.harts.length) := zhd hk
 have HG := zhd hg
 have hsm := hg.small
 clear hk hg z0 z1 z2 z6 z7 z8 ho hn1 hn2 hn3
 obtain ⟨w1, hw1, hx1, hy1, hz1, hb1⟩ := zch w (.cells (hA h) 56) (.cells #[.int .i64 1, .int .i64 ed, .int .i64 ead, .int .i64 en, .int .i64 eo] 131) (.cells #[.slice b1 n1 d1, .slice b2 n2 d2, .slice b3 n3 d3] 33)
 have BX1 : Hid (Boxes w w1 h ⟨1, ed, ead, en, eo⟩) := zhd ⟨hx1, hy1, hb1⟩
 have HM1 := zhd (hm0.below hb1)
 have HZ1 := zhd hz1
 obtain ⟨e0, e1, e2, e3, e4⟩ := zaK hy1
 obtain ⟨y0, y1, y2⟩ := zah hz1
 have hl1 := zao hy1; have hl2 := zao hz1
 clear hx1 hy1 hz1 hb1 hm0
 go_enter Tryz.func116, Tryz.ntmps116
 go_upto_region 3 with (fail)
 rw [← hw1]
 clear hw1 z3 z4 z5
 go_wp2_with fail
 refine (load_any _ M.mem k a _ _ HM1.out hsm rfl).mono ?_
 rintro e w4 ⟨rfl, hb4⟩
 have er : r = ((zgj M.mem k a).1, M.mem, (zgj M.mem k a).2) := hr'
 have hf : (zgj M.mem k a).2 = r.2.2 := by rw [er]
 have hn : (zgj M.mem k a).1 = r.1 := by rw [er]
 have hmm : r.2.1 = M.mem := by rw [er]
 rw [hf, hn]
 have BX4 := zhd (BX1.out.up hb4)
 have HZ4 := zhd (zaf hb4 HZ1.out)
 have HM4 : Hid (IsMem w4 (.agg #[.slice b1 n1 d1, .slice b2 n2 d2, .slice b3 n3 d3]) r.2.1) := zhd (by rw [hmm]; exact HM1.out.below hb4)
 clear hf hn hmm er hr' hb4 e0 e1 e2 e3 e4 y0 y1 y2 BX1 HM1 HZ1
 generalize r.1 = n at *
 generalize r.2.1 = m' at *
 generalize r.2.2 = f at *
 obtain ⟨x1, n1', y1', x2, n2', y2', x3, n3', y3', hq⟩ : ∃ x1 n1' y1' x2 n2' y2' x3 n3' y3', (Value.agg #[.slice b1 n1 d1, .slice b2 n2 d2, .slice b3 n3 d3]) = .agg #[.slice x1 n1' y1', .slice x2 n2' y2', .slice x3 n3' y3'] := ⟨_, _, _, _, _, _, _, _, _, rfl⟩
 clear hq x1 n1' y1' x2 n2' y2' x3 n3' y3'
 go_upto_region 17 with (fail)
 by_cases hf0 : f = 0
 · subst hf0
   have HRR := zhd (HR.out.trans (if_pos rfl))
   obtain ⟨e0, e1, e2, e3, e4⟩ := zaK BX4.out.eff
   simp only at e0 e1 e2 e3 e4
   have hl1 := zao BX4.out.eff; have hl0 := zao BX4.out.hart; have hl2 := zao HZ4.out
   go_wp2_with (refine wpList_load_row rfl 56 _ rfl w.heap.size rfl 56 (hA h) (0, 0) _ BX4.out.hart Tryz.underlying56 rfl (zaU hsh) ?_)
   refine (zcZ h ed _ _ h32).mono ?_
   rintro e w5 ⟨rfl, hb5⟩
   have BX5 := zhd (BX4.out.up hb5); have HZ5 := zhd (zaf hb5 HZ4.out); have HM5 := zhd (HM4.out.below hb5)
   have hl' := zcq h32 ed n
   clear e0 e1 e2 e3 e4 hl0 hl1 hl2 BX4 HZ4 HM4 hb5
   have hHRR := HRR.out; clear HRR
   generalize hpp : putH h ed n = h' at *
   clear hpp
   have HRR := zhd hHRR; clear hHRR
   have hsh' := zaw h' hl'
   have BX6 := zhd (BX5.out.row (h' := h'))
   have HZ6 : Hid ((w5.setRow w.heap.size (hA h')).heap[w.heap.size + 2]? = some (.cells #[.slice b1 n1 d1, .slice b2 n2 d2, .slice b3 n3 d3] 33 (0, 0))) := zhd (zbf (by omega) HZ5.out)
   have HM6 := zhd (zdV (cs := hA h') HM5.out BX5.out.hart)
   go_upto_region 20 with (refine wpList_store_row rfl 56 _ _ rfl w.heap.size (hA h') rfl rfl 56 (hA h) BX5.out.hart (zaU hsh') (by rw [hsh, hsh']) (zbj h') ?_)
   obtain ⟨w6, hw6⟩ : ∃ x, x = w5.setRow w.heap.size (hA h') := ⟨_, rfl⟩
   rw [← hw6] at BX6 HZ6 HM6 ⊢
   clear hw6 BX5 HZ5 HM5
   obtain ⟨h6, hh6⟩ : ∃ x, x = h' := ⟨_, rfl⟩
   rw [← hh6] at BX6 HRR hl' hsh'
   clear hh6
   obtain ⟨w7, hw7⟩ : ∃ x, x = w6 := ⟨_, rfl⟩
   rw [← hw7] at BX6 HZ6 HM6 ⊢
   clear hw7
   have HO6 := zhd (HO.out.below BX6.out.bel)
   obtain ⟨g, cc, cur, eh, hgh, hgB, _, _⟩ := HO6.out.parts.hart HG.out.regs HK.out
   injection eh with eh _ eh2
   subst eh eh2
   obtain ⟨k0, k1, k2, k3, k4, k5, k6, k7, k8⟩ := zam HO6.out.at_
   obtain ⟨y0, y1, y2⟩ := zah HZ6.out
   have hlp := zao HO6.out.at_; have hlz := zao HZ6.out; have hlb := zao BX6.out.hart
   obtain ⟨nh, hnh⟩ : ∃ n, n = M.harts.length := ⟨_, rfl⟩
   have hknh : k < nh := by rw [hnh]; exact HK.out
   have HNH := zhd hnh
   rw [← hnh] at k1
   clear k0 k2 k3 k4 k5 k6 k7 k8 y0 y1 y2 hnh hgh
   try simp only [Act.put, List.setIfInBounds_toArray, List.set_cons_succ, List.set_cons_zero]
   refine zaL (fun w' => (p < w'.heap.size ∧ w'.cell? ⟨p, 1, none⟩ = some (.slice (some ⟨g, 0, none⟩) nh c2)) ∧ (w.heap.size + 2 < w'.heap.size ∧ w'.heap[w.heap.size + 2]? = some (.cells #[.slice b1 n1 d1, .slice b2 n2 d2, .slice b3 n3 d3] 33 (0, 0))) ∧ w.heap.size < w'.heap.size ∧ w'.heap[w.heap.size]? = some (.cells (hA h6) 56 (0, 0))) 13 [true, true, true, true, true, true, true, true, true, true, true, true] (by kernel_rfl) (by kernel_rfl) (by kernel_rfl) (fun a b h hu => ⟨⟨Nat.lt_of_lt_of_le h.1.1 hu.size, by rw [hu.cell (p := ⟨p, 1, none⟩) h.1.1]; exact h.1.2⟩, ⟨Nat.lt_of_lt_of_le h.2.1.1 hu.size, zaq hu h.2.1.1 h.2.1.2⟩, Nat.lt_of_lt_of_le h.2.2.1 hu.size, zaq hu h.2.2.1 h.2.2.2⟩) ⟨⟨hlp, k1⟩, ⟨hlz, HZ6.out⟩, hlb, BX6.out.hart⟩ ?a1 ?h1 ?ht1
   case h1 =>
    intro w0 ⟨⟨hlp, k1⟩, ⟨hlz, hz0⟩, hlb, hb0⟩
    obtain ⟨y0, y1, y2⟩ := zah hz0
    have s1 := fun x => zal hlp k1 x
    have s2 := fun x => zal hlz y0 x
    have s3 := fun x => zal hlz y1 x
    have s4 := fun x => zal hlz y2 x
    have R0 : Hid (∀ w' : World, (∃ x : Wd w0, w' = x.val) → (loadVar 56 ⟨w.heap.size, 0, none⟩).run Tryz.prog w' = .ok (.agg (hA h6)) w') := zhd (by
     rintro w' ⟨x, rfl⟩
     exact run_loadVar_row _ _ 56 56 (hA h6) (0, 0) _ (zaq x.bel hlb hb0) Tryz.underlying56 rfl (zaU hsh'))
    clear k1 y0 y1 y2 hz0 hb0
    simp only [zbb]
    iterate 8 (go_big_quiet_step (fail))
    go_big_quiet_want
    refine zaM 56 _ ⟨w.heap.size, 0, none⟩ (.agg (hA h6)) rfl rfl R0.out ?_
    simp only [Act.put, List.setIfInBounds_toArray, List.set_cons_succ, List.set_cons_zero]
    go_big_quiet_on
    repeat (go_big_quiet_step (fail))
    refine wpQuiet_nil ?_
    rfl
   case ht1 =>
    change zbO _ _ _ _ _ _ 1 _ _ _
    refine zaz (i := 12) (by kernel_rfl) (by decide) rfl ?_
    intro w8 hu8' ⟨⟨hlp8, kp8⟩, ⟨hlz8, hz8⟩, hlb8, hb8x⟩
    have hb8 : Below w7.heap.size w7 w8 := (by repeat (first | (with_reducible first | exact Below.refl _ _ | refine zaj ?_ ?_ _ | apply zag | refine zae ?_ (by assumption) | apply zak) | omega))
    have HO8 := zhd (HO6.out.below hb8)
    have HM8 := zhd (HM6.out.below hb8)
    have HB8 : Hid (Below w.heap.size w w8) := zhd (zae BX6.out.bel hb8)
    clear hb8 hu8' BX6 HZ6 HM6 HO6 hlp hlz hlb k1
    have HO9 := zhd (HO8.out.setMem HM8.out)
    obtain ⟨k0, k1, k2, k3, k4, k5, k6, k7, k8⟩ := zam HO8.out.at_
    have f3 := zaa HO8.out.at_ 3; have f4 := zaa HO8.out.at_ 4; have f5 := zaa HO8.out.at_ 5
    have hpb := HO8.out.base
    obtain ⟨j0, j1, j2, j3, j4, j5, j6, j7, j8⟩ := zam HO9.out.at_
    have hpn : p < w.heap.size := hpl
    have K := (but3 w8 p 3 4 5 (.slice b1 n1 d1) (.slice b2 n2 d2) (.slice b3 n3 d3))
    have hlp9 := zao HO9.out.at_
    rw [← HNH.out] at j1
    have HC9 := zhd (And.intro (And.intro hlp9 j1) (And.intro (And.intro (Nat.lt_of_lt_of_le hlz8 K.1) ((K.2 (w.heap.size + 2) (by omega)).trans hz8)) (And.intro (Nat.lt_of_lt_of_le hlb8 K.1) ((K.2 w.heap.size (by omega)).trans hb8x))))
    clear k0 k1 k2 k6 k7 k8 j0 j1 j2 j3 j4 j5 j6 j7 j8 K kp8 hz8 hb8x
    go_wp2_with fail
    refine ⟨HC9.out, ?_⟩
    refine zaO (by kernel_rfl) ?_
    intro w9 hu9 _
    have HOA := zhd (HO9.out.below hu9)
    have HB9 := zhd (((((HB8.out.mono hB).setCell hpb (.slice b1 n1 d1)).setCell hpb (.slice b2 n2 d2)).setCell hpb (.slice b3 n3 d3)).trans (hu9.mono (by have := HB8.out.size; simp only [zaH]; omega)))
    obtain ⟨g', cc', cur', eh', hgh', hgB', _, hth'⟩ := HOA.out.parts.hart HG.out.regs HK.out
    injection eh' with eh' _ _
    injection eh' with eh'
    injection eh' with eh'
    subst eh'
    have HT9 := zhd hth'
    clear hth' hgh' hu9
    try simp only [List.drop_succ_cons, List.drop_zero]
    go_wp2_with (refine wpList_store_mid rfl 56 _ _ rfl g (k * 39) (hA h6) rfl rfl (by rw [hsh']; exact HT9.out) (by rw [hsh']; exact zdm) (zbj h6) ?_)
    go_ret
    rw [HRR.out]
    refine ⟨rfl, ?_, fun _ => ⟨_, _, _, _, _, _, _, _, _, _, HOA.out.setHart HG.out.regs rfl HK.out hl'⟩⟩
    exact zaW hgB _ _ HB9.out
 · have HRR := zhd (HR.out.trans (if_neg hf0))
   have HB4 := zhd (BX4.out.bel.mono hB)
   clear BX4 HZ4 HM4
   go_wp2_with fail
   go_ret
   rw [HRR.out]; exact MPost.fail (e := f) HB4.out hf0
set_option maxHeartbeats 8000000 in
theorem memory_2 (w : World) (B p : Nat) (wv hv ev m1 m2 m3 dv lv tv : Value) (qs : List Value) (M : Mac) (H N : Nat) (ho : OwnMac w B p wv hv ev m1 m2 m3 dv lv tv qs M) (hg : GoodM M H N) (hB : B ≤ w.heap.size) (k : Nat) (hk : k < M.harts.length) (h : Ht) (h32 : h.r.length = 32) (e : Eff) (a : Int) (hk1 : e.k = 2) :
 Calls Tryz.prog 116 #[.pointer (some ⟨p, 0, none⟩), .int .i64 k, .agg (hA h), effV e, .int .i64 a] w (MPost B p w (zbN M k h e a)) := by
 obtain ⟨ek, ed, ead, en, eo⟩ := e
 simp only at hk1
 subst hk1
 have hsh := zaw h h32
 obtain ⟨R, hR⟩ : ∃ R, R = zbN M k h ⟨2, ed, ead, en, eo⟩ a := ⟨_, rfl⟩
 rw [← hR]
 obtain ⟨r, hr⟩ : ∃ r, r = memR M k ⟨2, ed, ead, en, eo⟩ a := ⟨_, rfl⟩
 have HR : Hid (R = if r.2.2 = 0 then ({ zb5 M k (h) with mem := r.2.1 }, 0) else (zbQ, r.2.2)) := zhd (by rw [hR, hr]; rfl)
 have hr' : r = (0, zee M.mem k a en) := hr
 clear hR hr
 obtain ⟨a1, c1, a2, c2, a3, c3, b1, d1, b2, d2, b3, d3, a5, c5, a6, c6, a7, c7, rfl, rfl, rfl, rfl, rfl, rfl, rfl, rfl, rfl⟩ := ho.shapes
 unfold effV
 simp only
 have HO := zhd ho
 have hm0 := ho.parts.mem
 have hpl := zao ho.at_
 obtain ⟨z0, z1, z2, z3, z4, z5, z6, z7, z8⟩ := zam ho.at_
 obtain ⟨n1, hn1⟩ : ∃ n, n = M.mem.words.length := ⟨_, rfl⟩
 obtain ⟨n2, hn2⟩ : ∃ n, n = M.mem.pend.length := ⟨_, rfl⟩
 obtain ⟨n3, hn3⟩ : ∃ n, n = M.mem.res.length := ⟨_, rfl⟩
 rw [← hn1, ← hn2, ← hn3] at hm0
 rw [← hn1] at z3; rw [← hn2] at z4; rw [← hn3] at z5
 have HK : Hid (k < M.harts.length) := zhd hk
 have HG := zhd hg
 have hsm := hg.small
 clear hk hg z0 z1 z2 z6 z7 z8 ho hn1 hn2 hn3
 obtain ⟨w1, hw1, hx1, hy1, hz1, hb1⟩ := zch w (.cells (hA h) 56) (.cells #[.int .i64 2, .int .i64 ed, .int .i64 ead, .int .i64 en, .int .i64 eo] 131) (.cells #[.slice b1 n1 d1, .slice b2 n2 d2, .slice b3 n3 d3] 33)
 have BX1 : Hid (Boxes w w1 h ⟨2, ed, ead, en, eo⟩) := zhd ⟨hx1, hy1, hb1⟩
 have HM1 := zhd (hm0.below hb1)
 have HZ1 := zhd hz1
 obtain ⟨e0, e1, e2, e3, e4⟩ := zaK hy1
 obtain ⟨y0, y1, y2⟩ := zah hz1
 have hl1 := zao hy1; have hl2 := zao hz1
 clear hx1 hy1 hz1 hb1 hm0
 go_enter Tryz.func116, Tryz.ntmps116
 go_upto_region 3 with (fail)
 rw [← hw1]
 clear hw1 z3 z4 z5
 go_wp2_with fail
 refine (zkX _ M.mem k a en _ HM1.out hsm).mono ?_
 rintro e w3 ⟨v', rfl, hm, hb3⟩
 obtain ⟨x1, q1, t1, x2, q2, t2, x3, q3, t3, em⟩ := zb8 hm
 subst em
 have er : r = (0, zee M.mem k a en) := hr'
 have hf : (zee M.mem k a en).2 = r.2.2 := by rw [er]
 have hmm : (zee M.mem k a en).1 = r.2.1 := by rw [er]
 have hn : (0 : Int) = r.1 := by rw [er]
 rw [hmm] at hm
 rw [hf]
 have BX3 := zhd (BX1.out.up hb3)
 have hz3 := zaf hb3 HZ1.out
 have HZ4 := zhd (zaR (x := .slice x1 q1 t1) (y := .slice x2 q2 t2) (z := .slice x3 q3 t3) hz3).1
 have HM4 := zhd (zbt (.slice x1 q1 t1) (.slice x2 q2 t2) (.slice x3 q3 t3) hm hz3)
 have BX4 := zhd (BX3.out.set3 (.slice x1 q1 t1) (.slice x2 q2 t2) (.slice x3 q3 t3))
 have hl5 := zao BX3.out.eff
 obtain ⟨y0', y1', y2'⟩ := zah hz3
 have f0 := zaa hz3 0; have f1 := zaa hz3 1; have f2 := zaa hz3 2
 clear hf hmm er hr' hb3 hm hz3 e0 e1 e2 e3 e4 y0 y1 y2 BX1 HM1 HZ1 hl1 hl2
 have hn' := hn
 clear hn hn'
 generalize r.1 = n at *
 generalize r.2.1 = m' at *
 generalize r.2.2 = f at *
 go_upto_region 17 with (fail)
 obtain ⟨w4, hw4⟩ : ∃ x, x = ((w3.setCell ⟨w.heap.size + 2, 0, none⟩ (.slice x1 q1 t1)).setCell ⟨w.heap.size + 2, 1, none⟩ (.slice x2 q2 t2)).setCell ⟨w.heap.size + 2, 2, none⟩ (.slice x3 q3 t3) := ⟨_, rfl⟩
 rw [← hw4] at HZ4 HM4 BX4 ⊢
 clear hw4 y0' y1' y2' f0 f1 f2 hl5 BX3
 by_cases hf0 : f = 0
 · subst hf0
   have HRR := zhd (HR.out.trans (if_pos rfl))
   obtain ⟨e0, e1, e2, e3, e4⟩ := zaK BX4.out.eff
   simp only at e0 e1 e2 e3 e4
   have hl1 := zao BX4.out.eff; have hl0 := zao BX4.out.hart; have hl2 := zao HZ4.out
   have hl' := h32; have hsh' := hsh
   have BX6 := BX4; have HZ6 := HZ4; have HM6 := HM4
   go_upto_region 20 with (fail)
   clear e0 e1 e2 e3 e4 hl0 hl1 hl2 BX4 HZ4 HM4
   obtain ⟨h6, hh6⟩ : ∃ x, x = h := ⟨_, rfl⟩
   rw [← hh6] at BX6 HRR hl' hsh'
   clear hh6
   obtain ⟨w7, hw7⟩ : ∃ x, x = w4 := ⟨_, rfl⟩
   rw [← hw7] at BX6 HZ6 HM6 ⊢
   clear hw7
   have HO6 := zhd (HO.out.below BX6.out.bel)
   obtain ⟨g, cc, cur, eh, hgh, hgB, _, _⟩ := HO6.out.parts.hart HG.out.regs HK.out
   injection eh with eh _ eh2
   subst eh eh2
   obtain ⟨k0, k1, k2, k3, k4, k5, k6, k7, k8⟩ := zam HO6.out.at_
   obtain ⟨y0, y1, y2⟩ := zah HZ6.out
   have hlp := zao HO6.out.at_; have hlz := zao HZ6.out; have hlb := zao BX6.out.hart
   obtain ⟨nh, hnh⟩ : ∃ n, n = M.harts.length := ⟨_, rfl⟩
   have hknh : k < nh := by rw [hnh]; exact HK.out
   have HNH := zhd hnh
   rw [← hnh] at k1
   clear k0 k2 k3 k4 k5 k6 k7 k8 y0 y1 y2 hnh hgh
   try simp only [Act.put, List.setIfInBounds_toArray, List.set_cons_succ, List.set_cons_zero]
   refine zaL (fun w' => (p < w'.heap.size ∧ w'.cell? ⟨p, 1, none⟩ = some (.slice (some ⟨g, 0, none⟩) nh c2)) ∧ (w.heap.size + 2 < w'.heap.size ∧ w'.heap[w.heap.size + 2]? = some (.cells #[.slice x1 q1 t1, .slice x2 q2 t2, .slice x3 q3 t3] 33 (0, 0))) ∧ w.heap.size < w'.heap.size ∧ w'.heap[w.heap.size]? = some (.cells (hA h6) 56 (0, 0))) 13 [true, true, true, true, true, true, true, true, true, true, true, true] (by kernel_rfl) (by kernel_rfl) (by kernel_rfl) (fun a b h hu => ⟨⟨Nat.lt_of_lt_of_le h.1.1 hu.size, by rw [hu.cell (p := ⟨p, 1, none⟩) h.1.1]; exact h.1.2⟩, ⟨Nat.lt_of_lt_of_le h.2.1.1 hu.size, zaq hu h.2.1.1 h.2.1.2⟩, Nat.lt_of_lt_of_le h.2.2.1 hu.size, zaq hu h.2.2.1 h.2.2.2⟩) ⟨⟨hlp, k1⟩, ⟨hlz, HZ6.out⟩, hlb, BX6.out.hart⟩ ?a1 ?h1 ?ht1
   case h1 =>
    intro w0 ⟨⟨hlp, k1⟩, ⟨hlz, hz0⟩, hlb, hb0⟩
    obtain ⟨y0, y1, y2⟩ := zah hz0
    have s1 := fun x => zal hlp k1 x
    have s2 := fun x => zal hlz y0 x
    have s3 := fun x => zal hlz y1 x
    have s4 := fun x => zal hlz y2 x
    have R0 : Hid (∀ w' : World, (∃ x : Wd w0, w' = x.val) → (loadVar 56 ⟨w.heap.size, 0, none⟩).run Tryz.prog w' = .ok (.agg (hA h6)) w') := zhd (by
     rintro w' ⟨x, rfl⟩
     exact run_loadVar_row _ _ 56 56 (hA h6) (0, 0) _ (zaq x.bel hlb hb0) Tryz.underlying56 rfl (zaU hsh'))
    clear k1 y0 y1 y2 hz0 hb0
    simp only [zbb]
    iterate 8 (go_big_quiet_step (fail))
    go_big_quiet_want
    refine zaM 56 _ ⟨w.heap.size, 0, none⟩ (.agg (hA h6)) rfl rfl R0.out ?_
    simp only [Act.put, List.setIfInBounds_toArray, List.set_cons_succ, List.set_cons_zero]
    go_big_quiet_on
    repeat (go_big_quiet_step (fail))
    refine wpQuiet_nil ?_
    rfl
   case ht1 =>
    change zbO _ _ _ _ _ _ 1 _ _ _
    refine zaz (i := 12) (by kernel_rfl) (by decide) rfl ?_
    intro w8 hu8' ⟨⟨hlp8, kp8⟩, ⟨hlz8, hz8⟩, hlb8, hb8x⟩
    have hb8 : Below w7.heap.size w7 w8 := (by repeat (first | (with_reducible first | exact Below.refl _ _ | refine zaj ?_ ?_ _ | apply zag | refine zae ?_ (by assumption) | apply zak) | omega))
    have HO8 := zhd (HO6.out.below hb8)
    have HM8 := zhd (HM6.out.below hb8)
    have HB8 : Hid (Below w.heap.size w w8) := zhd (zae BX6.out.bel hb8)
    clear hb8 hu8' BX6 HZ6 HM6 HO6 hlp hlz hlb k1
    have HO9 := zhd (HO8.out.setMem HM8.out)
    obtain ⟨k0, k1, k2, k3, k4, k5, k6, k7, k8⟩ := zam HO8.out.at_
    have f3 := zaa HO8.out.at_ 3; have f4 := zaa HO8.out.at_ 4; have f5 := zaa HO8.out.at_ 5
    have hpb := HO8.out.base
    obtain ⟨j0, j1, j2, j3, j4, j5, j6, j7, j8⟩ := zam HO9.out.at_
    have hpn : p < w.heap.size := hpl
    have K := (but3 w8 p 3 4 5 (.slice x1 q1 t1) (.slice x2 q2 t2) (.slice x3 q3 t3))
    have hlp9 := zao HO9.out.at_
    rw [← HNH.out] at j1
    have HC9 := zhd (And.intro (And.intro hlp9 j1) (And.intro (And.intro (Nat.lt_of_lt_of_le hlz8 K.1) ((K.2 (w.heap.size + 2) (by omega)).trans hz8)) (And.intro (Nat.lt_of_lt_of_le hlb8 K.1) ((K.2 w.heap.size (by omega)).trans hb8x))))
    clear k0 k1 k2 k6 k7 k8 j0 j1 j2 j3 j4 j5 j6 j7 j8 K kp8 hz8 hb8x
    go_wp2_with fail
    refine ⟨HC9.out, ?_⟩
    refine zaO (by kernel_rfl) ?_
    intro w9 hu9 _
    have HOA := zhd (HO9.out.below hu9)
    have HB9 := zhd (((((HB8.out.mono hB).setCell hpb (.slice x1 q1 t1)).setCell hpb (.slice x2 q2 t2)).setCell hpb (.slice x3 q3 t3)).trans (hu9.mono (by have := HB8.out.size; simp only [zaH]; omega)))
    obtain ⟨g', cc', cur', eh', hgh', hgB', _, hth'⟩ := HOA.out.parts.hart HG.out.regs HK.out
    injection eh' with eh' _ _
    injection eh' with eh'
    injection eh' with eh'
    subst eh'
    have HT9 := zhd hth'
    clear hth' hgh' hu9
    try simp only [List.drop_succ_cons, List.drop_zero]
    go_wp2_with (refine wpList_store_mid rfl 56 _ _ rfl g (k * 39) (hA h6) rfl rfl (by rw [hsh']; exact HT9.out) (by rw [hsh']; exact zdm) (zbj h6) ?_)
    go_ret
    rw [HRR.out]
    refine ⟨rfl, ?_, fun _ => ⟨_, _, _, _, _, _, _, _, _, _, HOA.out.setHart HG.out.regs rfl HK.out hl'⟩⟩
    exact zaW hgB _ _ HB9.out
 · have HRR := zhd (HR.out.trans (if_neg hf0))
   have HB4 := zhd (BX4.out.bel.mono hB)
   clear BX4 HZ4 HM4
   go_wp2_with fail
   go_ret
   rw [HRR.out]; exact MPost.fail (e := f) HB4.out hf0
set_option maxHeartbeats 8000000 in
theorem memory_3 (w : World) (B p : Nat) (wv hv ev m1 m2 m3 dv lv tv : Value) (qs : List Value) (M : Mac) (H N : Nat) (ho : OwnMac w B p wv hv ev m1 m2 m3 dv lv tv qs M) (hg : GoodM M H N) (hB : B ≤ w.heap.size) (k : Nat) (hk : k < M.harts.length) (h : Ht) (h32 : h.r.length = 32) (e : Eff) (a : Int) (hk1 : e.k = 3) :
 Calls Tryz.prog 116 #[.pointer (some ⟨p, 0, none⟩), .int .i64 k, .agg (hA h), effV e, .int .i64 a] w (MPost B p w (zbN M k h e a)) := by
 obtain ⟨ek, ed, ead, en, eo⟩ := e
 simp only at hk1
 subst hk1
 have hsh := zaw h h32
 obtain ⟨R, hR⟩ : ∃ R, R = zbN M k h ⟨3, ed, ead, en, eo⟩ a := ⟨_, rfl⟩
 rw [← hR]
 obtain ⟨r, hr⟩ : ∃ r, r = memR M k ⟨3, ed, ead, en, eo⟩ a := ⟨_, rfl⟩
 have HR : Hid (R = if r.2.2 = 0 then ({ zb5 M k (putH h ed r.1) with mem := r.2.1 }, 0) else (zbQ, r.2.2)) := zhd (by rw [hR, hr]; rfl)
 have hr' : r = zbJ M.mem k a := hr
 clear hR hr
 obtain ⟨a1, c1, a2, c2, a3, c3, b1, d1, b2, d2, b3, d3, a5, c5, a6, c6, a7, c7, rfl, rfl, rfl, rfl, rfl, rfl, rfl, rfl, rfl⟩ := ho.shapes
 unfold effV
 simp only
 have HO := zhd ho
 have hm0 := ho.parts.mem
 have hpl := zao ho.at_
 obtain ⟨z0, z1, z2, z3, z4, z5, z6, z7, z8⟩ := zam ho.at_
 obtain ⟨n1, hn1⟩ : ∃ n, n = M.mem.words.length := ⟨_, rfl⟩
 obtain ⟨n2, hn2⟩ : ∃ n, n = M.mem.pend.length := ⟨_, rfl⟩
 obtain ⟨n3, hn3⟩ : ∃ n, n = M.mem.res.length := ⟨_, rfl⟩
 rw [← hn1, ← hn2, ← hn3] at hm0
 rw [← hn1] at z3; rw [← hn2] at z4; rw [← hn3] at z5
 have HK : Hid (k < M.harts.length) := zhd hk
 have HG := zhd hg
 have hsm := hg.small
 clear hk hg z0 z1 z2 z6 z7 z8 ho hn1 hn2 hn3
 obtain ⟨w1, hw1, hx1, hy1, hz1, hb1⟩ := zch w (.cells (hA h) 56) (.cells #[.int .i64 3, .int .i64 ed, .int .i64 ead, .int .i64 en, .int .i64 eo] 131) (.cells #[.slice b1 n1 d1, .slice b2 n2 d2, .slice b3 n3 d3] 33)
 have BX1 : Hid (Boxes w w1 h ⟨3, ed, ead, en, eo⟩) := zhd ⟨hx1, hy1, hb1⟩
 have HM1 := zhd (hm0.below hb1)
 have HZ1 := zhd hz1
 obtain ⟨e0, e1, e2, e3, e4⟩ := zaK hy1
 obtain ⟨y0, y1, y2⟩ := zah hz1
 have hl1 := zao hy1; have hl2 := zao hz1
 clear hx1 hy1 hz1 hb1 hm0
 go_enter Tryz.func116, Tryz.ntmps116
 go_upto_region 3 with (fail)
 rw [← hw1]
 clear hw1 z3 z4 z5
 go_wp2_with fail
 refine (zig _ M.mem k a _ HM1.out hsm).mono ?_
 rintro e w3 ⟨v', rfl, hm, hb3⟩
 obtain ⟨x1, q1, t1, x2, q2, t2, x3, q3, t3, em⟩ := zb8 hm
 subst em
 have er : r = zbJ M.mem k a := hr'
 have hf : (zbJ M.mem k a).2.2 = r.2.2 := by rw [er]
 have hmm : (zbJ M.mem k a).2.1 = r.2.1 := by rw [er]
 have hn : (zbJ M.mem k a).1 = r.1 := by rw [er]
 rw [hmm] at hm
 rw [hf, hn]
 have BX3 := zhd (BX1.out.up hb3)
 have hz3 := zaf hb3 HZ1.out
 have HZ4 := zhd (zaR (x := .slice x1 q1 t1) (y := .slice x2 q2 t2) (z := .slice x3 q3 t3) hz3).1
 have HM4 := zhd (zbt (.slice x1 q1 t1) (.slice x2 q2 t2) (.slice x3 q3 t3) hm hz3)
 have BX4 := zhd (BX3.out.set3 (.slice x1 q1 t1) (.slice x2 q2 t2) (.slice x3 q3 t3))
 have hl5 := zao BX3.out.eff
 obtain ⟨y0', y1', y2'⟩ := zah hz3
 have f0 := zaa hz3 0; have f1 := zaa hz3 1; have f2 := zaa hz3 2
 clear hf hmm er hr' hb3 hm hz3 e0 e1 e2 e3 e4 y0 y1 y2 BX1 HM1 HZ1 hl1 hl2
 clear hn
 generalize r.1 = n at *
 generalize r.2.1 = m' at *
 generalize r.2.2 = f at *
 go_upto_region 17 with (fail)
 obtain ⟨w4, hw4⟩ : ∃ x, x = ((w3.setCell ⟨w.heap.size + 2, 0, none⟩ (.slice x1 q1 t1)).setCell ⟨w.heap.size + 2, 1, none⟩ (.slice x2 q2 t2)).setCell ⟨w.heap.size + 2, 2, none⟩ (.slice x3 q3 t3) := ⟨_, rfl⟩
 rw [← hw4] at HZ4 HM4 BX4 ⊢
 clear hw4 y0' y1' y2' f0 f1 f2 hl5 BX3
 by_cases hf0 : f = 0
 · subst hf0
   have HRR := zhd (HR.out.trans (if_pos rfl))
   obtain ⟨e0, e1, e2, e3, e4⟩ := zaK BX4.out.eff
   simp only at e0 e1 e2 e3 e4
   have hl1 := zao BX4.out.eff; have hl0 := zao BX4.out.hart; have hl2 := zao HZ4.out
   go_wp2_with (refine wpList_load_row rfl 56 _ rfl w.heap.size rfl 56 (hA h) (0, 0) _ BX4.out.hart Tryz.underlying56 rfl (zaU hsh) ?_)
   refine (zcZ h ed _ _ h32).mono ?_
   rintro e w5 ⟨rfl, hb5⟩
   have BX5 := zhd (BX4.out.up hb5); have HZ5 := zhd (zaf hb5 HZ4.out); have HM5 := zhd (HM4.out.below hb5)
   have hl' := zcq h32 ed n
   clear e0 e1 e2 e3 e4 hl0 hl1 hl2 BX4 HZ4 HM4 hb5
   have hHRR := HRR.out; clear HRR
   generalize hpp : putH h ed n = h' at *
   clear hpp
   have HRR := zhd hHRR; clear hHRR
   have hsh' := zaw h' hl'
   have BX6 := zhd (BX5.out.row (h' := h'))
   have HZ6 : Hid ((w5.setRow w.heap.size (hA h')).heap[w.heap.size + 2]? = some (.cells #[.slice x1 q1 t1, .slice x2 q2 t2, .slice x3 q3 t3] 33 (0, 0))) := zhd (zbf (by omega) HZ5.out)
   have HM6 := zhd (zdV (cs := hA h') HM5.out BX5.out.hart)
   go_upto_region 20 with (refine wpList_store_row rfl 56 _ _ rfl w.heap.size (hA h') rfl rfl 56 (hA h) BX5.out.hart (zaU hsh') (by rw [hsh, hsh']) (zbj h') ?_)
   obtain ⟨w6, hw6⟩ : ∃ x, x = w5.setRow w.heap.size (hA h') := ⟨_, rfl⟩
   rw [← hw6] at BX6 HZ6 HM6 ⊢
   clear hw6 BX5 HZ5 HM5
   obtain ⟨h6, hh6⟩ : ∃ x, x = h' := ⟨_, rfl⟩
   rw [← hh6] at BX6 HRR hl' hsh'
   clear hh6
   obtain ⟨w7, hw7⟩ : ∃ x, x = w6 := ⟨_, rfl⟩
   rw [← hw7] at BX6 HZ6 HM6 ⊢
   clear hw7
   have HO6 := zhd (HO.out.below BX6.out.bel)
   obtain ⟨g, cc, cur, eh, hgh, hgB, _, _⟩ := HO6.out.parts.hart HG.out.regs HK.out
   injection eh with eh _ eh2
   subst eh eh2
   obtain ⟨k0, k1, k2, k3, k4, k5, k6, k7, k8⟩ := zam HO6.out.at_
   obtain ⟨y0, y1, y2⟩ := zah HZ6.out
   have hlp := zao HO6.out.at_; have hlz := zao HZ6.out; have hlb := zao BX6.out.hart
   obtain ⟨nh, hnh⟩ : ∃ n, n = M.harts.length := ⟨_, rfl⟩
   have hknh : k < nh := by rw [hnh]; exact HK.out
   have HNH := zhd hnh
   rw [← hnh] at k1
   clear k0 k2 k3 k4 k5 k6 k7 k8 y0 y1 y2 hnh hgh
   try simp only [Act.put, List.setIfInBounds_toArray, List.set_cons_succ, List.set_cons_zero]
   refine zaL (fun w' => (p < w'.heap.size ∧ w'.cell? ⟨p, 1, none⟩ = some (.slice (some ⟨g, 0, none⟩) nh c2)) ∧ (w.heap.size + 2 < w'.heap.size ∧ w'.heap[w.heap.size + 2]? = some (.cells #[.slice x1 q1 t1, .slice x2 q2 t2, .slice x3 q3 t3] 33 (0, 0))) ∧ w.heap.size < w'.heap.size ∧ w'.heap[w.heap.size]? = some (.cells (hA h6) 56 (0, 0))) 13 [true, true, true, true, true, true, true, true, true, true, true, true] (by kernel_rfl) (by kernel_rfl) (by kernel_rfl) (fun a b h hu => ⟨⟨Nat.lt_of_lt_of_le h.1.1 hu.size, by rw [hu.cell (p := ⟨p, 1, none⟩) h.1.1]; exact h.1.2⟩, ⟨Nat.lt_of_lt_of_le h.2.1.1 hu.size, zaq hu h.2.1.1 h.2.1.2⟩, Nat.lt_of_lt_of_le h.2.2.1 hu.size, zaq hu h.2.2.1 h.2.2.2⟩) ⟨⟨hlp, k1⟩, ⟨hlz, HZ6.out⟩, hlb, BX6.out.hart⟩ ?a1 ?h1 ?ht1
   case h1 =>
    intro w0 ⟨⟨hlp, k1⟩, ⟨hlz, hz0⟩, hlb, hb0⟩
    obtain ⟨y0, y1, y2⟩ := zah hz0
    have s1 := fun x => zal hlp k1 x
    have s2 := fun x => zal hlz y0 x
    have s3 := fun x => zal hlz y1 x
    have s4 := fun x => zal hlz y2 x
    have R0 : Hid (∀ w' : World, (∃ x : Wd w0, w' = x.val) → (loadVar 56 ⟨w.heap.size, 0, none⟩).run Tryz.prog w' = .ok (.agg (hA h6)) w') := zhd (by
     rintro w' ⟨x, rfl⟩
     exact run_loadVar_row _ _ 56 56 (hA h6) (0, 0) _ (zaq x.bel hlb hb0) Tryz.underlying56 rfl (zaU hsh'))
    clear k1 y0 y1 y2 hz0 hb0
    simp only [zbb]
    iterate 8 (go_big_quiet_step (fail))
    go_big_quiet_want
    refine zaM 56 _ ⟨w.heap.size, 0, none⟩ (.agg (hA h6)) rfl rfl R0.out ?_
    simp only [Act.put, List.setIfInBounds_toArray, List.set_cons_succ, List.set_cons_zero]
    go_big_quiet_on
    repeat (go_big_quiet_step (fail))
    refine wpQuiet_nil ?_
    rfl
   case ht1 =>
    change zbO _ _ _ _ _ _ 1 _ _ _
    refine zaz (i := 12) (by kernel_rfl) (by decide) rfl ?_
    intro w8 hu8' ⟨⟨hlp8, kp8⟩, ⟨hlz8, hz8⟩, hlb8, hb8x⟩
    have hb8 : Below w7.heap.size w7 w8 := (by repeat (first | (with_reducible first | exact Below.refl _ _ | refine zaj ?_ ?_ _ | apply zag | refine zae ?_ (by assumption) | apply zak) | omega))
    have HO8 := zhd (HO6.out.below hb8)
    have HM8 := zhd (HM6.out.below hb8)
    have HB8 : Hid (Below w.heap.size w w8) := zhd (zae BX6.out.bel hb8)
    clear hb8 hu8' BX6 HZ6 HM6 HO6 hlp hlz hlb k1
    have HO9 := zhd (HO8.out.setMem HM8.out)
    obtain ⟨k0, k1, k2, k3, k4, k5, k6, k7, k8⟩ := zam HO8.out.at_
    have f3 := zaa HO8.out.at_ 3; have f4 := zaa HO8.out.at_ 4; have f5 := zaa HO8.out.at_ 5
    have hpb := HO8.out.base
    obtain ⟨j0, j1, j2, j3, j4, j5, j6, j7, j8⟩ := zam HO9.out.at_
    have hpn : p < w.heap.size := hpl
    have K := (but3 w8 p 3 4 5 (.slice x1 q1 t1) (.slice x2 q2 t2) (.slice x3 q3 t3))
    have hlp9 := zao HO9.out.at_
    rw [← HNH.out] at j1
    have HC9 := zhd (And.intro (And.intro hlp9 j1) (And.intro (And.intro (Nat.lt_of_lt_of_le hlz8 K.1) ((K.2 (w.heap.size + 2) (by omega)).trans hz8)) (And.intro (Nat.lt_of_lt_of_le hlb8 K.1) ((K.2 w.heap.size (by omega)).trans hb8x))))
    clear k0 k1 k2 k6 k7 k8 j0 j1 j2 j3 j4 j5 j6 j7 j8 K kp8 hz8 hb8x
    go_wp2_with fail
    refine ⟨HC9.out, ?_⟩
    refine zaO (by kernel_rfl) ?_
    intro w9 hu9 _
    have HOA := zhd (HO9.out.below hu9)
    have HB9 := zhd (((((HB8.out.mono hB).setCell hpb (.slice x1 q1 t1)).setCell hpb (.slice x2 q2 t2)).setCell hpb (.slice x3 q3 t3)).trans (hu9.mono (by have := HB8.out.size; simp only [zaH]; omega)))
    obtain ⟨g', cc', cur', eh', hgh', hgB', _, hth'⟩ := HOA.out.parts.hart HG.out.regs HK.out
    injection eh' with eh' _ _
    injection eh' with eh'
    injection eh' with eh'
    subst eh'
    have HT9 := zhd hth'
    clear hth' hgh' hu9
    try simp only [List.drop_succ_cons, List.drop_zero]
    go_wp2_with (refine wpList_store_mid rfl 56 _ _ rfl g (k * 39) (hA h6) rfl rfl (by rw [hsh']; exact HT9.out) (by rw [hsh']; exact zdm) (zbj h6) ?_)
    go_ret
    rw [HRR.out]
    refine ⟨rfl, ?_, fun _ => ⟨_, _, _, _, _, _, _, _, _, _, HOA.out.setHart HG.out.regs rfl HK.out hl'⟩⟩
    exact zaW hgB _ _ HB9.out
 · have HRR := zhd (HR.out.trans (if_neg hf0))
   have HB4 := zhd (BX4.out.bel.mono hB)
   clear BX4 HZ4 HM4
   go_wp2_with fail
   go_ret
   rw [HRR.out]; exact MPost.fail (e := f) HB4.out hf0
set_option maxHeartbeats 8000000 in
theorem zlN (w : World) (B p : Nat) (wv hv ev m1 m2 m3 dv lv tv : Value) (qs : List Value) (M : Mac) (H N : Nat) (ho : OwnMac w B p wv hv ev m1 m2 m3 dv lv tv qs M) (hg : GoodM M H N) (hB : B ≤ w.heap.size) (k : Nat) (hk : k < M.harts.length) (h : Ht) (h32 : h.r.length = 32) (e : Eff) (a : Int) (hk1 : e.k = 4) (hbb : (zcA M.mem k a e.n).1 = true) :
 Calls Tryz.prog 116 #[.pointer (some ⟨p, 0, none⟩), .int .i64 k, .agg (hA h), effV e, .int .i64 a] w (MPost B p w (zbN M k h e a)) := by
 obtain ⟨ek, ed, ead, en, eo⟩ := e
 simp only at hk1
 subst hk1
 have hsh := zaw h h32
 obtain ⟨R, hR⟩ : ∃ R, R = zbN M k h ⟨4, ed, ead, en, eo⟩ a := ⟨_, rfl⟩
 rw [← hR]
 obtain ⟨r, hr⟩ : ∃ r, r = memR M k ⟨4, ed, ead, en, eo⟩ a := ⟨_, rfl⟩
 have HR : Hid (R = if r.2.2 = 0 then ({ zb5 M k (putH h ed r.1) with mem := r.2.1 }, 0) else (zbQ, r.2.2)) := zhd (by rw [hR, hr]; rfl)
 have hr' : r = (if (zcA M.mem k a en).1 then 0 else 1, (zcA M.mem k a en).2) := hr
 clear hR hr
 obtain ⟨a1, c1, a2, c2, a3, c3, b1, d1, b2, d2, b3, d3, a5, c5, a6, c6, a7, c7, rfl, rfl, rfl, rfl, rfl, rfl, rfl, rfl, rfl⟩ := ho.shapes
 unfold effV
 simp only
 have HO := zhd ho
 have hm0 := ho.parts.mem
 have hpl := zao ho.at_
 obtain ⟨z0, z1, z2, z3, z4, z5, z6, z7, z8⟩ := zam ho.at_
 obtain ⟨n1, hn1⟩ : ∃ n, n = M.mem.words.length := ⟨_, rfl⟩
 obtain ⟨n2, hn2⟩ : ∃ n, n = M.mem.pend.length := ⟨_, rfl⟩
 obtain ⟨n3, hn3⟩ : ∃ n, n = M.mem.res.length := ⟨_, rfl⟩
 rw [← hn1, ← hn2, ← hn3] at hm0
 rw [← hn1] at z3; rw [← hn2] at z4; rw [← hn3] at z5
 have HK : Hid (k < M.harts.length) := zhd hk
 have HG := zhd hg
 have hsm := hg.small
 clear hk hg z0 z1 z2 z6 z7 z8 ho hn1 hn2 hn3
 obtain ⟨w1, hw1, hx1, hy1, hz1, hb1⟩ := zch w (.cells (hA h) 56) (.cells #[.int .i64 4, .int .i64 ed, .int .i64 ead, .int .i64 en, .int .i64 eo] 131) (.cells #[.slice b1 n1 d1, .slice b2 n2 d2, .slice b3 n3 d3] 33)
 have BX1 : Hid (Boxes w w1 h ⟨4, ed, ead, en, eo⟩) := zhd ⟨hx1, hy1, hb1⟩
 have HM1 := zhd (hm0.below hb1)
 have HZ1 := zhd hz1
 obtain ⟨e0, e1, e2, e3, e4⟩ := zaK hy1
 obtain ⟨y0, y1, y2⟩ := zah hz1
 have hl1 := zao hy1; have hl2 := zao hz1
 clear hx1 hy1 hz1 hb1 hm0
 go_enter Tryz.func116, Tryz.ntmps116
 go_upto_region 3 with (fail)
 rw [← hw1]
 clear hw1 z3 z4 z5
 go_wp2_with fail
 refine (zjt _ M.mem k a en _ HM1.out hsm).mono ?_
 rintro e w3 ⟨v', rfl, hm, hb3⟩
 obtain ⟨x1, q1, t1, x2, q2, t2, x3, q3, t3, em⟩ := zb8 hm
 subst em
 have er : r = (if (zcA M.mem k a en).1 then 0 else 1, (zcA M.mem k a en).2) := hr'
 rw [hbb] at er
 simp only [Bool.false_eq_true, if_true, if_false] at er
 have hf : (zcA M.mem k a en).2.2 = r.2.2 := by rw [er]
 have hmm : (zcA M.mem k a en).2.1 = r.2.1 := by rw [er]
 have hn : r.1 = 0 := by rw [er]
 rw [hmm] at hm
 rw [hf, hbb]
 have hRR := HR.out; clear HR
 rw [hn] at hRR
 have HR := zhd hRR; clear hRR
 have BX3 := zhd (BX1.out.up hb3)
 have hz3 := zaf hb3 HZ1.out
 have HZ4 := zhd (zaR (x := .slice x1 q1 t1) (y := .slice x2 q2 t2) (z := .slice x3 q3 t3) hz3).1
 have HM4 := zhd (zbt (.slice x1 q1 t1) (.slice x2 q2 t2) (.slice x3 q3 t3) hm hz3)
 have BX4 := zhd (BX3.out.set3 (.slice x1 q1 t1) (.slice x2 q2 t2) (.slice x3 q3 t3))
 have hl5 := zao BX3.out.eff
 obtain ⟨y0', y1', y2'⟩ := zah hz3
 have f0 := zaa hz3 0; have f1 := zaa hz3 1; have f2 := zaa hz3 2
 clear hf hmm er hr' hb3 hm hz3 e0 e1 e2 e3 e4 y0 y1 y2 BX1 HM1 HZ1 hl1 hl2
 clear hn hbb
 generalize r.2.1 = m' at *
 generalize r.2.2 = f at *
 go_upto_region 17 with (fail)
 obtain ⟨w4, hw4⟩ : ∃ x, x = ((w3.setCell ⟨w.heap.size + 2, 0, none⟩ (.slice x1 q1 t1)).setCell ⟨w.heap.size + 2, 1, none⟩ (.slice x2 q2 t2)).setCell ⟨w.heap.size + 2, 2, none⟩ (.slice x3 q3 t3) := ⟨_, rfl⟩
 rw [← hw4] at HZ4 HM4 BX4 ⊢
 clear hw4 y0' y1' y2' f0 f1 f2 hl5 BX3
 by_cases hf0 : f = 0
 · subst hf0
   have HRR := zhd (HR.out.trans (if_pos rfl))
   obtain ⟨e0, e1, e2, e3, e4⟩ := zaK BX4.out.eff
   simp only at e0 e1 e2 e3 e4
   have hl1 := zao BX4.out.eff; have hl0 := zao BX4.out.hart; have hl2 := zao HZ4.out
   go_wp2_with (refine wpList_load_row rfl 56 _ rfl w.heap.size rfl 56 (hA h) (0, 0) _ BX4.out.hart Tryz.underlying56 rfl (zaU hsh) ?_)
   refine (zcZ h ed _ _ h32).mono ?_
   rintro e w5 ⟨rfl, hb5⟩
   have BX5 := zhd (BX4.out.up hb5); have HZ5 := zhd (zaf hb5 HZ4.out); have HM5 := zhd (HM4.out.below hb5)
   have hl' := zcq h32 ed 0
   clear e0 e1 e2 e3 e4 hl0 hl1 hl2 BX4 HZ4 HM4 hb5
   have hHRR := HRR.out; clear HRR
   generalize hpp : putH h ed 0 = h' at *
   clear hpp
   have HRR := zhd hHRR; clear hHRR
   have hsh' := zaw h' hl'
   have BX6 := zhd (BX5.out.row (h' := h'))
   have HZ6 : Hid ((w5.setRow w.heap.size (hA h')).heap[w.heap.size + 2]? = some (.cells #[.slice x1 q1 t1, .slice x2 q2 t2, .slice x3 q3 t3] 33 (0, 0))) := zhd (zbf (by omega) HZ5.out)
   have HM6 := zhd (zdV (cs := hA h') HM5.out BX5.out.hart)
   go_upto_region 20 with (refine wpList_store_row rfl 56 _ _ rfl w.heap.size (hA h') rfl rfl 56 (hA h) BX5.out.hart (zaU hsh') (by rw [hsh, hsh']) (zbj h') ?_)
   obtain ⟨w6, hw6⟩ : ∃ x, x = w5.setRow w.heap.size (hA h') := ⟨_, rfl⟩
   rw [← hw6] at BX6 HZ6 HM6 ⊢
   clear hw6 BX5 HZ5 HM5
   obtain ⟨h6, hh6⟩ : ∃ x, x = h' := ⟨_, rfl⟩
   rw [← hh6] at BX6 HRR hl' hsh'
   clear hh6
   obtain ⟨w7, hw7⟩ : ∃ x, x = w6 := ⟨_, rfl⟩
   rw [← hw7] at BX6 HZ6 HM6 ⊢
   clear hw7
   have HO6 := zhd (HO.out.below BX6.out.bel)
   obtain ⟨g, cc, cur, eh, hgh, hgB, _, _⟩ := HO6.out.parts.hart HG.out.regs HK.out
   injection eh with eh _ eh2
   subst eh eh2
   obtain ⟨k0, k1, k2, k3, k4, k5, k6, k7, k8⟩ := zam HO6.out.at_
   obtain ⟨y0, y1, y2⟩ := zah HZ6.out
   have hlp := zao HO6.out.at_; have hlz := zao HZ6.out; have hlb := zao BX6.out.hart
   obtain ⟨nh, hnh⟩ : ∃ n, n = M.harts.length := ⟨_, rfl⟩
   have hknh : k < nh := by rw [hnh]; exact HK.out
   have HNH := zhd hnh
   rw [← hnh] at k1
   clear k0 k2 k3 k4 k5 k6 k7 k8 y0 y1 y2 hnh hgh
   try simp only [Act.put, List.setIfInBounds_toArray, List.set_cons_succ, List.set_cons_zero]
   refine zaL (fun w' => (p < w'.heap.size ∧ w'.cell? ⟨p, 1, none⟩ = some (.slice (some ⟨g, 0, none⟩) nh c2)) ∧ (w.heap.size + 2 < w'.heap.size ∧ w'.heap[w.heap.size + 2]? = some (.cells #[.slice x1 q1 t1, .slice x2 q2 t2, .slice x3 q3 t3] 33 (0, 0))) ∧ w.heap.size < w'.heap.size ∧ w'.heap[w.heap.size]? = some (.cells (hA h6) 56 (0, 0))) 13 [true, true, true, true, true, true, true, true, true, true, true, true] (by kernel_rfl) (by kernel_rfl) (by kernel_rfl) (fun a b h hu => ⟨⟨Nat.lt_of_lt_of_le h.1.1 hu.size, by rw [hu.cell (p := ⟨p, 1, none⟩) h.1.1]; exact h.1.2⟩, ⟨Nat.lt_of_lt_of_le h.2.1.1 hu.size, zaq hu h.2.1.1 h.2.1.2⟩, Nat.lt_of_lt_of_le h.2.2.1 hu.size, zaq hu h.2.2.1 h.2.2.2⟩) ⟨⟨hlp, k1⟩, ⟨hlz, HZ6.out⟩, hlb, BX6.out.hart⟩ ?a1 ?h1 ?ht1
   case h1 =>
    intro w0 ⟨⟨hlp, k1⟩, ⟨hlz, hz0⟩, hlb, hb0⟩
    obtain ⟨y0, y1, y2⟩ := zah hz0
    have s1 := fun x => zal hlp k1 x
    have s2 := fun x => zal hlz y0 x
    have s3 := fun x => zal hlz y1 x
    have s4 := fun x => zal hlz y2 x
    have R0 : Hid (∀ w' : World, (∃ x : Wd w0, w' = x.val) → (loadVar 56 ⟨w.heap.size, 0, none⟩).run Tryz.prog w' = .ok (.agg (hA h6)) w') := zhd (by
     rintro w' ⟨x, rfl⟩
     exact run_loadVar_row _ _ 56 56 (hA h6) (0, 0) _ (zaq x.bel hlb hb0) Tryz.underlying56 rfl (zaU hsh'))
    clear k1 y0 y1 y2 hz0 hb0
    simp only [zbb]
    iterate 8 (go_big_quiet_step (fail))
    go_big_quiet_want
    refine zaM 56 _ ⟨w.heap.size, 0, none⟩ (.agg (hA h6)) rfl rfl R0.out ?_
    simp only [Act.put, List.setIfInBounds_toArray, List.set_cons_succ, List.set_cons_zero]
    go_big_quiet_on
    repeat (go_big_quiet_step (fail))
    refine wpQuiet_nil ?_
    rfl
   case ht1 =>
    change zbO _ _ _ _ _ _ 1 _ _ _
    refine zaz (i := 12) (by kernel_rfl) (by decide) rfl ?_
    intro w8 hu8' ⟨⟨hlp8, kp8⟩, ⟨hlz8, hz8⟩, hlb8, hb8x⟩
    have hb8 : Below w7.heap.size w7 w8 := (by repeat (first | (with_reducible first | exact Below.refl _ _ | refine zaj ?_ ?_ _ | apply zag | refine zae ?_ (by assumption) | apply zak) | omega))
    have HO8 := zhd (HO6.out.below hb8)
    have HM8 := zhd (HM6.out.below hb8)
    have HB8 : Hid (Below w.heap.size w w8) := zhd (zae BX6.out.bel hb8)
    clear hb8 hu8' BX6 HZ6 HM6 HO6 hlp hlz hlb k1
    have HO9 := zhd (HO8.out.setMem HM8.out)
    obtain ⟨k0, k1, k2, k3, k4, k5, k6, k7, k8⟩ := zam HO8.out.at_
    have f3 := zaa HO8.out.at_ 3; have f4 := zaa HO8.out.at_ 4; have f5 := zaa HO8.out.at_ 5
    have hpb := HO8.out.base
    obtain ⟨j0, j1, j2, j3, j4, j5, j6, j7, j8⟩ := zam HO9.out.at_
    have hpn : p < w.heap.size := hpl
    have K := (but3 w8 p 3 4 5 (.slice x1 q1 t1) (.slice x2 q2 t2) (.slice x3 q3 t3))
    have hlp9 := zao HO9.out.at_
    rw [← HNH.out] at j1
    have HC9 := zhd (And.intro (And.intro hlp9 j1) (And.intro (And.intro (Nat.lt_of_lt_of_le hlz8 K.1) ((K.2 (w.heap.size + 2) (by omega)).trans hz8)) (And.intro (Nat.lt_of_lt_of_le hlb8 K.1) ((K.2 w.heap.size (by omega)).trans hb8x))))
    clear k0 k1 k2 k6 k7 k8 j0 j1 j2 j3 j4 j5 j6 j7 j8 K kp8 hz8 hb8x
    go_wp2_with fail
    refine ⟨HC9.out, ?_⟩
    refine zaO (by kernel_rfl) ?_
    intro w9 hu9 _
    have HOA := zhd (HO9.out.below hu9)
    have HB9 := zhd (((((HB8.out.mono hB).setCell hpb (.slice x1 q1 t1)).setCell hpb (.slice x2 q2 t2)).setCell hpb (.slice x3 q3 t3)).trans (hu9.mono (by have := HB8.out.size; simp only [zaH]; omega)))
    obtain ⟨g', cc', cur', eh', hgh', hgB', _, hth'⟩ := HOA.out.parts.hart HG.out.regs HK.out
    injection eh' with eh' _ _
    injection eh' with eh'
    injection eh' with eh'
    subst eh'
    have HT9 := zhd hth'
    clear hth' hgh' hu9
    try simp only [List.drop_succ_cons, List.drop_zero]
    go_wp2_with (refine wpList_store_mid rfl 56 _ _ rfl g (k * 39) (hA h6) rfl rfl (by rw [hsh']; exact HT9.out) (by rw [hsh']; exact zdm) (zbj h6) ?_)
    go_ret
    rw [HRR.out]
    refine ⟨rfl, ?_, fun _ => ⟨_, _, _, _, _, _, _, _, _, _, HOA.out.setHart HG.out.regs rfl HK.out hl'⟩⟩
    exact zaW hgB _ _ HB9.out
 · have HRR := zhd (HR.out.trans (if_neg hf0))
   have HB4 := zhd (BX4.out.bel.mono hB)
   clear BX4 HZ4 HM4
   go_wp2_with fail
   go_ret
   rw [HRR.out]; exact MPost.fail (e := f) HB4.out hf0
set_option maxHeartbeats 8000000 in
theorem zlO (w : World) (B p : Nat) (wv hv ev m1 m2 m3 dv lv tv : Value) (qs : List Value) (M : Mac) (H N : Nat) (ho : OwnMac w B p wv hv ev m1 m2 m3 dv lv tv qs M) (hg : GoodM M H N) (hB : B ≤ w.heap.size) (k : Nat) (hk : k < M.harts.length) (h : Ht) (h32 : h.r.length = 32) (e : Eff) (a : Int) (hk1 : e.k = 4) (hbb : (zcA M.mem k a e.n).1 = false) :
 Calls Tryz.prog 116 #[.pointer (some ⟨p, 0, none⟩), .int .i64 k, .agg (hA h), effV e, .int .i64 a] w (MPost B p w (zbN M k h e a)) := by
 obtain ⟨ek, ed, ead, en, eo⟩ := e
 simp only at hk1
 subst hk1
 have hsh := zaw h h32
 obtain ⟨R, hR⟩ : ∃ R, R = zbN M k h ⟨4, ed, ead, en, eo⟩ a := ⟨_, rfl⟩
 rw [← hR]
 obtain ⟨r, hr⟩ : ∃ r, r = memR M k ⟨4, ed, ead, en, eo⟩ a := ⟨_, rfl⟩
 have HR : Hid (R = if r.2.2 = 0 then ({ zb5 M k (putH h ed r.1) with mem := r.2.1 }, 0) else (zbQ, r.2.2)) := zhd (by rw [hR, hr]; rfl)
 have hr' : r = (if (zcA M.mem k a en).1 then 0 else 1, (zcA M.mem k a en).2) := hr
 clear hR hr
 obtain ⟨a1, c1, a2, c2, a3, c3, b1, d1, b2, d2, b3, d3, a5, c5, a6, c6, a7, c7, rfl, rfl, rfl, rfl, rfl, rfl, rfl, rfl, rfl⟩ := ho.shapes
 unfold effV
 simp only
 have HO := zhd ho
 have hm0 := ho.parts.mem
 have hpl := zao ho.at_
 obtain ⟨z0, z1, z2, z3, z4, z5, z6, z7, z8⟩ := zam ho.at_
 obtain ⟨n1, hn1⟩ : ∃ n, n = M.mem.words.length := ⟨_, rfl⟩
 obtain ⟨n2, hn2⟩ : ∃ n, n = M.mem.pend.length := ⟨_, rfl⟩
 obtain ⟨n3, hn3⟩ : ∃ n, n = M.mem.res.length := ⟨_, rfl⟩
 rw [← hn1, ← hn2, ← hn3] at hm0
 rw [← hn1] at z3; rw [← hn2] at z4; rw [← hn3] at z5
 have HK : Hid (k < M.harts.length) := zhd hk
 have HG := zhd hg
 have hsm := hg.small
 clear hk hg z0 z1 z2 z6 z7 z8 ho hn1 hn2 hn3
 obtain ⟨w1, hw1, hx1, hy1, hz1, hb1⟩ := zch w (.cells (hA h) 56) (.cells #[.int .i64 4, .int .i64 ed, .int .i64 ead, .int .i64 en, .int .i64 eo] 131) (.cells #[.slice b1 n1 d1, .slice b2 n2 d2, .slice b3 n3 d3] 33)
 have BX1 : Hid (Boxes w w1 h ⟨4, ed, ead, en, eo⟩) := zhd ⟨hx1, hy1, hb1⟩
 have HM1 := zhd (hm0.below hb1)
 have HZ1 := zhd hz1
 obtain ⟨e0, e1, e2, e3, e4⟩ := zaK hy1
 obtain ⟨y0, y1, y2⟩ := zah hz1
 have hl1 := zao hy1; have hl2 := zao hz1
 clear hx1 hy1 hz1 hb1 hm0
 go_enter Tryz.func116, Tryz.ntmps116
 go_upto_region 3 with (fail)
 rw [← hw1]
 clear hw1 z3 z4 z5
 go_wp2_with fail
 refine (zjt _ M.mem k a en _ HM1.out hsm).mono ?_
 rintro e w3 ⟨v', rfl, hm, hb3⟩
 obtain ⟨x1, q1, t1, x2, q2, t2, x3, q3, t3, em⟩ := zb8 hm
 subst em
 have er : r = (if (zcA M.mem k a en).1 then 0 else 1, (zcA M.mem k a en).2) := hr'
 rw [hbb] at er
 simp only [Bool.false_eq_true, if_true, if_false] at er
 have hf : (zcA M.mem k a en).2.2 = r.2.2 := by rw [er]
 have hmm : (zcA M.mem k a en).2.1 = r.2.1 := by rw [er]
 have hn : r.1 = 1 := by rw [er]
 rw [hmm] at hm
 rw [hf, hbb]
 have hRR := HR.out; clear HR
 rw [hn] at hRR
 have HR := zhd hRR; clear hRR
 have BX3 := zhd (BX1.out.up hb3)
 have hz3 := zaf hb3 HZ1.out
 have HZ4 := zhd (zaR (x := .slice x1 q1 t1) (y := .slice x2 q2 t2) (z := .slice x3 q3 t3) hz3).1
 have HM4 := zhd (zbt (.slice x1 q1 t1) (.slice x2 q2 t2) (.slice x3 q3 t3) hm hz3)
 have BX4 := zhd (BX3.out.set3 (.slice x1 q1 t1) (.slice x2 q2 t2) (.slice x3 q3 t3))
 have hl5 := zao BX3.out.eff
 obtain ⟨y0', y1', y2'⟩ := zah hz3
 have f0 := zaa hz3 0; have f1 := zaa hz3 1; have f2 := zaa hz3 2
 clear hf hmm er hr' hb3 hm hz3 e0 e1 e2 e3 e4 y0 y1 y2 BX1 HM1 HZ1 hl1 hl2
 clear hn hbb
 generalize r.2.1 = m' at *
 generalize r.2.2 = f at *
 go_upto_region 17 with (fail)
 obtain ⟨w4, hw4⟩ : ∃ x, x = ((w3.setCell ⟨w.heap.size + 2, 0, none⟩ (.slice x1 q1 t1)).setCell ⟨w.heap.size + 2, 1, none⟩ (.slice x2 q2 t2)).setCell ⟨w.heap.size + 2, 2, none⟩ (.slice x3 q3 t3) := ⟨_, rfl⟩
 rw [← hw4] at HZ4 HM4 BX4 ⊢
 clear hw4 y0' y1' y2' f0 f1 f2 hl5 BX3
 by_cases hf0 : f = 0
 · subst hf0
   have HRR := zhd (HR.out.trans (if_pos rfl))
   obtain ⟨e0, e1, e2, e3, e4⟩ := zaK BX4.out.eff
   simp only at e0 e1 e2 e3 e4
   have hl1 := zao BX4.out.eff; have hl0 := zao BX4.out.hart; have hl2 := zao HZ4.out
   go_wp2_with (refine wpList_load_row rfl 56 _ rfl w.heap.size rfl 56 (hA h) (0, 0) _ BX4.out.hart Tryz.underlying56 rfl (zaU hsh) ?_)
   refine (zcZ h ed _ _ h32).mono ?_
   rintro e w5 ⟨rfl, hb5⟩
   have BX5 := zhd (BX4.out.up hb5); have HZ5 := zhd (zaf hb5 HZ4.out); have HM5 := zhd (HM4.out.below hb5)
   have hl' := zcq h32 ed 1
   clear e0 e1 e2 e3 e4 hl0 hl1 hl2 BX4 HZ4 HM4 hb5
   have hHRR := HRR.out; clear HRR
   generalize hpp : putH h ed 1 = h' at *
   clear hpp
   have HRR := zhd hHRR; clear hHRR
   have hsh' := zaw h' hl'
   have BX6 := zhd (BX5.out.row (h' := h'))
   have HZ6 : Hid ((w5.setRow w.heap.size (hA h')).heap[w.heap.size + 2]? = some (.cells #[.slice x1 q1 t1, .slice x2 q2 t2, .slice x3 q3 t3] 33 (0, 0))) := zhd (zbf (by omega) HZ5.out)
   have HM6 := zhd (zdV (cs := hA h') HM5.out BX5.out.hart)
   go_upto_region 20 with (refine wpList_store_row rfl 56 _ _ rfl w.heap.size (hA h') rfl rfl 56 (hA h) BX5.out.hart (zaU hsh') (by rw [hsh, hsh']) (zbj h') ?_)
   obtain ⟨w6, hw6⟩ : ∃ x, x = w5.setRow w.heap.size (hA h') := ⟨_, rfl⟩
   rw [← hw6] at BX6 HZ6 HM6 ⊢
   clear hw6 BX5 HZ5 HM5
   obtain ⟨h6, hh6⟩ : ∃ x, x = h' := ⟨_, rfl⟩
   rw [← hh6] at BX6 HRR hl' hsh'
   clear hh6
   obtain ⟨w7, hw7⟩ : ∃ x, x = w6 := ⟨_, rfl⟩
   rw [← hw7] at BX6 HZ6 HM6 ⊢
   clear hw7
   have HO6 := zhd (HO.out.below BX6.out.bel)
   obtain ⟨g, cc, cur, eh, hgh, hgB, _, _⟩ := HO6.out.parts.hart HG.out.regs HK.out
   injection eh with eh _ eh2
   subst eh eh2
   obtain ⟨k0, k1, k2, k3, k4, k5, k6, k7, k8⟩ := zam HO6.out.at_
   obtain ⟨y0, y1, y2⟩ := zah HZ6.out
   have hlp := zao HO6.out.at_; have hlz := zao HZ6.out; have hlb := zao BX6.out.hart
   obtain ⟨nh, hnh⟩ : ∃ n, n = M.harts.length := ⟨_, rfl⟩
   have hknh : k < nh := by rw [hnh]; exact HK.out
   have HNH := zhd hnh
   rw [← hnh] at k1
   clear k0 k2 k3 k4 k5 k6 k7 k8 y0 y1 y2 hnh hgh
   try simp only [Act.put, List.setIfInBounds_toArray, List.set_cons_succ, List.set_cons_zero]
   refine zaL (fun w' => (p < w'.heap.size ∧ w'.cell? ⟨p, 1, none⟩ = some (.slice (some ⟨g, 0, none⟩) nh c2)) ∧ (w.heap.size + 2 < w'.heap.size ∧ w'.heap[w.heap.size + 2]? = some (.cells #[.slice x1 q1 t1, .slice x2 q2 t2, .slice x3 q3 t3] 33 (0, 0))) ∧ w.heap.size < w'.heap.size ∧ w'.heap[w.heap.size]? = some (.cells (hA h6) 56 (0, 0))) 13 [true, true, true, true, true, true, true, true, true, true, true, true] (by kernel_rfl) (by kernel_rfl) (by kernel_rfl) (fun a b h hu => ⟨⟨Nat.lt_of_lt_of_le h.1.1 hu.size, by rw [hu.cell (p := ⟨p, 1, none⟩) h.1.1]; exact h.1.2⟩, ⟨Nat.lt_of_lt_of_le h.2.1.1 hu.size, zaq hu h.2.1.1 h.2.1.2⟩, Nat.lt_of_lt_of_le h.2.2.1 hu.size, zaq hu h.2.2.1 h.2.2.2⟩) ⟨⟨hlp, k1⟩, ⟨hlz, HZ6.out⟩, hlb, BX6.out.hart⟩ ?a1 ?h1 ?ht1
   case h1 =>
    intro w0 ⟨⟨hlp, k1⟩, ⟨hlz, hz0⟩, hlb, hb0⟩
    obtain ⟨y0, y1, y2⟩ := zah hz0
    have s1 := fun x => zal hlp k1 x
    have s2 := fun x => zal hlz y0 x
    have s3 := fun x => zal hlz y1 x
    have s4 := fun x => zal hlz y2 x
    have R0 : Hid (∀ w' : World, (∃ x : Wd w0, w' = x.val) → (loadVar 56 ⟨w.heap.size, 0, none⟩).run Tryz.prog w' = .ok (.agg (hA h6)) w') := zhd (by
     rintro w' ⟨x, rfl⟩
     exact run_loadVar_row _ _ 56 56 (hA h6) (0, 0) _ (zaq x.bel hlb hb0) Tryz.underlying56 rfl (zaU hsh'))
    clear k1 y0 y1 y2 hz0 hb0
    simp only [zbb]
    iterate 8 (go_big_quiet_step (fail))
    go_big_quiet_want
    refine zaM 56 _ ⟨w.heap.size, 0, none⟩ (.agg (hA h6)) rfl rfl R0.out ?_
    simp only [Act.put, List.setIfInBounds_toArray, List.set_cons_succ, List.set_cons_zero]
    go_big_quiet_on
    repeat (go_big_quiet_step (fail))
    refine wpQuiet_nil ?_
    rfl
   case ht1 =>
    change zbO _ _ _ _ _ _ 1 _ _ _
    refine zaz (i := 12) (by kernel_rfl) (by decide) rfl ?_
    intro w8 hu8' ⟨⟨hlp8, kp8⟩, ⟨hlz8, hz8⟩, hlb8, hb8x⟩
    have hb8 : Below w7.heap.size w7 w8 := (by repeat (first | (with_reducible first | exact Below.refl _ _ | refine zaj ?_ ?_ _ | apply zag | refine zae ?_ (by assumption) | apply zak) | omega))
    have HO8 := zhd (HO6.out.below hb8)
    have HM8 := zhd (HM6.out.below hb8)
    have HB8 : Hid (Below w.heap.size w w8) := zhd (zae BX6.out.bel hb8)
    clear hb8 hu8' BX6 HZ6 HM6 HO6 hlp hlz hlb k1
    have HO9 := zhd (HO8.out.setMem HM8.out)
    obtain ⟨k0, k1, k2, k3, k4, k5, k6, k7, k8⟩ := zam HO8.out.at_
    have f3 := zaa HO8.out.at_ 3; have f4 := zaa HO8.out.at_ 4; have f5 := zaa HO8.out.at_ 5
    have hpb := HO8.out.base
    obtain ⟨j0, j1, j2, j3, j4, j5, j6, j7, j8⟩ := zam HO9.out.at_
    have hpn : p < w.heap.size := hpl
    have K := (but3 w8 p 3 4 5 (.slice x1 q1 t1) (.slice x2 q2 t2) (.slice x3 q3 t3))
    have hlp9 := zao HO9.out.at_
    rw [← HNH.out] at j1
    have HC9 := zhd (And.intro (And.intro hlp9 j1) (And.intro (And.intro (Nat.lt_of_lt_of_le hlz8 K.1) ((K.2 (w.heap.size + 2) (by omega)).trans hz8)) (And.intro (Nat.lt_of_lt_of_le hlb8 K.1) ((K.2 w.heap.size (by omega)).trans hb8x))))
    clear k0 k1 k2 k6 k7 k8 j0 j1 j2 j3 j4 j5 j6 j7 j8 K kp8 hz8 hb8x
    go_wp2_with fail
    refine ⟨HC9.out, ?_⟩
    refine zaO (by kernel_rfl) ?_
    intro w9 hu9 _
    have HOA := zhd (HO9.out.below hu9)
    have HB9 := zhd (((((HB8.out.mono hB).setCell hpb (.slice x1 q1 t1)).setCell hpb (.slice x2 q2 t2)).setCell hpb (.slice x3 q3 t3)).trans (hu9.mono (by have := HB8.out.size; simp only [zaH]; omega)))
    obtain ⟨g', cc', cur', eh', hgh', hgB', _, hth'⟩ := HOA.out.parts.hart HG.out.regs HK.out
    injection eh' with eh' _ _
    injection eh' with eh'
    injection eh' with eh'
    subst eh'
    have HT9 := zhd hth'
    clear hth' hgh' hu9
    try simp only [List.drop_succ_cons, List.drop_zero]
    go_wp2_with (refine wpList_store_mid rfl 56 _ _ rfl g (k * 39) (hA h6) rfl rfl (by rw [hsh']; exact HT9.out) (by rw [hsh']; exact zdm) (zbj h6) ?_)
    go_ret
    rw [HRR.out]
    refine ⟨rfl, ?_, fun _ => ⟨_, _, _, _, _, _, _, _, _, _, HOA.out.setHart HG.out.regs rfl HK.out hl'⟩⟩
    exact zaW hgB _ _ HB9.out
 · have HRR := zhd (HR.out.trans (if_neg hf0))
   have HB4 := zhd (BX4.out.bel.mono hB)
   clear BX4 HZ4 HM4
   go_wp2_with fail
   go_ret
   rw [HRR.out]; exact MPost.fail (e := f) HB4.out hf0
set_option maxHeartbeats 8000000 in
theorem memory_5 (w : World) (B p : Nat) (wv hv ev m1 m2 m3 dv lv tv : Value) (qs : List Value) (M : Mac) (H N : Nat) (ho : OwnMac w B p wv hv ev m1 m2 m3 dv lv tv qs M) (hg : GoodM M H N) (hB : B ≤ w.heap.size) (k : Nat) (hk : k < M.harts.length) (h : Ht) (h32 : h.r.length = 32) (e : Eff) (a : Int) (hk1 : e.k = 5) :
 Calls Tryz.prog 116 #[.pointer (some ⟨p, 0, none⟩), .int .i64 k, .agg (hA h), effV e, .int .i64 a] w (MPost B p w (zbN M k h e a)) := by
 obtain ⟨ek, ed, ead, en, eo⟩ := e
 simp only at hk1
 subst hk1
 have hsh := zaw h h32
 obtain ⟨R, hR⟩ : ∃ R, R = zbN M k h ⟨5, ed, ead, en, eo⟩ a := ⟨_, rfl⟩
 rw [← hR]
 obtain ⟨r, hr⟩ : ∃ r, r = memR M k ⟨5, ed, ead, en, eo⟩ a := ⟨_, rfl⟩
 have HR : Hid (R = if r.2.2 = 0 then ({ zb5 M k (putH h ed r.1) with mem := r.2.1 }, 0) else (zbQ, r.2.2)) := zhd (by rw [hR, hr]; rfl)
 have hr' : r = zbZ M.mem k a eo en := hr
 clear hR hr
 obtain ⟨a1, c1, a2, c2, a3, c3, b1, d1, b2, d2, b3, d3, a5, c5, a6, c6, a7, c7, rfl, rfl, rfl, rfl, rfl, rfl, rfl, rfl, rfl⟩ := ho.shapes
 unfold effV
 simp only
 have HO := zhd ho
 have hm0 := ho.parts.mem
 have hpl := zao ho.at_
 obtain ⟨z0, z1, z2, z3, z4, z5, z6, z7, z8⟩ := zam ho.at_
 obtain ⟨n1, hn1⟩ : ∃ n, n = M.mem.words.length := ⟨_, rfl⟩
 obtain ⟨n2, hn2⟩ : ∃ n, n = M.mem.pend.length := ⟨_, rfl⟩
 obtain ⟨n3, hn3⟩ : ∃ n, n = M.mem.res.length := ⟨_, rfl⟩
 rw [← hn1, ← hn2, ← hn3] at hm0
 rw [← hn1] at z3; rw [← hn2] at z4; rw [← hn3] at z5
 have HK : Hid (k < M.harts.length) := zhd hk
 have HG := zhd hg
 have hsm := hg.small
 clear hk hg z0 z1 z2 z6 z7 z8 ho hn1 hn2 hn3
 obtain ⟨w1, hw1, hx1, hy1, hz1, hb1⟩ := zch w (.cells (hA h) 56) (.cells #[.int .i64 5, .int .i64 ed, .int .i64 ead, .int .i64 en, .int .i64 eo] 131) (.cells #[.slice b1 n1 d1, .slice b2 n2 d2, .slice b3 n3 d3] 33)
 have BX1 : Hid (Boxes w w1 h ⟨5, ed, ead, en, eo⟩) := zhd ⟨hx1, hy1, hb1⟩
 have HM1 := zhd (hm0.below hb1)
 have HZ1 := zhd hz1
 obtain ⟨e0, e1, e2, e3, e4⟩ := zaK hy1
 obtain ⟨y0, y1, y2⟩ := zah hz1
 have hl1 := zao hy1; have hl2 := zao hz1
 clear hx1 hy1 hz1 hb1 hm0
 go_enter Tryz.func116, Tryz.ntmps116
 go_upto_region 3 with (fail)
 rw [← hw1]
 clear hw1 z3 z4 z5
 go_wp2_with fail
 refine (zkG _ M.mem k a eo en _ HM1.out hsm).mono ?_
 rintro e w3 ⟨v', rfl, hm, hb3⟩
 obtain ⟨x1, q1, t1, x2, q2, t2, x3, q3, t3, em⟩ := zb8 hm
 subst em
 have er : r = zbZ M.mem k a eo en := hr'
 have hf : (zbZ M.mem k a eo en).2.2 = r.2.2 := by rw [er]
 have hmm : (zbZ M.mem k a eo en).2.1 = r.2.1 := by rw [er]
 have hn : (zbZ M.mem k a eo en).1 = r.1 := by rw [er]
 rw [hmm] at hm
 rw [hf, hn]
 have BX3 := zhd (BX1.out.up hb3)
 have hz3 := zaf hb3 HZ1.out
 have HZ4 := zhd (zaR (x := .slice x1 q1 t1) (y := .slice x2 q2 t2) (z := .slice x3 q3 t3) hz3).1
 have HM4 := zhd (zbt (.slice x1 q1 t1) (.slice x2 q2 t2) (.slice x3 q3 t3) hm hz3)
 have BX4 := zhd (BX3.out.set3 (.slice x1 q1 t1) (.slice x2 q2 t2) (.slice x3 q3 t3))
 have hl5 := zao BX3.out.eff
 obtain ⟨y0', y1', y2'⟩ := zah hz3
 have f0 := zaa hz3 0; have f1 := zaa hz3 1; have f2 := zaa hz3 2
 clear hf hmm er hr' hb3 hm hz3 e0 e1 e2 e3 e4 y0 y1 y2 BX1 HM1 HZ1 hl1 hl2
 clear hn
 generalize r.1 = n at *
 generalize r.2.1 = m' at *
 generalize r.2.2 = f at *
 go_upto_region 17 with (fail)
 obtain ⟨w4, hw4⟩ : ∃ x, x = ((w3.setCell ⟨w.heap.size + 2, 0, none⟩ (.slice x1 q1 t1)).setCell ⟨w.heap.size + 2, 1, none⟩ (.slice x2 q2 t2)).setCell ⟨w.heap.size + 2, 2, none⟩ (.slice x3 q3 t3) := ⟨_, rfl⟩
 rw [← hw4] at HZ4 HM4 BX4 ⊢
 clear hw4 y0' y1' y2' f0 f1 f2 hl5 BX3
 by_cases hf0 : f = 0
 · subst hf0
   have HRR := zhd (HR.out.trans (if_pos rfl))
   obtain ⟨e0, e1, e2, e3, e4⟩ := zaK BX4.out.eff
   simp only at e0 e1 e2 e3 e4
   have hl1 := zao BX4.out.eff; have hl0 := zao BX4.out.hart; have hl2 := zao HZ4.out
   go_wp2_with (refine wpList_load_row rfl 56 _ rfl w.heap.size rfl 56 (hA h) (0, 0) _ BX4.out.hart Tryz.underlying56 rfl (zaU hsh) ?_)
   refine (zcZ h ed _ _ h32).mono ?_
   rintro e w5 ⟨rfl, hb5⟩
   have BX5 := zhd (BX4.out.up hb5); have HZ5 := zhd (zaf hb5 HZ4.out); have HM5 := zhd (HM4.out.below hb5)
   have hl' := zcq h32 ed n
   clear e0 e1 e2 e3 e4 hl0 hl1 hl2 BX4 HZ4 HM4 hb5
   have hHRR := HRR.out; clear HRR
   generalize hpp : putH h ed n = h' at *
   clear hpp
   have HRR := zhd hHRR; clear hHRR
   have hsh' := zaw h' hl'
   have BX6 := zhd (BX5.out.row (h' := h'))
   have HZ6 : Hid ((w5.setRow w.heap.size (hA h')).heap[w.heap.size + 2]? = some (.cells #[.slice x1 q1 t1, .slice x2 q2 t2, .slice x3 q3 t3] 33 (0, 0))) := zhd (zbf (by omega) HZ5.out)
   have HM6 := zhd (zdV (cs := hA h') HM5.out BX5.out.hart)
   go_upto_region 20 with (refine wpList_store_row rfl 56 _ _ rfl w.heap.size (hA h') rfl rfl 56 (hA h) BX5.out.hart (zaU hsh') (by rw [hsh, hsh']) (zbj h') ?_)
   obtain ⟨w6, hw6⟩ : ∃ x, x = w5.setRow w.heap.size (hA h') := ⟨_, rfl⟩
   rw [← hw6] at BX6 HZ6 HM6 ⊢
   clear hw6 BX5 HZ5 HM5
   obtain ⟨h6, hh6⟩ : ∃ x, x = h' := ⟨_, rfl⟩
   rw [← hh6] at BX6 HRR hl' hsh'
   clear hh6
   obtain ⟨w7, hw7⟩ : ∃ x, x = w6 := ⟨_, rfl⟩
   rw [← hw7] at BX6 HZ6 HM6 ⊢
   clear hw7
   have HO6 := zhd (HO.out.below BX6.out.bel)
   obtain ⟨g, cc, cur, eh, hgh, hgB, _, _⟩ := HO6.out.parts.hart HG.out.regs HK.out
   injection eh with eh _ eh2
   subst eh eh2
   obtain ⟨k0, k1, k2, k3, k4, k5, k6, k7, k8⟩ := zam HO6.out.at_
   obtain ⟨y0, y1, y2⟩ := zah HZ6.out
   have hlp := zao HO6.out.at_; have hlz := zao HZ6.out; have hlb := zao BX6.out.hart
   obtain ⟨nh, hnh⟩ : ∃ n, n = M.harts.length := ⟨_, rfl⟩
   have hknh : k < nh := by rw [hnh]; exact HK.out
   have HNH := zhd hnh
   rw [← hnh] at k1
   clear k0 k2 k3 k4 k5 k6 k7 k8 y0 y1 y2 hnh hgh
   try simp only [Act.put, List.setIfInBounds_toArray, List.set_cons_succ, List.set_cons_zero]
   refine zaL (fun w' => (p < w'.heap.size ∧ w'.cell? ⟨p, 1, none⟩ = some (.slice (some ⟨g, 0, none⟩) nh c2)) ∧ (w.heap.size + 2 < w'.heap.size ∧ w'.heap[w.heap.size + 2]? = some (.cells #[.slice x1 q1 t1, .slice x2 q2 t2, .slice x3 q3 t3] 33 (0, 0))) ∧ w.heap.size < w'.heap.size ∧ w'.heap[w.heap.size]? = some (.cells (hA h6) 56 (0, 0))) 13 [true, true, true, true, true, true, true, true, true, true, true, true] (by kernel_rfl) (by kernel_rfl) (by kernel_rfl) (fun a b h hu => ⟨⟨Nat.lt_of_lt_of_le h.1.1 hu.size, by rw [hu.cell (p := ⟨p, 1, none⟩) h.1.1]; exact h.1.2⟩, ⟨Nat.lt_of_lt_of_le h.2.1.1 hu.size, zaq hu h.2.1.1 h.2.1.2⟩, Nat.lt_of_lt_of_le h.2.2.1 hu.size, zaq hu h.2.2.1 h.2.2.2⟩) ⟨⟨hlp, k1⟩, ⟨hlz, HZ6.out⟩, hlb, BX6.out.hart⟩ ?a1 ?h1 ?ht1
   case h1 =>
    intro w0 ⟨⟨hlp, k1⟩, ⟨hlz, hz0⟩, hlb, hb0⟩
    obtain ⟨y0, y1, y2⟩ := zah hz0
    have s1 := fun x => zal hlp k1 x
    have s2 := fun x => zal hlz y0 x
    have s3 := fun x => zal hlz y1 x
    have s4 := fun x => zal hlz y2 x
    have R0 : Hid (∀ w' : World, (∃ x : Wd w0, w' = x.val) → (loadVar 56 ⟨w.heap.size, 0, none⟩).run Tryz.prog w' = .ok (.agg (hA h6)) w') := zhd (by
     rintro w' ⟨x, rfl⟩
     exact run_loadVar_row _ _ 56 56 (hA h6) (0, 0) _ (zaq x.bel hlb hb0) Tryz.underlying56 rfl (zaU hsh'))
    clear k1 y0 y1 y2 hz0 hb0
    simp only [zbb]
    iterate 8 (go_big_quiet_step (fail))
    go_big_quiet_want
    refine zaM 56 _ ⟨w.heap.size, 0, none⟩ (.agg (hA h6)) rfl rfl R0.out ?_
    simp only [Act.put, List.setIfInBounds_toArray, List.set_cons_succ, List.set_cons_zero]
    go_big_quiet_on
    repeat (go_big_quiet_step (fail))
    refine wpQuiet_nil ?_
    rfl
   case ht1 =>
    change zbO _ _ _ _ _ _ 1 _ _ _
    refine zaz (i := 12) (by kernel_rfl) (by decide) rfl ?_
    intro w8 hu8' ⟨⟨hlp8, kp8⟩, ⟨hlz8, hz8⟩, hlb8, hb8x⟩
    have hb8 : Below w7.heap.size w7 w8 := (by repeat (first | (with_reducible first | exact Below.refl _ _ | refine zaj ?_ ?_ _ | apply zag | refine zae ?_ (by assumption) | apply zak) | omega))
    have HO8 := zhd (HO6.out.below hb8)
    have HM8 := zhd (HM6.out.below hb8)
    have HB8 : Hid (Below w.heap.size w w8) := zhd (zae BX6.out.bel hb8)
    clear hb8 hu8' BX6 HZ6 HM6 HO6 hlp hlz hlb k1
    have HO9 := zhd (HO8.out.setMem HM8.out)
    obtain ⟨k0, k1, k2, k3, k4, k5, k6, k7, k8⟩ := zam HO8.out.at_
    have f3 := zaa HO8.out.at_ 3; have f4 := zaa HO8.out.at_ 4; have f5 := zaa HO8.out.at_ 5
    have hpb := HO8.out.base
    obtain ⟨j0, j1, j2, j3, j4, j5, j6, j7, j8⟩ := zam HO9.out.at_
    have hpn : p < w.heap.size := hpl
    have K := (but3 w8 p 3 4 5 (.slice x1 q1 t1) (.slice x2 q2 t2) (.slice x3 q3 t3))
    have hlp9 := zao HO9.out.at_
    rw [← HNH.out] at j1
    have HC9 := zhd (And.intro (And.intro hlp9 j1) (And.intro (And.intro (Nat.lt_of_lt_of_le hlz8 K.1) ((K.2 (w.heap.size + 2) (by omega)).trans hz8)) (And.intro (Nat.lt_of_lt_of_le hlb8 K.1) ((K.2 w.heap.size (by omega)).trans hb8x))))
    clear k0 k1 k2 k6 k7 k8 j0 j1 j2 j3 j4 j5 j6 j7 j8 K kp8 hz8 hb8x
    go_wp2_with fail
    refine ⟨HC9.out, ?_⟩
    refine zaO (by kernel_rfl) ?_
    intro w9 hu9 _
    have HOA := zhd (HO9.out.below hu9)
    have HB9 := zhd (((((HB8.out.mono hB).setCell hpb (.slice x1 q1 t1)).setCell hpb (.slice x2 q2 t2)).setCell hpb (.slice x3 q3 t3)).trans (hu9.mono (by have := HB8.out.size; simp only [zaH]; omega)))
    obtain ⟨g', cc', cur', eh', hgh', hgB', _, hth'⟩ := HOA.out.parts.hart HG.out.regs HK.out
    injection eh' with eh' _ _
    injection eh' with eh'
    injection eh' with eh'
    subst eh'
    have HT9 := zhd hth'
    clear hth' hgh' hu9
    try simp only [List.drop_succ_cons, List.drop_zero]
    go_wp2_with (refine wpList_store_mid rfl 56 _ _ rfl g (k * 39) (hA h6) rfl rfl (by rw [hsh']; exact HT9.out) (by rw [hsh']; exact zdm) (zbj h6) ?_)
    go_ret
    rw [HRR.out]
    refine ⟨rfl, ?_, fun _ => ⟨_, _, _, _, _, _, _, _, _, _, HOA.out.setHart HG.out.regs rfl HK.out hl'⟩⟩
    exact zaW hgB _ _ HB9.out
 · have HRR := zhd (HR.out.trans (if_neg hf0))
   have HB4 := zhd (BX4.out.bel.mono hB)
   clear BX4 HZ4 HM4
   go_wp2_with fail
   go_ret
   rw [HRR.out]; exact MPost.fail (e := f) HB4.out hf0
end
section
open Go.RowKit
set_option maxRecDepth 100000
section
variable {w w' : World} {B p : Nat} {wv hv ev m1 m2 m3 dv lv tv : Value} {qs : List Value} {M : Mac}
theorem zbc {row : Option Nat} {base e k n : Nat} {v : Value} {xs : List Value} (h : w.ownsRow base e k v n xs) (hg : w.grownBy w' row) (hne : ∀ g, row = some g → v.ownBlock ≠ some g) : w'.ownsRow base e k v n xs :=
 za3 h fun b e => hg.block b (h.lt b e).2 (fun e' => hne b e'.symm e)
theorem zih {row : Option Nat} {k n : Nat} {v : Value} {xs : List Value} (h : Reads w k n v xs) (hg : w.grownBy w' row) (hne : ∀ g, row = some g → v.ownBlock ≠ some g) : Reads w' k n v xs := by
 refine ⟨h.1, h.2.1, ?_⟩
 rcases h.2.2 with h | ⟨b, o, c, rfl, hlt, hc, hm, hcell⟩
 · exact .inl h
 · refine .inr ⟨b, o, c, rfl, Nat.lt_of_lt_of_le hlt hg.size, hc, hm, fun j u hj => ?_⟩
   rw [← hcell j u hj]
   simp only [World.cell?, hg.block b hlt (fun e => hne b e.symm rfl)]
theorem zd2 {k n : Nat} {v : Value} {xs : List Value} (h : Reads w k n v xs) {g : Nat} (hg : v.ownBlock = some g) : g < w.heap.size := by
 rcases h.2.2 with ⟨rfl, _⟩ | ⟨b, o, c, rfl, hlt, _⟩
 · simp [Value.ownBlock] at hg
 · simp [Value.ownBlock] at hg; omega
theorem OwnMac.appendTrace (h : OwnMac w B p wv hv ev m1 m2 m3 dv lv tv qs M) (hg : w.grownBy w' tv.ownBlock) {tv' : Value} {l : List Ac} (ht : w'.ownsRow B 59 5 tv' l.length (zaT acC l)) (hat : tv'.ownBlock = tv.ownBlock ∨ tv'.ownBlock = some w.heap.size) :
 OwnMac (w'.setCell ⟨p, 8, none⟩ tv') B p wv hv ev m1 m2 m3 dv lv tv' qs { M with trace := l } := by
 have T := h.parts.trace
 have hx : w'.heap[p]? = some (.cells #[wv, hv, ev, m1, m2, m3, dv, lv, tv] 97 (0, 0)) := by
  rw [hg.block p (zao h.at_) (fun e => zar T h.at_ (by decide) e.symm)]; exact h.at_
 have hm : IsMem w' (.agg #[m1, m2, m3]) M.mem := by
  obtain ⟨a, b, c, rows, e, k1, k2, k3, k4⟩ := h.parts.mem
  injection e with e
  have e1 : m1 = a := by have := congrArg (·[0]?) e; simpa using this
  have e2 : m2 = b := by have := congrArg (·[1]?) e; simpa using this
  have e3 : m3 = c := by have := congrArg (·[2]?) e; simpa using this
  subst e1 e2 e3
  exact ⟨_, _, _, rows, rfl, zbc k1 hg fun g e => zaC T k1 (by decide) e, zbc k2 hg fun g e => zaC T k2 (by decide) e, zbc k3 hg fun g e => zaC T k3 (by decide) e, k4.1, fun i r l hr hl => zbc (k4.2 i r l hr hl) hg fun g e => zaC T (k4.2 i r l hr hl) (by decide) e⟩
 have K := zby w' p 8 tv'
 have r1 := zbc h.parts.words hg fun g e => zaC T h.parts.words (by decide) e
 have r2 := zbc h.parts.harts hg fun g e => zaC T h.parts.harts (by decide) e
 have r3 := zbc h.parts.ends hg fun g e => zaC T h.parts.ends (by decide) e
 have r5 := zbc h.parts.devs hg fun g e => zaC T h.parts.devs (by decide) e
 have r6 := zbc h.parts.lines hg fun g e => zaC T h.parts.lines (by decide) e
 have rq : QuesAt w' qs M.devs := ⟨h.parts.ques.1, fun i q s hq hs => zih (h.parts.ques.2 i q s hq hs) hg fun g e e' => (h.offQ q (List.mem_of_getElem? hq) g e').2.2.2.2.1 e⟩
 refine ⟨zaG hx 8 tv', h.base, ⟨zas r1 K (zar r1 hx (by decide)), zas r2 K (zar r2 hx (by decide)), zas r3 K (zar r3 hx (by decide)), zcu hm K hx (by decide) (by decide), zas r5 K (zar r5 hx (by decide)),
  zdq rq K fun q hq e => (h.offQ q hq p e).2.2.2.2.2 rfl, zas r6 K (zar r6 hx (by decide)), zas ht K (zar ht hx (by decide))⟩, fun q hq g e => ?_⟩
 obtain ⟨h1, h2, h3, h4, h5, h6⟩ := h.offQ q hq g e
 refine ⟨h1, h2, h3, h4, ?_, h6⟩
 rcases hat with ha | ha
 · rw [ha]; exact h5
 · rw [ha]
   obtain ⟨j, hj⟩ := List.mem_iff_getElem?.1 hq
   have hjl : j < M.devs.length := by rw [← h.parts.ques.1]; exact (List.getElem?_eq_some_iff.1 hj).1
   have := zd2 (h.parts.ques.2 j q _ hj (List.getElem?_eq_getElem hjl)) e
   intro e2; injection e2 with e2; omega
theorem OwnMac.box (h : OwnMac w B p wv hv ev m1 m2 m3 dv lv tv qs M) {b : Nat} {old cs : Array Value} (hb : w.heap[b]? = some (.cells old 56 (0, 0))) (hh : hv.ownBlock ≠ some b) (hq : ∀ q ∈ qs, q.ownBlock ≠ some b) : OwnMac (w.setRow b cs) B p wv hv ev m1 m2 m3 dv lv tv qs M := by
 have K := zf8 w b cs
 exact ⟨(K.2 p (by rintro rfl; have := h.at_; rw [hb] at this; injection this with e; injection e with _ e; exact absurd e (by decide))).trans h.at_, h.base, ⟨zas h.parts.words K (zar h.parts.words hb (by decide)), zas h.parts.harts K hh, zas h.parts.ends K (zar h.parts.ends hb (by decide)), zcu h.parts.mem K hb (by decide) (by decide), zas h.parts.devs K (zar h.parts.devs hb (by decide)),
  zdq h.parts.ques K hq, zas h.parts.lines K (zar h.parts.lines hb (by decide)), zas h.parts.trace K (zar h.parts.trace hb (by decide))⟩, h.offQ⟩
theorem OwnMac.acc (h : OwnMac w B p wv hv ev m1 m2 m3 dv lv tv qs M) {nb j : Nat} {cur : Array Value} {u : Value} (hn : w.heap[nb]? = some (.cells cur 59 (0, 0))) (hq : ∀ q ∈ qs, q.ownBlock ≠ some nb) (ht : tv.ownBlock ≠ some nb) : OwnMac (w.setCell ⟨nb, j, none⟩ u) B p wv hv ev m1 m2 m3 dv lv tv qs M := by
 have K := zby w nb j u
 exact ⟨(K.2 p (by rintro rfl; have := h.at_; rw [hn] at this; injection this with e; injection e with _ e; exact absurd e (by decide))).trans h.at_, h.base, ⟨zas h.parts.words K (zar h.parts.words hn (by decide)), zas h.parts.harts K (zar h.parts.harts hn (by decide)), zas h.parts.ends K (zar h.parts.ends hn (by decide)), zcu h.parts.mem K hn (by decide) (by decide), zas h.parts.devs K (zar h.parts.devs hn (by decide)),
  zdq h.parts.ques K hq, zas h.parts.lines K (zar h.parts.lines hn (by decide)), zas h.parts.trace K ht⟩, h.offQ⟩
end

theorem zea (w : World) (B p : Nat) (wv hv ev m1 m2 m3 dv lv tv : Value) (qs : List Value) (M : Mac) (ho : OwnMac w B p wv hv ev m1 m2 m3 dv lv tv qs M) (i : Int) (h0 : 0 ≤ i) (h1 : i < M.mem.pend.length) (b : Bool) (hb : decide ((zaJ M.mem i).length ≠ 0) = b) :
 Calls Tryz.prog 76 #[.pointer (some ⟨p, 0, none⟩), .int .i64 i] w fun e w' => e = .returned (.bool b) ∧ Below w.heap.size w w' := by
 subst hb; exact busy_mac w B p wv hv ev m1 m2 m3 dv lv tv qs M ho i h0 h1

set_option maxHeartbeats 8000000 in
theorem zjT (w : World) (B p : Nat) (wv hv ev m1 m2 m3 dv lv tv : Value) (qs : List Value) (M : Mac) (H N : Nat) (ho : OwnMac w B p wv hv ev m1 m2 m3 dv lv tv qs M) (hg : GoodM M H N) (hN : N ≤ 1000000) (hB : B ≤ w.heap.size) (k : Nat) (hk : k < M.harts.length) (hkp : k < M.mem.pend.length) (h : Ht) (h32 : h.r.length = 32) (e : Eff) (d : Nat) (hd : d < M.devs.length) (g : Int) (hgr : 0 ≤ g ∧ g < 4) (hk1 : e.k = 2) :
 Calls Tryz.prog 117 #[.pointer (some ⟨p, 0, none⟩), .int .i64 k, .agg (hA h), effV e, .int .i64 d, .int .i64 g] w (MPost B p w (zbA M k h e d g)) := by
 obtain ⟨ek, ed, ead, en, eo⟩ := e
 simp only at hk1
 subst hk1
 have hsh := zaw h h32
 obtain ⟨R, hR⟩ : ∃ R, R = zbA M k h ⟨2, ed, ead, en, eo⟩ d g := ⟨_, rfl⟩
 rw [← hR]
 have hdd : zeF M (d : Int) = M.devs[d] := by simp [zeF, hd]
 unfold zbA at hR
 rw [hdd] at hR
 have hinv := hg.dev M.devs[d] (List.getElem_mem _)
 generalize hDD : M.devs[d] = D at *
 have HDD := zhd hDD
 clear hDD hdd
 obtain ⟨a1, c1, a2, c2, a3, c3, b1, d1, b2, d2, b3, d3, a5, c5, a6, c6, a7, c7, rfl, rfl, rfl, rfl, rfl, rfl, rfl, rfl, rfl⟩ := ho.shapes
 unfold effV
 simp only
 obtain ⟨w1, hw1, hx1, hy1, hb1, _⟩ := zcW w (.cells (hA h) 56) (.cells #[.int .i64 2, .int .i64 ed, .int .i64 ead, .int .i64 en, .int .i64 eo] 131)
 have BX1 : Hid (Boxes w w1 h ⟨2, ed, ead, en, eo⟩) := zhd ⟨hx1, hy1, hb1⟩
 have HO := zhd ho
 have HG := zhd hg; have HK := zhd hk; have HKP := zhd hkp; have HD := zhd hd
 clear hx1 hy1 hb1 ho hg hk hkp
 by_cases hbu : (zaJ M.mem (k : Int)).length ≠ 0
 · have HRR := zhd (hR.trans (if_pos hbu)); clear hR
   have HBU := zhd hbu; clear hbu
   go_enter Tryz.func117, Tryz.ntmps117
   go_upto_region 1 with (fail)
   rw [← hw1]; clear hw1
   go_wp2_with fail
   refine (zea _ _ _ _ _ _ _ _ _ _ _ _ _ M (HO.out.below BX1.out.bel) k (by omega) (by have := HKP.out; omega) true (by simpa using HBU.out)).mono ?_
   rintro e w2 ⟨rfl, hb2⟩
   have HB2 := zhd (zbu (BX1.out.bel.mono hB) hb2 hB)
   clear hb2
   go_wp2_with fail
   go_ret
   rw [HRR.out]; exact MPost.fail (e := 92) HB2.out (by decide)
 have HRR := zhd ((hR.trans (if_neg hbu)).trans (if_pos rfl)); clear hR
 have HBU := zhd hbu; clear hbu
 go_enter Tryz.func117, Tryz.ntmps117
 go_upto_region 1 with (fail)
 rw [← hw1]; clear hw1
 go_wp2_with fail
 refine (zea _ _ _ _ _ _ _ _ _ _ _ _ _ M (HO.out.below BX1.out.bel) k (by omega) (by have := HKP.out; omega) false (by simpa using HBU.out)).mono ?_
 rintro e w2 ⟨rfl, hb2⟩
 have BX2 := zhd (BX1.out.up hb2)
 clear hb2 BX1
 go_upto_region 3 with (fail)
 go_cut [13] (fun s13 wx => ∃ nb, s13 = .pointer (some ⟨nb, 0, none⟩) ∧ w.heap.size + 2 ≤ nb ∧ wx.heap[nb]? = some (.cells #[.int .i64 k, .int .i64 d, .int .i64 g, .bool true, .int .i64 (wrap32 en)] 59 (0, 0)) ∧ Below w2.heap.size w2 wx)
 case first =>
  have hsz2 : w.heap.size + 2 ≤ w2.heap.size := zao BX2.out.eff
  refine zaV (fun w' => Below w2.heap.size w2 w') [true, true, true, true, true, true, true, true] (by kernel_rfl) (by kernel_rfl) (by kernel_rfl) (fun a b h hu => zae h hu) (Below.refl _ _) ?a1 ?h1 ?ht1
  case h1 =>
   intro w0 hb0
   have he := zaf hb0 BX2.out.eff
   obtain ⟨q0, q1, q2, q3, q4⟩ := zaK he
   simp only at q0 q3
   have hle := zao he
   have y0 := fun x => zal hle q0 x
   have y3 := fun x => zal hle q3 x
   clear q0 q1 q2 q3 q4 he hb0
   simp only [zbb]
   repeat (go_big_quiet_step (fail))
   refine wpQuiet_nil ?_
   rfl
  case ht1 =>
   change zbh _ _ _ _ _ 4 _ _ _
   refine zeb (i := 8) (k := 10) (by kernel_rfl) rfl rfl ?_ ?_
   · intro w3 _ hb3
     go_wp2_with fail
     refine (zaX en _).mono ?_
     rintro e w4 ⟨rfl, rfl⟩
     go_wp2_with fail
     refine ⟨hb3, ?_⟩
     refine zcV [false, false, false, false, false, false, false, false, false, true] 2 (by kernel_rfl) (by kernel_rfl) (by kernel_rfl) (fun a b h hu => zae h hu) hb3 ?ra1 ?rh1 ?rt1
     case rh1 =>
      intro w0 _
      simp only [zbb]
      repeat (go_big_quiet_step (fail))
      refine wpQuiet_nil ?_
      rfl
     case rt1 =>
      refine zaA (i := 10) (by kernel_rfl) rfl ?_
      intro w5 _ hb5
      have hle5 : w.heap.size + 2 ≤ w5.heap.size := Nat.le_trans hsz2 hb5.size
      go_wp2_with fail
      refine ⟨zae hb5 (zan w5 _), ?_⟩
      refine zaA (i := 11) (by kernel_rfl) rfl ?_
      intro w6 hu6 hb6
      have hn6 := zaf hu6 (zat w5 (.cells #[.int .i64 0, .int .i64 0, .int .i64 0, .bool false, .int .i64 0] 59))
      obtain ⟨k0, k1, k2, k3, k4⟩ := zaK hn6
      have f0 := zaa hn6 0; have f1 := zaa hn6 1; have f2 := zaa hn6 2; have f3 := zaa hn6 3; have f4 := zaa hn6 4
      have hle6 : w2.heap.size ≤ w5.heap.size := hb5.size
      have HB6 := zhd (zaj (zaj (zaj (zaj (zaj hb6 hle6 (.int .i64 k) (o := 0)) hle6 (.int .i64 d) (o := 1)) hle6 (.int .i64 g) (o := 2)) hle6 (.bool true) (o := 3)) hle6 (.int .i64 (wrap32 en)) (o := 4))
      have HN6 := zhd (zaG (zaG (zaG (zaG (zaG hn6 0 (.int .i64 k)) 1 (.int .i64 d)) 2 (.int .i64 g)) 3 (.bool true)) 4 (.int .i64 (wrap32 en)))
      clear hu6 hb6 hn6
      go_wp2_with fail
      refine ⟨HB6.out, ?_⟩
      refine zbv (by kernel_rfl) ?_
      intro w8 hu8 hb8
      have HN8 := zhd (zaf hu8 HN6.out)
      go_wp2_with fail
      go_meet
      case rel => exact ⟨_, rfl, hle5, HN8.out, hb8⟩
   · intro w5 _ hb5
     have hle5 : w.heap.size + 2 ≤ w5.heap.size := Nat.le_trans hsz2 hb5.size
     go_wp2_with fail
     refine ⟨zae hb5 (zan w5 _), ?_⟩
     refine zaA (i := 8) (by kernel_rfl) rfl ?_
     intro w3 hu3 hb3
     have HN3 := zhd (zaf hu3 (zat w5 (.cells #[.int .i64 0, .int .i64 0, .int .i64 0, .bool false, .int .i64 0] 59)))
     go_wp2_with fail
     refine (zaX en _).mono ?_
     rintro e w4 ⟨rfl, rfl⟩
     go_wp2_with fail
     refine ⟨hb3, ?_⟩
     refine zcV [false, false, false, false, false, false, false, false, false, true] 1 (by kernel_rfl) (by kernel_rfl) (by kernel_rfl) (fun a b h hu => zae h hu) hb3 ?ra2 ?rh2 ?rt2
     case rh2 =>
      intro w0 _
      simp only [zbb]
      repeat (go_big_quiet_step (fail))
      refine wpQuiet_nil ?_
      rfl
     case rt2 =>
      refine zaA (i := 11) (by kernel_rfl) rfl ?_
      intro w6 hu6 hb6
      have hn6 := zaf hu6 HN3.out
      obtain ⟨k0, k1, k2, k3, k4⟩ := zaK hn6
      have f0 := zaa hn6 0; have f1 := zaa hn6 1; have f2 := zaa hn6 2; have f3 := zaa hn6 3; have f4 := zaa hn6 4
      have hle6 : w2.heap.size ≤ w5.heap.size := hb5.size
      have HB6 := zhd (zaj (zaj (zaj (zaj (zaj hb6 hle6 (.int .i64 k) (o := 0)) hle6 (.int .i64 d) (o := 1)) hle6 (.int .i64 g) (o := 2)) hle6 (.bool true) (o := 3)) hle6 (.int .i64 (wrap32 en)) (o := 4))
      have HN6 := zhd (zaG (zaG (zaG (zaG (zaG hn6 0 (.int .i64 k)) 1 (.int .i64 d)) 2 (.int .i64 g)) 3 (.bool true)) 4 (.int .i64 (wrap32 en)))
      clear hu6 hb6 hn6
      go_wp2_with fail
      refine ⟨HB6.out, ?_⟩
      refine zbv (by kernel_rfl) ?_
      intro w8 hu8 hb8
      have HN8 := zhd (zaf hu8 HN6.out)
      go_wp2_with fail
      go_meet
      case rel => exact ⟨_, rfl, hle5, HN8.out, hb8⟩
 case rest =>
 obtain ⟨nb, rfl, hnb, hn, hbc⟩ := hcut
 obtain ⟨w3, hw3⟩ : ∃ x, x = wc := ⟨_, rfl⟩
 subst hw3
 have BX3 := zhd (BX2.out.up hbc)
 have HN3 := zhd hn
 clear hbc hn BX2
 have HO3 := zhd (HO.out.below BX3.out.bel)
 obtain ⟨gd, cd, cur, qv, e2, hgc, hgB, hrg, hth, hst, hq1⟩ := HO3.out.parts.dev HD.out
 injection e2 with e2 _ e3
 subst e2 e3
 rw [HDD.out] at hrg hst
 have HG3 := zhd hgc; have HTH := zhd hth; have HST := zhd hst; have HRG := zhd hrg
 obtain ⟨n5, hn5⟩ : ∃ n, n = M.devs.length := ⟨_, rfl⟩
 have hdn : d < n5 := by rw [hn5]; exact HD.out
 have HN5 := zhd hn5
 have hgw : gd < w.heap.size := (HO.out.parts.devs.lt gd rfl).2
 have hpw := zao HO.out.at_
 clear hn5 hgc hth hst hrg
 obtain ⟨t0, t1, t2, t3, t4⟩ := zaK HN3.out
 have hln3 := zao HN3.out
 go_upto_if 28 with (fail)
 clear t0 t1 t2 t3 t4
 go_cut [] (fun wx => ∃ q', OwnMac (wx) B p (.slice a1 M.words.length c1) (.slice a2 M.harts.length c2) (.slice a3 M.ends.length c3) (.slice b1 M.mem.words.length d1) (.slice b2 M.mem.pend.length d2) (.slice b3 M.mem.res.length d3) (.slice (some ⟨gd, 0, none⟩) M.devs.length c5) (.slice a6 M.lines.length c6) (.slice a7 M.trace.length c7) (qs.set d q') { M with devs := M.devs.set d (za7 (zbo D g (wrap32 (wrap32 en)))) } ∧ wx.heap[nb]? = some (.cells #[.int .i64 k, .int .i64 d, .int .i64 g, .bool true, .int .i64 (wrap32 en)] 59 (0, 0)) ∧ wx.heap[w.heap.size]? = some (.cells (hA h) 56 (0, 0)) ∧ wx.heap[w.heap.size + 1]? = some (.cells #[.int .i64 2, .int .i64 ed, .int .i64 ead, .int .i64 en, .int .i64 eo] 131 (0, 0)) ∧ (∀ g, q'.ownBlock = some g → nb < g) ∧ Below B w wx)
 case first =>
  go_upto_region 5 with (fail)
  refine zaL (fun w' => Below w3.heap.size w3 w') 18 [true, true, true, true, true, true, true, true, true, true, true, true, true, true, true, true, true] (by kernel_rfl) (by kernel_rfl) (by kernel_rfl) (fun a b h hu => zae h hu) (Below.refl _ _) ?a2 ?h2 ?ht2
  case h2 =>
   intro w0 hb0
   obtain ⟨k0, k1, k2, k3, k4, k5, k6, k7, k8⟩ := zam (zaf hb0 HO3.out.at_)
   obtain ⟨q0, q1, q2, q3, q4⟩ := zaK (zaf hb0 HN3.out)
   have hlp := zao (zaf hb0 HO3.out.at_); have hln := zao (zaf hb0 HN3.out)
   rw [← HN5.out] at k6
   have x6 := fun x => zal hlp k6 x
   have y4 := fun x => zal hln q4 x
   have hg0 := zaf hb0 HG3.out
   have R0 : Hid (∀ w' : World, (∃ x : Wd w0, w' = x.val) → (loadVar 75 ⟨gd, d * 8, none⟩).run Tryz.prog w' = .ok (.agg (stC D qv)) w') := zhd (by
    rintro w' ⟨x, rfl⟩
    exact zeP (zdp (zao hg0) (zd3 HRG.out HG3.out hg0) x))
   clear k0 k1 k2 k3 k4 k5 k6 k7 k8 q0 q1 q2 q3 q4 hb0 hg0
   simp only [zbb]
   iterate 13 (go_big_quiet_step (fail))
   go_big_quiet_want
   refine zaM 75 _ ⟨gd, d * 8, none⟩ (.agg (stC D qv)) rfl rfl R0.out ?_
   simp only [Act.put, List.setIfInBounds_toArray, List.set_cons_succ, List.set_cons_zero]
   go_big_quiet_on
   repeat (go_big_quiet_step (fail))
   refine wpQuiet_nil ?_
   rfl
  case ht2 =>
   change zbO _ _ _ _ _ _ 1 _ _ _
   refine zaz (i := 17) (by kernel_rfl) (by decide) rfl ?_
   intro w4 _ hb4
   have HB4 := zhd hb4
   go_wp2_with fail
   refine (zkO _ D g (wrap32 en) _ (HST.out.below hb4) hinv hgr).mono ?_
   rintro e w5 ⟨v', rfl, ⟨q', rfl, hr', hf'⟩, hb5⟩
   have ho1 : q'.oneCell' = true := by obtain ⟨qa, qc, e⟩ := hr'.shape; rw [e]; rfl
   have HF4 := zhd ((HO3.out.below hb4).fresh (q := q') (fun g hg => by
    obtain ⟨qa, qc, e⟩ := hr'.shape
    subst e
    cases qa with
    | none => simp [Value.ownBlock] at hg
    | some a => simp [Value.ownBlock] at hg; subst hg; exact hf' a _ _ rfl))
   have HQN : Hid (∀ g, q'.ownBlock = some g → nb < g) := zhd (fun g hg => by
    obtain ⟨qa, qc, e⟩ := hr'.shape
    subst e
    have hl := zao (zaf hb4 HN3.out)
    cases qa with
    | none => simp [Value.ownBlock] at hg
    | some a => simp [Value.ownBlock] at hg; subst hg; have := hf' a _ _ rfl; omega)
   have HB5 := zhd (zae hb4 hb5)
   clear hf' hb5 hb4
   go_wp2_with fail
   refine ⟨HB5.out, ?_⟩
   refine zaO (by kernel_rfl) ?_
   intro w8 hu' hb8
   have hn8 := zaf hb8 HN3.out
   have HO8 := zhd (HO3.out.below hb8)
   have HG8 := zhd (zaf hb8 HG3.out)
   have HT8 := zhd (zcd HTH.out HG3.out HG8.out)
   have HO9 := zhd (HO8.out.setDev rfl HD.out (hr'.below hu') HF4.out)
   have K := zb7 w8 gd (d * 8) (sC ((za7 (zbo D g (wrap32 (wrap32 en)))), q'))
   have HN9 := zhd ((K.2 nb (by omega)).trans hn8)
   have HX9 := zhd ((K.2 w.heap.size (by omega)).trans (zaf hb8 BX3.out.hart))
   have HY9 := zhd ((K.2 (w.heap.size + 1) (by omega)).trans (zaf hb8 BX3.out.eff))
   have HB9 := zhd (zaW hgB (sC ((za7 (zbo D g (wrap32 (wrap32 en)))), q')) (d * 8) ((BX3.out.bel.mono hB).trans (hb8.mono (by have := BX3.out.bel.size; omega))))
   clear hb8 hu' hr' hn8 K
   try simp only [List.drop_succ_cons, List.drop_zero]
   go_wp2_with (refine wpList_store_mid rfl 75 _ _ rfl gd (d * 8) (stC (za7 (zbo D g (wrap32 (wrap32 en)))) q') rfl rfl HT8.out zfV (zeH _ ho1) ?_)
   go_meet
   case rel => exact ⟨q', HO9.out, HN9.out, HX9.out, HY9.out, HQN.out, HB9.out⟩
 case rest =>
 obtain ⟨q', hor, hnr, hxr, hyr, hqn, hbr⟩ := hcut
 obtain ⟨w9, hw9⟩ : ∃ x, x = wc := ⟨_, rfl⟩
 subst hw9
 have HO9 := zhd hor; have HN9 := zhd hnr; have HX9 := zhd hxr; have HB9 := zhd hbr
 have HL : Hid (M.trace.length ≤ N) := zhd HG.out.trace
 obtain ⟨z0, z1, z2, z3, z4, z5, z6, z7, z8⟩ := zam hor.at_
 have hlp9 := zao hor.at_; have hln9 := zao hnr
 obtain ⟨hf, hhf⟩ : ∃ x, x = h := ⟨_, rfl⟩
 have hlf : hf.r.length = 32 := by rw [hhf]; exact h32
 rw [← hhf] at HX9
 have HHF := zhd hhf
 clear hor hnr hxr hyr hqn hbr hhf z0 z1 z2 z3 z4 z5 z6 z7
 obtain ⟨n7, hn7⟩ : ∃ n, n = M.trace.length := ⟨_, rfl⟩
 have HN7 := zhd hn7
 have hn7N : n7 ≤ 1000000 := by rw [hn7]; exact Nat.le_trans HL.out hN
 rw [← hn7] at z8
 clear hn7
 obtain ⟨i0, hi, hzz0, hzz1, hzz2⟩ := info_parts zfX
 go_upto_region 8 with (fail)
 refine zaL (fun w' => (p < w'.heap.size ∧ w'.cell? ⟨p, 8, none⟩ = some (.slice a7 n7 c7)) ∧ nb < w'.heap.size ∧ w'.heap[nb]? = some (.cells #[.int .i64 k, .int .i64 d, .int .i64 g, .bool true, .int .i64 (wrap32 en)] 59 (0, 0))) 9 [true, true, true, true, true, true, true] (by kernel_rfl) (by kernel_rfl) (by kernel_rfl) (fun a b h hu => ⟨⟨Nat.lt_of_lt_of_le h.1.1 hu.size, by rw [hu.cell (p := ⟨p, 8, none⟩) h.1.1]; exact h.1.2⟩, Nat.lt_of_lt_of_le h.2.1 hu.size, zaq hu h.2.1 h.2.2⟩) ⟨⟨hlp9, z8⟩, hln9, HN9.out⟩ ?a3 ?h3 ?ht3
 case h3 =>
  intro w0 ⟨⟨hlp, k8⟩, hln, hn0⟩
  obtain ⟨t0, t1, t2, t3, t4⟩ := zaK hn0
  have x8 := fun x => zal hlp k8 x
  have y0 := fun x => zal hln t0 x
  have y1 := fun x => zal hln t1 x
  have y2 := fun x => zal hln t2 x
  have y3 := fun x => zal hln t3 x
  have y4 := fun x => zal hln t4 x
  clear k8 t0 t1 t2 t3 t4 hn0
  simp only [zbb]
  repeat (go_big_quiet_step (fail))
  refine wpQuiet_nil ?_
  rfl
 case ht3 =>
  clear z8
  change zbO _ _ _ _ _ _ 2 _ _ _
  refine zaz (i := 7) (by kernel_rfl) (by decide) rfl ?_
  intro wa hua' ⟨⟨hlpa, kpa⟩, hlna, hna⟩
  have hua : Below w9.heap.size w9 wa := (by repeat (first | (with_reducible first | exact Below.refl _ _ | refine zaj ?_ ?_ _ | apply zag | refine zae ?_ (by assumption) | apply zak) | omega))
  have HOa := zhd (HO9.out.below hua); have HXa := zhd (zaf hua HX9.out)
  have HBa := zhd (zbu HB9.out hua hB)
  clear hua hua'
  go_wp2_with fail
  refine ⟨⟨⟨Nat.lt_of_lt_of_le hlpa (zan wa _).size, ((zan wa _).cell (p := ⟨p, 8, none⟩) hlpa).trans kpa⟩, Nat.lt_of_lt_of_le hlna (zan wa _).size, zaf (zan wa _) hna⟩, ?_⟩
  refine zaz (i := 8) (by kernel_rfl) (by decide) rfl ?_
  intro wb hub ⟨⟨hlpb, kpb⟩, hlnb, hnb'⟩
  have hub' : Below wa.heap.size wa wb := zae (zan wa _) hub
  have HOb := zhd (HOa.out.below hub'); have HXb := zhd (zaf hub' HXa.out)
  have HBb := zhd (zbu HBa.out hub' hB)
  have hnew : wb.heap[wa.heap.size]? = some (.cells #[.int .i64 k, .int .i64 d, .int .i64 g, .bool true, .int .i64 (wrap32 en)] 59 (0, 0)) := zaf hub (zat wa _)
  have HC : Hid (∀ j u, (acC ⟨k, d, g, true, (wrap32 en)⟩)[j]? = some u → wb.cell? ((⟨wa.heap.size, 0, none⟩ : Addr).add j) = some u) := zhd (fun j u hj => by
   rw [zaQ, Nat.zero_add]
   exact zad hnew (by simpa [acC] using hj))
  have HT := zhd HOb.out.parts.trace
  have hp4 : Hid (wb.ownsRow B 59 5 (.slice a7 n7 c7) n7 (zaT acC M.trace)) := zhd (by have := HT.out; rw [HN7.out]; exact this)
  have hby : (n7 + 1) * 40 ≤ 140737488355328 := by omega
  have hmx : n7 + 1 ≤ maxLen := by unfold maxLen; omega
  have hsz : B ≤ wb.heap.size := Nat.le_trans hB HBb.out.size
  have hpb := HOb.out.base
  have hob := zar HT.out HOb.out.at_ (by decide)
  have hobn := zar HT.out HXb.out (by decide)
  have hoba : ∀ (g' : Nat), (Value.slice a7 M.trace.length c7).ownBlock = some g' → g' < w.heap.size := fun g' e => (HO.out.parts.trace.lt g' e).2
  clear hub hub' hnew HOa HXa HBa kpa hna
  refine wpList_append_own_at _ rfl _ _ 35 rfl B 59 i0 (.agg #[.int .i64 0, .int .i64 0, .int .i64 0, .bool false, .int .i64 0]) 5 40 Tryz.underlying35 hi hzz0 hzz1 hzz2 rfl (by decide) _ _ _ rfl hp4.out ⟨wa.heap.size, 0, none⟩ 1 1 (acC ⟨k, d, g, true, (wrap32 en)⟩) rfl rfl HC.out (zhh _) hmx hby hsz ?_
  intro tv' wd hown hgrow _ hat
  obtain ⟨xt, yt, rfl⟩ := zai hown
  have HOWN := zhd hown; have HGR := zhd hgrow; have HAT := zhd hat
  have hp5 : wd.cell? ⟨p, 8, none⟩ = some (.slice a7 n7 c7) := by
   simp only [World.cell?] at kpb ⊢
   rw [hgrow.block p hlpb (fun e => hob (by rw [← HN7.out]; exact e.symm))]; exact kpb
  have hn5 : wd.heap[nb]? = some (.cells #[.int .i64 k, .int .i64 d, .int .i64 g, .bool true, .int .i64 (wrap32 en)] 59 (0, 0)) := by
   rw [hgrow.block nb hlnb (fun e => by have := hoba nb (by rw [← HN7.out]; exact e.symm); omega)]; exact hnb'
  have HXd : Hid (wd.heap[w.heap.size]? = some (.cells (hA hf) 56 (0, 0))) := zhd (by
   rw [hgrow.block w.heap.size (zao HXb.out) (fun e => by have := hoba w.heap.size (by rw [← HN7.out]; exact e.symm); omega)]; exact HXb.out)
  have HBd : Hid (Below B w wd) := zhd (HBb.out.grown hgrow hsz (fun g' e => (HT.out.lt g' (by rw [← HN7.out]; exact e)).1))
  have HCd := zhd (And.intro (And.intro (Nat.lt_of_lt_of_le hlpb hgrow.size) hp5) (And.intro (zao hn5) hn5))
  have HPd := zhd ((hgrow.block p hlpb (fun e => hob (by rw [← HN7.out]; exact e.symm))).trans HOb.out.at_)
  clear hown hgrow hat hp5 hn5 kpb hnb'
  go_wp2_with fail
  refine ⟨HCd.out, ?_⟩
  refine zaO (by kernel_rfl) ?_
  intro we hue _
  have HOe := zhd (HOb.out.appendTrace (w' := we) (tv' := .slice xt (n7 + 1) yt) (l := M.trace ++ [⟨k, d, g, true, (wrap32 en)⟩]) (by rw [← HN7.out]; exact zdv HGR.out HGR.out.size hue) (by
   have e : (M.trace ++ [(⟨k, d, g, true, (wrap32 en)⟩ : Ac)]).length = n7 + 1 := by simp [HN7.out]
   rw [e, zbW]
   simpa [zaT] using zab HOWN.out hue) (by rw [← HN7.out]; exact HAT.out))
  have HXe := zhd (zaf hue HXd.out)
  have hpe := zaf hue HPd.out
  have k8e := zad hpe (j := 8) rfl
  have f8e := zaa hpe 8
  have HBe : Hid (Below B w we) := zhd (zbu HBd.out hue hB)
  clear hue hpe
  try simp only [List.drop_succ_cons, List.drop_zero]
  go_upto_region 9 with (fail)
  obtain ⟨wf, hwf⟩ : ∃ x, x = we.setCell ⟨p, 8, none⟩ (.slice xt (n7 + 1) yt) := ⟨_, rfl⟩
  have HXf : Hid (wf.heap[w.heap.size]? = some (.cells (hA hf) 56 (0, 0))) := zhd (by rw [hwf]; exact (zaD (by omega)).trans HXe.out)
  have HBf : Hid (Below B w wf) := zhd (by rw [hwf]; exact HBe.out.setCell hpb _)
  have HOf := HOe
  rw [← hwf] at HOf ⊢
  clear hwf HOe HXe HBe k8e f8e HCd HGR HAT HOWN HXd HBd HT hp4 HC hob hobn hoba
  obtain ⟨gh, ch, curh, eh, hgh, hgBh, _, hth⟩ := HOf.out.parts.hart HG.out.regs HK.out
  injection eh with eh _ eh2
  subst eh eh2
  have HTHf := zhd hth; have HGHf := zhd hgh
  obtain ⟨j0, j1, j2, j3, j4, j5, j6, j7, j8⟩ := zam HOf.out.at_
  have hlpf := zao HOf.out.at_; have hlbf := zao HXf.out
  obtain ⟨nh, hnh⟩ : ∃ n, n = M.harts.length := ⟨_, rfl⟩
  have hknh : k < nh := by rw [hnh]; exact HK.out
  rw [← hnh] at j1
  have x1 := fun x => zal hlpf j1 x
  have hshf := zaw hf hlf
  have R0 : Hid (∀ w' : World, (∃ x : Wd wf, w' = x.val) → (loadVar 56 ⟨w.heap.size, 0, none⟩).run Tryz.prog w' = .ok (.agg (hA hf)) w') := zhd (by
   rintro w' ⟨x, rfl⟩
   exact run_loadVar_row _ _ 56 56 (hA hf) (0, 0) _ (zaq x.bel hlbf HXf.out) Tryz.underlying56 rfl (zaU hshf))
  clear j0 j1 j2 j3 j4 j5 j6 j7 j8 hnh hgh hth
  refine zau 8 (by kernel_rfl) (by kernel_rfl) ?_
  simp only [List.take_succ_cons, List.take_zero, List.drop_succ_cons, List.drop_zero]
  iterate 6 (go_big_quiet_step (fail))
  go_big_quiet_want
  refine zaM 56 _ ⟨w.heap.size, 0, none⟩ (.agg (hA hf)) rfl rfl R0.out ?_
  simp only [Act.put, List.setIfInBounds_toArray, List.set_cons_succ, List.set_cons_zero]
  go_big_quiet_on
  repeat (go_big_quiet_step (fail))
  refine wpQuiet_nil ?_
  rintro wg ⟨⟨wgx, hbg⟩, rfl⟩
  have HOg := zhd (HOf.out.below hbg)
  have HTg := zhd (zcd HTHf.out HGHf.out (zaf hbg HGHf.out))
  have HBg := zhd (zbu HBf.out hbg hB)
  clear hbg x1 R0 hlpf hlbf
  go_wp2_with (refine wpList_store_mid rfl 56 _ _ rfl gh (k * 39) (hA hf) rfl rfl (by rw [hshf]; exact HTg.out) (by rw [hshf]; exact zdm) (zbj hf) ?_)
  go_ret
  rw [HRR.out]
  have T := HOg.out.setHart HG.out.regs rfl HK.out hlf
  have e := HHF.out
  subst e
  exact ⟨rfl, zaW hgBh _ _ HBg.out, fun _ => ⟨_, _, _, _, _, _, _, _, _, _, T⟩⟩
set_option maxHeartbeats 8000000 in
theorem zjU (w : World) (B p : Nat) (wv hv ev m1 m2 m3 dv lv tv : Value) (qs : List Value) (M : Mac) (H N : Nat) (ho : OwnMac w B p wv hv ev m1 m2 m3 dv lv tv qs M) (hg : GoodM M H N) (hN : N ≤ 1000000) (hB : B ≤ w.heap.size) (k : Nat) (hk : k < M.harts.length) (hkp : k < M.mem.pend.length) (h : Ht) (h32 : h.r.length = 32) (e : Eff) (d : Nat) (hd : d < M.devs.length) (g : Int) (hgr : 0 ≤ g ∧ g < 4) (hk1 : e.k = 1) :
 Calls Tryz.prog 117 #[.pointer (some ⟨p, 0, none⟩), .int .i64 k, .agg (hA h), effV e, .int .i64 d, .int .i64 g] w (MPost B p w (zbA M k h e d g)) := by
 obtain ⟨ek, ed, ead, en, eo⟩ := e
 simp only at hk1
 subst hk1
 have hsh := zaw h h32
 obtain ⟨R, hR⟩ : ∃ R, R = zbA M k h ⟨1, ed, ead, en, eo⟩ d g := ⟨_, rfl⟩
 rw [← hR]
 have hdd : zeF M (d : Int) = M.devs[d] := by simp [zeF, hd]
 unfold zbA at hR
 rw [hdd] at hR
 have hinv := hg.dev M.devs[d] (List.getElem_mem _)
 generalize hDD : M.devs[d] = D at *
 have HDD := zhd hDD
 clear hDD hdd
 obtain ⟨a1, c1, a2, c2, a3, c3, b1, d1, b2, d2, b3, d3, a5, c5, a6, c6, a7, c7, rfl, rfl, rfl, rfl, rfl, rfl, rfl, rfl, rfl⟩ := ho.shapes
 unfold effV
 simp only
 obtain ⟨w1, hw1, hx1, hy1, hb1, _⟩ := zcW w (.cells (hA h) 56) (.cells #[.int .i64 1, .int .i64 ed, .int .i64 ead, .int .i64 en, .int .i64 eo] 131)
 have BX1 : Hid (Boxes w w1 h ⟨1, ed, ead, en, eo⟩) := zhd ⟨hx1, hy1, hb1⟩
 have HO := zhd ho
 have HG := zhd hg; have HK := zhd hk; have HKP := zhd hkp; have HD := zhd hd
 clear hx1 hy1 hb1 ho hg hk hkp
 by_cases hbu : (zaJ M.mem (k : Int)).length ≠ 0
 · have HRR := zhd (hR.trans (if_pos hbu)); clear hR
   have HBU := zhd hbu; clear hbu
   go_enter Tryz.func117, Tryz.ntmps117
   go_upto_region 1 with (fail)
   rw [← hw1]; clear hw1
   go_wp2_with fail
   refine (zea _ _ _ _ _ _ _ _ _ _ _ _ _ M (HO.out.below BX1.out.bel) k (by omega) (by have := HKP.out; omega) true (by simpa using HBU.out)).mono ?_
   rintro e w2 ⟨rfl, hb2⟩
   have HB2 := zhd (zbu (BX1.out.bel.mono hB) hb2 hB)
   clear hb2
   go_wp2_with fail
   go_ret
   rw [HRR.out]; exact MPost.fail (e := 92) HB2.out (by decide)
 have HRR := zhd ((hR.trans (if_neg hbu)).trans (if_neg (by simp))); clear hR
 have HBU := zhd hbu; clear hbu
 go_enter Tryz.func117, Tryz.ntmps117
 go_upto_region 1 with (fail)
 rw [← hw1]; clear hw1
 go_wp2_with fail
 refine (zea _ _ _ _ _ _ _ _ _ _ _ _ _ M (HO.out.below BX1.out.bel) k (by omega) (by have := HKP.out; omega) false (by simpa using HBU.out)).mono ?_
 rintro e w2 ⟨rfl, hb2⟩
 have BX2 := zhd (BX1.out.up hb2)
 clear hb2 BX1
 go_upto_region 3 with (fail)
 go_cut [13] (fun s13 wx => ∃ nb, s13 = .pointer (some ⟨nb, 0, none⟩) ∧ w.heap.size + 2 ≤ nb ∧ wx.heap[nb]? = some (.cells #[.int .i64 k, .int .i64 d, .int .i64 g, .bool false, .int .i64 (wrap32 en)] 59 (0, 0)) ∧ Below w2.heap.size w2 wx)
 case first =>
  have hsz2 : w.heap.size + 2 ≤ w2.heap.size := zao BX2.out.eff
  refine zaV (fun w' => Below w2.heap.size w2 w') [true, true, true, true, true, true, true, true] (by kernel_rfl) (by kernel_rfl) (by kernel_rfl) (fun a b h hu => zae h hu) (Below.refl _ _) ?a1 ?h1 ?ht1
  case h1 =>
   intro w0 hb0
   have he := zaf hb0 BX2.out.eff
   obtain ⟨q0, q1, q2, q3, q4⟩ := zaK he
   simp only at q0 q3
   have hle := zao he
   have y0 := fun x => zal hle q0 x
   have y3 := fun x => zal hle q3 x
   clear q0 q1 q2 q3 q4 he hb0
   simp only [zbb]
   repeat (go_big_quiet_step (fail))
   refine wpQuiet_nil ?_
   rfl
  case ht1 =>
   change zbh _ _ _ _ _ 4 _ _ _
   refine zeb (i := 8) (k := 10) (by kernel_rfl) rfl rfl ?_ ?_
   · intro w3 _ hb3
     go_wp2_with fail
     refine (zaX en _).mono ?_
     rintro e w4 ⟨rfl, rfl⟩
     go_wp2_with fail
     refine ⟨hb3, ?_⟩
     refine zcV [false, false, false, false, false, false, false, false, false, true] 2 (by kernel_rfl) (by kernel_rfl) (by kernel_rfl) (fun a b h hu => zae h hu) hb3 ?ra1 ?rh1 ?rt1
     case rh1 =>
      intro w0 _
      simp only [zbb]
      repeat (go_big_quiet_step (fail))
      refine wpQuiet_nil ?_
      rfl
     case rt1 =>
      refine zaA (i := 10) (by kernel_rfl) rfl ?_
      intro w5 _ hb5
      have hle5 : w.heap.size + 2 ≤ w5.heap.size := Nat.le_trans hsz2 hb5.size
      go_wp2_with fail
      refine ⟨zae hb5 (zan w5 _), ?_⟩
      refine zaA (i := 11) (by kernel_rfl) rfl ?_
      intro w6 hu6 hb6
      have hn6 := zaf hu6 (zat w5 (.cells #[.int .i64 0, .int .i64 0, .int .i64 0, .bool false, .int .i64 0] 59))
      obtain ⟨k0, k1, k2, k3, k4⟩ := zaK hn6
      have f0 := zaa hn6 0; have f1 := zaa hn6 1; have f2 := zaa hn6 2; have f3 := zaa hn6 3; have f4 := zaa hn6 4
      have hle6 : w2.heap.size ≤ w5.heap.size := hb5.size
      have HB6 := zhd (zaj (zaj (zaj (zaj (zaj hb6 hle6 (.int .i64 k) (o := 0)) hle6 (.int .i64 d) (o := 1)) hle6 (.int .i64 g) (o := 2)) hle6 (.bool false) (o := 3)) hle6 (.int .i64 (wrap32 en)) (o := 4))
      have HN6 := zhd (zaG (zaG (zaG (zaG (zaG hn6 0 (.int .i64 k)) 1 (.int .i64 d)) 2 (.int .i64 g)) 3 (.bool false)) 4 (.int .i64 (wrap32 en)))
      clear hu6 hb6 hn6
      go_wp2_with fail
      refine ⟨HB6.out, ?_⟩
      refine zbv (by kernel_rfl) ?_
      intro w8 hu8 hb8
      have HN8 := zhd (zaf hu8 HN6.out)
      go_wp2_with fail
      go_meet
      case rel => exact ⟨_, rfl, hle5, HN8.out, hb8⟩
   · intro w5 _ hb5
     have hle5 : w.heap.size + 2 ≤ w5.heap.size := Nat.le_trans hsz2 hb5.size
     go_wp2_with fail
     refine ⟨zae hb5 (zan w5 _), ?_⟩
     refine zaA (i := 8) (by kernel_rfl) rfl ?_
     intro w3 hu3 hb3
     have HN3 := zhd (zaf hu3 (zat w5 (.cells #[.int .i64 0, .int .i64 0, .int .i64 0, .bool false, .int .i64 0] 59)))
     go_wp2_with fail
     refine (zaX en _).mono ?_
     rintro e w4 ⟨rfl, rfl⟩
     go_wp2_with fail
     refine ⟨hb3, ?_⟩
     refine zcV [false, false, false, false, false, false, false, false, false, true] 1 (by kernel_rfl) (by kernel_rfl) (by kernel_rfl) (fun a b h hu => zae h hu) hb3 ?ra2 ?rh2 ?rt2
     case rh2 =>
      intro w0 _
      simp only [zbb]
      repeat (go_big_quiet_step (fail))
      refine wpQuiet_nil ?_
      rfl
     case rt2 =>
      refine zaA (i := 11) (by kernel_rfl) rfl ?_
      intro w6 hu6 hb6
      have hn6 := zaf hu6 HN3.out
      obtain ⟨k0, k1, k2, k3, k4⟩ := zaK hn6
      have f0 := zaa hn6 0; have f1 := zaa hn6 1; have f2 := zaa hn6 2; have f3 := zaa hn6 3; have f4 := zaa hn6 4
      have hle6 : w2.heap.size ≤ w5.heap.size := hb5.size
      have HB6 := zhd (zaj (zaj (zaj (zaj (zaj hb6 hle6 (.int .i64 k) (o := 0)) hle6 (.int .i64 d) (o := 1)) hle6 (.int .i64 g) (o := 2)) hle6 (.bool false) (o := 3)) hle6 (.int .i64 (wrap32 en)) (o := 4))
      have HN6 := zhd (zaG (zaG (zaG (zaG (zaG hn6 0 (.int .i64 k)) 1 (.int .i64 d)) 2 (.int .i64 g)) 3 (.bool false)) 4 (.int .i64 (wrap32 en)))
      clear hu6 hb6 hn6
      go_wp2_with fail
      refine ⟨HB6.out, ?_⟩
      refine zbv (by kernel_rfl) ?_
      intro w8 hu8 hb8
      have HN8 := zhd (zaf hu8 HN6.out)
      go_wp2_with fail
      go_meet
      case rel => exact ⟨_, rfl, hle5, HN8.out, hb8⟩
 case rest =>
 obtain ⟨nb, rfl, hnb, hn, hbc⟩ := hcut
 obtain ⟨w3, hw3⟩ : ∃ x, x = wc := ⟨_, rfl⟩
 subst hw3
 have BX3 := zhd (BX2.out.up hbc)
 have HN3 := zhd hn
 clear hbc hn BX2
 have HO3 := zhd (HO.out.below BX3.out.bel)
 obtain ⟨gd, cd, cur, qv, e2, hgc, hgB, hrg, hth, hst, hq1⟩ := HO3.out.parts.dev HD.out
 injection e2 with e2 _ e3
 subst e2 e3
 rw [HDD.out] at hrg hst
 have HG3 := zhd hgc; have HTH := zhd hth; have HST := zhd hst; have HRG := zhd hrg
 obtain ⟨n5, hn5⟩ : ∃ n, n = M.devs.length := ⟨_, rfl⟩
 have hdn : d < n5 := by rw [hn5]; exact HD.out
 have HN5 := zhd hn5
 have hgw : gd < w.heap.size := (HO.out.parts.devs.lt gd rfl).2
 have hpw := zao HO.out.at_
 clear hn5 hgc hth hst hrg
 obtain ⟨t0, t1, t2, t3, t4⟩ := zaK HN3.out
 have hln3 := zao HN3.out
 go_upto_if 28 with (fail)
 clear t0 t1 t2 t3 t4
 go_cut [] (fun wx => ∃ q', OwnMac (wx) B p (.slice a1 M.words.length c1) (.slice a2 M.harts.length c2) (.slice a3 M.ends.length c3) (.slice b1 M.mem.words.length d1) (.slice b2 M.mem.pend.length d2) (.slice b3 M.mem.res.length d3) (.slice (some ⟨gd, 0, none⟩) M.devs.length c5) (.slice a6 M.lines.length c6) (.slice a7 M.trace.length c7) (qs.set d q') { M with devs := M.devs.set d (za7 (zbI D g)) } ∧ wx.heap[nb]? = some (.cells #[.int .i64 k, .int .i64 d, .int .i64 g, .bool false, .int .i64 (zbl D g)] 59 (0, 0)) ∧ wx.heap[w.heap.size]? = some (.cells (hA (putH h ed (zbl D g))) 56 (0, 0)) ∧ wx.heap[w.heap.size + 1]? = some (.cells #[.int .i64 1, .int .i64 ed, .int .i64 ead, .int .i64 en, .int .i64 eo] 131 (0, 0)) ∧ (∀ g, q'.ownBlock = some g → nb < g) ∧ Below B w wx)
 case first =>
  go_upto_region 6 with (fail)
  go_cut [] (fun wx => ∃ q', OwnMac (wx) B p (.slice a1 M.words.length c1) (.slice a2 M.harts.length c2) (.slice a3 M.ends.length c3) (.slice b1 M.mem.words.length d1) (.slice b2 M.mem.pend.length d2) (.slice b3 M.mem.res.length d3) (.slice (some ⟨gd, 0, none⟩) M.devs.length c5) (.slice a6 M.lines.length c6) (.slice a7 M.trace.length c7) (qs.set d q') { M with devs := M.devs.set d (za7 (zbI D g)) } ∧ wx.heap[nb]? = some (.cells #[.int .i64 k, .int .i64 d, .int .i64 g, .bool false, .int .i64 (zbl D g)] 59 (0, 0)) ∧ wx.heap[w.heap.size]? = some (.cells (hA h) 56 (0, 0)) ∧ wx.heap[w.heap.size + 1]? = some (.cells #[.int .i64 1, .int .i64 ed, .int .i64 ead, .int .i64 en, .int .i64 eo] 131 (0, 0)) ∧ (∀ g, q'.ownBlock = some g → nb < g) ∧ Below B w wx)
  case first =>
   obtain ⟨z0, z1, z2, z3, z4, z5, z6, z7, z8⟩ := zam HO3.out.at_
   rw [← HN5.out] at z6
   have hlp3 := zao HO3.out.at_; have hlg3 := zao HG3.out
   refine zaL (fun w' => (p < w'.heap.size ∧ w'.cell? ⟨p, 6, none⟩ = some (.slice (some ⟨gd, 0, none⟩) n5 c5)) ∧ gd < w'.heap.size ∧ w'.heap[gd]? = some (.cells cur 75 (0, 0))) 21 [true, true, true, true, true, true, true, true, true, true, true, true, true, true, true] (by kernel_rfl) (by kernel_rfl) (by kernel_rfl) (fun a b h hu => ⟨⟨Nat.lt_of_lt_of_le h.1.1 hu.size, by rw [hu.cell (p := ⟨p, 6, none⟩) h.1.1]; exact h.1.2⟩, Nat.lt_of_lt_of_le h.2.1 hu.size, zaq hu h.2.1 h.2.2⟩) ⟨⟨hlp3, z6⟩, hlg3, HG3.out⟩ ?a2 ?h2 ?ht2
   case h2 =>
    intro w0 ⟨⟨hlp, k6⟩, _, hg0⟩
    have x6 := fun x => zal hlp k6 x
    have R0 : Hid (∀ w' : World, (∃ x : Wd w0, w' = x.val) → (loadVar 75 ⟨gd, d * 8, none⟩).run Tryz.prog w' = .ok (.agg (stC D qv)) w') := zhd (by
     rintro w' ⟨x, rfl⟩
     exact zeP (zdp (zao hg0) (zd3 HRG.out HG3.out hg0) x))
    clear k6 hg0
    simp only [zbb]
    iterate 13 (go_big_quiet_step (fail))
    go_big_quiet_want
    refine zaM 75 _ ⟨gd, d * 8, none⟩ (.agg (stC D qv)) rfl rfl R0.out ?_
    simp only [Act.put, List.setIfInBounds_toArray, List.set_cons_succ, List.set_cons_zero]
    go_big_quiet_on
    repeat (go_big_quiet_step (fail))
    refine wpQuiet_nil ?_
    rfl
   case ht2 =>
    clear z0 z1 z2 z3 z4 z5 z7 z8
    change zbO _ _ _ _ _ _ 6 _ _ _
    refine zaz (i := 15) (by kernel_rfl) (by decide) rfl ?_
    intro w4 hb4' ⟨⟨hlp4, kp4⟩, hlg4, hg4⟩
    have hb4 : Below w3.heap.size w3 w4 := (by repeat (first | (with_reducible first | exact Below.refl _ _ | refine zaj ?_ ?_ _ | apply zag | refine zae ?_ (by assumption) | apply zak) | omega))
    have HB4 := zhd hb4
    go_wp2_with fail
    refine (read_any _ D g _ (HST.out.below hb4) hinv hgr).mono ?_
    rintro e w5 ⟨v', rfl, ⟨q', rfl, hr', hf'⟩, hb5⟩
    have ho1 : q'.oneCell' = true := by obtain ⟨qa, qc, e⟩ := hr'.shape; rw [e]; rfl
    have HF4 := zhd ((HO3.out.below hb4).fresh (q := q') (fun g hg => by
     obtain ⟨qa, qc, e⟩ := hr'.shape
     subst e
     cases qa with
     | none => simp [Value.ownBlock] at hg
     | some a => simp [Value.ownBlock] at hg; subst hg; exact hf' a _ _ rfl))
    have HQN0 : Hid (∀ g, q'.ownBlock = some g → nb < g) := zhd (fun g hg => by
     obtain ⟨qa, qc, e⟩ := hr'.shape
     subst e
     have hl := zao (zaf hb4 HN3.out)
     cases qa with
     | none => simp [Value.ownBlock] at hg
     | some a => simp [Value.ownBlock] at hg; subst hg; have := hf' a _ _ rfl; omega)
    have HB5 := zhd (zae hb4 hb5)
    have HN5' := zhd (zaf (zae hb4 hb5) HN3.out)
    have HC5 := zhd (And.intro (And.intro (Nat.lt_of_lt_of_le hlp4 hb5.size) ((hb5.cell (p := ⟨p, 6, none⟩) hlp4).trans kp4)) (And.intro (Nat.lt_of_lt_of_le hlg4 hb5.size) (zaq hb5 hlg4 hg4)))
    have HRQ := zhd hr'
    clear hf' hb5 hb4 hb4' kp4 hg4
    go_wp2_with fail
    refine ⟨HC5.out, ?_⟩
    refine zaz (i := 16) (by kernel_rfl) (by decide) rfl ?_
    intro w6 hu6 hc6
    have HB6 := zhd (zae HB5.out hu6)
    have HU6 : Hid (Up w5 w6) := zhd hu6
    clear hu6 HC5
    go_wp2_with fail
    refine ⟨hc6, ?_⟩
    have HNB_a := zhd (zaf HU6.out HN5'.out); have HOW_a := zhd (HO3.out.below HB6.out); have HGW_a := zhd (zaf HB6.out HG3.out); have HXW_a := zhd (zaf HB6.out BX3.out.hart); have HYW_a := zhd (zaf HB6.out BX3.out.eff); have HRW_a := zhd (HRQ.out.below HU6.out)
    have HBW_a := zhd ((BX3.out.bel.mono hB).trans (HB6.out.mono (by have := BX3.out.bel.size; omega)))
    have HSZ_a : Hid (w.heap.size ≤ w6.heap.size) := zhd (Nat.le_trans BX3.out.bel.size HB6.out.size)
    have HQN : Hid (∀ g, q'.ownBlock = some g → nb < g) := zhd HQN0.out
    clear HU6 HB6 HB5 HB4 HRQ hc6 HN5'
    refine zcw (i := 17) (k := 18) (by kernel_rfl) (by decide) (by decide) rfl rfl ?_ ?_
    · intro wx7 hux7 hcx7
      have HNB_x7 := zhd (zaf hux7 HNB_a.out); have HOW_x7 := zhd (HOW_a.out.below hux7); have HGW_x7 := zhd (zaf hux7 HGW_a.out); have HXW_x7 := zhd (zaf hux7 HXW_a.out); have HYW_x7 := zhd (zaf hux7 HYW_a.out); have HRW_x7 := zhd (HRW_a.out.below hux7); have HBW_x7 := zhd (HBW_a.out.trans (hux7.mono (by have := HSZ_a.out; omega))); have HSZ_x7 := zhd (Nat.le_trans HSZ_a.out hux7.size)
      clear hux7
      go_wp2_with fail
      refine ⟨hcx7, ?_⟩
      refine zcw (i := 18) (k := 19) (by kernel_rfl) (by decide) (by decide) rfl rfl ?_ ?_
      · intro wx8 hux8 hcx8
        have HNB_x8 := zhd (zaf hux8 HNB_x7.out); have HOW_x8 := zhd (HOW_x7.out.below hux8); have HGW_x8 := zhd (zaf hux8 HGW_x7.out); have HXW_x8 := zhd (zaf hux8 HXW_x7.out); have HYW_x8 := zhd (zaf hux8 HYW_x7.out); have HRW_x8 := zhd (HRW_x7.out.below hux8); have HBW_x8 := zhd (HBW_x7.out.trans (hux8.mono (by have := HSZ_x7.out; omega))); have HSZ_x8 := zhd (Nat.le_trans HSZ_x7.out hux8.size)
        clear hux8
        go_wp2_with fail
        refine ⟨hcx8, ?_⟩
        refine zaz (i := 19) (by kernel_rfl) (by decide) rfl ?_
        intro wx9 hux9 hcx9
        have HNB_x9 := zhd (zaf hux9 HNB_x8.out); have HOW_x9 := zhd (HOW_x8.out.below hux9); have HGW_x9 := zhd (zaf hux9 HGW_x8.out); have HXW_x9 := zhd (zaf hux9 HXW_x8.out); have HYW_x9 := zhd (zaf hux9 HYW_x8.out); have HRW_x9 := zhd (HRW_x8.out.below hux9); have HBW_x9 := zhd (HBW_x8.out.trans (hux9.mono (by have := HSZ_x8.out; omega))); have HSZ_x9 := zhd (Nat.le_trans HSZ_x8.out hux9.size)
        clear hux9
        go_wp2_with fail
        refine ⟨hcx9, ?_⟩
        refine zaz (i := 20) (by kernel_rfl) (by decide) rfl ?_
        intro wx10 hux10 hcx10
        have HNB_x10 := zhd (zaf hux10 HNB_x9.out); have HOW_x10 := zhd (HOW_x9.out.below hux10); have HGW_x10 := zhd (zaf hux10 HGW_x9.out); have HXW_x10 := zhd (zaf hux10 HXW_x9.out); have HYW_x10 := zhd (zaf hux10 HYW_x9.out); have HRW_x10 := zhd (HRW_x9.out.below hux10); have HBW_x10 := zhd (HBW_x9.out.trans (hux10.mono (by have := HSZ_x9.out; omega))); have HSZ_x10 := zhd (Nat.le_trans HSZ_x9.out hux10.size)
        obtain ⟨q0, q1, q2, q3, q4⟩ := zaK HNB_x10.out
        have f4 := zaa HNB_x10.out 4
        have K := zby wx10 nb 4 (.int .i64 (zbl D g))
        have hln := zao HNB_x10.out
        have HNB_x10s := zhd (zaG HNB_x10.out 4 (.int .i64 (zbl D g)))
        have HGW_x10s := zhd ((K.2 gd (by omega)).trans HGW_x10.out); have HXW_x10s := zhd ((K.2 w.heap.size (by omega)).trans HXW_x10.out); have HYW_x10s := zhd ((K.2 (w.heap.size + 1) (by omega)).trans HYW_x10.out)
        have HOW_x10s := zhd (HOW_x10.out.acc HNB_x10.out (j := 4) (u := .int .i64 (zbl D g)) (fun q hq => by obtain ⟨j, hj⟩ := List.mem_iff_getElem?.1 hq; have hjl : j < M.devs.length := by { rw [← HO.out.parts.ques.1]; exact (List.getElem?_eq_some_iff.1 hj).1 }; intro e; have := zd2 (HO.out.parts.ques.2 j q _ hj (List.getElem?_eq_getElem hjl)) e; omega) (fun e => by have := (HO.out.parts.trace.lt nb e).2; omega))
        have HRW_x10s := zhd (zcY HRW_x10.out K (fun e => by have := HQN.out nb e; omega))
        have HBW_x10s := zhd (HBW_x10.out.setCell (p := ⟨nb, 4, none⟩) (show B ≤ nb by omega) (.int .i64 (zbl D g)))
        have HSZ_x10s : Hid (w.heap.size ≤ (wx10.setCell ⟨nb, 4, none⟩ (.int .i64 (zbl D g))).heap.size) := zhd (by rw [zaH]; exact HSZ_x10.out)
        have HCC_x10s := zhd (And.intro (And.intro (Nat.lt_of_lt_of_le hcx10.1.1 K.1) ((zbU (show p ≠ nb by omega) 4 6 (.int .i64 (zbl D g))).trans hcx10.1.2)) (And.intro (Nat.lt_of_lt_of_le hcx10.2.1 K.1) ((K.2 gd (by omega)).trans hcx10.2.2)))
        clear hux10 hcx10 K HNB_x10 HGW_x10 HXW_x10 HYW_x10 HOW_x10 HRW_x10 HBW_x10 HSZ_x10
        go_wp2_with fail
        refine ⟨HCC_x10s.out, ?_⟩
        clear q0 q1 q2 q3 q4 f4
        refine zaO (by kernel_rfl) ?_
        intro w8 hu8 _
        have hn8 := zaf hu8 HNB_x10s.out
        have HO8 := zhd (HOW_x10s.out.below hu8)
        have HG8 := zhd (zaf hu8 HGW_x10s.out)
        have HX8 := zaf hu8 HXW_x10s.out; have HY8 := zaf hu8 HYW_x10s.out
        have HRR8 := HRW_x10s.out.below hu8
        have HBB8 := HBW_x10s.out.trans (hu8.mono (by have := HSZ_x10s.out; omega))
        have HT8 := zhd (zcd HTH.out HG3.out HG8.out)
        have HO9 := zhd (HO8.out.setDev rfl HD.out HRR8 HF4.out)
        have K := zb7 w8 gd (d * 8) (sC ((za7 (zbI D g)), q'))
        have HN9 := zhd ((K.2 nb (by omega)).trans hn8)
        have HX9 := zhd ((K.2 w.heap.size (by omega)).trans HX8)
        have HY9 := zhd ((K.2 (w.heap.size + 1) (by omega)).trans HY8)
        have HB9 := zhd (zaW hgB (sC ((za7 (zbI D g)), q')) (d * 8) HBB8)
        clear hu8 hn8 HX8 HY8 HRR8 HBB8 K
        try simp only [List.drop_succ_cons, List.drop_zero]
        go_wp2_with (refine wpList_store_mid rfl 75 _ _ rfl gd (d * 8) (stC (za7 (zbI D g)) q') rfl rfl HT8.out zfV (zeH _ ho1) ?_)
        go_meet
        case rel => exact ⟨q', HO9.out, HN9.out, HX9.out, HY9.out, HQN.out, HB9.out⟩
      · intro wx11 hux11 hcx11
        have HNB_x11 := zhd (zaf hux11 HNB_x7.out); have HOW_x11 := zhd (HOW_x7.out.below hux11); have HGW_x11 := zhd (zaf hux11 HGW_x7.out); have HXW_x11 := zhd (zaf hux11 HXW_x7.out); have HYW_x11 := zhd (zaf hux11 HYW_x7.out); have HRW_x11 := zhd (HRW_x7.out.below hux11); have HBW_x11 := zhd (HBW_x7.out.trans (hux11.mono (by have := HSZ_x7.out; omega))); have HSZ_x11 := zhd (Nat.le_trans HSZ_x7.out hux11.size)
        clear hux11
        go_wp2_with fail
        refine ⟨hcx11, ?_⟩
        refine zcw (i := 18) (k := 20) (by kernel_rfl) (by decide) (by decide) rfl rfl ?_ ?_
        · intro wx12 hux12 hcx12
          have HNB_x12 := zhd (zaf hux12 HNB_x11.out); have HOW_x12 := zhd (HOW_x11.out.below hux12); have HGW_x12 := zhd (zaf hux12 HGW_x11.out); have HXW_x12 := zhd (zaf hux12 HXW_x11.out); have HYW_x12 := zhd (zaf hux12 HYW_x11.out); have HRW_x12 := zhd (HRW_x11.out.below hux12); have HBW_x12 := zhd (HBW_x11.out.trans (hux12.mono (by have := HSZ_x11.out; omega))); have HSZ_x12 := zhd (Nat.le_trans HSZ_x11.out hux12.size)
          clear hux12
          go_wp2_with fail
          refine ⟨hcx12, ?_⟩
          refine zaz (i := 20) (by kernel_rfl) (by decide) rfl ?_
          intro wx13 hux13 hcx13
          have HNB_x13 := zhd (zaf hux13 HNB_x12.out); have HOW_x13 := zhd (HOW_x12.out.below hux13); have HGW_x13 := zhd (zaf hux13 HGW_x12.out); have HXW_x13 := zhd (zaf hux13 HXW_x12.out); have HYW_x13 := zhd (zaf hux13 HYW_x12.out); have HRW_x13 := zhd (HRW_x12.out.below hux13); have HBW_x13 := zhd (HBW_x12.out.trans (hux13.mono (by have := HSZ_x12.out; omega))); have HSZ_x13 := zhd (Nat.le_trans HSZ_x12.out hux13.size)
          obtain ⟨q0, q1, q2, q3, q4⟩ := zaK HNB_x13.out
          have f4 := zaa HNB_x13.out 4
          have K := zby wx13 nb 4 (.int .i64 (zbl D g))
          have hln := zao HNB_x13.out
          have HNB_x13s := zhd (zaG HNB_x13.out 4 (.int .i64 (zbl D g)))
          have HGW_x13s := zhd ((K.2 gd (by omega)).trans HGW_x13.out); have HXW_x13s := zhd ((K.2 w.heap.size (by omega)).trans HXW_x13.out); have HYW_x13s := zhd ((K.2 (w.heap.size + 1) (by omega)).trans HYW_x13.out)
          have HOW_x13s := zhd (HOW_x13.out.acc HNB_x13.out (j := 4) (u := .int .i64 (zbl D g)) (fun q hq => by obtain ⟨j, hj⟩ := List.mem_iff_getElem?.1 hq; have hjl : j < M.devs.length := by { rw [← HO.out.parts.ques.1]; exact (List.getElem?_eq_some_iff.1 hj).1 }; intro e; have := zd2 (HO.out.parts.ques.2 j q _ hj (List.getElem?_eq_getElem hjl)) e; omega) (fun e => by have := (HO.out.parts.trace.lt nb e).2; omega))
          have HRW_x13s := zhd (zcY HRW_x13.out K (fun e => by have := HQN.out nb e; omega))
          have HBW_x13s := zhd (HBW_x13.out.setCell (p := ⟨nb, 4, none⟩) (show B ≤ nb by omega) (.int .i64 (zbl D g)))
          have HSZ_x13s : Hid (w.heap.size ≤ (wx13.setCell ⟨nb, 4, none⟩ (.int .i64 (zbl D g))).heap.size) := zhd (by rw [zaH]; exact HSZ_x13.out)
          have HCC_x13s := zhd (And.intro (And.intro (Nat.lt_of_lt_of_le hcx13.1.1 K.1) ((zbU (show p ≠ nb by omega) 4 6 (.int .i64 (zbl D g))).trans hcx13.1.2)) (And.intro (Nat.lt_of_lt_of_le hcx13.2.1 K.1) ((K.2 gd (by omega)).trans hcx13.2.2)))
          clear hux13 hcx13 K HNB_x13 HGW_x13 HXW_x13 HYW_x13 HOW_x13 HRW_x13 HBW_x13 HSZ_x13
          go_wp2_with fail
          refine ⟨HCC_x13s.out, ?_⟩
          clear q0 q1 q2 q3 q4 f4
          refine zaO (by kernel_rfl) ?_
          intro w8 hu8 _
          have hn8 := zaf hu8 HNB_x13s.out
          have HO8 := zhd (HOW_x13s.out.below hu8)
          have HG8 := zhd (zaf hu8 HGW_x13s.out)
          have HX8 := zaf hu8 HXW_x13s.out; have HY8 := zaf hu8 HYW_x13s.out
          have HRR8 := HRW_x13s.out.below hu8
          have HBB8 := HBW_x13s.out.trans (hu8.mono (by have := HSZ_x13s.out; omega))
          have HT8 := zhd (zcd HTH.out HG3.out HG8.out)
          have HO9 := zhd (HO8.out.setDev rfl HD.out HRR8 HF4.out)
          have K := zb7 w8 gd (d * 8) (sC ((za7 (zbI D g)), q'))
          have HN9 := zhd ((K.2 nb (by omega)).trans hn8)
          have HX9 := zhd ((K.2 w.heap.size (by omega)).trans HX8)
          have HY9 := zhd ((K.2 (w.heap.size + 1) (by omega)).trans HY8)
          have HB9 := zhd (zaW hgB (sC ((za7 (zbI D g)), q')) (d * 8) HBB8)
          clear hu8 hn8 HX8 HY8 HRR8 HBB8 K
          try simp only [List.drop_succ_cons, List.drop_zero]
          go_wp2_with (refine wpList_store_mid rfl 75 _ _ rfl gd (d * 8) (stC (za7 (zbI D g)) q') rfl rfl HT8.out zfV (zeH _ ho1) ?_)
          go_meet
          case rel => exact ⟨q', HO9.out, HN9.out, HX9.out, HY9.out, HQN.out, HB9.out⟩
        · intro wx14 hux14 hcx14
          have HNB_x14 := zhd (zaf hux14 HNB_x11.out); have HOW_x14 := zhd (HOW_x11.out.below hux14); have HGW_x14 := zhd (zaf hux14 HGW_x11.out); have HXW_x14 := zhd (zaf hux14 HXW_x11.out); have HYW_x14 := zhd (zaf hux14 HYW_x11.out); have HRW_x14 := zhd (HRW_x11.out.below hux14); have HBW_x14 := zhd (HBW_x11.out.trans (hux14.mono (by have := HSZ_x11.out; omega))); have HSZ_x14 := zhd (Nat.le_trans HSZ_x11.out hux14.size)
          obtain ⟨q0, q1, q2, q3, q4⟩ := zaK HNB_x14.out
          have f4 := zaa HNB_x14.out 4
          have K := zby wx14 nb 4 (.int .i64 (zbl D g))
          have hln := zao HNB_x14.out
          have HNB_x14s := zhd (zaG HNB_x14.out 4 (.int .i64 (zbl D g)))
          have HGW_x14s := zhd ((K.2 gd (by omega)).trans HGW_x14.out); have HXW_x14s := zhd ((K.2 w.heap.size (by omega)).trans HXW_x14.out); have HYW_x14s := zhd ((K.2 (w.heap.size + 1) (by omega)).trans HYW_x14.out)
          have HOW_x14s := zhd (HOW_x14.out.acc HNB_x14.out (j := 4) (u := .int .i64 (zbl D g)) (fun q hq => by obtain ⟨j, hj⟩ := List.mem_iff_getElem?.1 hq; have hjl : j < M.devs.length := by { rw [← HO.out.parts.ques.1]; exact (List.getElem?_eq_some_iff.1 hj).1 }; intro e; have := zd2 (HO.out.parts.ques.2 j q _ hj (List.getElem?_eq_getElem hjl)) e; omega) (fun e => by have := (HO.out.parts.trace.lt nb e).2; omega))
          have HRW_x14s := zhd (zcY HRW_x14.out K (fun e => by have := HQN.out nb e; omega))
          have HBW_x14s := zhd (HBW_x14.out.setCell (p := ⟨nb, 4, none⟩) (show B ≤ nb by omega) (.int .i64 (zbl D g)))
          have HSZ_x14s : Hid (w.heap.size ≤ (wx14.setCell ⟨nb, 4, none⟩ (.int .i64 (zbl D g))).heap.size) := zhd (by rw [zaH]; exact HSZ_x14.out)
          have HCC_x14s := zhd (And.intro (And.intro (Nat.lt_of_lt_of_le hcx14.1.1 K.1) ((zbU (show p ≠ nb by omega) 4 6 (.int .i64 (zbl D g))).trans hcx14.1.2)) (And.intro (Nat.lt_of_lt_of_le hcx14.2.1 K.1) ((K.2 gd (by omega)).trans hcx14.2.2)))
          clear hux14 hcx14 K HNB_x14 HGW_x14 HXW_x14 HYW_x14 HOW_x14 HRW_x14 HBW_x14 HSZ_x14
          go_wp2_with fail
          refine ⟨HCC_x14s.out, ?_⟩
          clear q0 q1 q2 q3 q4 f4
          refine zaz (i := 18) (by kernel_rfl) (by decide) rfl ?_
          intro wx15 hux15 hcx15
          have HNB_x15 := zhd (zaf hux15 HNB_x14s.out); have HOW_x15 := zhd (HOW_x14s.out.below hux15); have HGW_x15 := zhd (zaf hux15 HGW_x14s.out); have HXW_x15 := zhd (zaf hux15 HXW_x14s.out); have HYW_x15 := zhd (zaf hux15 HYW_x14s.out); have HRW_x15 := zhd (HRW_x14s.out.below hux15); have HBW_x15 := zhd (HBW_x14s.out.trans (hux15.mono (by have := HSZ_x14s.out; omega))); have HSZ_x15 := zhd (Nat.le_trans HSZ_x14s.out hux15.size)
          clear hux15
          go_wp2_with fail
          refine ⟨hcx15, ?_⟩
          refine zaO (by kernel_rfl) ?_
          intro w8 hu8 _
          have hn8 := zaf hu8 HNB_x15.out
          have HO8 := zhd (HOW_x15.out.below hu8)
          have HG8 := zhd (zaf hu8 HGW_x15.out)
          have HX8 := zaf hu8 HXW_x15.out; have HY8 := zaf hu8 HYW_x15.out
          have HRR8 := HRW_x15.out.below hu8
          have HBB8 := HBW_x15.out.trans (hu8.mono (by have := HSZ_x15.out; omega))
          have HT8 := zhd (zcd HTH.out HG3.out HG8.out)
          have HO9 := zhd (HO8.out.setDev rfl HD.out HRR8 HF4.out)
          have K := zb7 w8 gd (d * 8) (sC ((za7 (zbI D g)), q'))
          have HN9 := zhd ((K.2 nb (by omega)).trans hn8)
          have HX9 := zhd ((K.2 w.heap.size (by omega)).trans HX8)
          have HY9 := zhd ((K.2 (w.heap.size + 1) (by omega)).trans HY8)
          have HB9 := zhd (zaW hgB (sC ((za7 (zbI D g)), q')) (d * 8) HBB8)
          clear hu8 hn8 HX8 HY8 HRR8 HBB8 K
          try simp only [List.drop_succ_cons, List.drop_zero]
          go_wp2_with (refine wpList_store_mid rfl 75 _ _ rfl gd (d * 8) (stC (za7 (zbI D g)) q') rfl rfl HT8.out zfV (zeH _ ho1) ?_)
          go_meet
          case rel => exact ⟨q', HO9.out, HN9.out, HX9.out, HY9.out, HQN.out, HB9.out⟩
    · intro wx16 hux16 hcx16
      have HNB_x16 := zhd (zaf hux16 HNB_a.out); have HOW_x16 := zhd (HOW_a.out.below hux16); have HGW_x16 := zhd (zaf hux16 HGW_a.out); have HXW_x16 := zhd (zaf hux16 HXW_a.out); have HYW_x16 := zhd (zaf hux16 HYW_a.out); have HRW_x16 := zhd (HRW_a.out.below hux16); have HBW_x16 := zhd (HBW_a.out.trans (hux16.mono (by have := HSZ_a.out; omega))); have HSZ_x16 := zhd (Nat.le_trans HSZ_a.out hux16.size)
      clear hux16
      go_wp2_with fail
      refine ⟨hcx16, ?_⟩
      refine zaz (i := 17) (by kernel_rfl) (by decide) rfl ?_
      intro wx17 hux17 hcx17
      have HNB_x17 := zhd (zaf hux17 HNB_x16.out); have HOW_x17 := zhd (HOW_x16.out.below hux17); have HGW_x17 := zhd (zaf hux17 HGW_x16.out); have HXW_x17 := zhd (zaf hux17 HXW_x16.out); have HYW_x17 := zhd (zaf hux17 HYW_x16.out); have HRW_x17 := zhd (HRW_x16.out.below hux17); have HBW_x17 := zhd (HBW_x16.out.trans (hux17.mono (by have := HSZ_x16.out; omega))); have HSZ_x17 := zhd (Nat.le_trans HSZ_x16.out hux17.size)
      clear hux17
      go_wp2_with fail
      refine ⟨hcx17, ?_⟩
      refine zaz (i := 19) (by kernel_rfl) (by decide) rfl ?_
      intro wx18 hux18 hcx18
      have HNB_x18 := zhd (zaf hux18 HNB_x17.out); have HOW_x18 := zhd (HOW_x17.out.below hux18); have HGW_x18 := zhd (zaf hux18 HGW_x17.out); have HXW_x18 := zhd (zaf hux18 HXW_x17.out); have HYW_x18 := zhd (zaf hux18 HYW_x17.out); have HRW_x18 := zhd (HRW_x17.out.below hux18); have HBW_x18 := zhd (HBW_x17.out.trans (hux18.mono (by have := HSZ_x17.out; omega))); have HSZ_x18 := zhd (Nat.le_trans HSZ_x17.out hux18.size)
      clear hux18
      go_wp2_with fail
      refine ⟨hcx18, ?_⟩
      refine zaz (i := 20) (by kernel_rfl) (by decide) rfl ?_
      intro wx19 hux19 hcx19
      have HNB_x19 := zhd (zaf hux19 HNB_x18.out); have HOW_x19 := zhd (HOW_x18.out.below hux19); have HGW_x19 := zhd (zaf hux19 HGW_x18.out); have HXW_x19 := zhd (zaf hux19 HXW_x18.out); have HYW_x19 := zhd (zaf hux19 HYW_x18.out); have HRW_x19 := zhd (HRW_x18.out.below hux19); have HBW_x19 := zhd (HBW_x18.out.trans (hux19.mono (by have := HSZ_x18.out; omega))); have HSZ_x19 := zhd (Nat.le_trans HSZ_x18.out hux19.size)
      obtain ⟨q0, q1, q2, q3, q4⟩ := zaK HNB_x19.out
      have f4 := zaa HNB_x19.out 4
      have K := zby wx19 nb 4 (.int .i64 (zbl D g))
      have hln := zao HNB_x19.out
      have HNB_x19s := zhd (zaG HNB_x19.out 4 (.int .i64 (zbl D g)))
      have HGW_x19s := zhd ((K.2 gd (by omega)).trans HGW_x19.out); have HXW_x19s := zhd ((K.2 w.heap.size (by omega)).trans HXW_x19.out); have HYW_x19s := zhd ((K.2 (w.heap.size + 1) (by omega)).trans HYW_x19.out)
      have HOW_x19s := zhd (HOW_x19.out.acc HNB_x19.out (j := 4) (u := .int .i64 (zbl D g)) (fun q hq => by obtain ⟨j, hj⟩ := List.mem_iff_getElem?.1 hq; have hjl : j < M.devs.length := by { rw [← HO.out.parts.ques.1]; exact (List.getElem?_eq_some_iff.1 hj).1 }; intro e; have := zd2 (HO.out.parts.ques.2 j q _ hj (List.getElem?_eq_getElem hjl)) e; omega) (fun e => by have := (HO.out.parts.trace.lt nb e).2; omega))
      have HRW_x19s := zhd (zcY HRW_x19.out K (fun e => by have := HQN.out nb e; omega))
      have HBW_x19s := zhd (HBW_x19.out.setCell (p := ⟨nb, 4, none⟩) (show B ≤ nb by omega) (.int .i64 (zbl D g)))
      have HSZ_x19s : Hid (w.heap.size ≤ (wx19.setCell ⟨nb, 4, none⟩ (.int .i64 (zbl D g))).heap.size) := zhd (by rw [zaH]; exact HSZ_x19.out)
      have HCC_x19s := zhd (And.intro (And.intro (Nat.lt_of_lt_of_le hcx19.1.1 K.1) ((zbU (show p ≠ nb by omega) 4 6 (.int .i64 (zbl D g))).trans hcx19.1.2)) (And.intro (Nat.lt_of_lt_of_le hcx19.2.1 K.1) ((K.2 gd (by omega)).trans hcx19.2.2)))
      clear hux19 hcx19 K HNB_x19 HGW_x19 HXW_x19 HYW_x19 HOW_x19 HRW_x19 HBW_x19 HSZ_x19
      go_wp2_with fail
      refine ⟨HCC_x19s.out, ?_⟩
      clear q0 q1 q2 q3 q4 f4
      refine zaO (by kernel_rfl) ?_
      intro w8 hu8 _
      have hn8 := zaf hu8 HNB_x19s.out
      have HO8 := zhd (HOW_x19s.out.below hu8)
      have HG8 := zhd (zaf hu8 HGW_x19s.out)
      have HX8 := zaf hu8 HXW_x19s.out; have HY8 := zaf hu8 HYW_x19s.out
      have HRR8 := HRW_x19s.out.below hu8
      have HBB8 := HBW_x19s.out.trans (hu8.mono (by have := HSZ_x19s.out; omega))
      have HT8 := zhd (zcd HTH.out HG3.out HG8.out)
      have HO9 := zhd (HO8.out.setDev rfl HD.out HRR8 HF4.out)
      have K := zb7 w8 gd (d * 8) (sC ((za7 (zbI D g)), q'))
      have HN9 := zhd ((K.2 nb (by omega)).trans hn8)
      have HX9 := zhd ((K.2 w.heap.size (by omega)).trans HX8)
      have HY9 := zhd ((K.2 (w.heap.size + 1) (by omega)).trans HY8)
      have HB9 := zhd (zaW hgB (sC ((za7 (zbI D g)), q')) (d * 8) HBB8)
      clear hu8 hn8 HX8 HY8 HRR8 HBB8 K
      try simp only [List.drop_succ_cons, List.drop_zero]
      go_wp2_with (refine wpList_store_mid rfl 75 _ _ rfl gd (d * 8) (stC (za7 (zbI D g)) q') rfl rfl HT8.out zfV (zeH _ ho1) ?_)
      go_meet
      case rel => exact ⟨q', HO9.out, HN9.out, HX9.out, HY9.out, HQN.out, HB9.out⟩
  case rest =>
   obtain ⟨q', hor, hnr, hxr, hyr, hqn, hbr⟩ := hcut
   have HQN1 := zhd hqn; clear hqn
   have HOR := zhd hor; have HNR := zhd hnr; have HXR := zhd hxr; have HYR := zhd hyr; have HBR := zhd hbr
   obtain ⟨t0, t1, t2, t3, t4⟩ := zaK hnr
   obtain ⟨e0, e1, e2, e3, e4⟩ := zaK hyr
   have hlnr := zao hnr; have hlyr := zao hyr; have hlxr := zao hxr
   clear hor hnr hxr hyr hbr
   go_wp2_with (refine wpList_load_row rfl 56 _ rfl w.heap.size rfl 56 (hA h) (0, 0) _ HXR.out Tryz.underlying56 rfl (zaU hsh) ?_)
   refine (zcZ h ed (zbl D g) _ h32).mono ?_
   rintro e w5 ⟨rfl, hb5⟩
   have hl' := zcq h32 ed (zbl D g)
   have hsh' := zaw (putH h ed (zbl D g)) hl'
   have HX5 := zhd (zaf hb5 HXR.out)
   have HO5 := zhd (HOR.out.below hb5); have HN5 := zhd (zaf hb5 HNR.out); have HY5 := zhd (zaf hb5 HYR.out)
   have HB5 := zhd (zbu HBR.out hb5 hB)
   have HO6 := zhd (HO5.out.box (cs := hA (putH h ed (zbl D g))) HX5.out (fun e => by have := (HO.out.parts.harts.lt w.heap.size e).2; omega) (fun q hq => by
    intro e
    obtain ⟨j, hj⟩ := List.mem_iff_getElem?.1 hq
    by_cases hjd : j = d
    · subst hjd
      rw [List.getElem?_set_self (by rw [HO.out.parts.ques.1]; exact hd)] at hj
      cases hj
      have := HQN1.out _ e
      omega
    · rw [List.getElem?_set_ne (by omega)] at hj
      have hjl : j < M.devs.length := by rw [← HO.out.parts.ques.1]; exact (List.getElem?_eq_some_iff.1 hj).1
      have := zd2 (HO.out.parts.ques.2 j q _ hj (List.getElem?_eq_getElem hjl)) e
      omega))
   clear t0 t1 t2 t3 t4 e0 e1 e2 e3 e4 hlnr hlyr hlxr hb5
   go_wp2_with (refine wpList_store_row rfl 56 _ _ rfl w.heap.size (hA (putH h ed (zbl D g))) rfl rfl 56 (hA h) HX5.out (zaU hsh') (by rw [hsh, hsh']) (zbj _) ?_)
   go_meet
   case rel => exact ⟨q', HO6.out, (zbf (by omega) HN5.out), setRow_heap _ _ _ _ _ _ HX5.out, zbf (by omega) HY5.out, HQN1.out, HB5.out.trans ((below_setRow (Below.refl B _) hB _))⟩
 case rest =>
 obtain ⟨q', hor, hnr, hxr, hyr, hqn, hbr⟩ := hcut
 obtain ⟨w9, hw9⟩ : ∃ x, x = wc := ⟨_, rfl⟩
 subst hw9
 have HO9 := zhd hor; have HN9 := zhd hnr; have HX9 := zhd hxr; have HB9 := zhd hbr
 have HL : Hid (M.trace.length ≤ N) := zhd HG.out.trace
 obtain ⟨z0, z1, z2, z3, z4, z5, z6, z7, z8⟩ := zam hor.at_
 have hlp9 := zao hor.at_; have hln9 := zao hnr
 obtain ⟨hf, hhf⟩ : ∃ x, x = (putH h ed (zbl D g)) := ⟨_, rfl⟩
 have hlf : hf.r.length = 32 := by rw [hhf]; exact zcq h32 ed (zbl D g)
 rw [← hhf] at HX9
 have HHF := zhd hhf
 clear hor hnr hxr hyr hqn hbr hhf z0 z1 z2 z3 z4 z5 z6 z7
 obtain ⟨n7, hn7⟩ : ∃ n, n = M.trace.length := ⟨_, rfl⟩
 have HN7 := zhd hn7
 have hn7N : n7 ≤ 1000000 := by rw [hn7]; exact Nat.le_trans HL.out hN
 rw [← hn7] at z8
 clear hn7
 obtain ⟨i0, hi, hzz0, hzz1, hzz2⟩ := info_parts zfX
 go_upto_region 8 with (fail)
 refine zaL (fun w' => (p < w'.heap.size ∧ w'.cell? ⟨p, 8, none⟩ = some (.slice a7 n7 c7)) ∧ nb < w'.heap.size ∧ w'.heap[nb]? = some (.cells #[.int .i64 k, .int .i64 d, .int .i64 g, .bool false, .int .i64 (zbl D g)] 59 (0, 0))) 9 [true, true, true, true, true, true, true] (by kernel_rfl) (by kernel_rfl) (by kernel_rfl) (fun a b h hu => ⟨⟨Nat.lt_of_lt_of_le h.1.1 hu.size, by rw [hu.cell (p := ⟨p, 8, none⟩) h.1.1]; exact h.1.2⟩, Nat.lt_of_lt_of_le h.2.1 hu.size, zaq hu h.2.1 h.2.2⟩) ⟨⟨hlp9, z8⟩, hln9, HN9.out⟩ ?a3 ?h3 ?ht3
 case h3 =>
  intro w0 ⟨⟨hlp, k8⟩, hln, hn0⟩
  obtain ⟨t0, t1, t2, t3, t4⟩ := zaK hn0
  have x8 := fun x => zal hlp k8 x
  have y0 := fun x => zal hln t0 x
  have y1 := fun x => zal hln t1 x
  have y2 := fun x => zal hln t2 x
  have y3 := fun x => zal hln t3 x
  have y4 := fun x => zal hln t4 x
  clear k8 t0 t1 t2 t3 t4 hn0
  simp only [zbb]
  repeat (go_big_quiet_step (fail))
  refine wpQuiet_nil ?_
  rfl
 case ht3 =>
  clear z8
  change zbO _ _ _ _ _ _ 2 _ _ _
  refine zaz (i := 7) (by kernel_rfl) (by decide) rfl ?_
  intro wa hua' ⟨⟨hlpa, kpa⟩, hlna, hna⟩
  have hua : Below w9.heap.size w9 wa := (by repeat (first | (with_reducible first | exact Below.refl _ _ | refine zaj ?_ ?_ _ | apply zag | refine zae ?_ (by assumption) | apply zak) | omega))
  have HOa := zhd (HO9.out.below hua); have HXa := zhd (zaf hua HX9.out)
  have HBa := zhd (zbu HB9.out hua hB)
  clear hua hua'
  go_wp2_with fail
  refine ⟨⟨⟨Nat.lt_of_lt_of_le hlpa (zan wa _).size, ((zan wa _).cell (p := ⟨p, 8, none⟩) hlpa).trans kpa⟩, Nat.lt_of_lt_of_le hlna (zan wa _).size, zaf (zan wa _) hna⟩, ?_⟩
  refine zaz (i := 8) (by kernel_rfl) (by decide) rfl ?_
  intro wb hub ⟨⟨hlpb, kpb⟩, hlnb, hnb'⟩
  have hub' : Below wa.heap.size wa wb := zae (zan wa _) hub
  have HOb := zhd (HOa.out.below hub'); have HXb := zhd (zaf hub' HXa.out)
  have HBb := zhd (zbu HBa.out hub' hB)
  have hnew : wb.heap[wa.heap.size]? = some (.cells #[.int .i64 k, .int .i64 d, .int .i64 g, .bool false, .int .i64 (zbl D g)] 59 (0, 0)) := zaf hub (zat wa _)
  have HC : Hid (∀ j u, (acC ⟨k, d, g, false, (zbl D g)⟩)[j]? = some u → wb.cell? ((⟨wa.heap.size, 0, none⟩ : Addr).add j) = some u) := zhd (fun j u hj => by
   rw [zaQ, Nat.zero_add]
   exact zad hnew (by simpa [acC] using hj))
  have HT := zhd HOb.out.parts.trace
  have hp4 : Hid (wb.ownsRow B 59 5 (.slice a7 n7 c7) n7 (zaT acC M.trace)) := zhd (by have := HT.out; rw [HN7.out]; exact this)
  have hby : (n7 + 1) * 40 ≤ 140737488355328 := by omega
  have hmx : n7 + 1 ≤ maxLen := by unfold maxLen; omega
  have hsz : B ≤ wb.heap.size := Nat.le_trans hB HBb.out.size
  have hpb := HOb.out.base
  have hob := zar HT.out HOb.out.at_ (by decide)
  have hobn := zar HT.out HXb.out (by decide)
  have hoba : ∀ (g' : Nat), (Value.slice a7 M.trace.length c7).ownBlock = some g' → g' < w.heap.size := fun g' e => (HO.out.parts.trace.lt g' e).2
  clear hub hub' hnew HOa HXa HBa kpa hna
  refine wpList_append_own_at _ rfl _ _ 35 rfl B 59 i0 (.agg #[.int .i64 0, .int .i64 0, .int .i64 0, .bool false, .int .i64 0]) 5 40 Tryz.underlying35 hi hzz0 hzz1 hzz2 rfl (by decide) _ _ _ rfl hp4.out ⟨wa.heap.size, 0, none⟩ 1 1 (acC ⟨k, d, g, false, (zbl D g)⟩) rfl rfl HC.out (zhh _) hmx hby hsz ?_
  intro tv' wd hown hgrow _ hat
  obtain ⟨xt, yt, rfl⟩ := zai hown
  have HOWN := zhd hown; have HGR := zhd hgrow; have HAT := zhd hat
  have hp5 : wd.cell? ⟨p, 8, none⟩ = some (.slice a7 n7 c7) := by
   simp only [World.cell?] at kpb ⊢
   rw [hgrow.block p hlpb (fun e => hob (by rw [← HN7.out]; exact e.symm))]; exact kpb
  have hn5 : wd.heap[nb]? = some (.cells #[.int .i64 k, .int .i64 d, .int .i64 g, .bool false, .int .i64 (zbl D g)] 59 (0, 0)) := by
   rw [hgrow.block nb hlnb (fun e => by have := hoba nb (by rw [← HN7.out]; exact e.symm); omega)]; exact hnb'
  have HXd : Hid (wd.heap[w.heap.size]? = some (.cells (hA hf) 56 (0, 0))) := zhd (by
   rw [hgrow.block w.heap.size (zao HXb.out) (fun e => by have := hoba w.heap.size (by rw [← HN7.out]; exact e.symm); omega)]; exact HXb.out)
  have HBd : Hid (Below B w wd) := zhd (HBb.out.grown hgrow hsz (fun g' e => (HT.out.lt g' (by rw [← HN7.out]; exact e)).1))
  have HCd := zhd (And.intro (And.intro (Nat.lt_of_lt_of_le hlpb hgrow.size) hp5) (And.intro (zao hn5) hn5))
  have HPd := zhd ((hgrow.block p hlpb (fun e => hob (by rw [← HN7.out]; exact e.symm))).trans HOb.out.at_)
  clear hown hgrow hat hp5 hn5 kpb hnb'
  go_wp2_with fail
  refine ⟨HCd.out, ?_⟩
  refine zaO (by kernel_rfl) ?_
  intro we hue _
  have HOe := zhd (HOb.out.appendTrace (w' := we) (tv' := .slice xt (n7 + 1) yt) (l := M.trace ++ [⟨k, d, g, false, (zbl D g)⟩]) (by rw [← HN7.out]; exact zdv HGR.out HGR.out.size hue) (by
   have e : (M.trace ++ [(⟨k, d, g, false, (zbl D g)⟩ : Ac)]).length = n7 + 1 := by simp [HN7.out]
   rw [e, zbW]
   simpa [zaT] using zab HOWN.out hue) (by rw [← HN7.out]; exact HAT.out))
  have HXe := zhd (zaf hue HXd.out)
  have hpe := zaf hue HPd.out
  have k8e := zad hpe (j := 8) rfl
  have f8e := zaa hpe 8
  have HBe : Hid (Below B w we) := zhd (zbu HBd.out hue hB)
  clear hue hpe
  try simp only [List.drop_succ_cons, List.drop_zero]
  go_upto_region 9 with (fail)
  obtain ⟨wf, hwf⟩ : ∃ x, x = we.setCell ⟨p, 8, none⟩ (.slice xt (n7 + 1) yt) := ⟨_, rfl⟩
  have HXf : Hid (wf.heap[w.heap.size]? = some (.cells (hA hf) 56 (0, 0))) := zhd (by rw [hwf]; exact (zaD (by omega)).trans HXe.out)
  have HBf : Hid (Below B w wf) := zhd (by rw [hwf]; exact HBe.out.setCell hpb _)
  have HOf := HOe
  rw [← hwf] at HOf ⊢
  clear hwf HOe HXe HBe k8e f8e HCd HGR HAT HOWN HXd HBd HT hp4 HC hob hobn hoba
  obtain ⟨gh, ch, curh, eh, hgh, hgBh, _, hth⟩ := HOf.out.parts.hart HG.out.regs HK.out
  injection eh with eh _ eh2
  subst eh eh2
  have HTHf := zhd hth; have HGHf := zhd hgh
  obtain ⟨j0, j1, j2, j3, j4, j5, j6, j7, j8⟩ := zam HOf.out.at_
  have hlpf := zao HOf.out.at_; have hlbf := zao HXf.out
  obtain ⟨nh, hnh⟩ : ∃ n, n = M.harts.length := ⟨_, rfl⟩
  have hknh : k < nh := by rw [hnh]; exact HK.out
  rw [← hnh] at j1
  have x1 := fun x => zal hlpf j1 x
  have hshf := zaw hf hlf
  have R0 : Hid (∀ w' : World, (∃ x : Wd wf, w' = x.val) → (loadVar 56 ⟨w.heap.size, 0, none⟩).run Tryz.prog w' = .ok (.agg (hA hf)) w') := zhd (by
   rintro w' ⟨x, rfl⟩
   exact run_loadVar_row _ _ 56 56 (hA hf) (0, 0) _ (zaq x.bel hlbf HXf.out) Tryz.underlying56 rfl (zaU hshf))
  clear j0 j1 j2 j3 j4 j5 j6 j7 j8 hnh hgh hth
  refine zau 8 (by kernel_rfl) (by kernel_rfl) ?_
  simp only [List.take_succ_cons, List.take_zero, List.drop_succ_cons, List.drop_zero]
  iterate 6 (go_big_quiet_step (fail))
  go_big_quiet_want
  refine zaM 56 _ ⟨w.heap.size, 0, none⟩ (.agg (hA hf)) rfl rfl R0.out ?_
  simp only [Act.put, List.setIfInBounds_toArray, List.set_cons_succ, List.set_cons_zero]
  go_big_quiet_on
  repeat (go_big_quiet_step (fail))
  refine wpQuiet_nil ?_
  rintro wg ⟨⟨wgx, hbg⟩, rfl⟩
  have HOg := zhd (HOf.out.below hbg)
  have HTg := zhd (zcd HTHf.out HGHf.out (zaf hbg HGHf.out))
  have HBg := zhd (zbu HBf.out hbg hB)
  clear hbg x1 R0 hlpf hlbf
  go_wp2_with (refine wpList_store_mid rfl 56 _ _ rfl gh (k * 39) (hA hf) rfl rfl (by rw [hshf]; exact HTg.out) (by rw [hshf]; exact zdm) (zbj hf) ?_)
  go_ret
  rw [HRR.out]
  have T := HOg.out.setHart HG.out.regs rfl HK.out hlf
  have e := HHF.out
  subst e
  exact ⟨rfl, zaW hgBh _ _ HBg.out, fun _ => ⟨_, _, _, _, _, _, _, _, _, _, T⟩⟩
end
end Go.Proofs.YtdobddiibgfeaaaGreat
