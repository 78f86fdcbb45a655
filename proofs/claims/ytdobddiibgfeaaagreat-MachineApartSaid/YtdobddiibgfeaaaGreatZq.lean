/-
  What the walks of this statement lean on (MacOf, MacMeth): shown.
-/
import Derived.Test.YtdobddiibgfeaaaGreatZp
import Derived.Test.YtdobddiibgfeaaaGreatZk
import Derived.Test.YtdobddiibgfeaaaGreatZa
import Derived.RegionTactic
import Derived.ChangeAlike
import Derived.Deep.DeepCutAuto
set_option linter.unusedVariables false
set_option linter.unusedSimpArgs false
namespace Go.Proofs.YtdobddiibgfeaaaGreat
section
open Go.RowKit
set_option maxRecDepth 100000
theorem zam {w : World} {b : Nat} {c0 c1 c2 c3 c4 c5 c6 c7 c8 : Value} {t : TypeId} (h : w.heap[b]? = some (.cells #[c0, c1, c2, c3, c4, c5, c6, c7, c8] t (0, 0))) :
 w.cell? ⟨b, 0, none⟩ = some c0 ∧ w.cell? ⟨b, 1, none⟩ = some c1 ∧ w.cell? ⟨b, 2, none⟩ = some c2 ∧ w.cell? ⟨b, 3, none⟩ = some c3 ∧ w.cell? ⟨b, 4, none⟩ = some c4 ∧ w.cell? ⟨b, 5, none⟩ = some c5 ∧ w.cell? ⟨b, 6, none⟩ = some c6 ∧ w.cell? ⟨b, 7, none⟩ = some c7 ∧ w.cell? ⟨b, 8, none⟩ = some c8 :=
 ⟨zad h rfl, zad h rfl, zad h rfl, zad h rfl, zad h rfl, zad h rfl, zad h rfl, zad h rfl, zad h rfl⟩
structure MidA (w : World) (B N b : Nat) (wv hv ev m1 m2 m3 dv lv tv : Value) (M : Mac) : Prop where
 at_ : w.heap[b]? = some (.cells #[wv, hv, ev, m1, m2, m3, dv, lv, tv] 37 (0, 0))
 words : w.ownsRow B 3 1 wv M.words.length (intC M.words)
 harts : w.ownsRow B 56 39 hv M.harts.length (zaT hC M.harts)
 ends : w.ownsRow B 3 1 ev M.ends.length (intC M.ends)
 endN : ∀ g, ev.ownBlock = some g → g < N
 offW : ∀ g, ev.ownBlock = some g → wv.ownBlock ≠ some g
 le : N ≤ w.heap.size
section
variable {w w' : World} {B N b : Nat} {wv hv ev m1 m2 m3 dv lv tv : Value} {qs : List Value} {M : Mac}
theorem MidA.below (h : MidA w B N b wv hv ev m1 m2 m3 dv lv tv M) (hb : Below w.heap.size w w') : MidA w' B N b wv hv ev m1 m2 m3 dv lv tv M :=
 ⟨zaq hb (zao h.at_) h.at_, zab h.words hb, zab h.harts hb, zab h.ends hb, h.endN, h.offW, Nat.le_trans h.le hb.size⟩
theorem but3 (w : World) (b i j k : Nat) (x y z : Value) : But b w (((w.setCell ⟨b, i, none⟩ x).setCell ⟨b, j, none⟩ y).setCell ⟨b, k, none⟩ z) := ((zby w b i x).trans (zby _ b j y)).trans (zby _ b k z)
theorem but2 (w : World) (b i j : Nat) (x y : Value) : But b w ((w.setCell ⟨b, i, none⟩ x).setCell ⟨b, j, none⟩ y) := (zby w b i x).trans (zby _ b j y)
theorem zir {a0 a1 a2 : Value} (hx : w.heap[b]? = some (.cells #[a0, a1, a2, m1, m2, m3, dv, lv, tv] 37 (0, 0))) (h1 : w.ownsRow B 3 1 wv M.words.length (intC M.words)) (h2 : w.ownsRow B 56 39 hv M.harts.length (zaT hC M.harts)) (h3 : w.ownsRow B 3 1 ev M.ends.length (intC M.ends))
 (ho : ∀ g, ev.ownBlock = some g → wv.ownBlock ≠ some g) : MidA (((w.setCell ⟨b, 0, none⟩ wv).setCell ⟨b, 1, none⟩ hv).setCell ⟨b, 2, none⟩ ev) B w.heap.size b wv hv ev m1 m2 m3 dv lv tv M := by
 have K := but3 w b 0 1 2 wv hv ev
 exact ⟨by simpa using zaG (zaG (zaG hx 0 wv) 1 hv) 2 ev, zas h1 K (zar h1 hx (by decide)), zas h2 K (zar h2 hx (by decide)), zas h3 K (zar h3 hx (by decide)), fun g hg => (h3.lt g hg).2, ho, by rw [zaH, zaH, zaH]; exact Nat.le_refl _⟩
theorem ziq {a0 a1 a2 : Value} (h : MidA w B N b wv hv ev m1 m2 m3 a0 a1 a2 M) (h1 : w.ownsRow B 75 8 dv M.devs.length (zaT sC (M.devs.zip qs))) (h2 : w.ownsRow B 64 3 lv M.lines.length (zaT lnC M.lines)) (h3 : w.ownsRow B 59 5 tv M.trace.length (zaT acC M.trace))
 (hq : qs.length = M.devs.length) : Mid (((w.setCell ⟨b, 6, none⟩ dv).setCell ⟨b, 7, none⟩ lv).setCell ⟨b, 8, none⟩ tv) B N b wv hv ev m1 m2 m3 dv lv tv qs M := by
 have K := but3 w b 6 7 8 dv lv tv
 have hx := h.at_
 exact ⟨by simpa using zaG (zaG (zaG hx 6 dv) 7 lv) 8 tv, zas h.words K (zar h.words hx (by decide)), zas h.harts K (zar h.harts hx (by decide)), zas h.ends K (zar h.ends hx (by decide)), zas h1 K (zar h1 hx (by decide)), zas h2 K (zar h2 hx (by decide)), zas h3 K (zar h3 hx (by decide)), hq, h.endN, h.offW, by have := h.le; simpa [zaH] using this⟩
theorem zeU {a : World} (h : Below a.heap.size a w) (hb : a.heap.size ≤ b) (i j k : Nat) (x y z : Value) : Below a.heap.size a (((w.setCell ⟨b, i, none⟩ x).setCell ⟨b, j, none⟩ y).setCell ⟨b, k, none⟩ z) := zaj (zaj (zaj h hb _) hb _) hb _
end
set_option maxHeartbeats 8000000 in
theorem of_mac (v : Value) (M : Mac) (H N : Nat) (w : World) (hm : IsMac w v M) (hg : GoodM M H N) (hN : N ≤ 100000) :
 Calls Tryz.prog 46 #[v] w fun e w' => ∃ p wv hv ev m1 m2 m3 dv lv tv qs, e = .returned (.pointer (some ⟨p, 0, none⟩)) ∧ OwnMac w' w.heap.size p wv hv ev m1 m2 m3 dv lv tv qs M ∧ OffE wv ev m1 m3 ∧ Below w.heap.size w w' := by
 obtain ⟨wv, hv, ev, m1, m2, m3, dv, lv, tv, qs, rfl, hp⟩ := hm
 obtain ⟨a1, c1, rfl⟩ := zai hp.words
 obtain ⟨a2, c2, rfl⟩ := zai hp.harts
 obtain ⟨a3, c3, rfl⟩ := zai hp.ends
 obtain ⟨a5, c5, rfl⟩ := zai hp.devs
 obtain ⟨a6, c6, rfl⟩ := zai hp.lines
 obtain ⟨a7, c7, rfl⟩ := zai hp.trace
 obtain ⟨b1, d1, b2, d2, b3, d3, rows, em, g1, g2, g3, g4⟩ := hp.mem.parts
 injection em with em
 have e1 : m1 = .slice b1 M.mem.words.length d1 := by have := congrArg (·[0]?) em; simpa using this
 have e2 : m2 = .slice b2 M.mem.pend.length d2 := by have := congrArg (·[1]?) em; simpa using this
 have e3 : m3 = .slice b3 M.mem.res.length d3 := by have := congrArg (·[2]?) em; simpa using this
 subst e1 e2 e3
 clear em
 have hs := hg.small
 have s1 := hg.words; have s2 := hg.few; have s3 := hg.harts; have s4 := hg.ends; have s5 := hg.devs; have s6 := hg.lines; have s7 := hg.trace
 have s8 := hs.words; have s9 := hs.pend; have s10 := hs.res
 have HS := zhd hs.each
 have HI := zhd hg.dev
 have H1 := zhd (Reads.own hp.words (zfs _))
 have H2 := zhd (Reads.own hp.harts (fun u hu => by obtain ⟨x, _, hx⟩ := List.mem_flatMap.1 hu; exact hC_one x u hx))
 have H3 := zhd (Reads.own hp.ends (zfs _))
 have H5 := zhd (Reads.own hp.devs (fun u hu => by obtain ⟨x, h1, hx⟩ := List.mem_flatMap.1 hu; exact zi3 hp.ques x h1 u hx))
 have H6 := zhd (Reads.own hp.lines (fun u hu => by obtain ⟨x, _, hx⟩ := List.mem_flatMap.1 hu; exact zgW x u hx))
 have H7 := zhd (Reads.own hp.trace (fun u hu => by obtain ⟨x, _, hx⟩ := List.mem_flatMap.1 hu; exact zhh x u hx))
 have G1 := zhd g1; have G2 := zhd g2; have G3 := zhd g3; have G4 := zhd g4
 have HQ := zhd hp.ques
 have HT2 : Hid (1 ≤ H ∧ H ≤ 4) := zhd s2
 clear hp g1 g2 g3 g4 hs hg
 obtain ⟨n1, hn1⟩ : ∃ n, M.words.length = n := ⟨_, rfl⟩
 obtain ⟨n2, hn2⟩ : ∃ n, M.harts.length = n := ⟨_, rfl⟩
 obtain ⟨n3, hn3⟩ : ∃ n, M.ends.length = n := ⟨_, rfl⟩
 obtain ⟨n5, hn5⟩ : ∃ n, M.devs.length = n := ⟨_, rfl⟩
 obtain ⟨n6, hn6⟩ : ∃ n, M.lines.length = n := ⟨_, rfl⟩
 obtain ⟨n7, hn7⟩ : ∃ n, M.trace.length = n := ⟨_, rfl⟩
 obtain ⟨l1, hl1⟩ : ∃ n, M.mem.words.length = n := ⟨_, rfl⟩
 obtain ⟨l2, hl2⟩ : ∃ n, M.mem.pend.length = n := ⟨_, rfl⟩
 obtain ⟨l3, hl3⟩ : ∃ n, M.mem.res.length = n := ⟨_, rfl⟩
 rw [hn1] at H1 s1; rw [hn2] at H2 s3; rw [hn3] at H3 s4; rw [hn5] at H5 s5; rw [hn6] at H6 s6; rw [hn7] at H7 s7; rw [hl1] at G1 s8; rw [hl2] at G2 s9; rw [hl3] at G3 s10
 rw [hn1, hn2, hn3, hn5, hn6, hn7, hl1, hl2, hl3]
 have HN1 := zhd hn1; have HN2 := zhd hn2; have HN3 := zhd hn3; have HN5 := zhd hn5; have HN6 := zhd hn6; have HN7 := zhd hn7
 have HL1 := zhd hl1; have HL2 := zhd hl2; have HL3 := zhd hl3
 have HQL : Hid (qs.length = n5) := zhd (by rw [HQ.out.1, hn5])
 clear hn1 hn2 hn3 hn5 hn6 hn7 hl1 hl2 hl3
 have t3 : n2 ≤ 4 := by omega
 have t4 : n3 ≤ 4 := by omega
 clear s3 s4 s2 HT2
 go_enter Tryz.func46, Tryz.ntmps46
 go_upto_region 1 with (fail)
 go_cut [] (fun wx => ∃ N x1 y1 x2 y2 x3 y3, MidA wx w.heap.size N w.heap.size (.slice x1 n1 y1) (.slice x2 n2 y2) (.slice x3 n3 y3) (.slice b1 l1 d1) (.slice b2 l2 d2) (.slice b3 l3 d3) (.slice a5 n5 c5) (.slice a6 n6 c6) (.slice a7 n7 c7) M ∧ w.heap.size ≤ N ∧ Below w.heap.size w wx)
 case first =>
  have HB0 : Hid (Below w.heap.size w (w.alloc (.cells #[.slice a1 n1 c1, .slice a2 n2 c2, .slice a3 n3 c3, .slice b1 l1 d1, .slice b2 l2 d2, .slice b3 l3 d3, .slice a5 n5 c5, .slice a6 n6 c6, .slice a7 n7 c7] 37)).drew) := zhd (zak (zan _ _))
  refine zaL (fun w' => w.heap.size < w'.heap.size ∧ w'.heap[w.heap.size]? = some (.cells #[.slice a1 n1 c1, .slice a2 n2 c2, .slice a3 n3 c3, .slice b1 l1 d1, .slice b2 l2 d2, .slice b3 l3 d3, .slice a5 n5 c5, .slice a6 n6 c6, .slice a7 n7 c7] 37 (0, 0))) 10 [true, true, false, true, true, false, true, true] (by kernel_rfl) (by kernel_rfl) (by kernel_rfl) (fun w1 w2 h hu => ⟨Nat.lt_of_lt_of_le h.1 hu.size, zaq hu h.1 h.2⟩) ⟨by simp, zat w _⟩ ?a1 ?h1 ?ht1
  case h1 =>
   intro w0 ⟨hlt, hcs⟩
   obtain ⟨k0, k1, k2, k3, k4, k5, k6, k7, k8⟩ := zam hcs
   have x0 := fun x => zal hlt k0 x
   have x1 := fun x => zal hlt k1 x
   have x2 := fun x => zal hlt k2 x
   clear k0 k1 k2 k3 k4 k5 k6 k7 k8 hcs
   simp only [zbb]
   repeat (go_big_quiet_step (fail))
   refine wpQuiet_nil ?_
   rfl
  case ht1 =>
   change zbO _ _ _ _ _ _ 4 _ _ _
   refine zaz (i := 2) (by kernel_rfl) (by decide) rfl ?_
   intro w1 hu1 ⟨hl1, hx1⟩
   have B_1 := zhd (zae HB0.out hu1)
   clear HB0
   go_wp2_with fail
   refine (zbi _ _ _ _ (H1.out.below B_1.out) (by omega)).mono ?_
   rintro e v1 ⟨r1, rfl, ho1, hb1⟩
   obtain ⟨x1, y1, rfl⟩ := zai ho1
   have HR1 := zhd ho1
   have sz1 := hb1.size
   have B_1b := zhd (zae B_1.out hb1)
   clear B_1
   have O1 := zhd (za0 ho1 (Nat.le_of_lt hl1))
   clear ho1
   have SZ : Hid (v1.heap.size ≤ v1.heap.size) := zhd (Nat.le_refl _)
   go_wp2_with fail
   refine ⟨⟨Nat.lt_of_lt_of_le hl1 hb1.size, zaf hb1 hx1⟩, ?_⟩
   refine zcw (i := 5) (k := 9) (by kernel_rfl) (by decide) (by decide) rfl rfl ?_ ?_
   · intro w2 hu2 ⟨hl2, hx2⟩
     have B_2 := zhd (zae B_1b.out hu2)
     clear B_1b
     have o1_2 := zhd (zab O1.out hu2)
     clear O1
     have s_2 := zhd (Nat.le_trans SZ.out (hu2).size)
     clear SZ
     go_wp2_with fail
     refine (zgA _ _ _ _ (H2.out.below B_2.out) (by omega)).mono ?_
     rintro e v2 ⟨r2, rfl, ho2, hb2⟩
     obtain ⟨x2, y2, rfl⟩ := zai ho2
     have HR2 := zhd ho2
     have sz2 := hb2.size
     have szz := (s_2).out
     have B_2b := zhd (zae B_2.out hb2)
     clear B_2
     have o1_2b := zhd (zab o1_2.out hb2)
     clear o1_2
     have s_2b := zhd (Nat.le_trans s_2.out (hb2).size)
     clear s_2
     have O2 := zhd (za0 ho2 (Nat.le_of_lt hl2))
     clear ho2
     go_wp2_with fail
     refine ⟨⟨Nat.lt_of_lt_of_le hl2 hb2.size, zaf hb2 hx2⟩, ?_⟩
     refine zcw (i := 8) (k := 9) (by kernel_rfl) (by decide) (by decide) rfl rfl ?_ ?_
     · intro w3 hu3 ⟨hl3, hx3⟩
       have B_3 := zhd (zae B_2b.out hu3)
       clear B_2b
       have o1_3 := zhd (zab o1_2b.out hu3)
       clear o1_2b
       have s_3 := zhd (Nat.le_trans s_2b.out (hu3).size)
       clear s_2b
       have o2_3 := zhd (zab O2.out hu3)
       clear O2
       go_wp2_with fail
       refine (zbi _ _ _ _ (H3.out.below B_3.out) (by omega)).mono ?_
       rintro e v3 ⟨r3, rfl, ho3, hb3⟩
       obtain ⟨x3, y3, rfl⟩ := zai ho3
       have HR3 := zhd ho3
       have sz3 := hb3.size
       have szz := (s_3).out
       have B_3b := zhd (zae B_3.out hb3)
       clear B_3
       have o1_3b := zhd (zab o1_3.out hb3)
       clear o1_3
       have s_3b := zhd (Nat.le_trans s_3.out (hb3).size)
       clear s_3
       have o2_3b := zhd (zab o2_3.out hb3)
       clear o2_3
       have O3 := zhd (za0 ho3 (Nat.le_of_lt hl3))
       clear ho3
       go_wp2_with fail
       refine ⟨⟨Nat.lt_of_lt_of_le hl3 hb3.size, zaf hb3 hx3⟩, ?_⟩
       refine zaz (i := 9) (by kernel_rfl) (by decide) rfl ?_
       intro w4 hu4 ⟨hl4, hx4⟩
       have B_4 := zhd (zae B_3b.out hu4)
       clear B_3b
       have o1_4 := zhd (zab o1_3b.out hu4)
       clear o1_3b
       have s_4 := zhd (Nat.le_trans s_3b.out (hu4).size)
       clear s_3b
       have o2_4 := zhd (zab o2_3b.out hu4)
       clear o2_3b
       have o3_4 := zhd (zab O3.out hu4)
       clear O3
       go_wp2_with fail
       refine ⟨⟨hl4, hx4⟩, ?_⟩
       refine zaO (by kernel_rfl) ?_
       intro w5 hu5 ⟨hl5, hx5⟩
       have B_5 := zhd (zae B_4.out hu5)
       clear B_4
       have o1_5 := zhd (zab o1_4.out hu5)
       clear o1_4
       have s_5 := zhd (Nat.le_trans s_4.out (hu5).size)
       clear s_4
       have o2_5 := zhd (zab o2_4.out hu5)
       clear o2_4
       have o3_5 := zhd (zab o3_4.out hu5)
       clear o3_4
       obtain ⟨k0, k1, k2, k3, k4, k5, k6, k7, k8⟩ := zam hx5
       have f0 := zaa hx5 0
       have f1 := zaa hx5 1
       have f2 := zaa hx5 2
       have f3 := zaa hx5 3
       have f4 := zaa hx5 4
       have f5 := zaa hx5 5
       have f6 := zaa hx5 6
       have f7 := zaa hx5 7
       have f8 := zaa hx5 8
       have HX := zhd hx5; clear hx5 hu5
       simp only [List.drop_succ_cons, List.drop_zero]
       go_wp2_with fail
       go_meet
       case rel => exact ⟨w5.heap.size, _, _, _, _, _, _, zir HX.out (by rw [HN1.out]; exact o1_5.out) (by rw [HN2.out]; exact o2_5.out) (by rw [HN3.out]; exact o3_5.out) (fun g e3 e1 => zcX HR1.out HR3.out (by omega) g e1 e3), (B_5.out).size, zeU B_5.out (Nat.le_refl _) _ _ _ _ _ _⟩
     · intro w3 hu3 ⟨hl3, hx3⟩
       have B_3 := zhd (zae B_2b.out hu3)
       clear B_2b
       have o1_3 := zhd (zab o1_2b.out hu3)
       clear o1_2b
       have s_3 := zhd (Nat.le_trans s_2b.out (hu3).size)
       clear s_2b
       have o2_3 := zhd (zab O2.out hu3)
       clear O2
       go_wp2_with fail
       refine ⟨⟨hl3, hx3⟩, ?_⟩
       refine zaz (i := 8) (by kernel_rfl) (by decide) rfl ?_
       intro w4 hu4 ⟨hl4, hx4⟩
       have B_4 := zhd (zae B_3.out hu4)
       clear B_3
       have o1_4 := zhd (zab o1_3.out hu4)
       clear o1_3
       have s_4 := zhd (Nat.le_trans s_3.out (hu4).size)
       clear s_3
       have o2_4 := zhd (zab o2_3.out hu4)
       clear o2_3
       go_wp2_with fail
       refine (zbi _ _ _ _ (H3.out.below B_4.out) (by omega)).mono ?_
       rintro e v4 ⟨r3, rfl, ho3, hb4⟩
       obtain ⟨x3, y3, rfl⟩ := zai ho3
       have HR3 := zhd ho3
       have sz3 := hb4.size
       have szz := (s_4).out
       have B_4b := zhd (zae B_4.out hb4)
       clear B_4
       have o1_4b := zhd (zab o1_4.out hb4)
       clear o1_4
       have s_4b := zhd (Nat.le_trans s_4.out (hb4).size)
       clear s_4
       have o2_4b := zhd (zab o2_4.out hb4)
       clear o2_4
       have O3 := zhd (za0 ho3 (Nat.le_of_lt hl4))
       clear ho3
       go_wp2_with fail
       refine ⟨⟨Nat.lt_of_lt_of_le hl4 hb4.size, zaf hb4 hx4⟩, ?_⟩
       refine zaO (by kernel_rfl) ?_
       intro w5 hu5 ⟨hl5, hx5⟩
       have B_5 := zhd (zae B_4b.out hu5)
       clear B_4b
       have o1_5 := zhd (zab o1_4b.out hu5)
       clear o1_4b
       have s_5 := zhd (Nat.le_trans s_4b.out (hu5).size)
       clear s_4b
       have o2_5 := zhd (zab o2_4b.out hu5)
       clear o2_4b
       have o3_5 := zhd (zab O3.out hu5)
       clear O3
       obtain ⟨k0, k1, k2, k3, k4, k5, k6, k7, k8⟩ := zam hx5
       have f0 := zaa hx5 0
       have f1 := zaa hx5 1
       have f2 := zaa hx5 2
       have f3 := zaa hx5 3
       have f4 := zaa hx5 4
       have f5 := zaa hx5 5
       have f6 := zaa hx5 6
       have f7 := zaa hx5 7
       have f8 := zaa hx5 8
       have HX := zhd hx5; clear hx5 hu5
       simp only [List.drop_succ_cons, List.drop_zero]
       go_wp2_with fail
       go_meet
       case rel => exact ⟨w5.heap.size, _, _, _, _, _, _, zir HX.out (by rw [HN1.out]; exact o1_5.out) (by rw [HN2.out]; exact o2_5.out) (by rw [HN3.out]; exact o3_5.out) (fun g e3 e1 => zcX HR1.out HR3.out (by omega) g e1 e3), (B_5.out).size, zeU B_5.out (Nat.le_refl _) _ _ _ _ _ _⟩
   · intro w2 hu2 ⟨hl2, hx2⟩
     have B_2 := zhd (zae B_1b.out hu2)
     clear B_1b
     have o1_2 := zhd (zab O1.out hu2)
     clear O1
     have s_2 := zhd (Nat.le_trans SZ.out (hu2).size)
     clear SZ
     go_wp2_with fail
     refine ⟨⟨hl2, hx2⟩, ?_⟩
     refine zaz (i := 5) (by kernel_rfl) (by decide) rfl ?_
     intro w3 hu3 ⟨hl3, hx3⟩
     have B_3 := zhd (zae B_2.out hu3)
     clear B_2
     have o1_3 := zhd (zab o1_2.out hu3)
     clear o1_2
     have s_3 := zhd (Nat.le_trans s_2.out (hu3).size)
     clear s_2
     go_wp2_with fail
     refine (zgA _ _ _ _ (H2.out.below B_3.out) (by omega)).mono ?_
     rintro e v3 ⟨r2, rfl, ho2, hb3⟩
     obtain ⟨x2, y2, rfl⟩ := zai ho2
     have HR2 := zhd ho2
     have sz2 := hb3.size
     have szz := (s_3).out
     have B_3b := zhd (zae B_3.out hb3)
     clear B_3
     have o1_3b := zhd (zab o1_3.out hb3)
     clear o1_3
     have s_3b := zhd (Nat.le_trans s_3.out (hb3).size)
     clear s_3
     have O2 := zhd (za0 ho2 (Nat.le_of_lt hl3))
     clear ho2
     go_wp2_with fail
     refine ⟨⟨Nat.lt_of_lt_of_le hl3 hb3.size, zaf hb3 hx3⟩, ?_⟩
     refine zaz (i := 8) (by kernel_rfl) (by decide) rfl ?_
     intro w4 hu4 ⟨hl4, hx4⟩
     have B_4 := zhd (zae B_3b.out hu4)
     clear B_3b
     have o1_4 := zhd (zab o1_3b.out hu4)
     clear o1_3b
     have s_4 := zhd (Nat.le_trans s_3b.out (hu4).size)
     clear s_3b
     have o2_4 := zhd (zab O2.out hu4)
     clear O2
     go_wp2_with fail
     refine (zbi _ _ _ _ (H3.out.below B_4.out) (by omega)).mono ?_
     rintro e v4 ⟨r3, rfl, ho3, hb4⟩
     obtain ⟨x3, y3, rfl⟩ := zai ho3
     have HR3 := zhd ho3
     have sz3 := hb4.size
     have szz := (s_4).out
     have B_4b := zhd (zae B_4.out hb4)
     clear B_4
     have o1_4b := zhd (zab o1_4.out hb4)
     clear o1_4
     have s_4b := zhd (Nat.le_trans s_4.out (hb4).size)
     clear s_4
     have o2_4b := zhd (zab o2_4.out hb4)
     clear o2_4
     have O3 := zhd (za0 ho3 (Nat.le_of_lt hl4))
     clear ho3
     go_wp2_with fail
     refine ⟨⟨Nat.lt_of_lt_of_le hl4 hb4.size, zaf hb4 hx4⟩, ?_⟩
     refine zaO (by kernel_rfl) ?_
     intro w5 hu5 ⟨hl5, hx5⟩
     have B_5 := zhd (zae B_4b.out hu5)
     clear B_4b
     have o1_5 := zhd (zab o1_4b.out hu5)
     clear o1_4b
     have s_5 := zhd (Nat.le_trans s_4b.out (hu5).size)
     clear s_4b
     have o2_5 := zhd (zab o2_4b.out hu5)
     clear o2_4b
     have o3_5 := zhd (zab O3.out hu5)
     clear O3
     obtain ⟨k0, k1, k2, k3, k4, k5, k6, k7, k8⟩ := zam hx5
     have f0 := zaa hx5 0
     have f1 := zaa hx5 1
     have f2 := zaa hx5 2
     have f3 := zaa hx5 3
     have f4 := zaa hx5 4
     have f5 := zaa hx5 5
     have f6 := zaa hx5 6
     have f7 := zaa hx5 7
     have f8 := zaa hx5 8
     have HX := zhd hx5; clear hx5 hu5
     simp only [List.drop_succ_cons, List.drop_zero]
     go_wp2_with fail
     go_meet
     case rel => exact ⟨w5.heap.size, _, _, _, _, _, _, zir HX.out (by rw [HN1.out]; exact o1_5.out) (by rw [HN2.out]; exact o2_5.out) (by rw [HN3.out]; exact o3_5.out) (fun g e3 e1 => zcX HR1.out HR3.out (by omega) g e1 e3), (B_5.out).size, zeU B_5.out (Nat.le_refl _) _ _ _ _ _ _⟩
 case rest =>
 obtain ⟨N1, x1, y1, x2, y2, x3, y3, hA, hN1, hB⟩ := hcut
 have HN1c := zhd hN1; clear hN1
 obtain ⟨wa, hwa⟩ : ∃ x, x = wc := ⟨_, rfl⟩
 subst hwa
 have HA := zhd hA; have HB := zhd hB
 have hlt0 := zao hA.at_
 clear hA hB
 go_upto_region 2 with (fail)
 go_cut [] (fun wx => ∃ x5 y5 x6 y6 x7 y7, Mid wx w.heap.size N1 w.heap.size (.slice x1 n1 y1) (.slice x2 n2 y2) (.slice x3 n3 y3) (.slice b1 l1 d1) (.slice b2 l2 d2) (.slice b3 l3 d3) (.slice x5 n5 y5) (.slice x6 n6 y6) (.slice x7 n7 y7) qs M ∧ Below w.heap.size w wx)
 case first =>
  refine zaL (fun w' => w.heap.size < w'.heap.size ∧ w'.heap[w.heap.size]? = some (.cells #[.slice x1 n1 y1, .slice x2 n2 y2, .slice x3 n3 y3, .slice b1 l1 d1, .slice b2 l2 d2, .slice b3 l3 d3, .slice a5 n5 c5, .slice a6 n6 c6, .slice a7 n7 c7] 37 (0, 0))) 10 [true, true, false, true, true, false, true, true] (by kernel_rfl) (by kernel_rfl) (by kernel_rfl) (fun w1 w2 h hu => ⟨Nat.lt_of_lt_of_le h.1 hu.size, zaq hu h.1 h.2⟩) ⟨hlt0, HA.out.at_⟩ ?a2 ?h2 ?ht2
  case h2 =>
   intro w0 ⟨hlt, hcs⟩
   obtain ⟨k0, k1, k2, k3, k4, k5, k6, k7, k8⟩ := zam hcs
   have x6' := fun x => zal hlt k6 x
   have x7' := fun x => zal hlt k7 x
   have x8' := fun x => zal hlt k8 x
   clear k0 k1 k2 k3 k4 k5 k6 k7 k8 hcs
   simp only [zbb]
   repeat (go_big_quiet_step (fail))
   refine wpQuiet_nil ?_
   rfl
  case ht2 =>
   change zbO _ _ _ _ _ _ 4 _ _ _
   have HBd : Hid (Below w.heap.size w wa.drew) := zhd (zak HB.out)
   have HAd := zhd (HA.out.below (zak (Below.refl _ wa)))
   refine zaz (i := 2) (by kernel_rfl) (by decide) rfl ?_
   intro w11 hu11 ⟨hl11, hx11⟩
   have B_11 := zhd (zae HBd.out hu11)
   clear HBd
   have A_11 := zhd ((HAd.out).below hu11)
   clear HAd
   go_wp2_with fail
   refine (ziP _ _ _ _ (H5.out.below B_11.out) (by omega)).mono ?_
   rintro e v11 ⟨r5, rfl, ho5, hb11⟩
   obtain ⟨x5, y5, rfl⟩ := zai ho5
   have HR5 := zhd ho5
   have sz5 := hb11.size
   have nl11 := A_11.out.le
   have B_11b := zhd (zae B_11.out hb11)
   clear B_11
   have A_11b := zhd ((A_11.out).below hb11)
   clear A_11
   have O5 := zhd (za0 ho5 (Nat.le_of_lt hl11))
   clear ho5
   have SZ : Hid (v11.heap.size ≤ v11.heap.size) := zhd (Nat.le_refl _)
   go_wp2_with fail
   refine ⟨⟨Nat.lt_of_lt_of_le hl11 hb11.size, zaf hb11 hx11⟩, ?_⟩
   refine zcw (i := 5) (k := 9) (by kernel_rfl) (by decide) (by decide) rfl rfl ?_ ?_
   · intro w12 hu12 ⟨hl12, hx12⟩
     have B_12 := zhd (zae B_11b.out hu12)
     clear B_11b
     have A_12 := zhd ((A_11b.out).below hu12)
     clear A_11b
     have o5_12 := zhd (zab O5.out hu12)
     clear O5
     have s_12 := zhd (Nat.le_trans SZ.out (hu12).size)
     clear SZ
     go_wp2_with fail
     refine (zeS _ _ _ _ (H6.out.below B_12.out) (by omega)).mono ?_
     rintro e v12 ⟨r6, rfl, ho6, hb12⟩
     obtain ⟨x6, y6, rfl⟩ := zai ho6
     have HR6 := zhd ho6
     have sz6 := hb12.size
     have nl12 := A_12.out.le
     have szz := (s_12).out
     have B_12b := zhd (zae B_12.out hb12)
     clear B_12
     have A_12b := zhd ((A_12.out).below hb12)
     clear A_12
     have o5_12b := zhd (zab o5_12.out hb12)
     clear o5_12
     have s_12b := zhd (Nat.le_trans s_12.out (hb12).size)
     clear s_12
     have O6 := zhd (za0 ho6 (Nat.le_of_lt hl12))
     clear ho6
     go_wp2_with fail
     refine ⟨⟨Nat.lt_of_lt_of_le hl12 hb12.size, zaf hb12 hx12⟩, ?_⟩
     refine zcw (i := 8) (k := 9) (by kernel_rfl) (by decide) (by decide) rfl rfl ?_ ?_
     · intro w13 hu13 ⟨hl13, hx13⟩
       have B_13 := zhd (zae B_12b.out hu13)
       clear B_12b
       have A_13 := zhd ((A_12b.out).below hu13)
       clear A_12b
       have o5_13 := zhd (zab o5_12b.out hu13)
       clear o5_12b
       have s_13 := zhd (Nat.le_trans s_12b.out (hu13).size)
       clear s_12b
       have o6_13 := zhd (zab O6.out hu13)
       clear O6
       go_wp2_with fail
       refine (zf6 _ _ _ _ (H7.out.below B_13.out) (by omega)).mono ?_
       rintro e v13 ⟨r7, rfl, ho7, hb13⟩
       obtain ⟨x7, y7, rfl⟩ := zai ho7
       have HR7 := zhd ho7
       have sz7 := hb13.size
       have nl13 := A_13.out.le
       have szz := (s_13).out
       have B_13b := zhd (zae B_13.out hb13)
       clear B_13
       have A_13b := zhd ((A_13.out).below hb13)
       clear A_13
       have o5_13b := zhd (zab o5_13.out hb13)
       clear o5_13
       have s_13b := zhd (Nat.le_trans s_13.out (hb13).size)
       clear s_13
       have o6_13b := zhd (zab o6_13.out hb13)
       clear o6_13
       have O7 := zhd (za0 ho7 (Nat.le_of_lt hl13))
       clear ho7
       go_wp2_with fail
       refine ⟨⟨Nat.lt_of_lt_of_le hl13 hb13.size, zaf hb13 hx13⟩, ?_⟩
       refine zaz (i := 9) (by kernel_rfl) (by decide) rfl ?_
       intro w14 hu14 ⟨hl14, hx14⟩
       have B_14 := zhd (zae B_13b.out hu14)
       clear B_13b
       have A_14 := zhd ((A_13b.out).below hu14)
       clear A_13b
       have o5_14 := zhd (zab o5_13b.out hu14)
       clear o5_13b
       have s_14 := zhd (Nat.le_trans s_13b.out (hu14).size)
       clear s_13b
       have o6_14 := zhd (zab o6_13b.out hu14)
       clear o6_13b
       have o7_14 := zhd (zab O7.out hu14)
       clear O7
       go_wp2_with fail
       refine ⟨⟨hl14, hx14⟩, ?_⟩
       refine zaO (by kernel_rfl) ?_
       intro w15 hu15 ⟨hl15, hx15⟩
       have B_15 := zhd (zae B_14.out hu15)
       clear B_14
       have A_15 := zhd ((A_14.out).below hu15)
       clear A_14
       have o5_15 := zhd (zab o5_14.out hu15)
       clear o5_14
       have s_15 := zhd (Nat.le_trans s_14.out (hu15).size)
       clear s_14
       have o6_15 := zhd (zab o6_14.out hu15)
       clear o6_14
       have o7_15 := zhd (zab o7_14.out hu15)
       clear o7_14
       obtain ⟨k0, k1, k2, k3, k4, k5, k6, k7, k8⟩ := zam hx15
       have f0 := zaa hx15 0
       have f1 := zaa hx15 1
       have f2 := zaa hx15 2
       have f3 := zaa hx15 3
       have f4 := zaa hx15 4
       have f5 := zaa hx15 5
       have f6 := zaa hx15 6
       have f7 := zaa hx15 7
       have f8 := zaa hx15 8
       have HX := zhd hx15; clear hx15 hu15
       simp only [List.drop_succ_cons, List.drop_zero]
       go_wp2_with fail
       go_meet
       case rel => exact ⟨_, _, _, _, _, _, ziq A_15.out (by rw [HN5.out]; exact o5_15.out) (by rw [HN6.out]; exact o6_15.out) (by rw [HN7.out]; exact o7_15.out) (by rw [HQL.out, HN5.out]), zeU B_15.out (Nat.le_refl _) _ _ _ _ _ _⟩
     · intro w13 hu13 ⟨hl13, hx13⟩
       have B_13 := zhd (zae B_12b.out hu13)
       clear B_12b
       have A_13 := zhd ((A_12b.out).below hu13)
       clear A_12b
       have o5_13 := zhd (zab o5_12b.out hu13)
       clear o5_12b
       have s_13 := zhd (Nat.le_trans s_12b.out (hu13).size)
       clear s_12b
       have o6_13 := zhd (zab O6.out hu13)
       clear O6
       go_wp2_with fail
       refine ⟨⟨hl13, hx13⟩, ?_⟩
       refine zaz (i := 8) (by kernel_rfl) (by decide) rfl ?_
       intro w14 hu14 ⟨hl14, hx14⟩
       have B_14 := zhd (zae B_13.out hu14)
       clear B_13
       have A_14 := zhd ((A_13.out).below hu14)
       clear A_13
       have o5_14 := zhd (zab o5_13.out hu14)
       clear o5_13
       have s_14 := zhd (Nat.le_trans s_13.out (hu14).size)
       clear s_13
       have o6_14 := zhd (zab o6_13.out hu14)
       clear o6_13
       go_wp2_with fail
       refine (zf6 _ _ _ _ (H7.out.below B_14.out) (by omega)).mono ?_
       rintro e v14 ⟨r7, rfl, ho7, hb14⟩
       obtain ⟨x7, y7, rfl⟩ := zai ho7
       have HR7 := zhd ho7
       have sz7 := hb14.size
       have nl14 := A_14.out.le
       have szz := (s_14).out
       have B_14b := zhd (zae B_14.out hb14)
       clear B_14
       have A_14b := zhd ((A_14.out).below hb14)
       clear A_14
       have o5_14b := zhd (zab o5_14.out hb14)
       clear o5_14
       have s_14b := zhd (Nat.le_trans s_14.out (hb14).size)
       clear s_14
       have o6_14b := zhd (zab o6_14.out hb14)
       clear o6_14
       have O7 := zhd (za0 ho7 (Nat.le_of_lt hl14))
       clear ho7
       go_wp2_with fail
       refine ⟨⟨Nat.lt_of_lt_of_le hl14 hb14.size, zaf hb14 hx14⟩, ?_⟩
       refine zaO (by kernel_rfl) ?_
       intro w15 hu15 ⟨hl15, hx15⟩
       have B_15 := zhd (zae B_14b.out hu15)
       clear B_14b
       have A_15 := zhd ((A_14b.out).below hu15)
       clear A_14b
       have o5_15 := zhd (zab o5_14b.out hu15)
       clear o5_14b
       have s_15 := zhd (Nat.le_trans s_14b.out (hu15).size)
       clear s_14b
       have o6_15 := zhd (zab o6_14b.out hu15)
       clear o6_14b
       have o7_15 := zhd (zab O7.out hu15)
       clear O7
       obtain ⟨k0, k1, k2, k3, k4, k5, k6, k7, k8⟩ := zam hx15
       have f0 := zaa hx15 0
       have f1 := zaa hx15 1
       have f2 := zaa hx15 2
       have f3 := zaa hx15 3
       have f4 := zaa hx15 4
       have f5 := zaa hx15 5
       have f6 := zaa hx15 6
       have f7 := zaa hx15 7
       have f8 := zaa hx15 8
       have HX := zhd hx15; clear hx15 hu15
       simp only [List.drop_succ_cons, List.drop_zero]
       go_wp2_with fail
       go_meet
       case rel => exact ⟨_, _, _, _, _, _, ziq A_15.out (by rw [HN5.out]; exact o5_15.out) (by rw [HN6.out]; exact o6_15.out) (by rw [HN7.out]; exact o7_15.out) (by rw [HQL.out, HN5.out]), zeU B_15.out (Nat.le_refl _) _ _ _ _ _ _⟩
   · intro w12 hu12 ⟨hl12, hx12⟩
     have B_12 := zhd (zae B_11b.out hu12)
     clear B_11b
     have A_12 := zhd ((A_11b.out).below hu12)
     clear A_11b
     have o5_12 := zhd (zab O5.out hu12)
     clear O5
     have s_12 := zhd (Nat.le_trans SZ.out (hu12).size)
     clear SZ
     go_wp2_with fail
     refine ⟨⟨hl12, hx12⟩, ?_⟩
     refine zaz (i := 5) (by kernel_rfl) (by decide) rfl ?_
     intro w13 hu13 ⟨hl13, hx13⟩
     have B_13 := zhd (zae B_12.out hu13)
     clear B_12
     have A_13 := zhd ((A_12.out).below hu13)
     clear A_12
     have o5_13 := zhd (zab o5_12.out hu13)
     clear o5_12
     have s_13 := zhd (Nat.le_trans s_12.out (hu13).size)
     clear s_12
     go_wp2_with fail
     refine (zeS _ _ _ _ (H6.out.below B_13.out) (by omega)).mono ?_
     rintro e v13 ⟨r6, rfl, ho6, hb13⟩
     obtain ⟨x6, y6, rfl⟩ := zai ho6
     have HR6 := zhd ho6
     have sz6 := hb13.size
     have nl13 := A_13.out.le
     have szz := (s_13).out
     have B_13b := zhd (zae B_13.out hb13)
     clear B_13
     have A_13b := zhd ((A_13.out).below hb13)
     clear A_13
     have o5_13b := zhd (zab o5_13.out hb13)
     clear o5_13
     have s_13b := zhd (Nat.le_trans s_13.out (hb13).size)
     clear s_13
     have O6 := zhd (za0 ho6 (Nat.le_of_lt hl13))
     clear ho6
     go_wp2_with fail
     refine ⟨⟨Nat.lt_of_lt_of_le hl13 hb13.size, zaf hb13 hx13⟩, ?_⟩
     refine zaz (i := 8) (by kernel_rfl) (by decide) rfl ?_
     intro w14 hu14 ⟨hl14, hx14⟩
     have B_14 := zhd (zae B_13b.out hu14)
     clear B_13b
     have A_14 := zhd ((A_13b.out).below hu14)
     clear A_13b
     have o5_14 := zhd (zab o5_13b.out hu14)
     clear o5_13b
     have s_14 := zhd (Nat.le_trans s_13b.out (hu14).size)
     clear s_13b
     have o6_14 := zhd (zab O6.out hu14)
     clear O6
     go_wp2_with fail
     refine (zf6 _ _ _ _ (H7.out.below B_14.out) (by omega)).mono ?_
     rintro e v14 ⟨r7, rfl, ho7, hb14⟩
     obtain ⟨x7, y7, rfl⟩ := zai ho7
     have HR7 := zhd ho7
     have sz7 := hb14.size
     have nl14 := A_14.out.le
     have szz := (s_14).out
     have B_14b := zhd (zae B_14.out hb14)
     clear B_14
     have A_14b := zhd ((A_14.out).below hb14)
     clear A_14
     have o5_14b := zhd (zab o5_14.out hb14)
     clear o5_14
     have s_14b := zhd (Nat.le_trans s_14.out (hb14).size)
     clear s_14
     have o6_14b := zhd (zab o6_14.out hb14)
     clear o6_14
     have O7 := zhd (za0 ho7 (Nat.le_of_lt hl14))
     clear ho7
     go_wp2_with fail
     refine ⟨⟨Nat.lt_of_lt_of_le hl14 hb14.size, zaf hb14 hx14⟩, ?_⟩
     refine zaO (by kernel_rfl) ?_
     intro w15 hu15 ⟨hl15, hx15⟩
     have B_15 := zhd (zae B_14b.out hu15)
     clear B_14b
     have A_15 := zhd ((A_14b.out).below hu15)
     clear A_14b
     have o5_15 := zhd (zab o5_14b.out hu15)
     clear o5_14b
     have s_15 := zhd (Nat.le_trans s_14b.out (hu15).size)
     clear s_14b
     have o6_15 := zhd (zab o6_14b.out hu15)
     clear o6_14b
     have o7_15 := zhd (zab O7.out hu15)
     clear O7
     obtain ⟨k0, k1, k2, k3, k4, k5, k6, k7, k8⟩ := zam hx15
     have f0 := zaa hx15 0
     have f1 := zaa hx15 1
     have f2 := zaa hx15 2
     have f3 := zaa hx15 3
     have f4 := zaa hx15 4
     have f5 := zaa hx15 5
     have f6 := zaa hx15 6
     have f7 := zaa hx15 7
     have f8 := zaa hx15 8
     have HX := zhd hx15; clear hx15 hu15
     simp only [List.drop_succ_cons, List.drop_zero]
     go_wp2_with fail
     go_meet
     case rel => exact ⟨_, _, _, _, _, _, ziq A_15.out (by rw [HN5.out]; exact o5_15.out) (by rw [HN6.out]; exact o6_15.out) (by rw [HN7.out]; exact o7_15.out) (by rw [HQL.out, HN5.out]), zeU B_15.out (Nat.le_refl _) _ _ _ _ _ _⟩
 case rest =>
 obtain ⟨x5, y5, x6, y6, x7, y7, hM, hB⟩ := hcut
 obtain ⟨wb, hwb⟩ : ∃ x, x = wc := ⟨_, rfl⟩
 subst hwb
 have HM := zhd hM; have HB := zhd hB
 clear hM hB
 obtain ⟨k0, k1, k2, k3, k4, k5, k6, k7, k8⟩ := zam HM.out.at_
 go_wp2_with fail
 clear k0 k1 k2 k3 k4 k5 k6 k7 k8
 go_loopw [33] (fun i wr => ∃ (k : Nat) (qk : List Value), k ≤ n5 ∧ qk.length = k ∧ i = .int .i64 k ∧ Mid wr w.heap.size N1 w.heap.size (.slice x1 n1 y1) (.slice x2 n2 y2) (.slice x3 n3 y3) (.slice b1 l1 d1) (.slice b2 l2 d2) (.slice b3 l3 d3) (.slice x5 n5 y5) (.slice x6 n6 y6) (.slice x7 n7 y7) (qk ++ qs.drop k) M ∧ OwnQ wr N1 qk M.devs ∧ Below w.heap.size w wr) (fun i _ => n5 - (intOf i).toNat)
 case atStart => exact ⟨0, [], Nat.zero_le _, rfl, rfl, by simpa using HM.out, fun j q s h => by simp at h, HB.out⟩
 case round =>
  obtain ⟨k, qk, hk, hql, rfl, hm, hoq, hb⟩ := hrel
  have HM1 := zhd hm; have HOQ := zhd hoq; have HB1 := zhd hb
  clear hm hoq hb
  by_cases hlt : k < n5
  · obtain ⟨g, c, cur, e2, hgc, hgb⟩ := zcb HM1.out.devs (by rw [HN5.out]; omega)
    injection e2 with e3 e4 e5
    subst e3 e5
    clear e4
    have hkd : k < M.devs.length := by rw [HN5.out]; exact hlt
    have hkq : k < qs.length := by rw [HQL.out]; exact hlt
    have hcell : wr.cell? ⟨g, k * 8 + 5, none⟩ = some qs[k] := by
     have h0 : k * 8 + 5 < M.devs.length * 8 := by omega
     have hd := HM1.out.devs
     rw [HN5.out] at hd h0
     have h1 := hd.cellAt (k * 8 + 5) h0
     rw [h1, zaY (fun y _ => zef y) (i := k) (x := (M.devs[k], qs[k])) (by rw [List.getElem?_zip_eq_some]; exact ⟨List.getElem?_eq_getElem hkd, by rw [List.getElem?_append_right (by omega), hql, Nat.sub_self]; simp [hkq]⟩) (by decide)]
     rfl
    have hrd := HQ.out.2 k qs[k] M.devs[k] (by simp [hkq]) (by simp [hkd])
    obtain ⟨aq, cq, eq⟩ := hrd.shape
    rw [eq] at hcell hrd
    have HRD := zhd hrd
    have hq16 := (HI.out M.devs[k] (List.getElem_mem _)).q
    have HDK : Hid (M.devs[k]? = some M.devs[k]) := zhd (by simp [hkd])
    have hgN := zao hgc
    have HGC := zhd hgc; have HCE := zhd hcell
    have HLT := zao HM1.out.at_
    clear hrd eq hcell hgc hgb
    generalize M.devs[k] = D at *
    have lenD : D.q.length ≤ 1000 := by omega
    go_wp2_with fail
    refine zaL (fun w' => (w.heap.size < w'.heap.size ∧ w'.heap[w.heap.size]? = some (.cells #[.slice x1 n1 y1, .slice x2 n2 y2, .slice x3 n3 y3, .slice b1 l1 d1, .slice b2 l2 d2, .slice b3 l3 d3, .slice (some ⟨g, 0, none⟩) n5 y5, .slice x6 n6 y6, .slice x7 n7 y7] 37 (0, 0))) ∧ g < w'.heap.size ∧ w'.heap[g]? = some (.cells cur 75 (0, 0))) 10 [true, true, true, true, true, true, true, true, true] (by kernel_rfl) (by kernel_rfl) (by kernel_rfl) (fun w1 w2 h hu => ⟨⟨Nat.lt_of_lt_of_le h.1.1 hu.size, zaq hu h.1.1 h.1.2⟩, Nat.lt_of_lt_of_le h.2.1 hu.size, zaq hu h.2.1 h.2.2⟩) ⟨⟨HLT, HM1.out.at_⟩, hgN, HGC.out⟩ ?a3 ?h3 ?ht3
    case h3 =>
     intro w0 ⟨⟨hlt, hcs⟩, hlg, hcg⟩
     obtain ⟨k0, k1, k2, k3, k4, k5, k6, k7, k8⟩ := zam hcs
     have hce : w0.cell? ⟨g, k * 8 + 5, none⟩ = some (.slice aq D.q.length cq) := by
      have := HCE.out
      simp only [World.cell?, HGC.out] at this
      simp only [World.cell?, hcg]
      exact this
     have x6' := fun x => zal hlt k6 x
     have xq := fun x => zal hlg hce x
     clear k0 k1 k2 k3 k4 k5 k6 k7 k8 hcs hcg hce
     simp only [zbb]
     repeat (go_big_quiet_step (fail))
     refine wpQuiet_nil ?_
     rfl
    case ht3 =>
     change zbO _ _ _ _ _ _ 1 _ _ _
     refine zaz (i := 9) (by kernel_rfl) (by decide) rfl ?_
     intro w1 hu1' ⟨⟨hl1, hx1⟩, hl2, hx2⟩
     have hu1 : Below wr.heap.size wr w1 := (by repeat (first | (with_reducible first | exact Below.refl _ _ | refine zaj ?_ ?_ _ | apply zag | refine zae ?_ (by assumption) | apply zak) | omega))
     have M1 := zhd (HM1.out.below hu1)
     have Q1 := zhd (HOQ.out.below hu1)
     have B1 := zhd (zae HB1.out hu1)
     clear hu1 hu1'
     go_wp2_with fail
     refine (zbi _ _ _ _ (HRD.out.below B1.out) (by omega)).mono ?_
     rintro e w2 ⟨r, rfl, hor, hb2⟩
     obtain ⟨xr, yr, rfl⟩ := zai hor
     have HOR := zhd (za0 hor M1.out.le)
     have hy1 := zaf hb2 hx1; have hy2 := zaf hb2 hx2
     have M2 := zhd (M1.out.below hb2)
     have Q2 := zhd (Q1.out.below hb2)
     have B2 := zhd (zae B1.out hb2)
     clear hor hb2
     go_wp2_with fail
     refine ⟨⟨⟨zao hy1, hy1⟩, zao hy2, hy2⟩, ?_⟩
     refine zaO (by kernel_rfl) ?_
     intro w3 hu3 ⟨⟨hl3, hx3⟩, hl4, hx4⟩
     have M3 := zhd (M2.out.below hu3)
     have Q3 := zhd (Q2.out.below hu3)
     have B3 := zhd (zae B2.out hu3)
     have OR3 := zhd (zab HOR.out hu3)
     have hce : w3.cell? ⟨g, k * 8 + 5, none⟩ = some (.slice aq D.q.length cq) := by
      have := HCE.out
      simp only [World.cell?, HGC.out] at this
      simp only [World.cell?, hx4]
      exact this
     have hfz := zaa hx4 (k * 8 + 5)
     have P3 := zhd (M3.out.que (g := g) rfl hkd (.slice xr D.q.length yr))
     have HX4 := zhd hx4
     clear hu3 hx1 hx2 hx3 hx4 hy1 hy2
     simp only [List.drop_succ_cons, List.drop_zero]
     go_wp2_with fail
     go_roundw
     case rel =>
      refine ⟨k + 1, qk ++ [.slice xr D.q.length yr], by omega, by simp; omega, by go_num, ?_, ?_, zaj B3.out (by have := HM1.out.devs; exact (this.lt g rfl).1) _⟩
      · have := P3.out
        have e : (qk ++ qs.drop k).set k (.slice xr D.q.length yr) = qk ++ [.slice xr D.q.length yr] ++ qs.drop (k + 1) := by
         rw [List.set_append_right _ _ (by omega), hql, Nat.sub_self, List.drop_eq_getElem_cons hkq, List.set_cons_zero, List.append_assoc]; rfl
        rw [e] at this
        exact this
      · exact OwnQ.but (OwnQ.push Q3.out (s := D) (by rw [hql]; exact HDK.out) OR3.out) (zby _ _ _ _) HX4.out (by decide)
     case measure => simp [intOf]; omega
  · have hkn : k = n5 := by omega
    subst hkn
    obtain ⟨wd, hwd⟩ : ∃ x, x = wr := ⟨_, rfl⟩
    subst hwd
    have HM2 : Hid (Mid wd w.heap.size N1 w.heap.size (.slice x1 n1 y1) (.slice x2 n2 y2) (.slice x3 n3 y3) (.slice b1 l1 d1) (.slice b2 l2 d2) (.slice b3 l3 d3) (.slice x5 k y5) (.slice x6 n6 y6) (.slice x7 n7 y7) qk M) := zhd (by
     have := HM1.out
     rwa [List.drop_eq_nil_of_le (by rw [HQL.out]; exact Nat.le_refl _), List.append_nil] at this)
    clear HM1
    have hlt0 := zao HM2.out.at_
    go_upto_region 8 with (fail)
    go_cut [] (fun wx => ∃ z1 u1 z3 u3, Mid wx w.heap.size N1 w.heap.size (.slice x1 n1 y1) (.slice x2 n2 y2) (.slice x3 n3 y3) (.slice z1 l1 u1) (.slice b2 l2 d2) (.slice z3 l3 u3) (.slice x5 k y5) (.slice x6 n6 y6) (.slice x7 n7 y7) qk M ∧ wx.ownsRow N1 3 1 (.slice z1 l1 u1) l1 (intC M.mem.words) ∧ wx.ownsRow N1 3 1 (.slice z3 l3 u3) l3 (intC M.mem.res) ∧ OwnQ wx N1 qk M.devs ∧ Below w.heap.size w wx)
    case first =>
     refine zaL (fun w' => w.heap.size < w'.heap.size ∧ w'.heap[w.heap.size]? = some (.cells #[.slice x1 n1 y1, .slice x2 n2 y2, .slice x3 n3 y3, .slice b1 l1 d1, .slice b2 l2 d2, .slice b3 l3 d3, .slice x5 k y5, .slice x6 n6 y6, .slice x7 n7 y7] 37 (0, 0))) 10 [true, true, true, false, true, true, true] (by kernel_rfl) (by kernel_rfl) (by kernel_rfl) (fun w1 w2 h hu => ⟨Nat.lt_of_lt_of_le h.1 hu.size, zaq hu h.1 h.2⟩) ⟨hlt0, HM2.out.at_⟩ ?a4 ?h4 ?ht4
     case h4 =>
      intro w0 ⟨hlt, hcs⟩
      obtain ⟨k0, k1, k2, k3, k4, k5, k6, k7, k8⟩ := zam hcs
      have x3' := fun x => zal hlt k3 x
      have x5' := fun x => zal hlt k5 x
      clear k0 k1 k2 k3 k4 k5 k6 k7 k8 hcs
      simp only [zbb]
      repeat (go_big_quiet_step (fail))
      refine wpQuiet_nil ?_
      rfl
     case ht4 =>
      change zbO _ _ _ _ _ _ 4 _ _ _
      have HBd : Hid (Below w.heap.size w wd.drew) := zhd (zak HB1.out)
      have HMd := zhd (HM2.out.below (zak (Below.refl _ wd)))
      have HQd := zhd (HOQ.out.below (zak (Below.refl _ wd)))
      refine zaz (i := 3) (by kernel_rfl) (by decide) rfl ?_
      intro w21 hu21 ⟨hl21, hx21⟩
      have B_21 := zhd (zae HBd.out hu21)
      clear HBd
      have A_21 := zhd ((HMd.out).below hu21)
      clear HMd
      have Q_21 := zhd ((HQd.out).below hu21)
      clear HQd
      go_wp2_with fail
      refine (zbi _ _ _ _ (G1.out.below B_21.out) (by omega)).mono ?_
      rintro e v21 ⟨rG1, rfl, hoG1, hb21⟩
      obtain ⟨xG1, yG1, rfl⟩ := zai hoG1
      have HRG1 := zhd hoG1
      have szG1 := hb21.size
      have nl21 := A_21.out.le
      have B_21b := zhd (zae B_21.out hb21)
      clear B_21
      have A_21b := zhd ((A_21.out).below hb21)
      clear A_21
      have Q_21b := zhd ((Q_21.out).below hb21)
      clear Q_21
      have OG1 := zhd (za0 hoG1 (nl21))
      clear hoG1
      have SZ : Hid (v21.heap.size ≤ v21.heap.size) := zhd (Nat.le_refl _)
      go_wp2_with fail
      refine ⟨⟨Nat.lt_of_lt_of_le hl21 hb21.size, zaf hb21 hx21⟩, ?_⟩
      refine zcw (i := 7) (k := 8) (by kernel_rfl) (by decide) (by decide) rfl rfl ?_ ?_
      · intro w22 hu22 ⟨hl22, hx22⟩
        have B_22 := zhd (zae B_21b.out hu22)
        clear B_21b
        have A_22 := zhd ((A_21b.out).below hu22)
        clear A_21b
        have Q_22 := zhd ((Q_21b.out).below hu22)
        clear Q_21b
        have oG1_22 := zhd (zab OG1.out hu22)
        clear OG1
        have s_22 := zhd (Nat.le_trans SZ.out (hu22).size)
        clear SZ
        go_wp2_with fail
        refine (zbi _ _ _ _ (G3.out.below B_22.out) (by omega)).mono ?_
        rintro e v22 ⟨rG3, rfl, hoG3, hb22⟩
        obtain ⟨xG3, yG3, rfl⟩ := zai hoG3
        have HRG3 := zhd hoG3
        have szG3 := hb22.size
        have nl22 := A_22.out.le
        have szz := (s_22).out
        have B_22b := zhd (zae B_22.out hb22)
        clear B_22
        have A_22b := zhd ((A_22.out).below hb22)
        clear A_22
        have Q_22b := zhd ((Q_22.out).below hb22)
        clear Q_22
        have oG1_22b := zhd (zab oG1_22.out hb22)
        clear oG1_22
        have s_22b := zhd (Nat.le_trans s_22.out (hb22).size)
        clear s_22
        have OG3 := zhd (za0 hoG3 (nl22))
        clear hoG3
        go_wp2_with fail
        refine ⟨⟨Nat.lt_of_lt_of_le hl22 hb22.size, zaf hb22 hx22⟩, ?_⟩
        refine zaz (i := 8) (by kernel_rfl) (by decide) rfl ?_
        intro w23 hu23 ⟨hl23, hx23⟩
        have B_23 := zhd (zae B_22b.out hu23)
        clear B_22b
        have A_23 := zhd ((A_22b.out).below hu23)
        clear A_22b
        have Q_23 := zhd ((Q_22b.out).below hu23)
        clear Q_22b
        have oG1_23 := zhd (zab oG1_22b.out hu23)
        clear oG1_22b
        have s_23 := zhd (Nat.le_trans s_22b.out (hu23).size)
        clear s_22b
        have oG3_23 := zhd (zab OG3.out hu23)
        clear OG3
        go_wp2_with fail
        refine ⟨⟨hl23, hx23⟩, ?_⟩
        refine zaz (i := 9) (by kernel_rfl) (by decide) rfl ?_
        intro w24 hu24 ⟨hl24, hx24⟩
        have B_24 := zhd (zae B_23.out hu24)
        clear B_23
        have A_24 := zhd ((A_23.out).below hu24)
        clear A_23
        have Q_24 := zhd ((Q_23.out).below hu24)
        clear Q_23
        have oG1_24 := zhd (zab oG1_23.out hu24)
        clear oG1_23
        have s_24 := zhd (Nat.le_trans s_23.out (hu24).size)
        clear s_23
        have oG3_24 := zhd (zab oG3_23.out hu24)
        clear oG3_23
        go_wp2_with fail
        refine ⟨⟨hl24, hx24⟩, ?_⟩
        refine zaO (by kernel_rfl) ?_
        intro w25 hu25 ⟨hl25, hx25⟩
        have B_25 := zhd (zae B_24.out hu25)
        clear B_24
        have A_25 := zhd ((A_24.out).below hu25)
        clear A_24
        have Q_25 := zhd ((Q_24.out).below hu25)
        clear Q_24
        have oG1_25 := zhd (zab oG1_24.out hu25)
        clear oG1_24
        have s_25 := zhd (Nat.le_trans s_24.out (hu25).size)
        clear s_24
        have oG3_25 := zhd (zab oG3_24.out hu25)
        clear oG3_24
        obtain ⟨k0, k1, k2, k3, k4, k5, k6, k7, k8⟩ := zam hx25
        have f0 := zaa hx25 0
        have f1 := zaa hx25 1
        have f2 := zaa hx25 2
        have f3 := zaa hx25 3
        have f4 := zaa hx25 4
        have f5 := zaa hx25 5
        have f6 := zaa hx25 6
        have f7 := zaa hx25 7
        have f8 := zaa hx25 8
        have HX := zhd hx25; clear hx25 hu25
        simp only [List.drop_succ_cons, List.drop_zero]
        go_wp2_with fail
        go_meet
        case rel => exact ⟨_, _, _, _, A_25.out.cells (but2 _ _ 3 5 _ _) (by simpa using zaG (zaG HX.out 3 _) 5 _), zas oG1_25.out (but2 _ _ 3 5 _ _) (zar oG1_25.out HX.out (by decide)), zas oG3_25.out (but2 _ _ 3 5 _ _) (zar oG3_25.out HX.out (by decide)), OwnQ.but Q_25.out (but2 _ _ 3 5 _ _) HX.out (by decide), zaj (zaj B_25.out (Nat.le_refl _) _) (Nat.le_refl _) _⟩
      · intro w22 hu22 ⟨hl22, hx22⟩
        have B_22 := zhd (zae B_21b.out hu22)
        clear B_21b
        have A_22 := zhd ((A_21b.out).below hu22)
        clear A_21b
        have Q_22 := zhd ((Q_21b.out).below hu22)
        clear Q_21b
        have oG1_22 := zhd (zab OG1.out hu22)
        clear OG1
        have s_22 := zhd (Nat.le_trans SZ.out (hu22).size)
        clear SZ
        go_wp2_with fail
        refine ⟨⟨hl22, hx22⟩, ?_⟩
        refine zcw (i := 7) (k := 9) (by kernel_rfl) (by decide) (by decide) rfl rfl ?_ ?_
        · intro w23 hu23 ⟨hl23, hx23⟩
          have B_23 := zhd (zae B_22.out hu23)
          clear B_22
          have A_23 := zhd ((A_22.out).below hu23)
          clear A_22
          have Q_23 := zhd ((Q_22.out).below hu23)
          clear Q_22
          have oG1_23 := zhd (zab oG1_22.out hu23)
          clear oG1_22
          have s_23 := zhd (Nat.le_trans s_22.out (hu23).size)
          clear s_22
          go_wp2_with fail
          refine (zbi _ _ _ _ (G3.out.below B_23.out) (by omega)).mono ?_
          rintro e v23 ⟨rG3, rfl, hoG3, hb23⟩
          obtain ⟨xG3, yG3, rfl⟩ := zai hoG3
          have HRG3 := zhd hoG3
          have szG3 := hb23.size
          have nl23 := A_23.out.le
          have szz := (s_23).out
          have B_23b := zhd (zae B_23.out hb23)
          clear B_23
          have A_23b := zhd ((A_23.out).below hb23)
          clear A_23
          have Q_23b := zhd ((Q_23.out).below hb23)
          clear Q_23
          have oG1_23b := zhd (zab oG1_23.out hb23)
          clear oG1_23
          have s_23b := zhd (Nat.le_trans s_23.out (hb23).size)
          clear s_23
          have OG3 := zhd (za0 hoG3 (nl23))
          clear hoG3
          go_wp2_with fail
          refine ⟨⟨Nat.lt_of_lt_of_le hl23 hb23.size, zaf hb23 hx23⟩, ?_⟩
          refine zaz (i := 9) (by kernel_rfl) (by decide) rfl ?_
          intro w24 hu24 ⟨hl24, hx24⟩
          have B_24 := zhd (zae B_23b.out hu24)
          clear B_23b
          have A_24 := zhd ((A_23b.out).below hu24)
          clear A_23b
          have Q_24 := zhd ((Q_23b.out).below hu24)
          clear Q_23b
          have oG1_24 := zhd (zab oG1_23b.out hu24)
          clear oG1_23b
          have s_24 := zhd (Nat.le_trans s_23b.out (hu24).size)
          clear s_23b
          have oG3_24 := zhd (zab OG3.out hu24)
          clear OG3
          go_wp2_with fail
          refine ⟨⟨hl24, hx24⟩, ?_⟩
          refine zaO (by kernel_rfl) ?_
          intro w25 hu25 ⟨hl25, hx25⟩
          have B_25 := zhd (zae B_24.out hu25)
          clear B_24
          have A_25 := zhd ((A_24.out).below hu25)
          clear A_24
          have Q_25 := zhd ((Q_24.out).below hu25)
          clear Q_24
          have oG1_25 := zhd (zab oG1_24.out hu25)
          clear oG1_24
          have s_25 := zhd (Nat.le_trans s_24.out (hu25).size)
          clear s_24
          have oG3_25 := zhd (zab oG3_24.out hu25)
          clear oG3_24
          obtain ⟨k0, k1, k2, k3, k4, k5, k6, k7, k8⟩ := zam hx25
          have f0 := zaa hx25 0
          have f1 := zaa hx25 1
          have f2 := zaa hx25 2
          have f3 := zaa hx25 3
          have f4 := zaa hx25 4
          have f5 := zaa hx25 5
          have f6 := zaa hx25 6
          have f7 := zaa hx25 7
          have f8 := zaa hx25 8
          have HX := zhd hx25; clear hx25 hu25
          simp only [List.drop_succ_cons, List.drop_zero]
          go_wp2_with fail
          go_meet
          case rel => exact ⟨_, _, _, _, A_25.out.cells (but2 _ _ 3 5 _ _) (by simpa using zaG (zaG HX.out 3 _) 5 _), zas oG1_25.out (but2 _ _ 3 5 _ _) (zar oG1_25.out HX.out (by decide)), zas oG3_25.out (but2 _ _ 3 5 _ _) (zar oG3_25.out HX.out (by decide)), OwnQ.but Q_25.out (but2 _ _ 3 5 _ _) HX.out (by decide), zaj (zaj B_25.out (Nat.le_refl _) _) (Nat.le_refl _) _⟩
        · intro w23 hu23 ⟨hl23, hx23⟩
          have B_23 := zhd (zae B_22.out hu23)
          clear B_22
          have A_23 := zhd ((A_22.out).below hu23)
          clear A_22
          have Q_23 := zhd ((Q_22.out).below hu23)
          clear Q_22
          have oG1_23 := zhd (zab oG1_22.out hu23)
          clear oG1_22
          have s_23 := zhd (Nat.le_trans s_22.out (hu23).size)
          clear s_22
          go_wp2_with fail
          refine ⟨⟨hl23, hx23⟩, ?_⟩
          refine zaz (i := 7) (by kernel_rfl) (by decide) rfl ?_
          intro w24 hu24 ⟨hl24, hx24⟩
          have B_24 := zhd (zae B_23.out hu24)
          clear B_23
          have A_24 := zhd ((A_23.out).below hu24)
          clear A_23
          have Q_24 := zhd ((Q_23.out).below hu24)
          clear Q_23
          have oG1_24 := zhd (zab oG1_23.out hu24)
          clear oG1_23
          have s_24 := zhd (Nat.le_trans s_23.out (hu24).size)
          clear s_23
          go_wp2_with fail
          refine (zbi _ _ _ _ (G3.out.below B_24.out) (by omega)).mono ?_
          rintro e v24 ⟨rG3, rfl, hoG3, hb24⟩
          obtain ⟨xG3, yG3, rfl⟩ := zai hoG3
          have HRG3 := zhd hoG3
          have szG3 := hb24.size
          have nl24 := A_24.out.le
          have szz := (s_24).out
          have B_24b := zhd (zae B_24.out hb24)
          clear B_24
          have A_24b := zhd ((A_24.out).below hb24)
          clear A_24
          have Q_24b := zhd ((Q_24.out).below hb24)
          clear Q_24
          have oG1_24b := zhd (zab oG1_24.out hb24)
          clear oG1_24
          have s_24b := zhd (Nat.le_trans s_24.out (hb24).size)
          clear s_24
          have OG3 := zhd (za0 hoG3 (nl24))
          clear hoG3
          go_wp2_with fail
          refine ⟨⟨Nat.lt_of_lt_of_le hl24 hb24.size, zaf hb24 hx24⟩, ?_⟩
          refine zaO (by kernel_rfl) ?_
          intro w25 hu25 ⟨hl25, hx25⟩
          have B_25 := zhd (zae B_24b.out hu25)
          clear B_24b
          have A_25 := zhd ((A_24b.out).below hu25)
          clear A_24b
          have Q_25 := zhd ((Q_24b.out).below hu25)
          clear Q_24b
          have oG1_25 := zhd (zab oG1_24b.out hu25)
          clear oG1_24b
          have s_25 := zhd (Nat.le_trans s_24b.out (hu25).size)
          clear s_24b
          have oG3_25 := zhd (zab OG3.out hu25)
          clear OG3
          obtain ⟨k0, k1, k2, k3, k4, k5, k6, k7, k8⟩ := zam hx25
          have f0 := zaa hx25 0
          have f1 := zaa hx25 1
          have f2 := zaa hx25 2
          have f3 := zaa hx25 3
          have f4 := zaa hx25 4
          have f5 := zaa hx25 5
          have f6 := zaa hx25 6
          have f7 := zaa hx25 7
          have f8 := zaa hx25 8
          have HX := zhd hx25; clear hx25 hu25
          simp only [List.drop_succ_cons, List.drop_zero]
          go_wp2_with fail
          go_meet
          case rel => exact ⟨_, _, _, _, A_25.out.cells (but2 _ _ 3 5 _ _) (by simpa using zaG (zaG HX.out 3 _) 5 _), zas oG1_25.out (but2 _ _ 3 5 _ _) (zar oG1_25.out HX.out (by decide)), zas oG3_25.out (but2 _ _ 3 5 _ _) (zar oG3_25.out HX.out (by decide)), OwnQ.but Q_25.out (but2 _ _ 3 5 _ _) HX.out (by decide), zaj (zaj B_25.out (Nat.le_refl _) _) (Nat.le_refl _) _⟩
    case rest =>
    obtain ⟨z1, u1, z3, u3, hM, ho1, ho3, hq, hB⟩ := hcut
    obtain ⟨we, hwe⟩ : ∃ x, x = wc := ⟨_, rfl⟩
    subst hwe
    have HM := zhd hM; have HB := zhd hB; have O1 := zhd ho1; have O3 := zhd ho3; have OQ := zhd hq
    clear hM hB ho1 ho3 hq
    obtain ⟨k0, k1, k2, k3, k4, k5, k6, k7, k8⟩ := zam HM.out.at_
    go_wp2_with fail
    refine (zkF _ l2 rows _ (G2.out.below HB.out) (by omega)).mono ?_
    rintro e w2 ⟨r, rfl, hor, hb2⟩
    obtain ⟨x4, y4, rfl⟩ := zai hor
    have R0 := zhd (za0 hor HM.out.le)
    have M2 := zhd (HM.out.below hb2); have B2 := zhd (zae HB.out hb2); have P1 := zhd (zab O1.out hb2); have P3 := zhd (zab O3.out hb2); have PQ := zhd (OQ.out.below hb2)
    clear hor hb2 k0 k1 k2 k3 k4 k5 k6 k7 k8 O1 O3 OQ HB HM
    obtain ⟨k0, k1, k2, k3, k4, k5, k6, k7, k8⟩ := zam M2.out.at_
    have f4 := zaa M2.out.at_ 4
    go_wp2_with fail
    clear k0 k1 k2 k3 k4 k5 k6 k7 k8 f4
    go_loopw [71] (fun i wr => ∃ (k' : Nat) (rk : List Value), k' ≤ l2 ∧ rk.length = k' ∧ i = .int .i64 k' ∧ Mid wr w.heap.size N1 w.heap.size (.slice x1 n1 y1) (.slice x2 n2 y2) (.slice x3 n3 y3) (.slice z1 l1 u1) (.slice x4 l2 y4) (.slice z3 l3 u3) (.slice x5 k y5) (.slice x6 n6 y6) (.slice x7 n7 y7) qk M ∧
     wr.ownsRow N1 57 1 (.slice x4 l2 y4) l2 (rk ++ rows.drop k') ∧ OwnE wr N1 rk M.mem.pend ∧ OwnQ wr N1 qk M.devs ∧ wr.ownsRow N1 3 1 (.slice z1 l1 u1) l1 (intC M.mem.words) ∧ wr.ownsRow N1 3 1 (.slice z3 l3 u3) l3 (intC M.mem.res) ∧ Below w.heap.size w wr) (fun i _ => l2 - (intOf i).toNat)
    case atStart =>
     have K := zby w2 w.heap.size 4 (.slice x4 l2 y4)
     have hx := M2.out.at_
     exact ⟨0, [], Nat.zero_le _, rfl, rfl, M2.out.cells K (by simpa using zaG hx 4 _), zas R0.out K (zar R0.out hx (by decide)), fun j r l h => by simp at h, OwnQ.but PQ.out K hx (by decide), zas P1.out K (zar P1.out hx (by decide)), zas P3.out K (zar P3.out hx (by decide)), zaj B2.out (Nat.le_refl _) _⟩
    case round =>
     obtain ⟨k', rk, hk, hrl, rfl, hm, hr, hoe, hoq, ho1, ho3, hb⟩ := hrel
     have HM := zhd hm; have HR := zhd hr; have HE := zhd hoe; have HOQ2 := zhd hoq; have O1 := zhd ho1; have O3 := zhd ho3; have HB3 := zhd hb
     clear hm hr hoe hoq ho1 ho3 hb M2 B2 P1 P3 PQ R0
     by_cases hlt : k' < l2
     · obtain ⟨g, c, cur, e2, hgc, hgb⟩ := zcb HR.out (by omega)
       injection e2 with e3 e4 e5
       subst e3 e5
       clear e4
       have hkp : k' < M.mem.pend.length := by rw [HL2.out]; exact hlt
       have hkr : k' < rows.length := by rw [G4.out.1]; exact hkp
       have hcl : wr.cell? ⟨g, k', none⟩ = some rows[k'] := by
        have h0 : k' < l2 * 1 := by omega
        rw [HR.out.cellAt k' h0, List.getElem?_append_right (by omega), hrl, Nat.sub_self]
        simp [hkr]
       have hrow := G4.out.2 k' rows[k'] M.mem.pend[k'] (by simp) (by simp)
       obtain ⟨ra, rc, hrs⟩ := zai hrow
       rw [hrs] at hcl hrow
       have HRR := zhd (Reads.own hrow (zdb _))
       have hl8 := HS.out M.mem.pend[k'] (by simp)
       have HPK : Hid (M.mem.pend[k']? = some M.mem.pend[k']) := zhd (by simp [hkp])
       have HGC := zhd hgc
       have HLT := zao HM.out.at_
       have hgN := zao hgc
       have hgw := hgb
       clear hrow hrs hgc hgb
       generalize M.mem.pend[k'] = L at *
       go_wp2_with fail
       refine zaL (fun w' => (w.heap.size < w'.heap.size ∧ w'.heap[w.heap.size]? = some (.cells #[.slice x1 n1 y1, .slice x2 n2 y2, .slice x3 n3 y3, .slice z1 l1 u1, .slice (some ⟨g, 0, none⟩) l2 y4, .slice z3 l3 u3, .slice x5 k y5, .slice x6 n6 y6, .slice x7 n7 y7] 37 (0, 0))) ∧ g < w'.heap.size ∧ w'.heap[g]? = some (.cells cur 57 (0, 0))) 6 [true, true, true, true, true] (by kernel_rfl) (by kernel_rfl) (by kernel_rfl) (fun w1 w2 h hu => ⟨⟨Nat.lt_of_lt_of_le h.1.1 hu.size, zaq hu h.1.1 h.1.2⟩, Nat.lt_of_lt_of_le h.2.1 hu.size, zaq hu h.2.1 h.2.2⟩) ⟨⟨HLT, HM.out.at_⟩, hgN, HGC.out⟩ ?a5 ?h5 ?ht5
       case h5 =>
        intro w0 ⟨⟨hlt, hcs⟩, _⟩
        obtain ⟨k0, k1, k2, k3, k4, k5, k6, k7, k8⟩ := zam hcs
        have x4' := fun x => zal hlt k4 x
        clear k0 k1 k2 k3 k4 k5 k6 k7 k8 hcs
        simp only [zbb]
        repeat (go_big_quiet_step (fail))
        refine wpQuiet_nil ?_
        rfl
       case ht5 =>
        change zbO _ _ _ _ _ _ 1 _ _ _
        refine zaz (i := 5) (by kernel_rfl) (by decide) rfl ?_
        intro w1 hu1' ⟨⟨hl1, hx1⟩, hl2, hx2⟩
        have hu1 : Below wr.heap.size wr w1 := (by repeat (first | (with_reducible first | exact Below.refl _ _ | refine zaj ?_ ?_ _ | apply zag | refine zae ?_ (by assumption) | apply zak) | omega))
        have M1 := zhd (HM.out.below hu1); have R1 := zhd (zab HR.out hu1); have E1 := zhd (HE.out.below hu1); have Q1 := zhd (HOQ2.out.below hu1); have A1 := zhd (zab O1.out hu1); have A3 := zhd (zab O3.out hu1)
        have B1 := zhd (zae HB3.out hu1)
        clear hu1 hu1'
        go_wp2_with fail
        refine (zh1 _ _ _ _ (HRR.out.below B1.out) (by omega)).mono ?_
        rintro e w2 ⟨r, rfl, hor, hb2⟩
        obtain ⟨xr, yr, rfl⟩ := zai hor
        have HOR := zhd (za0 hor M1.out.le)
        have hy1 := zaf hb2 hx1; have hy2 := zaf hb2 hx2
        have M2 := zhd (M1.out.below hb2); have R2 := zhd (zab R1.out hb2); have E2 := zhd (E1.out.below hb2); have Q2 := zhd (Q1.out.below hb2); have A1' := zhd (zab A1.out hb2); have A3' := zhd (zab A3.out hb2)
        have B2 := zhd (zae B1.out hb2)
        clear hor hb2
        go_wp2_with fail
        refine ⟨⟨⟨zao hy1, hy1⟩, zao hy2, hy2⟩, ?_⟩
        refine zaO (by kernel_rfl) ?_
        intro w3 hu3 ⟨⟨hl3, hx3⟩, hl4, hx4⟩
        have M3 := zhd (M2.out.below hu3); have R3 := zhd (zab R2.out hu3); have E3 := zhd (E2.out.below hu3); have Q3 := zhd (Q2.out.below hu3); have C1 := zhd (zab A1'.out hu3); have C3 := zhd (zab A3'.out hu3)
        have B3 := zhd (zae B2.out hu3)
        have OR3 := zhd (zab HOR.out hu3)
        have hce : w3.cell? ⟨g, k', none⟩ = some (.slice ra L.length rc) := by
         simp only [World.cell?, HGC.out] at hcl
         simp only [World.cell?, hx4]
         exact hcl
        have hfz := zaa hx4 k'
        have HX4 := zhd hx4
        clear hu3 hx1 hx2 hx3 hx4 hy1 hy2 hcl
        simp only [List.drop_succ_cons, List.drop_zero]
        go_wp2_with fail
        go_roundw
        case rel =>
         have K := zby w3 g k' (.slice xr L.length yr)
         have hx := HX4.out
         refine ⟨k' + 1, rk ++ [.slice xr L.length yr], by omega, by simp; omega, by go_num, M3.out.ents K hx, ?_, OwnE.but (OwnE.push E3.out (s := L) (by rw [hrl]; exact HPK.out) OR3.out) K hx (by decide), OwnQ.but Q3.out K hx (by decide), zas C1.out K (zar C1.out hx (by decide)), zas C3.out K (zar C3.out hx (by decide)), zaj B3.out (by have := (R3.out.lt g rfl).1; have := HN1c.out; omega) _⟩
         have := (World.ownsRow.stored R3.out k' (.slice xr L.length yr)).1
         have e : (rk ++ rows.drop k').set k' (.slice xr L.length yr) = rk ++ [.slice xr L.length yr] ++ rows.drop (k' + 1) := by
          rw [List.set_append_right _ _ (by omega), hrl, Nat.sub_self, List.drop_eq_getElem_cons hkr, List.set_cons_zero, List.append_assoc]; rfl
         rw [e] at this
         exact this
        case measure => simp [intOf]; omega
     · have hkn : k' = l2 := by omega
       subst hkn
       obtain ⟨k0, k1, k2, k3, k4, k5, k6, k7, k8⟩ := zam HM.out.at_
       have HF := zhd (HM.out.own HOQ2.out (by rw [HL1.out]; exact O1.out) (by rw [HL2.out]; have := HR.out; rwa [List.drop_eq_nil_of_le (by rw [G4.out.1, HL2.out]; exact Nat.le_refl _), List.append_nil] at this) (by rw [HL3.out]; exact O3.out) HE.out HB3.out rfl)
       go_wp2_with fail
       go_ret
       exact ⟨_, _, _, _, _, _, _, _, _, _, _, rfl, HF.out.1, HF.out.2, zag HB3.out _⟩
end
section
open Go.RowKit
set_option maxRecDepth 100000
section
variable {w w' : World} {B p : Nat} {wv hv ev m1 m2 m3 dv lv tv : Value} {qs : List Value} {M : Mac}
theorem OwnMac.shapes (h : OwnMac w B p wv hv ev m1 m2 m3 dv lv tv qs M) : ∃ a1 c1 a2 c2 a3 c3 b1 d1 b2 d2 b3 d3 a5 c5 a6 c6 a7 c7, wv = .slice a1 M.words.length c1 ∧ hv = .slice a2 M.harts.length c2 ∧ ev = .slice a3 M.ends.length c3 ∧ m1 = .slice b1 M.mem.words.length d1 ∧ m2 = .slice b2 M.mem.pend.length d2 ∧ m3 = .slice b3 M.mem.res.length d3 ∧ dv = .slice a5 M.devs.length c5 ∧ lv = .slice a6 M.lines.length c6 ∧ tv = .slice a7 M.trace.length c7 := by
 obtain ⟨a1, c1, e1⟩ := zai h.parts.words
 obtain ⟨a2, c2, e2⟩ := zai h.parts.harts
 obtain ⟨a3, c3, e3⟩ := zai h.parts.ends
 obtain ⟨a5, c5, e5⟩ := zai h.parts.devs
 obtain ⟨a6, c6, e6⟩ := zai h.parts.lines
 obtain ⟨a7, c7, e7⟩ := zai h.parts.trace
 obtain ⟨b1, d1, b2, d2, b3, d3, rows, em, _⟩ := h.parts.mem.parts
 injection em with em
 have f1 : m1 = .slice b1 M.mem.words.length d1 := by have := congrArg (·[0]?) em; simpa using this
 have f2 : m2 = .slice b2 M.mem.pend.length d2 := by have := congrArg (·[1]?) em; simpa using this
 have f3 : m3 = .slice b3 M.mem.res.length d3 := by have := congrArg (·[2]?) em; simpa using this
 exact ⟨a1, c1, a2, c2, a3, c3, b1, d1, b2, d2, b3, d3, a5, c5, a6, c6, a7, c7, e1, e2, e3, f1, f2, f3, e5, e6, e7⟩
theorem Parts.hart (h : Parts w B wv hv ev m1 m2 m3 dv lv tv qs M) (hr : ∀ x ∈ M.harts, x.r.length = 32) {i : Nat} (hi : i < M.harts.length) : ∃ g c cur, hv = .slice (some ⟨g, 0, none⟩) M.harts.length c ∧ w.heap[g]? = some (.cells cur 56 (0, 0)) ∧ B ≤ g ∧ w.rangeAt g (i * 39) (hC M.harts[i]) ∧ w.there g (i * 39) 39 := by
 obtain ⟨g, c, cur, e, hg, hb⟩ := zcb h.harts (by omega)
 refine ⟨g, c, cur, e, hg, hb, ?_, zhC h.harts e hi⟩
 exact zfF h.harts e hi (zeC (hr _ (List.getElem_mem _))) fun j hj => zaY (fun y hy => zeC (hr y hy)) (List.getElem?_eq_getElem hi) hj
theorem zbM {v : Value} {l : List Int} (h : w.ownsRow B 3 1 v l.length (intC l)) {i : Nat} (hi : i < l.length) : ∃ g c cur, v = .slice (some ⟨g, 0, none⟩) l.length c ∧ w.heap[g]? = some (.cells cur 3 (0, 0)) ∧ B ≤ g ∧ w.cell? ⟨g, i, none⟩ = some (.int .i64 l[i]) ∧ w.frozen? ⟨g, i, none⟩ = false := by
 obtain ⟨g, c, cur, e, hg, hb⟩ := zcb h (by omega)
 refine ⟨g, c, cur, e, hg, hb, ?_, zaa hg i⟩
 rw [e] at h
 rw [h.cellAt i (by omega)]
 simp [intC, hi]
end
theorem zdp {w : World} {g o : Nat} {cs : List Value} (hlt : g < w.heap.size) (h : w.rangeAt g o cs) (x : Wd w) : x.val.rangeAt g o cs := fun j v hv => by rw [x.bel.cell (p := ⟨g, o + j, none⟩) hlt]; exact h j v hv
theorem zaM {P : Program} {C : World → Prop} {a : Act} {o : Oper} {K : Act → Prop} (ty : TypeId) (x : Operand) (b : Addr) (v : Value) (ho : o.op = .load ty x) (hx : a.eval x = .pointer (some b))
 (hrun : ∀ w, C w → (loadVar ty b).run P w = .ok v w) (hk : K (a.put o.dst v)) : o.quiet P a C K :=
 ⟨_, fun w hw => by unfold Oper.quietAt execOp; simp only [ho, hx, Instr.loadAt, Instr.sureAddr, Sem.run_bind, Sem.run_pure, Result.andThen_ok, hrun w hw]; exact ⟨rfl, rfl⟩, hk⟩
theorem zdm : (Tryz.prog.info? 56).map (·.size) = some 39 := by kernel_rfl
theorem zdT {w : World} {g o : Nat} {h : Ht} (h32 : h.r.length = 32) (hr : w.rangeAt g o (hC h)) : (loadVar 56 ⟨g, o, none⟩).run Tryz.prog w = .ok (.agg (hA h)) w := by
 have := run_loadVar_mid (P := Tryz.prog) w g o 56 (hC h) _ hr Tryz.underlying56 rfl (by rw [zeC h32]; exact zdm)
 rwa [hC_hA] at this
set_option maxHeartbeats 4000000 in
theorem ziz (w : World) (B p : Nat) (wv hv ev m1 m2 m3 dv lv tv : Value) (qs : List Value) (M : Mac) (ho : OwnMac w B p wv hv ev m1 m2 m3 dv lv tv qs M) (he : M.ends.length = M.harts.length) (i : Int) :
 Calls Tryz.prog 73 #[.pointer (some ⟨p, 0, none⟩), .int .i64 i] w fun e w' => e = .returned (.bool (zc9 M i)) ∧ Below w.heap.size w w' := by
 obtain ⟨a1, c1, a2, c2, a3, c3, b1, d1, b2, d2, b3, d3, a5, c5, a6, c6, a7, c7, rfl, rfl, rfl, rfl, rfl, rfl, rfl, rfl, rfl⟩ := ho.shapes
 have hx := ho.at_
 have hlt := zao hx
 rw [he] at hx
 obtain ⟨k0, k1, k2, k3, k4, k5, k6, k7, k8⟩ := zam hx
 have x1 := fun x => zal hlt k1 x
 have x2 := fun x => zal hlt k2 x
 clear k0 k1 k2 k3 k4 k5 k6 k7 k8 hx ho
 have E : Hid (zc9 M i = (decide (0 ≤ i) && decide (i < (M.harts.length : Nat)))) := zhd (by unfold zc9; rw [he, Nat.min_self])
 clear he
 generalize zc9 M i = b at *
 generalize M.harts.length = n2 at *
 by_cases h0 : 0 ≤ i
 · have E1 : Hid (b = decide (i < (n2 : Int))) := zhd (by rw [E.out]; simp [h0])
   go_enter Tryz.func73, Tryz.ntmps73
   go_wp2_with fail
   refine zaB (by kernel_rfl) (by kernel_rfl) ?_
   repeat (go_big_quiet_step (fail))
   refine wpQuiet_nil ?_
   rintro w7 ⟨⟨w7x, hb7⟩, rfl⟩
   go_wp2_with fail
   go_ret
   exact ⟨by rw [E1.out]; rfl, hb7⟩
 · have E1 : Hid (b = false) := zhd (by rw [E.out]; simp [h0])
   have h1 : i < 0 := by omega
   have hd : decide (0 ≤ i) = false := by simp; omega
   go_enter Tryz.func73, Tryz.ntmps73
   go_wp2_with fail
   refine zaB (by kernel_rfl) (by kernel_rfl) ?_
   repeat (go_big_quiet_step (fail))
   refine wpQuiet_nil ?_
   rintro w7 ⟨⟨w7x, hb7⟩, rfl⟩
   go_wp2_with fail
   go_ret
   exact ⟨by rw [E1.out]; rfl, hb7⟩
set_option maxHeartbeats 4000000 in
theorem busy_mac (w : World) (B p : Nat) (wv hv ev m1 m2 m3 dv lv tv : Value) (qs : List Value) (M : Mac) (ho : OwnMac w B p wv hv ev m1 m2 m3 dv lv tv qs M) (i : Int) (h0 : 0 ≤ i) (h1 : i < M.mem.pend.length) :
 Calls Tryz.prog 76 #[.pointer (some ⟨p, 0, none⟩), .int .i64 i] w fun e w' => e = .returned (.bool (decide ((zaJ M.mem i).length ≠ 0))) ∧ Below w.heap.size w w' := by
 obtain ⟨a1, c1, a2, c2, a3, c3, b1, d1, b2, d2, b3, d3, a5, c5, a6, c6, a7, c7, rfl, rfl, rfl, rfl, rfl, rfl, rfl, rfl, rfl⟩ := ho.shapes
 have hx := ho.at_
 obtain ⟨q1, r1, q2, r2, q3, r3, rows, em, g1, g2, g3, g4⟩ := ho.parts.mem.parts
 injection em with em
 have f2 : Value.slice b2 M.mem.pend.length d2 = .slice q2 M.mem.pend.length r2 := by have := congrArg (·[1]?) em; simpa using this
 injection f2 with f2 _ f3
 subst f2 f3
 obtain ⟨k, rfl⟩ : ∃ k : Nat, i = k := ⟨i.toNat, by omega⟩
 have hk : k < M.mem.pend.length := by omega
 have hkr : k < rows.length := by rw [g4.1]; exact hk
 obtain ⟨b, o, c, e2, hb2, hc2, hm2, hcell⟩ := g2.some (by omega)
 injection e2 with e3 _ e5
 subst e3 e5
 have hrow := g4.2 k rows[k] M.mem.pend[k] (by simp) (by simp)
 obtain ⟨ra, rc, hrs⟩ := zai hrow
 have hcl := hcell k rows[k] (by simp)
 rw [hrs] at hcl
 have hp : zaJ M.mem (k : Int) = M.mem.pend[k] := by simp [zaJ, hk]
 rw [hp]
 obtain ⟨k0, k1, k2, k3, k4, k5, k6, k7, k8⟩ := zam hx
 clear k0 k1 k2 k3 k5 k6 k7 k8 hx ho hcell hrow hrs em g1 g2 g3 g4 hp
 generalize M.mem.pend[k] = L at *
 generalize M.mem.pend.length = n at *
 obtain ⟨bb, hbb⟩ : ∃ bb, bb = decide (L.length ≠ 0) := ⟨_, rfl⟩
 rw [← hbb]
 have E : Hid (bb = decide (0 < L.length)) := zhd (by rw [hbb]; exact decide_eq_decide.2 Nat.pos_iff_ne_zero.symm)
 clear hbb
 go_enter Tryz.func76, Tryz.ntmps76
 go_wp2_with fail
 go_ret
 exact ⟨by rw [E.out]; rfl, Below.refl _ _⟩
end
end Go.Proofs.YtdobddiibgfeaaaGreat
