/-
  The contracts of slices.Clone at lists of stores and of store.of.
-/
import Derived.Test.YtkhobelceghgfaaMemHas
import Derived.Test.YtkhobelceghgfaaDevClone
import Derived.Test.YtkhobelceghgfaaQuietU
import Derived.RegionTactic
import Derived.ChangeAlike
import Derived.Deep.DeepCutAuto
namespace Go.Proofs.Ytkhobelceghgfaa
open Go.RowKit
theorem info_ent : (Try.prog.info? 44).map (fun i => (i.zero, i.size, i.bytes)) = some (some (.agg #[.int .i64 0, .int .i64 0]), 2, 16) := by kernel_rfl
theorem info_ents : (Try.prog.info? 42).map (fun i => (i.zero, i.size, i.bytes)) = some (some (.slice none 0 0), 1, 24) := by kernel_rfl
set_option maxHeartbeats 1000000 in
theorem clone_ent (v : Value) (n : Nat) (xs : List Value) (w : World) (h : Reads w 2 n v xs) (hb : n * 16 ≤ 140737488355328) :
    Calls Try.prog 62 #[v] w fun e w' => ∃ v', e = .returned v' ∧ w'.ownsRow w.heap.size 44 2 v' n xs ∧ Below w.heap.size w w' := by
  obtain ⟨hl, h1, h2⟩ := h
  obtain ⟨i0, hi, hz0, hz1, hz2⟩ := info_parts info_ent
  rcases h2 with ⟨rfl, rfl⟩ | ⟨b, o, c, rfl, hlt, hn, hm, hcell⟩
  · have hq := fun w : World => Lib.run_eql_slice_nil (P := Try.prog) w 42 44 none 0 0 0 0 Try.underlying42
    have hxs : xs = [] := List.eq_nil_of_length_eq_zero (by simpa using hl)
    have HX := Lib.hid hxs; clear hxs hl hb
    go_enter Try.func62, Try.ntmps62
    go_wp2
    go_ret
    exact ⟨_, rfl, by rw [HX.out]; exact World.ownsRow_nil _ _ _ _, Below.refl _ _⟩
  · have hq := fun w : World => Lib.run_eql_slice_nil (P := Try.prog) w 42 44 (some ⟨b, o, none⟩) n c 0 0 Try.underlying42
    have hw0 : (w.alloc (.cells #[] 44)).ownsRow w.heap.size 44 2 (.slice (some ⟨w.heap.size, 0, none⟩) 0 0) 0 [] := World.ownsRow_made w #[] 0 (Nat.le_refl _) (by simp) (by simp)
    have hc' : ∀ j u, xs[j]? = some u → (w.alloc (.cells #[] 44)).cell? ((⟨b, o, none⟩ : Addr).add j) = some u := fun j u hj => by
      rw [← hcell j u hj]; rw [addr_add]; exact Below.cell (p := ⟨b, o + j, none⟩) ((Below.refl _ _).alloc (Nat.le_refl _) (.cells #[] 44)) hlt
    have H0 := Lib.hid hw0; have HC := Lib.hid hc'; have HL := Lib.hid hl; have H1 := Lib.hid h1
    clear hw0 hc' hl h1 hcell
    have hnm : 0 + n ≤ maxLen := by omega
    go_enter Try.func62, Try.ntmps62
    go_wp2_with (at_builtin; refine wpList_append_own _ rfl _ _ 42 rfl w.heap.size 44 i0 (.agg #[.int .i64 0, .int .i64 0]) 2 16 Try.underlying42 hi hz0 hz1 hz2 rfl (by decide) _ 0 [] rfl H0.out ⟨b, o, none⟩ n c xs rfl HL.out HC.out H1.out hnm (by omega) (by simp) ?_; intro v' w1 hown hgrow _)
    go_ret
    refine ⟨_, rfl, by simpa using hown, ?_⟩
    exact ((Below.refl _ _).alloc (Nat.le_refl _) _).grown hgrow (by simp) (fun k hk => by cases hk; exact Nat.le_refl _)
theorem up_in {w w' : World} {b : Nat} {o : Obj} (hu : Below w.heap.size w w') (h : w.heap[b]? = some o) : w'.heap[b]? = some o := bel_in hu (lt_in h) h
theorem three_cells {w : World} {b : Nat} {x y z : Value} {t : TypeId} (h : w.heap[b]? = some (.cells #[x, y, z] t (0, 0))) : w.cell? ⟨b, 0, none⟩ = some x ∧ w.cell? ⟨b, 1, none⟩ = some y ∧ w.cell? ⟨b, 2, none⟩ = some z :=
  ⟨cell_in h rfl, cell_in h rfl, cell_in h rfl⟩
theorem grown_bel {a w w' : World} {row : Option Nat} (h : Below a.heap.size a w) (hg : w.grownBy w' row) (hr : ∀ g, row = some g → a.heap.size ≤ g) : Below a.heap.size a w' := h.grown hg h.size (fun k hk => hr k hk)
theorem set3_spec {w : World} {q T : Nat} {z0 z1 z2 x y z : Value} (hq : w.heap[q]? = some (.cells #[z0, z1, z2] T (0, 0))) :
    (((w.setCell ⟨q, 0, none⟩ x).setCell ⟨q, 1, none⟩ y).setCell ⟨q, 2, none⟩ z).heap[q]? = some (.cells #[x, y, z] T (0, 0)) ∧ ∀ g, g ≠ q → (((w.setCell ⟨q, 0, none⟩ x).setCell ⟨q, 1, none⟩ y).setCell ⟨q, 2, none⟩ z).heap[g]? = w.heap[g]? := by
  refine ⟨?_, fun g hg => by rw [heap_set hg, heap_set hg, heap_set hg]⟩
  have h0 := set_in hq 0 x
  have h1 := set_in h0 1 y
  have h2 := set_in h1 2 z
  simpa using h2
theorem own_set3 {w : World} {q T B e k n : Nat} {z0 z1 z2 v : Value} {xs : List Value} (x y z : Value) (ho : w.ownsRow B e k v n xs) (hq : w.heap[q]? = some (.cells #[z0, z1, z2] T (0, 0))) (hne : e ≠ T) : (((w.setCell ⟨q, 0, none⟩ x).setCell ⟨q, 1, none⟩ y).setCell ⟨q, 2, none⟩ z).ownsRow B e k v n xs :=
  own_kept ho fun g e' => (set3_spec hq).2 g (fun e'' => own_not ho hq hne (by rw [← e'']; exact e'))
theorem bel_set3 {a w : World} {q : Nat} {x y z : Value} (h : Below a.heap.size a w) (hq : a.heap.size ≤ q) : Below a.heap.size a (((w.setCell ⟨q, 0, none⟩ x).setCell ⟨q, 1, none⟩ y).setCell ⟨q, 2, none⟩ z) := bw_set (bw_set (bw_set h hq _) hq _) hq _
theorem own_mem_new {w : World} {B q T : Nat} {wv rv : Value} {words res : List Int} {n1 n3 : Nat} (hq : w.heap[q]? = some (.cells #[wv, .slice none 0 0, rv] T (0, 0))) (hB : B ≤ q) (h1 : w.ownsRow B 3 1 wv n1 (intC words)) (h3 : w.ownsRow B 3 1 rv n3 (intC res))
    (hap : ∀ g, wv.ownBlock = some g → rv.ownBlock ≠ some g) : OwnMem w B q T ⟨words, [], res⟩ wv (.slice none 0 0) rv [] where
  at_ := hq
  base := hB
  words := by have := h1.1; rw [intC_len, Nat.mul_one] at this; simpa [this] using h1
  pend := World.ownsRow_nil _ _ _ _
  res := by have := h3.1; rw [intC_len, Nat.mul_one] at this; simpa [this] using h3
  len := rfl
  each := fun i r l hr _ => by simp at hr
  apart := hap
  rowsApart := fun i j r s g hr _ _ _ => by simp at hr
/-- A later row lies elsewhere. -/
theorem row_apart {w1 w2 : World} {b1 b2 e1 e2 k1 k2 n1 n2 : Nat} {v1 v2 : Value} {xs1 xs2 : List Value} (h1 : w1.ownsRow b1 e1 k1 v1 n1 xs1) (h2 : w2.ownsRow b2 e2 k2 v2 n2 xs2) (hb : w1.heap.size ≤ b2) : ∀ g, v1.ownBlock = some g → v2.ownBlock ≠ some g := by
  intro g hg hg'
  have := (h1.lt g hg).2
  have := (h2.lt g hg').1
  omega
set_option maxHeartbeats 4000000 in
theorem of_any (v : Value) (m : Mem) (w : World) (hm : IsMem w v m) (hs : Small m) :
    Calls Try.prog 38 #[v] w fun e w' => ∃ p wv pv rv rows, e = .returned (.pointer (some ⟨p, 0, none⟩)) ∧ OwnMem w' w.heap.size p 66 m wv pv rv rows ∧ Below w.heap.size w w' := by
  obtain ⟨a1, c1, a2, c2, a3, c3, rows, rfl, h1, h2, h3, h4⟩ := hm.parts
  have s1 := hs.words; have s2 := hs.pend; have s3 := hs.res
  have H1 := Lib.hid h1; have H2 := Lib.hid h2; have H3 := Lib.hid h3; have H4 := Lib.hid h4
  have HS := Lib.hid hs.each
  clear hm h1 h2 h3 h4 hs
  obtain ⟨n1, hn1⟩ : ∃ n, m.words.length = n := ⟨_, rfl⟩
  obtain ⟨n2, hn2⟩ : ∃ n, m.pend.length = n := ⟨_, rfl⟩
  obtain ⟨n3, hn3⟩ : ∃ n, m.res.length = n := ⟨_, rfl⟩
  rw [hn1] at H1 s1
  rw [hn2] at H2 s2
  rw [hn3] at H3 s3
  rw [hn1, hn2, hn3]
  have HN1 := Lib.hid hn1; have HN2 := Lib.hid hn2; have HN3 := Lib.hid hn3
  clear hn1 hn2 hn3
  obtain ⟨i0, hi, hz0, hz1, hz2⟩ := info_parts info_ents
  go_enter Try.func38, Try.ntmps38
  go_upto_region 1 with (fail)
  go_cut [3] (fun s3 wx => ∃ q wv rv, s3 = .pointer (some ⟨q, 0, none⟩) ∧ OwnMem wx w.heap.size q 27 ⟨m.words, [], m.res⟩ wv (.slice none 0 0) rv [] ∧ wx.heap[w.heap.size]? = some (.cells #[.slice a1 n1 c1, .slice a2 n2 c2, .slice a3 n3 c3] 27 (0, 0)) ∧ Below w.heap.size w wx)
  case first =>
    refine wp_region_up (fun w' => w.heap.size < w'.heap.size ∧ w'.heap[w.heap.size]? = some (.cells #[.slice a1 n1 c1, .slice a2 n2 c2, .slice a3 n3 c3] 27 (0, 0))) [true, true, false, true, true] (by kernel_rfl) (by kernel_rfl) (by kernel_rfl) (fun w1 w2 h hu => ⟨Nat.lt_of_lt_of_le h.1 hu.size, bel_in hu h.1 h.2⟩) ⟨by simp, new_in w _⟩ ?a' ?h ?ht
    case h =>
      intro w0 ⟨hlt, hcs⟩
      obtain ⟨k0, k1, k2⟩ := three_cells hcs
      have x0 := fun x => wd_cell hlt k0 x
      have x2 := fun x => wd_cell hlt k2 x
      clear k0 k1 k2 hcs
      simp only [pickM]
      repeat (go_big_quiet_step (fail))
      refine wpQuiet_nil ?_
      rfl
    case ht =>
      change wpAnyU _ _ _ _ _ 5 _ _ _
      have HB0 : Hid (Below w.heap.size w (w.alloc (.cells #[.slice a1 n1 c1, .slice a2 n2 c2, .slice a3 n3 c3] 27)).drew) := Lib.hid (bw_drew (bel_new _ _))
      refine anyU_two (i := 2) (k := 7) (by kernel_rfl) rfl rfl ?_ ?_
      · intro w1 hu1 ⟨hl1, hx1⟩
        have B_1 := Lib.hid (bw_tr HB0.out hu1)
        clear HB0
        go_wp2_with fail
        refine (clone_int (.slice a1 n1 c1) n1 _ _ (H1.out.below B_1.out) (by omega)).mono ?_
        rintro e v1 ⟨r1, rfl, ho1, hb1⟩
        obtain ⟨x1, y1, rfl⟩ := own_shape ho1
        have HR1 := Lib.hid ho1
        have sz1 := hb1.size
        have B_1b := Lib.hid (bw_tr B_1.out hb1)
        clear B_1
        have O1 := Lib.hid (own_base ho1 (Nat.le_trans (Nat.le_of_lt hl1) (Nat.le_refl _)))
        clear ho1
        have S1 : Hid (v1.heap.size ≤ v1.heap.size) := Lib.hid (Nat.le_refl _)
        go_wp2_with fail
        refine ⟨⟨Nat.lt_of_lt_of_le hl1 hb1.size, up_in hb1 hx1⟩, ?_⟩
        refine anyU_two (i := 5) (k := 7) (by kernel_rfl) rfl rfl ?_ ?_
        · intro w2 hu2 ⟨hl2, hx2⟩
          have B_2 := Lib.hid (bw_tr B_1b.out hu2)
          clear B_1b
          have o1_2 := Lib.hid (own_below O1.out hu2)
          clear O1
          have s1_2 := Lib.hid (Nat.le_trans S1.out (hu2).size)
          clear S1
          go_wp2_with fail
          refine (clone_int (.slice a3 n3 c3) n3 _ _ (H3.out.below B_2.out) (by omega)).mono ?_
          rintro e v2 ⟨r3, rfl, ho3, hb2⟩
          obtain ⟨x3, y3, rfl⟩ := own_shape ho3
          have HR3 := Lib.hid ho3
          have sz3 := hb2.size
          have szz := (s1_2).out
          have B_2b := Lib.hid (bw_tr B_2.out hb2)
          clear B_2
          have o1_2b := Lib.hid (own_below o1_2.out hb2)
          clear o1_2
          have s1_2b := Lib.hid (Nat.le_trans s1_2.out (hb2).size)
          clear s1_2
          have O3 := Lib.hid (own_base ho3 (Nat.le_trans (Nat.le_of_lt hl2) (Nat.le_refl _)))
          clear ho3
          go_wp2_with fail
          refine ⟨⟨Nat.lt_of_lt_of_le hl2 hb2.size, up_in hb2 hx2⟩, ?_⟩
          refine anyU_two (i := 6) (k := 7) (by kernel_rfl) rfl rfl ?_ ?_
          · intro w3 hu3 ⟨hl3, hx3⟩
            have B_3 := Lib.hid (bw_tr B_2b.out hu3)
            clear B_2b
            have o1_3 := Lib.hid (own_below o1_2b.out hu3)
            clear o1_2b
            have s1_3 := Lib.hid (Nat.le_trans s1_2b.out (hu3).size)
            clear s1_2b
            have o3_3 := Lib.hid (own_below O3.out hu3)
            clear O3
            go_wp2_with fail
            refine ⟨⟨hl3, hx3⟩, ?_⟩
            refine anyU_one (i := 7) (by kernel_rfl) rfl ?_
            intro w4 hu4 ⟨hl4, hx4⟩
            have B_4 := Lib.hid (bw_tr B_3.out hu4)
            clear B_3
            have o1_4 := Lib.hid (own_below o1_3.out hu4)
            clear o1_3
            have s1_4 := Lib.hid (Nat.le_trans s1_3.out (hu4).size)
            clear s1_3
            have o3_4 := Lib.hid (own_below o3_3.out hu4)
            clear o3_3
            go_wp2_with fail
            have B_4b := Lib.hid (bw_tr B_4.out (bel_new w4 (.cells #[.slice none 0 0, .slice none 0 0, .slice none 0 0] 27)))
            clear B_4
            have o1_4b := Lib.hid (own_below o1_4.out (bel_new w4 (.cells #[.slice none 0 0, .slice none 0 0, .slice none 0 0] 27)))
            clear o1_4
            have s1_4b := Lib.hid (Nat.le_trans s1_4.out ((bel_new w4 (.cells #[.slice none 0 0, .slice none 0 0, .slice none 0 0] 27))).size)
            clear s1_4
            have o3_4b := Lib.hid (own_below o3_4.out (bel_new w4 (.cells #[.slice none 0 0, .slice none 0 0, .slice none 0 0] 27)))
            clear o3_4
            have HQ := Lib.hid (new_in w4 (.cells #[.slice none 0 0, .slice none 0 0, .slice none 0 0] 27))
            have HQB : Hid (w.heap.size ≤ w4.heap.size) := Lib.hid (Nat.le_of_lt hl4)
            have hqne : w.heap.size < w4.heap.size := hl4
            refine ⟨⟨Nat.lt_of_lt_of_le hl4 (bel_new w4 (.cells #[.slice none 0 0, .slice none 0 0, .slice none 0 0] 27)).size, up_in (bel_new w4 (.cells #[.slice none 0 0, .slice none 0 0, .slice none 0 0] 27)) hx4⟩, ?_⟩
            refine anyU_one (i := 8) (by kernel_rfl) rfl ?_
            intro w5 hu5 ⟨hl5, hx5⟩
            have B_5 := Lib.hid (bw_tr B_4b.out hu5)
            clear B_4b
            have o1_5 := Lib.hid (own_below o1_4b.out hu5)
            clear o1_4b
            have s1_5 := Lib.hid (Nat.le_trans s1_4b.out (hu5).size)
            clear s1_4b
            have o3_5 := Lib.hid (own_below o3_4b.out hu5)
            clear o3_4b
            have hq_5 := Lib.hid (up_in hu5 HQ.out)
            clear HQ
            have hqB_5 := Lib.hid (HQB.out)
            clear HQB
            obtain ⟨q0, q1, q2⟩ := three_cells hq_5.out
            have g0 := frozen_in hq_5.out 0
            have g1 := frozen_in hq_5.out 1
            have g2 := frozen_in hq_5.out 2
            go_wp2_with fail
            have O1z := Lib.hid (own_set3 (.slice x1 n1 y1) (.slice none 0 0) (.slice x3 n3 y3) o1_5.out hq_5.out (by decide))
            have O3z := Lib.hid (own_set3 (.slice x1 n1 y1) (.slice none 0 0) (.slice x3 n3 y3) o3_5.out hq_5.out (by decide))
            have HBz := Lib.hid (bel_set3 (x := .slice x1 n1 y1) (y := .slice none 0 0) (z := .slice x3 n3 y3) B_5.out hqB_5.out)
            have HQz := Lib.hid (set3_spec (x := .slice x1 n1 y1) (y := .slice none 0 0) (z := .slice x3 n3 y3) hq_5.out)
            refine ⟨⟨by simp only [size_set]; exact hl5, ((HQz.out).2 w.heap.size (by have := hqB_5.out; have := hqne; omega)).trans hx5⟩, ?_⟩
            have HQy := Lib.hid (HQz.out).1
            clear q0 q1 q2 g0 g1 g2 HQz
            refine anyU_nil (by kernel_rfl) ?_
            intro w6 hu6 hc
            have B_6 := Lib.hid (bw_tr HBz.out hu6)
            clear HBz
            have o1_6 := Lib.hid (own_below O1z.out hu6)
            clear O1z
            have o3_6 := Lib.hid (own_below O3z.out hu6)
            clear O3z
            have hq_6 := Lib.hid (up_in hu6 HQy.out)
            clear HQy
            have hqB_6 := Lib.hid (hqB_5.out)
            clear hqB_5
            go_wp2_with fail
            go_meet
            case rel => exact ⟨_, _, _, rfl, own_mem_new hq_6.out (hqB_6.out) o1_6.out o3_6.out (row_apart HR1.out HR3.out (by omega)), hc.2, B_6.out⟩
          · intro w3 hu3 ⟨hl3, hx3⟩
            have B_3 := Lib.hid (bw_tr B_2b.out hu3)
            clear B_2b
            have o1_3 := Lib.hid (own_below o1_2b.out hu3)
            clear o1_2b
            have s1_3 := Lib.hid (Nat.le_trans s1_2b.out (hu3).size)
            clear s1_2b
            have o3_3 := Lib.hid (own_below O3.out hu3)
            clear O3
            go_wp2_with fail
            have B_3b := Lib.hid (bw_tr B_3.out (bel_new w3 (.cells #[.slice none 0 0, .slice none 0 0, .slice none 0 0] 27)))
            clear B_3
            have o1_3b := Lib.hid (own_below o1_3.out (bel_new w3 (.cells #[.slice none 0 0, .slice none 0 0, .slice none 0 0] 27)))
            clear o1_3
            have s1_3b := Lib.hid (Nat.le_trans s1_3.out ((bel_new w3 (.cells #[.slice none 0 0, .slice none 0 0, .slice none 0 0] 27))).size)
            clear s1_3
            have o3_3b := Lib.hid (own_below o3_3.out (bel_new w3 (.cells #[.slice none 0 0, .slice none 0 0, .slice none 0 0] 27)))
            clear o3_3
            have HQ := Lib.hid (new_in w3 (.cells #[.slice none 0 0, .slice none 0 0, .slice none 0 0] 27))
            have HQB : Hid (w.heap.size ≤ w3.heap.size) := Lib.hid (Nat.le_of_lt hl3)
            have hqne : w.heap.size < w3.heap.size := hl3
            refine ⟨⟨Nat.lt_of_lt_of_le hl3 (bel_new w3 (.cells #[.slice none 0 0, .slice none 0 0, .slice none 0 0] 27)).size, up_in (bel_new w3 (.cells #[.slice none 0 0, .slice none 0 0, .slice none 0 0] 27)) hx3⟩, ?_⟩
            refine anyU_one (i := 6) (by kernel_rfl) rfl ?_
            intro w4 hu4 ⟨hl4, hx4⟩
            have B_4 := Lib.hid (bw_tr B_3b.out hu4)
            clear B_3b
            have o1_4 := Lib.hid (own_below o1_3b.out hu4)
            clear o1_3b
            have s1_4 := Lib.hid (Nat.le_trans s1_3b.out (hu4).size)
            clear s1_3b
            have o3_4 := Lib.hid (own_below o3_3b.out hu4)
            clear o3_3b
            have hq_4 := Lib.hid (up_in hu4 HQ.out)
            clear HQ
            have hqB_4 := Lib.hid (HQB.out)
            clear HQB
            go_wp2_with fail
            refine ⟨⟨hl4, hx4⟩, ?_⟩
            refine anyU_one (i := 8) (by kernel_rfl) rfl ?_
            intro w5 hu5 ⟨hl5, hx5⟩
            have B_5 := Lib.hid (bw_tr B_4.out hu5)
            clear B_4
            have o1_5 := Lib.hid (own_below o1_4.out hu5)
            clear o1_4
            have s1_5 := Lib.hid (Nat.le_trans s1_4.out (hu5).size)
            clear s1_4
            have o3_5 := Lib.hid (own_below o3_4.out hu5)
            clear o3_4
            have hq_5 := Lib.hid (up_in hu5 hq_4.out)
            clear hq_4
            have hqB_5 := Lib.hid (hqB_4.out)
            clear hqB_4
            obtain ⟨q0, q1, q2⟩ := three_cells hq_5.out
            have g0 := frozen_in hq_5.out 0
            have g1 := frozen_in hq_5.out 1
            have g2 := frozen_in hq_5.out 2
            go_wp2_with fail
            have O1z := Lib.hid (own_set3 (.slice x1 n1 y1) (.slice none 0 0) (.slice x3 n3 y3) o1_5.out hq_5.out (by decide))
            have O3z := Lib.hid (own_set3 (.slice x1 n1 y1) (.slice none 0 0) (.slice x3 n3 y3) o3_5.out hq_5.out (by decide))
            have HBz := Lib.hid (bel_set3 (x := .slice x1 n1 y1) (y := .slice none 0 0) (z := .slice x3 n3 y3) B_5.out hqB_5.out)
            have HQz := Lib.hid (set3_spec (x := .slice x1 n1 y1) (y := .slice none 0 0) (z := .slice x3 n3 y3) hq_5.out)
            refine ⟨⟨by simp only [size_set]; exact hl5, ((HQz.out).2 w.heap.size (by have := hqB_5.out; have := hqne; omega)).trans hx5⟩, ?_⟩
            have HQy := Lib.hid (HQz.out).1
            clear q0 q1 q2 g0 g1 g2 HQz
            refine anyU_nil (by kernel_rfl) ?_
            intro w6 hu6 hc
            have B_6 := Lib.hid (bw_tr HBz.out hu6)
            clear HBz
            have o1_6 := Lib.hid (own_below O1z.out hu6)
            clear O1z
            have o3_6 := Lib.hid (own_below O3z.out hu6)
            clear O3z
            have hq_6 := Lib.hid (up_in hu6 HQy.out)
            clear HQy
            have hqB_6 := Lib.hid (hqB_5.out)
            clear hqB_5
            go_wp2_with fail
            go_meet
            case rel => exact ⟨_, _, _, rfl, own_mem_new hq_6.out (hqB_6.out) o1_6.out o3_6.out (row_apart HR1.out HR3.out (by omega)), hc.2, B_6.out⟩
        · intro w2 hu2 ⟨hl2, hx2⟩
          have B_2 := Lib.hid (bw_tr B_1b.out hu2)
          clear B_1b
          have o1_2 := Lib.hid (own_below O1.out hu2)
          clear O1
          have s1_2 := Lib.hid (Nat.le_trans S1.out (hu2).size)
          clear S1
          go_wp2_with fail
          have B_2b := Lib.hid (bw_tr B_2.out (bel_new w2 (.cells #[.slice none 0 0, .slice none 0 0, .slice none 0 0] 27)))
          clear B_2
          have o1_2b := Lib.hid (own_below o1_2.out (bel_new w2 (.cells #[.slice none 0 0, .slice none 0 0, .slice none 0 0] 27)))
          clear o1_2
          have s1_2b := Lib.hid (Nat.le_trans s1_2.out ((bel_new w2 (.cells #[.slice none 0 0, .slice none 0 0, .slice none 0 0] 27))).size)
          clear s1_2
          have HQ := Lib.hid (new_in w2 (.cells #[.slice none 0 0, .slice none 0 0, .slice none 0 0] 27))
          have HQB : Hid (w.heap.size ≤ w2.heap.size) := Lib.hid (Nat.le_of_lt hl2)
          have hqne : w.heap.size < w2.heap.size := hl2
          refine ⟨⟨Nat.lt_of_lt_of_le hl2 (bel_new w2 (.cells #[.slice none 0 0, .slice none 0 0, .slice none 0 0] 27)).size, up_in (bel_new w2 (.cells #[.slice none 0 0, .slice none 0 0, .slice none 0 0] 27)) hx2⟩, ?_⟩
          refine anyU_one (i := 5) (by kernel_rfl) rfl ?_
          intro w3 hu3 ⟨hl3, hx3⟩
          have B_3 := Lib.hid (bw_tr B_2b.out hu3)
          clear B_2b
          have o1_3 := Lib.hid (own_below o1_2b.out hu3)
          clear o1_2b
          have s1_3 := Lib.hid (Nat.le_trans s1_2b.out (hu3).size)
          clear s1_2b
          have hq_3 := Lib.hid (up_in hu3 HQ.out)
          clear HQ
          have hqB_3 := Lib.hid (HQB.out)
          clear HQB
          go_wp2_with fail
          refine (clone_int (.slice a3 n3 c3) n3 _ _ (H3.out.below B_3.out) (by omega)).mono ?_
          rintro e v3 ⟨r3, rfl, ho3, hb3⟩
          obtain ⟨x3, y3, rfl⟩ := own_shape ho3
          have HR3 := Lib.hid ho3
          have sz3 := hb3.size
          have szz := (s1_3).out
          have B_3b := Lib.hid (bw_tr B_3.out hb3)
          clear B_3
          have o1_3b := Lib.hid (own_below o1_3.out hb3)
          clear o1_3
          have s1_3b := Lib.hid (Nat.le_trans s1_3.out (hb3).size)
          clear s1_3
          have hq_3b := Lib.hid (up_in hb3 hq_3.out)
          clear hq_3
          have hqB_3b := Lib.hid (hqB_3.out)
          clear hqB_3
          have O3 := Lib.hid (own_base ho3 (Nat.le_trans (Nat.le_of_lt hl3) (Nat.le_refl _)))
          clear ho3
          go_wp2_with fail
          refine ⟨⟨Nat.lt_of_lt_of_le hl3 hb3.size, up_in hb3 hx3⟩, ?_⟩
          refine anyU_one (i := 6) (by kernel_rfl) rfl ?_
          intro w4 hu4 ⟨hl4, hx4⟩
          have B_4 := Lib.hid (bw_tr B_3b.out hu4)
          clear B_3b
          have o1_4 := Lib.hid (own_below o1_3b.out hu4)
          clear o1_3b
          have s1_4 := Lib.hid (Nat.le_trans s1_3b.out (hu4).size)
          clear s1_3b
          have hq_4 := Lib.hid (up_in hu4 hq_3b.out)
          clear hq_3b
          have hqB_4 := Lib.hid (hqB_3b.out)
          clear hqB_3b
          have o3_4 := Lib.hid (own_below O3.out hu4)
          clear O3
          go_wp2_with fail
          refine ⟨⟨hl4, hx4⟩, ?_⟩
          refine anyU_one (i := 8) (by kernel_rfl) rfl ?_
          intro w5 hu5 ⟨hl5, hx5⟩
          have B_5 := Lib.hid (bw_tr B_4.out hu5)
          clear B_4
          have o1_5 := Lib.hid (own_below o1_4.out hu5)
          clear o1_4
          have s1_5 := Lib.hid (Nat.le_trans s1_4.out (hu5).size)
          clear s1_4
          have hq_5 := Lib.hid (up_in hu5 hq_4.out)
          clear hq_4
          have hqB_5 := Lib.hid (hqB_4.out)
          clear hqB_4
          have o3_5 := Lib.hid (own_below o3_4.out hu5)
          clear o3_4
          obtain ⟨q0, q1, q2⟩ := three_cells hq_5.out
          have g0 := frozen_in hq_5.out 0
          have g1 := frozen_in hq_5.out 1
          have g2 := frozen_in hq_5.out 2
          go_wp2_with fail
          have O1z := Lib.hid (own_set3 (.slice x1 n1 y1) (.slice none 0 0) (.slice x3 n3 y3) o1_5.out hq_5.out (by decide))
          have O3z := Lib.hid (own_set3 (.slice x1 n1 y1) (.slice none 0 0) (.slice x3 n3 y3) o3_5.out hq_5.out (by decide))
          have HBz := Lib.hid (bel_set3 (x := .slice x1 n1 y1) (y := .slice none 0 0) (z := .slice x3 n3 y3) B_5.out hqB_5.out)
          have HQz := Lib.hid (set3_spec (x := .slice x1 n1 y1) (y := .slice none 0 0) (z := .slice x3 n3 y3) hq_5.out)
          refine ⟨⟨by simp only [size_set]; exact hl5, ((HQz.out).2 w.heap.size (by have := hqB_5.out; have := hqne; omega)).trans hx5⟩, ?_⟩
          have HQy := Lib.hid (HQz.out).1
          clear q0 q1 q2 g0 g1 g2 HQz
          refine anyU_nil (by kernel_rfl) ?_
          intro w6 hu6 hc
          have B_6 := Lib.hid (bw_tr HBz.out hu6)
          clear HBz
          have o1_6 := Lib.hid (own_below O1z.out hu6)
          clear O1z
          have hq_6 := Lib.hid (up_in hu6 HQy.out)
          clear HQy
          have hqB_6 := Lib.hid (hqB_5.out)
          clear hqB_5
          have o3_6 := Lib.hid (own_below O3z.out hu6)
          clear O3z
          go_wp2_with fail
          go_meet
          case rel => exact ⟨_, _, _, rfl, own_mem_new hq_6.out (hqB_6.out) o1_6.out o3_6.out (row_apart HR1.out HR3.out (by omega)), hc.2, B_6.out⟩
      · intro w1 hu1 ⟨hl1, hx1⟩
        have B_1 := Lib.hid (bw_tr HB0.out hu1)
        clear HB0
        go_wp2_with fail
        have B_1b := Lib.hid (bw_tr B_1.out (bel_new w1 (.cells #[.slice none 0 0, .slice none 0 0, .slice none 0 0] 27)))
        clear B_1
        have HQ := Lib.hid (new_in w1 (.cells #[.slice none 0 0, .slice none 0 0, .slice none 0 0] 27))
        have HQB : Hid (w.heap.size ≤ w1.heap.size) := Lib.hid (Nat.le_of_lt hl1)
        have hqne : w.heap.size < w1.heap.size := hl1
        refine ⟨⟨Nat.lt_of_lt_of_le hl1 (bel_new w1 (.cells #[.slice none 0 0, .slice none 0 0, .slice none 0 0] 27)).size, up_in (bel_new w1 (.cells #[.slice none 0 0, .slice none 0 0, .slice none 0 0] 27)) hx1⟩, ?_⟩
        refine anyU_one (i := 2) (by kernel_rfl) rfl ?_
        intro w2 hu2 ⟨hl2, hx2⟩
        have B_2 := Lib.hid (bw_tr B_1b.out hu2)
        clear B_1b
        have hq_2 := Lib.hid (up_in hu2 HQ.out)
        clear HQ
        have hqB_2 := Lib.hid (HQB.out)
        clear HQB
        go_wp2_with fail
        refine (clone_int (.slice a1 n1 c1) n1 _ _ (H1.out.below B_2.out) (by omega)).mono ?_
        rintro e v2 ⟨r1, rfl, ho1, hb2⟩
        obtain ⟨x1, y1, rfl⟩ := own_shape ho1
        have HR1 := Lib.hid ho1
        have sz1 := hb2.size
        have B_2b := Lib.hid (bw_tr B_2.out hb2)
        clear B_2
        have hq_2b := Lib.hid (up_in hb2 hq_2.out)
        clear hq_2
        have hqB_2b := Lib.hid (hqB_2.out)
        clear hqB_2
        have O1 := Lib.hid (own_base ho1 (Nat.le_trans (Nat.le_of_lt hl2) (Nat.le_refl _)))
        clear ho1
        have S1 : Hid (v2.heap.size ≤ v2.heap.size) := Lib.hid (Nat.le_refl _)
        go_wp2_with fail
        refine ⟨⟨Nat.lt_of_lt_of_le hl2 hb2.size, up_in hb2 hx2⟩, ?_⟩
        refine anyU_one (i := 5) (by kernel_rfl) rfl ?_
        intro w3 hu3 ⟨hl3, hx3⟩
        have B_3 := Lib.hid (bw_tr B_2b.out hu3)
        clear B_2b
        have hq_3 := Lib.hid (up_in hu3 hq_2b.out)
        clear hq_2b
        have hqB_3 := Lib.hid (hqB_2b.out)
        clear hqB_2b
        have o1_3 := Lib.hid (own_below O1.out hu3)
        clear O1
        have s1_3 := Lib.hid (Nat.le_trans S1.out (hu3).size)
        clear S1
        go_wp2_with fail
        refine (clone_int (.slice a3 n3 c3) n3 _ _ (H3.out.below B_3.out) (by omega)).mono ?_
        rintro e v3 ⟨r3, rfl, ho3, hb3⟩
        obtain ⟨x3, y3, rfl⟩ := own_shape ho3
        have HR3 := Lib.hid ho3
        have sz3 := hb3.size
        have szz := (s1_3).out
        have B_3b := Lib.hid (bw_tr B_3.out hb3)
        clear B_3
        have hq_3b := Lib.hid (up_in hb3 hq_3.out)
        clear hq_3
        have hqB_3b := Lib.hid (hqB_3.out)
        clear hqB_3
        have o1_3b := Lib.hid (own_below o1_3.out hb3)
        clear o1_3
        have s1_3b := Lib.hid (Nat.le_trans s1_3.out (hb3).size)
        clear s1_3
        have O3 := Lib.hid (own_base ho3 (Nat.le_trans (Nat.le_of_lt hl3) (Nat.le_refl _)))
        clear ho3
        go_wp2_with fail
        refine ⟨⟨Nat.lt_of_lt_of_le hl3 hb3.size, up_in hb3 hx3⟩, ?_⟩
        refine anyU_one (i := 6) (by kernel_rfl) rfl ?_
        intro w4 hu4 ⟨hl4, hx4⟩
        have B_4 := Lib.hid (bw_tr B_3b.out hu4)
        clear B_3b
        have hq_4 := Lib.hid (up_in hu4 hq_3b.out)
        clear hq_3b
        have hqB_4 := Lib.hid (hqB_3b.out)
        clear hqB_3b
        have o1_4 := Lib.hid (own_below o1_3b.out hu4)
        clear o1_3b
        have s1_4 := Lib.hid (Nat.le_trans s1_3b.out (hu4).size)
        clear s1_3b
        have o3_4 := Lib.hid (own_below O3.out hu4)
        clear O3
        go_wp2_with fail
        refine ⟨⟨hl4, hx4⟩, ?_⟩
        refine anyU_one (i := 8) (by kernel_rfl) rfl ?_
        intro w5 hu5 ⟨hl5, hx5⟩
        have B_5 := Lib.hid (bw_tr B_4.out hu5)
        clear B_4
        have hq_5 := Lib.hid (up_in hu5 hq_4.out)
        clear hq_4
        have hqB_5 := Lib.hid (hqB_4.out)
        clear hqB_4
        have o1_5 := Lib.hid (own_below o1_4.out hu5)
        clear o1_4
        have s1_5 := Lib.hid (Nat.le_trans s1_4.out (hu5).size)
        clear s1_4
        have o3_5 := Lib.hid (own_below o3_4.out hu5)
        clear o3_4
        obtain ⟨q0, q1, q2⟩ := three_cells hq_5.out
        have g0 := frozen_in hq_5.out 0
        have g1 := frozen_in hq_5.out 1
        have g2 := frozen_in hq_5.out 2
        go_wp2_with fail
        have O1z := Lib.hid (own_set3 (.slice x1 n1 y1) (.slice none 0 0) (.slice x3 n3 y3) o1_5.out hq_5.out (by decide))
        have O3z := Lib.hid (own_set3 (.slice x1 n1 y1) (.slice none 0 0) (.slice x3 n3 y3) o3_5.out hq_5.out (by decide))
        have HBz := Lib.hid (bel_set3 (x := .slice x1 n1 y1) (y := .slice none 0 0) (z := .slice x3 n3 y3) B_5.out hqB_5.out)
        have HQz := Lib.hid (set3_spec (x := .slice x1 n1 y1) (y := .slice none 0 0) (z := .slice x3 n3 y3) hq_5.out)
        refine ⟨⟨by simp only [size_set]; exact hl5, ((HQz.out).2 w.heap.size (by have := hqB_5.out; have := hqne; omega)).trans hx5⟩, ?_⟩
        have HQy := Lib.hid (HQz.out).1
        clear q0 q1 q2 g0 g1 g2 HQz
        refine anyU_nil (by kernel_rfl) ?_
        intro w6 hu6 hc
        have B_6 := Lib.hid (bw_tr HBz.out hu6)
        clear HBz
        have hq_6 := Lib.hid (up_in hu6 HQy.out)
        clear HQy
        have hqB_6 := Lib.hid (hqB_5.out)
        clear hqB_5
        have o1_6 := Lib.hid (own_below O1z.out hu6)
        clear O1z
        have o3_6 := Lib.hid (own_below O3z.out hu6)
        clear O3z
        go_wp2_with fail
        go_meet
        case rel => exact ⟨_, _, _, rfl, own_mem_new hq_6.out (hqB_6.out) o1_6.out o3_6.out (row_apart HR1.out HR3.out (by omega)), hc.2, B_6.out⟩
  case rest =>
    obtain ⟨q, wv, rv, rfl, hown, hpar, hB⟩ := hcut
    obtain ⟨k0, k1, k2⟩ := three_cells hpar
    have HO := Lib.hid hown; have HP := Lib.hid hpar; have HB := Lib.hid hB
    clear hown hpar hB
    go_wp2_with fail
    go_loopw [16] (fun i wr => ∃ (k : Nat) (pv : Value) (rs : List Value), k ≤ n2 ∧ i = .int .i64 k ∧ OwnMem wr w.heap.size q 27 ⟨m.words, m.pend.take k, m.res⟩ wv pv rv rs ∧ Below w.heap.size w wr) (fun i _ => n2 - (intOf i).toNat)
    case atStart => exact ⟨0, _, _, Nat.zero_le _, rfl, by simpa using HO.out, HB.out⟩
    case round =>
      obtain ⟨k, pv, rs, hk, rfl, hown, hbb⟩ := hrel
      have HO' := Lib.hid hown; have HBB := Lib.hid hbb
      clear hown hbb
      by_cases hlt : k < n2
      · obtain ⟨b, o, c, e2, hb2, hc2, hm2, hcell⟩ := (H2.out.below HBB.out).some (by omega)
        injection e2 with e3 e4 e5
        subst e3 e5
        have hkp : k < m.pend.length := by rw [HN2.out]; exact hlt
        have hkr : k < rows.length := by rw [H4.out.1]; exact hkp
        have hrow := (H4.out.2 k rows[k] m.pend[k] (by simp) (by simp))
        obtain ⟨ra, rc, hrs⟩ := own_shape hrow
        have hcl := hcell k rows[k] (by simp)
        rw [hrs] at hcl hrow
        have HR := Lib.hid (Reads.own hrow (entC_one _))
        have hl8 := HS.out m.pend[k] (by simp)
        unfold maxLen at hm2
        clear hcell hrs hrow
        have HPk : Hid (m.pend.take (k + 1) = m.pend.take k ++ [m.pend[k]]) := Lib.hid (List.take_succ_eq_append_getElem hkp)
        have HTL : Hid ((m.pend.take k).length = k) := Lib.hid (by simp; omega)
        generalize m.pend[k] = L at *
        go_wp2_with fail
        refine wp_region_ut (fun w' => q < w'.heap.size ∧ w'.heap[q]? = some (.cells #[wv, pv, rv] 27 (0, 0))) 6 [true, true, true] (by kernel_rfl) (by kernel_rfl) (by kernel_rfl) (fun w1 w2 h hu => ⟨Nat.lt_of_lt_of_le h.1 hu.size, bel_in hu h.1 h.2⟩) ⟨lt_in HO'.out.at_, HO'.out.at_⟩ ?a2 ?h2 ?ht2
        case h2 =>
          intro w0 ⟨hlt, hcs⟩
          obtain ⟨k0, k1, k2⟩ := three_cells hcs
          have x1 := fun x => wd_cell hlt k1 x
          clear k0 k1 k2 hcs
          simp only [pickM]
          repeat (go_big_quiet_step (fail))
          refine wpQuiet_nil ?_
          rfl
        case ht2 =>
          change headU _ _ _ _ _ _ 3 _ _ _
          refine headU_one (i := 3) (by kernel_rfl) (by decide) rfl ?_
          intro w1 hu1 ⟨hl1, hx1⟩
          have hbu : Below wr.heap.size wr w1 := (by repeat (first | (with_reducible exact Below.refl _ _) | (with_reducible refine bw_set ?_ ?_ _) | (with_reducible apply bw_alloc) | (with_reducible refine bw_tr ?_ (by with_reducible assumption)) | (with_reducible apply bw_drew) | omega))
          have O1 := Lib.hid (HO'.out.below hbu)
          have B1 : Hid (Below w.heap.size w w1) := Lib.hid (bw_tr HBB.out hbu)
          clear hbu
          go_wp2_with fail
          refine (clone_ent _ _ _ _ (HR.out.below B1.out) (by omega)).mono ?_
          rintro e w2 ⟨r, rfl, hor, hb2⟩
          obtain ⟨xr, yr, rfl⟩ := own_shape hor
          have HOR := Lib.hid hor; clear hor
          have hx2 := up_in hb2 hx1
          have hl2 := lt_in hx2
          have B2 := Lib.hid hb2; clear hb2
          go_wp2_with fail
          refine ⟨⟨hl2, hx2⟩, ?_⟩
          refine headU_one (i := 4) (by kernel_rfl) (by decide) rfl ?_
          intro w3 hu3 ⟨hl3, hx3⟩
          have B3 := Lib.hid (bw_tr B2.out hu3)
          have HOR3 := Lib.hid (own_below HOR.out hu3)
          clear hu3 hl2 hx2
          go_wp2_with fail
          refine ⟨⟨by simp; omega, up_in (bel_new w3 _) hx3⟩, ?_⟩
          refine headU_one (i := 5) (by kernel_rfl) (by decide) rfl ?_
          intro w4 hu4 ⟨hl4, hx4⟩
          have hc4 : w4.cell? ⟨w3.heap.size, 0, none⟩ = some (.slice xr L.length yr) := cell_in (up_in hu4 (new_in w3 _)) rfl
          have hu4' : Below w3.heap.size w3 w4 := bw_tr (bel_new w3 _) hu4
          have B4 := Lib.hid (bw_tr B3.out hu4')
          have HOR4 := Lib.hid (own_below HOR3.out hu4')
          have O4 := Lib.hid (O1.out.below B4.out)
          have HC4 : Hid (∀ j u, [Value.slice xr L.length yr][j]? = some u → w4.cell? ((⟨w3.heap.size, 0, none⟩ : Addr).add j) = some u) := Lib.hid (fun j u hj => by
            have : j = 0 := by
              have := (List.getElem?_eq_some_iff.1 hj).1
              simp at this; exact this
            subst this
            simp at hj; subst hj
            rw [addr_add]; exact hc4)
          have hsz : w.heap.size ≤ w4.heap.size := (bw_tr B1.out B4.out).size
          clear hu4 hu4' hc4
          have hp4 : Hid (w4.ownsRow w.heap.size 42 1 pv k rs) := Lib.hid (by have := O4.out.pend; simp only at this; rwa [HTL.out] at this)
          obtain ⟨xp, yp, rfl⟩ := own_shape hp4.out
          have hby : (k + 1) * 24 ≤ 140737488355328 := by omega
          have hmx : k + 1 ≤ maxLen := by unfold maxLen; omega
          refine wpList_append_own _ rfl _ _ 25 rfl w.heap.size 42 i0 (.slice none 0 0) 1 24 Try.underlying25 hi hz0 hz1 hz2 rfl (by decide) _ _ _ rfl hp4.out ⟨w3.heap.size, 0, none⟩ 1 1 [.slice xr L.length yr] rfl rfl HC4.out (by simp [Value.oneCell']) hmx hby hsz ?_
          intro v' w5 hown5 hgrow5 _
          obtain ⟨xv, yv, rfl⟩ := own_shape hown5
          have HO5 := Lib.hid hown5; have HG5 := Lib.hid hgrow5
          clear hown5 hgrow5
          have hq5 : w5.heap[q]? = some (.cells #[wv, .slice xp k yp, rv] 27 (0, 0)) := by
            rw [HG5.out.block q hl4 (fun e => own_not hp4.out hx4 (by decide) e.symm)]; exact hx4
          go_wp2_with fail
          refine ⟨⟨lt_in hq5, hq5⟩, ?_⟩
          refine headU_end (by kernel_rfl) ?_
          intro w6 hu6 ⟨hl6, hx6⟩
          obtain ⟨k0, k1, k2⟩ := three_cells hx6
          have f1 := frozen_in hx6 1
          have HU6 := Lib.hid hu6; have HX6 := Lib.hid hx6
          clear hu6 hx6 hq5 k0 k2 hx1 hx3 hx4
          have P6 := Lib.hid (O1.out.push (by decide) (by decide) (by decide) B4.out HOR4.out (pv' := .slice xv (k + 1) yv) (w2 := w6) (by have := own_below HO5.out HU6.out; simpa [HTL.out] using this) (grown_tr HG5.out HG5.out.size HU6.out) B1.out.size)
          simp only [List.drop_succ_cons, List.drop_zero]
          go_wp2_with fail
          go_roundw
          case rel => exact ⟨k + 1, _, _, by omega, by go_num, by rw [HPk.out]; exact P6.out, (bw_set (bw_tr (grown_bel (bw_tr B1.out B4.out) HG5.out (by intro g e; exact (hp4.out.lt g e).1)) HU6.out) HO.out.base _)⟩
          case measure => simp [intOf]; omega
      · have hkn : k = n2 := by omega
        subst hkn
        have O7 : Hid (OwnMem wr w.heap.size q 27 m wv pv rv rs) := Lib.hid (by
          have := HO'.out
          rw [← HN2.out, List.take_length] at this
          exact this)
        obtain ⟨a1', c1', rfl⟩ := own_shape O7.out.words
        obtain ⟨a2', c2', rfl⟩ := own_shape O7.out.pend
        obtain ⟨a3', c3', rfl⟩ := own_shape O7.out.res
        obtain ⟨k0, k1, k2⟩ := three_cells O7.out.at_
        go_wp2_with fail
        go_ret
        exact ⟨_, _, _, _, _, rfl, O7.out.move (new_in wr _) HBB.out.size (bel_new wr _), bw_alloc HBB.out _⟩
end Go.Proofs.Ytkhobelceghgfaa
