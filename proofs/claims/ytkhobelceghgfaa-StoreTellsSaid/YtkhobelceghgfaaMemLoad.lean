/-
  The contract of store.Load.
-/
import Derived.Test.YtkhobelceghgfaaMemBack
namespace Go.Proofs.Ytkhobelceghgfaa
open Go.RowKit Go.Shelf
attribute [local go_sem] Oper.semAt_some
theorem heap4 {w : World} {o : Obj} {b : Nat} : (w.alloc o).heap[b]? = if b = w.heap.size then some o else w.heap[b]? := by
  by_cases h : b = w.heap.size
  · subst h; rw [if_pos rfl]; exact new_in w o
  · rw [if_neg h]
    by_cases hb : b < w.heap.size
    · exact heap_alloc_old w o b hb
    · rw [Array.getElem?_eq_none (by simp; omega), Array.getElem?_eq_none (by omega)]
theorem four_new (w : World) (o0 o1 o2 o3 : Obj) : ((((w.alloc o0).alloc o1).alloc o2).alloc o3).heap[w.heap.size]? = some o0 ∧ ((((w.alloc o0).alloc o1).alloc o2).alloc o3).heap[w.heap.size + 1]? = some o1 ∧
    ((((w.alloc o0).alloc o1).alloc o2).alloc o3).heap[w.heap.size + 1 + 1]? = some o2 ∧ ((((w.alloc o0).alloc o1).alloc o2).alloc o3).heap[w.heap.size + 1 + 1 + 1]? = some o3 := by
  simp only [heap4, World.size_alloc]
  refine ⟨?_, ?_, ?_, ?_⟩
  · rw [if_neg (by omega), if_neg (by omega), if_neg (by omega), if_pos trivial]
  · rw [if_neg (by omega), if_neg (by omega), if_pos trivial]
  · rw [if_neg (by omega), if_pos trivial]
  · rw [if_pos trivial]
set_option maxRecDepth 100000 in
set_option maxHeartbeats 8000000 in
theorem load_no (v : Value) (m : Mem) (h a : Int) (w : World) (hm : IsMem w v m) (hh : hasB m h a = false) :
    Calls Try.prog 16 #[v, .int .i64 h, .int .i64 a] w fun e w' => e = .returned (.tuple #[.int .i64 0, .int .i64 1]) ∧ Below w.heap.size w w' := by
  have HM := Lib.hid hm
  obtain ⟨a1, c1, a2, c2, a3, c3, rows, rfl, _, _, _, _⟩ := hm.parts
  have HH := Lib.hid hh; clear hm hh
  generalize m.words.length = n1 at *
  generalize m.pend.length = n2 at *
  generalize m.res.length = n3 at *
  refine (callsIn_wide (n := 4)).1 ?_
  refine callsIn_of_wp_marks Try.func16 rfl trivial ?_ rfl
  simp only [Try.ntmps16, List.size_toArray, List.length_cons, List.length_nil, Nat.reduceAdd, Nat.reduceSub, Array.replicate_succ, Array.replicate_zero, List.push_toArray, List.append_toArray, List.nil_append, List.cons_append]
  gi_wp2_with (refine ⟨trivial, ?_⟩; gi_at_call 35; refine (callsIn_wide.2 (has_any _ m h a false _ (HM.out.below (by repeat (first | (with_reducible exact Below.refl _ _) | (with_reducible refine bw_set ?_ ?_ _) | (with_reducible apply bw_alloc) | (with_reducible refine bw_tr ?_ (by with_reducible assumption)) | (with_reducible apply bw_drew) | omega))) HH.out)).mono ?_; rintro e w1 ⟨rfl, hb1⟩; have hx1 : w1.heap[w.heap.size]? = some (.cells #[.slice a1 n1 c1, .slice a2 n2 c2, .slice a3 n3 c3] 27 (0, 0)) := up_in hb1 (four_new w _ _ _ _).1; have ht5 : w1.heap[w.heap.size + 1]? = some (.cells #[.int .i64 a] 3 (0, 0)) := up_in hb1 (four_new w _ _ _ _).2.1; have ht6 : w1.heap[w.heap.size + 1 + 1]? = some (.cells #[.int .i64 0] 3 (0, 0)) := up_in hb1 (four_new w _ _ _ _).2.2.1; have ht7 : w1.heap[w.heap.size + 1 + 1 + 1]? = some (.cells #[.int .i64 0] 28 (0, 0)) := up_in hb1 (four_new w _ _ _ _).2.2.2; have B1 : Hid (Below w.heap.size w w1) := Lib.hid ((by repeat (first | (with_reducible exact Below.refl _ _) | (with_reducible refine bw_set ?_ ?_ _) | (with_reducible apply bw_alloc) | (with_reducible refine bw_tr ?_ (by with_reducible assumption)) | (with_reducible apply bw_drew) | omega))); have sz1 : w.heap.size + 1 + 1 + 1 + 1 ≤ w1.heap.size := (by have := hb1.size; simpa using this); have k6 := cell_in (j := 0) ht6 rfl; have k7 := cell_in (j := 0) ht7 rfl; have f6 := frozen_in ht6 0; have f7 := frozen_in ht7 0; have k5 := cell_in (j := 0) ht5 rfl; obtain ⟨x0, x1, x2⟩ := three_cells hx1; have HT3 := Lib.hid hx1; have HT5 := Lib.hid ht5; have HT6 := Lib.hid ht6; have HT7 := Lib.hid ht7; clear hx1 ht5 ht6 ht7 hb1)
  have s6 : ((w1.setCell ⟨w.heap.size + 1 + 1, 0, none⟩ (.int .i64 0)).setCell ⟨w.heap.size + 1 + 1 + 1, 0, none⟩ (.int .i64 1)).cell? ⟨w.heap.size + 1 + 1, 0, none⟩ = some (.int .i64 0) := cell_in (j := 0) (by rw [heap_set (by omega)]; exact set_in HT6.out 0 _) rfl
  have s7 : ((w1.setCell ⟨w.heap.size + 1 + 1, 0, none⟩ (.int .i64 0)).setCell ⟨w.heap.size + 1 + 1 + 1, 0, none⟩ (.int .i64 1)).cell? ⟨w.heap.size + 1 + 1 + 1, 0, none⟩ = some (.int .i64 1) := cell_in (j := 0) (set_in (heap_set_ne (by omega) HT7.out) 0 _) rfl
  exact ⟨.tuple #[.int .i64 0, .int .i64 1], by simp [results, Try.f16, go_sem, s6, s7], rfl, bw_set (bw_set B1.out (by omega) _) (by omega) _⟩
set_option maxRecDepth 100000 in
set_option maxHeartbeats 8000000 in
theorem load_yes (v : Value) (m : Mem) (h a : Int) (w : World) (hm : IsMem w v m) (hs : Small m) (hh : hasB m h a = true) :
    Calls Try.prog 16 #[v, .int .i64 h, .int .i64 a] w fun e w' => e = .returned (.tuple #[.int .i64 (loadN m h a), .int .i64 0]) ∧ Below w.heap.size w w' := by
  have HM := Lib.hid hm
  obtain ⟨h0, h1, h2, h3, h4⟩ := hasB_spec hh
  obtain ⟨a1, c1, a2, c2, a3, c3, rows, rfl, hrw, _, _, _⟩ := hm.parts
  obtain ⟨b2, o2, ar, cr, rfl, e0, e1, e2, e3, hrc, hrd⟩ := hm.row h1 h0
  obtain ⟨b1, o1, c1', ev, e4, e5, e6, hwc⟩ := hrw.some (by omega)
  injection ev with ev1 ev2 ev3
  subst ev1 ev3
  have hw0 : w.cell? ⟨b1, o1 + a.toNat, none⟩ = some (.int .i64 (wordOf m a)) := hwc a.toNat _ (intC_at' (wordOf_at h3 h4))
  have hl8 : (pendOf m h).length ≤ 1000 := hs.each _ (List.mem_of_getElem? (pendOf_at h1 h0))
  have HH := Lib.hid hh; have HRC := Lib.hid hrc; have HRD := Lib.hid hrd; have HW := Lib.hid hw0
  unfold maxLen at e6
  clear hm hh hrc hrd hw0 hwc hrw ev2 e0
  generalize m.words.length = n1 at *
  generalize m.pend.length = n2 at *
  generalize m.res.length = n3 at *
  generalize hwd : wordOf m a = wd at *
  obtain ⟨L, hL⟩ : ∃ L, pendOf m h = L := ⟨_, rfl⟩
  rw [hL] at HRC HRD hl8
  have hln : Hid (loadN m h a = lastN L a wd) := Lib.hid (by unfold loadN; rw [hL, hwd])
  rw [hln.out]
  clear hL hwd hln
  have HRL : ∀ b, ar.map (·.block) = some b → 0 < L.length → b < w.heap.size := fun b hb hl => by
    obtain ⟨b3, o3, e, hlt, _⟩ := reads_ents HRD.out hl
    rw [e] at hb
    simp at hb
    omega
  have HRLH := Lib.hid HRL; clear HRL
  refine (callsIn_wide (n := 4)).1 ?_
  refine callsIn_of_wp_marks Try.func16 rfl trivial ?_ rfl
  simp only [Try.ntmps16, List.size_toArray, List.length_cons, List.length_nil, Nat.reduceAdd, Nat.reduceSub, Array.replicate_succ, Array.replicate_zero, List.push_toArray, List.append_toArray, List.nil_append, List.cons_append]
  gi_wp2_with (first | (refine ⟨trivial, ?_⟩; gi_at_call 35; refine (callsIn_wide.2 (has_any _ m h a true _ (HM.out.below (by repeat (first | (with_reducible exact Below.refl _ _) | (with_reducible refine bw_set ?_ ?_ _) | (with_reducible apply bw_alloc) | (with_reducible refine bw_tr ?_ (by with_reducible assumption)) | (with_reducible apply bw_drew) | omega))) HH.out)).mono ?_; rintro e w1 ⟨rfl, hb1⟩; have hx1 : w1.heap[w.heap.size]? = some (.cells #[.slice (some ⟨b1, o1, none⟩) n1 c1, .slice (some ⟨b2, o2, none⟩) n2 c2, .slice a3 n3 c3] 27 (0, 0)) := up_in hb1 (four_new w _ _ _ _).1; have ht5 : w1.heap[w.heap.size + 1]? = some (.cells #[.int .i64 a] 3 (0, 0)) := up_in hb1 (four_new w _ _ _ _).2.1; have ht6 : w1.heap[w.heap.size + 1 + 1]? = some (.cells #[.int .i64 0] 3 (0, 0)) := up_in hb1 (four_new w _ _ _ _).2.2.1; have ht7 : w1.heap[w.heap.size + 1 + 1 + 1]? = some (.cells #[.int .i64 0] 28 (0, 0)) := up_in hb1 (four_new w _ _ _ _).2.2.2; have B1 : Hid (Below w.heap.size w w1) := Lib.hid ((by repeat (first | (with_reducible exact Below.refl _ _) | (with_reducible refine bw_set ?_ ?_ _) | (with_reducible apply bw_alloc) | (with_reducible refine bw_tr ?_ (by with_reducible assumption)) | (with_reducible apply bw_drew) | omega))); have sz1 : w.heap.size + 1 + 1 + 1 + 1 ≤ w1.heap.size := (by have := hb1.size; simpa using this); have k6 := cell_in (j := 0) ht6 rfl; have k7 := cell_in (j := 0) ht7 rfl; have f6 := frozen_in ht6 0; have f7 := frozen_in ht7 0; have k5 := cell_in (j := 0) ht5 rfl; obtain ⟨x0, x1, x2⟩ := three_cells hx1; have HT3 := Lib.hid hx1; have HT5 := Lib.hid ht5; have HT6 := Lib.hid ht6; have HT7 := Lib.hid ht7; clear hx1 ht5 ht6 ht7 hb1; have kr := (B1.out.cell (p := ⟨b2, o2 + h.toNat, none⟩) e3).trans HRC.out) | (refine ⟨trivial, ?_⟩; gi_at_call 40; refine (back_in Fence.wide _ trivial rfl _ _ _ _).mono ?_; rintro e w' ⟨rfl, rfl⟩))
  have hBs : (w1.alloc (.cells #[.slice ar L.length cr] 42)).cell? ⟨w1.heap.size, 0, none⟩ = some (.slice ar L.length cr) := cell_in (new_in w1 _) rfl
  have HBS := Lib.hid hBs
  have U0 : Hid (Below w1.heap.size w1 (w1.alloc (.cells #[.slice ar L.length cr] 42))) := Lib.hid (bel_new w1 _)
  have z0 : (w1.alloc (.cells #[.slice ar L.length cr] 42)).heap.size = w1.heap.size + 1 := World.size_alloc _ _
  have HZ0 := Lib.hid z0
  clear hBs z0 x0 x1 x2 k5 k6 k7 f6 f7 kr
  generalize w1.alloc (.cells #[.slice ar L.length cr] 42) = W0 at *
  have B0 : Hid (Below w.heap.size w W0) := Lib.hid (bw_tr B1.out U0.out)
  have T3 := Lib.hid (up_in U0.out HT3.out); have T5 := Lib.hid (up_in U0.out HT5.out); have T6 := Lib.hid (up_in U0.out HT6.out); have T7 := Lib.hid (up_in U0.out HT7.out)
  have zs : w1.heap.size < W0.heap.size := by have := HZ0.out; omega
  have HLR : Hid (Reads W0 2 L.length (.slice ar L.length cr) (entC L)) := Lib.hid (HRD.out.below B0.out)
  have HWD : Hid (W0.cell? ⟨b1, o1 + a.toNat, none⟩ = some (.int .i64 wd)) := Lib.hid ((B0.out.cell (p := ⟨b1, o1 + a.toNat, none⟩) e4).trans HW.out)
  have zw : w.heap.size ≤ w1.heap.size := by omega
  refine wpIn_rangeFunc_ownH rfl (by omega) (gf := 64) (lb := #[.pointer (some ⟨w1.heap.size, 0, none⟩)]) rfl trivial (enters_of Try.func64 (by kernel_rfl) rfl)
    (back_stops Fence.wide _ trivial rfl (by omega) w1.heap.size W0.heap.size cr ar L hl8 W0 zs (Nat.le_refl _) HBS.out HLR.out (fun b hb => by
      by_cases hl0 : 0 < L.length
      · have := HRLH.out b hb hl0; omega
      · rcases HLR.out.2.2 with ⟨e, _⟩ | ⟨b', o', c', e, hlt, _⟩
        · injection e with e; rw [e] at hb; simp at hb
        · injection e with e; rw [e] at hb; simp at hb; omega)) belowK_t (belowK_b (Nat.le_refl _)) (Below.refl _ _) (fun _ => rfl)
    (fun pre W => (∀ p ∈ pre, p.2.1 ≠ a) ∧ Below W0.heap.size W0 W)
    (fun c pre W => ((c = .ret ∧ ∃ ini last, pre = ini ++ [last] ∧ (∀ p ∈ ini, p.2.1 ≠ a) ∧ last.2.1 = a ∧ W.cell? ⟨w.heap.size + 1 + 1, 0, none⟩ = some (.int .i64 last.2.2) ∧ W.cell? ⟨w.heap.size + 1 + 1 + 1, 0, none⟩ = some (.int .i64 0))) ∧ Below w.heap.size w W)
    (OwnFrom.and (ownFrom_pure _ _) (ownFrom_below (Nat.le_refl _) (Nat.le_refl _)))
    (fun c => OwnFrom.and (Own.from (fun s A B row hs hg hr => by obtain ⟨hc, ini, last, q1, q2, q3, q4, q5⟩ := hs; exact ⟨hc, ini, last, q1, q2, q3, cell_kept q4 hg hr, cell_kept q5 hg hr⟩) _) (ownFrom_below (Nat.le_refl _) (by omega)))
    ⟨by simp, Below.refl _ _⟩
    (fun x a' W => ∃ Bx, W0.heap.size ≤ Bx ∧ W.heap[Bx]? = some (.cells #[.int .i64 x.2.1, .int .i64 x.2.2] 44 (0, 0)) ∧ a' = { tmps := #[.agg #[.slice (some ⟨b1, o1, none⟩) n1 c1, .slice (some ⟨b2, o2, none⟩) n2 c2, .slice a3 n3 c3], .int .i64 h, .int .i64 a, .pointer (some ⟨w.heap.size, 0, none⟩), undef, .pointer (some ⟨w.heap.size + 1, 0, none⟩), .pointer (some ⟨w.heap.size + 1 + 1, 0, none⟩), .pointer (some ⟨w.heap.size + 1 + 1 + 1, 0, none⟩), undef, .pointer (some ⟨Bx, 0, none⟩), .agg #[.slice (some ⟨b1, o1, none⟩) n1 c1, .slice (some ⟨b2, o2, none⟩) n2 c2, .slice a3 n3 c3], .int .i64 h, .int .i64 a, .bool true, .bool false, .pointer (some ⟨w.heap.size, 1, none⟩), .slice (some ⟨b2, o2, none⟩) n2 c2, .int .i64 h, .pointer (some ⟨b2, o2 + h.toNat, none⟩), .slice ar L.length cr, .func (.func 64) #[] #[.pointer (some ⟨w1.heap.size, 0, none⟩)], .int .i64 (x.1 : Int), .agg #[.int .i64 x.2.1, .int .i64 x.2.2], undef, undef, undef, undef, undef, undef, undef, undef, undef, undef, undef], defers := [] })
    (fun x a' _ X Y row hs hg hr => by
      obtain ⟨Bx, q1, q2, q3⟩ := hs
      refine ⟨Bx, q1, ?_, q3⟩
      rw [hg.block Bx (lt_in q2) (fun e => by
        obtain ⟨_, o, ho, hc⟩ := hr Bx e.symm
        rw [q2] at ho; injection ho with ho; subst ho; cases hc)]
      exact q2)
    ?assign ?body ?done ?stop
  case assign =>
    rintro l pre ⟨xn, x1, x2⟩ W K ⟨hp, hB⟩ hK
    dsimp only [backE]
    gi_wp2
    exact hK _ _ ((KeepsOthers.alloc _ _).from _) ((Below.refl _ W).alloc hB.size _) ⟨hp, hB.alloc hB.size _⟩ ⟨W.heap.size, hB.size, new_in W _, rfl⟩
  case body =>
    rintro l pre ⟨xn, x1, x2⟩ a' W hl ⟨r, hr⟩ ⟨hp, hB⟩ ⟨Bx, hBx, hX, rfl⟩ hlt
    have c0 := cell_in (j := 0) hX rfl
    have c1' := cell_in (j := 1) hX rfl
    have t5 := (hB.cell (p := ⟨w.heap.size + 1, 0, none⟩) (by show w.heap.size + 1 < _; omega)).trans (cell_in (j := 0) T5.out rfl)
    have hw6 : W.heap[w.heap.size + 1 + 1]? = some (.cells #[.int .i64 0] 3 (0, 0)) := bel_in hB (by omega) T6.out
    have hw7 : W.heap[w.heap.size + 1 + 1 + 1]? = some (.cells #[.int .i64 0] 28 (0, 0)) := bel_in hB (by omega) T7.out
    have k6 := cell_in (j := 0) hw6 rfl
    have k7 := cell_in (j := 0) hw7 rfl
    have f6 := frozen_in hw6 0
    have f7 := frozen_in hw7 0
    have H6 := Lib.hid hw6; have H7 := Lib.hid hw7; have HBW := Lib.hid hB; have HP := Lib.hid hp
    clear hw6 hw7 hr hX hB hp
    simp only at c0 c1'
    by_cases hxa : x1 = a
    · have hxb : (x1 == a) = true := by simp [hxa]
      have HXA := Lib.hid hxa; clear hxa
      gi_wp2
      refine ⟨((KeepsOthers.setCell _ _ _).trans (KeepsOthers.setCell _ _ _)).from _, ⟨rfl, pre, (xn, x1, x2), rfl, HP.out, HXA.out, ?_, ?_⟩, bw_set (bw_set (bw_tr B0.out HBW.out) (by omega) _) (by omega) _⟩
      · exact cell_in (j := 0) (by rw [heap_set (by omega)]; exact set_in H6.out 0 _) rfl
      · exact cell_in (j := 0) (set_in (heap_set_ne (by omega) H7.out) 0 _) rfl
    · have hxb : (x1 == a) = false := by simp [hxa]
      have HXA := Lib.hid hxa; clear hxa
      gi_wp2
      exact ⟨KeepsFrom.refl _ _, Below.refl _ _, ⟨fun p hp' => (List.mem_append.1 hp').elim (HP.out p) (fun e => by simp at e; subst e; exact HXA.out), HBW.out⟩⟩
  case done =>
    rintro D ys W hD rfl ⟨hne, hB⟩ hK
    have hlast : Hid (lastN L a wd = wd) := Lib.hid (lastN_none _ _ (fun x hx => by
      obtain ⟨i, hi, rfl⟩ := List.mem_iff_getElem.1 hx
      have := hne (backF L (L.length - 1 - i)) (mem_upto.2 ⟨L.length - 1 - i, by omega, rfl⟩)
      unfold backF at this
      rw [show L.length - 1 - (L.length - 1 - i) = i by omega] at this
      simpa [hi] using this) _)
    clear hne
    have y3 := three_cells (bel_in hB (by omega) T3.out)
    obtain ⟨y30, y31, y32⟩ := y3
    have t5 := (hB.cell (p := ⟨w.heap.size + 1, 0, none⟩) (by show w.heap.size + 1 < _; omega)).trans (cell_in (j := 0) T5.out rfl)
    have hwd := (hB.cell (p := ⟨b1, o1 + a.toNat, none⟩) (by show b1 < _; omega)).trans HWD.out
    have hw6 : W.heap[w.heap.size + 1 + 1]? = some (.cells #[.int .i64 0] 3 (0, 0)) := bel_in hB (by omega) T6.out
    have hw7 : W.heap[w.heap.size + 1 + 1 + 1]? = some (.cells #[.int .i64 0] 28 (0, 0)) := bel_in hB (by omega) T7.out
    have k6 := cell_in (j := 0) hw6 rfl
    have k7 := cell_in (j := 0) hw7 rfl
    have f6 := frozen_in hw6 0
    have f7 := frozen_in hw7 0
    have H6 := Lib.hid hw6; have H7 := Lib.hid hw7; have HBW := Lib.hid hB
    clear hw6 hw7 hB
    gi_wp2
    have hK' := ((KeepsOthers.setCell W ⟨w.heap.size + 1 + 1, 0, none⟩ (.int .i64 wd)).trans (KeepsOthers.setCell _ ⟨w.heap.size + 1 + 1 + 1, 0, none⟩ (.int .i64 0))).same D _ hK rfl
    have q6 : ((W.setCell ⟨w.heap.size + 1 + 1, 0, none⟩ (.int .i64 wd)).setCell ⟨w.heap.size + 1 + 1 + 1, 0, none⟩ (.int .i64 0)).cell? ⟨w.heap.size + 1 + 1, 0, none⟩ = some (.int .i64 wd) := cell_in (j := 0) (by rw [heap_set (by omega)]; exact set_in H6.out 0 _) rfl
    have q7 : ((W.setCell ⟨w.heap.size + 1 + 1, 0, none⟩ (.int .i64 wd)).setCell ⟨w.heap.size + 1 + 1 + 1, 0, none⟩ (.int .i64 0)).cell? ⟨w.heap.size + 1 + 1 + 1, 0, none⟩ = some (.int .i64 0) := cell_in (j := 0) (set_in (heap_set_ne (by omega) H7.out) 0 _) rfl
    refine ⟨by simp, .inl ⟨_, _, rfl, run_takeDeferred hK', ?_⟩⟩
    have d6 := cell_kept q6 (grownBy_putObj' _ D (.deferred none)) (fun r e => by cases e; exact ⟨_, hK', rfl⟩)
    have d7 := cell_kept q7 (grownBy_putObj' _ D (.deferred none)) (fun r e => by cases e; exact ⟨_, hK', rfl⟩)
    exact ⟨.tuple #[.int .i64 wd, .int .i64 0], by simp [results, Try.f16, go_sem, d6, d7], by rw [hlast.out],
      (bw_set (bw_set (bw_tr B0.out HBW.out) (by omega) _) (by omega) _).trans (belowK_b (w := w) (Nat.le_refl _) _ D _ _ (by omega) hK' rfl rfl)⟩
  case stop =>
    rintro D c pre W hD ⟨k, hk, rfl⟩ ⟨⟨rfl, ini, last, q1, q2, q3, q6, q7⟩, hB⟩ hK
    have hlast : Hid (lastN L a wd = last.2.2) := Lib.hid (by
      obtain ⟨k', rfl⟩ : ∃ k', k = k' + 1 := by
        cases k with
        | zero => simp [upto] at q1
        | succ k' => exact ⟨k', rfl⟩
      rw [upto_succ] at q1
      obtain ⟨rfl, e5⟩ := List.append_inj' q1 rfl
      have e6 : backF L k' = last := by simpa using e5
      subst e6
      have hi : L.length - 1 - k' < L.length := by omega
      have hgd : L.getD (L.length - 1 - k') (0, 0) = L[L.length - 1 - k'] := by simp [hi]
      unfold backF at q3 ⊢
      simp only [hgd] at q3 ⊢
      refine lastN_back L a wd (L.length - 1 - k') _ (by simp [hi]) q3 (fun y hy => ?_)
      obtain ⟨i, hi2, rfl⟩ := List.mem_iff_getElem.1 hy
      have hi3 : L.length - 1 - k' + 1 + i < L.length := by simp at hi2; omega
      have := q2 (backF L (L.length - 1 - (L.length - 1 - k' + 1 + i))) (mem_upto.2 ⟨_, by omega, rfl⟩)
      unfold backF at this
      rw [show L.length - 1 - (L.length - 1 - (L.length - 1 - k' + 1 + i)) = L.length - 1 - k' + 1 + i by omega] at this
      simpa [hi3] using this)
    clear q1 q2 q3
    gi_wp2
    refine ⟨by simp, .inl ⟨_, _, rfl, run_takeDeferred hK, ?_⟩⟩
    have d6 := cell_kept q6 (grownBy_putObj' _ D (.deferred none)) (fun r e => by cases e; exact ⟨_, hK, rfl⟩)
    have d7 := cell_kept q7 (grownBy_putObj' _ D (.deferred none)) (fun r e => by cases e; exact ⟨_, hK, rfl⟩)
    exact ⟨.tuple #[.int .i64 last.2.2, .int .i64 0], by simp [results, Try.f16, go_sem, d6, d7], by rw [hlast.out],
      hB.trans (belowK_b (w := w) (Nat.le_refl _) W D _ _ (by omega) hK rfl rfl)⟩
theorem load_any (v : Value) (m : Mem) (h a : Int) (r : Int × Int) (w : World) (hm : IsMem w v m) (hs : Small m) (hr : loadR m h a = r) :
    Calls Try.prog 16 #[v, .int .i64 h, .int .i64 a] w fun e w' => e = .returned (.tuple #[.int .i64 r.1, .int .i64 r.2]) ∧ Below w.heap.size w w' := by
  subst hr
  unfold loadR
  cases hh : hasB m h a
  · rw [if_neg (by decide)]; exact load_no v m h a w hm hh
  · rw [if_pos rfl]; exact load_yes v m h a w hm hs hh
end Go.Proofs.Ytkhobelceghgfaa
