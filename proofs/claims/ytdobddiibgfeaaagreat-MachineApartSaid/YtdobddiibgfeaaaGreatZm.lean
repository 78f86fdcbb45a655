/-
  What the walks of this statement lean on (MemLoad, MemNew, MemEqual, MemSame, MemPlain, MemPlain2): shown.
-/
import Derived.Test.YtdobddiibgfeaaaGreatZl
import Derived.Test.YtdobddiibgfeaaaGreatZa
import Derived.Laws.CopyOwn
import Derived.Laws.OwnMore
import Derived.Deep.DeepCutAuto
import Derived.Deep.QuietTactic
import Derived.BigQuiet
set_option linter.unusedVariables false
set_option linter.unusedSimpArgs false
namespace Go.Proofs.YtdobddiibgfeaaaGreat
section
open Go.RowKit Go.Shelf
attribute [local go_sem] Oper.semAt_some
theorem heap4 {w : World} {o : Obj} {b : Nat} : (w.alloc o).heap[b]? = if b = w.heap.size then some o else w.heap[b]? := by
 by_cases h : b = w.heap.size
 · subst h; rw [if_pos rfl]; exact zat w o
 · rw [if_neg h]
   by_cases hb : b < w.heap.size
   · first | exact heap_alloc_old w o b hb | exact heap_alloc_old w o hb
   · rw [Array.getElem?_eq_none (by simp; omega), Array.getElem?_eq_none (by omega)]
theorem zcH (w : World) (o0 o1 o2 o3 : Obj) : ((((w.alloc o0).alloc o1).alloc o2).alloc o3).heap[w.heap.size]? = some o0 ∧ ((((w.alloc o0).alloc o1).alloc o2).alloc o3).heap[w.heap.size + 1]? = some o1 ∧
 ((((w.alloc o0).alloc o1).alloc o2).alloc o3).heap[w.heap.size + 1 + 1]? = some o2 ∧ ((((w.alloc o0).alloc o1).alloc o2).alloc o3).heap[w.heap.size + 1 + 1 + 1]? = some o3 := by
 simp only [heap4, World.size_alloc]
 refine ⟨?_, ?_, ?_, ?_⟩
 · rw [if_neg (by omega), if_neg (by omega), if_neg (by omega), if_pos trivial]
 · rw [if_neg (by omega), if_neg (by omega), if_pos trivial]
 · rw [if_neg (by omega), if_pos trivial]
 · rw [if_pos trivial]
set_option maxRecDepth 100000 in
set_option maxHeartbeats 8000000 in
theorem load_no (v : Value) (m : Mem) (h a : Int) (w : World) (hm : IsMem w v m) (hh : hasB m h a = false) :
 Calls Tryz.prog 160 #[v, .int .i64 h, .int .i64 a] w fun e w' => e = .returned (.tuple #[.int .i64 0, .int .i64 1]) ∧ Below w.heap.size w w' := by
 have HM := zhd hm
 obtain ⟨a1, c1, a2, c2, a3, c3, rows, rfl, _, _, _, _⟩ := hm.parts
 have HH := zhd hh; clear hm hh
 generalize m.words.length = n1 at *
 generalize m.pend.length = n2 at *
 generalize m.res.length = n3 at *
 refine (callsIn_wide (n := 4)).1 ?_
 refine callsIn_of_wp_marks Tryz.func160 rfl trivial ?_ rfl
 simp only [Tryz.ntmps160, List.size_toArray, List.length_cons, List.length_nil, Nat.reduceAdd, Nat.reduceSub, Array.replicate_succ, Array.replicate_zero, List.push_toArray, List.append_toArray, List.nil_append, List.cons_append]
 gi_wp2_with (refine ⟨trivial, ?_⟩; gi_at_call 119; refine (callsIn_wide.2 (zc2 _ m h a false _ (HM.out.below (by repeat (first | (with_reducible first | exact Below.refl _ _ | refine zaj ?_ ?_ _ | apply zag | refine zae ?_ (by assumption) | apply zak) | omega))) HH.out)).mono ?_; rintro e w1 ⟨rfl, hb1⟩; have hx1 : w1.heap[w.heap.size]? = some (.cells #[.slice a1 n1 c1, .slice a2 n2 c2, .slice a3 n3 c3] 33 (0, 0)) := zaf hb1 (zcH w _ _ _ _).1; have ht5 : w1.heap[w.heap.size + 1]? = some (.cells #[.int .i64 a] 3 (0, 0)) := zaf hb1 (zcH w _ _ _ _).2.1; have ht6 : w1.heap[w.heap.size + 1 + 1]? = some (.cells #[.int .i64 0] 3 (0, 0)) := zaf hb1 (zcH w _ _ _ _).2.2.1; have ht7 : w1.heap[w.heap.size + 1 + 1 + 1]? = some (.cells #[.int .i64 0] 38 (0, 0)) := zaf hb1 (zcH w _ _ _ _).2.2.2; have B1 : Hid (Below w.heap.size w w1) := zhd ((by repeat (first | (with_reducible first | exact Below.refl _ _ | refine zaj ?_ ?_ _ | apply zag | refine zae ?_ (by assumption) | apply zak) | omega))); have sz1 : w.heap.size + 1 + 1 + 1 + 1 ≤ w1.heap.size := (by have := hb1.size; simpa using this); have k6 := zad (j := 0) ht6 rfl; have k7 := zad (j := 0) ht7 rfl; have f6 := zaa ht6 0; have f7 := zaa ht7 0; have k5 := zad (j := 0) ht5 rfl; obtain ⟨x0, x1, x2⟩ := zah hx1; have HT3 := zhd hx1; have HT5 := zhd ht5; have HT6 := zhd ht6; have HT7 := zhd ht7; clear hx1 ht5 ht6 ht7 hb1)
 have s6 : ((w1.setCell ⟨w.heap.size + 1 + 1, 0, none⟩ (.int .i64 0)).setCell ⟨w.heap.size + 1 + 1 + 1, 0, none⟩ (.int .i64 1)).cell? ⟨w.heap.size + 1 + 1, 0, none⟩ = some (.int .i64 0) := zad (j := 0) (by rw [zaD (by omega)]; exact zaG HT6.out 0 _) rfl
 have s7 : ((w1.setCell ⟨w.heap.size + 1 + 1, 0, none⟩ (.int .i64 0)).setCell ⟨w.heap.size + 1 + 1 + 1, 0, none⟩ (.int .i64 1)).cell? ⟨w.heap.size + 1 + 1 + 1, 0, none⟩ = some (.int .i64 1) := zad (j := 0) (zaG (zay (by omega) HT7.out) 0 _) rfl
 exact ⟨.tuple #[.int .i64 0, .int .i64 1], by simp [results, Tryz.f160, go_sem, s6, s7], rfl, zaj (zaj B1.out (by omega) _) (by omega) _⟩
set_option maxRecDepth 100000 in
set_option maxHeartbeats 8000000 in
theorem load_yes (v : Value) (m : Mem) (h a : Int) (w : World) (hm : IsMem w v m) (hs : Small m) (hh : hasB m h a = true) :
 Calls Tryz.prog 160 #[v, .int .i64 h, .int .i64 a] w fun e w' => e = .returned (.tuple #[.int .i64 (loadN m h a), .int .i64 0]) ∧ Below w.heap.size w w' := by
 have HM := zhd hm
 obtain ⟨h0, h1, h2, h3, h4⟩ := zcG hh
 obtain ⟨a1, c1, a2, c2, a3, c3, rows, rfl, hrw, _, _, _⟩ := hm.parts
 obtain ⟨b2, o2, ar, cr, rfl, e0, e1, e2, e3, hrc, hrd⟩ := hm.row h1 h0
 obtain ⟨b1, o1, c1', ev, e4, e5, e6, hwc⟩ := hrw.some (by omega)
 injection ev with ev1 ev2 ev3
 subst ev1 ev3
 have hw0 : w.cell? ⟨b1, o1 + a.toNat, none⟩ = some (.int .i64 (zbR m a)) := hwc a.toNat _ (zd6 (zfy h3 h4))
 have hl8 : (zaJ m h).length ≤ 1000 := hs.each _ (List.mem_of_getElem? (zdi h1 h0))
 have HH := zhd hh; have HRC := zhd hrc; have HRD := zhd hrd; have HW := zhd hw0
 unfold maxLen at e6
 clear hm hh hrc hrd hw0 hwc hrw ev2 e0
 generalize m.words.length = n1 at *
 generalize m.pend.length = n2 at *
 generalize m.res.length = n3 at *
 generalize hwd : zbR m a = wd at *
 obtain ⟨L, hL⟩ : ∃ L, zaJ m h = L := ⟨_, rfl⟩
 rw [hL] at HRC HRD hl8
 have hln : Hid (loadN m h a = zez L a wd) := zhd (by unfold loadN; rw [hL, hwd])
 rw [hln.out]
 clear hL hwd hln
 have HRL : ∀ b, ar.map (·.block) = some b → 0 < L.length → b < w.heap.size := fun b hb hl => by
  obtain ⟨b3, o3, e, hlt, _⟩ := zeL HRD.out hl
  rw [e] at hb
  simp at hb
  omega
 have HRLH := zhd HRL; clear HRL
 refine (callsIn_wide (n := 4)).1 ?_
 refine callsIn_of_wp_marks Tryz.func160 rfl trivial ?_ rfl
 simp only [Tryz.ntmps160, List.size_toArray, List.length_cons, List.length_nil, Nat.reduceAdd, Nat.reduceSub, Array.replicate_succ, Array.replicate_zero, List.push_toArray, List.append_toArray, List.nil_append, List.cons_append]
 gi_wp2_with (first | (refine ⟨trivial, ?_⟩; gi_at_call 119; refine (callsIn_wide.2 (zc2 _ m h a true _ (HM.out.below (by repeat (first | (with_reducible first | exact Below.refl _ _ | refine zaj ?_ ?_ _ | apply zag | refine zae ?_ (by assumption) | apply zak) | omega))) HH.out)).mono ?_; rintro e w1 ⟨rfl, hb1⟩; have hx1 : w1.heap[w.heap.size]? = some (.cells #[.slice (some ⟨b1, o1, none⟩) n1 c1, .slice (some ⟨b2, o2, none⟩) n2 c2, .slice a3 n3 c3] 33 (0, 0)) := zaf hb1 (zcH w _ _ _ _).1; have ht5 : w1.heap[w.heap.size + 1]? = some (.cells #[.int .i64 a] 3 (0, 0)) := zaf hb1 (zcH w _ _ _ _).2.1; have ht6 : w1.heap[w.heap.size + 1 + 1]? = some (.cells #[.int .i64 0] 3 (0, 0)) := zaf hb1 (zcH w _ _ _ _).2.2.1; have ht7 : w1.heap[w.heap.size + 1 + 1 + 1]? = some (.cells #[.int .i64 0] 38 (0, 0)) := zaf hb1 (zcH w _ _ _ _).2.2.2; have B1 : Hid (Below w.heap.size w w1) := zhd ((by repeat (first | (with_reducible first | exact Below.refl _ _ | refine zaj ?_ ?_ _ | apply zag | refine zae ?_ (by assumption) | apply zak) | omega))); have sz1 : w.heap.size + 1 + 1 + 1 + 1 ≤ w1.heap.size := (by have := hb1.size; simpa using this); have k6 := zad (j := 0) ht6 rfl; have k7 := zad (j := 0) ht7 rfl; have f6 := zaa ht6 0; have f7 := zaa ht7 0; have k5 := zad (j := 0) ht5 rfl; obtain ⟨x0, x1, x2⟩ := zah hx1; have HT3 := zhd hx1; have HT5 := zhd ht5; have HT6 := zhd ht6; have HT7 := zhd ht7; clear hx1 ht5 ht6 ht7 hb1; have kr := (B1.out.cell (p := ⟨b2, o2 + h.toNat, none⟩) e3).trans HRC.out) | (refine ⟨trivial, ?_⟩; gi_at_call 188; refine (back_in Fence.wide _ trivial rfl _ _ _ _).mono ?_; rintro e w' ⟨rfl, rfl⟩))
 have hBs : (w1.alloc (.cells #[.slice ar L.length cr] 57)).cell? ⟨w1.heap.size, 0, none⟩ = some (.slice ar L.length cr) := zad (zat w1 _) rfl
 have HBS := zhd hBs
 have U0 : Hid (Below w1.heap.size w1 (w1.alloc (.cells #[.slice ar L.length cr] 57))) := zhd (zan w1 _)
 have z0 : (w1.alloc (.cells #[.slice ar L.length cr] 57)).heap.size = w1.heap.size + 1 := World.size_alloc _ _
 have HZ0 := zhd z0
 clear hBs z0 x0 x1 x2 k5 k6 k7 f6 f7 kr
 generalize w1.alloc (.cells #[.slice ar L.length cr] 57) = W0 at *
 have B0 : Hid (Below w.heap.size w W0) := zhd (zae B1.out U0.out)
 have T3 := zhd (zaf U0.out HT3.out); have T5 := zhd (zaf U0.out HT5.out); have T6 := zhd (zaf U0.out HT6.out); have T7 := zhd (zaf U0.out HT7.out)
 have zs : w1.heap.size < W0.heap.size := by have := HZ0.out; omega
 have HLR : Hid (Reads W0 2 L.length (.slice ar L.length cr) (entC L)) := zhd (HRD.out.below B0.out)
 have HWD : Hid (W0.cell? ⟨b1, o1 + a.toNat, none⟩ = some (.int .i64 wd)) := zhd ((B0.out.cell (p := ⟨b1, o1 + a.toNat, none⟩) e4).trans HW.out)
 have zw : w.heap.size ≤ w1.heap.size := by omega
 refine wpIn_rangeFunc_ownH rfl (by omega) (gf := 194) (lb := #[.pointer (some ⟨w1.heap.size, 0, none⟩)]) rfl trivial (enters_of Tryz.func194 (by kernel_rfl) rfl)
  (zkH Fence.wide _ trivial rfl (by omega) w1.heap.size W0.heap.size cr ar L hl8 W0 zs (Nat.le_refl _) HBS.out HLR.out (fun b hb => by
   by_cases hl0 : 0 < L.length
   · have := HRLH.out b hb hl0; omega
   · rcases HLR.out.2.2 with ⟨e, _⟩ | ⟨b', o', c', e, hlt, _⟩
     · injection e with e; rw [e] at hb; simp at hb
     · injection e with e; rw [e] at hb; simp at hb; omega)) belowK_t (belowK_b (Nat.le_refl _)) (Below.refl _ _) (fun _ => rfl)
  (fun pre W => (∀ p ∈ pre, p.2.1 ≠ a) ∧ Below W0.heap.size W0 W)
  (fun c pre W => ((c = .ret ∧ ∃ ini last, pre = ini ++ [last] ∧ (∀ p ∈ ini, p.2.1 ≠ a) ∧ last.2.1 = a ∧ W.cell? ⟨w.heap.size + 1 + 1, 0, none⟩ = some (.int .i64 last.2.2) ∧ W.cell? ⟨w.heap.size + 1 + 1 + 1, 0, none⟩ = some (.int .i64 0))) ∧ Below w.heap.size w W)
  (OwnFrom.and (ownFrom_pure _ _) (ownFrom_below (Nat.le_refl _) (Nat.le_refl _)))
  (fun c => OwnFrom.and (Own.from (fun s A B row hs hg hr => by obtain ⟨hc, ini, last, q1, q2, q3, q4, q5⟩ := hs; exact ⟨hc, ini, last, q1, q2, q3, cell_kept q4 hg hr, cell_kept q5 hg hr⟩) _) (ownFrom_below (Nat.le_refl _) (by omega)))
  ⟨by simp, Below.refl _ _⟩
  (fun x a' W => ∃ Bx, W0.heap.size ≤ Bx ∧ W.heap[Bx]? = some (.cells #[.int .i64 x.2.1, .int .i64 x.2.2] 127 (0, 0)) ∧ a' = { tmps := #[.agg #[.slice (some ⟨b1, o1, none⟩) n1 c1, .slice (some ⟨b2, o2, none⟩) n2 c2, .slice a3 n3 c3], .int .i64 h, .int .i64 a, .pointer (some ⟨w.heap.size, 0, none⟩), undef, .pointer (some ⟨w.heap.size + 1, 0, none⟩), .pointer (some ⟨w.heap.size + 1 + 1, 0, none⟩), .pointer (some ⟨w.heap.size + 1 + 1 + 1, 0, none⟩), undef, .pointer (some ⟨Bx, 0, none⟩), .agg #[.slice (some ⟨b1, o1, none⟩) n1 c1, .slice (some ⟨b2, o2, none⟩) n2 c2, .slice a3 n3 c3], .int .i64 h, .int .i64 a, .bool true, .bool false, .pointer (some ⟨w.heap.size, 1, none⟩), .slice (some ⟨b2, o2, none⟩) n2 c2, .int .i64 h, .pointer (some ⟨b2, o2 + h.toNat, none⟩), .slice ar L.length cr, .func (.func 194) #[] #[.pointer (some ⟨w1.heap.size, 0, none⟩)], .int .i64 (x.1 : Int), .agg #[.int .i64 x.2.1, .int .i64 x.2.2], undef, undef, undef, undef, undef, undef, undef, undef, undef, undef, undef], defers := [] })
  (fun x a' _ X Y row hs hg hr => by
   obtain ⟨Bx, q1, q2, q3⟩ := hs
   refine ⟨Bx, q1, ?_, q3⟩
   rw [hg.block Bx (zao q2) (fun e => by
    obtain ⟨_, o, ho, hc⟩ := hr Bx e.symm
    rw [q2] at ho; injection ho with ho; subst ho; cases hc)]
   exact q2)
  ?assign ?body ?done ?stop
 case assign =>
  rintro l pre ⟨xn, x1, x2⟩ W K ⟨hp, hB⟩ hK
  dsimp only [backE]
  gi_wp2
  exact hK _ _ ((KeepsOthers.alloc _ _).from _) ((Below.refl _ W).alloc hB.size _) ⟨hp, hB.alloc hB.size _⟩ ⟨W.heap.size, hB.size, zat W _, rfl⟩
 case body =>
  rintro l pre ⟨xn, x1, x2⟩ a' W hl ⟨r, hr⟩ ⟨hp, hB⟩ ⟨Bx, hBx, hX, rfl⟩ hlt
  have c0 := zad (j := 0) hX rfl
  have c1' := zad (j := 1) hX rfl
  have t5 := (hB.cell (p := ⟨w.heap.size + 1, 0, none⟩) (by show w.heap.size + 1 < _; omega)).trans (zad (j := 0) T5.out rfl)
  have hw6 : W.heap[w.heap.size + 1 + 1]? = some (.cells #[.int .i64 0] 3 (0, 0)) := zaq hB (by omega) T6.out
  have hw7 : W.heap[w.heap.size + 1 + 1 + 1]? = some (.cells #[.int .i64 0] 38 (0, 0)) := zaq hB (by omega) T7.out
  have k6 := zad (j := 0) hw6 rfl
  have k7 := zad (j := 0) hw7 rfl
  have f6 := zaa hw6 0
  have f7 := zaa hw7 0
  have H6 := zhd hw6; have H7 := zhd hw7; have HBW := zhd hB; have HP := zhd hp
  clear hw6 hw7 hr hX hB hp
  simp only at c0 c1'
  by_cases hxa : x1 = a
  · have hxb : (x1 == a) = true := by simp [hxa]
    have HXA := zhd hxa; clear hxa
    gi_wp2
    refine ⟨((KeepsOthers.setCell _ _ _).trans (KeepsOthers.setCell _ _ _)).from _, ⟨rfl, pre, (xn, x1, x2), rfl, HP.out, HXA.out, ?_, ?_⟩, zaj (zaj (zae B0.out HBW.out) (by omega) _) (by omega) _⟩
    · exact zad (j := 0) (by rw [zaD (by omega)]; exact zaG H6.out 0 _) rfl
    · exact zad (j := 0) (zaG (zay (by omega) H7.out) 0 _) rfl
  · have hxb : (x1 == a) = false := by simp [hxa]
    have HXA := zhd hxa; clear hxa
    gi_wp2
    exact ⟨KeepsFrom.refl _ _, Below.refl _ _, ⟨fun p hp' => (List.mem_append.1 hp').elim (HP.out p) (fun e => by simp at e; subst e; exact HXA.out), HBW.out⟩⟩
 case done =>
  rintro D ys W hD rfl ⟨hne, hB⟩ hK
  have hlast : Hid (zez L a wd = wd) := zhd (zgr _ _ (fun x hx => by
   obtain ⟨i, hi, rfl⟩ := List.mem_iff_getElem.1 hx
   have := hne (zeV L (L.length - 1 - i)) (zjc.2 ⟨L.length - 1 - i, by omega, rfl⟩)
   unfold zeV at this
   rw [show L.length - 1 - (L.length - 1 - i) = i by omega] at this
   simpa [hi] using this) _)
  clear hne
  have y3 := zah (zaq hB (by omega) T3.out)
  obtain ⟨y30, y31, y32⟩ := y3
  have t5 := (hB.cell (p := ⟨w.heap.size + 1, 0, none⟩) (by show w.heap.size + 1 < _; omega)).trans (zad (j := 0) T5.out rfl)
  have hwd := (hB.cell (p := ⟨b1, o1 + a.toNat, none⟩) (by show b1 < _; omega)).trans HWD.out
  have hw6 : W.heap[w.heap.size + 1 + 1]? = some (.cells #[.int .i64 0] 3 (0, 0)) := zaq hB (by omega) T6.out
  have hw7 : W.heap[w.heap.size + 1 + 1 + 1]? = some (.cells #[.int .i64 0] 38 (0, 0)) := zaq hB (by omega) T7.out
  have k6 := zad (j := 0) hw6 rfl
  have k7 := zad (j := 0) hw7 rfl
  have f6 := zaa hw6 0
  have f7 := zaa hw7 0
  have H6 := zhd hw6; have H7 := zhd hw7; have HBW := zhd hB
  clear hw6 hw7 hB
  gi_wp2
  have hK' := ((KeepsOthers.setCell W ⟨w.heap.size + 1 + 1, 0, none⟩ (.int .i64 wd)).trans (KeepsOthers.setCell _ ⟨w.heap.size + 1 + 1 + 1, 0, none⟩ (.int .i64 0))).same D _ hK rfl
  have q6 : ((W.setCell ⟨w.heap.size + 1 + 1, 0, none⟩ (.int .i64 wd)).setCell ⟨w.heap.size + 1 + 1 + 1, 0, none⟩ (.int .i64 0)).cell? ⟨w.heap.size + 1 + 1, 0, none⟩ = some (.int .i64 wd) := zad (j := 0) (by rw [zaD (by omega)]; exact zaG H6.out 0 _) rfl
  have q7 : ((W.setCell ⟨w.heap.size + 1 + 1, 0, none⟩ (.int .i64 wd)).setCell ⟨w.heap.size + 1 + 1 + 1, 0, none⟩ (.int .i64 0)).cell? ⟨w.heap.size + 1 + 1 + 1, 0, none⟩ = some (.int .i64 0) := zad (j := 0) (zaG (zay (by omega) H7.out) 0 _) rfl
  refine ⟨by simp, .inl ⟨_, _, rfl, run_takeDeferred hK', ?_⟩⟩
  have d6 := cell_kept q6 (grownBy_putObj' _ D (.deferred none)) (fun r e => by cases e; exact ⟨_, hK', rfl⟩)
  have d7 := cell_kept q7 (grownBy_putObj' _ D (.deferred none)) (fun r e => by cases e; exact ⟨_, hK', rfl⟩)
  exact ⟨.tuple #[.int .i64 wd, .int .i64 0], by simp [results, Tryz.f160, go_sem, d6, d7], by rw [hlast.out],
   (zaj (zaj (zae B0.out HBW.out) (by omega) _) (by omega) _).trans (belowK_b (w := w) (Nat.le_refl _) _ D _ _ (by omega) hK' rfl rfl)⟩
 case stop =>
  rintro D c pre W hD ⟨k, hk, rfl⟩ ⟨⟨rfl, ini, last, q1, q2, q3, q6, q7⟩, hB⟩ hK
  have hlast : Hid (zez L a wd = last.2.2) := zhd (by
   obtain ⟨k', rfl⟩ : ∃ k', k = k' + 1 := by
    cases k with
    | zero => simp [upto] at q1
    | succ k' => exact ⟨k', rfl⟩
   rw [zfz] at q1
   obtain ⟨rfl, e5⟩ := List.append_inj' q1 rfl
   have e6 : zeV L k' = last := by simpa using e5
   subst e6
   have hi : L.length - 1 - k' < L.length := by omega
   have hgd : L.getD (L.length - 1 - k') (0, 0) = L[L.length - 1 - k'] := by simp [hi]
   unfold zeV at q3 ⊢
   simp only [hgd] at q3 ⊢
   refine zj9 L a wd (L.length - 1 - k') _ (by simp [hi]) q3 (fun y hy => ?_)
   obtain ⟨i, hi2, rfl⟩ := List.mem_iff_getElem.1 hy
   have hi3 : L.length - 1 - k' + 1 + i < L.length := by simp at hi2; omega
   have := q2 (zeV L (L.length - 1 - (L.length - 1 - k' + 1 + i))) (zjc.2 ⟨_, by omega, rfl⟩)
   unfold zeV at this
   rw [show L.length - 1 - (L.length - 1 - (L.length - 1 - k' + 1 + i)) = L.length - 1 - k' + 1 + i by omega] at this
   simpa [hi3] using this)
  clear q1 q2 q3
  gi_wp2
  refine ⟨by simp, .inl ⟨_, _, rfl, run_takeDeferred hK, ?_⟩⟩
  have d6 := cell_kept q6 (grownBy_putObj' _ D (.deferred none)) (fun r e => by cases e; exact ⟨_, hK, rfl⟩)
  have d7 := cell_kept q7 (grownBy_putObj' _ D (.deferred none)) (fun r e => by cases e; exact ⟨_, hK, rfl⟩)
  exact ⟨.tuple #[.int .i64 last.2.2, .int .i64 0], by simp [results, Tryz.f160, go_sem, d6, d7], by rw [hlast.out],
   hB.trans (belowK_b (w := w) (Nat.le_refl _) W D _ _ (by omega) hK rfl rfl)⟩
theorem load_any (v : Value) (m : Mem) (h a : Int) (r : Int × Int) (w : World) (hm : IsMem w v m) (hs : Small m) (hr : zgj m h a = r) :
 Calls Tryz.prog 160 #[v, .int .i64 h, .int .i64 a] w fun e w' => e = .returned (.tuple #[.int .i64 r.1, .int .i64 r.2]) ∧ Below w.heap.size w w' := by
 subst hr
 unfold zgj
 cases hh : hasB m h a
 · rw [if_neg (by decide)]; exact load_no v m h a w hm hh
 · rw [if_pos rfl]; exact load_yes v m h a w hm hs hh
end
section
open Go.RowKit
set_option maxRecDepth 100000
set_option maxHeartbeats 2000000 in
theorem zio (k : Int) (w : World) (hk : k = 1 ∨ k = 2 ∨ k = 3 ∨ k = 4) : Calls Tryz.prog 143 #[.int .u64 1, .int .u64 k] w fun e w' => e = .returned (.tuple #[.int .u64 0, .int .u64 k]) ∧ w = w' := by
 rcases hk with rfl | rfl | rfl | rfl
 all_goals
  go_enter Tryz.func143, Tryz.ntmps143
  go_wp2
  go_ret2
  exact ⟨ret2 (by kernel_rfl) (by kernel_rfl), rfl⟩
set_option maxHeartbeats 2000000 in
theorem zex (k : Int) (w : World) (hk : k = 1 ∨ k = 2 ∨ k = 3 ∨ k = 4) : Calls Tryz.prog 106 #[.int .u64 1, .int .u64 k] w fun e w' => e = .returned (.tuple #[.int .u64 0, .int .u64 k]) ∧ w = w' := by
 have HK := zhd hk; clear hk
 go_enter Tryz.func106, Tryz.ntmps106
 go_wp2_with (go_at_call 143; ((with_reducible refine (zio k _ HK.out).mono ?_); rintro e w' ⟨rfl, rfl⟩))
 go_ret2
 exact ⟨rfl, rfl⟩
theorem zcv : (Tryz.prog.info? 3).map (·.size) = some 1 := by kernel_rfl
set_option maxHeartbeats 4000000 in
theorem repeat_1 (b : Nat) (w : World) (hb : w.heap[b]? = some (.cells #[.int .i64 (-1)] 3 (0, 0))) :
 Calls Tryz.prog 65 #[.slice (some ⟨b, 0, none⟩) 1 1, .int .i64 1] w fun e w' => ∃ g, e = .returned (.slice (some ⟨g, 0, none⟩) 1 1) ∧ w'.heap[g]? = some (.cells #[.int .i64 (-1)] 3 (0, 0)) ∧ w.heap.size ≤ g ∧ Below w.heap.size w w' := by
 have HB := zhd hb; clear hb
 have hmk : ∀ w, (Instr.makeSlice 24 (.int .i64 1) (.int .i64 1)).run Tryz.prog w = .ok (.slice (some ⟨w.heap.size, 0, none⟩) 1 1) (w.alloc (.cells #[.int .i64 0] 3)) := fun _ => by kernel_rfl
 have hsrc : ∀ (j : Nat) (v : Value), ([.int .i64 (-1)] : List Value)[j]? = some v → (w.alloc (.cells #[.int .i64 0] 3)).cell? ((⟨b, 0, none⟩ : Addr).add j) = some v := fun j v hj => by
  have : j = 0 := by have := (List.getElem?_eq_some_iff.1 hj).1; simp at this; exact this
  subst this; simp at hj; subst hj; rw [zaQ]; exact zad (zaf (zan w _) HB.out) rfl
 have HS := zhd hsrc; clear hsrc
 have ho1 : ∀ v ∈ ([.int .i64 (-1)] : List Value), v.oneCell' = true := by simp [Value.oneCell']
 have HO1 := zhd ho1; clear ho1
 go_enter Tryz.func65, Tryz.ntmps65
 go_wp2_with (first | (go_at_call 106; ((with_reducible refine (zex 1 _ (by decide)).mono ?_); rintro e w' ⟨rfl, rfl⟩)) | (refine wpList_copy_splice rfl (.tmp 31) (.tmp 32) 24 24 rfl 3 Tryz.underlying24 zcv _ _ 1 1 1 1 rfl rfl w.heap.size 0 [.int .i64 0] 3 (zat w _) [.int .i64 (-1)] rfl (fun _ => ⟨rfl, ⟨b, 0, none⟩, rfl, HS.out⟩) (by decide) HO1.out w.heap.size w (zan w _) (Nat.le_refl _) ?_; intro w1 hg1 hb1; have HGx := zhd hg1.out; have HBx := zhd hb1; clear hg1 hb1))
 have HG1 : Hid (w1.heap[w.heap.size]? = some (.cells #[.int .i64 (-1)] 3 (0, 0))) := zhd HGx.out
 have HB1 := HBx
 refine wp_loop_rounds 1 ?_
 rw [rounds_succ]
 go_wp2_with fail
 go_ret
 exact ⟨w.heap.size, rfl, HG1.out, Nat.le_refl _, HB1.out⟩
set_option maxHeartbeats 4000000 in
theorem repeat_2 (b : Nat) (w : World) (hb : w.heap[b]? = some (.cells #[.int .i64 (-1)] 3 (0, 0))) :
 Calls Tryz.prog 65 #[.slice (some ⟨b, 0, none⟩) 1 1, .int .i64 2] w fun e w' => ∃ g, e = .returned (.slice (some ⟨g, 0, none⟩) 2 2) ∧ w'.heap[g]? = some (.cells #[.int .i64 (-1), .int .i64 (-1)] 3 (0, 0)) ∧ w.heap.size ≤ g ∧ Below w.heap.size w w' := by
 have HB := zhd hb; clear hb
 have hmk : ∀ w, (Instr.makeSlice 24 (.int .i64 2) (.int .i64 2)).run Tryz.prog w = .ok (.slice (some ⟨w.heap.size, 0, none⟩) 2 2) (w.alloc (.cells #[.int .i64 0, .int .i64 0] 3)) := fun _ => by kernel_rfl
 have hsrc : ∀ (j : Nat) (v : Value), ([.int .i64 (-1)] : List Value)[j]? = some v → (w.alloc (.cells #[.int .i64 0, .int .i64 0] 3)).cell? ((⟨b, 0, none⟩ : Addr).add j) = some v := fun j v hj => by
  have : j = 0 := by have := (List.getElem?_eq_some_iff.1 hj).1; simp at this; exact this
  subst this; simp at hj; subst hj; rw [zaQ]; exact zad (zaf (zan w _) HB.out) rfl
 have HS := zhd hsrc; clear hsrc
 have ho1 : ∀ v ∈ ([.int .i64 (-1)] : List Value), v.oneCell' = true := by simp [Value.oneCell']
 have HO1 := zhd ho1; clear ho1
 go_enter Tryz.func65, Tryz.ntmps65
 go_wp2_with (first | (go_at_call 106; ((with_reducible refine (zex 2 _ (by decide)).mono ?_); rintro e w' ⟨rfl, rfl⟩)) | (refine wpList_copy_splice rfl (.tmp 31) (.tmp 32) 24 24 rfl 3 Tryz.underlying24 zcv _ _ 2 2 1 1 rfl rfl w.heap.size 0 [.int .i64 0, .int .i64 0] 3 (zat w _) [.int .i64 (-1)] rfl (fun _ => ⟨rfl, ⟨b, 0, none⟩, rfl, HS.out⟩) (by decide) HO1.out w.heap.size w (zan w _) (Nat.le_refl _) ?_; intro w1 hg1 hb1; have HGx := zhd hg1.out; have HBx := zhd hb1; clear hg1 hb1))
 have HG1 : Hid (w1.heap[w.heap.size]? = some (.cells #[.int .i64 (-1), .int .i64 0] 3 (0, 0))) := zhd HGx.out
 have HB1 := HBx
 refine wp_loop_rounds 2 ?_
 rw [rounds_succ]
 go_wp2_with fail
 refine zaV (fun _ => True) [true, true, true, true, true, true, true] (by kernel_rfl) (by kernel_rfl) (by kernel_rfl) (fun _ _ _ _ => trivial) trivial ?a0 ?h0 ?ht0
 case h0 =>
  intro w0 _
  simp only [zbb]
  repeat (go_big_quiet_step (fail))
  refine wpQuiet_nil ?_
  rfl
 change zbh _ _ _ _ _ 3 _ _ _
 refine zaA (i := 7) (by kernel_rfl) rfl ?_
 intro wa0 hua0 _
 have HGa0 := zhd (zaf (zbk hua0) HG1.out); have HBa0 := zhd (zae HB1.out (zbk hua0)); clear hua0
 refine wpList_copy_splice rfl (.tmp 41) (.tmp 44) 24 24 rfl 3 Tryz.underlying24 zcv _ _ 1 1 1 2 rfl rfl w.heap.size 1 [.int .i64 (-1), .int .i64 0] 3 HGa0.out [.int .i64 (-1)] (by decide) (fun _ => ⟨rfl, ⟨w.heap.size, 0, none⟩, rfl, fun j v hj => by
  have hj' : j < 1 := by have := (List.getElem?_eq_some_iff.1 hj).1; simpa using this
  rw [zaQ]; refine zad HGa0.out ?_
  obtain rfl : j = 0 := by omega
  all_goals (simp at hj; subst hj; rfl)
  ⟩) (by decide) (by simp [Value.oneCell']) w.heap.size w HBa0.out (Nat.le_refl _) ?_
 intro w2 hg2 hb2
 have HG2 : Hid (w2.heap[w.heap.size]? = some (.cells #[.int .i64 (-1), .int .i64 (-1)] 3 (0, 0))) := zhd hg2.out
 have HB2 := zhd hb2; clear hg2 hb2
 refine ⟨trivial, ?_⟩
 refine zaA (i := 8) (by kernel_rfl) rfl ?_
 intro wb0 hub0 _
 go_wp2_with fail
 refine ⟨trivial, ?_⟩
 refine zaA (i := 9) (by kernel_rfl) rfl ?_
 intro wc0 huc0 _
 go_wp2_with fail
 refine ⟨trivial, ?_⟩
 refine zbv (by kernel_rfl) ?_
 intro wd0 hud0 _
 have HU0 : Hid (Up w2 wd0) := zhd (zcI (zcI hub0 huc0) hud0)
 have HGd0 := zhd (zaf HU0.out HG2.out); have HBd0 := zhd (zae HB2.out HU0.out)
 clear hub0 huc0 hud0
 obtain ⟨w3, hw3⟩ : ∃ x, x = wd0 := ⟨_, rfl⟩
 have HG3 := HGd0; have HB3 := HBd0
 go_wp2_with fail
 rw [rounds_succ]
 go_wp2_with fail
 go_ret
 exact ⟨w.heap.size, rfl, HG3.out, Nat.le_refl _, HB3.out⟩
set_option maxHeartbeats 4000000 in
theorem repeat_3 (b : Nat) (w : World) (hb : w.heap[b]? = some (.cells #[.int .i64 (-1)] 3 (0, 0))) :
 Calls Tryz.prog 65 #[.slice (some ⟨b, 0, none⟩) 1 1, .int .i64 3] w fun e w' => ∃ g, e = .returned (.slice (some ⟨g, 0, none⟩) 3 3) ∧ w'.heap[g]? = some (.cells #[.int .i64 (-1), .int .i64 (-1), .int .i64 (-1)] 3 (0, 0)) ∧ w.heap.size ≤ g ∧ Below w.heap.size w w' := by
 have HB := zhd hb; clear hb
 have hmk : ∀ w, (Instr.makeSlice 24 (.int .i64 3) (.int .i64 3)).run Tryz.prog w = .ok (.slice (some ⟨w.heap.size, 0, none⟩) 3 3) (w.alloc (.cells #[.int .i64 0, .int .i64 0, .int .i64 0] 3)) := fun _ => by kernel_rfl
 have hsrc : ∀ (j : Nat) (v : Value), ([.int .i64 (-1)] : List Value)[j]? = some v → (w.alloc (.cells #[.int .i64 0, .int .i64 0, .int .i64 0] 3)).cell? ((⟨b, 0, none⟩ : Addr).add j) = some v := fun j v hj => by
  have : j = 0 := by have := (List.getElem?_eq_some_iff.1 hj).1; simp at this; exact this
  subst this; simp at hj; subst hj; rw [zaQ]; exact zad (zaf (zan w _) HB.out) rfl
 have HS := zhd hsrc; clear hsrc
 have ho1 : ∀ v ∈ ([.int .i64 (-1)] : List Value), v.oneCell' = true := by simp [Value.oneCell']
 have HO1 := zhd ho1; clear ho1
 go_enter Tryz.func65, Tryz.ntmps65
 go_wp2_with (first | (go_at_call 106; ((with_reducible refine (zex 3 _ (by decide)).mono ?_); rintro e w' ⟨rfl, rfl⟩)) | (refine wpList_copy_splice rfl (.tmp 31) (.tmp 32) 24 24 rfl 3 Tryz.underlying24 zcv _ _ 3 3 1 1 rfl rfl w.heap.size 0 [.int .i64 0, .int .i64 0, .int .i64 0] 3 (zat w _) [.int .i64 (-1)] rfl (fun _ => ⟨rfl, ⟨b, 0, none⟩, rfl, HS.out⟩) (by decide) HO1.out w.heap.size w (zan w _) (Nat.le_refl _) ?_; intro w1 hg1 hb1; have HGx := zhd hg1.out; have HBx := zhd hb1; clear hg1 hb1))
 have HG1 : Hid (w1.heap[w.heap.size]? = some (.cells #[.int .i64 (-1), .int .i64 0, .int .i64 0] 3 (0, 0))) := zhd HGx.out
 have HB1 := HBx
 refine wp_loop_rounds 3 ?_
 rw [rounds_succ]
 go_wp2_with fail
 refine zaV (fun _ => True) [true, true, true, true, true, true, true] (by kernel_rfl) (by kernel_rfl) (by kernel_rfl) (fun _ _ _ _ => trivial) trivial ?a0 ?h0 ?ht0
 case h0 =>
  intro w0 _
  simp only [zbb]
  repeat (go_big_quiet_step (fail))
  refine wpQuiet_nil ?_
  rfl
 change zbh _ _ _ _ _ 3 _ _ _
 refine zaA (i := 7) (by kernel_rfl) rfl ?_
 intro wa0 hua0 _
 have HGa0 := zhd (zaf (zbk hua0) HG1.out); have HBa0 := zhd (zae HB1.out (zbk hua0)); clear hua0
 refine wpList_copy_splice rfl (.tmp 41) (.tmp 44) 24 24 rfl 3 Tryz.underlying24 zcv _ _ 2 2 1 3 rfl rfl w.heap.size 1 [.int .i64 (-1), .int .i64 0, .int .i64 0] 3 HGa0.out [.int .i64 (-1)] (by decide) (fun _ => ⟨rfl, ⟨w.heap.size, 0, none⟩, rfl, fun j v hj => by
  have hj' : j < 1 := by have := (List.getElem?_eq_some_iff.1 hj).1; simpa using this
  rw [zaQ]; refine zad HGa0.out ?_
  obtain rfl : j = 0 := by omega
  all_goals (simp at hj; subst hj; rfl)
  ⟩) (by decide) (by simp [Value.oneCell']) w.heap.size w HBa0.out (Nat.le_refl _) ?_
 intro w2 hg2 hb2
 have HG2 : Hid (w2.heap[w.heap.size]? = some (.cells #[.int .i64 (-1), .int .i64 (-1), .int .i64 0] 3 (0, 0))) := zhd hg2.out
 have HB2 := zhd hb2; clear hg2 hb2
 refine ⟨trivial, ?_⟩
 refine zaA (i := 8) (by kernel_rfl) rfl ?_
 intro wb0 hub0 _
 go_wp2_with fail
 refine ⟨trivial, ?_⟩
 refine zaA (i := 9) (by kernel_rfl) rfl ?_
 intro wc0 huc0 _
 go_wp2_with fail
 refine ⟨trivial, ?_⟩
 refine zbv (by kernel_rfl) ?_
 intro wd0 hud0 _
 have HU0 : Hid (Up w2 wd0) := zhd (zcI (zcI hub0 huc0) hud0)
 have HGd0 := zhd (zaf HU0.out HG2.out); have HBd0 := zhd (zae HB2.out HU0.out)
 clear hub0 huc0 hud0
 obtain ⟨w3, hw3⟩ : ∃ x, x = wd0 := ⟨_, rfl⟩
 have HG3 := HGd0; have HB3 := HBd0
 go_wp2_with fail
 rw [rounds_succ]
 go_wp2_with fail
 refine zaV (fun _ => True) [true, true, true, true, true, true, true] (by kernel_rfl) (by kernel_rfl) (by kernel_rfl) (fun _ _ _ _ => trivial) trivial ?a1 ?h1 ?ht1
 case h1 =>
  intro w0 _
  simp only [zbb]
  repeat (go_big_quiet_step (fail))
  refine wpQuiet_nil ?_
  rfl
 change zbh _ _ _ _ _ 3 _ _ _
 refine zaA (i := 7) (by kernel_rfl) rfl ?_
 intro wa1 hua1 _
 have HGa1 := zhd (zaf (zbk hua1) HG3.out); have HBa1 := zhd (zae HB3.out (zbk hua1)); clear hua1
 refine wpList_copy_splice rfl (.tmp 41) (.tmp 44) 24 24 rfl 3 Tryz.underlying24 zcv _ _ 1 1 2 3 rfl rfl w.heap.size 2 [.int .i64 (-1), .int .i64 (-1), .int .i64 0] 3 HGa1.out [.int .i64 (-1)] (by decide) (fun _ => ⟨rfl, ⟨w.heap.size, 0, none⟩, rfl, fun j v hj => by
  have hj' : j < 1 := by have := (List.getElem?_eq_some_iff.1 hj).1; simpa using this
  rw [zaQ]; refine zad HGa1.out ?_
  obtain rfl : j = 0 := by omega
  all_goals (simp at hj; subst hj; rfl)
  ⟩) (by decide) (by simp [Value.oneCell']) w.heap.size w HBa1.out (Nat.le_refl _) ?_
 intro w4 hg4 hb4
 have HG4 : Hid (w4.heap[w.heap.size]? = some (.cells #[.int .i64 (-1), .int .i64 (-1), .int .i64 (-1)] 3 (0, 0))) := zhd hg4.out
 have HB4 := zhd hb4; clear hg4 hb4
 refine ⟨trivial, ?_⟩
 refine zaA (i := 8) (by kernel_rfl) rfl ?_
 intro wb1 hub1 _
 go_wp2_with fail
 refine ⟨trivial, ?_⟩
 refine zaA (i := 9) (by kernel_rfl) rfl ?_
 intro wc1 huc1 _
 go_wp2_with fail
 refine ⟨trivial, ?_⟩
 refine zbv (by kernel_rfl) ?_
 intro wd1 hud1 _
 have HU1 : Hid (Up w4 wd1) := zhd (zcI (zcI hub1 huc1) hud1)
 have HGd1 := zhd (zaf HU1.out HG4.out); have HBd1 := zhd (zae HB4.out HU1.out)
 clear hub1 huc1 hud1
 obtain ⟨w5, hw5⟩ : ∃ x, x = wd1 := ⟨_, rfl⟩
 have HG5 := HGd1; have HB5 := HBd1
 go_wp2_with fail
 rw [rounds_succ]
 go_wp2_with fail
 go_ret
 exact ⟨w.heap.size, rfl, HG5.out, Nat.le_refl _, HB5.out⟩
set_option maxHeartbeats 4000000 in
theorem repeat_4 (b : Nat) (w : World) (hb : w.heap[b]? = some (.cells #[.int .i64 (-1)] 3 (0, 0))) :
 Calls Tryz.prog 65 #[.slice (some ⟨b, 0, none⟩) 1 1, .int .i64 4] w fun e w' => ∃ g, e = .returned (.slice (some ⟨g, 0, none⟩) 4 4) ∧ w'.heap[g]? = some (.cells #[.int .i64 (-1), .int .i64 (-1), .int .i64 (-1), .int .i64 (-1)] 3 (0, 0)) ∧ w.heap.size ≤ g ∧ Below w.heap.size w w' := by
 have HB := zhd hb; clear hb
 have hmk : ∀ w, (Instr.makeSlice 24 (.int .i64 4) (.int .i64 4)).run Tryz.prog w = .ok (.slice (some ⟨w.heap.size, 0, none⟩) 4 4) (w.alloc (.cells #[.int .i64 0, .int .i64 0, .int .i64 0, .int .i64 0] 3)) := fun _ => by kernel_rfl
 have hsrc : ∀ (j : Nat) (v : Value), ([.int .i64 (-1)] : List Value)[j]? = some v → (w.alloc (.cells #[.int .i64 0, .int .i64 0, .int .i64 0, .int .i64 0] 3)).cell? ((⟨b, 0, none⟩ : Addr).add j) = some v := fun j v hj => by
  have : j = 0 := by have := (List.getElem?_eq_some_iff.1 hj).1; simp at this; exact this
  subst this; simp at hj; subst hj; rw [zaQ]; exact zad (zaf (zan w _) HB.out) rfl
 have HS := zhd hsrc; clear hsrc
 have ho1 : ∀ v ∈ ([.int .i64 (-1)] : List Value), v.oneCell' = true := by simp [Value.oneCell']
 have HO1 := zhd ho1; clear ho1
 go_enter Tryz.func65, Tryz.ntmps65
 go_wp2_with (first | (go_at_call 106; ((with_reducible refine (zex 4 _ (by decide)).mono ?_); rintro e w' ⟨rfl, rfl⟩)) | (refine wpList_copy_splice rfl (.tmp 31) (.tmp 32) 24 24 rfl 3 Tryz.underlying24 zcv _ _ 4 4 1 1 rfl rfl w.heap.size 0 [.int .i64 0, .int .i64 0, .int .i64 0, .int .i64 0] 3 (zat w _) [.int .i64 (-1)] rfl (fun _ => ⟨rfl, ⟨b, 0, none⟩, rfl, HS.out⟩) (by decide) HO1.out w.heap.size w (zan w _) (Nat.le_refl _) ?_; intro w1 hg1 hb1; have HGx := zhd hg1.out; have HBx := zhd hb1; clear hg1 hb1))
 have HG1 : Hid (w1.heap[w.heap.size]? = some (.cells #[.int .i64 (-1), .int .i64 0, .int .i64 0, .int .i64 0] 3 (0, 0))) := zhd HGx.out
 have HB1 := HBx
 refine wp_loop_rounds 3 ?_
 rw [rounds_succ]
 go_wp2_with fail
 refine zaV (fun _ => True) [true, true, true, true, true, true, true] (by kernel_rfl) (by kernel_rfl) (by kernel_rfl) (fun _ _ _ _ => trivial) trivial ?a0 ?h0 ?ht0
 case h0 =>
  intro w0 _
  simp only [zbb]
  repeat (go_big_quiet_step (fail))
  refine wpQuiet_nil ?_
  rfl
 change zbh _ _ _ _ _ 3 _ _ _
 refine zaA (i := 7) (by kernel_rfl) rfl ?_
 intro wa0 hua0 _
 have HGa0 := zhd (zaf (zbk hua0) HG1.out); have HBa0 := zhd (zae HB1.out (zbk hua0)); clear hua0
 refine wpList_copy_splice rfl (.tmp 41) (.tmp 44) 24 24 rfl 3 Tryz.underlying24 zcv _ _ 3 3 1 4 rfl rfl w.heap.size 1 [.int .i64 (-1), .int .i64 0, .int .i64 0, .int .i64 0] 3 HGa0.out [.int .i64 (-1)] (by decide) (fun _ => ⟨rfl, ⟨w.heap.size, 0, none⟩, rfl, fun j v hj => by
  have hj' : j < 1 := by have := (List.getElem?_eq_some_iff.1 hj).1; simpa using this
  rw [zaQ]; refine zad HGa0.out ?_
  obtain rfl : j = 0 := by omega
  all_goals (simp at hj; subst hj; rfl)
  ⟩) (by decide) (by simp [Value.oneCell']) w.heap.size w HBa0.out (Nat.le_refl _) ?_
 intro w2 hg2 hb2
 have HG2 : Hid (w2.heap[w.heap.size]? = some (.cells #[.int .i64 (-1), .int .i64 (-1), .int .i64 0, .int .i64 0] 3 (0, 0))) := zhd hg2.out
 have HB2 := zhd hb2; clear hg2 hb2
 refine ⟨trivial, ?_⟩
 refine zaA (i := 8) (by kernel_rfl) rfl ?_
 intro wb0 hub0 _
 go_wp2_with fail
 refine ⟨trivial, ?_⟩
 refine zaA (i := 9) (by kernel_rfl) rfl ?_
 intro wc0 huc0 _
 go_wp2_with fail
 refine ⟨trivial, ?_⟩
 refine zbv (by kernel_rfl) ?_
 intro wd0 hud0 _
 have HU0 : Hid (Up w2 wd0) := zhd (zcI (zcI hub0 huc0) hud0)
 have HGd0 := zhd (zaf HU0.out HG2.out); have HBd0 := zhd (zae HB2.out HU0.out)
 clear hub0 huc0 hud0
 obtain ⟨w3, hw3⟩ : ∃ x, x = wd0 := ⟨_, rfl⟩
 have HG3 := HGd0; have HB3 := HBd0
 go_wp2_with fail
 rw [rounds_succ]
 go_wp2_with fail
 refine zaV (fun _ => True) [true, true, true, true, true, true, true] (by kernel_rfl) (by kernel_rfl) (by kernel_rfl) (fun _ _ _ _ => trivial) trivial ?a1 ?h1 ?ht1
 case h1 =>
  intro w0 _
  simp only [zbb]
  repeat (go_big_quiet_step (fail))
  refine wpQuiet_nil ?_
  rfl
 change zbh _ _ _ _ _ 3 _ _ _
 refine zaA (i := 7) (by kernel_rfl) rfl ?_
 intro wa1 hua1 _
 have HGa1 := zhd (zaf (zbk hua1) HG3.out); have HBa1 := zhd (zae HB3.out (zbk hua1)); clear hua1
 refine wpList_copy_splice rfl (.tmp 41) (.tmp 44) 24 24 rfl 3 Tryz.underlying24 zcv _ _ 2 2 2 4 rfl rfl w.heap.size 2 [.int .i64 (-1), .int .i64 (-1), .int .i64 0, .int .i64 0] 3 HGa1.out [.int .i64 (-1), .int .i64 (-1)] (by decide) (fun _ => ⟨rfl, ⟨w.heap.size, 0, none⟩, rfl, fun j v hj => by
  have hj' : j < 2 := by have := (List.getElem?_eq_some_iff.1 hj).1; simpa using this
  rw [zaQ]; refine zad HGa1.out ?_
  rcases (by omega : j = 0 ∨ j = 1) with rfl | rfl
  all_goals (simp at hj; subst hj; rfl)
  ⟩) (by decide) (by simp [Value.oneCell']) w.heap.size w HBa1.out (Nat.le_refl _) ?_
 intro w4 hg4 hb4
 have HG4 : Hid (w4.heap[w.heap.size]? = some (.cells #[.int .i64 (-1), .int .i64 (-1), .int .i64 (-1), .int .i64 (-1)] 3 (0, 0))) := zhd hg4.out
 have HB4 := zhd hb4; clear hg4 hb4
 refine ⟨trivial, ?_⟩
 refine zaA (i := 8) (by kernel_rfl) rfl ?_
 intro wb1 hub1 _
 go_wp2_with fail
 refine ⟨trivial, ?_⟩
 refine zaA (i := 9) (by kernel_rfl) rfl ?_
 intro wc1 huc1 _
 go_wp2_with fail
 refine ⟨trivial, ?_⟩
 refine zbv (by kernel_rfl) ?_
 intro wd1 hud1 _
 have HU1 : Hid (Up w4 wd1) := zhd (zcI (zcI hub1 huc1) hud1)
 have HGd1 := zhd (zaf HU1.out HG4.out); have HBd1 := zhd (zae HB4.out HU1.out)
 clear hub1 huc1 hud1
 obtain ⟨w5, hw5⟩ : ∃ x, x = wd1 := ⟨_, rfl⟩
 have HG5 := HGd1; have HB5 := HBd1
 go_wp2_with fail
 rw [rounds_succ]
 go_wp2_with fail
 go_ret
 exact ⟨w.heap.size, rfl, HG5.out, Nat.le_refl _, HB5.out⟩
-- END REPEAT
theorem zjS (k b : Nat) (w : World) (hk : 1 ≤ k ∧ k ≤ 4) (hb : w.heap[b]? = some (.cells #[.int .i64 (-1)] 3 (0, 0))) :
 Calls Tryz.prog 65 #[.slice (some ⟨b, 0, none⟩) 1 1, .int .i64 (k : Int)] w fun e w' => ∃ g, e = .returned (.slice (some ⟨g, 0, none⟩) k k) ∧ w'.heap[g]? = some (.cells (intC (List.replicate k (-1))).toArray 3 (0, 0)) ∧ w.heap.size ≤ g ∧ Below w.heap.size w w' := by
 rcases (by omega : k = 1 ∨ k = 2 ∨ k = 3 ∨ k = 4) with rfl | rfl | rfl | rfl
 · exact repeat_1 b w hb
 · exact repeat_2 b w hb
 · exact repeat_3 b w hb
 · exact repeat_4 b w hb
theorem zdj {w : World} {g e k n B : Nat} {xs : List Value} (h : w.heap[g]? = some (.cells xs.toArray e (0, 0))) (hB : B ≤ g) (hn : xs.length = n * k) (hm : n ≤ maxLen) : w.ownsRow B e k (.slice (some ⟨g, 0, none⟩) n n) n xs :=
 ⟨hn, .inr ⟨g, n, xs.toArray, rfl, hB, h, Nat.le_refl _, hm, by simpa using hn, by simp [← hn]⟩⟩
theorem zeA : (Tryz.prog.info? 3).map (fun i => (i.zero, i.size, i.bytes)) = some (some (.int .i64 0), 1, 8) := by kernel_rfl
theorem zgV (z : Value) (n : Nat) : (madeCells #[z] (n * 1)).toList = List.replicate n z := by
 apply List.ext_getElem?
 intro i
 simp [madeCells, List.getElem?_replicate]
 try (split <;> simp_all [Nat.mod_one])
theorem zfu {w w' : World} (hg : w.grownBy w' none) : Below w.heap.size w w' := ⟨hg.os, hg.tape, hg.output, hg.size, fun k hk => hg.block k hk (by simp)⟩
theorem rows_nil {w : World} {h n : Nat} {B : Nat} {a : World} (_ : Below B a w) : ∀ (i : Nat) (r : Value) (l : List (Int × Int)), (List.replicate h (Value.slice none 0 0))[i]? = some r → (zct h n).pend[i]? = some l → w.ownsRow 0 127 2 r l.length (entC l) := by
 intro i r l hr hl
 simp [zct, List.getElem?_replicate] at hr hl
 obtain ⟨_, rfl⟩ := hr
 obtain ⟨_, rfl⟩ := hl
 exact World.ownsRow_nil _ _ _ _
def newR (h n : Int) : Mem × Int := if 1 ≤ h ∧ h ≤ 4 ∧ 0 ≤ n ∧ n ≤ 4096 then (zct h.toNat n.toNat, 0) else (zdD, 1)
set_option maxHeartbeats 2000000 in
theorem new_no (h n : Int) (w : World) (hh : ¬ (1 ≤ h ∧ h ≤ 4 ∧ 0 ≤ n ∧ n ≤ 4096)) :
 Calls Tryz.prog 29 #[.int .i64 h, .int .i64 n] w (zej w w.heap.size (zdD, 1)) := by
 unfold zej
 have e : (h < 1) ∨ (1 ≤ h ∧ 4 < h) ∨ (1 ≤ h ∧ h ≤ 4 ∧ n < 0) ∨ (1 ≤ h ∧ h ≤ 4 ∧ 0 ≤ n ∧ 4096 < n) := by omega
 clear hh
 rcases e with e | ⟨e, e2⟩ | ⟨e, e2, e3⟩ | ⟨e, e2, e3, e4⟩
 all_goals
  go_enter Tryz.func29, Tryz.ntmps29
  go_wp2
  exact bodyPost_ret (v := .tuple #[.agg #[.slice none 0 0, .slice none 0 0, .slice none 0 0], .int .i64 1]) (by simp [results, Tryz.results29, go_sem]) rfl ⟨_, rfl, zb3 _, (by repeat (first | (with_reducible first | exact Below.refl _ _ | refine zaj ?_ ?_ _ | apply zag | refine zae ?_ (by assumption) | apply zak) | omega))⟩
structure MakesI (W : World) (B h n : Nat) (fl : List Bool) (u22 u24 u25 u27 u28 : Value) (w : World) : Prop where
 bel : Below W.heap.size W w
 q : w.heap[B]? = some (.cells (if fl.getD 8 false = true then #[u22, u24, u27] else #[.slice none 0 0, .slice none 0 0, .slice none 0 0]) 33 (0, 0))
 f1 : fl.getD 1 false = true → w.ownsRow B 3 1 u22 n (intC (List.replicate n 0))
 f3 : fl.getD 3 false = true → w.ownsRow B 57 1 u24 h (List.replicate h (.slice none 0 0))
 f4 : fl.getD 4 false = true → ∃ b, u25 = .slice (some ⟨b, 0, none⟩) 1 1 ∧ w.heap[b]? = some (.cells #[.int .i64 (-1)] 3 (0, 0))
 f6 : fl.getD 6 false = true → w.ownsRow B 3 1 u27 h (intC (List.replicate h (-1)))
 f7 : fl.getD 7 false = true → u28 = .agg #[u22, u24, u27]
def ze2 : List (List Bool) :=
 [false, true].flatMap fun a => [false, true].flatMap fun p => [false, true].flatMap fun b => [false, true].flatMap fun r => [false, true].flatMap fun m => [false, true].flatMap fun s => [false, true].flatMap fun z =>
  if (b || !r) && ((!m || (a && (p && r))) && ((!s || m) && (!z || s))) then [[true, a, true, p, b, true, r, m, s, z]] else []
def makeCo (fl : List Bool) (i : Nat) : Bool :=
 i == 1 || i == 3 || i == 4 || (i == 6 && fl.getD 4 false) || (i == 7 && (fl.getD 1 false && (fl.getD 3 false && fl.getD 6 false))) || (i == 8 && (fl.getD 1 false && (fl.getD 3 false && (fl.getD 6 false && fl.getD 7 false)))) || (i == 9 && fl.getD 8 false)
theorem zgU : ∀ fl ∈ ze2, fl.length = 10 ∧ (fl.getD 8 false = true → fl.getD 7 false = true) ∧ (fl.getD 7 false = true → fl.getD 1 false = true ∧ fl.getD 3 false = true ∧ fl.getD 6 false = true) := by
 have : (ze2.all fun fl => fl.length == 10 && ((!fl.getD 8 false || fl.getD 7 false) && (!fl.getD 7 false || (fl.getD 1 false && (fl.getD 3 false && fl.getD 6 false))))) = true := by kernel_rfl
 intro fl h
 have := List.all_eq_true.1 this fl h
 simp only [Bool.and_eq_true, Bool.or_eq_true, Bool.not_eq_true', beq_iff_eq] at this
 refine ⟨this.1, fun h => ?_, fun h => ?_⟩
 · rcases this.2.1 with h1 | h1
   · rw [h1] at h; cases h
   · exact h1
 · rcases this.2.2 with h1 | h1
   · rw [h1] at h; cases h
   · exact h1
theorem zap (fl : List Bool) (i j : Nat) (h : i ≠ j) : (fl.set i true).getD j false = fl.getD j false := by
 rw [List.getD_eq_getElem?_getD, List.getD_eq_getElem?_getD, List.getElem?_set_ne h]
theorem zfA (fl : List Bool) (i : Nat) : (fl.set i true).getD i false = true ↔ i < fl.length := by
 rw [List.getD_eq_getElem?_getD]
 by_cases h : i < fl.length
 · rw [List.getElem?_set_self h]; simp [h]
 · rw [List.getElem?_eq_none (by simp; omega)]; simp [h]
theorem zcQ {fl : List Bool} {i : Nat} (h : fl[i]? = some false) : fl.getD i false = false := by rw [List.getD_eq_getElem?_getD, h]; rfl
theorem zhf {fl : List Bool} (h : fl.all id = true) {i : Nat} (hi : i < fl.length) : fl.getD i false = true := by
 rw [List.getD_eq_getElem?_getD, List.getElem?_eq_getElem hi]
 exact List.all_eq_true.1 h _ (List.getElem_mem hi)
section
variable {W : World} {B h n : Nat} {fl : List Bool} {u22 u24 u25 u27 u28 : Value} {w w1 : World}
theorem MakesI.up (m : MakesI W B h n fl u22 u24 u25 u27 u28 w) (hu : Up w w1) : MakesI W B h n fl u22 u24 u25 u27 u28 w1 :=
 ⟨zae m.bel hu, zaf hu m.q, fun x => zab (m.f1 x) hu, fun x => zab (m.f3 x) hu, fun x => by
  obtain ⟨b, e, hb⟩ := m.f4 x
  exact ⟨b, e, zaf hu hb⟩, fun x => zab (m.f6 x) hu, m.f7⟩
theorem MakesI.off (hm : fl ∈ ze2) {i : Nat} (hi : i = 1 ∨ i = 3 ∨ i = 6) (hf : fl[i]? = some false) : fl.getD 7 false = false ∧ fl.getD 8 false = false := by
 obtain ⟨_, h8, h7⟩ := zgU fl hm
 have g := zcQ hf
 have d7 : fl.getD 7 false = false := by
  cases e : fl.getD 7 false
  · rfl
  · have := h7 e
    rcases hi with rfl | rfl | rfl
    · rw [this.1] at g; cases g
    · rw [this.2.1] at g; cases g
    · rw [this.2.2] at g; cases g
 refine ⟨d7, ?_⟩
 cases e : fl.getD 8 false
 · rfl
 · rw [h8 e] at d7; cases d7
theorem MakesI.put1 (m : MakesI W B h n fl u22 u24 u25 u27 u28 w) (hm : fl ∈ ze2) (hf : fl[1]? = some false) {v : Value} (ho : w1.ownsRow B 3 1 v n (intC (List.replicate n 0))) (hb : Below w.heap.size w w1) : MakesI W B h n (fl.set 1 true) v u24 u25 u27 u28 w1 := by
 obtain ⟨d7, d8⟩ := MakesI.off hm (i := 1) (by simp) hf
 have hq := m.q
 rw [d8, if_neg (by decide)] at hq
 refine ⟨zae m.bel hb, ?_, fun _ => ho, fun x => zab (m.f3 (by rwa [zap _ 1 3 (by decide)] at x)) hb, fun x => by
  obtain ⟨b, e, hb'⟩ := m.f4 (by rwa [zap _ 1 4 (by decide)] at x)
  exact ⟨b, e, zaf hb hb'⟩, fun x => zab (m.f6 (by rwa [zap _ 1 6 (by decide)] at x)) hb, fun x => (by rw [zap _ 1 7 (by decide), d7] at x; cases x)⟩
 rw [zap _ 1 8 (by decide), d8, if_neg (by decide)]
 exact zaf hb hq
theorem MakesI.put3 (m : MakesI W B h n fl u22 u24 u25 u27 u28 w) (hm : fl ∈ ze2) (hf : fl[3]? = some false) {v : Value} (ho : w1.ownsRow B 57 1 v h (List.replicate h (.slice none 0 0))) (hb : Below w.heap.size w w1) : MakesI W B h n (fl.set 3 true) u22 v u25 u27 u28 w1 := by
 obtain ⟨d7, d8⟩ := MakesI.off hm (i := 3) (by simp) hf
 have hq := m.q
 rw [d8, if_neg (by decide)] at hq
 refine ⟨zae m.bel hb, ?_, fun x => zab (m.f1 (by rwa [zap _ 3 1 (by decide)] at x)) hb, fun _ => ho, fun x => by
  obtain ⟨b, e, hb'⟩ := m.f4 (by rwa [zap _ 3 4 (by decide)] at x)
  exact ⟨b, e, zaf hb hb'⟩, fun x => zab (m.f6 (by rwa [zap _ 3 6 (by decide)] at x)) hb, fun x => (by rw [zap _ 3 7 (by decide), d7] at x; cases x)⟩
 rw [zap _ 3 8 (by decide), d8, if_neg (by decide)]
 exact zaf hb hq
theorem MakesI.put6 (m : MakesI W B h n fl u22 u24 u25 u27 u28 w) (hm : fl ∈ ze2) (hf : fl[6]? = some false) {v : Value} (ho : w1.ownsRow B 3 1 v h (intC (List.replicate h (-1)))) (hb : Below w.heap.size w w1) : MakesI W B h n (fl.set 6 true) u22 u24 u25 v u28 w1 := by
 obtain ⟨d7, d8⟩ := MakesI.off hm (i := 6) (by simp) hf
 have hq := m.q
 rw [d8, if_neg (by decide)] at hq
 refine ⟨zae m.bel hb, ?_, fun x => zab (m.f1 (by rwa [zap _ 6 1 (by decide)] at x)) hb, fun x => zab (m.f3 (by rwa [zap _ 6 3 (by decide)] at x)) hb, fun x => by
  obtain ⟨b, e, hb'⟩ := m.f4 (by rwa [zap _ 6 4 (by decide)] at x)
  exact ⟨b, e, zaf hb hb'⟩, fun _ => ho, fun x => (by rw [zap _ 6 7 (by decide), d7] at x; cases x)⟩
 rw [zap _ 6 8 (by decide), d8, if_neg (by decide)]
 exact zaf hb hq
theorem MakesI.put4 (m : MakesI W B h n fl u22 u24 u25 u27 u28 w) {b : Nat} (hx : w1.heap[b]? = some (.cells #[.int .i64 (-1)] 3 (0, 0))) (hb : Below w.heap.size w w1) : MakesI W B h n (fl.set 4 true) u22 u24 (.slice (some ⟨b, 0, none⟩) 1 1) u27 u28 w1 := by
 refine ⟨zae m.bel hb, ?_, fun x => zab (m.f1 (by rwa [zap _ 4 1 (by decide)] at x)) hb, fun x => zab (m.f3 (by rwa [zap _ 4 3 (by decide)] at x)) hb, fun _ => ⟨b, rfl, hx⟩, fun x => zab (m.f6 (by rwa [zap _ 4 6 (by decide)] at x)) hb, fun x => m.f7 (by rwa [zap _ 4 7 (by decide)] at x)⟩
 rw [zap _ 4 8 (by decide)]
 exact zaf hb m.q
theorem MakesI.put7 (m : MakesI W B h n fl u22 u24 u25 u27 u28 w) : MakesI W B h n (fl.set 7 true) u22 u24 u25 u27 (.agg #[u22, u24, u27]) w := by
 refine ⟨m.bel, ?_, fun x => m.f1 (by rwa [zap _ 7 1 (by decide)] at x), fun x => m.f3 (by rwa [zap _ 7 3 (by decide)] at x), fun x => m.f4 (by rwa [zap _ 7 4 (by decide)] at x), fun x => m.f6 (by rwa [zap _ 7 6 (by decide)] at x), fun _ => rfl⟩
 rw [zap _ 7 8 (by decide)]
 exact m.q
theorem MakesI.put8 (m : MakesI W B h n fl u22 u24 u25 u27 u28 w) (hm : fl ∈ ze2) (hW : W.heap.size ≤ B) {z0 z1 z2 : Value} (hq : w.heap[B]? = some (.cells #[z0, z1, z2] 33 (0, 0))) : MakesI W B h n (fl.set 8 true) u22 u24 u25 u27 u28 (((w.setCell ⟨B, 0, none⟩ u22).setCell ⟨B, 1, none⟩ u24).setCell ⟨B, 2, none⟩ u27) := by
 refine ⟨za9 m.bel hW, ?_, fun x => zcr _ _ _ (m.f1 (by rwa [zap _ 8 1 (by decide)] at x)) hq (by decide), fun x => zcr _ _ _ (m.f3 (by rwa [zap _ 8 3 (by decide)] at x)) hq (by decide), fun x => ?_, fun x => zcr _ _ _ (m.f6 (by rwa [zap _ 8 6 (by decide)] at x)) hq (by decide), fun x => m.f7 (by rwa [zap _ 8 7 (by decide)] at x)⟩
 · rw [if_pos ((zfA fl 8).2 (by have := (zgU fl hm).1; omega))]
   exact (zaR hq).1
 · obtain ⟨b, e, hb'⟩ := m.f4 (by rwa [zap _ 8 4 (by decide)] at x)
   refine ⟨b, e, ((zaR hq).2 b ?_).trans hb'⟩
   rintro rfl
   rw [hq] at hb'
   injection hb' with e; injection e with _ e; exact absurd e (by decide)
theorem MakesI.put9 (m : MakesI W B h n fl u22 u24 u25 u27 u28 w) : MakesI W B h n (fl.set 9 true) u22 u24 u25 u27 u28 w := by
 refine ⟨m.bel, ?_, fun x => m.f1 (by rwa [zap _ 9 1 (by decide)] at x), fun x => m.f3 (by rwa [zap _ 9 3 (by decide)] at x), fun x => m.f4 (by rwa [zap _ 9 4 (by decide)] at x), fun x => m.f6 (by rwa [zap _ 9 6 (by decide)] at x), fun x => m.f7 (by rwa [zap _ 9 7 (by decide)] at x)⟩
 rw [zap _ 9 8 (by decide)]
 exact m.q
end
set_option maxHeartbeats 8000000 in
theorem new_yes (h n : Nat) (w : World) (hh : 1 ≤ h ∧ h ≤ 4) (hn : n ≤ 4096) :
 Calls Tryz.prog 29 #[.int .i64 (h : Int), .int .i64 (n : Int)] w (zej w w.heap.size (zct h n, 0)) := by
 unfold zej
 obtain ⟨hh1, hh2⟩ := hh
 obtain ⟨i0, hi, hz0, hz1, hz2⟩ := info_parts zeA
 obtain ⟨i1, hi', hy0, hy1, hy2⟩ := info_parts zhK
 go_enter Tryz.func29, Tryz.ntmps29
 go_upto_region 3 with (fail)
 refine zaV (fun w' => Below w.heap.size w w') [true, false, true, false, false, true] (by kernel_rfl) (by kernel_rfl) (by kernel_rfl) (fun a b h hu => zae h hu) (zan _ _) ?a' ?h ?ht
 case h =>
  intro w0 _
  simp only [zbb]
  repeat (go_big_quiet_step (fail))
  refine wpQuiet_nil ?_
  rfl
 case ht =>
  change zbh _ _ _ _ _ 7 _ _ _
  have HQ0 : (w.alloc zM).drew.heap[w.heap.size]? = some (.cells #[.slice none 0 0, .slice none 0 0, .slice none 0 0] 33 (0, 0)) := zat w zM
  refine zhe ze2 makeCo [true, false, true, false, false, true, false, false, false, false] _ (fun a0 fl a w' => ∃ u22 u24 u25 u27 u28, a = (((((a0.put (some 22) u22).put (some 24) u24).put (some 25) u25).put (some 27) u27).put (some 28) u28) ∧ MakesI w w.heap.size h n fl u22 u24 u25 u27 u28 w') (by kernel_rfl) (by kernel_rfl) (by kernel_rfl) (zak (zan _ _)) ?s ?i ?e ?t
  case s =>
   refine ⟨undef, undef, undef, undef, undef, by simp only [Act.put, List.setIfInBounds_toArray, List.set_cons_succ, List.set_cons_zero], ⟨zak (zan _ _), HQ0, ?_, ?_, ?_, ?_, ?_⟩⟩
   all_goals exact fun x => absurd x (by decide)
  case i =>
   rintro fl a w7 w8 ⟨u22, u24, u25, u27, u28, e, hI⟩ hu
   exact ⟨u22, u24, u25, u27, u28, e, hI.up hu⟩
  case t =>
   rintro fl a w7 i hm ⟨u22, u24, u25, u27, u28, rfl, hI⟩ hc hco hf
   have HI := zhd hI
   have hsz : w.heap.size ≤ w7.heap.size := hI.bel.size
   clear hI
   unfold makeCo at hco
   simp only [Bool.or_eq_true, Bool.and_eq_true, beq_iff_eq] at hco
   rcases hco with (((((rfl | rfl) | rfl) | ⟨rfl, h4⟩) | ⟨rfl, h1, h3, h6⟩) | ⟨rfl, h1, h3, h6, h7⟩) | ⟨rfl, h8⟩
   · refine zaP (i := 1) rfl ?_
     simp only [Act.put, List.setIfInBounds_toArray, List.set_cons_succ, List.set_cons_zero]
     obtain ⟨w8, hmk, ho, hg⟩ := run_make_full (P := Tryz.prog) w7 w.heap.size 24 3 i0 (.int .i64 0) 1 Tryz.underlying24 hi hz0 hz1 .i64 .i64 n (by rw [hz2]; omega) (by unfold maxLen; omega) hsz
     rw [show (Value.int .i64 0 : Value).cells = #[Value.int .i64 0] from rfl, zgV, show List.replicate n (Value.int .i64 0) = intC (List.replicate n 0) by simp [intC]] at ho
     have HO := zhd ho; have HB := zhd (zfu hg)
     clear ho hg
     go_wp2_with fail
     exact ⟨zae hc HB.out, _, u24, u25, u27, u28, rfl, HI.out.put1 hm hf HO.out HB.out⟩
   · refine zaP (i := 3) rfl ?_
     simp only [Act.put, List.setIfInBounds_toArray, List.set_cons_succ, List.set_cons_zero]
     obtain ⟨w8, hmk, ho, hg⟩ := run_make_full (P := Tryz.prog) w7 w.heap.size 31 57 i1 (.slice none 0 0) 1 Tryz.underlying31 hi' hy0 hy1 .i64 .i64 h (by rw [hy2]; omega) (by unfold maxLen; omega) hsz
     rw [show (Value.slice none 0 0 : Value).cells = #[Value.slice none 0 0] from rfl, zgV] at ho
     have HO := zhd ho; have HB := zhd (zfu hg)
     clear ho hg
     go_wp2_with fail
     exact ⟨zae hc HB.out, u22, _, u25, u27, u28, rfl, HI.out.put3 hm hf HO.out HB.out⟩
   · refine zaP (i := 4) rfl ?_
     simp only [Act.put, List.setIfInBounds_toArray, List.set_cons_succ, List.set_cons_zero]
     go_wp2_with fail
     exact ⟨zae hc (zan _ _), u22, u24, _, u27, u28, rfl, HI.out.put4 (zat w7 _) (zan _ _)⟩
   · refine zaP (i := 6) rfl ?_
     obtain ⟨b, rfl, hb⟩ := HI.out.f4 h4
     have HBX := zhd hb
     clear hb
     simp only [Act.put, List.setIfInBounds_toArray, List.set_cons_succ, List.set_cons_zero]
     go_wp2_with (go_at_call 65; ((with_reducible refine (zjS h b _ ⟨hh1, hh2⟩ HBX.out).mono ?_); rintro e w8 ⟨g, rfl, hg, hgs, hb8⟩; have HG := zhd hg; have HB := zhd hb8; clear hg hb8))
     exact ⟨zae hc HB.out, u22, u24, _, _, u28, rfl, HI.out.put6 hm hf (zdj HG.out (by omega) (by simp [intC]) (by unfold maxLen; omega)) HB.out⟩
   · refine zaP (i := 7) rfl ?_
     obtain ⟨_, _, rfl⟩ := zai (HI.out.f1 h1)
     obtain ⟨_, _, rfl⟩ := zai (HI.out.f3 h3)
     obtain ⟨_, _, rfl⟩ := zai (HI.out.f6 h6)
     simp only [Act.put, List.setIfInBounds_toArray, List.set_cons_succ, List.set_cons_zero]
     go_wp2_with fail
     exact ⟨hc, _, _, u25, _, _, rfl, HI.out.put7⟩
   · refine zaP (i := 8) rfl ?_
     obtain rfl := HI.out.f7 h7
     obtain ⟨_, _, rfl⟩ := zai (HI.out.f1 h1)
     obtain ⟨_, _, rfl⟩ := zai (HI.out.f3 h3)
     obtain ⟨_, _, rfl⟩ := zai (HI.out.f6 h6)
     have hq := HI.out.q
     rw [zcQ hf, if_neg (by decide)] at hq
     have HQ := zhd hq
     obtain ⟨⟨q0, q1, q2⟩, g0, g1, g2⟩ := six hq
     clear hq
     simp only [Act.put, List.setIfInBounds_toArray, List.set_cons_succ, List.set_cons_zero]
     go_wp2_with fail
     exact ⟨za9 hc (Nat.le_refl _), _, _, u25, _, _, rfl, HI.out.put8 hm (Nat.le_refl _) HQ.out⟩
   · refine zaP (i := 9) rfl ?_
     simp only [Act.put, List.setIfInBounds_toArray, List.set_cons_succ, List.set_cons_zero]
     go_wp2_with fail
     exact ⟨hc, u22, u24, u25, u27, u28, rfl, HI.out.put9⟩
  case e =>
   rintro fl a w7 ha hm ⟨u22, u24, u25, u27, u28, rfl, hI⟩ hc
   have T := fun (i : Nat) (hi : i < 10) => zhf ha (i := i) (by have := (zgU fl hm).1; omega)
   have hq := hI.q
   rw [if_pos (T 8 (by decide))] at hq
   have o1 := hI.f1 (T 1 (by decide)); have o3 := hI.f3 (T 3 (by decide)); have o6 := hI.f6 (T 6 (by decide))
   obtain ⟨a1, c1, rfl⟩ := zai o1
   obtain ⟨a2, c2, rfl⟩ := zai o3
   obtain ⟨a3, c3, rfl⟩ := zai o6
   have HM : Hid (IsMem w7 (.agg #[.slice a1 n c1, .slice a2 h c2, .slice a3 h c3]) (zct h n)) := zhd ⟨_, _, _, List.replicate h (.slice none 0 0), rfl, by simpa [zct] using zbq o1, by simpa [zct] using zbq o3, by simpa [zct] using zbq o6, by simp [zct], rows_nil hI.bel⟩
   have HB := zhd hI.bel
   obtain ⟨s0, s1, s2⟩ := zah hq
   clear hI hq o1 o3 o6 T hc ha hm hi hi' hy0 hy1 hy2 hz0 hz1 hz2 HQ0
   simp only [Act.put, List.setIfInBounds_toArray, List.set_cons_succ, List.set_cons_zero]
   go_wp2_with fail
   exact bodyPost_ret (v := .tuple #[.agg #[.slice a1 n c1, .slice a2 h c2, .slice a3 h c3], .int .i64 0]) (by simp [results, Tryz.results29, go_sem, s0, s1, s2]) rfl ⟨_, rfl, HM.out, HB.out⟩
theorem new_any (h n : Int) (w : World) : Calls Tryz.prog 29 #[.int .i64 h, .int .i64 n] w (zej w w.heap.size (newR h n)) := by
 unfold newR
 by_cases hh : 1 ≤ h ∧ h ≤ 4 ∧ 0 ≤ n ∧ n ≤ 4096
 · rw [if_pos hh]
   obtain ⟨hk, rfl⟩ : ∃ k : Nat, h = k := ⟨h.toNat, by omega⟩
   obtain ⟨nk, rfl⟩ : ∃ k : Nat, n = k := ⟨n.toNat, by omega⟩
   simp only [Int.toNat_natCast]
   exact new_yes _ _ w (by omega) (by omega)
 · rw [if_neg hh]; exact new_no h n w hh
end
section
open Go.RowKit
set_option maxRecDepth 100000
theorem zc8 {w : World} {k n : Nat} {v : Value} {xs : List Value} (h : Reads w k n v xs) (hn : 0 < n) :
 ∃ b o c, v = .slice (some ⟨b, o, none⟩) n c ∧ n ≤ c ∧ c ≤ maxLen ∧ ∀ j u, xs[j]? = some u → w.cell? ⟨b, o + j, none⟩ = some u := by
 rcases h.2.2 with ⟨_, h0⟩ | ⟨b, o, c, hv, _, hc, hm, hcell⟩
 · omega
 · exact ⟨b, o, c, hv, hc, hm, hcell⟩
set_option maxHeartbeats 1000000 in
theorem zf3 (v v' : Value) (xs ys : List Int) (w : World) (h : Reads w 1 xs.length v (xs.map (Value.int .i64))) (h' : Reads w 1 ys.length v' (ys.map (Value.int .i64))) :
 Calls Tryz.prog 52 #[v, v'] w fun e w' => e = .returned (.bool (decide (xs = ys))) ∧ Below w.heap.size w w' := by
 obtain ⟨a, c, rfl⟩ := h.shape
 obtain ⟨a', c', rfl⟩ := h'.shape
 have HR := zhd h; have HR' := zhd h'; clear h h'
 by_cases hl : xs.length = ys.length
 · have hlb : (((xs.length : Nat) : Int) != ((ys.length : Nat) : Int)) = false := by simp [hl]
   by_cases h0 : xs.length = 0
   · have hx0 : xs = [] := List.eq_nil_of_length_eq_zero h0
     have hy0 : ys = [] := List.eq_nil_of_length_eq_zero (by omega)
     subst hx0 hy0
     simp only [List.length_nil] at *
     go_enter Tryz.func52, Tryz.ntmps52
     go_wp2_with fail
     refine wp_loop_rounds 1 ?_
     rw [rounds_succ]
     go_wp2_with fail
     go_ret
     exact ⟨ret1 (za1 (by simp)), Below.refl _ _⟩
   · obtain ⟨b, o, c0, hv, hc, hm, hcell⟩ := zc8 HR.out (by omega)
     obtain ⟨b', o', c0', hv', hc', hm', hcell'⟩ := zc8 HR'.out (by omega)
     injection hv with e1 _ e2; injection hv' with e3 _ e4
     subst e1 e2 e3 e4
     have HL := zhd hl
     have HC := zhd hcell; have HC' := zhd hcell'
     clear hcell hcell' hl
     unfold maxLen at hm hm'
     go_enter Tryz.func52, Tryz.ntmps52
     go_wp2_with fail
     go_loopw [13] (fun i wr => ∃ k : Nat, k ≤ xs.length ∧ i = .int .i64 k ∧ xs.take k = ys.take k ∧ Below w.heap.size w wr ∧ (∀ a, wr.cell? a = w.cell? a)) (fun i _ => xs.length - (intOf i).toNat)
     case atStart => exact ⟨0, Nat.zero_le _, rfl, rfl, Below.refl _ _, fun _ => rfl⟩
     case round =>
      obtain ⟨k, hk, rfl, ht, hb, hw⟩ := hrel
      have HT := zhd ht; have HB := zhd hb; have HW := zhd hw; clear ht hb hw
      by_cases hlt : k < xs.length
      · have hlt' : k < ys.length := by rw [← HL.out]; exact hlt
        have g1 : wr.cell? ⟨b, o + k, none⟩ = some (.int .i64 (xs[k])) := by rw [HW.out]; exact HC.out k _ (by simp [hlt])
        have g2 : wr.cell? ⟨b', o' + k, none⟩ = some (.int .i64 (ys[k])) := by rw [HW.out]; exact HC'.out k _ (by simp [hlt'])
        by_cases hx : xs[k] = ys[k]
        · have hxb : (xs[k] != ys[k]) = false := by simp [hx]
          have HX := zhd hx; clear hx
          go_wp2_with fail
          go_quiet (fail)
          go_wp2_with fail
          refine ⟨⟨k + 1, by omega, by go_num, ?_, zaF HB.out _, HW.out⟩, by simp [intOf]; omega⟩
          rw [List.take_succ_eq_append_getElem hlt, List.take_succ_eq_append_getElem hlt', HT.out, HX.out]
        · have hxb : (xs[k] != ys[k]) = true := by simp [hx]
          have hd : decide (xs = ys) = false := decide_eq_false (fun e => hx (by subst e; rfl))
          have HD := zhd hd; clear hx hd
          go_wp2_with fail
          go_quiet (fail)
          go_wp2_with fail
          go_ret
          exact ⟨ret1 (za1 HD.out.symm), zaF HB.out _⟩
      · have hd : decide (xs = ys) = true := decide_eq_true (by
         have e1 := HT.out
         have hkx : k = xs.length := by omega
         rw [hkx, List.take_length, HL.out, List.take_length] at e1
         exact e1)
        have HD := zhd hd; clear hd
        go_wp2_with fail
        go_ret
        exact ⟨ret1 (za1 HD.out.symm), HB.out⟩
 · have hlb : (((xs.length : Nat) : Int) != ((ys.length : Nat) : Int)) = true := by simp; omega
   have hd : decide (xs = ys) = false := decide_eq_false (fun e => hl (by rw [e]))
   rw [hd]
   clear hl hd
   go_enter Tryz.func52, Tryz.ntmps52
   go_wp2_with fail
   go_ret
   exact ⟨ret1 (za1 rfl), Below.refl _ _⟩

theorem ent_iff (x y : Int × Int) : decide (x = y) = (x.1 == y.1 && x.2 == y.2) := by
 obtain ⟨a, b⟩ := x
 obtain ⟨c, d⟩ := y
 rw [Bool.eq_iff_iff]; simp
theorem eqE (r : Bool) (x y : Int × Int) (h : decide (x = y) = r) (w : World) : (Op.equalIn 10000 127 (.agg #[.int .i64 x.1, .int .i64 x.2]) (.agg #[.int .i64 y.1, .int .i64 y.2])).run Tryz.prog w = .ok r w := by
 have u3 := Tryz.underlying3
 have a3 := Tryz.isAgg3
 have z3 := Tryz.sizeOf3
 have hS : Tryz.prog.underlying 127 = some (.struct (Tryz.prog.fieldsOf 127)) := by kernel_rfl
 have hp : Tryz.prog.stoodInHeld 127 = false := by kernel_rfl
 rw [← h, ent_iff, show (10000 : Nat) = 9999 + 1 from rfl, run_equalIn_agg w 9999 127 _ _ hS hp]
 simp only [Program.fieldsOf, Tryz.underlying127]
 go_simp
 cases h1 : (x.1 == y.1)
 · simp_all
 · cases h2 : (x.2 == y.2) <;> simp_all
set_option maxHeartbeats 1000000 in
theorem zmt (v v' : Value) (xs ys : List (Int × Int)) (w : World) (h : Reads w 2 xs.length v (entC xs)) (h' : Reads w 2 ys.length v' (entC ys)) :
 Calls Tryz.prog 102 #[v, v'] w fun e w' => e = .returned (.bool (decide (xs = ys))) ∧ Below w.heap.size w w' := by
 obtain ⟨a, c, rfl⟩ := h.shape
 obtain ⟨a', c', rfl⟩ := h'.shape
 have HR := zhd h; have HR' := zhd h'; clear h h'
 by_cases hl : xs.length = ys.length
 · have hlb : (((xs.length : Nat) : Int) != ((ys.length : Nat) : Int)) = false := by simp [hl]
   by_cases h0 : xs.length = 0
   · have hx0 : xs = [] := List.eq_nil_of_length_eq_zero h0
     have hy0 : ys = [] := List.eq_nil_of_length_eq_zero (by omega)
     subst hx0 hy0
     simp only [List.length_nil] at *
     go_enter Tryz.func102, Tryz.ntmps102
     go_wp2_with fail
     refine wp_loop_rounds 1 ?_
     rw [rounds_succ]
     go_wp2_with fail
     go_ret
     exact ⟨ret1 (za1 (by simp)), Below.refl _ _⟩
   · obtain ⟨b, o, c0, hv, hc, hm, hcell⟩ := zc8 HR.out (by omega)
     obtain ⟨b', o', c0', hv', hc', hm', hcell'⟩ := zc8 HR'.out (by omega)
     injection hv with e1 _ e2; injection hv' with e3 _ e4
     subst e1 e2 e3 e4
     have HL := zhd hl
     have HC := zhd hcell; have HC' := zhd hcell'
     clear hcell hcell' hl
     unfold maxLen at hm hm'
     go_enter Tryz.func102, Tryz.ntmps102
     go_wp2_with fail
     go_loopw [13] (fun i wr => ∃ k : Nat, k ≤ xs.length ∧ i = .int .i64 k ∧ xs.take k = ys.take k ∧ Below w.heap.size w wr ∧ (∀ a, wr.cell? a = w.cell? a)) (fun i _ => xs.length - (intOf i).toNat)
     case atStart => exact ⟨0, Nat.zero_le _, rfl, rfl, Below.refl _ _, fun _ => rfl⟩
     case round =>
      obtain ⟨k, hk, rfl, ht, hb, hw⟩ := hrel
      have HT := zhd ht; have HB := zhd hb; have HW := zhd hw; clear ht hb hw
      by_cases hlt : k < xs.length
      · have hlt' : k < ys.length := by rw [← HL.out]; exact hlt
        obtain ⟨i1, i2⟩ := zg7 xs k xs[k] (by simp)
        obtain ⟨j1, j2⟩ := zg7 ys k ys[k] (by simp)
        have g1 : wr.cell? ⟨b, o + k * 2, none⟩ = some (.int .i64 (xs[k]).1) := by rw [HW.out]; exact HC.out _ _ i1
        have g1' : wr.cell? ⟨b, o + k * 2 + 1, none⟩ = some (.int .i64 (xs[k]).2) := by rw [HW.out]; exact HC.out _ _ i2
        have g2 : wr.cell? ⟨b', o' + k * 2, none⟩ = some (.int .i64 (ys[k]).1) := by rw [HW.out]; exact HC'.out _ _ j1
        have g2' : wr.cell? ⟨b', o' + k * 2 + 1, none⟩ = some (.int .i64 (ys[k]).2) := by rw [HW.out]; exact HC'.out _ _ j2
        clear i1 i2 j1 j2
        by_cases hx : xs[k] = ys[k]
        · have hxb := fun w => eqE true xs[k] ys[k] (by simp [hx]) w
          have HX := zhd hx; clear hx
          go_wp2_with fail
          go_quiet (fail)
          go_wp2_with fail
          refine ⟨⟨k + 1, by omega, by go_num, ?_, zaF HB.out _, HW.out⟩, by simp [intOf]; omega⟩
          rw [List.take_succ_eq_append_getElem hlt, List.take_succ_eq_append_getElem hlt', HT.out, HX.out]
        · have hxb := fun w => eqE false xs[k] ys[k] (by simp [hx]) w
          have hd : decide (xs = ys) = false := decide_eq_false (fun e => hx (by subst e; rfl))
          have HD := zhd hd; clear hx hd
          go_wp2_with fail
          go_quiet (fail)
          go_wp2_with fail
          go_ret
          exact ⟨ret1 (za1 HD.out.symm), zaF HB.out _⟩
      · have hd : decide (xs = ys) = true := decide_eq_true (by
         have e1 := HT.out
         have hkx : k = xs.length := by omega
         rw [hkx, List.take_length, HL.out, List.take_length] at e1
         exact e1)
        have HD := zhd hd; clear hd
        go_wp2_with fail
        go_ret
        exact ⟨ret1 (za1 HD.out.symm), HB.out⟩
 · have hlb : (((xs.length : Nat) : Int) != ((ys.length : Nat) : Int)) = true := by simp; omega
   have hd : decide (xs = ys) = false := decide_eq_false (fun e => hl (by rw [e]))
   rw [hd]
   clear hl hd
   go_enter Tryz.func102, Tryz.ntmps102
   go_wp2_with fail
   go_ret
   exact ⟨ret1 (za1 rfl), Below.refl _ _⟩
end
section
open Go.RowKit
set_option maxRecDepth 100000
theorem zi0 (v v' : Value) (xs ys : List (Int × Int)) (r : Bool) (w : World) (h : Reads w 2 xs.length v (entC xs)) (h' : Reads w 2 ys.length v' (entC ys)) (hr : decide (xs = ys) = r) :
 Calls Tryz.prog 101 #[v, v'] w fun e w' => e = .returned (.bool r) ∧ Below w.heap.size w w' := by
 subst hr
 have HE := zhd (zmt v v' xs ys w h h'); clear h h'
 go_enter Tryz.func101, Tryz.ntmps101
 go_wp2_with (go_at_call 102; ((with_reducible refine (HE.out).mono ?_); rintro e w1 ⟨rfl, hb⟩))
 go_ret
 exact ⟨rfl, hb⟩
set_option maxHeartbeats 2000000 in
theorem zkt (a a' : Option Addr) (c c' : Nat) (rows rows' : List Value) (xs ys : List (List (Int × Int))) (w : World) (h : Reads w 1 xs.length (.slice a xs.length c) rows) (h' : Reads w 1 ys.length (.slice a' ys.length c') rows') (hr : RowsAt w rows xs) (hr' : RowsAt w rows' ys) :
 Calls Tryz.prog 100 #[.slice a xs.length c, .slice a' ys.length c', .func (.func 101) #[] #[]] w fun e w' => e = .returned (.bool (decide (xs = ys))) ∧ Below w.heap.size w w' := by
 have HR := zhd h; have HR' := zhd h'; have HA := zhd hr; have HA' := zhd hr'; clear h h' hr hr'
 by_cases hl : xs.length = ys.length
 · have hlb : (((xs.length : Nat) : Int) != ((ys.length : Nat) : Int)) = false := by simp [hl]
   by_cases h0 : xs.length = 0
   · have hx0 : xs = [] := List.eq_nil_of_length_eq_zero h0
     have hy0 : ys = [] := List.eq_nil_of_length_eq_zero (by omega)
     subst hx0 hy0
     simp only [List.length_nil] at *
     go_enter Tryz.func100, Tryz.ntmps100
     go_wp2_with fail
     refine wp_loop_rounds 1 ?_
     rw [rounds_succ]
     go_wp2_with fail
     go_ret
     exact ⟨ret1 (za1 (by simp)), Below.refl _ _⟩
   · obtain ⟨b, o, c0, hv, hlt0, hc, hm, hcell⟩ := HR.out.some (by omega)
     obtain ⟨b', o', c0', hv', hlt0', hc', hm', hcell'⟩ := HR'.out.some (by omega)
     injection hv with e1 e1n e2; injection hv' with e3 e3n e4
     subst e1 e2 e3 e4
     clear e1n e3n
     obtain ⟨ln, hln⟩ : ∃ ln, xs.length = ln := ⟨_, rfl⟩
     have hln' : ys.length = ln := by omega
     have HLX := zhd hln; have HLY := zhd hln'
     have HC := zhd hcell; have HC' := zhd hcell'
     clear hcell hcell' hl hlb
     rw [hln] at hc h0 ⊢
     rw [hln'] at hc' ⊢
     clear hln hln'
     unfold maxLen at hm hm'
     go_enter Tryz.func100, Tryz.ntmps100
     go_wp2_with fail
     go_loopw [17] (fun i wr => ∃ k : Nat, k ≤ ln ∧ i = .int .i64 k ∧ xs.take k = ys.take k ∧ Below w.heap.size w wr) (fun i _ => ln - (intOf i).toNat)
     case atStart => exact ⟨0, Nat.zero_le _, rfl, rfl, Below.refl _ _⟩
     case round =>
      obtain ⟨k, hk, rfl, ht, hb⟩ := hrel
      have HT := zhd ht; have HB := zhd hb; clear ht hb
      by_cases hlt : k < ln
      · have hltx : k < xs.length := by rw [HLX.out]; exact hlt
        have hlty : k < ys.length := by rw [HLY.out]; exact hlt
        have hrx : k < rows.length := by rw [HA.out.1]; exact hltx
        have hry : k < rows'.length := by rw [HA'.out.1]; exact hlty
        have g1 : wr.cell? ⟨b, o + k, none⟩ = some rows[k] := (HB.out.cell (p := ⟨b, o + k, none⟩) hlt0).trans (HC.out k _ (by simp [hrx]))
        have g2 : wr.cell? ⟨b', o' + k, none⟩ = some rows'[k] := (HB.out.cell (p := ⟨b', o' + k, none⟩) hlt0').trans (HC'.out k _ (by simp [hry]))
        have HX := zhd (Reads.own (zab (HA.out.2 k rows[k] xs[k] (by simp) (by simp)) HB.out) (zdb _))
        have HY := zhd (Reads.own (zab (HA'.out.2 k rows'[k] ys[k] (by simp) (by simp)) HB.out) (zdb _))
        obtain ⟨p1, p2, s1⟩ := HX.out.shape
        obtain ⟨p3, p4, s2⟩ := HY.out.shape
        rw [s1] at g1 HX
        rw [s2] at g2 HY
        clear s1 s2
        by_cases hx : xs[k] = ys[k]
        · have HXX := zhd hx; clear hx
          have HD : Hid (decide (xs[k] = ys[k]) = true) := zhd (decide_eq_true HXX.out)
          have HTX := zhd (List.take_succ_eq_append_getElem hltx); have HTY := zhd (List.take_succ_eq_append_getElem hlty)
          generalize xs[k] = xk at *
          generalize ys[k] = yk at *
          go_wp2_with (go_at_call 101; ((with_reducible refine (zi0 _ _ xk yk true _ HX.out HY.out HD.out).mono ?_); rintro e w1 ⟨rfl, hb1⟩))
          go_roundw
          case rel => exact ⟨k + 1, by omega, by go_num, by rw [HTX.out, HTY.out, HT.out, HXX.out], zae HB.out hb1⟩
          case measure => simp [intOf]; omega
        · have hd : Hid (decide (xs = ys) = false) := zhd (decide_eq_false (fun e => hx (by subst e; rfl)))
          have HD : Hid (decide (xs[k] = ys[k]) = false) := zhd (decide_eq_false hx)
          clear hx
          generalize xs[k] = xk at *
          generalize ys[k] = yk at *
          go_wp2_with (go_at_call 101; ((with_reducible refine (zi0 _ _ xk yk false _ HX.out HY.out HD.out).mono ?_); rintro e w1 ⟨rfl, hb1⟩))
          go_ret
          exact ⟨ret1 (za1 hd.out.symm), zae HB.out hb1⟩
      · have hd : Hid (decide (xs = ys) = true) := zhd (decide_eq_true (by
         have e1 := HT.out
         have hkx : k = ln := by omega
         rw [hkx, ← HLX.out, List.take_length, HLX.out, ← HLY.out, List.take_length] at e1
         exact e1))
        go_wp2_with fail
        go_ret
        exact ⟨ret1 (za1 hd.out.symm), HB.out⟩
 · have hlb : (((xs.length : Nat) : Int) != ((ys.length : Nat) : Int)) = true := by simp; omega
   have hd : decide (xs = ys) = false := decide_eq_false (fun e => hl (by rw [e]))
   rw [hd]
   clear hl hd
   go_enter Tryz.func100, Tryz.ntmps100
   go_wp2_with fail
   go_ret
   exact ⟨ret1 (za1 rfl), Below.refl _ _⟩
theorem mem_eq (a b : Mem) : decide (a = b) = (decide (a.words = b.words) && (decide (a.res = b.res) && decide (a.pend = b.pend))) := by
 obtain ⟨x, y, z⟩ := a
 obtain ⟨x', y', z'⟩ := b
 rw [Bool.eq_iff_iff]
 simp
 intro _
 exact and_comm
theorem zdZ (v v' : Value) (xs ys : List Int) (r : Bool) (w0 w : World) (h : Reads w0 1 xs.length v (intC xs)) (h' : Reads w0 1 ys.length v' (intC ys)) (hb : Below w0.heap.size w0 w) (hr : decide (xs = ys) = r) :
 Calls Tryz.prog 52 #[v, v'] w fun e w' => e = .returned (.bool r) ∧ Below w.heap.size w w' := by subst hr; exact zf3 v v' xs ys w (h.below hb) (h'.below hb)
set_option maxHeartbeats 4000000 in
theorem same_mem (v v' : Value) (a b : Mem) (w : World) (h : IsMem w v a) (h' : IsMem w v' b) :
 Calls Tryz.prog 54 #[v, v'] w fun e w' => e = .returned (.bool (decide (a = b))) ∧ Below w.heap.size w w' := by
 obtain ⟨a1, c1, a2, c2, a3, c3, rows, rfl, r1, r2, r3, r4⟩ := h.parts
 obtain ⟨b1, d1, b2, d2, b3, d3, rows', rfl, s1, s2, s3, s4⟩ := h'.parts
 have R1 := zhd r1; have R2 := zhd r2; have R3 := zhd r3; have R4 := zhd r4; have S1 := zhd s1; have S2 := zhd s2; have S3 := zhd s3; have S4 := zhd s4
 clear h h' r1 r2 r3 r4 s1 s2 s3 s4
 rw [mem_eq]
 cases e1 : decide (a.words = b.words)
 · have E1 := zhd e1; clear e1
   go_enter Tryz.func54, Tryz.ntmps54
   go_wp2_with (go_at_call 52; ((with_reducible refine (zdZ _ _ a.words b.words false w _ R1.out S1.out (by repeat (first | (with_reducible first | exact Below.refl _ _ | refine zaj ?_ ?_ _ | apply zag | refine zae ?_ (by assumption) | apply zak) | omega)) E1.out).mono ?_); rintro e w1 ⟨rfl, hb1⟩))
   go_ret
   exact ⟨ret1 (za1 rfl), (by repeat (first | (with_reducible first | exact Below.refl _ _ | refine zaj ?_ ?_ _ | apply zag | refine zae ?_ (by assumption) | apply zak) | omega))⟩
 · have E1 := zhd e1; clear e1
   cases e2 : decide (a.res = b.res)
   · have E2 := zhd e2; clear e2
     go_enter Tryz.func54, Tryz.ntmps54
     go_wp2_with fail
     refine (zdZ _ _ a.words b.words true w _ R1.out S1.out (by repeat (first | (with_reducible first | exact Below.refl _ _ | refine zaj ?_ ?_ _ | apply zag | refine zae ?_ (by assumption) | apply zak) | omega)) E1.out).mono ?_
     rintro e w1 ⟨rfl, hb1⟩
     obtain ⟨k1, f1⟩ := za8 hb1
     go_wp2_with fail
     refine (zdZ _ _ a.res b.res false w _ R3.out S3.out (by repeat (first | (with_reducible first | exact Below.refl _ _ | refine zaj ?_ ?_ _ | apply zag | refine zae ?_ (by assumption) | apply zak) | omega)) E2.out).mono ?_
     rintro e w2 ⟨rfl, hb2⟩
     go_wp2_with fail
     go_ret
     exact ⟨ret1 (za1 rfl), (by repeat (first | (with_reducible first | exact Below.refl _ _ | refine zaj ?_ ?_ _ | apply zag | refine zae ?_ (by assumption) | apply zak) | omega))⟩
   · have E2 := zhd e2; clear e2
     go_enter Tryz.func54, Tryz.ntmps54
     go_wp2_with fail
     refine (zdZ _ _ a.words b.words true w _ R1.out S1.out (by repeat (first | (with_reducible first | exact Below.refl _ _ | refine zaj ?_ ?_ _ | apply zag | refine zae ?_ (by assumption) | apply zak) | omega)) E1.out).mono ?_
     rintro e w1 ⟨rfl, hb1⟩
     obtain ⟨k1, f1⟩ := za8 hb1
     have z1 : w.heap.size < w1.heap.size := by have := hb1.size; simp at this; omega
     have z1' : w.heap.size + 1 < w1.heap.size := by have := hb1.size; simp at this; omega
     go_wp2_with fail
     refine (zdZ _ _ a.res b.res true w _ R3.out S3.out (by repeat (first | (with_reducible first | exact Below.refl _ _ | refine zaj ?_ ?_ _ | apply zag | refine zae ?_ (by assumption) | apply zak) | omega)) E2.out).mono ?_
     rintro e w2 ⟨rfl, hb2⟩
     obtain ⟨k2, f2⟩ := za8 hb2
     have HB2 : Hid (Below w.heap.size w w2) := zhd (by repeat (first | (with_reducible first | exact Below.refl _ _ | refine zaj ?_ ?_ _ | apply zag | refine zae ?_ (by assumption) | apply zak) | omega))
     go_wp2_with fail
     refine (zkt _ _ _ _ rows rows' a.pend b.pend _ (R2.out.below HB2.out) (S2.out.below HB2.out) (R4.out.below HB2.out) (S4.out.below HB2.out)).mono ?_
     rintro e w3 ⟨rfl, hb3⟩
     go_wp2_with fail
     go_ret
     exact ⟨ret1 (za1 (by simp)), zae HB2.out hb3⟩
end
section
open Go.RowKit
set_option maxRecDepth 100000
structure Good (m : Mem) (H W : Nat) : Prop where
 words : m.words.length = W
 pend : m.pend.length = H
 res : m.res.length = H
 few : ∀ l ∈ m.pend, l.length ≤ 8
 ats : ∀ l ∈ m.pend, ∀ x ∈ l, 0 ≤ x.1 ∧ x.1 < W
theorem Good.small {m : Mem} {H W : Nat} (g : Good m H W) (h1 : H ≤ 1000) (h2 : W ≤ 100000) : Small m :=
 ⟨by rw [g.words]; omega, by rw [g.pend]; omega, by rw [g.res]; omega, fun l hl => Nat.le_trans (g.few l hl) (by omega)⟩
theorem Good.hart {m : Mem} {H W : Nat} (g : Good m H W) {h : Int} (h0 : 0 ≤ h) (h1 : h < H) : zdu m h = true := by
 simp [zdu, g.pend, g.res]; omega
theorem zmh {m : Mem} {H W : Nat} (g : Good m H W) {h a : Int} (hh : hasB m h a = true) : 0 ≤ h ∧ h < H ∧ 0 ≤ a ∧ a < W := by
 simp [hasB, zdu, g.pend, g.res, g.words] at hh; omega
theorem zgp {m : Mem} {h : Int} (hh : zdu m h = true) : zaJ m h ∈ m.pend := by
 obtain ⟨h0, h1, _⟩ := zgw hh
 unfold zaJ
 rw [List.getD_eq_getElem?_getD, List.getElem?_eq_getElem (by omega)]
 exact List.getElem_mem _
theorem Good.len {m : Mem} {H W : Nat} (g : Good m H W) {h : Int} (hh : zdu m h = true) : (zaJ m h).length ≤ 8 := g.few _ (zgp hh)
theorem Good.at {m : Mem} {H W : Nat} (g : Good m H W) {h : Int} (hh : zdu m h = true) {x : Int × Int} (hx : x ∈ zaJ m h) : 0 ≤ x.1 ∧ x.1 < W := g.ats _ (zgp hh) x hx
theorem good_new (H W : Nat) : Good (zct H W) H W := by
 constructor <;> simp [zct]
 all_goals (intro l _ hl; subst hl; simp)
theorem zjl {m : Mem} {H W : Nat} (g : Good m H W) (h : Int) {l : List (Int × Int)} (hl : l.length ≤ 8) (hx : ∀ x ∈ l, 0 ≤ x.1 ∧ x.1 < W) : Good (zeI m h l) H W := by
 refine ⟨g.words, by simp [zeI, g.pend], g.res, ?_, ?_⟩
 · intro l' hl'
   rcases List.mem_or_eq_of_mem_set hl' with h | h
   · exact g.few l' h
   · subst h; exact hl
 · intro l' hl'
   rcases List.mem_or_eq_of_mem_set hl' with h | h
   · exact g.ats l' h
   · subst h; exact hx
theorem zf0 {m : Mem} {H W : Nat} (g : Good m H W) (h a n : Int) : Good (zdw m h a n) H W :=
 ⟨by simp [zdw, g.words], g.pend, by simp [zdw, zdY, g.res], g.few, g.ats⟩
theorem zg3 {m : Mem} {H W : Nat} (g : Good m H W) (h a : Int) : Good (zdK m h a) H W :=
 ⟨g.words, g.pend, by simp [zdK, g.res], g.few, g.ats⟩
theorem store_ok {m m' : Mem} {h a n : Int} (e : zee m h a n = (m', 0)) : hasB m h a = true ∧ (zaJ m h).length < 8 ∧ m' = zeI m h (zaJ m h ++ [(a, wrap32 n)]) := by
 unfold zee at e
 split at e
 · rename_i hh
   split at e
   · cases e
   · rename_i h8
     injection e with e1 e2
     exact ⟨hh, by omega, e1.symm⟩
 · cases e
theorem zkk {m m' : Mem} {H W : Nat} {h a n : Int} (g : Good m H W) (e : zee m h a n = (m', 0)) : Good m' H W := by
 obtain ⟨hh, h8, rfl⟩ := store_ok e
 obtain ⟨h0, h1, a0, a1⟩ := zmh g hh
 have hb := g.hart h0 h1
 refine zjl g h (by simp; omega) ?_
 intro x hx
 rcases List.mem_append.1 hx with hx | hx
 · exact g.at hb hx
 · simp at hx; subst hx; exact ⟨a0, a1⟩
theorem drain_ok {m m' : Mem} {h k : Int} (e : zc6 m h k = (m', 0)) : zdu m h = true ∧ 0 ≤ k ∧ (∃ x, (zaJ m h)[k.toNat]? = some x ∧ hasB m h x.1 = true ∧ ∀ y ∈ (zaJ m h).take k.toNat, y.1 ≠ x.1) ∧ m' = zei m h k.toNat := by
 unfold zc6 at e
 split at e
 · rename_i hh
   simp only [Bool.and_eq_true, decide_eq_true_eq] at hh
   obtain ⟨hb, k0, k1⟩ := hh
   have kl : k.toNat < (zaJ m h).length := by omega
   split at e
   · rename_i hhas
     split at e
     · cases e
     · rename_i ha
       injection e with e1 e2
       have e' : (zaJ m h).getD k.toNat (0, 0) = (zaJ m h)[k.toNat] := by simp [List.getD, List.getElem?_eq_getElem kl]
       refine ⟨hb, k0, ⟨(zaJ m h)[k.toNat], List.getElem?_eq_getElem kl, e' ▸ hhas, ?_⟩, e1.symm⟩
       intro y hy hc
       apply ha
       unfold zmY
       rw [List.any_eq_true]
       exact ⟨y, hy, by rw [e']; simp [hc]⟩
   · cases e
 · cases e
theorem ziG {m : Mem} {H W : Nat} {h : Int} {k : Nat} (g : Good m H W) (hb : zdu m h = true) : Good (zei m h k) H W := by
 refine zjl (zf0 g _ _ _) h ?_ ?_
 · exact Nat.le_trans (List.length_eraseIdx_le _ _) (g.len hb)
 · intro x hx
   exact g.at hb (List.mem_of_mem_eraseIdx hx)
theorem zkn {m m' : Mem} {H W : Nat} {h k : Int} (g : Good m H W) (e : zc6 m h k = (m', 0)) : Good m' H W := by
 obtain ⟨hb, _, _, rfl⟩ := drain_ok e
 exact ziG g hb
end
section
open Go.RowKit
set_option maxRecDepth 100000
theorem zjR {m m' : Mem} {h a u : Int} (e : zbJ m h a = (u, m', 0)) : zca m h a = 0 ∧ u = zbR m a ∧ m' = zdK m h a := by
 unfold zbJ at e
 split at e
 · rename_i h0; injection e with e1 e2; injection e2 with e2 e3; exact ⟨h0, e1.symm, e2.symm⟩
 · rename_i h0; injection e with e1 e2; injection e2 with e2 e3; exact absurd e3 h0
theorem zhR {m m' : Mem} {H W : Nat} {h a u : Int} (g : Good m H W) (e : zbJ m h a = (u, m', 0)) : Good m' H W := by
 obtain ⟨_, _, rfl⟩ := zjR e; exact zg3 g _ _
theorem cond_ok {m m' : Mem} {h a n : Int} {u : Bool} (e : zcA m h a n = (u, m', 0)) : zca m h a = 0 ∧ u = decide (zfD m h = a) ∧ m' = if zfD m h = a then zdK (zdw m h a (wrap32 n)) h (-1) else zdK m h (-1) := by
 unfold zcA at e
 split at e
 · rename_i h0
   split at e
   · rename_i hr; injection e with e1 e2; injection e2 with e2 e3; exact ⟨h0, by rw [← e1]; simp [hr], by rw [if_pos hr]; exact e2.symm⟩
   · rename_i hr; injection e with e1 e2; injection e2 with e2 e3; exact ⟨h0, by rw [← e1]; simp [hr], by rw [if_neg hr]; exact e2.symm⟩
 · rename_i h0; injection e with e1 e2; injection e2 with e2 e3; exact absurd e3 h0
theorem zml {m m' : Mem} {H W : Nat} {h a n : Int} {u : Bool} (g : Good m H W) (e : zcA m h a n = (u, m', 0)) : Good m' H W := by
 obtain ⟨_, _, rfl⟩ := cond_ok e
 split
 · exact zg3 (zf0 g _ _ _) _ _
 · exact zg3 g _ _
theorem zmQ {m m' : Mem} {h a op n u : Int} (e : zbZ m h a op n = (u, m', 0)) : zca m h a = 0 ∧ u = zbR m a ∧ m' = zdw m h a (zd0 op (zbR m a) n) := by
 unfold zbZ at e
 split at e
 · rename_i h0; injection e with e1 e2; injection e2 with e2 e3
   refine ⟨?_, e1.symm, e2.symm⟩
   unfold zdg at h0
   split at h0
   · cases h0
   · exact h0
 · rename_i h0; injection e with e1 e2; injection e2 with e2 e3; exact absurd e3 h0
theorem ziI {m m' : Mem} {H W : Nat} {h a op n u : Int} (g : Good m H W) (e : zbZ m h a op n = (u, m', 0)) : Good m' H W := by
 obtain ⟨_, _, rfl⟩ := zmQ e; exact zf0 g _ _ _
end
end Go.Proofs.YtdobddiibgfeaaaGreat
