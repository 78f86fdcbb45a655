/-
  The places that are worked on: what lies in memory; the contracts of places.size, places.distance.
-/
import Derived.Test.YtfepdieeiplbnaaLabMap
import Derived.Test.YtfepdieeiplbnaaQuietTail
import Derived.Deep.DeepCutAuto
import Derived.Deep.QuietTactic
import Derived.BigQuiet
import Derived.Test.YtfepdieeiplbnaaOpen
namespace Go.Proofs.Ytfepdieeiplbnaa
open Go.RowKit
set_option linter.unusedSimpArgs false
def cellsZ (f : Nat → Int) (n : Nat) : Array Value := ((List.range n).map fun j => Value.int .i64 (f j)).toArray
def cellsL (L : Nat → Bool) (n : Nat) : Array Value := ((List.range n).map fun j => Value.bool (L j)).toArray
theorem cellsZ_get (f : Nat → Int) {n j : Nat} (h : j < n) : (cellsZ f n)[j]? = some (.int .i64 (f j)) := by simp [cellsZ, h]
theorem cellsL_get (L : Nat → Bool) {n j : Nat} (h : j < n) : (cellsL L n)[j]? = some (.bool (L j)) := by simp [cellsL, h]
theorem cellsZ_set (f : Nat → Int) {n j : Nat} (v : Int) : (cellsZ f n).setIfInBounds j (.int .i64 v) = cellsZ (fun i => if i = j then v else f i) n := by
  apply Array.ext_getElem?
  intro i
  rw [Array.getElem?_setIfInBounds]
  by_cases hi : i < n
  · by_cases e : j = i
    · subst e; simp [cellsZ, hi]
    · rw [if_neg e]; simp [cellsZ, hi, Ne.symm e]
  · by_cases e : j = i
    · subst e; simp [cellsZ, hi]
    · rw [if_neg e]; simp [cellsZ, hi]
theorem cellsL_set (L : Nat → Bool) {n j : Nat} (v : Bool) : (cellsL L n).setIfInBounds j (.bool v) = cellsL (fun i => if i = j then v else L i) n := by
  apply Array.ext_getElem?
  intro i
  rw [Array.getElem?_setIfInBounds]
  by_cases hi : i < n
  · by_cases e : j = i
    · subst e; simp [cellsL, hi]
    · rw [if_neg e]; simp [cellsL, hi, Ne.symm e]
  · by_cases e : j = i
    · subst e; simp [cellsL, hi]
    · rw [if_neg e]; simp [cellsL, hi]
theorem iret {a b : Int} (h : a = b) : Ending.returned (.int .i64 a) = .returned (.int .i64 b) := by rw [h]
theorem cellsZ_congr {f g : Nat → Int} {n : Nat} (h : ∀ i, i < n → f i = g i) : cellsZ f n = cellsZ g n := by
  unfold cellsZ
  congr 1
  apply List.map_congr_left
  intro i hi
  rw [h i (by simpa using hi)]
/-- The struct at P: places at A, which are long at G, labels at M. -/
structure LaySt (base n P A G M : Nat) (f : Nat → Int) (L : Nat → Bool) (m : Nat) (km : ByteArray → Option Nat) (w : World) : Prop where
  hP : w.heap[P]? = some (.cells #[.slice (some ⟨A, 0, none⟩) (n + 1) (n + 1), .slice (some ⟨G, 0, none⟩) n n, .map (some M)] 61 (0, 0))
  hA : w.heap[A]? = some (.cells (cellsZ f (n + 1)) 3 (0, 0))
  hG : w.heap[G]? = some (.cells (cellsL L n) 4 (0, 0))
  hM : Knows w M m km
  bP : base ≤ P
  bA : base ≤ A
  bG : base ≤ G
  bM : base ≤ M
theorem knows_block {w : World} {M m : Nat} {km : ByteArray → Option Nat} (h : Knows w M m km) : ∃ es c, w.heap[M]? = some (.map es c) := by
  obtain ⟨D, ⟨es, clock, hb, _⟩, _⟩ := h
  exact ⟨_, _, hb⟩
theorem LaySt.ne {base n P A G M m : Nat} {f : Nat → Int} {L : Nat → Bool} {km : ByteArray → Option Nat} {w : World} (h : LaySt base n P A G M f L m km w) :
    P ≠ A ∧ P ≠ G ∧ P ≠ M ∧ A ≠ G ∧ A ≠ M ∧ G ≠ M := by
  obtain ⟨es, c, hm⟩ := knows_block h.hM
  have hP := h.hP; have hA := h.hA; have hG := h.hG
  refine ⟨?_, ?_, ?_, ?_, ?_, ?_⟩
  all_goals
    intro e
    subst e
    simp_all
theorem LaySt.up {base n P A G M m : Nat} {f : Nat → Int} {L : Nat → Bool} {km : ByteArray → Option Nat} {w w' : World} (h : LaySt base n P A G M f L m km w) (hb : Below w.heap.size w w') : LaySt base n P A G M f L m km w' :=
  ⟨bel_in hb (lt_in h.hP) h.hP, bel_in hb (lt_in h.hA) h.hA, bel_in hb (lt_in h.hG) h.hG, h.hM.below hb h.hM.lt, h.bP, h.bA, h.bG, h.bM⟩
theorem LaySt.setA {base n P A G M m : Nat} {f : Nat → Int} {L : Nat → Bool} {km : ByteArray → Option Nat} {w : World} (h : LaySt base n P A G M f L m km w) (j : Nat) (v : Int) :
    LaySt base n P A G M (fun i => if i = j then v else f i) L m km (w.setCell ⟨A, j, none⟩ (.int .i64 v)) := by
  obtain ⟨n1, n2, n3, n4, n5, n6⟩ := h.ne
  refine ⟨heap_set_ne n1 h.hP, ?_, heap_set_ne (Ne.symm n4) h.hG, h.hM.of_block (Below.heap_setCell w _ _ M (Ne.symm n5)), h.bP, h.bA, h.bG, h.bM⟩
  rw [← cellsZ_set]
  exact set_in h.hA j _
theorem LaySt.setG {base n P A G M m : Nat} {f : Nat → Int} {L : Nat → Bool} {km : ByteArray → Option Nat} {w : World} (h : LaySt base n P A G M f L m km w) (j : Nat) (v : Bool) :
    LaySt base n P A G M f (fun i => if i = j then v else L i) m km (w.setCell ⟨G, j, none⟩ (.bool v)) := by
  obtain ⟨n1, n2, n3, n4, n5, n6⟩ := h.ne
  refine ⟨heap_set_ne n2 h.hP, heap_set_ne n4 h.hA, ?_, h.hM.of_block (Below.heap_setCell w _ _ M (Ne.symm n6)), h.bP, h.bA, h.bG, h.bM⟩
  rw [← cellsL_set]
  exact set_in h.hG j _
theorem LaySt.setM {base n P A G M m m' : Nat} {f : Nat → Int} {L : Nat → Bool} {km km' : ByteArray → Option Nat} {w w' : World} (h : LaySt base n P A G M f L m km w) (hg : w.grownBy w' (some M)) (hk : Knows w' M m' km') :
    LaySt base n P A G M f L m' km' w' := by
  obtain ⟨n1, n2, n3, n4, n5, n6⟩ := h.ne
  exact ⟨(hg.block P (lt_in h.hP) (fun e => n3 (by injection e))).trans h.hP, (hg.block A (lt_in h.hA) (fun e => n5 (by injection e))).trans h.hA, (hg.block G (lt_in h.hG) (fun e => n6 (by injection e))).trans h.hG, hk, h.bP, h.bA, h.bG, h.bM⟩
theorem number_len (d n : Int) (w : World) (hn : I64 n) :
    Calls Try.prog 21 #[.int .i64 d, .int .i64 n] w fun e w' => ∃ a c, e = .returned (.slice a (labL d n).length c) ∧ Below w.heap.size w w' := by
  refine (label_number d n w hn).mono ?_
  rintro e w' ⟨hb, h | ⟨_, B, h, _⟩⟩
  · exact ⟨none, 0, by rw [h.2, h.1]; rfl, hb⟩
  · exact ⟨_, _, h, hb⟩
set_option maxHeartbeats 4000000 in
theorem lab_size {base n P A G M m : Nat} {f : Nat → Int} {L : Nat → Bool} {km : ByteArray → Option Nat} {w : World} (HS : LaySt base n P A G M f L m km w) (i : Nat) (hi : i < n) (x : Itm) (hN : I64 x.n) (z : Int) (hz : sizeZ x (L i) = z) :
    Calls Try.prog 68 #[.pointer (some ⟨P, 0, none⟩), .int .i64 i, itV x] w fun e w' => e = .returned (.int .i64 z) ∧ Below w.heap.size w w' := by
  obtain ⟨k, ⟨op, d, a, b, nn⟩, s, N⟩ := x
  have HZ := Lib.hid hz; clear hz
  have k1 : w.cell? ⟨P, 1, none⟩ = some (.slice (some ⟨G, 0, none⟩) n n) := cell_in HS.hP rfl
  have k2 : w.cell? ⟨G, i, none⟩ = some (.bool (L i)) := cell_in HS.hG (cellsL_get L hi)
  have hP := lt_in HS.hP; have hG := lt_in HS.hG
  have HL := Lib.hid HS; clear HS
  unfold itV
  unfold sizeZ at HZ
  simp only at HZ hN ⊢
  by_cases h2 : k = 2
  · subst h2
    have E : Hid (0 = z) := Lib.hid (by rw [← HZ.out]; rfl)
    go_enter Try.func68, Try.ntmps68
    go_wp2_with fail
    go_ret
    exact ⟨iret E.out, (by repeat (first | (with_reducible exact Below.refl _ _) | (with_reducible refine bw_set ?_ ?_ _) | (with_reducible apply bw_alloc) | (with_reducible refine bw_tr ?_ (by with_reducible assumption)) | (with_reducible apply bw_drew) | omega))⟩
  have q2 : (k == 2) = false := by simpa using h2
  by_cases h5 : k = 5
  · subst h5
    have E : Hid (N = z) := Lib.hid (by rw [← HZ.out]; rfl)
    clear h2
    go_enter Try.func68, Try.ntmps68
    go_wp2_with fail
    go_ret
    exact ⟨iret E.out, (by repeat (first | (with_reducible exact Below.refl _ _) | (with_reducible refine bw_set ?_ ?_ _) | (with_reducible apply bw_alloc) | (with_reducible refine bw_tr ?_ (by with_reducible assumption)) | (with_reducible apply bw_drew) | omega))⟩
  have q5 : (k == 5) = false := by simpa using h5
  by_cases h4 : k = 4
  · subst h4
    have E : Hid (((labL d N).length : Int) = z) := Lib.hid (by rw [← HZ.out]; rfl)
    have HN := Lib.hid hN
    clear h2 h5
    go_enter Try.func68, Try.ntmps68
    go_wp2_with (go_at_call 21; ((with_reducible refine (number_len d N _ HN.out).mono ?_); rintro e w1 ⟨a1, c1, rfl, hb1⟩))
    go_ret
    exact ⟨iret E.out, (by repeat (first | (with_reducible exact Below.refl _ _) | (with_reducible refine bw_set ?_ ?_ _) | (with_reducible apply bw_alloc) | (with_reducible refine bw_tr ?_ (by with_reducible assumption)) | (with_reducible apply bw_drew) | omega))⟩
  have q4 : (k == 4) = false := by simpa using h4
  have E : Hid ((if L i then 2 else 1 : Int) = z) := Lib.hid (by rw [← HZ.out, if_neg h2, if_neg h5, if_neg h4])
  clear h2 h4 h5
  cases hLi : L i
  all_goals
    rw [hLi] at E k2
    clear hLi
    go_enter Try.func68, Try.ntmps68
    go_wp2_with fail
    go_ret
    exact ⟨iret (by rw [← E.out]; rfl), (by repeat (first | (with_reducible exact Below.refl _ _) | (with_reducible refine bw_set ?_ ?_ _) | (with_reducible apply bw_alloc) | (with_reducible refine bw_tr ?_ (by with_reducible assumption)) | (with_reducible apply bw_drew) | omega))⟩
set_option maxHeartbeats 4000000 in
theorem lab_distance {base n P A G M m : Nat} {f : Nat → Int} {L : Nat → Bool} {km : ByteArray → Option Nat} {w : World} (HS : LaySt base n P A G M f L m km w) (i : Nat) (hi : i < n) (x : Itm) (hs : x.name.size ≤ maxLen) (hk : (km x.name).getD 0 < n + 1)
    (hf : ∀ j, j < n + 1 → 0 ≤ f j ∧ f j ≤ 100000000000) :
    Calls Try.prog 69 #[.pointer (some ⟨P, 0, none⟩), .int .i64 i, itV x] w fun e w' => e = .returned (.int .i64 (f ((km x.name).getD 0) - f i)) ∧ Below w.heap.size w w' := by
  obtain ⟨k, ⟨op, d, a, b, nn⟩, s, N⟩ := x
  simp only at hs hk ⊢
  have HM := Lib.hid (fun (x : Wd (w.alloc (.cells #[.int .i64 k, .int .i64 op, .int .i64 d, .int .i64 a, .int .i64 b, .int .i64 nn, .string s, .int .i64 N] 26))) => (((HS.hM.below ((Below.refl _ _).alloc (Nat.le_refl _) _) HS.hM.lt).below x.bel (by have := HS.hM.lt; simp; omega)).look s hs))
  have k0 : w.cell? ⟨P, 0, none⟩ = some (.slice (some ⟨A, 0, none⟩) (n + 1) (n + 1)) := cell_in HS.hP rfl
  have k2 : w.cell? ⟨P, 2, none⟩ = some (.map (some M)) := cell_in HS.hP rfl
  obtain ⟨t, ht⟩ : ∃ t, (km s).getD 0 = t := ⟨_, rfl⟩
  rw [ht] at hk HM ⊢
  have e1 : w.cell? ⟨A, i, none⟩ = some (.int .i64 (f i)) := cell_in HS.hA (cellsZ_get f (by omega))
  have e2 : w.cell? ⟨A, t, none⟩ = some (.int .i64 (f t)) := cell_in HS.hA (cellsZ_get f hk)
  have hP := lt_in HS.hP; have hA := lt_in HS.hA
  have b1 := hf i (by omega); have b2 := hf t hk
  clear HS ht hf
  unfold itV
  go_enter Try.func69, Try.ntmps69
  go_wp2_with fail
  obtain ⟨W, hW⟩ : ∃ W, w.alloc (.cells #[.int .i64 k, .int .i64 op, .int .i64 d, .int .i64 a, .int .i64 b, .int .i64 nn, .string s, .int .i64 N] 26) = W := ⟨_, rfl⟩
  have hb : Below w.heap.size w W := by rw [← hW]; exact (Below.refl _ _).alloc (Nat.le_refl _) _
  have hsz : w.heap.size < W.heap.size := by rw [← hW]; simp
  have x4 : W.cell? ⟨w.heap.size, 6, none⟩ = some (.string s) := by rw [← hW]; exact cell_in (new_in w _) rfl
  rw [hW] at HM ⊢
  clear hW
  have y0 := wd_cell (by omega) ((hb.cell (p := ⟨P, 0, none⟩) hP).trans k0)
  have y1 := wd_cell (by omega) ((hb.cell (p := ⟨P, 2, none⟩) hP).trans k2)
  have y2 := wd_cell (by omega) ((hb.cell (p := ⟨A, i, none⟩) hA).trans e1)
  have y3 := wd_cell (by omega) ((hb.cell (p := ⟨A, t, none⟩) hA).trans e2)
  have y4 := wd_cell (by omega) x4
  have y5 := HM.out
  have hwr : IntKind.i64.wrap (f t - f i) = f t - f i := IntWalk.i64_in _ (by omega)
  clear k0 k2 e1 e2 x4
  refine wp_region_below (by kernel_rfl) (by kernel_rfl) ?_
  repeat (go_big_quiet_step (fail))
  refine wpQuiet_nil ?_
  rintro w7 ⟨⟨w7x, hb7⟩, rfl⟩
  go_wp2_with fail
  go_ret
  exact ⟨rfl, bw_tr hb hb7⟩
end Go.Proofs.Ytfepdieeiplbnaa
