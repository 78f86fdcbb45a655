/-
  The places that are worked on: what lies in memory; the contracts of places.size, places.distance. The contract of places.reckon. The contract of places.grow (printed by gen_labgrow.py). The contract of places.known (printed by gen_labknown.py).
-/
import Derived.Test.YtfepdieeiplbnaaLabB
import Derived.Test.YtfepdieeiplbnaaQuietTail
import Derived.Deep.DeepCutAuto
import Derived.Deep.QuietTactic
import Derived.BigQuiet
import Derived.Test.YtfepdieeiplbnaaOpen
namespace Go.Proofs.Ytfepdieeiplbnaa
open Go.RowKit
set_option linter.unusedSimpArgs false
def cellsZ (f : Nat → Int) (n : Nat) : Array Value := ((List.range n).map fun j => Value.int .i64 (f j)).toArray
def cellsL (L : Nat → Bool) (n : Nat) : Array Value := ((List.range n).map fun j => Value.bool (L j)).toArray
theorem cellsZ_get (f : Nat → Int) {n j : Nat} (h : j < n) : (cellsZ f n)[j]? = some (.int .i64 (f j)) := by simp [cellsZ, h]
theorem cellsL_get (L : Nat → Bool) {n j : Nat} (h : j < n) : (cellsL L n)[j]? = some (.bool (L j)) := by simp [cellsL, h]
theorem cellsZ_set (f : Nat → Int) {n j : Nat} (v : Int) : (cellsZ f n).setIfInBounds j (.int .i64 v) = cellsZ (fun i => if i = j then v else f i) n := by
  apply Array.ext_getElem?
  intro i
  rw [Array.getElem?_setIfInBounds]
  by_cases hi : i < n
  · by_cases e : j = i
    · subst e; simp [cellsZ, hi]
    · rw [if_neg e]; simp [cellsZ, hi, Ne.symm e]
  · by_cases e : j = i
    · subst e; simp [cellsZ, hi]
    · rw [if_neg e]; simp [cellsZ, hi]
theorem cellsL_set (L : Nat → Bool) {n j : Nat} (v : Bool) : (cellsL L n).setIfInBounds j (.bool v) = cellsL (fun i => if i = j then v else L i) n := by
  apply Array.ext_getElem?
  intro i
  rw [Array.getElem?_setIfInBounds]
  by_cases hi : i < n
  · by_cases e : j = i
    · subst e; simp [cellsL, hi]
    · rw [if_neg e]; simp [cellsL, hi, Ne.symm e]
  · by_cases e : j = i
    · subst e; simp [cellsL, hi]
    · rw [if_neg e]; simp [cellsL, hi]
theorem iret {a b : Int} (h : a = b) : Ending.returned (.int .i64 a) = .returned (.int .i64 b) := by rw [h]
theorem cellsZ_congr {f g : Nat → Int} {n : Nat} (h : ∀ i, i < n → f i = g i) : cellsZ f n = cellsZ g n := by
  unfold cellsZ
  congr 1
  apply List.map_congr_left
  intro i hi
  rw [h i (by simpa using hi)]
/-- The struct at P: places at A, which are long at G, labels at M. -/
structure LaySt (base n P A G M : Nat) (f : Nat → Int) (L : Nat → Bool) (m : Nat) (km : ByteArray → Option Nat) (w : World) : Prop where
  hP : w.heap[P]? = some (.cells #[.slice (some ⟨A, 0, none⟩) (n + 1) (n + 1), .slice (some ⟨G, 0, none⟩) n n, .map (some M)] 61 (0, 0))
  hA : w.heap[A]? = some (.cells (cellsZ f (n + 1)) 3 (0, 0))
  hG : w.heap[G]? = some (.cells (cellsL L n) 4 (0, 0))
  hM : Knows w M m km
  bP : base ≤ P
  bA : base ≤ A
  bG : base ≤ G
  bM : base ≤ M
theorem knows_block {w : World} {M m : Nat} {km : ByteArray → Option Nat} (h : Knows w M m km) : ∃ es c, w.heap[M]? = some (.map es c) := by
  obtain ⟨D, ⟨es, clock, hb, _⟩, _⟩ := h
  exact ⟨_, _, hb⟩
theorem LaySt.ne {base n P A G M m : Nat} {f : Nat → Int} {L : Nat → Bool} {km : ByteArray → Option Nat} {w : World} (h : LaySt base n P A G M f L m km w) :
    P ≠ A ∧ P ≠ G ∧ P ≠ M ∧ A ≠ G ∧ A ≠ M ∧ G ≠ M := by
  obtain ⟨es, c, hm⟩ := knows_block h.hM
  have hP := h.hP; have hA := h.hA; have hG := h.hG
  refine ⟨?_, ?_, ?_, ?_, ?_, ?_⟩
  all_goals
    intro e
    subst e
    simp_all
theorem LaySt.up {base n P A G M m : Nat} {f : Nat → Int} {L : Nat → Bool} {km : ByteArray → Option Nat} {w w' : World} (h : LaySt base n P A G M f L m km w) (hb : Below w.heap.size w w') : LaySt base n P A G M f L m km w' :=
  ⟨bel_in hb (lt_in h.hP) h.hP, bel_in hb (lt_in h.hA) h.hA, bel_in hb (lt_in h.hG) h.hG, h.hM.below hb h.hM.lt, h.bP, h.bA, h.bG, h.bM⟩
theorem LaySt.setA {base n P A G M m : Nat} {f : Nat → Int} {L : Nat → Bool} {km : ByteArray → Option Nat} {w : World} (h : LaySt base n P A G M f L m km w) (j : Nat) (v : Int) :
    LaySt base n P A G M (fun i => if i = j then v else f i) L m km (w.setCell ⟨A, j, none⟩ (.int .i64 v)) := by
  obtain ⟨n1, n2, n3, n4, n5, n6⟩ := h.ne
  refine ⟨heap_set_ne n1 h.hP, ?_, heap_set_ne (Ne.symm n4) h.hG, h.hM.of_block (Below.heap_setCell w _ _ M (Ne.symm n5)), h.bP, h.bA, h.bG, h.bM⟩
  rw [← cellsZ_set]
  exact set_in h.hA j _
theorem LaySt.setG {base n P A G M m : Nat} {f : Nat → Int} {L : Nat → Bool} {km : ByteArray → Option Nat} {w : World} (h : LaySt base n P A G M f L m km w) (j : Nat) (v : Bool) :
    LaySt base n P A G M f (fun i => if i = j then v else L i) m km (w.setCell ⟨G, j, none⟩ (.bool v)) := by
  obtain ⟨n1, n2, n3, n4, n5, n6⟩ := h.ne
  refine ⟨heap_set_ne n2 h.hP, heap_set_ne n4 h.hA, ?_, h.hM.of_block (Below.heap_setCell w _ _ M (Ne.symm n6)), h.bP, h.bA, h.bG, h.bM⟩
  rw [← cellsL_set]
  exact set_in h.hG j _
theorem LaySt.setM {base n P A G M m m' : Nat} {f : Nat → Int} {L : Nat → Bool} {km km' : ByteArray → Option Nat} {w w' : World} (h : LaySt base n P A G M f L m km w) (hg : w.grownBy w' (some M)) (hk : Knows w' M m' km') :
    LaySt base n P A G M f L m' km' w' := by
  obtain ⟨n1, n2, n3, n4, n5, n6⟩ := h.ne
  exact ⟨(hg.block P (lt_in h.hP) (fun e => n3 (by injection e))).trans h.hP, (hg.block A (lt_in h.hA) (fun e => n5 (by injection e))).trans h.hA, (hg.block G (lt_in h.hG) (fun e => n6 (by injection e))).trans h.hG, hk, h.bP, h.bA, h.bG, h.bM⟩
theorem number_len (d n : Int) (w : World) (hn : I64 n) :
    Calls Try.prog 21 #[.int .i64 d, .int .i64 n] w fun e w' => ∃ a c, e = .returned (.slice a (labL d n).length c) ∧ Below w.heap.size w w' := by
  refine (label_number d n w hn).mono ?_
  rintro e w' ⟨hb, h | ⟨_, B, h, _⟩⟩
  · exact ⟨none, 0, by rw [h.2, h.1]; rfl, hb⟩
  · exact ⟨_, _, h, hb⟩
set_option maxHeartbeats 4000000 in
theorem lab_size {base n P A G M m : Nat} {f : Nat → Int} {L : Nat → Bool} {km : ByteArray → Option Nat} {w : World} (HS : LaySt base n P A G M f L m km w) (i : Nat) (hi : i < n) (x : Itm) (hN : I64 x.n) (z : Int) (hz : sizeZ x (L i) = z) :
    Calls Try.prog 68 #[.pointer (some ⟨P, 0, none⟩), .int .i64 i, itV x] w fun e w' => e = .returned (.int .i64 z) ∧ Below w.heap.size w w' := by
  obtain ⟨k, ⟨op, d, a, b, nn⟩, s, N⟩ := x
  have HZ := Lib.hid hz; clear hz
  have k1 : w.cell? ⟨P, 1, none⟩ = some (.slice (some ⟨G, 0, none⟩) n n) := cell_in HS.hP rfl
  have k2 : w.cell? ⟨G, i, none⟩ = some (.bool (L i)) := cell_in HS.hG (cellsL_get L hi)
  have hP := lt_in HS.hP; have hG := lt_in HS.hG
  have HL := Lib.hid HS; clear HS
  unfold itV
  unfold sizeZ at HZ
  simp only at HZ hN ⊢
  by_cases h2 : k = 2
  · subst h2
    have E : Hid (0 = z) := Lib.hid (by rw [← HZ.out]; rfl)
    go_enter Try.func68, Try.ntmps68
    go_wp2_with fail
    go_ret
    exact ⟨iret E.out, (by repeat (first | (with_reducible exact Below.refl _ _) | (with_reducible refine bw_set ?_ ?_ _) | (with_reducible apply bw_alloc) | (with_reducible refine bw_tr ?_ (by with_reducible assumption)) | (with_reducible apply bw_drew) | omega))⟩
  have q2 : (k == 2) = false := by simpa using h2
  by_cases h5 : k = 5
  · subst h5
    have E : Hid (N = z) := Lib.hid (by rw [← HZ.out]; rfl)
    clear h2
    go_enter Try.func68, Try.ntmps68
    go_wp2_with fail
    go_ret
    exact ⟨iret E.out, (by repeat (first | (with_reducible exact Below.refl _ _) | (with_reducible refine bw_set ?_ ?_ _) | (with_reducible apply bw_alloc) | (with_reducible refine bw_tr ?_ (by with_reducible assumption)) | (with_reducible apply bw_drew) | omega))⟩
  have q5 : (k == 5) = false := by simpa using h5
  by_cases h4 : k = 4
  · subst h4
    have E : Hid (((labL d N).length : Int) = z) := Lib.hid (by rw [← HZ.out]; rfl)
    have HN := Lib.hid hN
    clear h2 h5
    go_enter Try.func68, Try.ntmps68
    go_wp2_with (go_at_call 21; ((with_reducible refine (number_len d N _ HN.out).mono ?_); rintro e w1 ⟨a1, c1, rfl, hb1⟩))
    go_ret
    exact ⟨iret E.out, (by repeat (first | (with_reducible exact Below.refl _ _) | (with_reducible refine bw_set ?_ ?_ _) | (with_reducible apply bw_alloc) | (with_reducible refine bw_tr ?_ (by with_reducible assumption)) | (with_reducible apply bw_drew) | omega))⟩
  have q4 : (k == 4) = false := by simpa using h4
  have E : Hid ((if L i then 2 else 1 : Int) = z) := Lib.hid (by rw [← HZ.out, if_neg h2, if_neg h5, if_neg h4])
  clear h2 h4 h5
  cases hLi : L i
  all_goals
    rw [hLi] at E k2
    clear hLi
    go_enter Try.func68, Try.ntmps68
    go_wp2_with fail
    go_ret
    exact ⟨iret (by rw [← E.out]; rfl), (by repeat (first | (with_reducible exact Below.refl _ _) | (with_reducible refine bw_set ?_ ?_ _) | (with_reducible apply bw_alloc) | (with_reducible refine bw_tr ?_ (by with_reducible assumption)) | (with_reducible apply bw_drew) | omega))⟩
set_option maxHeartbeats 4000000 in
theorem lab_distance {base n P A G M m : Nat} {f : Nat → Int} {L : Nat → Bool} {km : ByteArray → Option Nat} {w : World} (HS : LaySt base n P A G M f L m km w) (i : Nat) (hi : i < n) (x : Itm) (hs : x.name.size ≤ maxLen) (hk : (km x.name).getD 0 < n + 1)
    (hf : ∀ j, j < n + 1 → 0 ≤ f j ∧ f j ≤ 100000000000) :
    Calls Try.prog 69 #[.pointer (some ⟨P, 0, none⟩), .int .i64 i, itV x] w fun e w' => e = .returned (.int .i64 (f ((km x.name).getD 0) - f i)) ∧ Below w.heap.size w w' := by
  obtain ⟨k, ⟨op, d, a, b, nn⟩, s, N⟩ := x
  simp only at hs hk ⊢
  have HM := Lib.hid (fun (x : Wd (w.alloc (.cells #[.int .i64 k, .int .i64 op, .int .i64 d, .int .i64 a, .int .i64 b, .int .i64 nn, .string s, .int .i64 N] 26))) => (((HS.hM.below ((Below.refl _ _).alloc (Nat.le_refl _) _) HS.hM.lt).below x.bel (by have := HS.hM.lt; simp; omega)).look s hs))
  have k0 : w.cell? ⟨P, 0, none⟩ = some (.slice (some ⟨A, 0, none⟩) (n + 1) (n + 1)) := cell_in HS.hP rfl
  have k2 : w.cell? ⟨P, 2, none⟩ = some (.map (some M)) := cell_in HS.hP rfl
  obtain ⟨t, ht⟩ : ∃ t, (km s).getD 0 = t := ⟨_, rfl⟩
  rw [ht] at hk HM ⊢
  have e1 : w.cell? ⟨A, i, none⟩ = some (.int .i64 (f i)) := cell_in HS.hA (cellsZ_get f (by omega))
  have e2 : w.cell? ⟨A, t, none⟩ = some (.int .i64 (f t)) := cell_in HS.hA (cellsZ_get f hk)
  have hP := lt_in HS.hP; have hA := lt_in HS.hA
  have b1 := hf i (by omega); have b2 := hf t hk
  clear HS ht hf
  unfold itV
  go_enter Try.func69, Try.ntmps69
  go_wp2_with fail
  obtain ⟨W, hW⟩ : ∃ W, w.alloc (.cells #[.int .i64 k, .int .i64 op, .int .i64 d, .int .i64 a, .int .i64 b, .int .i64 nn, .string s, .int .i64 N] 26) = W := ⟨_, rfl⟩
  have hb : Below w.heap.size w W := by rw [← hW]; exact (Below.refl _ _).alloc (Nat.le_refl _) _
  have hsz : w.heap.size < W.heap.size := by rw [← hW]; simp
  have x4 : W.cell? ⟨w.heap.size, 6, none⟩ = some (.string s) := by rw [← hW]; exact cell_in (new_in w _) rfl
  rw [hW] at HM ⊢
  clear hW
  have y0 := wd_cell (by omega) ((hb.cell (p := ⟨P, 0, none⟩) hP).trans k0)
  have y1 := wd_cell (by omega) ((hb.cell (p := ⟨P, 2, none⟩) hP).trans k2)
  have y2 := wd_cell (by omega) ((hb.cell (p := ⟨A, i, none⟩) hA).trans e1)
  have y3 := wd_cell (by omega) ((hb.cell (p := ⟨A, t, none⟩) hA).trans e2)
  have y4 := wd_cell (by omega) x4
  have y5 := HM.out
  have hwr : IntKind.i64.wrap (f t - f i) = f t - f i := IntWalk.i64_in _ (by omega)
  clear k0 k2 e1 e2 x4
  refine wp_region_below (by kernel_rfl) (by kernel_rfl) ?_
  repeat (go_big_quiet_step (fail))
  refine wpQuiet_nil ?_
  rintro w7 ⟨⟨w7x, hb7⟩, rfl⟩
  go_wp2_with fail
  go_ret
  exact ⟨rfl, bw_tr hb hb7⟩
end Go.Proofs.Ytfepdieeiplbnaa
namespace Go.Proofs.Ytfepdieeiplbnaa
open Go.RowKit
set_option linter.unusedSimpArgs false
/-- A list of items that came in, one of them. -/
theorem items_at {w : World} {a : Option Addr} {n c : Nat} {l : List Itm} (h : ArgS 8 itC w (.slice a n c) l) (i : Nat) (hi : i < l.length) :
    ∃ b o, a = some ⟨b, o, none⟩ ∧ b < w.heap.size ∧ ∀ j u, (itC (it l i))[j]? = some u → w.cell? ⟨b, o + i * 8 + j, none⟩ = some u := by
  obtain ⟨a', c', hv, h1, h2, h3⟩ := h
  injection hv with e1 e2 e3
  subst e1 e2 e3
  rcases h3 with h3 | ⟨b, o, ha, hlt, hc⟩
  · subst h3; simp at hi
  · exact ⟨b, o, ha, hlt, fun j u hj => hc i (it l i) (it_get hi) j u hj⟩
theorem items_len {w : World} {a : Option Addr} {n c : Nat} {l : List Itm} (h : ArgS 8 itC w (.slice a n c) l) : n = l.length ∧ n ≤ c ∧ c ≤ maxLen := by
  obtain ⟨a', c', hv, h1, h2, h3⟩ := h
  injection hv with e1 e2 e3
  subst e1 e2 e3
  exact ⟨rfl, h1, h2⟩
theorem eight_cells {w : World} {b o : Nat} {x : Itm} (h : ∀ j u, (itC x)[j]? = some u → w.cell? ⟨b, o + j, none⟩ = some u) :
    w.cell? ⟨b, o, none⟩ = some (.int .i64 x.kind) ∧ w.cell? ⟨b, o + 1, none⟩ = some (.int .i64 x.i.op) ∧ w.cell? ⟨b, o + 2, none⟩ = some (.int .i64 x.i.d) ∧ w.cell? ⟨b, o + 3, none⟩ = some (.int .i64 x.i.a) ∧ w.cell? ⟨b, o + 4, none⟩ = some (.int .i64 x.i.b) ∧ w.cell? ⟨b, o + 5, none⟩ = some (.int .i64 x.i.n) ∧ w.cell? ⟨b, o + 6, none⟩ = some (.string x.name) ∧ w.cell? ⟨b, o + 7, none⟩ = some (.int .i64 x.n) :=
  ⟨h 0 _ rfl, h 1 _ rfl, h 2 _ rfl, h 3 _ rfl, h 4 _ rfl, h 5 _ rfl, h 6 _ rfl, h 7 _ rfl⟩
/-- The list of items that a layer works on: not too long, its strings and numbers as Go has them. -/
structure ItsOK (l : List Itm) : Prop where
  len : l.length ≤ 40000
  name : ∀ i, i < l.length → (it l i).name.size ≤ maxLen
  num : ∀ i, i < l.length → I64 (it l i).n
theorem reck_step {l : List Itm} {L : Nat → Bool} {f : Nat → Int} {k : Nat} {v : Int} (hv : v = pl l L (k + 1)) :
    (fun i => if i = k + 1 then v else (fun j => if j ≤ k then pl l L j else f j) i) = fun j => if j ≤ k + 1 then pl l L j else f j := by
  funext j
  simp only
  by_cases h : j = k + 1
  · subst h; simp [hv]
  · rw [if_neg h]
    by_cases h2 : j ≤ k
    · rw [if_pos h2, if_pos (by omega)]
    · rw [if_neg h2, if_neg (by omega)]
set_option maxHeartbeats 4000000 in
theorem lab_reckon {base P A G M m : Nat} {f : Nat → Int} {L : Nat → Bool} {km : ByteArray → Option Nat} (w0 w : World) (l : List Itm) (v : Value) (HL : ArgS 8 itC w0 v l) (HO : ItsOK l) (HA : allB l) (HB0 : Below w0.heap.size w0 w) (hbase : base = w0.heap.size)
    (HS : LaySt base l.length P A G M f L m km w) (hf0 : f 0 = 0) :
    Calls Try.prog 53 #[.pointer (some ⟨P, 0, none⟩), v] w fun e w' => e = .returned (.tuple #[]) ∧ LaySt base l.length P A G M (pl l L) L m km w' ∧ Below w0.heap.size w0 w' := by
  obtain ⟨a, c, rfl⟩ : ∃ a c, v = .slice a l.length c := by obtain ⟨a, c, hv, _⟩ := HL; exact ⟨a, c, hv⟩
  have hlen := HO.len
  have hst : LaySt base l.length P A G M (fun j => if j ≤ 0 then pl l L j else f j) L m km w := by
    have e : (fun j => if j ≤ 0 then pl l L j else f j) = f := by
      funext j
      by_cases h : j ≤ 0
      · rw [if_pos h, show j = 0 by omega, hf0]; rfl
      · rw [if_neg h]
    rw [e]; exact HS
  have H1 := Lib.hid HL; have H2 := Lib.hid HO; have H3 := Lib.hid HA; have H4 := Lib.hid HB0; have H5 := Lib.hid hst; have H7 := Lib.hid hbase
  clear HL HO HA HB0 HS hf0 hbase hst
  go_enter Try.func53, Try.ntmps53
  go_wp2_with fail
  go_loopw [8] (fun i wr => ∃ k : Nat, k ≤ l.length ∧ i = .int .i64 k ∧ LaySt base l.length P A G M (fun j => if j ≤ k then pl l L j else f j) L m km wr ∧ Below w0.heap.size w0 wr) (fun i _ => l.length - (intOf i).toNat)
  case atStart => exact ⟨0, Nat.zero_le _, rfl, H5.out, H4.out⟩
  case round =>
    obtain ⟨k, hk, rfl, hs, hb⟩ := hrel
    have HS := Lib.hid hs; have HB := Lib.hid hb
    clear hs hb
    by_cases hlt : k < l.length
    · obtain ⟨b, o, rfl, hb0, hcells⟩ := items_at H1.out k hlt
      obtain ⟨c0, c1, c2, c3, c4, c5, c6, c7⟩ := eight_cells (fun j u hj => (HB.out.cell (p := ⟨b, o + k * 8 + j, none⟩) hb0).trans (hcells j u hj))
      clear hcells
      have hsz := HB.out.size
      go_wp2_with fail
      obtain ⟨W, hW⟩ : ∃ W, wr.alloc (.cells #[.int .i64 (it l k).kind, .int .i64 (it l k).i.op, .int .i64 (it l k).i.d, .int .i64 (it l k).i.a, .int .i64 (it l k).i.b, .int .i64 (it l k).i.n, .string (it l k).name, .int .i64 (it l k).n] 26) = W := ⟨_, rfl⟩
      have hbW : Below wr.heap.size wr W := by rw [← hW]; exact (Below.refl _ _).alloc (Nat.le_refl _) _
      have hxW : W.heap[wr.heap.size]? = some (.cells #[.int .i64 (it l k).kind, .int .i64 (it l k).i.op, .int .i64 (it l k).i.d, .int .i64 (it l k).i.a, .int .i64 (it l k).i.b, .int .i64 (it l k).i.n, .string (it l k).name, .int .i64 (it l k).n] 26 (0, 0)) := by rw [← hW]; exact new_in wr _
      have hltW := lt_in hxW
      rw [hW]
      clear hW c0 c1 c2 c3 c4 c5 c6 c7
      have HW := Lib.hid (HS.out.up hbW)
      obtain ⟨z, hz⟩ : ∃ z, sizeZ (it l k) (L k) = z := ⟨_, rfl⟩
      have hzb := size_bd (H3.out k hlt) (L k)
      have hpb := pl_bd H3.out L k (by omega)
      rw [hz] at hzb
      have HC := Lib.hid (fun x : Wd W => quiet_b (x := x) (lab_size (HW.out.up x.bel) k hlt (it l k) (H2.out.num k hlt) z hz))
      unfold itV at HC
      obtain ⟨p, hp⟩ : ∃ p, pl l L k = p := ⟨_, rfl⟩
      have HPL := Lib.hid (show p + 4 * z = pl l L (k + 1) by rw [← hp, ← hz]; rfl)
      have y0 := wd_cell (lt_in HW.out.hP) (show W.cell? ⟨P, 0, none⟩ = some (.slice (some ⟨A, 0, none⟩) (l.length + 1) (l.length + 1)) from cell_in HW.out.hP rfl)
      have y1 := wd_cell (lt_in HW.out.hA) (show W.cell? ⟨A, k, none⟩ = some (.int .i64 p) from (cell_in HW.out.hA (cellsZ_get _ (by omega))).trans (by rw [if_pos (Nat.le_refl _), hp]))
      obtain ⟨x0, x1, x2, x3, x4, x5, x6, x7⟩ : (∀ x : Wd W, x.val.cell? ⟨wr.heap.size, 0, none⟩ = some (.int .i64 (it l k).kind)) ∧ (∀ x : Wd W, x.val.cell? ⟨wr.heap.size, 1, none⟩ = some (.int .i64 (it l k).i.op)) ∧ (∀ x : Wd W, x.val.cell? ⟨wr.heap.size, 2, none⟩ = some (.int .i64 (it l k).i.d)) ∧ (∀ x : Wd W, x.val.cell? ⟨wr.heap.size, 3, none⟩ = some (.int .i64 (it l k).i.a)) ∧ (∀ x : Wd W, x.val.cell? ⟨wr.heap.size, 4, none⟩ = some (.int .i64 (it l k).i.b)) ∧ (∀ x : Wd W, x.val.cell? ⟨wr.heap.size, 5, none⟩ = some (.int .i64 (it l k).i.n)) ∧ (∀ x : Wd W, x.val.cell? ⟨wr.heap.size, 6, none⟩ = some (.string (it l k).name)) ∧ (∀ x : Wd W, x.val.cell? ⟨wr.heap.size, 7, none⟩ = some (.int .i64 (it l k).n)) :=
        ⟨wd_cell hltW (cell_in hxW rfl), wd_cell hltW (cell_in hxW rfl), wd_cell hltW (cell_in hxW rfl), wd_cell hltW (cell_in hxW rfl), wd_cell hltW (cell_in hxW rfl), wd_cell hltW (cell_in hxW rfl), wd_cell hltW (cell_in hxW rfl), wd_cell hltW (cell_in hxW rfl)⟩
      have s1 : IntKind.i64.wrap ((k : Int) + 1) = k + 1 := IntWalk.i64_in _ (by omega)
      have s2 : IntKind.i64.wrap (4 * z) = 4 * z := IntWalk.i64_in _ (by omega)
      rw [hp] at hpb
      have s3 : IntKind.i64.wrap (p + 4 * z) = p + 4 * z := IntWalk.i64_in _ (by omega)
      have hW2 := Lib.hid hbW; have hxW2 := Lib.hid hxW
      clear hbW hxW hz hp
      refine wp_region_below_tail 20 (by kernel_rfl) (by kernel_rfl) ?_
      simp only [List.take_succ_cons, List.take_zero, List.drop_succ_cons, List.drop_zero]
      repeat (go_big_quiet_step ((go_at_call 68; with_reducible exact HC.out _)))
      refine wpQuiet_nil ?_
      rintro w7 ⟨⟨w7x, hb7⟩, rfl⟩
      clear x0 x1 x2 x3 x4 x5 x6 x7 y0 y1 s1 s2 s3
      have H7S := Lib.hid (HW.out.up hb7)
      have hA7 := lt_in H7S.out.hA
      have f7 : w7.frozen? ⟨A, k + 1, none⟩ = false := frozen_in H7S.out.hA _
      obtain ⟨q, hq⟩ : ∃ q, w7.cell? ⟨A, k + 1, none⟩ = some (.int .i64 q) := ⟨_, cell_in H7S.out.hA (cellsZ_get _ (by omega))⟩
      go_wp2_with fail
      refine ⟨⟨k + 1, by omega, by go_num, ?_, ?_⟩, by simp [intOf]; omega⟩
      · rw [← reck_step HPL.out]
        exact H7S.out.setA (k + 1) _
      · refine Below.setCell (bw_tr HB.out (bw_tr hW2.out hb7)) ?_ _
        rw [← H7.out]; exact H7S.out.bA
    · obtain rfl : k = l.length := by omega
      go_wp2_with fail
      go_end0
      refine ⟨rfl, ?_, HB.out⟩
      have e := HS.out
      refine ⟨e.hP, ?_, e.hG, e.hM, e.bP, e.bA, e.bG, e.bM⟩
      rw [e.hA, cellsZ_congr (fun i hi => if_pos (by omega))]
end Go.Proofs.Ytfepdieeiplbnaa
namespace Go.Proofs.Ytfepdieeiplbnaa
open Go.RowKit
set_option linter.unusedSimpArgs false
def growTo (l : List Itm) (L : Nat → Bool) (k : Nat) : Nat → Bool := fun j => if j < k then growF l L j else L j
theorem growTo_zero (l : List Itm) (L : Nat → Bool) : growTo l L 0 = L := by funext j; simp [growTo]
theorem growTo_all {l : List Itm} {L : Nat → Bool} : growTo l L l.length = growF l L := by
  funext j
  unfold growTo
  by_cases h : j < l.length
  · rw [if_pos h]
  · rw [if_neg h]; unfold growF; rw [needs_far (by omega), Bool.or_false]
theorem growTo_no {l : List Itm} {L : Nat → Bool} {k : Nat} (h : needs l L k = false) : growTo l L (k + 1) = growTo l L k := by
  funext j
  unfold growTo
  by_cases e : j = k
  · subst e; simp [growF, h]
  · by_cases h2 : j < k
    · rw [if_pos h2, if_pos (by omega)]
    · rw [if_neg h2, if_neg (by omega)]
theorem growTo_yes {l : List Itm} {L : Nat → Bool} {k : Nat} (h : needs l L k = true) : growTo l L (k + 1) = fun i => if i = k then true else growTo l L k i := by
  funext j
  unfold growTo
  by_cases e : j = k
  · subst e; simp [growF, h]
  · by_cases h2 : j < k
    · rw [if_pos (by omega), if_neg e, if_pos h2]
    · rw [if_neg (by omega), if_neg e, if_neg h2]
theorem grownB_no {l : List Itm} {L : Nat → Bool} {k : Nat} (h : needs l L k = false) : grownB l L (k + 1) = grownB l L k := by simp [grownB, h]
theorem grownB_yes {l : List Itm} {L : Nat → Bool} {k : Nat} (h : needs l L k = true) : grownB l L (k + 1) = true := by simp [grownB, h]
theorem growTo_at (l : List Itm) (L : Nat → Bool) (k : Nat) : growTo l L k k = L k := by simp [growTo]
theorem lab_lt (l : List Itm) (k : Nat) (s : ByteArray) : (mp l k s).getD 0 < k + 1 := by
  cases h : mp l k s with
  | none => simp
  | some j => have := (mp_some h).1; simp; omega
set_option maxRecDepth 100000 in
set_option maxHeartbeats 8000000 in
theorem lab_grow {base P A G M m : Nat} {L : Nat → Bool} (w0 w : World) (l : List Itm) (v : Value) (HL : ArgS 8 itC w0 v l) (HO : ItsOK l) (HA : allB l) (HB0 : Below w0.heap.size w0 w) (hbase : base = w0.heap.size)
    (HS : LaySt base l.length P A G M (pl l L) L m (mp l l.length) w) :
    Calls Try.prog 54 #[.pointer (some ⟨P, 0, none⟩), v] w fun e w' => e = .returned (.bool (grownB l L l.length)) ∧ LaySt base l.length P A G M (pl l L) (growF l L) m (mp l l.length) w' ∧ Below w0.heap.size w0 w' := by
  obtain ⟨a, c, rfl⟩ : ∃ a c, v = .slice a l.length c := by obtain ⟨a, c, hv, _⟩ := HL; exact ⟨a, c, hv⟩
  have hlen := HO.len
  have hst : LaySt base l.length P A G M (pl l L) (growTo l L 0) m (mp l l.length) w := by rw [growTo_zero]; exact HS
  have H1 := Lib.hid HL; have H2 := Lib.hid HO; have H3 := Lib.hid HA; have H4 := Lib.hid HB0; have H5 := Lib.hid hst; have H7 := Lib.hid hbase
  clear HL HO HA HB0 HS hbase hst
  go_enter Try.func54, Try.ntmps54
  go_wp2_with fail
  go_loopw [4, 10] (fun g i wr => ∃ k : Nat, k ≤ l.length ∧ i = .int .i64 k ∧ g = .bool (grownB l L k) ∧ LaySt base l.length P A G M (pl l L) (growTo l L k) m (mp l l.length) wr ∧ Below w0.heap.size w0 wr) (fun _ i _ => l.length - (intOf i).toNat)
  case atStart => exact ⟨0, Nat.zero_le _, rfl, rfl, H5.out, H4.out⟩
  case round =>
    obtain ⟨k, hk, rfl, rfl, hs, hb⟩ := hrel
    have HS := Lib.hid hs; have HB := Lib.hid hb
    clear hs hb
    obtain ⟨gr, hgr⟩ : ∃ g, grownB l L k = g := ⟨_, rfl⟩
    rw [hgr]
    have HG := Lib.hid hgr; clear hgr
    by_cases hlt : k < l.length
    · obtain ⟨b, o, rfl, hb0, hcells⟩ := items_at H1.out k hlt
      obtain ⟨c0, c1, c2, c3, c4, c5, c6, c7⟩ := eight_cells (fun j u hj => (HB.out.cell (p := ⟨b, o + k * 8 + j, none⟩) hb0).trans (hcells j u hj))
      clear hcells
      have hsz := HB.out.size
      have hnm := H2.out.name k hlt
      obtain ⟨x, hx⟩ : ∃ x, it l k = x := ⟨_, rfl⟩
      rw [hx] at c0 c1 c2 c3 c4 c5 c6 c7 hnm
      have HX := Lib.hid hx; clear hx
      obtain ⟨kd, ⟨op, d, ia, ib, nn⟩, s, N⟩ := x
      simp only at c0 c1 c2 c3 c4 c5 c6 c7 hnm
      have g1 : wr.cell? ⟨P, 1, none⟩ = some (.slice (some ⟨G, 0, none⟩) l.length l.length) := cell_in HS.out.hP rfl
      have g2 : wr.cell? ⟨G, k, none⟩ = some (.bool (L k)) := (cell_in HS.out.hG (cellsL_get _ hlt)).trans (by rw [growTo_at])
      have gf : wr.frozen? ⟨G, k, none⟩ = false := frozen_in HS.out.hG _
      have hP := lt_in HS.out.hP; have hG := lt_in HS.out.hG
      by_cases h3 : kd = 3
      case neg =>
        have HNE : Hid (needs l L k = false) := Lib.hid (by unfold needs; rw [HX.out]; simp [growK, h3])
        have q3 : (kd != 3) = true := by simpa using h3
        clear h3
        go_wp2_with fail
        refine ⟨⟨k + 1, by omega, by go_num, ?_, ?_, ?_⟩, by simp [intOf]; omega⟩
        · exact congrArg Value.bool (by rw [grownB_no HNE.out]; exact HG.out.symm)
        · rw [growTo_no HNE.out]; exact HS.out.up ((by repeat (first | (with_reducible exact Below.refl _ _) | (with_reducible refine bw_set ?_ ?_ _) | (with_reducible apply bw_alloc) | (with_reducible refine bw_tr ?_ (by with_reducible assumption)) | (with_reducible apply bw_drew) | omega)))
        · exact bw_tr HB.out ((by repeat (first | (with_reducible exact Below.refl _ _) | (with_reducible refine bw_set ?_ ?_ _) | (with_reducible apply bw_alloc) | (with_reducible refine bw_tr ?_ (by with_reducible assumption)) | (with_reducible apply bw_drew) | omega)))
      case pos =>
      subst h3
      by_cases h4 : op = 3
      case pos =>
        have HNE : Hid (needs l L k = false) := Lib.hid (by unfold needs; rw [HX.out]; simp [growK, h4])
        subst h4
        go_wp2_with fail
        refine ⟨⟨k + 1, by omega, by go_num, ?_, ?_, ?_⟩, by simp [intOf]; omega⟩
        · exact congrArg Value.bool (by rw [grownB_no HNE.out]; exact HG.out.symm)
        · rw [growTo_no HNE.out]; exact HS.out.up ((by repeat (first | (with_reducible exact Below.refl _ _) | (with_reducible refine bw_set ?_ ?_ _) | (with_reducible apply bw_alloc) | (with_reducible refine bw_tr ?_ (by with_reducible assumption)) | (with_reducible apply bw_drew) | omega)))
        · exact bw_tr HB.out ((by repeat (first | (with_reducible exact Below.refl _ _) | (with_reducible refine bw_set ?_ ?_ _) | (with_reducible apply bw_alloc) | (with_reducible refine bw_tr ?_ (by with_reducible assumption)) | (with_reducible apply bw_drew) | omega)))
      case neg =>
      have q4 : (op == 3) = false := by simpa using h4
      cases hLk : L k
      case true =>
        have HNE : Hid (needs l L k = false) := Lib.hid (by unfold needs; rw [hLk]; simp)
        rw [hLk] at g2
        clear h4 hLk
        go_wp2_with fail
        refine ⟨⟨k + 1, by omega, by go_num, ?_, ?_, ?_⟩, by simp [intOf]; omega⟩
        · exact congrArg Value.bool (by rw [grownB_no HNE.out]; exact HG.out.symm)
        · rw [growTo_no HNE.out]; exact HS.out.up ((by repeat (first | (with_reducible exact Below.refl _ _) | (with_reducible refine bw_set ?_ ?_ _) | (with_reducible apply bw_alloc) | (with_reducible refine bw_tr ?_ (by with_reducible assumption)) | (with_reducible apply bw_drew) | omega)))
        · exact bw_tr HB.out ((by repeat (first | (with_reducible exact Below.refl _ _) | (with_reducible refine bw_set ?_ ?_ _) | (with_reducible apply bw_alloc) | (with_reducible refine bw_tr ?_ (by with_reducible assumption)) | (with_reducible apply bw_drew) | omega)))
      case false =>
      rw [hLk] at g2
      have HD := lab_distance (HS.out.up ((Below.refl wr.heap.size wr).alloc (Nat.le_refl _) (.cells #[.int .i64 3, .int .i64 op, .int .i64 d, .int .i64 ia, .int .i64 ib, .int .i64 nn, .string s, .int .i64 N] 26))) k hlt ⟨3, ⟨op, d, ia, ib, nn⟩, s, N⟩ hnm (lab_lt l l.length s) (fun j hj => by have := pl_bd H3.out L j (by omega); omega)
      unfold itV at HD
      simp only at HD
      obtain ⟨z, hz⟩ : ∃ z, pl l L ((mp l l.length s).getD 0) - pl l L k = z := ⟨_, rfl⟩
      rw [hz] at HD
      have HDC := Lib.hid HD; clear HD
      have HN : Hid (needs l L k = farB z) := Lib.hid (by unfold needs dst; rw [HX.out, hLk, ← hz]; simp [growK, h4]; rfl)
      clear h4 hLk hz
      cases hf1 : decide (z < -4096)
      case true =>
        have HY : Hid (needs l L k = true) := Lib.hid (by rw [HN.out]; unfold farB; rw [hf1]; rfl)
        go_wp2_with (go_at_call 69; ((with_reducible refine HDC.out.mono ?_); rintro e w1 ⟨rfl, hb1⟩; obtain ⟨j1, j2⟩ := bcell hb1; have z1 : wr.heap.size < w1.heap.size := by (have := hb1.size; simp at this; omega)))
        have HW1 := Lib.hid (HS.out.up (w' := w1) ((by repeat (first | (with_reducible exact Below.refl _ _) | (with_reducible refine bw_set ?_ ?_ _) | (with_reducible apply bw_alloc) | (with_reducible refine bw_tr ?_ (by with_reducible assumption)) | (with_reducible apply bw_drew) | omega))))
        refine ⟨⟨k + 1, by omega, by go_num, ?_, ?_, ?_⟩, by simp [intOf]; omega⟩
        · exact congrArg Value.bool (grownB_yes HY.out).symm
        · rw [growTo_yes HY.out]; exact HW1.out.setG k true
        · refine Below.setCell (bw_tr (c := w1) HB.out ((by repeat (first | (with_reducible exact Below.refl _ _) | (with_reducible refine bw_set ?_ ?_ _) | (with_reducible apply bw_alloc) | (with_reducible refine bw_tr ?_ (by with_reducible assumption)) | (with_reducible apply bw_drew) | omega)))) ?_ _
          rw [← H7.out]; exact HW1.out.bG
      case false =>
      cases hf2 : decide (4094 < z)
      case true =>
        have HY : Hid (needs l L k = true) := Lib.hid (by rw [HN.out]; unfold farB; rw [hf1, hf2]; rfl)
        go_wp2_with (go_at_call 69; ((with_reducible refine HDC.out.mono ?_); rintro e w1 ⟨rfl, hb1⟩; obtain ⟨j1, j2⟩ := bcell hb1; have z1 : wr.heap.size < w1.heap.size := by (have := hb1.size; simp at this; omega)))
        have HW1 := Lib.hid (HS.out.up (w' := w1) ((by repeat (first | (with_reducible exact Below.refl _ _) | (with_reducible refine bw_set ?_ ?_ _) | (with_reducible apply bw_alloc) | (with_reducible refine bw_tr ?_ (by with_reducible assumption)) | (with_reducible apply bw_drew) | omega))))
        refine ⟨⟨k + 1, by omega, by go_num, ?_, ?_, ?_⟩, by simp [intOf]; omega⟩
        · exact congrArg Value.bool (grownB_yes HY.out).symm
        · rw [growTo_yes HY.out]; exact HW1.out.setG k true
        · refine Below.setCell (bw_tr (c := w1) HB.out ((by repeat (first | (with_reducible exact Below.refl _ _) | (with_reducible refine bw_set ?_ ?_ _) | (with_reducible apply bw_alloc) | (with_reducible refine bw_tr ?_ (by with_reducible assumption)) | (with_reducible apply bw_drew) | omega)))) ?_ _
          rw [← H7.out]; exact HW1.out.bG
      case false =>
        have HNE : Hid (needs l L k = false) := Lib.hid (by rw [HN.out]; unfold farB; rw [hf1, hf2]; rfl)
        go_wp2_with (go_at_call 69; ((with_reducible refine HDC.out.mono ?_); rintro e w1 ⟨rfl, hb1⟩; obtain ⟨j1, j2⟩ := bcell hb1; have z1 : wr.heap.size < w1.heap.size := by (have := hb1.size; simp at this; omega)))
        refine ⟨⟨k + 1, by omega, by go_num, ?_, ?_, ?_⟩, by simp [intOf]; omega⟩
        · exact congrArg Value.bool (by rw [grownB_no HNE.out]; exact HG.out.symm)
        · rw [growTo_no HNE.out]; exact HS.out.up ((by repeat (first | (with_reducible exact Below.refl _ _) | (with_reducible refine bw_set ?_ ?_ _) | (with_reducible apply bw_alloc) | (with_reducible refine bw_tr ?_ (by with_reducible assumption)) | (with_reducible apply bw_drew) | omega)))
        · exact bw_tr HB.out ((by repeat (first | (with_reducible exact Below.refl _ _) | (with_reducible refine bw_set ?_ ?_ _) | (with_reducible apply bw_alloc) | (with_reducible refine bw_tr ?_ (by with_reducible assumption)) | (with_reducible apply bw_drew) | omega)))
    · obtain rfl : k = l.length := by omega
      go_wp2_with fail
      go_ret
      refine ⟨ret1b HG.out.symm, ?_, HB.out⟩
      rw [← growTo_all]; exact HS.out
end Go.Proofs.Ytfepdieeiplbnaa
namespace Go.Proofs.Ytfepdieeiplbnaa
open Go.RowKit
set_option linter.unusedSimpArgs false
theorem okL_no {l : List Itm} {k : Nat} (h : ¬ (it l k).kind = 2) : okL l (k + 1) = okL l k := by simp [okL, h]
theorem okL_yes {l : List Itm} {k : Nat} (h : (it l k).kind = 2) : okL l (k + 1) = (okL l k && !(mp l k (it l k).name).isSome) := by simp [okL, h]
theorem nmL_no {l : List Itm} {k : Nat} (h : ¬ (it l k).kind = 3) : nmL l (k + 1) = nmL l k := by simp [nmL, h]
theorem nmL_yes {l : List Itm} {k : Nat} (h : (it l k).kind = 3) : nmL l (k + 1) = (nmL l k && (labI l (it l k).name).isSome) := by
  simp [nmL, h]
theorem grown_bel9 {w0 w w1 : World} {b : Nat} (h : Below w0.heap.size w0 w) (hg : w.grownBy w1 (some b)) (hb : w0.heap.size ≤ b) : Below w0.heap.size w0 w1 := h.grown hg h.size (fun k hk => by injection hk with hk; omega)
theorem LaySt.mono {base n P A G M m m' : Nat} {f : Nat → Int} {L : Nat → Bool} {km : ByteArray → Option Nat} {w : World} (h : LaySt base n P A G M f L m km w) (hm : m ≤ m') : LaySt base n P A G M f L m' km w :=
  ⟨h.hP, h.hA, h.hG, h.hM.mono hm, h.bP, h.bA, h.bG, h.bM⟩
set_option maxRecDepth 100000 in
set_option maxHeartbeats 8000000 in
theorem lab_known {base P A G M : Nat} {f : Nat → Int} {L : Nat → Bool} (w0 w : World) (l : List Itm) (v : Value) (HL : ArgS 8 itC w0 v l) (HO : ItsOK l) (HB0 : Below w0.heap.size w0 w) (hbase : base = w0.heap.size)
    (HS : LaySt base l.length P A G M f L 0 (fun _ => none) w) :
    Calls Try.prog 52 #[.pointer (some ⟨P, 0, none⟩), v] w fun e w' => e = .returned (.bool (knownB l)) ∧ LaySt base l.length P A G M f L l.length (mp l l.length) w' ∧ Below w0.heap.size w0 w' := by
  obtain ⟨a, c, rfl⟩ : ∃ a c, v = .slice a l.length c := by obtain ⟨a, c, hv, _⟩ := HL; exact ⟨a, c, hv⟩
  have hlen := HO.len
  have H1 := Lib.hid HL; have H2 := Lib.hid HO; have H4 := Lib.hid HB0; have H5 := Lib.hid HS; have H7 := Lib.hid hbase
  clear HL HO HB0 HS hbase
  go_enter Try.func52, Try.ntmps52
  go_wp2_with fail
  go_loopw [5, 16] (fun g i wr => ∃ k : Nat, k ≤ l.length ∧ i = .int .i64 k ∧ g = .bool (okL l k) ∧ LaySt base l.length P A G M f L k (mp l k) wr ∧ Below w0.heap.size w0 wr) (fun _ i _ => l.length - (intOf i).toNat)
  case atStart => exact ⟨0, Nat.zero_le _, rfl, rfl, H5.out, H4.out⟩
  case round =>
    obtain ⟨k, hk, rfl, rfl, hs, hb⟩ := hrel
    have HS := Lib.hid hs; have HB := Lib.hid hb
    clear hs hb
    obtain ⟨gr, hgr⟩ : ∃ g, okL l k = g := ⟨_, rfl⟩
    rw [hgr]
    have HG := Lib.hid hgr; clear hgr
    by_cases hlt : k < l.length
    · skip
      have hlt' := hlt
      obtain ⟨b, o, rfl, hb0, hcells⟩ := items_at H1.out k hlt
      obtain ⟨c0, c1, c2, c3, c4, c5, c6, c7⟩ := eight_cells (fun j u hj => (HB.out.cell (p := ⟨b, o + k * 8 + j, none⟩) hb0).trans (hcells j u hj))
      clear hcells
      have hsz := HB.out.size
      have hnm := H2.out.name k hlt
      obtain ⟨x, hx⟩ : ∃ x, it l k = x := ⟨_, rfl⟩
      rw [hx] at c0 c1 c2 c3 c4 c5 c6 c7 hnm
      have HX := Lib.hid hx; clear hx
      obtain ⟨kd, ⟨op, d, ia, ib, nn⟩, s, N⟩ := x
      simp only at c0 c1 c2 c3 c4 c5 c6 c7 hnm
      have HNM := Lib.hid hnm; clear hnm
      by_cases h3 : kd = 2
      case neg =>
        have h3' : ¬ (it l k).kind = 2 := by rw [HX.out]; exact h3
        have H3' := Lib.hid h3'
        have q3 : (kd == 2) = false := by simpa using h3
        clear h3 h3'
        go_wp2_with fail
        refine ⟨⟨k + 1, by omega, by go_num, ?_, ?_, ?_⟩, by simp [intOf]; omega⟩
        · exact congrArg Value.bool (by rw [okL_no H3'.out]; exact HG.out.symm)
        · rw [mp_same l k H3'.out]; exact (HS.out.up ((by repeat (first | (with_reducible exact Below.refl _ _) | (with_reducible refine bw_set ?_ ?_ _) | (with_reducible apply bw_alloc) | (with_reducible refine bw_tr ?_ (by with_reducible assumption)) | (with_reducible apply bw_drew) | omega)))).mono (by omega)
        · exact bw_tr HB.out ((by repeat (first | (with_reducible exact Below.refl _ _) | (with_reducible refine bw_set ?_ ?_ _) | (with_reducible apply bw_alloc) | (with_reducible refine bw_tr ?_ (by with_reducible assumption)) | (with_reducible apply bw_drew) | omega)))
      case pos =>
        subst h3
        have H3' := Lib.hid (show (it l k).kind = 2 by rw [HX.out])
        have HN' := Lib.hid (show (it l k).name = s by rw [HX.out])
        go_wp2_with fail
        clear c0 c1 c2 c3 c4 c5 c6 c7
        have hbW := (Below.refl wr.heap.size wr).alloc (Nat.le_refl _) (.cells #[.int .i64 2, .int .i64 op, .int .i64 d, .int .i64 ia, .int .i64 ib, .int .i64 nn, .string s, .int .i64 N] 26)
        have hxW := new_in wr (.cells #[.int .i64 2, .int .i64 op, .int .i64 d, .int .i64 ia, .int .i64 ib, .int .i64 nn, .string s, .int .i64 N] 26)
        generalize wr.alloc (.cells #[.int .i64 2, .int .i64 op, .int .i64 d, .int .i64 ia, .int .i64 ib, .int .i64 nn, .string s, .int .i64 N] 26) = W at *
        have HbW := Lib.hid hbW; have HxW := Lib.hid hxW; clear hbW hxW
        have HW := Lib.hid (HS.out.up HbW.out)
        have y0 := wd_cell (lt_in HW.out.hP) (show W.cell? ⟨P, 2, none⟩ = some (.map (some M)) from cell_in HW.out.hP rfl)
        have y1 := wd_cell (lt_in HxW.out) (show W.cell? ⟨wr.heap.size, 2 + 4, none⟩ = some (.string s) from cell_in HxW.out rfl)
        simp only [Nat.reduceAdd] at y1
        have y2 : ∀ x : Wd W, (Instr.lookup 59 (.map (some M)) (.string s) true).run Try.prog x.val = .ok (.tuple #[.int .i64 (((mp l k s).getD 0 : Nat) : Int), .bool (mp l k s).isSome]) x.val := fun x => (HW.out.hM.below x.bel HW.out.hM.lt).look_ok s HNM.out
        obtain ⟨q, hq⟩ : ∃ q : Int, (((mp l k s).getD 0 : Nat) : Int) = q := ⟨_, rfl⟩
        obtain ⟨hd, hhd⟩ : ∃ z, (mp l k s).isSome = z := ⟨_, rfl⟩
        simp only [hq, hhd] at y2
        have HHD := Lib.hid hhd
        clear hq hhd
        refine wp_region_below (by kernel_rfl) (by kernel_rfl) ?_
        repeat (go_big_quiet_step (fail))
        refine wpQuiet_nil ?_
        rintro w7 ⟨⟨w7x, hb7⟩, rfl⟩
        clear y0 y1 y2
        have HB7 := Lib.hid hb7; clear hb7
        have H7S := Lib.hid (HW.out.up HB7.out)
        have HOK : Hid (okL l (k + 1) = (gr && !hd)) := Lib.hid (by rw [okL_yes H3'.out, HN'.out, HG.out, HHD.out])
        cases gr <;> cases hd
        all_goals
          go_wp2_with fail
          have y0 := wd_cell (lt_in H7S.out.hP) (show w7.cell? ⟨P, 2, none⟩ = some (.map (some M)) from cell_in H7S.out.hP rfl)
          have y1 := wd_cell (lt_in (bel_in HB7.out (lt_in HxW.out) HxW.out)) (show w7.cell? ⟨wr.heap.size, 6, none⟩ = some (.string s) from cell_in (bel_in HB7.out (lt_in HxW.out) HxW.out) rfl)
          refine wp_region_below_tail 7 (by kernel_rfl) (by kernel_rfl) ?_
          simp only [List.take_succ_cons, List.take_zero, List.drop_succ_cons, List.drop_zero]
          repeat (go_big_quiet_step (fail))
          refine wpQuiet_nil ?_
          rintro w8 ⟨⟨w8x, hb8⟩, rfl⟩
          clear y0 y1
          have HB8 := Lib.hid hb8; clear hb8
          have H8S := Lib.hid (H7S.out.up HB8.out)
          obtain ⟨w9, hrun, hk9, hg9⟩ := H8S.out.hM.update s HNM.out (show k < maxLen by unfold maxLen; omega) k (by omega)
          have HK9 := Lib.hid hk9; have HG9 := Lib.hid hg9
          clear hk9 hg9
          go_wp2_with fail
          refine ⟨⟨k + 1, by omega, by go_num, ?_, ?_, ?_⟩, by simp [intOf]; omega⟩
          · exact congrArg Value.bool (by rw [HOK.out]; rfl)
          · refine H8S.out.setM HG9.out ?_
            rw [mp_succ l k H3'.out, HN'.out]; exact HK9.out
          · refine grown_bel9 (bw_tr HB.out (bw_tr HbW.out (bw_tr HB7.out HB8.out))) HG9.out ?_
            rw [← H7.out]; exact H8S.out.bM
    · obtain rfl : k = l.length := by omega
      go_wp2_with fail
      obtain ⟨wo, hwo⟩ : ∃ x, wr = x := ⟨_, rfl⟩
      subst hwo
      have HS0 := HS; have HB00 := HB
      have HGB := HG
      clear HS HB hlt HG hk
      go_loopw [5, 49] (fun g i ws => ∃ k : Nat, k ≤ l.length ∧ i = .int .i64 k ∧ g = .bool (gr && nmL l k) ∧ LaySt base l.length P A G M f L l.length (mp l l.length) ws ∧ Below w0.heap.size w0 ws) (fun _ i _ => l.length - (intOf i).toNat)
      case atStart => exact ⟨0, Nat.zero_le _, rfl, by simp [nmL], HS0.out, HB00.out⟩
      case round =>
      obtain ⟨k, hk, rfl, rfl, hs, hb⟩ := hrel
      have HS := Lib.hid hs; have HB := Lib.hid hb
      clear hs hb
      obtain ⟨gn, hgn⟩ : ∃ g, nmL l k = g := ⟨_, rfl⟩
      rw [hgn]
      have HG := Lib.hid hgn; clear hgn
      by_cases hlt : k < l.length
      case neg =>
        obtain rfl : k = l.length := by omega
        go_wp2_with fail
        go_ret
        refine ⟨ret1b ?_, HS.out, HB.out⟩
        unfold knownB; rw [HGB.out, HG.out]
      case pos =>
      skip
      obtain ⟨b, o, rfl, hb0, hcells⟩ := items_at H1.out k hlt
      obtain ⟨c0, c1, c2, c3, c4, c5, c6, c7⟩ := eight_cells (fun j u hj => (HB.out.cell (p := ⟨b, o + k * 8 + j, none⟩) hb0).trans (hcells j u hj))
      clear hcells
      have hsz := HB.out.size
      have hnm := H2.out.name k hlt
      obtain ⟨x, hx⟩ : ∃ x, it l k = x := ⟨_, rfl⟩
      rw [hx] at c0 c1 c2 c3 c4 c5 c6 c7 hnm
      have HX := Lib.hid hx; clear hx
      obtain ⟨kd, ⟨op, d, ia, ib, nn⟩, s, N⟩ := x
      simp only at c0 c1 c2 c3 c4 c5 c6 c7 hnm
      have HNM := Lib.hid hnm; clear hnm
      by_cases h3 : kd = 3
      case neg =>
        have h3' : ¬ (it l k).kind = 3 := by rw [HX.out]; exact h3
        have H3' := Lib.hid h3'
        have q3 : (kd == 3) = false := by simpa using h3
        clear h3 h3'
        go_wp2_with fail
        refine ⟨⟨k + 1, by omega, by go_num, ?_, ?_, ?_⟩, by simp [intOf]; omega⟩
        · exact congrArg Value.bool (by rw [nmL_no H3'.out, HG.out])
        · exact HS.out.up ((by repeat (first | (with_reducible exact Below.refl _ _) | (with_reducible refine bw_set ?_ ?_ _) | (with_reducible apply bw_alloc) | (with_reducible refine bw_tr ?_ (by with_reducible assumption)) | (with_reducible apply bw_drew) | omega)))
        · exact bw_tr HB.out ((by repeat (first | (with_reducible exact Below.refl _ _) | (with_reducible refine bw_set ?_ ?_ _) | (with_reducible apply bw_alloc) | (with_reducible refine bw_tr ?_ (by with_reducible assumption)) | (with_reducible apply bw_drew) | omega)))
      case pos =>
        subst h3
        have H3' := Lib.hid (show (it l k).kind = 3 by rw [HX.out])
        have HN' := Lib.hid (show (it l k).name = s by rw [HX.out])
        go_wp2_with fail
        clear c0 c1 c2 c3 c4 c5 c6 c7
        have hbW := (Below.refl wr.heap.size wr).alloc (Nat.le_refl _) (.cells #[.int .i64 3, .int .i64 op, .int .i64 d, .int .i64 ia, .int .i64 ib, .int .i64 nn, .string s, .int .i64 N] 26)
        have hxW := new_in wr (.cells #[.int .i64 3, .int .i64 op, .int .i64 d, .int .i64 ia, .int .i64 ib, .int .i64 nn, .string s, .int .i64 N] 26)
        generalize wr.alloc (.cells #[.int .i64 3, .int .i64 op, .int .i64 d, .int .i64 ia, .int .i64 ib, .int .i64 nn, .string s, .int .i64 N] 26) = W at *
        have HbW := Lib.hid hbW; have HxW := Lib.hid hxW; clear hbW hxW
        have HW := Lib.hid (HS.out.up HbW.out)
        have y0 := wd_cell (lt_in HW.out.hP) (show W.cell? ⟨P, 2, none⟩ = some (.map (some M)) from cell_in HW.out.hP rfl)
        have y1 := wd_cell (lt_in HxW.out) (show W.cell? ⟨wr.heap.size, 2 + 4, none⟩ = some (.string s) from cell_in HxW.out rfl)
        simp only [Nat.reduceAdd] at y1
        have y2 : ∀ x : Wd W, (Instr.lookup 59 (.map (some M)) (.string s) true).run Try.prog x.val = .ok (.tuple #[.int .i64 (((mp l l.length s).getD 0 : Nat) : Int), .bool (mp l l.length s).isSome]) x.val := fun x => (HW.out.hM.below x.bel HW.out.hM.lt).look_ok s HNM.out
        obtain ⟨q, hq⟩ : ∃ q : Int, (((mp l l.length s).getD 0 : Nat) : Int) = q := ⟨_, rfl⟩
        obtain ⟨hd, hhd⟩ : ∃ z, (mp l l.length s).isSome = z := ⟨_, rfl⟩
        simp only [hq, hhd] at y2
        have HHD := Lib.hid hhd
        clear hq hhd
        refine wp_region_below (by kernel_rfl) (by kernel_rfl) ?_
        repeat (go_big_quiet_step (fail))
        refine wpQuiet_nil ?_
        rintro w7 ⟨⟨w7x, hb7⟩, rfl⟩
        clear y0 y1 y2
        have HB7 := Lib.hid hb7; clear hb7
        have H7S := Lib.hid (HW.out.up HB7.out)
        have HOK : Hid (nmL l (k + 1) = (gn && hd)) := Lib.hid (by rw [nmL_yes H3'.out, HN'.out, HG.out]; unfold labI; rw [HHD.out])
        cases gr <;> cases gn <;> cases hd
        all_goals
          go_wp2_with fail
          refine ⟨⟨k + 1, by omega, by go_num, ?_, ?_, ?_⟩, by simp [intOf]; omega⟩
          · exact congrArg Value.bool (by rw [HOK.out]; rfl)
          · exact H7S.out
          · exact bw_tr HB.out (bw_tr HbW.out HB7.out)
end Go.Proofs.Ytfepdieeiplbnaa
