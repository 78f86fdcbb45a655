/-
  headstocklaw03.awake: chapter 3's examples.
-/
import Derived.Test.YtfepdieeiplbnaaLabE
import Derived.Test.YtfepdieeiplbnaaLabRight
namespace Go.Proofs.Ytfepdieeiplbnaa
open Go.RowKit
set_option linter.unusedSimpArgs false
def itemsA (l : List Itm) : Array Value := (l.flatMap itC).toArray
theorem items_get (l : List Itm) (k : Nat) (hk : k < l.length) (j : Nat) (u : Value) (hj : (itC (it l k))[j]? = some u) : (itemsA l)[k * 8 + j]? = some u := by
  unfold itemsA
  rw [List.getElem?_toArray]
  rw [it_at hk] at hj
  induction l generalizing k with
  | nil => simp at hk
  | cons x xs ih =>
    have hj8 : j < 8 := by have := (List.getElem?_eq_some_iff.1 hj).1; simpa [itC] using this
    rw [List.flatMap_cons]
    cases k with
    | zero => rw [List.getElem?_append_left (by simp [itC]; omega)]; simpa using hj
    | succ k =>
      rw [List.getElem?_append_right (by simp [itC]; omega)]
      have := ih k (by simpa using hk) (by simpa using hj)
      rw [← this]
      congr 1
      simp [itC]; omega
/-- A new slice of items, or its beginning. -/
theorem args_new {w : World} {b : Nat} {l : List Itm} (h : w.heap[b]? = some (.cells (itemsA l) 26 (0, 0))) (k c : Nat) (hk : k ≤ l.length) (hc : l.length ≤ c) (hm : c ≤ maxLen) : ArgS 8 itC w (.slice (some ⟨b, 0, none⟩) k c) (l.take k) := by
  have hlen : (l.take k).length = k := by simp; omega
  refine ⟨_, _, by rw [hlen], by rw [hlen]; omega, hm, ?_⟩
  right
  refine ⟨b, 0, rfl, lt_in h, fun i r hi j u hj => ?_⟩
  have hi' : i < k := by have := (List.getElem?_eq_some_iff.1 hi).1; rwa [hlen] at this
  have hr : it l i = r := by
    rw [it_at (by omega)]
    rw [List.getElem?_take_of_lt hi', List.getElem?_eq_getElem (by omega)] at hi
    injection hi
  rw [Nat.zero_add]
  exact cell_in h (items_get l i (by omega) j u (by rw [hr]; exact hj))
def l5 : List Itm := [⟨2, noI, ⟨#[97]⟩, 0⟩, ⟨3, ⟨5, 0, 0, 0, 0⟩, ⟨#[97]⟩, 0⟩, ⟨3, ⟨3, 0, 0, 0, 0⟩, ⟨#[98]⟩, 0⟩, ⟨5, noI, ⟨#[]⟩, 2⟩, ⟨2, noI, ⟨#[98]⟩, 0⟩]
theorem long5 : longF l5 = fun _ => false := by
  have : grownB l5 (itL l5 0) l5.length = false := by decide +kernel
  rw [long_of (growF_same this)]; rfl
theorem all5 : allB l5 := by
  have : ∀ i : Fin 5, itemB (it l5 i.val) = true := by decide +kernel
  intro i hi
  exact this ⟨i, hi⟩
theorem names5 : NamesOK l5 := by
  have h1 : ∀ i : Fin 5, (it l5 i.val).name.size ≤ 40 := by decide +kernel
  have h2 : ∀ i : Fin 5, 0 ≤ (it l5 i.val).n ∧ (it l5 i.val).n ≤ 40 := by decide +kernel
  refine ⟨fun i hi => Nat.le_trans (h1 ⟨i, hi⟩) (by decide), fun i hi => ?_⟩
  have := h2 ⟨i, hi⟩
  simp only at this
  exact ⟨by omega, by omega⟩
theorem err5 : errOf l5 = 0 := err_ok (by decide) all5 (by decide +kernel) (by rw [long5]; decide +kernel)
theorem words5 : wordsOf l5 = [99, 12583023, 19, 19] := by unfold wordsOf; rw [long5]; decide +kernel
theorem pl5 : pl l5 (longF l5) 5 = 16 := by rw [long5]; decide +kernel
theorem find5b : findZ l5 ⟨#[98]⟩ = 16 := by
  unfold findZ
  rw [if_pos err5, long5]
  have : labI l5 ⟨#[98]⟩ = some 4 := by decide +kernel
  rw [this]
  decide +kernel
theorem find5c : findZ l5 ⟨#[99]⟩ = -1 := by
  unfold findZ
  rw [if_pos err5]
  have : labI l5 ⟨#[99]⟩ = none := by decide +kernel
  rw [this]
theorem err3 : errOf (l5.take 3) = 30 := by
  refine err_target (by decide) ?_ (by decide +kernel)
  have : ∀ i : Fin 3, itemB (it (l5.take 3) i.val) = true := by decide +kernel
  intro i hi
  exact this ⟨i, hi⟩
theorem names_take {l : List Itm} (h : NamesOK l) (k : Nat) : NamesOK (l.take k) := by
  have e : ∀ i, i < (l.take k).length → it (l.take k) i = it l i := fun i hi => by
    have hk : i < k := by have := List.length_take_le k l; omega
    have hl : i < l.length := by have := List.length_take_le' k l; omega
    rw [it_at hi, it_at hl, List.getElem_take]
  have hl : ∀ i, i < (l.take k).length → i < l.length := fun i hi => by have := List.length_take_le' k l; omega
  exact ⟨fun i hi => by rw [e i hi]; exact h.name i (hl i hi), fun i hi => by rw [e i hi]; exact h.num i (hl i hi)⟩
/-- The row that Assemble tells, as cells. -/
theorem row_cells {w : World} {base e n : Nat} {v : Value} {xs : List Value} (h : w.ownsRow base e 1 v n xs) (hn : 0 < n) : ∃ g c, v = .slice (some ⟨g, 0, none⟩) n c ∧ g < w.heap.size ∧ base ≤ g ∧ ∀ j u, xs[j]? = some u → w.cell? ⟨g, j, none⟩ = some u := by
  rcases h.2 with ⟨_, h0⟩ | ⟨g, cap, cur, rfl, hb, hg, _, _, hs, ht⟩
  · omega
  · refine ⟨g, cap, rfl, lt_in hg, hb, fun j u hj => ?_⟩
    have hj' : j < n * 1 := by have := (List.getElem?_eq_some_iff.1 hj).1; rw [h.1] at this; exact this
    have := h.cellAt (j := j) hj'
    rw [this, hj]
set_option maxRecDepth 100000 in
set_option maxHeartbeats 8000000 in
theorem awake03 (w : World) : Calls Try.prog 11 #[] w fun e w' => e = .returned (.bool true) ∧ Below w.heap.size w w' := by
  obtain ⟨W, hW⟩ : ∃ W, w.alloc (.cells (itemsA l5) 26) = W := ⟨_, rfl⟩
  have hx : W.heap[w.heap.size]? = some (.cells (itemsA l5) 26 (0, 0)) := by rw [← hW]; exact new_in w _
  have hbW : Below w.heap.size w W := by rw [← hW]; exact bel_new w _
  have hlt := lt_in hx
  have A5 : ArgS 8 itC W (.slice (some ⟨w.heap.size, 0, none⟩) 5 5) l5 := args_new hx 5 5 (by decide) (by decide) (by decide)
  have A3 : ArgS 8 itC W (.slice (some ⟨w.heap.size, 0, none⟩) 3 5) (l5.take 3) := args_new hx 3 5 (by decide) (by decide) (by decide)
  have HA := Lib.hid (fun (w' : World) (hb : Below W.heap.size W w') => assemble_yes w' l5 _ (A5.below hb) names5 err5)
  have HP := Lib.hid (fun (w' : World) (hb : Below W.heap.size W w') => places_yes w' l5 _ (A5.below hb) names5 err5)
  have HN := Lib.hid (fun (w' : World) (hb : Below W.heap.size W w') => assemble_no w' (l5.take 3) _ (A3.below hb) (names_take names5 3) 30 err3 (by decide))
  have HF := Lib.hid (fun (w' : World) (hb : Below W.heap.size W w') => find_any w' l5 _ ⟨#[98]⟩ (A5.below hb) names5 (by decide) 16 find5b)
  have HG := Lib.hid (fun (w' : World) (hb : Below W.heap.size W w') => find_any w' l5 _ ⟨#[99]⟩ (A5.below hb) names5 (by decide) (-1) find5c)
  have HR := Lib.hid (fun (w' : World) => right_item ⟨2, noI, ⟨#[97]⟩, 0⟩ true w' (by decide) ⟨by decide, by decide⟩ (by decide +kernel))
  have HL := Lib.hid (fun (w' : World) => number_len 5 1048576 w' ⟨by decide, by decide⟩)
  rw [words5] at HA
  rw [show (labL 5 1048576).length = 2 by decide +kernel] at HL
  rw [show l5.length = 5 from rfl] at HP
  unfold itV noI at HR
  simp only at HR
  have HX := Lib.hid hx
  clear A5 A3 hx
  go_enter Try.func11, Try.ntmps11
  go_upto_region 2 with (fail)
  rw [show (#[Value.int .i64 2, .int .i64 0, .int .i64 0, .int .i64 0, .int .i64 0, .int .i64 0, .string ⟨#[97]⟩, .int .i64 0, .int .i64 3, .int .i64 5, .int .i64 0, .int .i64 0, .int .i64 0, .int .i64 0, .string ⟨#[97]⟩, .int .i64 0, .int .i64 3, .int .i64 3, .int .i64 0, .int .i64 0, .int .i64 0, .int .i64 0, .string ⟨#[98]⟩, .int .i64 0, .int .i64 5, .int .i64 0, .int .i64 0, .int .i64 0, .int .i64 0, .int .i64 0, .string ⟨#[]⟩, .int .i64 2, .int .i64 2, .int .i64 0, .int .i64 0, .int .i64 0, .int .i64 0, .int .i64 0, .string ⟨#[98]⟩, .int .i64 0] : Array Value) = itemsA l5 by rfl, hW]
  clear hW
  go_wp2_with fail
  with_reducible refine (HA.out _ (Below.refl _ _)).mono ?_
  rintro e w1 ⟨v1, rfl, ho1, hb1⟩
  obtain ⟨g, c, rfl, hg, _, hc⟩ := row_cells ho1 (by decide)
  have r0 := hc 0 (.int .i64 99) rfl
  have r1 := hc 1 (.int .i64 12583023) rfl
  have B1 := Lib.hid hb1
  clear ho1 hc
  go_wp2_with fail
  with_reducible refine (HP.out _ B1.out).mono ?_
  rintro e w2 ⟨A, rfl, ha2, _, hb2⟩
  have r0' := (hb2.cell (p := ⟨g, 0, none⟩) hg).trans r0
  have r1' := (hb2.cell (p := ⟨g, 1, none⟩) hg).trans r1
  have hg2 : g < w2.heap.size := Nat.lt_of_lt_of_le hg hb2.size
  have ha5 : w2.cell? ⟨A, 5, none⟩ = some (.int .i64 16) := (cell_in ha2 (cellsZ_get _ (by decide))).trans (by rw [pl5])
  have hA2 := lt_in ha2
  have B2 := Lib.hid (bw_tr B1.out hb2)
  clear r0 r1 ha2 hb1 hb2
  go_wp2_with fail
  with_reducible refine (HN.out _ B2.out).mono ?_
  rintro e w3 ⟨rfl, hb3⟩
  have q0 := (hb3.cell (p := ⟨g, 0, none⟩) hg2).trans r0'
  have q1 := (hb3.cell (p := ⟨g, 1, none⟩) hg2).trans r1'
  have q5 := (hb3.cell (p := ⟨A, 5, none⟩) hA2).trans ha5
  have B3 := Lib.hid (bw_tr B2.out hb3)
  clear r0' r1' ha5 hb3
  simp only [List.append_eq, List.cons_append, List.nil_append] at *
  go_wp2_with fail
  with_reducible refine (HF.out _ B3.out).mono ?_
  rintro e w4 ⟨rfl, hb4⟩
  have B4 := Lib.hid (bw_tr B3.out hb4)
  clear hb4 q0 q1 q5
  go_wp2_with fail
  with_reducible refine (HG.out _ B4.out).mono ?_
  rintro e w5 ⟨rfl, hb5⟩
  have B5 := Lib.hid (bw_tr B4.out hb5)
  clear hb5
  have hx5 := bel_in B5.out hlt HX.out
  obtain ⟨c0, c1, c2, c3, c4, c5, c6, c7⟩ := eight_cells (w := w5) (b := w.heap.size) (o := 0) (x := it l5 0) (fun j u hj => by
    rw [Nat.zero_add]; exact cell_in hx5 (by have := items_get l5 0 (by decide) j u hj; simpa using this))
  simp only [Nat.zero_add, show (it l5 0).kind = 2 from rfl, show (it l5 0).i.op = 0 from rfl, show (it l5 0).i.d = 0 from rfl, show (it l5 0).i.a = 0 from rfl, show (it l5 0).i.b = 0 from rfl, show (it l5 0).i.n = 0 from rfl, show (it l5 0).name = ⟨#[97]⟩ from rfl, show (it l5 0).n = 0 from rfl] at c0 c1 c2 c3 c4 c5 c6 c7
  clear hx5
  go_wp2_with fail
  with_reducible refine (HR.out _).mono ?_
  rintro e w6 ⟨rfl, hb6⟩
  go_wp2_with fail
  with_reducible refine (HL.out _).mono ?_
  rintro e w7 ⟨a7, c7', rfl, hb7⟩
  go_wp2_with fail
  go_ret
  exact ⟨rfl, bw_tr hbW (bw_tr B5.out (bw_tr hb6 hb7))⟩
end Go.Proofs.Ytfepdieeiplbnaa
