/-
  The contract of places.reckon.
-/
import Derived.Test.YtfepdieeiplbnaaLabState
namespace Go.Proofs.Ytfepdieeiplbnaa
open Go.RowKit
set_option linter.unusedSimpArgs false
/-- A list of items that came in, one of them. -/
theorem items_at {w : World} {a : Option Addr} {n c : Nat} {l : List Itm} (h : ArgS 8 itC w (.slice a n c) l) (i : Nat) (hi : i < l.length) :
    ∃ b o, a = some ⟨b, o, none⟩ ∧ b < w.heap.size ∧ ∀ j u, (itC (it l i))[j]? = some u → w.cell? ⟨b, o + i * 8 + j, none⟩ = some u := by
  obtain ⟨a', c', hv, h1, h2, h3⟩ := h
  injection hv with e1 e2 e3
  subst e1 e2 e3
  rcases h3 with h3 | ⟨b, o, ha, hlt, hc⟩
  · subst h3; simp at hi
  · exact ⟨b, o, ha, hlt, fun j u hj => hc i (it l i) (it_get hi) j u hj⟩
theorem items_len {w : World} {a : Option Addr} {n c : Nat} {l : List Itm} (h : ArgS 8 itC w (.slice a n c) l) : n = l.length ∧ n ≤ c ∧ c ≤ maxLen := by
  obtain ⟨a', c', hv, h1, h2, h3⟩ := h
  injection hv with e1 e2 e3
  subst e1 e2 e3
  exact ⟨rfl, h1, h2⟩
theorem eight_cells {w : World} {b o : Nat} {x : Itm} (h : ∀ j u, (itC x)[j]? = some u → w.cell? ⟨b, o + j, none⟩ = some u) :
    w.cell? ⟨b, o, none⟩ = some (.int .i64 x.kind) ∧ w.cell? ⟨b, o + 1, none⟩ = some (.int .i64 x.i.op) ∧ w.cell? ⟨b, o + 2, none⟩ = some (.int .i64 x.i.d) ∧ w.cell? ⟨b, o + 3, none⟩ = some (.int .i64 x.i.a) ∧ w.cell? ⟨b, o + 4, none⟩ = some (.int .i64 x.i.b) ∧ w.cell? ⟨b, o + 5, none⟩ = some (.int .i64 x.i.n) ∧ w.cell? ⟨b, o + 6, none⟩ = some (.string x.name) ∧ w.cell? ⟨b, o + 7, none⟩ = some (.int .i64 x.n) :=
  ⟨h 0 _ rfl, h 1 _ rfl, h 2 _ rfl, h 3 _ rfl, h 4 _ rfl, h 5 _ rfl, h 6 _ rfl, h 7 _ rfl⟩
/-- The list of items that a layer works on: not too long, its strings and numbers as Go has them. -/
structure ItsOK (l : List Itm) : Prop where
  len : l.length ≤ 40000
  name : ∀ i, i < l.length → (it l i).name.size ≤ maxLen
  num : ∀ i, i < l.length → I64 (it l i).n
theorem reck_step {l : List Itm} {L : Nat → Bool} {f : Nat → Int} {k : Nat} {v : Int} (hv : v = pl l L (k + 1)) :
    (fun i => if i = k + 1 then v else (fun j => if j ≤ k then pl l L j else f j) i) = fun j => if j ≤ k + 1 then pl l L j else f j := by
  funext j
  simp only
  by_cases h : j = k + 1
  · subst h; simp [hv]
  · rw [if_neg h]
    by_cases h2 : j ≤ k
    · rw [if_pos h2, if_pos (by omega)]
    · rw [if_neg h2, if_neg (by omega)]
set_option maxHeartbeats 4000000 in
theorem lab_reckon {base P A G M m : Nat} {f : Nat → Int} {L : Nat → Bool} {km : ByteArray → Option Nat} (w0 w : World) (l : List Itm) (v : Value) (HL : ArgS 8 itC w0 v l) (HO : ItsOK l) (HA : allB l) (HB0 : Below w0.heap.size w0 w) (hbase : base = w0.heap.size)
    (HS : LaySt base l.length P A G M f L m km w) (hf0 : f 0 = 0) :
    Calls Try.prog 53 #[.pointer (some ⟨P, 0, none⟩), v] w fun e w' => e = .returned (.tuple #[]) ∧ LaySt base l.length P A G M (pl l L) L m km w' ∧ Below w0.heap.size w0 w' := by
  obtain ⟨a, c, rfl⟩ : ∃ a c, v = .slice a l.length c := by obtain ⟨a, c, hv, _⟩ := HL; exact ⟨a, c, hv⟩
  have hlen := HO.len
  have hst : LaySt base l.length P A G M (fun j => if j ≤ 0 then pl l L j else f j) L m km w := by
    have e : (fun j => if j ≤ 0 then pl l L j else f j) = f := by
      funext j
      by_cases h : j ≤ 0
      · rw [if_pos h, show j = 0 by omega, hf0]; rfl
      · rw [if_neg h]
    rw [e]; exact HS
  have H1 := Lib.hid HL; have H2 := Lib.hid HO; have H3 := Lib.hid HA; have H4 := Lib.hid HB0; have H5 := Lib.hid hst; have H7 := Lib.hid hbase
  clear HL HO HA HB0 HS hf0 hbase hst
  go_enter Try.func53, Try.ntmps53
  go_wp2_with fail
  go_loopw [8] (fun i wr => ∃ k : Nat, k ≤ l.length ∧ i = .int .i64 k ∧ LaySt base l.length P A G M (fun j => if j ≤ k then pl l L j else f j) L m km wr ∧ Below w0.heap.size w0 wr) (fun i _ => l.length - (intOf i).toNat)
  case atStart => exact ⟨0, Nat.zero_le _, rfl, H5.out, H4.out⟩
  case round =>
    obtain ⟨k, hk, rfl, hs, hb⟩ := hrel
    have HS := Lib.hid hs; have HB := Lib.hid hb
    clear hs hb
    by_cases hlt : k < l.length
    · obtain ⟨b, o, rfl, hb0, hcells⟩ := items_at H1.out k hlt
      obtain ⟨c0, c1, c2, c3, c4, c5, c6, c7⟩ := eight_cells (fun j u hj => (HB.out.cell (p := ⟨b, o + k * 8 + j, none⟩) hb0).trans (hcells j u hj))
      clear hcells
      have hsz := HB.out.size
      go_wp2_with fail
      obtain ⟨W, hW⟩ : ∃ W, wr.alloc (.cells #[.int .i64 (it l k).kind, .int .i64 (it l k).i.op, .int .i64 (it l k).i.d, .int .i64 (it l k).i.a, .int .i64 (it l k).i.b, .int .i64 (it l k).i.n, .string (it l k).name, .int .i64 (it l k).n] 26) = W := ⟨_, rfl⟩
      have hbW : Below wr.heap.size wr W := by rw [← hW]; exact (Below.refl _ _).alloc (Nat.le_refl _) _
      have hxW : W.heap[wr.heap.size]? = some (.cells #[.int .i64 (it l k).kind, .int .i64 (it l k).i.op, .int .i64 (it l k).i.d, .int .i64 (it l k).i.a, .int .i64 (it l k).i.b, .int .i64 (it l k).i.n, .string (it l k).name, .int .i64 (it l k).n] 26 (0, 0)) := by rw [← hW]; exact new_in wr _
      have hltW := lt_in hxW
      rw [hW]
      clear hW c0 c1 c2 c3 c4 c5 c6 c7
      have HW := Lib.hid (HS.out.up hbW)
      obtain ⟨z, hz⟩ : ∃ z, sizeZ (it l k) (L k) = z := ⟨_, rfl⟩
      have hzb := size_bd (H3.out k hlt) (L k)
      have hpb := pl_bd H3.out L k (by omega)
      rw [hz] at hzb
      have HC := Lib.hid (fun x : Wd W => quiet_b (x := x) (lab_size (HW.out.up x.bel) k hlt (it l k) (H2.out.num k hlt) z hz))
      unfold itV at HC
      obtain ⟨p, hp⟩ : ∃ p, pl l L k = p := ⟨_, rfl⟩
      have HPL := Lib.hid (show p + 4 * z = pl l L (k + 1) by rw [← hp, ← hz]; rfl)
      have y0 := wd_cell (lt_in HW.out.hP) (show W.cell? ⟨P, 0, none⟩ = some (.slice (some ⟨A, 0, none⟩) (l.length + 1) (l.length + 1)) from cell_in HW.out.hP rfl)
      have y1 := wd_cell (lt_in HW.out.hA) (show W.cell? ⟨A, k, none⟩ = some (.int .i64 p) from (cell_in HW.out.hA (cellsZ_get _ (by omega))).trans (by rw [if_pos (Nat.le_refl _), hp]))
      obtain ⟨x0, x1, x2, x3, x4, x5, x6, x7⟩ : (∀ x : Wd W, x.val.cell? ⟨wr.heap.size, 0, none⟩ = some (.int .i64 (it l k).kind)) ∧ (∀ x : Wd W, x.val.cell? ⟨wr.heap.size, 1, none⟩ = some (.int .i64 (it l k).i.op)) ∧ (∀ x : Wd W, x.val.cell? ⟨wr.heap.size, 2, none⟩ = some (.int .i64 (it l k).i.d)) ∧ (∀ x : Wd W, x.val.cell? ⟨wr.heap.size, 3, none⟩ = some (.int .i64 (it l k).i.a)) ∧ (∀ x : Wd W, x.val.cell? ⟨wr.heap.size, 4, none⟩ = some (.int .i64 (it l k).i.b)) ∧ (∀ x : Wd W, x.val.cell? ⟨wr.heap.size, 5, none⟩ = some (.int .i64 (it l k).i.n)) ∧ (∀ x : Wd W, x.val.cell? ⟨wr.heap.size, 6, none⟩ = some (.string (it l k).name)) ∧ (∀ x : Wd W, x.val.cell? ⟨wr.heap.size, 7, none⟩ = some (.int .i64 (it l k).n)) :=
        ⟨wd_cell hltW (cell_in hxW rfl), wd_cell hltW (cell_in hxW rfl), wd_cell hltW (cell_in hxW rfl), wd_cell hltW (cell_in hxW rfl), wd_cell hltW (cell_in hxW rfl), wd_cell hltW (cell_in hxW rfl), wd_cell hltW (cell_in hxW rfl), wd_cell hltW (cell_in hxW rfl)⟩
      have s1 : IntKind.i64.wrap ((k : Int) + 1) = k + 1 := IntWalk.i64_in _ (by omega)
      have s2 : IntKind.i64.wrap (4 * z) = 4 * z := IntWalk.i64_in _ (by omega)
      rw [hp] at hpb
      have s3 : IntKind.i64.wrap (p + 4 * z) = p + 4 * z := IntWalk.i64_in _ (by omega)
      have hW2 := Lib.hid hbW; have hxW2 := Lib.hid hxW
      clear hbW hxW hz hp
      refine wp_region_below_tail 20 (by kernel_rfl) (by kernel_rfl) ?_
      simp only [List.take_succ_cons, List.take_zero, List.drop_succ_cons, List.drop_zero]
      repeat (go_big_quiet_step ((go_at_call 68; with_reducible exact HC.out _)))
      refine wpQuiet_nil ?_
      rintro w7 ⟨⟨w7x, hb7⟩, rfl⟩
      clear x0 x1 x2 x3 x4 x5 x6 x7 y0 y1 s1 s2 s3
      have H7S := Lib.hid (HW.out.up hb7)
      have hA7 := lt_in H7S.out.hA
      have f7 : w7.frozen? ⟨A, k + 1, none⟩ = false := frozen_in H7S.out.hA _
      obtain ⟨q, hq⟩ : ∃ q, w7.cell? ⟨A, k + 1, none⟩ = some (.int .i64 q) := ⟨_, cell_in H7S.out.hA (cellsZ_get _ (by omega))⟩
      go_wp2_with fail
      refine ⟨⟨k + 1, by omega, by go_num, ?_, ?_⟩, by simp [intOf]; omega⟩
      · rw [← reck_step HPL.out]
        exact H7S.out.setA (k + 1) _
      · refine Below.setCell (bw_tr HB.out (bw_tr hW2.out hb7)) ?_ _
        rw [← H7.out]; exact H7S.out.bA
    · obtain rfl : k = l.length := by omega
      go_wp2_with fail
      go_end0
      refine ⟨rfl, ?_, HB.out⟩
      have e := HS.out
      refine ⟨e.hP, ?_, e.hG, e.hM, e.bP, e.bA, e.bG, e.bM⟩
      rw [e.hA, cellsZ_congr (fun i hi => if_pos (by omega))]
end Go.Proofs.Ytfepdieeiplbnaa
