/-
  The contract of slices.Delete at lists of stores: one is taken out of a row of the call's own.
-/
import Derived.Test.YtkhobelceghgfaaMemGoes
import Derived.Test.YtkhobelceghgfaaAppend
namespace Go.Proofs.Ytkhobelceghgfaa
open Go.RowKit
theorem entC_erase (l : List (Int × Int)) (k : Nat) : entC (l.eraseIdx k) = (entC l).take (k * 2) ++ (entC l).drop ((k + 1) * 2) := by
  rw [List.eraseIdx_eq_take_drop_succ, entC_app, entC_take, entC_drop]
theorem clear_ent (b o c : Nat) (ty : TypeId) (w : World) (v0 v1 : Value) (h : w.cell? ⟨b, o, none⟩ = some v0) (g : w.frozen? ⟨b, o, none⟩ = false) (h' : w.cell? ⟨b, o + 1, none⟩ = some v1) (g' : w.frozen? ⟨b, o + 1, none⟩ = false) :
    (Builtin.clear_ #[42] ty #[.slice (some ⟨b, o, none⟩) 1 c]).run Try.prog w = .ok (.tuple #[]) ((w.setCell ⟨b, o, none⟩ (.int .i64 0)).setCell ⟨b, o + 1, none⟩ (.int .i64 0)) := by
  obtain ⟨i0, hi, hz0, hz1, hz2⟩ := info_parts info_ent
  simp [Builtin.clear_, run_underlying Try.underlying42, zeroValue, typeInfo, hi, hz0, Builtin.zeroCells, storeCells, Value.cells, addr_add, go_sem, h, g, h', g']
theorem own_part {w : World} {B e s n g c : Nat} {xs : List Value} (h : w.ownsRow B e s (.slice (some ⟨g, 0, none⟩) n c) n xs) : ∃ cur : Array Value, w.heap[g]? = some (.cells cur e (0, 0)) ∧ B ≤ g ∧ n ≤ c ∧ c ≤ maxLen ∧ cur.size = c * s ∧ cur.toList.take (n * s) = xs := by
  rcases h.2 with ⟨h', _⟩ | ⟨g', cap', cur, h', hb, hg, hnc, hcm, hcs, htake⟩
  · simp at h'
  · simp only [Value.slice.injEq, Option.some.injEq, Addr.mk.injEq, and_true, true_and] at h'
    obtain ⟨rfl, rfl⟩ := h'
    exact ⟨cur, hg, hb, hnc, hcm, hcs, htake⟩
def delCells (cur : Array Value) (l : List (Int × Int)) (k : Nat) : Array Value := (cur.toList.take (k * 2) ++ (entC l).drop ((k + 1) * 2) ++ cur.toList.drop (k * 2 + ((entC l).drop ((k + 1) * 2)).length)).toArray
theorem del_size {cur : Array Value} {l : List (Int × Int)} {k m c : Nat} (hl : l.length = k + 1 + m) (hcs : cur.size = c * 2) (hc : k + 1 + m ≤ c) : (delCells cur l k).size = c * 2 := by
  unfold delCells
  simp only [List.size_toArray, List.length_append, List.length_take, List.length_drop, entC_len, Array.length_toList]
  omega
theorem del_take {cur : Array Value} {l : List (Int × Int)} {k m c : Nat} (hl : l.length = k + 1 + m) (hcs : cur.size = c * 2) (hc : k + 1 + m ≤ c) (htake : cur.toList.take ((k + 1 + m) * 2) = entC l) : (delCells cur l k).toList.take ((k + m) * 2) = entC (l.eraseIdx k) := by
  have h1 : cur.toList.take (k * 2) = (entC l).take (k * 2) := by
    rw [← htake, List.take_take]
    congr 1
    omega
  unfold delCells
  simp only
  rw [List.take_append_of_le_length (by simp only [List.length_append, List.length_take, List.length_drop, entC_len, Array.length_toList]; omega)]
  rw [h1, ← entC_erase]
  apply List.take_of_length_le
  rw [entC_len, List.length_eraseIdx]
  split <;> omega
theorem del_row {w : World} {B g c k m : Nat} {cur : Array Value} {l : List (Int × Int)} (hg : w.heap[g]? = some (.cells cur 44 (0, 0))) (hB : B ≤ g) (hl : l.length = k + 1 + m) (hcs : cur.size = c * 2) (hc : k + 1 + m ≤ c) (hm : c ≤ maxLen)
    (htake : cur.toList.take ((k + 1 + m) * 2) = entC l) : (w.setRow g (delCells cur l k)).ownsRow B 44 2 (.slice (some ⟨g, 0, none⟩) (k + m) c) (k + m) (entC (l.eraseIdx k)) := by
  refine ⟨?_, .inr ⟨g, c, delCells cur l k, rfl, hB, setRow_heap _ _ _ _ _ _ hg, by omega, hm, del_size hl hcs hc, del_take hl hcs hc htake⟩⟩
  rw [entC_len, List.length_eraseIdx]
  split <;> omega
theorem own_beyond {w : World} {B e s n g c : Nat} {xs : List Value} (h : w.ownsRow B e s (.slice (some ⟨g, 0, none⟩) n c) n xs) (j : Nat) (u : Value) (hj : n * s ≤ j) : (w.setCell ⟨g, j, none⟩ u).ownsRow B e s (.slice (some ⟨g, 0, none⟩) n c) n xs := by
  have := (World.ownsRow.stored h j u).1
  rwa [List.set_eq_of_length_le (by rw [h.1]; exact hj)] at this
set_option maxHeartbeats 2000000 in
theorem delete_ent (B g c k m : Nat) (l : List (Int × Int)) (w : World) (hl : l.length = k + 1 + m) (ho : w.ownsRow B 44 2 (.slice (some ⟨g, 0, none⟩) (k + 1 + m) c) (k + 1 + m) (entC l)) (hm : k + 1 + m ≤ 1000) :
    Calls Try.prog 63 #[.slice (some ⟨g, 0, none⟩) (k + 1 + m) c, .int .i64 k, .int .i64 (k + 1)] w fun e w' => e = .returned (.slice (some ⟨g, 0, none⟩) (k + m) c) ∧
      w'.ownsRow B 44 2 (.slice (some ⟨g, 0, none⟩) (k + m) c) (k + m) (entC (l.eraseIdx k)) ∧ (∀ b, b < w.heap.size → b ≠ g → w'.heap[b]? = w.heap[b]?) ∧ Below B w w' := by
  obtain ⟨cur, hg, hB, hnc, hcm, hcs, htake⟩ := own_part ho
  obtain ⟨i0, hi, hz0, hz1, hz2⟩ := info_parts info_ent
  unfold maxLen at hcm
  have HG := Lib.hid hg; have HO := Lib.hid ho; have HT := Lib.hid htake; have HC := Lib.hid hcs; have HL := Lib.hid hl
  clear hg ho htake hcs hl
  by_cases hfull : c = k + 1
  · have hm0 : m = 0 := by omega
    subst hfull hm0
    go_enter Try.func63, Try.ntmps63
    go_wp2_with fail
    refine wp_region_ut (fun _ => True) 6 [true, true, true, true, true, true] (by kernel_rfl) (by kernel_rfl) (by kernel_rfl) (fun _ _ _ _ => trivial) trivial ?a2 ?h2 ?ht2
    case h2 =>
      intro w0 _
      simp only [pickM]
      repeat (go_big_quiet_step (fail))
      refine wpQuiet_nil ?_
      rfl
    case ht2 =>
      change headU _ _ _ _ _ _ 0 _ _ _
      refine headU_end (by kernel_rfl) ?_
      intro w1 hu1 _
      have hg1 := up_in hu1 (show w.drew.heap[g]? = _ from HG.out)
      have HG1 := Lib.hid hg1
      have hrun := run_append_room (P := Try.prog) w1 42 42 44 i0 Try.underlying42 hi g k (k + 1) cur hg1 ⟨g, 0, none⟩ 0 (k + 1 - (k + 1)) ((entC l).drop ((k + 1) * 2)) (by rw [List.length_drop, entC_len, hz1, HL.out]; omega)
        (fun j u hj => by have := (List.getElem?_eq_some_iff.1 hj).1; rw [List.length_drop, entC_len, HL.out] at this; omega) (fun u hu => entC_one l u (List.mem_of_mem_drop hu)) (by omega) (by rw [hz1, List.length_drop, entC_len, HL.out, HC.out]; omega)
      rw [hz1] at hrun
      have R1 := Lib.hid hrun; clear hrun hg1
      have D1 := Lib.hid (del_row (w := w1) HG1.out hB HL.out HC.out hnc (by unfold maxLen; exact hcm) HT.out)
      have D2 := Lib.hid (setRow_heap w1 g cur (delCells cur l k) 44 (0, 0) HG1.out)
      have D3 := Lib.hid (fun b (hb : b ≠ g) => setRow_other w1 g b (delCells cur l k) hb)
      have D4 : Hid (Below B w (w1.setRow g (delCells cur l k))) := Lib.hid (below_setRow ((Below.refl B w).drew.trans (hu1.mono (show B ≤ w.heap.size by have := lt_in HG.out; omega))) hB _)
      have D5 := Lib.hid (del_size HL.out HC.out hnc)
      have hu1' := Lib.hid hu1; clear hu1
      simp only [List.drop_succ_cons, List.drop_zero]
      refine wpList_append_run rfl _ _ _ _ rfl _ _ _ _ rfl rfl R1.out ?_
      change wpList _ _ _ _ _ (w1.setRow g (delCells cur l k))
      obtain ⟨w2, hw2⟩ : ∃ w2, w1.setRow g (delCells cur l k) = w2 := ⟨_, rfl⟩
      rw [hw2] at D1 D2 D3 D4
      rw [hw2]
      clear hw2 R1
      have q1 : (delCells cur l k)[k * 2]? = some ((delCells cur l k)[k * 2]'(by rw [D5.out]; omega)) := by simp
      have q2 : (delCells cur l k)[k * 2 + 1]? = some ((delCells cur l k)[k * 2 + 1]'(by rw [D5.out]; omega)) := by simp
      have hcl := fun c' => clear_ent g (k * 2) c' 0 w2 _ _ (cell_in D2.out q1) (frozen_in D2.out _) (cell_in D2.out q2) (frozen_in D2.out _)
      clear q1 q2
      have e1 : k + 1 - k = 1 := by omega
      go_wp2_with fail
      go_ret
      exact ⟨rfl, own_beyond (own_beyond D1.out _ _ (Nat.le_refl _)) _ _ (by omega), fun b hb hne => by rw [heap_set hne, heap_set hne, D3.out b hne]; exact hu1'.out.block b hb, bel_set hB (bel_set hB D4.out)⟩
  · go_enter Try.func63, Try.ntmps63
    go_wp2_with fail
    refine wp_region_ut (fun _ => True) 6 [true, true, true, true, true, true] (by kernel_rfl) (by kernel_rfl) (by kernel_rfl) (fun _ _ _ _ => trivial) trivial ?a' ?h ?ht
    case h =>
      intro w0 _
      simp only [pickM]
      repeat (go_big_quiet_step (fail))
      refine wpQuiet_nil ?_
      rfl
    case ht =>
      change headU _ _ _ _ _ _ 0 _ _ _
      refine headU_end (by kernel_rfl) ?_
      intro w1 hu1 _
      have hg1 := up_in hu1 (show w.drew.heap[g]? = _ from HG.out)
      have HG1 := Lib.hid hg1
      have hrun := run_append_room (P := Try.prog) w1 42 42 44 i0 Try.underlying42 hi g k c cur hg1 ⟨g, (k + 1) * 2, none⟩ m (c - (k + 1)) ((entC l).drop ((k + 1) * 2)) (by rw [List.length_drop, entC_len, hz1, HL.out]; omega)
        (fun j u hj => by
          rw [addr_add]
          rw [List.getElem?_drop] at hj
          refine cell_in hg1 ?_
          rw [← HT.out, List.getElem?_take] at hj
          split at hj
          · simpa using hj
          · cases hj) (fun u hu => entC_one l u (List.mem_of_mem_drop hu)) (by omega) (by rw [hz1, List.length_drop, entC_len, HL.out, HC.out]; omega)
      rw [hz1] at hrun
      have R1 := Lib.hid hrun; clear hrun hg1
      have D1 := Lib.hid (del_row (w := w1) HG1.out hB HL.out HC.out hnc (by unfold maxLen; exact hcm) HT.out)
      have D2 := Lib.hid (setRow_heap w1 g cur (delCells cur l k) 44 (0, 0) HG1.out)
      have D3 := Lib.hid (fun b (hb : b ≠ g) => setRow_other w1 g b (delCells cur l k) hb)
      have D4 : Hid (Below B w (w1.setRow g (delCells cur l k))) := Lib.hid (below_setRow ((Below.refl B w).drew.trans (hu1.mono (show B ≤ w.heap.size by have := lt_in HG.out; omega))) hB _)
      have D5 := Lib.hid (del_size HL.out HC.out hnc)
      have hu1' := Lib.hid hu1; clear hu1
      simp only [List.drop_succ_cons, List.drop_zero]
      refine wpList_append_run rfl _ _ _ _ rfl _ _ _ _ rfl rfl R1.out ?_
      change wpList _ _ _ _ _ (w1.setRow g (delCells cur l k))
      obtain ⟨w2, hw2⟩ : ∃ w2, w1.setRow g (delCells cur l k) = w2 := ⟨_, rfl⟩
      rw [hw2] at D1 D2 D3 D4
      rw [hw2]
      clear hw2 R1
      have q1 : (delCells cur l k)[(k + m) * 2]? = some ((delCells cur l k)[(k + m) * 2]'(by rw [D5.out]; omega)) := by simp
      have q2 : (delCells cur l k)[(k + m) * 2 + 1]? = some ((delCells cur l k)[(k + m) * 2 + 1]'(by rw [D5.out]; omega)) := by simp
      have hcl := fun c' => clear_ent g ((k + m) * 2) c' 0 w2 _ _ (cell_in D2.out q1) (frozen_in D2.out _) (cell_in D2.out q2) (frozen_in D2.out _)
      clear q1 q2
      have e1 : k + 1 + m - (k + m) = 1 := by omega
      go_wp2_with fail
      go_ret
      exact ⟨rfl, own_beyond (own_beyond D1.out _ _ (Nat.le_refl _)) _ _ (by omega), fun b hb hne => by rw [heap_set hne, heap_set hne, D3.out b hne]; exact hu1'.out.block b hb, bel_set hB (bel_set hB D4.out)⟩
end Go.Proofs.Ytkhobelceghgfaa
