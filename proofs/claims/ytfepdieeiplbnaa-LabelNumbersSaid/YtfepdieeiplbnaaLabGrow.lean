/-
  The contract of places.grow (printed by gen_labgrow.py).
-/
import Derived.Test.YtfepdieeiplbnaaLabReckon
namespace Go.Proofs.Ytfepdieeiplbnaa
open Go.RowKit
set_option linter.unusedSimpArgs false
def growTo (l : List Itm) (L : Nat → Bool) (k : Nat) : Nat → Bool := fun j => if j < k then growF l L j else L j
theorem growTo_zero (l : List Itm) (L : Nat → Bool) : growTo l L 0 = L := by funext j; simp [growTo]
theorem growTo_all {l : List Itm} {L : Nat → Bool} : growTo l L l.length = growF l L := by
  funext j
  unfold growTo
  by_cases h : j < l.length
  · rw [if_pos h]
  · rw [if_neg h]; unfold growF; rw [needs_far (by omega), Bool.or_false]
theorem growTo_no {l : List Itm} {L : Nat → Bool} {k : Nat} (h : needs l L k = false) : growTo l L (k + 1) = growTo l L k := by
  funext j
  unfold growTo
  by_cases e : j = k
  · subst e; simp [growF, h]
  · by_cases h2 : j < k
    · rw [if_pos h2, if_pos (by omega)]
    · rw [if_neg h2, if_neg (by omega)]
theorem growTo_yes {l : List Itm} {L : Nat → Bool} {k : Nat} (h : needs l L k = true) : growTo l L (k + 1) = fun i => if i = k then true else growTo l L k i := by
  funext j
  unfold growTo
  by_cases e : j = k
  · subst e; simp [growF, h]
  · by_cases h2 : j < k
    · rw [if_pos (by omega), if_neg e, if_pos h2]
    · rw [if_neg (by omega), if_neg e, if_neg h2]
theorem grownB_no {l : List Itm} {L : Nat → Bool} {k : Nat} (h : needs l L k = false) : grownB l L (k + 1) = grownB l L k := by simp [grownB, h]
theorem grownB_yes {l : List Itm} {L : Nat → Bool} {k : Nat} (h : needs l L k = true) : grownB l L (k + 1) = true := by simp [grownB, h]
theorem growTo_at (l : List Itm) (L : Nat → Bool) (k : Nat) : growTo l L k k = L k := by simp [growTo]
theorem lab_lt (l : List Itm) (k : Nat) (s : ByteArray) : (mp l k s).getD 0 < k + 1 := by
  cases h : mp l k s with
  | none => simp
  | some j => have := (mp_some h).1; simp; omega
set_option maxRecDepth 100000 in
set_option maxHeartbeats 8000000 in
theorem lab_grow {base P A G M m : Nat} {L : Nat → Bool} (w0 w : World) (l : List Itm) (v : Value) (HL : ArgS 8 itC w0 v l) (HO : ItsOK l) (HA : allB l) (HB0 : Below w0.heap.size w0 w) (hbase : base = w0.heap.size)
    (HS : LaySt base l.length P A G M (pl l L) L m (mp l l.length) w) :
    Calls Try.prog 54 #[.pointer (some ⟨P, 0, none⟩), v] w fun e w' => e = .returned (.bool (grownB l L l.length)) ∧ LaySt base l.length P A G M (pl l L) (growF l L) m (mp l l.length) w' ∧ Below w0.heap.size w0 w' := by
  obtain ⟨a, c, rfl⟩ : ∃ a c, v = .slice a l.length c := by obtain ⟨a, c, hv, _⟩ := HL; exact ⟨a, c, hv⟩
  have hlen := HO.len
  have hst : LaySt base l.length P A G M (pl l L) (growTo l L 0) m (mp l l.length) w := by rw [growTo_zero]; exact HS
  have H1 := Lib.hid HL; have H2 := Lib.hid HO; have H3 := Lib.hid HA; have H4 := Lib.hid HB0; have H5 := Lib.hid hst; have H7 := Lib.hid hbase
  clear HL HO HA HB0 HS hbase hst
  go_enter Try.func54, Try.ntmps54
  go_wp2_with fail
  go_loopw [4, 10] (fun g i wr => ∃ k : Nat, k ≤ l.length ∧ i = .int .i64 k ∧ g = .bool (grownB l L k) ∧ LaySt base l.length P A G M (pl l L) (growTo l L k) m (mp l l.length) wr ∧ Below w0.heap.size w0 wr) (fun _ i _ => l.length - (intOf i).toNat)
  case atStart => exact ⟨0, Nat.zero_le _, rfl, rfl, H5.out, H4.out⟩
  case round =>
    obtain ⟨k, hk, rfl, rfl, hs, hb⟩ := hrel
    have HS := Lib.hid hs; have HB := Lib.hid hb
    clear hs hb
    obtain ⟨gr, hgr⟩ : ∃ g, grownB l L k = g := ⟨_, rfl⟩
    rw [hgr]
    have HG := Lib.hid hgr; clear hgr
    by_cases hlt : k < l.length
    · obtain ⟨b, o, rfl, hb0, hcells⟩ := items_at H1.out k hlt
      obtain ⟨c0, c1, c2, c3, c4, c5, c6, c7⟩ := eight_cells (fun j u hj => (HB.out.cell (p := ⟨b, o + k * 8 + j, none⟩) hb0).trans (hcells j u hj))
      clear hcells
      have hsz := HB.out.size
      have hnm := H2.out.name k hlt
      obtain ⟨x, hx⟩ : ∃ x, it l k = x := ⟨_, rfl⟩
      rw [hx] at c0 c1 c2 c3 c4 c5 c6 c7 hnm
      have HX := Lib.hid hx; clear hx
      obtain ⟨kd, ⟨op, d, ia, ib, nn⟩, s, N⟩ := x
      simp only at c0 c1 c2 c3 c4 c5 c6 c7 hnm
      have g1 : wr.cell? ⟨P, 1, none⟩ = some (.slice (some ⟨G, 0, none⟩) l.length l.length) := cell_in HS.out.hP rfl
      have g2 : wr.cell? ⟨G, k, none⟩ = some (.bool (L k)) := (cell_in HS.out.hG (cellsL_get _ hlt)).trans (by rw [growTo_at])
      have gf : wr.frozen? ⟨G, k, none⟩ = false := frozen_in HS.out.hG _
      have hP := lt_in HS.out.hP; have hG := lt_in HS.out.hG
      by_cases h3 : kd = 3
      case neg =>
        have HNE : Hid (needs l L k = false) := Lib.hid (by unfold needs; rw [HX.out]; simp [growK, h3])
        have q3 : (kd != 3) = true := by simpa using h3
        clear h3
        go_wp2_with fail
        refine ⟨⟨k + 1, by omega, by go_num, ?_, ?_, ?_⟩, by simp [intOf]; omega⟩
        · exact congrArg Value.bool (by rw [grownB_no HNE.out]; exact HG.out.symm)
        · rw [growTo_no HNE.out]; exact HS.out.up ((by repeat (first | (with_reducible exact Below.refl _ _) | (with_reducible refine bw_set ?_ ?_ _) | (with_reducible apply bw_alloc) | (with_reducible refine bw_tr ?_ (by with_reducible assumption)) | (with_reducible apply bw_drew) | omega)))
        · exact bw_tr HB.out ((by repeat (first | (with_reducible exact Below.refl _ _) | (with_reducible refine bw_set ?_ ?_ _) | (with_reducible apply bw_alloc) | (with_reducible refine bw_tr ?_ (by with_reducible assumption)) | (with_reducible apply bw_drew) | omega)))
      case pos =>
      subst h3
      by_cases h4 : op = 3
      case pos =>
        have HNE : Hid (needs l L k = false) := Lib.hid (by unfold needs; rw [HX.out]; simp [growK, h4])
        subst h4
        go_wp2_with fail
        refine ⟨⟨k + 1, by omega, by go_num, ?_, ?_, ?_⟩, by simp [intOf]; omega⟩
        · exact congrArg Value.bool (by rw [grownB_no HNE.out]; exact HG.out.symm)
        · rw [growTo_no HNE.out]; exact HS.out.up ((by repeat (first | (with_reducible exact Below.refl _ _) | (with_reducible refine bw_set ?_ ?_ _) | (with_reducible apply bw_alloc) | (with_reducible refine bw_tr ?_ (by with_reducible assumption)) | (with_reducible apply bw_drew) | omega)))
        · exact bw_tr HB.out ((by repeat (first | (with_reducible exact Below.refl _ _) | (with_reducible refine bw_set ?_ ?_ _) | (with_reducible apply bw_alloc) | (with_reducible refine bw_tr ?_ (by with_reducible assumption)) | (with_reducible apply bw_drew) | omega)))
      case neg =>
      have q4 : (op == 3) = false := by simpa using h4
      cases hLk : L k
      case true =>
        have HNE : Hid (needs l L k = false) := Lib.hid (by unfold needs; rw [hLk]; simp)
        rw [hLk] at g2
        clear h4 hLk
        go_wp2_with fail
        refine ⟨⟨k + 1, by omega, by go_num, ?_, ?_, ?_⟩, by simp [intOf]; omega⟩
        · exact congrArg Value.bool (by rw [grownB_no HNE.out]; exact HG.out.symm)
        · rw [growTo_no HNE.out]; exact HS.out.up ((by repeat (first | (with_reducible exact Below.refl _ _) | (with_reducible refine bw_set ?_ ?_ _) | (with_reducible apply bw_alloc) | (with_reducible refine bw_tr ?_ (by with_reducible assumption)) | (with_reducible apply bw_drew) | omega)))
        · exact bw_tr HB.out ((by repeat (first | (with_reducible exact Below.refl _ _) | (with_reducible refine bw_set ?_ ?_ _) | (with_reducible apply bw_alloc) | (with_reducible refine bw_tr ?_ (by with_reducible assumption)) | (with_reducible apply bw_drew) | omega)))
      case false =>
      rw [hLk] at g2
      have HD := lab_distance (HS.out.up ((Below.refl wr.heap.size wr).alloc (Nat.le_refl _) (.cells #[.int .i64 3, .int .i64 op, .int .i64 d, .int .i64 ia, .int .i64 ib, .int .i64 nn, .string s, .int .i64 N] 26))) k hlt ⟨3, ⟨op, d, ia, ib, nn⟩, s, N⟩ hnm (lab_lt l l.length s) (fun j hj => by have := pl_bd H3.out L j (by omega); omega)
      unfold itV at HD
      simp only at HD
      obtain ⟨z, hz⟩ : ∃ z, pl l L ((mp l l.length s).getD 0) - pl l L k = z := ⟨_, rfl⟩
      rw [hz] at HD
      have HDC := Lib.hid HD; clear HD
      have HN : Hid (needs l L k = farB z) := Lib.hid (by unfold needs dst; rw [HX.out, hLk, ← hz]; simp [growK, h4]; rfl)
      clear h4 hLk hz
      cases hf1 : decide (z < -4096)
      case true =>
        have HY : Hid (needs l L k = true) := Lib.hid (by rw [HN.out]; unfold farB; rw [hf1]; rfl)
        go_wp2_with (go_at_call 69; ((with_reducible refine HDC.out.mono ?_); rintro e w1 ⟨rfl, hb1⟩; obtain ⟨j1, j2⟩ := bcell hb1; have z1 : wr.heap.size < w1.heap.size := by (have := hb1.size; simp at this; omega)))
        have HW1 := Lib.hid (HS.out.up (w' := w1) ((by repeat (first | (with_reducible exact Below.refl _ _) | (with_reducible refine bw_set ?_ ?_ _) | (with_reducible apply bw_alloc) | (with_reducible refine bw_tr ?_ (by with_reducible assumption)) | (with_reducible apply bw_drew) | omega))))
        refine ⟨⟨k + 1, by omega, by go_num, ?_, ?_, ?_⟩, by simp [intOf]; omega⟩
        · exact congrArg Value.bool (grownB_yes HY.out).symm
        · rw [growTo_yes HY.out]; exact HW1.out.setG k true
        · refine Below.setCell (bw_tr (c := w1) HB.out ((by repeat (first | (with_reducible exact Below.refl _ _) | (with_reducible refine bw_set ?_ ?_ _) | (with_reducible apply bw_alloc) | (with_reducible refine bw_tr ?_ (by with_reducible assumption)) | (with_reducible apply bw_drew) | omega)))) ?_ _
          rw [← H7.out]; exact HW1.out.bG
      case false =>
      cases hf2 : decide (4094 < z)
      case true =>
        have HY : Hid (needs l L k = true) := Lib.hid (by rw [HN.out]; unfold farB; rw [hf1, hf2]; rfl)
        go_wp2_with (go_at_call 69; ((with_reducible refine HDC.out.mono ?_); rintro e w1 ⟨rfl, hb1⟩; obtain ⟨j1, j2⟩ := bcell hb1; have z1 : wr.heap.size < w1.heap.size := by (have := hb1.size; simp at this; omega)))
        have HW1 := Lib.hid (HS.out.up (w' := w1) ((by repeat (first | (with_reducible exact Below.refl _ _) | (with_reducible refine bw_set ?_ ?_ _) | (with_reducible apply bw_alloc) | (with_reducible refine bw_tr ?_ (by with_reducible assumption)) | (with_reducible apply bw_drew) | omega))))
        refine ⟨⟨k + 1, by omega, by go_num, ?_, ?_, ?_⟩, by simp [intOf]; omega⟩
        · exact congrArg Value.bool (grownB_yes HY.out).symm
        · rw [growTo_yes HY.out]; exact HW1.out.setG k true
        · refine Below.setCell (bw_tr (c := w1) HB.out ((by repeat (first | (with_reducible exact Below.refl _ _) | (with_reducible refine bw_set ?_ ?_ _) | (with_reducible apply bw_alloc) | (with_reducible refine bw_tr ?_ (by with_reducible assumption)) | (with_reducible apply bw_drew) | omega)))) ?_ _
          rw [← H7.out]; exact HW1.out.bG
      case false =>
        have HNE : Hid (needs l L k = false) := Lib.hid (by rw [HN.out]; unfold farB; rw [hf1, hf2]; rfl)
        go_wp2_with (go_at_call 69; ((with_reducible refine HDC.out.mono ?_); rintro e w1 ⟨rfl, hb1⟩; obtain ⟨j1, j2⟩ := bcell hb1; have z1 : wr.heap.size < w1.heap.size := by (have := hb1.size; simp at this; omega)))
        refine ⟨⟨k + 1, by omega, by go_num, ?_, ?_, ?_⟩, by simp [intOf]; omega⟩
        · exact congrArg Value.bool (by rw [grownB_no HNE.out]; exact HG.out.symm)
        · rw [growTo_no HNE.out]; exact HS.out.up ((by repeat (first | (with_reducible exact Below.refl _ _) | (with_reducible refine bw_set ?_ ?_ _) | (with_reducible apply bw_alloc) | (with_reducible refine bw_tr ?_ (by with_reducible assumption)) | (with_reducible apply bw_drew) | omega)))
        · exact bw_tr HB.out ((by repeat (first | (with_reducible exact Below.refl _ _) | (with_reducible refine bw_set ?_ ?_ _) | (with_reducible apply bw_alloc) | (with_reducible refine bw_tr ?_ (by with_reducible assumption)) | (with_reducible apply bw_drew) | omega)))
    · obtain rfl : k = l.length := by omega
      go_wp2_with fail
      go_ret
      refine ⟨ret1b HG.out.symm, ?_, HB.out⟩
      rw [← growTo_all]; exact HS.out
end Go.Proofs.Ytfepdieeiplbnaa
