/-
  The contract of places.known (printed by gen_labknown.py).
-/
import Derived.Test.YtfepdieeiplbnaaLabGrow
namespace Go.Proofs.Ytfepdieeiplbnaa
open Go.RowKit
set_option linter.unusedSimpArgs false
theorem okL_no {l : List Itm} {k : Nat} (h : ¬ (it l k).kind = 2) : okL l (k + 1) = okL l k := by simp [okL, h]
theorem okL_yes {l : List Itm} {k : Nat} (h : (it l k).kind = 2) : okL l (k + 1) = (okL l k && !(mp l k (it l k).name).isSome) := by simp [okL, h]
theorem nmL_no {l : List Itm} {k : Nat} (h : ¬ (it l k).kind = 3) : nmL l (k + 1) = nmL l k := by simp [nmL, h]
theorem nmL_yes {l : List Itm} {k : Nat} (h : (it l k).kind = 3) : nmL l (k + 1) = (nmL l k && (labI l (it l k).name).isSome) := by
  simp [nmL, h]
theorem grown_bel9 {w0 w w1 : World} {b : Nat} (h : Below w0.heap.size w0 w) (hg : w.grownBy w1 (some b)) (hb : w0.heap.size ≤ b) : Below w0.heap.size w0 w1 := h.grown hg h.size (fun k hk => by injection hk with hk; omega)
theorem LaySt.mono {base n P A G M m m' : Nat} {f : Nat → Int} {L : Nat → Bool} {km : ByteArray → Option Nat} {w : World} (h : LaySt base n P A G M f L m km w) (hm : m ≤ m') : LaySt base n P A G M f L m' km w :=
  ⟨h.hP, h.hA, h.hG, h.hM.mono hm, h.bP, h.bA, h.bG, h.bM⟩
set_option maxRecDepth 100000 in
set_option maxHeartbeats 8000000 in
theorem lab_known {base P A G M : Nat} {f : Nat → Int} {L : Nat → Bool} (w0 w : World) (l : List Itm) (v : Value) (HL : ArgS 8 itC w0 v l) (HO : ItsOK l) (HB0 : Below w0.heap.size w0 w) (hbase : base = w0.heap.size)
    (HS : LaySt base l.length P A G M f L 0 (fun _ => none) w) :
    Calls Try.prog 52 #[.pointer (some ⟨P, 0, none⟩), v] w fun e w' => e = .returned (.bool (knownB l)) ∧ LaySt base l.length P A G M f L l.length (mp l l.length) w' ∧ Below w0.heap.size w0 w' := by
  obtain ⟨a, c, rfl⟩ : ∃ a c, v = .slice a l.length c := by obtain ⟨a, c, hv, _⟩ := HL; exact ⟨a, c, hv⟩
  have hlen := HO.len
  have H1 := Lib.hid HL; have H2 := Lib.hid HO; have H4 := Lib.hid HB0; have H5 := Lib.hid HS; have H7 := Lib.hid hbase
  clear HL HO HB0 HS hbase
  go_enter Try.func52, Try.ntmps52
  go_wp2_with fail
  go_loopw [5, 16] (fun g i wr => ∃ k : Nat, k ≤ l.length ∧ i = .int .i64 k ∧ g = .bool (okL l k) ∧ LaySt base l.length P A G M f L k (mp l k) wr ∧ Below w0.heap.size w0 wr) (fun _ i _ => l.length - (intOf i).toNat)
  case atStart => exact ⟨0, Nat.zero_le _, rfl, rfl, H5.out, H4.out⟩
  case round =>
    obtain ⟨k, hk, rfl, rfl, hs, hb⟩ := hrel
    have HS := Lib.hid hs; have HB := Lib.hid hb
    clear hs hb
    obtain ⟨gr, hgr⟩ : ∃ g, okL l k = g := ⟨_, rfl⟩
    rw [hgr]
    have HG := Lib.hid hgr; clear hgr
    by_cases hlt : k < l.length
    · skip
      have hlt' := hlt
      obtain ⟨b, o, rfl, hb0, hcells⟩ := items_at H1.out k hlt
      obtain ⟨c0, c1, c2, c3, c4, c5, c6, c7⟩ := eight_cells (fun j u hj => (HB.out.cell (p := ⟨b, o + k * 8 + j, none⟩) hb0).trans (hcells j u hj))
      clear hcells
      have hsz := HB.out.size
      have hnm := H2.out.name k hlt
      obtain ⟨x, hx⟩ : ∃ x, it l k = x := ⟨_, rfl⟩
      rw [hx] at c0 c1 c2 c3 c4 c5 c6 c7 hnm
      have HX := Lib.hid hx; clear hx
      obtain ⟨kd, ⟨op, d, ia, ib, nn⟩, s, N⟩ := x
      simp only at c0 c1 c2 c3 c4 c5 c6 c7 hnm
      have HNM := Lib.hid hnm; clear hnm
      by_cases h3 : kd = 2
      case neg =>
        have h3' : ¬ (it l k).kind = 2 := by rw [HX.out]; exact h3
        have H3' := Lib.hid h3'
        have q3 : (kd == 2) = false := by simpa using h3
        clear h3 h3'
        go_wp2_with fail
        refine ⟨⟨k + 1, by omega, by go_num, ?_, ?_, ?_⟩, by simp [intOf]; omega⟩
        · exact congrArg Value.bool (by rw [okL_no H3'.out]; exact HG.out.symm)
        · rw [mp_same l k H3'.out]; exact (HS.out.up ((by repeat (first | (with_reducible exact Below.refl _ _) | (with_reducible refine bw_set ?_ ?_ _) | (with_reducible apply bw_alloc) | (with_reducible refine bw_tr ?_ (by with_reducible assumption)) | (with_reducible apply bw_drew) | omega)))).mono (by omega)
        · exact bw_tr HB.out ((by repeat (first | (with_reducible exact Below.refl _ _) | (with_reducible refine bw_set ?_ ?_ _) | (with_reducible apply bw_alloc) | (with_reducible refine bw_tr ?_ (by with_reducible assumption)) | (with_reducible apply bw_drew) | omega)))
      case pos =>
        subst h3
        have H3' := Lib.hid (show (it l k).kind = 2 by rw [HX.out])
        have HN' := Lib.hid (show (it l k).name = s by rw [HX.out])
        go_wp2_with fail
        clear c0 c1 c2 c3 c4 c5 c6 c7
        have hbW := (Below.refl wr.heap.size wr).alloc (Nat.le_refl _) (.cells #[.int .i64 2, .int .i64 op, .int .i64 d, .int .i64 ia, .int .i64 ib, .int .i64 nn, .string s, .int .i64 N] 26)
        have hxW := new_in wr (.cells #[.int .i64 2, .int .i64 op, .int .i64 d, .int .i64 ia, .int .i64 ib, .int .i64 nn, .string s, .int .i64 N] 26)
        generalize wr.alloc (.cells #[.int .i64 2, .int .i64 op, .int .i64 d, .int .i64 ia, .int .i64 ib, .int .i64 nn, .string s, .int .i64 N] 26) = W at *
        have HbW := Lib.hid hbW; have HxW := Lib.hid hxW; clear hbW hxW
        have HW := Lib.hid (HS.out.up HbW.out)
        have y0 := wd_cell (lt_in HW.out.hP) (show W.cell? ⟨P, 2, none⟩ = some (.map (some M)) from cell_in HW.out.hP rfl)
        have y1 := wd_cell (lt_in HxW.out) (show W.cell? ⟨wr.heap.size, 2 + 4, none⟩ = some (.string s) from cell_in HxW.out rfl)
        simp only [Nat.reduceAdd] at y1
        have y2 : ∀ x : Wd W, (Instr.lookup 59 (.map (some M)) (.string s) true).run Try.prog x.val = .ok (.tuple #[.int .i64 (((mp l k s).getD 0 : Nat) : Int), .bool (mp l k s).isSome]) x.val := fun x => (HW.out.hM.below x.bel HW.out.hM.lt).look_ok s HNM.out
        obtain ⟨q, hq⟩ : ∃ q : Int, (((mp l k s).getD 0 : Nat) : Int) = q := ⟨_, rfl⟩
        obtain ⟨hd, hhd⟩ : ∃ z, (mp l k s).isSome = z := ⟨_, rfl⟩
        simp only [hq, hhd] at y2
        have HHD := Lib.hid hhd
        clear hq hhd
        refine wp_region_below (by kernel_rfl) (by kernel_rfl) ?_
        repeat (go_big_quiet_step (fail))
        refine wpQuiet_nil ?_
        rintro w7 ⟨⟨w7x, hb7⟩, rfl⟩
        clear y0 y1 y2
        have HB7 := Lib.hid hb7; clear hb7
        have H7S := Lib.hid (HW.out.up HB7.out)
        have HOK : Hid (okL l (k + 1) = (gr && !hd)) := Lib.hid (by rw [okL_yes H3'.out, HN'.out, HG.out, HHD.out])
        cases gr <;> cases hd
        all_goals
          go_wp2_with fail
          have y0 := wd_cell (lt_in H7S.out.hP) (show w7.cell? ⟨P, 2, none⟩ = some (.map (some M)) from cell_in H7S.out.hP rfl)
          have y1 := wd_cell (lt_in (bel_in HB7.out (lt_in HxW.out) HxW.out)) (show w7.cell? ⟨wr.heap.size, 6, none⟩ = some (.string s) from cell_in (bel_in HB7.out (lt_in HxW.out) HxW.out) rfl)
          refine wp_region_below_tail 7 (by kernel_rfl) (by kernel_rfl) ?_
          simp only [List.take_succ_cons, List.take_zero, List.drop_succ_cons, List.drop_zero]
          repeat (go_big_quiet_step (fail))
          refine wpQuiet_nil ?_
          rintro w8 ⟨⟨w8x, hb8⟩, rfl⟩
          clear y0 y1
          have HB8 := Lib.hid hb8; clear hb8
          have H8S := Lib.hid (H7S.out.up HB8.out)
          obtain ⟨w9, hrun, hk9, hg9⟩ := H8S.out.hM.update s HNM.out (show k < maxLen by unfold maxLen; omega) k (by omega)
          have HK9 := Lib.hid hk9; have HG9 := Lib.hid hg9
          clear hk9 hg9
          go_wp2_with fail
          refine ⟨⟨k + 1, by omega, by go_num, ?_, ?_, ?_⟩, by simp [intOf]; omega⟩
          · exact congrArg Value.bool (by rw [HOK.out]; rfl)
          · refine H8S.out.setM HG9.out ?_
            rw [mp_succ l k H3'.out, HN'.out]; exact HK9.out
          · refine grown_bel9 (bw_tr HB.out (bw_tr HbW.out (bw_tr HB7.out HB8.out))) HG9.out ?_
            rw [← H7.out]; exact H8S.out.bM
    · obtain rfl : k = l.length := by omega
      go_wp2_with fail
      obtain ⟨wo, hwo⟩ : ∃ x, wr = x := ⟨_, rfl⟩
      subst hwo
      have HS0 := HS; have HB00 := HB
      have HGB := HG
      clear HS HB hlt HG hk
      go_loopw [5, 49] (fun g i ws => ∃ k : Nat, k ≤ l.length ∧ i = .int .i64 k ∧ g = .bool (gr && nmL l k) ∧ LaySt base l.length P A G M f L l.length (mp l l.length) ws ∧ Below w0.heap.size w0 ws) (fun _ i _ => l.length - (intOf i).toNat)
      case atStart => exact ⟨0, Nat.zero_le _, rfl, by simp [nmL], HS0.out, HB00.out⟩
      case round =>
      obtain ⟨k, hk, rfl, rfl, hs, hb⟩ := hrel
      have HS := Lib.hid hs; have HB := Lib.hid hb
      clear hs hb
      obtain ⟨gn, hgn⟩ : ∃ g, nmL l k = g := ⟨_, rfl⟩
      rw [hgn]
      have HG := Lib.hid hgn; clear hgn
      by_cases hlt : k < l.length
      case neg =>
        obtain rfl : k = l.length := by omega
        go_wp2_with fail
        go_ret
        refine ⟨ret1b ?_, HS.out, HB.out⟩
        unfold knownB; rw [HGB.out, HG.out]
      case pos =>
      skip
      obtain ⟨b, o, rfl, hb0, hcells⟩ := items_at H1.out k hlt
      obtain ⟨c0, c1, c2, c3, c4, c5, c6, c7⟩ := eight_cells (fun j u hj => (HB.out.cell (p := ⟨b, o + k * 8 + j, none⟩) hb0).trans (hcells j u hj))
      clear hcells
      have hsz := HB.out.size
      have hnm := H2.out.name k hlt
      obtain ⟨x, hx⟩ : ∃ x, it l k = x := ⟨_, rfl⟩
      rw [hx] at c0 c1 c2 c3 c4 c5 c6 c7 hnm
      have HX := Lib.hid hx; clear hx
      obtain ⟨kd, ⟨op, d, ia, ib, nn⟩, s, N⟩ := x
      simp only at c0 c1 c2 c3 c4 c5 c6 c7 hnm
      have HNM := Lib.hid hnm; clear hnm
      by_cases h3 : kd = 3
      case neg =>
        have h3' : ¬ (it l k).kind = 3 := by rw [HX.out]; exact h3
        have H3' := Lib.hid h3'
        have q3 : (kd == 3) = false := by simpa using h3
        clear h3 h3'
        go_wp2_with fail
        refine ⟨⟨k + 1, by omega, by go_num, ?_, ?_, ?_⟩, by simp [intOf]; omega⟩
        · exact congrArg Value.bool (by rw [nmL_no H3'.out, HG.out])
        · exact HS.out.up ((by repeat (first | (with_reducible exact Below.refl _ _) | (with_reducible refine bw_set ?_ ?_ _) | (with_reducible apply bw_alloc) | (with_reducible refine bw_tr ?_ (by with_reducible assumption)) | (with_reducible apply bw_drew) | omega)))
        · exact bw_tr HB.out ((by repeat (first | (with_reducible exact Below.refl _ _) | (with_reducible refine bw_set ?_ ?_ _) | (with_reducible apply bw_alloc) | (with_reducible refine bw_tr ?_ (by with_reducible assumption)) | (with_reducible apply bw_drew) | omega)))
      case pos =>
        subst h3
        have H3' := Lib.hid (show (it l k).kind = 3 by rw [HX.out])
        have HN' := Lib.hid (show (it l k).name = s by rw [HX.out])
        go_wp2_with fail
        clear c0 c1 c2 c3 c4 c5 c6 c7
        have hbW := (Below.refl wr.heap.size wr).alloc (Nat.le_refl _) (.cells #[.int .i64 3, .int .i64 op, .int .i64 d, .int .i64 ia, .int .i64 ib, .int .i64 nn, .string s, .int .i64 N] 26)
        have hxW := new_in wr (.cells #[.int .i64 3, .int .i64 op, .int .i64 d, .int .i64 ia, .int .i64 ib, .int .i64 nn, .string s, .int .i64 N] 26)
        generalize wr.alloc (.cells #[.int .i64 3, .int .i64 op, .int .i64 d, .int .i64 ia, .int .i64 ib, .int .i64 nn, .string s, .int .i64 N] 26) = W at *
        have HbW := Lib.hid hbW; have HxW := Lib.hid hxW; clear hbW hxW
        have HW := Lib.hid (HS.out.up HbW.out)
        have y0 := wd_cell (lt_in HW.out.hP) (show W.cell? ⟨P, 2, none⟩ = some (.map (some M)) from cell_in HW.out.hP rfl)
        have y1 := wd_cell (lt_in HxW.out) (show W.cell? ⟨wr.heap.size, 2 + 4, none⟩ = some (.string s) from cell_in HxW.out rfl)
        simp only [Nat.reduceAdd] at y1
        have y2 : ∀ x : Wd W, (Instr.lookup 59 (.map (some M)) (.string s) true).run Try.prog x.val = .ok (.tuple #[.int .i64 (((mp l l.length s).getD 0 : Nat) : Int), .bool (mp l l.length s).isSome]) x.val := fun x => (HW.out.hM.below x.bel HW.out.hM.lt).look_ok s HNM.out
        obtain ⟨q, hq⟩ : ∃ q : Int, (((mp l l.length s).getD 0 : Nat) : Int) = q := ⟨_, rfl⟩
        obtain ⟨hd, hhd⟩ : ∃ z, (mp l l.length s).isSome = z := ⟨_, rfl⟩
        simp only [hq, hhd] at y2
        have HHD := Lib.hid hhd
        clear hq hhd
        refine wp_region_below (by kernel_rfl) (by kernel_rfl) ?_
        repeat (go_big_quiet_step (fail))
        refine wpQuiet_nil ?_
        rintro w7 ⟨⟨w7x, hb7⟩, rfl⟩
        clear y0 y1 y2
        have HB7 := Lib.hid hb7; clear hb7
        have H7S := Lib.hid (HW.out.up HB7.out)
        have HOK : Hid (nmL l (k + 1) = (gn && hd)) := Lib.hid (by rw [nmL_yes H3'.out, HN'.out, HG.out]; unfold labI; rw [HHD.out])
        cases gr <;> cases gn <;> cases hd
        all_goals
          go_wp2_with fail
          refine ⟨⟨k + 1, by omega, by go_num, ?_, ?_, ?_⟩, by simp [intOf]; omega⟩
          · exact congrArg Value.bool (by rw [HOK.out]; rfl)
          · exact H7S.out
          · exact bw_tr HB.out (bw_tr HbW.out HB7.out)
end Go.Proofs.Ytfepdieeiplbnaa
