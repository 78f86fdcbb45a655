/-
  The contract of writer.lead.
-/
import Derived.Test.YtfepdieeiplbnaaLabPut
namespace Go.Proofs.Ytfepdieeiplbnaa
open Go.RowKit
set_option linter.unusedSimpArgs false
theorem up_cell {W w0 : World} {b o : Nat} {v : Value} (h : Below W.heap.size W w0) (hlt : b < W.heap.size) (hc : W.cell? ⟨b, o, none⟩ = some v) (x : Wd w0) : x.val.cell? ⟨b, o, none⟩ = some v :=
  wd_cell (Nat.lt_of_lt_of_le hlt h.size) ((h.cell (p := ⟨b, o, none⟩) hlt).trans hc) x
theorem to_parts {x : Itm} (h : itemB x = true) (hk : x.kind = 3) : rightB x.i = true ∧ x.i.n = 0 ∧ (isBr x.i.op = true ∨ x.i.op = 3) ∧ x.n = 0 ∧ labelB x.name = true := by
  unfold itemB at h
  rw [if_neg (by omega), if_neg (by omega), if_pos hk] at h
  simp only [Bool.and_eq_true, toB, decide_eq_true_eq, Bool.or_eq_true] at h
  obtain ⟨h1, h2, h3, h4, h5⟩ := h
  refine ⟨h2, h3, h4, ?_, h5⟩
  rw [h1]
theorem br_bd {op : Int} (h : isBr op = true) : 5 ≤ op ∧ op ≤ 10 := by simpa [isBr] using h
theorem dst_bd {l : List Itm} (h : allB l) (L : Nat → Bool) (i : Nat) (hi : i < l.length) (hl : l.length ≤ 40000) : -655360000 ≤ dst l L i ∧ dst l L i ≤ 655360000 := by
  unfold dst
  have h1 := pl_bd h L i (by omega)
  have hj : ((labI l (it l i).name).getD 0) ≤ l.length := by
    cases e : labI l (it l i).name with
    | none => simp
    | some j => have := (mp_some e).1; simp; omega
  have h2 := pl_bd h L _ hj
  omega
theorem insOf_short {l : List Itm} {L : Nat → Bool} {i : Nat} (hk : (it l i).kind = 3) (hL : L i = false) : insOf l L i = [⟨(it l i).i.op, (it l i).i.d, (it l i).i.a, (it l i).i.b, dst l L i⟩] := by
  unfold insOf; rw [if_neg (by omega), if_pos hk, hL]; rfl
theorem insOf_long {l : List Itm} {L : Nat → Bool} {i : Nat} (hk : (it l i).kind = 3) (hL : L i = true) : insOf l L i = [⟨oppN (it l i).i.op, (it l i).i.d, (it l i).i.a, (it l i).i.b, 8⟩, ⟨3, 0, 0, 0, dst l L i - 4⟩] := by
  unfold insOf; rw [if_neg (by omega), if_pos hk, hL]; rfl
theorem ins_one (w : World) (op d a b n : Int) (B : Nat) (hB : B = w.heap.size) : InsAt (w.alloc (.cells #[.int .i64 op, .int .i64 d, .int .i64 a, .int .i64 b, .int .i64 n] 24)) (.slice (some ⟨B, 0, none⟩) 1 1) [⟨op, d, a, b, n⟩] := by subst hB; exact .inr ⟨_, rfl, new_in w _⟩
theorem ins_two (w : World) (op d a b n op' d' a' b' n' : Int) (B : Nat) (hB : B = w.heap.size) : InsAt (w.alloc (.cells #[.int .i64 op, .int .i64 d, .int .i64 a, .int .i64 b, .int .i64 n, .int .i64 op', .int .i64 d', .int .i64 a', .int .i64 b', .int .i64 n'] 24)) (.slice (some ⟨B, 0, none⟩) 2 2) [⟨op, d, a, b, n⟩, ⟨op', d', a', b', n'⟩] := by subst hB; exact .inr ⟨_, rfl, new_in w _⟩
theorem set5 {w : World} {q T : Nat} {a0 a1 a2 a3 a4 : Value} (x0 x1 x2 x3 x4 : Value) (h : w.heap[q]? = some (.cells #[a0, a1, a2, a3, a4] T (0, 0))) :
    (((((w.setCell ⟨q, 0, none⟩ x0).setCell ⟨q, 1, none⟩ x1).setCell ⟨q, 2, none⟩ x2).setCell ⟨q, 3, none⟩ x3).setCell ⟨q, 4, none⟩ x4).heap[q]? = some (.cells #[x0, x1, x2, x3, x4] T (0, 0)) := by
  have := set_in (set_in (set_in (set_in (set_in h 0 x0) 1 x1) 2 x2) 3 x3) 4 x4
  simpa using this
theorem five_cells {w : World} {q T : Nat} {a0 a1 a2 a3 a4 : Value} (h : w.heap[q]? = some (.cells #[a0, a1, a2, a3, a4] T (0, 0))) :
    (w.cell? ⟨q, 0, none⟩ = some a0 ∧ w.cell? ⟨q, 1, none⟩ = some a1 ∧ w.cell? ⟨q, 2, none⟩ = some a2 ∧ w.cell? ⟨q, 3, none⟩ = some a3 ∧ w.cell? ⟨q, 4, none⟩ = some a4) ∧
    (w.frozen? ⟨q, 0, none⟩ = false ∧ w.frozen? ⟨q, 1, none⟩ = false ∧ w.frozen? ⟨q, 2, none⟩ = false ∧ w.frozen? ⟨q, 3, none⟩ = false ∧ w.frozen? ⟨q, 4, none⟩ = false) :=
  ⟨⟨cell_in h rfl, cell_in h rfl, cell_in h rfl, cell_in h rfl, cell_in h rfl⟩, frozen_in h _, frozen_in h _, frozen_in h _, frozen_in h _, frozen_in h _⟩
set_option maxRecDepth 100000 in
set_option maxHeartbeats 8000000 in
theorem lab_lead (w0 w : World) {base m q P A G M : Nat} {ws : List Int} {wv : Value} {L : Nat → Bool} (l : List Itm) (i : Nat) (hi : i < l.length) (HO : ItsOK l) (HA : allB l) (hk : (it l i).kind = 3) (hL : L i = true → growK (it l i) = true)
    (HLS : LaySt base l.length P A G M (pl l L) L m (mp l l.length) w0) (HW : WSt w0.heap.size q P ws wv w) (HB : Below w0.heap.size w0 w) (hsz : ws.length + 2 ≤ 1000000) :
    Calls Try.prog 57 #[.pointer (some ⟨q, 0, none⟩), .int .i64 i, itV (it l i)] w fun e w' => e = .returned (.tuple #[]) ∧ ∃ wv', WSt w0.heap.size q P (ws ++ (insOf l L i).map encV) wv' w' ∧ Below w0.heap.size w0 w' := by
  obtain ⟨t1, t2, t3, t4, t5⟩ := to_parts (HA i hi) hk
  have zb := dst_bd HA L i hi HO.len
  have hnm := HO.name i hi
  have hln := HO.len
  have HLw := Lib.hid (HLS.up HB)
  have HDB : Hid (∀ j, j < l.length + 1 → 0 ≤ pl l L j ∧ pl l L j ≤ 100000000000) := Lib.hid (fun j hj => by have := pl_bd HA L j (by omega); omega)
  have HSH := Lib.hid (@insOf_short l L i hk)
  have HLO := Lib.hid (@insOf_long l L i hk)
  have HDZ : Hid (pl l L ((mp l l.length (it l i).name).getD 0) - pl l L i = dst l L i) := Lib.hid rfl
  obtain ⟨x, hx⟩ : ∃ x, it l i = x := ⟨_, rfl⟩
  rw [hx] at t2 t3 t4 hnm HSH HLO HDZ hL hk ⊢
  obtain ⟨kd, ⟨op, d, ia, ib, nn⟩, s, N⟩ := x
  obtain ⟨z, hz⟩ : ∃ z, dst l L i = z := ⟨_, rfl⟩
  rw [hz] at zb HSH HLO HDZ
  simp only at t2 t3 t4 hnm HSH HLO HDZ hk
  subst t2 t4 hk
  have hop : L i = true → 5 ≤ op ∧ op ≤ 10 := fun h => by
    have := ((growK_iff _).1 (hL h)).2
    rcases t3 with t | t
    · exact br_bd t
    · exact absurd t this
  obtain ⟨g, hg⟩ : ∃ g, L i = g := ⟨_, rfl⟩
  have HGI := Lib.hid hg
  have HOP := Lib.hid (hg ▸ hop)
  have HWW := Lib.hid HW; have HBB := Lib.hid HB
  clear t1 t3 t5 HO HA hL HLS HW HB hx hz hop hg
  unfold itV
  have hbx := bel_new w (.cells #[.int .i64 3, .int .i64 op, .int .i64 d, .int .i64 ia, .int .i64 ib, .int .i64 0, .string s, .int .i64 0] 26)
  have hnx := new_in w (.cells #[.int .i64 3, .int .i64 op, .int .i64 d, .int .i64 ia, .int .i64 ib, .int .i64 0, .string s, .int .i64 0] 26)
  go_enter Try.func57, Try.ntmps57
  go_wp2_with fail
  generalize w.alloc (.cells #[.int .i64 3, .int .i64 op, .int .i64 d, .int .i64 ia, .int .i64 ib, .int .i64 0, .string s, .int .i64 0] 26) = W at *
  have HbW := Lib.hid hbx; have HxW := Lib.hid hnx
  have HLW := Lib.hid (HLw.out.up hbx)
  have HW1 := Lib.hid (HWW.out.up hbx)
  have HB1 := Lib.hid (bw_tr HBB.out hbx)
  clear hbx hnx
  have HDIST : Hid (∀ w', Below W.heap.size W w' → Calls Try.prog 69 #[.pointer (some ⟨P, 0, none⟩), .int .i64 i, .agg #[.int .i64 3, .int .i64 op, .int .i64 d, .int .i64 ia, .int .i64 ib, .int .i64 0, .string s, .int .i64 0]] w' fun e w'' => e = .returned (.int .i64 z) ∧ Below w'.heap.size w' w'') := Lib.hid (fun w' hw' => by
    have := lab_distance (HLW.out.up hw') i hi ⟨3, ⟨op, d, ia, ib, 0⟩, s, 0⟩ hnm (lab_lt l l.length s) HDB.out
    rw [← HDZ.out]; exact this)
  clear HDB HDZ
  refine wp_region_up (fun w' => Below W.heap.size W w') [true, true, true, true, true, true, true, true, true] (by kernel_rfl) (by kernel_rfl) (by kernel_rfl) (fun _ _ h hu => bw_tr h hu) (Below.refl _ _) ?ra ?rh ?rt
  case rh =>
    intro u0 h0
    have y0 := up_cell h0 (lt_in HxW.out) (cell_in HxW.out (j := 0) (u := .int .i64 3) rfl)
    have y1 := up_cell h0 (lt_in HxW.out) (cell_in HxW.out (j := 1) (u := .int .i64 op) rfl)
    have y2 := up_cell h0 (lt_in HxW.out) (cell_in HxW.out (j := 2) (u := .int .i64 d) rfl)
    have y3 := up_cell h0 (lt_in HxW.out) (cell_in HxW.out (j := 3) (u := .int .i64 ia) rfl)
    have y4 := up_cell h0 (lt_in HxW.out) (cell_in HxW.out (j := 4) (u := .int .i64 ib) rfl)
    have y5 := up_cell h0 (lt_in HxW.out) (cell_in HxW.out (j := 5) (u := .int .i64 0) rfl)
    have y6 := up_cell h0 (lt_in HxW.out) (cell_in HxW.out (j := 6) (u := .string s) rfl)
    have y7 := up_cell h0 (lt_in HxW.out) (cell_in HxW.out (j := 7) (u := .int .i64 0) rfl)
    have y8 := up_cell h0 (lt_in HW1.out.hW) (cell_in HW1.out.hW (j := 0) (u := .pointer (some ⟨P, 0, none⟩)) rfl)
    have HC := Lib.hid (fun x : Wd u0 => quiet_b (x := x) (HDIST.out x.val (bw_tr h0 x.bel)))
    clear h0
    simp only [pickM]
    repeat (go_big_quiet_step ((go_at_call 69; with_reducible exact HC.out _)))
    refine wpQuiet_nil ?_
    rfl
  case rt =>
    change wpAnyU _ _ _ _ _ 3 _ _ _
    refine anyU_one (i := 9) (by kernel_rfl) rfl ?_
    intro u9 hu9 hc9
    have hn9 := new_in u9 (.cells #[.int .i64 0, .int .i64 0, .int .i64 0, .int .i64 0, .int .i64 0] 24)
    obtain ⟨n1, hn1⟩ : ∃ n1, u9.heap.size = n1 := ⟨_, rfl⟩
    have hn1W : W.heap.size ≤ n1 := by rw [← hn1]; exact hc9.size
    clear hu9
    go_wp2_with fail
    rw [hn1] at hn9
    refine ⟨(by repeat (first | (with_reducible exact Below.refl _ _) | (with_reducible refine bw_set ?_ ?_ _) | (with_reducible apply bw_alloc) | (with_reducible refine bw_tr ?_ (by with_reducible assumption)) | (with_reducible apply bw_drew) | omega)), ?_⟩
    refine anyU_one (i := 10) (by kernel_rfl) rfl ?_
    intro u10 hu10 hc10
    have hn10 := bel_in hu10 (lt_in hn9) hn9
    have HN10 := Lib.hid hn10
    clear hu10 hn9 hc9 hn1
    obtain ⟨⟨m0, m1, m2, m3, m4⟩, e0, e1, e2, e3, e4⟩ := five_cells hn10
    have hlt10 := lt_in hn10
    clear hn10
    go_wp2_with fail
    refine ⟨(by repeat (first | (with_reducible exact Below.refl _ _) | (with_reducible refine bw_set ?_ ?_ _) | (with_reducible apply bw_alloc) | (with_reducible refine bw_tr ?_ (by with_reducible assumption)) | (with_reducible apply bw_drew) | omega)), ?_⟩
    have hn10 := set5 (.int .i64 op) (.int .i64 d) (.int .i64 ia) (.int .i64 ib) (.int .i64 0) HN10.out
    refine anyU_one (i := 11) (by kernel_rfl) rfl ?_
    intro u11 hu11 hc11
    have hn11 := bel_in hu11 (lt_in hn10) hn10
    clear hu11 hn10 hc10 HN10 m0 m1 m2 m3 m4 e0 e1 e2 e3 e4 hlt10
    go_wp2_with fail
    refine ⟨hc11, ?_⟩
    refine anyU_nil (by kernel_rfl) ?_
    intro u12 hu12 hc12
    have HN := Lib.hid (bel_in hu12 (lt_in hn11) hn11)
    have hltn := lt_in HN.out
    clear hu12 hn11 hc11
    have HL12 := Lib.hid (HLW.out.up hc12)
    have HW12 := Lib.hid (HW1.out.up hc12)
    obtain ⟨⟨m0, m1, m2, m3, m4⟩, e0, e1, e2, e3, e4⟩ := five_cells HN.out
    have p0 : u12.cell? ⟨q, 0, none⟩ = some (.pointer (some ⟨P, 0, none⟩)) := cell_in HW12.out.hW rfl
    have p1 : u12.cell? ⟨P, 1, none⟩ = some (.slice (some ⟨G, 0, none⟩) l.length l.length) := cell_in HL12.out.hP rfl
    have p2 : u12.cell? ⟨G, i, none⟩ = some (.bool g) := (cell_in HL12.out.hG (cellsL_get _ hi)).trans (by rw [HGI.out])
    cases g
    case false =>
      have HE := Lib.hid (HSH.out HGI.out)
      go_wp2_with fail
      have HPUT := Lib.hid (fun (w' : World) (v : Value) h1 h2 h3 => lab_put w0 w' (q := q) (P := P) (ws := ws) (wv := wv) (v := v) [⟨op, d, ia, ib, z⟩] h1 h2 h3 (by simp; omega))
      with_reducible refine (HPUT.out _ _ ?h1w ?h1b (ins_one _ _ _ _ _ _ _ (by simp only [size_set]))).mono ?_
      case h1w => exact HW1.out.up ((by repeat (first | (with_reducible exact Below.refl _ _) | (with_reducible refine bw_set ?_ ?_ _) | (with_reducible apply bw_alloc) | (with_reducible refine bw_tr ?_ (by with_reducible assumption)) | (with_reducible apply bw_drew) | omega)))
      case h1b => exact bw_tr HB1.out ((by repeat (first | (with_reducible exact Below.refl _ _) | (with_reducible refine bw_set ?_ ?_ _) | (with_reducible apply bw_alloc) | (with_reducible refine bw_tr ?_ (by with_reducible assumption)) | (with_reducible apply bw_drew) | omega)))
      rintro e w3 ⟨rfl, wv', hw', hb'⟩
      go_wp2_with fail
      exact bodyPost_ret (v := .tuple #[]) (by simp [results, Try.results57, go_sem]) rfl ⟨rfl, wv', by rw [HE.out]; exact hw', hb'⟩
    case true =>
      have HE := Lib.hid (HLO.out HGI.out)
      have hop := HOP.out rfl
      go_wp2_with (go_at_call 71; ((with_reducible refine (opposite_any op _ hop).mono ?_); rintro e w1 ⟨rfl, rfl⟩))
      have HPUT := Lib.hid (fun (w' : World) (v : Value) h1 h2 h3 => lab_put w0 w' (q := q) (P := P) (ws := ws) (wv := wv) (v := v) [⟨oppN op, d, ia, ib, 8⟩, ⟨3, 0, 0, 0, z - 4⟩] h1 h2 h3 (by simp; omega))
      with_reducible refine (HPUT.out _ _ ?h2w ?h2b (ins_two _ _ _ _ _ _ _ _ _ _ _ _ (by simp only [size_set]))).mono ?_
      case h2w => exact HW1.out.up ((by repeat (first | (with_reducible exact Below.refl _ _) | (with_reducible refine bw_set ?_ ?_ _) | (with_reducible apply bw_alloc) | (with_reducible refine bw_tr ?_ (by with_reducible assumption)) | (with_reducible apply bw_drew) | omega)))
      case h2b => exact bw_tr HB1.out ((by repeat (first | (with_reducible exact Below.refl _ _) | (with_reducible refine bw_set ?_ ?_ _) | (with_reducible apply bw_alloc) | (with_reducible refine bw_tr ?_ (by with_reducible assumption)) | (with_reducible apply bw_drew) | omega)))
      rintro e w3 ⟨rfl, wv', hw', hb'⟩
      go_wp2_with fail
      go_end0
      exact ⟨rfl, wv', by rw [HE.out]; exact hw', hb'⟩
end Go.Proofs.Ytfepdieeiplbnaa
