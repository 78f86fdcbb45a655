/-
  LabelLeads: whatever leads to a label comes to its place, whether near or far. No condition.
-/
import Derived.Test.YtfepdieeiplbnaaLabelShort
import Derived.Test.YtfepdieeiplbnaaWordsP
namespace Go.Proofs.Ytfepdieeiplbnaa
open Go.RowKit
set_option linter.unusedSimpArgs false
theorem decode_lit (x : Ins) (h : rightB x = true) (z : Int) (hz : encV x = z) (w : World) :
    Calls Try.prog 26 #[.int .i64 z] w fun e w' => e = .returned (.tuple #[.agg #[.int .i64 x.op, .int .i64 x.d, .int .i64 x.a, .int .i64 x.b, .int .i64 x.n], .int .i64 0]) ∧ Below w.heap.size w w' := by
  obtain ⟨h1, h2, h3⟩ := decode_enc x h
  rw [hz] at h1 h2 h3
  have := decode_any z w h1
  rw [h2, h3] at this
  exact this
theorem ref_opposite (op : Int) (w : World) (h : 5 ≤ op ∧ op ≤ 10) :
    Calls Try.prog 27 #[.int .i64 op] w fun e w' => e = .returned (.int .i64 (oppN op)) ∧ w = w' := by
  rcases (by omega : op = 5 ∨ op = 6 ∨ op = 7 ∨ op = 8 ∨ op = 9 ∨ op = 10) with rfl | rfl | rfl | rfl | rfl | rfl
  all_goals
    go_enter Try.func27, Try.ntmps27
    go_wp2_with fail
    go_ret
    exact ⟨by kernel_rfl, rfl⟩
set_option maxRecDepth 100000 in
set_option maxHeartbeats 16000000 in
theorem walkLabelLeads (v : Value) (raw : List Itm) (w : World) (HL : ArgS 8 itC w v raw) (HO : ∀ x ∈ raw, ok_item x) :
    Calls Try.prog 8 #[v] w fun e w' => e = .returned (.bool true) ∧ Below w.heap.size w w' := by
  obtain ⟨l, hl⟩ : ∃ l, fitL raw = l := ⟨_, rfl⟩
  have HF := hl ▸ fitted raw
  have hplb : pl l (longF l) l.length ≤ 80000 := by
    have := fitL_pl raw (longF (fitL raw)) _ (Nat.le_refl _)
    have h2 := HF.len
    rw [hl] at this; omega
  have FT := Lib.hid (fun w' hb => fit_law w' raw v (HL.below hb) HO l hl)
  have AL := Lib.hid (fun w' v' h => assemble_yes w' l v' h HF.nms HF.err)
  have PL := Lib.hid (fun w' v' h => places_yes w' l v' h HF.nms HF.err)
  have FI := Lib.hid (fun w' v' s h hs z hz => find_any w' l v' s h HF.nms hs z hz)
  have AW := Lib.hid (fun w => awake03 w)
  have HFF := Lib.hid HF; have HPB := Lib.hid hplb
  have hlen := HF.len
  have hend := insTo_len HF.all (longF l) (fun _ => long_to) l.length (Nat.le_refl _)
  have hend2 : pl l (longF l) l.length = 4 * (wordsOf l).length := by unfold wordsOf wordsTo; rw [List.length_map]; exact hend.symm
  obtain ⟨ws, hws⟩ : ∃ ws, wordsOf l = ws := ⟨_, rfl⟩
  have HW4 : Hid (ws.length ≤ 65536) := Lib.hid (by rw [← hws]; exact wordsTo_len HF.err _ (Nat.le_refl _))
  have hwl := HW4.out
  have WAT : Hid (∀ i j, i < l.length → ∀ x, (insOf l (longF l) i)[j]? = some x → ∀ q : Nat, pl l (longF l) i = 4 * q → ws[q + j]? = some (encV x)) := Lib.hid (fun i j hi x hj q hq => by rw [← hws]; exact words_at HF.all i j hi x hj q hq)
  rw [hws] at AL hend2
  have HEND := Lib.hid hend2
  clear HL HO hl HF hplb hend hend2 hws
  go_enter Try.func8, Try.ntmps8
  go_wp2_with fail
  with_reducible refine (AW.out _).mono ?_
  rintro e w1 ⟨rfl, hb1⟩
  go_wp2_with fail
  with_reducible refine (FT.out _ hb1).mono ?_
  rintro e w2 ⟨a4, c4, rfl, ha2, _, hb2⟩
  have HA2 := Lib.hid ha2
  have B2 := Lib.hid (bw_tr hb1 hb2)
  clear ha2 hb1 hb2
  go_wp2_with fail
  with_reducible refine (AL.out _ _ HA2.out).mono ?_
  rintro e w3 ⟨vw, rfl, how, hb3⟩
  obtain ⟨aw, cw, rfl⟩ := own_shape how
  have HOW := Lib.hid how; have HA3 := Lib.hid (HA2.out.below hb3); have B3 := Lib.hid (bw_tr B2.out hb3)
  clear how hb3
  go_wp2_with fail
  with_reducible refine (PL.out _ _ HA3.out).mono ?_
  rintro e w4 ⟨A, rfl, hA, _, hb4⟩
  have HP4 := Lib.hid hA; have HA4 := Lib.hid (HA3.out.below hb4); have B4 := Lib.hid (bw_tr B3.out hb4); have HOW4 := Lib.hid (own_below HOW.out hb4)
  clear hA hb4
  have hlA := lt_in HP4.out
  have hne : (((l.length + 1 : Nat) : Int) != (l.length : Int) + 1) = false := by simp
  have eT : w4.cell? ⟨A, l.length, none⟩ = some (.int .i64 (4 * (ws.length : Int))) := (cell_in HP4.out (cellsZ_get _ (by omega))).trans (by rw [HEND.out])
  have hnz : (4 * (ws.length : Int) != 4 * (ws.length : Int)) = false := by simp
  go_wp2_with fail
  clear eT hnz
  go_loopw [9] (fun i wr => ∃ k : Nat, k ≤ l.length ∧ i = .int .i64 k ∧ Below w4.heap.size w4 wr) (fun i _ => l.length - (intOf i).toNat)
  case atStart => exact ⟨0, Nat.zero_le _, rfl, Below.refl _ _⟩
  case round =>
    obtain ⟨k, hk, rfl, hb⟩ := hrel
    have HB := Lib.hid hb
    clear hb
    by_cases hlt : k < l.length
    case neg =>
      go_wp2_with fail
      go_ret
      exact ⟨rfl, bw_tr B4.out HB.out⟩
    case pos =>
    have hsz := HB.out.size
    obtain ⟨b, o, rfl, hb0, hcells⟩ := items_at HA4.out k hlt
    obtain ⟨c0, c1, c2, c3, c4', c5, c6, c7⟩ := eight_cells (fun j u hj => (HB.out.cell (p := ⟨b, o + k * 8 + j, none⟩) hb0).trans (hcells j u hj))
    clear hcells c5 c7
    have hb1 : b < wr.heap.size := by omega
    by_cases h3 : (it l k).kind = 3
    case neg =>
      obtain ⟨kd, hkd⟩ : ∃ kd, (it l k).kind = kd := ⟨_, rfl⟩
      rw [hkd] at c0 h3
      have hq : (kd != 3) = true := by simpa using h3
      clear hkd h3
      go_wp2_with fail
      exact ⟨⟨k + 1, by omega, by go_num, HB.out⟩, by simp [intOf]; omega⟩
    case pos =>
    rw [h3] at c0
    have hnm := HFF.out.nms.name k hlt
    have hzz := to_size h3 (longF l k)
    have hft := find_to HFF.out.err hlt h3
    have hbd := pl_bd HFF.out.all (longF l) k (by omega)
    have hdb := dst_bd HFF.out.all (longF l) k hlt (by omega)
    have hks := fun h => lead_short HFF.out.all hlt HPB.out h3 h
    have hkl := fun h => lead_long HFF.out.all hlt h3 h HPB.out
    have hgo := fun h : longF l k = true => (growK_iff _).1 (long_to h)
    have hto := (to_parts (HFF.out.all k hlt) h3).2.2.1
    have his := @insOf_short l (longF l) k h3
    have hil := @insOf_long l (longF l) k h3
    obtain ⟨q0, hq0⟩ := pl_four HFF.out.all k (by omega)
    have hw := fun j x hj => WAT.out k j hlt x hj q0 hq0
    have hP1 : pl l (longF l) (k + 1) = 4 * (q0 : Int) + 4 * (if longF l k = true then 2 else 1) := by
      show pl l (longF l) k + 4 * sizeZ (it l k) (longF l k) = _
      rw [hq0, hzz]
    have e0 : wr.cell? ⟨A, k, none⟩ = some (.int .i64 (4 * (q0 : Int))) := (HB.out.cell (p := ⟨A, k, none⟩) hlA).trans ((cell_in HP4.out (cellsZ_get _ (by omega))).trans (by rw [hq0]))
    have e1 : wr.cell? ⟨A, k + 1, none⟩ = some (.int .i64 (4 * (q0 : Int) + 4 * (if longF l k = true then 2 else 1))) := (HB.out.cell (p := ⟨A, k + 1, none⟩) hlA).trans ((cell_in HP4.out (cellsZ_get _ (by omega))).trans (by rw [hP1]))
    have hlA2 : A < wr.heap.size := by omega
    obtain ⟨x, hx⟩ : ∃ x, it l k = x := ⟨_, rfl⟩
    rw [hx] at c1 c2 c3 c4' c6 hnm hft hks hkl hgo hto his hil
    obtain ⟨g, hg⟩ : ∃ g, longF l k = g := ⟨_, rfl⟩
    obtain ⟨z, hz⟩ : ∃ z, dst l (longF l) k = z := ⟨_, rfl⟩
    rw [hg] at hks hkl hgo his hil e1
    rw [hz] at hdb hft hks hkl his hil
    rw [hq0] at hft hbd
    obtain ⟨kd, ⟨op, d, ia, ib, nn⟩, s, N⟩ := x
    simp only at c1 c2 c3 c4' c6 hnm hft hks hkl hgo hto his hil
    have FI1 := Lib.hid (fun w' (h : Below wr.heap.size wr w') => FI.out w' _ s ((HA4.out.below HB.out).below h) hnm (4 * (q0 : Int) + z) hft)
    have hdiv : (4 * (q0 : Int)) / 4 = q0 := by omega
    clear hx hg hz hq0 hP1 hft hnm h3 hzz
    cases g
    case false =>
      simp only [Bool.false_eq_true, if_false, Int.reduceMul] at e1
      have hr0 := hks rfl
      rw [his rfl] at hw
      clear hks hkl hgo hil
      have hw0 := hw 0 ⟨op, d, ia, ib, z⟩ rfl
      rw [Nat.add_zero] at hw0
      clear hw hto his
      have hlw : q0 < ws.length := (List.getElem?_eq_some_iff.1 hw0).1
      obtain ⟨g1, cc1, hv1, hg1, _, hc1⟩ := row_cells HOW4.out (by omega)
      injection hv1 with hv1 e8 e9
      subst hv1
      clear e8 e9
      obtain ⟨W0, hW0⟩ : ∃ y, encV ⟨op, d, ia, ib, z⟩ = y := ⟨_, rfl⟩
      rw [hW0] at hw0
      have m0 : wr.cell? ⟨g1, q0, none⟩ = some (.int .i64 W0) := (HB.out.cell (p := ⟨g1, q0, none⟩) hg1).trans (hc1 q0 _ (by simp [intsC, hw0]))
      have hg1r : g1 < wr.heap.size := by omega
      have DEC := Lib.hid (fun w => decode_lit ⟨op, d, ia, ib, z⟩ hr0 W0 hW0 w)
      simp only at DEC
      clear hr0 hW0 hw0 hc1
      go_wp2_with (first | (go_at_call 19; ((with_reducible refine (FI1.out _ (Below.refl _ _)).mono ?_); rintro e w5 ⟨rfl, hb5⟩; obtain ⟨j1, j2⟩ := bcell hb5; have z5 := hb5.size)) | (go_at_call 26; ((with_reducible refine (DEC.out _).mono ?_); rintro e w6 ⟨rfl, hb6⟩; have z6 : w5.heap.size ≤ w6.heap.size := hb6.size)))
      obtain ⟨W, hW⟩ : ∃ W, w6.alloc (.cells #[.int .i64 op, .int .i64 d, .int .i64 ia, .int .i64 ib, .int .i64 z] 24) = W := ⟨_, rfl⟩
      have hbW : Below wr.heap.size wr W := by rw [← hW]; exact bw_tr hb5 (bw_tr hb6 (bel_new w6 _))
      have hxW : W.heap[w6.heap.size]? = some (.cells #[.int .i64 op, .int .i64 d, .int .i64 ia, .int .i64 ib, .int .i64 z] 24 (0, 0)) := by rw [← hW]; exact new_in w6 _
      rw [hW]
      obtain ⟨n1, hn1⟩ : ∃ n1, w6.heap.size = n1 := ⟨_, rfl⟩
      rw [hn1] at hxW
      simp only [hn1]
      clear hW hn1 j1 j2 hb5 hb6 z5 z6
      have HbW := Lib.hid hbW; have HxW := Lib.hid hxW
      have hlx := lt_in hxW
      clear hxW hbW
      have y2 := fun x : Wd W => up_cell HbW.out hb1 c2 x; have y3 := fun x : Wd W => up_cell HbW.out hb1 c3 x; have y4 := fun x : Wd W => up_cell HbW.out hb1 c4' x
      have x1 := wd_cell hlx (cell_in HxW.out (j := 1) (u := .int .i64 (d)) rfl)
      have x2 := wd_cell hlx (cell_in HxW.out (j := 2) (u := .int .i64 (ia)) rfl)
      have x3 := wd_cell hlx (cell_in HxW.out (j := 3) (u := .int .i64 (ib)) rfl)
      have t1 : (d != d) = false := by simp
      have t2 : (ia != ia) = false := by simp
      have t3 : (ib != ib) = false := by simp
      refine wp_region_below (by kernel_rfl) (by kernel_rfl) ?_
      repeat (go_big_quiet_step (fail))
      refine wpQuiet_nil ?_
      rintro w7 ⟨⟨w7x, hb7⟩, rfl⟩
      have HB7 := Lib.hid (bw_tr HbW.out hb7); have HX7 := Lib.hid (bel_in hb7 hlx HxW.out)
      clear y2 y3 y4 x1 x2 x3 t1 t2 t3 hb7 hlx
      go_wp2_with fail
      have y0 := up_cell HB7.out hlA2 e0; have y1 := up_cell HB7.out hlA2 e1
      have s1 : IntKind.i64.wrap ((k : Int) + 1) = k + 1 := IntWalk.i64_in _ (by omega)
      have s2 : IntKind.i64.wrap (4 * (q0 : Int) + 4) = 4 * (q0 : Int) + 4 := IntWalk.i64_in _ (by omega)
      have n1x : ((k : Int) + 1).toNat = k + 1 := by omega
      have hI : (0 : Int) ≤ k + 1 := by omega
      have t4 : (4 * (q0 : Int) + 4 == 4 * (q0 : Int) + 4) = true := by simp
      refine wp_region_below (by kernel_rfl) (by kernel_rfl) ?_
      repeat (go_big_quiet_step (fail))
      refine wpQuiet_nil ?_
      rintro w8 ⟨⟨w8x, hb8⟩, rfl⟩
      have HB8 := Lib.hid (bw_tr HB7.out hb8); have HX8 := Lib.hid (bel_in hb8 (lt_in HX7.out) HX7.out)
      clear y0 y1 s1 s2 n1x hI t4 hb8
      have hlx := lt_in HX8.out
      go_wp2_with fail
      have y0 := up_cell HB8.out hlA2 e0; have y1 := up_cell HB8.out hb1 c1
      have x0 := wd_cell hlx (cell_in HX8.out (j := 0) (u := .int .i64 op) rfl); have x4 := wd_cell hlx (cell_in HX8.out (j := 4) (u := .int .i64 z) rfl)
      have s1 : IntKind.i64.wrap (4 * (q0 : Int) + z) = 4 * (q0 : Int) + z := IntWalk.i64_in _ (by omega)
      have t1 : (op != op) = false := by simp
      have t2 : (4 * (q0 : Int) + z != 4 * (q0 : Int) + z) = false := by simp
      refine wp_region_below (by kernel_rfl) (by kernel_rfl) ?_
      repeat (go_big_quiet_step (fail))
      refine wpQuiet_nil ?_
      rintro w9 ⟨⟨w9x, hb9⟩, rfl⟩
      have HB9 := Lib.hid (bw_tr HB8.out hb9)
      clear y0 y1 x0 x4 s1 t1 t2 hb9
      go_wp2_with fail
      exact ⟨⟨k + 1, by omega, by go_num, bw_tr HB.out HB9.out⟩, by simp [intOf]; omega⟩
    case true =>
      simp only [if_true, Int.reduceMul] at e1
      obtain ⟨hr0, hr1⟩ := hkl rfl
      have hop := br_bd (hto.resolve_right (hgo rfl).2)
      rw [hil rfl] at hw
      have hw1 := hw 1 _ rfl
      clear hks hkl hgo his
      have hw0 := hw 0 ⟨oppN op, d, ia, ib, 8⟩ rfl
      rw [Nat.add_zero] at hw0
      clear hw hto hil
      have hlw : q0 < ws.length := (List.getElem?_eq_some_iff.1 hw0).1
      have hlw1 : q0 + 1 < ws.length := (List.getElem?_eq_some_iff.1 hw1).1
      obtain ⟨g1, cc1, hv1, hg1, _, hc1⟩ := row_cells HOW4.out (by omega)
      injection hv1 with hv1 e8 e9
      subst hv1
      clear e8 e9
      obtain ⟨W0, hW0⟩ : ∃ y, encV ⟨oppN op, d, ia, ib, 8⟩ = y := ⟨_, rfl⟩
      rw [hW0] at hw0
      have m0 : wr.cell? ⟨g1, q0, none⟩ = some (.int .i64 W0) := (HB.out.cell (p := ⟨g1, q0, none⟩) hg1).trans (hc1 q0 _ (by simp [intsC, hw0]))
      have hg1r : g1 < wr.heap.size := by omega
      have DEC := Lib.hid (fun w => decode_lit ⟨oppN op, d, ia, ib, 8⟩ hr0 W0 hW0 w)
      simp only at DEC
      obtain ⟨W1, hW1⟩ : ∃ y, encV ⟨3, 0, 0, 0, z - 4⟩ = y := ⟨_, rfl⟩
      rw [hW1] at hw1
      have m1 : wr.cell? ⟨g1, q0 + 1, none⟩ = some (.int .i64 W1) := (HB.out.cell (p := ⟨g1, q0 + 1, none⟩) hg1).trans (hc1 (q0 + 1) _ (by simp [intsC, hw1]))
      have DEC1 := Lib.hid (fun w => decode_lit ⟨3, 0, 0, 0, z - 4⟩ hr1 W1 hW1 w)
      simp only at DEC1
      have OPP := Lib.hid (fun w => ref_opposite op w hop)
      clear hr1 hW1 hw1
      clear hr0 hW0 hw0 hc1
      go_wp2_with (first | (go_at_call 19; ((with_reducible refine (FI1.out _ (Below.refl _ _)).mono ?_); rintro e w5 ⟨rfl, hb5⟩; obtain ⟨j1, j2⟩ := bcell hb5; have z5 := hb5.size)) | (go_at_call 26; ((with_reducible refine (DEC.out _).mono ?_); rintro e w6 ⟨rfl, hb6⟩; have z6 : w5.heap.size ≤ w6.heap.size := hb6.size)))
      obtain ⟨W, hW⟩ : ∃ W, w6.alloc (.cells #[.int .i64 (oppN op), .int .i64 d, .int .i64 ia, .int .i64 ib, .int .i64 8] 24) = W := ⟨_, rfl⟩
      have hbW : Below wr.heap.size wr W := by rw [← hW]; exact bw_tr hb5 (bw_tr hb6 (bel_new w6 _))
      have hxW : W.heap[w6.heap.size]? = some (.cells #[.int .i64 (oppN op), .int .i64 d, .int .i64 ia, .int .i64 ib, .int .i64 8] 24 (0, 0)) := by rw [← hW]; exact new_in w6 _
      rw [hW]
      obtain ⟨n1, hn1⟩ : ∃ n1, w6.heap.size = n1 := ⟨_, rfl⟩
      rw [hn1] at hxW
      simp only [hn1]
      clear hW hn1 j1 j2 hb5 hb6 z5 z6
      have HbW := Lib.hid hbW; have HxW := Lib.hid hxW
      have hlx := lt_in hxW
      clear hxW hbW
      have y2 := fun x : Wd W => up_cell HbW.out hb1 c2 x; have y3 := fun x : Wd W => up_cell HbW.out hb1 c3 x; have y4 := fun x : Wd W => up_cell HbW.out hb1 c4' x
      have x1 := wd_cell hlx (cell_in HxW.out (j := 1) (u := .int .i64 (d)) rfl)
      have x2 := wd_cell hlx (cell_in HxW.out (j := 2) (u := .int .i64 (ia)) rfl)
      have x3 := wd_cell hlx (cell_in HxW.out (j := 3) (u := .int .i64 (ib)) rfl)
      have t1 : (d != d) = false := by simp
      have t2 : (ia != ia) = false := by simp
      have t3 : (ib != ib) = false := by simp
      refine wp_region_below (by kernel_rfl) (by kernel_rfl) ?_
      repeat (go_big_quiet_step (fail))
      refine wpQuiet_nil ?_
      rintro w7 ⟨⟨w7x, hb7⟩, rfl⟩
      have HB7 := Lib.hid (bw_tr HbW.out hb7); have HX7 := Lib.hid (bel_in hb7 hlx HxW.out)
      clear y2 y3 y4 x1 x2 x3 t1 t2 t3 hb7 hlx
      go_wp2_with fail
      have y0 := up_cell HB7.out hlA2 e0; have y1 := up_cell HB7.out hlA2 e1
      have s1 : IntKind.i64.wrap ((k : Int) + 1) = k + 1 := IntWalk.i64_in _ (by omega)
      have s2 : IntKind.i64.wrap (4 * (q0 : Int) + 4) = 4 * (q0 : Int) + 4 := IntWalk.i64_in _ (by omega)
      have n1x : ((k : Int) + 1).toNat = k + 1 := by omega
      have hI : (0 : Int) ≤ k + 1 := by omega
      have t4 : (4 * (q0 : Int) + 8 == 4 * (q0 : Int) + 4) = false := by simp <;> omega
      refine wp_region_below (by kernel_rfl) (by kernel_rfl) ?_
      repeat (go_big_quiet_step (fail))
      refine wpQuiet_nil ?_
      rintro w8 ⟨⟨w8x, hb8⟩, rfl⟩
      have HB8 := Lib.hid (bw_tr HB7.out hb8); have HX8 := Lib.hid (bel_in hb8 (lt_in HX7.out) HX7.out)
      clear y0 y1 s1 s2 n1x hI t4 hb8
      have hlx := lt_in HX8.out
      have m1' : w8.cell? ⟨g1, q0 + 1, none⟩ = some (.int .i64 W1) := (HB8.out.cell (p := ⟨g1, q0 + 1, none⟩) hg1r).trans m1
      have z8 := HB8.out.size
      go_wp2_with (go_at_call 26; ((with_reducible refine (DEC1.out _).mono ?_); rintro e w9 ⟨rfl, hb9⟩))
      have HB10 := Lib.hid (bw_tr HB8.out (bw_tr hb9 (bel_new w9 (.cells #[.int .i64 3, .int .i64 0, .int .i64 0, .int .i64 0, .int .i64 (z - 4)] 24))))
      have HX10 := Lib.hid (bel_in (bw_tr hb9 (bel_new w9 (.cells #[.int .i64 3, .int .i64 0, .int .i64 0, .int .i64 0, .int .i64 (z - 4)] 24))) hlx HX8.out)
      have HY10 := Lib.hid (new_in w9 (.cells #[.int .i64 3, .int .i64 0, .int .i64 0, .int .i64 0, .int .i64 (z - 4)] 24))
      generalize w9.alloc (.cells #[.int .i64 3, .int .i64 0, .int .i64 0, .int .i64 0, .int .i64 (z - 4)] 24) = V at *
      clear hb9 m1' z8 hlx
      have hlx := lt_in HX10.out; have hly := lt_in HY10.out
      have y0 := fun x : Wd V => up_cell HB10.out hlA2 e0 x; have y1 := fun x : Wd V => up_cell HB10.out hlA2 e1 x; have y2 := fun x : Wd V => up_cell HB10.out hb1 c1 x
      have x0 := wd_cell hlx (cell_in HX10.out (j := 0) (u := .int .i64 (oppN op)) rfl); have x4 := wd_cell hlx (cell_in HX10.out (j := 4) (u := .int .i64 8) rfl)
      have v0 := wd_cell hly (cell_in HY10.out (j := 0) (u := .int .i64 3) rfl); have v1 := wd_cell hly (cell_in HY10.out (j := 1) (u := .int .i64 0) rfl); have v4 := wd_cell hly (cell_in HY10.out (j := 4) (u := .int .i64 (z - 4)) rfl)
      have s1 : IntKind.i64.wrap ((k : Int) + 1) = k + 1 := IntWalk.i64_in _ (by omega)
      have s2 : IntKind.i64.wrap (4 * (q0 : Int) + 8) = 4 * (q0 : Int) + 8 := IntWalk.i64_in _ (by omega)
      have s3 : IntKind.i64.wrap (4 * (q0 : Int) + 4) = 4 * (q0 : Int) + 4 := IntWalk.i64_in _ (by omega)
      have s4 : IntKind.i64.wrap (4 * (q0 : Int) + 4 + (z - 4)) = 4 * (q0 : Int) + 4 + (z - 4) := IntWalk.i64_in _ (by omega)
      have n1x : ((k : Int) + 1).toNat = k + 1 := by omega
      have hI : (0 : Int) ≤ k + 1 := by omega
      have t1 : (4 * (q0 : Int) + 8 != 4 * (q0 : Int) + 8) = false := by simp
      have t2 : (oppN op != oppN op) = false := by simp
      have t3 : (4 * (q0 : Int) + 4 + (z - 4) != 4 * (q0 : Int) + z) = false := by simp <;> omega
      refine wp_region_below (by kernel_rfl) (by kernel_rfl) ?_
      repeat (go_big_quiet_step ((go_at_call 27; with_reducible exact quiet_s (OPP.out _))))
      refine wpQuiet_nil ?_
      rintro w11 ⟨⟨w11x, hb11⟩, rfl⟩
      have HB11 := Lib.hid (bw_tr HB10.out hb11)
      clear y0 y1 y2 x0 x4 v0 v1 v4 s1 s2 s3 s4 n1x hI t1 t2 t3 hb11
      go_wp2_with fail
      exact ⟨⟨k + 1, by omega, by go_num, bw_tr HB.out HB11.out⟩, by simp [intOf]; omega⟩
end Go.Proofs.Ytfepdieeiplbnaa
