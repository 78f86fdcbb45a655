/-
  LabelBetween: what is between is as it was. No condition.
-/
import Derived.Test.YtfepdieeiplbnaaLabelLeads
namespace Go.Proofs.Ytfepdieeiplbnaa
open Go.RowKit
set_option linter.unusedSimpArgs false
theorem find_lab {l : List Itm} (he : errOf l = 0) {i : Nat} (hi : i < l.length) (hk : (it l i).kind = 2) : findZ l (it l i).name = pl l (longF l) i := by
  obtain ⟨_, _, h3, _⟩ := err_parts he
  unfold knownB at h3
  rw [Bool.and_eq_true] at h3
  unfold findZ
  rw [if_pos he]
  have : labI l (it l i).name = some i := labI_at h3.1 i hi hk
  rw [this]
theorem InsAt.below {w w' : World} {v : Value} {xs : List Ins} (h : InsAt w v xs) (hb : Below w.heap.size w w') : InsAt w' v xs := by
  rcases h with h | ⟨B, h1, h2⟩
  · exact .inl h
  · exact .inr ⟨B, h1, bel_in hb (lt_in h2) h2⟩
theorem nop_word : encV ⟨13, 0, 0, 0, 0⟩ = 19 := by decide +kernel
theorem ins_right {x : Itm} (h : itemB x = true) (hk : x.kind = 1) : rightB x.i = true := by
  unfold itemB at h
  rw [if_pos hk, Bool.and_eq_true] at h
  exact h.2
theorem num_parts {x : Itm} (h : itemB x = true) (hk : x.kind = 4) : 1 ≤ x.i.d ∧ x.i.d < 32 ∧ wrap32 x.n = x.n := by
  unfold itemB at h
  rw [if_neg (by omega), if_neg (by omega), if_neg (by omega), if_pos hk, Bool.and_eq_true] at h
  have h2 := h.2
  unfold numB at h2
  simpa using h2
theorem labL_right {d n : Int} (h : 1 ≤ d ∧ d < 32 ∧ wrap32 n = n) : ∀ x ∈ labL d n, rightB x = true := by
  intro x hx
  by_cases h2 : -2048 ≤ n ∧ n ≤ 2047
  · rw [lab_one ⟨h.1, h.2.1⟩ h.2.2 h2] at hx
    simp at hx
    subst hx
    exact right_mk _ (shI 13 (by omega)) (by omega) ⟨by omega, by omega, .inl rfl⟩ ⟨by omega, by omega, .inl rfl⟩ ⟨by omega, by omega, .inr rfl⟩ h2 rfl
  · rw [lab_two ⟨h.1, h.2.1⟩ h.2.2 h2] at hx
    simp at hx
    rcases hx with rfl | rfl
    · exact right_mk _ (shU 1 (by omega)) (by omega) ⟨by omega, by omega, .inl rfl⟩ ⟨by omega, by omega, .inr rfl⟩ ⟨by omega, by omega, .inr rfl⟩ (hi_bd n) rfl
    · exact right_mk _ (shI 13 (by omega)) (by omega) ⟨by omega, by omega, .inl rfl⟩ ⟨by omega, by omega, .inl rfl⟩ ⟨by omega, by omega, .inr rfl⟩ (lo_bd n) rfl
set_option maxRecDepth 100000 in
set_option maxHeartbeats 16000000 in
theorem walkLabelBetween (v : Value) (raw : List Itm) (w : World) (HL : ArgS 8 itC w v raw) (HO : ∀ x ∈ raw, ok_item x) :
    Calls Try.prog 9 #[v] w fun e w' => e = .returned (.bool true) ∧ Below w.heap.size w w' := by
  obtain ⟨l, hl⟩ : ∃ l, fitL raw = l := ⟨_, rfl⟩
  have HF := hl ▸ fitted raw
  have hplb : pl l (longF l) l.length ≤ 80000 := by
    have := fitL_pl raw (longF (fitL raw)) _ (Nat.le_refl _)
    have h2 := HF.len
    rw [hl] at this; omega
  have FT := Lib.hid (fun w' hb => fit_law w' raw v (HL.below hb) HO l hl)
  have AL := Lib.hid (fun w' v' h => assemble_yes w' l v' h HF.nms HF.err)
  have PL := Lib.hid (fun w' v' h => places_yes w' l v' h HF.nms HF.err)
  have FI := Lib.hid (fun w' v' s h hs z hz => find_any w' l v' s h HF.nms hs z hz)
  have AW := Lib.hid (fun w => awake03 w)
  have HFF := Lib.hid HF; have HPB := Lib.hid hplb
  have hlen := HF.len
  have hend := insTo_len HF.all (longF l) (fun _ => long_to) l.length (Nat.le_refl _)
  have hend2 : pl l (longF l) l.length = 4 * (wordsOf l).length := by unfold wordsOf wordsTo; rw [List.length_map]; exact hend.symm
  obtain ⟨ws, hws⟩ : ∃ ws, wordsOf l = ws := ⟨_, rfl⟩
  have HW4 : Hid (ws.length ≤ 65536) := Lib.hid (by rw [← hws]; exact wordsTo_len HF.err _ (Nat.le_refl _))
  have hwl := HW4.out
  have WAT : Hid (∀ i j, i < l.length → ∀ x, (insOf l (longF l) i)[j]? = some x → ∀ q : Nat, pl l (longF l) i = 4 * q → ws[q + j]? = some (encV x)) := Lib.hid (fun i j hi x hj q hq => by rw [← hws]; exact words_at HF.all i j hi x hj q hq)
  rw [hws] at AL hend2
  have HEND := Lib.hid hend2
  clear HL HO hl HF hplb hend hend2 hws
  go_enter Try.func9, Try.ntmps9
  go_wp2_with fail
  with_reducible refine (AW.out _).mono ?_
  rintro e w1 ⟨rfl, hb1⟩
  go_wp2_with fail
  with_reducible refine (FT.out _ hb1).mono ?_
  rintro e w2 ⟨a4, c4, rfl, ha2, _, hb2⟩
  have HA2 := Lib.hid ha2
  have B2 := Lib.hid (bw_tr hb1 hb2)
  clear ha2 hb1 hb2
  go_wp2_with fail
  with_reducible refine (AL.out _ _ HA2.out).mono ?_
  rintro e w3 ⟨vw, rfl, how, hb3⟩
  obtain ⟨aw, cw, rfl⟩ := own_shape how
  have HOW := Lib.hid how; have HA3 := Lib.hid (HA2.out.below hb3); have B3 := Lib.hid (bw_tr B2.out hb3)
  clear how hb3
  go_wp2_with fail
  with_reducible refine (PL.out _ _ HA3.out).mono ?_
  rintro e w4 ⟨A, rfl, hA, _, hb4⟩
  have HP4 := Lib.hid hA; have HA4 := Lib.hid (HA3.out.below hb4); have B4 := Lib.hid (bw_tr B3.out hb4); have HOW4 := Lib.hid (own_below HOW.out hb4)
  clear hA hb4
  have hlA := lt_in HP4.out
  have hne : (((l.length + 1 : Nat) : Int) != (l.length : Int) + 1) = false := by simp
  have eT : w4.cell? ⟨A, l.length, none⟩ = some (.int .i64 (4 * (ws.length : Int))) := (cell_in HP4.out (cellsZ_get _ (by omega))).trans (by rw [HEND.out])
  have hnz : (4 * (ws.length : Int) != 4 * (ws.length : Int)) = false := by simp
  go_wp2_with fail
  clear eT hnz
  go_loopw [9] (fun i wr => ∃ k : Nat, k ≤ l.length ∧ i = .int .i64 k ∧ Below w4.heap.size w4 wr) (fun i _ => l.length - (intOf i).toNat)
  case atStart => exact ⟨0, Nat.zero_le _, rfl, Below.refl _ _⟩
  case round =>
    obtain ⟨k, hk, rfl, hb⟩ := hrel
    have HB := Lib.hid hb
    clear hb
    by_cases hlt : k < l.length
    case neg =>
      go_wp2_with fail
      go_ret
      exact ⟨rfl, bw_tr B4.out HB.out⟩
    case pos =>
    have hsz := HB.out.size
    obtain ⟨b, o, rfl, hb0, hcells⟩ := items_at HA4.out k hlt
    obtain ⟨c0, c1, c2, c3, c4', c5, c6, c7⟩ := eight_cells (fun j u hj => (HB.out.cell (p := ⟨b, o + k * 8 + j, none⟩) hb0).trans (hcells j u hj))
    clear hcells
    have hb1 : b < wr.heap.size := by omega
    have hit := HFF.out.all k hlt
    have hnm := HFF.out.nms.name k hlt
    have hnn := HFF.out.nms.num k hlt
    have hbd := pl_bd HFF.out.all (longF l) k (by omega)
    obtain ⟨q0, hq0⟩ := pl_four HFF.out.all k (by omega)
    obtain ⟨q1, hq1⟩ := pl_four HFF.out.all (k + 1) (by omega)
    have hw := fun j x hj => WAT.out k j hlt x hj q0 hq0
    have hil := insOf_len hit (longF l) (fun h => long_to h)
    have hP1 : pl l (longF l) (k + 1) = pl l (longF l) k + 4 * sizeZ (it l k) (longF l k) := rfl
    obtain ⟨m, hm⟩ : ∃ m : Nat, (insOf l (longF l) k).length = m := ⟨_, rfl⟩
    rw [hm] at hil
    rw [← hil, hq0] at hP1
    have hbw : q0 + m ≤ ws.length := by
      have h1 := pl_le HFF.out.all (longF l) (k + 1) l.length (by omega) (Nat.le_refl _)
      have h2 := HEND.out
      rw [hP1] at h1; omega
    have e0 : wr.cell? ⟨A, k, none⟩ = some (.int .i64 (4 * (q0 : Int))) := (HB.out.cell (p := ⟨A, k, none⟩) hlA).trans ((cell_in HP4.out (cellsZ_get _ (by omega))).trans (by rw [hq0]))
    have e1 : wr.cell? ⟨A, k + 1, none⟩ = some (.int .i64 (4 * (q0 : Int) + 4 * (m : Int))) := (HB.out.cell (p := ⟨A, k + 1, none⟩) hlA).trans ((cell_in HP4.out (cellsZ_get _ (by omega))).trans (by rw [hP1]))
    have hlA2 : A < wr.heap.size := by omega
    have hf2 := fun h => find_lab HFF.out.err hlt h
    have hir := fun h => ins_right hit h
    have hnp := fun h => num_parts hit h
    have hnop := fun h => itemB_nops hit h
    have hi1 := @insOf_1 l (longF l) k; have hi2 := @insOf_2 l (longF l) k; have hi4 := @insOf_4 l (longF l) k; have hi5 := @insOf_5 l (longF l) k
    have hkk := item_kinds hit
    obtain ⟨x, hx⟩ : ∃ x, it l k = x := ⟨_, rfl⟩
    rw [hx] at c0 c1 c2 c3 c4' c5 c6 c7 hnm hnn hf2 hir hnp hnop hi1 hi2 hi4 hi5 hkk
    rw [hq0] at hf2
    obtain ⟨kd, ⟨op, d, ia, ib, nn⟩, s, N⟩ := x
    simp only at c0 c1 c2 c3 c4' c5 c6 c7 hnm hnn hf2 hir hnp hnop hi1 hi2 hi4 hi5 hkk
    obtain ⟨il, hile⟩ : ∃ il, insOf l (longF l) k = il := ⟨_, rfl⟩
    rw [hile] at hw hm hi1 hi2 hi4 hi5
    have HHW := Lib.hid hw; have HM := Lib.hid hm; have HNN := Lib.hid hnn; have HNMH := Lib.hid hnm
    have hdiv : (4 * (q0 : Int)) / 4 = q0 := by omega
    clear hx hq0 hq1 hP1 hil hile hw hm hit hnn hnm
    go_wp2_with fail
    have y0 := wd_cell hlA2 e0; have y1 := wd_cell hlA2 e1
    have s1 : IntKind.i64.wrap ((k : Int) + 1) = k + 1 := IntWalk.i64_in _ (by omega)
    have s2 : IntKind.i64.wrap (4 * (q0 : Int) + 4 * (m : Int) - 4 * (q0 : Int)) = 4 * (m : Int) := by rw [show 4 * (q0 : Int) + 4 * (m : Int) - 4 * (q0 : Int) = 4 * m by omega]; exact IntWalk.i64_in _ (by omega)
    have s3 : (4 * (m : Int)).tdiv 4 = m := by rw [Int.tdiv_eq_ediv_of_nonneg (by omega)]; omega
    have s4 : IntKind.i64.wrap (m : Int) = m := IntWalk.i64_in _ (by omega)
    have n1x : ((k : Int) + 1).toNat = k + 1 := by omega
    have hI : (0 : Int) ≤ k + 1 := by omega
    refine wp_region_below (by kernel_rfl) (by kernel_rfl) ?_
    repeat (go_big_quiet_step (fail))
    refine wpQuiet_nil ?_
    rintro w5 ⟨⟨w5x, hb5⟩, rfl⟩
    have HB5 := Lib.hid hb5
    clear y0 y1 s1 s2 s3 s4 n1x hI hdiv
    obtain ⟨j1, j2⟩ := bcell hb5
    have z5 := hb5.size
    clear hb5
    have ROW : Hid (∀ j x, il[j]? = some x → ∃ g1, aw = some ⟨g1, 0, none⟩ ∧ g1 < wr.heap.size ∧ wr.cell? ⟨g1, q0 + j, none⟩ = some (.int .i64 (encV x))) := Lib.hid (fun j x hj => by
      have h1 := HHW.out j x hj
      have hlw := (List.getElem?_eq_some_iff.1 h1).1
      obtain ⟨g1, cc1, hv1, hg1, _, hc1⟩ := row_cells HOW4.out (by omega)
      injection hv1 with hv1 e8 e9
      exact ⟨g1, hv1, by omega, (HB.out.cell (p := ⟨g1, q0 + j, none⟩) hg1).trans (hc1 (q0 + j) _ (by simp [intsC, h1]))⟩)
    rcases hkk with rfl | rfl | rfl | rfl | rfl
    · have hile := hi1 rfl
      have hr := hir rfl
      obtain ⟨g1, haw, hg1, m0⟩ := ROW.out 0 ⟨op, d, ia, ib, nn⟩ (by rw [hile]; rfl)
      rw [Nat.add_zero] at m0
      subst haw
      have hm1' : m = 1 := by have := HM.out; rw [hile] at this; simp at this; omega
      have hm1 : ((m : Int) != 1) = false := by simp; omega
      have hqw : q0 < ws.length := by omega
      clear hm1'
      obtain ⟨W0, hW0⟩ : ∃ y, encV ⟨op, d, ia, ib, nn⟩ = y := ⟨_, rfl⟩
      rw [hW0] at m0
      have DEC := Lib.hid (fun w => decode_lit ⟨op, d, ia, ib, nn⟩ hr W0 hW0 w)
      have HEQ := eqI true ⟨op, d, ia, ib, nn⟩ ⟨op, d, ia, ib, nn⟩ (by simp)
      simp only at DEC HEQ
      clear hf2 hir hnp hnop hi1 hi2 hi4 hi5 hile hr hW0 e0 e1
      go_wp2_with (go_at_call 26; ((with_reducible refine (DEC.out _).mono ?_); rintro e w6 ⟨rfl, hb6⟩))
      have HB6 := Lib.hid (bw_tr HB5.out (bw_tr hb6 (bel_new w6 (.cells #[.int .i64 op, .int .i64 d, .int .i64 ia, .int .i64 ib, .int .i64 nn] 24))))
      have HX6 := Lib.hid (new_in w6 (.cells #[.int .i64 op, .int .i64 d, .int .i64 ia, .int .i64 ib, .int .i64 nn] 24))
      generalize w6.alloc (.cells #[.int .i64 op, .int .i64 d, .int .i64 ia, .int .i64 ib, .int .i64 nn] 24) = V at *
      clear hb6
      have hlx := lt_in HX6.out
      have y1 := fun x : Wd V => up_cell HB6.out hb1 c1 x; have y2 := fun x : Wd V => up_cell HB6.out hb1 c2 x; have y3 := fun x : Wd V => up_cell HB6.out hb1 c3 x; have y4 := fun x : Wd V => up_cell HB6.out hb1 c4' x; have y5 := fun x : Wd V => up_cell HB6.out hb1 c5 x
      have x0 := wd_cell hlx (cell_in HX6.out (j := 0) (u := .int .i64 op) rfl); have x1 := wd_cell hlx (cell_in HX6.out (j := 1) (u := .int .i64 d) rfl); have x2 := wd_cell hlx (cell_in HX6.out (j := 2) (u := .int .i64 ia) rfl); have x3 := wd_cell hlx (cell_in HX6.out (j := 3) (u := .int .i64 ib) rfl); have x4 := wd_cell hlx (cell_in HX6.out (j := 4) (u := .int .i64 nn) rfl)
      refine wp_region_below (by kernel_rfl) (by kernel_rfl) ?_
      repeat (go_big_quiet_step (fail))
      refine wpQuiet_nil ?_
      rintro w7 ⟨⟨w7x, hb7⟩, rfl⟩
      have HB7 := Lib.hid (bw_tr HB6.out hb7)
      clear y1 y2 y3 y4 y5 x0 x1 x2 x3 x4 hb7 HEQ
      go_wp2_with fail
      exact ⟨⟨k + 1, by omega, by go_num, bw_tr HB.out HB7.out⟩, by simp [intOf]; omega⟩
    · have hile := hi2 rfl
      have hft := hf2 rfl
      have hm0 : ((m : Int) != 0) = false := by have := HM.out; rw [hile] at this; simp at this; simp; omega
      have FI1 := Lib.hid (fun w' (h : Below wr.heap.size wr w') => FI.out w' _ s ((HA4.out.below HB.out).below h) HNMH.out (4 * (q0 : Int)) hft)
      clear hf2 hir hnp hnop hi1 hi2 hi4 hi5 hile hft
      go_wp2_with fail
      have y0 := fun x : Wd w5 => up_cell HB5.out hlA2 e0 x; have y6 := fun x : Wd w5 => up_cell HB5.out hb1 c6 x
      have FI2 := Lib.hid (fun x : Wd w5 => quiet_b (x := x) (FI1.out x.val (bw_tr HB5.out x.bel)))
      have t1 : (4 * (q0 : Int) != 4 * (q0 : Int)) = false := by simp
      refine wp_region_below (by kernel_rfl) (by kernel_rfl) ?_
      repeat (go_big_quiet_step ((go_at_call 19; with_reducible exact FI2.out _)))
      refine wpQuiet_nil ?_
      rintro w7 ⟨⟨w7x, hb7⟩, rfl⟩
      have HB7 := Lib.hid (bw_tr HB5.out hb7)
      clear y0 y6 t1 hb7
      go_wp2_with fail
      exact ⟨⟨k + 1, by omega, by go_num, bw_tr HB.out HB7.out⟩, by simp [intOf]; omega⟩
    · clear hf2 hir hnp hnop hi1 hi2 hi4 hi5
      go_wp2_with fail
      exact ⟨⟨k + 1, by omega, by go_num, bw_tr HB.out HB5.out⟩, by simp [intOf]; omega⟩
    · have hile := hi4 rfl
      have hnp2 := hnp rfl
      have HIL := Lib.hid hile
      have HRI : Hid (∀ x ∈ il, rightB x = true) := Lib.hid (by rw [hile]; exact labL_right hnp2)
      have NUM : Hid (∀ w, Calls Try.prog 21 #[.int .i64 d, .int .i64 N] w fun e w' => ∃ a, e = .returned (.slice a m m) ∧ InsAt w' (.slice a m m) il ∧ Below w.heap.size w w') := Lib.hid (fun w => by
        have := number_at d N w HNN.out
        rw [← hile, HM.out] at this
        exact this)
      clear hf2 hir hnp hnop hi1 hi2 hi4 hi5 hile hnp2 e0 e1
      go_wp2_with fail
      go_cut [15] (fun s15 wx => ∃ a, s15 = .slice a m m ∧ InsAt wx (.slice a m m) il ∧ Below w5.heap.size w5 wx)
      case first =>
        refine wp_region_up (fun w' => Below w5.heap.size w5 w') [true, true, true, true, true, true, true, true, true, true, true] (by kernel_rfl) (by kernel_rfl) (by kernel_rfl) (fun _ _ h hu => bw_tr h hu) (Below.refl _ _) ?ra ?rh ?rt
        case rh =>
          intro u0 h0
          have h0' := bw_tr HB5.out h0
          have y2 := up_cell h0' hb1 c2; have y7 := up_cell h0' hb1 c7
          clear h0 h0'
          simp only [pickM]
          repeat (go_big_quiet_step (fail))
          refine wpQuiet_nil ?_
          rfl
        case rt =>
          change wpAnyU _ _ _ _ _ 2 _ _ _
          refine anyU_one (i := 11) (by kernel_rfl) rfl ?_
          intro u1 hu1 hc1
          go_wp2_with fail
          refine (NUM.out _).mono ?_
          rintro e u2 ⟨a, rfl, hia, hb2⟩
          have HI2 := Lib.hid hia; have HB2 := Lib.hid (bw_tr hc1 hb2)
          clear hu1 hc1 hia hb2
          go_wp2_with fail
          refine ⟨HB2.out, ?_⟩
          refine anyU_one (i := 12) (by kernel_rfl) rfl ?_
          intro u3 hu3 _
          have HI3 := Lib.hid (InsAt.below HI2.out hu3); have HB3 := Lib.hid (bw_tr HB2.out hu3)
          clear hu3
          go_wp2_with fail
          refine ⟨HB3.out, ?_⟩
          refine anyU_nil (by kernel_rfl) ?_
          intro u4 hu4 _
          have HI4 := Lib.hid (InsAt.below HI3.out hu4); have HB4 := Lib.hid (bw_tr HB3.out hu4)
          clear hu4
          go_wp2_with fail
          go_meet
          case rel => exact ⟨a, rfl, HI4.out, HB4.out⟩
      case rest =>
        obtain ⟨ax, rfl, hia, hbc⟩ := hcut
        have HIA := Lib.hid hia; have HBC := Lib.hid (bw_tr HB5.out hbc)
        have hszc := hbc.size
        clear hia hbc
        have hmm : ((m : Int) != (m : Int)) = false := by simp
        go_wp2_with fail
        go_loopw [16] (fun i wr => ∃ j : Nat, j ≤ m ∧ i = .int .i64 j ∧ Below wc.heap.size wc wr) (fun i _ => m - (intOf i).toNat)
        case atStart => exact ⟨0, Nat.zero_le _, rfl, Below.refl _ _⟩
        case round =>
          obtain ⟨j, hj, rfl, hbj⟩ := hrel
          have HBJ := Lib.hid hbj
          clear hbj
          by_cases hjl : j < m
          case neg =>
            obtain rfl : j = m := by omega
            go_wp2_with fail
            exact ⟨⟨k + 1, by omega, by go_num, bw_tr HB.out (bw_tr HBC.out HBJ.out)⟩, by simp [intOf]; omega⟩
          case pos =>
            have hjl' : j < il.length := by rw [HM.out]; exact hjl
            obtain ⟨x, hx⟩ : ∃ x, il[j] = x := ⟨_, rfl⟩
            have hxj : il[j]? = some x := by rw [List.getElem?_eq_getElem hjl', hx]
            have hr := HRI.out x (List.mem_of_getElem? hxj)
            obtain ⟨g1, haw, hg1, m0⟩ := ROW.out j x hxj
            subst haw
            obtain ⟨BB, hvB, hBB⟩ := ins_block HIA.out (by intro h; rw [h] at hjl'; simp at hjl')
            injection hvB with hvB e8 e9
            subst hvB
            clear e8 e9
            have hxx := insC_get il j hjl'
            rw [hx] at hxx
            obtain ⟨xo, xd, xa, xb, xn⟩ := x
            simp only at hxx
            obtain ⟨W0, hW0⟩ : ∃ y, encV ⟨xo, xd, xa, xb, xn⟩ = y := ⟨_, rfl⟩
            rw [hW0] at m0
            have HBT := Lib.hid (bw_tr HBC.out HBJ.out)
            have m0' := (HBT.out.cell (p := ⟨g1, q0 + j, none⟩) hg1).trans m0
            have DEC := Lib.hid (fun w => decode_lit ⟨xo, xd, xa, xb, xn⟩ hr W0 hW0 w)
            have HEQ := eqI true ⟨xo, xd, xa, xb, xn⟩ ⟨xo, xd, xa, xb, xn⟩ (by simp)
            simp only at DEC HEQ
            have HB2X := Lib.hid (bel_in HBJ.out (lt_in hBB) hBB)
            have g0 := cell_in HB2X.out (hxx 0 _ rfl); have g1x := cell_in HB2X.out (hxx 1 _ rfl); have g2 := cell_in HB2X.out (hxx 2 _ rfl); have g3 := cell_in HB2X.out (hxx 3 _ rfl); have g4 := cell_in HB2X.out (hxx 4 _ rfl)
            rw [Nat.add_zero] at g0
            have hlB := lt_in HB2X.out
            have hszj := HBJ.out.size
            have hg1w : g1 < wr.heap.size := Nat.lt_of_lt_of_le hg1 HBT.out.size
            clear hxx hxj hx hr hW0 hBB m0 hjl' c0 c1 c2 c3 c4' c5 c6 c7
            go_wp2_with (go_at_call 26; ((with_reducible refine (DEC.out _).mono ?_); rintro e w6 ⟨rfl, hb6⟩))
            have HB6 := Lib.hid (bw_tr hb6 (bel_new w6 (.cells #[.int .i64 xo, .int .i64 xd, .int .i64 xa, .int .i64 xb, .int .i64 xn] 24)))
            have HX6 := Lib.hid (new_in w6 (.cells #[.int .i64 xo, .int .i64 xd, .int .i64 xa, .int .i64 xb, .int .i64 xn] 24))
            generalize w6.alloc (.cells #[.int .i64 xo, .int .i64 xd, .int .i64 xa, .int .i64 xb, .int .i64 xn] 24) = V at *
            clear hb6
            have hlx := lt_in HX6.out
            have y0 := fun x : Wd V => up_cell HB6.out hlB g0 x; have y1 := fun x : Wd V => up_cell HB6.out hlB g1x x; have y2 := fun x : Wd V => up_cell HB6.out hlB g2 x; have y3 := fun x : Wd V => up_cell HB6.out hlB g3 x; have y4 := fun x : Wd V => up_cell HB6.out hlB g4 x
            have x0 := wd_cell hlx (cell_in HX6.out (j := 0) (u := .int .i64 xo) rfl); have x1 := wd_cell hlx (cell_in HX6.out (j := 1) (u := .int .i64 xd) rfl); have x2 := wd_cell hlx (cell_in HX6.out (j := 2) (u := .int .i64 xa) rfl); have x3 := wd_cell hlx (cell_in HX6.out (j := 3) (u := .int .i64 xb) rfl); have x4 := wd_cell hlx (cell_in HX6.out (j := 4) (u := .int .i64 xn) rfl)
            refine wp_region_below (by kernel_rfl) (by kernel_rfl) ?_
            repeat (go_big_quiet_step (fail))
            refine wpQuiet_nil ?_
            rintro w7 ⟨⟨w7x, hb7⟩, rfl⟩
            have HB7 := Lib.hid (bw_tr HB6.out hb7)
            clear y0 y1 y2 y3 y4 x0 x1 x2 x3 x4 hb7 HEQ
            go_wp2_with fail
            exact ⟨⟨j + 1, by omega, by go_num, bw_tr HBJ.out HB7.out⟩, by simp [intOf]; omega⟩
    · have hile := hi5 rfl
      obtain ⟨hn0, hn1⟩ := hnop rfl
      have hmN : m = N.toNat := by have := HM.out; rw [hile, List.length_replicate] at this; exact this.symm
      have hmm : ((m : Int) != N) = false := bne_eq_false_iff_eq.2 (by omega)
      have HIL : Hid (∀ j, j < m → il[j]? = some ⟨13, 0, 0, 0, 0⟩) := Lib.hid (fun j hj => by rw [hile, List.getElem?_replicate, if_pos (by omega)])
      clear hf2 hir hnp hnop hi1 hi2 hi4 hi5 hile hn0 hn1 hmN e0 e1
      go_wp2_with fail
      go_loopw [14] (fun i wr => ∃ j : Nat, j ≤ m ∧ i = .int .i64 j ∧ Below w5.heap.size w5 wr) (fun i _ => m - (intOf i).toNat)
      case atStart => exact ⟨0, Nat.zero_le _, rfl, Below.refl _ _⟩
      case round =>
        obtain ⟨j, hj, rfl, hbj⟩ := hrel
        have HBJ := Lib.hid hbj
        clear hbj
        by_cases hjl : j < m
        case neg =>
          obtain rfl : j = m := by omega
          go_wp2_with fail
          exact ⟨⟨k + 1, by omega, by go_num, bw_tr HB.out (bw_tr HB5.out HBJ.out)⟩, by simp [intOf]; omega⟩
        case pos =>
          obtain ⟨g1, haw, hg1, m0⟩ := ROW.out j _ (HIL.out j hjl)
          subst haw
          rw [nop_word] at m0
          have HBT := Lib.hid (bw_tr HB5.out HBJ.out)
          have m0' := (HBT.out.cell (p := ⟨g1, q0 + j, none⟩) hg1).trans m0
          clear m0 c0 c1 c2 c3 c4' c5 c6 c7
          go_wp2_with fail
          exact ⟨⟨j + 1, by omega, by go_num, HBJ.out⟩, by simp [intOf]; omega⟩
end Go.Proofs.Ytfepdieeiplbnaa
