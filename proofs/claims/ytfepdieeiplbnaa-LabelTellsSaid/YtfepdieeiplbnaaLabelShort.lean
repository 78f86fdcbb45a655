/-
  LabelShort: where all code is short no branch is long; a branch that is short reaches. No condition.
-/
import Derived.Test.YtfepdieeiplbnaaEmbS
import Derived.Test.YtfepdieeiplbnaaFit03
import Derived.Test.YtfepdieeiplbnaaAwake03
namespace Go.Proofs.Ytfepdieeiplbnaa
open Go.RowKit
set_option linter.unusedSimpArgs false
theorem item_ok {x : Itm} (h : itemB x = true) : x.name.size ≤ 40 ∧ -2147483648 ≤ x.n ∧ x.n ≤ 2147483647 := by
  have hk := item_kinds h
  unfold itemB at h
  rcases hk with k | k | k | k | k
  · rw [if_pos k] at h
    simp only [Bool.and_eq_true, decide_eq_true_eq] at h
    have e := h.1
    rw [e]; exact ⟨show (⟨#[]⟩ : ByteArray).size ≤ 40 by decide, by simp, by simp⟩
  · rw [if_neg (by omega), if_pos k] at h
    simp only [Bool.and_eq_true, decide_eq_true_eq] at h
    have e := h.1
    refine ⟨lab_size40 h.2, ?_⟩
    rw [e]; simp
  · rw [if_neg (by omega), if_neg (by omega), if_pos k] at h
    simp only [Bool.and_eq_true, decide_eq_true_eq] at h
    have e := h.1
    have h2 := h.2
    unfold toB at h2
    simp only [Bool.and_eq_true] at h2
    refine ⟨lab_size40 h2.2.2.2, ?_⟩
    rw [e]; simp
  · rw [if_neg (by omega), if_neg (by omega), if_neg (by omega), if_pos k] at h
    simp only [Bool.and_eq_true, decide_eq_true_eq] at h
    have e := h.1
    have h2 := h.2
    unfold numB at h2
    simp only [Bool.and_eq_true, decide_eq_true_eq] at h2
    have := w32_bd x.n
    rw [h2.2.2] at this
    refine ⟨?_, this⟩
    rw [e]; exact (show (⟨#[]⟩ : ByteArray).size ≤ 40 by decide)
  · rw [if_neg (by omega), if_neg (by omega), if_neg (by omega), if_neg (by omega), if_pos k] at h
    simp only [Bool.and_eq_true, decide_eq_true_eq] at h
    have e := h.1
    have h2 := h.2
    unfold nopB at h2
    simp only [Bool.and_eq_true, decide_eq_true_eq] at h2
    refine ⟨?_, by omega, by omega⟩
    rw [e]; exact (show (⟨#[]⟩ : ByteArray).size ≤ 40 by decide)
theorem namesOK_all {l : List Itm} (h : allB l) : NamesOK l :=
  ⟨fun i hi => Nat.le_trans (item_ok (h i hi)).1 (by decide), fun i hi => by have := (item_ok (h i hi)).2; constructor <;> omega⟩
theorem args_own {w : World} {base : Nat} {v : Value} {l : List Itm} (h : w.ownsRow base 26 8 v l.length (flatI l)) : ArgS 8 itC w v l := by
  rcases h.2 with ⟨rfl, h0⟩ | ⟨g, cap, cur, rfl, hb, hg, hnc, hcm, hs, ht⟩
  · exact ⟨none, 0, by rw [h0], by omega, by unfold maxLen; omega, .inl (List.eq_nil_of_length_eq_zero h0)⟩
  · refine ⟨_, cap, rfl, hnc, hcm, .inr ⟨g, 0, rfl, lt_in hg, fun i r hi j u hj => ?_⟩⟩
    have hil : i < l.length := (List.getElem?_eq_some_iff.1 hi).1
    have hr : it l i = r := by rw [it_at hil]; rw [List.getElem?_eq_getElem hil] at hi; injection hi
    have h1 := flatI_get l i hil j u (by rw [hr]; exact hj)
    have hlt : i * 8 + j < l.length * 8 := by
      have := (List.getElem?_eq_some_iff.1 h1).1
      rw [flatI_len] at this; omega
    have h2 := World.ownsRow.cellAt (w := w) (base := base) (e := 26) (size := 8) (g := g) (n := l.length) (cap := cap) (xs := flatI l) h (j := i * 8 + j) hlt
    rw [Nat.zero_add, h2, h1]
/-- What Fit gives to a law. -/
structure Fitted (l : List Itm) : Prop where
  err : errOf l = 0
  all : allB l
  len : l.length ≤ 17
  nms : NamesOK l
  known : knownB l = true
theorem fitted (raw : List Itm) : Fitted (fitL raw) :=
  ⟨fitL_ok raw, fitL_all raw, by rw [fitL_len]; exact (fit3_len raw).1, namesOK_all (fitL_all raw), fitL_known raw⟩
theorem fit_law (w : World) (raw : List Itm) (v : Value) (HL : ArgS 8 itC w v raw) (HO : ∀ x ∈ raw, ok_item x) (l : List Itm) (hl : fitL raw = l) :
    Calls Try.prog 12 #[v] w fun e w' => ∃ a c, e = .returned (.slice a l.length c) ∧ ArgS 8 itC w' (.slice a l.length c) l ∧ w'.ownsRow w.heap.size 26 8 (.slice a l.length c) l.length (flatI l) ∧ Below w.heap.size w w' := by
  refine (fit03_any w raw v HL HO).mono ?_
  rintro e w' ⟨v', rfl, ho, hb⟩
  rw [hl] at ho
  obtain ⟨a, c, rfl⟩ := own_shape ho
  exact ⟨a, c, rfl, args_own ho, ho, hb⟩
set_option maxRecDepth 100000 in
set_option maxHeartbeats 8000000 in
theorem walkLabelShort (v : Value) (raw : List Itm) (w : World) (HL : ArgS 8 itC w v raw) (HO : ∀ x ∈ raw, ok_item x) :
    Calls Try.prog 4 #[v] w fun e w' => e = .returned (.bool true) ∧ Below w.heap.size w w' := by
  obtain ⟨l, hl⟩ : ∃ l, fitL raw = l := ⟨_, rfl⟩
  have HF := hl ▸ fitted raw
  have FT := Lib.hid (fun w' hb => fit_law w' raw v (HL.below hb) HO l hl)
  have PL := Lib.hid (fun w' v' h => places_yes w' l v' h HF.nms HF.err)
  have FI := Lib.hid (fun w' v' s h hs z hz => find_any w' l v' s h HF.nms hs z hz)
  have AW := Lib.hid (fun w => awake03 w)
  have HFF := Lib.hid HF
  have hlen := HF.len
  clear HL HO hl HF
  go_enter Try.func4, Try.ntmps4
  go_wp2_with fail
  with_reducible refine (AW.out _).mono ?_
  rintro e w1 ⟨rfl, hb1⟩
  go_wp2_with fail
  with_reducible refine (FT.out _ hb1).mono ?_
  rintro e w2 ⟨a4, c4, rfl, ha2, _, hb2⟩
  have HA2 := Lib.hid ha2
  have B2 := Lib.hid (bw_tr hb1 hb2)
  clear ha2 hb1 hb2
  go_wp2_with fail
  with_reducible refine (PL.out _ _ HA2.out).mono ?_
  rintro e w3 ⟨A, rfl, hA, _, hb3⟩
  have HP3 := Lib.hid hA; have HA3 := Lib.hid (HA2.out.below hb3); have B3 := Lib.hid (bw_tr B2.out hb3)
  clear hA hb3
  have hlA := lt_in HP3.out
  have hne : (((l.length + 1 : Nat) : Int) != (l.length : Int) + 1) = false := by simp
  go_wp2_with fail
  go_loopw [7] (fun i wr => ∃ k : Nat, k ≤ l.length ∧ i = .int .i64 k ∧ Below w3.heap.size w3 wr) (fun i _ => l.length - (intOf i).toNat)
  case atStart => exact ⟨0, Nat.zero_le _, rfl, Below.refl _ _⟩
  case round =>
    obtain ⟨k, hk, rfl, hb⟩ := hrel
    have HB := Lib.hid hb
    clear hb
    by_cases hlt : k < l.length
    case neg =>
      obtain rfl : k = l.length := by omega
      go_wp2_with fail
      go_ret
      exact ⟨rfl, bw_tr B3.out HB.out⟩
    case pos =>
    have hsz := HB.out.size
    obtain ⟨b, o, rfl, hb0, hcells⟩ := items_at HA3.out k hlt
    obtain ⟨c0, c1, c2, c3, c4', c5, c6, c7⟩ := eight_cells (fun j u hj => (HB.out.cell (p := ⟨b, o + k * 8 + j, none⟩) hb0).trans (hcells j u hj))
    clear hcells c2 c3 c4' c5 c7
    have hb1 : b < wr.heap.size := by omega
    by_cases h3 : (it l k).kind = 3
    case neg =>
      obtain ⟨kd, hkd⟩ : ∃ kd, (it l k).kind = kd := ⟨_, rfl⟩
      rw [hkd] at c0 h3
      have hq : (kd != 3) = true := by simpa using h3
      clear hkd h3
      go_wp2_with fail
      exact ⟨⟨k + 1, by omega, by go_num, HB.out⟩, by simp [intOf]; omega⟩
    case pos =>
    rw [h3] at c0
    by_cases h4 : (it l k).i.op = 3
    case pos =>
      rw [h4] at c1
      go_wp2_with fail
      exact ⟨⟨k + 1, by omega, by go_num, HB.out⟩, by simp [intOf]; omega⟩
    case neg =>
    have hgk : growK (it l k) = true := (growK_iff _).2 ⟨h3, h4⟩
    have hnm := HFF.out.nms.name k hlt
    have hzz := to_size h3 (longF l k)
    have hfar := long_far HFF.out.all hlt
    have hnear := short_near hgk
    have htot := dst_total HFF.out.all (longF l) hlt
    have hft := find_to HFF.out.err hlt h3
    have hbd := pl_bd HFF.out.all (longF l) k (by omega)
    have hbt := pl_bd HFF.out.all (longF l) l.length (by omega)
    obtain ⟨op, hop⟩ : ∃ op, (it l k).i.op = op := ⟨_, rfl⟩
    rw [hop] at c1 h4
    have hq4 : (op == 3) = false := by simpa using h4
    obtain ⟨nm, hnmm⟩ : ∃ nm, (it l k).name = nm := ⟨_, rfl⟩
    rw [hnmm] at c6 hnm hft
    obtain ⟨g, hg⟩ : ∃ g, longF l k = g := ⟨_, rfl⟩
    obtain ⟨z, hz⟩ : ∃ z, dst l (longF l) k = z := ⟨_, rfl⟩
    obtain ⟨P0, hP0⟩ : ∃ p, pl l (longF l) k = p := ⟨_, rfl⟩
    obtain ⟨T, hT⟩ : ∃ p, pl l (longF l) l.length = p := ⟨_, rfl⟩
    have hP1 : pl l (longF l) (k + 1) = P0 + 4 * (if g = true then 2 else 1) := by
      show pl l (longF l) k + 4 * sizeZ (it l k) (longF l k) = _
      rw [hP0, hzz, hg]
    have e0 : wr.cell? ⟨A, k, none⟩ = some (.int .i64 P0) := (HB.out.cell (p := ⟨A, k, none⟩) hlA).trans ((cell_in HP3.out (cellsZ_get _ (by omega))).trans (by rw [hP0]))
    have e1 : wr.cell? ⟨A, k + 1, none⟩ = some (.int .i64 (P0 + 4 * (if g = true then 2 else 1))) := (HB.out.cell (p := ⟨A, k + 1, none⟩) hlA).trans ((cell_in HP3.out (cellsZ_get _ (by omega))).trans (by rw [hP1]))
    have e2 : wr.cell? ⟨A, l.length, none⟩ = some (.int .i64 T) := (HB.out.cell (p := ⟨A, l.length, none⟩) hlA).trans ((cell_in HP3.out (cellsZ_get _ (by omega))).trans (by rw [hT]))
    have hlA2 : A < wr.heap.size := by omega
    rw [hg] at hfar hnear
    rw [hz] at hfar hnear htot hft
    rw [hP0] at hbd hft
    rw [hT] at hbt htot
    have FI1 := Lib.hid (fun w' (h : Below wr.heap.size wr w') => FI.out w' _ nm ((HA3.out.below HB.out).below h) hnm (P0 + z) hft)
    have HX3 : Hid True := Lib.hid trivial
    clear h4 hgk hzz hop hnmm hg hz hP0 hT hP1 hft hnm h3
    cases g
    case true =>
      simp only [if_true, Int.reduceMul] at e1
      have hfar' := hfar rfl
      clear hnear hfar
      have hT : decide (T ≤ 4092) = false := decide_eq_false (by omega)
      have hways : decide (-2048 ≤ z) = false ∨ (decide (-2048 ≤ z) = true ∧ decide (z ≤ 2047) = false) := by
        by_cases hh : -2048 ≤ z
        · right; exact ⟨decide_eq_true hh, decide_eq_false (by omega)⟩
        · left; exact decide_eq_false hh
      go_wp2_with fail
      have y0 := wd_cell hlA2 e0
      have y1 := wd_cell hlA2 e1
      have s1 : IntKind.i64.wrap ((k : Int) + 1) = k + 1 := IntWalk.i64_in _ (by omega)
      have s2 : IntKind.i64.wrap (P0 + 8 - P0) = P0 + 8 - P0 := IntWalk.i64_in _ (by omega)
      have s4 : (P0 + 8 - P0 == 8) = true := by simp; omega
      have n1 : ((k : Int) + 1).toNat = k + 1 := by omega
      have hI : (0 : Int) ≤ k + 1 := by omega
      refine wp_region_below (by kernel_rfl) (by kernel_rfl) ?_
      repeat (go_big_quiet_step (fail))
      refine wpQuiet_nil ?_
      rintro w7 ⟨⟨w7x, hb7⟩, rfl⟩
      clear y0 y1 s2 s4
      go_wp2_with fail
      have y0 := up_cell hb7 hlA2 e0
      have y6 := up_cell hb7 hb1 c6
      have s3 : IntKind.i64.wrap (P0 + z - P0) = z := by rw [show P0 + z - P0 = z by omega]; exact IntWalk.i64_in _ (by omega)
      have FI2 := Lib.hid (fun x : Wd w7 => quiet_b (x := x) (FI1.out x.val (bw_tr hb7 x.bel)))
      refine wp_region_below (by kernel_rfl) (by kernel_rfl) ?_
      repeat (go_big_quiet_step ((go_at_call 19; with_reducible exact FI2.out _)))
      refine wpQuiet_nil ?_
      rintro w8 ⟨⟨w8x, hb8⟩, rfl⟩
      clear y0 y6 s3 FI2
      have hb8 := bw_tr hb7 hb8
      go_wp2_with fail
      have y2 := up_cell hb8 hlA2 e2
      refine wp_region_below (by kernel_rfl) (by kernel_rfl) ?_
      repeat (go_big_quiet_step (fail))
      refine wpQuiet_nil ?_
      rintro w9 ⟨⟨w9x, hb9⟩, rfl⟩
      clear y2
      have hb9 := bw_tr hb8 hb9
      rcases hways with s5 | ⟨s5, s6⟩
      all_goals
        go_wp2_with fail
        exact ⟨⟨k + 1, by omega, by go_num, bw_tr HB.out hb9⟩, by simp [intOf]; omega⟩
    case false =>
      simp only [Bool.false_eq_true, if_false, Int.reduceMul] at e1
      obtain ⟨z1, z2⟩ := hnear rfl
      clear hnear hfar
      have d1 : decide (z < -4096) = false := decide_eq_false (by omega)
      have d2 : decide (4094 < z) = false := decide_eq_false (by omega)
      go_wp2_with fail
      have y0 := wd_cell hlA2 e0
      have y1 := wd_cell hlA2 e1
      have s1 : IntKind.i64.wrap ((k : Int) + 1) = k + 1 := IntWalk.i64_in _ (by omega)
      have s2 : IntKind.i64.wrap (P0 + 4 - P0) = P0 + 4 - P0 := IntWalk.i64_in _ (by omega)
      have s4 : (P0 + 4 - P0 == 8) = false := by simp; omega
      have n1 : ((k : Int) + 1).toNat = k + 1 := by omega
      have hI : (0 : Int) ≤ k + 1 := by omega
      refine wp_region_below (by kernel_rfl) (by kernel_rfl) ?_
      repeat (go_big_quiet_step (fail))
      refine wpQuiet_nil ?_
      rintro w7 ⟨⟨w7x, hb7⟩, rfl⟩
      clear y0 y1 s2 s4
      go_wp2_with fail
      have y0 := up_cell hb7 hlA2 e0
      have y6 := up_cell hb7 hb1 c6
      have s3 : IntKind.i64.wrap (P0 + z - P0) = z := by rw [show P0 + z - P0 = z by omega]; exact IntWalk.i64_in _ (by omega)
      have FI2 := Lib.hid (fun x : Wd w7 => quiet_b (x := x) (FI1.out x.val (bw_tr hb7 x.bel)))
      refine wp_region_below (by kernel_rfl) (by kernel_rfl) ?_
      repeat (go_big_quiet_step ((go_at_call 19; with_reducible exact FI2.out _)))
      refine wpQuiet_nil ?_
      rintro w8 ⟨⟨w8x, hb8⟩, rfl⟩
      clear y0 y6 s3 FI2
      have hb8 := bw_tr hb7 hb8
      go_wp2_with fail
      have y0 := up_cell hb8 hlA2 e0
      have y1 := up_cell hb8 hlA2 e1
      have s2 : IntKind.i64.wrap (P0 + 4 - P0) = P0 + 4 - P0 := IntWalk.i64_in _ (by omega)
      have s4 : (P0 + 4 - P0 != 4) = false := by simp; omega
      refine wp_region_below (by kernel_rfl) (by kernel_rfl) ?_
      repeat (go_big_quiet_step (fail))
      refine wpQuiet_nil ?_
      rintro w9 ⟨⟨w9x, hb9⟩, rfl⟩
      clear y0 y1 s2 s4
      have hb9 := bw_tr hb8 hb9
      go_wp2_with fail
      exact ⟨⟨k + 1, by omega, by go_num, bw_tr HB.out hb9⟩, by simp [intOf]; omega⟩
end Go.Proofs.Ytfepdieeiplbnaa
