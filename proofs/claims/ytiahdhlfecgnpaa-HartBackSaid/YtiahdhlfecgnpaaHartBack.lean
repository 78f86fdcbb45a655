/-
  The walk of the law HartBack.
-/
import Derived.Test.YtiahdhlfecgnpaaHartBackP
import Derived.Deep.QuietTactic
import Derived.BigQuiet
import Derived.Outline
namespace Go.Proofs.Ytiahdhlfecgnpaa
open Go.RowKit
set_option linter.unusedSimpArgs false
set_option maxRecDepth 100000 in
set_option maxHeartbeats 8000000 in
theorem hart_back (v : Value) (l : List Int) (c p : Int) (w : World) (ha : ArgS 1 c1 w v l) (hl : ∀ x ∈ l, I64 x) (_ : I64 c) (_ : I64 p) :
    Calls Try.prog 4 #[v, .int .i64 c, .int .i64 p] w fun e w' => e = .returned (.bool true) ∧ Below w.heap.size w w' := by
  have HA := Lib.hid ha; have HL := Lib.hid hl
  clear ha hl
  have fine := fit_fine l
  go_enter Try.func4, Try.ntmps4
  go_wp2_with fail
  refine (awake14 _).mono ?_
  rintro e w1 ⟨rfl, hb1⟩
  have bel1 : Below w.heap.size w w1 := hb1
  clear hb1
  go_wp2_with fail
  refine (hfit_any v l _ (HA.out.below bel1) HL.out).mono ?_
  rintro e w2 ⟨rfl, hb2⟩
  have bel2 : Below w.heap.size w w2 := bw_tr bel1 hb2
  clear bel1
  clear hb2
  generalize fitH l = h at *
  have hlh := fine.len
  obtain ⟨ht, hb, lo, q, et, sb, sl, tp, tc, tl, bp, bl, br, lr, ll, q1, q2⟩ := back_all h fine c p
  have len_ht : ht.r.length = 32 := by rw [← et]; exact hlh
  have len_hb := len_at len_ht sb
  have hlp : (putH h 7 0).r.length = 32 := put_len hlh 7 0
  have len_lo := len_at hlp sl
  have fst := fine.st
  have st0 : 0 ≤ h.st := by omega
  have st1 : h.st ≤ 136 := by omega
  have ET := Lib.hid et; have SB := Lib.hid sb; have SL := Lib.hid sl; have TP := Lib.hid tp; have TC := Lib.hid tc; have TL := Lib.hid tl; have BP := Lib.hid bp; have BL := Lib.hid bl; have BR := Lib.hid br; have LR := Lib.hid lr; have LL := Lib.hid ll; have Q1 := Lib.hid q1; have Q2 := Lib.hid q2
  clear et sb sl tp tc tl bp bl br lr ll q1 q2 fine fst
  have ZN2 := Lib.hid (new_in w2 (.cells zA 28))
  go_upto_region 3 with (refine wpList_store_row rfl 28 _ _ rfl (w2.heap.size) (hA h) rfl rfl 28 zA ZN2.out (infoA (hA_size h hlh)) (by rw [hA_size h hlh]; rfl) (hA_one h) ?_)
  obtain ⟨w2x, hw2x⟩ : ∃ w2x : World, w2x = (w2.alloc (.cells zA 28)).setRow w2.heap.size (hA h) := ⟨_, rfl⟩
  have HG2 : Hid (w2x.heap[w2.heap.size]? = some (.cells (hA h) 28 (0, 0))) := by rw [hw2x]; exact setRow_heap _ _ _ _ _ _ ZN2.out
  have hbx2 : Below w2.heap.size w2 w2x := by rw [hw2x]; exact below_setRow ((Below.refl _ _).alloc (Nat.le_refl _) _) (Nat.le_refl _) _
  have hsx2 : w2.heap.size + 1 ≤ w2x.heap.size := by have := lt_in HG2.out; omega
  first | rw [← hw2x] | (change Code.wp _ _ _ _ ((w2.alloc (.cells zA 28)).setRow w2.heap.size (hA h)); rw [← hw2x])
  clear hw2x ZN2
  have bel3 : Below w.heap.size w w2x := bw_tr bel2 hbx2
  clear bel2
  clear hbx2 hsx2
  go_wp2_with (refine wpList_load_row rfl 28 _ rfl (w2.heap.size) rfl 28 (hA h) (0, 0) _ HG2.out Try.underlying28 rfl (infoA (hA_size h hlh)) ?_)
  refine (trap_any' h c _ hlh).mono ?_
  rw [ET.out]
  rintro e w3 ⟨rfl, hb3⟩
  have F4 := Lib.hid (bel_in hb3 (lt_in HG2.out) HG2.out)
  have bel5 : Below w.heap.size w w3 := bw_tr bel3 hb3
  clear HG2 bel3
  clear hb3
  have ZN3 := Lib.hid (new_in w3 (.cells zA 28))
  go_upto_region 4 with (refine wpList_store_row rfl 28 _ _ rfl (w3.heap.size) (hA ht) rfl rfl 28 zA ZN3.out (infoA (hA_size ht len_ht)) (by rw [hA_size ht len_ht]; rfl) (hA_one ht) ?_)
  obtain ⟨w3x, hw3x⟩ : ∃ w3x : World, w3x = (w3.alloc (.cells zA 28)).setRow w3.heap.size (hA ht) := ⟨_, rfl⟩
  have HG3 : Hid (w3x.heap[w3.heap.size]? = some (.cells (hA ht) 28 (0, 0))) := by rw [hw3x]; exact setRow_heap _ _ _ _ _ _ ZN3.out
  have hbx3 : Below w3.heap.size w3 w3x := by rw [hw3x]; exact below_setRow ((Below.refl _ _).alloc (Nat.le_refl _) _) (Nat.le_refl _) _
  have hsx3 : w3.heap.size + 1 ≤ w3x.heap.size := by have := lt_in HG3.out; omega
  first | rw [← hw3x] | (change Code.wp _ _ _ _ ((w3.alloc (.cells zA 28)).setRow w3.heap.size (hA ht)); rw [← hw3x])
  clear hw3x ZN3
  have F6 := Lib.hid (bel_in hbx3 (lt_in F4.out) F4.out)
  have bel7 : Below w.heap.size w w3x := bw_tr bel5 hbx3
  clear F4 bel5
  clear hbx3 hsx3
  go_wp2_with (refine wpList_load_row rfl 28 _ rfl (w3.heap.size) rfl 28 (hA ht) (0, 0) _ HG3.out Try.underlying28 rfl (infoA (hA_size ht len_ht)) ?_)
  refine (step_at ht 0 (44) (0) (0) (0) (0) _ len_ht hb (0) (0) (0) (0) (0) SB.out).mono ?_
  rintro e w4 ⟨rfl, hb4⟩
  have F8 := Lib.hid (bel_in hb4 (lt_in F6.out) F6.out)
  have F9 := Lib.hid (bel_in hb4 (lt_in HG3.out) HG3.out)
  have bel10 : Below w.heap.size w w4 := bw_tr bel7 hb4
  clear F6 HG3 bel7
  clear hb4
  have ZN4 := Lib.hid (heap_alloc2_old w4 (.cells zA 28) (.cells effZ 34))
  have YN4 := Lib.hid (row_ne (b := w4.heap.size) (cs := hA hb) (by omega) (heap_alloc2_new w4 (.cells zA 28) (.cells effZ 34)))
  go_upto_region 5 with (first | (refine wpList_store_row rfl 28 _ _ rfl (w4.heap.size) (hA hb) rfl rfl 28 zA ZN4.out (infoA (hA_size hb len_hb)) (by rw [hA_size hb len_hb]; rfl) (hA_one hb) ?_) | (refine wpList_store_row rfl 34 _ _ rfl (w4.heap.size + 1) #[.int .i64 (0), .int .i64 (0), .int .i64 (0), .int .i64 (0), .int .i64 (0)] rfl rfl 34 effZ YN4.out (by kernel_rfl) rfl (by kernel_rfl) ?_))
  obtain ⟨w4x, hw4x⟩ : ∃ w4x : World, w4x = (((w4.alloc (.cells zA 28)).alloc (.cells effZ 34)).setRow w4.heap.size (hA hb)).setRow (w4.heap.size + 1) #[.int .i64 (0), .int .i64 (0), .int .i64 (0), .int .i64 (0), .int .i64 (0)] := ⟨_, rfl⟩
  have HG4 : Hid (w4x.heap[w4.heap.size]? = some (.cells (hA hb) 28 (0, 0))) := by rw [hw4x]; exact row_ne (by omega) (setRow_heap _ _ _ _ _ _ ZN4.out)
  have HE4 : Hid (w4x.heap[w4.heap.size + 1]? = some (.cells #[.int .i64 (0), .int .i64 (0), .int .i64 (0), .int .i64 (0), .int .i64 (0)] 34 (0, 0))) := by rw [hw4x]; exact setRow_heap _ _ _ _ _ _ YN4.out
  have hbx4 : Below w4.heap.size w4 w4x := by rw [hw4x]; exact below_setRow (below_setRow (((Below.refl _ _).alloc (Nat.le_refl _) _).alloc (by simp) _) (Nat.le_refl _) _) (by omega) _
  have hsx4 : w4.heap.size + 2 ≤ w4x.heap.size := by have := lt_in HE4.out; omega
  first | rw [← hw4x] | (change Code.wp _ _ _ _ ((((w4.alloc (.cells zA 28)).alloc (.cells effZ 34)).setRow w4.heap.size (hA hb)).setRow (w4.heap.size + 1) #[.int .i64 (0), .int .i64 (0), .int .i64 (0), .int .i64 (0), .int .i64 (0)]); rw [← hw4x])
  clear hw4x ZN4 YN4
  have F11 := Lib.hid (bel_in hbx4 (lt_in F8.out) F8.out)
  have F12 := Lib.hid (bel_in hbx4 (lt_in F9.out) F9.out)
  have bel13 : Below w.heap.size w w4x := bw_tr bel10 hbx4
  clear F8 F9 bel10
  clear hbx4 hsx4
  go_wp2_with (refine wpList_load_row rfl 28 _ rfl (w2.heap.size) rfl 28 (hA h) (0, 0) _ F11.out Try.underlying28 rfl (infoA (hA_size h hlh)) ?_)
  refine (put_any h 7 0 _ hlh).mono ?_
  rintro e w5 ⟨rfl, hb5⟩
  have F14 := Lib.hid (bel_in hb5 (lt_in F11.out) F11.out)
  have F15 := Lib.hid (bel_in hb5 (lt_in F12.out) F12.out)
  have F16 := Lib.hid (bel_in hb5 (lt_in HG4.out) HG4.out)
  have F17 := Lib.hid (bel_in hb5 (lt_in HE4.out) HE4.out)
  have bel18 : Below w.heap.size w w5 := bw_tr bel13 hb5
  clear F11 F12 HG4 HE4 bel13
  clear hb5
  generalize hpp : putH h 7 0 = hp at *
  have HPP := Lib.hid hpp; clear hpp
  go_wp2_with fail
  refine (step_at hp 0 40 8 7 0 1984 _ hlp lo 0 0 0 0 0 SL.out).mono ?_
  rintro e w6 ⟨rfl, hb6⟩
  have F19 := Lib.hid (bel_in hb6 (lt_in F14.out) F14.out)
  have F20 := Lib.hid (bel_in hb6 (lt_in F15.out) F15.out)
  have F21 := Lib.hid (bel_in hb6 (lt_in F16.out) F16.out)
  have F22 := Lib.hid (bel_in hb6 (lt_in F17.out) F17.out)
  have bel23 : Below w.heap.size w w6 := bw_tr bel18 hb6
  clear F14 F15 F16 F17 bel18
  clear hb6
  have ZN6 := Lib.hid (heap_alloc2_old w6 (.cells zA 28) (.cells effZ 34))
  have YN6 := Lib.hid (row_ne (b := w6.heap.size) (cs := hA lo) (by omega) (heap_alloc2_new w6 (.cells zA 28) (.cells effZ 34)))
  go_upto_region 6 with (first | (refine wpList_store_row rfl 28 _ _ rfl (w6.heap.size) (hA lo) rfl rfl 28 zA ZN6.out (infoA (hA_size lo len_lo)) (by rw [hA_size lo len_lo]; rfl) (hA_one lo) ?_) | (refine wpList_store_row rfl 34 _ _ rfl (w6.heap.size + 1) #[.int .i64 (0), .int .i64 (0), .int .i64 (0), .int .i64 (0), .int .i64 (0)] rfl rfl 34 effZ YN6.out (by kernel_rfl) rfl (by kernel_rfl) ?_))
  obtain ⟨w6x, hw6x⟩ : ∃ w6x : World, w6x = (((w6.alloc (.cells zA 28)).alloc (.cells effZ 34)).setRow w6.heap.size (hA lo)).setRow (w6.heap.size + 1) #[.int .i64 (0), .int .i64 (0), .int .i64 (0), .int .i64 (0), .int .i64 (0)] := ⟨_, rfl⟩
  have HG6 : Hid (w6x.heap[w6.heap.size]? = some (.cells (hA lo) 28 (0, 0))) := by rw [hw6x]; exact row_ne (by omega) (setRow_heap _ _ _ _ _ _ ZN6.out)
  have HE6 : Hid (w6x.heap[w6.heap.size + 1]? = some (.cells #[.int .i64 (0), .int .i64 (0), .int .i64 (0), .int .i64 (0), .int .i64 (0)] 34 (0, 0))) := by rw [hw6x]; exact setRow_heap _ _ _ _ _ _ YN6.out
  have hbx6 : Below w6.heap.size w6 w6x := by rw [hw6x]; exact below_setRow (below_setRow (((Below.refl _ _).alloc (Nat.le_refl _) _).alloc (by simp) _) (Nat.le_refl _) _) (by omega) _
  have hsx6 : w6.heap.size + 2 ≤ w6x.heap.size := by have := lt_in HE6.out; omega
  first | rw [← hw6x] | (change Code.wp _ _ _ _ ((((w6.alloc (.cells zA 28)).alloc (.cells effZ 34)).setRow w6.heap.size (hA lo)).setRow (w6.heap.size + 1) #[.int .i64 (0), .int .i64 (0), .int .i64 (0), .int .i64 (0), .int .i64 (0)]); rw [← hw6x])
  clear hw6x ZN6 YN6
  have F24 := Lib.hid (bel_in hbx6 (lt_in F19.out) F19.out)
  have F25 := Lib.hid (bel_in hbx6 (lt_in F20.out) F20.out)
  have F26 := Lib.hid (bel_in hbx6 (lt_in F21.out) F21.out)
  have F27 := Lib.hid (bel_in hbx6 (lt_in F22.out) F22.out)
  have bel28 : Below w.heap.size w w6x := bw_tr bel23 hbx6
  clear F19 F20 F21 F22 bel23
  clear hbx6 hsx6
  have rc1' := cell_in F27.out (j := 0) (u := .int .i64 (0)) rfl
  have rc1 := fun x => wd_cell (lt_in F27.out) rc1' x
  clear rc1'
  have rc2' := cell_in F27.out (j := 1) (u := .int .i64 (0)) rfl
  have rc2 := fun x => wd_cell (lt_in F27.out) rc2' x
  clear rc2'
  have rc3' := cell_in F27.out (j := 2) (u := .int .i64 (0)) rfl
  have rc3 := fun x => wd_cell (lt_in F27.out) rc3' x
  clear rc3'
  have rc4' := cell_in F27.out (j := 3) (u := .int .i64 (0)) rfl
  have rc4 := fun x => wd_cell (lt_in F27.out) rc4' x
  clear rc4'
  have rc5' := cell_in F27.out (j := 4) (u := .int .i64 (0)) rfl
  have rc5 := fun x => wd_cell (lt_in F27.out) rc5' x
  clear rc5'
  have rc6' := cell_in F24.out (hA_fields h hlh).1
  have rc6 := fun x => wd_cell (lt_in F24.out) rc6' x
  clear rc6'
  have rc7' := cell_in F24.out (hA_fields h hlh).2.1
  have rc7 := fun x => wd_cell (lt_in F24.out) rc7' x
  clear rc7'
  have rc8' := cell_in F24.out (hA_fields h hlh).2.2.1
  have rc8 := fun x => wd_cell (lt_in F24.out) rc8' x
  clear rc8'
  have rc9' := cell_in F24.out (hA_fields h hlh).2.2.2.2.2.2
  have rc9 := fun x => wd_cell (lt_in F24.out) rc9' x
  clear rc9'
  have rc10' := cell_in F25.out (hA_fields ht len_ht).1
  rw [TP.out] at rc10'
  have rc10 := fun x => wd_cell (lt_in F25.out) rc10' x
  clear rc10'
  have rc11' := cell_in F25.out (hA_fields ht len_ht).2.2.2.2.2.1
  rw [TC.out] at rc11'
  have rc11 := fun x => wd_cell (lt_in F25.out) rc11' x
  clear rc11'
  have rc12' := cell_in F26.out (hA_fields hb len_hb).1
  rw [BP.out] at rc12'
  have rc12 := fun x => wd_cell (lt_in F26.out) rc12' x
  clear rc12'
  have rc13' := cell_in HG6.out (hA_r lo len_lo 8 (by omega))
  rw [LR.out] at rc13'
  have rc13 := fun x => wd_cell (lt_in HG6.out) rc13' x
  clear rc13'
  have rh14 : Hid (∀ w' : World, (∃ x : Wd w6x, w' = x.val) → (loadVar 28 ⟨w3.heap.size, 0, none⟩).run Try.prog w' = .ok (.agg (hA ht)) w') := by
    rintro w' ⟨x, rfl⟩
    exact run_loadVar_row _ _ 28 28 (hA ht) (0, 0) _ (bel_in x.bel (lt_in F25.out) F25.out) Try.underlying28 rfl (infoA (hA_size ht len_ht))
  have rh15 : Hid (∀ w' : World, (∃ x : Wd w6x, w' = x.val) → (loadVar 28 ⟨w4.heap.size, 0, none⟩).run Try.prog w' = .ok (.agg (hA hb)) w') := by
    rintro w' ⟨x, rfl⟩
    exact run_loadVar_row _ _ 28 28 (hA hb) (0, 0) _ (bel_in x.bel (lt_in F26.out) F26.out) Try.underlying28 rfl (infoA (hA_size hb len_hb))
  have rh16 : Hid (∀ w' : World, (∃ x : Wd w6x, w' = x.val) → (loadVar 28 ⟨w2.heap.size, 0, none⟩).run Try.prog w' = .ok (.agg (hA h)) w') := by
    rintro w' ⟨x, rfl⟩
    exact run_loadVar_row _ _ 28 28 (hA h) (0, 0) _ (bel_in x.bel (lt_in F24.out) F24.out) Try.underlying28 rfl (infoA (hA_size h hlh))
  have rh17 : Hid (∀ w' : World, (∃ x : Wd w6x, w' = x.val) → (loadVar 28 ⟨w6.heap.size, 0, none⟩).run Try.prog w' = .ok (.agg (hA lo)) w') := by
    rintro w' ⟨x, rfl⟩
    exact run_loadVar_row _ _ 28 28 (hA lo) (0, 0) _ (bel_in x.bel (lt_in HG6.out) HG6.out) Try.underlying28 rfl (infoA (hA_size lo len_lo))
  have rr18 : Hid (∀ w' : World, (∃ x : Wd w6x, w' = x.val) → (loadVar 26 ⟨w4.heap.size, 0, none⟩).run Try.prog w' = .ok (.agg (rA h.r)) w') := by
    rintro w' ⟨x, rfl⟩
    rw [← BR.out]; exact run_load_regs _ _ hb len_hb _ _ (bel_in x.bel (lt_in F26.out) F26.out)
  have rr19 : Hid (∀ w' : World, (∃ x : Wd w6x, w' = x.val) → (loadVar 26 ⟨w2.heap.size, 0, none⟩).run Try.prog w' = .ok (.agg (rA h.r)) w') := by
    rintro w' ⟨x, rfl⟩
    exact run_load_regs _ _ h hlh _ _ (bel_in x.bel (lt_in F24.out) F24.out)
  have qe := eq_eff 0 0 0 0 0
  have qr := eq_rA h.r hlh
  generalize hlq : letsB h.st h.le p = lh at *
  have HLQ := Lib.hid hlq; clear hlq
  have Q1' := Q1.out; have Q2' := Q2.out
  generalize hp0 : decide (0 < p) = pz at *
  have HL1 := Lib.hid Q1'; have HL2 := Lib.hid Q2'; have HP0 := Lib.hid hp0
  clear Q1' Q2' hp0
  have u1 : IntKind.i64.wrap (h.st.tdiv 8) = h.st / 8 := by rw [Int.tdiv_eq_ediv_of_nonneg st0]; exact IntWalk.i64_in _ (by omega)
  have u2 : IntKind.i64.wrap (h.st / 8) = h.st / 8 := IntWalk.i64_in _ (by omega)
  have u3 : h.st.tdiv 8 = h.st / 8 := Int.tdiv_eq_ediv_of_nonneg st0
  have u4 : (h.st / 8).tmod 2 = h.st / 8 % 2 := Int.tmod_eq_emod_of_nonneg (by omega)
  have u5 : IntKind.i64.wrap (h.st / 8 % 2) = h.st / 8 % 2 := IntWalk.i64_in _ (by omega)
  cases lh <;> cases q <;> cases pz
  all_goals
    have ll := LL.out
    simp only [Bool.and_true, Bool.and_false, Bool.true_and, Bool.false_and, Bool.and_self] at ll
    have LL2 := Lib.hid ll; clear ll
    have e1 := HL1.out; have e3 := HP0.out
    clear F24 F25 F26 F27 HG6 HE6 
    try simp only [List.append_eq, List.cons_append, List.nil_append] at *
    go_wp2_with fail
    refine wp_region_below (by kernel_rfl) (by kernel_rfl) ?_
    try simp only [Act.put, List.setIfInBounds_toArray, List.set_cons_succ, List.set_cons_zero]
    repeat (first | (go_big_quiet_want; (with_reducible refine quiet_load_row (o := ⟨_, .load _ _, _, _, _, _⟩) 28 _ (w3.heap.size) (hA ht) rfl ?_ rh14.out ?_); exact rfl; simp only [Act.put, List.setIfInBounds_toArray, List.set_cons_succ, List.set_cons_zero]; go_big_quiet_on) | (go_big_quiet_want; (with_reducible refine quiet_load_row (o := ⟨_, .load _ _, _, _, _, _⟩) 28 _ (w4.heap.size) (hA hb) rfl ?_ rh15.out ?_); exact rfl; simp only [Act.put, List.setIfInBounds_toArray, List.set_cons_succ, List.set_cons_zero]; go_big_quiet_on) | (go_big_quiet_want; (with_reducible refine quiet_load_row (o := ⟨_, .load _ _, _, _, _, _⟩) 28 _ (w2.heap.size) (hA h) rfl ?_ rh16.out ?_); exact rfl; simp only [Act.put, List.setIfInBounds_toArray, List.set_cons_succ, List.set_cons_zero]; go_big_quiet_on) | (go_big_quiet_want; (with_reducible refine quiet_load_row (o := ⟨_, .load _ _, _, _, _, _⟩) 28 _ (w6.heap.size) (hA lo) rfl ?_ rh17.out ?_); exact rfl; simp only [Act.put, List.setIfInBounds_toArray, List.set_cons_succ, List.set_cons_zero]; go_big_quiet_on) | (go_big_quiet_want; (with_reducible refine quiet_load_row (o := ⟨_, .load _ _, _, _, _, _⟩) 26 _ (w4.heap.size) (rA h.r) rfl ?_ rr18.out ?_); exact rfl; simp only [Act.put, List.setIfInBounds_toArray, List.set_cons_succ, List.set_cons_zero]; go_big_quiet_on) | (go_big_quiet_want; (with_reducible refine quiet_load_row (o := ⟨_, .load _ _, _, _, _, _⟩) 26 _ (w2.heap.size) (rA h.r) rfl ?_ rr19.out ?_); exact rfl; simp only [Act.put, List.setIfInBounds_toArray, List.set_cons_succ, List.set_cons_zero]; go_big_quiet_on) | go_big_quiet_step ((first | (go_at_call 24; first | with_reducible exact quiet_s (wrap_any _ _)) | (go_at_call 22; first | with_reducible exact quiet_b (lets_at ht p false _ len_ht TL.out) | with_reducible exact quiet_b (lets_at hb p _ _ len_hb BL.out) | with_reducible exact quiet_b (lets_at h p _ _ hlh HLQ.out) | with_reducible exact quiet_b (lets_at lo p _ _ len_lo LL2.out)))))
    refine wpQuiet_nil ?_
    rintro w99 ⟨⟨w99x, hb99⟩, rfl⟩
    go_wp2_with fail
    go_ret
    exact ⟨rfl, (bw_tr bel28 hb99)⟩
end Go.Proofs.Ytiahdhlfecgnpaa
