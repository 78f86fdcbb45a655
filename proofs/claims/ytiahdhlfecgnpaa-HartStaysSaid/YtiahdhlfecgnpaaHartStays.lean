/-
  The walk of the law HartStays.
-/
import Derived.Test.YtiahdhlfecgnpaaHartStaysP
import Derived.Test.YtiahdhlfecgnpaaHartMid
import Derived.Deep.QuietTactic
import Derived.BigQuiet
import Derived.Outline
namespace Go.Proofs.Ytiahdhlfecgnpaa
open Go.RowKit
set_option linter.unusedSimpArgs false
set_option maxRecDepth 100000 in
set_option maxHeartbeats 8000000 in
theorem hart_stays (v : Value) (l : List Int) (x : Ins) (id : Int) (w : World) (ha : ArgS 1 c1 w v l) (hl : ∀ x ∈ l, I64 x) (hx : ok_instr x) (_ : I64 id) :
    Calls Try.prog 9 #[v, insV x, .int .i64 id] w fun e w' => e = .returned (.bool true) ∧ Below w.heap.size w w' := by
  have HA := Lib.hid ha; have HL := Lib.hid hl; have HXO := Lib.hid hx
  clear ha hl hx
  have fine := fit_fine l
  have hyr := fit_right x
  obtain ⟨op, d, a, b, n⟩ := x
  obtain ⟨w0, hw0⟩ : ∃ w0 : World, w0 = w.alloc (.cells #[.int .i64 op, .int .i64 d, .int .i64 a, .int .i64 b, .int .i64 n] 24) := ⟨_, rfl⟩
  have HI0 : Hid (w0.heap[w.heap.size]? = some (.cells #[.int .i64 op, .int .i64 d, .int .i64 a, .int .i64 b, .int .i64 n] 24 (0, 0))) := by rw [hw0]; exact Lib.hid (new_in _ _)
  have hb0 : Below w.heap.size w w0 := by rw [hw0]; exact (Below.refl _ _).alloc (Nat.le_refl _) _
  have HW := Lib.hid hw0; clear hw0
  unfold insV
  go_enter Try.func9, Try.ntmps9
  go_upto_region 1 with (fail)
  rw [← HW.out]
  clear HW
  go_wp2_with fail
  have bel1 : Below w.heap.size w w0 := hb0
  refine (awake14 _).mono ?_
  rintro e w1 ⟨rfl, hb1⟩
  have F2 := Lib.hid (bel_in hb1 (lt_in HI0.out) HI0.out)
  have bel3 : Below w.heap.size w w1 := bw_tr bel1 hb1
  clear HI0 bel1
  clear hb1
  go_wp2_with fail
  refine (hfit_any v l _ (HA.out.below bel3) HL.out).mono ?_
  rintro e w2 ⟨rfl, hb2⟩
  have F4 := Lib.hid (bel_in hb2 (lt_in F2.out) F2.out)
  have bel5 : Below w.heap.size w w2 := bw_tr bel3 hb2
  clear F2 bel3
  clear hb2
  generalize fitH l = h at *
  have hlh := fine.len
  clear fine
  have ZN2 := Lib.hid (new_in w2 (.cells zA 28))
  go_upto_region 3 with (refine wpList_store_row rfl 28 _ _ rfl (w2.heap.size) (hA h) rfl rfl 28 zA ZN2.out (infoA (hA_size h hlh)) (by rw [hA_size h hlh]; rfl) (hA_one h) ?_)
  obtain ⟨w2x, hw2x⟩ : ∃ w2x : World, w2x = (w2.alloc (.cells zA 28)).setRow w2.heap.size (hA h) := ⟨_, rfl⟩
  have HG2 : Hid (w2x.heap[w2.heap.size]? = some (.cells (hA h) 28 (0, 0))) := by rw [hw2x]; exact setRow_heap _ _ _ _ _ _ ZN2.out
  have hbx2 : Below w2.heap.size w2 w2x := by rw [hw2x]; exact below_setRow ((Below.refl _ _).alloc (Nat.le_refl _) _) (Nat.le_refl _) _
  have hsx2 : w2.heap.size + 1 ≤ w2x.heap.size := by have := lt_in HG2.out; omega
  first | rw [← hw2x] | (change Code.wp _ _ _ _ ((w2.alloc (.cells zA 28)).setRow w2.heap.size (hA h)); rw [← hw2x])
  clear hw2x ZN2
  have F6 := Lib.hid (bel_in hbx2 (lt_in F4.out) F4.out)
  have bel7 : Below w.heap.size w w2x := bw_tr bel5 hbx2
  clear F4 bel5
  clear hbx2 hsx2
  have ci0 := cell_in F6.out (j := 0) (u := .int .i64 (op)) rfl
  have ci1 := cell_in F6.out (j := 1) (u := .int .i64 (d)) rfl
  have ci2 := cell_in F6.out (j := 2) (u := .int .i64 (a)) rfl
  have ci3 := cell_in F6.out (j := 3) (u := .int .i64 (b)) rfl
  have ci4 := cell_in F6.out (j := 4) (u := .int .i64 (n)) rfl
  go_wp2_with fail
  refine (fit_any ⟨op, d, a, b, n⟩ _ HXO.out).mono ?_
  rintro e w3 ⟨rfl, hb3⟩
  have F8 := Lib.hid (bel_in hb3 (lt_in F6.out) F6.out)
  have F9 := Lib.hid (bel_in hb3 (lt_in HG2.out) HG2.out)
  have bel10 : Below w.heap.size w w3 := bw_tr bel7 hb3
  clear F6 HG2 bel7
  clear hb3
  clear ci0 ci1 ci2 ci3 ci4
  generalize fitX ⟨op, d, a, b, n⟩ = y at *
  have hreg := stays_regs h id y hyr
  have hrest := stays_rest h id y hyr
  have hwr : writesN y = y.d := by unfold writesN; rw [hyr]; rfl
  obtain ⟨yop, yd, ya, yb, yn⟩ := y
  simp only at hreg hrest hwr
  generalize hst : stepX h id ⟨yop, yd, ya, yb, yn⟩ = res at *
  obtain ⟨g, ⟨e0, e1, e2, e3, e4⟩⟩ := res
  have len_g := len_at hlh hst
  simp only at hreg hrest
  have HST := Lib.hid hst; have HREG := Lib.hid hreg; have HREST := Lib.hid hrest; have HWR := Lib.hid hwr
  clear hst hreg hrest hwr hyr
  unfold insV
  have ZNI := Lib.hid (new_in w3 (.cells effZ 24))
  go_upto_region 4 with (refine wpList_store_row rfl 24 _ _ rfl (w3.heap.size) #[.int .i64 yop, .int .i64 yd, .int .i64 ya, .int .i64 yb, .int .i64 yn] rfl rfl 24 effZ ZNI.out (by kernel_rfl) rfl (by kernel_rfl) ?_)
  obtain ⟨w3x, hw3x⟩ : ∃ w3x : World, w3x = (w3.alloc (.cells effZ 24)).setRow w3.heap.size #[.int .i64 yop, .int .i64 yd, .int .i64 ya, .int .i64 yb, .int .i64 yn] := ⟨_, rfl⟩
  have HGY : Hid (w3x.heap[w3.heap.size]? = some (.cells #[.int .i64 yop, .int .i64 yd, .int .i64 ya, .int .i64 yb, .int .i64 yn] 24 (0, 0))) := by rw [hw3x]; exact Lib.hid (setRow_heap _ _ _ _ _ _ ZNI.out)
  have hbx3 : Below w3.heap.size w3 w3x := by rw [hw3x]; exact below_setRow ((Below.refl _ _).alloc (Nat.le_refl _) _) (Nat.le_refl _) _
  first | rw [← hw3x] | (change Code.wp _ _ _ _ ((w3.alloc (.cells effZ 24)).setRow w3.heap.size #[.int .i64 yop, .int .i64 yd, .int .i64 ya, .int .i64 yb, .int .i64 yn]); rw [← hw3x])
  clear hw3x ZNI
  have F11 := Lib.hid (bel_in hbx3 (lt_in F9.out) F9.out)
  have bel12 : Below w.heap.size w w3x := bw_tr bel10 hbx3
  clear F9 bel10
  clear hbx3
  have cy0 := cell_in HGY.out (j := 0) (u := .int .i64 (yop)) rfl
  have cy1 := cell_in HGY.out (j := 1) (u := .int .i64 (yd)) rfl
  have cy2 := cell_in HGY.out (j := 2) (u := .int .i64 (ya)) rfl
  have cy3 := cell_in HGY.out (j := 3) (u := .int .i64 (yb)) rfl
  have cy4 := cell_in HGY.out (j := 4) (u := .int .i64 (yn)) rfl
  go_wp2_with (refine wpList_load_row rfl 28 _ rfl (w2.heap.size) rfl 28 (hA h) (0, 0) _ F11.out Try.underlying28 rfl (infoA (hA_size h hlh)) ?_)
  refine (step_at h id yop yd ya yb yn _ hlh g e0 e1 e2 e3 e4 HST.out).mono ?_
  rintro e w4 ⟨rfl, hb4⟩
  have F13 := Lib.hid (bel_in hb4 (lt_in F11.out) F11.out)
  have F14 := Lib.hid (bel_in hb4 (lt_in HGY.out) HGY.out)
  have bel15 : Below w.heap.size w w4 := bw_tr bel12 hb4
  clear F11 HGY bel12
  clear hb4
  clear cy0 cy1 cy2 cy3 cy4
  have ZN4 := Lib.hid (heap_alloc2_old w4 (.cells zA 28) (.cells effZ 34))
  have YN4 := Lib.hid (row_ne (b := w4.heap.size) (cs := hA g) (by omega) (heap_alloc2_new w4 (.cells zA 28) (.cells effZ 34)))
  go_upto_region 5 with (first | (refine wpList_store_row rfl 28 _ _ rfl (w4.heap.size) (hA g) rfl rfl 28 zA ZN4.out (infoA (hA_size g len_g)) (by rw [hA_size g len_g]; rfl) (hA_one g) ?_) | (refine wpList_store_row rfl 34 _ _ rfl (w4.heap.size + 1) #[.int .i64 (e0), .int .i64 (e1), .int .i64 (e2), .int .i64 (e3), .int .i64 (e4)] rfl rfl 34 effZ YN4.out (by kernel_rfl) rfl (by kernel_rfl) ?_))
  obtain ⟨w4x, hw4x⟩ : ∃ w4x : World, w4x = (((w4.alloc (.cells zA 28)).alloc (.cells effZ 34)).setRow w4.heap.size (hA g)).setRow (w4.heap.size + 1) #[.int .i64 (e0), .int .i64 (e1), .int .i64 (e2), .int .i64 (e3), .int .i64 (e4)] := ⟨_, rfl⟩
  have HG4 : Hid (w4x.heap[w4.heap.size]? = some (.cells (hA g) 28 (0, 0))) := by rw [hw4x]; exact row_ne (by omega) (setRow_heap _ _ _ _ _ _ ZN4.out)
  have HE4 : Hid (w4x.heap[w4.heap.size + 1]? = some (.cells #[.int .i64 (e0), .int .i64 (e1), .int .i64 (e2), .int .i64 (e3), .int .i64 (e4)] 34 (0, 0))) := by rw [hw4x]; exact setRow_heap _ _ _ _ _ _ YN4.out
  have hbx4 : Below w4.heap.size w4 w4x := by rw [hw4x]; exact below_setRow (below_setRow (((Below.refl _ _).alloc (Nat.le_refl _) _).alloc (by simp) _) (Nat.le_refl _) _) (by omega) _
  have hsx4 : w4.heap.size + 2 ≤ w4x.heap.size := by have := lt_in HE4.out; omega
  first | rw [← hw4x] | (change Code.wp _ _ _ _ ((((w4.alloc (.cells zA 28)).alloc (.cells effZ 34)).setRow w4.heap.size (hA g)).setRow (w4.heap.size + 1) #[.int .i64 (e0), .int .i64 (e1), .int .i64 (e2), .int .i64 (e3), .int .i64 (e4)]); rw [← hw4x])
  clear hw4x ZN4 YN4
  have F16 := Lib.hid (bel_in hbx4 (lt_in F13.out) F13.out)
  have F17 := Lib.hid (bel_in hbx4 (lt_in F14.out) F14.out)
  have bel18 : Below w.heap.size w w4x := bw_tr bel15 hbx4
  clear F13 F14 bel15
  clear hbx4 hsx4
  have cy0 := cell_in F17.out (j := 0) (u := .int .i64 (yop)) rfl
  have cy1 := cell_in F17.out (j := 1) (u := .int .i64 (yd)) rfl
  have cy2 := cell_in F17.out (j := 2) (u := .int .i64 (ya)) rfl
  have cy3 := cell_in F17.out (j := 3) (u := .int .i64 (yb)) rfl
  have cy4 := cell_in F17.out (j := 4) (u := .int .i64 (yn)) rfl
  go_wp2_with fail
  refine (writes_any ⟨yop, yd, ya, yb, yn⟩ _).mono ?_
  rw [HWR.out]
  rintro e w5 ⟨rfl, hb5⟩
  have F19 := Lib.hid (bel_in hb5 (lt_in F16.out) F16.out)
  have F20 := Lib.hid (bel_in hb5 (lt_in F17.out) F17.out)
  have F21 := Lib.hid (bel_in hb5 (lt_in HG4.out) HG4.out)
  have F22 := Lib.hid (bel_in hb5 (lt_in HE4.out) HE4.out)
  have bel23 : Below w.heap.size w w5 := bw_tr bel18 hb5
  clear F16 F17 HG4 HE4 bel18
  clear hb5
  clear cy0 cy1 cy2 cy3 cy4
  go_wp2_with fail
  go_loopw [13] (fun i wr => ∃ k : Nat, k ≤ 32 ∧ i = .int .i64 k ∧ Below w5.heap.size w5 wr) (fun i _ => 32 - (intOf i).toNat)
  case atStart => exact ⟨0, by omega, rfl, Below.refl _ _⟩
  case round =>
    obtain ⟨k, hk, rfl, hbb⟩ := hrel
    have F24 := Lib.hid (bel_in hbb (lt_in F19.out) F19.out)
    have F25 := Lib.hid (bel_in hbb (lt_in F20.out) F20.out)
    have F26 := Lib.hid (bel_in hbb (lt_in F21.out) F21.out)
    have F27 := Lib.hid (bel_in hbb (lt_in F22.out) F22.out)
    have bel28 : Below w.heap.size w wr := bw_tr bel23 hbb
    clear F19 F20 F21 F22 bel23
    by_cases hlt : k < 32
    · have hk0 : (0 : Int) ≤ (k : Int) := by omega
      have hk1 : (k : Int) < 32 := by omega
      have ch := cell_in F24.out (hA_r h hlh k hlt)
      have cg := cell_in F26.out (hA_r g len_g k hlt)
      have ce := cell_in F27.out (j := 0) (u := .int .i64 e0) rfl
      have hkeep := HREG.out k
      generalize h.r.getD k 0 = vh at *
      generalize g.r.getD k 0 = vg at *
      have hk2 : decide ((k : Int) < 32) = true := decide_eq_true (by omega)
      have hrule : (!((k : Int) == yd) || ((k : Int) == 0) || !(e0 == 0)) = true → vg = vh := fun hc => hkeep (by
        by_cases u1 : (k : Int) = yd
        · by_cases u2 : k = 0
          · exact .inr (.inl u2)
          · refine .inr (.inr (fun u3 => ?_))
            have u4 : ¬ ((k : Int) = 0) := by omega
            simp [u1, u3] at hc
            omega
        · exact .inl u1)
      clear hkeep HREG HREST HST HWR
      cases h1 : ((k : Int) == yd) <;> cases h2 : ((k : Int) == 0) <;> cases h3 : (e0 == 0)
      all_goals
        have h1' : ((k : Int) != yd) = !((k : Int) == yd) := rfl
        have h3' : (e0 != 0) = !(e0 == 0) := rfl
        rw [h1] at h1'; rw [h3] at h3'
        simp only [Bool.not_true, Bool.not_false] at h1' h3'
        rw [h1, h2, h3] at hrule
        first | (have hv := hrule rfl; subst hv) | skip
        clear hrule
        have hself : ∀ z : Int, (z != z) = false := fun z => by simp
        go_wp2_with fail
        go_quiet (fail)
        go_wp2_with fail
        refine ⟨⟨k + 1, by omega, by go_num, ?_⟩, by simp [intOf]; omega⟩
        exact below_drewN hbb _
    · obtain rfl : k = 32 := by omega
      have hcases : yop = 40 ∨ yop = 41 ∨ yop = 42 ∨ yop = 44 ∨ (yop ≠ 40 ∧ yop ≠ 41 ∧ yop ≠ 42 ∧ yop ≠ 44) := by omega
      clear hlt hk HREG HST HWR
      rcases hcases with hop | hop | hop | hop | hop
      · have q40 : (yop == 40) = true := beq_iff_eq.2 hop
        have q41 : (yop == 41) = false := beq_eq_false_iff_ne.2 (by omega)
        have q42 : (yop == 42) = false := beq_eq_false_iff_ne.2 (by omega)
        have q44 : (yop == 44) = false := beq_eq_false_iff_ne.2 (by omega)
        clear hop HREST
        have cy0 := cell_in F25.out (j := 0) (u := .int .i64 yop) rfl
        go_upto_region 12 with (fail)
        clear cy0 q40 q41 q42 q44
        have lt_G2 := lt_in F24.out
        have lt_Y := lt_in F25.out
        have lt_G4 := lt_in F26.out
        have lt_E4 := lt_in F27.out
        have ltw : w.heap.size ≤ wr.heap.size := (bel28).size
        have ZN9 := Lib.hid (new_in wr (.cells zA 28))
        go_upto_region 13 with (first | (refine wpList_load_row rfl 28 _ rfl (w4.heap.size) rfl 28 (hA g) (0, 0) _ F26.out Try.underlying28 rfl (infoA (hA_size g len_g)) ?_) | (refine wpList_store_row rfl 28 _ _ rfl (wr.heap.size) (hA g) rfl rfl 28 zA ZN9.out (infoA (hA_size g len_g)) (by rw [hA_size g len_g]; rfl) (hA_one g) ?_))
        obtain ⟨w9x, hw9x⟩ : ∃ w9x : World, w9x = (wr.alloc (.cells zA 28)).setRow wr.heap.size (hA g) := ⟨_, rfl⟩
        have HG9 : Hid (w9x.heap[wr.heap.size]? = some (.cells (hA g) 28 (0, 0))) := by rw [hw9x]; exact setRow_heap _ _ _ _ _ _ ZN9.out
        have hbx9 : Below wr.heap.size wr w9x := by rw [hw9x]; exact below_setRow ((Below.refl _ _).alloc (Nat.le_refl _) _) (Nat.le_refl _) _
        have hsx9 : wr.heap.size + 1 ≤ w9x.heap.size := by have := lt_in HG9.out; omega
        first | rw [← hw9x] | (change Code.wp _ _ _ _ ((wr.alloc (.cells zA 28)).setRow wr.heap.size (hA g)); rw [← hw9x])
        clear hw9x ZN9
        have F29 := Lib.hid (bel_in hbx9 (lt_in F24.out) F24.out)
        have F30 := Lib.hid (bel_in hbx9 (lt_in F25.out) F25.out)
        have F31 := Lib.hid (bel_in hbx9 (lt_in F26.out) F26.out)
        have F32 := Lib.hid (bel_in hbx9 (lt_in F27.out) F27.out)
        have bel33 : Below w.heap.size w w9x := bw_tr bel28 hbx9
        clear F24 F25 F26 F27 bel28
        clear hbx9 hsx9
        have HRLA : Hid ((loadVar 26 ⟨w2.heap.size, 0, none⟩).run Try.prog w9x = .ok (.agg (rA h.r)) w9x) := Lib.hid (run_load_regs _ _ h hlh _ _ F29.out)
        have HTHA := Lib.hid (there_hA len_g HG9.out)
        try simp only [Act.put, List.setIfInBounds_toArray, List.set_cons_succ, List.set_cons_zero]
        go_upto_region 14 with (first | ((with_reducible refine load_run_g (o := ⟨_, .load _ _, _, _, _, _⟩) ?_ 26 _ rfl (w2.heap.size) ?_ (.agg (rA h.r)) HRLA.out ?_); rotate_left; exact rfl; rotate_left; exact rfl) | ((with_reducible refine wpList_store_mid (op := ⟨_, .store _ _ _, _, _, _, _⟩) rfl 26 _ _ rfl (wr.heap.size) 0 (rA h.r) ?_ ?_ (by rw [rA_size hlh]; exact HTHA.out) (by rw [rA_size hlh]; exact infoR) (rA_one _) ?_); exact rfl; exact rfl))
        obtain ⟨wrA, hwrA⟩ : ∃ wrA : World, wrA = w9x.setCells (wr.heap.size) 0 (rA h.r).toList := ⟨_, rfl⟩
        have HKA : Hid (wrA.heap[wr.heap.size]? = some (.cells (hA { g with r := h.r }) 28 (0, 0))) := by rw [hwrA]; exact Lib.hid (by have := setCells_heap (rA h.r).toList _ _ 0 _ _ HG9.out; rwa [ovr_hA g len_g _ hlh] at this)
        have F34' := setCells_ne (rA h.r).toList w9x (wr.heap.size) _ 0 _ (Nat.ne_of_lt lt_G2) F29.out
        rw [← hwrA] at F34'
        have F34 := Lib.hid F34'; clear F34'
        have F35' := setCells_ne (rA h.r).toList w9x (wr.heap.size) _ 0 _ (Nat.ne_of_lt lt_Y) F30.out
        rw [← hwrA] at F35'
        have F35 := Lib.hid F35'; clear F35'
        have F36' := setCells_ne (rA h.r).toList w9x (wr.heap.size) _ 0 _ (Nat.ne_of_lt lt_G4) F31.out
        rw [← hwrA] at F36'
        have F36 := Lib.hid F36'; clear F36'
        have F37' := setCells_ne (rA h.r).toList w9x (wr.heap.size) _ 0 _ (Nat.ne_of_lt lt_E4) F32.out
        rw [← hwrA] at F37'
        have F37 := Lib.hid F37'; clear F37'
        have bel38 : Below w.heap.size w wrA := by rw [hwrA]; exact bw_setCells _ _ _ _ ltw bel33
        rw [← hwrA]
        clear hwrA HRLA HTHA F29 F30 F31 F32 bel33 HG9
        have pkA := cell_in F34.out (hA_fields h hlh).1
        have pqA := cell_in HKA.out (hA_fields { g with r := h.r } hlh).1
        have pfA := frozen_in HKA.out 32
        try simp only [Act.put, List.setIfInBounds_toArray, List.set_cons_succ, List.set_cons_zero]
        go_upto_region 15 with (fail)
        obtain ⟨wpA, hwpA⟩ : ∃ wpA : World, wpA = wrA.setCell ⟨wr.heap.size, 32, none⟩ (.int .i64 h.pc) := ⟨_, rfl⟩
        have HMA : Hid (wpA.heap[wr.heap.size]? = some (.cells (hA { g with r := h.r, pc := h.pc }) 28 (0, 0))) := by rw [hwpA]; exact Lib.hid (set_heap HKA.out 32 _ _ (hA_pc { g with r := h.r } hlh h.pc))
        have F39' := heap_set_ne (w := wrA) (b := wr.heap.size) (o := 32) (u := .int .i64 h.pc) (Nat.ne_of_lt lt_G2) F34.out
        rw [← hwpA] at F39'
        have F39 := Lib.hid F39'; clear F39'
        have F40' := heap_set_ne (w := wrA) (b := wr.heap.size) (o := 32) (u := .int .i64 h.pc) (Nat.ne_of_lt lt_Y) F35.out
        rw [← hwpA] at F40'
        have F40 := Lib.hid F40'; clear F40'
        have F41' := heap_set_ne (w := wrA) (b := wr.heap.size) (o := 32) (u := .int .i64 h.pc) (Nat.ne_of_lt lt_G4) F36.out
        rw [← hwpA] at F41'
        have F41 := Lib.hid F41'; clear F41'
        have F42' := heap_set_ne (w := wrA) (b := wr.heap.size) (o := 32) (u := .int .i64 h.pc) (Nat.ne_of_lt lt_E4) F37.out
        rw [← hwpA] at F42'
        have F42 := Lib.hid F42'; clear F42'
        have bel43 : Below w.heap.size w wpA := by rw [hwpA]; exact bw_set bel38 ltw _
        rw [← hwpA]
        clear hwpA pkA pqA pfA F34 F35 F36 F37 bel38 HKA
        go_wp2_with fail
        go_ret
        exact ⟨rfl, (by first | exact bel43 | exact below_drewN bel43 _ | exact (by repeat (first | (with_reducible exact Below.refl _ _) | (with_reducible refine bw_set ?_ ?_ _) | (with_reducible apply bw_alloc) | (with_reducible refine bw_tr ?_ (by with_reducible assumption)) | (with_reducible apply bw_drew) | omega)))⟩
      · have q40 : (yop == 40) = false := beq_eq_false_iff_ne.2 (by omega)
        have q41 : (yop == 41) = true := beq_iff_eq.2 hop
        have q42 : (yop == 42) = false := beq_eq_false_iff_ne.2 (by omega)
        have q44 : (yop == 44) = false := beq_eq_false_iff_ne.2 (by omega)
        clear hop HREST
        have cy0 := cell_in F25.out (j := 0) (u := .int .i64 yop) rfl
        go_upto_region 12 with (fail)
        clear cy0 q40 q41 q42 q44
        have lt_G2 := lt_in F24.out
        have lt_Y := lt_in F25.out
        have lt_G4 := lt_in F26.out
        have lt_E4 := lt_in F27.out
        have ltw : w.heap.size ≤ wr.heap.size := (bel28).size
        have ZN9 := Lib.hid (new_in wr (.cells zA 28))
        go_upto_region 13 with (first | (refine wpList_load_row rfl 28 _ rfl (w4.heap.size) rfl 28 (hA g) (0, 0) _ F26.out Try.underlying28 rfl (infoA (hA_size g len_g)) ?_) | (refine wpList_store_row rfl 28 _ _ rfl (wr.heap.size) (hA g) rfl rfl 28 zA ZN9.out (infoA (hA_size g len_g)) (by rw [hA_size g len_g]; rfl) (hA_one g) ?_))
        obtain ⟨w9x, hw9x⟩ : ∃ w9x : World, w9x = (wr.alloc (.cells zA 28)).setRow wr.heap.size (hA g) := ⟨_, rfl⟩
        have HG9 : Hid (w9x.heap[wr.heap.size]? = some (.cells (hA g) 28 (0, 0))) := by rw [hw9x]; exact setRow_heap _ _ _ _ _ _ ZN9.out
        have hbx9 : Below wr.heap.size wr w9x := by rw [hw9x]; exact below_setRow ((Below.refl _ _).alloc (Nat.le_refl _) _) (Nat.le_refl _) _
        have hsx9 : wr.heap.size + 1 ≤ w9x.heap.size := by have := lt_in HG9.out; omega
        first | rw [← hw9x] | (change Code.wp _ _ _ _ ((wr.alloc (.cells zA 28)).setRow wr.heap.size (hA g)); rw [← hw9x])
        clear hw9x ZN9
        have F44 := Lib.hid (bel_in hbx9 (lt_in F24.out) F24.out)
        have F45 := Lib.hid (bel_in hbx9 (lt_in F25.out) F25.out)
        have F46 := Lib.hid (bel_in hbx9 (lt_in F26.out) F26.out)
        have F47 := Lib.hid (bel_in hbx9 (lt_in F27.out) F27.out)
        have bel48 : Below w.heap.size w w9x := bw_tr bel28 hbx9
        clear F24 F25 F26 F27 bel28
        clear hbx9 hsx9
        have HRLA : Hid ((loadVar 26 ⟨w2.heap.size, 0, none⟩).run Try.prog w9x = .ok (.agg (rA h.r)) w9x) := Lib.hid (run_load_regs _ _ h hlh _ _ F44.out)
        have HTHA := Lib.hid (there_hA len_g HG9.out)
        try simp only [Act.put, List.setIfInBounds_toArray, List.set_cons_succ, List.set_cons_zero]
        go_upto_region 14 with (first | ((with_reducible refine load_run_g (o := ⟨_, .load _ _, _, _, _, _⟩) ?_ 26 _ rfl (w2.heap.size) ?_ (.agg (rA h.r)) HRLA.out ?_); rotate_left; exact rfl; rotate_left; exact rfl) | ((with_reducible refine wpList_store_mid (op := ⟨_, .store _ _ _, _, _, _, _⟩) rfl 26 _ _ rfl (wr.heap.size) 0 (rA h.r) ?_ ?_ (by rw [rA_size hlh]; exact HTHA.out) (by rw [rA_size hlh]; exact infoR) (rA_one _) ?_); exact rfl; exact rfl))
        obtain ⟨wrA, hwrA⟩ : ∃ wrA : World, wrA = w9x.setCells (wr.heap.size) 0 (rA h.r).toList := ⟨_, rfl⟩
        have HKA : Hid (wrA.heap[wr.heap.size]? = some (.cells (hA { g with r := h.r }) 28 (0, 0))) := by rw [hwrA]; exact Lib.hid (by have := setCells_heap (rA h.r).toList _ _ 0 _ _ HG9.out; rwa [ovr_hA g len_g _ hlh] at this)
        have F49' := setCells_ne (rA h.r).toList w9x (wr.heap.size) _ 0 _ (Nat.ne_of_lt lt_G2) F44.out
        rw [← hwrA] at F49'
        have F49 := Lib.hid F49'; clear F49'
        have F50' := setCells_ne (rA h.r).toList w9x (wr.heap.size) _ 0 _ (Nat.ne_of_lt lt_Y) F45.out
        rw [← hwrA] at F50'
        have F50 := Lib.hid F50'; clear F50'
        have F51' := setCells_ne (rA h.r).toList w9x (wr.heap.size) _ 0 _ (Nat.ne_of_lt lt_G4) F46.out
        rw [← hwrA] at F51'
        have F51 := Lib.hid F51'; clear F51'
        have F52' := setCells_ne (rA h.r).toList w9x (wr.heap.size) _ 0 _ (Nat.ne_of_lt lt_E4) F47.out
        rw [← hwrA] at F52'
        have F52 := Lib.hid F52'; clear F52'
        have bel53 : Below w.heap.size w wrA := by rw [hwrA]; exact bw_setCells _ _ _ _ ltw bel48
        rw [← hwrA]
        clear hwrA HRLA HTHA F44 F45 F46 F47 bel48 HG9
        have pkA := cell_in F49.out (hA_fields h hlh).1
        have pqA := cell_in HKA.out (hA_fields { g with r := h.r } hlh).1
        have pfA := frozen_in HKA.out 32
        try simp only [Act.put, List.setIfInBounds_toArray, List.set_cons_succ, List.set_cons_zero]
        go_upto_region 15 with (fail)
        obtain ⟨wpA, hwpA⟩ : ∃ wpA : World, wpA = wrA.setCell ⟨wr.heap.size, 32, none⟩ (.int .i64 h.pc) := ⟨_, rfl⟩
        have HMA : Hid (wpA.heap[wr.heap.size]? = some (.cells (hA { g with r := h.r, pc := h.pc }) 28 (0, 0))) := by rw [hwpA]; exact Lib.hid (set_heap HKA.out 32 _ _ (hA_pc { g with r := h.r } hlh h.pc))
        have F54' := heap_set_ne (w := wrA) (b := wr.heap.size) (o := 32) (u := .int .i64 h.pc) (Nat.ne_of_lt lt_G2) F49.out
        rw [← hwpA] at F54'
        have F54 := Lib.hid F54'; clear F54'
        have F55' := heap_set_ne (w := wrA) (b := wr.heap.size) (o := 32) (u := .int .i64 h.pc) (Nat.ne_of_lt lt_Y) F50.out
        rw [← hwpA] at F55'
        have F55 := Lib.hid F55'; clear F55'
        have F56' := heap_set_ne (w := wrA) (b := wr.heap.size) (o := 32) (u := .int .i64 h.pc) (Nat.ne_of_lt lt_G4) F51.out
        rw [← hwpA] at F56'
        have F56 := Lib.hid F56'; clear F56'
        have F57' := heap_set_ne (w := wrA) (b := wr.heap.size) (o := 32) (u := .int .i64 h.pc) (Nat.ne_of_lt lt_E4) F52.out
        rw [← hwpA] at F57'
        have F57 := Lib.hid F57'; clear F57'
        have bel58 : Below w.heap.size w wpA := by rw [hwpA]; exact bw_set bel53 ltw _
        rw [← hwpA]
        clear hwpA pkA pqA pfA F49 F50 F51 F52 bel53 HKA
        go_wp2_with fail
        go_ret
        exact ⟨rfl, (by first | exact bel58 | exact below_drewN bel58 _ | exact (by repeat (first | (with_reducible exact Below.refl _ _) | (with_reducible refine bw_set ?_ ?_ _) | (with_reducible apply bw_alloc) | (with_reducible refine bw_tr ?_ (by with_reducible assumption)) | (with_reducible apply bw_drew) | omega)))⟩
      · have q40 : (yop == 40) = false := beq_eq_false_iff_ne.2 (by omega)
        have q41 : (yop == 41) = false := beq_eq_false_iff_ne.2 (by omega)
        have q42 : (yop == 42) = true := beq_iff_eq.2 hop
        have q44 : (yop == 44) = false := beq_eq_false_iff_ne.2 (by omega)
        clear hop HREST
        have cy0 := cell_in F25.out (j := 0) (u := .int .i64 yop) rfl
        go_upto_region 12 with (fail)
        clear cy0 q40 q41 q42 q44
        have lt_G2 := lt_in F24.out
        have lt_Y := lt_in F25.out
        have lt_G4 := lt_in F26.out
        have lt_E4 := lt_in F27.out
        have ltw : w.heap.size ≤ wr.heap.size := (bel28).size
        have ZN9 := Lib.hid (new_in wr (.cells zA 28))
        go_upto_region 13 with (first | (refine wpList_load_row rfl 28 _ rfl (w4.heap.size) rfl 28 (hA g) (0, 0) _ F26.out Try.underlying28 rfl (infoA (hA_size g len_g)) ?_) | (refine wpList_store_row rfl 28 _ _ rfl (wr.heap.size) (hA g) rfl rfl 28 zA ZN9.out (infoA (hA_size g len_g)) (by rw [hA_size g len_g]; rfl) (hA_one g) ?_))
        obtain ⟨w9x, hw9x⟩ : ∃ w9x : World, w9x = (wr.alloc (.cells zA 28)).setRow wr.heap.size (hA g) := ⟨_, rfl⟩
        have HG9 : Hid (w9x.heap[wr.heap.size]? = some (.cells (hA g) 28 (0, 0))) := by rw [hw9x]; exact setRow_heap _ _ _ _ _ _ ZN9.out
        have hbx9 : Below wr.heap.size wr w9x := by rw [hw9x]; exact below_setRow ((Below.refl _ _).alloc (Nat.le_refl _) _) (Nat.le_refl _) _
        have hsx9 : wr.heap.size + 1 ≤ w9x.heap.size := by have := lt_in HG9.out; omega
        first | rw [← hw9x] | (change Code.wp _ _ _ _ ((wr.alloc (.cells zA 28)).setRow wr.heap.size (hA g)); rw [← hw9x])
        clear hw9x ZN9
        have F59 := Lib.hid (bel_in hbx9 (lt_in F24.out) F24.out)
        have F60 := Lib.hid (bel_in hbx9 (lt_in F25.out) F25.out)
        have F61 := Lib.hid (bel_in hbx9 (lt_in F26.out) F26.out)
        have F62 := Lib.hid (bel_in hbx9 (lt_in F27.out) F27.out)
        have bel63 : Below w.heap.size w w9x := bw_tr bel28 hbx9
        clear F24 F25 F26 F27 bel28
        clear hbx9 hsx9
        have HRLA : Hid ((loadVar 26 ⟨w2.heap.size, 0, none⟩).run Try.prog w9x = .ok (.agg (rA h.r)) w9x) := Lib.hid (run_load_regs _ _ h hlh _ _ F59.out)
        have HTHA := Lib.hid (there_hA len_g HG9.out)
        try simp only [Act.put, List.setIfInBounds_toArray, List.set_cons_succ, List.set_cons_zero]
        go_upto_region 14 with (first | ((with_reducible refine load_run_g (o := ⟨_, .load _ _, _, _, _, _⟩) ?_ 26 _ rfl (w2.heap.size) ?_ (.agg (rA h.r)) HRLA.out ?_); rotate_left; exact rfl; rotate_left; exact rfl) | ((with_reducible refine wpList_store_mid (op := ⟨_, .store _ _ _, _, _, _, _⟩) rfl 26 _ _ rfl (wr.heap.size) 0 (rA h.r) ?_ ?_ (by rw [rA_size hlh]; exact HTHA.out) (by rw [rA_size hlh]; exact infoR) (rA_one _) ?_); exact rfl; exact rfl))
        obtain ⟨wrA, hwrA⟩ : ∃ wrA : World, wrA = w9x.setCells (wr.heap.size) 0 (rA h.r).toList := ⟨_, rfl⟩
        have HKA : Hid (wrA.heap[wr.heap.size]? = some (.cells (hA { g with r := h.r }) 28 (0, 0))) := by rw [hwrA]; exact Lib.hid (by have := setCells_heap (rA h.r).toList _ _ 0 _ _ HG9.out; rwa [ovr_hA g len_g _ hlh] at this)
        have F64' := setCells_ne (rA h.r).toList w9x (wr.heap.size) _ 0 _ (Nat.ne_of_lt lt_G2) F59.out
        rw [← hwrA] at F64'
        have F64 := Lib.hid F64'; clear F64'
        have F65' := setCells_ne (rA h.r).toList w9x (wr.heap.size) _ 0 _ (Nat.ne_of_lt lt_Y) F60.out
        rw [← hwrA] at F65'
        have F65 := Lib.hid F65'; clear F65'
        have F66' := setCells_ne (rA h.r).toList w9x (wr.heap.size) _ 0 _ (Nat.ne_of_lt lt_G4) F61.out
        rw [← hwrA] at F66'
        have F66 := Lib.hid F66'; clear F66'
        have F67' := setCells_ne (rA h.r).toList w9x (wr.heap.size) _ 0 _ (Nat.ne_of_lt lt_E4) F62.out
        rw [← hwrA] at F67'
        have F67 := Lib.hid F67'; clear F67'
        have bel68 : Below w.heap.size w wrA := by rw [hwrA]; exact bw_setCells _ _ _ _ ltw bel63
        rw [← hwrA]
        clear hwrA HRLA HTHA F59 F60 F61 F62 bel63 HG9
        have pkA := cell_in F64.out (hA_fields h hlh).1
        have pqA := cell_in HKA.out (hA_fields { g with r := h.r } hlh).1
        have pfA := frozen_in HKA.out 32
        try simp only [Act.put, List.setIfInBounds_toArray, List.set_cons_succ, List.set_cons_zero]
        go_upto_region 15 with (fail)
        obtain ⟨wpA, hwpA⟩ : ∃ wpA : World, wpA = wrA.setCell ⟨wr.heap.size, 32, none⟩ (.int .i64 h.pc) := ⟨_, rfl⟩
        have HMA : Hid (wpA.heap[wr.heap.size]? = some (.cells (hA { g with r := h.r, pc := h.pc }) 28 (0, 0))) := by rw [hwpA]; exact Lib.hid (set_heap HKA.out 32 _ _ (hA_pc { g with r := h.r } hlh h.pc))
        have F69' := heap_set_ne (w := wrA) (b := wr.heap.size) (o := 32) (u := .int .i64 h.pc) (Nat.ne_of_lt lt_G2) F64.out
        rw [← hwpA] at F69'
        have F69 := Lib.hid F69'; clear F69'
        have F70' := heap_set_ne (w := wrA) (b := wr.heap.size) (o := 32) (u := .int .i64 h.pc) (Nat.ne_of_lt lt_Y) F65.out
        rw [← hwpA] at F70'
        have F70 := Lib.hid F70'; clear F70'
        have F71' := heap_set_ne (w := wrA) (b := wr.heap.size) (o := 32) (u := .int .i64 h.pc) (Nat.ne_of_lt lt_G4) F66.out
        rw [← hwpA] at F71'
        have F71 := Lib.hid F71'; clear F71'
        have F72' := heap_set_ne (w := wrA) (b := wr.heap.size) (o := 32) (u := .int .i64 h.pc) (Nat.ne_of_lt lt_E4) F67.out
        rw [← hwpA] at F72'
        have F72 := Lib.hid F72'; clear F72'
        have bel73 : Below w.heap.size w wpA := by rw [hwpA]; exact bw_set bel68 ltw _
        rw [← hwpA]
        clear hwpA pkA pqA pfA F64 F65 F66 F67 bel68 HKA
        go_wp2_with fail
        go_ret
        exact ⟨rfl, (by first | exact bel73 | exact below_drewN bel73 _ | exact (by repeat (first | (with_reducible exact Below.refl _ _) | (with_reducible refine bw_set ?_ ?_ _) | (with_reducible apply bw_alloc) | (with_reducible refine bw_tr ?_ (by with_reducible assumption)) | (with_reducible apply bw_drew) | omega)))⟩
      · have q40 : (yop == 40) = false := beq_eq_false_iff_ne.2 (by omega)
        have q41 : (yop == 41) = false := beq_eq_false_iff_ne.2 (by omega)
        have q42 : (yop == 42) = false := beq_eq_false_iff_ne.2 (by omega)
        have q44 : (yop == 44) = true := beq_iff_eq.2 hop
        clear hop HREST
        have cy0 := cell_in F25.out (j := 0) (u := .int .i64 yop) rfl
        go_upto_region 12 with (fail)
        clear cy0 q40 q41 q42 q44
        have lt_G2 := lt_in F24.out
        have lt_Y := lt_in F25.out
        have lt_G4 := lt_in F26.out
        have lt_E4 := lt_in F27.out
        have ltw : w.heap.size ≤ wr.heap.size := (bel28).size
        have ZN9 := Lib.hid (new_in wr (.cells zA 28))
        go_upto_region 13 with (first | (refine wpList_load_row rfl 28 _ rfl (w4.heap.size) rfl 28 (hA g) (0, 0) _ F26.out Try.underlying28 rfl (infoA (hA_size g len_g)) ?_) | (refine wpList_store_row rfl 28 _ _ rfl (wr.heap.size) (hA g) rfl rfl 28 zA ZN9.out (infoA (hA_size g len_g)) (by rw [hA_size g len_g]; rfl) (hA_one g) ?_))
        obtain ⟨w9x, hw9x⟩ : ∃ w9x : World, w9x = (wr.alloc (.cells zA 28)).setRow wr.heap.size (hA g) := ⟨_, rfl⟩
        have HG9 : Hid (w9x.heap[wr.heap.size]? = some (.cells (hA g) 28 (0, 0))) := by rw [hw9x]; exact setRow_heap _ _ _ _ _ _ ZN9.out
        have hbx9 : Below wr.heap.size wr w9x := by rw [hw9x]; exact below_setRow ((Below.refl _ _).alloc (Nat.le_refl _) _) (Nat.le_refl _) _
        have hsx9 : wr.heap.size + 1 ≤ w9x.heap.size := by have := lt_in HG9.out; omega
        first | rw [← hw9x] | (change Code.wp _ _ _ _ ((wr.alloc (.cells zA 28)).setRow wr.heap.size (hA g)); rw [← hw9x])
        clear hw9x ZN9
        have F74 := Lib.hid (bel_in hbx9 (lt_in F24.out) F24.out)
        have F75 := Lib.hid (bel_in hbx9 (lt_in F25.out) F25.out)
        have F76 := Lib.hid (bel_in hbx9 (lt_in F26.out) F26.out)
        have F77 := Lib.hid (bel_in hbx9 (lt_in F27.out) F27.out)
        have bel78 : Below w.heap.size w w9x := bw_tr bel28 hbx9
        clear F24 F25 F26 F27 bel28
        clear hbx9 hsx9
        have HRLA : Hid ((loadVar 26 ⟨w2.heap.size, 0, none⟩).run Try.prog w9x = .ok (.agg (rA h.r)) w9x) := Lib.hid (run_load_regs _ _ h hlh _ _ F74.out)
        have HTHA := Lib.hid (there_hA len_g HG9.out)
        try simp only [Act.put, List.setIfInBounds_toArray, List.set_cons_succ, List.set_cons_zero]
        go_upto_region 14 with (first | ((with_reducible refine load_run_g (o := ⟨_, .load _ _, _, _, _, _⟩) ?_ 26 _ rfl (w2.heap.size) ?_ (.agg (rA h.r)) HRLA.out ?_); rotate_left; exact rfl; rotate_left; exact rfl) | ((with_reducible refine wpList_store_mid (op := ⟨_, .store _ _ _, _, _, _, _⟩) rfl 26 _ _ rfl (wr.heap.size) 0 (rA h.r) ?_ ?_ (by rw [rA_size hlh]; exact HTHA.out) (by rw [rA_size hlh]; exact infoR) (rA_one _) ?_); exact rfl; exact rfl))
        obtain ⟨wrA, hwrA⟩ : ∃ wrA : World, wrA = w9x.setCells (wr.heap.size) 0 (rA h.r).toList := ⟨_, rfl⟩
        have HKA : Hid (wrA.heap[wr.heap.size]? = some (.cells (hA { g with r := h.r }) 28 (0, 0))) := by rw [hwrA]; exact Lib.hid (by have := setCells_heap (rA h.r).toList _ _ 0 _ _ HG9.out; rwa [ovr_hA g len_g _ hlh] at this)
        have F79' := setCells_ne (rA h.r).toList w9x (wr.heap.size) _ 0 _ (Nat.ne_of_lt lt_G2) F74.out
        rw [← hwrA] at F79'
        have F79 := Lib.hid F79'; clear F79'
        have F80' := setCells_ne (rA h.r).toList w9x (wr.heap.size) _ 0 _ (Nat.ne_of_lt lt_Y) F75.out
        rw [← hwrA] at F80'
        have F80 := Lib.hid F80'; clear F80'
        have F81' := setCells_ne (rA h.r).toList w9x (wr.heap.size) _ 0 _ (Nat.ne_of_lt lt_G4) F76.out
        rw [← hwrA] at F81'
        have F81 := Lib.hid F81'; clear F81'
        have F82' := setCells_ne (rA h.r).toList w9x (wr.heap.size) _ 0 _ (Nat.ne_of_lt lt_E4) F77.out
        rw [← hwrA] at F82'
        have F82 := Lib.hid F82'; clear F82'
        have bel83 : Below w.heap.size w wrA := by rw [hwrA]; exact bw_setCells _ _ _ _ ltw bel78
        rw [← hwrA]
        clear hwrA HRLA HTHA F74 F75 F76 F77 bel78 HG9
        have pkA := cell_in F79.out (hA_fields h hlh).1
        have pqA := cell_in HKA.out (hA_fields { g with r := h.r } hlh).1
        have pfA := frozen_in HKA.out 32
        try simp only [Act.put, List.setIfInBounds_toArray, List.set_cons_succ, List.set_cons_zero]
        go_upto_region 15 with (fail)
        obtain ⟨wpA, hwpA⟩ : ∃ wpA : World, wpA = wrA.setCell ⟨wr.heap.size, 32, none⟩ (.int .i64 h.pc) := ⟨_, rfl⟩
        have HMA : Hid (wpA.heap[wr.heap.size]? = some (.cells (hA { g with r := h.r, pc := h.pc }) 28 (0, 0))) := by rw [hwpA]; exact Lib.hid (set_heap HKA.out 32 _ _ (hA_pc { g with r := h.r } hlh h.pc))
        have F84' := heap_set_ne (w := wrA) (b := wr.heap.size) (o := 32) (u := .int .i64 h.pc) (Nat.ne_of_lt lt_G2) F79.out
        rw [← hwpA] at F84'
        have F84 := Lib.hid F84'; clear F84'
        have F85' := heap_set_ne (w := wrA) (b := wr.heap.size) (o := 32) (u := .int .i64 h.pc) (Nat.ne_of_lt lt_Y) F80.out
        rw [← hwpA] at F85'
        have F85 := Lib.hid F85'; clear F85'
        have F86' := heap_set_ne (w := wrA) (b := wr.heap.size) (o := 32) (u := .int .i64 h.pc) (Nat.ne_of_lt lt_G4) F81.out
        rw [← hwpA] at F86'
        have F86 := Lib.hid F86'; clear F86'
        have F87' := heap_set_ne (w := wrA) (b := wr.heap.size) (o := 32) (u := .int .i64 h.pc) (Nat.ne_of_lt lt_E4) F82.out
        rw [← hwpA] at F87'
        have F87 := Lib.hid F87'; clear F87'
        have bel88 : Below w.heap.size w wpA := by rw [hwpA]; exact bw_set bel83 ltw _
        rw [← hwpA]
        clear hwpA pkA pqA pfA F79 F80 F81 F82 bel83 HKA
        go_wp2_with fail
        go_ret
        exact ⟨rfl, (by first | exact bel88 | exact below_drewN bel88 _ | exact (by repeat (first | (with_reducible exact Below.refl _ _) | (with_reducible refine bw_set ?_ ?_ _) | (with_reducible apply bw_alloc) | (with_reducible refine bw_tr ?_ (by with_reducible assumption)) | (with_reducible apply bw_drew) | omega)))⟩
      · have q40 : (yop == 40) = false := beq_eq_false_iff_ne.2 (by omega)
        have q41 : (yop == 41) = false := beq_eq_false_iff_ne.2 (by omega)
        have q42 : (yop == 42) = false := beq_eq_false_iff_ne.2 (by omega)
        have q44 : (yop == 44) = false := beq_eq_false_iff_ne.2 (by omega)
        have BSET := Lib.hid (HREST.out hop.2.2.2 ⟨hop.1, hop.2.1, hop.2.2.1⟩)
        clear hop HREST
        have cy0 := cell_in F25.out (j := 0) (u := .int .i64 yop) rfl
        go_upto_region 12 with (fail)
        clear cy0 q40 q41 q42 q44
        have lt_G2 := lt_in F24.out
        have lt_Y := lt_in F25.out
        have lt_G4 := lt_in F26.out
        have lt_E4 := lt_in F27.out
        have ltw : w.heap.size ≤ wr.heap.size := (bel28).size
        have ZN9 := Lib.hid (new_in wr (.cells zA 28))
        go_upto_region 13 with (first | (refine wpList_load_row rfl 28 _ rfl (w4.heap.size) rfl 28 (hA g) (0, 0) _ F26.out Try.underlying28 rfl (infoA (hA_size g len_g)) ?_) | (refine wpList_store_row rfl 28 _ _ rfl (wr.heap.size) (hA g) rfl rfl 28 zA ZN9.out (infoA (hA_size g len_g)) (by rw [hA_size g len_g]; rfl) (hA_one g) ?_))
        obtain ⟨w9x, hw9x⟩ : ∃ w9x : World, w9x = (wr.alloc (.cells zA 28)).setRow wr.heap.size (hA g) := ⟨_, rfl⟩
        have HG9 : Hid (w9x.heap[wr.heap.size]? = some (.cells (hA g) 28 (0, 0))) := by rw [hw9x]; exact setRow_heap _ _ _ _ _ _ ZN9.out
        have hbx9 : Below wr.heap.size wr w9x := by rw [hw9x]; exact below_setRow ((Below.refl _ _).alloc (Nat.le_refl _) _) (Nat.le_refl _) _
        have hsx9 : wr.heap.size + 1 ≤ w9x.heap.size := by have := lt_in HG9.out; omega
        first | rw [← hw9x] | (change Code.wp _ _ _ _ ((wr.alloc (.cells zA 28)).setRow wr.heap.size (hA g)); rw [← hw9x])
        clear hw9x ZN9
        have F89 := Lib.hid (bel_in hbx9 (lt_in F24.out) F24.out)
        have F90 := Lib.hid (bel_in hbx9 (lt_in F25.out) F25.out)
        have F91 := Lib.hid (bel_in hbx9 (lt_in F26.out) F26.out)
        have F92 := Lib.hid (bel_in hbx9 (lt_in F27.out) F27.out)
        have bel93 : Below w.heap.size w w9x := bw_tr bel28 hbx9
        clear F24 F25 F26 F27 bel28
        clear hbx9 hsx9
        have HRLA : Hid ((loadVar 26 ⟨w2.heap.size, 0, none⟩).run Try.prog w9x = .ok (.agg (rA h.r)) w9x) := Lib.hid (run_load_regs _ _ h hlh _ _ F89.out)
        have HTHA := Lib.hid (there_hA len_g HG9.out)
        try simp only [Act.put, List.setIfInBounds_toArray, List.set_cons_succ, List.set_cons_zero]
        go_upto_region 14 with (first | ((with_reducible refine load_run_g (o := ⟨_, .load _ _, _, _, _, _⟩) ?_ 26 _ rfl (w2.heap.size) ?_ (.agg (rA h.r)) HRLA.out ?_); rotate_left; exact rfl; rotate_left; exact rfl) | ((with_reducible refine wpList_store_mid (op := ⟨_, .store _ _ _, _, _, _, _⟩) rfl 26 _ _ rfl (wr.heap.size) 0 (rA h.r) ?_ ?_ (by rw [rA_size hlh]; exact HTHA.out) (by rw [rA_size hlh]; exact infoR) (rA_one _) ?_); exact rfl; exact rfl))
        obtain ⟨wrA, hwrA⟩ : ∃ wrA : World, wrA = w9x.setCells (wr.heap.size) 0 (rA h.r).toList := ⟨_, rfl⟩
        have HKA : Hid (wrA.heap[wr.heap.size]? = some (.cells (hA { g with r := h.r }) 28 (0, 0))) := by rw [hwrA]; exact Lib.hid (by have := setCells_heap (rA h.r).toList _ _ 0 _ _ HG9.out; rwa [ovr_hA g len_g _ hlh] at this)
        have F94' := setCells_ne (rA h.r).toList w9x (wr.heap.size) _ 0 _ (Nat.ne_of_lt lt_G2) F89.out
        rw [← hwrA] at F94'
        have F94 := Lib.hid F94'; clear F94'
        have F95' := setCells_ne (rA h.r).toList w9x (wr.heap.size) _ 0 _ (Nat.ne_of_lt lt_Y) F90.out
        rw [← hwrA] at F95'
        have F95 := Lib.hid F95'; clear F95'
        have F96' := setCells_ne (rA h.r).toList w9x (wr.heap.size) _ 0 _ (Nat.ne_of_lt lt_G4) F91.out
        rw [← hwrA] at F96'
        have F96 := Lib.hid F96'; clear F96'
        have F97' := setCells_ne (rA h.r).toList w9x (wr.heap.size) _ 0 _ (Nat.ne_of_lt lt_E4) F92.out
        rw [← hwrA] at F97'
        have F97 := Lib.hid F97'; clear F97'
        have bel98 : Below w.heap.size w wrA := by rw [hwrA]; exact bw_setCells _ _ _ _ ltw bel93
        rw [← hwrA]
        clear hwrA HRLA HTHA F89 F90 F91 F92 bel93 HG9
        have pkA := cell_in F94.out (hA_fields h hlh).1
        have pqA := cell_in HKA.out (hA_fields { g with r := h.r } hlh).1
        have pfA := frozen_in HKA.out 32
        try simp only [Act.put, List.setIfInBounds_toArray, List.set_cons_succ, List.set_cons_zero]
        go_upto_region 15 with (fail)
        obtain ⟨wpA, hwpA⟩ : ∃ wpA : World, wpA = wrA.setCell ⟨wr.heap.size, 32, none⟩ (.int .i64 h.pc) := ⟨_, rfl⟩
        have HMA : Hid (wpA.heap[wr.heap.size]? = some (.cells (hA { g with r := h.r, pc := h.pc }) 28 (0, 0))) := by rw [hwpA]; exact Lib.hid (set_heap HKA.out 32 _ _ (hA_pc { g with r := h.r } hlh h.pc))
        have F99' := heap_set_ne (w := wrA) (b := wr.heap.size) (o := 32) (u := .int .i64 h.pc) (Nat.ne_of_lt lt_G2) F94.out
        rw [← hwpA] at F99'
        have F99 := Lib.hid F99'; clear F99'
        have F100' := heap_set_ne (w := wrA) (b := wr.heap.size) (o := 32) (u := .int .i64 h.pc) (Nat.ne_of_lt lt_Y) F95.out
        rw [← hwpA] at F100'
        have F100 := Lib.hid F100'; clear F100'
        have F101' := heap_set_ne (w := wrA) (b := wr.heap.size) (o := 32) (u := .int .i64 h.pc) (Nat.ne_of_lt lt_G4) F96.out
        rw [← hwpA] at F101'
        have F101 := Lib.hid F101'; clear F101'
        have F102' := heap_set_ne (w := wrA) (b := wr.heap.size) (o := 32) (u := .int .i64 h.pc) (Nat.ne_of_lt lt_E4) F97.out
        rw [← hwpA] at F102'
        have F102 := Lib.hid F102'; clear F102'
        have bel103 : Below w.heap.size w wpA := by rw [hwpA]; exact bw_set bel98 ltw _
        rw [← hwpA]
        clear hwpA pkA pqA pfA F94 F95 F96 F97 bel98 HKA
        have hBS := BSET.out
        have HKH : Hid (wpA.heap[wr.heap.size]? = some (.cells (hA h) 28 (0, 0))) := by have := HMA.out; rw [hBS] at this; exact Lib.hid this
        clear hBS HMA
        have HDK : Hid ((loadVar 28 ⟨wr.heap.size, 0, none⟩).run Try.prog wpA = .ok (.agg (hA h)) wpA) := Lib.hid (run_loadVar_row _ _ 28 28 (hA h) (0, 0) _ HKH.out Try.underlying28 rfl (infoA (hA_size h hlh)))
        have HDH : Hid ((loadVar 28 ⟨w2.heap.size, 0, none⟩).run Try.prog wpA = .ok (.agg (hA h)) wpA) := Lib.hid (run_loadVar_row _ _ 28 28 (hA h) (0, 0) _ F99.out Try.underlying28 rfl (infoA (hA_size h hlh)))
        have qh := eq_hA h hlh
        go_wp2_with (first | ((with_reducible refine load_run_g (o := ⟨_, .load _ _, _, _, _, _⟩) ?_ 28 _ rfl (wr.heap.size) ?_ (.agg (hA h)) HDK.out ?_); rotate_left; exact rfl; rotate_left; exact rfl) | ((with_reducible refine load_run_g (o := ⟨_, .load _ _, _, _, _, _⟩) ?_ 28 _ rfl (w2.heap.size) ?_ (.agg (hA h)) HDH.out ?_); rotate_left; exact rfl; rotate_left; exact rfl))
        go_ret
        exact ⟨rfl, (by first | exact bel103 | exact below_drewN bel103 _ | exact (by repeat (first | (with_reducible exact Below.refl _ _) | (with_reducible refine bw_set ?_ ?_ _) | (with_reducible apply bw_alloc) | (with_reducible refine bw_tr ?_ (by with_reducible assumption)) | (with_reducible apply bw_drew) | omega)))⟩
end Go.Proofs.Ytiahdhlfecgnpaa
