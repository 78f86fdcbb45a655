/-
  The walk of the law HartAddresses.
-/
import Derived.Test.YtiahdhlfecgnpaaHartFine
import Derived.Deep.QuietTactic
import Derived.BigQuiet
import Derived.Outline
namespace Go.Proofs.Ytiahdhlfecgnpaa
open Go.RowKit
theorem ad_l (h : Ht) (x y : Nat) (k : Int) (hx : x < 32) (hy : y < 32) (hk : -2048 ≤ k ∧ k ≤ 2047) : (stepX h 0 ⟨11, y, x, 0, k⟩).2 = ⟨1, y, wrap32 (h.r.getD x 0 + k), 0, 0⟩ := by
  rw [stepX_ok (right_mk _ (shI 11 (by simp)) (by omega) ⟨by omega, by omega, .inl rfl⟩ ⟨by omega, by omega, .inl rfl⟩ ⟨by omega, by omega, .inr rfl⟩ hk rfl) (by simp) (by simp)]
  simp [stepN, effX]
theorem ad_s (h : Ht) (x y : Nat) (k : Int) (hx : x < 32) (hy : y < 32) (hk : -2048 ≤ k ∧ k ≤ 2047) : (stepX h 0 ⟨12, 0, x, y, k⟩).2 = ⟨2, 0, wrap32 (h.r.getD x 0 + k), h.r.getD y 0, 0⟩ := by
  rw [stepX_ok (right_mk _ shS (by omega) ⟨by omega, by omega, .inr rfl⟩ ⟨by omega, by omega, .inl rfl⟩ ⟨by omega, by omega, .inl rfl⟩ hk rfl) (by simp) (by simp)]
  simp [stepN, effX]
theorem ad_c (h : Ht) (x y : Nat) (hx : x < 32) (hy : y < 32) : (stepX h 0 ⟨47, y, x, y, 0⟩).2 = ⟨4, y, h.r.getD x 0, h.r.getD y 0, 0⟩ := by
  rw [stepX_ok (right_mk _ (shA 47 (by simp)) (by omega) ⟨by omega, by omega, .inl rfl⟩ ⟨by omega, by omega, .inl rfl⟩ ⟨by omega, by omega, .inl rfl⟩ ⟨by simp, by simp⟩ rfl) (by simp) (by simp)]
  simp [stepN, effX]
theorem ad_m (h : Ht) (x y : Nat) (hx : x < 32) (hy : y < 32) : (stepX h 0 ⟨49, y, x, y, 0⟩).2 = ⟨5, y, h.r.getD x 0, h.r.getD y 0, 1⟩ := by
  rw [stepX_ok (right_mk _ (shA 49 (by simp)) (by omega) ⟨by omega, by omega, .inl rfl⟩ ⟨by omega, by omega, .inl rfl⟩ ⟨by omega, by omega, .inl rfl⟩ ⟨by simp, by simp⟩ rfl) (by simp) (by simp)]
  simp [stepN, effX]
set_option linter.unusedSimpArgs false
set_option maxRecDepth 100000 in
set_option maxHeartbeats 8000000 in
theorem hart_addresses (v : Value) (l : List Int) (a b n : Int) (w : World) (ha : ArgS 1 c1 w v l) (hl : ∀ x ∈ l, I64 x) (h1 : I64 a) (h2 : I64 b) (h3 : I64 n) :
    Calls Try.prog 8 #[v, .int .i64 a, .int .i64 b, .int .i64 n] w fun e w' => e = .returned (.bool true) ∧ Below w.heap.size w w' := by
  have HA := Lib.hid ha; have HL := Lib.hid hl; have H1 := Lib.hid h1; have H2 := Lib.hid h2; have H3 := Lib.hid h3
  clear ha hl h1 h2 h3
  have fine := fit_fine l
  obtain ⟨x, hx, hx32⟩ : ∃ x : Nat, pickN a 32 = x ∧ x < 32 := ⟨(pickN a 32).toNat, by have := pickN_bd a 32 (by omega); omega, by have := pickN_bd a 32 (by omega); omega⟩
  obtain ⟨y, hy, hy32⟩ : ∃ y : Nat, pickN b 32 = y ∧ y < 32 := ⟨(pickN b 32).toNat, by have := pickN_bd b 32 (by omega); omega, by have := pickN_bd b 32 (by omega); omega⟩
  have hk := pickN_bd n 4096 (by omega)
  have HX := Lib.hid hx; have HY := Lib.hid hy; clear hx hy
  go_enter Try.func8, Try.ntmps8
  go_wp2_with fail
  refine (awake14 _).mono ?_
  rintro e w1 ⟨rfl, hb1⟩
  have bel1 : Below w.heap.size w w1 := hb1
  clear hb1
  go_wp2_with fail
  refine (hfit_any v l _ (HA.out.below bel1) HL.out).mono ?_
  rintro e w2 ⟨rfl, hb2⟩
  have bel2 : Below w.heap.size w w2 := bw_tr bel1 hb2
  clear bel1
  clear hb2
  generalize fitH l = h at *
  have hlh := fine.len
  have hbx := fine.reg x hx32; have hby := fine.reg y hy32
  clear fine
  have ZN2 := Lib.hid (new_in w2 (.cells zA 28))
  go_upto_region 3 with (refine wpList_store_row rfl 28 _ _ rfl (w2.heap.size) (hA h) rfl rfl 28 zA ZN2.out (infoA (hA_size h hlh)) (by rw [hA_size h hlh]; rfl) (hA_one h) ?_)
  obtain ⟨w2x, hw2x⟩ : ∃ w2x : World, w2x = (w2.alloc (.cells zA 28)).setRow w2.heap.size (hA h) := ⟨_, rfl⟩
  have HG2 : Hid (w2x.heap[w2.heap.size]? = some (.cells (hA h) 28 (0, 0))) := by rw [hw2x]; exact setRow_heap _ _ _ _ _ _ ZN2.out
  have hbx2 : Below w2.heap.size w2 w2x := by rw [hw2x]; exact below_setRow ((Below.refl _ _).alloc (Nat.le_refl _) _) (Nat.le_refl _) _
  have hsx2 : w2.heap.size + 1 ≤ w2x.heap.size := by have := lt_in HG2.out; omega
  first | rw [← hw2x] | (change Code.wp _ _ _ _ ((w2.alloc (.cells zA 28)).setRow w2.heap.size (hA h)); rw [← hw2x])
  clear hw2x ZN2
  have bel3 : Below w.heap.size w w2x := bw_tr bel2 hbx2
  clear bel2
  clear hbx2 hsx2
  have cx := cell_in HG2.out (hA_r h hlh x hx32)
  have cy0 : (0 : Int) ≤ (x : Int) := by omega
  have cy1 : (x : Int) < 32 := by omega
  generalize hvx : h.r.getD x 0 = vx at *
  generalize hvy : h.r.getD y 0 = vy at *
  have HVX := Lib.hid hvx; have HVY := Lib.hid hvy; clear hvx hvy
  generalize hkk : pickN n 4096 = kk at *
  have HKK := Lib.hid hkk; clear hkk
  go_upto_region 7 with (first | (go_at_call 15; ((with_reducible refine (pick14 a 32 _ H1.out (by omega)).mono ?_); rw [HX.out]; rintro e w' ⟨rfl, rfl⟩)) | (go_at_call 15; ((with_reducible refine (pick14 b 32 _ H2.out (by omega)).mono ?_); rw [HY.out]; rintro e w' ⟨rfl, rfl⟩)) | (go_at_call 15; ((with_reducible refine (pick14 n 4096 _ H3.out (by omega)).mono ?_); rw [HKK.out]; rintro e w' ⟨rfl, rfl⟩)) | (go_at_call 24; refine (wrap_any _ _).mono ?_; rintro e w' ⟨rfl, rfl⟩))
  clear cx
  have hs3 := eff_eq (ad_l h x y (kk - 2048) hx32 hy32 (by omega))
  rw [HVX.out] at hs3
  have hl3 := len_at hlh hs3
  generalize (stepX h 0 ⟨11, y, x, 0, kk - 2048⟩).1 = h3 at *
  have HS3 := Lib.hid hs3; clear hs3
  go_wp2_with (refine wpList_load_row rfl 28 _ rfl (w2.heap.size) rfl 28 (hA h) (0, 0) _ HG2.out Try.underlying28 rfl (infoA (hA_size h hlh)) ?_)
  refine (step_at h 0 11 y x 0 (kk - 2048) _ hlh h3 (1) (y) (wrap32 (vx + (kk - 2048))) (0) (0) HS3.out).mono ?_
  rintro e w3 ⟨rfl, hb3⟩
  have F4 := Lib.hid (bel_in hb3 (lt_in HG2.out) HG2.out)
  have bel5 : Below w.heap.size w w3 := bw_tr bel3 hb3
  clear HG2 bel3
  clear hb3
  have ZN3 := Lib.hid (heap_alloc2_old w3 (.cells zA 28) (.cells effZ 34))
  have YN3 := Lib.hid (row_ne (b := w3.heap.size) (cs := hA h3) (by omega) (heap_alloc2_new w3 (.cells zA 28) (.cells effZ 34)))
  go_upto_region 8 with (first | (refine wpList_store_row rfl 28 _ _ rfl (w3.heap.size) (hA h3) rfl rfl 28 zA ZN3.out (infoA (hA_size h3 hl3)) (by rw [hA_size h3 hl3]; rfl) (hA_one h3) ?_) | (refine wpList_store_row rfl 34 _ _ rfl (w3.heap.size + 1) #[.int .i64 (1), .int .i64 (y), .int .i64 (wrap32 (vx + (kk - 2048))), .int .i64 (0), .int .i64 (0)] rfl rfl 34 effZ YN3.out (by kernel_rfl) rfl (by kernel_rfl) ?_))
  obtain ⟨w3x, hw3x⟩ : ∃ w3x : World, w3x = (((w3.alloc (.cells zA 28)).alloc (.cells effZ 34)).setRow w3.heap.size (hA h3)).setRow (w3.heap.size + 1) #[.int .i64 (1), .int .i64 (y), .int .i64 (wrap32 (vx + (kk - 2048))), .int .i64 (0), .int .i64 (0)] := ⟨_, rfl⟩
  have HG3 : Hid (w3x.heap[w3.heap.size]? = some (.cells (hA h3) 28 (0, 0))) := by rw [hw3x]; exact row_ne (by omega) (setRow_heap _ _ _ _ _ _ ZN3.out)
  have HE3 : Hid (w3x.heap[w3.heap.size + 1]? = some (.cells #[.int .i64 (1), .int .i64 (y), .int .i64 (wrap32 (vx + (kk - 2048))), .int .i64 (0), .int .i64 (0)] 34 (0, 0))) := by rw [hw3x]; exact setRow_heap _ _ _ _ _ _ YN3.out
  have hbx3 : Below w3.heap.size w3 w3x := by rw [hw3x]; exact below_setRow (below_setRow (((Below.refl _ _).alloc (Nat.le_refl _) _).alloc (by simp) _) (Nat.le_refl _) _) (by omega) _
  have hsx3 : w3.heap.size + 2 ≤ w3x.heap.size := by have := lt_in HE3.out; omega
  first | rw [← hw3x] | (change Code.wp _ _ _ _ ((((w3.alloc (.cells zA 28)).alloc (.cells effZ 34)).setRow w3.heap.size (hA h3)).setRow (w3.heap.size + 1) #[.int .i64 (1), .int .i64 (y), .int .i64 (wrap32 (vx + (kk - 2048))), .int .i64 (0), .int .i64 (0)]); rw [← hw3x])
  clear hw3x ZN3 YN3
  have F6 := Lib.hid (bel_in hbx3 (lt_in F4.out) F4.out)
  have bel7 : Below w.heap.size w w3x := bw_tr bel5 hbx3
  clear F4 bel5
  clear hbx3 hsx3
  have hs4 := eff_eq (ad_s h x y (kk - 2048) hx32 hy32 (by omega))
  rw [HVX.out] at hs4
  rw [HVY.out] at hs4
  have hl4 := len_at hlh hs4
  generalize (stepX h 0 ⟨12, 0, x, y, kk - 2048⟩).1 = h4 at *
  have HS4 := Lib.hid hs4; clear hs4
  go_wp2_with (refine wpList_load_row rfl 28 _ rfl (w2.heap.size) rfl 28 (hA h) (0, 0) _ F6.out Try.underlying28 rfl (infoA (hA_size h hlh)) ?_)
  refine (step_at h 0 12 0 x y (kk - 2048) _ hlh h4 (2) (0) (wrap32 (vx + (kk - 2048))) (vy) (0) HS4.out).mono ?_
  rintro e w4 ⟨rfl, hb4⟩
  have F8 := Lib.hid (bel_in hb4 (lt_in F6.out) F6.out)
  have F9 := Lib.hid (bel_in hb4 (lt_in HE3.out) HE3.out)
  have bel10 : Below w.heap.size w w4 := bw_tr bel7 hb4
  clear F6 HE3 bel7
  clear hb4
  have ZN4 := Lib.hid (heap_alloc2_old w4 (.cells zA 28) (.cells effZ 34))
  have YN4 := Lib.hid (row_ne (b := w4.heap.size) (cs := hA h4) (by omega) (heap_alloc2_new w4 (.cells zA 28) (.cells effZ 34)))
  go_upto_region 9 with (first | (refine wpList_store_row rfl 28 _ _ rfl (w4.heap.size) (hA h4) rfl rfl 28 zA ZN4.out (infoA (hA_size h4 hl4)) (by rw [hA_size h4 hl4]; rfl) (hA_one h4) ?_) | (refine wpList_store_row rfl 34 _ _ rfl (w4.heap.size + 1) #[.int .i64 (2), .int .i64 (0), .int .i64 (wrap32 (vx + (kk - 2048))), .int .i64 (vy), .int .i64 (0)] rfl rfl 34 effZ YN4.out (by kernel_rfl) rfl (by kernel_rfl) ?_))
  obtain ⟨w4x, hw4x⟩ : ∃ w4x : World, w4x = (((w4.alloc (.cells zA 28)).alloc (.cells effZ 34)).setRow w4.heap.size (hA h4)).setRow (w4.heap.size + 1) #[.int .i64 (2), .int .i64 (0), .int .i64 (wrap32 (vx + (kk - 2048))), .int .i64 (vy), .int .i64 (0)] := ⟨_, rfl⟩
  have HG4 : Hid (w4x.heap[w4.heap.size]? = some (.cells (hA h4) 28 (0, 0))) := by rw [hw4x]; exact row_ne (by omega) (setRow_heap _ _ _ _ _ _ ZN4.out)
  have HE4 : Hid (w4x.heap[w4.heap.size + 1]? = some (.cells #[.int .i64 (2), .int .i64 (0), .int .i64 (wrap32 (vx + (kk - 2048))), .int .i64 (vy), .int .i64 (0)] 34 (0, 0))) := by rw [hw4x]; exact setRow_heap _ _ _ _ _ _ YN4.out
  have hbx4 : Below w4.heap.size w4 w4x := by rw [hw4x]; exact below_setRow (below_setRow (((Below.refl _ _).alloc (Nat.le_refl _) _).alloc (by simp) _) (Nat.le_refl _) _) (by omega) _
  have hsx4 : w4.heap.size + 2 ≤ w4x.heap.size := by have := lt_in HE4.out; omega
  first | rw [← hw4x] | (change Code.wp _ _ _ _ ((((w4.alloc (.cells zA 28)).alloc (.cells effZ 34)).setRow w4.heap.size (hA h4)).setRow (w4.heap.size + 1) #[.int .i64 (2), .int .i64 (0), .int .i64 (wrap32 (vx + (kk - 2048))), .int .i64 (vy), .int .i64 (0)]); rw [← hw4x])
  clear hw4x ZN4 YN4
  have F11 := Lib.hid (bel_in hbx4 (lt_in F8.out) F8.out)
  have F12 := Lib.hid (bel_in hbx4 (lt_in F9.out) F9.out)
  have bel13 : Below w.heap.size w w4x := bw_tr bel10 hbx4
  clear F8 F9 bel10
  clear hbx4 hsx4
  have hs5 := eff_eq (ad_c h x y hx32 hy32)
  rw [HVX.out] at hs5
  rw [HVY.out] at hs5
  have hl5 := len_at hlh hs5
  generalize (stepX h 0 ⟨47, y, x, y, 0⟩).1 = h5 at *
  have HS5 := Lib.hid hs5; clear hs5
  go_wp2_with (refine wpList_load_row rfl 28 _ rfl (w2.heap.size) rfl 28 (hA h) (0, 0) _ F11.out Try.underlying28 rfl (infoA (hA_size h hlh)) ?_)
  refine (step_at h 0 47 y x y (0) _ hlh h5 (4) (y) (vx) (vy) (0) HS5.out).mono ?_
  rintro e w5 ⟨rfl, hb5⟩
  have F14 := Lib.hid (bel_in hb5 (lt_in F11.out) F11.out)
  have F15 := Lib.hid (bel_in hb5 (lt_in F12.out) F12.out)
  have F16 := Lib.hid (bel_in hb5 (lt_in HE4.out) HE4.out)
  have bel17 : Below w.heap.size w w5 := bw_tr bel13 hb5
  clear F11 F12 HE4 bel13
  clear hb5
  have ZN5 := Lib.hid (heap_alloc2_old w5 (.cells zA 28) (.cells effZ 34))
  have YN5 := Lib.hid (row_ne (b := w5.heap.size) (cs := hA h5) (by omega) (heap_alloc2_new w5 (.cells zA 28) (.cells effZ 34)))
  go_upto_region 10 with (first | (refine wpList_store_row rfl 28 _ _ rfl (w5.heap.size) (hA h5) rfl rfl 28 zA ZN5.out (infoA (hA_size h5 hl5)) (by rw [hA_size h5 hl5]; rfl) (hA_one h5) ?_) | (refine wpList_store_row rfl 34 _ _ rfl (w5.heap.size + 1) #[.int .i64 (4), .int .i64 (y), .int .i64 (vx), .int .i64 (vy), .int .i64 (0)] rfl rfl 34 effZ YN5.out (by kernel_rfl) rfl (by kernel_rfl) ?_))
  obtain ⟨w5x, hw5x⟩ : ∃ w5x : World, w5x = (((w5.alloc (.cells zA 28)).alloc (.cells effZ 34)).setRow w5.heap.size (hA h5)).setRow (w5.heap.size + 1) #[.int .i64 (4), .int .i64 (y), .int .i64 (vx), .int .i64 (vy), .int .i64 (0)] := ⟨_, rfl⟩
  have HG5 : Hid (w5x.heap[w5.heap.size]? = some (.cells (hA h5) 28 (0, 0))) := by rw [hw5x]; exact row_ne (by omega) (setRow_heap _ _ _ _ _ _ ZN5.out)
  have HE5 : Hid (w5x.heap[w5.heap.size + 1]? = some (.cells #[.int .i64 (4), .int .i64 (y), .int .i64 (vx), .int .i64 (vy), .int .i64 (0)] 34 (0, 0))) := by rw [hw5x]; exact setRow_heap _ _ _ _ _ _ YN5.out
  have hbx5 : Below w5.heap.size w5 w5x := by rw [hw5x]; exact below_setRow (below_setRow (((Below.refl _ _).alloc (Nat.le_refl _) _).alloc (by simp) _) (Nat.le_refl _) _) (by omega) _
  have hsx5 : w5.heap.size + 2 ≤ w5x.heap.size := by have := lt_in HE5.out; omega
  first | rw [← hw5x] | (change Code.wp _ _ _ _ ((((w5.alloc (.cells zA 28)).alloc (.cells effZ 34)).setRow w5.heap.size (hA h5)).setRow (w5.heap.size + 1) #[.int .i64 (4), .int .i64 (y), .int .i64 (vx), .int .i64 (vy), .int .i64 (0)]); rw [← hw5x])
  clear hw5x ZN5 YN5
  have F18 := Lib.hid (bel_in hbx5 (lt_in F14.out) F14.out)
  have F19 := Lib.hid (bel_in hbx5 (lt_in F15.out) F15.out)
  have F20 := Lib.hid (bel_in hbx5 (lt_in F16.out) F16.out)
  have bel21 : Below w.heap.size w w5x := bw_tr bel17 hbx5
  clear F14 F15 F16 bel17
  clear hbx5 hsx5
  have hs6 := eff_eq (ad_m h x y hx32 hy32)
  rw [HVX.out] at hs6
  rw [HVY.out] at hs6
  have hl6 := len_at hlh hs6
  generalize (stepX h 0 ⟨49, y, x, y, 0⟩).1 = h6 at *
  have HS6 := Lib.hid hs6; clear hs6
  go_wp2_with (refine wpList_load_row rfl 28 _ rfl (w2.heap.size) rfl 28 (hA h) (0, 0) _ F18.out Try.underlying28 rfl (infoA (hA_size h hlh)) ?_)
  refine (step_at h 0 49 y x y (0) _ hlh h6 (5) (y) (vx) (vy) (1) HS6.out).mono ?_
  rintro e w6 ⟨rfl, hb6⟩
  have F22 := Lib.hid (bel_in hb6 (lt_in F18.out) F18.out)
  have F23 := Lib.hid (bel_in hb6 (lt_in F19.out) F19.out)
  have F24 := Lib.hid (bel_in hb6 (lt_in F20.out) F20.out)
  have F25 := Lib.hid (bel_in hb6 (lt_in HE5.out) HE5.out)
  have bel26 : Below w.heap.size w w6 := bw_tr bel21 hb6
  clear F18 F19 F20 HE5 bel21
  clear hb6
  have ZN6 := Lib.hid (heap_alloc2_old w6 (.cells zA 28) (.cells effZ 34))
  have YN6 := Lib.hid (row_ne (b := w6.heap.size) (cs := hA h6) (by omega) (heap_alloc2_new w6 (.cells zA 28) (.cells effZ 34)))
  go_upto_region 11 with (first | (refine wpList_store_row rfl 28 _ _ rfl (w6.heap.size) (hA h6) rfl rfl 28 zA ZN6.out (infoA (hA_size h6 hl6)) (by rw [hA_size h6 hl6]; rfl) (hA_one h6) ?_) | (refine wpList_store_row rfl 34 _ _ rfl (w6.heap.size + 1) #[.int .i64 (5), .int .i64 (y), .int .i64 (vx), .int .i64 (vy), .int .i64 (1)] rfl rfl 34 effZ YN6.out (by kernel_rfl) rfl (by kernel_rfl) ?_))
  obtain ⟨w6x, hw6x⟩ : ∃ w6x : World, w6x = (((w6.alloc (.cells zA 28)).alloc (.cells effZ 34)).setRow w6.heap.size (hA h6)).setRow (w6.heap.size + 1) #[.int .i64 (5), .int .i64 (y), .int .i64 (vx), .int .i64 (vy), .int .i64 (1)] := ⟨_, rfl⟩
  have HG6 : Hid (w6x.heap[w6.heap.size]? = some (.cells (hA h6) 28 (0, 0))) := by rw [hw6x]; exact row_ne (by omega) (setRow_heap _ _ _ _ _ _ ZN6.out)
  have HE6 : Hid (w6x.heap[w6.heap.size + 1]? = some (.cells #[.int .i64 (5), .int .i64 (y), .int .i64 (vx), .int .i64 (vy), .int .i64 (1)] 34 (0, 0))) := by rw [hw6x]; exact setRow_heap _ _ _ _ _ _ YN6.out
  have hbx6 : Below w6.heap.size w6 w6x := by rw [hw6x]; exact below_setRow (below_setRow (((Below.refl _ _).alloc (Nat.le_refl _) _).alloc (by simp) _) (Nat.le_refl _) _) (by omega) _
  have hsx6 : w6.heap.size + 2 ≤ w6x.heap.size := by have := lt_in HE6.out; omega
  first | rw [← hw6x] | (change Code.wp _ _ _ _ ((((w6.alloc (.cells zA 28)).alloc (.cells effZ 34)).setRow w6.heap.size (hA h6)).setRow (w6.heap.size + 1) #[.int .i64 (5), .int .i64 (y), .int .i64 (vx), .int .i64 (vy), .int .i64 (1)]); rw [← hw6x])
  clear hw6x ZN6 YN6
  have F27 := Lib.hid (bel_in hbx6 (lt_in F22.out) F22.out)
  have F28 := Lib.hid (bel_in hbx6 (lt_in F23.out) F23.out)
  have F29 := Lib.hid (bel_in hbx6 (lt_in F24.out) F24.out)
  have F30 := Lib.hid (bel_in hbx6 (lt_in F25.out) F25.out)
  have bel31 : Below w.heap.size w w6x := bw_tr bel26 hbx6
  clear F22 F23 F24 F25 bel26
  clear hbx6 hsx6
  have e30 := cell_in F28.out (j := 0) (u := .int .i64 (1)) rfl
  have e31 := cell_in F28.out (j := 1) (u := .int .i64 (y)) rfl
  have e32 := cell_in F28.out (j := 2) (u := .int .i64 (wrap32 (vx + (kk - 2048)))) rfl
  have e33 := cell_in F28.out (j := 3) (u := .int .i64 (0)) rfl
  have e34 := cell_in F28.out (j := 4) (u := .int .i64 (0)) rfl
  have q3 := eq_eff (1) (y) (wrap32 (vx + (kk - 2048))) (0) (0)
  have e40 := cell_in F29.out (j := 0) (u := .int .i64 (2)) rfl
  have e41 := cell_in F29.out (j := 1) (u := .int .i64 (0)) rfl
  have e42 := cell_in F29.out (j := 2) (u := .int .i64 (wrap32 (vx + (kk - 2048)))) rfl
  have e43 := cell_in F29.out (j := 3) (u := .int .i64 (vy)) rfl
  have e44 := cell_in F29.out (j := 4) (u := .int .i64 (0)) rfl
  have q4 := eq_eff (2) (0) (wrap32 (vx + (kk - 2048))) (vy) (0)
  have e50 := cell_in F30.out (j := 0) (u := .int .i64 (4)) rfl
  have e51 := cell_in F30.out (j := 1) (u := .int .i64 (y)) rfl
  have e52 := cell_in F30.out (j := 2) (u := .int .i64 (vx)) rfl
  have e53 := cell_in F30.out (j := 3) (u := .int .i64 (vy)) rfl
  have e54 := cell_in F30.out (j := 4) (u := .int .i64 (0)) rfl
  have q5 := eq_eff (4) (y) (vx) (vy) (0)
  have e60 := cell_in HE6.out (j := 0) (u := .int .i64 (5)) rfl
  have e61 := cell_in HE6.out (j := 1) (u := .int .i64 (y)) rfl
  have e62 := cell_in HE6.out (j := 2) (u := .int .i64 (vx)) rfl
  have e63 := cell_in HE6.out (j := 3) (u := .int .i64 (vy)) rfl
  have e64 := cell_in HE6.out (j := 4) (u := .int .i64 (1)) rfl
  have q6 := eq_eff (5) (y) (vx) (vy) (1)
  have cx := cell_in F27.out (hA_r h hlh x hx32)
  have cy := cell_in F27.out (hA_r h hlh y hy32)
  rw [HVX.out] at cx
  rw [HVY.out] at cy
  have cz0 : (0 : Int) ≤ (y : Int) := by omega
  have cz1 : (y : Int) < 32 := by omega
  clear hlh hl3 hl4 hl5 hl6 F27 F28 F29 F30 HE6
  try simp only [List.append_eq, List.cons_append, List.nil_append] at *
  go_wp2_with fail
  go_quiet (fail)
  go_wp2_with fail
  go_ret
  exact ⟨rfl, by first | exact bel31 | exact below_drewN bel31 _⟩
end Go.Proofs.Ytiahdhlfecgnpaa
