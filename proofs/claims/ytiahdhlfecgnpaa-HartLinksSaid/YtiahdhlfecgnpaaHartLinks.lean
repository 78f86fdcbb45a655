/-
  The walk of the law HartLinks.
-/
import Derived.Test.YtiahdhlfecgnpaaHartFine
import Derived.Deep.QuietTactic
import Derived.BigQuiet
import Derived.Outline
namespace Go.Proofs.Ytiahdhlfecgnpaa
open Go.RowKit
theorem li_g (h : Ht) (k : Nat) (m : Int) (hk : 1 ≤ k ∧ k < 32) (hm : -500 ≤ m ∧ m < 500) : stepX h 0 ⟨3, k, 0, 0, 4 * m⟩ = ({ putH h k (h.pc + 4) with pc := wrap32 (h.pc + 4 * m) }, ⟨0, 0, 0, 0, 0⟩) := by
  rw [stepX_ok (right_mk _ shJ (by omega) ⟨by omega, by omega, .inl rfl⟩ ⟨by omega, by omega, .inr rfl⟩ ⟨by omega, by omega, .inr rfl⟩ ⟨by simp only; omega, by simp only; omega⟩ (by rw [show 4 * m = 2 * (2 * m) by omega]; simp [modB])) (by simp) (by simp)]
  simp [stepN, effX, putX, leadsN]
theorem li_b (h : Ht) (k : Nat) (hk : 1 ≤ k ∧ k < 32) : stepX h 0 ⟨4, 0, k, 0, 0⟩ = ({ h with pc := bits .and .i64 (wrap32 (h.r.getD k 0)) (-2) }, ⟨0, 0, 0, 0, 0⟩) := by
  rw [stepX_ok (right_mk _ (shI 4 (by simp)) (by omega) ⟨by omega, by omega, .inr rfl⟩ ⟨by omega, by omega, .inl rfl⟩ ⟨by omega, by omega, .inr rfl⟩ ⟨by simp, by simp⟩ rfl) (by simp) (by simp)]
  simp [stepN, effX, putX, leadsN, put_zero]
theorem li_u (h : Ht) (k : Nat) (hk : 1 ≤ k ∧ k < 32) : stepX h 0 ⟨2, k, 0, 0, 0⟩ = ({ putH h k h.pc with pc := wrap32 (h.pc + 4) }, ⟨0, 0, 0, 0, 0⟩) := by
  rw [stepX_ok (right_mk _ (shU 2 (by simp)) (by omega) ⟨by omega, by omega, .inl rfl⟩ ⟨by omega, by omega, .inr rfl⟩ ⟨by omega, by omega, .inr rfl⟩ ⟨by simp, by simp⟩ rfl) (by simp) (by simp)]
  simp [stepN, effX, putX, leadsN]
theorem li_s (h : Ht) (k : Nat) (hk : 1 ≤ k ∧ k < 32) : stepX h 0 ⟨13, k, k, 0, 8⟩ = ({ putH h k (twoN 1 (h.r.getD k 0) 8) with pc := wrap32 (h.pc + 4) }, ⟨0, 0, 0, 0, 0⟩) := by
  rw [stepX_ok (right_mk _ (shI 13 (by simp)) (by omega) ⟨by omega, by omega, .inl rfl⟩ ⟨by omega, by omega, .inl rfl⟩ ⟨by omega, by omega, .inr rfl⟩ ⟨by simp, by simp⟩ rfl) (by simp) (by simp)]
  simp [stepN, effX, putX, leadsN, makesN, opsT, opsL]
theorem li_all (h : Ht) (f : Fine h) (k : Nat) (m : Int) (hk : 1 ≤ k ∧ k < 32) (hm : -500 ≤ m ∧ m < 500) : ∃ g b u s : Ht, stepX h 0 ⟨3, k, 0, 0, 4 * m⟩ = (g, ⟨0, 0, 0, 0, 0⟩) ∧ stepX g 0 ⟨4, 0, k, 0, 0⟩ = (b, ⟨0, 0, 0, 0, 0⟩) ∧ stepX h 0 ⟨2, k, 0, 0, 0⟩ = (u, ⟨0, 0, 0, 0, 0⟩) ∧ stepX u 0 ⟨13, k, k, 0, 8⟩ = (s, ⟨0, 0, 0, 0, 0⟩) ∧
    g.pc = wrap32 (h.pc + 4 * m) ∧ b.pc = wrap32 (h.pc + 4) ∧ s.r.getD k 0 = wrap32 (h.pc + 8) ∧ s.pc = wrap32 (h.pc + 8) := by
  refine ⟨_, _, _, _, li_g h k m hk hm, li_b _ k hk, li_u h k hk, li_s _ k hk, rfl, ?_, ?_, ?_⟩
  · have e : (putH h k (h.pc + 4)).r.getD k 0 = wrap32 (h.pc + 4) := put_get h f.len k hk _
    simp only
    rw [e, wrap32_id (wrap32_i32 _), and_neg2 (wrap32_i32 _)]
    have := f.pc
    unfold wrap32
    omega
  · have e : (putH h k h.pc).r.getD k 0 = h.pc := (put_get h f.len k hk _).trans (wrap32_id f.pc.1)
    have l : (putH h k h.pc).r.length = 32 := put_len f.len _ _
    refine (put_get ({ putH h k h.pc with pc := wrap32 (h.pc + 4) } : Ht) l k hk _).trans ?_
    simp only [e]
    show wrap32 (wrap32 (wrap32 h.pc + wrap32 8)) = wrap32 (h.pc + 8)
    unfold wrap32; omega
  · simp only
    unfold wrap32; omega
set_option linter.unusedSimpArgs false
set_option maxRecDepth 100000 in
set_option maxHeartbeats 8000000 in
theorem hart_links (v : Value) (l : List Int) (d far : Int) (w : World) (ha : ArgS 1 c1 w v l) (hl : ∀ x ∈ l, I64 x) (h1 : I64 d) (h2 : I64 far) :
    Calls Try.prog 7 #[v, .int .i64 d, .int .i64 far] w fun e w' => e = .returned (.bool true) ∧ Below w.heap.size w w' := by
  have HA := Lib.hid ha; have HL := Lib.hid hl; have H1 := Lib.hid h1; have H2 := Lib.hid h2
  clear ha hl h1 h2
  have fine := fit_fine l
  obtain ⟨k0, hk0, hk0b⟩ : ∃ k0 : Nat, pickN d 31 = k0 ∧ k0 < 31 := ⟨(pickN d 31).toNat, by have := pickN_bd d 31 (by omega); omega, by have := pickN_bd d 31 (by omega); omega⟩
  have hm := pickN_bd far 1000 (by omega)
  have HK := Lib.hid hk0; clear hk0
  go_enter Try.func7, Try.ntmps7
  go_wp2_with fail
  refine (awake14 _).mono ?_
  rintro e w1 ⟨rfl, hb1⟩
  have bel1 : Below w.heap.size w w1 := hb1
  clear hb1
  go_wp2_with fail
  refine (hfit_any v l _ (HA.out.below bel1) HL.out).mono ?_
  rintro e w2 ⟨rfl, hb2⟩
  have bel2 : Below w.heap.size w w2 := bw_tr bel1 hb2
  clear bel1
  clear hb2
  generalize fitH l = h at *
  have hlh := fine.len
  generalize hmm : pickN far 1000 = mm at *
  have HM := Lib.hid hmm; clear hmm
  obtain ⟨m, hm'⟩ : ∃ m : Int, m = mm - 500 := ⟨_, rfl⟩
  obtain ⟨k, hk'⟩ : ∃ k : Nat, k = 1 + k0 := ⟨_, rfl⟩
  obtain ⟨hg, hb, hu, hs, sg, sb, su, ss, pg, pb, rs, ps⟩ := li_all h fine k m (by omega) (by omega)
  have len_hg := len_at hlh sg
  have len_hb := len_at len_hg sb
  have len_hu := len_at hlh su
  have len_hs := len_at len_hu ss
  have fpc := fine.pc.1
  have SG := Lib.hid sg; have SB := Lib.hid sb; have SU := Lib.hid su; have SS := Lib.hid ss
  have PG := Lib.hid pg; have PB := Lib.hid pb; have RS := Lib.hid rs; have PS := Lib.hid ps
  clear fine sg sb su ss pg pb rs ps
  have hkb1 : (1 : Int) + k0 = (k : Int) := by omega
  have hmb1 : 4 * (mm - 500) = 4 * m := by omega
  have kb0 : (0 : Int) ≤ (k : Int) := by omega
  have kb1 : (k : Int) < 32 := by omega
  have mb : -500 ≤ m ∧ m < 500 := by omega
  have HKB := Lib.hid hkb1; have HMB := Lib.hid hmb1; clear hkb1 hmb1
  have ZN2 := Lib.hid (new_in w2 (.cells zA 28))
  go_upto_region 3 with (refine wpList_store_row rfl 28 _ _ rfl (w2.heap.size) (hA h) rfl rfl 28 zA ZN2.out (infoA (hA_size h hlh)) (by rw [hA_size h hlh]; rfl) (hA_one h) ?_)
  obtain ⟨w2x, hw2x⟩ : ∃ w2x : World, w2x = (w2.alloc (.cells zA 28)).setRow w2.heap.size (hA h) := ⟨_, rfl⟩
  have HG2 : Hid (w2x.heap[w2.heap.size]? = some (.cells (hA h) 28 (0, 0))) := by rw [hw2x]; exact setRow_heap _ _ _ _ _ _ ZN2.out
  have hbx2 : Below w2.heap.size w2 w2x := by rw [hw2x]; exact below_setRow ((Below.refl _ _).alloc (Nat.le_refl _) _) (Nat.le_refl _) _
  have hsx2 : w2.heap.size + 1 ≤ w2x.heap.size := by have := lt_in HG2.out; omega
  first | rw [← hw2x] | (change Code.wp _ _ _ _ ((w2.alloc (.cells zA 28)).setRow w2.heap.size (hA h)); rw [← hw2x])
  clear hw2x ZN2
  have bel3 : Below w.heap.size w w2x := bw_tr bel2 hbx2
  clear bel2
  clear hbx2 hsx2
  go_upto_region 5 with (first | (go_at_call 15; ((with_reducible refine (pick14 d 31 _ H1.out (by omega)).mono ?_); rw [HK.out]; rintro e w' ⟨rfl, rfl⟩)) | (go_at_call 15; ((with_reducible refine (pick14 far 1000 _ H2.out (by omega)).mono ?_); rw [HM.out]; rintro e w' ⟨rfl, rfl⟩)))
  rw [HKB.out]
  try rw [HMB.out]
  clear hm hk0b hm' hk' 
  go_wp2_with (refine wpList_load_row rfl 28 _ rfl (w2.heap.size) rfl 28 (hA h) (0, 0) _ HG2.out Try.underlying28 rfl (infoA (hA_size h hlh)) ?_)
  refine (step_at h 0 (3) (k) (0) (0) (4 * m) _ hlh hg (0) (0) (0) (0) (0) SG.out).mono ?_
  rintro e w3 ⟨rfl, hb3⟩
  have F4 := Lib.hid (bel_in hb3 (lt_in HG2.out) HG2.out)
  have bel5 : Below w.heap.size w w3 := bw_tr bel3 hb3
  clear HG2 bel3
  clear hb3
  have ZN3 := Lib.hid (heap_alloc2_old w3 (.cells zA 28) (.cells effZ 34))
  have YN3 := Lib.hid (row_ne (b := w3.heap.size) (cs := hA hg) (by omega) (heap_alloc2_new w3 (.cells zA 28) (.cells effZ 34)))
  go_upto_region 6 with (first | (refine wpList_store_row rfl 28 _ _ rfl (w3.heap.size) (hA hg) rfl rfl 28 zA ZN3.out (infoA (hA_size hg len_hg)) (by rw [hA_size hg len_hg]; rfl) (hA_one hg) ?_) | (refine wpList_store_row rfl 34 _ _ rfl (w3.heap.size + 1) #[.int .i64 (0), .int .i64 (0), .int .i64 (0), .int .i64 (0), .int .i64 (0)] rfl rfl 34 effZ YN3.out (by kernel_rfl) rfl (by kernel_rfl) ?_))
  obtain ⟨w3x, hw3x⟩ : ∃ w3x : World, w3x = (((w3.alloc (.cells zA 28)).alloc (.cells effZ 34)).setRow w3.heap.size (hA hg)).setRow (w3.heap.size + 1) #[.int .i64 (0), .int .i64 (0), .int .i64 (0), .int .i64 (0), .int .i64 (0)] := ⟨_, rfl⟩
  have HG3 : Hid (w3x.heap[w3.heap.size]? = some (.cells (hA hg) 28 (0, 0))) := by rw [hw3x]; exact row_ne (by omega) (setRow_heap _ _ _ _ _ _ ZN3.out)
  have HE3 : Hid (w3x.heap[w3.heap.size + 1]? = some (.cells #[.int .i64 (0), .int .i64 (0), .int .i64 (0), .int .i64 (0), .int .i64 (0)] 34 (0, 0))) := by rw [hw3x]; exact setRow_heap _ _ _ _ _ _ YN3.out
  have hbx3 : Below w3.heap.size w3 w3x := by rw [hw3x]; exact below_setRow (below_setRow (((Below.refl _ _).alloc (Nat.le_refl _) _).alloc (by simp) _) (Nat.le_refl _) _) (by omega) _
  have hsx3 : w3.heap.size + 2 ≤ w3x.heap.size := by have := lt_in HE3.out; omega
  first | rw [← hw3x] | (change Code.wp _ _ _ _ ((((w3.alloc (.cells zA 28)).alloc (.cells effZ 34)).setRow w3.heap.size (hA hg)).setRow (w3.heap.size + 1) #[.int .i64 (0), .int .i64 (0), .int .i64 (0), .int .i64 (0), .int .i64 (0)]); rw [← hw3x])
  clear hw3x ZN3 YN3
  have F6 := Lib.hid (bel_in hbx3 (lt_in F4.out) F4.out)
  have bel7 : Below w.heap.size w w3x := bw_tr bel5 hbx3
  clear F4 bel5
  clear hbx3 hsx3
  go_wp2_with (refine wpList_load_row rfl 28 _ rfl (w3.heap.size) rfl 28 (hA hg) (0, 0) _ HG3.out Try.underlying28 rfl (infoA (hA_size hg len_hg)) ?_)
  refine (step_at hg 0 (4) (0) (k) (0) (0) _ len_hg hb (0) (0) (0) (0) (0) SB.out).mono ?_
  rintro e w4 ⟨rfl, hb4⟩
  have F8 := Lib.hid (bel_in hb4 (lt_in F6.out) F6.out)
  have F9 := Lib.hid (bel_in hb4 (lt_in HG3.out) HG3.out)
  have F10 := Lib.hid (bel_in hb4 (lt_in HE3.out) HE3.out)
  have bel11 : Below w.heap.size w w4 := bw_tr bel7 hb4
  clear F6 HG3 HE3 bel7
  clear hb4
  have ZN4 := Lib.hid (heap_alloc2_old w4 (.cells zA 28) (.cells effZ 34))
  have YN4 := Lib.hid (row_ne (b := w4.heap.size) (cs := hA hb) (by omega) (heap_alloc2_new w4 (.cells zA 28) (.cells effZ 34)))
  go_upto_region 7 with (first | (refine wpList_store_row rfl 28 _ _ rfl (w4.heap.size) (hA hb) rfl rfl 28 zA ZN4.out (infoA (hA_size hb len_hb)) (by rw [hA_size hb len_hb]; rfl) (hA_one hb) ?_) | (refine wpList_store_row rfl 34 _ _ rfl (w4.heap.size + 1) #[.int .i64 (0), .int .i64 (0), .int .i64 (0), .int .i64 (0), .int .i64 (0)] rfl rfl 34 effZ YN4.out (by kernel_rfl) rfl (by kernel_rfl) ?_))
  obtain ⟨w4x, hw4x⟩ : ∃ w4x : World, w4x = (((w4.alloc (.cells zA 28)).alloc (.cells effZ 34)).setRow w4.heap.size (hA hb)).setRow (w4.heap.size + 1) #[.int .i64 (0), .int .i64 (0), .int .i64 (0), .int .i64 (0), .int .i64 (0)] := ⟨_, rfl⟩
  have HG4 : Hid (w4x.heap[w4.heap.size]? = some (.cells (hA hb) 28 (0, 0))) := by rw [hw4x]; exact row_ne (by omega) (setRow_heap _ _ _ _ _ _ ZN4.out)
  have HE4 : Hid (w4x.heap[w4.heap.size + 1]? = some (.cells #[.int .i64 (0), .int .i64 (0), .int .i64 (0), .int .i64 (0), .int .i64 (0)] 34 (0, 0))) := by rw [hw4x]; exact setRow_heap _ _ _ _ _ _ YN4.out
  have hbx4 : Below w4.heap.size w4 w4x := by rw [hw4x]; exact below_setRow (below_setRow (((Below.refl _ _).alloc (Nat.le_refl _) _).alloc (by simp) _) (Nat.le_refl _) _) (by omega) _
  have hsx4 : w4.heap.size + 2 ≤ w4x.heap.size := by have := lt_in HE4.out; omega
  first | rw [← hw4x] | (change Code.wp _ _ _ _ ((((w4.alloc (.cells zA 28)).alloc (.cells effZ 34)).setRow w4.heap.size (hA hb)).setRow (w4.heap.size + 1) #[.int .i64 (0), .int .i64 (0), .int .i64 (0), .int .i64 (0), .int .i64 (0)]); rw [← hw4x])
  clear hw4x ZN4 YN4
  have F12 := Lib.hid (bel_in hbx4 (lt_in F8.out) F8.out)
  have F13 := Lib.hid (bel_in hbx4 (lt_in F9.out) F9.out)
  have F14 := Lib.hid (bel_in hbx4 (lt_in F10.out) F10.out)
  have bel15 : Below w.heap.size w w4x := bw_tr bel11 hbx4
  clear F8 F9 F10 bel11
  clear hbx4 hsx4
  go_wp2_with (refine wpList_load_row rfl 28 _ rfl (w2.heap.size) rfl 28 (hA h) (0, 0) _ F12.out Try.underlying28 rfl (infoA (hA_size h hlh)) ?_)
  refine (step_at h 0 (2) (k) (0) (0) (0) _ hlh hu (0) (0) (0) (0) (0) SU.out).mono ?_
  rintro e w5 ⟨rfl, hb5⟩
  have F16 := Lib.hid (bel_in hb5 (lt_in F12.out) F12.out)
  have F17 := Lib.hid (bel_in hb5 (lt_in F13.out) F13.out)
  have F18 := Lib.hid (bel_in hb5 (lt_in F14.out) F14.out)
  have F19 := Lib.hid (bel_in hb5 (lt_in HG4.out) HG4.out)
  have F20 := Lib.hid (bel_in hb5 (lt_in HE4.out) HE4.out)
  have bel21 : Below w.heap.size w w5 := bw_tr bel15 hb5
  clear F12 F13 F14 HG4 HE4 bel15
  clear hb5
  have ZN5 := Lib.hid (heap_alloc2_old w5 (.cells zA 28) (.cells effZ 34))
  have YN5 := Lib.hid (row_ne (b := w5.heap.size) (cs := hA hu) (by omega) (heap_alloc2_new w5 (.cells zA 28) (.cells effZ 34)))
  go_upto_region 8 with (first | (refine wpList_store_row rfl 28 _ _ rfl (w5.heap.size) (hA hu) rfl rfl 28 zA ZN5.out (infoA (hA_size hu len_hu)) (by rw [hA_size hu len_hu]; rfl) (hA_one hu) ?_) | (refine wpList_store_row rfl 34 _ _ rfl (w5.heap.size + 1) #[.int .i64 (0), .int .i64 (0), .int .i64 (0), .int .i64 (0), .int .i64 (0)] rfl rfl 34 effZ YN5.out (by kernel_rfl) rfl (by kernel_rfl) ?_))
  obtain ⟨w5x, hw5x⟩ : ∃ w5x : World, w5x = (((w5.alloc (.cells zA 28)).alloc (.cells effZ 34)).setRow w5.heap.size (hA hu)).setRow (w5.heap.size + 1) #[.int .i64 (0), .int .i64 (0), .int .i64 (0), .int .i64 (0), .int .i64 (0)] := ⟨_, rfl⟩
  have HG5 : Hid (w5x.heap[w5.heap.size]? = some (.cells (hA hu) 28 (0, 0))) := by rw [hw5x]; exact row_ne (by omega) (setRow_heap _ _ _ _ _ _ ZN5.out)
  have HE5 : Hid (w5x.heap[w5.heap.size + 1]? = some (.cells #[.int .i64 (0), .int .i64 (0), .int .i64 (0), .int .i64 (0), .int .i64 (0)] 34 (0, 0))) := by rw [hw5x]; exact setRow_heap _ _ _ _ _ _ YN5.out
  have hbx5 : Below w5.heap.size w5 w5x := by rw [hw5x]; exact below_setRow (below_setRow (((Below.refl _ _).alloc (Nat.le_refl _) _).alloc (by simp) _) (Nat.le_refl _) _) (by omega) _
  have hsx5 : w5.heap.size + 2 ≤ w5x.heap.size := by have := lt_in HE5.out; omega
  first | rw [← hw5x] | (change Code.wp _ _ _ _ ((((w5.alloc (.cells zA 28)).alloc (.cells effZ 34)).setRow w5.heap.size (hA hu)).setRow (w5.heap.size + 1) #[.int .i64 (0), .int .i64 (0), .int .i64 (0), .int .i64 (0), .int .i64 (0)]); rw [← hw5x])
  clear hw5x ZN5 YN5
  have F22 := Lib.hid (bel_in hbx5 (lt_in F16.out) F16.out)
  have F23 := Lib.hid (bel_in hbx5 (lt_in F17.out) F17.out)
  have F24 := Lib.hid (bel_in hbx5 (lt_in F18.out) F18.out)
  have F25 := Lib.hid (bel_in hbx5 (lt_in F19.out) F19.out)
  have F26 := Lib.hid (bel_in hbx5 (lt_in F20.out) F20.out)
  have bel27 : Below w.heap.size w w5x := bw_tr bel21 hbx5
  clear F16 F17 F18 F19 F20 bel21
  clear hbx5 hsx5
  go_wp2_with (refine wpList_load_row rfl 28 _ rfl (w5.heap.size) rfl 28 (hA hu) (0, 0) _ HG5.out Try.underlying28 rfl (infoA (hA_size hu len_hu)) ?_)
  refine (step_at hu 0 (13) (k) (k) (0) (8) _ len_hu hs (0) (0) (0) (0) (0) SS.out).mono ?_
  rintro e w6 ⟨rfl, hb6⟩
  have F28 := Lib.hid (bel_in hb6 (lt_in F22.out) F22.out)
  have F29 := Lib.hid (bel_in hb6 (lt_in F23.out) F23.out)
  have F30 := Lib.hid (bel_in hb6 (lt_in F24.out) F24.out)
  have F31 := Lib.hid (bel_in hb6 (lt_in F25.out) F25.out)
  have F32 := Lib.hid (bel_in hb6 (lt_in F26.out) F26.out)
  have F33 := Lib.hid (bel_in hb6 (lt_in HG5.out) HG5.out)
  have F34 := Lib.hid (bel_in hb6 (lt_in HE5.out) HE5.out)
  have bel35 : Below w.heap.size w w6 := bw_tr bel27 hb6
  clear F22 F23 F24 F25 F26 HG5 HE5 bel27
  clear hb6
  have ZN6 := Lib.hid (heap_alloc2_old w6 (.cells zA 28) (.cells effZ 34))
  have YN6 := Lib.hid (row_ne (b := w6.heap.size) (cs := hA hs) (by omega) (heap_alloc2_new w6 (.cells zA 28) (.cells effZ 34)))
  go_upto_region 9 with (first | (refine wpList_store_row rfl 28 _ _ rfl (w6.heap.size) (hA hs) rfl rfl 28 zA ZN6.out (infoA (hA_size hs len_hs)) (by rw [hA_size hs len_hs]; rfl) (hA_one hs) ?_) | (refine wpList_store_row rfl 34 _ _ rfl (w6.heap.size + 1) #[.int .i64 (0), .int .i64 (0), .int .i64 (0), .int .i64 (0), .int .i64 (0)] rfl rfl 34 effZ YN6.out (by kernel_rfl) rfl (by kernel_rfl) ?_))
  obtain ⟨w6x, hw6x⟩ : ∃ w6x : World, w6x = (((w6.alloc (.cells zA 28)).alloc (.cells effZ 34)).setRow w6.heap.size (hA hs)).setRow (w6.heap.size + 1) #[.int .i64 (0), .int .i64 (0), .int .i64 (0), .int .i64 (0), .int .i64 (0)] := ⟨_, rfl⟩
  have HG6 : Hid (w6x.heap[w6.heap.size]? = some (.cells (hA hs) 28 (0, 0))) := by rw [hw6x]; exact row_ne (by omega) (setRow_heap _ _ _ _ _ _ ZN6.out)
  have HE6 : Hid (w6x.heap[w6.heap.size + 1]? = some (.cells #[.int .i64 (0), .int .i64 (0), .int .i64 (0), .int .i64 (0), .int .i64 (0)] 34 (0, 0))) := by rw [hw6x]; exact setRow_heap _ _ _ _ _ _ YN6.out
  have hbx6 : Below w6.heap.size w6 w6x := by rw [hw6x]; exact below_setRow (below_setRow (((Below.refl _ _).alloc (Nat.le_refl _) _).alloc (by simp) _) (Nat.le_refl _) _) (by omega) _
  have hsx6 : w6.heap.size + 2 ≤ w6x.heap.size := by have := lt_in HE6.out; omega
  first | rw [← hw6x] | (change Code.wp _ _ _ _ ((((w6.alloc (.cells zA 28)).alloc (.cells effZ 34)).setRow w6.heap.size (hA hs)).setRow (w6.heap.size + 1) #[.int .i64 (0), .int .i64 (0), .int .i64 (0), .int .i64 (0), .int .i64 (0)]); rw [← hw6x])
  clear hw6x ZN6 YN6
  have F36 := Lib.hid (bel_in hbx6 (lt_in F28.out) F28.out)
  have F37 := Lib.hid (bel_in hbx6 (lt_in F29.out) F29.out)
  have F38 := Lib.hid (bel_in hbx6 (lt_in F30.out) F30.out)
  have F39 := Lib.hid (bel_in hbx6 (lt_in F31.out) F31.out)
  have F40 := Lib.hid (bel_in hbx6 (lt_in F32.out) F32.out)
  have F41 := Lib.hid (bel_in hbx6 (lt_in F33.out) F33.out)
  have F42 := Lib.hid (bel_in hbx6 (lt_in F34.out) F34.out)
  have bel43 : Below w.heap.size w w6x := bw_tr bel35 hbx6
  clear F28 F29 F30 F31 F32 F33 F34 bel35
  clear hbx6 hsx6
  have ee30 := cell_in F38.out (j := 0) (u := .int .i64 (0)) rfl
  have ee31 := cell_in F38.out (j := 1) (u := .int .i64 (0)) rfl
  have ee32 := cell_in F38.out (j := 2) (u := .int .i64 (0)) rfl
  have ee33 := cell_in F38.out (j := 3) (u := .int .i64 (0)) rfl
  have ee34 := cell_in F38.out (j := 4) (u := .int .i64 (0)) rfl
  have ee40 := cell_in F40.out (j := 0) (u := .int .i64 (0)) rfl
  have ee41 := cell_in F40.out (j := 1) (u := .int .i64 (0)) rfl
  have ee42 := cell_in F40.out (j := 2) (u := .int .i64 (0)) rfl
  have ee43 := cell_in F40.out (j := 3) (u := .int .i64 (0)) rfl
  have ee44 := cell_in F40.out (j := 4) (u := .int .i64 (0)) rfl
  have ee50 := cell_in F42.out (j := 0) (u := .int .i64 (0)) rfl
  have ee51 := cell_in F42.out (j := 1) (u := .int .i64 (0)) rfl
  have ee52 := cell_in F42.out (j := 2) (u := .int .i64 (0)) rfl
  have ee53 := cell_in F42.out (j := 3) (u := .int .i64 (0)) rfl
  have ee54 := cell_in F42.out (j := 4) (u := .int .i64 (0)) rfl
  have ee60 := cell_in HE6.out (j := 0) (u := .int .i64 (0)) rfl
  have ee61 := cell_in HE6.out (j := 1) (u := .int .i64 (0)) rfl
  have ee62 := cell_in HE6.out (j := 2) (u := .int .i64 (0)) rfl
  have ee63 := cell_in HE6.out (j := 3) (u := .int .i64 (0)) rfl
  have ee64 := cell_in HE6.out (j := 4) (u := .int .i64 (0)) rfl
  have xg := cell_in F37.out (hA_fields hg len_hg).1
  have xb := cell_in F39.out (hA_fields hb len_hb).1
  have xs := cell_in HG6.out (hA_fields hs len_hs).1
  have xh := cell_in F36.out (hA_fields h hlh).1
  have xk := cell_in HG6.out (hA_r hs len_hs k (by omega))
  rw [PG.out] at xg; rw [PB.out] at xb; rw [PS.out] at xs; rw [RS.out] at xk
  have q1 := eq_eff 0 0 0 0 0
  have t1 : IntKind.i64.wrap (h.pc + 4 * m) = h.pc + 4 * m := IntWalk.i64_in _ (by omega)
  have t2 : IntKind.i64.wrap (h.pc + 4) = h.pc + 4 := IntWalk.i64_in _ (by omega)
  have t3 : IntKind.i64.wrap (h.pc + 8) = h.pc + 8 := IntWalk.i64_in _ (by omega)
  clear hlh len_hg len_hb len_hu len_hs F36 F37 F38 F39 F40 F41 F42 HG6 HE6
  go_wp2_with fail
  go_quiet ((go_at_call 24; exact Calls.quiet_of_same (wrap_q _ _)))
  go_wp2_with fail
  go_ret
  exact ⟨rfl, (by first | exact bel43 | exact below_drewN bel43 _ | exact (by repeat (first | (with_reducible exact Below.refl _ _) | (with_reducible refine bw_set ?_ ?_ _) | (with_reducible apply bw_alloc) | (with_reducible refine bw_tr ?_ (by with_reducible assumption)) | (with_reducible apply bw_drew) | omega)))⟩
end Go.Proofs.Ytiahdhlfecgnpaa
