/-
  The walk of the law HartBranches.
-/
import Derived.Test.YtiahdhlfecgnpaaHartFine
import Derived.Deep.QuietTactic
import Derived.BigQuiet
import Derived.Outline
namespace Go.Proofs.Ytiahdhlfecgnpaa
open Go.RowKit
def oppN (k : Nat) : Int := if k = 0 then 6 else if k = 1 then 5 else if k = 2 then 8 else if k = 3 then 7 else if k = 4 then 10 else 9
theorem opp_bd (k : Nat) : 5 ≤ oppN k ∧ oppN k ≤ 10 := by unfold oppN; repeat' split
                                                          all_goals omega
theorem br_step (h : Ht) (op : Int) (a b : Nat) (far : Int) (ho : 5 ≤ op ∧ op ≤ 10) (ha : a < 32) (hb : b < 32) (hf : 0 ≤ far ∧ far ≤ 4000 ∧ far.tmod 2 = 0) :
    stepX h 0 ⟨op, 0, a, b, far⟩ = ({ h with pc := if jumpsB op (h.r.getD a 0) (h.r.getD b 0) = true then wrap32 (h.pc + far) else wrap32 (h.pc + 4) }, ⟨0, 0, 0, 0, 0⟩) := by
  rw [stepX_ok (right_mk _ (shB op ho) (by omega) ⟨by omega, by omega, .inr rfl⟩ ⟨by omega, by omega, .inl rfl⟩ ⟨by omega, by omega, .inl rfl⟩ ⟨by simp only; omega, by simp only; omega⟩ (by simp [modB, hf.2.2])) (by simp only; omega) (by simp only; omega)]
  have e1 : effX ⟨op, 0, a, b, far⟩ (h.r.getD a 0) (h.r.getD b 0) = ⟨0, 0, 0, 0, 0⟩ := by
    unfold effX; simp only
    repeat (rw [if_neg (by omega)])
  have e2 : putX h ⟨op, 0, a, b, far⟩ (h.r.getD a 0) (h.r.getD b 0) = h := by
    unfold putX; simp only
    repeat (rw [if_neg (by omega)])
  have e3 : leadsN h.pc ⟨op, 0, a, b, far⟩ (h.r.getD a 0) (h.r.getD b 0) = if jumpsB op (h.r.getD a 0) (h.r.getD b 0) = true then wrap32 (h.pc + far) else wrap32 (h.pc + 4) := by
    unfold leadsN; simp only
    by_cases hj : jumpsB op (h.r.getD a 0) (h.r.getD b 0) = true
    · rw [if_pos (.inr ⟨ho.1, ho.2, hj⟩), if_pos hj]
    · rw [if_neg (by rintro (h | ⟨_, _, h⟩); omega; exact hj h), if_neg (by omega), if_neg hj]
  unfold stepN
  simp only [Int.toNat_natCast, e1, e2, e3]
theorem jumps_opp (k : Nat) (a b : Int) (hk : k < 6) : jumpsB (oppN k) a b = !(jumpsB (5 + (k : Int)) a b) := by
  rcases (by omega : k = 0 ∨ k = 1 ∨ k = 2 ∨ k = 3 ∨ k = 4 ∨ k = 5) with rfl | rfl | rfl | rfl | rfl | rfl <;> simp [jumpsB, oppN]
  · by_cases h : a = b <;> simp [h, bne]
  all_goals
    rw [Bool.eq_iff_iff]; simp
theorem br_all (h : Ht) (k a b : Nat) (far : Int) (hk : k < 6) (ha : a < 32) (hb : b < 32) (hf : 0 ≤ far ∧ far ≤ 4000 ∧ far.tmod 2 = 0) : ∃ (g i : Ht) (j : Bool),
    stepX h 0 ⟨5 + (k : Int), 0, a, b, far⟩ = (g, ⟨0, 0, 0, 0, 0⟩) ∧ stepX h 0 ⟨oppN k, 0, a, b, far⟩ = (i, ⟨0, 0, 0, 0, 0⟩) ∧ g.r = h.r ∧
    g.pc = (if j = true then wrap32 (h.pc + far) else wrap32 (h.pc + 4)) ∧ i.pc = (if j = true then wrap32 (h.pc + 4) else wrap32 (h.pc + far)) := by
  refine ⟨_, _, jumpsB (5 + (k : Int)) (h.r.getD a 0) (h.r.getD b 0), br_step h _ a b far (by omega) ha hb hf, br_step h _ a b far (opp_bd k) ha hb hf, rfl, rfl, ?_⟩
  simp only
  rw [jumps_opp k _ _ hk]
  cases jumpsB (5 + (k : Int)) (h.r.getD a 0) (h.r.getD b 0) <;> rfl
set_option linter.unusedSimpArgs false
set_option maxRecDepth 100000 in
set_option maxHeartbeats 8000000 in
theorem hart_branches (v : Value) (l : List Int) (op a b n : Int) (w : World) (ha : ArgS 1 c1 w v l) (hl : ∀ x ∈ l, I64 x) (h1 : I64 op) (h2 : I64 a) (h3 : I64 b) (h4 : I64 n) :
    Calls Try.prog 6 #[v, .int .i64 op, .int .i64 a, .int .i64 b, .int .i64 n] w fun e w' => e = .returned (.bool true) ∧ Below w.heap.size w w' := by
  have HA := Lib.hid ha; have HL := Lib.hid hl; have H1 := Lib.hid h1; have H2 := Lib.hid h2; have H3 := Lib.hid h3; have H4 := Lib.hid h4
  clear ha hl h1 h2 h3 h4
  have fine := fit_fine l
  obtain ⟨k, hk, hkb⟩ : ∃ k : Nat, pickN op 6 = k ∧ k < 6 := ⟨(pickN op 6).toNat, by have := pickN_bd op 6 (by omega); omega, by have := pickN_bd op 6 (by omega); omega⟩
  obtain ⟨x, hx, hxb⟩ : ∃ x : Nat, pickN a 32 = x ∧ x < 32 := ⟨(pickN a 32).toNat, by have := pickN_bd a 32 (by omega); omega, by have := pickN_bd a 32 (by omega); omega⟩
  obtain ⟨y, hy, hyb⟩ : ∃ y : Nat, pickN b 32 = y ∧ y < 32 := ⟨(pickN b 32).toNat, by have := pickN_bd b 32 (by omega); omega, by have := pickN_bd b 32 (by omega); omega⟩
  have hm := pickN_bd n 500 (by omega)
  have HK := Lib.hid hk; have HX := Lib.hid hx; have HY := Lib.hid hy; clear hk hx hy
  go_enter Try.func6, Try.ntmps6
  go_wp2_with fail
  refine (awake14 _).mono ?_
  rintro e w1 ⟨rfl, hb1⟩
  have bel1 : Below w.heap.size w w1 := hb1
  clear hb1
  go_wp2_with fail
  refine (hfit_any v l _ (HA.out.below bel1) HL.out).mono ?_
  rintro e w2 ⟨rfl, hb2⟩
  have bel2 : Below w.heap.size w w2 := bw_tr bel1 hb2
  clear bel1
  clear hb2
  generalize fitH l = h at *
  have hlh := fine.len
  generalize hmm : pickN n 500 = mm at *
  have HM := Lib.hid hmm; clear hmm
  obtain ⟨far, hfar⟩ : ∃ far : Int, far = 8 + 4 * mm := ⟨_, rfl⟩
  obtain ⟨hg, hi, j, sg, si, rg, pg, pi⟩ := br_all h k x y far hkb hxb hyb ⟨by omega, by omega, by rw [hfar, show 8 + 4 * mm = 2 * (4 + 2 * mm) by omega]; exact Int.mul_tmod_right 2 _⟩
  have len_hg := len_at hlh sg
  have len_hi := len_at hlh si
  have fpc := fine.pc.1
  have SG := Lib.hid sg; have SI := Lib.hid si; have RG := Lib.hid rg; have PG := Lib.hid pg; have PI := Lib.hid pi
  clear fine sg si rg pg pi
  have HFAR := Lib.hid hfar.symm
  have farb : 0 ≤ far ∧ far ≤ 4000 := by omega
  clear hfar
  have ik0 : (0 : Int) ≤ (k : Int) := by omega
  have ik6 : (k : Int) < 6 := by omega
  have ZN2 := Lib.hid (new_in w2 (.cells zA 28))
  go_upto_region 3 with (refine wpList_store_row rfl 28 _ _ rfl (w2.heap.size) (hA h) rfl rfl 28 zA ZN2.out (infoA (hA_size h hlh)) (by rw [hA_size h hlh]; rfl) (hA_one h) ?_)
  obtain ⟨w2x, hw2x⟩ : ∃ w2x : World, w2x = (w2.alloc (.cells zA 28)).setRow w2.heap.size (hA h) := ⟨_, rfl⟩
  have HG2 : Hid (w2x.heap[w2.heap.size]? = some (.cells (hA h) 28 (0, 0))) := by rw [hw2x]; exact setRow_heap _ _ _ _ _ _ ZN2.out
  have hbx2 : Below w2.heap.size w2 w2x := by rw [hw2x]; exact below_setRow ((Below.refl _ _).alloc (Nat.le_refl _) _) (Nat.le_refl _) _
  have hsx2 : w2.heap.size + 1 ≤ w2x.heap.size := by have := lt_in HG2.out; omega
  first | rw [← hw2x] | (change Code.wp _ _ _ _ ((w2.alloc (.cells zA 28)).setRow w2.heap.size (hA h)); rw [← hw2x])
  clear hw2x ZN2
  have bel3 : Below w.heap.size w w2x := bw_tr bel2 hbx2
  clear bel2
  clear hbx2 hsx2
  have sw2 : w2.heap.size < w2x.heap.size := lt_in HG2.out
  go_upto_region 5 with (first | (go_at_call 15; ((with_reducible refine (pick14 op 6 _ H1.out (by omega)).mono ?_); rw [HK.out]; rintro e w' ⟨rfl, rfl⟩)) | (go_at_call 15; ((with_reducible refine (pick14 n 500 _ H4.out (by omega)).mono ?_); rw [HM.out]; rintro e w' ⟨rfl, rfl⟩)))
  rw [HFAR.out]
  clear hm
  go_upto_region 7 with (first | (go_at_call 15; ((with_reducible refine (pick14 a 32 _ H2.out (by omega)).mono ?_); rw [HX.out]; rintro e w' ⟨rfl, rfl⟩)) | (go_at_call 15; ((with_reducible refine (pick14 b 32 _ H3.out (by omega)).mono ?_); rw [HY.out]; rintro e w' ⟨rfl, rfl⟩)))
  obtain ⟨w3, hw3⟩ : ∃ w3 : World, w3 = (w2x.alloc (.cells #[.int .i64 (5 + (k : Int)), .int .i64 0, .int .i64 x, .int .i64 y, .int .i64 far] 24)).alloc (.cells #[.int .i64 (5 + (k : Int)), .int .i64 0, .int .i64 x, .int .i64 y, .int .i64 far] 24) := ⟨_, rfl⟩
  have HI : Hid (w3.heap[w2x.heap.size]? = some (.cells #[.int .i64 (5 + (k : Int)), .int .i64 0, .int .i64 x, .int .i64 y, .int .i64 far] 24 (0, 0))) := by rw [hw3]; exact Lib.hid (heap_alloc2_old w2x _ _)
  have HJ : Hid (w3.heap[w2x.heap.size + 1]? = some (.cells #[.int .i64 (5 + (k : Int)), .int .i64 0, .int .i64 x, .int .i64 y, .int .i64 far] 24 (0, 0))) := by rw [hw3]; exact Lib.hid (heap_alloc2_new w2x _ _)
  have hb3 : Below w2x.heap.size w2x w3 := by rw [hw3]; exact ((Below.refl _ _).alloc (Nat.le_refl _) _).alloc (by simp) _
  rw [← hw3]
  have hs3 : w3.heap.size = w2x.heap.size + 2 := by rw [hw3]; simp
  have HS3 := Lib.hid hs3
  clear hw3 hs3
  have sw2y : w.heap.size ≤ w2x.heap.size := (bel3).size
  have F4 := Lib.hid (bel_in hb3 (lt_in HG2.out) HG2.out)
  have bel5 : Below w.heap.size w w3 := bw_tr bel3 hb3
  clear HG2 bel3
  have zi := cell_in HJ.out (j := 0) (u := .int .i64 (5 + (k : Int))) rfl
  have zf := frozen_in HJ.out 0
  have hs3' : w2x.heap.size + 1 < w3.heap.size := lt_in HJ.out
  have hpc : (w3.alloc (.cells #[.int .i64 6, .int .i64 5, .int .i64 8, .int .i64 7, .int .i64 10, .int .i64 9] 3)).cell? ⟨w3.heap.size, k, none⟩ = some (.int .i64 (oppN k)) := by
    refine cell_in (new_in _ _) ?_
    rcases (by omega : k = 0 ∨ k = 1 ∨ k = 2 ∨ k = 3 ∨ k = 4 ∨ k = 5) with rfl | rfl | rfl | rfl | rfl | rfl <;> rfl
  go_upto_region 8 with (fail)
  obtain ⟨w4s, hw4s⟩ : ∃ w4s : World, w4s = w3.setCell ⟨w2x.heap.size + 1, 0, none⟩ (.int .i64 (oppN k)) := ⟨_, rfl⟩
  rw [← hw4s]
  obtain ⟨w4, hw4⟩ : ∃ w4 : World, w4 = w4s.alloc (.cells #[.int .i64 6, .int .i64 5, .int .i64 8, .int .i64 7, .int .i64 10, .int .i64 9] 3) := ⟨_, rfl⟩
  have hba : Below w4s.heap.size w4s w4 := by rw [hw4]; exact (Below.refl _ _).alloc (Nat.le_refl _) _
  rw [← hw4]
  have hj4 : w4s.heap[w2x.heap.size + 1]? = some (.cells #[.int .i64 (oppN k), .int .i64 0, .int .i64 x, .int .i64 y, .int .i64 far] 24 (0, 0)) := by rw [hw4s]; exact set_in HJ.out 0 _
  have hi4 : w4s.heap[w2x.heap.size]? = some (.cells #[.int .i64 (5 + (k : Int)), .int .i64 0, .int .i64 x, .int .i64 y, .int .i64 far] 24 (0, 0)) := by rw [hw4s]; exact heap_set_ne (by omega) HI.out
  have hg4 : w4s.heap[w2.heap.size]? = some (.cells (hA h) 28 (0, 0)) := by rw [hw4s]; exact heap_set_ne (by omega) F4.out
  have hbs : Below w.heap.size w w4s := by rw [hw4s]; exact bw_set bel5 (by have := sw2y; omega) _
  clear hw4s hpc zi zf
  have HJ4 := Lib.hid (bel_in hba (lt_in hj4) hj4)
  have HI4 := Lib.hid (bel_in hba (lt_in hi4) hi4)
  have HG4 := Lib.hid (bel_in hba (lt_in hg4) hg4)
  have hbw4 : Below w.heap.size w w4 := bw_tr hbs hba
  clear hj4 hi4 hg4 hbs hba hw4 HJ HI F4 bel5
  have ci0 := cell_in HI4.out (j := 0) (u := .int .i64 (5 + (k : Int))) rfl
  have ci1 := cell_in HI4.out (j := 1) (u := .int .i64 (0)) rfl
  have ci2 := cell_in HI4.out (j := 2) (u := .int .i64 (x)) rfl
  have ci3 := cell_in HI4.out (j := 3) (u := .int .i64 (y)) rfl
  have ci4 := cell_in HI4.out (j := 4) (u := .int .i64 (far)) rfl
  have cj0 := cell_in HJ4.out (j := 0) (u := .int .i64 (oppN k)) rfl
  have cj1 := cell_in HJ4.out (j := 1) (u := .int .i64 (0)) rfl
  have cj2 := cell_in HJ4.out (j := 2) (u := .int .i64 (x)) rfl
  have cj3 := cell_in HJ4.out (j := 3) (u := .int .i64 (y)) rfl
  have cj4 := cell_in HJ4.out (j := 4) (u := .int .i64 (far)) rfl
  go_wp2_with (refine wpList_load_row rfl 28 _ rfl (w2.heap.size) rfl 28 (hA h) (0, 0) _ HG4.out Try.underlying28 rfl (infoA (hA_size h hlh)) ?_)
  refine (step_at h 0 (5 + (k : Int)) 0 x y far _ hlh hg 0 0 0 0 0 SG.out).mono ?_
  rintro e w5 ⟨rfl, hb5⟩
  have F6 := Lib.hid (bel_in hb5 (lt_in HJ4.out) HJ4.out)
  have F7 := Lib.hid (bel_in hb5 (lt_in HI4.out) HI4.out)
  have F8 := Lib.hid (bel_in hb5 (lt_in HG4.out) HG4.out)
  have bel9 : Below w.heap.size w w5 := bw_tr hbw4 hb5
  clear HJ4 HI4 HG4 hbw4
  clear hb5
  have ZN5 := Lib.hid (heap_alloc2_old w5 (.cells zA 28) (.cells effZ 34))
  have YN5 := Lib.hid (row_ne (b := w5.heap.size) (cs := hA hg) (by omega) (heap_alloc2_new w5 (.cells zA 28) (.cells effZ 34)))
  go_upto_region 9 with (first | (refine wpList_store_row rfl 28 _ _ rfl (w5.heap.size) (hA hg) rfl rfl 28 zA ZN5.out (infoA (hA_size hg len_hg)) (by rw [hA_size hg len_hg]; rfl) (hA_one hg) ?_) | (refine wpList_store_row rfl 34 _ _ rfl (w5.heap.size + 1) #[.int .i64 (0), .int .i64 (0), .int .i64 (0), .int .i64 (0), .int .i64 (0)] rfl rfl 34 effZ YN5.out (by kernel_rfl) rfl (by kernel_rfl) ?_))
  obtain ⟨w5x, hw5x⟩ : ∃ w5x : World, w5x = (((w5.alloc (.cells zA 28)).alloc (.cells effZ 34)).setRow w5.heap.size (hA hg)).setRow (w5.heap.size + 1) #[.int .i64 (0), .int .i64 (0), .int .i64 (0), .int .i64 (0), .int .i64 (0)] := ⟨_, rfl⟩
  have HG5 : Hid (w5x.heap[w5.heap.size]? = some (.cells (hA hg) 28 (0, 0))) := by rw [hw5x]; exact row_ne (by omega) (setRow_heap _ _ _ _ _ _ ZN5.out)
  have HE5 : Hid (w5x.heap[w5.heap.size + 1]? = some (.cells #[.int .i64 (0), .int .i64 (0), .int .i64 (0), .int .i64 (0), .int .i64 (0)] 34 (0, 0))) := by rw [hw5x]; exact setRow_heap _ _ _ _ _ _ YN5.out
  have hbx5 : Below w5.heap.size w5 w5x := by rw [hw5x]; exact below_setRow (below_setRow (((Below.refl _ _).alloc (Nat.le_refl _) _).alloc (by simp) _) (Nat.le_refl _) _) (by omega) _
  have hsx5 : w5.heap.size + 2 ≤ w5x.heap.size := by have := lt_in HE5.out; omega
  first | rw [← hw5x] | (change Code.wp _ _ _ _ ((((w5.alloc (.cells zA 28)).alloc (.cells effZ 34)).setRow w5.heap.size (hA hg)).setRow (w5.heap.size + 1) #[.int .i64 (0), .int .i64 (0), .int .i64 (0), .int .i64 (0), .int .i64 (0)]); rw [← hw5x])
  clear hw5x ZN5 YN5
  have F10 := Lib.hid (bel_in hbx5 (lt_in F6.out) F6.out)
  have F11 := Lib.hid (bel_in hbx5 (lt_in F7.out) F7.out)
  have F12 := Lib.hid (bel_in hbx5 (lt_in F8.out) F8.out)
  have bel13 : Below w.heap.size w w5x := bw_tr bel9 hbx5
  clear F6 F7 F8 bel9
  clear hbx5 hsx5
  clear ci0 ci1 ci2 ci3 ci4 cj0 cj1 cj2 cj3 cj4
  have cj0 := cell_in F10.out (j := 0) (u := .int .i64 (oppN k)) rfl
  have cj1 := cell_in F10.out (j := 1) (u := .int .i64 (0)) rfl
  have cj2 := cell_in F10.out (j := 2) (u := .int .i64 (x)) rfl
  have cj3 := cell_in F10.out (j := 3) (u := .int .i64 (y)) rfl
  have cj4 := cell_in F10.out (j := 4) (u := .int .i64 (far)) rfl
  go_wp2_with (refine wpList_load_row rfl 28 _ rfl (w2.heap.size) rfl 28 (hA h) (0, 0) _ F12.out Try.underlying28 rfl (infoA (hA_size h hlh)) ?_)
  refine (step_at h 0 (oppN k) 0 x y far _ hlh hi 0 0 0 0 0 SI.out).mono ?_
  rintro e w6 ⟨rfl, hb6⟩
  have F14 := Lib.hid (bel_in hb6 (lt_in F10.out) F10.out)
  have F15 := Lib.hid (bel_in hb6 (lt_in F11.out) F11.out)
  have F16 := Lib.hid (bel_in hb6 (lt_in F12.out) F12.out)
  have F17 := Lib.hid (bel_in hb6 (lt_in HG5.out) HG5.out)
  have F18 := Lib.hid (bel_in hb6 (lt_in HE5.out) HE5.out)
  have bel19 : Below w.heap.size w w6 := bw_tr bel13 hb6
  clear F10 F11 F12 HG5 HE5 bel13
  clear hb6
  have ZN6 := Lib.hid (heap_alloc2_old w6 (.cells zA 28) (.cells effZ 34))
  have YN6 := Lib.hid (row_ne (b := w6.heap.size) (cs := hA hi) (by omega) (heap_alloc2_new w6 (.cells zA 28) (.cells effZ 34)))
  go_upto_region 10 with (first | (refine wpList_store_row rfl 28 _ _ rfl (w6.heap.size) (hA hi) rfl rfl 28 zA ZN6.out (infoA (hA_size hi len_hi)) (by rw [hA_size hi len_hi]; rfl) (hA_one hi) ?_) | (refine wpList_store_row rfl 34 _ _ rfl (w6.heap.size + 1) #[.int .i64 (0), .int .i64 (0), .int .i64 (0), .int .i64 (0), .int .i64 (0)] rfl rfl 34 effZ YN6.out (by kernel_rfl) rfl (by kernel_rfl) ?_))
  obtain ⟨w6x, hw6x⟩ : ∃ w6x : World, w6x = (((w6.alloc (.cells zA 28)).alloc (.cells effZ 34)).setRow w6.heap.size (hA hi)).setRow (w6.heap.size + 1) #[.int .i64 (0), .int .i64 (0), .int .i64 (0), .int .i64 (0), .int .i64 (0)] := ⟨_, rfl⟩
  have HG6 : Hid (w6x.heap[w6.heap.size]? = some (.cells (hA hi) 28 (0, 0))) := by rw [hw6x]; exact row_ne (by omega) (setRow_heap _ _ _ _ _ _ ZN6.out)
  have HE6 : Hid (w6x.heap[w6.heap.size + 1]? = some (.cells #[.int .i64 (0), .int .i64 (0), .int .i64 (0), .int .i64 (0), .int .i64 (0)] 34 (0, 0))) := by rw [hw6x]; exact setRow_heap _ _ _ _ _ _ YN6.out
  have hbx6 : Below w6.heap.size w6 w6x := by rw [hw6x]; exact below_setRow (below_setRow (((Below.refl _ _).alloc (Nat.le_refl _) _).alloc (by simp) _) (Nat.le_refl _) _) (by omega) _
  have hsx6 : w6.heap.size + 2 ≤ w6x.heap.size := by have := lt_in HE6.out; omega
  first | rw [← hw6x] | (change Code.wp _ _ _ _ ((((w6.alloc (.cells zA 28)).alloc (.cells effZ 34)).setRow w6.heap.size (hA hi)).setRow (w6.heap.size + 1) #[.int .i64 (0), .int .i64 (0), .int .i64 (0), .int .i64 (0), .int .i64 (0)]); rw [← hw6x])
  clear hw6x ZN6 YN6
  have F20 := Lib.hid (bel_in hbx6 (lt_in F14.out) F14.out)
  have F21 := Lib.hid (bel_in hbx6 (lt_in F15.out) F15.out)
  have F22 := Lib.hid (bel_in hbx6 (lt_in F16.out) F16.out)
  have F23 := Lib.hid (bel_in hbx6 (lt_in F17.out) F17.out)
  have F24 := Lib.hid (bel_in hbx6 (lt_in F18.out) F18.out)
  have bel25 : Below w.heap.size w w6x := bw_tr bel19 hbx6
  clear F14 F15 F16 F17 F18 bel19
  clear hbx6 hsx6
  clear cj0 cj1 cj2 cj3 cj4
  have ee50 := cell_in F24.out (j := 0) (u := .int .i64 (0)) rfl
  have ee51 := cell_in F24.out (j := 1) (u := .int .i64 (0)) rfl
  have ee52 := cell_in F24.out (j := 2) (u := .int .i64 (0)) rfl
  have ee53 := cell_in F24.out (j := 3) (u := .int .i64 (0)) rfl
  have ee54 := cell_in F24.out (j := 4) (u := .int .i64 (0)) rfl
  have ee60 := cell_in HE6.out (j := 0) (u := .int .i64 (0)) rfl
  have ee61 := cell_in HE6.out (j := 1) (u := .int .i64 (0)) rfl
  have ee62 := cell_in HE6.out (j := 2) (u := .int .i64 (0)) rfl
  have ee63 := cell_in HE6.out (j := 3) (u := .int .i64 (0)) rfl
  have ee64 := cell_in HE6.out (j := 4) (u := .int .i64 (0)) rfl
  have xh := cell_in F22.out (hA_fields h hlh).1
  have xg := cell_in F23.out (hA_fields hg len_hg).1
  have xi := cell_in HG6.out (hA_fields hi len_hi).1
  rw [PG.out] at xg; rw [PI.out] at xi
  have q1 := eq_eff 0 0 0 0 0
  have t1 : IntKind.i64.wrap (h.pc + far) = h.pc + far := IntWalk.i64_in _ (by omega)
  have t2 : IntKind.i64.wrap (h.pc + 4) = h.pc + 4 := IntWalk.i64_in _ (by omega)
  go_upto_region 12 with (go_at_call 24; refine (wrap_any _ _).mono ?_; rintro e w' ⟨rfl, rfl⟩)
  generalize h.pc = pc at *
  generalize wrap32 (pc + far) = p1 at *
  generalize wrap32 (pc + 4) = p2 at *
  have q2 := eq_rA h.r hlh
  clear t1 t2
  have HLD : Hid ((loadVar 26 ⟨w5.heap.size, 0, none⟩).run Try.prog w6x = .ok (.agg (rA h.r)) w6x) := by
    rw [← RG.out]; exact Lib.hid (run_load_regs _ _ hg len_hg _ _ F23.out)
  have HLE : Hid ((loadVar 26 ⟨w2.heap.size, 0, none⟩).run Try.prog w6x = .ok (.agg (rA h.r)) w6x) := by
    exact Lib.hid (run_load_regs _ _ h hlh _ _ F22.out)
  cases j
  all_goals
    simp only [if_true, Bool.false_eq_true, if_false] at xg xi
    by_cases hp : p1 = p2
  all_goals (first | subst hp | (have hp1 : (p1 == p2) = false := (by simpa using hp); have hp2 : (p2 == p1) = false := (by simpa using Ne.symm hp); clear hp))
  all_goals
    go_wp2_with (first | ((with_reducible refine load_run_g (o := ⟨_, .load _ _, _, _, _, _⟩) ?_ 26 _ rfl (w5.heap.size) ?_ (.agg (rA h.r)) HLD.out ?_); rotate_left; exact rfl; rotate_left; exact rfl) | ((with_reducible refine load_run_g (o := ⟨_, .load _ _, _, _, _, _⟩) ?_ 26 _ rfl (w2.heap.size) ?_ (.agg (rA h.r)) HLE.out ?_); rotate_left; exact rfl; rotate_left; exact rfl))
    go_ret
    exact ⟨rfl, (by first | exact bel25 | exact below_drewN bel25 _ | exact (by repeat (first | (with_reducible exact Below.refl _ _) | (with_reducible refine bw_set ?_ ?_ _) | (with_reducible apply bw_alloc) | (with_reducible refine bw_tr ?_ (by with_reducible assumption)) | (with_reducible apply bw_drew) | omega)))⟩
end Go.Proofs.Ytiahdhlfecgnpaa
