/-
  The walk of the law HartOperators.
-/
import Derived.Test.YtiahdhlfecgnpaaHartOperatorsP
import Derived.Test.YtiahdhlfecgnpaaQuietNew
import Derived.Deep.QuietTactic
import Derived.BigQuiet
import Derived.Outline
namespace Go.Proofs.Ytiahdhlfecgnpaa
open Go.RowKit
set_option linter.unusedSimpArgs false
set_option maxRecDepth 100000 in
set_option maxHeartbeats 8000000 in
theorem hart_operators (a b which d : Int) (w : World) (h1 : I64 a) (h2 : I64 b) (h3 : I64 which) (h4 : I64 d) :
    Calls Try.prog 11 #[.int .i64 a, .int .i64 b, .int .i64 which, .int .i64 d] w fun e w' => e = .returned (.bool true) ∧ Below w.heap.size w w' := by
  have H1 := Lib.hid h1; have H2 := Lib.hid h2; have H3 := Lib.hid h3; have H4 := Lib.hid h4
  clear h1 h2 h3 h4
  obtain ⟨k0, hk0, hk0b⟩ : ∃ k0 : Nat, pickN d 31 = k0 ∧ k0 < 31 := ⟨(pickN d 31).toNat, by have := pickN_bd d 31 (by omega); omega, by have := pickN_bd d 31 (by omega); omega⟩
  obtain ⟨p, hp, hpb⟩ : ∃ p : Nat, pickN which 12 = p ∧ p < 12 := ⟨(pickN which 12).toNat, by have := pickN_bd which 12 (by omega); omega, by have := pickN_bd which 12 (by omega); omega⟩
  have hs := pickN_bd b 4096 (by omega)
  have HK := Lib.hid hk0; have HPP := Lib.hid hp; clear hk0 hp
  generalize hsm : pickN b 4096 = sm at *
  have HSM := Lib.hid hsm; clear hsm
  obtain ⟨k, hk'⟩ : ∃ k : Nat, k = 1 + k0 := ⟨_, rfl⟩
  obtain ⟨o, ho'⟩ : ∃ o : Nat, o = 1 + p := ⟨_, rfl⟩
  obtain ⟨h, hh⟩ : ∃ h : Ht, h = putH (putH (lH 8 0 0 0 0 0 0) 3 a) 4 b := ⟨_, rfl⟩
  obtain ⟨hlh, g, q, r, sg, sq, sr, gk, qk, rk, gp⟩ := opr_all a b (sm - 2048) k p (by omega) hpb (by omega) h hh
  have len_g := len_at hlh sg
  have len_q := len_at hlh sq
  have len_r := len_at hlh sr
  generalize hop : oprN p = op at *
  have ho1 : (1 : Int) + (p : Int) = (o : Int) := by omega
  rw [ho1] at gk
  have hk1 : (1 : Int) + (k0 : Int) = (k : Int) := by omega
  have HHH := Lib.hid hh; have SG := Lib.hid sg; have SQ := Lib.hid sq; have SR := Lib.hid sr; have GK := Lib.hid gk; have QK := Lib.hid qk; have RK := Lib.hid rk; have GP := Lib.hid gp; have HOP := Lib.hid hop; have HO1 := Lib.hid ho1; have HK1 := Lib.hid hk1
  have kb0 : (0 : Int) ≤ (k : Int) := by omega
  have kb1 : (k : Int) < 32 := by omega
  have kb2 : k < 32 := by omega
  have pb0 : (0 : Int) ≤ (p : Int) := by omega
  have pb1 : (p : Int) < 12 := by omega
  have hop1 : (o : Int) - 1 = (p : Int) := by omega
  have HOP1 := Lib.hid hop1
  have ob : (1 : Int) ≤ (o : Int) ∧ (o : Int) ≤ 12 := by omega
  clear hh sg sq sr gk qk rk gp hop ho1 hk1 hk' ho' hop1
  go_enter Try.func11, Try.ntmps11
  go_wp2_with fail
  refine (awake14 _).mono ?_
  rintro e w1 ⟨rfl, hb1⟩
  have bel1 : Below w.heap.size w w1 := hb1
  clear hb1
  go_upto_region 3 with (go_at_call 15; ((with_reducible refine (pick14 d 31 _ H4.out (by omega)).mono ?_); rw [HK.out]; rintro e w' ⟨rfl, rfl⟩))
  rw [HK1.out]
  clear hk0b
  go_wp2_with fail
  refine (put_l 8 0 0 0 0 0 0 3 a _).mono ?_
  rintro e w2 ⟨rfl, hb2⟩
  have bel2 : Below w.heap.size w w2 := bw_tr bel1 hb2
  clear bel1
  clear hb2
  go_wp2_with fail
  refine (put_any (putH (lH 8 0 0 0 0 0 0) 3 a) 4 b _ (put_len rfl _ _)).mono ?_
  rw [← HHH.out]
  rintro e w3 ⟨rfl, hb3⟩
  have bel3 : Below w.heap.size w w3 := bw_tr bel2 hb3
  clear bel2
  clear hb3
  have ZN3x := Lib.hid (new_in w3 (.cells zA 28))
  go_upto_region 4 with (refine wpList_store_row rfl 28 _ _ rfl (w3.heap.size) (hA h) rfl rfl 28 zA ZN3x.out (infoA (hA_size h hlh)) (by rw [hA_size h hlh]; rfl) (hA_one h) ?_)
  obtain ⟨w3xx, hw3xx⟩ : ∃ w3xx : World, w3xx = (w3.alloc (.cells zA 28)).setRow w3.heap.size (hA h) := ⟨_, rfl⟩
  have HG3x : Hid (w3xx.heap[w3.heap.size]? = some (.cells (hA h) 28 (0, 0))) := by rw [hw3xx]; exact setRow_heap _ _ _ _ _ _ ZN3x.out
  have hbx3x : Below w3.heap.size w3 w3xx := by rw [hw3xx]; exact below_setRow ((Below.refl _ _).alloc (Nat.le_refl _) _) (Nat.le_refl _) _
  have hsx3x : w3.heap.size + 1 ≤ w3xx.heap.size := by have := lt_in HG3x.out; omega
  first | rw [← hw3xx] | (change Code.wp _ _ _ _ ((w3.alloc (.cells zA 28)).setRow w3.heap.size (hA h)); rw [← hw3xx])
  clear hw3xx ZN3x
  have bel4 : Below w.heap.size w w3xx := bw_tr bel3 hbx3x
  clear bel3
  clear hbx3x hsx3x
  go_upto_region 5 with (fail)
  obtain ⟨wl, hwl⟩ : ∃ wl : World, wl = w3xx.alloc (.cells #[.int .i64 22, .int .i64 23, .int .i64 32, .int .i64 35, .int .i64 37, .int .i64 31, .int .i64 30, .int .i64 27, .int .i64 24, .int .i64 29, .int .i64 25, .int .i64 26] 3) := ⟨_, rfl⟩
  have hbl : Below w3xx.heap.size w3xx wl := by rw [hwl]; exact (Below.refl _ _).alloc (Nat.le_refl _) _
  have HLB : Hid (wl.heap[w3xx.heap.size]? = some (.cells #[.int .i64 22, .int .i64 23, .int .i64 32, .int .i64 35, .int .i64 37, .int .i64 31, .int .i64 30, .int .i64 27, .int .i64 24, .int .i64 29, .int .i64 25, .int .i64 26] 3 (0, 0))) := by rw [hwl]; exact Lib.hid (new_in _ _)
  rw [← hwl]
  clear hwl
  have F5 := Lib.hid (bel_in hbl (lt_in HG3x.out) HG3x.out)
  have bel6 : Below w.heap.size w wl := bw_tr bel4 hbl
  clear HG3x bel4
  clear hbl
  go_upto_region 6 with (go_at_call 15; ((with_reducible refine (pick14 which 12 _ H3.out (by omega)).mono ?_); rw [HPP.out]; rintro e w' ⟨rfl, rfl⟩))
  rw [HO1.out]
  have cl : wl.cell? ⟨w3xx.heap.size, p, none⟩ = some (.int .i64 op) := by
    refine cell_in HLB.out ?_
    rw [← HOP.out]
    rcases (by omega : p = 0 ∨ p = 1 ∨ p = 2 ∨ p = 3 ∨ p = 4 ∨ p = 5 ∨ p = 6 ∨ p = 7 ∨ p = 8 ∨ p = 9 ∨ p = 10 ∨ p = 11) with rfl | rfl | rfl | rfl | rfl | rfl | rfl | rfl | rfl | rfl | rfl | rfl <;> rfl
  have rcl := fun (S : Rec) (x : WdS wl S) => wdS_cell (lt_in HLB.out) cl x
  have t1 : IntKind.i64.wrap ((o : Int) - 1) = (p : Int) := by rw [HOP1.out]; exact IntWalk.i64_in _ (by omega)
  have R2 : Hid (∀ (S : Rec) (w' : World), (∃ x : WdS wl S, w' = x.val) → (loadVar 28 ⟨w3.heap.size, 0, none⟩).run Try.prog w' = .ok (.agg (hA h)) w') := by
    rintro S w' ⟨x, rfl⟩
    exact run_loadVar_row _ _ 28 28 (hA h) (0, 0) _ (bel_in x.ok.1 (lt_in F5.out) F5.out) Try.underlying28 rfl (infoA (hA_size h hlh))
  clear cl
  refine wp_region_new2 12 (by kernel_rfl) (by kernel_rfl) (by kernel_rfl) _ _ _ _ rfl rfl rfl rfl rfl rfl rfl rfl 14 15 rfl rfl rfl rfl (by decide) zA effZ (hA g) effZ 28 34 ?r1 ?r2 ?a' ?h ?hst ?hQ
  case r1 => intro a w; kernel_rfl
  case r2 => intro a w; kernel_rfl
  case h =>
    intro S hne
    have rcl' := rcl S
    have R3 := Lib.hid (R2.out S)
    simp only [List.take_succ_cons, List.take_zero]
    go_big_quiet_want
    refine quiet_load_row 28 _ (w3.heap.size) (hA h) rfl rfl R3.out ?_
    simp only [Act.put, List.setIfInBounds_toArray, List.set_cons_succ, List.set_cons_zero]
    go_big_quiet_on
    repeat (go_big_quiet_step ((go_at_call 16; with_reducible exact quiet_n (step_at h 0 op k 3 4 0 _ hlh g 0 0 0 0 0 SG.out))))
    refine wpQuiet_nil ?_
    exact rfl
  case hst =>
    intro b1 b2 hb
    exact ⟨fun w' hw' => store_run 28 _ _ rfl b1 (hA g) rfl rfl 28 zA (infoA (hA_size g len_g)) (by rw [hA_size g len_g]; rfl) (hA_one g) w' hw', fun w' hw' => store_run 34 _ _ rfl b2 effZ rfl rfl 34 effZ (by kernel_rfl) rfl (by kernel_rfl) w' hw'⟩
  intro b1 b2 w4 hb1 hb2 hb12 hb4 HB1 HB2
  have HG4 := Lib.hid HB1; have HE4 := Lib.hid HB2
  clear HB1 HB2 rcl t1 R2 hb1 hb2 hb12
  try simp only [Act.put, List.setIfInBounds_toArray, List.set_cons_succ, List.set_cons_zero]
  have F7 := Lib.hid (bel_in hb4 (lt_in F5.out) F5.out)
  have F8 := Lib.hid (bel_in hb4 (lt_in HLB.out) HLB.out)
  have bel9 : Below w.heap.size w w4 := bw_tr bel6 hb4
  clear F5 HLB bel6
  clear hb4
  go_upto_region 9 with (first | (go_at_call 27; refine (two_any _ _ _ _).mono ?_; rintro e w' ⟨rfl, rfl⟩) | (go_at_call 15; ((with_reducible refine (pick14 b 4096 _ H2.out (by omega)).mono ?_); rw [HSM.out]; rintro e w' ⟨rfl, rfl⟩)))
  go_wp2_with (refine wpList_load_row rfl 28 _ rfl (w3.heap.size) rfl 28 (hA h) (0, 0) _ F7.out Try.underlying28 rfl (infoA (hA_size h hlh)) ?_)
  refine (step_at h 0 (13) (k) (3) (0) (sm - 2048) _ hlh q (0) (0) (0) (0) (0) SQ.out).mono ?_
  rintro e w5 ⟨rfl, hb5⟩
  have F10 := Lib.hid (bel_in hb5 (lt_in F7.out) F7.out)
  have F11 := Lib.hid (bel_in hb5 (lt_in F8.out) F8.out)
  have F12 := Lib.hid (bel_in hb5 (lt_in HG4.out) HG4.out)
  have F13 := Lib.hid (bel_in hb5 (lt_in HE4.out) HE4.out)
  have bel14 : Below w.heap.size w w5 := bw_tr bel9 hb5
  clear F7 F8 HG4 HE4 bel9
  clear hb5
  have ZN5 := Lib.hid (heap_alloc2_old w5 (.cells zA 28) (.cells effZ 34))
  have YN5 := Lib.hid (row_ne (b := w5.heap.size) (cs := hA q) (by omega) (heap_alloc2_new w5 (.cells zA 28) (.cells effZ 34)))
  go_upto_region 10 with (first | (refine wpList_store_row rfl 28 _ _ rfl (w5.heap.size) (hA q) rfl rfl 28 zA ZN5.out (infoA (hA_size q len_q)) (by rw [hA_size q len_q]; rfl) (hA_one q) ?_) | (refine wpList_store_row rfl 34 _ _ rfl (w5.heap.size + 1) #[.int .i64 (0), .int .i64 (0), .int .i64 (0), .int .i64 (0), .int .i64 (0)] rfl rfl 34 effZ YN5.out (by kernel_rfl) rfl (by kernel_rfl) ?_))
  obtain ⟨w5x, hw5x⟩ : ∃ w5x : World, w5x = (((w5.alloc (.cells zA 28)).alloc (.cells effZ 34)).setRow w5.heap.size (hA q)).setRow (w5.heap.size + 1) #[.int .i64 (0), .int .i64 (0), .int .i64 (0), .int .i64 (0), .int .i64 (0)] := ⟨_, rfl⟩
  have HG5 : Hid (w5x.heap[w5.heap.size]? = some (.cells (hA q) 28 (0, 0))) := by rw [hw5x]; exact row_ne (by omega) (setRow_heap _ _ _ _ _ _ ZN5.out)
  have HE5 : Hid (w5x.heap[w5.heap.size + 1]? = some (.cells #[.int .i64 (0), .int .i64 (0), .int .i64 (0), .int .i64 (0), .int .i64 (0)] 34 (0, 0))) := by rw [hw5x]; exact setRow_heap _ _ _ _ _ _ YN5.out
  have hbx5 : Below w5.heap.size w5 w5x := by rw [hw5x]; exact below_setRow (below_setRow (((Below.refl _ _).alloc (Nat.le_refl _) _).alloc (by simp) _) (Nat.le_refl _) _) (by omega) _
  have hsx5 : w5.heap.size + 2 ≤ w5x.heap.size := by have := lt_in HE5.out; omega
  first | rw [← hw5x] | (change Code.wp _ _ _ _ ((((w5.alloc (.cells zA 28)).alloc (.cells effZ 34)).setRow w5.heap.size (hA q)).setRow (w5.heap.size + 1) #[.int .i64 (0), .int .i64 (0), .int .i64 (0), .int .i64 (0), .int .i64 (0)]); rw [← hw5x])
  clear hw5x ZN5 YN5
  have F15 := Lib.hid (bel_in hbx5 (lt_in F10.out) F10.out)
  have F16 := Lib.hid (bel_in hbx5 (lt_in F11.out) F11.out)
  have F17 := Lib.hid (bel_in hbx5 (lt_in F12.out) F12.out)
  have F18 := Lib.hid (bel_in hbx5 (lt_in F13.out) F13.out)
  have bel19 : Below w.heap.size w w5x := bw_tr bel14 hbx5
  clear F10 F11 F12 F13 bel14
  clear hbx5 hsx5
  go_wp2_with (refine wpList_load_row rfl 28 _ rfl (w3.heap.size) rfl 28 (hA h) (0, 0) _ F15.out Try.underlying28 rfl (infoA (hA_size h hlh)) ?_)
  refine (step_at h 0 (16) (k) (3) (0) (-1) _ hlh r (0) (0) (0) (0) (0) SR.out).mono ?_
  rintro e w6 ⟨rfl, hb6⟩
  have F20 := Lib.hid (bel_in hb6 (lt_in F15.out) F15.out)
  have F21 := Lib.hid (bel_in hb6 (lt_in F16.out) F16.out)
  have F22 := Lib.hid (bel_in hb6 (lt_in F17.out) F17.out)
  have F23 := Lib.hid (bel_in hb6 (lt_in F18.out) F18.out)
  have F24 := Lib.hid (bel_in hb6 (lt_in HG5.out) HG5.out)
  have F25 := Lib.hid (bel_in hb6 (lt_in HE5.out) HE5.out)
  have bel26 : Below w.heap.size w w6 := bw_tr bel19 hb6
  clear F15 F16 F17 F18 HG5 HE5 bel19
  clear hb6
  have ZN6 := Lib.hid (heap_alloc2_old w6 (.cells zA 28) (.cells effZ 34))
  have YN6 := Lib.hid (row_ne (b := w6.heap.size) (cs := hA r) (by omega) (heap_alloc2_new w6 (.cells zA 28) (.cells effZ 34)))
  go_upto_region 11 with (first | (refine wpList_store_row rfl 28 _ _ rfl (w6.heap.size) (hA r) rfl rfl 28 zA ZN6.out (infoA (hA_size r len_r)) (by rw [hA_size r len_r]; rfl) (hA_one r) ?_) | (refine wpList_store_row rfl 34 _ _ rfl (w6.heap.size + 1) #[.int .i64 (0), .int .i64 (0), .int .i64 (0), .int .i64 (0), .int .i64 (0)] rfl rfl 34 effZ YN6.out (by kernel_rfl) rfl (by kernel_rfl) ?_))
  obtain ⟨w6x, hw6x⟩ : ∃ w6x : World, w6x = (((w6.alloc (.cells zA 28)).alloc (.cells effZ 34)).setRow w6.heap.size (hA r)).setRow (w6.heap.size + 1) #[.int .i64 (0), .int .i64 (0), .int .i64 (0), .int .i64 (0), .int .i64 (0)] := ⟨_, rfl⟩
  have HG6 : Hid (w6x.heap[w6.heap.size]? = some (.cells (hA r) 28 (0, 0))) := by rw [hw6x]; exact row_ne (by omega) (setRow_heap _ _ _ _ _ _ ZN6.out)
  have HE6 : Hid (w6x.heap[w6.heap.size + 1]? = some (.cells #[.int .i64 (0), .int .i64 (0), .int .i64 (0), .int .i64 (0), .int .i64 (0)] 34 (0, 0))) := by rw [hw6x]; exact setRow_heap _ _ _ _ _ _ YN6.out
  have hbx6 : Below w6.heap.size w6 w6x := by rw [hw6x]; exact below_setRow (below_setRow (((Below.refl _ _).alloc (Nat.le_refl _) _).alloc (by simp) _) (Nat.le_refl _) _) (by omega) _
  have hsx6 : w6.heap.size + 2 ≤ w6x.heap.size := by have := lt_in HE6.out; omega
  first | rw [← hw6x] | (change Code.wp _ _ _ _ ((((w6.alloc (.cells zA 28)).alloc (.cells effZ 34)).setRow w6.heap.size (hA r)).setRow (w6.heap.size + 1) #[.int .i64 (0), .int .i64 (0), .int .i64 (0), .int .i64 (0), .int .i64 (0)]); rw [← hw6x])
  clear hw6x ZN6 YN6
  have F27 := Lib.hid (bel_in hbx6 (lt_in F20.out) F20.out)
  have F28 := Lib.hid (bel_in hbx6 (lt_in F21.out) F21.out)
  have F29 := Lib.hid (bel_in hbx6 (lt_in F22.out) F22.out)
  have F30 := Lib.hid (bel_in hbx6 (lt_in F23.out) F23.out)
  have F31 := Lib.hid (bel_in hbx6 (lt_in F24.out) F24.out)
  have F32 := Lib.hid (bel_in hbx6 (lt_in F25.out) F25.out)
  have bel33 : Below w.heap.size w w6x := bw_tr bel26 hbx6
  clear F20 F21 F22 F23 F24 F25 bel26
  clear hbx6 hsx6
  go_upto_region 13 with (first | (go_at_call 27; refine (two_any _ _ _ _).mono ?_; rintro e w' ⟨rfl, rfl⟩) | (go_at_call 28; refine (one_any _ _ _).mono ?_; rintro e w' ⟨rfl, rfl⟩))
  have ee40 := cell_in F30.out (j := 0) (u := .int .i64 (0)) rfl
  have ee41 := cell_in F30.out (j := 1) (u := .int .i64 (0)) rfl
  have ee42 := cell_in F30.out (j := 2) (u := .int .i64 (0)) rfl
  have ee43 := cell_in F30.out (j := 3) (u := .int .i64 (0)) rfl
  have ee44 := cell_in F30.out (j := 4) (u := .int .i64 (0)) rfl
  have ee50 := cell_in F32.out (j := 0) (u := .int .i64 (0)) rfl
  have ee51 := cell_in F32.out (j := 1) (u := .int .i64 (0)) rfl
  have ee52 := cell_in F32.out (j := 2) (u := .int .i64 (0)) rfl
  have ee53 := cell_in F32.out (j := 3) (u := .int .i64 (0)) rfl
  have ee54 := cell_in F32.out (j := 4) (u := .int .i64 (0)) rfl
  have ee60 := cell_in HE6.out (j := 0) (u := .int .i64 (0)) rfl
  have ee61 := cell_in HE6.out (j := 1) (u := .int .i64 (0)) rfl
  have ee62 := cell_in HE6.out (j := 2) (u := .int .i64 (0)) rfl
  have ee63 := cell_in HE6.out (j := 3) (u := .int .i64 (0)) rfl
  have ee64 := cell_in HE6.out (j := 4) (u := .int .i64 (0)) rfl
  have xg := cell_in F29.out (hA_fields g len_g).1
  have xk := cell_in F29.out (hA_r g len_g k kb2)
  have xq := cell_in F31.out (hA_r q len_q k kb2)
  have xr := cell_in HG6.out (hA_r r len_r k kb2)
  rw [GP.out] at xg; rw [GK.out] at xk; rw [QK.out] at xq; rw [RK.out] at xr
  have q1 := eq_eff 0 0 0 0 0
  generalize twoN (o : Int) a b = z1 at *
  generalize twoN 1 a (sm - 2048) = z2 at *
  generalize oneN 17 a = z3 at *
  try simp only [List.append_eq, List.cons_append, List.nil_append] at *
  go_wp2_with fail
  go_ret
  exact ⟨rfl, (by first | exact bel33 | exact below_drewN bel33 _ | exact (by repeat (first | (with_reducible exact Below.refl _ _) | (with_reducible refine bw_set ?_ ?_ _) | (with_reducible apply bw_alloc) | (with_reducible refine bw_tr ?_ (by with_reducible assumption)) | (with_reducible apply bw_drew) | omega)))⟩
end Go.Proofs.Ytiahdhlfecgnpaa
