/-
  The walk of the law StoreBusy (printed).
-/
import Derived.Test.YtkhobelceghgfaaMemMade
namespace Go.Proofs.Ytkhobelceghgfaa
open Go.RowKit
set_option maxHeartbeats 8000000 in
set_option maxRecDepth 100000 in
theorem walkStoreBusy (harts words : Int) (v : Value) (raw : List R4) (which at' n : Int) (w : World) (hi1 : I64 harts) (hi2 : I64 words) (hv : ArgS 4 c4 w v raw) (hok : ∀ r ∈ raw, ok4 r) (hj0 : I64 which) (hj1 : I64 at') (hj2 : I64 n) :
    Calls Try.prog 9 #[.int .i64 harts, .int .i64 words, v, .int .i64 which, .int .i64 at', .int .i64 n] w fun e w' => e = .returned (.bool true) ∧ Below w.heap.size w w' := by
  obtain ⟨a, len, cap, rfl, h⟩ := rows4_of hv hok
  have H4 := Lib.hid h
  have I1 := Lib.hid hi1; have I2 := Lib.hid hi2; have J0 := Lib.hid hj0; have J1 := Lib.hid hj1; have J2 := Lib.hid hj2
  clear hv hok h hi1 hi2 hj0 hj1 hj2
  have HB : Hid (Below w.heap.size w w) := Lib.hid (Below.refl _ _)
  go_enter Try.func9, Try.ntmps9
  go_wp2_with fail
  refine (awake11 _).mono ?_
  rintro e w1 ⟨rfl, hb1⟩
  have B_2 := Lib.hid (bw_tr HB.out hb1)
  clear HB
  clear hb1
  go_wp2_with fail
  refine (made_good harts words a len cap raw _ I1.out I2.out ?mk).mono ?_
  case mk => exact rows4_up H4.out B_2.out
  rintro e w3 ⟨a31, n31, b31, a32, n32, b32, a33, n33, b33, m, p, q, rfl, hmk, hgk, hp3, hq4, hbk⟩
  obtain ⟨H, hH⟩ : ∃ H, 2 + p = H := ⟨_, rfl⟩; obtain ⟨W, hW⟩ : ∃ W, 1 + q = W := ⟨_, rfl⟩
  rw [hH, hW] at hgk
  have hH2 : 2 ≤ H ∧ H ≤ 4 := (by omega); have hW2 : 1 ≤ W ∧ W ≤ 4 := (by omega)
  obtain ⟨rfl, rfl, rfl⟩ : W = n31 ∧ H = n32 ∧ H = n33 := lens_of hmk hgk
  clear hH hW hp3 hq4 p q
  have B_4 := Lib.hid (bw_tr B_2.out hbk)
  clear B_2
  have HM3 := Lib.hid hmk; have GD := Lib.hid hgk; clear hmk hgk hbk
  go_upto_region 3 with (fail)
  have LB_m : Hid (w.heap.size ≤ w3.heap.size) := Lib.hid (B_4.out).size
  have m_5 := Lib.hid (mv_new HM3.out)
  have B_6 := Lib.hid (bw_tr B_4.out (bel_new w3 (.cells #[.slice a31 W b31, .slice a32 H b32, .slice a33 H b33] 27)))
  clear B_4
  clear HM3
  obtain ⟨gw7, hu7⟩ : ∃ u, w3.alloc (.cells #[.slice a31 W b31, .slice a32 H b32, .slice a33 H b33] 27) = u := ⟨_, rfl⟩
  rw [hu7] at B_6 m_5
  rw [hu7]
  clear hu7
  obtain ⟨b_m, hq⟩ : ∃ q, w3.heap.size = q := ⟨_, rfl⟩
  rw [hq] at m_5
  have LB_m := Lib.hid (Nat.le_trans LB_m.out (Nat.le_of_eq hq))
  rw [hq]
  clear hq
  have SM := Lib.hid (GD.out.small (by omega) (by omega))
  have pH := pickN_bd which H (by omega); have pW := pickN_bd at' W (by omega)
  obtain ⟨hh, e1⟩ : ∃ hh, pickN which H = hh := ⟨_, rfl⟩; obtain ⟨kk, e2⟩ : ∃ kk, pickN at' W = kk := ⟨_, rfl⟩
  rw [e1] at pH; rw [e2] at pW; have DH := Lib.hid e1; have DK := Lib.hid e2; clear e1 e2
  obtain ⟨was, m1, m2, m3, m4, m5, bok⟩ := busy_ok GD.out n pH.1 pH.2 pW.1 pW.2
  have BK := Lib.hid bok; clear bok
  have S1 := Lib.hid (BK.out.g1.small (by omega) (by omega))
  have S2 := Lib.hid (BK.out.g2.small (by omega) (by omega))
  have S3 := Lib.hid (BK.out.g3.small (by omega) (by omega))
  have S4 := Lib.hid (BK.out.g4.small (by omega) (by omega))
  have hd1 : decide ((H : Int) < 2) = false := (by simp; omega); have hd2 : decide ((W : Int) < 1) = false := (by simp; omega)
  obtain ⟨⟨c00, c01, c02⟩, d00, d01, d02⟩ := six (m_5.out).1
  have t0 := mv_lt m_5.out
  go_wp2_with (first | (go_at_call 12; (with_reducible refine (pick11 _ _ _ _ J0.out (by omega) DH.out).mono ?_); rintro e w' ⟨rfl, rfl⟩) | (go_at_call 12; (with_reducible refine (pick11 _ _ _ _ J1.out (by omega) DK.out).mono ?_); rintro e w' ⟨rfl, rfl⟩))
  refine (flush_lit _ m hh (m1, 0) _ m_5.out.2 SM.out BK.out.f1).mono ?_
  rintro e w8 hr8
  obtain ⟨a81, n81, b81, a82, n82, b82, a83, n83, b83, rfl, hm8, LN8, hb8⟩ := hr8.parts
  clear c00 d00 c01 d01 c02 d02 t0
  have B_9 := Lib.hid (bw_tr B_6.out hb8)
  clear B_6
  have m_9 := Lib.hid (MV.up m_5.out hb8)
  clear m_5
  have HM8 := Lib.hid hm8; clear hm8 hb8
  obtain ⟨⟨c00, c01, c02⟩, d00, d01, d02⟩ := six (m_9.out).1
  have t0 := mv_lt m_9.out
  go_upto_region 8 with fail
  clear c00 d00 c01 d01 c02 d02 t0
  have B_10 := Lib.hid (bel_set3 (x := .slice a81 n81 b81) (y := .slice a82 n82 b82) (z := .slice a83 n83 b83) B_9.out (LB_m.out))
  have m_11 := Lib.hid (mv_set m_9.out HM8.out)
  clear B_9
  clear m_9
  clear HM8
  obtain ⟨gw12, hu12⟩ : ∃ u, ((w8.setCell ⟨b_m, 0, none⟩ (.slice a81 n81 b81)).setCell ⟨b_m, 1, none⟩ (.slice a82 n82 b82)).setCell ⟨b_m, 2, none⟩ (.slice a83 n83 b83) = u := ⟨_, rfl⟩
  rw [hu12] at B_10 m_11
  rw [hu12]
  clear hu12
  obtain ⟨⟨c00, c01, c02⟩, d00, d01, d02⟩ := six (m_11.out).1
  have t0 := mv_lt m_11.out
  go_wp2_with fail
  refine (load_any _ m1 hh kk (was, 0) _ m_11.out.2 S1.out BK.out.l1).mono ?_
  rintro e w13 ⟨rfl, hb13⟩
  clear c00 d00 c01 d01 c02 d02 t0
  have B_14 := Lib.hid (bw_tr B_10.out hb13)
  clear B_10
  have m_14 := Lib.hid (MV.up m_11.out hb13)
  clear m_11
  clear hb13
  obtain ⟨⟨c00, c01, c02⟩, d00, d01, d02⟩ := six (m_14.out).1
  have t0 := mv_lt m_14.out
  go_wp2_with fail
  refine (change_lit _ m1 hh kk 0 n was (m2, 0) _ m_14.out.2 S1.out BK.out.c1).mono ?_
  rintro e w15 hr15
  obtain ⟨a151, n151, b151, a152, n152, b152, a153, n153, b153, rfl, hm15, LN15, hb15⟩ := hr15.parts
  clear c00 d00 c01 d01 c02 d02 t0
  have B_16 := Lib.hid (bw_tr B_14.out hb15)
  clear B_14
  have m_16 := Lib.hid (MV.up m_14.out hb15)
  clear m_14
  have HM15 := Lib.hid hm15; clear hm15 hb15
  go_upto_region 10 with fail
  have N_m_next := Lib.hid (mv_lt m_16.out)
  have LB_next : Hid (w.heap.size ≤ w15.heap.size) := Lib.hid (B_16.out).size
  have next_17 := Lib.hid (mv_new HM15.out)
  have B_18 := Lib.hid (bw_tr B_16.out (bel_new w15 (.cells #[.slice a151 n151 b151, .slice a152 n152 b152, .slice a153 n153 b153] 27)))
  clear B_16
  have m_18 := Lib.hid (MV.up m_16.out (bel_new w15 (.cells #[.slice a151 n151 b151, .slice a152 n152 b152, .slice a153 n153 b153] 27)))
  clear m_16
  clear HM15
  obtain ⟨gw19, hu19⟩ : ∃ u, w15.alloc (.cells #[.slice a151 n151 b151, .slice a152 n152 b152, .slice a153 n153 b153] 27) = u := ⟨_, rfl⟩
  rw [hu19] at B_18 m_18 next_17
  rw [hu19]
  clear hu19
  obtain ⟨b_next, hq⟩ : ∃ q, w15.heap.size = q := ⟨_, rfl⟩
  rw [hq] at next_17
  have N_m_next := Lib.hid (Nat.lt_of_lt_of_le N_m_next.out (Nat.le_of_eq hq))
  have LB_next := Lib.hid (Nat.le_trans LB_next.out (Nat.le_of_eq hq))
  rw [hq]
  clear hq
  obtain ⟨⟨c00, c01, c02⟩, d00, d01, d02⟩ := six (next_17.out).1
  have t0 := mv_lt next_17.out
  go_wp2_with fail
  refine (store_lit _ m2 hh kk n (m3, 0) _ next_17.out.2 S2.out BK.out.s1).mono ?_
  rintro e w20 hr20
  obtain ⟨a201, n201, b201, a202, n202, b202, a203, n203, b203, rfl, hm20, LN20, hb20⟩ := hr20.parts
  clear c00 d00 c01 d01 c02 d02 t0
  have B_21 := Lib.hid (bw_tr B_18.out hb20)
  clear B_18
  have m_21 := Lib.hid (MV.up m_18.out hb20)
  clear m_18
  have next_21 := Lib.hid (MV.up next_17.out hb20)
  clear next_17
  have HM20 := Lib.hid hm20; clear hm20 hb20
  go_upto_region 11 with fail
  have N_m_one := Lib.hid (mv_lt m_21.out)
  have N_next_one := Lib.hid (mv_lt next_21.out)
  have LB_one : Hid (w.heap.size ≤ w20.heap.size) := Lib.hid (B_21.out).size
  have one_22 := Lib.hid (mv_new HM20.out)
  have B_23 := Lib.hid (bw_tr B_21.out (bel_new w20 (.cells #[.slice a201 n201 b201, .slice a202 n202 b202, .slice a203 n203 b203] 27)))
  clear B_21
  have m_23 := Lib.hid (MV.up m_21.out (bel_new w20 (.cells #[.slice a201 n201 b201, .slice a202 n202 b202, .slice a203 n203 b203] 27)))
  clear m_21
  have next_23 := Lib.hid (MV.up next_21.out (bel_new w20 (.cells #[.slice a201 n201 b201, .slice a202 n202 b202, .slice a203 n203 b203] 27)))
  clear next_21
  clear HM20
  obtain ⟨gw24, hu24⟩ : ∃ u, w20.alloc (.cells #[.slice a201 n201 b201, .slice a202 n202 b202, .slice a203 n203 b203] 27) = u := ⟨_, rfl⟩
  rw [hu24] at B_23 m_23 next_23 one_22
  rw [hu24]
  clear hu24
  obtain ⟨b_one, hq⟩ : ∃ q, w20.heap.size = q := ⟨_, rfl⟩
  rw [hq] at one_22
  have N_m_one := Lib.hid (Nat.lt_of_lt_of_le N_m_one.out (Nat.le_of_eq hq))
  have N_next_one := Lib.hid (Nat.lt_of_lt_of_le N_next_one.out (Nat.le_of_eq hq))
  have LB_one := Lib.hid (Nat.le_trans LB_one.out (Nat.le_of_eq hq))
  rw [hq]
  clear hq
  obtain ⟨⟨c00, c01, c02⟩, d00, d01, d02⟩ := six (one_22.out).1
  have t0 := mv_lt one_22.out
  go_wp2_with fail
  refine (change_lit _ m3 hh kk 0 n 0 (noMem, 92) _ one_22.out.2 S3.out BK.out.c2).mono ?_
  rintro e w25 hr25
  obtain ⟨a251, n251, b251, a252, n252, b252, a253, n253, b253, rfl, hm25, LN25, hb25⟩ := hr25.parts
  clear c00 d00 c01 d01 c02 d02 t0
  have B_26 := Lib.hid (bw_tr B_23.out hb25)
  clear B_23
  have m_26 := Lib.hid (MV.up m_23.out hb25)
  clear m_23
  have next_26 := Lib.hid (MV.up next_23.out hb25)
  clear next_23
  have one_26 := Lib.hid (MV.up one_22.out hb25)
  clear one_22
  have HM25 := Lib.hid hm25; clear hm25 hb25
  go_upto_region 12 with fail
  have N_m_u1 := Lib.hid (mv_lt m_26.out)
  have N_next_u1 := Lib.hid (mv_lt next_26.out)
  have N_one_u1 := Lib.hid (mv_lt one_26.out)
  have LB_u1 : Hid (w.heap.size ≤ w25.heap.size) := Lib.hid (B_26.out).size
  have u1_27 := Lib.hid (mv_new HM25.out)
  have B_28 := Lib.hid (bw_tr B_26.out (bel_new w25 (.cells #[.slice a251 n251 b251, .slice a252 n252 b252, .slice a253 n253 b253] 27)))
  clear B_26
  have m_28 := Lib.hid (MV.up m_26.out (bel_new w25 (.cells #[.slice a251 n251 b251, .slice a252 n252 b252, .slice a253 n253 b253] 27)))
  clear m_26
  have next_28 := Lib.hid (MV.up next_26.out (bel_new w25 (.cells #[.slice a251 n251 b251, .slice a252 n252 b252, .slice a253 n253 b253] 27)))
  clear next_26
  have one_28 := Lib.hid (MV.up one_26.out (bel_new w25 (.cells #[.slice a251 n251 b251, .slice a252 n252 b252, .slice a253 n253 b253] 27)))
  clear one_26
  clear HM25
  obtain ⟨gw29, hu29⟩ : ∃ u, w25.alloc (.cells #[.slice a251 n251 b251, .slice a252 n252 b252, .slice a253 n253 b253] 27) = u := ⟨_, rfl⟩
  rw [hu29] at B_28 m_28 next_28 one_28 u1_27
  rw [hu29]
  clear hu29
  obtain ⟨b_u1, hq⟩ : ∃ q, w25.heap.size = q := ⟨_, rfl⟩
  rw [hq] at u1_27
  have N_m_u1 := Lib.hid (Nat.lt_of_lt_of_le N_m_u1.out (Nat.le_of_eq hq))
  have N_next_u1 := Lib.hid (Nat.lt_of_lt_of_le N_next_u1.out (Nat.le_of_eq hq))
  have N_one_u1 := Lib.hid (Nat.lt_of_lt_of_le N_one_u1.out (Nat.le_of_eq hq))
  have LB_u1 := Lib.hid (Nat.le_trans LB_u1.out (Nat.le_of_eq hq))
  rw [hq]
  clear hq
  obtain ⟨⟨c00, c01, c02⟩, d00, d01, d02⟩ := six (one_28.out).1
  have t0 := mv_lt one_28.out
  go_wp2_with fail
  refine (reserve_lit _ m3 hh kk 0 (noMem, 92) _ one_28.out.2 S3.out BK.out.r2).mono ?_
  rintro e w30 hr30
  obtain ⟨a301, n301, b301, a302, n302, b302, a303, n303, b303, rfl, hm30, LN30, hb30⟩ := hr30.parts
  clear c00 d00 c01 d01 c02 d02 t0
  have B_31 := Lib.hid (bw_tr B_28.out hb30)
  clear B_28
  have m_31 := Lib.hid (MV.up m_28.out hb30)
  clear m_28
  have next_31 := Lib.hid (MV.up next_28.out hb30)
  clear next_28
  have one_31 := Lib.hid (MV.up one_28.out hb30)
  clear one_28
  have u1_31 := Lib.hid (MV.up u1_27.out hb30)
  clear u1_27
  have HM30 := Lib.hid hm30; clear hm30 hb30
  go_upto_region 13 with fail
  have N_m_u2 := Lib.hid (mv_lt m_31.out)
  have N_next_u2 := Lib.hid (mv_lt next_31.out)
  have N_one_u2 := Lib.hid (mv_lt one_31.out)
  have N_u1_u2 := Lib.hid (mv_lt u1_31.out)
  have LB_u2 : Hid (w.heap.size ≤ w30.heap.size) := Lib.hid (B_31.out).size
  have u2_32 := Lib.hid (mv_new HM30.out)
  have B_33 := Lib.hid (bw_tr B_31.out (bel_new w30 (.cells #[.slice a301 n301 b301, .slice a302 n302 b302, .slice a303 n303 b303] 27)))
  clear B_31
  have m_33 := Lib.hid (MV.up m_31.out (bel_new w30 (.cells #[.slice a301 n301 b301, .slice a302 n302 b302, .slice a303 n303 b303] 27)))
  clear m_31
  have next_33 := Lib.hid (MV.up next_31.out (bel_new w30 (.cells #[.slice a301 n301 b301, .slice a302 n302 b302, .slice a303 n303 b303] 27)))
  clear next_31
  have one_33 := Lib.hid (MV.up one_31.out (bel_new w30 (.cells #[.slice a301 n301 b301, .slice a302 n302 b302, .slice a303 n303 b303] 27)))
  clear one_31
  have u1_33 := Lib.hid (MV.up u1_31.out (bel_new w30 (.cells #[.slice a301 n301 b301, .slice a302 n302 b302, .slice a303 n303 b303] 27)))
  clear u1_31
  clear HM30
  obtain ⟨gw34, hu34⟩ : ∃ u, w30.alloc (.cells #[.slice a301 n301 b301, .slice a302 n302 b302, .slice a303 n303 b303] 27) = u := ⟨_, rfl⟩
  rw [hu34] at B_33 m_33 next_33 one_33 u1_33 u2_32
  rw [hu34]
  clear hu34
  obtain ⟨b_u2, hq⟩ : ∃ q, w30.heap.size = q := ⟨_, rfl⟩
  rw [hq] at u2_32
  have N_m_u2 := Lib.hid (Nat.lt_of_lt_of_le N_m_u2.out (Nat.le_of_eq hq))
  have N_next_u2 := Lib.hid (Nat.lt_of_lt_of_le N_next_u2.out (Nat.le_of_eq hq))
  have N_one_u2 := Lib.hid (Nat.lt_of_lt_of_le N_one_u2.out (Nat.le_of_eq hq))
  have N_u1_u2 := Lib.hid (Nat.lt_of_lt_of_le N_u1_u2.out (Nat.le_of_eq hq))
  have LB_u2 := Lib.hid (Nat.le_trans LB_u2.out (Nat.le_of_eq hq))
  rw [hq]
  clear hq
  obtain ⟨⟨c00, c01, c02⟩, d00, d01, d02⟩ := six (one_33.out).1
  have t0 := mv_lt one_33.out
  go_wp2_with fail
  refine (cond_lit _ m3 hh kk n false (noMem, 92) _ one_33.out.2 S3.out BK.out.o2).mono ?_
  rintro e w35 hr35
  obtain ⟨a351, n351, b351, a352, n352, b352, a353, n353, b353, rfl, hm35, LN35, hb35⟩ := hr35.parts
  clear c00 d00 c01 d01 c02 d02 t0
  have B_36 := Lib.hid (bw_tr B_33.out hb35)
  clear B_33
  have m_36 := Lib.hid (MV.up m_33.out hb35)
  clear m_33
  have next_36 := Lib.hid (MV.up next_33.out hb35)
  clear next_33
  have one_36 := Lib.hid (MV.up one_33.out hb35)
  clear one_33
  have u1_36 := Lib.hid (MV.up u1_33.out hb35)
  clear u1_33
  have u2_36 := Lib.hid (MV.up u2_32.out hb35)
  clear u2_32
  have HM35 := Lib.hid hm35; clear hm35 hb35
  go_upto_region 14 with fail
  have N_m_u3 := Lib.hid (mv_lt m_36.out)
  have N_next_u3 := Lib.hid (mv_lt next_36.out)
  have N_one_u3 := Lib.hid (mv_lt one_36.out)
  have N_u1_u3 := Lib.hid (mv_lt u1_36.out)
  have N_u2_u3 := Lib.hid (mv_lt u2_36.out)
  have LB_u3 : Hid (w.heap.size ≤ w35.heap.size) := Lib.hid (B_36.out).size
  have u3_37 := Lib.hid (mv_new HM35.out)
  have B_38 := Lib.hid (bw_tr B_36.out (bel_new w35 (.cells #[.slice a351 n351 b351, .slice a352 n352 b352, .slice a353 n353 b353] 27)))
  clear B_36
  have m_38 := Lib.hid (MV.up m_36.out (bel_new w35 (.cells #[.slice a351 n351 b351, .slice a352 n352 b352, .slice a353 n353 b353] 27)))
  clear m_36
  have next_38 := Lib.hid (MV.up next_36.out (bel_new w35 (.cells #[.slice a351 n351 b351, .slice a352 n352 b352, .slice a353 n353 b353] 27)))
  clear next_36
  have one_38 := Lib.hid (MV.up one_36.out (bel_new w35 (.cells #[.slice a351 n351 b351, .slice a352 n352 b352, .slice a353 n353 b353] 27)))
  clear one_36
  have u1_38 := Lib.hid (MV.up u1_36.out (bel_new w35 (.cells #[.slice a351 n351 b351, .slice a352 n352 b352, .slice a353 n353 b353] 27)))
  clear u1_36
  have u2_38 := Lib.hid (MV.up u2_36.out (bel_new w35 (.cells #[.slice a351 n351 b351, .slice a352 n352 b352, .slice a353 n353 b353] 27)))
  clear u2_36
  clear HM35
  obtain ⟨gw39, hu39⟩ : ∃ u, w35.alloc (.cells #[.slice a351 n351 b351, .slice a352 n352 b352, .slice a353 n353 b353] 27) = u := ⟨_, rfl⟩
  rw [hu39] at B_38 m_38 next_38 one_38 u1_38 u2_38 u3_37
  rw [hu39]
  clear hu39
  obtain ⟨b_u3, hq⟩ : ∃ q, w35.heap.size = q := ⟨_, rfl⟩
  rw [hq] at u3_37
  have N_m_u3 := Lib.hid (Nat.lt_of_lt_of_le N_m_u3.out (Nat.le_of_eq hq))
  have N_next_u3 := Lib.hid (Nat.lt_of_lt_of_le N_next_u3.out (Nat.le_of_eq hq))
  have N_one_u3 := Lib.hid (Nat.lt_of_lt_of_le N_one_u3.out (Nat.le_of_eq hq))
  have N_u1_u3 := Lib.hid (Nat.lt_of_lt_of_le N_u1_u3.out (Nat.le_of_eq hq))
  have N_u2_u3 := Lib.hid (Nat.lt_of_lt_of_le N_u2_u3.out (Nat.le_of_eq hq))
  have LB_u3 := Lib.hid (Nat.le_trans LB_u3.out (Nat.le_of_eq hq))
  rw [hq]
  clear hq
  obtain ⟨⟨c00, c01, c02⟩, d00, d01, d02⟩ := six (one_38.out).1
  have t0 := mv_lt one_38.out
  go_wp2_with fail
  refine (flush_lit _ m3 hh (m4, 0) _ one_38.out.2 S3.out BK.out.f2).mono ?_
  rintro e w40 hr40
  obtain ⟨a401, n401, b401, a402, n402, b402, a403, n403, b403, rfl, hm40, LN40, hb40⟩ := hr40.parts
  clear c00 d00 c01 d01 c02 d02 t0
  have B_41 := Lib.hid (bw_tr B_38.out hb40)
  clear B_38
  have m_41 := Lib.hid (MV.up m_38.out hb40)
  clear m_38
  have next_41 := Lib.hid (MV.up next_38.out hb40)
  clear next_38
  have one_41 := Lib.hid (MV.up one_38.out hb40)
  clear one_38
  have u1_41 := Lib.hid (MV.up u1_38.out hb40)
  clear u1_38
  have u2_41 := Lib.hid (MV.up u2_38.out hb40)
  clear u2_38
  have u3_41 := Lib.hid (MV.up u3_37.out hb40)
  clear u3_37
  have HM40 := Lib.hid hm40; clear hm40 hb40
  go_upto_region 15 with fail
  have N_m_done := Lib.hid (mv_lt m_41.out)
  have N_next_done := Lib.hid (mv_lt next_41.out)
  have N_one_done := Lib.hid (mv_lt one_41.out)
  have N_u1_done := Lib.hid (mv_lt u1_41.out)
  have N_u2_done := Lib.hid (mv_lt u2_41.out)
  have N_u3_done := Lib.hid (mv_lt u3_41.out)
  have LB_done : Hid (w.heap.size ≤ w40.heap.size) := Lib.hid (B_41.out).size
  have done_42 := Lib.hid (mv_new HM40.out)
  have B_43 := Lib.hid (bw_tr B_41.out (bel_new w40 (.cells #[.slice a401 n401 b401, .slice a402 n402 b402, .slice a403 n403 b403] 27)))
  clear B_41
  have m_43 := Lib.hid (MV.up m_41.out (bel_new w40 (.cells #[.slice a401 n401 b401, .slice a402 n402 b402, .slice a403 n403 b403] 27)))
  clear m_41
  have next_43 := Lib.hid (MV.up next_41.out (bel_new w40 (.cells #[.slice a401 n401 b401, .slice a402 n402 b402, .slice a403 n403 b403] 27)))
  clear next_41
  have one_43 := Lib.hid (MV.up one_41.out (bel_new w40 (.cells #[.slice a401 n401 b401, .slice a402 n402 b402, .slice a403 n403 b403] 27)))
  clear one_41
  have u1_43 := Lib.hid (MV.up u1_41.out (bel_new w40 (.cells #[.slice a401 n401 b401, .slice a402 n402 b402, .slice a403 n403 b403] 27)))
  clear u1_41
  have u2_43 := Lib.hid (MV.up u2_41.out (bel_new w40 (.cells #[.slice a401 n401 b401, .slice a402 n402 b402, .slice a403 n403 b403] 27)))
  clear u2_41
  have u3_43 := Lib.hid (MV.up u3_41.out (bel_new w40 (.cells #[.slice a401 n401 b401, .slice a402 n402 b402, .slice a403 n403 b403] 27)))
  clear u3_41
  clear HM40
  obtain ⟨gw44, hu44⟩ : ∃ u, w40.alloc (.cells #[.slice a401 n401 b401, .slice a402 n402 b402, .slice a403 n403 b403] 27) = u := ⟨_, rfl⟩
  rw [hu44] at B_43 m_43 next_43 one_43 u1_43 u2_43 u3_43 done_42
  rw [hu44]
  clear hu44
  obtain ⟨b_done, hq⟩ : ∃ q, w40.heap.size = q := ⟨_, rfl⟩
  rw [hq] at done_42
  have N_m_done := Lib.hid (Nat.lt_of_lt_of_le N_m_done.out (Nat.le_of_eq hq))
  have N_next_done := Lib.hid (Nat.lt_of_lt_of_le N_next_done.out (Nat.le_of_eq hq))
  have N_one_done := Lib.hid (Nat.lt_of_lt_of_le N_one_done.out (Nat.le_of_eq hq))
  have N_u1_done := Lib.hid (Nat.lt_of_lt_of_le N_u1_done.out (Nat.le_of_eq hq))
  have N_u2_done := Lib.hid (Nat.lt_of_lt_of_le N_u2_done.out (Nat.le_of_eq hq))
  have N_u3_done := Lib.hid (Nat.lt_of_lt_of_le N_u3_done.out (Nat.le_of_eq hq))
  have LB_done := Lib.hid (Nat.le_trans LB_done.out (Nat.le_of_eq hq))
  rw [hq]
  clear hq
  obtain ⟨⟨c00, c01, c02⟩, d00, d01, d02⟩ := six (done_42.out).1
  have t0 := mv_lt done_42.out
  go_wp2_with fail
  refine (reserve_lit _ m4 hh kk (wrap32 n) (m5, 0) _ done_42.out.2 S4.out BK.out.r3).mono ?_
  rintro e w45 hr45
  obtain ⟨a451, n451, b451, a452, n452, b452, a453, n453, b453, rfl, hm45, LN45, hb45⟩ := hr45.parts
  clear c00 d00 c01 d01 c02 d02 t0
  have B_46 := Lib.hid (bw_tr B_43.out hb45)
  clear B_43
  have m_46 := Lib.hid (MV.up m_43.out hb45)
  clear m_43
  have next_46 := Lib.hid (MV.up next_43.out hb45)
  clear next_43
  have one_46 := Lib.hid (MV.up one_43.out hb45)
  clear one_43
  have u1_46 := Lib.hid (MV.up u1_43.out hb45)
  clear u1_43
  have u2_46 := Lib.hid (MV.up u2_43.out hb45)
  clear u2_43
  have u3_46 := Lib.hid (MV.up u3_43.out hb45)
  clear u3_43
  have done_46 := Lib.hid (MV.up done_42.out hb45)
  clear done_42
  have HM45 := Lib.hid hm45; clear hm45 hb45
  go_upto_region 16 with fail
  have N_m_last := Lib.hid (mv_lt m_46.out)
  have N_next_last := Lib.hid (mv_lt next_46.out)
  have N_one_last := Lib.hid (mv_lt one_46.out)
  have N_u1_last := Lib.hid (mv_lt u1_46.out)
  have N_u2_last := Lib.hid (mv_lt u2_46.out)
  have N_u3_last := Lib.hid (mv_lt u3_46.out)
  have N_done_last := Lib.hid (mv_lt done_46.out)
  have LB_last : Hid (w.heap.size ≤ w45.heap.size) := Lib.hid (B_46.out).size
  have last_47 := Lib.hid (mv_new HM45.out)
  have B_48 := Lib.hid (bw_tr B_46.out (bel_new w45 (.cells #[.slice a451 n451 b451, .slice a452 n452 b452, .slice a453 n453 b453] 27)))
  clear B_46
  have m_48 := Lib.hid (MV.up m_46.out (bel_new w45 (.cells #[.slice a451 n451 b451, .slice a452 n452 b452, .slice a453 n453 b453] 27)))
  clear m_46
  have next_48 := Lib.hid (MV.up next_46.out (bel_new w45 (.cells #[.slice a451 n451 b451, .slice a452 n452 b452, .slice a453 n453 b453] 27)))
  clear next_46
  have one_48 := Lib.hid (MV.up one_46.out (bel_new w45 (.cells #[.slice a451 n451 b451, .slice a452 n452 b452, .slice a453 n453 b453] 27)))
  clear one_46
  have u1_48 := Lib.hid (MV.up u1_46.out (bel_new w45 (.cells #[.slice a451 n451 b451, .slice a452 n452 b452, .slice a453 n453 b453] 27)))
  clear u1_46
  have u2_48 := Lib.hid (MV.up u2_46.out (bel_new w45 (.cells #[.slice a451 n451 b451, .slice a452 n452 b452, .slice a453 n453 b453] 27)))
  clear u2_46
  have u3_48 := Lib.hid (MV.up u3_46.out (bel_new w45 (.cells #[.slice a451 n451 b451, .slice a452 n452 b452, .slice a453 n453 b453] 27)))
  clear u3_46
  have done_48 := Lib.hid (MV.up done_46.out (bel_new w45 (.cells #[.slice a451 n451 b451, .slice a452 n452 b452, .slice a453 n453 b453] 27)))
  clear done_46
  clear HM45
  obtain ⟨gw49, hu49⟩ : ∃ u, w45.alloc (.cells #[.slice a451 n451 b451, .slice a452 n452 b452, .slice a453 n453 b453] 27) = u := ⟨_, rfl⟩
  rw [hu49] at B_48 m_48 next_48 one_48 u1_48 u2_48 u3_48 done_48 last_47
  rw [hu49]
  clear hu49
  obtain ⟨b_last, hq⟩ : ∃ q, w45.heap.size = q := ⟨_, rfl⟩
  rw [hq] at last_47
  have N_m_last := Lib.hid (Nat.lt_of_lt_of_le N_m_last.out (Nat.le_of_eq hq))
  have N_next_last := Lib.hid (Nat.lt_of_lt_of_le N_next_last.out (Nat.le_of_eq hq))
  have N_one_last := Lib.hid (Nat.lt_of_lt_of_le N_one_last.out (Nat.le_of_eq hq))
  have N_u1_last := Lib.hid (Nat.lt_of_lt_of_le N_u1_last.out (Nat.le_of_eq hq))
  have N_u2_last := Lib.hid (Nat.lt_of_lt_of_le N_u2_last.out (Nat.le_of_eq hq))
  have N_u3_last := Lib.hid (Nat.lt_of_lt_of_le N_u3_last.out (Nat.le_of_eq hq))
  have N_done_last := Lib.hid (Nat.lt_of_lt_of_le N_done_last.out (Nat.le_of_eq hq))
  have LB_last := Lib.hid (Nat.le_trans LB_last.out (Nat.le_of_eq hq))
  rw [hq]
  clear hq
  try simp only [List.append_eq, List.cons_append, List.nil_append] at *
  go_wp2_with (go_at_call 15; refine (wrap_any _ _).mono ?_; rintro e w' ⟨rfl, rfl⟩)
  go_ret
  exact ⟨ret1 (rbool rfl), B_48.out⟩
end Go.Proofs.Ytkhobelceghgfaa
