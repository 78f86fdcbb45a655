/-
  The contract of headstocklaw11.awake (printed by gen_memawake.py).
-/
import Derived.Test.YtkhobelceghgfaaMemLaw
namespace Go.Proofs.Ytkhobelceghgfaa
open Go.RowKit
set_option maxHeartbeats 8000000 in
set_option maxRecDepth 100000 in
theorem awake11 (w : World) : Calls Try.prog 10 #[] w fun e w' => e = .returned (.bool true) ∧ Below w.heap.size w w' := by
  have HB : Hid (Below w.heap.size w w) := Lib.hid (Below.refl _ _)
  go_enter Try.func10, Try.ntmps10
  go_wp2_with fail
  refine (new_lit 2 2 ((⟨[0, 0], [[], []], [-1, -1]⟩ : Mem), 0) _ (by decide +kernel)).mono ?_
  rintro e w1 hr1
  obtain ⟨a11, n11, b11, a12, n12, b12, a13, n13, b13, rfl, hm1, LN1, hb1⟩ := hr1.parts
  have B_2 := Lib.hid (bw_tr HB.out hb1)
  clear HB
  have HM1 := Lib.hid hm1; clear hm1 hb1
  go_wp2_with fail
  have LB_m : Hid (w.heap.size ≤ w1.heap.size) := Lib.hid (B_2.out).size
  have m_3 := Lib.hid (mv_new HM1.out)
  have B_4 := Lib.hid (bw_tr B_2.out (bel_new w1 (.cells #[.slice a11 n11 b11, .slice a12 n12 b12, .slice a13 n13 b13] 27)))
  clear B_2
  clear HM1
  obtain ⟨u5, hu5⟩ : ∃ u, w1.alloc (.cells #[.slice a11 n11 b11, .slice a12 n12 b12, .slice a13 n13 b13] 27) = u := ⟨_, rfl⟩
  rw [hu5] at B_4 m_3
  rw [hu5]
  clear hu5
  obtain ⟨b_m, hq⟩ : ∃ q, w1.heap.size = q := ⟨_, rfl⟩
  rw [hq] at m_3 LB_m
  rw [hq]
  clear hq
  obtain ⟨⟨c00, c01, c02⟩, d00, d01, d02⟩ := six (m_3.out).1
  have t0 := mv_lt m_3.out
  go_wp2_with fail
  refine (store_lit (.agg #[.slice a11 n11 b11, .slice a12 n12 b12, .slice a13 n13 b13]) (⟨[0, 0], [[], []], [-1, -1]⟩ : Mem) 0 0 1 ((⟨[0, 0], [[(0, 1)], []], [-1, -1]⟩ : Mem), 0) _ m_3.out.2 (by constructor <;> simp) (by decide +kernel)).mono ?_
  rintro e w6 hr6
  obtain ⟨a61, n61, b61, a62, n62, b62, a63, n63, b63, rfl, hm6, LN6, hb6⟩ := hr6.parts
  clear c00 d00 c01 d01 c02 d02 t0
  have B_7 := Lib.hid (bw_tr B_4.out hb6)
  clear B_4
  have m_7 := Lib.hid (MV.up m_3.out hb6)
  clear m_3
  have HM6 := Lib.hid hm6; clear hm6 hb6
  obtain ⟨⟨c00, c01, c02⟩, d00, d01, d02⟩ := six (m_7.out).1
  have t0 := mv_lt m_7.out
  go_wp2_with fail
  clear c00 d00 c01 d01 c02 d02 t0
  have B_8 := Lib.hid (bel_set3 (x := .slice a61 n61 b61) (y := .slice a62 n62 b62) (z := .slice a63 n63 b63) B_7.out (LB_m.out))
  have m_9 := Lib.hid (mv_set m_7.out HM6.out)
  clear B_7
  clear m_7
  clear HM6
  obtain ⟨u10, hu10⟩ : ∃ u, ((w6.setCell ⟨b_m, 0, none⟩ (.slice a61 n61 b61)).setCell ⟨b_m, 1, none⟩ (.slice a62 n62 b62)).setCell ⟨b_m, 2, none⟩ (.slice a63 n63 b63) = u := ⟨_, rfl⟩
  rw [hu10] at B_8 m_9
  rw [hu10]
  clear hu10
  obtain ⟨⟨c00, c01, c02⟩, d00, d01, d02⟩ := six (m_9.out).1
  have t0 := mv_lt m_9.out
  go_wp2_with fail
  refine (store_lit (.agg #[.slice a61 n61 b61, .slice a62 n62 b62, .slice a63 n63 b63]) (⟨[0, 0], [[(0, 1)], []], [-1, -1]⟩ : Mem) 0 1 1 ((⟨[0, 0], [[(0, 1), (1, 1)], []], [-1, -1]⟩ : Mem), 0) _ m_9.out.2 (by constructor <;> simp) (by decide +kernel)).mono ?_
  rintro e w11 hr11
  obtain ⟨a111, n111, b111, a112, n112, b112, a113, n113, b113, rfl, hm11, LN11, hb11⟩ := hr11.parts
  clear c00 d00 c01 d01 c02 d02 t0
  have B_12 := Lib.hid (bw_tr B_8.out hb11)
  clear B_8
  have m_12 := Lib.hid (MV.up m_9.out hb11)
  clear m_9
  have HM11 := Lib.hid hm11; clear hm11 hb11
  obtain ⟨⟨c00, c01, c02⟩, d00, d01, d02⟩ := six (m_12.out).1
  have t0 := mv_lt m_12.out
  go_wp2_with fail
  clear c00 d00 c01 d01 c02 d02 t0
  have B_13 := Lib.hid (bel_set3 (x := .slice a111 n111 b111) (y := .slice a112 n112 b112) (z := .slice a113 n113 b113) B_12.out (LB_m.out))
  have m_14 := Lib.hid (mv_set m_12.out HM11.out)
  clear B_12
  clear m_12
  clear HM11
  obtain ⟨u15, hu15⟩ : ∃ u, ((w11.setCell ⟨b_m, 0, none⟩ (.slice a111 n111 b111)).setCell ⟨b_m, 1, none⟩ (.slice a112 n112 b112)).setCell ⟨b_m, 2, none⟩ (.slice a113 n113 b113) = u := ⟨_, rfl⟩
  rw [hu15] at B_13 m_14
  rw [hu15]
  clear hu15
  obtain ⟨⟨c00, c01, c02⟩, d00, d01, d02⟩ := six (m_14.out).1
  have t0 := mv_lt m_14.out
  go_wp2_with fail
  refine (reserve_lit (.agg #[.slice a111 n111 b111, .slice a112 n112 b112, .slice a113 n113 b113]) (⟨[0, 0], [[(0, 1), (1, 1)], []], [-1, -1]⟩ : Mem) 0 0 0 (noMem, 92) _ m_14.out.2 (by constructor <;> simp) (by decide +kernel)).mono ?_
  rintro e w16 hr16
  obtain ⟨a161, n161, b161, a162, n162, b162, a163, n163, b163, rfl, hm16, LN16, hb16⟩ := hr16.parts
  clear c00 d00 c01 d01 c02 d02 t0
  have B_17 := Lib.hid (bw_tr B_13.out hb16)
  clear B_13
  have m_17 := Lib.hid (MV.up m_14.out hb16)
  clear m_14
  have HM16 := Lib.hid hm16; clear hm16 hb16
  obtain rfl : n161 = 0 := LN16.out.1
  obtain ⟨⟨c00, c01, c02⟩, d00, d01, d02⟩ := six (m_17.out).1
  have t0 := mv_lt m_17.out
  go_wp2_with fail
  clear c00 d00 c01 d01 c02 d02 t0
  have N_m_busy := Lib.hid (mv_lt m_17.out)
  have LB_busy : Hid (w.heap.size ≤ w16.heap.size) := Lib.hid (B_17.out).size
  have busy_18 := Lib.hid (mv_new HM16.out)
  have B_19 := Lib.hid (bw_tr B_17.out (bel_new w16 (.cells #[.slice a161 0 b161, .slice a162 n162 b162, .slice a163 n163 b163] 27)))
  clear B_17
  have m_19 := Lib.hid (MV.up m_17.out (bel_new w16 (.cells #[.slice a161 0 b161, .slice a162 n162 b162, .slice a163 n163 b163] 27)))
  clear m_17
  clear HM16
  obtain ⟨u20, hu20⟩ : ∃ u, w16.alloc (.cells #[.slice a161 0 b161, .slice a162 n162 b162, .slice a163 n163 b163] 27) = u := ⟨_, rfl⟩
  rw [hu20] at B_19 m_19 busy_18
  rw [hu20]
  clear hu20
  obtain ⟨b_busy, hq⟩ : ∃ q, w16.heap.size = q := ⟨_, rfl⟩
  rw [hq] at busy_18 N_m_busy LB_busy
  rw [hq]
  clear hq
  obtain ⟨⟨c00, c01, c02⟩, d00, d01, d02⟩ := six (m_19.out).1
  have t0 := mv_lt m_19.out
  go_wp2_with fail
  refine (drain_lit (.agg #[.slice a111 n111 b111, .slice a112 n112 b112, .slice a113 n113 b113]) (⟨[0, 0], [[(0, 1), (1, 1)], []], [-1, -1]⟩ : Mem) 0 1 ((⟨[0, 1], [[(0, 1)], []], [-1, -1]⟩ : Mem), 0) _ m_19.out.2 (by constructor <;> simp) (by decide +kernel)).mono ?_
  rintro e w21 hr21
  obtain ⟨a211, n211, b211, a212, n212, b212, a213, n213, b213, rfl, hm21, LN21, hb21⟩ := hr21.parts
  clear c00 d00 c01 d01 c02 d02 t0
  have B_22 := Lib.hid (bw_tr B_19.out hb21)
  clear B_19
  have m_22 := Lib.hid (MV.up m_19.out hb21)
  clear m_19
  have busy_22 := Lib.hid (MV.up busy_18.out hb21)
  clear busy_18
  have HM21 := Lib.hid hm21; clear hm21 hb21
  obtain rfl : n211 = 2 := by have := LN21.out.1; simpa using this
  obtain ⟨⟨c00, c01, c02⟩, d00, d01, d02⟩ := six (m_22.out).1
  have t0 := mv_lt m_22.out
  go_wp2_with fail
  clear c00 d00 c01 d01 c02 d02 t0
  have B_23 := Lib.hid (bel_set3 (x := .slice a211 2 b211) (y := .slice a212 n212 b212) (z := .slice a213 n213 b213) B_22.out (LB_m.out))
  have m_24 := Lib.hid (mv_set m_22.out HM21.out)
  have busy_25 := Lib.hid (mv_other (.slice a211 2 b211) (.slice a212 n212 b212) (.slice a213 n213 b213) busy_22.out m_22.out (Ne.symm (Nat.ne_of_lt N_m_busy.out)))
  clear B_22
  clear m_22
  clear busy_22
  clear HM21
  obtain ⟨u26, hu26⟩ : ∃ u, ((w21.setCell ⟨b_m, 0, none⟩ (.slice a211 2 b211)).setCell ⟨b_m, 1, none⟩ (.slice a212 n212 b212)).setCell ⟨b_m, 2, none⟩ (.slice a213 n213 b213) = u := ⟨_, rfl⟩
  rw [hu26] at B_23 m_24 busy_25
  rw [hu26]
  clear hu26
  obtain ⟨⟨c00, c01, c02⟩, d00, d01, d02⟩ := six (m_24.out).1
  have t0 := mv_lt m_24.out
  go_wp2_with fail
  refine (load_any (.agg #[.slice a211 2 b211, .slice a212 n212 b212, .slice a213 n213 b213]) (⟨[0, 1], [[(0, 1)], []], [-1, -1]⟩ : Mem) 1 0 (0, 0) _ m_24.out.2 (by constructor <;> simp) (by decide +kernel)).mono ?_
  rintro e w27 ⟨rfl, hb27⟩
  clear c00 d00 c01 d01 c02 d02 t0
  have B_28 := Lib.hid (bw_tr B_23.out hb27)
  clear B_23
  have m_28 := Lib.hid (MV.up m_24.out hb27)
  clear m_24
  have busy_28 := Lib.hid (MV.up busy_25.out hb27)
  clear busy_25
  clear hb27
  obtain ⟨⟨c00, c01, c02⟩, d00, d01, d02⟩ := six (m_28.out).1
  have t0 := mv_lt m_28.out
  go_wp2_with fail
  refine (load_any (.agg #[.slice a211 2 b211, .slice a212 n212 b212, .slice a213 n213 b213]) (⟨[0, 1], [[(0, 1)], []], [-1, -1]⟩ : Mem) 1 1 (1, 0) _ m_28.out.2 (by constructor <;> simp) (by decide +kernel)).mono ?_
  rintro e w29 ⟨rfl, hb29⟩
  clear c00 d00 c01 d01 c02 d02 t0
  have B_30 := Lib.hid (bw_tr B_28.out hb29)
  clear B_28
  have m_30 := Lib.hid (MV.up m_28.out hb29)
  clear m_28
  have busy_30 := Lib.hid (MV.up busy_28.out hb29)
  clear busy_28
  clear hb29
  obtain ⟨⟨c00, c01, c02⟩, d00, d01, d02⟩ := six (m_30.out).1
  have t0 := mv_lt m_30.out
  go_wp2_with fail
  refine (load_any (.agg #[.slice a211 2 b211, .slice a212 n212 b212, .slice a213 n213 b213]) (⟨[0, 1], [[(0, 1)], []], [-1, -1]⟩ : Mem) 0 0 (1, 0) _ m_30.out.2 (by constructor <;> simp) (by decide +kernel)).mono ?_
  rintro e w31 ⟨rfl, hb31⟩
  clear c00 d00 c01 d01 c02 d02 t0
  have B_32 := Lib.hid (bw_tr B_30.out hb31)
  clear B_30
  have m_32 := Lib.hid (MV.up m_30.out hb31)
  clear m_30
  have busy_32 := Lib.hid (MV.up busy_30.out hb31)
  clear busy_30
  clear hb31
  obtain ⟨⟨c00, c01, c02⟩, d00, d01, d02⟩ := six (m_32.out).1
  have t0 := mv_lt m_32.out
  go_wp2_with fail
  refine (reserve_lit (.agg #[.slice a211 2 b211, .slice a212 n212 b212, .slice a213 n213 b213]) (⟨[0, 1], [[(0, 1)], []], [-1, -1]⟩ : Mem) 1 1 1 ((⟨[0, 1], [[(0, 1)], []], [-1, 1]⟩ : Mem), 0) _ m_32.out.2 (by constructor <;> simp) (by decide +kernel)).mono ?_
  rintro e w33 hr33
  obtain ⟨a331, n331, b331, a332, n332, b332, a333, n333, b333, rfl, hm33, LN33, hb33⟩ := hr33.parts
  clear c00 d00 c01 d01 c02 d02 t0
  have B_34 := Lib.hid (bw_tr B_32.out hb33)
  clear B_32
  have m_34 := Lib.hid (MV.up m_32.out hb33)
  clear m_32
  have busy_34 := Lib.hid (MV.up busy_32.out hb33)
  clear busy_32
  have HM33 := Lib.hid hm33; clear hm33 hb33
  go_wp2_with fail
  have N_m_k := Lib.hid (mv_lt m_34.out)
  have N_busy_k := Lib.hid (mv_lt busy_34.out)
  have LB_k : Hid (w.heap.size ≤ w33.heap.size) := Lib.hid (B_34.out).size
  have k_35 := Lib.hid (mv_new HM33.out)
  have B_36 := Lib.hid (bw_tr B_34.out (bel_new w33 (.cells #[.slice a331 n331 b331, .slice a332 n332 b332, .slice a333 n333 b333] 27)))
  clear B_34
  have m_36 := Lib.hid (MV.up m_34.out (bel_new w33 (.cells #[.slice a331 n331 b331, .slice a332 n332 b332, .slice a333 n333 b333] 27)))
  clear m_34
  have busy_36 := Lib.hid (MV.up busy_34.out (bel_new w33 (.cells #[.slice a331 n331 b331, .slice a332 n332 b332, .slice a333 n333 b333] 27)))
  clear busy_34
  clear HM33
  obtain ⟨u37, hu37⟩ : ∃ u, w33.alloc (.cells #[.slice a331 n331 b331, .slice a332 n332 b332, .slice a333 n333 b333] 27) = u := ⟨_, rfl⟩
  rw [hu37] at B_36 m_36 busy_36 k_35
  rw [hu37]
  clear hu37
  obtain ⟨b_k, hq⟩ : ∃ q, w33.heap.size = q := ⟨_, rfl⟩
  rw [hq] at k_35 N_m_k N_busy_k LB_k
  rw [hq]
  clear hq
  obtain ⟨⟨c00, c01, c02⟩, d00, d01, d02⟩ := six (k_35.out).1
  have t0 := mv_lt k_35.out
  go_wp2_with fail
  refine (cond_lit (.agg #[.slice a331 n331 b331, .slice a332 n332 b332, .slice a333 n333 b333]) (⟨[0, 1], [[(0, 1)], []], [-1, 1]⟩ : Mem) 1 1 5 true ((⟨[0, 5], [[(0, 1)], []], [-1, -1]⟩ : Mem), 0) _ k_35.out.2 (by constructor <;> simp) (by decide +kernel)).mono ?_
  rintro e w38 hr38
  obtain ⟨a381, n381, b381, a382, n382, b382, a383, n383, b383, rfl, hm38, LN38, hb38⟩ := hr38.parts
  clear c00 d00 c01 d01 c02 d02 t0
  have B_39 := Lib.hid (bw_tr B_36.out hb38)
  clear B_36
  have m_39 := Lib.hid (MV.up m_36.out hb38)
  clear m_36
  have busy_39 := Lib.hid (MV.up busy_36.out hb38)
  clear busy_36
  have k_39 := Lib.hid (MV.up k_35.out hb38)
  clear k_35
  have HM38 := Lib.hid hm38; clear hm38 hb38
  try simp only [List.append_eq, List.cons_append, List.nil_append] at *
  obtain ⟨⟨c00, c01, c02⟩, d00, d01, d02⟩ := six (m_39.out).1
  have t0 := mv_lt m_39.out
  obtain ⟨⟨c10, c11, c12⟩, d10, d11, d12⟩ := six (busy_39.out).1
  have t1 := mv_lt busy_39.out
  obtain ⟨⟨c20, c21, c22⟩, d20, d21, d22⟩ := six (k_39.out).1
  have t2 := mv_lt k_39.out
  go_wp2_with fail
  clear c00 d00 c01 d01 c02 d02 c10 d10 c11 d11 c12 d12 c20 d20 c21 d21 c22 d22 t0 t1 t2
  have N_m_c := Lib.hid (mv_lt m_39.out)
  have N_busy_c := Lib.hid (mv_lt busy_39.out)
  have N_k_c := Lib.hid (mv_lt k_39.out)
  have LB_c : Hid (w.heap.size ≤ w38.heap.size) := Lib.hid (B_39.out).size
  have c_40 := Lib.hid (mv_new HM38.out)
  have B_41 := Lib.hid (bw_tr B_39.out (bel_new w38 (.cells #[.slice a381 n381 b381, .slice a382 n382 b382, .slice a383 n383 b383] 27)))
  clear B_39
  have m_41 := Lib.hid (MV.up m_39.out (bel_new w38 (.cells #[.slice a381 n381 b381, .slice a382 n382 b382, .slice a383 n383 b383] 27)))
  clear m_39
  have busy_41 := Lib.hid (MV.up busy_39.out (bel_new w38 (.cells #[.slice a381 n381 b381, .slice a382 n382 b382, .slice a383 n383 b383] 27)))
  clear busy_39
  have k_41 := Lib.hid (MV.up k_39.out (bel_new w38 (.cells #[.slice a381 n381 b381, .slice a382 n382 b382, .slice a383 n383 b383] 27)))
  clear k_39
  clear HM38
  obtain ⟨u42, hu42⟩ : ∃ u, w38.alloc (.cells #[.slice a381 n381 b381, .slice a382 n382 b382, .slice a383 n383 b383] 27) = u := ⟨_, rfl⟩
  rw [hu42] at B_41 m_41 busy_41 k_41 c_40
  rw [hu42]
  clear hu42
  obtain ⟨b_c, hq⟩ : ∃ q, w38.heap.size = q := ⟨_, rfl⟩
  rw [hq] at c_40 N_m_c N_busy_c N_k_c LB_c
  rw [hq]
  clear hq
  refine (samem_lit (.agg #[.slice a211 2 b211, .slice a212 n212 b212, .slice a213 n213 b213]) (.agg #[.slice a211 2 b211, .slice a212 n212 b212, .slice a213 n213 b213]) (⟨[0, 1], [[(0, 1)], []], [-1, -1]⟩ : Mem) (⟨[0, 1], [[(0, 1)], []], [-1, -1]⟩ : Mem) true _ m_41.out.2 m_41.out.2 (by decide +kernel)).mono ?_
  rintro e w43 ⟨rfl, hb43⟩
  have B_44 := Lib.hid (bw_tr B_41.out hb43)
  clear B_41
  have m_44 := Lib.hid (MV.up m_41.out hb43)
  clear m_41
  have busy_44 := Lib.hid (MV.up busy_41.out hb43)
  clear busy_41
  have k_44 := Lib.hid (MV.up k_41.out hb43)
  clear k_41
  have c_44 := Lib.hid (MV.up c_40.out hb43)
  clear c_40
  clear hb43
  obtain ⟨⟨c00, c01, c02⟩, d00, d01, d02⟩ := six (m_44.out).1
  have t0 := mv_lt m_44.out
  obtain ⟨⟨c10, c11, c12⟩, d10, d11, d12⟩ := six (k_44.out).1
  have t1 := mv_lt k_44.out
  go_wp2_with fail
  refine (samem_lit (.agg #[.slice a211 2 b211, .slice a212 n212 b212, .slice a213 n213 b213]) (.agg #[.slice a331 n331 b331, .slice a332 n332 b332, .slice a333 n333 b333]) (⟨[0, 1], [[(0, 1)], []], [-1, -1]⟩ : Mem) (⟨[0, 1], [[(0, 1)], []], [-1, 1]⟩ : Mem) false _ m_44.out.2 k_44.out.2 (by decide +kernel)).mono ?_
  rintro e w45 ⟨rfl, hb45⟩
  clear c00 d00 c01 d01 c02 d02 c10 d10 c11 d11 c12 d12 t0 t1
  have B_46 := Lib.hid (bw_tr B_44.out hb45)
  clear B_44
  have m_46 := Lib.hid (MV.up m_44.out hb45)
  clear m_44
  have busy_46 := Lib.hid (MV.up busy_44.out hb45)
  clear busy_44
  have k_46 := Lib.hid (MV.up k_44.out hb45)
  clear k_44
  have c_46 := Lib.hid (MV.up c_44.out hb45)
  clear c_44
  clear hb45
  go_wp2_with fail
  go_ret
  exact ⟨rfl, B_46.out⟩
end Go.Proofs.Ytkhobelceghgfaa
