/-
  What the walks of this statement lean on (MacTurns): shown.
-/
import Derived.Test.YtdobddiibgfeaaaGreatZa
import Derived.Test.YtdobddiibgfeaaaGreatZz
set_option linter.unusedVariables false
set_option linter.unusedSimpArgs false
namespace Go.Proofs.YtdobddiibgfeaaaGreat
section
open Go.RowKit
set_option maxRecDepth 100000
theorem max_one {n : Nat} (h : 1 ≤ n) : max (n : Int) 1 = n := by omega
set_option maxHeartbeats 16000000 in
theorem walkTurns (v0 : Value) (l0 : List (Int × Int × Int × Int)) (a1 b1 c1 : Int) (v2 : Value) (l2 : List (Int × Int × Int)) (a3 a4 : Int) (w : World) (g0 : ArgS 4 c4 w v0 l0) (u0 : ∀ r ∈ l0, ok4 r) (i1 : I64 a1) (i2 : I64 b1) (i3 : I64 c1) (g2 : ArgS 3 c3 w v2 l2) (u2 : ∀ r ∈ l2, ok3 r) (i4 : I64 a3) (i5 : I64 a4) :
 Calls Tryz.prog 5 #[v0, .agg #[.int .i64 a1, .int .i64 b1, .int .i64 c1], v2, .int .i64 a3, .int .i64 a4] w fun e w' => e = .returned (.bool true) ∧ Below w.heap.size w w' := by
 have G0 := zhd g0; have U0 := zhd u0; have G2 := zhd g2; have U2 := zhd u2
 obtain ⟨va, vc, rfl, _, _, _⟩ := g0
 obtain ⟨ta, tc, rfl, _, _, _⟩ := g2
 clear u0 u2
 obtain ⟨w1, hw1, hx1, hb1, _⟩ := zbY w (.cells #[.int .i64 a1, .int .i64 b1, .int .i64 c1] 23)
 have X1 := zhd hx1; have B1 := zhd hb1
 clear hx1 hb1
 go_enter Tryz.func5, Tryz.ntmps5
 go_upto_region 1 with (fail)
 rw [← hw1]; clear hw1
 go_upto_region 2 with (go_at_call 10; ((with_reducible refine (awake15 _).mono ?_); rintro e w2 ⟨rfl, hb2⟩; have B2' := zhd hb2; clear hb2))
 obtain ⟨t0, t1, t2⟩ := zah (zaf B2'.out X1.out)
 have B2 := zhd (zae B1.out B2'.out)
 have G0' := zhd (G0.out.below B2.out); have G2' := zhd (G2.out.below B2.out)
 have GM0 : Hid (GoodM (zhn l0 a1 b1 c1) (zc3 a1) 0) := zhd (zkm l0 a1 b1 c1)
 have hsl := zhr l2
 clear X1 B1 B2' G0 G2
 go_upto_region 3 with (first | (go_at_call 15; ((with_reducible refine (zk2 G0'.out U0 i1 i2 i3).mono ?_); rintro e w3 ⟨c3, rfl, n3, m3, b3⟩)) | (go_at_call 16; ((with_reducible refine (zjM (G2'.out.below b3.out) U2).mono ?_); rintro e w4 ⟨sa, sc, rfl, hs4, b4⟩; have HR := zhd (zgH (m3.out.below b4.out) hs4.out GM0 (by omega)))) | (go_at_call 22; ((with_reducible refine HR.out.mono ?_); rintro e w5 ⟨c5, rfl, n5, m5, b5⟩)) | (refine wpList_store_row rfl 37 _ _ rfl (w5.heap.size) c5 rfl rfl 37 nil9 (zat w5 _) n5.info (by rw [zb2.size, n5.size]) n5.one ?_))
 obtain ⟨w6, hw6⟩ : ∃ x, x = (w5.alloc (.cells nil9 37)).setRow w5.heap.size c5 := ⟨_, rfl⟩
 have GM : Hid (GoodM (runR (zhn l0 a1 b1 c1) (zcn l2)).1 (zc3 a1) (0 + (zcn l2).length)) := zhd (zfv (zcn l2) GM0.out)
 have SM : Hid (StaM (runR (zhn l0 a1 b1 c1) (zcn l2)).1) := zhd (sta_run _ (sta_start l0 a1 b1 c1))
 have hb6 : Below w2.heap.size w2 w6 := by rw [hw6]; exact zae (zae (zae b3.out b4.out) b5.out) (zeq w5 c5)
 have V6 : Hid (MVar w6 w5.heap.size c5 (runR (zhn l0 a1 b1 c1) (zcn l2)).1) := zhd (by rw [hw6]; exact zew w5 n5 m5.out)
 have B6 := zhd (zae B2.out hb6)
 rw [← hw6]
 obtain ⟨NN, hNN⟩ : ∃ x, x = 0 + (zcn l2).length := ⟨_, rfl⟩
 have hNs : NN ≤ 120 := by omega
 rw [← hNN] at GM
 clear hw6 b3 m3 b4 hs4 b5 m5 HR hb6 t0 t1 t2 B2 G0' G2' U0 U2 GM0 hNN
 generalize w5.heap.size = bm at *
 obtain ⟨M, hM⟩ : ∃ x, x = (runR (zhn l0 a1 b1 c1) (zcn l2)).1 := ⟨_, rfl⟩
 rw [← hM] at V6 GM SM
 clear hM hsl
 have hH := zgv a1
 obtain ⟨H, hHe⟩ : ∃ x, x = zc3 a1 := ⟨_, rfl⟩
 rw [← hHe] at GM hH
 clear hHe
 have hHM : M.harts.length = H := GM.out.harts
 obtain ⟨wa, ha, ea, qa, ra, pa, da, la, ta, wc, hc, ec, qc, rc, pc, dc, lc, tc, C6⟩ := V6.out.open
 have hce := C6.eq
 rw [hHM] at hce
 have hc1 : c5[1]? = some (.slice ha H hc) := by rw [hce]; rfl
 have q1 : w6.cell? ⟨bm, 1, none⟩ = some (.slice ha H hc) := zad V6.out.at_ hc1
 have hmx := max_one hH.1
 clear hce C6
 go_upto_region 4 with (fail)
 try rw [hmx]
 clear q1
 have hHi : 0 < (H : Int) := by omega
 have pi := za5 a3 H hHi; have pj := za5 a4 H hHi
 obtain ⟨i, hi⟩ : ∃ x, zax a3 H = x := ⟨_, rfl⟩
 obtain ⟨j, hj⟩ : ∃ x, zax a4 H = x := ⟨_, rfl⟩
 rw [hi] at pi; rw [hj] at pj
 have HI := zhd hi; have HJ := zhd hj
 clear hi hj
 go_upto_region 5 with (first | (go_at_call 23; ((with_reducible refine (zbK a3 (H : Int) i _ i4 (by omega) HI).mono ?_); rintro e w' ⟨rfl, rfl⟩)) | (refine wpList_store_row rfl 28 _ _ rfl w6.heap.size #[.int .i64 1, .int .i64 i, .int .i64 0, .int .i64 0] rfl rfl 28 #[.int .i64 0, .int .i64 0, .int .i64 0, .int .i64 0] (zat w6 _) infoC4 rfl (by simp [Value.oneCell']) ?_))
 obtain ⟨w7, hw7⟩ : ∃ x, x = (w6.alloc (.cells #[.int .i64 0, .int .i64 0, .int .i64 0, .int .i64 0] 28)).setRow w6.heap.size #[.int .i64 1, .int .i64 i, .int .i64 0, .int .i64 0] := ⟨_, rfl⟩
 have hb7 : Below w6.heap.size w6 w7 := by rw [hw7]; exact below_setRow (zan w6 _) (Nat.le_refl _) _
 have X7 : Hid (w7.heap[w6.heap.size]? = some (.cells #[.int .i64 1, .int .i64 i, .int .i64 0, .int .i64 0] 28 (0, 0))) := zhd (by rw [hw7]; exact setRow_heap _ _ _ _ _ _ (zat w6 _))
 have V7 := zhd (V6.out.below hb7); have B7 := zhd (zae B6.out hb7)
 rw [← hw7]
 clear hw7 hb7 V6 B6
 generalize w6.heap.size = ba at *
 go_upto_region 6 with (first | (go_at_call 23; ((with_reducible refine (zbK a4 (H : Int) j _ i5 (by omega) HJ).mono ?_); rintro e w' ⟨rfl, rfl⟩)) | (refine wpList_store_row rfl 28 _ _ rfl w7.heap.size #[.int .i64 1, .int .i64 j, .int .i64 0, .int .i64 0] rfl rfl 28 #[.int .i64 0, .int .i64 0, .int .i64 0, .int .i64 0] (zat w7 _) infoC4 rfl (by simp [Value.oneCell']) ?_))
 obtain ⟨w8, hw8⟩ : ∃ x, x = (w7.alloc (.cells #[.int .i64 0, .int .i64 0, .int .i64 0, .int .i64 0] 28)).setRow w7.heap.size #[.int .i64 1, .int .i64 j, .int .i64 0, .int .i64 0] := ⟨_, rfl⟩
 have hb8 : Below w7.heap.size w7 w8 := by rw [hw8]; exact below_setRow (zan w7 _) (Nat.le_refl _) _
 have X8 : Hid (w8.heap[w7.heap.size]? = some (.cells #[.int .i64 1, .int .i64 j, .int .i64 0, .int .i64 0] 28 (0, 0))) := zhd (by rw [hw8]; exact setRow_heap _ _ _ _ _ _ (zat w7 _))
 have V8 := zhd (V7.out.below hb8); have Y8 := zhd (zaf hb8 X7.out); have B8 := zhd (zae B7.out hb8)
 rw [← hw8]
 clear hw8 hb8 V7 B7 X7
 generalize w7.heap.size = bb at *
 have HDi := zhd (do_tup 1 i 0 0 V8.out.mac GM (by omega))
 have A10 := zhd V8.out.at_
 obtain ⟨t0, t1, t2, t3⟩ := zaE Y8.out
 have hl8 := zao Y8.out
 go_upto_region 7 with (first | (refine wpList_load_row rfl 37 _ rfl (bm) rfl 37 c5 (0, 0) _ A10.out Tryz.underlying37 rfl n5.info ?_) | (go_at_call 17; ((with_reducible refine HDi.out.mono ?_); rintro e w9 ⟨c9, rfl, n9, m9, b9⟩)) | (refine wpList_store_row rfl 37 _ _ rfl (w9.heap.size) c9 rfl rfl 37 nil9 (zat w9 _) n9.info (by rw [zb2.size, n9.size]) n9.one ?_))
 obtain ⟨w10, hw10⟩ : ∃ x, x = (w9.alloc (.cells nil9 37)).setRow w9.heap.size c9 := ⟨_, rfl⟩
 have hb10 : Below w8.heap.size w8 w10 := by rw [hw10]; exact zae b9.out (zeq w9 c9)
 have V10 := zhd (V8.out.below hb10); have X10 := zhd (zaf hb10 X8.out); have Y10 := zhd (zaf hb10 Y8.out); have B10 := zhd (zae B8.out hb10)
 have P10 : Hid (MVar w10 w9.heap.size c9 (doR M ⟨1, i, 0, 0⟩).1) := zhd (by rw [hw10]; exact zew w9 n9 m9.out)
 rw [← hw10]
 clear hw10 hb10 V8 X8 Y8 B8 b9 m9 A10 t0 t1 t2 t3 hl8 HDi
 generalize w9.heap.size = bp at *
 have HDj := zhd (do_tup 1 j 0 0 V10.out.mac GM (by omega))
 have A12 := zhd V10.out.at_
 obtain ⟨t0, t1, t2, t3⟩ := zaE X10.out
 have hl8 := zao X10.out
 go_upto_region 8 with (first | (refine wpList_load_row rfl 37 _ rfl (bm) rfl 37 c5 (0, 0) _ A12.out Tryz.underlying37 rfl n5.info ?_) | (go_at_call 17; ((with_reducible refine HDj.out.mono ?_); rintro e w11 ⟨c11, rfl, n11, m11, b11⟩)) | (refine wpList_store_row rfl 37 _ _ rfl (w11.heap.size) c11 rfl rfl 37 nil9 (zat w11 _) n11.info (by rw [zb2.size, n11.size]) n11.one ?_))
 obtain ⟨w12, hw12⟩ : ∃ x, x = (w11.alloc (.cells nil9 37)).setRow w11.heap.size c11 := ⟨_, rfl⟩
 have hb12 : Below w10.heap.size w10 w12 := by rw [hw12]; exact zae b11.out (zeq w11 c11)
 have V12 := zhd (V10.out.below hb12); have X12 := zhd (zaf hb12 X10.out); have Y12 := zhd (zaf hb12 Y10.out); have P12 := zhd (P10.out.below hb12); have B12 := zhd (zae B10.out hb12)
 have Q12 : Hid (MVar w12 w11.heap.size c11 (doR M ⟨1, j, 0, 0⟩).1) := zhd (by rw [hw12]; exact zew w11 n11 m11.out)
 have hpq : bp ≠ w11.heap.size := by have h1 := zao P10.out.at_; have h2 := b11.out.size; omega
 have hmq : bm ≠ w11.heap.size := by have h1 := zao V10.out.at_; have h2 := b11.out.size; omega
 rw [← hw12]
 clear hw12 hb12 V10 X10 Y10 P10 B10 b11 m11 A12 t0 t1 t2 t3 hl8 HDj
 generalize w11.heap.size = bq at *
 have EP : Hid (doR M ⟨1, i, 0, 0⟩ = zdC M i) := zhd rfl
 have EQ : Hid (doR M ⟨1, j, 0, 0⟩ = zdC M j) := zhd rfl
 rw [EP.out] at P12; rw [EQ.out] at Q12
 rw [EP.out, EQ.out]
 obtain ⟨pe, hpe⟩ : ∃ x, x = (zdC M i).2 := ⟨_, rfl⟩
 obtain ⟨qe, hqe⟩ : ∃ x, x = (zdC M j).2 := ⟨_, rfl⟩
 rw [← hpe, ← hqe]
 have HPE := zhd hpe; have HQE := zhd hqe
 clear hpe hqe
 by_cases h1 : pe = 0
 rotate_left
 · have d1 : (pe != 0) = true := by simp [h1]
   go_wp2_with fail
   go_ret
   exact ⟨ret1 (za1 rfl), B12.out⟩
 by_cases h2 : qe = 0
 rotate_left
 · have d2 : (qe != 0) = true := by simp [h2]
   subst h1
   go_wp2_with fail
   go_ret
   exact ⟨ret1 (za1 rfl), B12.out⟩
 subst h1 h2
 have GP : Hid (GoodM (zdC M i).1 H (NN + 1)) := zhd (good_do GM.out ⟨1, i, 0, 0⟩ HPE.out.symm)
 have GQ : Hid (GoodM (zdC M j).1 H (NN + 1)) := zhd (good_do GM.out ⟨1, j, 0, 0⟩ HQE.out.symm)
 have TU : Hid (i ≠ j → { (zdC M i).1 with harts := M.harts } = M → { (zdC M j).1 with harts := M.harts } = M → (zdC (zdC M i).1 j).2 = 0 ∧ (zdC (zdC M j).1 i).2 = 0 ∧ (zdC (zdC M i).1 j).1 = (zdC (zdC M j).1 i).1) := zhd (turns HPE.out.symm HQE.out.symm)
 clear HPE HQE EP EQ HI HJ
 have HSX : Hid (∀ c : Int, doR (zdC M i).1 ⟨1, c, 0, 0⟩ = zdC (zdC M i).1 c) := zhd (fun _ => rfl)
 have HSY : Hid (∀ c : Int, doR (zdC M j).1 ⟨1, c, 0, 0⟩ = zdC (zdC M j).1 c) := zhd (fun _ => rfl)
 generalize (zdC M i).1 = P at *
 generalize (zdC M j).1 = Q at *
 have A13 := zhd P12.out.at_
 go_upto_region 11 with (first | (refine wpList_load_row rfl 37 _ rfl (bp) rfl 37 c9 (0, 0) _ A13.out Tryz.underlying37 rfl n9.info ?_) | (refine wpList_store_row rfl 37 _ _ rfl (w12.heap.size) c9 rfl rfl 37 nil9 (zat w12 _) n9.info (by rw [zb2.size, n9.size]) n9.one ?_))
 obtain ⟨w13, hw13⟩ : ∃ x, x = (w12.alloc (.cells nil9 37)).setRow w12.heap.size c9 := ⟨_, rfl⟩
 have hb13 : Below w12.heap.size w12 w13 := by rw [hw13]; exact zeq w12 c9
 have V13 := zhd (V12.out.below hb13); have X13 := zhd (zaf hb13 X12.out); have Y13 := zhd (zaf hb13 Y12.out); have P13 := zhd (P12.out.below hb13); have Q13 := zhd (Q12.out.below hb13); have B13 := zhd (zae B12.out hb13)
 have L13 : Hid (MVar w13 w12.heap.size c9 P) := zhd (by rw [hw13]; exact zew w12 n9 P12.out.mac)
 have hne : w12.heap.size ≠ bm ∧ w12.heap.size ≠ bp ∧ w12.heap.size ≠ bq := by have h1 := zao V12.out.at_; have h2 := zao P12.out.at_; have h3 := zao Q12.out.at_; omega
 have hneX : w12.heap.size ≠ ba ∧ w12.heap.size ≠ bb := by have h1 := zao Y12.out; have h2 := zao X12.out; omega
 have hwB : w.heap.size ≤ w12.heap.size := B12.out.size
 rw [← hw13]
 clear hw13 hb13 V12 X12 Y12 P12 Q12 B12 A13
 generalize w12.heap.size = bl at *
 have q1 : w13.cell? ⟨bm, 1, none⟩ = some (.slice ha H hc) := zad V13.out.at_ hc1
 obtain ⟨c14, L14⟩ := mvar_harts L13.out V13.out hc1
 obtain ⟨l0', l1, l2', l3, l4, l5, l6, l7, l8⟩ : True ∧ True ∧ True ∧ True ∧ True ∧ True ∧ True ∧ True ∧ True := by simp
 have K14 := zby w13 bl 1 (.slice ha H hc)
 obtain ⟨u1, hu1⟩ : ∃ u, w13.cell? ⟨bl, 1, none⟩ = some u := ⟨_, zad L13.out.at_ (j := 1) (Array.getElem?_eq_getElem (by rw [n9.size]; decide))⟩
 have f1 := zaa L13.out.at_ 1
 have lbm := zao V13.out.at_; have lbl := zao L13.out.at_
 clear l0' l1 l2' l3 l4 l5 l6 l7 l8
 go_upto_region 12 with (fail)
 obtain ⟨w14, hw14⟩ : ∃ x, x = w13.setCell ⟨bl, 1, none⟩ (.slice ha H hc) := ⟨_, rfl⟩
 rw [← hw14] at L14 K14 ⊢
 have HL14 := zhd L14
 have V14 := zhd (V13.out.but hne.1.symm K14 L13.out.at_ n9); have P14 := zhd (P13.out.but hne.2.1.symm K14 L13.out.at_ n9); have Q14 := zhd (Q13.out.but hne.2.2.symm K14 L13.out.at_ n9)
 have X14 := zhd ((K14.2 bb hneX.2.symm).trans X13.out); have Y14 := zhd ((K14.2 ba hneX.1.symm).trans Y13.out)
 have B14 : Hid (Below w.heap.size w w14) := zhd (by rw [hw14]; exact zaj B13.out hwB _)
 clear hw14 L14 K14 V13 P13 Q13 X13 Y13 B13 L13 hu1 u1 f1 lbm lbl q1 hne hneX hwB
 have A15 := zhd Q14.out.at_
 go_upto_region 13 with (first | (refine wpList_load_row rfl 37 _ rfl (bq) rfl 37 c11 (0, 0) _ A15.out Tryz.underlying37 rfl n11.info ?_) | (refine wpList_store_row rfl 37 _ _ rfl (w14.heap.size) c11 rfl rfl 37 nil9 (zat w14 _) n11.info (by rw [zb2.size, n11.size]) n11.one ?_))
 obtain ⟨w15, hw15⟩ : ∃ x, x = (w14.alloc (.cells nil9 37)).setRow w14.heap.size c11 := ⟨_, rfl⟩
 have hb15 : Below w14.heap.size w14 w15 := by rw [hw15]; exact zeq w14 c11
 have V15 := zhd (V14.out.below hb15); have X15 := zhd (zaf hb15 X14.out); have Y15 := zhd (zaf hb15 Y14.out); have P15 := zhd (P14.out.below hb15); have Q15 := zhd (Q14.out.below hb15); have L15 := zhd (HL14.out.below hb15); have B15 := zhd (zae B14.out hb15)
 have R15 : Hid (MVar w15 w14.heap.size c11 Q) := zhd (by rw [hw15]; exact zew w14 n11 Q14.out.mac)
 have hne : w14.heap.size ≠ bm ∧ w14.heap.size ≠ bp ∧ w14.heap.size ≠ bq ∧ w14.heap.size ≠ bl := by have h1 := zao V14.out.at_; have h2 := zao P14.out.at_; have h3 := zao Q14.out.at_; have h4 := zao HL14.out.at_; omega
 have hneX : w14.heap.size ≠ ba ∧ w14.heap.size ≠ bb := by have h1 := zao Y14.out; have h2 := zao X14.out; omega
 have hwB : w.heap.size ≤ w14.heap.size := B14.out.size
 rw [← hw15]
 clear hw15 hb15 V14 X14 Y14 P14 Q14 HL14 B14 A15
 generalize w14.heap.size = br at *
 have q1 : w15.cell? ⟨bm, 1, none⟩ = some (.slice ha H hc) := zad V15.out.at_ hc1
 obtain ⟨c16, R16⟩ := mvar_harts R15.out V15.out hc1
 have K16 := zby w15 br 1 (.slice ha H hc)
 obtain ⟨u1, hu1⟩ : ∃ u, w15.cell? ⟨br, 1, none⟩ = some u := ⟨_, zad R15.out.at_ (j := 1) (Array.getElem?_eq_getElem (by rw [n11.size]; decide))⟩
 have f1 := zaa R15.out.at_ 1
 have lbm := zao V15.out.at_; have lbl := zao R15.out.at_
 go_upto_region 14 with (fail)
 obtain ⟨w16, hw16⟩ : ∃ x, x = w15.setCell ⟨br, 1, none⟩ (.slice ha H hc) := ⟨_, rfl⟩
 rw [← hw16] at R16 K16 ⊢
 have HR16 := zhd R16
 have V16 := zhd (V15.out.but hne.1.symm K16 R15.out.at_ n11); have P16 := zhd (P15.out.but hne.2.1.symm K16 R15.out.at_ n11); have Q16 := zhd (Q15.out.but hne.2.2.1.symm K16 R15.out.at_ n11); have L16 := zhd (L15.out.but hne.2.2.2.symm K16 R15.out.at_ n11)
 have X16 := zhd ((K16.2 bb hneX.2.symm).trans X15.out); have Y16 := zhd ((K16.2 ba hneX.1.symm).trans Y15.out)
 have B16 : Hid (Below w.heap.size w w16) := zhd (by rw [hw16]; exact zaj B15.out hwB _)
 clear hw16 R16 K16 V15 P15 Q15 L15 X15 Y15 B15 R15 hu1 u1 f1 lbm lbl q1 hne hneX hwB
 obtain ⟨x0, x1, x2, x3⟩ := zaE X16.out; obtain ⟨y0, y1, y2, y3⟩ := zaE Y16.out
 have lx := zao X16.out; have ly := zao Y16.out
 obtain ⟨D1, hD1⟩ : ∃ b, decide ({ P with harts := M.harts } = M) = b := ⟨_, rfl⟩
 obtain ⟨D2, hD2⟩ : ∃ b, decide ({ Q with harts := M.harts } = M) = b := ⟨_, rfl⟩
 have HS1 : Hid (Calls Tryz.prog 19 #[.agg c14, .agg c5] w16 fun e w' => e = .returned (.bool D1) ∧ Below w16.heap.size w16 w') := zhd (by have := zgG _ _ _ _ w16 L16.out.mac V16.out.mac GM.out.regs GM.out.regs; rwa [hD1] at this)
 have HS2 : Hid (∀ w', Below w16.heap.size w16 w' → Calls Tryz.prog 19 #[.agg c16, .agg c5] w' fun e w'' => e = .returned (.bool D2) ∧ Below w'.heap.size w' w'') := zhd (fun w' h => by have := zgG _ _ _ _ w' (HR16.out.below h).mac (V16.out.below h).mac GM.out.regs GM.out.regs; rwa [hD2] at this)
 have HD1 := zhd hD1; have HD2 := zhd hD2
 have LL := zhd (zcE L16.out); have LM := zhd (zcE V16.out)
 clear hD1 hD2
 by_cases hij : i = j
 · have d : (i == j) = true := by simp [hij]
   go_wp2_with fail
   go_ret
   exact ⟨ret1 (za1 rfl), B16.out⟩
 have d : (i == j) = false := by simp [hij]
 have HIJ := zhd hij
 clear hij
 cases D1
 · go_wp2_with (first | ((with_reducible refine zcU (o := ⟨_, .load _ _, _, _, _, _⟩) ?_ 37 _ rfl (bl) ?_ (.agg c14) LL.out ?_); rotate_left; exact rfl; rotate_left; exact rfl) | ((with_reducible refine zcU (o := ⟨_, .load _ _, _, _, _, _⟩) ?_ 37 _ rfl (bm) ?_ (.agg c5) LM.out ?_); rotate_left; exact rfl; rotate_left; exact rfl) | (go_at_call 19; ((with_reducible refine HS1.out.mono ?_); rintro e w17 ⟨rfl, hb17⟩; have B17 := zhd (zae B16.out hb17); clear hb17)))
   go_ret
   exact ⟨ret1 (za1 rfl), B17.out⟩
 cases D2
 · go_wp2_with (first | ((with_reducible refine zcU (o := ⟨_, .load _ _, _, _, _, _⟩) ?_ 37 _ rfl (bl) ?_ (.agg c14) LL.out ?_); rotate_left; exact rfl; rotate_left; exact rfl) | ((with_reducible refine zcU (o := ⟨_, .load _ _, _, _, _, _⟩) ?_ 37 _ rfl (bm) ?_ (.agg c5) LM.out ?_); rotate_left; exact rfl; rotate_left; exact rfl) | (go_at_call 19; ((with_reducible refine HS1.out.mono ?_); rintro e w17 ⟨rfl, hb17⟩; have B17 := zhd (zae B16.out hb17); have HS3 := zhd (HS2.out w17 hb17); have LR := zhd (zcE (HR16.out.below hb17)); have LN := zhd (zcE (V16.out.below hb17)); clear hb17)) | ((with_reducible refine zcU (o := ⟨_, .load _ _, _, _, _, _⟩) ?_ 37 _ rfl (br) ?_ (.agg c16) LR.out ?_); rotate_left; exact rfl; rotate_left; exact rfl) | ((with_reducible refine zcU (o := ⟨_, .load _ _, _, _, _, _⟩) ?_ 37 _ rfl (bm) ?_ (.agg c5) LN.out ?_); rotate_left; exact rfl; rotate_left; exact rfl) | (go_at_call 19; ((with_reducible refine HS3.out.mono ?_); rintro e w18 ⟨rfl, hb18⟩; have B18 := zhd (zae B17.out hb18); clear hb18)))
   go_ret
   exact ⟨ret1 (za1 rfl), B18.out⟩
 obtain ⟨s1, s2, s3⟩ := TU.out HIJ.out (of_decide_eq_true HD1.out) (of_decide_eq_true HD2.out)
 have S1 := zhd s1; have S2 := zhd s2; have S3 := zhd s3
 clear s1 s2 s3 HD1 HD2 TU
 go_upto_region 16 with (first | ((with_reducible refine zcU (o := ⟨_, .load _ _, _, _, _, _⟩) ?_ 37 _ rfl (bl) ?_ (.agg c14) LL.out ?_); rotate_left; exact rfl; rotate_left; exact rfl) | ((with_reducible refine zcU (o := ⟨_, .load _ _, _, _, _, _⟩) ?_ 37 _ rfl (bm) ?_ (.agg c5) LM.out ?_); rotate_left; exact rfl; rotate_left; exact rfl) | (go_at_call 19; ((with_reducible refine HS1.out.mono ?_); rintro e w17 ⟨rfl, hb17⟩; have B17' := zhd hb17; have HS3 := zhd (HS2.out w17 hb17); have LR := zhd (zcE (HR16.out.below hb17)); have LN := zhd (zcE (V16.out.below hb17)); clear hb17)) | ((with_reducible refine zcU (o := ⟨_, .load _ _, _, _, _, _⟩) ?_ 37 _ rfl (br) ?_ (.agg c16) LR.out ?_); rotate_left; exact rfl; rotate_left; exact rfl) | ((with_reducible refine zcU (o := ⟨_, .load _ _, _, _, _, _⟩) ?_ 37 _ rfl (bm) ?_ (.agg c5) LN.out ?_); rotate_left; exact rfl; rotate_left; exact rfl) | (go_at_call 19; ((with_reducible refine HS3.out.mono ?_); rintro e w18 ⟨rfl, hb18⟩; have B18 := zhd (zae B17'.out hb18); clear hb18)))
 have P18 := zhd (P16.out.below B18.out); have Q18 := zhd (Q16.out.below B18.out); have X18 := zhd (zaf B18.out X16.out); have Y18 := zhd (zaf B18.out Y16.out); have B19 := zhd (zae B16.out B18.out)
 clear HS1 HS2 HS3 LL LM LR LN B17' B18 B16 P16 Q16 X16 Y16 L16 HR16 V16 x0 x1 x2 x3 y0 y1 y2 y3 lx ly
 have HDp := zhd (zhb (m := 0) (by rw [HSX.out]; exact S1.out) (do_tup 1 j 0 0 P18.out.mac GP (by omega)))
 have A20 := zhd P18.out.at_
 obtain ⟨t0, t1, t2, t3⟩ := zaE X18.out
 have hl8 := zao X18.out
 go_upto_region 17 with (first | (refine wpList_load_row rfl 37 _ rfl (bp) rfl 37 c9 (0, 0) _ A20.out Tryz.underlying37 rfl n9.info ?_) | (go_at_call 17; ((with_reducible refine HDp.out.mono ?_); rintro e w19 ⟨c19, rfl, n19, m19, b19⟩)) | (refine wpList_store_row rfl 37 _ _ rfl (w19.heap.size) c19 rfl rfl 37 nil9 (zat w19 _) n19.info (by rw [zb2.size, n19.size]) n19.one ?_))
 obtain ⟨w20, hw20⟩ : ∃ x, x = (w19.alloc (.cells nil9 37)).setRow w19.heap.size c19 := ⟨_, rfl⟩
 have hb20 : Below w18.heap.size w18 w20 := by rw [hw20]; exact zae b19.out (zeq w19 c19)
 have Q20 := zhd (Q18.out.below hb20); have Y20 := zhd (zaf hb20 Y18.out); have B20 := zhd (zae B19.out hb20)
 have Z20 : Hid (MVar w20 w19.heap.size c19 (zdC P j).1) := zhd (by rw [hw20]; exact zew w19 n19 m19.out)
 rw [← hw20]
 clear hw20 hb20 P18 Q18 X18 Y18 B19 b19 m19 A20 t0 t1 t2 t3 hl8 HDp
 generalize w19.heap.size = bx at *
 have HDq := zhd (zhb (m := 0) (by rw [HSY.out]; exact S2.out) (do_tup 1 i 0 0 Q20.out.mac GQ (by omega)))
 have A22 := zhd Q20.out.at_
 obtain ⟨t0, t1, t2, t3⟩ := zaE Y20.out
 have hl8 := zao Y20.out
 go_upto_region 18 with (first | (refine wpList_load_row rfl 37 _ rfl (bq) rfl 37 c11 (0, 0) _ A22.out Tryz.underlying37 rfl n11.info ?_) | (go_at_call 17; ((with_reducible refine HDq.out.mono ?_); rintro e w21 ⟨c21, rfl, n21, m21, b21⟩)) | (refine wpList_store_row rfl 37 _ _ rfl (w21.heap.size) c21 rfl rfl 37 nil9 (zat w21 _) n21.info (by rw [zb2.size, n21.size]) n21.one ?_))
 obtain ⟨w22, hw22⟩ : ∃ x, x = (w21.alloc (.cells nil9 37)).setRow w21.heap.size c21 := ⟨_, rfl⟩
 have hb22 : Below w20.heap.size w20 w22 := by rw [hw22]; exact zae b21.out (zeq w21 c21)
 have Z22 := zhd (Z20.out.below hb22); have B22 := zhd (zae B20.out hb22)
 have W22 : Hid (MVar w22 w21.heap.size c21 (zdC Q i).1) := zhd (by rw [hw22]; exact zew w21 n21 m21.out)
 rw [← hw22]
 clear hw22 hb22 Q20 Y20 Z20 B20 b21 m21 A22 t0 t1 t2 t3 hl8 HDq
 generalize w21.heap.size = by' at *
 have GX : Hid (GoodM (zdC P j).1 H (NN + 1 + 1)) := zhd (good_do GP.out ⟨1, j, 0, 0⟩ S1.out)
 rw [← S3.out] at W22
 have LX := zhd (zcE Z22.out); have LY := zhd (zcE W22.out)
 have HS := zhd (zgG _ _ _ _ w22 Z22.out.mac W22.out.mac GX.out.regs GX.out.regs)
 have dd : decide ((zdC P j).1 = (zdC P j).1) = true := by simp
 rw [dd] at HS
 clear dd
 go_wp2_with (first | ((with_reducible refine zcU (o := ⟨_, .load _ _, _, _, _, _⟩) ?_ 37 _ rfl (bx) ?_ (.agg c19) LX.out ?_); rotate_left; exact rfl; rotate_left; exact rfl) | ((with_reducible refine zcU (o := ⟨_, .load _ _, _, _, _, _⟩) ?_ 37 _ rfl (by') ?_ (.agg c21) LY.out ?_); rotate_left; exact rfl; rotate_left; exact rfl) | (go_at_call 19; ((with_reducible refine HS.out.mono ?_); rintro e w23 ⟨rfl, hb23⟩)))
 go_ret
 exact ⟨ret1 (za1 rfl), zae B22.out hb23⟩
end
end Go.Proofs.YtdobddiibgfeaaaGreat
