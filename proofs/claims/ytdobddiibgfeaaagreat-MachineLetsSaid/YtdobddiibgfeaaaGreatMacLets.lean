/-
  MachineLets: an interrupt is taken where it may be.
-/
import Derived.Test.YtdobddiibgfeaaaGreatZa
import Derived.Test.YtdobddiibgfeaaaGreatZz
set_option linter.unusedVariables false
set_option linter.unusedSimpArgs false
namespace Go.Proofs.YtdobddiibgfeaaaGreat
section
open Go.RowKit
theorem w32_id {a : Int} (h : -2147483648 ≤ a ∧ a ≤ 2147483647) : wrap32 a = a := by unfold wrap32; omega
theorem MVar.hart_at {w : World} {b n c : Nat} {cs : Array Value} {M : Mac} {a : Option Addr} (h : MVar w b cs M) (hr : ∀ x ∈ M.harts, x.r.length = 32) (hc : cs[1]? = some (.slice a n c)) {i : Nat} (hi : i < M.harts.length) : ∃ g cur, a = some ⟨g, 0, none⟩ ∧ w.heap[g]? = some (.cells cur 56 (0, 0)) ∧ w.rangeAt g (i * 39) (hC M.harts[i]) := by
 obtain ⟨wv, hv, ev, m1, m2, m3, dv, lv, tv, qs, e, hp⟩ := h.mac
 obtain ⟨g, c', cur, e1, hg, _, hrg, _⟩ := hp.hart hr hi
 injection e with e
 subst e
 simp only [List.getElem?_toArray, List.getElem?_cons_succ, List.getElem?_cons_zero, Option.some.injEq] at hc
 rw [hc] at e1
 injection e1 with e1 _ _
 exact ⟨g, cur, e1, hg, hrg⟩
theorem MVar.end_at {w : World} {b n c : Nat} {cs : Array Value} {M : Mac} {a : Option Addr} (h : MVar w b cs M) (hc : cs[2]? = some (.slice a n c)) {i : Nat} (hi : i < M.ends.length) : ∃ g cur, a = some ⟨g, 0, none⟩ ∧ w.heap[g]? = some (.cells cur 3 (0, 0)) ∧ w.cell? ⟨g, i, none⟩ = some (.int .i64 M.ends[i]) := by
 obtain ⟨wv, hv, ev, m1, m2, m3, dv, lv, tv, qs, e, hp⟩ := h.mac
 obtain ⟨g, c', cur, e1, hg, _, hrg, _⟩ := zbM hp.ends hi
 injection e with e
 subst e
 simp only [List.getElem?_toArray, List.getElem?_cons_succ, List.getElem?_cons_zero, Option.some.injEq] at hc
 rw [hc] at e1
 injection e1 with e1 _ _
 exact ⟨g, cur, e1, hg, hrg⟩
end
open Go.RowKit
set_option maxRecDepth 100000
theorem load_run_at {P : Program} {ops : Array Oper} {rest : List Oper} {o : Oper} {a : Act} {w : World} {Q : Exit → Act → World → Prop} (hgd : Region.wanted o (yielded ops a.tmps) = true) (ty : TypeId) (x : Operand) (ho : o.op = .load ty x)
 (g k : Nat) (hx : a.eval x = .pointer (some ⟨g, k, none⟩)) (v : Value) (hr : (loadVar ty ⟨g, k, none⟩).run P w = .ok v w)
 (h : wpList P ops Q rest (a.put o.dst v) w) : wpList P ops Q (o :: rest) a w :=
 BigFrame.wpList_want hgd fun _ hK => by
  unfold Oper.wp execOp
  simp only [ho, hx, Instr.loadAt, Instr.sureAddr, Sem.run_bind, Sem.run_pure, Result.andThen_ok, hr]
  exact hK _ _ h
theorem MVar.lines_at {w : World} {b n c : Nat} {cs : Array Value} {M : Mac} {a : Option Addr} (h : MVar w b cs M) (hc : cs[7]? = some (.slice a n c)) (h0 : 0 < M.lines.length) : ∃ g cur, a = some ⟨g, 0, none⟩ ∧ w.heap[g]? = some (.cells cur 64 (0, 0)) ∧ ∀ (i : Nat) (hi : i < M.lines.length), w.rangeAt g (i * 3) (lnC M.lines[i]) := by
 obtain ⟨wv, hv, ev, m1, m2, m3, dv, lv, tv, qs, e, hp⟩ := h.mac
 obtain ⟨g, c', cur, e1, hg, _⟩ := zcb hp.lines h0
 have hl : ∀ (i : Nat) (hi : i < M.lines.length), w.rangeAt g (i * 3) (lnC M.lines[i]) := fun i hi => zfF hp.lines e1 hi (zgX _) (fun j hj => zaY (fun y _ => zgX y) (List.getElem?_eq_getElem hi) hj)
 injection e with e
 subst e
 simp only [List.getElem?_toArray, List.getElem?_cons_succ, List.getElem?_cons_zero, Option.some.injEq] at hc
 rw [hc] at e1
 injection e1 with e1 _ _
 exact ⟨g, cur, e1, hg, hl⟩
theorem infoLnS : (Tryz.prog.info? 64).map (·.size) = some 3 := by kernel_rfl
theorem load_line {w : World} {g o : Nat} {l : Ln} (hr : w.rangeAt g o (lnC l)) : (loadVar 64 ⟨g, o, none⟩).run Tryz.prog w = .ok (.agg #[.int .i64 l.h, .int .i64 l.p, .bool l.r]) w :=
 run_loadVar_mid (P := Tryz.prog) w g o 64 (lnC l) _ hr Tryz.underlying64 rfl infoLnS
/-- What the lines are, behind a taken interrupt. -/
theorem Taken.line {M T : Mac} {h : Int} {b : Nat} (k : Taken M T h b) {j : Nat} (hj : j < M.lines.length) (hT : j < T.lines.length) (hne : j ≠ b) : T.lines[j] = M.lines[j] := by
 have e : T.lines[j]? = M.lines[j]? := by rw [k.lines, List.getElem?_set_ne (Ne.symm hne)]
 rw [List.getElem?_eq_getElem hj, List.getElem?_eq_getElem hT] at e
 exact Option.some.inj e
theorem Taken.line_b {M T : Mac} {h : Int} {b : Nat} (k : Taken M T h b) (hb : b < M.lines.length) (hT : b < T.lines.length) : T.lines[b] = { M.lines[b] with r := false } := by
 have e : T.lines[b]? = some { zck M b with r := false } := by rw [k.lines, List.getElem?_set_self hb]
 rw [List.getElem?_eq_getElem hT, zhG hb] at e
 exact Option.some.inj e
theorem Taken.hart {M T : Mac} {i b : Nat} (k : Taken M T (i : Int) b) (hi : i < M.harts.length) (hT : i < T.harts.length) : T.harts[i] = zgd M.harts[i] (-2147483648 + b) := by
 have e : T.harts[i]? = some (zgd (zbB M i) (-2147483648 + b)) := by rw [k.harts, Int.toNat_natCast, List.getElem?_set_self hi]
 rw [List.getElem?_eq_getElem hT, zhM hi] at e
 exact Option.some.inj e
theorem Taken.regs {M T : Mac} {h : Int} {b : Nat} (k : Taken M T h b) (hr : ∀ x ∈ M.harts, x.r.length = 32) (hh : (zbB M h).r.length = 32) : ∀ x ∈ T.harts, x.r.length = 32 := by
 intro x hx
 rw [k.harts] at hx
 rcases List.mem_or_eq_of_mem_set hx with h1 | h1
 · exact hr x h1
 · rw [h1]; exact hh
set_option maxHeartbeats 16000000 in
theorem walkLets (v0 : Value) (l0 : List (Int × Int × Int × Int)) (a1 b1 c1 : Int) (v2 : Value) (l2 : List (Int × Int × Int)) (a3 : Int) (w : World) (g0 : ArgS 4 c4 w v0 l0) (u0 : ∀ r ∈ l0, ok4 r) (i1 : I64 a1) (i2 : I64 b1) (i3 : I64 c1) (g2 : ArgS 3 c3 w v2 l2) (u2 : ∀ r ∈ l2, ok3 r) (i4 : I64 a3) :
 Calls Tryz.prog 6 #[v0, .agg #[.int .i64 a1, .int .i64 b1, .int .i64 c1], v2, .int .i64 a3] w fun e w' => e = .returned (.bool true) ∧ Below w.heap.size w w' := by
 have G0 := zhd g0; have U0 := zhd u0; have G2 := zhd g2; have U2 := zhd u2
 obtain ⟨va, vc, rfl, _, _, _⟩ := g0
 obtain ⟨ta, tc, rfl, _, _, _⟩ := g2
 clear u0 u2
 obtain ⟨w1, hw1, hx1, hb1, _⟩ := zbY w (.cells #[.int .i64 a1, .int .i64 b1, .int .i64 c1] 23)
 have X1 := zhd hx1; have B1 := zhd hb1
 clear hx1 hb1
 go_enter Tryz.func6, Tryz.ntmps6
 go_upto_region 1 with (fail)
 rw [← hw1]; clear hw1
 go_upto_region 2 with (go_at_call 10; ((with_reducible refine (awake15 _).mono ?_); rintro e w2 ⟨rfl, hb2⟩; have B2' := zhd hb2; clear hb2))
 obtain ⟨t0, t1, t2⟩ := zah (zaf B2'.out X1.out)
 have B2 := zhd (zae B1.out B2'.out)
 have G0' := zhd (G0.out.below B2.out); have G2' := zhd (G2.out.below B2.out)
 have GM0 : Hid (GoodM (zhn l0 a1 b1 c1) (zc3 a1) 0) := zhd (zkm l0 a1 b1 c1)
 have hsl := zhr l2
 clear X1 B1 B2' G0 G2
 go_upto_region 3 with (first | (go_at_call 15; ((with_reducible refine (zk2 G0'.out U0 i1 i2 i3).mono ?_); rintro e w3 ⟨c3, rfl, n3, m3, b3⟩)) | (go_at_call 16; ((with_reducible refine (zjM (G2'.out.below b3.out) U2).mono ?_); rintro e w4 ⟨sa, sc, rfl, hs4, b4⟩; have HR := zhd (zgH (m3.out.below b4.out) hs4.out GM0 (by omega)))) | (go_at_call 22; ((with_reducible refine HR.out.mono ?_); rintro e w5 ⟨c5, rfl, n5, m5, b5⟩)) | (refine wpList_store_row rfl 37 _ _ rfl (w5.heap.size) c5 rfl rfl 37 nil9 (zat w5 _) n5.info (by rw [zb2.size, n5.size]) n5.one ?_))
 obtain ⟨w6, hw6⟩ : ∃ x, x = (w5.alloc (.cells nil9 37)).setRow w5.heap.size c5 := ⟨_, rfl⟩
 have GM : Hid (GoodM (runR (zhn l0 a1 b1 c1) (zcn l2)).1 (zc3 a1) (0 + (zcn l2).length)) := zhd (zfv (zcn l2) GM0.out)
 have SM : Hid (StaM (runR (zhn l0 a1 b1 c1) (zcn l2)).1) := zhd (sta_run _ (sta_start l0 a1 b1 c1))
 have hb6 : Below w2.heap.size w2 w6 := by rw [hw6]; exact zae (zae (zae b3.out b4.out) b5.out) (zeq w5 c5)
 have V6 : Hid (MVar w6 w5.heap.size c5 (runR (zhn l0 a1 b1 c1) (zcn l2)).1) := zhd (by rw [hw6]; exact zew w5 n5 m5.out)
 have B6 := zhd (zae B2.out hb6)
 rw [← hw6]
 obtain ⟨NN, hNN⟩ : ∃ x, x = 0 + (zcn l2).length := ⟨_, rfl⟩
 have hNs : NN ≤ 120 := by omega
 rw [← hNN] at GM
 clear hw6 b3 m3 b4 hs4 b5 m5 HR hb6 t0 t1 t2 B2 G0' G2' U0 U2 GM0 hNN
 generalize w5.heap.size = bm at *
 obtain ⟨M, hM⟩ : ∃ x, x = (runR (zhn l0 a1 b1 c1) (zcn l2)).1 := ⟨_, rfl⟩
 rw [← hM] at V6 GM SM
 clear hM hsl
 have hH := zgv a1
 obtain ⟨H, hHe⟩ : ∃ x, x = zc3 a1 := ⟨_, rfl⟩
 rw [← hHe] at GM hH
 clear hHe
 have HH1 := zhd GM.out.harts; have HE1 := zhd GM.out.ends
 obtain ⟨wa, ha, ea, qa, ra, pa, da, la, ta, wc, hc, ec, qc, rc, pc, dc, lc, tc, C5⟩ := V6.out.open
 have ce := C5.eq
 rw [HH1.out, HE1.out] at ce
 obtain ⟨ln, hln⟩ : ∃ x, x = M.lines.length := ⟨_, rfl⟩
 rw [← hln] at ce
 have HLN := zhd hln
 have hl8 : ln ≤ 8 := by rw [hln]; exact GM.out.lines
 have c51 : Hid (c5[1]? = some (.slice ha H hc)) := zhd (by rw [ce]; rfl)
 have c52 : Hid (c5[2]? = some (.slice ea H ec)) := zhd (by rw [ce]; rfl)
 have c57 : Hid (c5[7]? = some (.slice la ln lc)) := zhd (by rw [ce]; rfl)
 have q51 := zad V6.out.at_ c51.out; have q52 := zad V6.out.at_ c52.out
 have lbm := zao V6.out.at_
 clear ce C5 hln
 have hmx : max (H : Int) 1 = H := by omega
 have hHi : 0 < (H : Int) := by omega
 have pi := za5 a3 H hHi
 obtain ⟨i, hi⟩ : ∃ x : Nat, zax a3 H = x := ⟨(zax a3 H).toNat, by omega⟩
 rw [hi] at pi
 have HI := zhd hi
 clear hi
 have d1 : decide ((H : Int) < 1) = false := by simp; omega
 have d2 : ((H : Int) != (H : Int)) = false := by simp
 go_upto_region 4 with (first | (rw [hmx]; go_at_call 23; ((with_reducible refine (zbK a3 (H : Int) i _ i4 (by omega) HI).mono ?_); rintro e w' ⟨rfl, rfl⟩)) | (go_at_call 23; ((with_reducible refine (zbK a3 (H : Int) i _ i4 (by omega) HI).mono ?_); rintro e w' ⟨rfl, rfl⟩)))
 have hlt : i < H := by omega
 have L6 := zhd (zcE V6.out)
 have A6 := zhd V6.out.at_
 have HF := zhd (zhV _ w6 M i V6.out.mac GM.out.regs GM.out.lines)
 go_upto_region 7 with (first | (refine wpList_load_row rfl 37 _ rfl (bm) rfl 37 c5 (0, 0) _ A6.out Tryz.underlying37 rfl n5.info ?_) | (go_at_call 20; ((with_reducible refine HF.out.mono ?_); rintro e w7 ⟨rfl, hb7⟩; have HB7 := zhd hb7; clear hb7)))

 have V7 := zhd (V6.out.below HB7.out); have B7 := zhd (zae B6.out HB7.out)
 clear L6 A6 HF q51 q52 lbm HB7 B6 V6
 have HD := zhd (do_tup 4 i 0 0 V7.out.mac GM (by omega))
 have A9 := zhd V7.out.at_
 go_upto_region 8 with (first | (refine wpList_load_row rfl 37 _ rfl (bm) rfl 37 c5 (0, 0) _ A9.out Tryz.underlying37 rfl n5.info ?_) | (go_at_call 17; ((with_reducible refine HD.out.mono ?_); rintro e w8 ⟨c8, rfl, n8, m8, b8⟩)) | (refine wpList_store_row rfl 37 _ _ rfl (w8.heap.size) c8 rfl rfl 37 nil9 (zat w8 _) n8.info (by rw [zb2.size, n8.size]) n8.one ?_))
 obtain ⟨w9, hw9⟩ : ∃ x, x = (w8.alloc (.cells nil9 37)).setRow w8.heap.size c8 := ⟨_, rfl⟩
 have hb9 : Below w7.heap.size w7 w9 := by rw [hw9]; exact zae b8.out (zeq w8 c8)
 have V9 := zhd (V7.out.below hb9); have B9 := zhd (zae B7.out hb9)
 have T9 : Hid (MVar w9 w8.heap.size c8 (doR M ⟨4, i, 0, 0⟩).1) := zhd (by rw [hw9]; exact zew w8 n8 m8.out)
 rw [← hw9]
 clear hw9 hb9 b8 m8 A9 HD V7 B7
 generalize w8.heap.size = bn at *
 have hiH : i < M.harts.length := by rw [HH1.out]; exact hlt
 have hiE : i < M.ends.length := by rw [HE1.out]; exact hlt
 obtain ⟨g1, u1, rfl, hg1, r1⟩ := V9.out.hart_at GM.out.regs c51.out hiH
 have hX32 := GM.out.regs M.harts[i] (List.getElem_mem _)
 have HHO : Hid (zbB M (i : Int) = M.harts[i]) := zhd (zhM hiH)
 have HEO : Hid (zkv M (i : Int) = M.ends[i]) := zhd (zdc hiE)
 have HLX := zhd (zdT hX32 r1)
 have hr1 := zhd r1
 clear r1
 obtain ⟨X, hX⟩ : ∃ x, x = M.harts[i] := ⟨_, rfl⟩
 rw [← hX] at HHO HLX hX32 hr1
 clear hX
 have q51 := zad V9.out.at_ c51.out
 have lbm := zao V9.out.at_; have lg1 := zao hg1
 have d3 : decide ((H : Int) ≤ (i : Int)) = false := by simpa using hlt
 go_upto_region 9 with (first | ((with_reducible refine load_run_at (o := ⟨_, .load _ _, _, _, _, _⟩) ?_ 56 _ rfl g1 (i * 39) ?_ (.agg (hA X)) HLX.out ?_); rotate_left; exact rfl; rotate_left; exact rfl) | (refine wpList_store_row rfl 56 _ _ rfl w9.heap.size (hA X) rfl rfl 56 zA (zat w9 _) (by rw [zaw X hX32]; exact zdm) (by rw [zaw X hX32]; rfl) (zbj X) ?_))

 obtain ⟨w10, hw10⟩ : ∃ x, x = (w9.alloc (.cells zA 56)).setRow w9.heap.size (hA X) := ⟨_, rfl⟩
 have hb10 : Below w9.heap.size w9 w10 := by rw [hw10]; exact below_setRow (zan w9 _) (Nat.le_refl _) _
 have X10 : Hid (w10.heap[w9.heap.size]? = some (.cells (hA X) 56 (0, 0))) := zhd (by rw [hw10]; exact setRow_heap _ _ _ _ _ _ (zat w9 _))
 have V10 := zhd (V9.out.below hb10); have T10 := zhd (T9.out.below hb10); have B10 := zhd (zae B9.out hb10)
 first | rw [← hw10] | (change Code.wp _ _ _ _ ((w9.alloc (.cells zA 56)).setRow w9.heap.size (hA X)); rw [← hw10])
 clear hw10 hb10 HLX hr1 q51 lbm lg1 hg1 V9 T9 B9
 generalize w9.heap.size = bx at *
 obtain ⟨g2, u2, rfl, hg2, z2⟩ := V10.out.end_at c52.out hiE
 rw [← HEO.out] at z2
 have q52 := zad V10.out.at_ c52.out
 have lbm := zao V10.out.at_; have lg2 := zao hg2
 obtain ⟨z, hz⟩ : ∃ x, x = zkv M (i : Int) := ⟨_, rfl⟩
 rw [← hz] at z2
 have HZ := zhd hz
 have hit : Hid (zc9 M (i : Int) = true) := zhd (by rw [isHart_of GM.out]; simp; exact hlt)
 obtain ⟨e, he⟩ : ∃ x, x = (doR M ⟨4, i, 0, 0⟩).2 := ⟨_, rfl⟩
 obtain ⟨k, hk⟩ : ∃ x, x = zeh M i := ⟨_, rfl⟩
 rw [← he, ← hk]
 have HE := zhd he; have HK := zhd hk
 clear hz he hk
 by_cases hz : z = 0
 rotate_left
 · have d4 : (z != 0) = true := by simpa using hz
   have e1 : e = 100 := by rw [HE.out]; exact take_no.2 ⟨hit.out, by rw [← HZ.out]; exact hz⟩
   subst e1
   clear HE
   go_wp2_with fail
   go_ret
   exact ⟨ret1 (za1 (by first | rfl | simp)), B10.out⟩
 subst hz
 obtain ⟨g32, g33, g34, g35, g36, g37, g38⟩ := zbr X hX32
 have x33 := zad X10.out g33
 have lx := zao X10.out
 have ST := zhd (sta_bit (sta_of SM.out (i : Int)))
 rw [HHO.out] at ST
 rcases take_all SM.out hit.out HZ.out.symm with ⟨h1, h2⟩ | ⟨b, h1, h2, h3⟩
 · have e1 : e = 101 := by rw [HE.out]; exact h2
   have e2 : k = -1 := by rw [HK.out]; exact h1
   subst e1 e2
   clear HE HK h1 h2 ST
   go_wp2_with fail
   all_goals (go_ret; exact ⟨ret1 (za1 (by first | rfl | simp)), B10.out⟩)

 · have e1 : e = 0 := by rw [HE.out]; exact h2
   have e2 : k = (b : Int) := HK.out.trans h1
   subst e1 e2
   clear HE HK h1 h2
   have HT3 := zhd h3
   obtain ⟨T, hT⟩ : ∃ x, x = (zdA M i).1 := ⟨_, rfl⟩
   have T11 : Hid (MVar w10 bn c8 T) := by rw [hT]; exact T10
   rw [← hT] at HT3
   clear h3 hT T10
   have hbl : b < ln := by rw [HLN.out]; exact HT3.out.lt
   have HMAY : Hid ((zck M (b : Int)).h = i ∧ (zck M (b : Int)).r = true ∧ (bits .and .i64 X.st 8 != 0) = true ∧ X.le < (zck M (b : Int)).p) := zhd (by
    have := HT3.out.may
    unfold mayL zlU at this
    rw [HHO.out] at this
    simp only [Bool.and_eq_true, decide_eq_true_eq, beq_iff_eq] at this
    exact ⟨this.2.2.1, this.2.2.2.1, this.2.2.2.2.1, this.2.2.2.2.2⟩)
   have hB : ((X.st.tdiv 8).tmod 2 == 0) = false := by
    have := ST.out.symm.trans HMAY.out.2.2.1
    simpa using this
   have hw : wrap64 (X.st.tdiv 8) = X.st.tdiv 8 := by rcases (sta_of SM.out (i : Int)) with h | h | h | h <;> (rw [HHO.out] at h; rw [h]; kernel_rfl)
   rw [← hw] at hB
   have hBi : ¬ (wrap64 (X.st.tdiv 8)).tmod 2 = 0 := by simpa using hB
   clear hw
   obtain ⟨wa', ha', ea', qa', ra', pa', da', la', ta', wc', hc', ec', qc', rc', pc', dc', lc', tc', C8⟩ := T11.out.open
   have ce' := C8.eq
   have hTH : T.harts.length = H := by rw [HT3.out.harts, List.length_set]; exact HH1.out
   have hTL : T.lines.length = ln := by rw [HT3.out.lines, List.length_set]; exact HLN.out.symm
   rw [hTH, hTL] at ce'
   have c81 : Hid (c8[1]? = some (.slice ha' H hc')) := zhd (by rw [ce']; rfl)
   have c87 : Hid (c8[7]? = some (.slice la' ln lc')) := zhd (by rw [ce']; rfl)
   have HTH := zhd hTH; have HTL := zhd hTL
   clear ce' C8 hTH hTL ST
   have q51 := zad V10.out.at_ c51.out; have q57 := zad V10.out.at_ c57.out; have q81 := zad T11.out.at_ c81.out; have q87 := zad T11.out.at_ c87.out
   have lbn := zao T11.out.at_
   have d5 : decide ((b : Int) < 0) = false := by simp
   have d6 : decide ((ln : Int) ≤ (b : Int)) = false := by simpa using hbl
   have d7 : decide ((b : Int) ≥ (ln : Int)) = false := by simpa using hbl
   have d8 : ((ln : Int) != (ln : Int)) = false := by simp
   go_upto_region 15 with (fail)

   have HGR := zhd GM.out.regs
   have hbM : b < M.lines.length := HT3.out.lt
   have hbT : b < T.lines.length := by rw [HTL.out]; exact hbl
   obtain ⟨gl, ul, rfl, hgl, hrl⟩ := V10.out.lines_at c57.out (by omega)
   obtain ⟨gn, un, rfl, hgn, hrn⟩ := T11.out.lines_at c87.out (by omega)
   have HRL := zhd hrl
   have HNE : Hid (∀ (j : Nat) (hj : j < M.lines.length), j ≠ b → w10.rangeAt gn (j * 3) (lnC M.lines[j])) := zhd (fun j hj hne => by
    have hT : j < T.lines.length := by rw [HTL.out, HLN.out]; exact hj
    have := hrn j hT
    rwa [HT3.out.line hj hT hne] at this)
   have HNB : Hid (w10.rangeAt gn (b * 3) (lnC { M.lines[b] with r := false })) := zhd (by
    have := hrn b hbT
    rwa [HT3.out.line_b hbM hbT] at this)
   have HLB : Hid (w10.rangeAt gl (b * 3) (lnC M.lines[b])) := zhd (hrl b hbM)
   have HBEST : Hid (∀ (j : Nat) (hj : j < M.lines.length), M.lines[j].r = true → M.lines[j].h = i → M.lines[j].p ≤ M.lines[b].p) := zhd (fun j hj h1 h2 => by
    have := HT3.out.best j hj
    rw [zhG hj, zhG hbM] at this
    exact this h1 h2)
   rw [zhG hbM] at HMAY
   have HREGS : Hid (∀ x ∈ T.harts, x.r.length = 32) := zhd (HT3.out.regs HGR.out (by rw [HHO.out]; exact hX32))
   have hiT : i < T.harts.length := by rw [HTH.out]; exact hlt
   have HTI : Hid (T.harts[i] = zgd X (-2147483648 + b)) := zhd (by
    have := HT3.out.hart hiH hiT
    rw [← zhM hiH, HHO.out] at this
    exact this)
   have HNONE : Hid (zeh T (i : Int) = -1) := zhd HT3.out.none
   have HTL8 : Hid (T.lines.length ≤ 8) := zhd (by rw [HTL.out]; exact hl8)
   generalize M.lines[b] = LB at *
   have HGL := zhd hgl; have HGN := zhd hgn
   clear hrl hrn hgl hgn HT3 hbT
   clear q51 q57 q81 q87 x33 lbm lbn lx d5 d6 d7 d8 lg2 z2 q52 hg2
   try simp only [Act.put, List.setIfInBounds_toArray, List.set_cons_succ, List.set_cons_zero]
   go_wp2_with fail
   go_loopw [17] (fun j wr => ∃ r : Nat, r ≤ ln ∧ j = .int .i64 r ∧ Below w10.heap.size w10 wr) (fun j _ => ln - (intOf j).toNat)
   case atStart => exact ⟨0, Nat.zero_le _, rfl, Below.refl _ _⟩
   case round =>
    obtain ⟨r, hr, rfl, hb⟩ := hrel
    have HB := zhd hb
    have HV := zhd (zaf hb V10.out.at_); have HU := zhd (zaf hb T11.out.at_)
    have HGL8 := zhd (zaf hb HGL.out); have HGN8 := zhd (zaf hb HGN.out)
    have HLB8 := zhd (zd3 HLB.out HGL.out HGL8.out); have HNB8 := zhd (zd3 HNB.out HGN.out HGN8.out)
    clear hb
    by_cases hlt : r < ln

    · have hrM : r < M.lines.length := by rw [← HLN.out]; exact hlt
      have rl := zd3 (HRL.out r hrM) HGL.out HGL8.out
      have HBT := zhd (HBEST.out r hrM)
      have HNR : Hid (r ≠ b → wr.rangeAt gn (r * 3) (lnC M.lines[r])) := zhd (fun h => zd3 (HNE.out r hrM h) HGN.out HGN8.out)
      clear HRL HNE HBEST
      generalize M.lines[r] = L at *
      obtain ⟨lh, lp, lr⟩ := L
      have q0 : wr.cell? ⟨gl, r * 3, none⟩ = some (.int .i64 lh) := rl 0 _ rfl
      have q1 : wr.cell? ⟨gl, r * 3 + 1, none⟩ = some (.int .i64 lp) := rl 1 _ rfl
      have q2 : wr.cell? ⟨gl, r * 3 + 2, none⟩ = some (.bool lr) := rl 2 _ rfl
      obtain ⟨w11, hw11, hx11, hb11, hl11⟩ := zbY wr (.cells #[.int .i64 lh, .int .i64 lp, .bool lr] 64)
      have B11 := zhd hb11
      have v57 := zad HV.out c57.out
      have lbm := zao HV.out; have lgl := zao HGL8.out
      clear rl
      go_upto_region 19 with (fail)
      rw [← hw11]
      clear hw11 q0 q1 q2 v57
      have t0 : w11.cell? ⟨wr.heap.size, 0, none⟩ = some (.int .i64 lh) := zad hx11 rfl
      have t1 : w11.cell? ⟨wr.heap.size, 1, none⟩ = some (.int .i64 lp) := zad hx11 rfl
      have t2 : w11.cell? ⟨wr.heap.size, 2, none⟩ = some (.bool lr) := zad hx11 rfl
      have hl5 := zao (zaf hb11 HV.out); have hl8' := zao (zaf hb11 HU.out); have hlgl := zao (zaf hb11 HGL8.out); have hlgn := zao (zaf hb11 HGN8.out); have hlx := zao hx11
      have y0 := fun x => zal hlx t0 x
      have y1 := fun x => zal hlx t1 x
      have y2 := fun x => zal hlx t2 x
      have y57 := fun x => zal hl5 (zad (zaf hb11 HV.out) c57.out) x
      have y87 := fun x => zal hl8' (zad (zaf hb11 HU.out) c87.out) x
      have lb11 := zd3 HLB8.out HGL8.out (zaf hb11 HGL8.out)
      have lb1 : w11.cell? ⟨gl, b * 3 + 1, none⟩ = some (.int .i64 LB.p) := lb11 1 _ rfl
      have yb := fun x => zal hlgl lb1 x
      have RL : Hid (∀ w' : World, (∃ x : Wd w11, w' = x.val) → (loadVar 64 ⟨wr.heap.size, 0, none⟩).run Tryz.prog w' = .ok (.agg #[.int .i64 lh, .int .i64 lp, .bool lr]) w') := zhd (by
       rintro w' ⟨x, rfl⟩
       exact load_line (l := ⟨lh, lp, lr⟩) (zdp hlx (fun j v hj => by rw [Nat.zero_add]; exact zad hx11 (by simpa [lnC] using hj)) x))
      have RN : Hid (r ≠ b → ∀ w' : World, (∃ x : Wd w11, w' = x.val) → (loadVar 64 ⟨gn, r * 3, none⟩).run Tryz.prog w' = .ok (.agg #[.int .i64 lh, .int .i64 lp, .bool lr]) w') := zhd (by
       rintro h w' ⟨x, rfl⟩
       exact load_line (l := ⟨lh, lp, lr⟩) (zdp hlgn (zd3 (HNR.out h) HGN8.out (zaf hb11 HGN8.out)) x))
      have hxb := fun w => zmv true ⟨lh, lp, lr⟩ ⟨lh, lp, lr⟩ (by simp) w
      simp only at hxb HBT
      clear t0 t1 t2 lb11 lb1 hx11 hb11 HNR lbm lgl
      have e0 : decide ((b : Int) < 0) = false := by simp
      have e1 : decide ((ln : Int) ≤ (b : Int)) = false := by simpa using hbl
      have e2 : decide ((r : Int) < 0) = false := by simp
      have e3 : decide ((ln : Int) ≤ (r : Int)) = false := by simpa using hlt
      obtain ⟨c, hc⟩ : ∃ x, x = decide (LB.p < lp) := ⟨_, rfl⟩
      have HC := zhd hc.symm
      have e4 : decide (LB.p < lp) = c := hc.symm
      clear hc
      obtain ⟨f, hf⟩ : ∃ x, x = (lh == (i : Int)) := ⟨_, rfl⟩
      have HFF := zhd hf.symm
      have e5 : (lh == (i : Int)) = f := hf.symm
      clear hf
      have HNO : Hid (lr = true → f = true → c = false) := zhd (fun h1 h2 => by
       rw [← HC.out]
       rw [← HFF.out] at h2
       have := HBT.out h1 (by simpa using h2)
       simpa using this)
      clear HBT
      by_cases hne : r = b

      · have e6 : ((r : Int) != (b : Int)) = false := by simp [hne]
        cases lr
        · skip
          refine zaB (by kernel_rfl) (by kernel_rfl) ?_
          repeat (first | (go_big_quiet_step (fail)) | (go_big_quiet_want; refine zaM 64 _ ⟨gn, r * 3, none⟩ _ rfl rfl (RN.out hne) ?_; simp only [Act.put, List.setIfInBounds_toArray, List.set_cons_succ, List.set_cons_zero]; go_big_quiet_on) | (go_big_quiet_want; refine zaM 64 _ ⟨wr.heap.size, 0, none⟩ _ rfl rfl RL.out ?_; simp only [Act.put, List.setIfInBounds_toArray, List.set_cons_succ, List.set_cons_zero]; go_big_quiet_on))
          refine wpQuiet_nil ?_
          rintro w12 ⟨⟨w12x, hb12⟩, rfl⟩
          have B12 := zhd (zae (zae HB.out B11.out) hb12)
          clear y0 y1 y2 y57 y87 yb hb12
          go_wp2_with fail
          go_roundw
          case rel => exact ⟨r + 1, by omega, by go_num, B12.out⟩
          case measure => simp [intOf]; omega
        · cases f
          · skip
            refine zaB (by kernel_rfl) (by kernel_rfl) ?_
            repeat (first | (go_big_quiet_step (fail)) | (go_big_quiet_want; refine zaM 64 _ ⟨gn, r * 3, none⟩ _ rfl rfl (RN.out hne) ?_; simp only [Act.put, List.setIfInBounds_toArray, List.set_cons_succ, List.set_cons_zero]; go_big_quiet_on) | (go_big_quiet_want; refine zaM 64 _ ⟨wr.heap.size, 0, none⟩ _ rfl rfl RL.out ?_; simp only [Act.put, List.setIfInBounds_toArray, List.set_cons_succ, List.set_cons_zero]; go_big_quiet_on))
            refine wpQuiet_nil ?_
            rintro w12 ⟨⟨w12x, hb12⟩, rfl⟩
            have B12 := zhd (zae (zae HB.out B11.out) hb12)
            clear y0 y1 y2 y57 y87 yb hb12
            go_wp2_with fail
            go_roundw
            case rel => exact ⟨r + 1, by omega, by go_num, B12.out⟩
            case measure => simp [intOf]; omega
          · obtain rfl := HNO.out rfl rfl
            refine zaB (by kernel_rfl) (by kernel_rfl) ?_
            repeat (first | (go_big_quiet_step (fail)) | (go_big_quiet_want; refine zaM 64 _ ⟨gn, r * 3, none⟩ _ rfl rfl (RN.out hne) ?_; simp only [Act.put, List.setIfInBounds_toArray, List.set_cons_succ, List.set_cons_zero]; go_big_quiet_on) | (go_big_quiet_want; refine zaM 64 _ ⟨wr.heap.size, 0, none⟩ _ rfl rfl RL.out ?_; simp only [Act.put, List.setIfInBounds_toArray, List.set_cons_succ, List.set_cons_zero]; go_big_quiet_on))
            refine wpQuiet_nil ?_
            rintro w12 ⟨⟨w12x, hb12⟩, rfl⟩
            have B12 := zhd (zae (zae HB.out B11.out) hb12)
            clear y0 y1 y2 y57 y87 yb hb12
            go_wp2_with fail
            go_roundw
            case rel => exact ⟨r + 1, by omega, by go_num, B12.out⟩
            case measure => simp [intOf]; omega

      · have e6 : ((r : Int) != (b : Int)) = true := by simp; omega
        cases lr
        · skip
          refine zaB (by kernel_rfl) (by kernel_rfl) ?_
          repeat (first | (go_big_quiet_step (fail)) | (go_big_quiet_want; refine zaM 64 _ ⟨gn, r * 3, none⟩ _ rfl rfl (RN.out hne) ?_; simp only [Act.put, List.setIfInBounds_toArray, List.set_cons_succ, List.set_cons_zero]; go_big_quiet_on) | (go_big_quiet_want; refine zaM 64 _ ⟨wr.heap.size, 0, none⟩ _ rfl rfl RL.out ?_; simp only [Act.put, List.setIfInBounds_toArray, List.set_cons_succ, List.set_cons_zero]; go_big_quiet_on))
          refine wpQuiet_nil ?_
          rintro w12 ⟨⟨w12x, hb12⟩, rfl⟩
          have B12 := zhd (zae (zae HB.out B11.out) hb12)
          clear y0 y1 y2 y57 y87 yb hb12
          go_wp2_with fail
          go_roundw
          case rel => exact ⟨r + 1, by omega, by go_num, B12.out⟩
          case measure => simp [intOf]; omega
        · cases f
          · skip
            refine zaB (by kernel_rfl) (by kernel_rfl) ?_
            repeat (first | (go_big_quiet_step (fail)) | (go_big_quiet_want; refine zaM 64 _ ⟨gn, r * 3, none⟩ _ rfl rfl (RN.out hne) ?_; simp only [Act.put, List.setIfInBounds_toArray, List.set_cons_succ, List.set_cons_zero]; go_big_quiet_on) | (go_big_quiet_want; refine zaM 64 _ ⟨wr.heap.size, 0, none⟩ _ rfl rfl RL.out ?_; simp only [Act.put, List.setIfInBounds_toArray, List.set_cons_succ, List.set_cons_zero]; go_big_quiet_on))
            refine wpQuiet_nil ?_
            rintro w12 ⟨⟨w12x, hb12⟩, rfl⟩
            have B12 := zhd (zae (zae HB.out B11.out) hb12)
            clear y0 y1 y2 y57 y87 yb hb12
            go_wp2_with fail
            go_roundw
            case rel => exact ⟨r + 1, by omega, by go_num, B12.out⟩
            case measure => simp [intOf]; omega
          · obtain rfl := HNO.out rfl rfl
            refine zaB (by kernel_rfl) (by kernel_rfl) ?_
            repeat (first | (go_big_quiet_step (fail)) | (go_big_quiet_want; refine zaM 64 _ ⟨gn, r * 3, none⟩ _ rfl rfl (RN.out hne) ?_; simp only [Act.put, List.setIfInBounds_toArray, List.set_cons_succ, List.set_cons_zero]; go_big_quiet_on) | (go_big_quiet_want; refine zaM 64 _ ⟨wr.heap.size, 0, none⟩ _ rfl rfl RL.out ?_; simp only [Act.put, List.setIfInBounds_toArray, List.set_cons_succ, List.set_cons_zero]; go_big_quiet_on))
            refine wpQuiet_nil ?_
            rintro w12 ⟨⟨w12x, hb12⟩, rfl⟩
            have B12 := zhd (zae (zae HB.out B11.out) hb12)
            clear y0 y1 y2 y57 y87 yb hb12
            go_wp2_with fail
            go_roundw
            case rel => exact ⟨r + 1, by omega, by go_num, B12.out⟩
            case measure => simp [intOf]; omega

    · have hrn : r = ln := by omega
      subst hrn
      have d0 : decide ((r : Int) < (r : Int)) = false := by simp
      obtain ⟨g3, u3, rfl, hg3, r3⟩ := (T11.out.below HB.out).hart_at HREGS.out c81.out hiT
      rw [HTI.out] at r3
      obtain ⟨Y, hY⟩ : ∃ x, x = zgd X (-2147483648 + b) := ⟨_, rfl⟩
      rw [← hY] at r3
      have hY32 : Y.r.length = 32 := by rw [hY]; exact hX32
      have HY32 : Hid ((hA Y)[32]? = some (.int .i64 X.ve)) := zhd (by have := (zbr Y hY32).1; rw [this, hY]; rfl)
      have HY36 : Hid ((hA Y)[36]? = some (.int .i64 X.pc)) := zhd (by have := (zbr Y hY32).2.2.2.2.1; rw [this, hY]; rfl)
      have HY37 : Hid ((hA Y)[37]? = some (.int .i64 ((b : Int) - 2147483648))) := zhd (by
       have := (zbr Y hY32).2.2.2.2.2.1
       rw [this, hY]
       show some (Value.int .i64 (wrap32 (-2147483648 + b))) = _
       rw [w32_id ⟨by omega, by omega⟩, show (-2147483648 : Int) + b = b - 2147483648 by omega])
      have HLY := zhd (zdT hY32 r3)
      clear hY r3
      have HALL : Hid (∀ w', Below wr.heap.size wr w' → w'.cell? ⟨bm, 7, none⟩ = some (.slice (some ⟨gl, 0, none⟩) r lc) ∧ w'.cell? ⟨bn, 7, none⟩ = some (.slice (some ⟨gn, 0, none⟩) r lc') ∧ w'.cell? ⟨gl, b * 3, none⟩ = some (.int .i64 i) ∧ w'.cell? ⟨gl, b * 3 + 1, none⟩ = some (.int .i64 LB.p) ∧ w'.cell? ⟨gl, b * 3 + 2, none⟩ = some (.bool true) ∧ w'.cell? ⟨gn, b * 3 + 2, none⟩ = some (.bool false) ∧ w'.cell? ⟨bx, 32, none⟩ = some (.int .i64 X.pc) ∧ w'.cell? ⟨bx, 34, none⟩ = some (.int .i64 X.ve) ∧ w'.cell? ⟨bx, 38, none⟩ = some (.int .i64 X.le) ∧ bm < w'.heap.size ∧ bn < w'.heap.size ∧ gl < w'.heap.size ∧ gn < w'.heap.size ∧ bx < w'.heap.size) := zhd (by
       intro w' hb'
       have a1 := zaf hb' HV.out; have a2 := zaf hb' HU.out; have a3 := zaf hb' HGL8.out; have a4 := zaf hb' HGN8.out
       have a5 := zaf (zae HB.out hb') X10.out
       have b1 := zd3 HLB8.out HGL8.out a3; have b2 := zd3 HNB8.out HGN8.out a4
       have z0 : w'.cell? ⟨gl, b * 3, none⟩ = some (.int .i64 LB.h) := b1 0 _ rfl
       have z2 : w'.cell? ⟨gl, b * 3 + 2, none⟩ = some (.bool LB.r) := b1 2 _ rfl
       rw [HMAY.out.1] at z0; rw [HMAY.out.2.1] at z2
       exact ⟨zad a1 c57.out, zad a2 c87.out, z0, b1 1 _ rfl, z2, b2 2 _ rfl, zad a5 g32, zad a5 g34, zad a5 g38, zao a1, zao a2, zao a3, zao a4, zao a5⟩)
      have HLDT : Hid (∀ w', Below wr.heap.size wr w' → (loadVar 37 ⟨bn, 0, none⟩).run Tryz.prog w' = .ok (.agg c8) w') := zhd (fun w' hb' => zcE (T11.out.below (zae HB.out hb')))
      have HFST : Hid (∀ w', Below wr.heap.size wr w' → Calls Tryz.prog 20 #[.agg c8, .int .i64 i] w' fun e w'' => e = .returned (.int .i64 (-1)) ∧ Below w'.heap.size w' w'') := zhd (fun w' hb' => by
       have := zhV _ w' T i (T11.out.below (zae HB.out hb')).mac HREGS.out HTL8.out
       rwa [HNONE.out] at this)
      have v57 := zad HV.out c57.out
      have v81 := zad HU.out c81.out
      have lbm := zao HV.out; have lbn := zao HU.out; have lg3 := zao hg3
      have d3 : decide ((H : Int) ≤ (i : Int)) = false := by simp; omega
      have e0 : decide ((b : Int) < 0) = false := by simp
      have e1 : decide ((r : Int) ≤ (b : Int)) = false := by simpa using hbl
      have e2 : decide (X.le < LB.p) = true := by simpa using HMAY.out.2.2.2
      have e3 : IntKind.i64.wrap ((b : Int) - 2147483648) = (b : Int) - 2147483648 := IntWalk.i64_in _ (by omega)
      have BB := zhd (zae B10.out HB.out)
      go_upto_region 22 with (first | ((with_reducible refine load_run_at (o := ⟨_, .load _ _, _, _, _, _⟩) ?_ 56 _ rfl g3 (i * 39) ?_ (.agg (hA Y)) HLY.out ?_); rotate_left; exact rfl; rotate_left; exact rfl) | (refine wpList_store_row rfl 56 _ _ rfl wr.heap.size (hA Y) rfl rfl 56 zA (zat wr _) (by rw [zaw Y hY32]; exact zdm) (by rw [zaw Y hY32]; rfl) (zbj Y) ?_))
      obtain ⟨w12, hw12⟩ : ∃ x, x = (wr.alloc (.cells zA 56)).setRow wr.heap.size (hA Y) := ⟨_, rfl⟩
      have hb12 : Below wr.heap.size wr w12 := by rw [hw12]; exact below_setRow (zan wr _) (Nat.le_refl _) _
      have hy12 : ((wr.alloc (.cells zA 56)).setRow wr.heap.size (hA Y)).heap[wr.heap.size]? = some (.cells (hA Y) 56 (0, 0)) := setRow_heap _ _ _ _ _ _ (zat wr _)
      rw [← hw12] at hy12
      first | rw [← hw12] | (change Code.wp _ _ _ _ ((wr.alloc (.cells zA 56)).setRow wr.heap.size (hA Y)); rw [← hw12])
      obtain ⟨v57', v87', l0', l1', l2', n2', x32', x34', x38', s1, s2, s3, s4, s5⟩ := HALL.out w12 hb12
      have s6 := zao hy12
      have z57 := fun x => zal s1 v57' x
      have z87 := fun x => zal s2 v87' x
      have z0 := fun x => zal s3 l0' x
      have z1 := fun x => zal s3 l1' x
      have z2 := fun x => zal s3 l2' x
      have zn := fun x => zal s4 n2' x
      have z32 := fun x => zal s5 x32' x
      have z34 := fun x => zal s5 x34' x
      have z38 := fun x => zal s5 x38' x
      have w32 := fun x => zal s6 (zad hy12 HY32.out) x
      have w36 := fun x => zal s6 (zad hy12 HY36.out) x
      have w37 := fun x => zal s6 (zad hy12 HY37.out) x
      have HB12 := zhd hb12
      have RM : Hid (∀ w' : World, (∃ x : Wd w12, w' = x.val) → (loadVar 37 ⟨bn, 0, none⟩).run Tryz.prog w' = .ok (.agg c8) w') := zhd (by rintro w' ⟨x, rfl⟩; exact HLDT.out _ (zae HB12.out x.bel))
      have HQ : Hid (∀ x : Wd w12, Calls Tryz.prog 20 #[.agg c8, .int .i64 i] x.val fun e w'' => e = .returned (.int .i64 (-1)) ∧ Below x.val.heap.size x.val w'') := zhd (fun x => HFST.out _ (zae HB12.out x.bel))
      have k1 : ((i : Int) == (i : Int)) = true := by simp
      have k2 : (X.ve == X.ve) = true := by simp
      have k3 : (X.pc == X.pc) = true := by simp
      have k4 : ((b : Int) - 2147483648 == (b : Int) - 2147483648) = true := by simp
      clear hw12 hb12 hy12 v57' v87' l0' l1' l2' n2' x32' x34' x38' s1 s2 s3 s4 s5 s6 HALL HLDT HFST v57 v81 lbm lbn lg3 HLY
      try simp only [List.append_eq, List.cons_append, List.nil_append]
      try simp only [Act.put, List.setIfInBounds_toArray, List.set_cons_succ, List.set_cons_zero]
      refine zaB (by kernel_rfl) (by kernel_rfl) ?_
      repeat (first | (go_big_quiet_step ((go_at_call 20; with_reducible exact zcJ (HQ.out _)))) | (go_big_quiet_want; refine zaM 37 _ ⟨bn, 0, none⟩ _ rfl rfl RM.out ?_; simp only [Act.put, List.setIfInBounds_toArray, List.set_cons_succ, List.set_cons_zero]; go_big_quiet_on))
      refine wpQuiet_nil ?_
      rintro w13 ⟨⟨w13x, hb13⟩, rfl⟩
      clear z57 z87 z0 z1 z2 zn z32 z34 z38 w32 w36 w37 RM HQ
      go_wp2_with fail
      go_ret
      exact ⟨ret1 (za1 (by first | rfl | simp)), zae BB.out (zae HB12.out hb13)⟩

end Go.Proofs.YtdobddiibgfeaaaGreat
