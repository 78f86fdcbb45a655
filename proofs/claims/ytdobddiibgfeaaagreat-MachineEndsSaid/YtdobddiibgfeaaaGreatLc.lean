/-
  What the walks of this statement lean on (MacEnds): shown.
-/
import Derived.Test.YtdobddiibgfeaaaGreatZa
import Derived.Test.YtdobddiibgfeaaaGreatZz
set_option linter.unusedVariables false
set_option linter.unusedSimpArgs false
namespace Go.Proofs.YtdobddiibgfeaaaGreat
section
open Go.RowKit
set_option maxRecDepth 100000
def twoSt : List (List Bool) := [false, true].flatMap fun s => (zdJ.filter fun t => s || !t.getD 0 false).map ([true, true, s] ++ ·)
def twoCo (fl : List Bool) (i : Nat) : Bool := i == 2 || (i == 3 && fl.getD 2 false) || (decide (4 ≤ i) && zk7 (fl.drop 3) (i - 3))
theorem two_mem {fl : List Bool} (h : fl ∈ twoSt) : fl.drop 3 ∈ zdJ := by
 obtain ⟨s, _, h⟩ := List.mem_flatMap.1 h
 obtain ⟨t, ht, rfl⟩ := List.mem_map.1 h
 exact (List.mem_filter.1 ht).1
theorem MVar.hart_at {w : World} {b n c : Nat} {cs : Array Value} {M : Mac} {a : Option Addr} (h : MVar w b cs M) (hr : ∀ x ∈ M.harts, x.r.length = 32) (hc : cs[1]? = some (.slice a n c)) {i : Nat} (hi : i < M.harts.length) : ∃ g cur, a = some ⟨g, 0, none⟩ ∧ w.heap[g]? = some (.cells cur 56 (0, 0)) ∧ w.rangeAt g (i * 39) (hC M.harts[i]) := by
 obtain ⟨wv, hv, ev, m1, m2, m3, dv, lv, tv, qs, e, hp⟩ := h.mac
 obtain ⟨g, c', cur, e1, hg, _, hrg, _⟩ := hp.hart hr hi
 injection e with e
 subst e
 simp only [List.getElem?_toArray, List.getElem?_cons_succ, List.getElem?_cons_zero, Option.some.injEq] at hc
 rw [hc] at e1
 injection e1 with e1 _ _
 exact ⟨g, cur, e1, hg, hrg⟩
theorem MVar.end_at {w : World} {b n c : Nat} {cs : Array Value} {M : Mac} {a : Option Addr} (h : MVar w b cs M) (hc : cs[2]? = some (.slice a n c)) {i : Nat} (hi : i < M.ends.length) : ∃ g cur, a = some ⟨g, 0, none⟩ ∧ w.heap[g]? = some (.cells cur 3 (0, 0)) ∧ w.cell? ⟨g, i, none⟩ = some (.int .i64 M.ends[i]) := by
 obtain ⟨wv, hv, ev, m1, m2, m3, dv, lv, tv, qs, e, hp⟩ := h.mac
 obtain ⟨g, c', cur, e1, hg, _, hrg, _⟩ := zbM hp.ends hi
 injection e with e
 subst e
 simp only [List.getElem?_toArray, List.getElem?_cons_succ, List.getElem?_cons_zero, Option.some.injEq] at hc
 rw [hc] at e1
 injection e1 with e1 _ _
 exact ⟨g, cur, e1, hg, hrg⟩
theorem two_set (fl : List Bool) : (fl.set 2 true).drop 3 = fl.drop 3 := by rw [List.drop_set_of_lt (by decide)]
set_option maxHeartbeats 16000000 in
theorem walkEnds (v0 : Value) (l0 : List (Int × Int × Int × Int)) (a1 b1 c1 : Int) (v2 : Value) (l2 : List (Int × Int × Int)) (v3 : Value) (l3 : List (Int × Int × Int)) (w : World) (g0 : ArgS 4 c4 w v0 l0) (u0 : ∀ r ∈ l0, ok4 r) (i1 : I64 a1) (i2 : I64 b1) (i3 : I64 c1) (g2 : ArgS 3 c3 w v2 l2) (u2 : ∀ r ∈ l2, ok3 r) (g3 : ArgS 3 c3 w v3 l3) (u3 : ∀ r ∈ l3, ok3 r) :
 Calls Tryz.prog 9 #[v0, .agg #[.int .i64 a1, .int .i64 b1, .int .i64 c1], v2, v3] w fun e w' => e = .returned (.bool true) ∧ Below w.heap.size w w' := by
 have G3 := zhd g3; have U3 := zhd u3
 obtain ⟨ma, mc, rfl, _, _, _⟩ := g3
 clear u3
 have G0 := zhd g0; have U0 := zhd u0; have G2 := zhd g2; have U2 := zhd u2
 obtain ⟨va, vc, rfl, _, _, _⟩ := g0
 obtain ⟨ta, tc, rfl, _, _, _⟩ := g2
 clear u0 u2
 obtain ⟨w1, hw1, hx1, hb1, _⟩ := zbY w (.cells #[.int .i64 a1, .int .i64 b1, .int .i64 c1] 23)
 have X1 := zhd hx1; have B1 := zhd hb1
 clear hx1 hb1
 go_enter Tryz.func9, Tryz.ntmps9
 go_upto_region 1 with (fail)
 rw [← hw1]; clear hw1
 go_upto_region 2 with (go_at_call 10; ((with_reducible refine (awake15 _).mono ?_); rintro e w2 ⟨rfl, hb2⟩; have B2' := zhd hb2; clear hb2))
 obtain ⟨t0, t1, t2⟩ := zah (zaf B2'.out X1.out)
 have B2 := zhd (zae B1.out B2'.out)
 have G0' := zhd (G0.out.below B2.out); have G2' := zhd (G2.out.below B2.out)
 have GM0 : Hid (GoodM (zhn l0 a1 b1 c1) (zc3 a1) 0) := zhd (zkm l0 a1 b1 c1)
 have hsl := zhr l2
 clear X1 B1 B2' G0 G2
 go_upto_region 3 with (first | (go_at_call 15; ((with_reducible refine (zk2 G0'.out U0 i1 i2 i3).mono ?_); rintro e w3 ⟨c3, rfl, n3, m3, b3⟩)) | (go_at_call 16; ((with_reducible refine (zjM (G2'.out.below b3.out) U2).mono ?_); rintro e w4 ⟨sa, sc, rfl, hs4, b4⟩; have HR := zhd (zgH (m3.out.below b4.out) hs4.out GM0 (by omega)))) | (go_at_call 22; ((with_reducible refine HR.out.mono ?_); rintro e w5 ⟨c5, rfl, n5, m5, b5⟩)) | (refine wpList_store_row rfl 37 _ _ rfl (w5.heap.size) c5 rfl rfl 37 nil9 (zat w5 _) n5.info (by rw [zb2.size, n5.size]) n5.one ?_))
 obtain ⟨w6, hw6⟩ : ∃ x, x = (w5.alloc (.cells nil9 37)).setRow w5.heap.size c5 := ⟨_, rfl⟩
 have GM : Hid (GoodM (runR (zhn l0 a1 b1 c1) (zcn l2)).1 (zc3 a1) (0 + (zcn l2).length)) := zhd (zfv (zcn l2) GM0.out)
 have SM : Hid (StaM (runR (zhn l0 a1 b1 c1) (zcn l2)).1) := zhd (sta_run _ (sta_start l0 a1 b1 c1))
 have hb6 : Below w2.heap.size w2 w6 := by rw [hw6]; exact zae (zae (zae b3.out b4.out) b5.out) (zeq w5 c5)
 have V6 : Hid (MVar w6 w5.heap.size c5 (runR (zhn l0 a1 b1 c1) (zcn l2)).1) := zhd (by rw [hw6]; exact zew w5 n5 m5.out)
 have B6 := zhd (zae B2.out hb6)
 rw [← hw6]
 obtain ⟨NN, hNN⟩ : ∃ x, x = 0 + (zcn l2).length := ⟨_, rfl⟩
 have hNs : NN ≤ 120 := by omega
 rw [← hNN] at GM
 clear hw6 b3 m3 b4 hs4 b5 m5 HR hb6 t0 t1 t2 B2 G0' G2' U0 U2 GM0 hNN
 generalize w5.heap.size = bm at *
 obtain ⟨M, hM⟩ : ∃ x, x = (runR (zhn l0 a1 b1 c1) (zcn l2)).1 := ⟨_, rfl⟩
 rw [← hM] at V6 GM SM
 clear hM hsl
 have hH := zgv a1
 obtain ⟨H, hHe⟩ : ∃ x, x = zc3 a1 := ⟨_, rfl⟩
 rw [← hHe] at GM hH
 clear hHe
 have G3' := zhd (G3.out.below B6.out)
 have hsl3 := zhr l3
 obtain ⟨R, hR⟩ : ∃ x, x = (runR M (zcn l3)).1 := ⟨_, rfl⟩
 obtain ⟨rn, hrn⟩ : ∃ x, x = (runR M (zcn l3)).2 := ⟨_, rfl⟩
 have GR : Hid (GoodM R H (NN + (zcn l3).length)) := zhd (by rw [hR]; exact zfv (zcn l3) GM.out)
 have KR : Hid (KeptR M R) := zhd (by rw [hR]; exact run_kept _ _)
 have HRQ : Hid (∀ w' sa sc, Below w6.heap.size w6 w' → ArgS 4 choC w' (.slice sa (zcn l3).length sc) (zcn l3) → Calls Tryz.prog 22 #[.agg c5, .slice sa (zcn l3).length sc] w' fun e w'' => ∃ cs, e = .returned (.tuple #[.agg cs, .int .i64 rn]) ∧ Nine cs ∧ Hid (IsMac w'' (.agg cs) R) ∧ Hid (Below w'.heap.size w' w'')) := zhd (fun w' sa sc hb hs => by rw [hR, hrn]; exact zgH (V6.out.mac.below hb) hs GM (by omega))
 clear hR hrn G3 SM
 refine zaV (fun w' => Below w6.heap.size w6 w') [true, true] (by kernel_rfl) (by kernel_rfl) (by kernel_rfl) (fun a b h hu => zae h hu) (Below.refl _ _) ?aa7 ?hh7 ?ht7
 case hh7 =>
  intro w0 hb0
  have R0 : Hid (∀ w' : World, (∃ x : Wd w0, w' = x.val) → (loadVar 37 ⟨bm, 0, none⟩).run Tryz.prog w' = .ok (.agg c5) w') := zhd (by rintro w' ⟨x, rfl⟩; exact zcE ((V6.out.below hb0).below x.bel))
  simp only [zbb]
  go_big_quiet_want
  refine zaM 37 _ ⟨bm, 0, none⟩ (.agg c5) rfl rfl R0.out ?_
  simp only [Act.put, List.setIfInBounds_toArray, List.set_cons_succ, List.set_cons_zero]
  go_big_quiet_on
  repeat (go_big_quiet_step (fail))
  refine wpQuiet_nil ?_
  rfl
 case ht7 =>
  change zbh _ _ _ _ _ 8 _ _ _
  refine zhe twoSt twoCo [true, true, false, false, false, false, false, false, false, false] _ (fun a0 fl a w' => ∃ us cs uc um u0 u1 ua uz, a = (((((((a0.put (some 37) us).put (some 38) uc).put (some 34) um).put (some 39) u0).put (some 40) u1).put (some 12) ua).put (some 13) uz) ∧ (fl.getD 2 false = true → fl.getD 3 false = false → ∃ sa sc, us = .slice sa (zcn l3).length sc ∧ ArgS 4 choC w' (.slice sa (zcn l3).length sc) (zcn l3)) ∧ PairI w6 R rn (fl.drop 3) cs uc um u0 u1 ua uz w') (by kernel_rfl) (by kernel_rfl) (by kernel_rfl) (zak (Below.refl _ _)) ?s7 ?i7 ?e7 ?t7
  case s7 => exact ⟨undef, nil9, undef, undef, undef, undef, undef, undef, by simp only [Act.put, List.setIfInBounds_toArray, List.set_cons_succ, List.set_cons_zero], fun x => absurd x (by decide), PairI.start (zak (Below.refl _ _)) rfl⟩
  case i7 =>
   rintro fl a w7 w8 ⟨us, cs, uc, um, u0, u1, ua, uz, e, hs, hI⟩ hu
   exact ⟨us, cs, uc, um, u0, u1, ua, uz, e, fun x y => by obtain ⟨sa, sc, e1, h1⟩ := hs x y; exact ⟨sa, sc, e1, h1.below hu⟩, hI.up hu⟩
  case t7 =>
   rintro fl a w7 i hm ⟨us, cs, uc, um, u0, u1, ua, uz, rfl, hs, hI⟩ hc hco hf
   have hI' := zhd hI
   have HS := zhd hs
   have hm7 := two_mem hm
   have hcw := zhd hc
   clear hI hs
   unfold twoCo zk7 at hco
   simp only [Bool.or_eq_true, Bool.and_eq_true, beq_iff_eq, decide_eq_true_eq] at hco
   rcases hco with (rfl | ⟨rfl, g⟩) | ⟨hri, hco⟩
   · refine zaP (i := 2) rfl ?_
     simp only [Act.put, List.setIfInBounds_toArray, List.set_cons_succ, List.set_cons_zero]
     go_wp2_with (go_at_call 16; ((with_reducible refine (zjM (G3'.out.below hcw.out) U3).mono ?_); rintro e w8 ⟨sa, sc, rfl, hs8, b8⟩))
     refine ⟨zae hcw.out b8.out, _, cs, uc, um, u0, u1, ua, uz, rfl, fun _ _ => ⟨sa, sc, rfl, hs8.out⟩, ?_⟩
     rw [two_set]
     exact hI'.out.up b8.out
   · have hd : (fl.drop 3)[0]? = some false := zmD (r := 3) (i := 0) hf
     have hdp := zjq fl 3 0
     obtain ⟨sa, sc, rfl, hs7⟩ := HS.out g (zcQ hf)
     have HRR := zhd (HRQ.out w7 sa sc hcw.out hs7)
     clear hs7 HS
     refine zaP (i := 3) rfl ?_
     simp only [Act.put, List.setIfInBounds_toArray, List.set_cons_succ, List.set_cons_zero]
     go_wp2_with (go_at_call 22; ((with_reducible refine HRR.out.mono ?_); rintro e w8 ⟨c8, rfl, n8, m8, b8⟩))
     refine ⟨zae hcw.out b8.out, _, c8, _, um, u0, u1, ua, uz, rfl, fun x y => absurd (y.symm.trans ((zfA fl 3).2 (by have := List.getElem?_eq_some_iff.1 hf; obtain ⟨h, _⟩ := this; exact h))) (by decide), ?_⟩
     rw [hdp]
     exact hI'.out.putc hm7 hd n8 m8.out b8.out
   obtain ⟨j, rfl⟩ : ∃ j, i = 3 + j := ⟨i - 3, by omega⟩
   rw [show 3 + j - 3 = j by omega] at hco
   have hd := zmD hf
   have hdp := zjq fl 3 j
   rcases hco with (((((rfl | rfl) | ⟨rfl, g0⟩) | ⟨rfl, g1⟩) | ⟨rfl, g1⟩) | ⟨rfl, g0, g2, g4⟩) | ⟨rfl, g3, g5⟩
   · exact absurd hri (by decide)
   · refine zaP (i := 7) rfl ?_
     simp only [Act.put, List.setIfInBounds_toArray, List.set_cons_succ, List.set_cons_zero]
     go_wp2_with fail
     refine ⟨zae hc (zan _ _), us, cs, uc, um, u0, u1, _, uz, rfl, fun x y => by
      rw [zap _ _ 2 (by decide)] at x; rw [zap _ _ 3 (by decide)] at y
      obtain ⟨sa, sc, e1, h1⟩ := HS.out x y
      exact ⟨sa, sc, e1, h1.below (zan _ _)⟩, ?_⟩
     rw [hdp]
     exact hI'.out.puta hm7 hd
   · refine zaP (i := 4) rfl ?_
     obtain ⟨rfl, _, _⟩ := hI'.out.fc g0
     simp only [Act.put, List.setIfInBounds_toArray, List.set_cons_succ, List.set_cons_zero]
     go_wp2_with fail
     refine ⟨hc, us, cs, _, _, u0, u1, ua, uz, rfl, fun x y => by
      rw [zap _ _ 2 (by decide)] at x; rw [zap _ _ 3 (by decide)] at y
      exact HS.out x y, ?_⟩
     rw [hdp]
     exact hI'.out.putm
   · refine zaP (i := 5) rfl ?_
     obtain rfl := hI'.out.fm g1
     simp only [Act.put, List.setIfInBounds_toArray, List.set_cons_succ, List.set_cons_zero]
     go_wp2_with fail
     refine ⟨hc, us, cs, uc, _, _, u1, ua, uz, rfl, fun x y => by
      rw [zap _ _ 2 (by decide)] at x; rw [zap _ _ 3 (by decide)] at y
      exact HS.out x y, ?_⟩
     rw [hdp]
     exact hI'.out.put0
   · refine zaP (i := 6) rfl ?_
     obtain rfl := hI'.out.fm g1
     simp only [Act.put, List.setIfInBounds_toArray, List.set_cons_succ, List.set_cons_zero]
     go_wp2_with fail
     refine ⟨hc, us, cs, uc, _, u0, _, ua, uz, rfl, fun x y => by
      rw [zap _ _ 2 (by decide)] at x; rw [zap _ _ 3 (by decide)] at y
      exact HS.out x y, ?_⟩
     rw [hdp]
     exact hI'.out.put1
   · refine zaP (i := 8) rfl ?_
     obtain rfl := hI'.out.f0 g2
     obtain ⟨b, e14, hb1, hx⟩ := hI'.out.fa g4
     have hn9 := (hI'.out.fc g0).2.1
     rw [zcQ hd, if_neg (by decide)] at hx
     have HX := zhd hx
     have HI2 := zhd (hI'.out.puts hm7 hx e14 hb1)
     have hg3 : fl.getD 3 false = true := by rw [List.getD_eq_getElem?_getD, List.getElem?_drop] at g0; exact g0
     subst e14
     clear hx hI' HS
     simp only [Act.put, List.setIfInBounds_toArray, List.set_cons_succ, List.set_cons_zero]
     go_wp2_with (refine wpList_store_row rfl 37 _ _ rfl (b) cs rfl rfl 37 nil9 HX.out hn9.info (by rw [zb2.size, hn9.size]) hn9.one ?_)
     refine ⟨below_setRow hc hb1 _, us, cs, uc, um, _, u1, _, uz, rfl, fun x y => by
      rw [zap _ _ 3 (by decide), hg3] at y
      exact absurd y (by decide), ?_⟩
     rw [hdp]
     exact HI2.out
   · refine zaP (i := 9) rfl ?_
     obtain rfl := hI'.out.f1 g3
     simp only [Act.put, List.setIfInBounds_toArray, List.set_cons_succ, List.set_cons_zero]
     go_wp2_with fail
     refine ⟨hc, us, cs, uc, um, u0, _, ua, _, rfl, fun x y => by
      rw [zap _ _ 2 (by decide)] at x; rw [zap _ _ 3 (by decide)] at y
      exact HS.out x y, ?_⟩
     rw [hdp]
     exact hI'.out.putz
  case e7 =>
   rintro fl a w7 ha hm ⟨us, c7, uc, um, u0, u1, ua, uz, rfl, _, hI⟩ hc
   obtain ⟨bn, rfl, rfl, rfl, rfl, rfl, rfl, hv, hbW⟩ := hI.done (two_mem hm) (zjz 3 ha)
   have V7 := zhd hv
   have hb7 := hI.bel
   clear hI hc ha hm hv HRQ
   simp only [Act.put, List.setIfInBounds_toArray, List.set_cons_succ, List.set_cons_zero]
   have W7 := zhd (V6.out.below hb7); have B7 := zhd (zae B6.out hb7)
   clear hb7 hbW V6 B6 G3'

   have hH1 := GM.out.harts; have hE1 := GM.out.ends; have hH2 := GR.out.harts; have hE2 := GR.out.ends
   obtain ⟨wa, ha, ea, qa, ra, pa, da, la, ta, wc, hc, ec, qc, rc, pc, dc, lc, tc, C5⟩ := W7.out.open
   obtain ⟨wa', ha', ea', qa', ra', pa', da', la', ta', wc', hc', ec', qc', rc', pc', dc', lc', tc', C7⟩ := V7.out.open
   have ce := C5.eq; have ce' := C7.eq
   rw [hH1, hE1] at ce; rw [hH2, hE2] at ce'
   obtain ⟨tn, htn⟩ : ∃ x, x = M.trace.length := ⟨_, rfl⟩
   obtain ⟨tn', htn'⟩ : ∃ x, x = R.trace.length := ⟨_, rfl⟩
   rw [← htn] at ce; rw [← htn'] at ce'
   have htt : tn ≤ tn' := by rw [htn, htn']; exact KR.out.trace
   have c51 : Hid (c5[1]? = some (.slice ha H hc)) := zhd (by rw [ce]; rfl)
   have c52 : Hid (c5[2]? = some (.slice ea H ec)) := zhd (by rw [ce]; rfl)
   have c58 : Hid (c5[8]? = some (.slice ta tn tc)) := zhd (by rw [ce]; rfl)
   have c71 : Hid (c7[1]? = some (.slice ha' H hc')) := zhd (by rw [ce']; rfl)
   have c72 : Hid (c7[2]? = some (.slice ea' H ec')) := zhd (by rw [ce']; rfl)
   have c78 : Hid (c7[8]? = some (.slice ta' tn' tc')) := zhd (by rw [ce']; rfl)
   have q51 := zad W7.out.at_ c51.out; have q52 := zad W7.out.at_ c52.out; have q71 := zad V7.out.at_ c71.out; have q72 := zad V7.out.at_ c72.out
   have lbm := zao W7.out.at_; have lbn := zao V7.out.at_
   clear ce ce' C5 C7 htn htn'
   have HH1 := zhd hH1; have HE1 := zhd hE1; have HH2 := zhd hH2; have HE2 := zhd hE2
   clear hH1 hE1 hH2 hE2
   have d1 : decide ((H : Int) < 1) = false := by simp; omega
   have d2 : ((H : Int) != (H : Int)) = false := by simp
   go_upto_region 6 with (fail)
   clear q51 q52 q71 q72 d1 d2 lbm lbn
   go_wp2_with fail

   go_loopw [14] (fun i wr => ∃ k : Nat, k ≤ H ∧ i = .int .i64 k ∧ Below w7.heap.size w7 wr) (fun i _ => H - (intOf i).toNat)
   case atStart => exact ⟨0, Nat.zero_le _, rfl, Below.refl _ _⟩
   case round =>
    obtain ⟨k, hk, rfl, hb⟩ := hrel
    have W8 := zhd (W7.out.below hb); have V8 := zhd (V7.out.below hb); have B8 := zhd (zae B7.out hb)
    have HB := zhd hb
    clear hb
    have q52 := zad W8.out.at_ c52.out
    have lbm := zao W8.out.at_
    by_cases hlt : k < H
    rotate_left
    · have hkn : k = H := by omega
      subst hkn
      have d0 : decide ((k : Int) < (k : Int)) = false := by simp
      have q58 := zad W8.out.at_ c58.out; have q78 := zad V8.out.at_ c78.out
      have lbn := zao V8.out.at_
      have d1 : decide ((tn' : Int) ≥ (tn : Int)) = true := by simp; omega
      have d1' : decide ((tn : Int) ≤ (tn' : Int)) = true := by simp; omega
      go_wp2_with fail
      go_ret
      exact ⟨ret1 (za1 (by first | rfl | simp | omega)), B8.out⟩
    have d0 : decide ((k : Int) < (H : Int)) = true := by simpa using hlt
    have HD1 := zhd (do_tup 1 k 0 0 W8.out.mac GM (by omega))
    have A10 := zhd W8.out.at_
    go_upto_region 10 with (first | (refine wpList_load_row rfl 37 _ rfl (bm) rfl 37 c5 (0, 0) _ A10.out Tryz.underlying37 rfl n5.info ?_) | (go_at_call 17; ((with_reducible refine HD1.out.mono ?_); rintro e w9 ⟨c9, rfl, n9, m9, b9⟩)) | (refine wpList_store_row rfl 37 _ _ rfl (w9.heap.size) c9 rfl rfl 37 nil9 (zat w9 _) n9.info (by rw [zb2.size, n9.size]) n9.one ?_))
    obtain ⟨w10, hw10⟩ : ∃ x, x = (w9.alloc (.cells nil9 37)).setRow w9.heap.size c9 := ⟨_, rfl⟩
    have hb10 : Below wr.heap.size wr w10 := by rw [hw10]; exact zae b9.out (zeq w9 c9)
    have W10 := zhd (W8.out.below hb10); have V10 := zhd (V8.out.below hb10); have B10 := zhd (zae B8.out hb10); have HB10 := zhd (zae HB.out hb10)
    rw [← hw10]
    clear hw10 hb10 b9 m9 n9 A10 HD1 W8 V8 B8 HB q52 lbm
    have HD2 := zhd (do_tup 4 k 0 0 W10.out.mac GM (by omega))
    have A12 := zhd W10.out.at_
    go_upto_region 11 with (first | (refine wpList_load_row rfl 37 _ rfl (bm) rfl 37 c5 (0, 0) _ A12.out Tryz.underlying37 rfl n5.info ?_) | (go_at_call 17; ((with_reducible refine HD2.out.mono ?_); rintro e w11 ⟨c11, rfl, n11, m11, b11⟩)) | (refine wpList_store_row rfl 37 _ _ rfl (w11.heap.size) c11 rfl rfl 37 nil9 (zat w11 _) n11.info (by rw [zb2.size, n11.size]) n11.one ?_))
    obtain ⟨w12, hw12⟩ : ∃ x, x = (w11.alloc (.cells nil9 37)).setRow w11.heap.size c11 := ⟨_, rfl⟩
    have hb12 : Below w10.heap.size w10 w12 := by rw [hw12]; exact zae b11.out (zeq w11 c11)
    have W12 := zhd (W10.out.below hb12); have V12 := zhd (V10.out.below hb12); have B12 := zhd (zae B10.out hb12); have HB12 := zhd (zae HB10.out hb12)
    rw [← hw12]
    clear hw12 hb12 b11 m11 n11 A12 HD2 W10 V10 B10 HB10
    have hit : zc9 M (k : Int) = true := by rw [isHart_of GM.out]; simp; exact hlt
    have E1 : (doR M ⟨1, k, 0, 0⟩).2 = 100 ↔ zc9 M k = true ∧ zkv M k ≠ 0 := step_no
    have E2 : (doR M ⟨4, k, 0, 0⟩).2 = 100 ↔ zc9 M k = true ∧ zkv M k ≠ 0 := take_no
    obtain ⟨e1, he1⟩ : ∃ x, x = (doR M ⟨1, k, 0, 0⟩).2 := ⟨_, rfl⟩
    obtain ⟨e2, he2⟩ : ∃ x, x = (doR M ⟨4, k, 0, 0⟩).2 := ⟨_, rfl⟩
    rw [← he1] at E1 ⊢; rw [← he2] at E2 ⊢
    have hkE : k < M.ends.length := by rw [HE1.out]; exact hlt
    have hkH : k < M.harts.length := by rw [HH1.out]; exact hlt
    have hkE' : k < R.ends.length := by rw [HE2.out]; exact hlt
    have hkH' : k < R.harts.length := by rw [HH2.out]; exact hlt
    obtain ⟨g1, u1, rfl, hg1, z1⟩ := W12.out.end_at c52.out hkE
    obtain ⟨g2, u2, rfl, hg2, z2⟩ := V12.out.end_at c72.out hkE'
    have hez : zkv M k = M.ends[k] := by simp [zkv, hkE]
    have KE := KR.out.ended k hkE hkH
    rw [List.getD_eq_getElem?_getD, List.getElem?_eq_getElem hkE, List.getElem?_eq_getElem hkE', List.getElem?_eq_getElem hkH, List.getElem?_eq_getElem hkH'] at KE
    simp only [Option.getD_some, Option.some.injEq] at KE
    rw [hez] at E1 E2
    have q52 := zad W12.out.at_ c52.out; have q72 := zad V12.out.at_ c72.out; have q51 := zad W12.out.at_ c51.out; have q71 := zad V12.out.at_ c71.out
    have lbm := zao W12.out.at_; have lbn := zao V12.out.at_; have lg1 := zao hg1; have lg2 := zao hg2
    have y51 := fun x => zal lbm q51 x; have y52 := fun x => zal lbm q52 x; have y71 := fun x => zal lbn q71 x; have y72 := fun x => zal lbn q72 x
    have y1 := fun x => zal lg1 z1 x; have y2 := fun x => zal lg2 z2 x
    have dk : decide ((H : Int) ≤ (k : Int)) = false := by simpa using hlt
    have dk' : decide (H ≤ k) = false := by simpa using hlt
    have d0' : decide (k < H) = true := by simpa using hlt
    have HKE := zhd KE; have HE1' := zhd E1; have HE2' := zhd E2; have HIT := zhd hit
    have hr1 := GM.out.regs M.harts[k] (List.getElem_mem _)
    have HW : Hid (∃ g cur, ha = some ⟨g, 0, none⟩ ∧ w12.heap[g]? = some (.cells cur 56 (0, 0)) ∧ w12.rangeAt g (k * 39) (hC M.harts[k])) := zhd (W12.out.hart_at GM.out.regs c51.out hkH)
    have HV : Hid (∃ g cur, ha' = some ⟨g, 0, none⟩ ∧ w12.heap[g]? = some (.cells cur 56 (0, 0)) ∧ w12.rangeAt g (k * 39) (hC R.harts[k])) := zhd (V12.out.hart_at GR.out.regs c71.out hkH')
    clear KE E1 E2 hit he1 he2 hez z1 z2 q51 q52 q71 q72 hg1 hg2
    generalize M.ends[k] = z at *
    generalize R.ends[k] = z' at *
    generalize M.harts[k] = X at *
    generalize R.harts[k] = X' at *
    clear hkE hkH hkE' hkH'
    by_cases hz : z = 0
    · subst hz
      have x1 : (e1 == 100) = false := by simp; intro h; exact (HE1'.out.1 h).2 rfl
      have x2 : (e2 == 100) = false := by simp; intro h; exact (HE2'.out.1 h).2 rfl
      refine zaB (by kernel_rfl) (by kernel_rfl) ?_
      repeat (go_big_quiet_step (fail))
      refine wpQuiet_nil ?_
      rintro w13 ⟨⟨w13x, hb13⟩, rfl⟩
      have B13 := zhd (zae HB12.out hb13)
      have q1 := y52 ⟨w13, hb13⟩; have q2 := y1 ⟨w13, hb13⟩
      simp only at q1 q2
      have l1 := Nat.lt_of_lt_of_le lbm hb13.size; have l2 := Nat.lt_of_lt_of_le lg1 hb13.size
      clear y51 y52 y71 y72 y1 y2 hb13 lbm lbn lg1 lg2
      go_wp2_with fail
      go_roundw
      case rel => exact ⟨k + 1, by omega, by go_num, B13.out⟩
      case measure => simp [intOf]; omega
    · have x1 : (e1 != 100) = false := by simp; exact HE1'.out.2 ⟨HIT.out, hz⟩
      have x2 : (e2 != 100) = false := by simp; exact HE2'.out.2 ⟨HIT.out, hz⟩
      obtain ⟨rfl, rfl⟩ := HKE.out hz
      have x3 : (z' != z') = false := by simp
      have x4 : (z' != 0) = true := by simpa using hz
      have x5 : (z' == 0) = false := by simpa using hz
      obtain ⟨g3, u3, rfl, hg3, r3⟩ := HW.out
      obtain ⟨g4, u4, rfl, hg4, r4⟩ := HV.out
      have R3 : Hid (∀ w' : World, (∃ x : Wd w12, w' = x.val) → (loadVar 56 ⟨g3, k * 39, none⟩).run Tryz.prog w' = .ok (.agg (hA X')) w') := zhd (by
       rintro w' ⟨x, rfl⟩
       exact zdT hr1 (zdp (zao hg3) r3 x))
      have R4 : Hid (∀ w' : World, (∃ x : Wd w12, w' = x.val) → (loadVar 56 ⟨g4, k * 39, none⟩).run Tryz.prog w' = .ok (.agg (hA X')) w') := zhd (by
       rintro w' ⟨x, rfl⟩
       exact zdT hr1 (zdp (zao hg4) r4 x))
      have hxb := fun w => eq_hart true X' X' hr1 hr1 (by simp) w
      clear HW HV hg3 hg4 r3 r4 HKE
      refine zaB (by kernel_rfl) (by kernel_rfl) ?_
      repeat (first | (go_big_quiet_step (fail)) | (go_big_quiet_want; refine zaM 56 _ ⟨g3, k * 39, none⟩ (.agg (hA X')) rfl rfl R3.out ?_; simp only [Act.put, List.setIfInBounds_toArray, List.set_cons_succ, List.set_cons_zero]; go_big_quiet_on) | (go_big_quiet_want; refine zaM 56 _ ⟨g4, k * 39, none⟩ (.agg (hA X')) rfl rfl R4.out ?_; simp only [Act.put, List.setIfInBounds_toArray, List.set_cons_succ, List.set_cons_zero]; go_big_quiet_on))
      refine wpQuiet_nil ?_
      rintro w13 ⟨⟨w13x, hb13⟩, rfl⟩
      have B13 := zhd (zae HB12.out hb13)
      have q1 := y52 ⟨w13, hb13⟩; have q2 := y1 ⟨w13, hb13⟩
      simp only at q1 q2
      have l1 := Nat.lt_of_lt_of_le lbm hb13.size; have l2 := Nat.lt_of_lt_of_le lg1 hb13.size
      clear y51 y52 y71 y72 y1 y2 hb13 lbm lbn lg1 lg2 hxb R3 R4
      go_wp2_with fail
      go_roundw
      case rel => exact ⟨k + 1, by omega, by go_num, B13.out⟩
      case measure => simp [intOf]; omega
end
end Go.Proofs.YtdobddiibgfeaaaGreat
