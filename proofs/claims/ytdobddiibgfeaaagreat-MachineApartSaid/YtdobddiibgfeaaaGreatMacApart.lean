/-
  MachineApart: what a choice leaves as it was.
-/
import Derived.Test.YtdobddiibgfeaaaGreatZa
import Derived.Test.YtdobddiibgfeaaaGreatZz
import Derived.Test.YtdobddiibgfeaaaGreatYk
import Derived.Test.YtdobddiibgfeaaaGreatZt
set_option linter.unusedVariables false
set_option linter.unusedSimpArgs false
namespace Go.Proofs.YtdobddiibgfeaaaGreat
section
open Go.RowKit
theorem acC_len (x : Ac) : (acC x).length = 5 := rfl
theorem doR_no (M : Mac) (c : Cho) : (doR M c).2 ≠ 0 → (doR M c).1 = zbQ := by
 unfold doR; repeat' split
 · exact stepM_no _ _
 · exact zmH _ _ _
 · exact zlx _ _
 · exact takeM_no _ _
 · exact zl8 _ _ _
 · intro _; rfl
end
open Go.RowKit
set_option maxRecDepth 100000
theorem ap_ends {w : World} {b n c : Nat} {cs : Array Value} {M : Mac} {a : Option Addr} (h : MVar w b cs M) (hc : cs[2]? = some (.slice a n c)) {i : Nat} (hi : i < M.ends.length) : ∃ g cur, a = some ⟨g, 0, none⟩ ∧ w.heap[g]? = some (.cells cur 3 (0, 0)) ∧ w.cell? ⟨g, i, none⟩ = some (.int .i64 M.ends[i]) := by
 obtain ⟨wv, hv, ev, m1, m2, m3, dv, lv, tv, qs, e, hp⟩ := h.mac
 obtain ⟨g, c', cur, e1, hg, _, hrg, _⟩ := zbM hp.ends hi
 injection e with e
 subst e
 simp only [List.getElem?_toArray, List.getElem?_cons_succ, List.getElem?_cons_zero, Option.some.injEq] at hc
 rw [hc] at e1
 injection e1 with e1 _ _
 exact ⟨g, cur, e1, hg, hrg⟩
theorem ap_hart {w : World} {b n c : Nat} {cs : Array Value} {M : Mac} {a : Option Addr} (h : MVar w b cs M) (hr : ∀ x ∈ M.harts, x.r.length = 32) (hc : cs[1]? = some (.slice a n c)) {i : Nat} (hi : i < M.harts.length) : ∃ g cur, a = some ⟨g, 0, none⟩ ∧ w.heap[g]? = some (.cells cur 56 (0, 0)) ∧ w.rangeAt g (i * 39) (hC M.harts[i]) := by
 obtain ⟨wv, hv, ev, m1, m2, m3, dv, lv, tv, qs, e, hp⟩ := h.mac
 obtain ⟨g, c', cur, e1, hg, _, hrg, _⟩ := hp.hart hr hi
 injection e with e
 subst e
 simp only [List.getElem?_toArray, List.getElem?_cons_succ, List.getElem?_cons_zero, Option.some.injEq] at hc
 rw [hc] at e1
 injection e1 with e1 _ _
 exact ⟨g, cur, e1, hg, hrg⟩
theorem ap_pend {w : World} {b n c : Nat} {cs : Array Value} {M : Mac} {a : Option Addr} (h : MVar w b cs M) (hc : cs[4]? = some (.slice a n c)) {i : Nat} (hi : i < M.mem.pend.length) : ∃ g cur, a = some ⟨g, 0, none⟩ ∧ w.heap[g]? = some (.cells cur 57 (0, 0)) ∧ ∃ pa pc, w.cell? ⟨g, i, none⟩ = some (.slice pa M.mem.pend[i].length pc) := by
 obtain ⟨wv, hv, ev, m1, m2, m3, dv, lv, tv, qs, e, hp⟩ := h.mac
 obtain ⟨b1, b2, b3, rows, em, _, k2, _, k4⟩ := hp.mem
 injection em with em
 have f2 : m2 = b2 := by have := congrArg (·[1]?) em; simpa using this
 subst f2
 obtain ⟨g, c', cur, e1, hg, _⟩ := zcb k2 (by omega)
 injection e with e
 subst e
 simp only [List.getElem?_toArray, List.getElem?_cons_succ, List.getElem?_cons_zero, Option.some.injEq] at hc
 rw [e1] at k2
 have hrl : rows.length = M.mem.pend.length := k4.1
 have hq := k2.cellAt i (by omega)
 have hri : rows[i]? = some rows[i] := List.getElem?_eq_getElem (by omega)
 have ho := k4.2 i _ _ hri (List.getElem?_eq_getElem hi)
 obtain ⟨pa, pc, ep⟩ := zai ho
 rw [hc] at e1
 injection e1 with e1 _ _
 exact ⟨g, cur, e1, hg, pa, pc, hq.trans (hri.trans (by rw [ep]))⟩
theorem ap_trace {w : World} {b n c : Nat} {cs : Array Value} {M : Mac} {a : Option Addr} (h : MVar w b cs M) (hc : cs[8]? = some (.slice a n c)) {i : Nat} (hi : i < M.trace.length) : ∃ g cur, a = some ⟨g, 0, none⟩ ∧ w.heap[g]? = some (.cells cur 59 (0, 0)) ∧ w.rangeAt g (i * 5) (acC M.trace[i]) := by
 obtain ⟨wv, hv, ev, m1, m2, m3, dv, lv, tv, qs, e, hp⟩ := h.mac
 obtain ⟨g, c', cur, e1, hg, _⟩ := zcb hp.trace (by omega)
 have hl := zfF hp.trace e1 hi (acC_len _) (fun j hj => zaY (fun y _ => acC_len y) (List.getElem?_eq_getElem hi) hj)
 injection e with e
 subst e
 simp only [List.getElem?_toArray, List.getElem?_cons_succ, List.getElem?_cons_zero, Option.some.injEq] at hc
 rw [hc] at e1
 injection e1 with e1 _ _
 exact ⟨g, cur, e1, hg, hl⟩
theorem infoAcS : (Tryz.prog.info? 59).map (·.size) = some 5 := by kernel_rfl
theorem load_acc {w : World} {g o : Nat} {l : Ac} (hr : w.rangeAt g o (acC l)) : (loadVar 59 ⟨g, o, none⟩).run Tryz.prog w = .ok (.agg #[.int .i64 l.h, .int .i64 l.d, .int .i64 l.g, .bool l.w, .int .i64 l.n]) w :=
 run_loadVar_mid (P := Tryz.prog) w g o 59 (acC l) _ hr Tryz.underlying59 rfl infoAcS
theorem load_cho {w : World} {g o : Nat} {l : Cho} (hr : w.rangeAt g o (choC l)) : (loadVar 28 ⟨g, o, none⟩).run Tryz.prog w = .ok (.agg #[.int .i64 l.k, .int .i64 l.h, .int .i64 l.w, .int .i64 l.n]) w :=
 run_loadVar_mid (P := Tryz.prog) w g o 28 (choC l) _ hr Tryz.underlying28 rfl infoC4
theorem argS_row9 {w : World} {v : Value} {l : List Cho} (h : ArgS 4 choC w v l) {b : Nat} {cs cs' : Array Value} (hb : w.heap[b]? = some (.cells cs 37 (0, 0))) (hn : Nine cs) : ArgS 4 choC (w.setRow b cs') v l := by
 obtain ⟨a, c, e, h1, h2, h3⟩ := h
 refine ⟨a, c, e, h1, h2, ?_⟩
 rcases h3 with h3 | ⟨b', o, rfl, hlt, hcell⟩
 · exact .inl h3
 · refine .inr ⟨b', o, rfl, by rw [size_setRow]; exact hlt, fun i r hr j u hj => ?_⟩
   have hc := hcell i r hr j u hj
   by_cases hbb : b' = b
   · subst hbb
     exfalso
     simp only [World.cell?, hb] at hc
     obtain ⟨x, y, z, hs⟩ := hn.all _ _ hc
     have hm : u ∈ choC r := List.mem_of_getElem? hj
     subst hs
     simp [choC] at hm
   · simp only [World.cell?] at hc ⊢
     rw [setRow_other w b b' cs' hbb]
     exact hc
set_option maxHeartbeats 16000000 in
theorem walkApart (v0 : Value) (l0 : List (Int × Int × Int × Int)) (a1 b1 c1 : Int) (v2 : Value) (l2 : List (Int × Int × Int)) (w : World) (g0 : ArgS 4 c4 w v0 l0) (u0 : ∀ r ∈ l0, ok4 r) (i1 : I64 a1) (i2 : I64 b1) (i3 : I64 c1) (g2 : ArgS 3 c3 w v2 l2) (u2 : ∀ r ∈ l2, ok3 r) :
 Calls Tryz.prog 4 #[v0, .agg #[.int .i64 a1, .int .i64 b1, .int .i64 c1], v2] w fun e w' => e = .returned (.bool true) ∧ Below w.heap.size w w' := by
 have G0 := zhd g0; have U0 := zhd u0; have G2 := zhd g2; have U2 := zhd u2
 obtain ⟨va, vc, rfl, _, _, _⟩ := g0
 obtain ⟨ta, tc, rfl, _, _, _⟩ := g2
 clear u0 u2
 obtain ⟨w1, hw1, hx1, hb1, _⟩ := zbY w (.cells #[.int .i64 a1, .int .i64 b1, .int .i64 c1] 23)
 have X1 := zhd hx1; have B1 := zhd hb1
 clear hx1 hb1
 go_enter Tryz.func4, Tryz.ntmps4
 go_upto_region 1 with (fail)
 rw [← hw1]; clear hw1
 go_upto_region 2 with (go_at_call 10; ((with_reducible refine (awake15 _).mono ?_); rintro e w2 ⟨rfl, hb2⟩; have B2' := zhd hb2; clear hb2))
 obtain ⟨t0, t1, t2⟩ := zah (zaf B2'.out X1.out)
 have B2 := zhd (zae B1.out B2'.out)
 have G0' := zhd (G0.out.below B2.out)
 clear X1 B1 B2' G0
 go_upto_region 3 with (first | (go_at_call 15; ((with_reducible refine (zk2 G0'.out U0 i1 i2 i3).mono ?_); rintro e w3 ⟨c3, rfl, n3, m3, b3⟩)) | (refine wpList_store_row rfl 37 _ _ rfl (w3.heap.size) c3 rfl rfl 37 nil9 (zat w3 _) n3.info (by rw [zb2.size, n3.size]) n3.one ?_))
 obtain ⟨w4, hw4⟩ : ∃ x, x = (w3.alloc (.cells nil9 37)).setRow w3.heap.size c3 := ⟨_, rfl⟩
 obtain ⟨M0, hM⟩ : ∃ x, x = zhn l0 a1 b1 c1 := ⟨_, rfl⟩
 obtain ⟨H, hHe⟩ : ∃ x, x = zc3 a1 := ⟨_, rfl⟩
 have hH := zgv a1
 rw [← hHe] at hH
 have GM : Hid (GoodM M0 H 0) := zhd (by rw [hM, hHe]; exact zkm l0 a1 b1 c1)
 rw [← hM] at m3
 have hb4 : Below w2.heap.size w2 w4 := by rw [hw4]; exact zae b3.out (zeq w3 c3)
 have V4 : Hid (MVar w4 w3.heap.size c3 M0) := zhd (by rw [hw4]; exact zew w3 n3 m3.out)
 have B4 := zhd (zae B2.out hb4)
 have G2' := zhd (G2.out.below B4.out)
 have hbm : w.heap.size ≤ w3.heap.size := Nat.le_trans B2.out.size b3.out.size
 rw [← hw4]
 clear hw4 hM b3 m3 hb4 t0 t1 t2 B2 G0' G2 U0 hHe
 generalize w3.heap.size = bm at *
 go_upto_region 4 with (go_at_call 16; ((with_reducible refine (zjM G2'.out U2).mono ?_); rintro e w5 ⟨sa, sc, rfl, hs5, hb5⟩; have V5 := zhd (V4.out.below hb5.out); have B5 := zhd (zae B4.out hb5.out)))
 obtain ⟨sl, hsl⟩ : ∃ x, x = zcn l2 := ⟨_, rfl⟩
 have hsn : sl.length ≤ 120 := by rw [hsl]; exact zhr l2
 rw [← hsl] at hs5 ⊢
 obtain ⟨n, hn⟩ : ∃ x, x = sl.length := ⟨_, rfl⟩
 have HN := zhd hn
 rw [← hn] at hs5 hsn ⊢
 clear hsl hn hb5 V4 B4 G2' U2
 go_wp2_with fail
 go_loopw [10] (fun i wr => ∃ (r : Nat) (c : Array Value) (M : Mac), r ≤ n ∧ i = .int .i64 r ∧ MVar wr bm c M ∧ GoodM M H r ∧ ArgS 4 choC wr (.slice sa n sc) sl ∧ Below w.heap.size w wr) (fun i _ => n - (intOf i).toNat)
 case atStart => exact ⟨0, c3, M0, Nat.zero_le _, rfl, V5.out, GM.out, hs5.out, B5.out⟩
 case round =>
  obtain ⟨r, c, M, hr, rfl, hv, hg, hs, hb⟩ := hrel
  have HV := zhd hv; have HG := zhd hg; have HS := zhd hs; have HB := zhd hb
  obtain ⟨w6, hw6⟩ : ∃ x, x = wr := ⟨_, rfl⟩
  subst hw6
  clear hv hg hs hb V5 GM hs5 B5 n3
  by_cases hlt : r < n
  rotate_left
  · have hrn : r = n := by omega
    subst hrn
    have d0 : decide ((r : Int) < (r : Int)) = false := by simp
    go_wp2_with fail
    go_ret
    exact ⟨ret1 (za1 (by first | rfl | simp)), HB.out⟩
  have d0 : decide ((r : Int) < (n : Int)) = true := by simpa using hlt
  have hrl : r < sl.length := by rw [← HN.out]; exact hlt
  have hne : ¬ sl = [] := by intro h; rw [h] at hrl; exact absurd hrl (by simp)
  obtain ⟨sa', sc', es, _, _, hs3⟩ := HS.out
  injection es with es1 es2 es3
  subst es1 es3
  obtain ⟨sb, so, rfl, hslt, hsc⟩ := hs3.resolve_left hne
  have hcr := hsc r sl[r] (List.getElem?_eq_getElem hrl)
  obtain ⟨kk, hk⟩ : ∃ x, x = sl[r].k := ⟨_, rfl⟩
  obtain ⟨hh, hh'⟩ : ∃ x, x = sl[r].h := ⟨_, rfl⟩
  obtain ⟨ww, hw'⟩ : ∃ x, x = sl[r].w := ⟨_, rfl⟩
  obtain ⟨nn, hn'⟩ : ∃ x, x = sl[r].n := ⟨_, rfl⟩
  have HCH : Hid (∀ j v, (choC ⟨kk, hh, ww, nn⟩)[j]? = some v → w6.cell? ⟨sb, so + r * 4 + j, none⟩ = some v) := zhd (fun j v hj => hcr j v (by rw [hk, hh', hw', hn'] at hj; exact hj))
  clear hs3 hsc hcr hne es2 hk hh' hw' hn'
  obtain ⟨N', hN'⟩ : ∃ y, y = (doR M ⟨kk, hh, ww, nn⟩).1 := ⟨_, rfl⟩
  obtain ⟨ne, hne⟩ : ∃ y, y = (doR M ⟨kk, hh, ww, nn⟩).2 := ⟨_, rfl⟩
  have HDO : Hid (∀ w', Below w6.heap.size w6 w' → Calls Tryz.prog 17 #[.agg c, .agg #[.int .i64 kk, .int .i64 hh, .int .i64 ww, .int .i64 nn]] w' fun e w'' => ∃ cs, e = .returned (.tuple #[.agg cs, .int .i64 ne]) ∧ Nine cs ∧ Hid (IsMac w'' (.agg cs) N') ∧ Hid (Below w'.heap.size w' w'')) := zhd (fun w' hb' => by
   rw [hN', hne]; exact do_tup kk hh ww nn (HV.out.below hb').mac HG (by omega))
  have HNO : Hid (ne ≠ 0 → N' = zbQ) := zhd (fun h => by rw [hN']; exact doR_no M _ (by rw [← hne]; exact h))
  have HKE : Hid (ne = 0 → Kept ⟨kk, hh, ww, nn⟩ M N' ∧ GoodM N' H (r + 1)) := zhd (fun h => by
   rw [hN']
   exact ⟨do_kept (by rw [← hne]; exact h), good_do HG.out _ (by rw [← hne]; exact h)⟩)
  clear hN' hne
  have q0 : decide ((n : Int) ≤ (r : Int)) = false := by simpa using hlt
  have q1 : decide ((r : Int) < 0) = false := by simp
  go_upto_region 7 with (fail)
  refine zaV (fun w' => Below w6.heap.size w6 w') [true, true, true, true, true] (by kernel_rfl) (by kernel_rfl) (by kernel_rfl) (fun a b h hu => zae h hu) (Below.refl _ _) ?aa8 ?hh8 ?ht8
  case hh8 =>
   intro w0 hb0
   have R0 : Hid (∀ w' : World, (∃ x : Wd w0, w' = x.val) → (loadVar 37 ⟨bm, 0, none⟩).run Tryz.prog w' = .ok (.agg c) w') := zhd (by rintro w' ⟨x, rfl⟩; exact zcE ((HV.out.below hb0).below x.bel))
   have R1 : Hid (∀ w' : World, (∃ x : Wd w0, w' = x.val) → (loadVar 28 ⟨sb, so + r * 4, none⟩).run Tryz.prog w' = .ok (.agg #[.int .i64 kk, .int .i64 hh, .int .i64 ww, .int .i64 nn]) w') := zhd (by rintro w' ⟨x, rfl⟩; exact load_cho (l := ⟨kk, hh, ww, nn⟩) (zdp (Nat.lt_of_lt_of_le hslt hb0.size) (fun j v hj => by rw [hb0.cell (p := ⟨sb, _, none⟩) hslt]; exact HCH.out j v hj) x))
   simp only [zbb]
   go_big_quiet_want
   refine zaM 37 _ ⟨bm, 0, none⟩ (.agg c) rfl rfl R0.out ?_
   simp only [Act.put, List.setIfInBounds_toArray, List.set_cons_succ, List.set_cons_zero]
   go_big_quiet_on
   iterate 3 (go_big_quiet_step (fail))
   go_big_quiet_want
   refine zaM 28 _ ⟨sb, so + r * 4, none⟩ (.agg #[.int .i64 kk, .int .i64 hh, .int .i64 ww, .int .i64 nn]) rfl rfl R1.out ?_
   simp only [Act.put, List.setIfInBounds_toArray, List.set_cons_succ, List.set_cons_zero]
   go_big_quiet_on
   refine wpQuiet_nil ?_
   rfl
  case ht8 =>
   change zbh _ _ _ _ _ 7 _ _ _
   refine zhe (zlA 5) (zi9 5) [true, true, true, true, true, false, false, false, false, false, false, false] _ (fun a0 fl a w' => ∃ cs uc um u0 u1 ua uz, a = ((((((a0.put (some 39) uc).put (some 33) um).put (some 40) u0).put (some 41) u1).put (some 11) ua).put (some 12) uz) ∧ PairI w6 N' ne (fl.drop 5) cs uc um u0 u1 ua uz w') (by kernel_rfl) (by kernel_rfl) (by kernel_rfl) (zak (Below.refl _ _)) ?s8 ?i8 ?e8 ?t8
   case s8 =>
    refine ⟨nil9, ?v1, ?v2, ?v3, ?v4, ?v5, ?v6, ?eq, PairI.start (zak (Below.refl _ _)) rfl⟩
    case eq => simp only [Act.put, List.setIfInBounds_toArray, List.set_cons_succ, List.set_cons_zero]; exact rfl
   case i8 =>
    rintro fl a w7 w8 ⟨cs, uc, um, u0, u1, ua, uz, e, hI⟩ hu
    exact ⟨cs, uc, um, u0, u1, ua, uz, e, hI.up hu⟩
   case t8 =>
    rintro fl a w7 i hm ⟨cs, uc, um, u0, u1, ua, uz, rfl, hI⟩ hc hco hf
    have hI' := zhd hI
    have hm7 := zfp hm
    clear hI
    unfold zi9 zk7 at hco
    simp only [Bool.or_eq_true, Bool.and_eq_true, beq_iff_eq, decide_eq_true_eq] at hco
    obtain ⟨hri, hco⟩ := hco
    obtain ⟨j, rfl⟩ : ∃ j, i = 5 + j := ⟨i - 5, by omega⟩
    rw [show 5 + j - 5 = j by omega] at hco
    have hd := zmD hf
    have hdp := zjq fl 5 j
    clear hri
    rcases hco with (((((rfl | rfl) | ⟨rfl, g0⟩) | ⟨rfl, g1⟩) | ⟨rfl, g1⟩) | ⟨rfl, g0, g2, g4⟩) | ⟨rfl, g3, g5⟩
    · refine zaP (i := 5) rfl ?_
      simp only [Act.put, List.setIfInBounds_toArray, List.set_cons_succ, List.set_cons_zero]
      have hcw := zhd hc
      go_wp2_with (go_at_call 17; ((with_reducible refine (HDO.out _ hcw.out).mono ?_); rintro e w8 ⟨c8, rfl, n8, m8, b8⟩))
      refine ⟨zae hcw.out b8.out, c8, _, um, u0, u1, ua, uz, rfl, ?_⟩
      rw [hdp]
      exact hI'.out.putc hm7 hd n8 m8.out b8.out
    · refine zaP (i := 9) rfl ?_
      simp only [Act.put, List.setIfInBounds_toArray, List.set_cons_succ, List.set_cons_zero]
      go_wp2_with fail
      refine ⟨zae hc (zan _ _), cs, uc, um, u0, u1, _, uz, rfl, ?_⟩
      rw [hdp]
      exact hI'.out.puta hm7 hd
    · refine zaP (i := 6) rfl ?_
      obtain ⟨rfl, _, _⟩ := hI'.out.fc g0
      simp only [Act.put, List.setIfInBounds_toArray, List.set_cons_succ, List.set_cons_zero]
      go_wp2_with fail
      refine ⟨hc, cs, _, _, u0, u1, ua, uz, rfl, ?_⟩
      rw [hdp]
      exact hI'.out.putm
    · refine zaP (i := 7) rfl ?_
      obtain rfl := hI'.out.fm g1
      simp only [Act.put, List.setIfInBounds_toArray, List.set_cons_succ, List.set_cons_zero]
      go_wp2_with fail
      refine ⟨hc, cs, uc, _, _, u1, ua, uz, rfl, ?_⟩
      rw [hdp]
      exact hI'.out.put0
    · refine zaP (i := 8) rfl ?_
      obtain rfl := hI'.out.fm g1
      simp only [Act.put, List.setIfInBounds_toArray, List.set_cons_succ, List.set_cons_zero]
      go_wp2_with fail
      refine ⟨hc, cs, uc, _, u0, _, ua, uz, rfl, ?_⟩
      rw [hdp]
      exact hI'.out.put1
    · refine zaP (i := 10) rfl ?_
      obtain rfl := hI'.out.f0 g2
      obtain ⟨b, e14, hb1, hx⟩ := hI'.out.fa g4
      have hn9 := (hI'.out.fc g0).2.1
      rw [zcQ hd, if_neg (by decide)] at hx
      have HX := zhd hx
      have HI2 := zhd (hI'.out.puts hm7 hx e14 hb1)
      subst e14
      clear hx hI'
      simp only [Act.put, List.setIfInBounds_toArray, List.set_cons_succ, List.set_cons_zero]
      go_wp2_with (refine wpList_store_row rfl 37 _ _ rfl (b) cs rfl rfl 37 nil9 HX.out hn9.info (by rw [zb2.size, hn9.size]) hn9.one ?_)
      refine ⟨below_setRow hc hb1 _, cs, uc, um, _, u1, _, uz, rfl, ?_⟩
      rw [hdp]
      exact HI2.out
    · refine zaP (i := 11) rfl ?_
      obtain rfl := hI'.out.f1 g3
      simp only [Act.put, List.setIfInBounds_toArray, List.set_cons_succ, List.set_cons_zero]
      go_wp2_with fail
      refine ⟨hc, cs, uc, um, u0, _, ua, _, rfl, ?_⟩
      rw [hdp]
      exact hI'.out.putz
   case e8 =>
    rintro fl a w8 ha hm ⟨c8, uc, um, u0, u1, ua, uz, rfl, hI⟩ hc
    obtain ⟨b8, rfl, rfl, rfl, rfl, rfl, rfl, hv, hbW⟩ := hI.done (zfp hm) (zjz 5 ha)
    have V8 := zhd hv
    have hb8 := hI.bel
    clear hI hc ha hm hv
    simp only [Act.put, List.setIfInBounds_toArray, List.set_cons_succ, List.set_cons_zero]
    have W8 := V8
    clear V8
    have V8 := zhd (HV.out.below hb8); have B8 := zhd (zae HB.out hb8); have S8 := zhd (HS.out.below hb8)
    have hslt8 := Nat.lt_of_lt_of_le hslt hb8.size
    have HC8 : Hid (∀ j v, (choC ⟨kk, hh, ww, nn⟩)[j]? = some v → w8.cell? ⟨sb, so + r * 4 + j, none⟩ = some v) := zhd (fun j v hj => (hb8.cell (p := ⟨sb, _, none⟩) hslt).trans (HCH.out j v hj))
    have hbn : bm ≠ b8 := by have := zao HV.out.at_; omega
    clear hb8 HDO hslt HCH HS HB HV

    by_cases hz : ne = 0
    rotate_left
    · as_aux_lemma =>
      have hz' : (ne != 0) = true := by simpa using hz
      obtain rfl := HNO.out hz
      obtain ⟨wa, ha, ea, qa, ra, pa, da, la, ta, wc, hc, ec, qc, rc, pc, dc, lc, tc, C8⟩ := W8.out.open
      have ce := C8.eq
      have k0 := zad W8.out.at_ (j := 0) (u := .slice wa 0 wc) (by rw [ce]; rfl)
      have k1 := zad W8.out.at_ (j := 1) (u := .slice ha 0 hc) (by rw [ce]; rfl)
      have k8 := zad W8.out.at_ (j := 8) (u := .slice ta 0 tc) (by rw [ce]; rfl)
      have lb8 := zao W8.out.at_
      clear ce C8 HNO HKE
      go_wp2_with fail
      go_roundw
      case rel => exact ⟨r + 1, c, M, by omega, by go_num, V8.out, zbP HG.out (by omega), S8.out, B8.out⟩
      case measure => simp [intOf]; omega
    subst hz
    obtain ⟨hke, hgn⟩ := HKE.out rfl
    have K := zhd hke; have HGN := zhd hgn
    clear hke hgn HKE HNO
    obtain ⟨wa, ha, ea, qa, ra, pa, da, la, ta, wc, hc, ec, qc, rc, pc, dc, lc, tc, C5⟩ := V8.out.open
    obtain ⟨wa', ha', ea', qa', ra', pa', da', la', ta', wc', hc', ec', qc', rc', pc', dc', lc', tc', C8⟩ := W8.out.open
    have ce := C5.eq; have ce' := C8.eq
    have hpl : M.mem.pend.length = H := by obtain ⟨W, _, gm⟩ := HG.out.mem; exact gm.pend
    rw [HG.out.harts, HG.out.ends, hpl] at ce
    rw [HGN.out.harts, HGN.out.ends, K.out.words, K.out.pl, hpl] at ce'
    obtain ⟨wn, hwn⟩ : ∃ x, x = M.words.length := ⟨_, rfl⟩
    obtain ⟨tn, htn⟩ : ∃ x, x = M.trace.length := ⟨_, rfl⟩
    obtain ⟨tn', htn'⟩ : ∃ x, x = N'.trace.length := ⟨_, rfl⟩
    rw [← hwn, ← htn] at ce; rw [← hwn, ← htn'] at ce'
    have ht1 : tn ≤ tn' ∧ tn' ≤ tn + 1 := by
     rw [htn, htn']
     rcases K.out.trace with h | ⟨_, a, _, h⟩ <;> rw [h] <;> simp
    have ht120 : tn ≤ 120 := by rw [htn]; exact Nat.le_trans HG.out.trace (by omega)
    have c50 : Hid (c[0]? = some (.slice wa wn wc)) := zhd (by rw [ce]; rfl)
    have c51 : Hid (c[1]? = some (.slice ha H hc)) := zhd (by rw [ce]; rfl)
    have c52 : Hid (c[2]? = some (.slice ea H ec)) := zhd (by rw [ce]; rfl)
    have c54 : Hid (c[4]? = some (.slice pa H pc)) := zhd (by rw [ce]; rfl)
    have c58 : Hid (c[8]? = some (.slice ta tn tc)) := zhd (by rw [ce]; rfl)
    have c80 : Hid (c8[0]? = some (.slice wa' wn wc')) := zhd (by rw [ce']; rfl)
    have c81 : Hid (c8[1]? = some (.slice ha' H hc')) := zhd (by rw [ce']; rfl)
    have c82 : Hid (c8[2]? = some (.slice ea' H ec')) := zhd (by rw [ce']; rfl)
    have c84 : Hid (c8[4]? = some (.slice pa' H pc')) := zhd (by rw [ce']; rfl)
    have c88 : Hid (c8[8]? = some (.slice ta' tn' tc')) := zhd (by rw [ce']; rfl)
    have HTN := zhd htn; have HTN' := zhd htn'; have HPL := zhd hpl
    clear ce ce' C5 C8 hwn htn htn' hpl
    have q50 := zad V8.out.at_ c50.out; have q51 := zad V8.out.at_ c51.out; have q52 := zad V8.out.at_ c52.out; have q54 := zad V8.out.at_ c54.out; have q58 := zad V8.out.at_ c58.out
    have q80 := zad W8.out.at_ c80.out; have q81 := zad W8.out.at_ c81.out; have q82 := zad W8.out.at_ c82.out; have q84 := zad W8.out.at_ c84.out; have q88 := zad W8.out.at_ c88.out
    have lbm := zao V8.out.at_; have lbn := zao W8.out.at_
    have e1 : ((H : Int) != (H : Int)) = false := by simp
    have e2 : decide ((tn' : Int) < (tn : Int)) = false := by simp; omega
    have e3 : IntKind.i64.wrap ((tn : Int) + 1) = (tn : Int) + 1 := IntWalk.i64_in _ (by omega)
    have e4 : decide ((tn : Int) + 1 < (tn' : Int)) = false := by simp; omega
    have e5 : ((wn : Int) != (wn : Int)) = false := by simp
    try simp only [List.append_eq, List.cons_append, List.nil_append]
    go_upto_region 13 with (fail)
    clear q50 q51 q52 q54 q58 q80 q81 q82 q84 q88 e2 e3 e4 e5 lbm lbn q0 q1 d0

    obtain ⟨own, hown⟩ : ∃ b : Bool, b = (kk == 1 || (kk == 2 || kk == 4)) := ⟨_, rfl⟩
    have HOWN := zhd hown
    have x0 : w8.cell? ⟨sb, so + r * 4, none⟩ = some (.int .i64 kk) := HC8.out 0 _ rfl
    have f0 : decide ((n : Int) ≤ (r : Int)) = false := by simpa using hlt
    have f1 : decide ((r : Int) < 0) = false := by simp
    go_cut [13] (fun s wx => s = .bool own ∧ wx = w8)
    case first =>
     as_aux_lemma =>
     by_cases h1 : kk = 1
     · have g1 : (kk == 1) = true := by simpa using h1
       have ho : own = true := by rw [hown, g1]; rfl
       subst ho
       clear hown
       go_wp2_with fail
       go_meet
       case rel => exact ⟨rfl, rfl⟩
     · have g1 : (kk == 1) = false := by simpa using h1
       by_cases h2 : kk = 2
       · have g2 : (kk == 2) = true := by simpa using h2
         have ho : own = true := by rw [hown, g1, g2]; rfl
         subst ho
         clear hown
         go_wp2_with fail
         go_meet
         case rel => exact ⟨rfl, rfl⟩
       · have g2 : (kk == 2) = false := by simpa using h2
         by_cases h4 : kk = 4
         · have g4 : (kk == 4) = true := by simpa using h4
           have ho : own = true := by rw [hown, g1, g2, g4]; rfl
           subst ho
           clear hown
           go_wp2_with fail
           go_meet
           case rel => exact ⟨rfl, rfl⟩
         · have g4 : (kk == 4) = false := by simpa using h4
           have ho : own = false := by rw [hown, g1, g2, g4]; rfl
           subst ho
           clear hown
           go_wp2_with fail
           go_meet
           case rel => exact ⟨rfl, rfl⟩
    case rest =>
    obtain ⟨rfl, hwc⟩ := hcut
    have hwd := hwc.symm
    subst hwd
    clear hown x0

    go_wp2_with fail
    go_loopw [14] (fun i w' => ∃ q : Nat, q ≤ H ∧ i = .int .i64 q ∧ Below w8.heap.size w8 w') (fun i _ => H - (intOf i).toNat)

    case atStart => exact ⟨0, Nat.zero_le _, rfl, Below.refl _ _⟩
    case round =>
     obtain ⟨q, hq, rfl, hb⟩ := hrel
     obtain ⟨w9, hw9⟩ : ∃ x, x = wr := ⟨_, rfl⟩
     subst hw9
     have HB9 := zhd hb
     have V9 := zhd (V8.out.below hb); have W9 := zhd (W8.out.below hb)
     have hslt9 := Nat.lt_of_lt_of_le hslt8 hb.size
     have x1 : w9.cell? ⟨sb, so + r * 4 + 1, none⟩ = some (.int .i64 hh) := (hb.cell (p := ⟨sb, _, none⟩) hslt8).trans (HC8.out 1 _ rfl)
     clear hb
     have q51 := zad V9.out.at_ c51.out; have q52 := zad V9.out.at_ c52.out; have q54 := zad V9.out.at_ c54.out
     have lbm := zao V9.out.at_
     by_cases hql : q < H

     · as_aux_lemma =>
       have g0 : decide ((q : Int) < (H : Int)) = true := by simpa using hql
       obtain ⟨oh, hoh⟩ : ∃ b : Bool, b = (own && ((q : Int) == hh)) := ⟨_, rfl⟩
       have HOH := zhd hoh
       obtain ⟨qh, hqh⟩ : ∃ b : Bool, b = ((q : Int) == hh) := ⟨_, rfl⟩
       have g1 : ((q : Int) == hh) = qh := hqh.symm
       rw [← hqh] at hoh HOH
       have HQH := zhd hqh
       clear hqh
       go_upto_region 17 with (fail)
       go_cut [164] (fun s wx => s = .bool oh ∧ wx = w9)
       case first =>
        cases own <;> cases qh <;> (have ho := hoh; simp at ho; subst ho; clear hoh; go_wp2_with fail; go_meet; exact ⟨rfl, rfl⟩)
       case rest =>
       obtain ⟨rfl, hwc⟩ := hcut
       have hwd := hwc.symm
       subst hwd
       clear hoh g1 x1
       cases oh
       rotate_left
       · go_wp2_with fail
         go_roundw
         case rel => exact ⟨q + 1, by omega, by go_num, HB9.out⟩
         case measure => simp [intOf]; omega

       have HNOT : Hid (¬ ((kk = 1 ∨ kk = 2 ∨ kk = 4) ∧ (q : Int) = hh)) := zhd (by
        rintro ⟨h1, h2⟩
        have a1 : own = true := by rw [HOWN.out]; rcases h1 with h | h | h <;> simp [h]
        have a2 : qh = true := by rw [HQH.out]; simpa using h2
        have := HOH.out
        rw [a1, a2] at this
        cases this)
       have hqM : q < M.harts.length := by rw [HG.out.harts]; exact hql
       have hqN : q < N'.harts.length := by rw [HGN.out.harts]; exact hql
       have hqE : q < M.ends.length := by rw [HG.out.ends]; exact hql
       have hqF : q < N'.ends.length := by rw [HGN.out.ends]; exact hql
       have hqP : q < M.mem.pend.length := by rw [HPL.out]; exact hql
       have hqQ : q < N'.mem.pend.length := by rw [K.out.pl, HPL.out]; exact hql
       have eh : N'.harts[q] = M.harts[q] := by
        have := K.out.harts q (fun h => HNOT.out ⟨h.1.elim .inl fun h => .inr (.inr h), h.2⟩)
        rw [List.getElem?_eq_getElem hqM, List.getElem?_eq_getElem hqN] at this
        exact Option.some.inj this
       have ee : N'.ends[q] = M.ends[q] := by
        have := K.out.ends q (fun h => HNOT.out ⟨.inl h.1, h.2⟩)
        rw [List.getElem?_eq_getElem hqE, List.getElem?_eq_getElem hqF] at this
        exact Option.some.inj this
       have ep : N'.mem.pend[q] = M.mem.pend[q] := by
        have := K.out.pend q (fun h => HNOT.out ⟨h.1.elim .inl fun h => .inr (.inl h), h.2⟩)
        rw [List.getElem?_eq_getElem hqP, List.getElem?_eq_getElem hqQ] at this
        exact Option.some.inj this
       obtain ⟨g1, u1, rfl, hg1, r1⟩ := ap_hart V9.out HG.out.regs c51.out hqM
       obtain ⟨g2, u2, rfl, hg2, r2⟩ := ap_hart W9.out HGN.out.regs c81.out hqN
       obtain ⟨g3, u3, rfl, hg3, r3⟩ := ap_ends V9.out c52.out hqE
       obtain ⟨g4, u4, rfl, hg4, r4⟩ := ap_ends W9.out c82.out hqF
       obtain ⟨g5, u5, rfl, hg5, p5, o5, r5⟩ := ap_pend V9.out c54.out hqP
       obtain ⟨g6, u6, rfl, hg6, p6, o6, r6⟩ := ap_pend W9.out c84.out hqQ
       have hx32 := HG.out.regs M.harts[q] (List.getElem_mem _)
       rw [eh] at r2; rw [ee] at r4; rw [ep] at r6
       clear eh ee ep
       generalize M.harts[q] = X at *
       generalize M.ends[q] = E at *
       generalize M.mem.pend[q].length = PL at *
       have l1 := zao hg1; have l2 := zao hg2; have l3 := zao hg3; have l4 := zao hg4; have l5 := zao hg5; have l6 := zao hg6
       have lbn := zao W9.out.at_
       have R1 : Hid (∀ w' : World, (∃ x : Wd w9, w' = x.val) → (loadVar 56 ⟨g1, q * 39, none⟩).run Tryz.prog w' = .ok (.agg (hA X)) w') := zhd (by rintro w' ⟨x, rfl⟩; exact zdT hx32 (zdp l1 r1 x))
       have R2 : Hid (∀ w' : World, (∃ x : Wd w9, w' = x.val) → (loadVar 56 ⟨g2, q * 39, none⟩).run Tryz.prog w' = .ok (.agg (hA X)) w') := zhd (by rintro w' ⟨x, rfl⟩; exact zdT hx32 (zdp l2 r2 x))
       have y51 := fun x => zal lbm q51 x
       have y52 := fun x => zal lbm q52 x
       have y54 := fun x => zal lbm q54 x
       have y81 := fun x => zal lbn (zad W9.out.at_ c81.out) x
       have y82 := fun x => zal lbn (zad W9.out.at_ c82.out) x
       have y84 := fun x => zal lbn (zad W9.out.at_ c84.out) x
       have y3 := fun x => zal l3 r3 x
       have y4 := fun x => zal l4 r4 x
       have y5 := fun x => zal l5 r5 x
       have y6 := fun x => zal l6 r6 x
       have hxb := fun w => eq_hart true X X hx32 hx32 (by simp) w
       have e2 : (E != E) = false := by simp
       have e3 : ((PL : Int) != (PL : Int)) = false := by simp
       have e4 : decide ((H : Int) ≤ (q : Int)) = false := by simpa using hql
       have e5 : decide ((q : Int) < 0) = false := by simp
       clear hg1 hg2 hg3 hg4 hg5 hg6 r1 r2 r3 r4 r5 r6 q51 q52 q54
       go_upto_region 18 with (fail)
       refine zaB (by kernel_rfl) (by kernel_rfl) ?_
       repeat (first | (go_big_quiet_step (fail)) | (go_big_quiet_want; refine zaM 56 _ ⟨g2, q * 39, none⟩ (.agg (hA X)) rfl rfl R2.out ?_; simp only [Act.put, List.setIfInBounds_toArray, List.set_cons_succ, List.set_cons_zero]; go_big_quiet_on) | (go_big_quiet_want; refine zaM 56 _ ⟨g1, q * 39, none⟩ (.agg (hA X)) rfl rfl R1.out ?_; simp only [Act.put, List.setIfInBounds_toArray, List.set_cons_succ, List.set_cons_zero]; go_big_quiet_on))
       refine wpQuiet_nil ?_
       rintro w10 ⟨⟨w10x, hb10⟩, rfl⟩
       have B10 := zhd (zae HB9.out hb10)
       clear y51 y52 y54 y81 y82 y84 y3 y4 y5 y6 hb10 R1 R2 hxb l1 l2 l3 l4 l5 l6 lbm lbn
       go_wp2_with fail
       go_roundw
       case rel => exact ⟨q + 1, by omega, by go_num, B10.out⟩
       case measure => simp [intOf]; omega

     · have hqn : q = H := by omega
       subst hqn
       have g0 : decide ((q : Int) < (q : Int)) = false := by simp
       go_upto_region 20 with (fail)
       clear q51 q52 q54 lbm g0 x1
       have HBA := HB9
       go_wp2_with fail
       go_loopw [15] (fun i w' => ∃ z : Nat, z ≤ tn ∧ i = .int .i64 z ∧ Below w8.heap.size w8 w') (fun i _ => tn - (intOf i).toNat)
       case atStart => exact ⟨0, Nat.zero_le _, rfl, HBA.out⟩
       case round =>
        obtain ⟨z, hz, rfl, hb⟩ := hrel
        obtain ⟨w11, hw11⟩ : ∃ x, x = wr := ⟨_, rfl⟩
        subst hw11
        have HB11 := zhd hb
        have V11 := zhd (V8.out.below hb); have W11 := zhd (W8.out.below hb)
        have S11 := zhd (S8.out.below hb)
        have hslt11 := Nat.lt_of_lt_of_le hslt8 hb.size
        have x0 : w11.cell? ⟨sb, so + r * 4, none⟩ = some (.int .i64 kk) := (hb.cell (p := ⟨sb, _, none⟩) hslt8).trans (HC8.out 0 _ rfl)
        have x1 : w11.cell? ⟨sb, so + r * 4 + 1, none⟩ = some (.int .i64 hh) := (hb.cell (p := ⟨sb, _, none⟩) hslt8).trans (HC8.out 1 _ rfl)
        clear hb
        have q58 := zad V11.out.at_ c58.out; have q88 := zad W11.out.at_ c88.out
        have lbm := zao V11.out.at_; have lbn := zao W11.out.at_
        by_cases hzl : z < tn
        · as_aux_lemma =>
          have g0 : decide ((z : Int) < (tn : Int)) = true := by simpa using hzl
          have hzM : z < M.trace.length := by rw [← HTN.out]; exact hzl
          have hzN : z < N'.trace.length := by rw [← HTN'.out]; omega
          have et : N'.trace[z] = M.trace[z] := by
           have e : N'.trace[z]? = M.trace[z]? := by
            rcases K.out.trace with h | ⟨_, a, _, h⟩
            · rw [h]
            · rw [h, List.getElem?_append_left hzM]
           rw [List.getElem?_eq_getElem hzM, List.getElem?_eq_getElem hzN] at e
           exact Option.some.inj e
          obtain ⟨g1, u1, rfl, hg1, r1⟩ := ap_trace V11.out c58.out hzM
          obtain ⟨g2, u2, rfl, hg2, r2⟩ := ap_trace W11.out c88.out hzN
          rw [et] at r2
          clear et
          generalize M.trace[z] = X at *
          have l1 := zao hg1; have l2 := zao hg2
          have R1 : Hid (∀ w' : World, (∃ x : Wd w11, w' = x.val) → (loadVar 59 ⟨g1, z * 5, none⟩).run Tryz.prog w' = .ok (.agg #[.int .i64 X.h, .int .i64 X.d, .int .i64 X.g, .bool X.w, .int .i64 X.n]) w') := zhd (by rintro w' ⟨x, rfl⟩; exact load_acc (zdp l1 r1 x))
          have R2 : Hid (∀ w' : World, (∃ x : Wd w11, w' = x.val) → (loadVar 59 ⟨g2, z * 5, none⟩).run Tryz.prog w' = .ok (.agg #[.int .i64 X.h, .int .i64 X.d, .int .i64 X.g, .bool X.w, .int .i64 X.n]) w') := zhd (by rintro w' ⟨x, rfl⟩; exact load_acc (zdp l2 r2 x))
          have y58 := fun x => zal lbm q58 x
          have y88 := fun x => zal lbn q88 x
          have hxb := fun w => eq_acc true X X (by simp) w
          have e4 : decide ((tn : Int) ≤ (z : Int)) = false := by simpa using hzl
          have e4' : decide ((tn' : Int) ≤ (z : Int)) = false := by simp; omega
          have e5 : decide ((z : Int) < 0) = false := by simp
          clear hg1 hg2 r1 r2 x0 x1 q88
          go_upto_region 23 with (fail)
          clear q58
          refine zaB (by kernel_rfl) (by kernel_rfl) ?_
          repeat (first | (go_big_quiet_step (fail)) | (go_big_quiet_want; refine zaM 59 _ ⟨g2, z * 5, none⟩ (.agg #[.int .i64 X.h, .int .i64 X.d, .int .i64 X.g, .bool X.w, .int .i64 X.n]) rfl rfl R2.out ?_; simp only [Act.put, List.setIfInBounds_toArray, List.set_cons_succ, List.set_cons_zero]; go_big_quiet_on) | (go_big_quiet_want; refine zaM 59 _ ⟨g1, z * 5, none⟩ (.agg #[.int .i64 X.h, .int .i64 X.d, .int .i64 X.g, .bool X.w, .int .i64 X.n]) rfl rfl R1.out ?_; simp only [Act.put, List.setIfInBounds_toArray, List.set_cons_succ, List.set_cons_zero]; go_big_quiet_on))
          refine wpQuiet_nil ?_
          rintro w12 ⟨⟨w12x, hb12⟩, rfl⟩
          have B12 := zhd (zae HB11.out hb12)
          clear y58 y88 hb12 R1 R2 hxb l1 l2 lbm lbn
          go_wp2_with fail
          go_roundw
          case rel => exact ⟨z + 1, by omega, by go_num, B12.out⟩
          case measure => simp [intOf]; omega

        · as_aux_lemma =>
          have hzn : z = tn := by omega
          subst hzn
          have g0 : decide ((z : Int) < (z : Int)) = false := by simp
          have e4 : decide ((n : Int) ≤ (r : Int)) = false := by simpa using hlt
          have e5 : decide ((r : Int) < 0) = false := by simp
          have HMV : Hid (∀ w', Below w11.heap.size w11 w' → MVar (w'.setRow bm c8) bm c8 N' ∧ ArgS 4 choC (w'.setRow bm c8) (.slice (some ⟨sb, so, none⟩) n sc) sl ∧ Below w.heap.size w (w'.setRow bm c8)) := zhd (fun w' hb' =>
           ⟨zfr (V11.out.below hb').at_ V11.out.nine W11.out.nine (W11.out.below hb').mac, argS_row9 (S11.out.below hb') (V11.out.below hb').at_ V11.out.nine, below_setRow (zae (zae B8.out HB11.out) hb') hbm _⟩)
          have n8 := W11.out.nine; have n5 := V11.out.nine

          by_cases hgt : z < tn'
          · have g1 : decide ((z : Int) < (tn' : Int)) = true := by simpa using hgt
            have hk1 : kk = 1 ∧ ∃ a : Ac, a.h = hh ∧ N'.trace = M.trace ++ [a] := by
             rcases K.out.trace with h | h
             · rw [HTN'.out, h, ← HTN.out] at hgt; omega
             · exact h
            obtain ⟨hk1, a, hah, hat⟩ := hk1
            subst hk1
            have hzN : z < N'.trace.length := by rw [← HTN'.out]; exact hgt
            obtain ⟨g2, u2, rfl, hg2, r2⟩ := ap_trace W11.out c88.out hzN
            have et : N'.trace[z] = a := by
             have e : N'.trace[z]? = some a := by
              rw [hat, HTN.out, List.getElem?_append_right (Nat.le_refl _), Nat.sub_self]; rfl
             rw [List.getElem?_eq_getElem hzN] at e
             exact Option.some.inj e
            rw [et] at r2
            have rt : w11.cell? ⟨g2, z * 5, none⟩ = some (.int .i64 hh) := by rw [← hah]; exact r2 0 _ rfl
            have l2 := zao hg2
            clear et hah hat r2 hg2

            have e6 : decide ((tn' : Int) ≤ (z : Int)) = false := by simp; omega
            have e7 : decide ((z : Int) < 0) = false := by simp
            have e8 : (hh != hh) = false := by simp
            go_upto_region 27 with (fail)
            clear x0
            have y58 := fun x => zal lbm q58 x
            have y88 := fun x => zal lbn q88 x
            have yt := fun x => zal l2 rt x
            have yh := fun x => zal hslt11 x1 x
            clear x1 rt
            refine zaB (by kernel_rfl) (by kernel_rfl) ?_
            repeat (go_big_quiet_step (fail))
            refine wpQuiet_nil ?_
            rintro w12 ⟨⟨w12x, hb12⟩, rfl⟩
            have HW := HMV.out w12 hb12
            try clear yt
            try clear yh
            clear y58 y88
            go_wp2_with (first | (refine wpList_load_row rfl 37 _ rfl b8 rfl 37 c8 (0, 0) _ (W11.out.below hb12).at_ Tryz.underlying37 rfl n8.info ?_) | (refine wpList_store_row rfl 37 _ _ rfl bm c8 rfl rfl 37 c (V11.out.below hb12).at_ n8.info (by rw [n5.size, n8.size]) n8.one ?_))
            go_roundw
            case rel => exact ⟨r + 1, c8, N', by omega, by go_num, HW.1, HGN.out, HW.2.1, HW.2.2⟩
            case measure => simp [intOf]; omega

          · have htt : tn' = z := by omega
            subst htt
            have g1 : decide ((tn' : Int) < (tn' : Int)) = false := by simp
            have e6 : ((tn' : Int) != (tn' : Int)) = false := by simp
            clear g0
            obtain ⟨k1, hk1⟩ : ∃ b : Bool, b = (kk != 1) := ⟨_, rfl⟩
            have g2 : (kk != 1) = k1 := hk1.symm
            clear hk1
            cases k1
            all_goals

             go_upto_region 27 with (fail)
             clear x0
             have y58 := fun x => zal lbm q58 x
             have y88 := fun x => zal lbn q88 x
             clear x1
             refine zaB (by kernel_rfl) (by kernel_rfl) ?_
             repeat (go_big_quiet_step (fail))
             refine wpQuiet_nil ?_
             rintro w12 ⟨⟨w12x, hb12⟩, rfl⟩
             have HW := HMV.out w12 hb12
             try clear yt
             try clear yh
             clear y58 y88
             go_wp2_with (first | (refine wpList_load_row rfl 37 _ rfl b8 rfl 37 c8 (0, 0) _ (W11.out.below hb12).at_ Tryz.underlying37 rfl n8.info ?_) | (refine wpList_store_row rfl 37 _ _ rfl bm c8 rfl rfl 37 c (V11.out.below hb12).at_ n8.info (by rw [n5.size, n8.size]) n8.one ?_))
             go_roundw
             case rel => exact ⟨r + 1, c8, N', by omega, by go_num, HW.1, HGN.out, HW.2.1, HW.2.2⟩
             case measure => simp [intOf]; omega

end Go.Proofs.YtdobddiibgfeaaaGreat
