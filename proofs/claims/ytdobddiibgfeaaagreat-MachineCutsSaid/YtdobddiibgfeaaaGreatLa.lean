/-
  What the walks of this statement lean on (MacCuts): shown.
-/
import Derived.Test.YtdobddiibgfeaaaGreatZa
import Derived.Test.YtdobddiibgfeaaaGreatZy
set_option linter.unusedVariables false
set_option linter.unusedSimpArgs false
namespace Go.Proofs.YtdobddiibgfeaaaGreat
section
open Go.RowKit
set_option maxRecDepth 100000
set_option maxHeartbeats 16000000 in
theorem walkCuts (v0 : Value) (l0 : List (Int × Int × Int × Int)) (a1 b1 c1 : Int) (v2 : Value) (l2 : List (Int × Int × Int)) (a3 : Int) (w : World) (g0 : ArgS 4 c4 w v0 l0) (u0 : ∀ r ∈ l0, ok4 r) (i1 : I64 a1) (i2 : I64 b1) (i3 : I64 c1) (g2 : ArgS 3 c3 w v2 l2) (u2 : ∀ r ∈ l2, ok3 r) (i4 : I64 a3) :
 Calls Tryz.prog 7 #[v0, .agg #[.int .i64 a1, .int .i64 b1, .int .i64 c1], v2, .int .i64 a3] w fun e w' => e = .returned (.bool true) ∧ Below w.heap.size w w' := by
 have G0 := zhd g0; have U0 := zhd u0; have G2 := zhd g2; have U2 := zhd u2
 obtain ⟨va, vc, rfl, _, _, _⟩ := g0
 obtain ⟨ta, tc, rfl, _, _, _⟩ := g2
 clear u0 u2
 obtain ⟨w1, hw1, hx1, hb1, _⟩ := zbY w (.cells #[.int .i64 a1, .int .i64 b1, .int .i64 c1] 23)
 have X1 := zhd hx1; have B1 := zhd hb1
 clear hx1 hb1
 go_enter Tryz.func7, Tryz.ntmps7
 go_upto_region 1 with (fail)
 rw [← hw1]; clear hw1
 go_upto_region 2 with (go_at_call 10; ((with_reducible refine (awake15 _).mono ?_); rintro e w2 ⟨rfl, hb2⟩; have B2' := zhd hb2; clear hb2))
 obtain ⟨t0, t1, t2⟩ := zah (zaf B2'.out X1.out)
 have B2 := zhd (zae B1.out B2'.out)
 have G0' := zhd (G0.out.below B2.out)
 clear X1 B1 B2' G0
 go_upto_region 3 with (first | (go_at_call 15; ((with_reducible refine (zk2 G0'.out U0 i1 i2 i3).mono ?_); rintro e w3 ⟨c3, rfl, n3, m3, b3⟩)) | (refine wpList_store_row rfl 37 _ _ rfl (w3.heap.size) c3 rfl rfl 37 nil9 (zat w3 _) n3.info (by rw [zb2.size, n3.size]) n3.one ?_))
 obtain ⟨w4, hw4⟩ : ∃ x, x = (w3.alloc (.cells nil9 37)).setRow w3.heap.size c3 := ⟨_, rfl⟩
 obtain ⟨M, hM⟩ : ∃ x, x = zhn l0 a1 b1 c1 := ⟨_, rfl⟩
 have GM : Hid (GoodM M (zc3 a1) 0) := zhd (by rw [hM]; exact zkm l0 a1 b1 c1)
 rw [← hM] at m3
 have hb4 : Below w2.heap.size w2 w4 := by rw [hw4]; exact zae b3.out (zeq w3 c3)
 have V4 : Hid (MVar w4 w3.heap.size c3 M) := zhd (by rw [hw4]; exact zew w3 n3 m3.out)
 have B4 := zhd (zae B2.out hb4)
 have G2' := zhd (G2.out.below B4.out)
 rw [← hw4]
 clear hw4 hM b3 m3 hb4 t0 t1 t2 B2 G0' G2 U0
 generalize w3.heap.size = bm at *
 go_upto_region 4 with (go_at_call 16; ((with_reducible refine (zjM G2'.out U2).mono ?_); rintro e w5 ⟨sa, sc, rfl, hs5, hb5⟩; have V5 := zhd (V4.out.below hb5.out); have B5 := zhd (zae B4.out hb5.out)))
 obtain ⟨sl, hsl⟩ : ∃ x, x = zcn l2 := ⟨_, rfl⟩
 have hsn : sl.length ≤ 120 := by rw [hsl]; exact zhr l2
 rw [← hsl] at hs5 ⊢
 obtain ⟨n, hn⟩ : ∃ x, x = sl.length := ⟨_, rfl⟩
 have HN := zhd hn
 rw [← hn] at hs5 hsn ⊢
 clear hsl hn hb5 V4 B4 G2' U2
 have e1 : IntKind.i64.wrap ((n : Int) + 1) = (n : Int) + 1 := IntWalk.i64_in _ (by omega)
 have bk := za5 a3 ((n : Int) + 1) (by omega)
 obtain ⟨k, hk⟩ : ∃ m : Nat, zax a3 ((n : Int) + 1) = m := ⟨(zax a3 ((n : Int) + 1)).toNat, by omega⟩
 rw [hk] at bk
 have hkn : k ≤ n := by omega
 have HK := zhd hk
 clear hk bk
 go_upto_region 5 with (go_at_call 23; ((with_reducible refine (zbK a3 ((n : Int) + 1) k _ i4 (by omega) HK).mono ?_); rintro e w' ⟨rfl, rfl⟩))
 have HR := zhd (zgH V5.out.mac hs5.out GM (by rw [← HN.out]; omega))
 have A5 := zhd V5.out.at_
 go_upto_region 6 with (first | (refine wpList_load_row rfl 37 _ rfl (bm) rfl 37 c3 (0, 0) _ A5.out Tryz.underlying37 rfl n3.info ?_) | (go_at_call 22; ((with_reducible refine HR.out.mono ?_); rintro e w6 ⟨c6, rfl, n6, m6, b6⟩)) | (refine wpList_store_row rfl 37 _ _ rfl (w6.heap.size) c6 rfl rfl 37 nil9 (zat w6 _) n6.info (by rw [zb2.size, n6.size]) n6.one ?_))
 obtain ⟨w7, hw7⟩ : ∃ x, x = (w6.alloc (.cells nil9 37)).setRow w6.heap.size c6 := ⟨_, rfl⟩
 have hb7 : Below w5.heap.size w5 w7 := by rw [hw7]; exact zae b6.out (zeq w6 c6)
 have V7 := zhd (V5.out.below hb7)
 have X7 : Hid (MVar w7 w6.heap.size c6 (runR M sl).1) := zhd (by rw [hw7]; exact zew w6 n6 m6.out)
 have B7 := zhd (zae B5.out hb7); have S7 := zhd (hs5.out.below hb7)
 rw [← hw7]
 clear hw7 hb7 b6 m6 HR V5 B5 hs5 A5
 generalize w6.heap.size = bx at *
 have hksc : (k : Int) ≤ sc := by obtain ⟨_, _, e, h, _⟩ := S7.out; injection e with _ _ e; subst e; rw [← HN.out] at h; omega
 have hk0 : 0 ≤ (k : Int) := by omega
 have HR6 : ∀ w', Below w7.heap.size w7 w' → Calls Tryz.prog 22 #[.agg c3, .slice sa k sc] w' fun e w' => ∃ cs, e = .returned (.tuple #[.agg cs, .int .i64 (runR M (sl.take k)).2]) ∧ Nine cs ∧ Hid (IsMac w' (.agg cs) (runR M (sl.take k)).1) ∧ Hid (Below _ _ w') := fun w' h => zgH (V7.out.below h).mac (ArgS.take (S7.out.below h) hkn) GM (by have := HN.out; simp; omega)
 have HQ6 := zhd HR6
 clear HR6
 refine zaV (fun w' => Below w7.heap.size w7 w') [true, true, true, true] (by kernel_rfl) (by kernel_rfl) (by kernel_rfl) (fun a b h hu => zae h hu) (Below.refl _ _) ?aa8 ?hh8 ?ht8
 case hh8 =>
  intro w0 hb0
  have R0 : Hid (∀ w' : World, (∃ x : Wd w0, w' = x.val) → (loadVar 37 ⟨bm, 0, none⟩).run Tryz.prog w' = .ok (.agg c3) w') := zhd (by rintro w' ⟨x, rfl⟩; exact zcE ((V7.out.below hb0).below x.bel))
  simp only [zbb]
  go_big_quiet_want
  refine zaM 37 _ ⟨bm, 0, none⟩ (.agg c3) rfl rfl R0.out ?_
  simp only [Act.put, List.setIfInBounds_toArray, List.set_cons_succ, List.set_cons_zero]
  go_big_quiet_on
  repeat (go_big_quiet_step (fail))
  refine wpQuiet_nil ?_
  rfl
 case ht8 =>
  change zbh _ _ _ _ _ 7 _ _ _
  refine zhe (zlA 4) (zi9 4) [true, true, true, true, false, false, false, false, false, false, false] _ (fun a0 fl a w' => ∃ cs uc um u0 u1 ua uz, a = ((((((a0.put (some 46) uc).put (some 41) um).put (some 47) u0).put (some 48) u1).put (some 15) ua).put (some 16) uz) ∧ PairI w7 (runR M (sl.take k)).1 (runR M (sl.take k)).2 (fl.drop 4) cs uc um u0 u1 ua uz w') (by kernel_rfl) (by kernel_rfl) (by kernel_rfl) (zak (Below.refl _ _)) ?s8 ?i8 ?e8 ?t8
  case s8 => exact ⟨nil9, undef, undef, undef, undef, undef, undef, by simp only [Act.put, List.setIfInBounds_toArray, List.set_cons_succ, List.set_cons_zero], PairI.start (zak (Below.refl _ _)) rfl⟩
  case i8 =>
   rintro fl a w7 w8 ⟨cs, uc, um, u0, u1, ua, uz, e, hI⟩ hu
   exact ⟨cs, uc, um, u0, u1, ua, uz, e, hI.up hu⟩
  case t8 =>
   rintro fl a w7 i hm ⟨cs, uc, um, u0, u1, ua, uz, rfl, hI⟩ hc hco hf
   have hI' := zhd hI
   have hm7 := zfp hm
   clear hI
   unfold zi9 zk7 at hco
   simp only [Bool.or_eq_true, Bool.and_eq_true, beq_iff_eq, decide_eq_true_eq] at hco
   obtain ⟨hri, hco⟩ := hco
   obtain ⟨j, rfl⟩ : ∃ j, i = 4 + j := ⟨i - 4, by omega⟩
   rw [show 4 + j - 4 = j by omega] at hco
   have hd := zmD hf
   have hdp := zjq fl 4 j
   clear hri
   rcases hco with (((((rfl | rfl) | ⟨rfl, g0⟩) | ⟨rfl, g1⟩) | ⟨rfl, g1⟩) | ⟨rfl, g0, g2, g4⟩) | ⟨rfl, g3, g5⟩
   · refine zaP (i := 4) rfl ?_
     simp only [Act.put, List.setIfInBounds_toArray, List.set_cons_succ, List.set_cons_zero]
     have hcw := zhd hc
     go_wp2_with (go_at_call 22; ((with_reducible refine (HQ6.out _ hcw.out).mono ?_); rintro e w8 ⟨c8, rfl, n8, m8, b8⟩))
     refine ⟨zae hcw.out b8.out, c8, _, um, u0, u1, ua, uz, rfl, ?_⟩
     rw [hdp]
     exact hI'.out.putc hm7 hd n8 m8.out b8.out
   · refine zaP (i := 8) rfl ?_
     simp only [Act.put, List.setIfInBounds_toArray, List.set_cons_succ, List.set_cons_zero]
     go_wp2_with fail
     refine ⟨zae hc (zan _ _), cs, uc, um, u0, u1, _, uz, rfl, ?_⟩
     rw [hdp]
     exact hI'.out.puta hm7 hd
   · refine zaP (i := 5) rfl ?_
     obtain ⟨rfl, _, _⟩ := hI'.out.fc g0
     simp only [Act.put, List.setIfInBounds_toArray, List.set_cons_succ, List.set_cons_zero]
     go_wp2_with fail
     refine ⟨hc, cs, _, _, u0, u1, ua, uz, rfl, ?_⟩
     rw [hdp]
     exact hI'.out.putm
   · refine zaP (i := 6) rfl ?_
     obtain rfl := hI'.out.fm g1
     simp only [Act.put, List.setIfInBounds_toArray, List.set_cons_succ, List.set_cons_zero]
     go_wp2_with fail
     refine ⟨hc, cs, uc, _, _, u1, ua, uz, rfl, ?_⟩
     rw [hdp]
     exact hI'.out.put0
   · refine zaP (i := 7) rfl ?_
     obtain rfl := hI'.out.fm g1
     simp only [Act.put, List.setIfInBounds_toArray, List.set_cons_succ, List.set_cons_zero]
     go_wp2_with fail
     refine ⟨hc, cs, uc, _, u0, _, ua, uz, rfl, ?_⟩
     rw [hdp]
     exact hI'.out.put1
   · refine zaP (i := 9) rfl ?_
     obtain rfl := hI'.out.f0 g2
     obtain ⟨b, e14, hb1, hx⟩ := hI'.out.fa g4
     have hn9 := (hI'.out.fc g0).2.1
     rw [zcQ hd, if_neg (by decide)] at hx
     have HX := zhd hx
     have HI2 := zhd (hI'.out.puts hm7 hx e14 hb1)
     subst e14
     clear hx hI'
     simp only [Act.put, List.setIfInBounds_toArray, List.set_cons_succ, List.set_cons_zero]
     go_wp2_with (refine wpList_store_row rfl 37 _ _ rfl (b) cs rfl rfl 37 nil9 HX.out hn9.info (by rw [zb2.size, hn9.size]) hn9.one ?_)
     refine ⟨below_setRow hc hb1 _, cs, uc, um, _, u1, _, uz, rfl, ?_⟩
     rw [hdp]
     exact HI2.out
   · refine zaP (i := 10) rfl ?_
     obtain rfl := hI'.out.f1 g3
     simp only [Act.put, List.setIfInBounds_toArray, List.set_cons_succ, List.set_cons_zero]
     go_wp2_with fail
     refine ⟨hc, cs, uc, um, u0, _, ua, _, rfl, ?_⟩
     rw [hdp]
     exact hI'.out.putz
  case e8 =>
   rintro fl a w8 ha hm ⟨c8, uc, um, u0, u1, ua, uz, rfl, hI⟩ hc
   obtain ⟨b8, rfl, rfl, rfl, rfl, rfl, rfl, hv, hbW⟩ := hI.done (zfp hm) (zjz 4 ha)
   have V8 := zhd hv
   have hb8 := hI.bel
   clear hI hc ha hm hv
   simp only [Act.put, List.setIfInBounds_toArray, List.set_cons_succ, List.set_cons_zero]

   have W8 := zhd (V7.out.below hb8); have X8 := zhd (X7.out.below hb8); have B8 := zhd (zae B7.out hb8); have S8 := zhd (S7.out.below hb8)
   clear hb8 hbW V7 X7 B7 S7 HQ6
   go_upto_region 7 with (fail)
   have GA := zhd (zfv (sl.take k) GM.out)
   have hkn' : (k : Int) ≤ n := by omega
   obtain ⟨sb, hsb⟩ : ∃ x, (if sc = k then sa else Option.map (fun x => x.add (k * 4)) sa) = x := ⟨_, rfl⟩
   have HQ7 : Hid (∀ w', Below w8.heap.size w8 w' → Calls Tryz.prog 22 #[.agg c8, .slice sb (n - k) (sc - k)] w' fun e w' => ∃ cs, e = .returned (.tuple #[.agg cs, .int .i64 (runR (runR M (sl.take k)).1 (sl.drop k)).2]) ∧ Nine cs ∧ Hid (IsMac w' (.agg cs) (runR (runR M (sl.take k)).1 (sl.drop k)).1) ∧ Hid (Below _ _ w')) := zhd (fun w' h => zgH (V8.out.below h).mac (by rw [← hsb]; exact ArgS.rest (S8.out.below h) hkn) GA (by have := HN.out; simp; omega))
   refine zaV (fun w' => Below w8.heap.size w8 w') [true, true, true, true] (by kernel_rfl) (by kernel_rfl) (by kernel_rfl) (fun a b h hu => zae h hu) (Below.refl _ _) ?aa9 ?hh9 ?ht9
   case hh9 =>
    intro w0 hb0
    have R0 : Hid (∀ w' : World, (∃ x : Wd w0, w' = x.val) → (loadVar 37 ⟨b8, 0, none⟩).run Tryz.prog w' = .ok (.agg c8) w') := zhd (by rintro w' ⟨x, rfl⟩; exact zcE ((V8.out.below hb0).below x.bel))
    simp only [zbb]
    go_big_quiet_want
    refine zaM 37 _ ⟨b8, 0, none⟩ (.agg c8) rfl rfl R0.out ?_
    simp only [Act.put, List.setIfInBounds_toArray, List.set_cons_succ, List.set_cons_zero]
    go_big_quiet_on
    repeat (go_big_quiet_step (fail))
    refine wpQuiet_nil ?_
    rfl
   case ht9 =>
    change zbh _ _ _ _ _ 7 _ _ _
    refine zhe (zlA 4) (zi9 4) [true, true, true, true, false, false, false, false, false, false, false] _ (fun a0 fl a w' => ∃ cs uc um u0 u1 ua uz, a = ((((((a0.put (some 54) uc).put (some 49) um).put (some 55) u0).put (some 56) u1).put (some 17) ua).put (some 18) uz) ∧ PairI w8 (runR (runR M (sl.take k)).1 (sl.drop k)).1 (runR (runR M (sl.take k)).1 (sl.drop k)).2 (fl.drop 4) cs uc um u0 u1 ua uz w') (by kernel_rfl) (by kernel_rfl) (by kernel_rfl) (zak (Below.refl _ _)) ?s9 ?i9 ?e9 ?t9
    case s9 => exact ⟨nil9, undef, undef, undef, undef, undef, undef, by simp only [Act.put, List.setIfInBounds_toArray, List.set_cons_succ, List.set_cons_zero], PairI.start (zak (Below.refl _ _)) rfl⟩
    case i9 =>
     rintro fl a w7 w8 ⟨cs, uc, um, u0, u1, ua, uz, e, hI⟩ hu
     exact ⟨cs, uc, um, u0, u1, ua, uz, e, hI.up hu⟩
    case t9 =>
     rintro fl a w7 i hm ⟨cs, uc, um, u0, u1, ua, uz, rfl, hI⟩ hc hco hf
     have hI' := zhd hI
     have hm7 := zfp hm
     clear hI
     unfold zi9 zk7 at hco
     simp only [Bool.or_eq_true, Bool.and_eq_true, beq_iff_eq, decide_eq_true_eq] at hco
     obtain ⟨hri, hco⟩ := hco
     obtain ⟨j, rfl⟩ : ∃ j, i = 4 + j := ⟨i - 4, by omega⟩
     rw [show 4 + j - 4 = j by omega] at hco
     have hd := zmD hf
     have hdp := zjq fl 4 j
     clear hri
     rcases hco with (((((rfl | rfl) | ⟨rfl, g0⟩) | ⟨rfl, g1⟩) | ⟨rfl, g1⟩) | ⟨rfl, g0, g2, g4⟩) | ⟨rfl, g3, g5⟩
     · refine zaP (i := 4) rfl ?_
       simp only [Act.put, List.setIfInBounds_toArray, List.set_cons_succ, List.set_cons_zero]
       have hcw := zhd hc
       go_wp2_with (go_at_call 22; ((with_reducible refine (HQ7.out _ hcw.out).mono ?_); rintro e w8 ⟨c8, rfl, n8, m8, b8⟩))
       refine ⟨zae hcw.out b8.out, c8, _, um, u0, u1, ua, uz, rfl, ?_⟩
       rw [hdp]
       exact hI'.out.putc hm7 hd n8 m8.out b8.out
     · refine zaP (i := 8) rfl ?_
       simp only [Act.put, List.setIfInBounds_toArray, List.set_cons_succ, List.set_cons_zero]
       go_wp2_with fail
       refine ⟨zae hc (zan _ _), cs, uc, um, u0, u1, _, uz, rfl, ?_⟩
       rw [hdp]
       exact hI'.out.puta hm7 hd
     · refine zaP (i := 5) rfl ?_
       obtain ⟨rfl, _, _⟩ := hI'.out.fc g0
       simp only [Act.put, List.setIfInBounds_toArray, List.set_cons_succ, List.set_cons_zero]
       go_wp2_with fail
       refine ⟨hc, cs, _, _, u0, u1, ua, uz, rfl, ?_⟩
       rw [hdp]
       exact hI'.out.putm
     · refine zaP (i := 6) rfl ?_
       obtain rfl := hI'.out.fm g1
       simp only [Act.put, List.setIfInBounds_toArray, List.set_cons_succ, List.set_cons_zero]
       go_wp2_with fail
       refine ⟨hc, cs, uc, _, _, u1, ua, uz, rfl, ?_⟩
       rw [hdp]
       exact hI'.out.put0
     · refine zaP (i := 7) rfl ?_
       obtain rfl := hI'.out.fm g1
       simp only [Act.put, List.setIfInBounds_toArray, List.set_cons_succ, List.set_cons_zero]
       go_wp2_with fail
       refine ⟨hc, cs, uc, _, u0, _, ua, uz, rfl, ?_⟩
       rw [hdp]
       exact hI'.out.put1
     · refine zaP (i := 9) rfl ?_
       obtain rfl := hI'.out.f0 g2
       obtain ⟨b, e14, hb1, hx⟩ := hI'.out.fa g4
       have hn9 := (hI'.out.fc g0).2.1
       rw [zcQ hd, if_neg (by decide)] at hx
       have HX := zhd hx
       have HI2 := zhd (hI'.out.puts hm7 hx e14 hb1)
       subst e14
       clear hx hI'
       simp only [Act.put, List.setIfInBounds_toArray, List.set_cons_succ, List.set_cons_zero]
       go_wp2_with (refine wpList_store_row rfl 37 _ _ rfl (b) cs rfl rfl 37 nil9 HX.out hn9.info (by rw [zb2.size, hn9.size]) hn9.one ?_)
       refine ⟨below_setRow hc hb1 _, cs, uc, um, _, u1, _, uz, rfl, ?_⟩
       rw [hdp]
       exact HI2.out
     · refine zaP (i := 10) rfl ?_
       obtain rfl := hI'.out.f1 g3
       simp only [Act.put, List.setIfInBounds_toArray, List.set_cons_succ, List.set_cons_zero]
       go_wp2_with fail
       refine ⟨hc, cs, uc, um, u0, _, ua, _, rfl, ?_⟩
       rw [hdp]
       exact hI'.out.putz
    case e9 =>
     rintro fl a w9 ha hm ⟨c9, uc, um, u0, u1, ua, uz, rfl, hI⟩ hc
     obtain ⟨b9, rfl, rfl, rfl, rfl, rfl, rfl, hv, hbW⟩ := hI.done (zfp hm) (zjz 4 ha)
     have V9 := zhd hv
     have hb9 := hI.bel
     clear hI hc ha hm hv
     simp only [Act.put, List.setIfInBounds_toArray, List.set_cons_succ, List.set_cons_zero]

     have X9 := zhd (X8.out.below hb9); have B9 := zhd (zae B8.out hb9)
     clear hb9 hbW V8 W8 X8 B8 S8 HQ7
     have HAP : runR M sl = ((runR (runR M (sl.take k)).1 (sl.drop k)).1, (runR M (sl.take k)).2 + (runR (runR M (sl.take k)).1 (sl.drop k)).2) := by
      have := zi1 (sl.take k) (sl.drop k) M
      rwa [List.take_append_drop] at this
     have r1 := zif (sl.take k) M
     have r2 := zif (sl.drop k) (runR M (sl.take k)).1
     have l1 : (sl.take k).length ≤ 120 := by have := HN.out; simp; omega
     have l2' : (sl.drop k).length ≤ 120 := by have := HN.out; simp; omega
     have GZ := zhd (zfv (sl.drop k) GA.out)
     rw [HAP] at X9 ⊢
     simp only at X9 ⊢
     generalize runR (runR M (sl.take k)).1 (sl.drop k) = Z at *
     generalize (runR M (sl.take k)).2 = N1 at *
     have e9 : IntKind.i64.wrap (N1 + Z.2) = N1 + Z.2 := IntWalk.i64_in _ (by omega)
     have e10 : (N1 + Z.2 == N1 + Z.2) = true := by simp
     have LX := zhd (zcE X9.out); have LB := zhd (zcE V9.out)
     have HS := zhd (zgG _ _ Z.1 Z.1 _ X9.out.mac V9.out.mac GZ.out.regs GZ.out.regs)
     clear HAP r1 r2 l1 l2' GA
     go_wp2_with (first | (go_at_call 19; ((with_reducible refine HS.out.mono ?_); rintro e w10 ⟨rfl, b10⟩)) | ((with_reducible refine zcU (o := ⟨_, .load _ _, _, _, _, _⟩) ?_ 37 _ rfl (bx) ?_ (.agg c6) LX.out ?_); rotate_left; exact rfl; rotate_left; exact rfl) | ((with_reducible refine zcU (o := ⟨_, .load _ _, _, _, _, _⟩) ?_ 37 _ rfl (b9) ?_ (.agg c9) LB.out ?_); rotate_left; exact rfl; rotate_left; exact rfl))
     go_ret
     exact ⟨ret1 (za1 (by first | rfl | simp)), zae B9.out b10⟩
end
end Go.Proofs.YtdobddiibgfeaaaGreat
