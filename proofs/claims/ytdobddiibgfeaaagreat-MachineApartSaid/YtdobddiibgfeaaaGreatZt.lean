/-
  What the walks of this statement lean on (MacAccess, MacStep, MacMap, MacNo, MacDo): shown.
-/
import Derived.Test.YtdobddiibgfeaaaGreatZa
import Derived.Test.YtdobddiibgfeaaaGreatZs
import Derived.MapKept
import Derived.ChangeMaps4
import Derived.Carry
import Derived.Test.YtdobddiibgfeaaaGreatZp
set_option linter.unusedVariables false
set_option linter.unusedSimpArgs false
namespace Go.Proofs.YtdobddiibgfeaaaGreat
section
open Go.RowKit
set_option maxRecDepth 100000
theorem zj3 (w : World) (B p : Nat) (wv hv ev m1 m2 m3 dv lv tv : Value) (qs : List Value) (M : Mac) (H N : Nat) (ho : OwnMac w B p wv hv ev m1 m2 m3 dv lv tv qs M) (hg : GoodM M H N) (hB : B ≤ w.heap.size) (k : Nat) (hk : k < M.harts.length) (h : Ht) (h32 : h.r.length = 32) (e : Eff) (a : Int) (hk1 : 1 ≤ e.k ∧ e.k ≤ 5) :
 Calls Tryz.prog 116 #[.pointer (some ⟨p, 0, none⟩), .int .i64 k, .agg (hA h), effV e, .int .i64 a] w (MPost B p w (zbN M k h e a)) := by
 rcases (by omega : e.k = 1 ∨ e.k = 2 ∨ e.k = 3 ∨ e.k = 4 ∨ e.k = 5) with h1 | h1 | h1 | h1 | h1
 · exact memory_1 w B p wv hv ev m1 m2 m3 dv lv tv qs M H N ho hg hB k hk h h32 e a h1
 · exact memory_2 w B p wv hv ev m1 m2 m3 dv lv tv qs M H N ho hg hB k hk h h32 e a h1
 · exact memory_3 w B p wv hv ev m1 m2 m3 dv lv tv qs M H N ho hg hB k hk h h32 e a h1
 · cases hb : (zcA M.mem k a e.n).1
   · exact zlO w B p wv hv ev m1 m2 m3 dv lv tv qs M H N ho hg hB k hk h h32 e a h1 hb
   · exact zlN w B p wv hv ev m1 m2 m3 dv lv tv qs M H N ho hg hB k hk h h32 e a h1 hb
 · exact memory_5 w B p wv hv ev m1 m2 m3 dv lv tv qs M H N ho hg hB k hk h h32 e a h1
theorem zhv (w : World) (B p : Nat) (wv hv ev m1 m2 m3 dv lv tv : Value) (qs : List Value) (M : Mac) (H N : Nat) (ho : OwnMac w B p wv hv ev m1 m2 m3 dv lv tv qs M) (hg : GoodM M H N) (hN : N ≤ 1000000) (hB : B ≤ w.heap.size) (k : Nat) (hk : k < M.harts.length) (hkp : k < M.mem.pend.length) (h : Ht) (h32 : h.r.length = 32) (e : Eff) (d : Nat) (hd : d < M.devs.length) (g : Int) (hgr : 0 ≤ g ∧ g < 4) (hk1 : e.k = 1 ∨ e.k = 2) :
 Calls Tryz.prog 117 #[.pointer (some ⟨p, 0, none⟩), .int .i64 k, .agg (hA h), effV e, .int .i64 d, .int .i64 g] w (MPost B p w (zbA M k h e d g)) := by
 rcases hk1 with h1 | h1
 · exact zjU w B p wv hv ev m1 m2 m3 dv lv tv qs M H N ho hg hN hB k hk hkp h h32 e d hd g hgr h1
 · exact zjT w B p wv hv ev m1 m2 m3 dv lv tv qs M H N ho hg hN hB k hk hkp h h32 e d hd g hgr h1
set_option maxHeartbeats 8000000 in
theorem zkL (w : World) (B p : Nat) (wv hv ev m1 m2 m3 dv lv tv : Value) (qs : List Value) (M : Mac) (H N : Nat) (ho : OwnMac w B p wv hv ev m1 m2 m3 dv lv tv qs M) (hE : OffE wv ev m1 m3) (hg : GoodM M H N) (hN : N ≤ 1000000) (hB : B ≤ w.heap.size) (k : Nat) (hk : k < M.harts.length) (h : Ht) (h32 : h.r.length = 32) (e : Eff) (hk1 : 1 ≤ e.k ∧ e.k ≤ 5) :
 Calls Tryz.prog 77 #[.pointer (some ⟨p, 0, none⟩), .int .i64 k, .agg (hA h), effV e] w (MPost B p w (zdh M k h e)) := by
 obtain ⟨ek, ed, ead, en, eo⟩ := e
 simp only at hk1
 have hsh := zaw h h32
 obtain ⟨R, hR⟩ : ∃ R, R = zdh M k h ⟨ek, ed, ead, en, eo⟩ := ⟨_, rfl⟩
 rw [← hR]
 have hkp : k < M.mem.pend.length := by obtain ⟨W, _, gm⟩ := hg.mem; rw [gm.pend, ← hg.harts]; exact hk
 have hkE : k < M.ends.length := by rw [hg.he]; exact hk
 obtain ⟨a1, c1, a2, c2, a3, c3, b1, d1, b2, d2, b3, d3, a5, c5, a6, c6, a7, c7, rfl, rfl, rfl, rfl, rfl, rfl, rfl, rfl, rfl⟩ := ho.shapes
 unfold effV
 simp only
 obtain ⟨w1, hw1, hx1, hy1, hb1, _⟩ := zcW w (.cells (hA h) 56) (.cells #[.int .i64 ek, .int .i64 ed, .int .i64 ead, .int .i64 en, .int .i64 eo] 131)
 have HX1 := zhd hx1; have HY1 := zhd hy1
 have HO1 := zhd (ho.below hb1); have HB1 := zhd (hb1.mono hB)
 have hB1 : B ≤ w1.heap.size := Nat.le_trans hB hb1.size
 have HG := zhd hg; have HK := zhd hk; have HKP := zhd hkp; have HKE := zhd hkE; have HEE := zhd hE
 have s1 := hg.small.words; have s5 := hg.devs
 obtain ⟨e0, e1, e2, e3, e4⟩ := zaK hy1
 obtain ⟨z0, z1, z2, z3, z4, z5, z6, z7, z8⟩ := zam HO1.out.at_
 have hlx := zao hx1; have hly := zao hy1; have hlp := zao HO1.out.at_
 have hm : offM ⟨ek, ed, ead, en, eo⟩ = wrap64 (ead - 536870912) := rfl
 have hd : offD ⟨ek, ed, ead, en, eo⟩ = wrap64 (ead - 268435456) := rfl
 unfold zdh at hR
 rw [hm, hd] at hR
 have bm := w64_bd (ead - 536870912)
 have bd := w64_bd (ead - 268435456)
 clear hm hd hx1 hy1 hb1 ho hE hg hk hkp hkE z1 z2 z4 z5 z7 z8
 obtain ⟨x, hx⟩ : ∃ x, x = wrap64 (ead - 536870912) := ⟨_, rfl⟩
 obtain ⟨y, hy⟩ : ∃ y, y = wrap64 (ead - 268435456) := ⟨_, rfl⟩
 rw [← hx] at hR bm
 rw [← hy] at hR bd
 have HXE := zhd hx; have HYE := zhd hy
 clear hx hy
 obtain ⟨n1, hn1⟩ : ∃ n, n = M.mem.words.length := ⟨_, rfl⟩
 obtain ⟨n5, hn5⟩ : ∃ n, n = M.devs.length := ⟨_, rfl⟩
 have HN1 := zhd hn1; have HN5 := zhd hn5
 rw [← hn1] at z3 s1; rw [← hn5] at z6 s5
 clear hn1 hn5
 obtain ⟨W, hW⟩ : ∃ W, W = wordB M x := ⟨_, rfl⟩
 obtain ⟨D, hD⟩ : ∃ D, D = regB M ek y := ⟨_, rfl⟩
 have HW : Hid (W = (decide (0 ≤ x) && (x.tmod 4 == 0 && decide (x.tdiv 4 < n1)))) := zhd (by rw [hW, HN1.out]; rfl)
 have HD : Hid (D = ((ek == 1 || ek == 2) && (decide (0 ≤ y) && (y.tmod 4 == 0 && (decide (y.tmod 256 < 16) && decide (y.tdiv 256 < n5)))))) := zhd (by rw [hD, HN5.out]; rfl)
 rw [← hW, ← hD] at hR
 have HR := zhd hR
 clear hW hD hR
 go_enter Tryz.func77, Tryz.ntmps77
 go_upto_region 1 with (fail)
 rw [← hw1]; clear hw1
 go_upto_region 2 with (fail)
 rw [← HXE.out]
 go_cut [33] (fun s wx => s = .bool W ∧ wx = w1)
 case first =>
  by_cases x0 : 0 ≤ x
  · have d0 : decide (0 ≤ x) = true := by simpa using x0
    have tm := Int.tmod_eq_emod_of_nonneg x0 (b := 4)
    have td := Int.tdiv_eq_ediv_of_nonneg x0 (b := 4)
    have u2 : IntKind.i64.wrap (x / 4) = x / 4 := IntWalk.i64_in _ (by omega)
    by_cases x1 : x % 4 = 0
    · by_cases x2 : x / 4 < n1
      · have d2 : decide (x / 4 < (n1 : Int)) = true := by simpa using x2
        have HWW : Hid (W = true) := zhd (by rw [HW.out, tm, td]; simp [x0, x1, x2])
        clear tm td
        go_wp2_with fail
        go_meet
        case rel => exact ⟨by rw [HWW.out], rfl⟩
      · have d2 : decide (x / 4 < (n1 : Int)) = false := by simpa using x2
        have HWW : Hid (W = false) := zhd (by rw [HW.out, tm, td]; simp [x2])
        clear tm td
        go_wp2_with fail
        go_meet
        case rel => exact ⟨by rw [HWW.out], rfl⟩
    · have d1 : (x % 4 == 0) = false := by simpa using x1
      have HWW : Hid (W = false) := zhd (by rw [HW.out, tm]; simp [x1])
      clear tm td
      go_wp2_with fail
      go_meet
      case rel => exact ⟨by rw [HWW.out], rfl⟩
  · have d0 : decide (0 ≤ x) = false := by simpa using x0
    have HWW : Hid (W = false) := zhd (by rw [HW.out]; simp [x0])
    go_wp2_with fail
    go_meet
    case rel => exact ⟨by rw [HWW.out], rfl⟩
 case rest =>
 obtain ⟨rfl, hwc⟩ := hcut
 subst hwc
 cases W
 · have HRR := zhd (HR.out.trans (if_neg (by simp)))
   clear HR z3 HW
   go_upto_region 5 with (fail)
   rw [← HYE.out]
   obtain ⟨PL, hPL⟩ : ∃ PL, PL = (ek == 1 || ek == 2) := ⟨_, rfl⟩
   have HPL := zhd hPL
   rw [← hPL] at HD
   clear hPL
   obtain ⟨w2, hw2⟩ : ∃ v, v = wc := ⟨_, rfl⟩
   subst hw2
   go_cut [11] (fun s wx => s = .bool PL ∧ wx = w2)
   case first =>
    by_cases h1 : ek = 1
    · have HPP : Hid (PL = true) := zhd (by rw [HPL.out]; simp [h1])
      have d1 : (ek == 1) = true := by simp [h1]
      go_wp2_with fail
      go_meet
      case rel => exact ⟨by rw [HPP.out], rfl⟩
    · have d1 : (ek == 1) = false := by simp [h1]
      by_cases h2 : ek = 2
      · have HPP : Hid (PL = true) := zhd (by rw [HPL.out]; simp [h2])
        have d2 : (ek == 2) = true := by simp [h2]
        go_wp2_with fail
        go_meet
        case rel => exact ⟨by rw [HPP.out], rfl⟩
      · have HPP : Hid (PL = false) := zhd (by rw [HPL.out]; simp [h1, h2])
        have d2 : (ek == 2) = false := by simp [h2]
        go_wp2_with fail
        go_meet
        case rel => exact ⟨by rw [HPP.out], rfl⟩
   case rest =>
   obtain ⟨rfl, hwc⟩ := hcut
   subst hwc
   obtain ⟨w3, hw3⟩ : ∃ v, v = wc := ⟨_, rfl⟩
   subst hw3
   go_upto_region 6 with (fail)
   go_cut [77] (fun s wx => s = .bool D ∧ wx = w3)
   case first =>
    cases PL
    · have HDD : Hid (D = false) := zhd (by rw [HD.out]; simp)
      go_wp2_with fail
      go_meet
      case rel => exact ⟨by rw [HDD.out], rfl⟩
    · by_cases y0 : 0 ≤ y
      · have d0 : decide (0 ≤ y) = true := by simpa using y0
        have tm := Int.tmod_eq_emod_of_nonneg y0 (b := 4)
        have tn := Int.tmod_eq_emod_of_nonneg y0 (b := 256)
        have td := Int.tdiv_eq_ediv_of_nonneg y0 (b := 256)
        have u2 : IntKind.i64.wrap (y / 256) = y / 256 := IntWalk.i64_in _ (by omega)
        by_cases y1 : y % 4 = 0
        · by_cases y2 : y % 256 < 16
          · have d2 : decide (y % 256 < 16) = true := by simpa using y2
            by_cases y3 : y / 256 < n5
            · have d3 : decide (y / 256 < (n5 : Int)) = true := by simpa using y3
              have HDD : Hid (D = true) := zhd (by rw [HD.out, tm, tn, td]; simp [y0, y1, y2, y3])
              clear tm tn td
              go_wp2_with fail
              go_meet
              case rel => exact ⟨by rw [HDD.out], rfl⟩
            · have d3 : decide (y / 256 < (n5 : Int)) = false := by simpa using y3
              have HDD : Hid (D = false) := zhd (by rw [HD.out, tm, tn, td]; simp [y3])
              clear tm tn td
              go_wp2_with fail
              go_meet
              case rel => exact ⟨by rw [HDD.out], rfl⟩
          · have d2 : decide (y % 256 < 16) = false := by simpa using y2
            have HDD : Hid (D = false) := zhd (by rw [HD.out, tn]; simp [y2])
            clear tm tn td
            go_wp2_with fail
            go_meet
            case rel => exact ⟨by rw [HDD.out], rfl⟩
        · have d1 : (y % 4 == 0) = false := by simpa using y1
          have HDD : Hid (D = false) := zhd (by rw [HD.out, tm]; simp [y1])
          clear tm tn td
          go_wp2_with fail
          go_meet
          case rel => exact ⟨by rw [HDD.out], rfl⟩
      · have d0 : decide (0 ≤ y) = false := by simpa using y0
        have HDD : Hid (D = false) := zhd (by rw [HD.out]; simp [y0])
        go_wp2_with fail
        go_meet
        case rel => exact ⟨by rw [HDD.out], rfl⟩
   case rest =>
   obtain ⟨rfl, hwc⟩ := hcut
   subst hwc
   cases D
   · have HR2 := zhd (HRR.out.trans (if_neg (by simp)))
     obtain ⟨g, cc, cur, e2', hgc, hgB, hce, hfz⟩ := zbM HO1.out.parts.ends HKE.out
     injection e2' with e2' _ e3'
     subst e2' e3'
     obtain ⟨k0, k1, k2, k3, k4, k5, k6, k7, k8⟩ := zam HO1.out.at_
     have hlg := zao hgc
     obtain ⟨n3, hn3⟩ : ∃ n, n = M.ends.length := ⟨_, rfl⟩
     have hk3 : k < n3 := by rw [hn3]; exact HKE.out
     rw [← hn3] at k2
     have T := zhd (HO1.out.setEnd HEE.out rfl HKE.out 3)
     clear k0 k1 k3 k4 k5 k6 k7 k8 hgc hn3 e0 e1 e2 e3 e4 z0 z6
     go_wp2_with fail
     go_ret
     rw [HR2.out]
     exact ⟨rfl, HB1.out.setCell hgB _, fun _ => ⟨_, _, _, _, _, _, _, _, _, _, T.out⟩⟩
   · have HR2 := zhd (HRR.out.trans (if_pos rfl))
     have hp := HD.out
     simp at hp
     obtain ⟨hp1, hp2, hp3, hp4, hp5⟩ := hp
     have tm := Int.tmod_eq_emod_of_nonneg hp2 (b := 256)
     have td := Int.tdiv_eq_ediv_of_nonneg hp2 (b := 256)
     rw [tm] at hp4; rw [td] at hp5
     obtain ⟨dn, hdn⟩ : ∃ dn : Nat, y / 256 = dn := ⟨(y / 256).toNat, by omega⟩
     have hdl : dn < M.devs.length := by have := HN5.out; omega
     have u2 : IntKind.i64.wrap (dn : Int) = dn := IntWalk.i64_in _ (by omega)
     have u3 : IntKind.i64.wrap (y % 256) = y % 256 := IntWalk.i64_in _ (by omega)
     have u4 : IntKind.i64.wrap (y % 256 / 4) = y % 256 / 4 := IntWalk.i64_in _ (by omega)
     have td4 : (y % 256).tdiv 4 = y % 256 / 4 := Int.tdiv_eq_ediv_of_nonneg (by omega)
     have HKK : Hid (ek = 1 ∨ ek = 2) := zhd (by have := HPL.out; rw [hp1] at this; simp at this; exact this)
     have HR3 : Hid (R = zbA M k h ⟨ek, ed, ead, en, eo⟩ dn (y % 256 / 4)) := zhd (by rw [HR2.out, tm, td, td4, hdn])
     have HDL := zhd hdl
     clear tm td td4 HRR HR2 hdl hp1 hp3 hp5 z0 z6
     go_wp2_with (refine wpList_load_row rfl 56 _ rfl w.heap.size rfl 56 (hA h) (0, 0) _ HX1.out Tryz.underlying56 rfl (zaU hsh) ?_)
     refine (zhv _ B p _ _ _ _ _ _ _ _ _ qs M H N HO1.out HG.out hN hB1 k HK.out HKP.out h h32 ⟨ek, ed, ead, en, eo⟩ dn HDL.out _ (by omega) HKK.out).mono ?_
     rintro e w4 ⟨rfl, hb2, hk2⟩
     have HK2 := zhd hk2; have HB2 := zhd (HB1.out.trans hb2)
     clear hb2 hk2
     have hRR := HR3.out
     rw [← hRR] at HK2 ⊢
     clear hRR
     go_wp2_with fail
     go_ret
     exact ⟨rfl, HB2.out, HK2.out⟩
 · have HRR := zhd (HR.out.trans (if_pos rfl))
   have hx0 : 0 ≤ x := by have := HW.out; simp at this; exact this.1
   have u2 : IntKind.i64.wrap (x / 4) = x / 4 := IntWalk.i64_in _ (by omega)
   have td := Int.tdiv_eq_ediv_of_nonneg hx0 (b := 4)
   have HTD := zhd td
   clear td
   go_wp2_with (refine wpList_load_row rfl 56 _ rfl w.heap.size rfl 56 (hA h) (0, 0) _ HX1.out Tryz.underlying56 rfl (zaU hsh) ?_)
   refine (zj3 _ B p _ _ _ _ _ _ _ _ _ qs M H N HO1.out HG.out hB1 k HK.out h h32 ⟨ek, ed, ead, en, eo⟩ _ hk1).mono ?_
   rintro e w2 ⟨rfl, hb2, hk2⟩
   have HK2 := zhd hk2; have HB2 := zhd (HB1.out.trans hb2)
   clear hb2 hk2
   rw [← HTD.out] at HK2 ⊢
   have hRR := HRR.out
   rw [← hRR] at HK2 ⊢
   clear hRR
   go_wp2_with fail
   go_ret
   exact ⟨rfl, HB2.out, HK2.out⟩
end
section
open Go.RowKit
set_option maxRecDepth 100000
theorem zms (w : World) (B p : Nat) (wv hv ev m1 m2 m3 dv lv tv : Value) (qs : List Value) (M : Mac) (H N : Nat) (ho : OwnMac w B p wv hv ev m1 m2 m3 dv lv tv qs M) (hg : GoodM M H N) (k : Nat) (hk : k < M.harts.length) (x : Ins) (b : Bool) (hx : zeD M k = x) (hb : zeE M k = b) :
 Calls Tryz.prog 74 #[.pointer (some ⟨p, 0, none⟩), .int .i64 k] w fun e w' => e = .returned (.tuple #[insV x, .bool b]) ∧ Below w.heap.size w w' := by
 subst hx hb
 exact zmr w B p wv hv ev m1 m2 m3 dv lv tv qs M ho hg.regs hg.word hg.words k (by omega) (by omega) (hg.pcs _ (zd7 (by omega) (by omega))).1
theorem step_lit (h : Ht) (id op d a b n : Int) (w : World) (h32 : h.r.length = 32) (g : Ht) (e0 e1 e2 e3 e4 : Int) (hs : zdB h id ⟨op, d, a, b, n⟩ = (g, ⟨e0, e1, e2, e3, e4⟩)) :
 Calls Tryz.prog 75 #[.agg (hA h), .int .i64 id, .agg #[.int .i64 op, .int .i64 d, .int .i64 a, .int .i64 b, .int .i64 n]] w fun e' w' => e' = .returned (.tuple #[.agg (hA g), .agg #[.int .i64 e0, .int .i64 e1, .int .i64 e2, .int .i64 e3, .int .i64 e4]]) ∧ Below w.heap.size w w' := by
 have := step_any h id ⟨op, d, a, b, n⟩ w h32
 rw [hs] at this
 exact this

set_option maxHeartbeats 8000000 in
theorem step_mac (w : World) (B p : Nat) (wv hv ev m1 m2 m3 dv lv tv : Value) (qs : List Value) (M : Mac) (H N : Nat) (ho : OwnMac w B p wv hv ev m1 m2 m3 dv lv tv qs M) (hOE : OffE wv ev m1 m3) (hg : GoodM M H N) (hN : N ≤ 1000000) (hB : B ≤ w.heap.size) (c : Cho) :
 Calls Tryz.prog 41 #[.pointer (some ⟨p, 0, none⟩), cV c] w (MPost B p w (zdC M c.h)) := by
 obtain ⟨ck, ch, cw, cn⟩ := c
 obtain ⟨a1, c1, a2, c2, a3, c3, b1, d1, b2, d2, b3, d3, a5, c5, a6, c6, a7, c7, rfl, rfl, rfl, rfl, rfl, rfl, rfl, rfl, rfl⟩ := ho.shapes
 unfold cV
 simp only
 have he := hg.he
 obtain ⟨w1, hw1, hc1, hb1, _⟩ := zbY w (.cells #[.int .i64 ck, .int .i64 ch, .int .i64 cw, .int .i64 cn] 28)
 have HO1 := zhd (ho.below hb1)
 have HB1 : Hid (Below B w w1) := zhd (hb1.mono hB)
 have HC1 := zhd hc1
 obtain ⟨q0, q1, q2, q3⟩ := zaE hc1
 have hlc := zao hc1
 have HG := zhd hg; have HE := zhd he
 have hkp0 : ∀ k : Nat, k < M.harts.length → k < M.mem.pend.length := fun k hk => by obtain ⟨W, _, gm⟩ := hg.mem; rw [gm.pend, ← hg.harts]; exact hk
 have HP0 := zhd hkp0
 clear hc1 hb1 ho q0 q2 q3 hg he hkp0
 cases hh : zc9 M ch
 · have e : zdC M ch = (zbQ, 1) := by unfold zdC; rw [if_pos hh]
   rw [e]; clear e
   have HH := zhd hh; clear hh
   go_enter Tryz.func41, Tryz.ntmps41
   go_upto_region 1 with (fail)
   rw [← hw1]; clear hw1
   go_wp2_with fail
   refine (zcz _ _ _ _ _ _ _ _ _ _ _ _ _ M HO1.out HE.out ch false HH.out).mono ?_
   rintro e w2 ⟨rfl, hb2⟩
   have HB2 := zhd (zbu HB1.out hb2 hB)
   clear hb2
   go_wp2_with fail
   go_ret
   exact MPost.fail HB2.out (by decide)
 · obtain ⟨r0, r1, r2⟩ := zcy hh
   obtain ⟨k, rfl⟩ : ∃ k : Nat, ch = k := ⟨ch.toNat, by omega⟩
   have HH := zhd hh
   have HKE : Hid (k < M.ends.length) := zhd (by omega)
   have HKH : Hid (k < M.harts.length) := zhd (by omega)
   have HKP := zhd (HP0.out k HKH.out)
   obtain ⟨E, hE⟩ : ∃ E, zkv M (k : Int) = E := ⟨_, rfl⟩
   have HEE := zhd hE
   obtain ⟨R, hR⟩ : ∃ R, R = zdC M (k : Int) := ⟨_, rfl⟩
   rw [← hR]
   have HR := zhd hR
   obtain ⟨n3, hn3⟩ : ∃ n, n = M.ends.length := ⟨_, rfl⟩
   have hkn : k < n3 := by omega
   have HN3 := zhd hn3
   obtain ⟨g3, cc3, cur3', e2', _, _, _, _⟩ := zbM HO1.out.parts.ends HKE.out
   injection e2' with e2' _ e3'
   subst e2' e3'
   have HOE := zhd hOE
   clear hh r0 r1 r2 hE hR hn3 hOE
   go_enter Tryz.func41, Tryz.ntmps41
   go_upto_region 1 with (fail)
   rw [← hw1]; clear hw1
   go_wp2_with fail
   refine (zcz _ _ _ _ _ _ _ _ _ _ _ _ _ M HO1.out HE.out k true HH.out).mono ?_
   rintro e w2 ⟨rfl, hb2⟩
   have HB2 := zhd (zbu HB1.out hb2 hB)
   have HO2 := zhd (HO1.out.below hb2)
   have HC2 := zhd (zaf hb2 HC1.out)
   clear hb2 q1 hlc HB1 HO1 HC1
   obtain ⟨q0, q1, q2, q3⟩ := zaE HC2.out
   obtain ⟨k0, k1, k2, k3, k4, k5, k6, k7, k8⟩ := zam HO2.out.at_
   have hlp := zao HO2.out.at_; have hlc := zao HC2.out
   obtain ⟨g3', cc3', cur3, e2', hg3, hgB3, hce3, _⟩ := zbM HO2.out.parts.ends HKE.out
   injection e2' with e2' _ e3'
   injection e2' with e2'
   injection e2' with e2'
   subst e2' e3'
   rw [← zdc HKE.out, HEE.out] at hce3
   rw [← HN3.out] at k2
   have hlg := zao hg3
   have x2 := fun x => zal hlp k2 x
   have y1 := fun x => zal hlc q1 x
   have z1 := fun x => zal hlg hce3 x
   clear k0 k1 k2 k3 k4 k5 k6 k7 k8 q0 q1 q2 q3 hg3 hgB3 hce3
   go_upto_region 3 with (fail)
   by_cases hE : E = 0
   case neg =>
    have d0 : (E != 0) = true := by simp [hE]
    have HRR := zhd (HR.out.trans (by unfold zdC; rw [if_neg (by rw [HH.out]; simp), if_pos (by rw [HEE.out]; exact hE)] : zdC M (k : Int) = (zbQ, 100)))
    refine zaB (by kernel_rfl) (by kernel_rfl) ?_
    repeat (go_big_quiet_step (fail))
    refine wpQuiet_nil ?_
    rintro w3 ⟨⟨w3x, hb3⟩, rfl⟩
    have HB3 := zhd (zbu HB2.out hb3 hB)
    clear hb3 x2 y1 z1
    go_wp2_with fail
    go_ret
    rw [HRR.out]; exact MPost.fail (e := 100) HB3.out (by decide)
   have d0 : (E != 0) = false := by simp [hE]
   refine zaB (by kernel_rfl) (by kernel_rfl) ?_
   repeat (go_big_quiet_step (fail))
   refine wpQuiet_nil ?_
   rintro w3 ⟨⟨w3x, hb3⟩, rfl⟩
   have HB3 := zhd (zbu HB2.out hb3 hB)
   have HO3 := zhd (HO2.out.below hb3)
   have HC3 := zhd (zaf hb3 HC2.out)
   clear hb3 x2 y1 z1 hlp hlc hlg HB2 HO2 HC2 d0
   obtain ⟨q0, q1, q2, q3⟩ := zaE HC3.out
   have hlc := zao HC3.out
   obtain ⟨X, hX⟩ : ∃ X, zeD M (k : Int) = X := ⟨_, rfl⟩
   obtain ⟨Fb, hF⟩ : ∃ Fb, zeE M (k : Int) = Fb := ⟨_, rfl⟩
   have HX := zhd hX; have HF := zhd hF
   clear hX hF
   go_wp2_with fail
   refine (zms _ B p _ _ _ _ _ _ _ _ _ qs M H N HO3.out HG.out k HKH.out X Fb HX.out HF.out).mono ?_
   rintro e w4 ⟨rfl, hb4⟩
   have HB4 := zhd (zbu HB3.out hb4 hB)
   have HO4 := zhd (HO3.out.below hb4)
   have HC4 := zhd (zaf hb4 HC3.out)
   clear hb4 q0 q1 q2 q3 hlc HB3 HO3 HC3
   obtain ⟨xo, xd, xa, xb, xn⟩ := X
   rw [show insV ⟨xo, xd, xa, xb, xn⟩ = .agg #[.int .i64 xo, .int .i64 xd, .int .i64 xa, .int .i64 xb, .int .i64 xn] from rfl]
   obtain ⟨w5, hw5, hi5, hb5, _⟩ := zbY w4 (.cells #[.int .i64 xo, .int .i64 xd, .int .i64 xa, .int .i64 xb, .int .i64 xn] 72)
   have HB5 := zhd (zbu HB4.out hb5 hB)
   have HO5 := zhd (HO4.out.below hb5)
   have HC5 := zhd (zaf hb5 HC4.out)
   have HI5 := zhd hi5
   have HGL := zhd (HO5.out.parts.ends.lt g3 rfl).2
   clear hb5 hi5 HB4 HO4 HC4
   cases Fb
   · have HRR := zhd (HR.out.trans (by unfold zdC; rw [if_neg (by rw [HH.out]; simp), if_neg (by rw [HEE.out, hE]; simp), if_pos HF.out] : zdC M (k : Int) = (zeY M k 2, 0)))
     go_upto_region 7 with (fail)
     rw [← hw5]; clear hw5
     obtain ⟨q0, q1, q2, q3⟩ := zaE HC5.out
     obtain ⟨k0, k1, k2, k3, k4, k5, k6, k7, k8⟩ := zam HO5.out.at_
     have hlp := zao HO5.out.at_; have hlc := zao HC5.out
     obtain ⟨g3', cc3', cur3, e2', hg3, hgB3, hce3, _⟩ := zbM HO5.out.parts.ends HKE.out
     injection e2' with e2' _ e3'
     injection e2' with e2'
     injection e2' with e2'
     subst e2' e3'
     rw [← zdc HKE.out, HEE.out] at hce3
     rw [← HN3.out] at k2
     have hlg := zao hg3
     have x2 := fun x => zal hlp k2 x
     have y1 := fun x => zal hlc q1 x
     have HG3 := zhd hg3
     clear k0 k1 k2 k3 k4 k5 k6 k7 k8 q0 q1 q2 q3 hce3 hg3
     refine zau 8 (by kernel_rfl) (by kernel_rfl) ?_
     simp only [List.take_succ_cons, List.take_zero, List.drop_succ_cons, List.drop_zero]
     repeat (go_big_quiet_step (fail))
     refine wpQuiet_nil ?_
     rintro wt ⟨⟨wtx, hbt⟩, rfl⟩
     have hgt := zaf hbt HG3.out
     have HOt := zhd (HO5.out.below hbt)
     have HCt := zhd (zaf hbt HC5.out)
     have HBt := zhd (zbu HB5.out hbt hB)
     have hcell : wt.cell? ⟨g3, k, none⟩ = some (.int .i64 0) := by
      obtain ⟨g4, _, _, e4, _, _, hce4, _⟩ := zbM HOt.out.parts.ends HKE.out
      injection e4 with e4 _ _
      injection e4 with e4
      injection e4 with e4
      subst e4
      rw [← zdc HKE.out, HEE.out, hE] at hce4
      exact hce4
     have hfz := zaa hgt k
     have T := zhd (HOt.out.setEnd HOE.out rfl HKE.out 2)
     have hCn : (wt.setCell ⟨g3, k, none⟩ (.int .i64 2)).heap[w.heap.size]? = some (.cells #[.int .i64 ck, .int .i64 k, .int .i64 cw, .int .i64 cn] 28 (0, 0)) :=
      (zaD (by rintro rfl; have := HCt.out; rw [hgt] at this; injection this with e; injection e with _ e; exact absurd e (by decide))).trans HCt.out
     have HCn := zhd hCn
     have HBn := zhd (HBt.out.setCell (p := ⟨g3, k, none⟩) hgB3 (.int .i64 2))

     clear hbt x2 y1 hlp hlc hlg hgt hCn
     go_wp2_with fail
     go_ret
     rw [HRR.out]
     exact ⟨rfl, HBn.out, fun _ => ⟨_, _, _, _, _, _, _, _, _, _, T.out⟩⟩
   · have HR2 := zhd (HR.out.trans (by unfold zdC; rw [if_neg (by rw [HH.out]; simp), if_neg (by rw [HEE.out, hE]; simp), if_neg (by rw [HF.out]; simp), HX.out] : zdC M (k : Int) = effR M k (zdB (zbB M k) k ⟨xo, xd, xa, xb, xn⟩)))
     obtain ⟨r, hr⟩ : ∃ r, zdB (zbB M k) k ⟨xo, xd, xa, xb, xn⟩ = r := ⟨_, rfl⟩
     have hRR := HR2.out
     rw [hr] at hRR
     have hl := zkZ (zbB M k) k ⟨xo, xd, xa, xb, xn⟩ (HG.out.regsOf HH.out)
     rw [hr] at hl
     obtain ⟨T', ek, ed, ead, en, eo⟩ := r
     simp only at hl
     unfold effR at hRR
     simp only at hRR
     have HRE := zhd hRR
     have HS := zhd hr
     clear hRR hr HR2
     obtain ⟨gh, ch, curh, eh, hgh, hgBh, hrg, hth⟩ := HO5.out.parts.hart HG.out.regs HKH.out
     injection eh with eh _ eh2
     subst eh eh2
     have hhk := zhM HKH.out
     have h32 := HG.out.regs (M.harts[k]'HKH.out) (List.getElem_mem _)
     rw [← hhk] at hrg h32
     generalize zbB M (k : Int) = T at *
     have HRG := zhd hrg; have HGH := zhd hgh
     obtain ⟨nh, hnh⟩ : ∃ n, n = M.harts.length := ⟨_, rfl⟩
     have hknh : k < nh := by rw [hnh]; exact HKH.out
     have HNH := zhd hnh
     obtain ⟨q0, q1, q2, q3⟩ := zaE HC5.out
     obtain ⟨k0, k1, k2, k3, k4, k5, k6, k7, k8⟩ := zam HO5.out.at_
     have hlp := zao HO5.out.at_; have hlc := zao HC5.out
     rw [← HNH.out] at k1
     obtain ⟨i0, i1, i2, i3, i4⟩ := zaK HI5.out
     have hli := zao HI5.out
     have x1 := fun S (x : WdS w5 S) => zdo hlp k1 x
     have y1 := fun S (x : WdS w5 S) => zdo hlc q1 x
     have j0 := fun S (x : WdS w5 S) => zdo hli i0 x
     have j1 := fun S (x : WdS w5 S) => zdo hli i1 x
     have j2 := fun S (x : WdS w5 S) => zdo hli i2 x
     have j3 := fun S (x : WdS w5 S) => zdo hli i3 x
     have j4 := fun S (x : WdS w5 S) => zdo hli i4 x
     have R2 : Hid (∀ S : Rec, ∀ w' : World, (∃ x : WdS w5 S, w' = x.val) → (loadVar 56 ⟨gh, k * 39, none⟩).run Tryz.prog w' = .ok (.agg (hA T)) w') := zhd (by
      rintro S w' ⟨x, rfl⟩
      exact zdT h32 (zd3 HRG.out HGH.out (zaq x.ok.1 (zao HGH.out) HGH.out)))
     clear k0 k1 k2 k3 k4 k5 k6 k7 k8 q0 q1 q2 q3 i0 i1 i2 i3 i4 hrg hgh hnh hth hhk hlp hlc hli
     have hst' := zaw T' hl
     go_upto_region 9 with (fail)
     rw [← hw5]; clear hw5
     refine zgc 16 (by kernel_rfl) (by kernel_rfl) (by kernel_rfl) _ _ _ _ rfl rfl rfl rfl rfl rfl rfl rfl 7 8 rfl rfl rfl rfl (by decide) zA effZ (hA T') #[.int .i64 ek, .int .i64 ed, .int .i64 ead, .int .i64 en, .int .i64 eo] 56 131 ?r1 ?r2 ?a' ?h ?hst ?hQ
     case r1 => intro a w; kernel_rfl
     case r2 => intro a w; kernel_rfl
     case h =>
      intro S hne
      have x1' := x1 S; have y1' := y1 S; have j0' := j0 S; have j1' := j1 S; have j2' := j2 S; have j3' := j3 S; have j4' := j4 S
      have R3 := zhd (R2.out S)
      simp only [List.take_succ_cons, List.take_zero]
      iterate 8 (go_big_quiet_step (fail))
      go_big_quiet_want
      refine zaM 56 _ ⟨gh, k * 39, none⟩ (.agg (hA T)) rfl rfl R3.out ?_
      simp only [Act.put, List.setIfInBounds_toArray, List.set_cons_succ, List.set_cons_zero]
      go_big_quiet_on
      repeat (go_big_quiet_step ((go_at_call 75; with_reducible exact quiet_n (step_lit T k xo xd xa xb xn _ h32 T' ek ed ead en eo HS.out))))
      refine wpQuiet_nil ?_
      exact rfl
     case hst =>
      intro b1 b2 hb
      exact ⟨fun w' hw' => zhm 56 _ _ rfl b1 (hA T') rfl rfl 56 zA (zaU hst') (by rw [hst']; rfl) (zbj T') w' hw', fun w' hw' => zhm 131 _ _ rfl b2 #[.int .i64 ek, .int .i64 ed, .int .i64 ead, .int .i64 en, .int .i64 eo] rfl rfl 131 effZ (by kernel_rfl) rfl (by simp [Value.oneCell']) w' hw'⟩
     intro bh be w6 hbh hbe hbne hb6 hH6 hE6
     have HB6 := zhd (zbu HB5.out hb6 hB)
     have HO6 := zhd (HO5.out.below hb6)
     have HC6 := zhd (zaf hb6 HC5.out)
     have HH6 := zhd hH6; have HE6 := zhd hE6
     clear x1 y1 j0 j1 j2 j3 j4 R2 hb6 hH6 hE6 HB5 HO5 HC5
     try simp only [Act.put, List.setIfInBounds_toArray, List.set_cons_succ, List.set_cons_zero]
     obtain ⟨e0, e1, e2, e3, e4⟩ := zaK HE6.out
     have hle := zao HE6.out
     have hw5be : w5.heap.size ≤ be := hbe
     have hg3b : g3 < w5.heap.size := HGL.out
     by_cases h9 : ek = 9
     · have HRR := zhd (HRE.out.trans (if_pos h9))
       subst h9
       go_upto_region 12 with (fail)
       clear e0 e1 e2 e3 e4 hle
       obtain ⟨q0, q1, q2, q3⟩ := zaE HC6.out
       obtain ⟨k0, k1, k2, k3, k4, k5, k6, k7, k8⟩ := zam HO6.out.at_
       have hlp := zao HO6.out.at_; have hlc := zao HC6.out
       obtain ⟨g3', cc3', cur3, e2', hg3, hgB3, hce3, _⟩ := zbM HO6.out.parts.ends HKE.out
       injection e2' with e2' _ e3'
       injection e2' with e2'
       injection e2' with e2'
       subst e2' e3'
       rw [← zdc HKE.out, HEE.out] at hce3
       rw [← HN3.out] at k2
       have hlg := zao hg3
       have x2 := fun x => zal hlp k2 x
       have y1 := fun x => zal hlc q1 x
       have HG3 := zhd hg3
       clear k0 k1 k2 k3 k4 k5 k6 k7 k8 q0 q1 q2 q3 hce3 hg3
       refine zau 8 (by kernel_rfl) (by kernel_rfl) ?_
       simp only [List.take_succ_cons, List.take_zero, List.drop_succ_cons, List.drop_zero]
       repeat (go_big_quiet_step (fail))
       refine wpQuiet_nil ?_
       rintro wt ⟨⟨wtx, hbt⟩, rfl⟩
       have hgt := zaf hbt HG3.out
       have HOt := zhd (HO6.out.below hbt)
       have HCt := zhd (zaf hbt HC6.out)
       have HBt := zhd (zbu HB6.out hbt hB)
       have hcell : wt.cell? ⟨g3, k, none⟩ = some (.int .i64 0) := by
        obtain ⟨g4, _, _, e4, _, _, hce4, _⟩ := zbM HOt.out.parts.ends HKE.out
        injection e4 with e4 _ _
        injection e4 with e4
        injection e4 with e4
        subst e4
        rw [← zdc HKE.out, HEE.out, hE] at hce4
        exact hce4
       have hfz := zaa hgt k
       have T := zhd (HOt.out.setEnd HOE.out rfl HKE.out 2)
       have hCn : (wt.setCell ⟨g3, k, none⟩ (.int .i64 2)).heap[w.heap.size]? = some (.cells #[.int .i64 ck, .int .i64 k, .int .i64 cw, .int .i64 cn] 28 (0, 0)) :=
        (zaD (by rintro rfl; have := HCt.out; rw [hgt] at this; injection this with e; injection e with _ e; exact absurd e (by decide))).trans HCt.out
       have HCn := zhd hCn
       have HBn := zhd (HBt.out.setCell (p := ⟨g3, k, none⟩) hgB3 (.int .i64 2))

       clear hbt x2 y1 hlp hlc hlg hgt hCn
       go_wp2_with fail
       go_ret
       rw [HRR.out]
       exact ⟨rfl, HBn.out, fun _ => ⟨_, _, _, _, _, _, _, _, _, _, T.out⟩⟩
     have d9 : (ek == 9) = false := by simpa using h9
     by_cases h7 : ek = 7
     · have HRR := zhd (HRE.out.trans ((if_neg h9).trans (if_pos h7)))
       subst h7
       go_upto_region 15 with (fail)
       clear e0 e1 e2 e3 e4 hle d9
       obtain ⟨q0, q1, q2, q3⟩ := zaE HC6.out
       obtain ⟨k0, k1, k2, k3, k4, k5, k6, k7, k8⟩ := zam HO6.out.at_
       have hlp := zao HO6.out.at_; have hlc := zao HC6.out
       obtain ⟨g3', cc3', cur3, e2', hg3, hgB3, hce3, _⟩ := zbM HO6.out.parts.ends HKE.out
       injection e2' with e2' _ e3'
       injection e2' with e2'
       injection e2' with e2'
       subst e2' e3'
       rw [← zdc HKE.out, HEE.out] at hce3
       rw [← HN3.out] at k2
       have hlg := zao hg3
       have x2 := fun x => zal hlp k2 x
       have y1 := fun x => zal hlc q1 x
       have HG3 := zhd hg3
       clear k0 k1 k2 k3 k4 k5 k6 k7 k8 q0 q1 q2 q3 hce3 hg3
       refine zau 8 (by kernel_rfl) (by kernel_rfl) ?_
       simp only [List.take_succ_cons, List.take_zero, List.drop_succ_cons, List.drop_zero]
       repeat (go_big_quiet_step (fail))
       refine wpQuiet_nil ?_
       rintro wt ⟨⟨wtx, hbt⟩, rfl⟩
       have hgt := zaf hbt HG3.out
       have HOt := zhd (HO6.out.below hbt)
       have HCt := zhd (zaf hbt HC6.out)
       have HBt := zhd (zbu HB6.out hbt hB)
       have hcell : wt.cell? ⟨g3, k, none⟩ = some (.int .i64 0) := by
        obtain ⟨g4, _, _, e4, _, _, hce4, _⟩ := zbM HOt.out.parts.ends HKE.out
        injection e4 with e4 _ _
        injection e4 with e4
        injection e4 with e4
        subst e4
        rw [← zdc HKE.out, HEE.out, hE] at hce4
        exact hce4
       have hfz := zaa hgt k
       have T := zhd (HOt.out.setEnd HOE.out rfl HKE.out 1)
       have hCn : (wt.setCell ⟨g3, k, none⟩ (.int .i64 1)).heap[w.heap.size]? = some (.cells #[.int .i64 ck, .int .i64 k, .int .i64 cw, .int .i64 cn] 28 (0, 0)) :=
        (zaD (by rintro rfl; have := HCt.out; rw [hgt] at this; injection this with e; injection e with _ e; exact absurd e (by decide))).trans HCt.out
       have HCn := zhd hCn
       have HBn := zhd (HBt.out.setCell (p := ⟨g3, k, none⟩) hgB3 (.int .i64 1))
       have HHn := zhd ((zaD (u := Value.int .i64 1) (o := k) (show bh ≠ g3 by have := HGL.out; omega)).trans (zaf hbt HH6.out))
       clear hbt x2 y1 hlp hlc hlg hgt hCn
       go_upto_region 25 with (fail)
       obtain ⟨wn, hwn⟩ : ∃ x, x = wt.setCell ⟨g3, k, none⟩ (.int .i64 1) := ⟨_, rfl⟩
       rw [← hwn] at T HCn HBn HHn ⊢
       clear hwn hcell hfz
       have HOn := T
       obtain ⟨q0, q1, q2, q3⟩ := zaE HCn.out
       obtain ⟨k0, k1, k2, k3, k4, k5, k6, k7, k8⟩ := zam HOn.out.at_
       have hlp := zao HOn.out.at_; have hlc := zao HCn.out
       obtain ⟨gh', _, _, eh', hgh', hgB', _, hth'⟩ := HOn.out.parts.hart HG.out.regs HKH.out
       injection eh' with eh' _ _
       injection eh' with eh'
       injection eh' with eh'
       subst eh'
       rw [← HNH.out] at k1
       have hlb := zao HHn.out
       have x1 := fun x => zal hlp k1 x
       have y1 := fun x => zal hlc q1 x
       have R0 : Hid (∀ w' : World, (∃ x : Wd wn, w' = x.val) → (loadVar 56 ⟨bh, 0, none⟩).run Tryz.prog w' = .ok (.agg (hA T')) w') := zhd (by
        rintro w' ⟨x, rfl⟩
        exact run_loadVar_row _ _ 56 56 (hA T') (0, 0) _ (zaq x.bel hlb HHn.out) Tryz.underlying56 rfl (zaU hst'))
       have HTH := zhd hth'; have HGG := zhd hgh'
       clear k0 k1 k2 k3 k4 k5 k6 k7 k8 q0 q1 q2 q3 hgh' hth'
       refine zau 9 (by kernel_rfl) (by kernel_rfl) ?_
       simp only [List.take_succ_cons, List.take_zero, List.drop_succ_cons, List.drop_zero]
       iterate 7 (go_big_quiet_step (fail))
       go_big_quiet_want
       refine zaM 56 _ ⟨bh, 0, none⟩ (.agg (hA T')) rfl rfl R0.out ?_
       simp only [Act.put, List.setIfInBounds_toArray, List.set_cons_succ, List.set_cons_zero]
       go_big_quiet_on
       repeat (go_big_quiet_step (fail))
       refine wpQuiet_nil ?_
       rintro wz ⟨⟨wzx, hbz⟩, rfl⟩
       have HOz := zhd (HOn.out.below hbz)
       have HTz := zhd (zcd HTH.out HGG.out (zaf hbz HGG.out))
       have HBz := zhd (zbu HBn.out hbz hB)
       clear hbz x1 y1 R0 hlp hlc hlb
       go_wp2_with (refine wpList_store_mid rfl 56 _ _ rfl gh (k * 39) (hA T') rfl rfl (by rw [hst']; exact HTz.out) (by rw [hst']; exact zdm) (zbj T') ?_)
       go_ret
       rw [HRR.out]
       exact ⟨rfl, zaW hgB' _ _ HBz.out, fun _ => ⟨_, _, _, _, _, _, _, _, _, _, HOz.out.setHart HG.out.regs rfl HKH.out hl⟩⟩
     have d7 : (ek == 7) = false := by simpa using h7
     by_cases h6 : ek = 6
     · have HRE2 := zhd (HRE.out.trans ((if_neg h9).trans ((if_neg h7).trans (if_pos h6))))
       subst h6
       obtain ⟨q0, q1, q2, q3⟩ := zaE HC6.out
       have hlc := zao HC6.out
       by_cases hbu : (zaJ M.mem (k : Int)).length ≠ 0
       · have HRR := zhd (HRE2.out.trans (if_pos hbu))
         have HBU := zhd hbu; clear hbu
         go_wp2_with fail
         refine (zea _ _ _ _ _ _ _ _ _ _ _ _ _ M HO6.out k (by omega) (by have := HKP.out; omega) true (by simpa using HBU.out)).mono ?_
         rintro e w7 ⟨rfl, hb7⟩
         have HB7 := zhd (zbu HB6.out hb7 hB)
         clear hb7
         go_wp2_with fail
         go_ret
         rw [HRR.out]; exact MPost.fail (e := 92) HB7.out (by decide)
       · have HRR := zhd (HRE2.out.trans (if_neg hbu))
         have HBU := zhd hbu; clear hbu
         go_wp2_with fail
         refine (zea _ _ _ _ _ _ _ _ _ _ _ _ _ M HO6.out k (by omega) (by have := HKP.out; omega) false (by simpa using HBU.out)).mono ?_
         rintro e w7 ⟨rfl, hb7⟩
         have HB7 := zhd (zbu HB6.out hb7 hB)
         have HO7 := zhd (HO6.out.below hb7)
         have HC7 := zhd (zaf hb7 HC6.out)
         have HH7 := zhd (zaf hb7 HH6.out)
         clear hb7 q0 q1 q2 q3 hlc e0 e1 e2 e3 e4 hle d9 d7
         go_upto_region 25 with (fail)
         obtain ⟨q0, q1, q2, q3⟩ := zaE HC7.out
         obtain ⟨k0, k1, k2, k3, k4, k5, k6, k7, k8⟩ := zam HO7.out.at_
         have hlp := zao HO7.out.at_; have hlc := zao HC7.out
         obtain ⟨gh', _, _, eh', hgh', hgB', _, hth'⟩ := HO7.out.parts.hart HG.out.regs HKH.out
         injection eh' with eh' _ _
         injection eh' with eh'
         injection eh' with eh'
         subst eh'
         rw [← HNH.out] at k1
         have hlb := zao HH7.out
         have x1 := fun x => zal hlp k1 x
         have y1 := fun x => zal hlc q1 x
         have R0 : Hid (∀ w' : World, (∃ x : Wd w7, w' = x.val) → (loadVar 56 ⟨bh, 0, none⟩).run Tryz.prog w' = .ok (.agg (hA T')) w') := zhd (by
          rintro w' ⟨x, rfl⟩
          exact run_loadVar_row _ _ 56 56 (hA T') (0, 0) _ (zaq x.bel hlb HH7.out) Tryz.underlying56 rfl (zaU hst'))
         have HTH := zhd hth'; have HGG := zhd hgh'
         clear k0 k1 k2 k3 k4 k5 k6 k7 k8 q0 q1 q2 q3 hgh' hth'
         refine zau 9 (by kernel_rfl) (by kernel_rfl) ?_
         simp only [List.take_succ_cons, List.take_zero, List.drop_succ_cons, List.drop_zero]
         iterate 7 (go_big_quiet_step (fail))
         go_big_quiet_want
         refine zaM 56 _ ⟨bh, 0, none⟩ (.agg (hA T')) rfl rfl R0.out ?_
         simp only [Act.put, List.setIfInBounds_toArray, List.set_cons_succ, List.set_cons_zero]
         go_big_quiet_on
         repeat (go_big_quiet_step (fail))
         refine wpQuiet_nil ?_
         rintro wz ⟨⟨wzx, hbz⟩, rfl⟩
         have HOz := zhd (HO7.out.below hbz)
         have HTz := zhd (zcd HTH.out HGG.out (zaf hbz HGG.out))
         have HBz := zhd (zbu HB7.out hbz hB)
         clear hbz x1 y1 R0 hlp hlc hlb
         go_wp2_with (refine wpList_store_mid rfl 56 _ _ rfl gh (k * 39) (hA T') rfl rfl (by rw [hst']; exact HTz.out) (by rw [hst']; exact zdm) (zbj T') ?_)
         go_ret
         rw [HRR.out]
         exact ⟨rfl, zaW hgB' _ _ HBz.out, fun _ => ⟨_, _, _, _, _, _, _, _, _, _, HOz.out.setHart HG.out.regs rfl HKH.out hl⟩⟩
     have d6 : (ek == 6) = false := by simpa using h6
     by_cases h5 : 1 ≤ ek ∧ ek ≤ 5
     · have HRR := zhd (HRE.out.trans ((if_neg h9).trans ((if_neg h7).trans ((if_neg h6).trans (if_pos h5)))))
       obtain ⟨q0, q1, q2, q3⟩ := zaE HC6.out
       have hlc := zao HC6.out
       have hB6 : B ≤ w6.heap.size := Nat.le_trans hB HB6.out.size
       have hlh := zao HH6.out
       have H5 := zhd h5
       rcases (by omega : ek = 1 ∨ ek = 2 ∨ ek = 3 ∨ ek = 4 ∨ ek = 5) with rfl | rfl | rfl | rfl | rfl
       all_goals
        clear h5 h6 h7 h9 d6 d7 d9
        go_wp2_with (refine wpList_load_row rfl 56 _ rfl bh rfl 56 (hA T') (0, 0) _ HH6.out Tryz.underlying56 rfl (zaU hst') ?_)
        refine (zkL _ B p _ _ _ _ _ _ _ _ _ qs M H N HO6.out HOE.out HG.out hN hB6 k HKH.out T' hl ⟨_, ed, ead, en, eo⟩ H5.out).mono ?_
        rintro e w7 ⟨rfl, hb7, hk7⟩
        have HB7 := zhd (HB6.out.trans hb7)
        have HK7 := zhd hk7
        clear hb7 hk7 q0 q1 q2 q3 e0 e1 e2 e3 e4
        rw [← HRR.out] at HK7 ⊢
        go_wp2_with fail
        go_ret
        exact ⟨rfl, HB7.out, HK7.out⟩
     have HRR := zhd (HRE.out.trans ((if_neg h9).trans ((if_neg h7).trans ((if_neg h6).trans (if_neg h5)))))
     have t1 : (ek == 1) = false := by simp; omega
     have t2 : (ek == 2) = false := by simp; omega
     have t3 : (ek == 3) = false := by simp; omega
     have t4 : (ek == 4) = false := by simp; omega
     have t5 : (ek == 5) = false := by simp; omega
     go_upto_region 25 with (fail)
     clear e0 e1 e2 e3 e4 hle d9 d7 d6 t1 t2 t3 t4 t5 h9 h7 h6 h5
     obtain ⟨q0, q1, q2, q3⟩ := zaE HC6.out
     obtain ⟨k0, k1, k2, k3, k4, k5, k6, k7, k8⟩ := zam HO6.out.at_
     have hlp := zao HO6.out.at_; have hlc := zao HC6.out
     obtain ⟨gh', _, _, eh', hgh', hgB', _, hth'⟩ := HO6.out.parts.hart HG.out.regs HKH.out
     injection eh' with eh' _ _
     injection eh' with eh'
     injection eh' with eh'
     subst eh'
     rw [← HNH.out] at k1
     have hlb := zao HH6.out
     have x1 := fun x => zal hlp k1 x
     have y1 := fun x => zal hlc q1 x
     have R0 : Hid (∀ w' : World, (∃ x : Wd w6, w' = x.val) → (loadVar 56 ⟨bh, 0, none⟩).run Tryz.prog w' = .ok (.agg (hA T')) w') := zhd (by
      rintro w' ⟨x, rfl⟩
      exact run_loadVar_row _ _ 56 56 (hA T') (0, 0) _ (zaq x.bel hlb HH6.out) Tryz.underlying56 rfl (zaU hst'))
     have HTH := zhd hth'; have HGG := zhd hgh'
     clear k0 k1 k2 k3 k4 k5 k6 k7 k8 q0 q1 q2 q3 hgh' hth'
     refine zau 9 (by kernel_rfl) (by kernel_rfl) ?_
     simp only [List.take_succ_cons, List.take_zero, List.drop_succ_cons, List.drop_zero]
     iterate 7 (go_big_quiet_step (fail))
     go_big_quiet_want
     refine zaM 56 _ ⟨bh, 0, none⟩ (.agg (hA T')) rfl rfl R0.out ?_
     simp only [Act.put, List.setIfInBounds_toArray, List.set_cons_succ, List.set_cons_zero]
     go_big_quiet_on
     repeat (go_big_quiet_step (fail))
     refine wpQuiet_nil ?_
     rintro wz ⟨⟨wzx, hbz⟩, rfl⟩
     have HOz := zhd (HO6.out.below hbz)
     have HTz := zhd (zcd HTH.out HGG.out (zaf hbz HGG.out))
     have HBz := zhd (zbu HB6.out hbz hB)
     clear hbz x1 y1 R0 hlp hlc hlb
     go_wp2_with (refine wpList_store_mid rfl 56 _ _ rfl gh (k * 39) (hA T') rfl rfl (by rw [hst']; exact HTz.out) (by rw [hst']; exact zdm) (zbj T') ?_)
     go_ret
     rw [HRR.out]
     exact ⟨rfl, zaW hgB' _ _ HBz.out, fun _ => ⟨_, _, _, _, _, _, _, _, _, _, HOz.out.setHart HG.out.regs rfl HKH.out hl⟩⟩
end
section
open Go.RowKit
set_option maxRecDepth 100000
theorem zid : Tryz.prog.underlying 93 = some (.map 3 90) := by kernel_rfl
theorem zf7 (e : Bool) (k : Int) (w : World) : (Instr.checkKey e 10000 3 (.int .i64 k)).run Tryz.prog w = .ok () w := by cases e <;> kernel_rfl
theorem zero_func (w : World) : (zeroValue 90).run Tryz.prog w = .ok .nilFunc w := by kernel_rfl
abbrev ME (k : Int) (f born : Nat) : MapEntry := ⟨.int .i64 k, .func (.func f) #[] #[], born⟩
theorem zdl {w : World} {b cl f : Nat} {es : Array MapEntry} (k : Int) (hb : w.heap[b]? = some (.map es cl)) (hf : ∀ w : World, (Instr.findKey 3 (.int .i64 k) es.toList).run Tryz.prog w = .ok none w) :
 (Instr.mapUpdate 93 (.map (some b)) (.int .i64 k) (.func (.func f) #[] #[])).run Tryz.prog w = .ok () (ChangeMaps.setBlock w b (.map (es.push (ME k f cl)) (cl + 1))) := by
 simp [Instr.mapUpdate, Sem.run_bind, run_underlying zid, MapKept.run_getObj_map hb, zf7, hf, MapKept.run_setObj_map _ hb, ChangeMaps.setBlock, Result.andThen]
theorem zj5 {w : World} {b cl : Nat} {es : Array MapEntry} (k : Int) (hb : w.heap[b]? = some (.map es cl)) (r : Option (Nat × Value)) (hf : ∀ w : World, (Instr.findKey 3 (.int .i64 k) es.toList).run Tryz.prog w = .ok r w) :
 (Instr.lookup 93 (.map (some b)) (.int .i64 k) true).run Tryz.prog w = .ok (.tuple #[(r.map (·.2)).getD .nilFunc, .bool r.isSome]) w := by
 cases r with
 | none => simp [Instr.lookup, Sem.run_bind, run_underlying zid, MapKept.run_getObj_map hb, zf7, hf, zero_func, Result.andThen]
 | some x => simp [Instr.lookup, Sem.run_bind, run_underlying zid, MapKept.run_getObj_map hb, zf7, hf, Result.andThen]
theorem zcm {P : Program} {ops : Array Oper} {rest : List Oper} {o : Oper} {a : Act} {w w1 : World} {Q : Exit → Act → World → Prop} (hgd : o.guard = none) (t : TypeId) (m k v : Operand) (ho : o.op = .insert t m k v) {mv kv vv : Value} (hm : a.eval m = mv) (hk : a.eval k = kv) (hv : a.eval v = vv)
 (hr : (Instr.mapUpdate t mv kv vv).run P w = .ok () w1) (h : wpList P ops Q rest (a.put o.dst undef) w1) : wpList P ops Q (o :: rest) a w :=
 wpList_plain hgd fun _ hK => by
  unfold Oper.wp execOp
  simp only [ho, hm, hk, hv, Sem.run_bind, hr, Result.andThen_ok]
  exact hK _ _ h
theorem zh8 {P : Program} {ops : Array Oper} {rest : List Oper} {o : Oper} {a : Act} {w : World} {v : Value} {Q : Exit → Act → World → Prop} (hgd : o.guard = none) (t : TypeId) (m k : Operand) (ho : o.op = .lookup t m k true) {mv kv : Value} (hm : a.eval m = mv) (hk : a.eval k = kv)
 (hr : (Instr.lookup t mv kv true).run P w = .ok v w) (h : wpList P ops Q rest (a.put o.dst v) w) : wpList P ops Q (o :: rest) a w :=
 wpList_plain hgd fun _ hK => by
  unfold Oper.wp execOp
  simp only [ho, hm, hk, Sem.run_bind, hr, Result.andThen_ok]
  exact hK _ _ h
def esD : Nat → Array MapEntry
 | 0 => #[]
 | 1 => #[ME 1 41 0]
 | 2 => #[ME 1 41 0, ME 2 42 1]
 | 3 => #[ME 1 41 0, ME 2 42 1, ME 3 43 2]
 | 4 => #[ME 1 41 0, ME 2 42 1, ME 3 43 2, ME 4 44 3]
 | _ => #[ME 1 41 0, ME 2 42 1, ME 3 43 2, ME 4 44 3, ME 5 45 4]
theorem find_d0 (w : World) : (Instr.findKey 3 (.int .i64 1) (esD 0).toList).run Tryz.prog w = .ok none w := by kernel_rfl
theorem find_d1 (w : World) : (Instr.findKey 3 (.int .i64 2) (esD 1).toList).run Tryz.prog w = .ok none w := by kernel_rfl
theorem find_d2 (w : World) : (Instr.findKey 3 (.int .i64 3) (esD 2).toList).run Tryz.prog w = .ok none w := by kernel_rfl
theorem find_d3 (w : World) : (Instr.findKey 3 (.int .i64 4) (esD 3).toList).run Tryz.prog w = .ok none w := by kernel_rfl
theorem find_d4 (w : World) : (Instr.findKey 3 (.int .i64 5) (esD 4).toList).run Tryz.prog w = .ok none w := by kernel_rfl
theorem find_1 (w : World) : (Instr.findKey 3 (.int .i64 1) (esD 5).toList).run Tryz.prog w = .ok (some (0, .func (.func 41) #[] #[])) w := by kernel_rfl
theorem find_2 (w : World) : (Instr.findKey 3 (.int .i64 2) (esD 5).toList).run Tryz.prog w = .ok (some (1, .func (.func 42) #[] #[])) w := by kernel_rfl
theorem find_3 (w : World) : (Instr.findKey 3 (.int .i64 3) (esD 5).toList).run Tryz.prog w = .ok (some (2, .func (.func 43) #[] #[])) w := by kernel_rfl
theorem find_4 (w : World) : (Instr.findKey 3 (.int .i64 4) (esD 5).toList).run Tryz.prog w = .ok (some (3, .func (.func 44) #[] #[])) w := by kernel_rfl
theorem find_5 (w : World) : (Instr.findKey 3 (.int .i64 5) (esD 5).toList).run Tryz.prog w = .ok (some (4, .func (.func 45) #[] #[])) w := by kernel_rfl
theorem und_int : Tryz.prog.underlying 3 = some (.int .i64) := by kernel_rfl
theorem find_no (k : Int) (h : k ≠ 1 ∧ k ≠ 2 ∧ k ≠ 3 ∧ k ≠ 4 ∧ k ≠ 5) (w : World) : (Instr.findKey 3 (.int .i64 k) (esD 5).toList).run Tryz.prog w = .ok none w := by
 have b1 : (k == 1) = false := by simp [h.1]
 have b2 : (k == 2) = false := by simp [h.2.1]
 have b3 : (k == 3) = false := by simp [h.2.2.1]
 have b4 : (k == 4) = false := by simp [h.2.2.2.1]
 have b5 : (k == 5) = false := by simp [h.2.2.2.2]
 simp only [esD]
 have hn : Instr.findNow (.int .i64) (.int .i64 k) (esD 5).toList 0 = some none := by
  simp only [esD, Instr.findNow, Instr.sameNow, if_true, b1, b2, b3, b4, b5]
 simp only [esD] at hn
 simp [Instr.findKey, Sem.run_bind, run_underlying und_int, hn, Result.andThen]
def mapW (w : World) (b : Nat) : Nat → World
 | 0 => w
 | n + 1 => ChangeMaps.setBlock (mapW w b n) b (.map (esD (n + 1)) (n + 1))
theorem zis {w : World} {b : Nat} (hb : b < w.heap.size) (h0 : w.heap[b]? = some (.map #[] 0)) : ∀ n, (mapW w b n).heap[b]? = some (.map (esD n) n) ∧ (mapW w b n).heap.size = w.heap.size
 | 0 => ⟨h0, rfl⟩
 |
  n + 1 => by
  have := zis hb h0 n
  refine ⟨?_, by simp [mapW, ChangeMaps.setBlock, this.2]⟩
  simp only [mapW, ChangeMaps.setBlock]
  rw [Array.getElem?_setIfInBounds_self_of_lt (by rw [this.2]; exact hb)]
theorem zje (w : World) (b : Nat) : ∀ n g, g ≠ b → (mapW w b n).heap[g]? = w.heap[g]?
 | 0, _, _ => rfl
 |
  n + 1, g, hg => by
  simp only [mapW, ChangeMaps.setBlock]
  rw [Array.getElem?_setIfInBounds_ne (by omega)]
  exact zje w b n g hg
theorem zh3 {w : World} {b : Nat} {a : World} {B : Nat} (h : Below B a w) (hB : B ≤ b) : ∀ n, Below B a (mapW w b n)
 | 0 => h
 |
  n + 1 => by
  have := zh3 h hB n
  exact { os := this.os, tape := this.tape, output := this.output, size := by have := this.size; simp only [mapW, ChangeMaps.setBlock, Array.size_setIfInBounds]; exact this, block := fun g hg => by simp only [mapW, ChangeMaps.setBlock]; rw [Array.getElem?_setIfInBounds_ne (by omega)]; exact this.block g hg }
theorem map_made (w2 : World) (b : Nat) (h20 : w2.heap[b]? = some (.map #[] 0)) : ∃ u1 u2 u3 u4 u5 : World, (Instr.mapUpdate 93 (.map (some b)) (.int .i64 1) (.func (.func 41) #[] #[])).run Tryz.prog w2 = .ok () u1 ∧ (Instr.mapUpdate 93 (.map (some b)) (.int .i64 2) (.func (.func 42) #[] #[])).run Tryz.prog u1 = .ok () u2 ∧ (Instr.mapUpdate 93 (.map (some b)) (.int .i64 3) (.func (.func 43) #[] #[])).run Tryz.prog u2 = .ok () u3 ∧ (Instr.mapUpdate 93 (.map (some b)) (.int .i64 4) (.func (.func 44) #[] #[])).run Tryz.prog u3 = .ok () u4 ∧ (Instr.mapUpdate 93 (.map (some b)) (.int .i64 5) (.func (.func 45) #[] #[])).run Tryz.prog u4 = .ok () u5 ∧ u5.heap[b]? = some (.map (esD 5) 5) ∧ (∀ g, g ≠ b → u5.heap[g]? = w2.heap[g]?) ∧ u5.heap.size = w2.heap.size ∧ (∀ B a, Below B a w2 → B ≤ b → Below B a u5) := by
 have hlb := zao h20
 have A := fun n => (zis hlb h20 n).1
 refine ⟨mapW w2 b 1, mapW w2 b 2, mapW w2 b 3, mapW w2 b 4, mapW w2 b 5, ?_, ?_, ?_, ?_, ?_, A 5, fun g hg => zje w2 b 5 g hg, (zis hlb h20 5).2, fun B a h hB => zh3 h hB 5⟩
 · have e : (esD 0).push (ME 1 41 0) = esD 1 := by kernel_rfl
   have r := zdl (f := 41) 1 (A 0) find_d0
   rw [e] at r; exact r
 · have e : (esD 1).push (ME 2 42 1) = esD 2 := by kernel_rfl
   have r := zdl (f := 42) 2 (A 1) find_d1
   rw [e] at r; exact r
 · have e : (esD 2).push (ME 3 43 2) = esD 3 := by kernel_rfl
   have r := zdl (f := 43) 3 (A 2) find_d2
   rw [e] at r; exact r
 · have e : (esD 3).push (ME 4 44 3) = esD 4 := by kernel_rfl
   have r := zdl (f := 44) 4 (A 3) find_d3
   rw [e] at r; exact r
 · have e : (esD 4).push (ME 5 45 4) = esD 5 := by kernel_rfl
   have r := zdl (f := 45) 5 (A 4) find_d4
   rw [e] at r; exact r
end
section
open Go.RowKit
set_option maxRecDepth 100000
theorem zj4 (M : Mac) (i : Int) (h : Ht) (e : Eff) (a : Int) : (zbN M i h e a).2 ≠ 0 → (zbN M i h e a).1 = zbQ := by
 unfold zbN; split
 · intro h; exact absurd rfl h
 · intro _; rfl
theorem zhw (M : Mac) (i : Int) (h : Ht) (e : Eff) (d g : Int) : (zbA M i h e d g).2 ≠ 0 → (zbA M i h e d g).1 = zbQ := by
 unfold zbA; repeat' split
 all_goals first | (intro h; exact absurd rfl h) | (intro _; rfl)
theorem zkM (M : Mac) (i : Int) (h : Ht) (e : Eff) : (zdh M i h e).2 ≠ 0 → (zdh M i h e).1 = zbQ := by
 unfold zdh; split
 · exact zj4 _ _ _ _ _
 · split
   · exact zhw _ _ _ _ _ _
   · intro h; exact absurd rfl h
theorem effR_no (M : Mac) (i : Int) (r : Ht × Eff) : (effR M i r).2 ≠ 0 → (effR M i r).1 = zbQ := by
 unfold effR; repeat' split
 all_goals first | exact zkM _ _ _ _ | (intro h; exact absurd rfl h) | (intro _; rfl)
theorem stepM_no (M : Mac) (i : Int) : (zdC M i).2 ≠ 0 → (zdC M i).1 = zbQ := by
 unfold zdC; repeat' split
 all_goals first | exact effR_no _ _ _ | (intro h; exact absurd rfl h) | (intro _; rfl)
theorem zmH (M : Mac) (i k : Int) : (zcN M i k).2 ≠ 0 → (zcN M i k).1 = zbQ := by
 unfold zcN; repeat' split
 all_goals first | (intro h; exact absurd rfl h) | (intro _; rfl)
theorem zlx (M : Mac) (k : Int) : (zdQ M k).2 ≠ 0 → (zdQ M k).1 = zbQ := by
 unfold zdQ; split
 · intro h; exact absurd rfl h
 · intro _; rfl
theorem takeM_no (M : Mac) (i : Int) : (zdA M i).2 ≠ 0 → (zdA M i).1 = zbQ := by
 unfold zdA; repeat' split
 all_goals first | (intro h; exact absurd rfl h) | (intro _; rfl)
theorem zl8 (M : Mac) (d n : Int) : (zdz M d n).2 ≠ 0 → (zdz M d n).1 = zbQ := by
 unfold zdz; split
 · intro h; exact absurd rfl h
 · intro _; rfl
end
section
open Go.RowKit
set_option maxRecDepth 100000
theorem zh7 {P : Program} {ops : Array Oper} {rest : List Oper} {o : Oper} {a : Act} {w w2 : World} {b : Nat} {Q : Exit → Act → World → Prop} (hgd : o.guard = none) (t : TypeId) (ho : o.op = .makeMap t none) (hb : b = w.heap.size) (hw : w2 = w.alloc (.map #[] 0))
 (h : wpList P ops Q rest (a.put o.dst (.map (some b))) w2) : wpList P ops Q (o :: rest) a w :=
 wpList_plain hgd fun _ hK => by
  subst hb hw
  unfold Oper.wp execOp
  simp only [ho, Option.map_none, run_makeMap, Result.andThen_ok]
  exact hK _ _ h
def ze7 (w : World) (r : Mac × Int) (e : Ending) (w' : World) : Prop := ∃ v', e = .returned (.tuple #[v', .int .i64 r.2]) ∧ IsMac w' v' r.1 ∧ Below w.heap.size w w'
abbrev nil9 : Array Value := #[.slice none 0 0, .slice none 0 0, .slice none 0 0, .slice none 0 0, .slice none 0 0, .slice none 0 0, .slice none 0 0, .slice none 0 0, .slice none 0 0]
theorem zim {i : Nat} {v : Value} (h : nil9[i]? = some v) : v = .slice none 0 0 := by
 have hi : i < 9 := by
  have := (Array.getElem?_eq_some_iff.1 h).1
  simpa [nil9] using this
 match i, hi with
 | 0, _ => simpa [nil9] using h.symm
 | 1, _ => simpa [nil9] using h.symm
 | 2, _ => simpa [nil9] using h.symm
 | 3, _ => simpa [nil9] using h.symm
 | 4, _ => simpa [nil9] using h.symm
 | 5, _ => simpa [nil9] using h.symm
 | 6, _ => simpa [nil9] using h.symm
 | 7, _ => simpa [nil9] using h.symm
 | 8, _ => simpa [nil9] using h.symm

theorem zeB : (Tryz.prog.info? 37).map (·.size) = some 9 := by kernel_rfl
theorem ze4 {w : World} {v : Value} {M : Mac} (h : IsMac w v M) : ∃ x0 xn0 xc0 x1 xn1 xc1 x2 xn2 xc2 x3 xn3 xc3 x4 xn4 xc4 x5 xn5 xc5 x6 xn6 xc6 x7 xn7 xc7 x8 xn8 xc8, v = .agg #[.slice x0 xn0 xc0, .slice x1 xn1 xc1, .slice x2 xn2 xc2, .slice x3 xn3 xc3, .slice x4 xn4 xc4, .slice x5 xn5 xc5, .slice x6 xn6 xc6, .slice x7 xn7 xc7, .slice x8 xn8 xc8] := by
 obtain ⟨wv, hv, ev, m1, m2, m3, dv, lv, tv, qs, rfl, hp⟩ := h
 obtain ⟨_, _, rfl⟩ := zai hp.words
 obtain ⟨_, _, rfl⟩ := zai hp.harts
 obtain ⟨_, _, rfl⟩ := zai hp.ends
 obtain ⟨_, _, rfl⟩ := zai hp.devs
 obtain ⟨_, _, rfl⟩ := zai hp.lines
 obtain ⟨_, _, rfl⟩ := zai hp.trace
 obtain ⟨x1, n1, y1, x2, n2, y2, x3, n3, y3, em⟩ := zb8 hp.mem
 injection em with em
 have f1 : m1 = .slice x1 n1 y1 := by have := congrArg (·[0]?) em; simpa using this
 have f2 : m2 = .slice x2 n2 y2 := by have := congrArg (·[1]?) em; simpa using this
 have f3 : m3 = .slice x3 n3 y3 := by have := congrArg (·[2]?) em; simpa using this
 subst f1 f2 f3
 exact ⟨_, _, _, _, _, _, _, _, _, _, _, _, _, _, _, _, _, _, _, _, _, _, _, _, _, _, _, rfl⟩
theorem nine_at {x0 : Option Addr} {xn0 xc0 : Nat} {x1 : Option Addr} {xn1 xc1 : Nat} {x2 : Option Addr} {xn2 xc2 : Nat} {x3 : Option Addr} {xn3 xc3 : Nat} {x4 : Option Addr} {xn4 xc4 : Nat} {x5 : Option Addr} {xn5 xc5 : Nat} {x6 : Option Addr} {xn6 xc6 : Nat} {x7 : Option Addr} {xn7 xc7 : Nat} {x8 : Option Addr} {xn8 xc8 : Nat} {i : Nat} {v : Value} (h : (#[.slice x0 xn0 xc0, .slice x1 xn1 xc1, .slice x2 xn2 xc2, .slice x3 xn3 xc3, .slice x4 xn4 xc4, .slice x5 xn5 xc5, .slice x6 xn6 xc6, .slice x7 xn7 xc7, .slice x8 xn8 xc8] : Array Value)[i]? = some v) : ∃ a n c, v = .slice a n c := by
 have hi : i < 9 := by
  have := (Array.getElem?_eq_some_iff.1 h).1
  simpa using this
 match i, hi with
 | 0, _ => exact ⟨_, _, _, by simpa using h.symm⟩
 | 1, _ => exact ⟨_, _, _, by simpa using h.symm⟩
 | 2, _ => exact ⟨_, _, _, by simpa using h.symm⟩
 | 3, _ => exact ⟨_, _, _, by simpa using h.symm⟩
 | 4, _ => exact ⟨_, _, _, by simpa using h.symm⟩
 | 5, _ => exact ⟨_, _, _, by simpa using h.symm⟩
 | 6, _ => exact ⟨_, _, _, by simpa using h.symm⟩
 | 7, _ => exact ⟨_, _, _, by simpa using h.symm⟩
 | 8, _ => exact ⟨_, _, _, by simpa using h.symm⟩
theorem que_res9 {w w' : World} {b : Nat} {cs : Array Value} (K : But b w w') (hb : w.heap[b]? = some (.cells cs 37 (0, 0))) (hcs : ∀ (i : Nat) (v : Value), cs[i]? = some v → ∃ a n c, v = Value.slice a n c) {s : St} {q : Value} (h : Reads w 1 s.q.length q (qL s)) : Reads w' 1 s.q.length q (qL s) := by
 refine ⟨h.1, h.2.1, ?_⟩
 rcases h.2.2 with h | ⟨g, o, c, rfl, hlt, hc, hm, hcell⟩
 · exact .inl h
 · refine .inr ⟨g, o, c, rfl, Nat.lt_of_lt_of_le hlt K.1, hc, hm, fun j u hj => ?_⟩
   have hu := hcell j u hj
   by_cases hg : g = b
   · subst hg
     simp only [World.cell?, hb] at hu
     obtain ⟨_, _, _, this⟩ := hcs (o + j) u (by simpa using hu)
     have hq : u ∈ qL s := List.mem_of_getElem? hj
     obtain ⟨z, _, hz⟩ := List.mem_map.1 hq
     rw [this] at hz
     cases hz
   · rw [← hu]
     simp only [World.cell?, K.2 g hg]
theorem IsMac.row9 {w : World} {v : Value} {M : Mac} (h : IsMac w v M) {b : Nat} {cs cs' : Array Value} (hb : w.heap[b]? = some (.cells cs 37 (0, 0))) (hcs : ∀ (i : Nat) (v : Value), cs[i]? = some v → ∃ a n c, v = Value.slice a n c) : IsMac (w.setRow b cs') v M := by
 obtain ⟨wv, hv, ev, m1, m2, m3, dv, lv, tv, qs, rfl, h⟩ := h
 have K := zf8 w b cs'
 exact ⟨wv, hv, ev, m1, m2, m3, dv, lv, tv, qs, rfl, zas h.words K (zar h.words hb (by decide)), zas h.harts K (zar h.harts hb (by decide)), zas h.ends K (zar h.ends hb (by decide)), zcu h.mem K hb (by decide) (by decide), zas h.devs K (zar h.devs hb (by decide)),
  ⟨h.ques.1, fun i q s h1 h2 => que_res9 K hb hcs (h.ques.2 i q s h1 h2)⟩, zas h.lines K (zar h.lines hb (by decide)), zas h.trace K (zar h.trace hb (by decide))⟩
structure Nine (cs : Array Value) : Prop where
 size : cs.size = 9
 all : ∀ (i : Nat) (v : Value), cs[i]? = some v → ∃ a n c, v = Value.slice a n c
theorem Nine.one {cs : Array Value} (h : Nine cs) : cs.all (·.oneCell') = true := by
 rw [Array.all_eq_true]
 intro i hi
 obtain ⟨a, n, c, e⟩ := h.all i cs[i] (Array.getElem?_eq_getElem hi)
 rw [e]; rfl
theorem zb2 : Nine nil9 := ⟨rfl, fun i v h => ⟨none, 0, 0, zim h⟩⟩
theorem Nine.info {cs : Array Value} (h : Nine cs) : (Tryz.prog.info? 37).map (·.size) = some cs.size := by rw [h.size]; exact zeB
theorem zcF {w : World} {v : Value} {M : Mac} (h : IsMac w v M) : ∃ cs, v = .agg cs ∧ Nine cs := by
 obtain ⟨x0, xn0, xc0, x1, xn1, xc1, x2, xn2, xc2, x3, xn3, xc3, x4, xn4, xc4, x5, xn5, xc5, x6, xn6, xc6, x7, xn7, xc7, x8, xn8, xc8, rfl⟩ := ze4 h
 exact ⟨_, rfl, rfl, fun _ _ => nine_at⟩
theorem results_cell_tmp {P : Program} {fn : Func} {p q : Tmp} {ty : TypeId} (h : fn.results = #[.cell p ty, .tmp q]) (tmps : Array Value) (w : World) (g : Nat) (t : TypeId) (cs : Array Value) (fr : Nat × Nat) (d : TypeDesc)
 (hp : tmps.getD p undef = .pointer (some ⟨g, 0, none⟩)) (hg : w.heap[g]? = some (.cells cs t fr)) {v : Value} (hq : tmps.getD q undef = v)
 (hu : P.underlying ty = some d) (hd : (match d with | .struct _ | .array _ _ => true | _ => false) = true) (hi : (P.info? ty).map (·.size) = some cs.size) :
 (results fn tmps).run P w = .ok (.tuple #[.agg cs, v]) w := by
 have hp' : tmps[p]?.getD undef = .pointer (some ⟨g, 0, none⟩) := by simpa using hp
 have hq' : tmps[q]?.getD undef = v := by simpa using hq
 simp [results, h, hp', hq', asAddr, run_loadVar_row w g t ty cs fr d hg hu hd hi]
set_option maxHeartbeats 8000000 in
theorem do_way (v : Value) (M : Mac) (H N : Nat) (w : World) (ck ch cw cn : Int) (fn : Nat) (R : Mac × Int) (x : Nat) (hm : IsMac w v M) (hg : GoodM M H N) (hN : N ≤ 100000) (hno : R.2 ≠ 0 → R.1 = zbQ)
 (hfind : ∀ w : World, (Instr.findKey 3 (.int .i64 ck) (esD 5).toList).run Tryz.prog w = .ok (some (x, .func (.func fn) #[] #[])) w)
 (hcall : ∀ (args : Array Value) (w : World), (callFunc fn args).run Tryz.prog w = .ok (.enter fn args) w)
 (hrun : ∀ (w3 : World) (B p : Nat) (wv hv ev m1 m2 m3 dv lv tv : Value) (qs : List Value), OwnMac w3 B p wv hv ev m1 m2 m3 dv lv tv qs M → OffE wv ev m1 m3 → B ≤ w3.heap.size → Calls Tryz.prog fn #[.pointer (some ⟨p, 0, none⟩), .agg #[.int .i64 ck, .int .i64 ch, .int .i64 cw, .int .i64 cn]] w3 (MPost B p w3 R)) :
 Calls Tryz.prog 17 #[v, .agg #[.int .i64 ck, .int .i64 ch, .int .i64 cw, .int .i64 cn]] w (ze7 w R) := by
 obtain ⟨vs, rfl, vn⟩ := zcF hm
 have HMM := zhd hm; have HG := zhd hg; have HNO := zhd hno; have HRUN := zhd hrun
 obtain ⟨w1, hw1, hx1, hy1, hz1, hb1⟩ := zch w (.cells vs 37) (.cells #[.int .i64 ck, .int .i64 ch, .int .i64 cw, .int .i64 cn] 28) (.cells nil9 37)
 obtain ⟨b, hbe⟩ : ∃ b, b = w1.heap.size := ⟨_, rfl⟩
 obtain ⟨w2, hw2⟩ : ∃ x, x = w1.alloc (.map #[] 0) := ⟨_, rfl⟩
 have h20 : w2.heap[b]? = some (.map #[] 0) := by rw [hw2, hbe]; exact zat w1 _
 have hlb := zao h20
 obtain ⟨u1, u2, u3, u4, u5, g1, g2, g3, g4, g5, A5, B2, SZ, BB⟩ := map_made w2 b h20
 have H1 := zhd g1; have H2 := zhd g2; have H3 := zhd g3; have H4 := zhd g4; have H5 := zhd g5
 have HL : Hid ((Instr.lookup 93 (.map (some b)) (.int .i64 ck) true).run Tryz.prog u5 = .ok (.tuple #[.func (.func fn) #[] #[], .bool true]) u5) := zhd (zj5 ck A5 _ hfind)
 have hb2 : Below w.heap.size w w2 := by rw [hw2]; exact zae hb1 (zan w1 _)
 have hx2 := zaf (show Below w1.heap.size w1 w2 by rw [hw2]; exact zan w1 _) hx1
 have hy2 := zaf (show Below w1.heap.size w1 w2 by rw [hw2]; exact zan w1 _) hy1
 have hz2 := zaf (show Below w1.heap.size w1 w2 by rw [hw2]; exact zan w1 _) hz1
 have n0 := zao hx1; have n1 := zao hy1; have n2 := zao hz1
 have hy5 := (B2 (w.heap.size + 1) (by omega)).trans hy2
 have Y0 := (zaE hy5).1
 have hly5 := zao hy5
 have HX := zhd ((B2 w.heap.size (by omega)).trans hx2)
 have HY := zhd ((B2 (w.heap.size + 1) (by omega)).trans hy2)
 have HZ := zhd ((B2 (w.heap.size + 2) (by omega)).trans hz2)
 have hbs : Below w.heap.size w u5 := BB _ _ hb2 (by rw [hbe]; exact hb1.size)
 have HBS := zhd hbs
 have HBE := zhd hbe; have HW2 := zhd hw2
 clear hx1 hy1 hz1 hb1 hx2 hy2 hz2 hbs B2 A5 BB SZ g1 g2 g3 g4 g5 h20 hlb hbe hw2 hy5
 go_enter Tryz.func17, Tryz.ntmps17
 go_upto_region 1 with (fail)
 rw [← hw1]; clear hw1
 go_upto_region 2 with (first | (refine zh7 rfl 93 rfl HBE.out HW2.out ?_) | (refine zcm (w1 := u1) (mv := .map (some b)) (kv := .int .i64 1) (vv := .func (.func 41) #[] #[]) rfl 93 _ _ _ rfl rfl rfl rfl H1.out ?_) | (refine zcm (w1 := u2) (mv := .map (some b)) (kv := .int .i64 2) (vv := .func (.func 42) #[] #[]) rfl 93 _ _ _ rfl rfl rfl rfl H2.out ?_) | (refine zcm (w1 := u3) (mv := .map (some b)) (kv := .int .i64 3) (vv := .func (.func 43) #[] #[]) rfl 93 _ _ _ rfl rfl rfl rfl H3.out ?_) | (refine zcm (w1 := u4) (mv := .map (some b)) (kv := .int .i64 4) (vv := .func (.func 44) #[] #[]) rfl 93 _ _ _ rfl rfl rfl rfl H4.out ?_) | (refine zcm (w1 := u5) (mv := .map (some b)) (kv := .int .i64 5) (vv := .func (.func 45) #[] #[]) rfl 93 _ _ _ rfl rfl rfl rfl H5.out ?_))
 go_upto_region 3 with (refine zh8 (mv := .map (some b)) (kv := .int .i64 ck) rfl 93 _ _ rfl rfl rfl HL.out ?_)
 go_wp2_with (refine wpList_load_row rfl 37 _ rfl w.heap.size rfl 37 vs (0, 0) _ HX.out Tryz.underlying37 rfl vn.info ?_)
 refine (of_mac _ M H N _ (HMM.out.below HBS.out) HG.out hN).mono ?_
 rintro e w3 ⟨p, wv', hv', ev', m1', m2', m3', dv', lv', tv', qs', rfl, hown, hoff, hb3⟩
 have HC := zhd (HRUN.out w3 u5.heap.size p _ _ _ _ _ _ _ _ _ _ hown hoff hb3.size)
 have HY3 := zhd (zaf hb3 HY.out); have HZ3 := zhd (zaf hb3 HZ.out)
 have HB3 := zhd (zae HBS.out hb3)
 obtain ⟨c0, c1, c2, c3⟩ := zaE HY3.out
 have hlc := zao HY3.out
 clear hown hoff hb3 Y0 hly5
 go_wp2_with fail
 refine HC.out.mono ?_
 rintro e w4 ⟨rfl, hb4, hok⟩
 have HZ4 : Hid (w4.heap[w.heap.size + 2]? = some (.cells nil9 37 (0, 0))) := zhd ((hb4.block _ (by have := zao HZ.out; exact this)).trans HZ3.out)
 have HB4 : Hid (Below w.heap.size w w4) := zhd (HB3.out.trans (hb4.mono HBS.out.size))
 clear c0 c1 c2 c3 hlc hb4
 obtain ⟨M', er⟩ := R
 simp only at hok HNO ⊢
 by_cases h0 : er = 0
 · subst h0
   obtain ⟨W1, W2, W3, W4, W5, W6, W7, W8, W9, QS, hok⟩ := hok rfl
   have hi := hok.isMac
   have hcs := hok.at_
   obtain ⟨cs, ecs, n4⟩ := zcF hi
   rw [ecs] at hi
   injection ecs with ecs
   rw [ecs] at hcs
   have HCS := zhd hcs
   have HI := zhd (hi.row9 (cs' := cs) HZ4.out zb2.all)
   have HZ9 : Hid ((w4.setRow (w.heap.size + 1 + 1) cs).heap[w.heap.size + 1 + 1]? = some (.cells cs 37 (0, 0))) := zhd (setRow_heap _ _ _ _ _ _ HZ4.out)
   clear hok hcs hi ecs
   go_wp2_with (first | (refine wpList_store_row rfl 37 _ _ rfl (w.heap.size + 1 + 1) cs rfl rfl 37 nil9 HZ4.out n4.info (by rw [n4.size]; rfl) n4.one ?_) | (refine wpList_load_row rfl 37 _ rfl p rfl 97 cs (0, 0) _ HCS.out Tryz.underlying37 rfl n4.info ?_))
   exact bodyPost_ret (v := .tuple #[.agg cs, .int .i64 0]) (results_cell_tmp rfl _ _ (w.heap.size + 1 + 1) _ cs _ _ rfl HZ9.out rfl Tryz.underlying37 rfl n4.info) rfl ⟨_, rfl, HI.out, below_setRow HB4.out (by omega) _⟩
 · have d0 : (er != 0) = true := by simp [h0]
   have HI : Hid (IsMac (w4.setRow (w.heap.size + 1 + 1) nil9) (.agg nil9) M') := zhd (by rw [HNO.out h0]; exact isMac_no _)
   have HZ9 : Hid ((w4.setRow (w.heap.size + 1 + 1) nil9).heap[w.heap.size + 1 + 1]? = some (.cells nil9 37 (0, 0))) := zhd (setRow_heap _ _ _ _ _ _ HZ4.out)
   go_wp2_with (refine wpList_store_row rfl 37 _ _ rfl (w.heap.size + 1 + 1) nil9 rfl rfl 37 nil9 HZ4.out zeB rfl zb2.one ?_)
   exact bodyPost_ret (v := .tuple #[.agg nil9, .int .i64 er]) (results_cell_tmp rfl _ _ (w.heap.size + 1 + 1) _ nil9 _ _ rfl HZ9.out rfl Tryz.underlying37 rfl zeB) rfl ⟨_, rfl, (by first | exact HI.out | exact isMac_no _), below_setRow HB4.out (by omega) _⟩

set_option maxHeartbeats 8000000 in
theorem do_0 (v : Value) (M : Mac) (w : World) (c : Cho) (hm : IsMac w v M) (hk : c.k ≠ 1 ∧ c.k ≠ 2 ∧ c.k ≠ 3 ∧ c.k ≠ 4 ∧ c.k ≠ 5) :
 Calls Tryz.prog 17 #[v, cV c] w (ze7 w (zbQ, 1)) := by
 obtain ⟨vs, rfl, vn⟩ := zcF hm
 obtain ⟨ck, ch, cw, cn⟩ := c
 simp only at hk
 unfold cV
 simp only
 obtain ⟨w1, hw1, hx1, hy1, hz1, hb1⟩ := zch w (.cells vs 37) (.cells #[.int .i64 ck, .int .i64 ch, .int .i64 cw, .int .i64 cn] 28) (.cells nil9 37)
 obtain ⟨b, hbe⟩ : ∃ b, b = w1.heap.size := ⟨_, rfl⟩
 obtain ⟨w2, hw2⟩ : ∃ x, x = w1.alloc (.map #[] 0) := ⟨_, rfl⟩
 have h20 : w2.heap[b]? = some (.map #[] 0) := by rw [hw2, hbe]; exact zat w1 _
 have hlb := zao h20
 obtain ⟨u1, u2, u3, u4, u5, g1, g2, g3, g4, g5, A5, B2, SZ, BB⟩ := map_made w2 b h20
 have H1 := zhd g1; have H2 := zhd g2; have H3 := zhd g3; have H4 := zhd g4; have H5 := zhd g5
 have HL : Hid ((Instr.lookup 93 (.map (some b)) (.int .i64 ck) true).run Tryz.prog u5 = .ok (.tuple #[.nilFunc, .bool false]) u5) := zhd (zj5 ck A5 _ (find_no ck hk))
 have hb2 : Below w.heap.size w w2 := by rw [hw2]; exact zae hb1 (zan w1 _)
 have hx2 := zaf (show Below w1.heap.size w1 w2 by rw [hw2]; exact zan w1 _) hx1
 have hy2 := zaf (show Below w1.heap.size w1 w2 by rw [hw2]; exact zan w1 _) hy1
 have hz2 := zaf (show Below w1.heap.size w1 w2 by rw [hw2]; exact zan w1 _) hz1
 have n0 := zao hx1; have n1 := zao hy1; have n2 := zao hz1
 have hy5 := (B2 (w.heap.size + 1) (by omega)).trans hy2
 have Y0 := (zaE hy5).1
 have hly5 := zao hy5
 have HX := zhd ((B2 w.heap.size (by omega)).trans hx2)
 have HY := zhd ((B2 (w.heap.size + 1) (by omega)).trans hy2)
 have HZ := zhd ((B2 (w.heap.size + 2) (by omega)).trans hz2)
 have hbs : Below w.heap.size w u5 := BB _ _ hb2 (by rw [hbe]; exact hb1.size)
 have HBS := zhd hbs
 have HBE := zhd hbe; have HW2 := zhd hw2
 clear hx1 hy1 hz1 hb1 hx2 hy2 hz2 hbs B2 A5 BB SZ g1 g2 g3 g4 g5 h20 hlb hbe hw2 hy5
 go_enter Tryz.func17, Tryz.ntmps17
 go_upto_region 1 with (fail)
 rw [← hw1]; clear hw1
 go_upto_region 2 with (first | (refine zh7 rfl 93 rfl HBE.out HW2.out ?_) | (refine zcm (w1 := u1) (mv := .map (some b)) (kv := .int .i64 1) (vv := .func (.func 41) #[] #[]) rfl 93 _ _ _ rfl rfl rfl rfl H1.out ?_) | (refine zcm (w1 := u2) (mv := .map (some b)) (kv := .int .i64 2) (vv := .func (.func 42) #[] #[]) rfl 93 _ _ _ rfl rfl rfl rfl H2.out ?_) | (refine zcm (w1 := u3) (mv := .map (some b)) (kv := .int .i64 3) (vv := .func (.func 43) #[] #[]) rfl 93 _ _ _ rfl rfl rfl rfl H3.out ?_) | (refine zcm (w1 := u4) (mv := .map (some b)) (kv := .int .i64 4) (vv := .func (.func 44) #[] #[]) rfl 93 _ _ _ rfl rfl rfl rfl H4.out ?_) | (refine zcm (w1 := u5) (mv := .map (some b)) (kv := .int .i64 5) (vv := .func (.func 45) #[] #[]) rfl 93 _ _ _ rfl rfl rfl rfl H5.out ?_))
 go_upto_region 3 with (refine zh8 (mv := .map (some b)) (kv := .int .i64 ck) rfl 93 _ _ rfl rfl rfl HL.out ?_)
 have HZ9 : Hid ((u5.setRow (w.heap.size + 1 + 1) nil9).heap[w.heap.size + 1 + 1]? = some (.cells nil9 37 (0, 0))) := zhd (setRow_heap _ _ _ _ _ _ HZ.out)
 clear Y0 hly5
 go_wp2_with (refine wpList_store_row rfl 37 _ _ rfl (w.heap.size + 1 + 1) nil9 rfl rfl 37 nil9 HZ.out zeB rfl zb2.one ?_)
 exact bodyPost_ret (v := .tuple #[.agg nil9, .int .i64 1]) (results_cell_tmp rfl _ _ (w.heap.size + 1 + 1) _ nil9 _ _ rfl HZ9.out rfl Tryz.underlying37 rfl zeB) rfl ⟨_, rfl, isMac_no _, below_setRow HBS.out (by omega) _⟩

theorem do_1 (v : Value) (M : Mac) (H N : Nat) (w : World) (c : Cho) (hm : IsMac w v M) (hg : GoodM M H N) (hN : N ≤ 100000) (hk : c.k = 1) :
 Calls Tryz.prog 17 #[v, cV c] w (ze7 w (zdC M c.h)) := by
 obtain ⟨ck, ch, cw, cn⟩ := c
 simp only at hk
 subst hk
 exact do_way v M H N w 1 ch cw cn _ _ _ hm hg hN (stepM_no M ch) find_1 (fun _ _ => by kernel_rfl) fun w3 B p _ _ _ _ _ _ _ _ _ _ h hE hB => step_mac _ _ _ _ _ _ _ _ _ _ _ _ _ M H N h hE hg (by omega) hB ⟨1, ch, cw, cn⟩
theorem do_2 (v : Value) (M : Mac) (H N : Nat) (w : World) (c : Cho) (hm : IsMac w v M) (hg : GoodM M H N) (hN : N ≤ 100000) (hk : c.k = 2) :
 Calls Tryz.prog 17 #[v, cV c] w (ze7 w (zcN M c.h c.w)) := by
 obtain ⟨ck, ch, cw, cn⟩ := c
 simp only at hk
 subst hk
 exact do_way v M H N w 2 ch cw cn _ _ _ hm hg hN (zmH M ch cw) find_2 (fun _ _ => by kernel_rfl) fun w3 B p _ _ _ _ _ _ _ _ _ _ h hE hB => zmF _ _ _ _ _ _ _ _ _ _ _ _ _ M H N h hg hB ⟨2, ch, cw, cn⟩
theorem do_3 (v : Value) (M : Mac) (H N : Nat) (w : World) (c : Cho) (hm : IsMac w v M) (hg : GoodM M H N) (hN : N ≤ 100000) (hk : c.k = 3) :
 Calls Tryz.prog 17 #[v, cV c] w (ze7 w (zdQ M c.w)) := by
 obtain ⟨ck, ch, cw, cn⟩ := c
 simp only at hk
 subst hk
 exact do_way v M H N w 3 ch cw cn _ _ _ hm hg hN (zlx M cw) find_3 (fun _ _ => by kernel_rfl) fun w3 B p _ _ _ _ _ _ _ _ _ _ h hE hB => zlw _ _ _ _ _ _ _ _ _ _ _ _ _ M h hg.lines hB ⟨3, ch, cw, cn⟩
theorem do_4 (v : Value) (M : Mac) (H N : Nat) (w : World) (c : Cho) (hm : IsMac w v M) (hg : GoodM M H N) (hN : N ≤ 100000) (hk : c.k = 4) :
 Calls Tryz.prog 17 #[v, cV c] w (ze7 w (zdA M c.h)) := by
 obtain ⟨ck, ch, cw, cn⟩ := c
 simp only at hk
 subst hk
 exact do_way v M H N w 4 ch cw cn _ _ _ hm hg hN (takeM_no M ch) find_4 (fun _ _ => by kernel_rfl) fun w3 B p _ _ _ _ _ _ _ _ _ _ h hE hB => zkW _ _ _ _ _ _ _ _ _ _ _ _ _ M H N h hg hB ⟨4, ch, cw, cn⟩
theorem do_5 (v : Value) (M : Mac) (H N : Nat) (w : World) (c : Cho) (hm : IsMac w v M) (hg : GoodM M H N) (hN : N ≤ 100000) (hk : c.k = 5) :
 Calls Tryz.prog 17 #[v, cV c] w (ze7 w (zdz M c.w c.n)) := by
 obtain ⟨ck, ch, cw, cn⟩ := c
 simp only at hk
 subst hk
 exact do_way v M H N w 5 ch cw cn _ _ _ hm hg hN (zl8 M cw cn) find_5 (fun _ _ => by kernel_rfl) fun w3 B p _ _ _ _ _ _ _ _ _ _ h hE hB => zl6 _ _ _ _ _ _ _ _ _ _ _ _ _ M h hg.devs hg.dev hB ⟨5, ch, cw, cn⟩
theorem do_any (v : Value) (M : Mac) (H N : Nat) (w : World) (c : Cho) (hm : IsMac w v M) (hg : GoodM M H N) (hN : N ≤ 100000) :
 Calls Tryz.prog 17 #[v, cV c] w (ze7 w (doR M c)) := by
 unfold doR
 split
 · exact do_1 v M H N w c hm hg hN (by assumption)
 · split
   · exact do_2 v M H N w c hm hg hN (by assumption)
   · split
     · exact do_3 v M H N w c hm hg hN (by assumption)
     · split
       · exact do_4 v M H N w c hm hg hN (by assumption)
       · split
         · exact do_5 v M H N w c hm hg hN (by assumption)
         · exact do_0 v M w c hm ⟨by assumption, by assumption, by assumption, by assumption, by assumption⟩
end
end Go.Proofs.YtdobddiibgfeaaaGreat
