/-
  The walk of the law HartNumbers.
-/
import Derived.Test.YtiahdhlfecgnpaaHartNumber
import Derived.Test.YtiahdhlfecgnpaaQuietNew
import Derived.Deep.QuietTactic
import Derived.BigQuiet
import Derived.Outline
namespace Go.Proofs.Ytiahdhlfecgnpaa
open Go.RowKit
set_option linter.unusedSimpArgs false
set_option maxRecDepth 100000 in
set_option maxHeartbeats 8000000 in
theorem hart_numbers (v : Value) (l : List Int) (d n : Int) (w : World) (ha : ArgS 1 c1 w v l) (hl : ∀ x ∈ l, I64 x) (h1 : I64 d) (_ : I64 n) :
    Calls Try.prog 10 #[v, .int .i64 d, .int .i64 n] w fun e w' => e = .returned (.bool true) ∧ Below w.heap.size w w' := by
  have HA := Lib.hid ha; have HL := Lib.hid hl; have H1 := Lib.hid h1
  clear ha hl h1
  have fine := fit_fine l
  obtain ⟨k0, hk0, hk0b⟩ : ∃ k0 : Nat, pickN d 31 = k0 ∧ k0 < 31 := ⟨(pickN d 31).toNat, by have := pickN_bd d 31 (by omega); omega, by have := pickN_bd d 31 (by omega); omega⟩
  have HK := Lib.hid hk0; clear hk0
  go_enter Try.func10, Try.ntmps10
  go_wp2_with fail
  refine (awake14 _).mono ?_
  rintro e w1 ⟨rfl, hb1⟩
  have bel1 : Below w.heap.size w w1 := hb1
  clear hb1
  go_wp2_with fail
  refine (hfit_any v l _ (HA.out.below bel1) HL.out).mono ?_
  rintro e w2 ⟨rfl, hb2⟩
  have bel2 : Below w.heap.size w w2 := bw_tr bel1 hb2
  clear bel1
  clear hb2
  generalize fitH l = h at *
  have hlh := fine.len
  obtain ⟨k, hk'⟩ : ∃ k : Nat, k = 1 + k0 := ⟨_, rfl⟩
  have hkb : 1 ≤ k ∧ k < 32 := by omega
  have hm32 := wrap32_i32 n
  obtain ⟨GG, hG0, hGs, hGl, hGr, hGp, hL1, hL2⟩ := numbers_all h fine k (wrap32 n) hkb hm32
  have fpc := fine.pc.1
  clear fine
  have hkb1 : (1 : Int) + k0 = (k : Int) := by omega
  have HKB := Lib.hid hkb1; clear hkb1 hk'
  have HG0 := Lib.hid hG0; have HGS := Lib.hid hGs; have HGL := Lib.hid hGl; have HGR := Lib.hid hGr; have HGP := Lib.hid hGp
  clear hG0 hGs hGl hGr hGp
  have ZN2 := Lib.hid (new_in w2 (.cells zA 28))
  go_upto_region 3 with (refine wpList_store_row rfl 28 _ _ rfl (w2.heap.size) (hA h) rfl rfl 28 zA ZN2.out (infoA (hA_size h hlh)) (by rw [hA_size h hlh]; rfl) (hA_one h) ?_)
  obtain ⟨w2x, hw2x⟩ : ∃ w2x : World, w2x = (w2.alloc (.cells zA 28)).setRow w2.heap.size (hA h) := ⟨_, rfl⟩
  have HG2 : Hid (w2x.heap[w2.heap.size]? = some (.cells (hA h) 28 (0, 0))) := by rw [hw2x]; exact setRow_heap _ _ _ _ _ _ ZN2.out
  have hbx2 : Below w2.heap.size w2 w2x := by rw [hw2x]; exact below_setRow ((Below.refl _ _).alloc (Nat.le_refl _) _) (Nat.le_refl _) _
  have hsx2 : w2.heap.size + 1 ≤ w2x.heap.size := by have := lt_in HG2.out; omega
  first | rw [← hw2x] | (change Code.wp _ _ _ _ ((w2.alloc (.cells zA 28)).setRow w2.heap.size (hA h)); rw [← hw2x])
  clear hw2x ZN2
  have bel3 : Below w.heap.size w w2x := bw_tr bel2 hbx2
  clear bel2
  clear hbx2 hsx2
  go_upto_region 4 with (go_at_call 15; ((with_reducible refine (pick14 d 31 _ H1.out (by omega)).mono ?_); rw [HK.out]; rintro e w' ⟨rfl, rfl⟩))
  rw [HKB.out]
  clear hk0b
  go_wp2_with (go_at_call 24; refine (wrap_any _ _).mono ?_; rintro e w' ⟨rfl, rfl⟩)
  refine (number_any k (wrap32 n) _ hkb hm32).mono ?_
  rintro e w3 ⟨BL, rfl, hBL, hBLge, hb3⟩
  have HBL := Lib.hid hBL; clear hBL
  have F4 := Lib.hid (bel_in hb3 (lt_in HG2.out) HG2.out)
  have bel5 : Below w.heap.size w w3 := bw_tr bel3 hb3
  clear HG2 bel3
  clear hb3 hBLge
  generalize hLL : numL k (wrap32 n) = LL at *
  have HLL := Lib.hid hLL; clear hLL
  generalize hln : LL.length = len at *
  have HLN := Lib.hid hln; clear hln
  have il0 : (0 : Int) ≤ (len : Int) := by omega
  have il2 : (len : Int) ≤ 2 := by omega
  have il1 : (1 : Int) ≤ (len : Int) := by omega
  have kb0 : (0 : Int) ≤ (k : Int) := by omega
  have kb1 : (k : Int) < 32 := by omega
  have nB := lt_in F4.out; have nL := lt_in HBL.out
  have nw : w.heap.size ≤ w3.heap.size := (bel5).size
  have ZN5 := Lib.hid (new_in w3 (.cells zA 28))
  go_upto_region 6 with (first | (refine wpList_load_row rfl 28 _ rfl (w2.heap.size) rfl 28 (hA h) (0, 0) _ F4.out Try.underlying28 rfl (infoA (hA_size h hlh)) ?_) | (refine wpList_store_row rfl 28 _ _ rfl (w3.heap.size) (hA h) rfl rfl 28 zA ZN5.out (infoA (hA_size h hlh)) (by rw [hA_size h hlh]; rfl) (hA_one h) ?_))
  obtain ⟨w5x, hw5x⟩ : ∃ w5x : World, w5x = (w3.alloc (.cells zA 28)).setRow w3.heap.size (hA h) := ⟨_, rfl⟩
  have HG5 : Hid (w5x.heap[w3.heap.size]? = some (.cells (hA h) 28 (0, 0))) := by rw [hw5x]; exact setRow_heap _ _ _ _ _ _ ZN5.out
  have hbx5 : Below w3.heap.size w3 w5x := by rw [hw5x]; exact below_setRow ((Below.refl _ _).alloc (Nat.le_refl _) _) (Nat.le_refl _) _
  have hsx5 : w3.heap.size + 1 ≤ w5x.heap.size := by have := lt_in HG5.out; omega
  first | rw [← hw5x] | (change Code.wp _ _ _ _ ((w3.alloc (.cells zA 28)).setRow w3.heap.size (hA h)); rw [← hw5x])
  clear hw5x ZN5
  have F6 := Lib.hid (bel_in hbx5 (lt_in F4.out) F4.out)
  have F7 := Lib.hid (bel_in hbx5 (lt_in HBL.out) HBL.out)
  have bel8 : Below w.heap.size w w5x := bw_tr bel5 hbx5
  clear F4 HBL bel5
  clear hbx5 hsx5
  have hbase : Below w.heap.size w w5x := bel8
  have HF2 := F6; have HFL := F7
  go_wp2_with fail
  go_loopw [12] (fun i wr => ∃ i' : Nat, i' ≤ len ∧ i = .int .i64 i' ∧ wr.heap[w3.heap.size]? = some (.cells (hA (GG i')) 28 (0, 0)) ∧ wr.heap[w2.heap.size]? = some (.cells (hA h) 28 (0, 0)) ∧ wr.heap[BL]? = some (.cells (insC LL) 24 (0, 0)) ∧ Below w.heap.size w wr) (fun i _ => len - (intOf i).toNat)
  case atStart => exact ⟨0, Nat.zero_le _, rfl, by rw [HG0.out]; exact HG5.out, HF2.out, HFL.out, hbase⟩
  case round =>
    obtain ⟨i, hi, rfl, hg, hh, hll, hbb⟩ := hrel
    have HGi := Lib.hid hg; have HH := Lib.hid hh; have HLc := Lib.hid hll
    have lg := HGL.out i hi
    have hBGw : w.heap.size ≤ w3.heap.size := nw
    have neGB : w3.heap.size ≠ w2.heap.size := by omega
    have neGL : w3.heap.size ≠ BL := by omega
    clear hg hh hll
    by_cases hlt : i < len
    · obtain ⟨x, hx, hs⟩ := HGS.out i hlt
      obtain ⟨i0, i1, i2, i3, i4⟩ := insC_get LL (by rw [HLN.out]; exact hL2) i x hx
      have lg' := len_at lg hs
      obtain ⟨xo, xd, xa, xb, xn⟩ := x
      have HS := Lib.hid hs
      have j0 := cell_in HLc.out i0; have j1 := cell_in HLc.out i1; have j2 := cell_in HLc.out i2; have j3 := cell_in HLc.out i3; have j4 := cell_in HLc.out i4
      simp only at j0 j1 j2 j3 j4
      clear hs hx i0 i1 i2 i3 i4
      have k0 : (0 : Int) ≤ (i : Int) := by omega
      have k1 : (i : Int) < (len : Int) := by omega
      generalize hg1 : GG i = g0 at *
      generalize hg2 : GG (i + 1) = g1 at *
      have HG1 := Lib.hid hg1; have HG2' := Lib.hid hg2; clear hg1 hg2
      go_wp2_with fail
      have r0 := fun (S : Rec) (x : WdS wr S) => wdS_cell (lt_in HLc.out) j0 x
      have r1 := fun (S : Rec) (x : WdS wr S) => wdS_cell (lt_in HLc.out) j1 x
      have r2 := fun (S : Rec) (x : WdS wr S) => wdS_cell (lt_in HLc.out) j2 x
      have r3 := fun (S : Rec) (x : WdS wr S) => wdS_cell (lt_in HLc.out) j3 x
      have r4 := fun (S : Rec) (x : WdS wr S) => wdS_cell (lt_in HLc.out) j4 x
      have R2 : Hid (∀ (S : Rec) (w' : World), (∃ x : WdS wr S, w' = x.val) → (loadVar 28 ⟨w3.heap.size, 0, none⟩).run Try.prog w' = .ok (.agg (hA g0)) w') := by
        rintro S w' ⟨x, rfl⟩
        exact run_loadVar_row _ _ 28 28 (hA g0) (0, 0) _ (bel_in x.ok.1 (lt_in HGi.out) HGi.out) Try.underlying28 rfl (infoA (hA_size g0 lg))
      clear j0 j1 j2 j3 j4
      refine wp_region_new2 9 (by kernel_rfl) (by kernel_rfl) (by kernel_rfl) _ _ _ _ rfl rfl rfl rfl rfl rfl rfl rfl 13 14 rfl rfl rfl rfl (by decide) zA effZ (hA g1) effZ 28 34 ?r1 ?r2 ?a' ?h ?hst ?hQ
      case r1 => intro a w; kernel_rfl
      case r2 => intro a w; kernel_rfl
      case h =>
        intro S hne
        have r0' := r0 S; have r1' := r1 S; have r2' := r2 S; have r3' := r3 S; have r4' := r4 S
        have R3 := Lib.hid (R2.out S)
        simp only [List.take_succ_cons, List.take_zero]
        go_big_quiet_want
        refine quiet_load_row 28 _ (w3.heap.size) (hA g0) rfl rfl R3.out ?_
        simp only [Act.put, List.setIfInBounds_toArray, List.set_cons_succ, List.set_cons_zero]
        go_big_quiet_on
        repeat (go_big_quiet_step ((go_at_call 16; with_reducible exact quiet_n (step_at g0 0 xo xd xa xb xn _ lg g1 0 0 0 0 0 HS.out))))
        refine wpQuiet_nil ?_
        exact rfl
      case hst =>
        intro b1 b2 hb
        exact ⟨fun w' hw' => store_run 28 _ _ rfl b1 (hA g1) rfl rfl 28 zA (infoA (hA_size g1 lg')) (by rw [hA_size g1 lg']; rfl) (hA_one g1) w' hw', fun w' hw' => store_run 34 _ _ rfl b2 effZ rfl rfl 34 effZ (by kernel_rfl) rfl (by kernel_rfl) w' hw'⟩
      intro b1 b2 w4 hb1 hb2 hb12 hb4 HB1 HB2
      have e0 := cell_in HB2 (j := 0) (u := .int .i64 0) rfl
      have e1 := cell_in HB2 (j := 1) (u := .int .i64 0) rfl
      have e2 := cell_in HB2 (j := 2) (u := .int .i64 0) rfl
      have e3 := cell_in HB2 (j := 3) (u := .int .i64 0) rfl
      have e4 := cell_in HB2 (j := 4) (u := .int .i64 0) rfl
      have HN := Lib.hid HB1
      have HG4 := Lib.hid (bel_in hb4 (lt_in HGi.out) HGi.out)
      have HH4 := Lib.hid (bel_in hb4 (lt_in HH.out) HH.out)
      have HL4 := Lib.hid (bel_in hb4 (lt_in HLc.out) HLc.out)
      have hb5 : Below w.heap.size w w4 := bw_tr hbb hb4
      clear HB1 HB2 r0 r1 r2 r3 r4 R2 hb1 hb2 hb12 hb4 HGi HH HLc hbb
      have q1 := eq_eff 0 0 0 0 0
      try simp only [Act.put, List.setIfInBounds_toArray, List.set_cons_succ, List.set_cons_zero]
      go_wp2_with (first | (refine wpList_load_row rfl 28 _ rfl b1 rfl 28 (hA g1) (0, 0) _ HN.out Try.underlying28 rfl (infoA (hA_size g1 lg')) ?_) | (refine wpList_store_row rfl 28 _ _ rfl (w3.heap.size) (hA g1) rfl rfl 28 (hA g0) HG4.out (infoA (hA_size g1 lg')) (by rw [hA_size g1 lg', hA_size g0 lg]) (hA_one g1) ?_))
      refine ⟨⟨i + 1, by omega, by go_num, by rw [HG2'.out]; exact setRow_heap _ _ _ _ _ _ HG4.out, row_ne (Ne.symm neGB) HH4.out, row_ne (Ne.symm neGL) HL4.out, below_setRow hb5 hBGw _⟩, by simp [intOf]; omega⟩
    · obtain rfl : i = len := by omega
      clear hlt
      go_wp2_with fail
      have gr := HGR.out; have gp := HGP.out
      generalize hgl : GG i = gl at *
      have GR := Lib.hid gr; have GP := Lib.hid gp; clear gr gp hgl HGS HG0 HGL HGR HGP
      have rc1' := cell_in HGi.out (hA_r gl lg k hkb.2)
      rw [GR.out] at rc1'
      have rc1 := fun x => wd_cell (lt_in HGi.out) rc1' x
      clear rc1'
      have rc2' := cell_in HGi.out (hA_fields gl lg).1
      rw [GP.out] at rc2'
      have rc2 := fun x => wd_cell (lt_in HGi.out) rc2' x
      clear rc2'
      have rc3' := cell_in HH.out (hA_fields h hlh).1
      have rc3 := fun x => wd_cell (lt_in HH.out) rc3' x
      clear rc3'
      have t1 : IntKind.i64.wrap (4 * (i : Int)) = 4 * (i : Int) := IntWalk.i64_in _ (by omega)
      have t2 : IntKind.i64.wrap (h.pc + 4 * (i : Int)) = h.pc + 4 * (i : Int) := IntWalk.i64_in _ (by omega)
      have t3 : decide (0 < (i : Int)) = true := decide_eq_true (by omega)
      have t4 : decide (0 < i) = true := decide_eq_true (by omega)
      clear HGi HH HLc 
      try simp only [List.append_eq, List.cons_append, List.nil_append] at *
      go_wp2_with fail
      refine wp_region_below (by kernel_rfl) (by kernel_rfl) ?_
      try simp only [Act.put, List.setIfInBounds_toArray, List.set_cons_succ, List.set_cons_zero]
      repeat (first | go_big_quiet_step ((first | (go_at_call 24; first | with_reducible exact quiet_s (wrap_any _ _)))))
      refine wpQuiet_nil ?_
      rintro w99 ⟨⟨w99x, hb99⟩, rfl⟩
      go_wp2_with fail
      go_ret
      exact ⟨rfl, (bw_tr hbb hb99)⟩
end Go.Proofs.Ytiahdhlfecgnpaa
