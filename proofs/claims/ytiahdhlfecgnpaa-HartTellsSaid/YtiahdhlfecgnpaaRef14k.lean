/-
  The contract of headstockref14.Step: the rest, and all.
-/
import Derived.Test.YtiahdhlfecgnpaaRef14j
namespace Go.Proofs.Ytiahdhlfecgnpaa
open Go.RowKit
set_option linter.unusedSimpArgs false
set_option linter.unusedVariables false
theorem rback_h (h g : Ht) (w : World) (h32 : h.r.length = 32) (hs : 0 ≤ h.st ∧ h.st ≤ 136) (e : rbackH h = g) :
    Calls Try.prog 42 #[.agg (hA h)] w fun e w' => e = .returned (.agg (hA g)) ∧ Below w.heap.size w w' := by subst e; exact rback_any h w h32 hs
theorem rback_len {h : Ht} (h32 : h.r.length = 32) : (rbackH h).r.length = 32 := by unfold rbackH; exact h32
theorem rcsr_len (h : Ht) (id : Int) (x : Ins) (h32 : h.r.length = 32) : (rcsrR h id x).1.r.length = 32 := by
  unfold rcsrR
  split
  · exact put_len (rset_len _ _ h32) _ _
  · exact h32
theorem rcsr_h (h : Ht) (id op d n : Int) (ka kb : Nat) (g : Ht) (e0 e1 e2 e3 e4 : Int) (w : World) (f : Fine h) (hid : I64 id) (ha : ka < 32) (hr : rcsrR h id ⟨op, d, ka, kb, n⟩ = (g, ⟨e0, e1, e2, e3, e4⟩)) :
    Calls Try.prog 41 #[.agg (hA h), .int .i64 id, .agg #[.int .i64 op, .int .i64 d, .int .i64 ka, .int .i64 kb, .int .i64 n]] w fun e w' => e = .returned (.tuple #[.agg (hA g), .agg #[.int .i64 e0, .int .i64 e1, .int .i64 e2, .int .i64 e3, .int .i64 e4]]) ∧ Below w.heap.size w w' := by
  have := rcsr_any h id ⟨op, d, ka, kb, n⟩ w f hid ⟨by simp, by simp; omega⟩
  rw [hr] at this
  exact this
set_option maxRecDepth 100000 in
set_option maxHeartbeats 8000000 in
theorem rstep_bad (h : Ht) (id : Int) (x : Ins) (w : World) (h32 : h.r.length = 32) (hr : rightB x = false) :
    Calls Try.prog 17 #[.agg (hA h), .int .i64 id, insV x] w fun e w' => e = .returned (.tuple #[.agg (hA h), effV ⟨9, 0, 0, 0, 0⟩]) ∧ Below w.heap.size w w' := by
  obtain ⟨op, d, a, b, n⟩ := x
  obtain ⟨w0, hw0, hx, hi, hz, hy, hb0, hs0⟩ := four_new w (.cells (hA h) 28) (.cells #[.int .i64 op, .int .i64 d, .int .i64 a, .int .i64 b, .int .i64 n] 24) (.cells zA 28) (.cells effZ 34)
  have i0 := cell_in hi (j := 0) (u := .int .i64 op) rfl
  have i1 := cell_in hi (j := 1) (u := .int .i64 d) rfl
  have i2 := cell_in hi (j := 2) (u := .int .i64 a) rfl
  have i3 := cell_in hi (j := 3) (u := .int .i64 b) rfl
  have i4 := cell_in hi (j := 4) (u := .int .i64 n) rfl
  have HW := Lib.hid hw0
  have HX := Lib.hid hx; have HZ := Lib.hid hz; have HY := Lib.hid hy; have HR := Lib.hid hr
  clear hx hi hz hy hw0 hr
  unfold insV
  go_enter Try.func17, Try.ntmps17
  go_upto_region 1 with (fail)
  change Code.wp _ _ _ _ ((((w.alloc (.cells (hA h) 28)).alloc (.cells #[.int .i64 op, .int .i64 d, .int .i64 a, .int .i64 b, .int .i64 n] 24)).alloc (.cells zA 28)).alloc (.cells effZ 34))
  rw [← HW.out]
  go_wp2_with fail
  refine (refRight_h op d a b n false _ HR.out).mono ?_
  rintro e w1 ⟨rfl, hb1⟩
  have HX1 := Lib.hid (upH hb1 HX.out); have HZ1 := Lib.hid (upH hb1 HZ.out); have HY1 := Lib.hid (upH hb1 HY.out)
  have hbw1 : Below w.heap.size w w1 := (by repeat (first | (with_reducible exact Below.refl _ _) | (with_reducible refine bw_set ?_ ?_ _) | (with_reducible apply bw_alloc) | (with_reducible refine bw_tr ?_ (by with_reducible assumption)) | (with_reducible apply bw_drew) | omega))
  have hs1 : w.heap.size + 4 ≤ w1.heap.size := by have := hb1.size; omega
  clear i0 i1 i2 i3 i4 HX HZ HY HW hb0 hs0 hb1
  go_wp2_with (first | (refine wpList_load_row rfl 28 _ rfl (w.heap.size) rfl 28 (hA h) (0, 0) _ HX1.out Try.underlying28 rfl (infoA (hA_size h h32)) ?_) | (refine wpList_store_row rfl 28 _ _ rfl (w.heap.size + 2) (hA h) rfl rfl 28 zA HZ1.out (infoA (hA_size h h32)) (by rw [hA_size h h32]; rfl) (hA_one h) ?_) | (refine wpList_store_row rfl 34 _ _ rfl (w.heap.size + 3) #[.int .i64 9, .int .i64 0, .int .i64 0, .int .i64 0, .int .i64 0] rfl rfl 34 effZ (row_ne (by omega) HY1.out) (by kernel_rfl) rfl (by kernel_rfl) ?_))
  exact bodyPost_ret (v := .tuple #[.agg (hA h), effV ⟨9, 0, 0, 0, 0⟩]) (results_cells2 rfl _ _ (w.heap.size + 2) (w.heap.size + 3) 28 34 (hA h) #[.int .i64 9, .int .i64 0, .int .i64 0, .int .i64 0, .int .i64 0] (0, 0) (0, 0) _ _ rfl rfl (row_ne (by omega) (setRow_heap _ _ _ _ _ _ HZ1.out)) (setRow_heap _ _ _ _ _ _ (row_ne (by omega) HY1.out)) Try.underlying28 rfl (infoA (hA_size h h32)) Try.underlying34 rfl (by kernel_rfl)) rfl ⟨rfl, below_setRow (below_setRow (by repeat (first | (with_reducible exact Below.refl _ _) | (with_reducible refine bw_set ?_ ?_ _) | (with_reducible apply bw_alloc) | (with_reducible refine bw_tr ?_ (by with_reducible assumption)) | (with_reducible apply bw_drew) | omega)) (by omega) _) (by omega) _⟩
set_option maxRecDepth 100000 in
set_option maxHeartbeats 8000000 in
theorem rstep_44 (h : Ht) (id d n : Int) (ka kb : Nat) (w : World) (f : Fine h) (hr : rightB ⟨44, d, ka, kb, n⟩ = true) (hka : ka < 32) (hkb : kb < 32) (hn : -1048576 ≤ n ∧ n ≤ 1048575) :
    Calls Try.prog 17 #[.agg (hA h), .int .i64 id, insV ⟨44, d, ka, kb, n⟩] w fun e w' => e = .returned (.tuple #[.agg (hA (rbackH h)), effV ⟨0, 0, 0, 0, 0⟩]) ∧ Below w.heap.size w w' := by
  have h32 := f.len
  have P4 : Hid (I64 (h.pc + 4)) := Lib.hid (by have := f.pc.1.1; have := f.pc.1.2; constructor <;> omega)
  have PN : Hid (I64 (h.pc + n)) := Lib.hid (by have := f.pc.1.1; have := f.pc.1.2; constructor <;> omega)
  obtain ⟨va, hva⟩ : ∃ va, h.r.getD ka 0 = va := ⟨_, rfl⟩
  obtain ⟨vb, hvb⟩ : ∃ vb, h.r.getD kb 0 = vb := ⟨_, rfl⟩
  have IAI : Hid (I32 va) := Lib.hid (hva ▸ f.reg ka hka)
  have IBI : Hid (I32 vb) := Lib.hid (hvb ▸ f.reg kb hkb)
  have HVA := Lib.hid hva; have HVB := Lib.hid hvb
  try rw [hva]
  try rw [hvb]
  clear hva hvb
  have w4 : IntKind.i64.wrap (h.pc + 4) = h.pc + 4 := IntWalk.i64_in _ (by have := P4.out.1; have := P4.out.2; omega)
  have wn : IntKind.i64.wrap (h.pc + n) = h.pc + n := IntWalk.i64_in _ (by have := PN.out.1; have := PN.out.2; omega)
  obtain ⟨h7, hh7⟩ : ∃ h7 : Ht, (rbackH h : Ht) = h7 := ⟨_, rfl⟩
  rw [hh7]
  have HH7 := Lib.hid hh7; clear hh7
  have HST : Hid (0 ≤ h.st ∧ h.st ≤ 136) := Lib.hid (by rcases f.st with e | e | e | e <;> omega)
  have HL7 : Hid (h7.r.length = 32) := Lib.hid (by rw [← HH7.out]; exact rback_len h32)
  have hfm : (rowT 44).form = 90 := by decide +kernel
  obtain ⟨w0, hw0, hx, hi, hz, hy, hb0, hs0⟩ := four_new w (.cells (hA h) 28) (.cells #[.int .i64 44, .int .i64 d, .int .i64 ka, .int .i64 kb, .int .i64 n] 24) (.cells zA 28) (.cells effZ 34)
  have i0 := cell_in hi (j := 0) (u := .int .i64 44) rfl
  have i1 := cell_in hi (j := 1) (u := .int .i64 d) rfl
  have i2 := cell_in hi (j := 2) (u := .int .i64 ka) rfl
  have i3 := cell_in hi (j := 3) (u := .int .i64 kb) rfl
  have i4 := cell_in hi (j := 4) (u := .int .i64 n) rfl
  have HW := Lib.hid hw0
  have HX := Lib.hid hx; have HI := Lib.hid hi; have HZ := Lib.hid hz; have HY := Lib.hid hy; have HR := Lib.hid hr; have FF := Lib.hid f; have HN := Lib.hid hn
  clear hx hi hz hy hw0 hr f hn
  unfold insV
  go_enter Try.func17, Try.ntmps17
  go_upto_region 1 with (fail)
  change Code.wp _ _ _ _ ((((w.alloc (.cells (hA h) 28)).alloc (.cells #[.int .i64 44, .int .i64 d, .int .i64 ka, .int .i64 kb, .int .i64 n] 24)).alloc (.cells zA 28)).alloc (.cells effZ 34))
  rw [← HW.out]
  go_wp2_with fail
  refine (refRight_h 44 d ka kb n true _ HR.out).mono ?_
  rintro e w1 ⟨rfl, hb1⟩
  have HX1 := Lib.hid (upH hb1 HX.out); have HI1 := Lib.hid (upH hb1 HI.out); have HZ1 := Lib.hid (upH hb1 HZ.out); have HY1 := Lib.hid (upH hb1 HY.out)
  have hbw1 : Below w.heap.size w w1 := (by repeat (first | (with_reducible exact Below.refl _ _) | (with_reducible refine bw_set ?_ ?_ _) | (with_reducible apply bw_alloc) | (with_reducible refine bw_tr ?_ (by with_reducible assumption)) | (with_reducible apply bw_drew) | omega))
  have hs1 : w.heap.size + 4 ≤ w1.heap.size := by have := hb1.size; omega
  clear i0 i1 i2 i3 i4 HX HI HZ HY HW hb0 hs0 hb1
  have ca := cell_in HX1.out (show (hA h)[ka]? = some (.int .i64 va) by rw [hA_r h h32 ka hka, HVA.out])
  have cb := cell_in HX1.out (show (hA h)[kb]? = some (.int .i64 vb) by rw [hA_r h h32 kb hkb, HVB.out])
  have c32 := cell_in HX1.out (hA_fields h h32).1
  have i0 := cell_in HI1.out (j := 0) (u := .int .i64 44) rfl
  have i2 := cell_in HI1.out (j := 2) (u := .int .i64 ka) rfl
  have i3 := cell_in HI1.out (j := 3) (u := .int .i64 kb) rfl
  have i4 := cell_in HI1.out (j := 4) (u := .int .i64 n) rfl
  go_upto_region 8 with (first | (go_at_call 38; (with_reducible refine (rwrap_any (h.pc + 4) _ P4.out).mono ?_); rintro e w' ⟨rfl, rfl⟩) | (go_at_call 38; (with_reducible refine (rwrap_any (h.pc + n) _ PN.out).mono ?_); rintro e w' ⟨rfl, rfl⟩))
  go_wp2_with fail
  refine (refRow_any 44 _).mono ?_
  obtain ⟨rw0, hrw⟩ : ∃ r, rowT 44 = r := ⟨_, rfl⟩
  rw [hrw]
  rw [hrw] at hfm
  obtain ⟨nm, fm, lo, mi, hi⟩ := rw0
  simp only at hfm
  clear hrw
  subst hfm
  have hfld : ∀ w : World, (Instr.field 54 (.agg #[.string nm, .int .u8 90, .int .i64 lo, .int .i64 mi, .int .i64 hi]) 1).run Try.prog w = .ok (.int .u8 90) w := fun w => by kernel_rfl
  rintro e w2 ⟨rfl, hb2⟩
  have HX2 := Lib.hid (upH hb2 HX1.out); have HI2 := Lib.hid (upH hb2 HI1.out); have HZ2 := Lib.hid (upH hb2 HZ1.out); have HY2 := Lib.hid (upH hb2 HY1.out)
  have hbw2 : Below w.heap.size w w2 := (by repeat (first | (with_reducible exact Below.refl _ _) | (with_reducible refine bw_set ?_ ?_ _) | (with_reducible apply bw_alloc) | (with_reducible refine bw_tr ?_ (by with_reducible assumption)) | (with_reducible apply bw_drew) | omega))
  have hs2 : w.heap.size + 4 ≤ w2.heap.size := by have := hb2.size; omega
  clear ca cb c32 i0 i2 i3 i4 hb2 HX1 HI1 HZ1 HY1 hbw1 hs1 w4 wn
  unfold rfV
  go_upto_region 12 with (fail)
  clear hfld
  change Code.wp _ _ _ _ (w2.alloc (.cells effZ 34))
  have N3 : Hid ((w2.alloc (.cells effZ 34)).heap[w2.heap.size]? = some (.cells effZ 34 (0, 0))) := Lib.hid (new_in w2 (.cells effZ 34))
  have hb3 : Below w2.heap.size w2 (w2.alloc (.cells effZ 34)) := newH w2 (.cells effZ 34)
  have hs3 : w2.heap.size < (w2.alloc (.cells effZ 34)).heap.size := lt_in N3.out
  obtain ⟨w3, hw3⟩ : ∃ w3 : World, w2.alloc (.cells effZ 34) = w3 := ⟨_, rfl⟩
  rw [hw3] at N3 hb3 hs3 ⊢
  have HX3 := Lib.hid (upH hb3 HX2.out); have HI3 := Lib.hid (upH hb3 HI2.out); have HZ3 := Lib.hid (upH hb3 HZ2.out); have HY3 := Lib.hid (upH hb3 HY2.out)
  have hbw3 : Below w.heap.size w w3 := bw_tr hbw2 hb3
  obtain ⟨pe, hpe⟩ : ∃ pe, w2.heap.size = pe := ⟨_, rfl⟩
  rw [hpe] at N3 hs2 hs3 ⊢
  clear hpe hw3 hb3 HX2 HI2 HZ2 HY2 hbw2
  have i0 := cell_in HI3.out (j := 0) (u := .int .i64 44) rfl
  have i1 := cell_in HI3.out (j := 1) (u := .int .i64 d) rfl
  have i4 := cell_in HI3.out (j := 4) (u := .int .i64 n) rfl
  go_upto_region 47 with (fail)
  clear i0 i1 i4 HI3
  refine wp_region_up (fun w' => w'.heap[w.heap.size]? = some (.cells (hA h) 28 (0, 0)) ∧ w'.heap[pe]? = some (.cells #[.int .i64 0, .int .i64 0, .int .i64 0, .int .i64 0, .int .i64 0] 34 (0, 0))) [true, true, true, false, false] (by kernel_rfl) (by kernel_rfl) (by kernel_rfl) (fun _ _ hh hu => ⟨upH hu hh.1, upH hu hh.2⟩) ⟨HX3.out, N3.out⟩ ?ra ?rh ?rt
  case rh =>
    intro w0 h0
    have R0 : Hid (∀ w' : World, (∃ x : Wd w0, w' = x.val) → (loadVar 28 ⟨w.heap.size, 0, none⟩).run Try.prog w' = .ok (.agg (hA h)) w') := by
      rintro w' ⟨x, rfl⟩
      exact run_loadVar_row _ _ 28 28 (hA h) (0, 0) _ (bel_in x.bel (lt_in h0.1) h0.1) Try.underlying28 rfl (infoA (hA_size h h32))
    have R1 : Hid (∀ w' : World, (∃ x : Wd w0, w' = x.val) → (loadVar 34 ⟨pe, 0, none⟩).run Try.prog w' = .ok (.agg #[.int .i64 0, .int .i64 0, .int .i64 0, .int .i64 0, .int .i64 0]) w') := by
      rintro w' ⟨x, rfl⟩
      exact run_loadVar_row _ _ 34 34 #[.int .i64 0, .int .i64 0, .int .i64 0, .int .i64 0, .int .i64 0] (0, 0) _ (bel_in x.bel (lt_in h0.2) h0.2) Try.underlying34 rfl (by kernel_rfl)
    clear h0
    simp only [pickM]
    go_big_quiet_want
    refine quiet_load_row 28 _ (w.heap.size) (hA h) rfl rfl R0.out ?_
    simp only [Act.put, List.setIfInBounds_toArray, List.set_cons_succ, List.set_cons_zero]
    go_big_quiet_on
    go_big_quiet_step ((go_at_call 42; with_reducible exact quiet_b (rback_h h h7 _ h32 HST.out HH7.out)))
    go_big_quiet_want
    refine quiet_load_row 34 _ pe #[.int .i64 0, .int .i64 0, .int .i64 0, .int .i64 0, .int .i64 0] rfl rfl R1.out ?_
    simp only [Act.put, List.setIfInBounds_toArray, List.set_cons_succ, List.set_cons_zero]
    go_big_quiet_on
    refine wpQuiet_nil ?_
    rfl
  case rt => as_aux_lemma =>
    change wpAnyU _ _ _ _ _ 2 _ _ _
    refine anyU_one (i := 3) (by kernel_rfl) rfl ?_
    intro w8 hu8 hc8
    have hu8 := bw_undrew hu8
    have Z8 := Lib.hid (upH hu8 HZ3.out); have Y8 := Lib.hid (upH hu8 HY3.out); have B8 := Lib.hid (bw_tr hbw3 hu8); have D8 := Lib.hid hc8
    clear hu8 hc8 HX3 HZ3 HY3 N3
    go_wp2_with (refine wpList_store_row rfl 28 _ _ rfl (w.heap.size + 2) (hA h7) rfl rfl 28 zA Z8.out (infoA (hA_size h7 HL7.out)) (by rw [hA_size h7 HL7.out]; rfl) (hA_one h7) ?_)
    refine ⟨⟨row_ne (by omega) D8.out.1, row_ne (by omega) D8.out.2⟩, ?_⟩
    refine anyU_one (i := 4) (by kernel_rfl) rfl ?_
    intro w9 hu9 hc9
    have Z9 := Lib.hid (upH hu9 (setRow_heap _ _ _ _ _ _ Z8.out : (w8.setRow (w.heap.size + 2) (hA h7)).heap[w.heap.size + 2]? = some (.cells (hA h7) 28 (0, 0))))
    have Y9 := Lib.hid (upH hu9 (row_ne (cs := hA h7) (by omega) Y8.out))
    have B9 := Lib.hid (bw_tr (below_setRow B8.out (by omega) (hA h7)) hu9 : Below w.heap.size w w9)
    have D9 := Lib.hid hc9
    clear hu9 hc9 Z8 Y8 D8 B8
    go_wp2_with (refine wpList_store_row rfl 34 _ _ rfl (w.heap.size + 3) #[.int .i64 0, .int .i64 0, .int .i64 0, .int .i64 0, .int .i64 0] rfl rfl 34 effZ Y9.out (by kernel_rfl) rfl (by kernel_rfl) ?_)
    refine ⟨⟨row_ne (by omega) D9.out.1, row_ne (by omega) D9.out.2⟩, ?_⟩
    refine anyU_nil (by kernel_rfl) ?_
    intro w10 hu10 hc10
    have Z10 := Lib.hid (upH hu10 (row_ne (cs := #[.int .i64 0, .int .i64 0, .int .i64 0, .int .i64 0, .int .i64 0]) (by omega) Z9.out))
    have Y10 := Lib.hid (upH hu10 (setRow_heap _ _ _ _ _ _ Y9.out : (w9.setRow (w.heap.size + 3) #[.int .i64 0, .int .i64 0, .int .i64 0, .int .i64 0, .int .i64 0]).heap[w.heap.size + 3]? = some (.cells #[.int .i64 0, .int .i64 0, .int .i64 0, .int .i64 0, .int .i64 0] 34 (0, 0))))
    have B10 := Lib.hid (bw_tr (below_setRow B9.out (by omega) #[.int .i64 0, .int .i64 0, .int .i64 0, .int .i64 0, .int .i64 0]) hu10 : Below w.heap.size w w10)
    clear hu10 hc10 Z9 Y9 D9 B9
    go_wp2_with fail
    exact bodyPost_ret (v := .tuple #[.agg (hA h7), .agg #[.int .i64 0, .int .i64 0, .int .i64 0, .int .i64 0, .int .i64 0]]) (results_cells2 rfl _ _ (w.heap.size + 2) (w.heap.size + 3) 28 34 (hA h7) #[.int .i64 0, .int .i64 0, .int .i64 0, .int .i64 0, .int .i64 0] (0, 0) (0, 0) _ _ rfl rfl Z10.out Y10.out Try.underlying28 rfl (infoA (hA_size h7 HL7.out)) Try.underlying34 rfl (by kernel_rfl)) rfl ⟨rfl, B10.out⟩
set_option maxRecDepth 100000 in
set_option maxHeartbeats 8000000 in
theorem rstep_csr (h : Ht) (id op d n : Int) (ka kb : Nat) (w : World) (f : Fine h) (hr : rightB ⟨op, d, ka, kb, n⟩ = true) (hka : ka < 32) (hkb : kb < 32) (hn : -1048576 ≤ n ∧ n ≤ 1048575) (hop : 40 ≤ op ∧ op ≤ 42) (hid : I64 id) :
    Calls Try.prog 17 #[.agg (hA h), .int .i64 id, insV ⟨op, d, ka, kb, n⟩] w fun e w' => e = .returned (.tuple #[.agg (hA ((rcsrR h id ⟨op, d, ka, kb, n⟩).1)), effV (rcsrR h id ⟨op, d, ka, kb, n⟩).2]) ∧ Below w.heap.size w w' := by
  have h32 := f.len
  have P4 : Hid (I64 (h.pc + 4)) := Lib.hid (by have := f.pc.1.1; have := f.pc.1.2; constructor <;> omega)
  have PN : Hid (I64 (h.pc + n)) := Lib.hid (by have := f.pc.1.1; have := f.pc.1.2; constructor <;> omega)
  obtain ⟨va, hva⟩ : ∃ va, h.r.getD ka 0 = va := ⟨_, rfl⟩
  obtain ⟨vb, hvb⟩ : ∃ vb, h.r.getD kb 0 = vb := ⟨_, rfl⟩
  have IAI : Hid (I32 va) := Lib.hid (hva ▸ f.reg ka hka)
  have IBI : Hid (I32 vb) := Lib.hid (hvb ▸ f.reg kb hkb)
  have HVA := Lib.hid hva; have HVB := Lib.hid hvb
  try rw [hva]
  try rw [hvb]
  clear hva hvb
  have w4 : IntKind.i64.wrap (h.pc + 4) = h.pc + 4 := IntWalk.i64_in _ (by have := P4.out.1; have := P4.out.2; omega)
  have wn : IntKind.i64.wrap (h.pc + n) = h.pc + n := IntWalk.i64_in _ (by have := PN.out.1; have := PN.out.2; omega)
  obtain ⟨⟨h7, ⟨e0, e1, e2, e3, e4⟩⟩, hrr⟩ : ∃ r, rcsrR h id ⟨op, d, ka, kb, n⟩ = r := ⟨_, rfl⟩
  rw [hrr]
  dsimp only
  have HRR := Lib.hid hrr
  have HL7 : Hid (h7.r.length = 32) := Lib.hid (by have := rcsr_len h id ⟨op, d, ka, kb, n⟩ h32; rw [hrr] at this; exact this)
  have HID := Lib.hid hid
  clear hrr hid
  have q1 : (op == 1) = false := beq_eq_false_iff_ne.2 (by omega)
  have q2 : (op == 2) = false := beq_eq_false_iff_ne.2 (by omega)
  have q3 : (op == 3) = false := beq_eq_false_iff_ne.2 (by omega)
  have q4 : (op == 4) = false := beq_eq_false_iff_ne.2 (by omega)
  have q11 : (op == 11) = false := beq_eq_false_iff_ne.2 (by omega)
  have q12 : (op == 12) = false := beq_eq_false_iff_ne.2 (by omega)
  have q39 : (op == 39) = false := beq_eq_false_iff_ne.2 (by omega)
  have q46 : (op == 46) = false := beq_eq_false_iff_ne.2 (by omega)
  have q47 : (op == 47) = false := beq_eq_false_iff_ne.2 (by omega)
  have q48 : (op == 48) = false := beq_eq_false_iff_ne.2 (by omega)
  have q49 : (op == 49) = false := beq_eq_false_iff_ne.2 (by omega)
  have q43 : (op == 43) = false := beq_eq_false_iff_ne.2 (by omega)
  have q45 : (op == 45) = false := beq_eq_false_iff_ne.2 (by omega)
  have q44 : (op == 44) = false := beq_eq_false_iff_ne.2 (by omega)
  have hfm : (rowT op).form = 67 := (forms op (by omega)).2.1 hop
  obtain ⟨w0, hw0, hx, hi, hz, hy, hb0, hs0⟩ := four_new w (.cells (hA h) 28) (.cells #[.int .i64 op, .int .i64 d, .int .i64 ka, .int .i64 kb, .int .i64 n] 24) (.cells zA 28) (.cells effZ 34)
  have i0 := cell_in hi (j := 0) (u := .int .i64 op) rfl
  have i1 := cell_in hi (j := 1) (u := .int .i64 d) rfl
  have i2 := cell_in hi (j := 2) (u := .int .i64 ka) rfl
  have i3 := cell_in hi (j := 3) (u := .int .i64 kb) rfl
  have i4 := cell_in hi (j := 4) (u := .int .i64 n) rfl
  have HW := Lib.hid hw0
  have HX := Lib.hid hx; have HI := Lib.hid hi; have HZ := Lib.hid hz; have HY := Lib.hid hy; have HR := Lib.hid hr; have FF := Lib.hid f; have HN := Lib.hid hn
  clear hx hi hz hy hw0 hr f hn
  clear hop
  unfold insV
  go_enter Try.func17, Try.ntmps17
  go_upto_region 1 with (fail)
  change Code.wp _ _ _ _ ((((w.alloc (.cells (hA h) 28)).alloc (.cells #[.int .i64 op, .int .i64 d, .int .i64 ka, .int .i64 kb, .int .i64 n] 24)).alloc (.cells zA 28)).alloc (.cells effZ 34))
  rw [← HW.out]
  go_wp2_with fail
  refine (refRight_h op d ka kb n true _ HR.out).mono ?_
  rintro e w1 ⟨rfl, hb1⟩
  have HX1 := Lib.hid (upH hb1 HX.out); have HI1 := Lib.hid (upH hb1 HI.out); have HZ1 := Lib.hid (upH hb1 HZ.out); have HY1 := Lib.hid (upH hb1 HY.out)
  have hbw1 : Below w.heap.size w w1 := (by repeat (first | (with_reducible exact Below.refl _ _) | (with_reducible refine bw_set ?_ ?_ _) | (with_reducible apply bw_alloc) | (with_reducible refine bw_tr ?_ (by with_reducible assumption)) | (with_reducible apply bw_drew) | omega))
  have hs1 : w.heap.size + 4 ≤ w1.heap.size := by have := hb1.size; omega
  clear i0 i1 i2 i3 i4 HX HI HZ HY HW hb0 hs0 hb1
  have ca := cell_in HX1.out (show (hA h)[ka]? = some (.int .i64 va) by rw [hA_r h h32 ka hka, HVA.out])
  have cb := cell_in HX1.out (show (hA h)[kb]? = some (.int .i64 vb) by rw [hA_r h h32 kb hkb, HVB.out])
  have c32 := cell_in HX1.out (hA_fields h h32).1
  have i0 := cell_in HI1.out (j := 0) (u := .int .i64 op) rfl
  have i2 := cell_in HI1.out (j := 2) (u := .int .i64 ka) rfl
  have i3 := cell_in HI1.out (j := 3) (u := .int .i64 kb) rfl
  have i4 := cell_in HI1.out (j := 4) (u := .int .i64 n) rfl
  go_upto_region 8 with (first | (go_at_call 38; (with_reducible refine (rwrap_any (h.pc + 4) _ P4.out).mono ?_); rintro e w' ⟨rfl, rfl⟩) | (go_at_call 38; (with_reducible refine (rwrap_any (h.pc + n) _ PN.out).mono ?_); rintro e w' ⟨rfl, rfl⟩))
  go_wp2_with fail
  refine (refRow_any op _).mono ?_
  obtain ⟨rw0, hrw⟩ : ∃ r, rowT op = r := ⟨_, rfl⟩
  rw [hrw]
  rw [hrw] at hfm
  obtain ⟨nm, fm, lo, mi, hi⟩ := rw0
  simp only at hfm
  clear hrw
  subst hfm
  have hfld : ∀ w : World, (Instr.field 54 (.agg #[.string nm, .int .u8 67, .int .i64 lo, .int .i64 mi, .int .i64 hi]) 1).run Try.prog w = .ok (.int .u8 67) w := fun w => by kernel_rfl
  rintro e w2 ⟨rfl, hb2⟩
  have HX2 := Lib.hid (upH hb2 HX1.out); have HI2 := Lib.hid (upH hb2 HI1.out); have HZ2 := Lib.hid (upH hb2 HZ1.out); have HY2 := Lib.hid (upH hb2 HY1.out)
  have hbw2 : Below w.heap.size w w2 := (by repeat (first | (with_reducible exact Below.refl _ _) | (with_reducible refine bw_set ?_ ?_ _) | (with_reducible apply bw_alloc) | (with_reducible refine bw_tr ?_ (by with_reducible assumption)) | (with_reducible apply bw_drew) | omega))
  have hs2 : w.heap.size + 4 ≤ w2.heap.size := by have := hb2.size; omega
  clear ca cb c32 i0 i2 i3 i4 hb2 HX1 HI1 HZ1 HY1 hbw1 hs1 w4 wn
  unfold rfV
  go_upto_region 12 with (fail)
  clear hfld
  change Code.wp _ _ _ _ (w2.alloc (.cells effZ 34))
  have N3 : Hid ((w2.alloc (.cells effZ 34)).heap[w2.heap.size]? = some (.cells effZ 34 (0, 0))) := Lib.hid (new_in w2 (.cells effZ 34))
  have hb3 : Below w2.heap.size w2 (w2.alloc (.cells effZ 34)) := newH w2 (.cells effZ 34)
  have hs3 : w2.heap.size < (w2.alloc (.cells effZ 34)).heap.size := lt_in N3.out
  obtain ⟨w3, hw3⟩ : ∃ w3 : World, w2.alloc (.cells effZ 34) = w3 := ⟨_, rfl⟩
  rw [hw3] at N3 hb3 hs3 ⊢
  have HX3 := Lib.hid (upH hb3 HX2.out); have HI3 := Lib.hid (upH hb3 HI2.out); have HZ3 := Lib.hid (upH hb3 HZ2.out); have HY3 := Lib.hid (upH hb3 HY2.out)
  have hbw3 : Below w.heap.size w w3 := bw_tr hbw2 hb3
  obtain ⟨pe, hpe⟩ : ∃ pe, w2.heap.size = pe := ⟨_, rfl⟩
  rw [hpe] at N3 hs2 hs3 ⊢
  clear hpe hw3 hb3 HX2 HI2 HZ2 HY2 hbw2
  have i0 := cell_in HI3.out (j := 0) (u := .int .i64 op) rfl
  have i1 := cell_in HI3.out (j := 1) (u := .int .i64 d) rfl
  have i4 := cell_in HI3.out (j := 4) (u := .int .i64 n) rfl
  go_upto_region 41 with (fail)
  have i2 := cell_in HI3.out (j := 2) (u := .int .i64 ka) rfl
  have i3 := cell_in HI3.out (j := 3) (u := .int .i64 kb) rfl
  go_wp2_with (refine wpList_load_row rfl 28 _ rfl (w.heap.size) rfl 28 (hA h) (0, 0) _ HX3.out Try.underlying28 rfl (infoA (hA_size h h32)) ?_)
  refine (rcsr_h h id op d n ka kb h7 e0 e1 e2 e3 e4 _ FF.out HID.out hka HRR.out).mono ?_
  rintro e w5 ⟨rfl, hb5⟩
  have Z5 := Lib.hid (upH hb5 HZ3.out); have Y5 := Lib.hid (upH hb5 HY3.out)
  have B5 := Lib.hid (bw_tr hbw3 hb5)
  clear i0 i1 i2 i3 i4 q1 q2 q3 q4 q11 q12 q39 q46 q47 q48 q49 q43 q45 q44 HI3 HX3 HZ3 HY3 N3 hb5
  go_wp2_with (first | (refine wpList_store_row rfl 28 _ _ rfl (w.heap.size + 2) (hA h7) rfl rfl 28 zA Z5.out (infoA (hA_size h7 HL7.out)) (by rw [hA_size h7 HL7.out]; rfl) (hA_one h7) ?_) | (refine wpList_store_row rfl 34 _ _ rfl (w.heap.size + 3) #[.int .i64 e0, .int .i64 e1, .int .i64 e2, .int .i64 e3, .int .i64 e4] rfl rfl 34 effZ (row_ne (by omega) Y5.out) (by kernel_rfl) rfl (by kernel_rfl) ?_))
  exact bodyPost_ret (v := .tuple #[.agg (hA h7), .agg #[.int .i64 e0, .int .i64 e1, .int .i64 e2, .int .i64 e3, .int .i64 e4]]) (results_cells2 rfl _ _ (w.heap.size + 2) (w.heap.size + 3) 28 34 (hA h7) #[.int .i64 e0, .int .i64 e1, .int .i64 e2, .int .i64 e3, .int .i64 e4] (0, 0) (0, 0) _ _ rfl rfl (row_ne (by omega) (setRow_heap _ _ _ _ _ _ Z5.out)) (setRow_heap _ _ _ _ _ _ (row_ne (by omega) Y5.out)) Try.underlying28 rfl (infoA (hA_size h7 HL7.out)) Try.underlying34 rfl (by kernel_rfl)) rfl ⟨rfl, below_setRow (below_setRow B5.out (by omega) _) (by omega) _⟩
end Go.Proofs.Ytiahdhlfecgnpaa
