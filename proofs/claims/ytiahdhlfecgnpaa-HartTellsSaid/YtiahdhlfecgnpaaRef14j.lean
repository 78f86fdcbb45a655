/-
  The contract of headstockref14.Step: effects, branches.
-/
import Derived.Test.YtiahdhlfecgnpaaRef14i
namespace Go.Proofs.Ytiahdhlfecgnpaa
open Go.RowKit
set_option linter.unusedSimpArgs false
set_option linter.unusedVariables false
theorem rgoes_h (op a b : Int) (r : Bool) (w : World) (h : 5 ≤ op ∧ op ≤ 10) (ha : I64 a) (hb : I64 b) (hr : jumpsB op a b = r) :
    Calls Try.prog 40 #[.int .i64 op, .int .i64 a, .int .i64 b] w fun e w' => e = .returned (.bool r) ∧ w = w' := by subst hr; exact rgoes_any op a b w h ha hb
set_option maxRecDepth 100000 in
set_option maxHeartbeats 8000000 in
theorem rstep_goes (h : Ht) (id op d n : Int) (ka kb : Nat) (w : World) (f : Fine h) (hr : rightB ⟨op, d, ka, kb, n⟩ = true) (hka : ka < 32) (hkb : kb < 32) (hn : -1048576 ≤ n ∧ n ≤ 1048575) (hop : 5 ≤ op ∧ op ≤ 10) (hj : jumpsB op (h.r.getD ka 0) (h.r.getD kb 0) = true) :
    Calls Try.prog 17 #[.agg (hA h), .int .i64 id, insV ⟨op, d, ka, kb, n⟩] w fun e w' => e = .returned (.tuple #[.agg (hA ({ h with pc := wrap32 (h.pc + n) })), effV ⟨0, 0, 0, 0, 0⟩]) ∧ Below w.heap.size w w' := by
  have h32 := f.len
  have P4 : Hid (I64 (h.pc + 4)) := Lib.hid (by have := f.pc.1.1; have := f.pc.1.2; constructor <;> omega)
  have PN : Hid (I64 (h.pc + n)) := Lib.hid (by have := f.pc.1.1; have := f.pc.1.2; constructor <;> omega)
  obtain ⟨va, hva⟩ : ∃ va, h.r.getD ka 0 = va := ⟨_, rfl⟩
  obtain ⟨vb, hvb⟩ : ∃ vb, h.r.getD kb 0 = vb := ⟨_, rfl⟩
  have IAI : Hid (I32 va) := Lib.hid (hva ▸ f.reg ka hka)
  have IBI : Hid (I32 vb) := Lib.hid (hvb ▸ f.reg kb hkb)
  have HVA := Lib.hid hva; have HVB := Lib.hid hvb
  try rw [hva]
  try rw [hvb]
  try rw [hva] at hj
  try rw [hvb] at hj
  clear hva hvb
  have w4 : IntKind.i64.wrap (h.pc + 4) = h.pc + 4 := IntWalk.i64_in _ (by have := P4.out.1; have := P4.out.2; omega)
  have wn : IntKind.i64.wrap (h.pc + n) = h.pc + n := IntWalk.i64_in _ (by have := PN.out.1; have := PN.out.2; omega)
  obtain ⟨h7, hh7⟩ : ∃ h7 : Ht, ({ h with pc := wrap32 (h.pc + n) } : Ht) = h7 := ⟨_, rfl⟩
  rw [hh7]
  have HH7 := Lib.hid hh7; clear hh7
  have HA64 := Lib.hid (i32_64 IAI.out); have HB64 := Lib.hid (i32_64 IBI.out); have HOPR := Lib.hid hop; have HJ := Lib.hid hj
  have q1 : (op == 1) = false := beq_eq_false_iff_ne.2 (by omega)
  have q2 : (op == 2) = false := beq_eq_false_iff_ne.2 (by omega)
  have q3 : (op == 3) = false := beq_eq_false_iff_ne.2 (by omega)
  have q4 : (op == 4) = false := beq_eq_false_iff_ne.2 (by omega)
  have hfm : (rowT op).form = 66 := (forms op (by omega)).1 hop
  clear hop hj
  obtain ⟨w0, hw0, hx, hi, hz, hy, hb0, hs0⟩ := four_new w (.cells (hA h) 28) (.cells #[.int .i64 op, .int .i64 d, .int .i64 ka, .int .i64 kb, .int .i64 n] 24) (.cells zA 28) (.cells effZ 34)
  have i0 := cell_in hi (j := 0) (u := .int .i64 op) rfl
  have i1 := cell_in hi (j := 1) (u := .int .i64 d) rfl
  have i2 := cell_in hi (j := 2) (u := .int .i64 ka) rfl
  have i3 := cell_in hi (j := 3) (u := .int .i64 kb) rfl
  have i4 := cell_in hi (j := 4) (u := .int .i64 n) rfl
  have HW := Lib.hid hw0
  have HX := Lib.hid hx; have HI := Lib.hid hi; have HZ := Lib.hid hz; have HY := Lib.hid hy; have HR := Lib.hid hr; have FF := Lib.hid f; have HN := Lib.hid hn
  clear hx hi hz hy hw0 hr f hn
  unfold insV
  go_enter Try.func17, Try.ntmps17
  go_upto_region 1 with (fail)
  change Code.wp _ _ _ _ ((((w.alloc (.cells (hA h) 28)).alloc (.cells #[.int .i64 op, .int .i64 d, .int .i64 ka, .int .i64 kb, .int .i64 n] 24)).alloc (.cells zA 28)).alloc (.cells effZ 34))
  rw [← HW.out]
  go_wp2_with fail
  refine (refRight_h op d ka kb n true _ HR.out).mono ?_
  rintro e w1 ⟨rfl, hb1⟩
  have HX1 := Lib.hid (upH hb1 HX.out); have HI1 := Lib.hid (upH hb1 HI.out); have HZ1 := Lib.hid (upH hb1 HZ.out); have HY1 := Lib.hid (upH hb1 HY.out)
  have hbw1 : Below w.heap.size w w1 := (by repeat (first | (with_reducible exact Below.refl _ _) | (with_reducible refine bw_set ?_ ?_ _) | (with_reducible apply bw_alloc) | (with_reducible refine bw_tr ?_ (by with_reducible assumption)) | (with_reducible apply bw_drew) | omega))
  have hs1 : w.heap.size + 4 ≤ w1.heap.size := by have := hb1.size; omega
  clear i0 i1 i2 i3 i4 HX HI HZ HY HW hb0 hs0 hb1
  have ca := cell_in HX1.out (show (hA h)[ka]? = some (.int .i64 va) by rw [hA_r h h32 ka hka, HVA.out])
  have cb := cell_in HX1.out (show (hA h)[kb]? = some (.int .i64 vb) by rw [hA_r h h32 kb hkb, HVB.out])
  have c32 := cell_in HX1.out (hA_fields h h32).1
  have i0 := cell_in HI1.out (j := 0) (u := .int .i64 op) rfl
  have i2 := cell_in HI1.out (j := 2) (u := .int .i64 ka) rfl
  have i3 := cell_in HI1.out (j := 3) (u := .int .i64 kb) rfl
  have i4 := cell_in HI1.out (j := 4) (u := .int .i64 n) rfl
  go_upto_region 8 with (first | (go_at_call 38; (with_reducible refine (rwrap_any (h.pc + 4) _ P4.out).mono ?_); rintro e w' ⟨rfl, rfl⟩) | (go_at_call 38; (with_reducible refine (rwrap_any (h.pc + n) _ PN.out).mono ?_); rintro e w' ⟨rfl, rfl⟩))
  go_wp2_with fail
  refine (refRow_any op _).mono ?_
  obtain ⟨rw0, hrw⟩ : ∃ r, rowT op = r := ⟨_, rfl⟩
  rw [hrw]
  rw [hrw] at hfm
  obtain ⟨nm, fm, lo, mi, hi⟩ := rw0
  simp only at hfm
  clear hrw
  subst hfm
  have hfld : ∀ w : World, (Instr.field 54 (.agg #[.string nm, .int .u8 66, .int .i64 lo, .int .i64 mi, .int .i64 hi]) 1).run Try.prog w = .ok (.int .u8 66) w := fun w => by kernel_rfl
  rintro e w2 ⟨rfl, hb2⟩
  have HX2 := Lib.hid (upH hb2 HX1.out); have HI2 := Lib.hid (upH hb2 HI1.out); have HZ2 := Lib.hid (upH hb2 HZ1.out); have HY2 := Lib.hid (upH hb2 HY1.out)
  have hbw2 : Below w.heap.size w w2 := (by repeat (first | (with_reducible exact Below.refl _ _) | (with_reducible refine bw_set ?_ ?_ _) | (with_reducible apply bw_alloc) | (with_reducible refine bw_tr ?_ (by with_reducible assumption)) | (with_reducible apply bw_drew) | omega))
  have hs2 : w.heap.size + 4 ≤ w2.heap.size := by have := hb2.size; omega
  clear ca cb c32 i0 i2 i3 i4 hb2 HX1 HI1 HZ1 HY1 hbw1 hs1 w4 wn
  unfold rfV
  go_upto_region 12 with (fail)
  clear hfld
  change Code.wp _ _ _ _ (w2.alloc (.cells effZ 34))
  have N3 : Hid ((w2.alloc (.cells effZ 34)).heap[w2.heap.size]? = some (.cells effZ 34 (0, 0))) := Lib.hid (new_in w2 (.cells effZ 34))
  have hb3 : Below w2.heap.size w2 (w2.alloc (.cells effZ 34)) := newH w2 (.cells effZ 34)
  have hs3 : w2.heap.size < (w2.alloc (.cells effZ 34)).heap.size := lt_in N3.out
  obtain ⟨w3, hw3⟩ : ∃ w3 : World, w2.alloc (.cells effZ 34) = w3 := ⟨_, rfl⟩
  rw [hw3] at N3 hb3 hs3 ⊢
  have HX3 := Lib.hid (upH hb3 HX2.out); have HI3 := Lib.hid (upH hb3 HI2.out); have HZ3 := Lib.hid (upH hb3 HZ2.out); have HY3 := Lib.hid (upH hb3 HY2.out)
  have hbw3 : Below w.heap.size w w3 := bw_tr hbw2 hb3
  obtain ⟨pe, hpe⟩ : ∃ pe, w2.heap.size = pe := ⟨_, rfl⟩
  rw [hpe] at N3 hs2 hs3 ⊢
  clear hpe hw3 hb3 HX2 HI2 HZ2 HY2 hbw2
  have i0 := cell_in HI3.out (j := 0) (u := .int .i64 op) rfl
  have i1 := cell_in HI3.out (j := 1) (u := .int .i64 d) rfl
  have i4 := cell_in HI3.out (j := 4) (u := .int .i64 n) rfl
  go_upto_region 51 with (go_at_call 40; (with_reducible refine (rgoes_h op va vb true _ HOPR.out HA64.out HB64.out HJ.out).mono ?_); rintro e w' ⟨rfl, rfl⟩)
  clear i0 i1 i4 q1 q2 q3 q4 HI3
  have g32 := cell_in HX3.out (hA_fields h h32).1
  have f32 := frozen_in HX3.out 32
  have X7 : Hid ((w3.setCell ⟨w.heap.size, 32, none⟩ (.int .i64 (wrap32 (h.pc + n)))).heap[w.heap.size]? = some (.cells (hA { h with pc := wrap32 (h.pc + n) }) 28 (0, 0))) := Lib.hid (set_heap HX3.out 32 (.int .i64 (wrap32 (h.pc + n))) _ (hA_pc h h32 (wrap32 (h.pc + n))))
  have Z7 : Hid ((w3.setCell ⟨w.heap.size, 32, none⟩ (.int .i64 (wrap32 (h.pc + n)))).heap[w.heap.size + 2]? = some (.cells zA 28 (0, 0))) := Lib.hid (heap_set_ne (by omega) HZ3.out)
  have Y7 : Hid ((w3.setCell ⟨w.heap.size, 32, none⟩ (.int .i64 (wrap32 (h.pc + n)))).heap[w.heap.size + 3]? = some (.cells effZ 34 (0, 0))) := Lib.hid (heap_set_ne (by omega) HY3.out)
  have N7 : Hid ((w3.setCell ⟨w.heap.size, 32, none⟩ (.int .i64 (wrap32 (h.pc + n)))).heap[pe]? = some (.cells #[.int .i64 0, .int .i64 0, .int .i64 0, .int .i64 0, .int .i64 0] 34 (0, 0))) := Lib.hid (heap_set_ne (by omega) N3.out)
  have B7 : Hid (Below w.heap.size w (w3.setCell ⟨w.heap.size, 32, none⟩ (.int .i64 (wrap32 (h.pc + n))))) := Lib.hid (bw_set hbw3 (Nat.le_refl _) _)
  go_upto_region 52 with (fail)
  obtain ⟨w7, hw7⟩ : ∃ w7 : World, w3.setCell ⟨w.heap.size, 32, none⟩ (.int .i64 (wrap32 (h.pc + n))) = w7 := ⟨_, rfl⟩
  rw [hw7] at X7 Z7 Y7 N7 B7 ⊢
  have hh7 : ({ h with pc := wrap32 (h.pc + n) } : Ht) = h7 := HH7.out
  have hl7' : h7.r.length = 32 := by rw [← hh7]; exact h32
  rw [hh7] at X7
  have HL7 := Lib.hid hl7'
  clear hw7 hh7 hl7' g32 f32 HX3 HZ3 HY3 N3
  refine wp_region_up (fun w' => w'.heap[w.heap.size]? = some (.cells (hA h7) 28 (0, 0)) ∧ w'.heap[pe]? = some (.cells #[.int .i64 0, .int .i64 0, .int .i64 0, .int .i64 0, .int .i64 0] 34 (0, 0))) [true, true, false, false] (by kernel_rfl) (by kernel_rfl) (by kernel_rfl) (fun _ _ hh hu => ⟨upH hu hh.1, upH hu hh.2⟩) ⟨X7.out, N7.out⟩ ?ra ?rh ?rt
  case rh =>
    intro w0 h0
    have R0 : Hid (∀ w' : World, (∃ x : Wd w0, w' = x.val) → (loadVar 28 ⟨w.heap.size, 0, none⟩).run Try.prog w' = .ok (.agg (hA h7)) w') := by
      rintro w' ⟨x, rfl⟩
      exact run_loadVar_row _ _ 28 28 (hA h7) (0, 0) _ (bel_in x.bel (lt_in h0.1) h0.1) Try.underlying28 rfl (infoA (hA_size h7 HL7.out))
    have R1 : Hid (∀ w' : World, (∃ x : Wd w0, w' = x.val) → (loadVar 34 ⟨pe, 0, none⟩).run Try.prog w' = .ok (.agg #[.int .i64 0, .int .i64 0, .int .i64 0, .int .i64 0, .int .i64 0]) w') := by
      rintro w' ⟨x, rfl⟩
      exact run_loadVar_row _ _ 34 34 #[.int .i64 0, .int .i64 0, .int .i64 0, .int .i64 0, .int .i64 0] (0, 0) _ (bel_in x.bel (lt_in h0.2) h0.2) Try.underlying34 rfl (by kernel_rfl)
    clear h0
    simp only [pickM]
    go_big_quiet_want
    refine quiet_load_row 28 _ (w.heap.size) (hA h7) rfl rfl R0.out ?_
    simp only [Act.put, List.setIfInBounds_toArray, List.set_cons_succ, List.set_cons_zero]
    go_big_quiet_on
    go_big_quiet_want
    refine quiet_load_row 34 _ pe #[.int .i64 0, .int .i64 0, .int .i64 0, .int .i64 0, .int .i64 0] rfl rfl R1.out ?_
    simp only [Act.put, List.setIfInBounds_toArray, List.set_cons_succ, List.set_cons_zero]
    go_big_quiet_on
    refine wpQuiet_nil ?_
    rfl
  case rt => as_aux_lemma =>
    change wpAnyU _ _ _ _ _ 2 _ _ _
    refine anyU_one (i := 2) (by kernel_rfl) rfl ?_
    intro w8 hu8 hc8
    have hu8 := bw_undrew hu8
    have Z8 := Lib.hid (upH hu8 Z7.out); have Y8 := Lib.hid (upH hu8 Y7.out); have B8 := Lib.hid (bw_tr B7.out hu8); have D8 := Lib.hid hc8
    clear hu8 hc8 X7 Z7 Y7 N7
    go_wp2_with (refine wpList_store_row rfl 28 _ _ rfl (w.heap.size + 2) (hA h7) rfl rfl 28 zA Z8.out (infoA (hA_size h7 HL7.out)) (by rw [hA_size h7 HL7.out]; rfl) (hA_one h7) ?_)
    refine ⟨⟨row_ne (by omega) D8.out.1, row_ne (by omega) D8.out.2⟩, ?_⟩
    refine anyU_one (i := 3) (by kernel_rfl) rfl ?_
    intro w9 hu9 hc9
    have Z9 := Lib.hid (upH hu9 (setRow_heap _ _ _ _ _ _ Z8.out : (w8.setRow (w.heap.size + 2) (hA h7)).heap[w.heap.size + 2]? = some (.cells (hA h7) 28 (0, 0))))
    have Y9 := Lib.hid (upH hu9 (row_ne (cs := hA h7) (by omega) Y8.out))
    have B9 := Lib.hid (bw_tr (below_setRow B8.out (by omega) (hA h7)) hu9 : Below w.heap.size w w9)
    have D9 := Lib.hid hc9
    clear hu9 hc9 Z8 Y8 D8 B8
    go_wp2_with (refine wpList_store_row rfl 34 _ _ rfl (w.heap.size + 3) #[.int .i64 0, .int .i64 0, .int .i64 0, .int .i64 0, .int .i64 0] rfl rfl 34 effZ Y9.out (by kernel_rfl) rfl (by kernel_rfl) ?_)
    refine ⟨⟨row_ne (by omega) D9.out.1, row_ne (by omega) D9.out.2⟩, ?_⟩
    refine anyU_nil (by kernel_rfl) ?_
    intro w10 hu10 hc10
    have Z10 := Lib.hid (upH hu10 (row_ne (cs := #[.int .i64 0, .int .i64 0, .int .i64 0, .int .i64 0, .int .i64 0]) (by omega) Z9.out))
    have Y10 := Lib.hid (upH hu10 (setRow_heap _ _ _ _ _ _ Y9.out : (w9.setRow (w.heap.size + 3) #[.int .i64 0, .int .i64 0, .int .i64 0, .int .i64 0, .int .i64 0]).heap[w.heap.size + 3]? = some (.cells #[.int .i64 0, .int .i64 0, .int .i64 0, .int .i64 0, .int .i64 0] 34 (0, 0))))
    have B10 := Lib.hid (bw_tr (below_setRow B9.out (by omega) #[.int .i64 0, .int .i64 0, .int .i64 0, .int .i64 0, .int .i64 0]) hu10 : Below w.heap.size w w10)
    clear hu10 hc10 Z9 Y9 D9 B9
    go_wp2_with fail
    exact bodyPost_ret (v := .tuple #[.agg (hA h7), .agg #[.int .i64 0, .int .i64 0, .int .i64 0, .int .i64 0, .int .i64 0]]) (results_cells2 rfl _ _ (w.heap.size + 2) (w.heap.size + 3) 28 34 (hA h7) #[.int .i64 0, .int .i64 0, .int .i64 0, .int .i64 0, .int .i64 0] (0, 0) (0, 0) _ _ rfl rfl Z10.out Y10.out Try.underlying28 rfl (infoA (hA_size h7 HL7.out)) Try.underlying34 rfl (by kernel_rfl)) rfl ⟨rfl, B10.out⟩
set_option maxRecDepth 100000 in
set_option maxHeartbeats 8000000 in
theorem rstep_falls (h : Ht) (id op d n : Int) (ka kb : Nat) (w : World) (f : Fine h) (hr : rightB ⟨op, d, ka, kb, n⟩ = true) (hka : ka < 32) (hkb : kb < 32) (hn : -1048576 ≤ n ∧ n ≤ 1048575) (hop : 5 ≤ op ∧ op ≤ 10) (hj : jumpsB op (h.r.getD ka 0) (h.r.getD kb 0) = false) :
    Calls Try.prog 17 #[.agg (hA h), .int .i64 id, insV ⟨op, d, ka, kb, n⟩] w fun e w' => e = .returned (.tuple #[.agg (hA ({ h with pc := wrap32 (h.pc + 4) })), effV ⟨0, 0, 0, 0, 0⟩]) ∧ Below w.heap.size w w' := by
  have h32 := f.len
  have P4 : Hid (I64 (h.pc + 4)) := Lib.hid (by have := f.pc.1.1; have := f.pc.1.2; constructor <;> omega)
  have PN : Hid (I64 (h.pc + n)) := Lib.hid (by have := f.pc.1.1; have := f.pc.1.2; constructor <;> omega)
  obtain ⟨va, hva⟩ : ∃ va, h.r.getD ka 0 = va := ⟨_, rfl⟩
  obtain ⟨vb, hvb⟩ : ∃ vb, h.r.getD kb 0 = vb := ⟨_, rfl⟩
  have IAI : Hid (I32 va) := Lib.hid (hva ▸ f.reg ka hka)
  have IBI : Hid (I32 vb) := Lib.hid (hvb ▸ f.reg kb hkb)
  have HVA := Lib.hid hva; have HVB := Lib.hid hvb
  try rw [hva]
  try rw [hvb]
  try rw [hva] at hj
  try rw [hvb] at hj
  clear hva hvb
  have w4 : IntKind.i64.wrap (h.pc + 4) = h.pc + 4 := IntWalk.i64_in _ (by have := P4.out.1; have := P4.out.2; omega)
  have wn : IntKind.i64.wrap (h.pc + n) = h.pc + n := IntWalk.i64_in _ (by have := PN.out.1; have := PN.out.2; omega)
  obtain ⟨h7, hh7⟩ : ∃ h7 : Ht, ({ h with pc := wrap32 (h.pc + 4) } : Ht) = h7 := ⟨_, rfl⟩
  rw [hh7]
  have HH7 := Lib.hid hh7; clear hh7
  have HA64 := Lib.hid (i32_64 IAI.out); have HB64 := Lib.hid (i32_64 IBI.out); have HOPR := Lib.hid hop; have HJ := Lib.hid hj
  have q1 : (op == 1) = false := beq_eq_false_iff_ne.2 (by omega)
  have q2 : (op == 2) = false := beq_eq_false_iff_ne.2 (by omega)
  have q3 : (op == 3) = false := beq_eq_false_iff_ne.2 (by omega)
  have q4 : (op == 4) = false := beq_eq_false_iff_ne.2 (by omega)
  have hfm : (rowT op).form = 66 := (forms op (by omega)).1 hop
  clear hop hj
  obtain ⟨w0, hw0, hx, hi, hz, hy, hb0, hs0⟩ := four_new w (.cells (hA h) 28) (.cells #[.int .i64 op, .int .i64 d, .int .i64 ka, .int .i64 kb, .int .i64 n] 24) (.cells zA 28) (.cells effZ 34)
  have i0 := cell_in hi (j := 0) (u := .int .i64 op) rfl
  have i1 := cell_in hi (j := 1) (u := .int .i64 d) rfl
  have i2 := cell_in hi (j := 2) (u := .int .i64 ka) rfl
  have i3 := cell_in hi (j := 3) (u := .int .i64 kb) rfl
  have i4 := cell_in hi (j := 4) (u := .int .i64 n) rfl
  have HW := Lib.hid hw0
  have HX := Lib.hid hx; have HI := Lib.hid hi; have HZ := Lib.hid hz; have HY := Lib.hid hy; have HR := Lib.hid hr; have FF := Lib.hid f; have HN := Lib.hid hn
  clear hx hi hz hy hw0 hr f hn
  unfold insV
  go_enter Try.func17, Try.ntmps17
  go_upto_region 1 with (fail)
  change Code.wp _ _ _ _ ((((w.alloc (.cells (hA h) 28)).alloc (.cells #[.int .i64 op, .int .i64 d, .int .i64 ka, .int .i64 kb, .int .i64 n] 24)).alloc (.cells zA 28)).alloc (.cells effZ 34))
  rw [← HW.out]
  go_wp2_with fail
  refine (refRight_h op d ka kb n true _ HR.out).mono ?_
  rintro e w1 ⟨rfl, hb1⟩
  have HX1 := Lib.hid (upH hb1 HX.out); have HI1 := Lib.hid (upH hb1 HI.out); have HZ1 := Lib.hid (upH hb1 HZ.out); have HY1 := Lib.hid (upH hb1 HY.out)
  have hbw1 : Below w.heap.size w w1 := (by repeat (first | (with_reducible exact Below.refl _ _) | (with_reducible refine bw_set ?_ ?_ _) | (with_reducible apply bw_alloc) | (with_reducible refine bw_tr ?_ (by with_reducible assumption)) | (with_reducible apply bw_drew) | omega))
  have hs1 : w.heap.size + 4 ≤ w1.heap.size := by have := hb1.size; omega
  clear i0 i1 i2 i3 i4 HX HI HZ HY HW hb0 hs0 hb1
  have ca := cell_in HX1.out (show (hA h)[ka]? = some (.int .i64 va) by rw [hA_r h h32 ka hka, HVA.out])
  have cb := cell_in HX1.out (show (hA h)[kb]? = some (.int .i64 vb) by rw [hA_r h h32 kb hkb, HVB.out])
  have c32 := cell_in HX1.out (hA_fields h h32).1
  have i0 := cell_in HI1.out (j := 0) (u := .int .i64 op) rfl
  have i2 := cell_in HI1.out (j := 2) (u := .int .i64 ka) rfl
  have i3 := cell_in HI1.out (j := 3) (u := .int .i64 kb) rfl
  have i4 := cell_in HI1.out (j := 4) (u := .int .i64 n) rfl
  go_upto_region 8 with (first | (go_at_call 38; (with_reducible refine (rwrap_any (h.pc + 4) _ P4.out).mono ?_); rintro e w' ⟨rfl, rfl⟩) | (go_at_call 38; (with_reducible refine (rwrap_any (h.pc + n) _ PN.out).mono ?_); rintro e w' ⟨rfl, rfl⟩))
  go_wp2_with fail
  refine (refRow_any op _).mono ?_
  obtain ⟨rw0, hrw⟩ : ∃ r, rowT op = r := ⟨_, rfl⟩
  rw [hrw]
  rw [hrw] at hfm
  obtain ⟨nm, fm, lo, mi, hi⟩ := rw0
  simp only at hfm
  clear hrw
  subst hfm
  have hfld : ∀ w : World, (Instr.field 54 (.agg #[.string nm, .int .u8 66, .int .i64 lo, .int .i64 mi, .int .i64 hi]) 1).run Try.prog w = .ok (.int .u8 66) w := fun w => by kernel_rfl
  rintro e w2 ⟨rfl, hb2⟩
  have HX2 := Lib.hid (upH hb2 HX1.out); have HI2 := Lib.hid (upH hb2 HI1.out); have HZ2 := Lib.hid (upH hb2 HZ1.out); have HY2 := Lib.hid (upH hb2 HY1.out)
  have hbw2 : Below w.heap.size w w2 := (by repeat (first | (with_reducible exact Below.refl _ _) | (with_reducible refine bw_set ?_ ?_ _) | (with_reducible apply bw_alloc) | (with_reducible refine bw_tr ?_ (by with_reducible assumption)) | (with_reducible apply bw_drew) | omega))
  have hs2 : w.heap.size + 4 ≤ w2.heap.size := by have := hb2.size; omega
  clear ca cb c32 i0 i2 i3 i4 hb2 HX1 HI1 HZ1 HY1 hbw1 hs1 w4 wn
  unfold rfV
  go_upto_region 12 with (fail)
  clear hfld
  change Code.wp _ _ _ _ (w2.alloc (.cells effZ 34))
  have N3 : Hid ((w2.alloc (.cells effZ 34)).heap[w2.heap.size]? = some (.cells effZ 34 (0, 0))) := Lib.hid (new_in w2 (.cells effZ 34))
  have hb3 : Below w2.heap.size w2 (w2.alloc (.cells effZ 34)) := newH w2 (.cells effZ 34)
  have hs3 : w2.heap.size < (w2.alloc (.cells effZ 34)).heap.size := lt_in N3.out
  obtain ⟨w3, hw3⟩ : ∃ w3 : World, w2.alloc (.cells effZ 34) = w3 := ⟨_, rfl⟩
  rw [hw3] at N3 hb3 hs3 ⊢
  have HX3 := Lib.hid (upH hb3 HX2.out); have HI3 := Lib.hid (upH hb3 HI2.out); have HZ3 := Lib.hid (upH hb3 HZ2.out); have HY3 := Lib.hid (upH hb3 HY2.out)
  have hbw3 : Below w.heap.size w w3 := bw_tr hbw2 hb3
  obtain ⟨pe, hpe⟩ : ∃ pe, w2.heap.size = pe := ⟨_, rfl⟩
  rw [hpe] at N3 hs2 hs3 ⊢
  clear hpe hw3 hb3 HX2 HI2 HZ2 HY2 hbw2
  have i0 := cell_in HI3.out (j := 0) (u := .int .i64 op) rfl
  have i1 := cell_in HI3.out (j := 1) (u := .int .i64 d) rfl
  have i4 := cell_in HI3.out (j := 4) (u := .int .i64 n) rfl
  go_upto_region 51 with (go_at_call 40; (with_reducible refine (rgoes_h op va vb false _ HOPR.out HA64.out HB64.out HJ.out).mono ?_); rintro e w' ⟨rfl, rfl⟩)
  clear i0 i1 i4 q1 q2 q3 q4 HI3
  have g32 := cell_in HX3.out (hA_fields h h32).1
  have f32 := frozen_in HX3.out 32
  have X7 : Hid ((w3.setCell ⟨w.heap.size, 32, none⟩ (.int .i64 (wrap32 (h.pc + 4)))).heap[w.heap.size]? = some (.cells (hA { h with pc := wrap32 (h.pc + 4) }) 28 (0, 0))) := Lib.hid (set_heap HX3.out 32 (.int .i64 (wrap32 (h.pc + 4))) _ (hA_pc h h32 (wrap32 (h.pc + 4))))
  have Z7 : Hid ((w3.setCell ⟨w.heap.size, 32, none⟩ (.int .i64 (wrap32 (h.pc + 4)))).heap[w.heap.size + 2]? = some (.cells zA 28 (0, 0))) := Lib.hid (heap_set_ne (by omega) HZ3.out)
  have Y7 : Hid ((w3.setCell ⟨w.heap.size, 32, none⟩ (.int .i64 (wrap32 (h.pc + 4)))).heap[w.heap.size + 3]? = some (.cells effZ 34 (0, 0))) := Lib.hid (heap_set_ne (by omega) HY3.out)
  have N7 : Hid ((w3.setCell ⟨w.heap.size, 32, none⟩ (.int .i64 (wrap32 (h.pc + 4)))).heap[pe]? = some (.cells #[.int .i64 0, .int .i64 0, .int .i64 0, .int .i64 0, .int .i64 0] 34 (0, 0))) := Lib.hid (heap_set_ne (by omega) N3.out)
  have B7 : Hid (Below w.heap.size w (w3.setCell ⟨w.heap.size, 32, none⟩ (.int .i64 (wrap32 (h.pc + 4))))) := Lib.hid (bw_set hbw3 (Nat.le_refl _) _)
  go_upto_region 52 with (fail)
  obtain ⟨w7, hw7⟩ : ∃ w7 : World, w3.setCell ⟨w.heap.size, 32, none⟩ (.int .i64 (wrap32 (h.pc + 4))) = w7 := ⟨_, rfl⟩
  rw [hw7] at X7 Z7 Y7 N7 B7 ⊢
  have hh7 : ({ h with pc := wrap32 (h.pc + 4) } : Ht) = h7 := HH7.out
  have hl7' : h7.r.length = 32 := by rw [← hh7]; exact h32
  rw [hh7] at X7
  have HL7 := Lib.hid hl7'
  clear hw7 hh7 hl7' g32 f32 HX3 HZ3 HY3 N3
  refine wp_region_up (fun w' => w'.heap[w.heap.size]? = some (.cells (hA h7) 28 (0, 0)) ∧ w'.heap[pe]? = some (.cells #[.int .i64 0, .int .i64 0, .int .i64 0, .int .i64 0, .int .i64 0] 34 (0, 0))) [true, true, false, false] (by kernel_rfl) (by kernel_rfl) (by kernel_rfl) (fun _ _ hh hu => ⟨upH hu hh.1, upH hu hh.2⟩) ⟨X7.out, N7.out⟩ ?ra ?rh ?rt
  case rh =>
    intro w0 h0
    have R0 : Hid (∀ w' : World, (∃ x : Wd w0, w' = x.val) → (loadVar 28 ⟨w.heap.size, 0, none⟩).run Try.prog w' = .ok (.agg (hA h7)) w') := by
      rintro w' ⟨x, rfl⟩
      exact run_loadVar_row _ _ 28 28 (hA h7) (0, 0) _ (bel_in x.bel (lt_in h0.1) h0.1) Try.underlying28 rfl (infoA (hA_size h7 HL7.out))
    have R1 : Hid (∀ w' : World, (∃ x : Wd w0, w' = x.val) → (loadVar 34 ⟨pe, 0, none⟩).run Try.prog w' = .ok (.agg #[.int .i64 0, .int .i64 0, .int .i64 0, .int .i64 0, .int .i64 0]) w') := by
      rintro w' ⟨x, rfl⟩
      exact run_loadVar_row _ _ 34 34 #[.int .i64 0, .int .i64 0, .int .i64 0, .int .i64 0, .int .i64 0] (0, 0) _ (bel_in x.bel (lt_in h0.2) h0.2) Try.underlying34 rfl (by kernel_rfl)
    clear h0
    simp only [pickM]
    go_big_quiet_want
    refine quiet_load_row 28 _ (w.heap.size) (hA h7) rfl rfl R0.out ?_
    simp only [Act.put, List.setIfInBounds_toArray, List.set_cons_succ, List.set_cons_zero]
    go_big_quiet_on
    go_big_quiet_want
    refine quiet_load_row 34 _ pe #[.int .i64 0, .int .i64 0, .int .i64 0, .int .i64 0, .int .i64 0] rfl rfl R1.out ?_
    simp only [Act.put, List.setIfInBounds_toArray, List.set_cons_succ, List.set_cons_zero]
    go_big_quiet_on
    refine wpQuiet_nil ?_
    rfl
  case rt => as_aux_lemma =>
    change wpAnyU _ _ _ _ _ 2 _ _ _
    refine anyU_one (i := 2) (by kernel_rfl) rfl ?_
    intro w8 hu8 hc8
    have hu8 := bw_undrew hu8
    have Z8 := Lib.hid (upH hu8 Z7.out); have Y8 := Lib.hid (upH hu8 Y7.out); have B8 := Lib.hid (bw_tr B7.out hu8); have D8 := Lib.hid hc8
    clear hu8 hc8 X7 Z7 Y7 N7
    go_wp2_with (refine wpList_store_row rfl 28 _ _ rfl (w.heap.size + 2) (hA h7) rfl rfl 28 zA Z8.out (infoA (hA_size h7 HL7.out)) (by rw [hA_size h7 HL7.out]; rfl) (hA_one h7) ?_)
    refine ⟨⟨row_ne (by omega) D8.out.1, row_ne (by omega) D8.out.2⟩, ?_⟩
    refine anyU_one (i := 3) (by kernel_rfl) rfl ?_
    intro w9 hu9 hc9
    have Z9 := Lib.hid (upH hu9 (setRow_heap _ _ _ _ _ _ Z8.out : (w8.setRow (w.heap.size + 2) (hA h7)).heap[w.heap.size + 2]? = some (.cells (hA h7) 28 (0, 0))))
    have Y9 := Lib.hid (upH hu9 (row_ne (cs := hA h7) (by omega) Y8.out))
    have B9 := Lib.hid (bw_tr (below_setRow B8.out (by omega) (hA h7)) hu9 : Below w.heap.size w w9)
    have D9 := Lib.hid hc9
    clear hu9 hc9 Z8 Y8 D8 B8
    go_wp2_with (refine wpList_store_row rfl 34 _ _ rfl (w.heap.size + 3) #[.int .i64 0, .int .i64 0, .int .i64 0, .int .i64 0, .int .i64 0] rfl rfl 34 effZ Y9.out (by kernel_rfl) rfl (by kernel_rfl) ?_)
    refine ⟨⟨row_ne (by omega) D9.out.1, row_ne (by omega) D9.out.2⟩, ?_⟩
    refine anyU_nil (by kernel_rfl) ?_
    intro w10 hu10 hc10
    have Z10 := Lib.hid (upH hu10 (row_ne (cs := #[.int .i64 0, .int .i64 0, .int .i64 0, .int .i64 0, .int .i64 0]) (by omega) Z9.out))
    have Y10 := Lib.hid (upH hu10 (setRow_heap _ _ _ _ _ _ Y9.out : (w9.setRow (w.heap.size + 3) #[.int .i64 0, .int .i64 0, .int .i64 0, .int .i64 0, .int .i64 0]).heap[w.heap.size + 3]? = some (.cells #[.int .i64 0, .int .i64 0, .int .i64 0, .int .i64 0, .int .i64 0] 34 (0, 0))))
    have B10 := Lib.hid (bw_tr (below_setRow B9.out (by omega) #[.int .i64 0, .int .i64 0, .int .i64 0, .int .i64 0, .int .i64 0]) hu10 : Below w.heap.size w w10)
    clear hu10 hc10 Z9 Y9 D9 B9
    go_wp2_with fail
    exact bodyPost_ret (v := .tuple #[.agg (hA h7), .agg #[.int .i64 0, .int .i64 0, .int .i64 0, .int .i64 0, .int .i64 0]]) (results_cells2 rfl _ _ (w.heap.size + 2) (w.heap.size + 3) 28 34 (hA h7) #[.int .i64 0, .int .i64 0, .int .i64 0, .int .i64 0, .int .i64 0] (0, 0) (0, 0) _ _ rfl rfl Z10.out Y10.out Try.underlying28 rfl (infoA (hA_size h7 HL7.out)) Try.underlying34 rfl (by kernel_rfl)) rfl ⟨rfl, B10.out⟩
set_option maxRecDepth 100000 in
set_option maxHeartbeats 8000000 in
theorem rstep_12 (h : Ht) (id d n : Int) (ka kb : Nat) (w : World) (f : Fine h) (hr : rightB ⟨12, d, ka, kb, n⟩ = true) (hka : ka < 32) (hkb : kb < 32) (hn : -1048576 ≤ n ∧ n ≤ 1048575) :
    Calls Try.prog 17 #[.agg (hA h), .int .i64 id, insV ⟨12, d, ka, kb, n⟩] w fun e w' => e = .returned (.tuple #[.agg (hA ({ h with pc := wrap32 (h.pc + 4) })), effV ⟨2, 0, wrap32 ((h.r.getD ka 0) + n), (h.r.getD kb 0), 0⟩]) ∧ Below w.heap.size w w' := by
  have h32 := f.len
  have P4 : Hid (I64 (h.pc + 4)) := Lib.hid (by have := f.pc.1.1; have := f.pc.1.2; constructor <;> omega)
  have PN : Hid (I64 (h.pc + n)) := Lib.hid (by have := f.pc.1.1; have := f.pc.1.2; constructor <;> omega)
  obtain ⟨va, hva⟩ : ∃ va, h.r.getD ka 0 = va := ⟨_, rfl⟩
  obtain ⟨vb, hvb⟩ : ∃ vb, h.r.getD kb 0 = vb := ⟨_, rfl⟩
  have IAI : Hid (I32 va) := Lib.hid (hva ▸ f.reg ka hka)
  have IBI : Hid (I32 vb) := Lib.hid (hvb ▸ f.reg kb hkb)
  have HVA := Lib.hid hva; have HVB := Lib.hid hvb
  try rw [hva]
  try rw [hvb]
  clear hva hvb
  have w4 : IntKind.i64.wrap (h.pc + 4) = h.pc + 4 := IntWalk.i64_in _ (by have := P4.out.1; have := P4.out.2; omega)
  have wn : IntKind.i64.wrap (h.pc + n) = h.pc + n := IntWalk.i64_in _ (by have := PN.out.1; have := PN.out.2; omega)
  obtain ⟨h7, hh7⟩ : ∃ h7 : Ht, ({ h with pc := wrap32 (h.pc + 4) } : Ht) = h7 := ⟨_, rfl⟩
  rw [hh7]
  have HH7 := Lib.hid hh7; clear hh7
  have hvn : I64 (va + n) := by have := IAI.out.1; have := IAI.out.2; constructor <;> omega
  have HVN := Lib.hid hvn
  have wvn : IntKind.i64.wrap (va + n) = va + n := IntWalk.i64_in _ (by have := hvn.1; have := hvn.2; omega)
  clear hvn
  have hfm : (rowT 12).form = 83 := by decide +kernel
  obtain ⟨w0, hw0, hx, hi, hz, hy, hb0, hs0⟩ := four_new w (.cells (hA h) 28) (.cells #[.int .i64 12, .int .i64 d, .int .i64 ka, .int .i64 kb, .int .i64 n] 24) (.cells zA 28) (.cells effZ 34)
  have i0 := cell_in hi (j := 0) (u := .int .i64 12) rfl
  have i1 := cell_in hi (j := 1) (u := .int .i64 d) rfl
  have i2 := cell_in hi (j := 2) (u := .int .i64 ka) rfl
  have i3 := cell_in hi (j := 3) (u := .int .i64 kb) rfl
  have i4 := cell_in hi (j := 4) (u := .int .i64 n) rfl
  have HW := Lib.hid hw0
  have HX := Lib.hid hx; have HI := Lib.hid hi; have HZ := Lib.hid hz; have HY := Lib.hid hy; have HR := Lib.hid hr; have FF := Lib.hid f; have HN := Lib.hid hn
  clear hx hi hz hy hw0 hr f hn
  unfold insV
  go_enter Try.func17, Try.ntmps17
  go_upto_region 1 with (fail)
  change Code.wp _ _ _ _ ((((w.alloc (.cells (hA h) 28)).alloc (.cells #[.int .i64 12, .int .i64 d, .int .i64 ka, .int .i64 kb, .int .i64 n] 24)).alloc (.cells zA 28)).alloc (.cells effZ 34))
  rw [← HW.out]
  go_wp2_with fail
  refine (refRight_h 12 d ka kb n true _ HR.out).mono ?_
  rintro e w1 ⟨rfl, hb1⟩
  have HX1 := Lib.hid (upH hb1 HX.out); have HI1 := Lib.hid (upH hb1 HI.out); have HZ1 := Lib.hid (upH hb1 HZ.out); have HY1 := Lib.hid (upH hb1 HY.out)
  have hbw1 : Below w.heap.size w w1 := (by repeat (first | (with_reducible exact Below.refl _ _) | (with_reducible refine bw_set ?_ ?_ _) | (with_reducible apply bw_alloc) | (with_reducible refine bw_tr ?_ (by with_reducible assumption)) | (with_reducible apply bw_drew) | omega))
  have hs1 : w.heap.size + 4 ≤ w1.heap.size := by have := hb1.size; omega
  clear i0 i1 i2 i3 i4 HX HI HZ HY HW hb0 hs0 hb1
  have ca := cell_in HX1.out (show (hA h)[ka]? = some (.int .i64 va) by rw [hA_r h h32 ka hka, HVA.out])
  have cb := cell_in HX1.out (show (hA h)[kb]? = some (.int .i64 vb) by rw [hA_r h h32 kb hkb, HVB.out])
  have c32 := cell_in HX1.out (hA_fields h h32).1
  have i0 := cell_in HI1.out (j := 0) (u := .int .i64 12) rfl
  have i2 := cell_in HI1.out (j := 2) (u := .int .i64 ka) rfl
  have i3 := cell_in HI1.out (j := 3) (u := .int .i64 kb) rfl
  have i4 := cell_in HI1.out (j := 4) (u := .int .i64 n) rfl
  go_upto_region 8 with (first | (go_at_call 38; (with_reducible refine (rwrap_any (h.pc + 4) _ P4.out).mono ?_); rintro e w' ⟨rfl, rfl⟩) | (go_at_call 38; (with_reducible refine (rwrap_any (h.pc + n) _ PN.out).mono ?_); rintro e w' ⟨rfl, rfl⟩))
  go_wp2_with fail
  refine (refRow_any 12 _).mono ?_
  obtain ⟨rw0, hrw⟩ : ∃ r, rowT 12 = r := ⟨_, rfl⟩
  rw [hrw]
  rw [hrw] at hfm
  obtain ⟨nm, fm, lo, mi, hi⟩ := rw0
  simp only at hfm
  clear hrw
  subst hfm
  have hfld : ∀ w : World, (Instr.field 54 (.agg #[.string nm, .int .u8 83, .int .i64 lo, .int .i64 mi, .int .i64 hi]) 1).run Try.prog w = .ok (.int .u8 83) w := fun w => by kernel_rfl
  rintro e w2 ⟨rfl, hb2⟩
  have HX2 := Lib.hid (upH hb2 HX1.out); have HI2 := Lib.hid (upH hb2 HI1.out); have HZ2 := Lib.hid (upH hb2 HZ1.out); have HY2 := Lib.hid (upH hb2 HY1.out)
  have hbw2 : Below w.heap.size w w2 := (by repeat (first | (with_reducible exact Below.refl _ _) | (with_reducible refine bw_set ?_ ?_ _) | (with_reducible apply bw_alloc) | (with_reducible refine bw_tr ?_ (by with_reducible assumption)) | (with_reducible apply bw_drew) | omega))
  have hs2 : w.heap.size + 4 ≤ w2.heap.size := by have := hb2.size; omega
  clear ca cb c32 i0 i2 i3 i4 hb2 HX1 HI1 HZ1 HY1 hbw1 hs1 w4 wn
  unfold rfV
  go_upto_region 12 with (fail)
  clear hfld
  change Code.wp _ _ _ _ (w2.alloc (.cells effZ 34))
  have N3 : Hid ((w2.alloc (.cells effZ 34)).heap[w2.heap.size]? = some (.cells effZ 34 (0, 0))) := Lib.hid (new_in w2 (.cells effZ 34))
  have hb3 : Below w2.heap.size w2 (w2.alloc (.cells effZ 34)) := newH w2 (.cells effZ 34)
  have hs3 : w2.heap.size < (w2.alloc (.cells effZ 34)).heap.size := lt_in N3.out
  obtain ⟨w3, hw3⟩ : ∃ w3 : World, w2.alloc (.cells effZ 34) = w3 := ⟨_, rfl⟩
  rw [hw3] at N3 hb3 hs3 ⊢
  have HX3 := Lib.hid (upH hb3 HX2.out); have HI3 := Lib.hid (upH hb3 HI2.out); have HZ3 := Lib.hid (upH hb3 HZ2.out); have HY3 := Lib.hid (upH hb3 HY2.out)
  have hbw3 : Below w.heap.size w w3 := bw_tr hbw2 hb3
  obtain ⟨pe, hpe⟩ : ∃ pe, w2.heap.size = pe := ⟨_, rfl⟩
  rw [hpe] at N3 hs2 hs3 ⊢
  clear hpe hw3 hb3 HX2 HI2 HZ2 HY2 hbw2
  have i0 := cell_in HI3.out (j := 0) (u := .int .i64 12) rfl
  have i1 := cell_in HI3.out (j := 1) (u := .int .i64 d) rfl
  have i4 := cell_in HI3.out (j := 4) (u := .int .i64 n) rfl
  go_upto_region 29 with (fail)
  go_upto_region 51 with (first | (refine wpList_store_row rfl 34 _ _ rfl pe #[.int .i64 2, .int .i64 0, .int .i64 (wrap32 (va + n)), .int .i64 vb, .int .i64 0] rfl rfl 34 effZ N3.out (by kernel_rfl) rfl (by kernel_rfl) ?_) | (go_at_call 38; (with_reducible refine (rwrap_any (va + n) _ HVN.out).mono ?_); rintro e w' ⟨rfl, rfl⟩))
  obtain ⟨w6, hw6⟩ : ∃ w6 : World, w3.setRow pe #[.int .i64 2, .int .i64 0, .int .i64 (wrap32 (va + n)), .int .i64 vb, .int .i64 0] = w6 := ⟨_, rfl⟩
  have HX6 : Hid (w6.heap[w.heap.size]? = some (.cells (hA h) 28 (0, 0))) := by rw [← hw6]; exact row_ne (by omega) HX3.out
  have HZ6 : Hid (w6.heap[w.heap.size + 2]? = some (.cells zA 28 (0, 0))) := by rw [← hw6]; exact row_ne (by omega) HZ3.out
  have HY6 : Hid (w6.heap[w.heap.size + 3]? = some (.cells effZ 34 (0, 0))) := by rw [← hw6]; exact row_ne (by omega) HY3.out
  have N6 : Hid (w6.heap[pe]? = some (.cells #[.int .i64 2, .int .i64 0, .int .i64 (wrap32 (va + n)), .int .i64 vb, .int .i64 0] 34 (0, 0))) := by rw [← hw6]; exact setRow_heap _ _ _ _ _ _ N3.out
  have bw6 : Below w.heap.size w w6 := by rw [← hw6]; exact below_setRow hbw3 (by omega) _
  rw [hw6]
  clear hw6 HX3 HZ3 HY3 N3 hbw3 HI3 i0 i1 i4
  have g32 := cell_in HX6.out (hA_fields h h32).1
  have f32 := frozen_in HX6.out 32
  have X7 : Hid ((w6.setCell ⟨w.heap.size, 32, none⟩ (.int .i64 (wrap32 (h.pc + 4)))).heap[w.heap.size]? = some (.cells (hA { h with pc := wrap32 (h.pc + 4) }) 28 (0, 0))) := Lib.hid (set_heap HX6.out 32 (.int .i64 (wrap32 (h.pc + 4))) _ (hA_pc h h32 (wrap32 (h.pc + 4))))
  have Z7 : Hid ((w6.setCell ⟨w.heap.size, 32, none⟩ (.int .i64 (wrap32 (h.pc + 4)))).heap[w.heap.size + 2]? = some (.cells zA 28 (0, 0))) := Lib.hid (heap_set_ne (by omega) HZ6.out)
  have Y7 : Hid ((w6.setCell ⟨w.heap.size, 32, none⟩ (.int .i64 (wrap32 (h.pc + 4)))).heap[w.heap.size + 3]? = some (.cells effZ 34 (0, 0))) := Lib.hid (heap_set_ne (by omega) HY6.out)
  have N7 : Hid ((w6.setCell ⟨w.heap.size, 32, none⟩ (.int .i64 (wrap32 (h.pc + 4)))).heap[pe]? = some (.cells #[.int .i64 2, .int .i64 0, .int .i64 (wrap32 (va + n)), .int .i64 vb, .int .i64 0] 34 (0, 0))) := Lib.hid (heap_set_ne (by omega) N6.out)
  have B7 : Hid (Below w.heap.size w (w6.setCell ⟨w.heap.size, 32, none⟩ (.int .i64 (wrap32 (h.pc + 4))))) := Lib.hid (bw_set bw6 (Nat.le_refl _) _)
  go_upto_region 52 with (fail)
  obtain ⟨w7, hw7⟩ : ∃ w7 : World, w6.setCell ⟨w.heap.size, 32, none⟩ (.int .i64 (wrap32 (h.pc + 4))) = w7 := ⟨_, rfl⟩
  rw [hw7] at X7 Z7 Y7 N7 B7 ⊢
  have hh7 : ({ h with pc := wrap32 (h.pc + 4) } : Ht) = h7 := HH7.out
  have hl7' : h7.r.length = 32 := by rw [← hh7]; exact h32
  rw [hh7] at X7
  have HL7 := Lib.hid hl7'
  clear hw7 hh7 hl7' g32 f32 HX6 HZ6 HY6 N6
  refine wp_region_up (fun w' => w'.heap[w.heap.size]? = some (.cells (hA h7) 28 (0, 0)) ∧ w'.heap[pe]? = some (.cells #[.int .i64 2, .int .i64 0, .int .i64 (wrap32 (va + n)), .int .i64 vb, .int .i64 0] 34 (0, 0))) [true, true, false, false] (by kernel_rfl) (by kernel_rfl) (by kernel_rfl) (fun _ _ hh hu => ⟨upH hu hh.1, upH hu hh.2⟩) ⟨X7.out, N7.out⟩ ?ra ?rh ?rt
  case rh =>
    intro w0 h0
    have R0 : Hid (∀ w' : World, (∃ x : Wd w0, w' = x.val) → (loadVar 28 ⟨w.heap.size, 0, none⟩).run Try.prog w' = .ok (.agg (hA h7)) w') := by
      rintro w' ⟨x, rfl⟩
      exact run_loadVar_row _ _ 28 28 (hA h7) (0, 0) _ (bel_in x.bel (lt_in h0.1) h0.1) Try.underlying28 rfl (infoA (hA_size h7 HL7.out))
    have R1 : Hid (∀ w' : World, (∃ x : Wd w0, w' = x.val) → (loadVar 34 ⟨pe, 0, none⟩).run Try.prog w' = .ok (.agg #[.int .i64 2, .int .i64 0, .int .i64 (wrap32 (va + n)), .int .i64 vb, .int .i64 0]) w') := by
      rintro w' ⟨x, rfl⟩
      exact run_loadVar_row _ _ 34 34 #[.int .i64 2, .int .i64 0, .int .i64 (wrap32 (va + n)), .int .i64 vb, .int .i64 0] (0, 0) _ (bel_in x.bel (lt_in h0.2) h0.2) Try.underlying34 rfl (by kernel_rfl)
    clear h0
    simp only [pickM]
    go_big_quiet_want
    refine quiet_load_row 28 _ (w.heap.size) (hA h7) rfl rfl R0.out ?_
    simp only [Act.put, List.setIfInBounds_toArray, List.set_cons_succ, List.set_cons_zero]
    go_big_quiet_on
    go_big_quiet_want
    refine quiet_load_row 34 _ pe #[.int .i64 2, .int .i64 0, .int .i64 (wrap32 (va + n)), .int .i64 vb, .int .i64 0] rfl rfl R1.out ?_
    simp only [Act.put, List.setIfInBounds_toArray, List.set_cons_succ, List.set_cons_zero]
    go_big_quiet_on
    refine wpQuiet_nil ?_
    rfl
  case rt => as_aux_lemma =>
    change wpAnyU _ _ _ _ _ 2 _ _ _
    refine anyU_one (i := 2) (by kernel_rfl) rfl ?_
    intro w8 hu8 hc8
    have hu8 := bw_undrew hu8
    have Z8 := Lib.hid (upH hu8 Z7.out); have Y8 := Lib.hid (upH hu8 Y7.out); have B8 := Lib.hid (bw_tr B7.out hu8); have D8 := Lib.hid hc8
    clear hu8 hc8 X7 Z7 Y7 N7
    go_wp2_with (refine wpList_store_row rfl 28 _ _ rfl (w.heap.size + 2) (hA h7) rfl rfl 28 zA Z8.out (infoA (hA_size h7 HL7.out)) (by rw [hA_size h7 HL7.out]; rfl) (hA_one h7) ?_)
    refine ⟨⟨row_ne (by omega) D8.out.1, row_ne (by omega) D8.out.2⟩, ?_⟩
    refine anyU_one (i := 3) (by kernel_rfl) rfl ?_
    intro w9 hu9 hc9
    have Z9 := Lib.hid (upH hu9 (setRow_heap _ _ _ _ _ _ Z8.out : (w8.setRow (w.heap.size + 2) (hA h7)).heap[w.heap.size + 2]? = some (.cells (hA h7) 28 (0, 0))))
    have Y9 := Lib.hid (upH hu9 (row_ne (cs := hA h7) (by omega) Y8.out))
    have B9 := Lib.hid (bw_tr (below_setRow B8.out (by omega) (hA h7)) hu9 : Below w.heap.size w w9)
    have D9 := Lib.hid hc9
    clear hu9 hc9 Z8 Y8 D8 B8
    go_wp2_with (refine wpList_store_row rfl 34 _ _ rfl (w.heap.size + 3) #[.int .i64 2, .int .i64 0, .int .i64 (wrap32 (va + n)), .int .i64 vb, .int .i64 0] rfl rfl 34 effZ Y9.out (by kernel_rfl) rfl (by kernel_rfl) ?_)
    refine ⟨⟨row_ne (by omega) D9.out.1, row_ne (by omega) D9.out.2⟩, ?_⟩
    refine anyU_nil (by kernel_rfl) ?_
    intro w10 hu10 hc10
    have Z10 := Lib.hid (upH hu10 (row_ne (cs := #[.int .i64 2, .int .i64 0, .int .i64 (wrap32 (va + n)), .int .i64 vb, .int .i64 0]) (by omega) Z9.out))
    have Y10 := Lib.hid (upH hu10 (setRow_heap _ _ _ _ _ _ Y9.out : (w9.setRow (w.heap.size + 3) #[.int .i64 2, .int .i64 0, .int .i64 (wrap32 (va + n)), .int .i64 vb, .int .i64 0]).heap[w.heap.size + 3]? = some (.cells #[.int .i64 2, .int .i64 0, .int .i64 (wrap32 (va + n)), .int .i64 vb, .int .i64 0] 34 (0, 0))))
    have B10 := Lib.hid (bw_tr (below_setRow B9.out (by omega) #[.int .i64 2, .int .i64 0, .int .i64 (wrap32 (va + n)), .int .i64 vb, .int .i64 0]) hu10 : Below w.heap.size w w10)
    clear hu10 hc10 Z9 Y9 D9 B9
    go_wp2_with fail
    exact bodyPost_ret (v := .tuple #[.agg (hA h7), .agg #[.int .i64 2, .int .i64 0, .int .i64 (wrap32 (va + n)), .int .i64 vb, .int .i64 0]]) (results_cells2 rfl _ _ (w.heap.size + 2) (w.heap.size + 3) 28 34 (hA h7) #[.int .i64 2, .int .i64 0, .int .i64 (wrap32 (va + n)), .int .i64 vb, .int .i64 0] (0, 0) (0, 0) _ _ rfl rfl Z10.out Y10.out Try.underlying28 rfl (infoA (hA_size h7 HL7.out)) Try.underlying34 rfl (by kernel_rfl)) rfl ⟨rfl, B10.out⟩
set_option maxRecDepth 100000 in
set_option maxHeartbeats 8000000 in
theorem rstep_39 (h : Ht) (id d n : Int) (ka kb : Nat) (w : World) (f : Fine h) (hr : rightB ⟨39, d, ka, kb, n⟩ = true) (hka : ka < 32) (hkb : kb < 32) (hn : -1048576 ≤ n ∧ n ≤ 1048575) :
    Calls Try.prog 17 #[.agg (hA h), .int .i64 id, insV ⟨39, d, ka, kb, n⟩] w fun e w' => e = .returned (.tuple #[.agg (hA ({ h with pc := wrap32 (h.pc + 4) })), effV ⟨6, 0, 0, 0, 0⟩]) ∧ Below w.heap.size w w' := by
  have h32 := f.len
  have P4 : Hid (I64 (h.pc + 4)) := Lib.hid (by have := f.pc.1.1; have := f.pc.1.2; constructor <;> omega)
  have PN : Hid (I64 (h.pc + n)) := Lib.hid (by have := f.pc.1.1; have := f.pc.1.2; constructor <;> omega)
  obtain ⟨va, hva⟩ : ∃ va, h.r.getD ka 0 = va := ⟨_, rfl⟩
  obtain ⟨vb, hvb⟩ : ∃ vb, h.r.getD kb 0 = vb := ⟨_, rfl⟩
  have IAI : Hid (I32 va) := Lib.hid (hva ▸ f.reg ka hka)
  have IBI : Hid (I32 vb) := Lib.hid (hvb ▸ f.reg kb hkb)
  have HVA := Lib.hid hva; have HVB := Lib.hid hvb
  try rw [hva]
  try rw [hvb]
  clear hva hvb
  have w4 : IntKind.i64.wrap (h.pc + 4) = h.pc + 4 := IntWalk.i64_in _ (by have := P4.out.1; have := P4.out.2; omega)
  have wn : IntKind.i64.wrap (h.pc + n) = h.pc + n := IntWalk.i64_in _ (by have := PN.out.1; have := PN.out.2; omega)
  obtain ⟨h7, hh7⟩ : ∃ h7 : Ht, ({ h with pc := wrap32 (h.pc + 4) } : Ht) = h7 := ⟨_, rfl⟩
  rw [hh7]
  have HH7 := Lib.hid hh7; clear hh7
  have hfm : (rowT 39).form = 70 := by decide +kernel
  obtain ⟨w0, hw0, hx, hi, hz, hy, hb0, hs0⟩ := four_new w (.cells (hA h) 28) (.cells #[.int .i64 39, .int .i64 d, .int .i64 ka, .int .i64 kb, .int .i64 n] 24) (.cells zA 28) (.cells effZ 34)
  have i0 := cell_in hi (j := 0) (u := .int .i64 39) rfl
  have i1 := cell_in hi (j := 1) (u := .int .i64 d) rfl
  have i2 := cell_in hi (j := 2) (u := .int .i64 ka) rfl
  have i3 := cell_in hi (j := 3) (u := .int .i64 kb) rfl
  have i4 := cell_in hi (j := 4) (u := .int .i64 n) rfl
  have HW := Lib.hid hw0
  have HX := Lib.hid hx; have HI := Lib.hid hi; have HZ := Lib.hid hz; have HY := Lib.hid hy; have HR := Lib.hid hr; have FF := Lib.hid f; have HN := Lib.hid hn
  clear hx hi hz hy hw0 hr f hn
  unfold insV
  go_enter Try.func17, Try.ntmps17
  go_upto_region 1 with (fail)
  change Code.wp _ _ _ _ ((((w.alloc (.cells (hA h) 28)).alloc (.cells #[.int .i64 39, .int .i64 d, .int .i64 ka, .int .i64 kb, .int .i64 n] 24)).alloc (.cells zA 28)).alloc (.cells effZ 34))
  rw [← HW.out]
  go_wp2_with fail
  refine (refRight_h 39 d ka kb n true _ HR.out).mono ?_
  rintro e w1 ⟨rfl, hb1⟩
  have HX1 := Lib.hid (upH hb1 HX.out); have HI1 := Lib.hid (upH hb1 HI.out); have HZ1 := Lib.hid (upH hb1 HZ.out); have HY1 := Lib.hid (upH hb1 HY.out)
  have hbw1 : Below w.heap.size w w1 := (by repeat (first | (with_reducible exact Below.refl _ _) | (with_reducible refine bw_set ?_ ?_ _) | (with_reducible apply bw_alloc) | (with_reducible refine bw_tr ?_ (by with_reducible assumption)) | (with_reducible apply bw_drew) | omega))
  have hs1 : w.heap.size + 4 ≤ w1.heap.size := by have := hb1.size; omega
  clear i0 i1 i2 i3 i4 HX HI HZ HY HW hb0 hs0 hb1
  have ca := cell_in HX1.out (show (hA h)[ka]? = some (.int .i64 va) by rw [hA_r h h32 ka hka, HVA.out])
  have cb := cell_in HX1.out (show (hA h)[kb]? = some (.int .i64 vb) by rw [hA_r h h32 kb hkb, HVB.out])
  have c32 := cell_in HX1.out (hA_fields h h32).1
  have i0 := cell_in HI1.out (j := 0) (u := .int .i64 39) rfl
  have i2 := cell_in HI1.out (j := 2) (u := .int .i64 ka) rfl
  have i3 := cell_in HI1.out (j := 3) (u := .int .i64 kb) rfl
  have i4 := cell_in HI1.out (j := 4) (u := .int .i64 n) rfl
  go_upto_region 8 with (first | (go_at_call 38; (with_reducible refine (rwrap_any (h.pc + 4) _ P4.out).mono ?_); rintro e w' ⟨rfl, rfl⟩) | (go_at_call 38; (with_reducible refine (rwrap_any (h.pc + n) _ PN.out).mono ?_); rintro e w' ⟨rfl, rfl⟩))
  go_wp2_with fail
  refine (refRow_any 39 _).mono ?_
  obtain ⟨rw0, hrw⟩ : ∃ r, rowT 39 = r := ⟨_, rfl⟩
  rw [hrw]
  rw [hrw] at hfm
  obtain ⟨nm, fm, lo, mi, hi⟩ := rw0
  simp only at hfm
  clear hrw
  subst hfm
  have hfld : ∀ w : World, (Instr.field 54 (.agg #[.string nm, .int .u8 70, .int .i64 lo, .int .i64 mi, .int .i64 hi]) 1).run Try.prog w = .ok (.int .u8 70) w := fun w => by kernel_rfl
  rintro e w2 ⟨rfl, hb2⟩
  have HX2 := Lib.hid (upH hb2 HX1.out); have HI2 := Lib.hid (upH hb2 HI1.out); have HZ2 := Lib.hid (upH hb2 HZ1.out); have HY2 := Lib.hid (upH hb2 HY1.out)
  have hbw2 : Below w.heap.size w w2 := (by repeat (first | (with_reducible exact Below.refl _ _) | (with_reducible refine bw_set ?_ ?_ _) | (with_reducible apply bw_alloc) | (with_reducible refine bw_tr ?_ (by with_reducible assumption)) | (with_reducible apply bw_drew) | omega))
  have hs2 : w.heap.size + 4 ≤ w2.heap.size := by have := hb2.size; omega
  clear ca cb c32 i0 i2 i3 i4 hb2 HX1 HI1 HZ1 HY1 hbw1 hs1 w4 wn
  unfold rfV
  go_upto_region 12 with (fail)
  clear hfld
  change Code.wp _ _ _ _ (w2.alloc (.cells effZ 34))
  have N3 : Hid ((w2.alloc (.cells effZ 34)).heap[w2.heap.size]? = some (.cells effZ 34 (0, 0))) := Lib.hid (new_in w2 (.cells effZ 34))
  have hb3 : Below w2.heap.size w2 (w2.alloc (.cells effZ 34)) := newH w2 (.cells effZ 34)
  have hs3 : w2.heap.size < (w2.alloc (.cells effZ 34)).heap.size := lt_in N3.out
  obtain ⟨w3, hw3⟩ : ∃ w3 : World, w2.alloc (.cells effZ 34) = w3 := ⟨_, rfl⟩
  rw [hw3] at N3 hb3 hs3 ⊢
  have HX3 := Lib.hid (upH hb3 HX2.out); have HI3 := Lib.hid (upH hb3 HI2.out); have HZ3 := Lib.hid (upH hb3 HZ2.out); have HY3 := Lib.hid (upH hb3 HY2.out)
  have hbw3 : Below w.heap.size w w3 := bw_tr hbw2 hb3
  obtain ⟨pe, hpe⟩ : ∃ pe, w2.heap.size = pe := ⟨_, rfl⟩
  rw [hpe] at N3 hs2 hs3 ⊢
  clear hpe hw3 hb3 HX2 HI2 HZ2 HY2 hbw2
  have i0 := cell_in HI3.out (j := 0) (u := .int .i64 39) rfl
  have i1 := cell_in HI3.out (j := 1) (u := .int .i64 d) rfl
  have i4 := cell_in HI3.out (j := 4) (u := .int .i64 n) rfl
  go_upto_region 31 with (fail)
  go_upto_region 51 with (first | (refine wpList_store_row rfl 34 _ _ rfl pe #[.int .i64 6, .int .i64 0, .int .i64 0, .int .i64 0, .int .i64 0] rfl rfl 34 effZ N3.out (by kernel_rfl) rfl (by kernel_rfl) ?_))
  obtain ⟨w6, hw6⟩ : ∃ w6 : World, w3.setRow pe #[.int .i64 6, .int .i64 0, .int .i64 0, .int .i64 0, .int .i64 0] = w6 := ⟨_, rfl⟩
  have HX6 : Hid (w6.heap[w.heap.size]? = some (.cells (hA h) 28 (0, 0))) := by rw [← hw6]; exact row_ne (by omega) HX3.out
  have HZ6 : Hid (w6.heap[w.heap.size + 2]? = some (.cells zA 28 (0, 0))) := by rw [← hw6]; exact row_ne (by omega) HZ3.out
  have HY6 : Hid (w6.heap[w.heap.size + 3]? = some (.cells effZ 34 (0, 0))) := by rw [← hw6]; exact row_ne (by omega) HY3.out
  have N6 : Hid (w6.heap[pe]? = some (.cells #[.int .i64 6, .int .i64 0, .int .i64 0, .int .i64 0, .int .i64 0] 34 (0, 0))) := by rw [← hw6]; exact setRow_heap _ _ _ _ _ _ N3.out
  have bw6 : Below w.heap.size w w6 := by rw [← hw6]; exact below_setRow hbw3 (by omega) _
  rw [hw6]
  clear hw6 HX3 HZ3 HY3 N3 hbw3 HI3 i0 i1 i4
  have g32 := cell_in HX6.out (hA_fields h h32).1
  have f32 := frozen_in HX6.out 32
  have X7 : Hid ((w6.setCell ⟨w.heap.size, 32, none⟩ (.int .i64 (wrap32 (h.pc + 4)))).heap[w.heap.size]? = some (.cells (hA { h with pc := wrap32 (h.pc + 4) }) 28 (0, 0))) := Lib.hid (set_heap HX6.out 32 (.int .i64 (wrap32 (h.pc + 4))) _ (hA_pc h h32 (wrap32 (h.pc + 4))))
  have Z7 : Hid ((w6.setCell ⟨w.heap.size, 32, none⟩ (.int .i64 (wrap32 (h.pc + 4)))).heap[w.heap.size + 2]? = some (.cells zA 28 (0, 0))) := Lib.hid (heap_set_ne (by omega) HZ6.out)
  have Y7 : Hid ((w6.setCell ⟨w.heap.size, 32, none⟩ (.int .i64 (wrap32 (h.pc + 4)))).heap[w.heap.size + 3]? = some (.cells effZ 34 (0, 0))) := Lib.hid (heap_set_ne (by omega) HY6.out)
  have N7 : Hid ((w6.setCell ⟨w.heap.size, 32, none⟩ (.int .i64 (wrap32 (h.pc + 4)))).heap[pe]? = some (.cells #[.int .i64 6, .int .i64 0, .int .i64 0, .int .i64 0, .int .i64 0] 34 (0, 0))) := Lib.hid (heap_set_ne (by omega) N6.out)
  have B7 : Hid (Below w.heap.size w (w6.setCell ⟨w.heap.size, 32, none⟩ (.int .i64 (wrap32 (h.pc + 4))))) := Lib.hid (bw_set bw6 (Nat.le_refl _) _)
  go_upto_region 52 with (fail)
  obtain ⟨w7, hw7⟩ : ∃ w7 : World, w6.setCell ⟨w.heap.size, 32, none⟩ (.int .i64 (wrap32 (h.pc + 4))) = w7 := ⟨_, rfl⟩
  rw [hw7] at X7 Z7 Y7 N7 B7 ⊢
  have hh7 : ({ h with pc := wrap32 (h.pc + 4) } : Ht) = h7 := HH7.out
  have hl7' : h7.r.length = 32 := by rw [← hh7]; exact h32
  rw [hh7] at X7
  have HL7 := Lib.hid hl7'
  clear hw7 hh7 hl7' g32 f32 HX6 HZ6 HY6 N6
  refine wp_region_up (fun w' => w'.heap[w.heap.size]? = some (.cells (hA h7) 28 (0, 0)) ∧ w'.heap[pe]? = some (.cells #[.int .i64 6, .int .i64 0, .int .i64 0, .int .i64 0, .int .i64 0] 34 (0, 0))) [true, true, false, false] (by kernel_rfl) (by kernel_rfl) (by kernel_rfl) (fun _ _ hh hu => ⟨upH hu hh.1, upH hu hh.2⟩) ⟨X7.out, N7.out⟩ ?ra ?rh ?rt
  case rh =>
    intro w0 h0
    have R0 : Hid (∀ w' : World, (∃ x : Wd w0, w' = x.val) → (loadVar 28 ⟨w.heap.size, 0, none⟩).run Try.prog w' = .ok (.agg (hA h7)) w') := by
      rintro w' ⟨x, rfl⟩
      exact run_loadVar_row _ _ 28 28 (hA h7) (0, 0) _ (bel_in x.bel (lt_in h0.1) h0.1) Try.underlying28 rfl (infoA (hA_size h7 HL7.out))
    have R1 : Hid (∀ w' : World, (∃ x : Wd w0, w' = x.val) → (loadVar 34 ⟨pe, 0, none⟩).run Try.prog w' = .ok (.agg #[.int .i64 6, .int .i64 0, .int .i64 0, .int .i64 0, .int .i64 0]) w') := by
      rintro w' ⟨x, rfl⟩
      exact run_loadVar_row _ _ 34 34 #[.int .i64 6, .int .i64 0, .int .i64 0, .int .i64 0, .int .i64 0] (0, 0) _ (bel_in x.bel (lt_in h0.2) h0.2) Try.underlying34 rfl (by kernel_rfl)
    clear h0
    simp only [pickM]
    go_big_quiet_want
    refine quiet_load_row 28 _ (w.heap.size) (hA h7) rfl rfl R0.out ?_
    simp only [Act.put, List.setIfInBounds_toArray, List.set_cons_succ, List.set_cons_zero]
    go_big_quiet_on
    go_big_quiet_want
    refine quiet_load_row 34 _ pe #[.int .i64 6, .int .i64 0, .int .i64 0, .int .i64 0, .int .i64 0] rfl rfl R1.out ?_
    simp only [Act.put, List.setIfInBounds_toArray, List.set_cons_succ, List.set_cons_zero]
    go_big_quiet_on
    refine wpQuiet_nil ?_
    rfl
  case rt => as_aux_lemma =>
    change wpAnyU _ _ _ _ _ 2 _ _ _
    refine anyU_one (i := 2) (by kernel_rfl) rfl ?_
    intro w8 hu8 hc8
    have hu8 := bw_undrew hu8
    have Z8 := Lib.hid (upH hu8 Z7.out); have Y8 := Lib.hid (upH hu8 Y7.out); have B8 := Lib.hid (bw_tr B7.out hu8); have D8 := Lib.hid hc8
    clear hu8 hc8 X7 Z7 Y7 N7
    go_wp2_with (refine wpList_store_row rfl 28 _ _ rfl (w.heap.size + 2) (hA h7) rfl rfl 28 zA Z8.out (infoA (hA_size h7 HL7.out)) (by rw [hA_size h7 HL7.out]; rfl) (hA_one h7) ?_)
    refine ⟨⟨row_ne (by omega) D8.out.1, row_ne (by omega) D8.out.2⟩, ?_⟩
    refine anyU_one (i := 3) (by kernel_rfl) rfl ?_
    intro w9 hu9 hc9
    have Z9 := Lib.hid (upH hu9 (setRow_heap _ _ _ _ _ _ Z8.out : (w8.setRow (w.heap.size + 2) (hA h7)).heap[w.heap.size + 2]? = some (.cells (hA h7) 28 (0, 0))))
    have Y9 := Lib.hid (upH hu9 (row_ne (cs := hA h7) (by omega) Y8.out))
    have B9 := Lib.hid (bw_tr (below_setRow B8.out (by omega) (hA h7)) hu9 : Below w.heap.size w w9)
    have D9 := Lib.hid hc9
    clear hu9 hc9 Z8 Y8 D8 B8
    go_wp2_with (refine wpList_store_row rfl 34 _ _ rfl (w.heap.size + 3) #[.int .i64 6, .int .i64 0, .int .i64 0, .int .i64 0, .int .i64 0] rfl rfl 34 effZ Y9.out (by kernel_rfl) rfl (by kernel_rfl) ?_)
    refine ⟨⟨row_ne (by omega) D9.out.1, row_ne (by omega) D9.out.2⟩, ?_⟩
    refine anyU_nil (by kernel_rfl) ?_
    intro w10 hu10 hc10
    have Z10 := Lib.hid (upH hu10 (row_ne (cs := #[.int .i64 6, .int .i64 0, .int .i64 0, .int .i64 0, .int .i64 0]) (by omega) Z9.out))
    have Y10 := Lib.hid (upH hu10 (setRow_heap _ _ _ _ _ _ Y9.out : (w9.setRow (w.heap.size + 3) #[.int .i64 6, .int .i64 0, .int .i64 0, .int .i64 0, .int .i64 0]).heap[w.heap.size + 3]? = some (.cells #[.int .i64 6, .int .i64 0, .int .i64 0, .int .i64 0, .int .i64 0] 34 (0, 0))))
    have B10 := Lib.hid (bw_tr (below_setRow B9.out (by omega) #[.int .i64 6, .int .i64 0, .int .i64 0, .int .i64 0, .int .i64 0]) hu10 : Below w.heap.size w w10)
    clear hu10 hc10 Z9 Y9 D9 B9
    go_wp2_with fail
    exact bodyPost_ret (v := .tuple #[.agg (hA h7), .agg #[.int .i64 6, .int .i64 0, .int .i64 0, .int .i64 0, .int .i64 0]]) (results_cells2 rfl _ _ (w.heap.size + 2) (w.heap.size + 3) 28 34 (hA h7) #[.int .i64 6, .int .i64 0, .int .i64 0, .int .i64 0, .int .i64 0] (0, 0) (0, 0) _ _ rfl rfl Z10.out Y10.out Try.underlying28 rfl (infoA (hA_size h7 HL7.out)) Try.underlying34 rfl (by kernel_rfl)) rfl ⟨rfl, B10.out⟩
set_option maxRecDepth 100000 in
set_option maxHeartbeats 8000000 in
theorem rstep_46 (h : Ht) (id d n : Int) (ka kb : Nat) (w : World) (f : Fine h) (hr : rightB ⟨46, d, ka, kb, n⟩ = true) (hka : ka < 32) (hkb : kb < 32) (hn : -1048576 ≤ n ∧ n ≤ 1048575) :
    Calls Try.prog 17 #[.agg (hA h), .int .i64 id, insV ⟨46, d, ka, kb, n⟩] w fun e w' => e = .returned (.tuple #[.agg (hA ({ h with pc := wrap32 (h.pc + 4) })), effV ⟨3, d, (h.r.getD ka 0), 0, 0⟩]) ∧ Below w.heap.size w w' := by
  have h32 := f.len
  have P4 : Hid (I64 (h.pc + 4)) := Lib.hid (by have := f.pc.1.1; have := f.pc.1.2; constructor <;> omega)
  have PN : Hid (I64 (h.pc + n)) := Lib.hid (by have := f.pc.1.1; have := f.pc.1.2; constructor <;> omega)
  obtain ⟨va, hva⟩ : ∃ va, h.r.getD ka 0 = va := ⟨_, rfl⟩
  obtain ⟨vb, hvb⟩ : ∃ vb, h.r.getD kb 0 = vb := ⟨_, rfl⟩
  have IAI : Hid (I32 va) := Lib.hid (hva ▸ f.reg ka hka)
  have IBI : Hid (I32 vb) := Lib.hid (hvb ▸ f.reg kb hkb)
  have HVA := Lib.hid hva; have HVB := Lib.hid hvb
  try rw [hva]
  try rw [hvb]
  clear hva hvb
  have w4 : IntKind.i64.wrap (h.pc + 4) = h.pc + 4 := IntWalk.i64_in _ (by have := P4.out.1; have := P4.out.2; omega)
  have wn : IntKind.i64.wrap (h.pc + n) = h.pc + n := IntWalk.i64_in _ (by have := PN.out.1; have := PN.out.2; omega)
  obtain ⟨h7, hh7⟩ : ∃ h7 : Ht, ({ h with pc := wrap32 (h.pc + 4) } : Ht) = h7 := ⟨_, rfl⟩
  rw [hh7]
  have HH7 := Lib.hid hh7; clear hh7
  have hfm : (rowT 46).form = 76 := by decide +kernel
  obtain ⟨w0, hw0, hx, hi, hz, hy, hb0, hs0⟩ := four_new w (.cells (hA h) 28) (.cells #[.int .i64 46, .int .i64 d, .int .i64 ka, .int .i64 kb, .int .i64 n] 24) (.cells zA 28) (.cells effZ 34)
  have i0 := cell_in hi (j := 0) (u := .int .i64 46) rfl
  have i1 := cell_in hi (j := 1) (u := .int .i64 d) rfl
  have i2 := cell_in hi (j := 2) (u := .int .i64 ka) rfl
  have i3 := cell_in hi (j := 3) (u := .int .i64 kb) rfl
  have i4 := cell_in hi (j := 4) (u := .int .i64 n) rfl
  have HW := Lib.hid hw0
  have HX := Lib.hid hx; have HI := Lib.hid hi; have HZ := Lib.hid hz; have HY := Lib.hid hy; have HR := Lib.hid hr; have FF := Lib.hid f; have HN := Lib.hid hn
  clear hx hi hz hy hw0 hr f hn
  unfold insV
  go_enter Try.func17, Try.ntmps17
  go_upto_region 1 with (fail)
  change Code.wp _ _ _ _ ((((w.alloc (.cells (hA h) 28)).alloc (.cells #[.int .i64 46, .int .i64 d, .int .i64 ka, .int .i64 kb, .int .i64 n] 24)).alloc (.cells zA 28)).alloc (.cells effZ 34))
  rw [← HW.out]
  go_wp2_with fail
  refine (refRight_h 46 d ka kb n true _ HR.out).mono ?_
  rintro e w1 ⟨rfl, hb1⟩
  have HX1 := Lib.hid (upH hb1 HX.out); have HI1 := Lib.hid (upH hb1 HI.out); have HZ1 := Lib.hid (upH hb1 HZ.out); have HY1 := Lib.hid (upH hb1 HY.out)
  have hbw1 : Below w.heap.size w w1 := (by repeat (first | (with_reducible exact Below.refl _ _) | (with_reducible refine bw_set ?_ ?_ _) | (with_reducible apply bw_alloc) | (with_reducible refine bw_tr ?_ (by with_reducible assumption)) | (with_reducible apply bw_drew) | omega))
  have hs1 : w.heap.size + 4 ≤ w1.heap.size := by have := hb1.size; omega
  clear i0 i1 i2 i3 i4 HX HI HZ HY HW hb0 hs0 hb1
  have ca := cell_in HX1.out (show (hA h)[ka]? = some (.int .i64 va) by rw [hA_r h h32 ka hka, HVA.out])
  have cb := cell_in HX1.out (show (hA h)[kb]? = some (.int .i64 vb) by rw [hA_r h h32 kb hkb, HVB.out])
  have c32 := cell_in HX1.out (hA_fields h h32).1
  have i0 := cell_in HI1.out (j := 0) (u := .int .i64 46) rfl
  have i2 := cell_in HI1.out (j := 2) (u := .int .i64 ka) rfl
  have i3 := cell_in HI1.out (j := 3) (u := .int .i64 kb) rfl
  have i4 := cell_in HI1.out (j := 4) (u := .int .i64 n) rfl
  go_upto_region 8 with (first | (go_at_call 38; (with_reducible refine (rwrap_any (h.pc + 4) _ P4.out).mono ?_); rintro e w' ⟨rfl, rfl⟩) | (go_at_call 38; (with_reducible refine (rwrap_any (h.pc + n) _ PN.out).mono ?_); rintro e w' ⟨rfl, rfl⟩))
  go_wp2_with fail
  refine (refRow_any 46 _).mono ?_
  obtain ⟨rw0, hrw⟩ : ∃ r, rowT 46 = r := ⟨_, rfl⟩
  rw [hrw]
  rw [hrw] at hfm
  obtain ⟨nm, fm, lo, mi, hi⟩ := rw0
  simp only at hfm
  clear hrw
  subst hfm
  have hfld : ∀ w : World, (Instr.field 54 (.agg #[.string nm, .int .u8 76, .int .i64 lo, .int .i64 mi, .int .i64 hi]) 1).run Try.prog w = .ok (.int .u8 76) w := fun w => by kernel_rfl
  rintro e w2 ⟨rfl, hb2⟩
  have HX2 := Lib.hid (upH hb2 HX1.out); have HI2 := Lib.hid (upH hb2 HI1.out); have HZ2 := Lib.hid (upH hb2 HZ1.out); have HY2 := Lib.hid (upH hb2 HY1.out)
  have hbw2 : Below w.heap.size w w2 := (by repeat (first | (with_reducible exact Below.refl _ _) | (with_reducible refine bw_set ?_ ?_ _) | (with_reducible apply bw_alloc) | (with_reducible refine bw_tr ?_ (by with_reducible assumption)) | (with_reducible apply bw_drew) | omega))
  have hs2 : w.heap.size + 4 ≤ w2.heap.size := by have := hb2.size; omega
  clear ca cb c32 i0 i2 i3 i4 hb2 HX1 HI1 HZ1 HY1 hbw1 hs1 w4 wn
  unfold rfV
  go_upto_region 12 with (fail)
  clear hfld
  change Code.wp _ _ _ _ (w2.alloc (.cells effZ 34))
  have N3 : Hid ((w2.alloc (.cells effZ 34)).heap[w2.heap.size]? = some (.cells effZ 34 (0, 0))) := Lib.hid (new_in w2 (.cells effZ 34))
  have hb3 : Below w2.heap.size w2 (w2.alloc (.cells effZ 34)) := newH w2 (.cells effZ 34)
  have hs3 : w2.heap.size < (w2.alloc (.cells effZ 34)).heap.size := lt_in N3.out
  obtain ⟨w3, hw3⟩ : ∃ w3 : World, w2.alloc (.cells effZ 34) = w3 := ⟨_, rfl⟩
  rw [hw3] at N3 hb3 hs3 ⊢
  have HX3 := Lib.hid (upH hb3 HX2.out); have HI3 := Lib.hid (upH hb3 HI2.out); have HZ3 := Lib.hid (upH hb3 HZ2.out); have HY3 := Lib.hid (upH hb3 HY2.out)
  have hbw3 : Below w.heap.size w w3 := bw_tr hbw2 hb3
  obtain ⟨pe, hpe⟩ : ∃ pe, w2.heap.size = pe := ⟨_, rfl⟩
  rw [hpe] at N3 hs2 hs3 ⊢
  clear hpe hw3 hb3 HX2 HI2 HZ2 HY2 hbw2
  have i0 := cell_in HI3.out (j := 0) (u := .int .i64 46) rfl
  have i1 := cell_in HI3.out (j := 1) (u := .int .i64 d) rfl
  have i4 := cell_in HI3.out (j := 4) (u := .int .i64 n) rfl
  go_upto_region 33 with (fail)
  go_upto_region 51 with (first | (refine wpList_store_row rfl 34 _ _ rfl pe #[.int .i64 3, .int .i64 d, .int .i64 va, .int .i64 0, .int .i64 0] rfl rfl 34 effZ N3.out (by kernel_rfl) rfl (by kernel_rfl) ?_))
  obtain ⟨w6, hw6⟩ : ∃ w6 : World, w3.setRow pe #[.int .i64 3, .int .i64 d, .int .i64 va, .int .i64 0, .int .i64 0] = w6 := ⟨_, rfl⟩
  have HX6 : Hid (w6.heap[w.heap.size]? = some (.cells (hA h) 28 (0, 0))) := by rw [← hw6]; exact row_ne (by omega) HX3.out
  have HZ6 : Hid (w6.heap[w.heap.size + 2]? = some (.cells zA 28 (0, 0))) := by rw [← hw6]; exact row_ne (by omega) HZ3.out
  have HY6 : Hid (w6.heap[w.heap.size + 3]? = some (.cells effZ 34 (0, 0))) := by rw [← hw6]; exact row_ne (by omega) HY3.out
  have N6 : Hid (w6.heap[pe]? = some (.cells #[.int .i64 3, .int .i64 d, .int .i64 va, .int .i64 0, .int .i64 0] 34 (0, 0))) := by rw [← hw6]; exact setRow_heap _ _ _ _ _ _ N3.out
  have bw6 : Below w.heap.size w w6 := by rw [← hw6]; exact below_setRow hbw3 (by omega) _
  rw [hw6]
  clear hw6 HX3 HZ3 HY3 N3 hbw3 HI3 i0 i1 i4
  have g32 := cell_in HX6.out (hA_fields h h32).1
  have f32 := frozen_in HX6.out 32
  have X7 : Hid ((w6.setCell ⟨w.heap.size, 32, none⟩ (.int .i64 (wrap32 (h.pc + 4)))).heap[w.heap.size]? = some (.cells (hA { h with pc := wrap32 (h.pc + 4) }) 28 (0, 0))) := Lib.hid (set_heap HX6.out 32 (.int .i64 (wrap32 (h.pc + 4))) _ (hA_pc h h32 (wrap32 (h.pc + 4))))
  have Z7 : Hid ((w6.setCell ⟨w.heap.size, 32, none⟩ (.int .i64 (wrap32 (h.pc + 4)))).heap[w.heap.size + 2]? = some (.cells zA 28 (0, 0))) := Lib.hid (heap_set_ne (by omega) HZ6.out)
  have Y7 : Hid ((w6.setCell ⟨w.heap.size, 32, none⟩ (.int .i64 (wrap32 (h.pc + 4)))).heap[w.heap.size + 3]? = some (.cells effZ 34 (0, 0))) := Lib.hid (heap_set_ne (by omega) HY6.out)
  have N7 : Hid ((w6.setCell ⟨w.heap.size, 32, none⟩ (.int .i64 (wrap32 (h.pc + 4)))).heap[pe]? = some (.cells #[.int .i64 3, .int .i64 d, .int .i64 va, .int .i64 0, .int .i64 0] 34 (0, 0))) := Lib.hid (heap_set_ne (by omega) N6.out)
  have B7 : Hid (Below w.heap.size w (w6.setCell ⟨w.heap.size, 32, none⟩ (.int .i64 (wrap32 (h.pc + 4))))) := Lib.hid (bw_set bw6 (Nat.le_refl _) _)
  go_upto_region 52 with (fail)
  obtain ⟨w7, hw7⟩ : ∃ w7 : World, w6.setCell ⟨w.heap.size, 32, none⟩ (.int .i64 (wrap32 (h.pc + 4))) = w7 := ⟨_, rfl⟩
  rw [hw7] at X7 Z7 Y7 N7 B7 ⊢
  have hh7 : ({ h with pc := wrap32 (h.pc + 4) } : Ht) = h7 := HH7.out
  have hl7' : h7.r.length = 32 := by rw [← hh7]; exact h32
  rw [hh7] at X7
  have HL7 := Lib.hid hl7'
  clear hw7 hh7 hl7' g32 f32 HX6 HZ6 HY6 N6
  refine wp_region_up (fun w' => w'.heap[w.heap.size]? = some (.cells (hA h7) 28 (0, 0)) ∧ w'.heap[pe]? = some (.cells #[.int .i64 3, .int .i64 d, .int .i64 va, .int .i64 0, .int .i64 0] 34 (0, 0))) [true, true, false, false] (by kernel_rfl) (by kernel_rfl) (by kernel_rfl) (fun _ _ hh hu => ⟨upH hu hh.1, upH hu hh.2⟩) ⟨X7.out, N7.out⟩ ?ra ?rh ?rt
  case rh =>
    intro w0 h0
    have R0 : Hid (∀ w' : World, (∃ x : Wd w0, w' = x.val) → (loadVar 28 ⟨w.heap.size, 0, none⟩).run Try.prog w' = .ok (.agg (hA h7)) w') := by
      rintro w' ⟨x, rfl⟩
      exact run_loadVar_row _ _ 28 28 (hA h7) (0, 0) _ (bel_in x.bel (lt_in h0.1) h0.1) Try.underlying28 rfl (infoA (hA_size h7 HL7.out))
    have R1 : Hid (∀ w' : World, (∃ x : Wd w0, w' = x.val) → (loadVar 34 ⟨pe, 0, none⟩).run Try.prog w' = .ok (.agg #[.int .i64 3, .int .i64 d, .int .i64 va, .int .i64 0, .int .i64 0]) w') := by
      rintro w' ⟨x, rfl⟩
      exact run_loadVar_row _ _ 34 34 #[.int .i64 3, .int .i64 d, .int .i64 va, .int .i64 0, .int .i64 0] (0, 0) _ (bel_in x.bel (lt_in h0.2) h0.2) Try.underlying34 rfl (by kernel_rfl)
    clear h0
    simp only [pickM]
    go_big_quiet_want
    refine quiet_load_row 28 _ (w.heap.size) (hA h7) rfl rfl R0.out ?_
    simp only [Act.put, List.setIfInBounds_toArray, List.set_cons_succ, List.set_cons_zero]
    go_big_quiet_on
    go_big_quiet_want
    refine quiet_load_row 34 _ pe #[.int .i64 3, .int .i64 d, .int .i64 va, .int .i64 0, .int .i64 0] rfl rfl R1.out ?_
    simp only [Act.put, List.setIfInBounds_toArray, List.set_cons_succ, List.set_cons_zero]
    go_big_quiet_on
    refine wpQuiet_nil ?_
    rfl
  case rt => as_aux_lemma =>
    change wpAnyU _ _ _ _ _ 2 _ _ _
    refine anyU_one (i := 2) (by kernel_rfl) rfl ?_
    intro w8 hu8 hc8
    have hu8 := bw_undrew hu8
    have Z8 := Lib.hid (upH hu8 Z7.out); have Y8 := Lib.hid (upH hu8 Y7.out); have B8 := Lib.hid (bw_tr B7.out hu8); have D8 := Lib.hid hc8
    clear hu8 hc8 X7 Z7 Y7 N7
    go_wp2_with (refine wpList_store_row rfl 28 _ _ rfl (w.heap.size + 2) (hA h7) rfl rfl 28 zA Z8.out (infoA (hA_size h7 HL7.out)) (by rw [hA_size h7 HL7.out]; rfl) (hA_one h7) ?_)
    refine ⟨⟨row_ne (by omega) D8.out.1, row_ne (by omega) D8.out.2⟩, ?_⟩
    refine anyU_one (i := 3) (by kernel_rfl) rfl ?_
    intro w9 hu9 hc9
    have Z9 := Lib.hid (upH hu9 (setRow_heap _ _ _ _ _ _ Z8.out : (w8.setRow (w.heap.size + 2) (hA h7)).heap[w.heap.size + 2]? = some (.cells (hA h7) 28 (0, 0))))
    have Y9 := Lib.hid (upH hu9 (row_ne (cs := hA h7) (by omega) Y8.out))
    have B9 := Lib.hid (bw_tr (below_setRow B8.out (by omega) (hA h7)) hu9 : Below w.heap.size w w9)
    have D9 := Lib.hid hc9
    clear hu9 hc9 Z8 Y8 D8 B8
    go_wp2_with (refine wpList_store_row rfl 34 _ _ rfl (w.heap.size + 3) #[.int .i64 3, .int .i64 d, .int .i64 va, .int .i64 0, .int .i64 0] rfl rfl 34 effZ Y9.out (by kernel_rfl) rfl (by kernel_rfl) ?_)
    refine ⟨⟨row_ne (by omega) D9.out.1, row_ne (by omega) D9.out.2⟩, ?_⟩
    refine anyU_nil (by kernel_rfl) ?_
    intro w10 hu10 hc10
    have Z10 := Lib.hid (upH hu10 (row_ne (cs := #[.int .i64 3, .int .i64 d, .int .i64 va, .int .i64 0, .int .i64 0]) (by omega) Z9.out))
    have Y10 := Lib.hid (upH hu10 (setRow_heap _ _ _ _ _ _ Y9.out : (w9.setRow (w.heap.size + 3) #[.int .i64 3, .int .i64 d, .int .i64 va, .int .i64 0, .int .i64 0]).heap[w.heap.size + 3]? = some (.cells #[.int .i64 3, .int .i64 d, .int .i64 va, .int .i64 0, .int .i64 0] 34 (0, 0))))
    have B10 := Lib.hid (bw_tr (below_setRow B9.out (by omega) #[.int .i64 3, .int .i64 d, .int .i64 va, .int .i64 0, .int .i64 0]) hu10 : Below w.heap.size w w10)
    clear hu10 hc10 Z9 Y9 D9 B9
    go_wp2_with fail
    exact bodyPost_ret (v := .tuple #[.agg (hA h7), .agg #[.int .i64 3, .int .i64 d, .int .i64 va, .int .i64 0, .int .i64 0]]) (results_cells2 rfl _ _ (w.heap.size + 2) (w.heap.size + 3) 28 34 (hA h7) #[.int .i64 3, .int .i64 d, .int .i64 va, .int .i64 0, .int .i64 0] (0, 0) (0, 0) _ _ rfl rfl Z10.out Y10.out Try.underlying28 rfl (infoA (hA_size h7 HL7.out)) Try.underlying34 rfl (by kernel_rfl)) rfl ⟨rfl, B10.out⟩
set_option maxRecDepth 100000 in
set_option maxHeartbeats 8000000 in
theorem rstep_47 (h : Ht) (id d n : Int) (ka kb : Nat) (w : World) (f : Fine h) (hr : rightB ⟨47, d, ka, kb, n⟩ = true) (hka : ka < 32) (hkb : kb < 32) (hn : -1048576 ≤ n ∧ n ≤ 1048575) :
    Calls Try.prog 17 #[.agg (hA h), .int .i64 id, insV ⟨47, d, ka, kb, n⟩] w fun e w' => e = .returned (.tuple #[.agg (hA ({ h with pc := wrap32 (h.pc + 4) })), effV ⟨4, d, (h.r.getD ka 0), (h.r.getD kb 0), 0⟩]) ∧ Below w.heap.size w w' := by
  have h32 := f.len
  have P4 : Hid (I64 (h.pc + 4)) := Lib.hid (by have := f.pc.1.1; have := f.pc.1.2; constructor <;> omega)
  have PN : Hid (I64 (h.pc + n)) := Lib.hid (by have := f.pc.1.1; have := f.pc.1.2; constructor <;> omega)
  obtain ⟨va, hva⟩ : ∃ va, h.r.getD ka 0 = va := ⟨_, rfl⟩
  obtain ⟨vb, hvb⟩ : ∃ vb, h.r.getD kb 0 = vb := ⟨_, rfl⟩
  have IAI : Hid (I32 va) := Lib.hid (hva ▸ f.reg ka hka)
  have IBI : Hid (I32 vb) := Lib.hid (hvb ▸ f.reg kb hkb)
  have HVA := Lib.hid hva; have HVB := Lib.hid hvb
  try rw [hva]
  try rw [hvb]
  clear hva hvb
  have w4 : IntKind.i64.wrap (h.pc + 4) = h.pc + 4 := IntWalk.i64_in _ (by have := P4.out.1; have := P4.out.2; omega)
  have wn : IntKind.i64.wrap (h.pc + n) = h.pc + n := IntWalk.i64_in _ (by have := PN.out.1; have := PN.out.2; omega)
  obtain ⟨h7, hh7⟩ : ∃ h7 : Ht, ({ h with pc := wrap32 (h.pc + 4) } : Ht) = h7 := ⟨_, rfl⟩
  rw [hh7]
  have HH7 := Lib.hid hh7; clear hh7
  have hfm : (rowT 47).form = 65 := by decide +kernel
  obtain ⟨w0, hw0, hx, hi, hz, hy, hb0, hs0⟩ := four_new w (.cells (hA h) 28) (.cells #[.int .i64 47, .int .i64 d, .int .i64 ka, .int .i64 kb, .int .i64 n] 24) (.cells zA 28) (.cells effZ 34)
  have i0 := cell_in hi (j := 0) (u := .int .i64 47) rfl
  have i1 := cell_in hi (j := 1) (u := .int .i64 d) rfl
  have i2 := cell_in hi (j := 2) (u := .int .i64 ka) rfl
  have i3 := cell_in hi (j := 3) (u := .int .i64 kb) rfl
  have i4 := cell_in hi (j := 4) (u := .int .i64 n) rfl
  have HW := Lib.hid hw0
  have HX := Lib.hid hx; have HI := Lib.hid hi; have HZ := Lib.hid hz; have HY := Lib.hid hy; have HR := Lib.hid hr; have FF := Lib.hid f; have HN := Lib.hid hn
  clear hx hi hz hy hw0 hr f hn
  unfold insV
  go_enter Try.func17, Try.ntmps17
  go_upto_region 1 with (fail)
  change Code.wp _ _ _ _ ((((w.alloc (.cells (hA h) 28)).alloc (.cells #[.int .i64 47, .int .i64 d, .int .i64 ka, .int .i64 kb, .int .i64 n] 24)).alloc (.cells zA 28)).alloc (.cells effZ 34))
  rw [← HW.out]
  go_wp2_with fail
  refine (refRight_h 47 d ka kb n true _ HR.out).mono ?_
  rintro e w1 ⟨rfl, hb1⟩
  have HX1 := Lib.hid (upH hb1 HX.out); have HI1 := Lib.hid (upH hb1 HI.out); have HZ1 := Lib.hid (upH hb1 HZ.out); have HY1 := Lib.hid (upH hb1 HY.out)
  have hbw1 : Below w.heap.size w w1 := (by repeat (first | (with_reducible exact Below.refl _ _) | (with_reducible refine bw_set ?_ ?_ _) | (with_reducible apply bw_alloc) | (with_reducible refine bw_tr ?_ (by with_reducible assumption)) | (with_reducible apply bw_drew) | omega))
  have hs1 : w.heap.size + 4 ≤ w1.heap.size := by have := hb1.size; omega
  clear i0 i1 i2 i3 i4 HX HI HZ HY HW hb0 hs0 hb1
  have ca := cell_in HX1.out (show (hA h)[ka]? = some (.int .i64 va) by rw [hA_r h h32 ka hka, HVA.out])
  have cb := cell_in HX1.out (show (hA h)[kb]? = some (.int .i64 vb) by rw [hA_r h h32 kb hkb, HVB.out])
  have c32 := cell_in HX1.out (hA_fields h h32).1
  have i0 := cell_in HI1.out (j := 0) (u := .int .i64 47) rfl
  have i2 := cell_in HI1.out (j := 2) (u := .int .i64 ka) rfl
  have i3 := cell_in HI1.out (j := 3) (u := .int .i64 kb) rfl
  have i4 := cell_in HI1.out (j := 4) (u := .int .i64 n) rfl
  go_upto_region 8 with (first | (go_at_call 38; (with_reducible refine (rwrap_any (h.pc + 4) _ P4.out).mono ?_); rintro e w' ⟨rfl, rfl⟩) | (go_at_call 38; (with_reducible refine (rwrap_any (h.pc + n) _ PN.out).mono ?_); rintro e w' ⟨rfl, rfl⟩))
  go_wp2_with fail
  refine (refRow_any 47 _).mono ?_
  obtain ⟨rw0, hrw⟩ : ∃ r, rowT 47 = r := ⟨_, rfl⟩
  rw [hrw]
  rw [hrw] at hfm
  obtain ⟨nm, fm, lo, mi, hi⟩ := rw0
  simp only at hfm
  clear hrw
  subst hfm
  have hfld : ∀ w : World, (Instr.field 54 (.agg #[.string nm, .int .u8 65, .int .i64 lo, .int .i64 mi, .int .i64 hi]) 1).run Try.prog w = .ok (.int .u8 65) w := fun w => by kernel_rfl
  rintro e w2 ⟨rfl, hb2⟩
  have HX2 := Lib.hid (upH hb2 HX1.out); have HI2 := Lib.hid (upH hb2 HI1.out); have HZ2 := Lib.hid (upH hb2 HZ1.out); have HY2 := Lib.hid (upH hb2 HY1.out)
  have hbw2 : Below w.heap.size w w2 := (by repeat (first | (with_reducible exact Below.refl _ _) | (with_reducible refine bw_set ?_ ?_ _) | (with_reducible apply bw_alloc) | (with_reducible refine bw_tr ?_ (by with_reducible assumption)) | (with_reducible apply bw_drew) | omega))
  have hs2 : w.heap.size + 4 ≤ w2.heap.size := by have := hb2.size; omega
  clear ca cb c32 i0 i2 i3 i4 hb2 HX1 HI1 HZ1 HY1 hbw1 hs1 w4 wn
  unfold rfV
  go_upto_region 12 with (fail)
  clear hfld
  change Code.wp _ _ _ _ (w2.alloc (.cells effZ 34))
  have N3 : Hid ((w2.alloc (.cells effZ 34)).heap[w2.heap.size]? = some (.cells effZ 34 (0, 0))) := Lib.hid (new_in w2 (.cells effZ 34))
  have hb3 : Below w2.heap.size w2 (w2.alloc (.cells effZ 34)) := newH w2 (.cells effZ 34)
  have hs3 : w2.heap.size < (w2.alloc (.cells effZ 34)).heap.size := lt_in N3.out
  obtain ⟨w3, hw3⟩ : ∃ w3 : World, w2.alloc (.cells effZ 34) = w3 := ⟨_, rfl⟩
  rw [hw3] at N3 hb3 hs3 ⊢
  have HX3 := Lib.hid (upH hb3 HX2.out); have HI3 := Lib.hid (upH hb3 HI2.out); have HZ3 := Lib.hid (upH hb3 HZ2.out); have HY3 := Lib.hid (upH hb3 HY2.out)
  have hbw3 : Below w.heap.size w w3 := bw_tr hbw2 hb3
  obtain ⟨pe, hpe⟩ : ∃ pe, w2.heap.size = pe := ⟨_, rfl⟩
  rw [hpe] at N3 hs2 hs3 ⊢
  clear hpe hw3 hb3 HX2 HI2 HZ2 HY2 hbw2
  have i0 := cell_in HI3.out (j := 0) (u := .int .i64 47) rfl
  have i1 := cell_in HI3.out (j := 1) (u := .int .i64 d) rfl
  have i4 := cell_in HI3.out (j := 4) (u := .int .i64 n) rfl
  go_upto_region 35 with (fail)
  go_upto_region 51 with (first | (refine wpList_store_row rfl 34 _ _ rfl pe #[.int .i64 4, .int .i64 d, .int .i64 va, .int .i64 vb, .int .i64 0] rfl rfl 34 effZ N3.out (by kernel_rfl) rfl (by kernel_rfl) ?_))
  obtain ⟨w6, hw6⟩ : ∃ w6 : World, w3.setRow pe #[.int .i64 4, .int .i64 d, .int .i64 va, .int .i64 vb, .int .i64 0] = w6 := ⟨_, rfl⟩
  have HX6 : Hid (w6.heap[w.heap.size]? = some (.cells (hA h) 28 (0, 0))) := by rw [← hw6]; exact row_ne (by omega) HX3.out
  have HZ6 : Hid (w6.heap[w.heap.size + 2]? = some (.cells zA 28 (0, 0))) := by rw [← hw6]; exact row_ne (by omega) HZ3.out
  have HY6 : Hid (w6.heap[w.heap.size + 3]? = some (.cells effZ 34 (0, 0))) := by rw [← hw6]; exact row_ne (by omega) HY3.out
  have N6 : Hid (w6.heap[pe]? = some (.cells #[.int .i64 4, .int .i64 d, .int .i64 va, .int .i64 vb, .int .i64 0] 34 (0, 0))) := by rw [← hw6]; exact setRow_heap _ _ _ _ _ _ N3.out
  have bw6 : Below w.heap.size w w6 := by rw [← hw6]; exact below_setRow hbw3 (by omega) _
  rw [hw6]
  clear hw6 HX3 HZ3 HY3 N3 hbw3 HI3 i0 i1 i4
  have g32 := cell_in HX6.out (hA_fields h h32).1
  have f32 := frozen_in HX6.out 32
  have X7 : Hid ((w6.setCell ⟨w.heap.size, 32, none⟩ (.int .i64 (wrap32 (h.pc + 4)))).heap[w.heap.size]? = some (.cells (hA { h with pc := wrap32 (h.pc + 4) }) 28 (0, 0))) := Lib.hid (set_heap HX6.out 32 (.int .i64 (wrap32 (h.pc + 4))) _ (hA_pc h h32 (wrap32 (h.pc + 4))))
  have Z7 : Hid ((w6.setCell ⟨w.heap.size, 32, none⟩ (.int .i64 (wrap32 (h.pc + 4)))).heap[w.heap.size + 2]? = some (.cells zA 28 (0, 0))) := Lib.hid (heap_set_ne (by omega) HZ6.out)
  have Y7 : Hid ((w6.setCell ⟨w.heap.size, 32, none⟩ (.int .i64 (wrap32 (h.pc + 4)))).heap[w.heap.size + 3]? = some (.cells effZ 34 (0, 0))) := Lib.hid (heap_set_ne (by omega) HY6.out)
  have N7 : Hid ((w6.setCell ⟨w.heap.size, 32, none⟩ (.int .i64 (wrap32 (h.pc + 4)))).heap[pe]? = some (.cells #[.int .i64 4, .int .i64 d, .int .i64 va, .int .i64 vb, .int .i64 0] 34 (0, 0))) := Lib.hid (heap_set_ne (by omega) N6.out)
  have B7 : Hid (Below w.heap.size w (w6.setCell ⟨w.heap.size, 32, none⟩ (.int .i64 (wrap32 (h.pc + 4))))) := Lib.hid (bw_set bw6 (Nat.le_refl _) _)
  go_upto_region 52 with (fail)
  obtain ⟨w7, hw7⟩ : ∃ w7 : World, w6.setCell ⟨w.heap.size, 32, none⟩ (.int .i64 (wrap32 (h.pc + 4))) = w7 := ⟨_, rfl⟩
  rw [hw7] at X7 Z7 Y7 N7 B7 ⊢
  have hh7 : ({ h with pc := wrap32 (h.pc + 4) } : Ht) = h7 := HH7.out
  have hl7' : h7.r.length = 32 := by rw [← hh7]; exact h32
  rw [hh7] at X7
  have HL7 := Lib.hid hl7'
  clear hw7 hh7 hl7' g32 f32 HX6 HZ6 HY6 N6
  refine wp_region_up (fun w' => w'.heap[w.heap.size]? = some (.cells (hA h7) 28 (0, 0)) ∧ w'.heap[pe]? = some (.cells #[.int .i64 4, .int .i64 d, .int .i64 va, .int .i64 vb, .int .i64 0] 34 (0, 0))) [true, true, false, false] (by kernel_rfl) (by kernel_rfl) (by kernel_rfl) (fun _ _ hh hu => ⟨upH hu hh.1, upH hu hh.2⟩) ⟨X7.out, N7.out⟩ ?ra ?rh ?rt
  case rh =>
    intro w0 h0
    have R0 : Hid (∀ w' : World, (∃ x : Wd w0, w' = x.val) → (loadVar 28 ⟨w.heap.size, 0, none⟩).run Try.prog w' = .ok (.agg (hA h7)) w') := by
      rintro w' ⟨x, rfl⟩
      exact run_loadVar_row _ _ 28 28 (hA h7) (0, 0) _ (bel_in x.bel (lt_in h0.1) h0.1) Try.underlying28 rfl (infoA (hA_size h7 HL7.out))
    have R1 : Hid (∀ w' : World, (∃ x : Wd w0, w' = x.val) → (loadVar 34 ⟨pe, 0, none⟩).run Try.prog w' = .ok (.agg #[.int .i64 4, .int .i64 d, .int .i64 va, .int .i64 vb, .int .i64 0]) w') := by
      rintro w' ⟨x, rfl⟩
      exact run_loadVar_row _ _ 34 34 #[.int .i64 4, .int .i64 d, .int .i64 va, .int .i64 vb, .int .i64 0] (0, 0) _ (bel_in x.bel (lt_in h0.2) h0.2) Try.underlying34 rfl (by kernel_rfl)
    clear h0
    simp only [pickM]
    go_big_quiet_want
    refine quiet_load_row 28 _ (w.heap.size) (hA h7) rfl rfl R0.out ?_
    simp only [Act.put, List.setIfInBounds_toArray, List.set_cons_succ, List.set_cons_zero]
    go_big_quiet_on
    go_big_quiet_want
    refine quiet_load_row 34 _ pe #[.int .i64 4, .int .i64 d, .int .i64 va, .int .i64 vb, .int .i64 0] rfl rfl R1.out ?_
    simp only [Act.put, List.setIfInBounds_toArray, List.set_cons_succ, List.set_cons_zero]
    go_big_quiet_on
    refine wpQuiet_nil ?_
    rfl
  case rt => as_aux_lemma =>
    change wpAnyU _ _ _ _ _ 2 _ _ _
    refine anyU_one (i := 2) (by kernel_rfl) rfl ?_
    intro w8 hu8 hc8
    have hu8 := bw_undrew hu8
    have Z8 := Lib.hid (upH hu8 Z7.out); have Y8 := Lib.hid (upH hu8 Y7.out); have B8 := Lib.hid (bw_tr B7.out hu8); have D8 := Lib.hid hc8
    clear hu8 hc8 X7 Z7 Y7 N7
    go_wp2_with (refine wpList_store_row rfl 28 _ _ rfl (w.heap.size + 2) (hA h7) rfl rfl 28 zA Z8.out (infoA (hA_size h7 HL7.out)) (by rw [hA_size h7 HL7.out]; rfl) (hA_one h7) ?_)
    refine ⟨⟨row_ne (by omega) D8.out.1, row_ne (by omega) D8.out.2⟩, ?_⟩
    refine anyU_one (i := 3) (by kernel_rfl) rfl ?_
    intro w9 hu9 hc9
    have Z9 := Lib.hid (upH hu9 (setRow_heap _ _ _ _ _ _ Z8.out : (w8.setRow (w.heap.size + 2) (hA h7)).heap[w.heap.size + 2]? = some (.cells (hA h7) 28 (0, 0))))
    have Y9 := Lib.hid (upH hu9 (row_ne (cs := hA h7) (by omega) Y8.out))
    have B9 := Lib.hid (bw_tr (below_setRow B8.out (by omega) (hA h7)) hu9 : Below w.heap.size w w9)
    have D9 := Lib.hid hc9
    clear hu9 hc9 Z8 Y8 D8 B8
    go_wp2_with (refine wpList_store_row rfl 34 _ _ rfl (w.heap.size + 3) #[.int .i64 4, .int .i64 d, .int .i64 va, .int .i64 vb, .int .i64 0] rfl rfl 34 effZ Y9.out (by kernel_rfl) rfl (by kernel_rfl) ?_)
    refine ⟨⟨row_ne (by omega) D9.out.1, row_ne (by omega) D9.out.2⟩, ?_⟩
    refine anyU_nil (by kernel_rfl) ?_
    intro w10 hu10 hc10
    have Z10 := Lib.hid (upH hu10 (row_ne (cs := #[.int .i64 4, .int .i64 d, .int .i64 va, .int .i64 vb, .int .i64 0]) (by omega) Z9.out))
    have Y10 := Lib.hid (upH hu10 (setRow_heap _ _ _ _ _ _ Y9.out : (w9.setRow (w.heap.size + 3) #[.int .i64 4, .int .i64 d, .int .i64 va, .int .i64 vb, .int .i64 0]).heap[w.heap.size + 3]? = some (.cells #[.int .i64 4, .int .i64 d, .int .i64 va, .int .i64 vb, .int .i64 0] 34 (0, 0))))
    have B10 := Lib.hid (bw_tr (below_setRow B9.out (by omega) #[.int .i64 4, .int .i64 d, .int .i64 va, .int .i64 vb, .int .i64 0]) hu10 : Below w.heap.size w w10)
    clear hu10 hc10 Z9 Y9 D9 B9
    go_wp2_with fail
    exact bodyPost_ret (v := .tuple #[.agg (hA h7), .agg #[.int .i64 4, .int .i64 d, .int .i64 va, .int .i64 vb, .int .i64 0]]) (results_cells2 rfl _ _ (w.heap.size + 2) (w.heap.size + 3) 28 34 (hA h7) #[.int .i64 4, .int .i64 d, .int .i64 va, .int .i64 vb, .int .i64 0] (0, 0) (0, 0) _ _ rfl rfl Z10.out Y10.out Try.underlying28 rfl (infoA (hA_size h7 HL7.out)) Try.underlying34 rfl (by kernel_rfl)) rfl ⟨rfl, B10.out⟩
set_option maxRecDepth 100000 in
set_option maxHeartbeats 8000000 in
theorem rstep_48 (h : Ht) (id d n : Int) (ka kb : Nat) (w : World) (f : Fine h) (hr : rightB ⟨48, d, ka, kb, n⟩ = true) (hka : ka < 32) (hkb : kb < 32) (hn : -1048576 ≤ n ∧ n ≤ 1048575) :
    Calls Try.prog 17 #[.agg (hA h), .int .i64 id, insV ⟨48, d, ka, kb, n⟩] w fun e w' => e = .returned (.tuple #[.agg (hA ({ h with pc := wrap32 (h.pc + 4) })), effV ⟨5, d, (h.r.getD ka 0), (h.r.getD kb 0), 0⟩]) ∧ Below w.heap.size w w' := by
  have h32 := f.len
  have P4 : Hid (I64 (h.pc + 4)) := Lib.hid (by have := f.pc.1.1; have := f.pc.1.2; constructor <;> omega)
  have PN : Hid (I64 (h.pc + n)) := Lib.hid (by have := f.pc.1.1; have := f.pc.1.2; constructor <;> omega)
  obtain ⟨va, hva⟩ : ∃ va, h.r.getD ka 0 = va := ⟨_, rfl⟩
  obtain ⟨vb, hvb⟩ : ∃ vb, h.r.getD kb 0 = vb := ⟨_, rfl⟩
  have IAI : Hid (I32 va) := Lib.hid (hva ▸ f.reg ka hka)
  have IBI : Hid (I32 vb) := Lib.hid (hvb ▸ f.reg kb hkb)
  have HVA := Lib.hid hva; have HVB := Lib.hid hvb
  try rw [hva]
  try rw [hvb]
  clear hva hvb
  have w4 : IntKind.i64.wrap (h.pc + 4) = h.pc + 4 := IntWalk.i64_in _ (by have := P4.out.1; have := P4.out.2; omega)
  have wn : IntKind.i64.wrap (h.pc + n) = h.pc + n := IntWalk.i64_in _ (by have := PN.out.1; have := PN.out.2; omega)
  obtain ⟨h7, hh7⟩ : ∃ h7 : Ht, ({ h with pc := wrap32 (h.pc + 4) } : Ht) = h7 := ⟨_, rfl⟩
  rw [hh7]
  have HH7 := Lib.hid hh7; clear hh7
  have hfm : (rowT 48).form = 65 := by decide +kernel
  obtain ⟨w0, hw0, hx, hi, hz, hy, hb0, hs0⟩ := four_new w (.cells (hA h) 28) (.cells #[.int .i64 48, .int .i64 d, .int .i64 ka, .int .i64 kb, .int .i64 n] 24) (.cells zA 28) (.cells effZ 34)
  have i0 := cell_in hi (j := 0) (u := .int .i64 48) rfl
  have i1 := cell_in hi (j := 1) (u := .int .i64 d) rfl
  have i2 := cell_in hi (j := 2) (u := .int .i64 ka) rfl
  have i3 := cell_in hi (j := 3) (u := .int .i64 kb) rfl
  have i4 := cell_in hi (j := 4) (u := .int .i64 n) rfl
  have HW := Lib.hid hw0
  have HX := Lib.hid hx; have HI := Lib.hid hi; have HZ := Lib.hid hz; have HY := Lib.hid hy; have HR := Lib.hid hr; have FF := Lib.hid f; have HN := Lib.hid hn
  clear hx hi hz hy hw0 hr f hn
  unfold insV
  go_enter Try.func17, Try.ntmps17
  go_upto_region 1 with (fail)
  change Code.wp _ _ _ _ ((((w.alloc (.cells (hA h) 28)).alloc (.cells #[.int .i64 48, .int .i64 d, .int .i64 ka, .int .i64 kb, .int .i64 n] 24)).alloc (.cells zA 28)).alloc (.cells effZ 34))
  rw [← HW.out]
  go_wp2_with fail
  refine (refRight_h 48 d ka kb n true _ HR.out).mono ?_
  rintro e w1 ⟨rfl, hb1⟩
  have HX1 := Lib.hid (upH hb1 HX.out); have HI1 := Lib.hid (upH hb1 HI.out); have HZ1 := Lib.hid (upH hb1 HZ.out); have HY1 := Lib.hid (upH hb1 HY.out)
  have hbw1 : Below w.heap.size w w1 := (by repeat (first | (with_reducible exact Below.refl _ _) | (with_reducible refine bw_set ?_ ?_ _) | (with_reducible apply bw_alloc) | (with_reducible refine bw_tr ?_ (by with_reducible assumption)) | (with_reducible apply bw_drew) | omega))
  have hs1 : w.heap.size + 4 ≤ w1.heap.size := by have := hb1.size; omega
  clear i0 i1 i2 i3 i4 HX HI HZ HY HW hb0 hs0 hb1
  have ca := cell_in HX1.out (show (hA h)[ka]? = some (.int .i64 va) by rw [hA_r h h32 ka hka, HVA.out])
  have cb := cell_in HX1.out (show (hA h)[kb]? = some (.int .i64 vb) by rw [hA_r h h32 kb hkb, HVB.out])
  have c32 := cell_in HX1.out (hA_fields h h32).1
  have i0 := cell_in HI1.out (j := 0) (u := .int .i64 48) rfl
  have i2 := cell_in HI1.out (j := 2) (u := .int .i64 ka) rfl
  have i3 := cell_in HI1.out (j := 3) (u := .int .i64 kb) rfl
  have i4 := cell_in HI1.out (j := 4) (u := .int .i64 n) rfl
  go_upto_region 8 with (first | (go_at_call 38; (with_reducible refine (rwrap_any (h.pc + 4) _ P4.out).mono ?_); rintro e w' ⟨rfl, rfl⟩) | (go_at_call 38; (with_reducible refine (rwrap_any (h.pc + n) _ PN.out).mono ?_); rintro e w' ⟨rfl, rfl⟩))
  go_wp2_with fail
  refine (refRow_any 48 _).mono ?_
  obtain ⟨rw0, hrw⟩ : ∃ r, rowT 48 = r := ⟨_, rfl⟩
  rw [hrw]
  rw [hrw] at hfm
  obtain ⟨nm, fm, lo, mi, hi⟩ := rw0
  simp only at hfm
  clear hrw
  subst hfm
  have hfld : ∀ w : World, (Instr.field 54 (.agg #[.string nm, .int .u8 65, .int .i64 lo, .int .i64 mi, .int .i64 hi]) 1).run Try.prog w = .ok (.int .u8 65) w := fun w => by kernel_rfl
  rintro e w2 ⟨rfl, hb2⟩
  have HX2 := Lib.hid (upH hb2 HX1.out); have HI2 := Lib.hid (upH hb2 HI1.out); have HZ2 := Lib.hid (upH hb2 HZ1.out); have HY2 := Lib.hid (upH hb2 HY1.out)
  have hbw2 : Below w.heap.size w w2 := (by repeat (first | (with_reducible exact Below.refl _ _) | (with_reducible refine bw_set ?_ ?_ _) | (with_reducible apply bw_alloc) | (with_reducible refine bw_tr ?_ (by with_reducible assumption)) | (with_reducible apply bw_drew) | omega))
  have hs2 : w.heap.size + 4 ≤ w2.heap.size := by have := hb2.size; omega
  clear ca cb c32 i0 i2 i3 i4 hb2 HX1 HI1 HZ1 HY1 hbw1 hs1 w4 wn
  unfold rfV
  go_upto_region 12 with (fail)
  clear hfld
  change Code.wp _ _ _ _ (w2.alloc (.cells effZ 34))
  have N3 : Hid ((w2.alloc (.cells effZ 34)).heap[w2.heap.size]? = some (.cells effZ 34 (0, 0))) := Lib.hid (new_in w2 (.cells effZ 34))
  have hb3 : Below w2.heap.size w2 (w2.alloc (.cells effZ 34)) := newH w2 (.cells effZ 34)
  have hs3 : w2.heap.size < (w2.alloc (.cells effZ 34)).heap.size := lt_in N3.out
  obtain ⟨w3, hw3⟩ : ∃ w3 : World, w2.alloc (.cells effZ 34) = w3 := ⟨_, rfl⟩
  rw [hw3] at N3 hb3 hs3 ⊢
  have HX3 := Lib.hid (upH hb3 HX2.out); have HI3 := Lib.hid (upH hb3 HI2.out); have HZ3 := Lib.hid (upH hb3 HZ2.out); have HY3 := Lib.hid (upH hb3 HY2.out)
  have hbw3 : Below w.heap.size w w3 := bw_tr hbw2 hb3
  obtain ⟨pe, hpe⟩ : ∃ pe, w2.heap.size = pe := ⟨_, rfl⟩
  rw [hpe] at N3 hs2 hs3 ⊢
  clear hpe hw3 hb3 HX2 HI2 HZ2 HY2 hbw2
  have i0 := cell_in HI3.out (j := 0) (u := .int .i64 48) rfl
  have i1 := cell_in HI3.out (j := 1) (u := .int .i64 d) rfl
  have i4 := cell_in HI3.out (j := 4) (u := .int .i64 n) rfl
  go_upto_region 37 with (fail)
  go_upto_region 51 with (first | (refine wpList_store_row rfl 34 _ _ rfl pe #[.int .i64 5, .int .i64 d, .int .i64 va, .int .i64 vb, .int .i64 0] rfl rfl 34 effZ N3.out (by kernel_rfl) rfl (by kernel_rfl) ?_))
  obtain ⟨w6, hw6⟩ : ∃ w6 : World, w3.setRow pe #[.int .i64 5, .int .i64 d, .int .i64 va, .int .i64 vb, .int .i64 0] = w6 := ⟨_, rfl⟩
  have HX6 : Hid (w6.heap[w.heap.size]? = some (.cells (hA h) 28 (0, 0))) := by rw [← hw6]; exact row_ne (by omega) HX3.out
  have HZ6 : Hid (w6.heap[w.heap.size + 2]? = some (.cells zA 28 (0, 0))) := by rw [← hw6]; exact row_ne (by omega) HZ3.out
  have HY6 : Hid (w6.heap[w.heap.size + 3]? = some (.cells effZ 34 (0, 0))) := by rw [← hw6]; exact row_ne (by omega) HY3.out
  have N6 : Hid (w6.heap[pe]? = some (.cells #[.int .i64 5, .int .i64 d, .int .i64 va, .int .i64 vb, .int .i64 0] 34 (0, 0))) := by rw [← hw6]; exact setRow_heap _ _ _ _ _ _ N3.out
  have bw6 : Below w.heap.size w w6 := by rw [← hw6]; exact below_setRow hbw3 (by omega) _
  rw [hw6]
  clear hw6 HX3 HZ3 HY3 N3 hbw3 HI3 i0 i1 i4
  have g32 := cell_in HX6.out (hA_fields h h32).1
  have f32 := frozen_in HX6.out 32
  have X7 : Hid ((w6.setCell ⟨w.heap.size, 32, none⟩ (.int .i64 (wrap32 (h.pc + 4)))).heap[w.heap.size]? = some (.cells (hA { h with pc := wrap32 (h.pc + 4) }) 28 (0, 0))) := Lib.hid (set_heap HX6.out 32 (.int .i64 (wrap32 (h.pc + 4))) _ (hA_pc h h32 (wrap32 (h.pc + 4))))
  have Z7 : Hid ((w6.setCell ⟨w.heap.size, 32, none⟩ (.int .i64 (wrap32 (h.pc + 4)))).heap[w.heap.size + 2]? = some (.cells zA 28 (0, 0))) := Lib.hid (heap_set_ne (by omega) HZ6.out)
  have Y7 : Hid ((w6.setCell ⟨w.heap.size, 32, none⟩ (.int .i64 (wrap32 (h.pc + 4)))).heap[w.heap.size + 3]? = some (.cells effZ 34 (0, 0))) := Lib.hid (heap_set_ne (by omega) HY6.out)
  have N7 : Hid ((w6.setCell ⟨w.heap.size, 32, none⟩ (.int .i64 (wrap32 (h.pc + 4)))).heap[pe]? = some (.cells #[.int .i64 5, .int .i64 d, .int .i64 va, .int .i64 vb, .int .i64 0] 34 (0, 0))) := Lib.hid (heap_set_ne (by omega) N6.out)
  have B7 : Hid (Below w.heap.size w (w6.setCell ⟨w.heap.size, 32, none⟩ (.int .i64 (wrap32 (h.pc + 4))))) := Lib.hid (bw_set bw6 (Nat.le_refl _) _)
  go_upto_region 52 with (fail)
  obtain ⟨w7, hw7⟩ : ∃ w7 : World, w6.setCell ⟨w.heap.size, 32, none⟩ (.int .i64 (wrap32 (h.pc + 4))) = w7 := ⟨_, rfl⟩
  rw [hw7] at X7 Z7 Y7 N7 B7 ⊢
  have hh7 : ({ h with pc := wrap32 (h.pc + 4) } : Ht) = h7 := HH7.out
  have hl7' : h7.r.length = 32 := by rw [← hh7]; exact h32
  rw [hh7] at X7
  have HL7 := Lib.hid hl7'
  clear hw7 hh7 hl7' g32 f32 HX6 HZ6 HY6 N6
  refine wp_region_up (fun w' => w'.heap[w.heap.size]? = some (.cells (hA h7) 28 (0, 0)) ∧ w'.heap[pe]? = some (.cells #[.int .i64 5, .int .i64 d, .int .i64 va, .int .i64 vb, .int .i64 0] 34 (0, 0))) [true, true, false, false] (by kernel_rfl) (by kernel_rfl) (by kernel_rfl) (fun _ _ hh hu => ⟨upH hu hh.1, upH hu hh.2⟩) ⟨X7.out, N7.out⟩ ?ra ?rh ?rt
  case rh =>
    intro w0 h0
    have R0 : Hid (∀ w' : World, (∃ x : Wd w0, w' = x.val) → (loadVar 28 ⟨w.heap.size, 0, none⟩).run Try.prog w' = .ok (.agg (hA h7)) w') := by
      rintro w' ⟨x, rfl⟩
      exact run_loadVar_row _ _ 28 28 (hA h7) (0, 0) _ (bel_in x.bel (lt_in h0.1) h0.1) Try.underlying28 rfl (infoA (hA_size h7 HL7.out))
    have R1 : Hid (∀ w' : World, (∃ x : Wd w0, w' = x.val) → (loadVar 34 ⟨pe, 0, none⟩).run Try.prog w' = .ok (.agg #[.int .i64 5, .int .i64 d, .int .i64 va, .int .i64 vb, .int .i64 0]) w') := by
      rintro w' ⟨x, rfl⟩
      exact run_loadVar_row _ _ 34 34 #[.int .i64 5, .int .i64 d, .int .i64 va, .int .i64 vb, .int .i64 0] (0, 0) _ (bel_in x.bel (lt_in h0.2) h0.2) Try.underlying34 rfl (by kernel_rfl)
    clear h0
    simp only [pickM]
    go_big_quiet_want
    refine quiet_load_row 28 _ (w.heap.size) (hA h7) rfl rfl R0.out ?_
    simp only [Act.put, List.setIfInBounds_toArray, List.set_cons_succ, List.set_cons_zero]
    go_big_quiet_on
    go_big_quiet_want
    refine quiet_load_row 34 _ pe #[.int .i64 5, .int .i64 d, .int .i64 va, .int .i64 vb, .int .i64 0] rfl rfl R1.out ?_
    simp only [Act.put, List.setIfInBounds_toArray, List.set_cons_succ, List.set_cons_zero]
    go_big_quiet_on
    refine wpQuiet_nil ?_
    rfl
  case rt => as_aux_lemma =>
    change wpAnyU _ _ _ _ _ 2 _ _ _
    refine anyU_one (i := 2) (by kernel_rfl) rfl ?_
    intro w8 hu8 hc8
    have hu8 := bw_undrew hu8
    have Z8 := Lib.hid (upH hu8 Z7.out); have Y8 := Lib.hid (upH hu8 Y7.out); have B8 := Lib.hid (bw_tr B7.out hu8); have D8 := Lib.hid hc8
    clear hu8 hc8 X7 Z7 Y7 N7
    go_wp2_with (refine wpList_store_row rfl 28 _ _ rfl (w.heap.size + 2) (hA h7) rfl rfl 28 zA Z8.out (infoA (hA_size h7 HL7.out)) (by rw [hA_size h7 HL7.out]; rfl) (hA_one h7) ?_)
    refine ⟨⟨row_ne (by omega) D8.out.1, row_ne (by omega) D8.out.2⟩, ?_⟩
    refine anyU_one (i := 3) (by kernel_rfl) rfl ?_
    intro w9 hu9 hc9
    have Z9 := Lib.hid (upH hu9 (setRow_heap _ _ _ _ _ _ Z8.out : (w8.setRow (w.heap.size + 2) (hA h7)).heap[w.heap.size + 2]? = some (.cells (hA h7) 28 (0, 0))))
    have Y9 := Lib.hid (upH hu9 (row_ne (cs := hA h7) (by omega) Y8.out))
    have B9 := Lib.hid (bw_tr (below_setRow B8.out (by omega) (hA h7)) hu9 : Below w.heap.size w w9)
    have D9 := Lib.hid hc9
    clear hu9 hc9 Z8 Y8 D8 B8
    go_wp2_with (refine wpList_store_row rfl 34 _ _ rfl (w.heap.size + 3) #[.int .i64 5, .int .i64 d, .int .i64 va, .int .i64 vb, .int .i64 0] rfl rfl 34 effZ Y9.out (by kernel_rfl) rfl (by kernel_rfl) ?_)
    refine ⟨⟨row_ne (by omega) D9.out.1, row_ne (by omega) D9.out.2⟩, ?_⟩
    refine anyU_nil (by kernel_rfl) ?_
    intro w10 hu10 hc10
    have Z10 := Lib.hid (upH hu10 (row_ne (cs := #[.int .i64 5, .int .i64 d, .int .i64 va, .int .i64 vb, .int .i64 0]) (by omega) Z9.out))
    have Y10 := Lib.hid (upH hu10 (setRow_heap _ _ _ _ _ _ Y9.out : (w9.setRow (w.heap.size + 3) #[.int .i64 5, .int .i64 d, .int .i64 va, .int .i64 vb, .int .i64 0]).heap[w.heap.size + 3]? = some (.cells #[.int .i64 5, .int .i64 d, .int .i64 va, .int .i64 vb, .int .i64 0] 34 (0, 0))))
    have B10 := Lib.hid (bw_tr (below_setRow B9.out (by omega) #[.int .i64 5, .int .i64 d, .int .i64 va, .int .i64 vb, .int .i64 0]) hu10 : Below w.heap.size w w10)
    clear hu10 hc10 Z9 Y9 D9 B9
    go_wp2_with fail
    exact bodyPost_ret (v := .tuple #[.agg (hA h7), .agg #[.int .i64 5, .int .i64 d, .int .i64 va, .int .i64 vb, .int .i64 0]]) (results_cells2 rfl _ _ (w.heap.size + 2) (w.heap.size + 3) 28 34 (hA h7) #[.int .i64 5, .int .i64 d, .int .i64 va, .int .i64 vb, .int .i64 0] (0, 0) (0, 0) _ _ rfl rfl Z10.out Y10.out Try.underlying28 rfl (infoA (hA_size h7 HL7.out)) Try.underlying34 rfl (by kernel_rfl)) rfl ⟨rfl, B10.out⟩
set_option maxRecDepth 100000 in
set_option maxHeartbeats 8000000 in
theorem rstep_49 (h : Ht) (id d n : Int) (ka kb : Nat) (w : World) (f : Fine h) (hr : rightB ⟨49, d, ka, kb, n⟩ = true) (hka : ka < 32) (hkb : kb < 32) (hn : -1048576 ≤ n ∧ n ≤ 1048575) :
    Calls Try.prog 17 #[.agg (hA h), .int .i64 id, insV ⟨49, d, ka, kb, n⟩] w fun e w' => e = .returned (.tuple #[.agg (hA ({ h with pc := wrap32 (h.pc + 4) })), effV ⟨5, d, (h.r.getD ka 0), (h.r.getD kb 0), 1⟩]) ∧ Below w.heap.size w w' := by
  have h32 := f.len
  have P4 : Hid (I64 (h.pc + 4)) := Lib.hid (by have := f.pc.1.1; have := f.pc.1.2; constructor <;> omega)
  have PN : Hid (I64 (h.pc + n)) := Lib.hid (by have := f.pc.1.1; have := f.pc.1.2; constructor <;> omega)
  obtain ⟨va, hva⟩ : ∃ va, h.r.getD ka 0 = va := ⟨_, rfl⟩
  obtain ⟨vb, hvb⟩ : ∃ vb, h.r.getD kb 0 = vb := ⟨_, rfl⟩
  have IAI : Hid (I32 va) := Lib.hid (hva ▸ f.reg ka hka)
  have IBI : Hid (I32 vb) := Lib.hid (hvb ▸ f.reg kb hkb)
  have HVA := Lib.hid hva; have HVB := Lib.hid hvb
  try rw [hva]
  try rw [hvb]
  clear hva hvb
  have w4 : IntKind.i64.wrap (h.pc + 4) = h.pc + 4 := IntWalk.i64_in _ (by have := P4.out.1; have := P4.out.2; omega)
  have wn : IntKind.i64.wrap (h.pc + n) = h.pc + n := IntWalk.i64_in _ (by have := PN.out.1; have := PN.out.2; omega)
  obtain ⟨h7, hh7⟩ : ∃ h7 : Ht, ({ h with pc := wrap32 (h.pc + 4) } : Ht) = h7 := ⟨_, rfl⟩
  rw [hh7]
  have HH7 := Lib.hid hh7; clear hh7
  have hfm : (rowT 49).form = 65 := by decide +kernel
  obtain ⟨w0, hw0, hx, hi, hz, hy, hb0, hs0⟩ := four_new w (.cells (hA h) 28) (.cells #[.int .i64 49, .int .i64 d, .int .i64 ka, .int .i64 kb, .int .i64 n] 24) (.cells zA 28) (.cells effZ 34)
  have i0 := cell_in hi (j := 0) (u := .int .i64 49) rfl
  have i1 := cell_in hi (j := 1) (u := .int .i64 d) rfl
  have i2 := cell_in hi (j := 2) (u := .int .i64 ka) rfl
  have i3 := cell_in hi (j := 3) (u := .int .i64 kb) rfl
  have i4 := cell_in hi (j := 4) (u := .int .i64 n) rfl
  have HW := Lib.hid hw0
  have HX := Lib.hid hx; have HI := Lib.hid hi; have HZ := Lib.hid hz; have HY := Lib.hid hy; have HR := Lib.hid hr; have FF := Lib.hid f; have HN := Lib.hid hn
  clear hx hi hz hy hw0 hr f hn
  unfold insV
  go_enter Try.func17, Try.ntmps17
  go_upto_region 1 with (fail)
  change Code.wp _ _ _ _ ((((w.alloc (.cells (hA h) 28)).alloc (.cells #[.int .i64 49, .int .i64 d, .int .i64 ka, .int .i64 kb, .int .i64 n] 24)).alloc (.cells zA 28)).alloc (.cells effZ 34))
  rw [← HW.out]
  go_wp2_with fail
  refine (refRight_h 49 d ka kb n true _ HR.out).mono ?_
  rintro e w1 ⟨rfl, hb1⟩
  have HX1 := Lib.hid (upH hb1 HX.out); have HI1 := Lib.hid (upH hb1 HI.out); have HZ1 := Lib.hid (upH hb1 HZ.out); have HY1 := Lib.hid (upH hb1 HY.out)
  have hbw1 : Below w.heap.size w w1 := (by repeat (first | (with_reducible exact Below.refl _ _) | (with_reducible refine bw_set ?_ ?_ _) | (with_reducible apply bw_alloc) | (with_reducible refine bw_tr ?_ (by with_reducible assumption)) | (with_reducible apply bw_drew) | omega))
  have hs1 : w.heap.size + 4 ≤ w1.heap.size := by have := hb1.size; omega
  clear i0 i1 i2 i3 i4 HX HI HZ HY HW hb0 hs0 hb1
  have ca := cell_in HX1.out (show (hA h)[ka]? = some (.int .i64 va) by rw [hA_r h h32 ka hka, HVA.out])
  have cb := cell_in HX1.out (show (hA h)[kb]? = some (.int .i64 vb) by rw [hA_r h h32 kb hkb, HVB.out])
  have c32 := cell_in HX1.out (hA_fields h h32).1
  have i0 := cell_in HI1.out (j := 0) (u := .int .i64 49) rfl
  have i2 := cell_in HI1.out (j := 2) (u := .int .i64 ka) rfl
  have i3 := cell_in HI1.out (j := 3) (u := .int .i64 kb) rfl
  have i4 := cell_in HI1.out (j := 4) (u := .int .i64 n) rfl
  go_upto_region 8 with (first | (go_at_call 38; (with_reducible refine (rwrap_any (h.pc + 4) _ P4.out).mono ?_); rintro e w' ⟨rfl, rfl⟩) | (go_at_call 38; (with_reducible refine (rwrap_any (h.pc + n) _ PN.out).mono ?_); rintro e w' ⟨rfl, rfl⟩))
  go_wp2_with fail
  refine (refRow_any 49 _).mono ?_
  obtain ⟨rw0, hrw⟩ : ∃ r, rowT 49 = r := ⟨_, rfl⟩
  rw [hrw]
  rw [hrw] at hfm
  obtain ⟨nm, fm, lo, mi, hi⟩ := rw0
  simp only at hfm
  clear hrw
  subst hfm
  have hfld : ∀ w : World, (Instr.field 54 (.agg #[.string nm, .int .u8 65, .int .i64 lo, .int .i64 mi, .int .i64 hi]) 1).run Try.prog w = .ok (.int .u8 65) w := fun w => by kernel_rfl
  rintro e w2 ⟨rfl, hb2⟩
  have HX2 := Lib.hid (upH hb2 HX1.out); have HI2 := Lib.hid (upH hb2 HI1.out); have HZ2 := Lib.hid (upH hb2 HZ1.out); have HY2 := Lib.hid (upH hb2 HY1.out)
  have hbw2 : Below w.heap.size w w2 := (by repeat (first | (with_reducible exact Below.refl _ _) | (with_reducible refine bw_set ?_ ?_ _) | (with_reducible apply bw_alloc) | (with_reducible refine bw_tr ?_ (by with_reducible assumption)) | (with_reducible apply bw_drew) | omega))
  have hs2 : w.heap.size + 4 ≤ w2.heap.size := by have := hb2.size; omega
  clear ca cb c32 i0 i2 i3 i4 hb2 HX1 HI1 HZ1 HY1 hbw1 hs1 w4 wn
  unfold rfV
  go_upto_region 12 with (fail)
  clear hfld
  change Code.wp _ _ _ _ (w2.alloc (.cells effZ 34))
  have N3 : Hid ((w2.alloc (.cells effZ 34)).heap[w2.heap.size]? = some (.cells effZ 34 (0, 0))) := Lib.hid (new_in w2 (.cells effZ 34))
  have hb3 : Below w2.heap.size w2 (w2.alloc (.cells effZ 34)) := newH w2 (.cells effZ 34)
  have hs3 : w2.heap.size < (w2.alloc (.cells effZ 34)).heap.size := lt_in N3.out
  obtain ⟨w3, hw3⟩ : ∃ w3 : World, w2.alloc (.cells effZ 34) = w3 := ⟨_, rfl⟩
  rw [hw3] at N3 hb3 hs3 ⊢
  have HX3 := Lib.hid (upH hb3 HX2.out); have HI3 := Lib.hid (upH hb3 HI2.out); have HZ3 := Lib.hid (upH hb3 HZ2.out); have HY3 := Lib.hid (upH hb3 HY2.out)
  have hbw3 : Below w.heap.size w w3 := bw_tr hbw2 hb3
  obtain ⟨pe, hpe⟩ : ∃ pe, w2.heap.size = pe := ⟨_, rfl⟩
  rw [hpe] at N3 hs2 hs3 ⊢
  clear hpe hw3 hb3 HX2 HI2 HZ2 HY2 hbw2
  have i0 := cell_in HI3.out (j := 0) (u := .int .i64 49) rfl
  have i1 := cell_in HI3.out (j := 1) (u := .int .i64 d) rfl
  have i4 := cell_in HI3.out (j := 4) (u := .int .i64 n) rfl
  go_upto_region 39 with (fail)
  go_upto_region 51 with (first | (refine wpList_store_row rfl 34 _ _ rfl pe #[.int .i64 5, .int .i64 d, .int .i64 va, .int .i64 vb, .int .i64 1] rfl rfl 34 effZ N3.out (by kernel_rfl) rfl (by kernel_rfl) ?_))
  obtain ⟨w6, hw6⟩ : ∃ w6 : World, w3.setRow pe #[.int .i64 5, .int .i64 d, .int .i64 va, .int .i64 vb, .int .i64 1] = w6 := ⟨_, rfl⟩
  have HX6 : Hid (w6.heap[w.heap.size]? = some (.cells (hA h) 28 (0, 0))) := by rw [← hw6]; exact row_ne (by omega) HX3.out
  have HZ6 : Hid (w6.heap[w.heap.size + 2]? = some (.cells zA 28 (0, 0))) := by rw [← hw6]; exact row_ne (by omega) HZ3.out
  have HY6 : Hid (w6.heap[w.heap.size + 3]? = some (.cells effZ 34 (0, 0))) := by rw [← hw6]; exact row_ne (by omega) HY3.out
  have N6 : Hid (w6.heap[pe]? = some (.cells #[.int .i64 5, .int .i64 d, .int .i64 va, .int .i64 vb, .int .i64 1] 34 (0, 0))) := by rw [← hw6]; exact setRow_heap _ _ _ _ _ _ N3.out
  have bw6 : Below w.heap.size w w6 := by rw [← hw6]; exact below_setRow hbw3 (by omega) _
  rw [hw6]
  clear hw6 HX3 HZ3 HY3 N3 hbw3 HI3 i0 i1 i4
  have g32 := cell_in HX6.out (hA_fields h h32).1
  have f32 := frozen_in HX6.out 32
  have X7 : Hid ((w6.setCell ⟨w.heap.size, 32, none⟩ (.int .i64 (wrap32 (h.pc + 4)))).heap[w.heap.size]? = some (.cells (hA { h with pc := wrap32 (h.pc + 4) }) 28 (0, 0))) := Lib.hid (set_heap HX6.out 32 (.int .i64 (wrap32 (h.pc + 4))) _ (hA_pc h h32 (wrap32 (h.pc + 4))))
  have Z7 : Hid ((w6.setCell ⟨w.heap.size, 32, none⟩ (.int .i64 (wrap32 (h.pc + 4)))).heap[w.heap.size + 2]? = some (.cells zA 28 (0, 0))) := Lib.hid (heap_set_ne (by omega) HZ6.out)
  have Y7 : Hid ((w6.setCell ⟨w.heap.size, 32, none⟩ (.int .i64 (wrap32 (h.pc + 4)))).heap[w.heap.size + 3]? = some (.cells effZ 34 (0, 0))) := Lib.hid (heap_set_ne (by omega) HY6.out)
  have N7 : Hid ((w6.setCell ⟨w.heap.size, 32, none⟩ (.int .i64 (wrap32 (h.pc + 4)))).heap[pe]? = some (.cells #[.int .i64 5, .int .i64 d, .int .i64 va, .int .i64 vb, .int .i64 1] 34 (0, 0))) := Lib.hid (heap_set_ne (by omega) N6.out)
  have B7 : Hid (Below w.heap.size w (w6.setCell ⟨w.heap.size, 32, none⟩ (.int .i64 (wrap32 (h.pc + 4))))) := Lib.hid (bw_set bw6 (Nat.le_refl _) _)
  go_upto_region 52 with (fail)
  obtain ⟨w7, hw7⟩ : ∃ w7 : World, w6.setCell ⟨w.heap.size, 32, none⟩ (.int .i64 (wrap32 (h.pc + 4))) = w7 := ⟨_, rfl⟩
  rw [hw7] at X7 Z7 Y7 N7 B7 ⊢
  have hh7 : ({ h with pc := wrap32 (h.pc + 4) } : Ht) = h7 := HH7.out
  have hl7' : h7.r.length = 32 := by rw [← hh7]; exact h32
  rw [hh7] at X7
  have HL7 := Lib.hid hl7'
  clear hw7 hh7 hl7' g32 f32 HX6 HZ6 HY6 N6
  refine wp_region_up (fun w' => w'.heap[w.heap.size]? = some (.cells (hA h7) 28 (0, 0)) ∧ w'.heap[pe]? = some (.cells #[.int .i64 5, .int .i64 d, .int .i64 va, .int .i64 vb, .int .i64 1] 34 (0, 0))) [true, true, false, false] (by kernel_rfl) (by kernel_rfl) (by kernel_rfl) (fun _ _ hh hu => ⟨upH hu hh.1, upH hu hh.2⟩) ⟨X7.out, N7.out⟩ ?ra ?rh ?rt
  case rh =>
    intro w0 h0
    have R0 : Hid (∀ w' : World, (∃ x : Wd w0, w' = x.val) → (loadVar 28 ⟨w.heap.size, 0, none⟩).run Try.prog w' = .ok (.agg (hA h7)) w') := by
      rintro w' ⟨x, rfl⟩
      exact run_loadVar_row _ _ 28 28 (hA h7) (0, 0) _ (bel_in x.bel (lt_in h0.1) h0.1) Try.underlying28 rfl (infoA (hA_size h7 HL7.out))
    have R1 : Hid (∀ w' : World, (∃ x : Wd w0, w' = x.val) → (loadVar 34 ⟨pe, 0, none⟩).run Try.prog w' = .ok (.agg #[.int .i64 5, .int .i64 d, .int .i64 va, .int .i64 vb, .int .i64 1]) w') := by
      rintro w' ⟨x, rfl⟩
      exact run_loadVar_row _ _ 34 34 #[.int .i64 5, .int .i64 d, .int .i64 va, .int .i64 vb, .int .i64 1] (0, 0) _ (bel_in x.bel (lt_in h0.2) h0.2) Try.underlying34 rfl (by kernel_rfl)
    clear h0
    simp only [pickM]
    go_big_quiet_want
    refine quiet_load_row 28 _ (w.heap.size) (hA h7) rfl rfl R0.out ?_
    simp only [Act.put, List.setIfInBounds_toArray, List.set_cons_succ, List.set_cons_zero]
    go_big_quiet_on
    go_big_quiet_want
    refine quiet_load_row 34 _ pe #[.int .i64 5, .int .i64 d, .int .i64 va, .int .i64 vb, .int .i64 1] rfl rfl R1.out ?_
    simp only [Act.put, List.setIfInBounds_toArray, List.set_cons_succ, List.set_cons_zero]
    go_big_quiet_on
    refine wpQuiet_nil ?_
    rfl
  case rt => as_aux_lemma =>
    change wpAnyU _ _ _ _ _ 2 _ _ _
    refine anyU_one (i := 2) (by kernel_rfl) rfl ?_
    intro w8 hu8 hc8
    have hu8 := bw_undrew hu8
    have Z8 := Lib.hid (upH hu8 Z7.out); have Y8 := Lib.hid (upH hu8 Y7.out); have B8 := Lib.hid (bw_tr B7.out hu8); have D8 := Lib.hid hc8
    clear hu8 hc8 X7 Z7 Y7 N7
    go_wp2_with (refine wpList_store_row rfl 28 _ _ rfl (w.heap.size + 2) (hA h7) rfl rfl 28 zA Z8.out (infoA (hA_size h7 HL7.out)) (by rw [hA_size h7 HL7.out]; rfl) (hA_one h7) ?_)
    refine ⟨⟨row_ne (by omega) D8.out.1, row_ne (by omega) D8.out.2⟩, ?_⟩
    refine anyU_one (i := 3) (by kernel_rfl) rfl ?_
    intro w9 hu9 hc9
    have Z9 := Lib.hid (upH hu9 (setRow_heap _ _ _ _ _ _ Z8.out : (w8.setRow (w.heap.size + 2) (hA h7)).heap[w.heap.size + 2]? = some (.cells (hA h7) 28 (0, 0))))
    have Y9 := Lib.hid (upH hu9 (row_ne (cs := hA h7) (by omega) Y8.out))
    have B9 := Lib.hid (bw_tr (below_setRow B8.out (by omega) (hA h7)) hu9 : Below w.heap.size w w9)
    have D9 := Lib.hid hc9
    clear hu9 hc9 Z8 Y8 D8 B8
    go_wp2_with (refine wpList_store_row rfl 34 _ _ rfl (w.heap.size + 3) #[.int .i64 5, .int .i64 d, .int .i64 va, .int .i64 vb, .int .i64 1] rfl rfl 34 effZ Y9.out (by kernel_rfl) rfl (by kernel_rfl) ?_)
    refine ⟨⟨row_ne (by omega) D9.out.1, row_ne (by omega) D9.out.2⟩, ?_⟩
    refine anyU_nil (by kernel_rfl) ?_
    intro w10 hu10 hc10
    have Z10 := Lib.hid (upH hu10 (row_ne (cs := #[.int .i64 5, .int .i64 d, .int .i64 va, .int .i64 vb, .int .i64 1]) (by omega) Z9.out))
    have Y10 := Lib.hid (upH hu10 (setRow_heap _ _ _ _ _ _ Y9.out : (w9.setRow (w.heap.size + 3) #[.int .i64 5, .int .i64 d, .int .i64 va, .int .i64 vb, .int .i64 1]).heap[w.heap.size + 3]? = some (.cells #[.int .i64 5, .int .i64 d, .int .i64 va, .int .i64 vb, .int .i64 1] 34 (0, 0))))
    have B10 := Lib.hid (bw_tr (below_setRow B9.out (by omega) #[.int .i64 5, .int .i64 d, .int .i64 va, .int .i64 vb, .int .i64 1]) hu10 : Below w.heap.size w w10)
    clear hu10 hc10 Z9 Y9 D9 B9
    go_wp2_with fail
    exact bodyPost_ret (v := .tuple #[.agg (hA h7), .agg #[.int .i64 5, .int .i64 d, .int .i64 va, .int .i64 vb, .int .i64 1]]) (results_cells2 rfl _ _ (w.heap.size + 2) (w.heap.size + 3) 28 34 (hA h7) #[.int .i64 5, .int .i64 d, .int .i64 va, .int .i64 vb, .int .i64 1] (0, 0) (0, 0) _ _ rfl rfl Z10.out Y10.out Try.underlying28 rfl (infoA (hA_size h7 HL7.out)) Try.underlying34 rfl (by kernel_rfl)) rfl ⟨rfl, B10.out⟩
set_option maxRecDepth 100000 in
set_option maxHeartbeats 8000000 in
theorem rstep_43 (h : Ht) (id d n : Int) (ka kb : Nat) (w : World) (f : Fine h) (hr : rightB ⟨43, d, ka, kb, n⟩ = true) (hka : ka < 32) (hkb : kb < 32) (hn : -1048576 ≤ n ∧ n ≤ 1048575) :
    Calls Try.prog 17 #[.agg (hA h), .int .i64 id, insV ⟨43, d, ka, kb, n⟩] w fun e w' => e = .returned (.tuple #[.agg (hA ({ h with pc := wrap32 (h.pc + 4) })), effV ⟨7, 0, 0, 0, 0⟩]) ∧ Below w.heap.size w w' := by
  have h32 := f.len
  have P4 : Hid (I64 (h.pc + 4)) := Lib.hid (by have := f.pc.1.1; have := f.pc.1.2; constructor <;> omega)
  have PN : Hid (I64 (h.pc + n)) := Lib.hid (by have := f.pc.1.1; have := f.pc.1.2; constructor <;> omega)
  obtain ⟨va, hva⟩ : ∃ va, h.r.getD ka 0 = va := ⟨_, rfl⟩
  obtain ⟨vb, hvb⟩ : ∃ vb, h.r.getD kb 0 = vb := ⟨_, rfl⟩
  have IAI : Hid (I32 va) := Lib.hid (hva ▸ f.reg ka hka)
  have IBI : Hid (I32 vb) := Lib.hid (hvb ▸ f.reg kb hkb)
  have HVA := Lib.hid hva; have HVB := Lib.hid hvb
  try rw [hva]
  try rw [hvb]
  clear hva hvb
  have w4 : IntKind.i64.wrap (h.pc + 4) = h.pc + 4 := IntWalk.i64_in _ (by have := P4.out.1; have := P4.out.2; omega)
  have wn : IntKind.i64.wrap (h.pc + n) = h.pc + n := IntWalk.i64_in _ (by have := PN.out.1; have := PN.out.2; omega)
  obtain ⟨h7, hh7⟩ : ∃ h7 : Ht, ({ h with pc := wrap32 (h.pc + 4) } : Ht) = h7 := ⟨_, rfl⟩
  rw [hh7]
  have HH7 := Lib.hid hh7; clear hh7
  have hfm : (rowT 43).form = 90 := by decide +kernel
  obtain ⟨w0, hw0, hx, hi, hz, hy, hb0, hs0⟩ := four_new w (.cells (hA h) 28) (.cells #[.int .i64 43, .int .i64 d, .int .i64 ka, .int .i64 kb, .int .i64 n] 24) (.cells zA 28) (.cells effZ 34)
  have i0 := cell_in hi (j := 0) (u := .int .i64 43) rfl
  have i1 := cell_in hi (j := 1) (u := .int .i64 d) rfl
  have i2 := cell_in hi (j := 2) (u := .int .i64 ka) rfl
  have i3 := cell_in hi (j := 3) (u := .int .i64 kb) rfl
  have i4 := cell_in hi (j := 4) (u := .int .i64 n) rfl
  have HW := Lib.hid hw0
  have HX := Lib.hid hx; have HI := Lib.hid hi; have HZ := Lib.hid hz; have HY := Lib.hid hy; have HR := Lib.hid hr; have FF := Lib.hid f; have HN := Lib.hid hn
  clear hx hi hz hy hw0 hr f hn
  unfold insV
  go_enter Try.func17, Try.ntmps17
  go_upto_region 1 with (fail)
  change Code.wp _ _ _ _ ((((w.alloc (.cells (hA h) 28)).alloc (.cells #[.int .i64 43, .int .i64 d, .int .i64 ka, .int .i64 kb, .int .i64 n] 24)).alloc (.cells zA 28)).alloc (.cells effZ 34))
  rw [← HW.out]
  go_wp2_with fail
  refine (refRight_h 43 d ka kb n true _ HR.out).mono ?_
  rintro e w1 ⟨rfl, hb1⟩
  have HX1 := Lib.hid (upH hb1 HX.out); have HI1 := Lib.hid (upH hb1 HI.out); have HZ1 := Lib.hid (upH hb1 HZ.out); have HY1 := Lib.hid (upH hb1 HY.out)
  have hbw1 : Below w.heap.size w w1 := (by repeat (first | (with_reducible exact Below.refl _ _) | (with_reducible refine bw_set ?_ ?_ _) | (with_reducible apply bw_alloc) | (with_reducible refine bw_tr ?_ (by with_reducible assumption)) | (with_reducible apply bw_drew) | omega))
  have hs1 : w.heap.size + 4 ≤ w1.heap.size := by have := hb1.size; omega
  clear i0 i1 i2 i3 i4 HX HI HZ HY HW hb0 hs0 hb1
  have ca := cell_in HX1.out (show (hA h)[ka]? = some (.int .i64 va) by rw [hA_r h h32 ka hka, HVA.out])
  have cb := cell_in HX1.out (show (hA h)[kb]? = some (.int .i64 vb) by rw [hA_r h h32 kb hkb, HVB.out])
  have c32 := cell_in HX1.out (hA_fields h h32).1
  have i0 := cell_in HI1.out (j := 0) (u := .int .i64 43) rfl
  have i2 := cell_in HI1.out (j := 2) (u := .int .i64 ka) rfl
  have i3 := cell_in HI1.out (j := 3) (u := .int .i64 kb) rfl
  have i4 := cell_in HI1.out (j := 4) (u := .int .i64 n) rfl
  go_upto_region 8 with (first | (go_at_call 38; (with_reducible refine (rwrap_any (h.pc + 4) _ P4.out).mono ?_); rintro e w' ⟨rfl, rfl⟩) | (go_at_call 38; (with_reducible refine (rwrap_any (h.pc + n) _ PN.out).mono ?_); rintro e w' ⟨rfl, rfl⟩))
  go_wp2_with fail
  refine (refRow_any 43 _).mono ?_
  obtain ⟨rw0, hrw⟩ : ∃ r, rowT 43 = r := ⟨_, rfl⟩
  rw [hrw]
  rw [hrw] at hfm
  obtain ⟨nm, fm, lo, mi, hi⟩ := rw0
  simp only at hfm
  clear hrw
  subst hfm
  have hfld : ∀ w : World, (Instr.field 54 (.agg #[.string nm, .int .u8 90, .int .i64 lo, .int .i64 mi, .int .i64 hi]) 1).run Try.prog w = .ok (.int .u8 90) w := fun w => by kernel_rfl
  rintro e w2 ⟨rfl, hb2⟩
  have HX2 := Lib.hid (upH hb2 HX1.out); have HI2 := Lib.hid (upH hb2 HI1.out); have HZ2 := Lib.hid (upH hb2 HZ1.out); have HY2 := Lib.hid (upH hb2 HY1.out)
  have hbw2 : Below w.heap.size w w2 := (by repeat (first | (with_reducible exact Below.refl _ _) | (with_reducible refine bw_set ?_ ?_ _) | (with_reducible apply bw_alloc) | (with_reducible refine bw_tr ?_ (by with_reducible assumption)) | (with_reducible apply bw_drew) | omega))
  have hs2 : w.heap.size + 4 ≤ w2.heap.size := by have := hb2.size; omega
  clear ca cb c32 i0 i2 i3 i4 hb2 HX1 HI1 HZ1 HY1 hbw1 hs1 w4 wn
  unfold rfV
  go_upto_region 12 with (fail)
  clear hfld
  change Code.wp _ _ _ _ (w2.alloc (.cells effZ 34))
  have N3 : Hid ((w2.alloc (.cells effZ 34)).heap[w2.heap.size]? = some (.cells effZ 34 (0, 0))) := Lib.hid (new_in w2 (.cells effZ 34))
  have hb3 : Below w2.heap.size w2 (w2.alloc (.cells effZ 34)) := newH w2 (.cells effZ 34)
  have hs3 : w2.heap.size < (w2.alloc (.cells effZ 34)).heap.size := lt_in N3.out
  obtain ⟨w3, hw3⟩ : ∃ w3 : World, w2.alloc (.cells effZ 34) = w3 := ⟨_, rfl⟩
  rw [hw3] at N3 hb3 hs3 ⊢
  have HX3 := Lib.hid (upH hb3 HX2.out); have HI3 := Lib.hid (upH hb3 HI2.out); have HZ3 := Lib.hid (upH hb3 HZ2.out); have HY3 := Lib.hid (upH hb3 HY2.out)
  have hbw3 : Below w.heap.size w w3 := bw_tr hbw2 hb3
  obtain ⟨pe, hpe⟩ : ∃ pe, w2.heap.size = pe := ⟨_, rfl⟩
  rw [hpe] at N3 hs2 hs3 ⊢
  clear hpe hw3 hb3 HX2 HI2 HZ2 HY2 hbw2
  have i0 := cell_in HI3.out (j := 0) (u := .int .i64 43) rfl
  have i1 := cell_in HI3.out (j := 1) (u := .int .i64 d) rfl
  have i4 := cell_in HI3.out (j := 4) (u := .int .i64 n) rfl
  go_upto_region 43 with (fail)
  go_upto_region 51 with (first | (refine wpList_store_row rfl 34 _ _ rfl pe #[.int .i64 7, .int .i64 0, .int .i64 0, .int .i64 0, .int .i64 0] rfl rfl 34 effZ N3.out (by kernel_rfl) rfl (by kernel_rfl) ?_))
  obtain ⟨w6, hw6⟩ : ∃ w6 : World, w3.setRow pe #[.int .i64 7, .int .i64 0, .int .i64 0, .int .i64 0, .int .i64 0] = w6 := ⟨_, rfl⟩
  have HX6 : Hid (w6.heap[w.heap.size]? = some (.cells (hA h) 28 (0, 0))) := by rw [← hw6]; exact row_ne (by omega) HX3.out
  have HZ6 : Hid (w6.heap[w.heap.size + 2]? = some (.cells zA 28 (0, 0))) := by rw [← hw6]; exact row_ne (by omega) HZ3.out
  have HY6 : Hid (w6.heap[w.heap.size + 3]? = some (.cells effZ 34 (0, 0))) := by rw [← hw6]; exact row_ne (by omega) HY3.out
  have N6 : Hid (w6.heap[pe]? = some (.cells #[.int .i64 7, .int .i64 0, .int .i64 0, .int .i64 0, .int .i64 0] 34 (0, 0))) := by rw [← hw6]; exact setRow_heap _ _ _ _ _ _ N3.out
  have bw6 : Below w.heap.size w w6 := by rw [← hw6]; exact below_setRow hbw3 (by omega) _
  rw [hw6]
  clear hw6 HX3 HZ3 HY3 N3 hbw3 HI3 i0 i1 i4
  have g32 := cell_in HX6.out (hA_fields h h32).1
  have f32 := frozen_in HX6.out 32
  have X7 : Hid ((w6.setCell ⟨w.heap.size, 32, none⟩ (.int .i64 (wrap32 (h.pc + 4)))).heap[w.heap.size]? = some (.cells (hA { h with pc := wrap32 (h.pc + 4) }) 28 (0, 0))) := Lib.hid (set_heap HX6.out 32 (.int .i64 (wrap32 (h.pc + 4))) _ (hA_pc h h32 (wrap32 (h.pc + 4))))
  have Z7 : Hid ((w6.setCell ⟨w.heap.size, 32, none⟩ (.int .i64 (wrap32 (h.pc + 4)))).heap[w.heap.size + 2]? = some (.cells zA 28 (0, 0))) := Lib.hid (heap_set_ne (by omega) HZ6.out)
  have Y7 : Hid ((w6.setCell ⟨w.heap.size, 32, none⟩ (.int .i64 (wrap32 (h.pc + 4)))).heap[w.heap.size + 3]? = some (.cells effZ 34 (0, 0))) := Lib.hid (heap_set_ne (by omega) HY6.out)
  have N7 : Hid ((w6.setCell ⟨w.heap.size, 32, none⟩ (.int .i64 (wrap32 (h.pc + 4)))).heap[pe]? = some (.cells #[.int .i64 7, .int .i64 0, .int .i64 0, .int .i64 0, .int .i64 0] 34 (0, 0))) := Lib.hid (heap_set_ne (by omega) N6.out)
  have B7 : Hid (Below w.heap.size w (w6.setCell ⟨w.heap.size, 32, none⟩ (.int .i64 (wrap32 (h.pc + 4))))) := Lib.hid (bw_set bw6 (Nat.le_refl _) _)
  go_upto_region 52 with (fail)
  obtain ⟨w7, hw7⟩ : ∃ w7 : World, w6.setCell ⟨w.heap.size, 32, none⟩ (.int .i64 (wrap32 (h.pc + 4))) = w7 := ⟨_, rfl⟩
  rw [hw7] at X7 Z7 Y7 N7 B7 ⊢
  have hh7 : ({ h with pc := wrap32 (h.pc + 4) } : Ht) = h7 := HH7.out
  have hl7' : h7.r.length = 32 := by rw [← hh7]; exact h32
  rw [hh7] at X7
  have HL7 := Lib.hid hl7'
  clear hw7 hh7 hl7' g32 f32 HX6 HZ6 HY6 N6
  refine wp_region_up (fun w' => w'.heap[w.heap.size]? = some (.cells (hA h7) 28 (0, 0)) ∧ w'.heap[pe]? = some (.cells #[.int .i64 7, .int .i64 0, .int .i64 0, .int .i64 0, .int .i64 0] 34 (0, 0))) [true, true, false, false] (by kernel_rfl) (by kernel_rfl) (by kernel_rfl) (fun _ _ hh hu => ⟨upH hu hh.1, upH hu hh.2⟩) ⟨X7.out, N7.out⟩ ?ra ?rh ?rt
  case rh =>
    intro w0 h0
    have R0 : Hid (∀ w' : World, (∃ x : Wd w0, w' = x.val) → (loadVar 28 ⟨w.heap.size, 0, none⟩).run Try.prog w' = .ok (.agg (hA h7)) w') := by
      rintro w' ⟨x, rfl⟩
      exact run_loadVar_row _ _ 28 28 (hA h7) (0, 0) _ (bel_in x.bel (lt_in h0.1) h0.1) Try.underlying28 rfl (infoA (hA_size h7 HL7.out))
    have R1 : Hid (∀ w' : World, (∃ x : Wd w0, w' = x.val) → (loadVar 34 ⟨pe, 0, none⟩).run Try.prog w' = .ok (.agg #[.int .i64 7, .int .i64 0, .int .i64 0, .int .i64 0, .int .i64 0]) w') := by
      rintro w' ⟨x, rfl⟩
      exact run_loadVar_row _ _ 34 34 #[.int .i64 7, .int .i64 0, .int .i64 0, .int .i64 0, .int .i64 0] (0, 0) _ (bel_in x.bel (lt_in h0.2) h0.2) Try.underlying34 rfl (by kernel_rfl)
    clear h0
    simp only [pickM]
    go_big_quiet_want
    refine quiet_load_row 28 _ (w.heap.size) (hA h7) rfl rfl R0.out ?_
    simp only [Act.put, List.setIfInBounds_toArray, List.set_cons_succ, List.set_cons_zero]
    go_big_quiet_on
    go_big_quiet_want
    refine quiet_load_row 34 _ pe #[.int .i64 7, .int .i64 0, .int .i64 0, .int .i64 0, .int .i64 0] rfl rfl R1.out ?_
    simp only [Act.put, List.setIfInBounds_toArray, List.set_cons_succ, List.set_cons_zero]
    go_big_quiet_on
    refine wpQuiet_nil ?_
    rfl
  case rt => as_aux_lemma =>
    change wpAnyU _ _ _ _ _ 2 _ _ _
    refine anyU_one (i := 2) (by kernel_rfl) rfl ?_
    intro w8 hu8 hc8
    have hu8 := bw_undrew hu8
    have Z8 := Lib.hid (upH hu8 Z7.out); have Y8 := Lib.hid (upH hu8 Y7.out); have B8 := Lib.hid (bw_tr B7.out hu8); have D8 := Lib.hid hc8
    clear hu8 hc8 X7 Z7 Y7 N7
    go_wp2_with (refine wpList_store_row rfl 28 _ _ rfl (w.heap.size + 2) (hA h7) rfl rfl 28 zA Z8.out (infoA (hA_size h7 HL7.out)) (by rw [hA_size h7 HL7.out]; rfl) (hA_one h7) ?_)
    refine ⟨⟨row_ne (by omega) D8.out.1, row_ne (by omega) D8.out.2⟩, ?_⟩
    refine anyU_one (i := 3) (by kernel_rfl) rfl ?_
    intro w9 hu9 hc9
    have Z9 := Lib.hid (upH hu9 (setRow_heap _ _ _ _ _ _ Z8.out : (w8.setRow (w.heap.size + 2) (hA h7)).heap[w.heap.size + 2]? = some (.cells (hA h7) 28 (0, 0))))
    have Y9 := Lib.hid (upH hu9 (row_ne (cs := hA h7) (by omega) Y8.out))
    have B9 := Lib.hid (bw_tr (below_setRow B8.out (by omega) (hA h7)) hu9 : Below w.heap.size w w9)
    have D9 := Lib.hid hc9
    clear hu9 hc9 Z8 Y8 D8 B8
    go_wp2_with (refine wpList_store_row rfl 34 _ _ rfl (w.heap.size + 3) #[.int .i64 7, .int .i64 0, .int .i64 0, .int .i64 0, .int .i64 0] rfl rfl 34 effZ Y9.out (by kernel_rfl) rfl (by kernel_rfl) ?_)
    refine ⟨⟨row_ne (by omega) D9.out.1, row_ne (by omega) D9.out.2⟩, ?_⟩
    refine anyU_nil (by kernel_rfl) ?_
    intro w10 hu10 hc10
    have Z10 := Lib.hid (upH hu10 (row_ne (cs := #[.int .i64 7, .int .i64 0, .int .i64 0, .int .i64 0, .int .i64 0]) (by omega) Z9.out))
    have Y10 := Lib.hid (upH hu10 (setRow_heap _ _ _ _ _ _ Y9.out : (w9.setRow (w.heap.size + 3) #[.int .i64 7, .int .i64 0, .int .i64 0, .int .i64 0, .int .i64 0]).heap[w.heap.size + 3]? = some (.cells #[.int .i64 7, .int .i64 0, .int .i64 0, .int .i64 0, .int .i64 0] 34 (0, 0))))
    have B10 := Lib.hid (bw_tr (below_setRow B9.out (by omega) #[.int .i64 7, .int .i64 0, .int .i64 0, .int .i64 0, .int .i64 0]) hu10 : Below w.heap.size w w10)
    clear hu10 hc10 Z9 Y9 D9 B9
    go_wp2_with fail
    exact bodyPost_ret (v := .tuple #[.agg (hA h7), .agg #[.int .i64 7, .int .i64 0, .int .i64 0, .int .i64 0, .int .i64 0]]) (results_cells2 rfl _ _ (w.heap.size + 2) (w.heap.size + 3) 28 34 (hA h7) #[.int .i64 7, .int .i64 0, .int .i64 0, .int .i64 0, .int .i64 0] (0, 0) (0, 0) _ _ rfl rfl Z10.out Y10.out Try.underlying28 rfl (infoA (hA_size h7 HL7.out)) Try.underlying34 rfl (by kernel_rfl)) rfl ⟨rfl, B10.out⟩
set_option maxRecDepth 100000 in
set_option maxHeartbeats 8000000 in
theorem rstep_45 (h : Ht) (id d n : Int) (ka kb : Nat) (w : World) (f : Fine h) (hr : rightB ⟨45, d, ka, kb, n⟩ = true) (hka : ka < 32) (hkb : kb < 32) (hn : -1048576 ≤ n ∧ n ≤ 1048575) :
    Calls Try.prog 17 #[.agg (hA h), .int .i64 id, insV ⟨45, d, ka, kb, n⟩] w fun e w' => e = .returned (.tuple #[.agg (hA ({ h with pc := wrap32 (h.pc + 4) })), effV ⟨8, 0, 0, 0, 0⟩]) ∧ Below w.heap.size w w' := by
  have h32 := f.len
  have P4 : Hid (I64 (h.pc + 4)) := Lib.hid (by have := f.pc.1.1; have := f.pc.1.2; constructor <;> omega)
  have PN : Hid (I64 (h.pc + n)) := Lib.hid (by have := f.pc.1.1; have := f.pc.1.2; constructor <;> omega)
  obtain ⟨va, hva⟩ : ∃ va, h.r.getD ka 0 = va := ⟨_, rfl⟩
  obtain ⟨vb, hvb⟩ : ∃ vb, h.r.getD kb 0 = vb := ⟨_, rfl⟩
  have IAI : Hid (I32 va) := Lib.hid (hva ▸ f.reg ka hka)
  have IBI : Hid (I32 vb) := Lib.hid (hvb ▸ f.reg kb hkb)
  have HVA := Lib.hid hva; have HVB := Lib.hid hvb
  try rw [hva]
  try rw [hvb]
  clear hva hvb
  have w4 : IntKind.i64.wrap (h.pc + 4) = h.pc + 4 := IntWalk.i64_in _ (by have := P4.out.1; have := P4.out.2; omega)
  have wn : IntKind.i64.wrap (h.pc + n) = h.pc + n := IntWalk.i64_in _ (by have := PN.out.1; have := PN.out.2; omega)
  obtain ⟨h7, hh7⟩ : ∃ h7 : Ht, ({ h with pc := wrap32 (h.pc + 4) } : Ht) = h7 := ⟨_, rfl⟩
  rw [hh7]
  have HH7 := Lib.hid hh7; clear hh7
  have hfm : (rowT 45).form = 90 := by decide +kernel
  obtain ⟨w0, hw0, hx, hi, hz, hy, hb0, hs0⟩ := four_new w (.cells (hA h) 28) (.cells #[.int .i64 45, .int .i64 d, .int .i64 ka, .int .i64 kb, .int .i64 n] 24) (.cells zA 28) (.cells effZ 34)
  have i0 := cell_in hi (j := 0) (u := .int .i64 45) rfl
  have i1 := cell_in hi (j := 1) (u := .int .i64 d) rfl
  have i2 := cell_in hi (j := 2) (u := .int .i64 ka) rfl
  have i3 := cell_in hi (j := 3) (u := .int .i64 kb) rfl
  have i4 := cell_in hi (j := 4) (u := .int .i64 n) rfl
  have HW := Lib.hid hw0
  have HX := Lib.hid hx; have HI := Lib.hid hi; have HZ := Lib.hid hz; have HY := Lib.hid hy; have HR := Lib.hid hr; have FF := Lib.hid f; have HN := Lib.hid hn
  clear hx hi hz hy hw0 hr f hn
  unfold insV
  go_enter Try.func17, Try.ntmps17
  go_upto_region 1 with (fail)
  change Code.wp _ _ _ _ ((((w.alloc (.cells (hA h) 28)).alloc (.cells #[.int .i64 45, .int .i64 d, .int .i64 ka, .int .i64 kb, .int .i64 n] 24)).alloc (.cells zA 28)).alloc (.cells effZ 34))
  rw [← HW.out]
  go_wp2_with fail
  refine (refRight_h 45 d ka kb n true _ HR.out).mono ?_
  rintro e w1 ⟨rfl, hb1⟩
  have HX1 := Lib.hid (upH hb1 HX.out); have HI1 := Lib.hid (upH hb1 HI.out); have HZ1 := Lib.hid (upH hb1 HZ.out); have HY1 := Lib.hid (upH hb1 HY.out)
  have hbw1 : Below w.heap.size w w1 := (by repeat (first | (with_reducible exact Below.refl _ _) | (with_reducible refine bw_set ?_ ?_ _) | (with_reducible apply bw_alloc) | (with_reducible refine bw_tr ?_ (by with_reducible assumption)) | (with_reducible apply bw_drew) | omega))
  have hs1 : w.heap.size + 4 ≤ w1.heap.size := by have := hb1.size; omega
  clear i0 i1 i2 i3 i4 HX HI HZ HY HW hb0 hs0 hb1
  have ca := cell_in HX1.out (show (hA h)[ka]? = some (.int .i64 va) by rw [hA_r h h32 ka hka, HVA.out])
  have cb := cell_in HX1.out (show (hA h)[kb]? = some (.int .i64 vb) by rw [hA_r h h32 kb hkb, HVB.out])
  have c32 := cell_in HX1.out (hA_fields h h32).1
  have i0 := cell_in HI1.out (j := 0) (u := .int .i64 45) rfl
  have i2 := cell_in HI1.out (j := 2) (u := .int .i64 ka) rfl
  have i3 := cell_in HI1.out (j := 3) (u := .int .i64 kb) rfl
  have i4 := cell_in HI1.out (j := 4) (u := .int .i64 n) rfl
  go_upto_region 8 with (first | (go_at_call 38; (with_reducible refine (rwrap_any (h.pc + 4) _ P4.out).mono ?_); rintro e w' ⟨rfl, rfl⟩) | (go_at_call 38; (with_reducible refine (rwrap_any (h.pc + n) _ PN.out).mono ?_); rintro e w' ⟨rfl, rfl⟩))
  go_wp2_with fail
  refine (refRow_any 45 _).mono ?_
  obtain ⟨rw0, hrw⟩ : ∃ r, rowT 45 = r := ⟨_, rfl⟩
  rw [hrw]
  rw [hrw] at hfm
  obtain ⟨nm, fm, lo, mi, hi⟩ := rw0
  simp only at hfm
  clear hrw
  subst hfm
  have hfld : ∀ w : World, (Instr.field 54 (.agg #[.string nm, .int .u8 90, .int .i64 lo, .int .i64 mi, .int .i64 hi]) 1).run Try.prog w = .ok (.int .u8 90) w := fun w => by kernel_rfl
  rintro e w2 ⟨rfl, hb2⟩
  have HX2 := Lib.hid (upH hb2 HX1.out); have HI2 := Lib.hid (upH hb2 HI1.out); have HZ2 := Lib.hid (upH hb2 HZ1.out); have HY2 := Lib.hid (upH hb2 HY1.out)
  have hbw2 : Below w.heap.size w w2 := (by repeat (first | (with_reducible exact Below.refl _ _) | (with_reducible refine bw_set ?_ ?_ _) | (with_reducible apply bw_alloc) | (with_reducible refine bw_tr ?_ (by with_reducible assumption)) | (with_reducible apply bw_drew) | omega))
  have hs2 : w.heap.size + 4 ≤ w2.heap.size := by have := hb2.size; omega
  clear ca cb c32 i0 i2 i3 i4 hb2 HX1 HI1 HZ1 HY1 hbw1 hs1 w4 wn
  unfold rfV
  go_upto_region 12 with (fail)
  clear hfld
  change Code.wp _ _ _ _ (w2.alloc (.cells effZ 34))
  have N3 : Hid ((w2.alloc (.cells effZ 34)).heap[w2.heap.size]? = some (.cells effZ 34 (0, 0))) := Lib.hid (new_in w2 (.cells effZ 34))
  have hb3 : Below w2.heap.size w2 (w2.alloc (.cells effZ 34)) := newH w2 (.cells effZ 34)
  have hs3 : w2.heap.size < (w2.alloc (.cells effZ 34)).heap.size := lt_in N3.out
  obtain ⟨w3, hw3⟩ : ∃ w3 : World, w2.alloc (.cells effZ 34) = w3 := ⟨_, rfl⟩
  rw [hw3] at N3 hb3 hs3 ⊢
  have HX3 := Lib.hid (upH hb3 HX2.out); have HI3 := Lib.hid (upH hb3 HI2.out); have HZ3 := Lib.hid (upH hb3 HZ2.out); have HY3 := Lib.hid (upH hb3 HY2.out)
  have hbw3 : Below w.heap.size w w3 := bw_tr hbw2 hb3
  obtain ⟨pe, hpe⟩ : ∃ pe, w2.heap.size = pe := ⟨_, rfl⟩
  rw [hpe] at N3 hs2 hs3 ⊢
  clear hpe hw3 hb3 HX2 HI2 HZ2 HY2 hbw2
  have i0 := cell_in HI3.out (j := 0) (u := .int .i64 45) rfl
  have i1 := cell_in HI3.out (j := 1) (u := .int .i64 d) rfl
  have i4 := cell_in HI3.out (j := 4) (u := .int .i64 n) rfl
  go_upto_region 45 with (fail)
  go_upto_region 51 with (first | (refine wpList_store_row rfl 34 _ _ rfl pe #[.int .i64 8, .int .i64 0, .int .i64 0, .int .i64 0, .int .i64 0] rfl rfl 34 effZ N3.out (by kernel_rfl) rfl (by kernel_rfl) ?_))
  obtain ⟨w6, hw6⟩ : ∃ w6 : World, w3.setRow pe #[.int .i64 8, .int .i64 0, .int .i64 0, .int .i64 0, .int .i64 0] = w6 := ⟨_, rfl⟩
  have HX6 : Hid (w6.heap[w.heap.size]? = some (.cells (hA h) 28 (0, 0))) := by rw [← hw6]; exact row_ne (by omega) HX3.out
  have HZ6 : Hid (w6.heap[w.heap.size + 2]? = some (.cells zA 28 (0, 0))) := by rw [← hw6]; exact row_ne (by omega) HZ3.out
  have HY6 : Hid (w6.heap[w.heap.size + 3]? = some (.cells effZ 34 (0, 0))) := by rw [← hw6]; exact row_ne (by omega) HY3.out
  have N6 : Hid (w6.heap[pe]? = some (.cells #[.int .i64 8, .int .i64 0, .int .i64 0, .int .i64 0, .int .i64 0] 34 (0, 0))) := by rw [← hw6]; exact setRow_heap _ _ _ _ _ _ N3.out
  have bw6 : Below w.heap.size w w6 := by rw [← hw6]; exact below_setRow hbw3 (by omega) _
  rw [hw6]
  clear hw6 HX3 HZ3 HY3 N3 hbw3 HI3 i0 i1 i4
  have g32 := cell_in HX6.out (hA_fields h h32).1
  have f32 := frozen_in HX6.out 32
  have X7 : Hid ((w6.setCell ⟨w.heap.size, 32, none⟩ (.int .i64 (wrap32 (h.pc + 4)))).heap[w.heap.size]? = some (.cells (hA { h with pc := wrap32 (h.pc + 4) }) 28 (0, 0))) := Lib.hid (set_heap HX6.out 32 (.int .i64 (wrap32 (h.pc + 4))) _ (hA_pc h h32 (wrap32 (h.pc + 4))))
  have Z7 : Hid ((w6.setCell ⟨w.heap.size, 32, none⟩ (.int .i64 (wrap32 (h.pc + 4)))).heap[w.heap.size + 2]? = some (.cells zA 28 (0, 0))) := Lib.hid (heap_set_ne (by omega) HZ6.out)
  have Y7 : Hid ((w6.setCell ⟨w.heap.size, 32, none⟩ (.int .i64 (wrap32 (h.pc + 4)))).heap[w.heap.size + 3]? = some (.cells effZ 34 (0, 0))) := Lib.hid (heap_set_ne (by omega) HY6.out)
  have N7 : Hid ((w6.setCell ⟨w.heap.size, 32, none⟩ (.int .i64 (wrap32 (h.pc + 4)))).heap[pe]? = some (.cells #[.int .i64 8, .int .i64 0, .int .i64 0, .int .i64 0, .int .i64 0] 34 (0, 0))) := Lib.hid (heap_set_ne (by omega) N6.out)
  have B7 : Hid (Below w.heap.size w (w6.setCell ⟨w.heap.size, 32, none⟩ (.int .i64 (wrap32 (h.pc + 4))))) := Lib.hid (bw_set bw6 (Nat.le_refl _) _)
  go_upto_region 52 with (fail)
  obtain ⟨w7, hw7⟩ : ∃ w7 : World, w6.setCell ⟨w.heap.size, 32, none⟩ (.int .i64 (wrap32 (h.pc + 4))) = w7 := ⟨_, rfl⟩
  rw [hw7] at X7 Z7 Y7 N7 B7 ⊢
  have hh7 : ({ h with pc := wrap32 (h.pc + 4) } : Ht) = h7 := HH7.out
  have hl7' : h7.r.length = 32 := by rw [← hh7]; exact h32
  rw [hh7] at X7
  have HL7 := Lib.hid hl7'
  clear hw7 hh7 hl7' g32 f32 HX6 HZ6 HY6 N6
  refine wp_region_up (fun w' => w'.heap[w.heap.size]? = some (.cells (hA h7) 28 (0, 0)) ∧ w'.heap[pe]? = some (.cells #[.int .i64 8, .int .i64 0, .int .i64 0, .int .i64 0, .int .i64 0] 34 (0, 0))) [true, true, false, false] (by kernel_rfl) (by kernel_rfl) (by kernel_rfl) (fun _ _ hh hu => ⟨upH hu hh.1, upH hu hh.2⟩) ⟨X7.out, N7.out⟩ ?ra ?rh ?rt
  case rh =>
    intro w0 h0
    have R0 : Hid (∀ w' : World, (∃ x : Wd w0, w' = x.val) → (loadVar 28 ⟨w.heap.size, 0, none⟩).run Try.prog w' = .ok (.agg (hA h7)) w') := by
      rintro w' ⟨x, rfl⟩
      exact run_loadVar_row _ _ 28 28 (hA h7) (0, 0) _ (bel_in x.bel (lt_in h0.1) h0.1) Try.underlying28 rfl (infoA (hA_size h7 HL7.out))
    have R1 : Hid (∀ w' : World, (∃ x : Wd w0, w' = x.val) → (loadVar 34 ⟨pe, 0, none⟩).run Try.prog w' = .ok (.agg #[.int .i64 8, .int .i64 0, .int .i64 0, .int .i64 0, .int .i64 0]) w') := by
      rintro w' ⟨x, rfl⟩
      exact run_loadVar_row _ _ 34 34 #[.int .i64 8, .int .i64 0, .int .i64 0, .int .i64 0, .int .i64 0] (0, 0) _ (bel_in x.bel (lt_in h0.2) h0.2) Try.underlying34 rfl (by kernel_rfl)
    clear h0
    simp only [pickM]
    go_big_quiet_want
    refine quiet_load_row 28 _ (w.heap.size) (hA h7) rfl rfl R0.out ?_
    simp only [Act.put, List.setIfInBounds_toArray, List.set_cons_succ, List.set_cons_zero]
    go_big_quiet_on
    go_big_quiet_want
    refine quiet_load_row 34 _ pe #[.int .i64 8, .int .i64 0, .int .i64 0, .int .i64 0, .int .i64 0] rfl rfl R1.out ?_
    simp only [Act.put, List.setIfInBounds_toArray, List.set_cons_succ, List.set_cons_zero]
    go_big_quiet_on
    refine wpQuiet_nil ?_
    rfl
  case rt => as_aux_lemma =>
    change wpAnyU _ _ _ _ _ 2 _ _ _
    refine anyU_one (i := 2) (by kernel_rfl) rfl ?_
    intro w8 hu8 hc8
    have hu8 := bw_undrew hu8
    have Z8 := Lib.hid (upH hu8 Z7.out); have Y8 := Lib.hid (upH hu8 Y7.out); have B8 := Lib.hid (bw_tr B7.out hu8); have D8 := Lib.hid hc8
    clear hu8 hc8 X7 Z7 Y7 N7
    go_wp2_with (refine wpList_store_row rfl 28 _ _ rfl (w.heap.size + 2) (hA h7) rfl rfl 28 zA Z8.out (infoA (hA_size h7 HL7.out)) (by rw [hA_size h7 HL7.out]; rfl) (hA_one h7) ?_)
    refine ⟨⟨row_ne (by omega) D8.out.1, row_ne (by omega) D8.out.2⟩, ?_⟩
    refine anyU_one (i := 3) (by kernel_rfl) rfl ?_
    intro w9 hu9 hc9
    have Z9 := Lib.hid (upH hu9 (setRow_heap _ _ _ _ _ _ Z8.out : (w8.setRow (w.heap.size + 2) (hA h7)).heap[w.heap.size + 2]? = some (.cells (hA h7) 28 (0, 0))))
    have Y9 := Lib.hid (upH hu9 (row_ne (cs := hA h7) (by omega) Y8.out))
    have B9 := Lib.hid (bw_tr (below_setRow B8.out (by omega) (hA h7)) hu9 : Below w.heap.size w w9)
    have D9 := Lib.hid hc9
    clear hu9 hc9 Z8 Y8 D8 B8
    go_wp2_with (refine wpList_store_row rfl 34 _ _ rfl (w.heap.size + 3) #[.int .i64 8, .int .i64 0, .int .i64 0, .int .i64 0, .int .i64 0] rfl rfl 34 effZ Y9.out (by kernel_rfl) rfl (by kernel_rfl) ?_)
    refine ⟨⟨row_ne (by omega) D9.out.1, row_ne (by omega) D9.out.2⟩, ?_⟩
    refine anyU_nil (by kernel_rfl) ?_
    intro w10 hu10 hc10
    have Z10 := Lib.hid (upH hu10 (row_ne (cs := #[.int .i64 8, .int .i64 0, .int .i64 0, .int .i64 0, .int .i64 0]) (by omega) Z9.out))
    have Y10 := Lib.hid (upH hu10 (setRow_heap _ _ _ _ _ _ Y9.out : (w9.setRow (w.heap.size + 3) #[.int .i64 8, .int .i64 0, .int .i64 0, .int .i64 0, .int .i64 0]).heap[w.heap.size + 3]? = some (.cells #[.int .i64 8, .int .i64 0, .int .i64 0, .int .i64 0, .int .i64 0] 34 (0, 0))))
    have B10 := Lib.hid (bw_tr (below_setRow B9.out (by omega) #[.int .i64 8, .int .i64 0, .int .i64 0, .int .i64 0, .int .i64 0]) hu10 : Below w.heap.size w w10)
    clear hu10 hc10 Z9 Y9 D9 B9
    go_wp2_with fail
    exact bodyPost_ret (v := .tuple #[.agg (hA h7), .agg #[.int .i64 8, .int .i64 0, .int .i64 0, .int .i64 0, .int .i64 0]]) (results_cells2 rfl _ _ (w.heap.size + 2) (w.heap.size + 3) 28 34 (hA h7) #[.int .i64 8, .int .i64 0, .int .i64 0, .int .i64 0, .int .i64 0] (0, 0) (0, 0) _ _ rfl rfl Z10.out Y10.out Try.underlying28 rfl (infoA (hA_size h7 HL7.out)) Try.underlying34 rfl (by kernel_rfl)) rfl ⟨rfl, B10.out⟩
set_option maxRecDepth 100000 in
set_option maxHeartbeats 8000000 in
theorem rstep_11 (h : Ht) (id d n : Int) (ka kb : Nat) (w : World) (f : Fine h) (hr : rightB ⟨11, d, ka, kb, n⟩ = true) (hka : ka < 32) (hkb : kb < 32) (hn : -1048576 ≤ n ∧ n ≤ 1048575) :
    Calls Try.prog 17 #[.agg (hA h), .int .i64 id, insV ⟨11, d, ka, kb, n⟩] w fun e w' => e = .returned (.tuple #[.agg (hA ({ h with pc := wrap32 (h.pc + 4) })), effV ⟨1, d, wrap32 ((h.r.getD ka 0) + n), 0, 0⟩]) ∧ Below w.heap.size w w' := by
  have h32 := f.len
  have P4 : Hid (I64 (h.pc + 4)) := Lib.hid (by have := f.pc.1.1; have := f.pc.1.2; constructor <;> omega)
  have PN : Hid (I64 (h.pc + n)) := Lib.hid (by have := f.pc.1.1; have := f.pc.1.2; constructor <;> omega)
  obtain ⟨va, hva⟩ : ∃ va, h.r.getD ka 0 = va := ⟨_, rfl⟩
  obtain ⟨vb, hvb⟩ : ∃ vb, h.r.getD kb 0 = vb := ⟨_, rfl⟩
  have IAI : Hid (I32 va) := Lib.hid (hva ▸ f.reg ka hka)
  have IBI : Hid (I32 vb) := Lib.hid (hvb ▸ f.reg kb hkb)
  have HVA := Lib.hid hva; have HVB := Lib.hid hvb
  try rw [hva]
  try rw [hvb]
  clear hva hvb
  have w4 : IntKind.i64.wrap (h.pc + 4) = h.pc + 4 := IntWalk.i64_in _ (by have := P4.out.1; have := P4.out.2; omega)
  have wn : IntKind.i64.wrap (h.pc + n) = h.pc + n := IntWalk.i64_in _ (by have := PN.out.1; have := PN.out.2; omega)
  obtain ⟨h7, hh7⟩ : ∃ h7 : Ht, ({ h with pc := wrap32 (h.pc + 4) } : Ht) = h7 := ⟨_, rfl⟩
  rw [hh7]
  have HH7 := Lib.hid hh7; clear hh7
  have hvn : I64 (va + n) := by have := IAI.out.1; have := IAI.out.2; constructor <;> omega
  have HVN := Lib.hid hvn
  have wvn : IntKind.i64.wrap (va + n) = va + n := IntWalk.i64_in _ (by have := hvn.1; have := hvn.2; omega)
  clear hvn
  have hfm : (rowT 11).form = 73 := by decide +kernel
  obtain ⟨w0, hw0, hx, hi, hz, hy, hb0, hs0⟩ := four_new w (.cells (hA h) 28) (.cells #[.int .i64 11, .int .i64 d, .int .i64 ka, .int .i64 kb, .int .i64 n] 24) (.cells zA 28) (.cells effZ 34)
  have i0 := cell_in hi (j := 0) (u := .int .i64 11) rfl
  have i1 := cell_in hi (j := 1) (u := .int .i64 d) rfl
  have i2 := cell_in hi (j := 2) (u := .int .i64 ka) rfl
  have i3 := cell_in hi (j := 3) (u := .int .i64 kb) rfl
  have i4 := cell_in hi (j := 4) (u := .int .i64 n) rfl
  have HW := Lib.hid hw0
  have HX := Lib.hid hx; have HI := Lib.hid hi; have HZ := Lib.hid hz; have HY := Lib.hid hy; have HR := Lib.hid hr; have FF := Lib.hid f; have HN := Lib.hid hn
  clear hx hi hz hy hw0 hr f hn
  unfold insV
  go_enter Try.func17, Try.ntmps17
  go_upto_region 1 with (fail)
  change Code.wp _ _ _ _ ((((w.alloc (.cells (hA h) 28)).alloc (.cells #[.int .i64 11, .int .i64 d, .int .i64 ka, .int .i64 kb, .int .i64 n] 24)).alloc (.cells zA 28)).alloc (.cells effZ 34))
  rw [← HW.out]
  go_wp2_with fail
  refine (refRight_h 11 d ka kb n true _ HR.out).mono ?_
  rintro e w1 ⟨rfl, hb1⟩
  have HX1 := Lib.hid (upH hb1 HX.out); have HI1 := Lib.hid (upH hb1 HI.out); have HZ1 := Lib.hid (upH hb1 HZ.out); have HY1 := Lib.hid (upH hb1 HY.out)
  have hbw1 : Below w.heap.size w w1 := (by repeat (first | (with_reducible exact Below.refl _ _) | (with_reducible refine bw_set ?_ ?_ _) | (with_reducible apply bw_alloc) | (with_reducible refine bw_tr ?_ (by with_reducible assumption)) | (with_reducible apply bw_drew) | omega))
  have hs1 : w.heap.size + 4 ≤ w1.heap.size := by have := hb1.size; omega
  clear i0 i1 i2 i3 i4 HX HI HZ HY HW hb0 hs0 hb1
  have ca := cell_in HX1.out (show (hA h)[ka]? = some (.int .i64 va) by rw [hA_r h h32 ka hka, HVA.out])
  have cb := cell_in HX1.out (show (hA h)[kb]? = some (.int .i64 vb) by rw [hA_r h h32 kb hkb, HVB.out])
  have c32 := cell_in HX1.out (hA_fields h h32).1
  have i0 := cell_in HI1.out (j := 0) (u := .int .i64 11) rfl
  have i2 := cell_in HI1.out (j := 2) (u := .int .i64 ka) rfl
  have i3 := cell_in HI1.out (j := 3) (u := .int .i64 kb) rfl
  have i4 := cell_in HI1.out (j := 4) (u := .int .i64 n) rfl
  go_upto_region 8 with (first | (go_at_call 38; (with_reducible refine (rwrap_any (h.pc + 4) _ P4.out).mono ?_); rintro e w' ⟨rfl, rfl⟩) | (go_at_call 38; (with_reducible refine (rwrap_any (h.pc + n) _ PN.out).mono ?_); rintro e w' ⟨rfl, rfl⟩))
  go_wp2_with fail
  refine (refRow_any 11 _).mono ?_
  obtain ⟨rw0, hrw⟩ : ∃ r, rowT 11 = r := ⟨_, rfl⟩
  rw [hrw]
  rw [hrw] at hfm
  obtain ⟨nm, fm, lo, mi, hi⟩ := rw0
  simp only at hfm
  clear hrw
  subst hfm
  have hfld : ∀ w : World, (Instr.field 54 (.agg #[.string nm, .int .u8 73, .int .i64 lo, .int .i64 mi, .int .i64 hi]) 1).run Try.prog w = .ok (.int .u8 73) w := fun w => by kernel_rfl
  rintro e w2 ⟨rfl, hb2⟩
  have HX2 := Lib.hid (upH hb2 HX1.out); have HI2 := Lib.hid (upH hb2 HI1.out); have HZ2 := Lib.hid (upH hb2 HZ1.out); have HY2 := Lib.hid (upH hb2 HY1.out)
  have hbw2 : Below w.heap.size w w2 := (by repeat (first | (with_reducible exact Below.refl _ _) | (with_reducible refine bw_set ?_ ?_ _) | (with_reducible apply bw_alloc) | (with_reducible refine bw_tr ?_ (by with_reducible assumption)) | (with_reducible apply bw_drew) | omega))
  have hs2 : w.heap.size + 4 ≤ w2.heap.size := by have := hb2.size; omega
  clear ca cb c32 i0 i2 i3 i4 hb2 HX1 HI1 HZ1 HY1 hbw1 hs1 w4 wn
  unfold rfV
  go_upto_region 12 with (fail)
  clear hfld
  change Code.wp _ _ _ _ (w2.alloc (.cells effZ 34))
  have N3 : Hid ((w2.alloc (.cells effZ 34)).heap[w2.heap.size]? = some (.cells effZ 34 (0, 0))) := Lib.hid (new_in w2 (.cells effZ 34))
  have hb3 : Below w2.heap.size w2 (w2.alloc (.cells effZ 34)) := newH w2 (.cells effZ 34)
  have hs3 : w2.heap.size < (w2.alloc (.cells effZ 34)).heap.size := lt_in N3.out
  obtain ⟨w3, hw3⟩ : ∃ w3 : World, w2.alloc (.cells effZ 34) = w3 := ⟨_, rfl⟩
  rw [hw3] at N3 hb3 hs3 ⊢
  have HX3 := Lib.hid (upH hb3 HX2.out); have HI3 := Lib.hid (upH hb3 HI2.out); have HZ3 := Lib.hid (upH hb3 HZ2.out); have HY3 := Lib.hid (upH hb3 HY2.out)
  have hbw3 : Below w.heap.size w w3 := bw_tr hbw2 hb3
  obtain ⟨pe, hpe⟩ : ∃ pe, w2.heap.size = pe := ⟨_, rfl⟩
  rw [hpe] at N3 hs2 hs3 ⊢
  clear hpe hw3 hb3 HX2 HI2 HZ2 HY2 hbw2
  have i0 := cell_in HI3.out (j := 0) (u := .int .i64 11) rfl
  have i1 := cell_in HI3.out (j := 1) (u := .int .i64 d) rfl
  have i4 := cell_in HI3.out (j := 4) (u := .int .i64 n) rfl
  go_upto_region 27 with (fail)
  have r1 := fun x => wd_cell (lt_in HI3.out) i1 x
  have r4 := fun x => wd_cell (lt_in HI3.out) i4 x
  clear i0 i1 i4
  refine wp_region_below_tail 8 (by kernel_rfl) (by kernel_rfl) ?_
  simp only [List.take_succ_cons, List.take_zero, List.drop_succ_cons, List.drop_zero]
  repeat (go_big_quiet_step ((go_at_call 38; with_reducible exact quiet_s (rwrap_any (va + n) _ HVN.out))))
  refine wpQuiet_nil ?_
  rintro w5 ⟨⟨w5x, hb5⟩, rfl⟩
  have HX5 := Lib.hid (upH hb5 HX3.out); have HZ5 := Lib.hid (upH hb5 HZ3.out); have HY5 := Lib.hid (upH hb5 HY3.out); have N5 := Lib.hid (upH hb5 N3.out)
  have hbw5 : Below w.heap.size w w5 := bw_tr hbw3 hb5
  clear r1 r4 HX3 HI3 HZ3 HY3 N3 hbw3 hb5 hs3
  go_upto_region 51 with (first | (refine wpList_store_row rfl 34 _ _ rfl pe #[.int .i64 1, .int .i64 d, .int .i64 (wrap32 (va + n)), .int .i64 0, .int .i64 0] rfl rfl 34 effZ N5.out (by kernel_rfl) rfl (by kernel_rfl) ?_))
  obtain ⟨w6, hw6⟩ : ∃ w6 : World, w5.setRow pe #[.int .i64 1, .int .i64 d, .int .i64 (wrap32 (va + n)), .int .i64 0, .int .i64 0] = w6 := ⟨_, rfl⟩
  have HX6 : Hid (w6.heap[w.heap.size]? = some (.cells (hA h) 28 (0, 0))) := by rw [← hw6]; exact row_ne (by omega) HX5.out
  have HZ6 : Hid (w6.heap[w.heap.size + 2]? = some (.cells zA 28 (0, 0))) := by rw [← hw6]; exact row_ne (by omega) HZ5.out
  have HY6 : Hid (w6.heap[w.heap.size + 3]? = some (.cells effZ 34 (0, 0))) := by rw [← hw6]; exact row_ne (by omega) HY5.out
  have N6 : Hid (w6.heap[pe]? = some (.cells #[.int .i64 1, .int .i64 d, .int .i64 (wrap32 (va + n)), .int .i64 0, .int .i64 0] 34 (0, 0))) := by rw [← hw6]; exact setRow_heap _ _ _ _ _ _ N5.out
  have bw6 : Below w.heap.size w w6 := by rw [← hw6]; exact below_setRow hbw5 (by omega) _
  rw [hw6]
  clear hw6 HX5 HZ5 HY5 N5 hbw5
  have g32 := cell_in HX6.out (hA_fields h h32).1
  have f32 := frozen_in HX6.out 32
  have X7 : Hid ((w6.setCell ⟨w.heap.size, 32, none⟩ (.int .i64 (wrap32 (h.pc + 4)))).heap[w.heap.size]? = some (.cells (hA { h with pc := wrap32 (h.pc + 4) }) 28 (0, 0))) := Lib.hid (set_heap HX6.out 32 (.int .i64 (wrap32 (h.pc + 4))) _ (hA_pc h h32 (wrap32 (h.pc + 4))))
  have Z7 : Hid ((w6.setCell ⟨w.heap.size, 32, none⟩ (.int .i64 (wrap32 (h.pc + 4)))).heap[w.heap.size + 2]? = some (.cells zA 28 (0, 0))) := Lib.hid (heap_set_ne (by omega) HZ6.out)
  have Y7 : Hid ((w6.setCell ⟨w.heap.size, 32, none⟩ (.int .i64 (wrap32 (h.pc + 4)))).heap[w.heap.size + 3]? = some (.cells effZ 34 (0, 0))) := Lib.hid (heap_set_ne (by omega) HY6.out)
  have N7 : Hid ((w6.setCell ⟨w.heap.size, 32, none⟩ (.int .i64 (wrap32 (h.pc + 4)))).heap[pe]? = some (.cells #[.int .i64 1, .int .i64 d, .int .i64 (wrap32 (va + n)), .int .i64 0, .int .i64 0] 34 (0, 0))) := Lib.hid (heap_set_ne (by omega) N6.out)
  have B7 : Hid (Below w.heap.size w (w6.setCell ⟨w.heap.size, 32, none⟩ (.int .i64 (wrap32 (h.pc + 4))))) := Lib.hid (bw_set bw6 (Nat.le_refl _) _)
  go_upto_region 52 with (fail)
  obtain ⟨w7, hw7⟩ : ∃ w7 : World, w6.setCell ⟨w.heap.size, 32, none⟩ (.int .i64 (wrap32 (h.pc + 4))) = w7 := ⟨_, rfl⟩
  rw [hw7] at X7 Z7 Y7 N7 B7 ⊢
  have hh7 : ({ h with pc := wrap32 (h.pc + 4) } : Ht) = h7 := HH7.out
  have hl7' : h7.r.length = 32 := by rw [← hh7]; exact h32
  rw [hh7] at X7
  have HL7 := Lib.hid hl7'
  clear hw7 hh7 hl7' g32 f32 HX6 HZ6 HY6 N6
  refine wp_region_up (fun w' => w'.heap[w.heap.size]? = some (.cells (hA h7) 28 (0, 0)) ∧ w'.heap[pe]? = some (.cells #[.int .i64 1, .int .i64 d, .int .i64 (wrap32 (va + n)), .int .i64 0, .int .i64 0] 34 (0, 0))) [true, true, false, false] (by kernel_rfl) (by kernel_rfl) (by kernel_rfl) (fun _ _ hh hu => ⟨upH hu hh.1, upH hu hh.2⟩) ⟨X7.out, N7.out⟩ ?ra ?rh ?rt
  case rh =>
    intro w0 h0
    have R0 : Hid (∀ w' : World, (∃ x : Wd w0, w' = x.val) → (loadVar 28 ⟨w.heap.size, 0, none⟩).run Try.prog w' = .ok (.agg (hA h7)) w') := by
      rintro w' ⟨x, rfl⟩
      exact run_loadVar_row _ _ 28 28 (hA h7) (0, 0) _ (bel_in x.bel (lt_in h0.1) h0.1) Try.underlying28 rfl (infoA (hA_size h7 HL7.out))
    have R1 : Hid (∀ w' : World, (∃ x : Wd w0, w' = x.val) → (loadVar 34 ⟨pe, 0, none⟩).run Try.prog w' = .ok (.agg #[.int .i64 1, .int .i64 d, .int .i64 (wrap32 (va + n)), .int .i64 0, .int .i64 0]) w') := by
      rintro w' ⟨x, rfl⟩
      exact run_loadVar_row _ _ 34 34 #[.int .i64 1, .int .i64 d, .int .i64 (wrap32 (va + n)), .int .i64 0, .int .i64 0] (0, 0) _ (bel_in x.bel (lt_in h0.2) h0.2) Try.underlying34 rfl (by kernel_rfl)
    clear h0
    simp only [pickM]
    go_big_quiet_want
    refine quiet_load_row 28 _ (w.heap.size) (hA h7) rfl rfl R0.out ?_
    simp only [Act.put, List.setIfInBounds_toArray, List.set_cons_succ, List.set_cons_zero]
    go_big_quiet_on
    go_big_quiet_want
    refine quiet_load_row 34 _ pe #[.int .i64 1, .int .i64 d, .int .i64 (wrap32 (va + n)), .int .i64 0, .int .i64 0] rfl rfl R1.out ?_
    simp only [Act.put, List.setIfInBounds_toArray, List.set_cons_succ, List.set_cons_zero]
    go_big_quiet_on
    refine wpQuiet_nil ?_
    rfl
  case rt => as_aux_lemma =>
    change wpAnyU _ _ _ _ _ 2 _ _ _
    refine anyU_one (i := 2) (by kernel_rfl) rfl ?_
    intro w8 hu8 hc8
    have hu8 := bw_undrew hu8
    have Z8 := Lib.hid (upH hu8 Z7.out); have Y8 := Lib.hid (upH hu8 Y7.out); have B8 := Lib.hid (bw_tr B7.out hu8); have D8 := Lib.hid hc8
    clear hu8 hc8 X7 Z7 Y7 N7
    go_wp2_with (refine wpList_store_row rfl 28 _ _ rfl (w.heap.size + 2) (hA h7) rfl rfl 28 zA Z8.out (infoA (hA_size h7 HL7.out)) (by rw [hA_size h7 HL7.out]; rfl) (hA_one h7) ?_)
    refine ⟨⟨row_ne (by omega) D8.out.1, row_ne (by omega) D8.out.2⟩, ?_⟩
    refine anyU_one (i := 3) (by kernel_rfl) rfl ?_
    intro w9 hu9 hc9
    have Z9 := Lib.hid (upH hu9 (setRow_heap _ _ _ _ _ _ Z8.out : (w8.setRow (w.heap.size + 2) (hA h7)).heap[w.heap.size + 2]? = some (.cells (hA h7) 28 (0, 0))))
    have Y9 := Lib.hid (upH hu9 (row_ne (cs := hA h7) (by omega) Y8.out))
    have B9 := Lib.hid (bw_tr (below_setRow B8.out (by omega) (hA h7)) hu9 : Below w.heap.size w w9)
    have D9 := Lib.hid hc9
    clear hu9 hc9 Z8 Y8 D8 B8
    go_wp2_with (refine wpList_store_row rfl 34 _ _ rfl (w.heap.size + 3) #[.int .i64 1, .int .i64 d, .int .i64 (wrap32 (va + n)), .int .i64 0, .int .i64 0] rfl rfl 34 effZ Y9.out (by kernel_rfl) rfl (by kernel_rfl) ?_)
    refine ⟨⟨row_ne (by omega) D9.out.1, row_ne (by omega) D9.out.2⟩, ?_⟩
    refine anyU_nil (by kernel_rfl) ?_
    intro w10 hu10 hc10
    have Z10 := Lib.hid (upH hu10 (row_ne (cs := #[.int .i64 1, .int .i64 d, .int .i64 (wrap32 (va + n)), .int .i64 0, .int .i64 0]) (by omega) Z9.out))
    have Y10 := Lib.hid (upH hu10 (setRow_heap _ _ _ _ _ _ Y9.out : (w9.setRow (w.heap.size + 3) #[.int .i64 1, .int .i64 d, .int .i64 (wrap32 (va + n)), .int .i64 0, .int .i64 0]).heap[w.heap.size + 3]? = some (.cells #[.int .i64 1, .int .i64 d, .int .i64 (wrap32 (va + n)), .int .i64 0, .int .i64 0] 34 (0, 0))))
    have B10 := Lib.hid (bw_tr (below_setRow B9.out (by omega) #[.int .i64 1, .int .i64 d, .int .i64 (wrap32 (va + n)), .int .i64 0, .int .i64 0]) hu10 : Below w.heap.size w w10)
    clear hu10 hc10 Z9 Y9 D9 B9
    go_wp2_with fail
    exact bodyPost_ret (v := .tuple #[.agg (hA h7), .agg #[.int .i64 1, .int .i64 d, .int .i64 (wrap32 (va + n)), .int .i64 0, .int .i64 0]]) (results_cells2 rfl _ _ (w.heap.size + 2) (w.heap.size + 3) 28 34 (hA h7) #[.int .i64 1, .int .i64 d, .int .i64 (wrap32 (va + n)), .int .i64 0, .int .i64 0] (0, 0) (0, 0) _ _ rfl rfl Z10.out Y10.out Try.underlying28 rfl (infoA (hA_size h7 HL7.out)) Try.underlying34 rfl (by kernel_rfl)) rfl ⟨rfl, B10.out⟩
end Go.Proofs.Ytiahdhlfecgnpaa
