/-
  The contract of headstockref14.csr.
-/
import Derived.Test.YtiahdhlfecgnpaaRef14g
import Derived.Test.YtiahdhlfecgnpaaHartStep
import Derived.Test.YtiahdhlfecgnpaaQuietV
import Derived.Deep.CutBlock
import Derived.Deep.DeepCutAuto
namespace Go.Proofs.Ytiahdhlfecgnpaa
open Go.RowKit
set_option linter.unusedSimpArgs false
set_option linter.unusedVariables false
theorem upH {w w' : World} {b : Nat} {o : Obj} (hu : Below w.heap.size w w') (h : w.heap[b]? = some o) : w'.heap[b]? = some o := bel_in hu (lt_in h) h
theorem newH (w : World) (o : Obj) : Below w.heap.size w (w.alloc o) := (Below.refl _ _).alloc (Nat.le_refl _) _
theorem i32_64 {x : Int} (h : I32 x) : I64 x := by obtain ⟨a, b⟩ := h; constructor <;> omega
theorem rcsrN41 (v n : Int) : rcsrN 41 v n = twoN 7 v n := by unfold rcsrN; rw [if_pos rfl]
theorem rcsrN42 (v n : Int) : rcsrN 42 v n = twoN 6 v (oneN 17 n) := by unfold rcsrN; rw [if_neg (by decide), if_pos rfl]
set_option maxRecDepth 100000 in
set_option maxHeartbeats 8000000 in
theorem rcsr_no (h : Ht) (id op d b n v : Int) (k : Nat) (w : World) (f : Fine h) (hid : I64 id) (hk : k < 32) (hv : rctlV h id n = (v, false)) :
    Calls Try.prog 41 #[.agg (hA h), .int .i64 id, insV ⟨op, d, k, b, n⟩] w fun e w' => e = .returned (.tuple #[.agg (hA h), effV ⟨9, 0, 0, 0, 0⟩]) ∧ Below w.heap.size w w' := by
  have h32 := f.len
  obtain ⟨w0, hw0, hx, hi, hz, hy, hb0, hs0⟩ := four_new w (.cells (hA h) 28) (.cells #[.int .i64 op, .int .i64 d, .int .i64 k, .int .i64 b, .int .i64 n] 24) (.cells zA 28) (.cells effZ 34)
  have i4 := cell_in hi (j := 4) (u := .int .i64 n) rfl
  have HW := Lib.hid hw0
  have HX := Lib.hid hx; have HI := Lib.hid hi; have HZ := Lib.hid hz; have HY := Lib.hid hy; have HV := Lib.hid hv; have HID := Lib.hid hid
  clear hx hi hz hy hw0 hv hid f
  unfold insV
  go_enter Try.func41, Try.ntmps41
  go_upto_region 1 with (fail)
  change Code.wp _ _ _ _ ((((w.alloc (.cells (hA h) 28)).alloc (.cells #[.int .i64 op, .int .i64 d, .int .i64 k, .int .i64 b, .int .i64 n] 24)).alloc (.cells zA 28)).alloc (.cells effZ 34))
  rw [← HW.out]
  go_wp2_with (refine wpList_load_row rfl 28 _ rfl (w.heap.size) rfl 28 (hA h) (0, 0) _ HX.out Try.underlying28 rfl (infoA (hA_size h h32)) ?_)
  refine (rcontrol_any h id n v false _ h32 HID.out HV.out).mono ?_
  rintro e w1 ⟨rfl, hb1⟩
  have HX1 := Lib.hid (upH hb1 HX.out); have HI1 := Lib.hid (upH hb1 HI.out); have HZ1 := Lib.hid (upH hb1 HZ.out); have HY1 := Lib.hid (upH hb1 HY.out)
  have hbw1 : Below w.heap.size w w1 := (by repeat (first | (with_reducible exact Below.refl _ _) | (with_reducible refine bw_set ?_ ?_ _) | (with_reducible apply bw_alloc) | (with_reducible refine bw_tr ?_ (by with_reducible assumption)) | (with_reducible apply bw_drew) | omega))
  have hs1 : w.heap.size + 4 ≤ w1.heap.size := by have := hb1.size; omega
  clear i4 HX HI HZ HY HW hb0 hs0 hb1
  go_wp2_with (first | (refine wpList_load_row rfl 28 _ rfl (w.heap.size) rfl 28 (hA h) (0, 0) _ HX1.out Try.underlying28 rfl (infoA (hA_size h h32)) ?_) | (refine wpList_store_row rfl 28 _ _ rfl (w.heap.size + 2) (hA h) rfl rfl 28 zA HZ1.out (infoA (hA_size h h32)) (by rw [hA_size h h32]; rfl) (hA_one h) ?_) | (refine wpList_store_row rfl 34 _ _ rfl (w.heap.size + 3) #[.int .i64 9, .int .i64 0, .int .i64 0, .int .i64 0, .int .i64 0] rfl rfl 34 effZ (row_ne (by omega) HY1.out) (by kernel_rfl) rfl (by kernel_rfl) ?_))
  exact bodyPost_ret (v := .tuple #[.agg (hA h), effV ⟨9, 0, 0, 0, 0⟩]) (results_cells2 rfl _ _ (w.heap.size + 2) (w.heap.size + 3) 28 34 (hA h) #[.int .i64 9, .int .i64 0, .int .i64 0, .int .i64 0, .int .i64 0] (0, 0) (0, 0) _ _ rfl rfl (row_ne (by omega) (setRow_heap _ _ _ _ _ _ HZ1.out)) (setRow_heap _ _ _ _ _ _ (row_ne (by omega) HY1.out)) Try.underlying28 rfl (infoA (hA_size h h32)) Try.underlying34 rfl (by kernel_rfl)) rfl ⟨rfl, below_setRow (below_setRow (by repeat (first | (with_reducible exact Below.refl _ _) | (with_reducible refine bw_set ?_ ?_ _) | (with_reducible apply bw_alloc) | (with_reducible refine bw_tr ?_ (by with_reducible assumption)) | (with_reducible apply bw_drew) | omega)) (by omega) _) (by omega) _⟩
set_option maxRecDepth 100000 in
set_option maxHeartbeats 8000000 in
theorem rcsr_yes (h : Ht) (id op d b n v : Int) (k : Nat) (w : World) (f : Fine h) (hid : I64 id) (hk : k < 32) (hv : rctlV h id n = (v, true)) :
    Calls Try.prog 41 #[.agg (hA h), .int .i64 id, insV ⟨op, d, k, b, n⟩] w fun e w' => e = .returned (.tuple #[.agg (hA { putH (rsetH h n (rcsrN op v (h.r.getD k 0))) d v with pc := wrap32 (h.pc + 4) }), effV ⟨0, 0, 0, 0, 0⟩]) ∧ Below w.heap.size w w' := by
  have h32 := f.len
  have hvi : I64 v := by have := fine_ctl f id n; rw [hv] at this; exact i32_64 this
  have hrn : I64 (h.r.getD k 0) := i32_64 (f.reg k hk)
  have hpc : I64 (h.pc + 4) := by have := f.pc.1; have := f.pc.2; constructor <;> omega
  have hnI : I64 (rcsrN op v (h.r.getD k 0)) := by
    have h1 : I32 v := by have := fine_ctl f id n; rw [hv] at this; exact this
    rw [rcsr_ch h1 (f.reg k hk)]; exact i32_64 (ch_i32 h1 (f.reg k hk))
  have hoI : I64 (oneN 17 (h.r.getD k 0)) := by have := f.reg k hk; unfold oneN; simp only [Int.reduceEq, if_false, if_true]; exact i32_64 (wrap32_i32 _)
  have HVI := Lib.hid hvi; have HRN := Lib.hid hrn; have HPC := Lib.hid hpc; have HNI := Lib.hid hnI; have HOI := Lib.hid hoI
  clear hvi hrn hpc hnI hoI
  obtain ⟨w0, hw0, hx, hi, hz, hy, hb0, hs0⟩ := four_new w (.cells (hA h) 28) (.cells #[.int .i64 op, .int .i64 d, .int .i64 k, .int .i64 b, .int .i64 n] 24) (.cells zA 28) (.cells effZ 34)
  have i4 := cell_in hi (j := 4) (u := .int .i64 n) rfl
  have HW := Lib.hid hw0
  have HX := Lib.hid hx; have HI := Lib.hid hi; have HZ := Lib.hid hz; have HY := Lib.hid hy; have HV := Lib.hid hv; have HID := Lib.hid hid
  clear hx hi hz hy hw0 hv hid f
  unfold insV
  obtain ⟨rn, hrn⟩ : ∃ rn, h.r.getD k 0 = rn := ⟨_, rfl⟩
  rw [hrn] at HRN HNI HOI ⊢
  obtain ⟨nv, hnv⟩ : ∃ nv, rcsrN op v rn = nv := ⟨_, rfl⟩
  rw [hnv] at HNI ⊢
  obtain ⟨ht, hht⟩ : ∃ ht : Ht, ({ putH (rsetH h n nv) d v with pc := wrap32 (h.pc + 4) } : Ht) = ht := ⟨_, rfl⟩
  rw [hht]
  have HRNE := Lib.hid hrn; have HNV := Lib.hid hnv; have HHT := Lib.hid hht
  clear hrn hnv hht
  go_enter Try.func41, Try.ntmps41
  go_upto_region 1 with (fail)
  change Code.wp _ _ _ _ ((((w.alloc (.cells (hA h) 28)).alloc (.cells #[.int .i64 op, .int .i64 d, .int .i64 k, .int .i64 b, .int .i64 n] 24)).alloc (.cells zA 28)).alloc (.cells effZ 34))
  rw [← HW.out]
  go_wp2_with (refine wpList_load_row rfl 28 _ rfl (w.heap.size) rfl 28 (hA h) (0, 0) _ HX.out Try.underlying28 rfl (infoA (hA_size h h32)) ?_)
  refine (rcontrol_any h id n v true _ h32 HID.out HV.out).mono ?_
  rintro e w1 ⟨rfl, hb1⟩
  have HX1 := Lib.hid (upH hb1 HX.out); have HI1 := Lib.hid (upH hb1 HI.out); have HZ1 := Lib.hid (upH hb1 HZ.out); have HY1 := Lib.hid (upH hb1 HY.out)
  have hbw1 : Below w.heap.size w w1 := (by repeat (first | (with_reducible exact Below.refl _ _) | (with_reducible refine bw_set ?_ ?_ _) | (with_reducible apply bw_alloc) | (with_reducible refine bw_tr ?_ (by with_reducible assumption)) | (with_reducible apply bw_drew) | omega))
  have hs1 : w.heap.size + 4 ≤ w1.heap.size := by have := hb1.size; omega
  clear i4 HX HI HZ HY HW hb0 hs0 hb1
  have ck := cell_in HX1.out (hA_r h h32 k hk)
  have q1 : Hid ((hA h)[k]? = some (.int .i64 rn)) := Lib.hid (by rw [hA_r h h32 k hk, HRNE.out])
  clear ck
  have ck := cell_in HX1.out q1.out
  have m0 := cell_in HI1.out (j := 0) (u := .int .i64 op) rfl
  have m2 := cell_in HI1.out (j := 2) (u := .int .i64 k) rfl
  have lx := lt_in HX1.out; have li := lt_in HI1.out
  clear q1
  go_upto_block 0 with (go_at_call 62; (with_reducible refine (rone_any 17 rn _ HRN.out).mono ?_); rintro e w' ⟨rfl, rfl⟩)
  go_cut [10] (fun s10 wx => s10 = .int .i64 nv ∧ wx = w1)
  case first => as_aux_lemma =>
    by_cases h41 : op = 41
    · subst h41
      have q : Hid (twoN 7 v rn = nv) := Lib.hid ((rcsrN41 v rn).symm.trans HNV.out)
      go_wp2_with (go_at_call 39; (with_reducible refine (rtwo_any 7 v rn _ HVI.out HRN.out).mono ?_); rintro e w' ⟨rfl, rfl⟩)
      rw [q.out]
      go_meet
      case rel => exact ⟨rfl, rfl⟩
    by_cases h42 : op = 42
    · subst h42
      have q : Hid (twoN 6 v (oneN 17 rn) = nv) := Lib.hid ((rcsrN42 v rn).symm.trans HNV.out)
      go_wp2_with (go_at_call 39; (with_reducible refine (rtwo_any 6 v (oneN 17 rn) _ HVI.out HOI.out).mono ?_); rintro e w' ⟨rfl, rfl⟩)
      rw [q.out]
      go_meet
      case rel => exact ⟨rfl, rfl⟩
    · have q : rn = nv := by rw [← HNV.out]; unfold rcsrN; rw [if_neg h41, if_neg h42]
      have q1 := beq_eq_false_iff_ne.2 h41; have q2 := beq_eq_false_iff_ne.2 h42
      clear h41 h42
      subst q
      go_wp2_with fail
      go_meet
      case rel => exact ⟨rfl, rfl⟩
  case rest => as_aux_lemma =>
    obtain ⟨rfl, hwc⟩ := hcut
    subst hwc
    clear ck m0 m2
    go_wp2_with fail
    have hcc : Hid (∃ g : Ht, putH (rsetH h n nv) d v = g ∧ g.r.length = 32 ∧ ({ g with pc := wrap32 (h.pc + 4) } : Ht) = ht) := Lib.hid ⟨_, rfl, put_len (rset_len n nv h32) d v, HHT.out⟩
    obtain ⟨g, hg, hgl, hgt⟩ := hcc.out
    have HG := Lib.hid hg; have HGL := Lib.hid hgl; have HGT := Lib.hid hgt
    clear hcc hg hgl hgt HHT HRNE HNV HV HID HRN HOI
    refine wp_region_up (fun w' => w'.heap[w.heap.size]? = some (.cells (hA h) 28 (0, 0)) ∧ w'.heap[w.heap.size + 1]? = some (.cells #[.int .i64 op, .int .i64 d, .int .i64 k, .int .i64 b, .int .i64 n] 24 (0, 0))) [true, true, true, true, true, true, true, true, true, false, false] (by kernel_rfl) (by kernel_rfl) (by kernel_rfl) (fun _ _ hh hu => ⟨upH hu hh.1, upH hu hh.2⟩) ⟨HX1.out, HI1.out⟩ ?ra ?rh ?rt
    case rh =>
      intro w0 h0
      have R0 : Hid (∀ w' : World, (∃ x : Wd w0, w' = x.val) → (loadVar 28 ⟨w.heap.size, 0, none⟩).run Try.prog w' = .ok (.agg (hA h)) w') := by
        rintro w' ⟨x, rfl⟩
        exact run_loadVar_row _ _ 28 28 (hA h) (0, 0) _ (bel_in x.bel (lt_in h0.1) h0.1) Try.underlying28 rfl (infoA (hA_size h h32))
      have r1 := fun x => wd_cell (lt_in h0.2) (cell_in h0.2 (j := 1) (u := .int .i64 d) rfl) x
      have r4 := fun x => wd_cell (lt_in h0.2) (cell_in h0.2 (j := 4) (u := .int .i64 n) rfl) x
      clear h0
      simp only [pickM]
      go_big_quiet_want
      refine quiet_load_row 28 _ (w.heap.size) (hA h) rfl rfl R0.out ?_
      simp only [Act.put, List.setIfInBounds_toArray, List.set_cons_succ, List.set_cons_zero]
      go_big_quiet_on
      repeat (go_big_quiet_step ((first | (go_at_call 63; with_reducible exact quiet_b (rset_any h n nv _ h32 HNI.out)) | (go_at_call 19; with_reducible exact quiet_b (rput_any (rsetH h n nv) d v _ (rset_len n nv h32) HVI.out)))))
      refine wpQuiet_nil ?_
      rfl
    case rt => as_aux_lemma =>
      change wpAnyU _ _ _ _ _ 2 _ _ _
      rw [HG.out]
      refine anyU_one (i := 9) (by kernel_rfl) rfl ?_
      intro w5 hu5 hc5
      have hu5 := bw_undrew hu5
      have B5 := Lib.hid (bw_tr hbw1 hu5); have D5 := Lib.hid hc5
      have Z5 := Lib.hid (upH hu5 HZ1.out); have Y5 := Lib.hid (upH hu5 HY1.out)
      have s5 : w.heap.size + 4 ≤ w5.heap.size := by have := hu5.size; omega
      clear hu5 hc5 HX1 HI1 HZ1 HY1 hbw1 hs1 lx li
      go_wp2_with fail
      refine ⟨⟨upH (newH _ _) D5.out.1, upH (newH _ _) D5.out.2⟩, ?_⟩
      refine anyU_one (i := 10) (by kernel_rfl) rfl ?_
      intro w6 hu6 hc6
      have N6 := Lib.hid (upH hu6 (new_in w5 (.cells zA 28)))
      have B6 := Lib.hid (bw_tr B5.out (bw_tr (newH w5 (.cells zA 28)) hu6)); have D6 := Lib.hid hc6
      have Z6 := Lib.hid (upH (bw_tr (newH w5 (.cells zA 28)) hu6) Z5.out); have Y6 := Lib.hid (upH (bw_tr (newH w5 (.cells zA 28)) hu6) Y5.out)
      clear hu6 hc6 D5 Z5 Y5 B5
      go_wp2_with ((refine wpList_store_row rfl 28 _ _ rfl (w5.heap.size) (hA g) rfl rfl 28 zA N6.out (infoA (hA_size g HGL.out)) (by rw [hA_size g HGL.out]; rfl) (hA_one g) ?_))
      refine ⟨⟨row_ne (by omega) D6.out.1, row_ne (by omega) D6.out.2⟩, ?_⟩
      refine anyU_nil (by kernel_rfl) ?_
      intro w7 hu7 hc7
      have N7 := Lib.hid (upH hu7 (setRow_heap _ _ _ _ _ _ N6.out : (w6.setRow w5.heap.size (hA g)).heap[w5.heap.size]? = some (.cells (hA g) 28 (0, 0))))
      have B7 := Lib.hid (bw_tr (below_setRow B6.out (by omega) (hA g)) hu7 : Below w.heap.size w w7)
      have Z7 := Lib.hid (upH hu7 (row_ne (cs := hA g) (by omega) Z6.out)); have Y7 := Lib.hid (upH hu7 (row_ne (cs := hA g) (by omega) Y6.out))
      have D7 := Lib.hid hc7
      clear hu7 hc7 D6 Z6 Y6 B6 N6
      have c32 := cell_in D7.out.1 (hA_fields h h32).1
      have g32 := cell_in N7.out (hA_fields g HGL.out).1
      have f32 := frozen_in N7.out 32
      have HPW : IntKind.i64.wrap (h.pc + 4) = h.pc + 4 := IntWalk.i64_in _ (by have := HPC.out.1; have := HPC.out.2; omega)
      have X8 : Hid ((w7.setCell ⟨w5.heap.size, 32, none⟩ (.int .i64 (wrap32 (h.pc + 4)))).heap[w5.heap.size]? = some (.cells (hA ht) 28 (0, 0))) := by
        have s1 := set_heap N7.out 32 (.int .i64 (wrap32 (h.pc + 4))) _ (hA_pc g HGL.out (wrap32 (h.pc + 4)))
        rw [HGT.out] at s1; exact Lib.hid s1
      have Z8 : Hid ((w7.setCell ⟨w5.heap.size, 32, none⟩ (.int .i64 (wrap32 (h.pc + 4)))).heap[w.heap.size + 2]? = some (.cells zA 28 (0, 0))) := Lib.hid (heap_set_ne (by omega) Z7.out)
      have Y8 : Hid ((w7.setCell ⟨w5.heap.size, 32, none⟩ (.int .i64 (wrap32 (h.pc + 4)))).heap[w.heap.size + 3]? = some (.cells effZ 34 (0, 0))) := Lib.hid (heap_set_ne (by omega) Y7.out)
      have B8 : Hid (Below w.heap.size w (w7.setCell ⟨w5.heap.size, 32, none⟩ (.int .i64 (wrap32 (h.pc + 4))))) := Lib.hid (bw_set B7.out (by show w.heap.size ≤ w5.heap.size; omega) _)
      have hl8 : ht.r.length = 32 := by rw [← HGT.out]; exact HGL.out
      have HL8 := Lib.hid hl8
      clear hl8
      go_upto_region 13 with (go_at_call 38; (with_reducible refine (rwrap_any (h.pc + 4) _ HPC.out).mono ?_); rintro e w' ⟨rfl, rfl⟩)
      clear c32 g32 f32 HPW
      go_wp2_with (first | (refine wpList_load_row rfl 28 _ rfl (w5.heap.size) rfl 28 (hA ht) (0, 0) _ X8.out Try.underlying28 rfl (infoA (hA_size ht HL8.out)) ?_) | (refine wpList_store_row rfl 28 _ _ rfl (w.heap.size + 2) (hA ht) rfl rfl 28 zA Z8.out (infoA (hA_size ht HL8.out)) (by rw [hA_size ht HL8.out]; rfl) (hA_one ht) ?_) | (refine wpList_store_row rfl 34 _ _ rfl (w.heap.size + 3) effZ rfl rfl 34 effZ (row_ne (by omega) Y8.out) (by kernel_rfl) rfl (by kernel_rfl) ?_))
      exact bodyPost_ret (v := .tuple #[.agg (hA ht), .agg effZ]) (results_cells2 rfl _ _ (w.heap.size + 2) (w.heap.size + 3) 28 34 (hA ht) effZ (0, 0) (0, 0) _ _ rfl rfl (row_ne (by omega) (setRow_heap _ _ _ _ _ _ Z8.out)) (setRow_heap _ _ _ _ _ _ (row_ne (by omega) Y8.out)) Try.underlying28 rfl (infoA (hA_size ht HL8.out)) Try.underlying34 rfl (by kernel_rfl)) rfl ⟨rfl, below_setRow (below_setRow B8.out (by omega) _) (by omega) _⟩
theorem rcsr_any (h : Ht) (id : Int) (x : Ins) (w : World) (f : Fine h) (hid : I64 id) (ha : 0 ≤ x.a ∧ x.a < 32) :
    Calls Try.prog 41 #[.agg (hA h), .int .i64 id, insV x] w fun e w' => e = .returned (.tuple #[.agg (hA (rcsrR h id x).1), effV (rcsrR h id x).2]) ∧ Below w.heap.size w w' := by
  obtain ⟨op, d, a, b, n⟩ := x
  simp only at ha
  obtain ⟨k, rfl, hk⟩ : ∃ k : Nat, a = k ∧ k < 32 := ⟨a.toNat, by omega, by omega⟩
  obtain ⟨⟨v, ok⟩, hv⟩ : ∃ r, rctlV h id n = r := ⟨_, rfl⟩
  cases ok
  · have E : rcsrR h id ⟨op, d, k, b, n⟩ = (h, ⟨9, 0, 0, 0, 0⟩) := by unfold rcsrR; simp only; rw [hv]; rfl
    rw [E]; exact rcsr_no h id op d b n v k w f hid hk hv
  · have E : rcsrR h id ⟨op, d, k, b, n⟩ = ({ putH (rsetH h n (rcsrN op v (h.r.getD k 0))) d v with pc := wrap32 (h.pc + 4) }, ⟨0, 0, 0, 0, 0⟩) := by unfold rcsrR; simp only; rw [hv]; rfl
    rw [E]; exact rcsr_yes h id op d b n v k w f hid hk hv
end Go.Proofs.Ytiahdhlfecgnpaa
