/-
  The contract of headstockref14.Step: the operations that write a register.
-/
import Derived.Test.YtiahdhlfecgnpaaRef14h
import Derived.Test.YtiahdhlfecgnpaaRef2Right
import Derived.Test.YtiahdhlfecgnpaaWrapMath2
namespace Go.Proofs.Ytiahdhlfecgnpaa
open Go.RowKit
set_option linter.unusedSimpArgs false
set_option linter.unusedVariables false
theorem refRight_h (op d a b n : Int) (r : Bool) (w : World) (hr : rightB ⟨op, d, a, b, n⟩ = r) :
    Calls Try.prog 37 #[.agg #[.int .i64 op, .int .i64 d, .int .i64 a, .int .i64 b, .int .i64 n]] w fun e w' => e = .returned (.bool r) ∧ Below w.heap.size w w' := by subst hr; exact refRight_any ⟨op, d, a, b, n⟩ w
theorem two_i32' (op a b : Int) : I32 (twoN op a b) := by rw [← twoN_w32]; exact wrap32_i32 _
theorem makes_i64 (op a b : Int) (hA64 : I64 a) : I64 (makesN op a b) := by
  unfold makesN
  have ha := word_bd a; have hb := word_bd b
  split
  · have h1 := Int.ediv_le_self (2 ^ (b % 32).toNat) ha.1
    have h2 : 0 ≤ word a / 2 ^ (b % 32).toNat := Int.ediv_nonneg ha.1 (Int.le_of_lt (Int.pow_pos (by decide)))
    constructor <;> omega
  split
  · exact i32_64 (wrap32_i32 _)
  split
  · exact i32_64 (wrap32_i32 _)
  split
  · unfold dividedN
    split
    · split
      · constructor <;> decide
      · have h1 := Int.ediv_le_self (word b) ha.1
        have h2 : 0 ≤ word a / word b := Int.ediv_nonneg ha.1 hb.1
        constructor <;> omega
    · split
      · exact hA64
      · rename_i h
        have h1 := Int.emod_nonneg (word a) h
        have h2 := Int.emod_lt_of_pos (word a) (show 0 < word b by omega)
        constructor <;> omega
  · exact i32_64 (two_i32' _ _ _)
theorem forms (op : Int) (h : 1 ≤ op ∧ op ≤ 49) : ((5 ≤ op ∧ op ≤ 10) → (rowT op).form = 66) ∧ ((40 ≤ op ∧ op ≤ 42) → (rowT op).form = 67) ∧ ((22 ≤ op ∧ op ≤ 38) → (rowT op).form = 82) ∧ ((13 ≤ op ∧ op ≤ 21) → ((rowT op).form == 66) = false ∧ ((rowT op).form == 67) = false ∧ ((rowT op).form == 82) = false) := by
  have s : ∀ i : Fin 50, 1 ≤ i.val → ((5 ≤ i.val ∧ i.val ≤ 10) → (rowT i.val).form = 66) ∧ ((40 ≤ i.val ∧ i.val ≤ 42) → (rowT i.val).form = 67) ∧ ((22 ≤ i.val ∧ i.val ≤ 38) → (rowT i.val).form = 82) ∧ ((13 ≤ i.val ∧ i.val ≤ 21) → ((rowT i.val).form == 66) = false ∧ ((rowT i.val).form == 67) = false ∧ ((rowT i.val).form == 82) = false) := by decide +kernel
  have t := s ⟨op.toNat, by omega⟩ (by simp; omega)
  have e : ((op.toNat : Nat) : Int) = op := by omega
  simp only [e] at t
  exact ⟨fun h => t.1 (by omega), fun h => t.2.1 (by omega), fun h => t.2.2.1 (by omega), fun h => t.2.2.2 (by omega)⟩
set_option maxRecDepth 100000 in
set_option maxHeartbeats 8000000 in
theorem rstep_1 (h : Ht) (id d n : Int) (ka kb : Nat) (w : World) (f : Fine h) (hr : rightB ⟨1, d, ka, kb, n⟩ = true) (hka : ka < 32) (hkb : kb < 32) (hn : -1048576 ≤ n ∧ n ≤ 1048575) :
    Calls Try.prog 17 #[.agg (hA h), .int .i64 id, insV ⟨1, d, ka, kb, n⟩] w fun e w' => e = .returned (.tuple #[.agg (hA ({ putH h d (4096 * n) with pc := wrap32 (h.pc + 4) })), effV ⟨0, 0, 0, 0, 0⟩]) ∧ Below w.heap.size w w' := by
  have h32 := f.len
  have P4 : Hid (I64 (h.pc + 4)) := Lib.hid (by have := f.pc.1.1; have := f.pc.1.2; constructor <;> omega)
  have PN : Hid (I64 (h.pc + n)) := Lib.hid (by have := f.pc.1.1; have := f.pc.1.2; constructor <;> omega)
  obtain ⟨va, hva⟩ : ∃ va, h.r.getD ka 0 = va := ⟨_, rfl⟩
  obtain ⟨vb, hvb⟩ : ∃ vb, h.r.getD kb 0 = vb := ⟨_, rfl⟩
  have IAI : Hid (I32 va) := Lib.hid (hva ▸ f.reg ka hka)
  have IBI : Hid (I32 vb) := Lib.hid (hvb ▸ f.reg kb hkb)
  have HVA := Lib.hid hva; have HVB := Lib.hid hvb
  try rw [hva]
  try rw [hvb]
  clear hva hvb
  have w4 : IntKind.i64.wrap (h.pc + 4) = h.pc + 4 := IntWalk.i64_in _ (by have := P4.out.1; have := P4.out.2; omega)
  have wn : IntKind.i64.wrap (h.pc + n) = h.pc + n := IntWalk.i64_in _ (by have := PN.out.1; have := PN.out.2; omega)
  obtain ⟨h7, hh7⟩ : ∃ h7 : Ht, ({ putH h d (4096 * n) with pc := wrap32 (h.pc + 4) } : Ht) = h7 := ⟨_, rfl⟩
  rw [hh7]
  have HH7 := Lib.hid hh7; clear hh7
  have PV : Hid (I64 (4096 * n)) := Lib.hid (by constructor <;> omega)
  have wv : IntKind.i64.wrap (4096 * n) = 4096 * n := IntWalk.i64_in _ (by omega)
  have hfm : (rowT 1).form = 85 := by decide +kernel
  obtain ⟨w0, hw0, hx, hi, hz, hy, hb0, hs0⟩ := four_new w (.cells (hA h) 28) (.cells #[.int .i64 1, .int .i64 d, .int .i64 ka, .int .i64 kb, .int .i64 n] 24) (.cells zA 28) (.cells effZ 34)
  have i0 := cell_in hi (j := 0) (u := .int .i64 1) rfl
  have i1 := cell_in hi (j := 1) (u := .int .i64 d) rfl
  have i2 := cell_in hi (j := 2) (u := .int .i64 ka) rfl
  have i3 := cell_in hi (j := 3) (u := .int .i64 kb) rfl
  have i4 := cell_in hi (j := 4) (u := .int .i64 n) rfl
  have HW := Lib.hid hw0
  have HX := Lib.hid hx; have HI := Lib.hid hi; have HZ := Lib.hid hz; have HY := Lib.hid hy; have HR := Lib.hid hr; have FF := Lib.hid f; have HN := Lib.hid hn
  clear hx hi hz hy hw0 hr f hn
  unfold insV
  go_enter Try.func17, Try.ntmps17
  go_upto_region 1 with (fail)
  change Code.wp _ _ _ _ ((((w.alloc (.cells (hA h) 28)).alloc (.cells #[.int .i64 1, .int .i64 d, .int .i64 ka, .int .i64 kb, .int .i64 n] 24)).alloc (.cells zA 28)).alloc (.cells effZ 34))
  rw [← HW.out]
  go_wp2_with fail
  refine (refRight_h 1 d ka kb n true _ HR.out).mono ?_
  rintro e w1 ⟨rfl, hb1⟩
  have HX1 := Lib.hid (upH hb1 HX.out); have HI1 := Lib.hid (upH hb1 HI.out); have HZ1 := Lib.hid (upH hb1 HZ.out); have HY1 := Lib.hid (upH hb1 HY.out)
  have hbw1 : Below w.heap.size w w1 := (by repeat (first | (with_reducible exact Below.refl _ _) | (with_reducible refine bw_set ?_ ?_ _) | (with_reducible apply bw_alloc) | (with_reducible refine bw_tr ?_ (by with_reducible assumption)) | (with_reducible apply bw_drew) | omega))
  have hs1 : w.heap.size + 4 ≤ w1.heap.size := by have := hb1.size; omega
  clear i0 i1 i2 i3 i4 HX HI HZ HY HW hb0 hs0 hb1
  have ca := cell_in HX1.out (show (hA h)[ka]? = some (.int .i64 va) by rw [hA_r h h32 ka hka, HVA.out])
  have cb := cell_in HX1.out (show (hA h)[kb]? = some (.int .i64 vb) by rw [hA_r h h32 kb hkb, HVB.out])
  have c32 := cell_in HX1.out (hA_fields h h32).1
  have i0 := cell_in HI1.out (j := 0) (u := .int .i64 1) rfl
  have i2 := cell_in HI1.out (j := 2) (u := .int .i64 ka) rfl
  have i3 := cell_in HI1.out (j := 3) (u := .int .i64 kb) rfl
  have i4 := cell_in HI1.out (j := 4) (u := .int .i64 n) rfl
  go_upto_region 8 with (first | (go_at_call 38; (with_reducible refine (rwrap_any (h.pc + 4) _ P4.out).mono ?_); rintro e w' ⟨rfl, rfl⟩) | (go_at_call 38; (with_reducible refine (rwrap_any (h.pc + n) _ PN.out).mono ?_); rintro e w' ⟨rfl, rfl⟩))
  go_wp2_with fail
  refine (refRow_any 1 _).mono ?_
  obtain ⟨rw0, hrw⟩ : ∃ r, rowT 1 = r := ⟨_, rfl⟩
  rw [hrw]
  rw [hrw] at hfm
  obtain ⟨nm, fm, lo, mi, hi⟩ := rw0
  simp only at hfm
  clear hrw
  subst hfm
  have hfld : ∀ w : World, (Instr.field 54 (.agg #[.string nm, .int .u8 85, .int .i64 lo, .int .i64 mi, .int .i64 hi]) 1).run Try.prog w = .ok (.int .u8 85) w := fun w => by kernel_rfl
  rintro e w2 ⟨rfl, hb2⟩
  have HX2 := Lib.hid (upH hb2 HX1.out); have HI2 := Lib.hid (upH hb2 HI1.out); have HZ2 := Lib.hid (upH hb2 HZ1.out); have HY2 := Lib.hid (upH hb2 HY1.out)
  have hbw2 : Below w.heap.size w w2 := (by repeat (first | (with_reducible exact Below.refl _ _) | (with_reducible refine bw_set ?_ ?_ _) | (with_reducible apply bw_alloc) | (with_reducible refine bw_tr ?_ (by with_reducible assumption)) | (with_reducible apply bw_drew) | omega))
  have hs2 : w.heap.size + 4 ≤ w2.heap.size := by have := hb2.size; omega
  clear ca cb c32 i0 i2 i3 i4 hb2 HX1 HI1 HZ1 HY1 hbw1 hs1 w4 wn
  unfold rfV
  go_upto_region 12 with (fail)
  clear hfld
  change Code.wp _ _ _ _ (w2.alloc (.cells effZ 34))
  have N3 : Hid ((w2.alloc (.cells effZ 34)).heap[w2.heap.size]? = some (.cells effZ 34 (0, 0))) := Lib.hid (new_in w2 (.cells effZ 34))
  have hb3 : Below w2.heap.size w2 (w2.alloc (.cells effZ 34)) := newH w2 (.cells effZ 34)
  have hs3 : w2.heap.size < (w2.alloc (.cells effZ 34)).heap.size := lt_in N3.out
  obtain ⟨w3, hw3⟩ : ∃ w3 : World, w2.alloc (.cells effZ 34) = w3 := ⟨_, rfl⟩
  rw [hw3] at N3 hb3 hs3 ⊢
  have HX3 := Lib.hid (upH hb3 HX2.out); have HI3 := Lib.hid (upH hb3 HI2.out); have HZ3 := Lib.hid (upH hb3 HZ2.out); have HY3 := Lib.hid (upH hb3 HY2.out)
  have hbw3 : Below w.heap.size w w3 := bw_tr hbw2 hb3
  obtain ⟨pe, hpe⟩ : ∃ pe, w2.heap.size = pe := ⟨_, rfl⟩
  rw [hpe] at N3 hs2 hs3 ⊢
  clear hpe hw3 hb3 HX2 HI2 HZ2 HY2 hbw2
  have i0 := cell_in HI3.out (j := 0) (u := .int .i64 1) rfl
  have i1 := cell_in HI3.out (j := 1) (u := .int .i64 d) rfl
  have i4 := cell_in HI3.out (j := 4) (u := .int .i64 n) rfl
  go_wp2_with (first | (refine wpList_load_row rfl 28 _ rfl (w.heap.size) rfl 28 (hA h) (0, 0) _ HX3.out Try.underlying28 rfl (infoA (hA_size h h32)) ?_))
  refine (rput_any h d (4096 * n) _ h32 PV.out).mono ?_
  rintro e w5 ⟨rfl, hb5⟩
  have HX5 := Lib.hid (upH hb5 HX3.out); have HZ5 := Lib.hid (upH hb5 HZ3.out); have HY5 := Lib.hid (upH hb5 HY3.out); have N5 := Lib.hid (upH hb5 N3.out); have HI5 := Lib.hid (upH hb5 HI3.out)
  have bw5 : Below w.heap.size w w5 := bw_tr hbw3 hb5
  have hs5 : w3.heap.size ≤ w5.heap.size := hb5.size
  have hl5 := put_len h32 d (4096 * n)
  obtain ⟨h5, hh5⟩ : ∃ h5, putH h d (4096 * n) = h5 := ⟨_, rfl⟩
  rw [hh5]
  rw [hh5] at hl5
  have HH5 := Lib.hid hh5
  clear hh5 hb5 i0 i1 i4 HX3 HZ3 HY3 HI3 N3 hbw3
  go_upto_region 51 with (refine wpList_store_row rfl 28 _ _ rfl (w.heap.size) (hA h5) rfl rfl 28 (hA h) HX5.out (infoA (hA_size h5 hl5)) (by rw [hA_size h5 hl5, hA_size h h32]) (hA_one h5) ?_)
  obtain ⟨w6, hw6⟩ : ∃ w6 : World, w5.setRow w.heap.size (hA h5) = w6 := ⟨_, rfl⟩
  have HX6 : Hid (w6.heap[w.heap.size]? = some (.cells (hA h5) 28 (0, 0))) := by rw [← hw6]; exact setRow_heap _ _ _ _ _ _ HX5.out
  have HZ6 : Hid (w6.heap[w.heap.size + 2]? = some (.cells zA 28 (0, 0))) := by rw [← hw6]; exact row_ne (by omega) HZ5.out
  have HY6 : Hid (w6.heap[w.heap.size + 3]? = some (.cells effZ 34 (0, 0))) := by rw [← hw6]; exact row_ne (by omega) HY5.out
  have HI6 : Hid (w6.heap[w.heap.size + 1]? = some (.cells #[.int .i64 1, .int .i64 d, .int .i64 ka, .int .i64 kb, .int .i64 n] 24 (0, 0))) := by rw [← hw6]; exact row_ne (by omega) HI5.out
  have N6 : Hid (w6.heap[pe]? = some (.cells effZ 34 (0, 0))) := by rw [← hw6]; exact row_ne (by omega) N5.out
  have bw6 : Below w.heap.size w w6 := by rw [← hw6]; exact below_setRow bw5 (Nat.le_refl _) _
  have hs6 : pe < w6.heap.size := lt_in N6.out
  have c4 := cell_in HI6.out (j := 4) (u := .int .i64 n) rfl
  rw [hw6]
  clear hw6 HX5 HZ5 HY5 HI5 N5 bw5 hs5
  have g32 := cell_in HX6.out (hA_fields h5 hl5).1
  have f32 := frozen_in HX6.out 32
  have X7 : Hid ((w6.setCell ⟨w.heap.size, 32, none⟩ (.int .i64 (wrap32 (h.pc + 4)))).heap[w.heap.size]? = some (.cells (hA { h5 with pc := wrap32 (h.pc + 4) }) 28 (0, 0))) := Lib.hid (set_heap HX6.out 32 (.int .i64 (wrap32 (h.pc + 4))) _ (hA_pc h5 hl5 (wrap32 (h.pc + 4))))
  have Z7 : Hid ((w6.setCell ⟨w.heap.size, 32, none⟩ (.int .i64 (wrap32 (h.pc + 4)))).heap[w.heap.size + 2]? = some (.cells zA 28 (0, 0))) := Lib.hid (heap_set_ne (by omega) HZ6.out)
  have Y7 : Hid ((w6.setCell ⟨w.heap.size, 32, none⟩ (.int .i64 (wrap32 (h.pc + 4)))).heap[w.heap.size + 3]? = some (.cells effZ 34 (0, 0))) := Lib.hid (heap_set_ne (by omega) HY6.out)
  have N7 : Hid ((w6.setCell ⟨w.heap.size, 32, none⟩ (.int .i64 (wrap32 (h.pc + 4)))).heap[pe]? = some (.cells #[.int .i64 0, .int .i64 0, .int .i64 0, .int .i64 0, .int .i64 0] 34 (0, 0))) := Lib.hid (heap_set_ne (by omega) N6.out)
  have B7 : Hid (Below w.heap.size w (w6.setCell ⟨w.heap.size, 32, none⟩ (.int .i64 (wrap32 (h.pc + 4))))) := Lib.hid (bw_set bw6 (Nat.le_refl _) _)
  go_upto_region 52 with (fail)
  obtain ⟨w7, hw7⟩ : ∃ w7 : World, w6.setCell ⟨w.heap.size, 32, none⟩ (.int .i64 (wrap32 (h.pc + 4))) = w7 := ⟨_, rfl⟩
  rw [hw7] at X7 Z7 Y7 N7 B7 ⊢
  have hh7 : ({ h5 with pc := wrap32 (h.pc + 4) } : Ht) = h7 := by rw [← HH5.out]; exact HH7.out
  have hl7' : h7.r.length = 32 := by rw [← hh7]; exact hl5
  rw [hh7] at X7
  have HL7 := Lib.hid hl7'
  clear hw7 hh7 hl7' g32 f32 HX6 HZ6 HY6 N6
  refine wp_region_up (fun w' => w'.heap[w.heap.size]? = some (.cells (hA h7) 28 (0, 0)) ∧ w'.heap[pe]? = some (.cells #[.int .i64 0, .int .i64 0, .int .i64 0, .int .i64 0, .int .i64 0] 34 (0, 0))) [true, true, false, false] (by kernel_rfl) (by kernel_rfl) (by kernel_rfl) (fun _ _ hh hu => ⟨upH hu hh.1, upH hu hh.2⟩) ⟨X7.out, N7.out⟩ ?ra ?rh ?rt
  case rh =>
    intro w0 h0
    have R0 : Hid (∀ w' : World, (∃ x : Wd w0, w' = x.val) → (loadVar 28 ⟨w.heap.size, 0, none⟩).run Try.prog w' = .ok (.agg (hA h7)) w') := by
      rintro w' ⟨x, rfl⟩
      exact run_loadVar_row _ _ 28 28 (hA h7) (0, 0) _ (bel_in x.bel (lt_in h0.1) h0.1) Try.underlying28 rfl (infoA (hA_size h7 HL7.out))
    have R1 : Hid (∀ w' : World, (∃ x : Wd w0, w' = x.val) → (loadVar 34 ⟨pe, 0, none⟩).run Try.prog w' = .ok (.agg #[.int .i64 0, .int .i64 0, .int .i64 0, .int .i64 0, .int .i64 0]) w') := by
      rintro w' ⟨x, rfl⟩
      exact run_loadVar_row _ _ 34 34 #[.int .i64 0, .int .i64 0, .int .i64 0, .int .i64 0, .int .i64 0] (0, 0) _ (bel_in x.bel (lt_in h0.2) h0.2) Try.underlying34 rfl (by kernel_rfl)
    clear h0
    simp only [pickM]
    go_big_quiet_want
    refine quiet_load_row 28 _ (w.heap.size) (hA h7) rfl rfl R0.out ?_
    simp only [Act.put, List.setIfInBounds_toArray, List.set_cons_succ, List.set_cons_zero]
    go_big_quiet_on
    go_big_quiet_want
    refine quiet_load_row 34 _ pe #[.int .i64 0, .int .i64 0, .int .i64 0, .int .i64 0, .int .i64 0] rfl rfl R1.out ?_
    simp only [Act.put, List.setIfInBounds_toArray, List.set_cons_succ, List.set_cons_zero]
    go_big_quiet_on
    refine wpQuiet_nil ?_
    rfl
  case rt => as_aux_lemma =>
    change wpAnyU _ _ _ _ _ 2 _ _ _
    refine anyU_one (i := 2) (by kernel_rfl) rfl ?_
    intro w8 hu8 hc8
    have hu8 := bw_undrew hu8
    have Z8 := Lib.hid (upH hu8 Z7.out); have Y8 := Lib.hid (upH hu8 Y7.out); have B8 := Lib.hid (bw_tr B7.out hu8); have D8 := Lib.hid hc8
    clear hu8 hc8 X7 Z7 Y7 N7
    go_wp2_with (refine wpList_store_row rfl 28 _ _ rfl (w.heap.size + 2) (hA h7) rfl rfl 28 zA Z8.out (infoA (hA_size h7 HL7.out)) (by rw [hA_size h7 HL7.out]; rfl) (hA_one h7) ?_)
    refine ⟨⟨row_ne (by omega) D8.out.1, row_ne (by omega) D8.out.2⟩, ?_⟩
    refine anyU_one (i := 3) (by kernel_rfl) rfl ?_
    intro w9 hu9 hc9
    have Z9 := Lib.hid (upH hu9 (setRow_heap _ _ _ _ _ _ Z8.out : (w8.setRow (w.heap.size + 2) (hA h7)).heap[w.heap.size + 2]? = some (.cells (hA h7) 28 (0, 0))))
    have Y9 := Lib.hid (upH hu9 (row_ne (cs := hA h7) (by omega) Y8.out))
    have B9 := Lib.hid (bw_tr (below_setRow B8.out (by omega) (hA h7)) hu9 : Below w.heap.size w w9)
    have D9 := Lib.hid hc9
    clear hu9 hc9 Z8 Y8 D8 B8
    go_wp2_with (refine wpList_store_row rfl 34 _ _ rfl (w.heap.size + 3) #[.int .i64 0, .int .i64 0, .int .i64 0, .int .i64 0, .int .i64 0] rfl rfl 34 effZ Y9.out (by kernel_rfl) rfl (by kernel_rfl) ?_)
    refine ⟨⟨row_ne (by omega) D9.out.1, row_ne (by omega) D9.out.2⟩, ?_⟩
    refine anyU_nil (by kernel_rfl) ?_
    intro w10 hu10 hc10
    have Z10 := Lib.hid (upH hu10 (row_ne (cs := #[.int .i64 0, .int .i64 0, .int .i64 0, .int .i64 0, .int .i64 0]) (by omega) Z9.out))
    have Y10 := Lib.hid (upH hu10 (setRow_heap _ _ _ _ _ _ Y9.out : (w9.setRow (w.heap.size + 3) #[.int .i64 0, .int .i64 0, .int .i64 0, .int .i64 0, .int .i64 0]).heap[w.heap.size + 3]? = some (.cells #[.int .i64 0, .int .i64 0, .int .i64 0, .int .i64 0, .int .i64 0] 34 (0, 0))))
    have B10 := Lib.hid (bw_tr (below_setRow B9.out (by omega) #[.int .i64 0, .int .i64 0, .int .i64 0, .int .i64 0, .int .i64 0]) hu10 : Below w.heap.size w w10)
    clear hu10 hc10 Z9 Y9 D9 B9
    go_wp2_with fail
    exact bodyPost_ret (v := .tuple #[.agg (hA h7), .agg #[.int .i64 0, .int .i64 0, .int .i64 0, .int .i64 0, .int .i64 0]]) (results_cells2 rfl _ _ (w.heap.size + 2) (w.heap.size + 3) 28 34 (hA h7) #[.int .i64 0, .int .i64 0, .int .i64 0, .int .i64 0, .int .i64 0] (0, 0) (0, 0) _ _ rfl rfl Z10.out Y10.out Try.underlying28 rfl (infoA (hA_size h7 HL7.out)) Try.underlying34 rfl (by kernel_rfl)) rfl ⟨rfl, B10.out⟩
set_option maxRecDepth 100000 in
set_option maxHeartbeats 8000000 in
theorem rstep_2 (h : Ht) (id d n : Int) (ka kb : Nat) (w : World) (f : Fine h) (hr : rightB ⟨2, d, ka, kb, n⟩ = true) (hka : ka < 32) (hkb : kb < 32) (hn : -1048576 ≤ n ∧ n ≤ 1048575) :
    Calls Try.prog 17 #[.agg (hA h), .int .i64 id, insV ⟨2, d, ka, kb, n⟩] w fun e w' => e = .returned (.tuple #[.agg (hA ({ putH h d (h.pc + 4096 * n) with pc := wrap32 (h.pc + 4) })), effV ⟨0, 0, 0, 0, 0⟩]) ∧ Below w.heap.size w w' := by
  have h32 := f.len
  have P4 : Hid (I64 (h.pc + 4)) := Lib.hid (by have := f.pc.1.1; have := f.pc.1.2; constructor <;> omega)
  have PN : Hid (I64 (h.pc + n)) := Lib.hid (by have := f.pc.1.1; have := f.pc.1.2; constructor <;> omega)
  obtain ⟨va, hva⟩ : ∃ va, h.r.getD ka 0 = va := ⟨_, rfl⟩
  obtain ⟨vb, hvb⟩ : ∃ vb, h.r.getD kb 0 = vb := ⟨_, rfl⟩
  have IAI : Hid (I32 va) := Lib.hid (hva ▸ f.reg ka hka)
  have IBI : Hid (I32 vb) := Lib.hid (hvb ▸ f.reg kb hkb)
  have HVA := Lib.hid hva; have HVB := Lib.hid hvb
  try rw [hva]
  try rw [hvb]
  clear hva hvb
  have w4 : IntKind.i64.wrap (h.pc + 4) = h.pc + 4 := IntWalk.i64_in _ (by have := P4.out.1; have := P4.out.2; omega)
  have wn : IntKind.i64.wrap (h.pc + n) = h.pc + n := IntWalk.i64_in _ (by have := PN.out.1; have := PN.out.2; omega)
  obtain ⟨h7, hh7⟩ : ∃ h7 : Ht, ({ putH h d (h.pc + 4096 * n) with pc := wrap32 (h.pc + 4) } : Ht) = h7 := ⟨_, rfl⟩
  rw [hh7]
  have HH7 := Lib.hid hh7; clear hh7
  have wv : IntKind.i64.wrap (4096 * n) = 4096 * n := IntWalk.i64_in _ (by omega)
  have hpv : I64 (h.pc + 4096 * n) := by have := f.pc.1.1; have := f.pc.1.2; constructor <;> omega
  have PV := Lib.hid hpv
  have wv2 : IntKind.i64.wrap (h.pc + 4096 * n) = h.pc + 4096 * n := IntWalk.i64_in _ (by have := hpv.1; have := hpv.2; omega)
  clear hpv
  have hfm : (rowT 2).form = 85 := by decide +kernel
  obtain ⟨w0, hw0, hx, hi, hz, hy, hb0, hs0⟩ := four_new w (.cells (hA h) 28) (.cells #[.int .i64 2, .int .i64 d, .int .i64 ka, .int .i64 kb, .int .i64 n] 24) (.cells zA 28) (.cells effZ 34)
  have i0 := cell_in hi (j := 0) (u := .int .i64 2) rfl
  have i1 := cell_in hi (j := 1) (u := .int .i64 d) rfl
  have i2 := cell_in hi (j := 2) (u := .int .i64 ka) rfl
  have i3 := cell_in hi (j := 3) (u := .int .i64 kb) rfl
  have i4 := cell_in hi (j := 4) (u := .int .i64 n) rfl
  have HW := Lib.hid hw0
  have HX := Lib.hid hx; have HI := Lib.hid hi; have HZ := Lib.hid hz; have HY := Lib.hid hy; have HR := Lib.hid hr; have FF := Lib.hid f; have HN := Lib.hid hn
  clear hx hi hz hy hw0 hr f hn
  unfold insV
  go_enter Try.func17, Try.ntmps17
  go_upto_region 1 with (fail)
  change Code.wp _ _ _ _ ((((w.alloc (.cells (hA h) 28)).alloc (.cells #[.int .i64 2, .int .i64 d, .int .i64 ka, .int .i64 kb, .int .i64 n] 24)).alloc (.cells zA 28)).alloc (.cells effZ 34))
  rw [← HW.out]
  go_wp2_with fail
  refine (refRight_h 2 d ka kb n true _ HR.out).mono ?_
  rintro e w1 ⟨rfl, hb1⟩
  have HX1 := Lib.hid (upH hb1 HX.out); have HI1 := Lib.hid (upH hb1 HI.out); have HZ1 := Lib.hid (upH hb1 HZ.out); have HY1 := Lib.hid (upH hb1 HY.out)
  have hbw1 : Below w.heap.size w w1 := (by repeat (first | (with_reducible exact Below.refl _ _) | (with_reducible refine bw_set ?_ ?_ _) | (with_reducible apply bw_alloc) | (with_reducible refine bw_tr ?_ (by with_reducible assumption)) | (with_reducible apply bw_drew) | omega))
  have hs1 : w.heap.size + 4 ≤ w1.heap.size := by have := hb1.size; omega
  clear i0 i1 i2 i3 i4 HX HI HZ HY HW hb0 hs0 hb1
  have ca := cell_in HX1.out (show (hA h)[ka]? = some (.int .i64 va) by rw [hA_r h h32 ka hka, HVA.out])
  have cb := cell_in HX1.out (show (hA h)[kb]? = some (.int .i64 vb) by rw [hA_r h h32 kb hkb, HVB.out])
  have c32 := cell_in HX1.out (hA_fields h h32).1
  have i0 := cell_in HI1.out (j := 0) (u := .int .i64 2) rfl
  have i2 := cell_in HI1.out (j := 2) (u := .int .i64 ka) rfl
  have i3 := cell_in HI1.out (j := 3) (u := .int .i64 kb) rfl
  have i4 := cell_in HI1.out (j := 4) (u := .int .i64 n) rfl
  go_upto_region 8 with (first | (go_at_call 38; (with_reducible refine (rwrap_any (h.pc + 4) _ P4.out).mono ?_); rintro e w' ⟨rfl, rfl⟩) | (go_at_call 38; (with_reducible refine (rwrap_any (h.pc + n) _ PN.out).mono ?_); rintro e w' ⟨rfl, rfl⟩))
  go_wp2_with fail
  refine (refRow_any 2 _).mono ?_
  obtain ⟨rw0, hrw⟩ : ∃ r, rowT 2 = r := ⟨_, rfl⟩
  rw [hrw]
  rw [hrw] at hfm
  obtain ⟨nm, fm, lo, mi, hi⟩ := rw0
  simp only at hfm
  clear hrw
  subst hfm
  have hfld : ∀ w : World, (Instr.field 54 (.agg #[.string nm, .int .u8 85, .int .i64 lo, .int .i64 mi, .int .i64 hi]) 1).run Try.prog w = .ok (.int .u8 85) w := fun w => by kernel_rfl
  rintro e w2 ⟨rfl, hb2⟩
  have HX2 := Lib.hid (upH hb2 HX1.out); have HI2 := Lib.hid (upH hb2 HI1.out); have HZ2 := Lib.hid (upH hb2 HZ1.out); have HY2 := Lib.hid (upH hb2 HY1.out)
  have hbw2 : Below w.heap.size w w2 := (by repeat (first | (with_reducible exact Below.refl _ _) | (with_reducible refine bw_set ?_ ?_ _) | (with_reducible apply bw_alloc) | (with_reducible refine bw_tr ?_ (by with_reducible assumption)) | (with_reducible apply bw_drew) | omega))
  have hs2 : w.heap.size + 4 ≤ w2.heap.size := by have := hb2.size; omega
  clear ca cb c32 i0 i2 i3 i4 hb2 HX1 HI1 HZ1 HY1 hbw1 hs1 w4 wn
  unfold rfV
  go_upto_region 12 with (fail)
  clear hfld
  change Code.wp _ _ _ _ (w2.alloc (.cells effZ 34))
  have N3 : Hid ((w2.alloc (.cells effZ 34)).heap[w2.heap.size]? = some (.cells effZ 34 (0, 0))) := Lib.hid (new_in w2 (.cells effZ 34))
  have hb3 : Below w2.heap.size w2 (w2.alloc (.cells effZ 34)) := newH w2 (.cells effZ 34)
  have hs3 : w2.heap.size < (w2.alloc (.cells effZ 34)).heap.size := lt_in N3.out
  obtain ⟨w3, hw3⟩ : ∃ w3 : World, w2.alloc (.cells effZ 34) = w3 := ⟨_, rfl⟩
  rw [hw3] at N3 hb3 hs3 ⊢
  have HX3 := Lib.hid (upH hb3 HX2.out); have HI3 := Lib.hid (upH hb3 HI2.out); have HZ3 := Lib.hid (upH hb3 HZ2.out); have HY3 := Lib.hid (upH hb3 HY2.out)
  have hbw3 : Below w.heap.size w w3 := bw_tr hbw2 hb3
  obtain ⟨pe, hpe⟩ : ∃ pe, w2.heap.size = pe := ⟨_, rfl⟩
  rw [hpe] at N3 hs2 hs3 ⊢
  clear hpe hw3 hb3 HX2 HI2 HZ2 HY2 hbw2
  have i0 := cell_in HI3.out (j := 0) (u := .int .i64 2) rfl
  have i1 := cell_in HI3.out (j := 1) (u := .int .i64 d) rfl
  have i4 := cell_in HI3.out (j := 4) (u := .int .i64 n) rfl
  have c32 := cell_in HX3.out (hA_fields h h32).1
  go_wp2_with (first | (refine wpList_load_row rfl 28 _ rfl (w.heap.size) rfl 28 (hA h) (0, 0) _ HX3.out Try.underlying28 rfl (infoA (hA_size h h32)) ?_))
  clear c32
  refine (rput_any h d (h.pc + 4096 * n) _ h32 PV.out).mono ?_
  rintro e w5 ⟨rfl, hb5⟩
  have HX5 := Lib.hid (upH hb5 HX3.out); have HZ5 := Lib.hid (upH hb5 HZ3.out); have HY5 := Lib.hid (upH hb5 HY3.out); have N5 := Lib.hid (upH hb5 N3.out); have HI5 := Lib.hid (upH hb5 HI3.out)
  have bw5 : Below w.heap.size w w5 := bw_tr hbw3 hb5
  have hs5 : w3.heap.size ≤ w5.heap.size := hb5.size
  have hl5 := put_len h32 d (h.pc + 4096 * n)
  obtain ⟨h5, hh5⟩ : ∃ h5, putH h d (h.pc + 4096 * n) = h5 := ⟨_, rfl⟩
  rw [hh5]
  rw [hh5] at hl5
  have HH5 := Lib.hid hh5
  clear hh5 hb5 i0 i1 i4 HX3 HZ3 HY3 HI3 N3 hbw3
  go_upto_region 51 with (refine wpList_store_row rfl 28 _ _ rfl (w.heap.size) (hA h5) rfl rfl 28 (hA h) HX5.out (infoA (hA_size h5 hl5)) (by rw [hA_size h5 hl5, hA_size h h32]) (hA_one h5) ?_)
  obtain ⟨w6, hw6⟩ : ∃ w6 : World, w5.setRow w.heap.size (hA h5) = w6 := ⟨_, rfl⟩
  have HX6 : Hid (w6.heap[w.heap.size]? = some (.cells (hA h5) 28 (0, 0))) := by rw [← hw6]; exact setRow_heap _ _ _ _ _ _ HX5.out
  have HZ6 : Hid (w6.heap[w.heap.size + 2]? = some (.cells zA 28 (0, 0))) := by rw [← hw6]; exact row_ne (by omega) HZ5.out
  have HY6 : Hid (w6.heap[w.heap.size + 3]? = some (.cells effZ 34 (0, 0))) := by rw [← hw6]; exact row_ne (by omega) HY5.out
  have HI6 : Hid (w6.heap[w.heap.size + 1]? = some (.cells #[.int .i64 2, .int .i64 d, .int .i64 ka, .int .i64 kb, .int .i64 n] 24 (0, 0))) := by rw [← hw6]; exact row_ne (by omega) HI5.out
  have N6 : Hid (w6.heap[pe]? = some (.cells effZ 34 (0, 0))) := by rw [← hw6]; exact row_ne (by omega) N5.out
  have bw6 : Below w.heap.size w w6 := by rw [← hw6]; exact below_setRow bw5 (Nat.le_refl _) _
  have hs6 : pe < w6.heap.size := lt_in N6.out
  have c4 := cell_in HI6.out (j := 4) (u := .int .i64 n) rfl
  rw [hw6]
  clear hw6 HX5 HZ5 HY5 HI5 N5 bw5 hs5
  have g32 := cell_in HX6.out (hA_fields h5 hl5).1
  have f32 := frozen_in HX6.out 32
  have X7 : Hid ((w6.setCell ⟨w.heap.size, 32, none⟩ (.int .i64 (wrap32 (h.pc + 4)))).heap[w.heap.size]? = some (.cells (hA { h5 with pc := wrap32 (h.pc + 4) }) 28 (0, 0))) := Lib.hid (set_heap HX6.out 32 (.int .i64 (wrap32 (h.pc + 4))) _ (hA_pc h5 hl5 (wrap32 (h.pc + 4))))
  have Z7 : Hid ((w6.setCell ⟨w.heap.size, 32, none⟩ (.int .i64 (wrap32 (h.pc + 4)))).heap[w.heap.size + 2]? = some (.cells zA 28 (0, 0))) := Lib.hid (heap_set_ne (by omega) HZ6.out)
  have Y7 : Hid ((w6.setCell ⟨w.heap.size, 32, none⟩ (.int .i64 (wrap32 (h.pc + 4)))).heap[w.heap.size + 3]? = some (.cells effZ 34 (0, 0))) := Lib.hid (heap_set_ne (by omega) HY6.out)
  have N7 : Hid ((w6.setCell ⟨w.heap.size, 32, none⟩ (.int .i64 (wrap32 (h.pc + 4)))).heap[pe]? = some (.cells #[.int .i64 0, .int .i64 0, .int .i64 0, .int .i64 0, .int .i64 0] 34 (0, 0))) := Lib.hid (heap_set_ne (by omega) N6.out)
  have B7 : Hid (Below w.heap.size w (w6.setCell ⟨w.heap.size, 32, none⟩ (.int .i64 (wrap32 (h.pc + 4))))) := Lib.hid (bw_set bw6 (Nat.le_refl _) _)
  go_upto_region 52 with (fail)
  obtain ⟨w7, hw7⟩ : ∃ w7 : World, w6.setCell ⟨w.heap.size, 32, none⟩ (.int .i64 (wrap32 (h.pc + 4))) = w7 := ⟨_, rfl⟩
  rw [hw7] at X7 Z7 Y7 N7 B7 ⊢
  have hh7 : ({ h5 with pc := wrap32 (h.pc + 4) } : Ht) = h7 := by rw [← HH5.out]; exact HH7.out
  have hl7' : h7.r.length = 32 := by rw [← hh7]; exact hl5
  rw [hh7] at X7
  have HL7 := Lib.hid hl7'
  clear hw7 hh7 hl7' g32 f32 HX6 HZ6 HY6 N6
  refine wp_region_up (fun w' => w'.heap[w.heap.size]? = some (.cells (hA h7) 28 (0, 0)) ∧ w'.heap[pe]? = some (.cells #[.int .i64 0, .int .i64 0, .int .i64 0, .int .i64 0, .int .i64 0] 34 (0, 0))) [true, true, false, false] (by kernel_rfl) (by kernel_rfl) (by kernel_rfl) (fun _ _ hh hu => ⟨upH hu hh.1, upH hu hh.2⟩) ⟨X7.out, N7.out⟩ ?ra ?rh ?rt
  case rh =>
    intro w0 h0
    have R0 : Hid (∀ w' : World, (∃ x : Wd w0, w' = x.val) → (loadVar 28 ⟨w.heap.size, 0, none⟩).run Try.prog w' = .ok (.agg (hA h7)) w') := by
      rintro w' ⟨x, rfl⟩
      exact run_loadVar_row _ _ 28 28 (hA h7) (0, 0) _ (bel_in x.bel (lt_in h0.1) h0.1) Try.underlying28 rfl (infoA (hA_size h7 HL7.out))
    have R1 : Hid (∀ w' : World, (∃ x : Wd w0, w' = x.val) → (loadVar 34 ⟨pe, 0, none⟩).run Try.prog w' = .ok (.agg #[.int .i64 0, .int .i64 0, .int .i64 0, .int .i64 0, .int .i64 0]) w') := by
      rintro w' ⟨x, rfl⟩
      exact run_loadVar_row _ _ 34 34 #[.int .i64 0, .int .i64 0, .int .i64 0, .int .i64 0, .int .i64 0] (0, 0) _ (bel_in x.bel (lt_in h0.2) h0.2) Try.underlying34 rfl (by kernel_rfl)
    clear h0
    simp only [pickM]
    go_big_quiet_want
    refine quiet_load_row 28 _ (w.heap.size) (hA h7) rfl rfl R0.out ?_
    simp only [Act.put, List.setIfInBounds_toArray, List.set_cons_succ, List.set_cons_zero]
    go_big_quiet_on
    go_big_quiet_want
    refine quiet_load_row 34 _ pe #[.int .i64 0, .int .i64 0, .int .i64 0, .int .i64 0, .int .i64 0] rfl rfl R1.out ?_
    simp only [Act.put, List.setIfInBounds_toArray, List.set_cons_succ, List.set_cons_zero]
    go_big_quiet_on
    refine wpQuiet_nil ?_
    rfl
  case rt => as_aux_lemma =>
    change wpAnyU _ _ _ _ _ 2 _ _ _
    refine anyU_one (i := 2) (by kernel_rfl) rfl ?_
    intro w8 hu8 hc8
    have hu8 := bw_undrew hu8
    have Z8 := Lib.hid (upH hu8 Z7.out); have Y8 := Lib.hid (upH hu8 Y7.out); have B8 := Lib.hid (bw_tr B7.out hu8); have D8 := Lib.hid hc8
    clear hu8 hc8 X7 Z7 Y7 N7
    go_wp2_with (refine wpList_store_row rfl 28 _ _ rfl (w.heap.size + 2) (hA h7) rfl rfl 28 zA Z8.out (infoA (hA_size h7 HL7.out)) (by rw [hA_size h7 HL7.out]; rfl) (hA_one h7) ?_)
    refine ⟨⟨row_ne (by omega) D8.out.1, row_ne (by omega) D8.out.2⟩, ?_⟩
    refine anyU_one (i := 3) (by kernel_rfl) rfl ?_
    intro w9 hu9 hc9
    have Z9 := Lib.hid (upH hu9 (setRow_heap _ _ _ _ _ _ Z8.out : (w8.setRow (w.heap.size + 2) (hA h7)).heap[w.heap.size + 2]? = some (.cells (hA h7) 28 (0, 0))))
    have Y9 := Lib.hid (upH hu9 (row_ne (cs := hA h7) (by omega) Y8.out))
    have B9 := Lib.hid (bw_tr (below_setRow B8.out (by omega) (hA h7)) hu9 : Below w.heap.size w w9)
    have D9 := Lib.hid hc9
    clear hu9 hc9 Z8 Y8 D8 B8
    go_wp2_with (refine wpList_store_row rfl 34 _ _ rfl (w.heap.size + 3) #[.int .i64 0, .int .i64 0, .int .i64 0, .int .i64 0, .int .i64 0] rfl rfl 34 effZ Y9.out (by kernel_rfl) rfl (by kernel_rfl) ?_)
    refine ⟨⟨row_ne (by omega) D9.out.1, row_ne (by omega) D9.out.2⟩, ?_⟩
    refine anyU_nil (by kernel_rfl) ?_
    intro w10 hu10 hc10
    have Z10 := Lib.hid (upH hu10 (row_ne (cs := #[.int .i64 0, .int .i64 0, .int .i64 0, .int .i64 0, .int .i64 0]) (by omega) Z9.out))
    have Y10 := Lib.hid (upH hu10 (setRow_heap _ _ _ _ _ _ Y9.out : (w9.setRow (w.heap.size + 3) #[.int .i64 0, .int .i64 0, .int .i64 0, .int .i64 0, .int .i64 0]).heap[w.heap.size + 3]? = some (.cells #[.int .i64 0, .int .i64 0, .int .i64 0, .int .i64 0, .int .i64 0] 34 (0, 0))))
    have B10 := Lib.hid (bw_tr (below_setRow B9.out (by omega) #[.int .i64 0, .int .i64 0, .int .i64 0, .int .i64 0, .int .i64 0]) hu10 : Below w.heap.size w w10)
    clear hu10 hc10 Z9 Y9 D9 B9
    go_wp2_with fail
    exact bodyPost_ret (v := .tuple #[.agg (hA h7), .agg #[.int .i64 0, .int .i64 0, .int .i64 0, .int .i64 0, .int .i64 0]]) (results_cells2 rfl _ _ (w.heap.size + 2) (w.heap.size + 3) 28 34 (hA h7) #[.int .i64 0, .int .i64 0, .int .i64 0, .int .i64 0, .int .i64 0] (0, 0) (0, 0) _ _ rfl rfl Z10.out Y10.out Try.underlying28 rfl (infoA (hA_size h7 HL7.out)) Try.underlying34 rfl (by kernel_rfl)) rfl ⟨rfl, B10.out⟩
set_option maxRecDepth 100000 in
set_option maxHeartbeats 8000000 in
theorem rstep_3 (h : Ht) (id d n : Int) (ka kb : Nat) (w : World) (f : Fine h) (hr : rightB ⟨3, d, ka, kb, n⟩ = true) (hka : ka < 32) (hkb : kb < 32) (hn : -1048576 ≤ n ∧ n ≤ 1048575) :
    Calls Try.prog 17 #[.agg (hA h), .int .i64 id, insV ⟨3, d, ka, kb, n⟩] w fun e w' => e = .returned (.tuple #[.agg (hA ({ putH h d (wrap32 (h.pc + 4)) with pc := wrap32 (h.pc + n) })), effV ⟨0, 0, 0, 0, 0⟩]) ∧ Below w.heap.size w w' := by
  have h32 := f.len
  have P4 : Hid (I64 (h.pc + 4)) := Lib.hid (by have := f.pc.1.1; have := f.pc.1.2; constructor <;> omega)
  have PN : Hid (I64 (h.pc + n)) := Lib.hid (by have := f.pc.1.1; have := f.pc.1.2; constructor <;> omega)
  obtain ⟨va, hva⟩ : ∃ va, h.r.getD ka 0 = va := ⟨_, rfl⟩
  obtain ⟨vb, hvb⟩ : ∃ vb, h.r.getD kb 0 = vb := ⟨_, rfl⟩
  have IAI : Hid (I32 va) := Lib.hid (hva ▸ f.reg ka hka)
  have IBI : Hid (I32 vb) := Lib.hid (hvb ▸ f.reg kb hkb)
  have HVA := Lib.hid hva; have HVB := Lib.hid hvb
  try rw [hva]
  try rw [hvb]
  clear hva hvb
  have w4 : IntKind.i64.wrap (h.pc + 4) = h.pc + 4 := IntWalk.i64_in _ (by have := P4.out.1; have := P4.out.2; omega)
  have wn : IntKind.i64.wrap (h.pc + n) = h.pc + n := IntWalk.i64_in _ (by have := PN.out.1; have := PN.out.2; omega)
  obtain ⟨h7, hh7⟩ : ∃ h7 : Ht, ({ putH h d (wrap32 (h.pc + 4)) with pc := wrap32 (h.pc + n) } : Ht) = h7 := ⟨_, rfl⟩
  rw [hh7]
  have HH7 := Lib.hid hh7; clear hh7
  have PV : Hid (I64 (wrap32 (h.pc + 4))) := Lib.hid (i32_64 (wrap32_i32 _))
  have hfm : (rowT 3).form = 74 := by decide +kernel
  obtain ⟨w0, hw0, hx, hi, hz, hy, hb0, hs0⟩ := four_new w (.cells (hA h) 28) (.cells #[.int .i64 3, .int .i64 d, .int .i64 ka, .int .i64 kb, .int .i64 n] 24) (.cells zA 28) (.cells effZ 34)
  have i0 := cell_in hi (j := 0) (u := .int .i64 3) rfl
  have i1 := cell_in hi (j := 1) (u := .int .i64 d) rfl
  have i2 := cell_in hi (j := 2) (u := .int .i64 ka) rfl
  have i3 := cell_in hi (j := 3) (u := .int .i64 kb) rfl
  have i4 := cell_in hi (j := 4) (u := .int .i64 n) rfl
  have HW := Lib.hid hw0
  have HX := Lib.hid hx; have HI := Lib.hid hi; have HZ := Lib.hid hz; have HY := Lib.hid hy; have HR := Lib.hid hr; have FF := Lib.hid f; have HN := Lib.hid hn
  clear hx hi hz hy hw0 hr f hn
  unfold insV
  go_enter Try.func17, Try.ntmps17
  go_upto_region 1 with (fail)
  change Code.wp _ _ _ _ ((((w.alloc (.cells (hA h) 28)).alloc (.cells #[.int .i64 3, .int .i64 d, .int .i64 ka, .int .i64 kb, .int .i64 n] 24)).alloc (.cells zA 28)).alloc (.cells effZ 34))
  rw [← HW.out]
  go_wp2_with fail
  refine (refRight_h 3 d ka kb n true _ HR.out).mono ?_
  rintro e w1 ⟨rfl, hb1⟩
  have HX1 := Lib.hid (upH hb1 HX.out); have HI1 := Lib.hid (upH hb1 HI.out); have HZ1 := Lib.hid (upH hb1 HZ.out); have HY1 := Lib.hid (upH hb1 HY.out)
  have hbw1 : Below w.heap.size w w1 := (by repeat (first | (with_reducible exact Below.refl _ _) | (with_reducible refine bw_set ?_ ?_ _) | (with_reducible apply bw_alloc) | (with_reducible refine bw_tr ?_ (by with_reducible assumption)) | (with_reducible apply bw_drew) | omega))
  have hs1 : w.heap.size + 4 ≤ w1.heap.size := by have := hb1.size; omega
  clear i0 i1 i2 i3 i4 HX HI HZ HY HW hb0 hs0 hb1
  have ca := cell_in HX1.out (show (hA h)[ka]? = some (.int .i64 va) by rw [hA_r h h32 ka hka, HVA.out])
  have cb := cell_in HX1.out (show (hA h)[kb]? = some (.int .i64 vb) by rw [hA_r h h32 kb hkb, HVB.out])
  have c32 := cell_in HX1.out (hA_fields h h32).1
  have i0 := cell_in HI1.out (j := 0) (u := .int .i64 3) rfl
  have i2 := cell_in HI1.out (j := 2) (u := .int .i64 ka) rfl
  have i3 := cell_in HI1.out (j := 3) (u := .int .i64 kb) rfl
  have i4 := cell_in HI1.out (j := 4) (u := .int .i64 n) rfl
  go_upto_region 8 with (first | (go_at_call 38; (with_reducible refine (rwrap_any (h.pc + 4) _ P4.out).mono ?_); rintro e w' ⟨rfl, rfl⟩) | (go_at_call 38; (with_reducible refine (rwrap_any (h.pc + n) _ PN.out).mono ?_); rintro e w' ⟨rfl, rfl⟩))
  go_wp2_with fail
  refine (refRow_any 3 _).mono ?_
  obtain ⟨rw0, hrw⟩ : ∃ r, rowT 3 = r := ⟨_, rfl⟩
  rw [hrw]
  rw [hrw] at hfm
  obtain ⟨nm, fm, lo, mi, hi⟩ := rw0
  simp only at hfm
  clear hrw
  subst hfm
  have hfld : ∀ w : World, (Instr.field 54 (.agg #[.string nm, .int .u8 74, .int .i64 lo, .int .i64 mi, .int .i64 hi]) 1).run Try.prog w = .ok (.int .u8 74) w := fun w => by kernel_rfl
  rintro e w2 ⟨rfl, hb2⟩
  have HX2 := Lib.hid (upH hb2 HX1.out); have HI2 := Lib.hid (upH hb2 HI1.out); have HZ2 := Lib.hid (upH hb2 HZ1.out); have HY2 := Lib.hid (upH hb2 HY1.out)
  have hbw2 : Below w.heap.size w w2 := (by repeat (first | (with_reducible exact Below.refl _ _) | (with_reducible refine bw_set ?_ ?_ _) | (with_reducible apply bw_alloc) | (with_reducible refine bw_tr ?_ (by with_reducible assumption)) | (with_reducible apply bw_drew) | omega))
  have hs2 : w.heap.size + 4 ≤ w2.heap.size := by have := hb2.size; omega
  clear ca cb c32 i0 i2 i3 i4 hb2 HX1 HI1 HZ1 HY1 hbw1 hs1 w4 wn
  unfold rfV
  go_upto_region 12 with (fail)
  clear hfld
  change Code.wp _ _ _ _ (w2.alloc (.cells effZ 34))
  have N3 : Hid ((w2.alloc (.cells effZ 34)).heap[w2.heap.size]? = some (.cells effZ 34 (0, 0))) := Lib.hid (new_in w2 (.cells effZ 34))
  have hb3 : Below w2.heap.size w2 (w2.alloc (.cells effZ 34)) := newH w2 (.cells effZ 34)
  have hs3 : w2.heap.size < (w2.alloc (.cells effZ 34)).heap.size := lt_in N3.out
  obtain ⟨w3, hw3⟩ : ∃ w3 : World, w2.alloc (.cells effZ 34) = w3 := ⟨_, rfl⟩
  rw [hw3] at N3 hb3 hs3 ⊢
  have HX3 := Lib.hid (upH hb3 HX2.out); have HI3 := Lib.hid (upH hb3 HI2.out); have HZ3 := Lib.hid (upH hb3 HZ2.out); have HY3 := Lib.hid (upH hb3 HY2.out)
  have hbw3 : Below w.heap.size w w3 := bw_tr hbw2 hb3
  obtain ⟨pe, hpe⟩ : ∃ pe, w2.heap.size = pe := ⟨_, rfl⟩
  rw [hpe] at N3 hs2 hs3 ⊢
  clear hpe hw3 hb3 HX2 HI2 HZ2 HY2 hbw2
  have i0 := cell_in HI3.out (j := 0) (u := .int .i64 3) rfl
  have i1 := cell_in HI3.out (j := 1) (u := .int .i64 d) rfl
  have i4 := cell_in HI3.out (j := 4) (u := .int .i64 n) rfl
  go_wp2_with (first | (refine wpList_load_row rfl 28 _ rfl (w.heap.size) rfl 28 (hA h) (0, 0) _ HX3.out Try.underlying28 rfl (infoA (hA_size h h32)) ?_))
  refine (rput_any h d (wrap32 (h.pc + 4)) _ h32 PV.out).mono ?_
  rintro e w5 ⟨rfl, hb5⟩
  have HX5 := Lib.hid (upH hb5 HX3.out); have HZ5 := Lib.hid (upH hb5 HZ3.out); have HY5 := Lib.hid (upH hb5 HY3.out); have N5 := Lib.hid (upH hb5 N3.out); have HI5 := Lib.hid (upH hb5 HI3.out)
  have bw5 : Below w.heap.size w w5 := bw_tr hbw3 hb5
  have hs5 : w3.heap.size ≤ w5.heap.size := hb5.size
  have hl5 := put_len h32 d (wrap32 (h.pc + 4))
  obtain ⟨h5, hh5⟩ : ∃ h5, putH h d (wrap32 (h.pc + 4)) = h5 := ⟨_, rfl⟩
  rw [hh5]
  rw [hh5] at hl5
  have HH5 := Lib.hid hh5
  clear hh5 hb5 i0 i1 i4 HX3 HZ3 HY3 HI3 N3 hbw3
  go_upto_region 18 with (refine wpList_store_row rfl 28 _ _ rfl (w.heap.size) (hA h5) rfl rfl 28 (hA h) HX5.out (infoA (hA_size h5 hl5)) (by rw [hA_size h5 hl5, hA_size h h32]) (hA_one h5) ?_)
  obtain ⟨w6, hw6⟩ : ∃ w6 : World, w5.setRow w.heap.size (hA h5) = w6 := ⟨_, rfl⟩
  have HX6 : Hid (w6.heap[w.heap.size]? = some (.cells (hA h5) 28 (0, 0))) := by rw [← hw6]; exact setRow_heap _ _ _ _ _ _ HX5.out
  have HZ6 : Hid (w6.heap[w.heap.size + 2]? = some (.cells zA 28 (0, 0))) := by rw [← hw6]; exact row_ne (by omega) HZ5.out
  have HY6 : Hid (w6.heap[w.heap.size + 3]? = some (.cells effZ 34 (0, 0))) := by rw [← hw6]; exact row_ne (by omega) HY5.out
  have HI6 : Hid (w6.heap[w.heap.size + 1]? = some (.cells #[.int .i64 3, .int .i64 d, .int .i64 ka, .int .i64 kb, .int .i64 n] 24 (0, 0))) := by rw [← hw6]; exact row_ne (by omega) HI5.out
  have N6 : Hid (w6.heap[pe]? = some (.cells effZ 34 (0, 0))) := by rw [← hw6]; exact row_ne (by omega) N5.out
  have bw6 : Below w.heap.size w w6 := by rw [← hw6]; exact below_setRow bw5 (Nat.le_refl _) _
  have hs6 : pe < w6.heap.size := lt_in N6.out
  have c4 := cell_in HI6.out (j := 4) (u := .int .i64 n) rfl
  rw [hw6]
  clear hw6 HX5 HZ5 HY5 HI5 N5 bw5 hs5
  have g32 := cell_in HX6.out (hA_fields h5 hl5).1
  have f32 := frozen_in HX6.out 32
  have X7 : Hid ((w6.setCell ⟨w.heap.size, 32, none⟩ (.int .i64 (wrap32 (h.pc + n)))).heap[w.heap.size]? = some (.cells (hA { h5 with pc := wrap32 (h.pc + n) }) 28 (0, 0))) := Lib.hid (set_heap HX6.out 32 (.int .i64 (wrap32 (h.pc + n))) _ (hA_pc h5 hl5 (wrap32 (h.pc + n))))
  have Z7 : Hid ((w6.setCell ⟨w.heap.size, 32, none⟩ (.int .i64 (wrap32 (h.pc + n)))).heap[w.heap.size + 2]? = some (.cells zA 28 (0, 0))) := Lib.hid (heap_set_ne (by omega) HZ6.out)
  have Y7 : Hid ((w6.setCell ⟨w.heap.size, 32, none⟩ (.int .i64 (wrap32 (h.pc + n)))).heap[w.heap.size + 3]? = some (.cells effZ 34 (0, 0))) := Lib.hid (heap_set_ne (by omega) HY6.out)
  have N7 : Hid ((w6.setCell ⟨w.heap.size, 32, none⟩ (.int .i64 (wrap32 (h.pc + n)))).heap[pe]? = some (.cells #[.int .i64 0, .int .i64 0, .int .i64 0, .int .i64 0, .int .i64 0] 34 (0, 0))) := Lib.hid (heap_set_ne (by omega) N6.out)
  have B7 : Hid (Below w.heap.size w (w6.setCell ⟨w.heap.size, 32, none⟩ (.int .i64 (wrap32 (h.pc + n))))) := Lib.hid (bw_set bw6 (Nat.le_refl _) _)
  go_upto_region 52 with (fail)
  obtain ⟨w7, hw7⟩ : ∃ w7 : World, w6.setCell ⟨w.heap.size, 32, none⟩ (.int .i64 (wrap32 (h.pc + n))) = w7 := ⟨_, rfl⟩
  rw [hw7] at X7 Z7 Y7 N7 B7 ⊢
  have hh7 : ({ h5 with pc := wrap32 (h.pc + n) } : Ht) = h7 := by rw [← HH5.out]; exact HH7.out
  have hl7' : h7.r.length = 32 := by rw [← hh7]; exact hl5
  rw [hh7] at X7
  have HL7 := Lib.hid hl7'
  clear hw7 hh7 hl7' g32 f32 HX6 HZ6 HY6 N6
  refine wp_region_up (fun w' => w'.heap[w.heap.size]? = some (.cells (hA h7) 28 (0, 0)) ∧ w'.heap[pe]? = some (.cells #[.int .i64 0, .int .i64 0, .int .i64 0, .int .i64 0, .int .i64 0] 34 (0, 0))) [true, true, false, false] (by kernel_rfl) (by kernel_rfl) (by kernel_rfl) (fun _ _ hh hu => ⟨upH hu hh.1, upH hu hh.2⟩) ⟨X7.out, N7.out⟩ ?ra ?rh ?rt
  case rh =>
    intro w0 h0
    have R0 : Hid (∀ w' : World, (∃ x : Wd w0, w' = x.val) → (loadVar 28 ⟨w.heap.size, 0, none⟩).run Try.prog w' = .ok (.agg (hA h7)) w') := by
      rintro w' ⟨x, rfl⟩
      exact run_loadVar_row _ _ 28 28 (hA h7) (0, 0) _ (bel_in x.bel (lt_in h0.1) h0.1) Try.underlying28 rfl (infoA (hA_size h7 HL7.out))
    have R1 : Hid (∀ w' : World, (∃ x : Wd w0, w' = x.val) → (loadVar 34 ⟨pe, 0, none⟩).run Try.prog w' = .ok (.agg #[.int .i64 0, .int .i64 0, .int .i64 0, .int .i64 0, .int .i64 0]) w') := by
      rintro w' ⟨x, rfl⟩
      exact run_loadVar_row _ _ 34 34 #[.int .i64 0, .int .i64 0, .int .i64 0, .int .i64 0, .int .i64 0] (0, 0) _ (bel_in x.bel (lt_in h0.2) h0.2) Try.underlying34 rfl (by kernel_rfl)
    clear h0
    simp only [pickM]
    go_big_quiet_want
    refine quiet_load_row 28 _ (w.heap.size) (hA h7) rfl rfl R0.out ?_
    simp only [Act.put, List.setIfInBounds_toArray, List.set_cons_succ, List.set_cons_zero]
    go_big_quiet_on
    go_big_quiet_want
    refine quiet_load_row 34 _ pe #[.int .i64 0, .int .i64 0, .int .i64 0, .int .i64 0, .int .i64 0] rfl rfl R1.out ?_
    simp only [Act.put, List.setIfInBounds_toArray, List.set_cons_succ, List.set_cons_zero]
    go_big_quiet_on
    refine wpQuiet_nil ?_
    rfl
  case rt => as_aux_lemma =>
    change wpAnyU _ _ _ _ _ 2 _ _ _
    refine anyU_one (i := 2) (by kernel_rfl) rfl ?_
    intro w8 hu8 hc8
    have hu8 := bw_undrew hu8
    have Z8 := Lib.hid (upH hu8 Z7.out); have Y8 := Lib.hid (upH hu8 Y7.out); have B8 := Lib.hid (bw_tr B7.out hu8); have D8 := Lib.hid hc8
    clear hu8 hc8 X7 Z7 Y7 N7
    go_wp2_with (refine wpList_store_row rfl 28 _ _ rfl (w.heap.size + 2) (hA h7) rfl rfl 28 zA Z8.out (infoA (hA_size h7 HL7.out)) (by rw [hA_size h7 HL7.out]; rfl) (hA_one h7) ?_)
    refine ⟨⟨row_ne (by omega) D8.out.1, row_ne (by omega) D8.out.2⟩, ?_⟩
    refine anyU_one (i := 3) (by kernel_rfl) rfl ?_
    intro w9 hu9 hc9
    have Z9 := Lib.hid (upH hu9 (setRow_heap _ _ _ _ _ _ Z8.out : (w8.setRow (w.heap.size + 2) (hA h7)).heap[w.heap.size + 2]? = some (.cells (hA h7) 28 (0, 0))))
    have Y9 := Lib.hid (upH hu9 (row_ne (cs := hA h7) (by omega) Y8.out))
    have B9 := Lib.hid (bw_tr (below_setRow B8.out (by omega) (hA h7)) hu9 : Below w.heap.size w w9)
    have D9 := Lib.hid hc9
    clear hu9 hc9 Z8 Y8 D8 B8
    go_wp2_with (refine wpList_store_row rfl 34 _ _ rfl (w.heap.size + 3) #[.int .i64 0, .int .i64 0, .int .i64 0, .int .i64 0, .int .i64 0] rfl rfl 34 effZ Y9.out (by kernel_rfl) rfl (by kernel_rfl) ?_)
    refine ⟨⟨row_ne (by omega) D9.out.1, row_ne (by omega) D9.out.2⟩, ?_⟩
    refine anyU_nil (by kernel_rfl) ?_
    intro w10 hu10 hc10
    have Z10 := Lib.hid (upH hu10 (row_ne (cs := #[.int .i64 0, .int .i64 0, .int .i64 0, .int .i64 0, .int .i64 0]) (by omega) Z9.out))
    have Y10 := Lib.hid (upH hu10 (setRow_heap _ _ _ _ _ _ Y9.out : (w9.setRow (w.heap.size + 3) #[.int .i64 0, .int .i64 0, .int .i64 0, .int .i64 0, .int .i64 0]).heap[w.heap.size + 3]? = some (.cells #[.int .i64 0, .int .i64 0, .int .i64 0, .int .i64 0, .int .i64 0] 34 (0, 0))))
    have B10 := Lib.hid (bw_tr (below_setRow B9.out (by omega) #[.int .i64 0, .int .i64 0, .int .i64 0, .int .i64 0, .int .i64 0]) hu10 : Below w.heap.size w w10)
    clear hu10 hc10 Z9 Y9 D9 B9
    go_wp2_with fail
    exact bodyPost_ret (v := .tuple #[.agg (hA h7), .agg #[.int .i64 0, .int .i64 0, .int .i64 0, .int .i64 0, .int .i64 0]]) (results_cells2 rfl _ _ (w.heap.size + 2) (w.heap.size + 3) 28 34 (hA h7) #[.int .i64 0, .int .i64 0, .int .i64 0, .int .i64 0, .int .i64 0] (0, 0) (0, 0) _ _ rfl rfl Z10.out Y10.out Try.underlying28 rfl (infoA (hA_size h7 HL7.out)) Try.underlying34 rfl (by kernel_rfl)) rfl ⟨rfl, B10.out⟩
set_option maxRecDepth 100000 in
set_option maxHeartbeats 8000000 in
theorem rstep_4 (h : Ht) (id d n : Int) (ka kb : Nat) (w : World) (f : Fine h) (hr : rightB ⟨4, d, ka, kb, n⟩ = true) (hka : ka < 32) (hkb : kb < 32) (hn : -1048576 ≤ n ∧ n ≤ 1048575) :
    Calls Try.prog 17 #[.agg (hA h), .int .i64 id, insV ⟨4, d, ka, kb, n⟩] w fun e w' => e = .returned (.tuple #[.agg (hA ({ putH h d (wrap32 (h.pc + 4)) with pc := twoN 6 ((h.r.getD ka 0) + n) (-2) })), effV ⟨0, 0, 0, 0, 0⟩]) ∧ Below w.heap.size w w' := by
  have h32 := f.len
  have P4 : Hid (I64 (h.pc + 4)) := Lib.hid (by have := f.pc.1.1; have := f.pc.1.2; constructor <;> omega)
  have PN : Hid (I64 (h.pc + n)) := Lib.hid (by have := f.pc.1.1; have := f.pc.1.2; constructor <;> omega)
  obtain ⟨va, hva⟩ : ∃ va, h.r.getD ka 0 = va := ⟨_, rfl⟩
  obtain ⟨vb, hvb⟩ : ∃ vb, h.r.getD kb 0 = vb := ⟨_, rfl⟩
  have IAI : Hid (I32 va) := Lib.hid (hva ▸ f.reg ka hka)
  have IBI : Hid (I32 vb) := Lib.hid (hvb ▸ f.reg kb hkb)
  have HVA := Lib.hid hva; have HVB := Lib.hid hvb
  try rw [hva]
  try rw [hvb]
  clear hva hvb
  have w4 : IntKind.i64.wrap (h.pc + 4) = h.pc + 4 := IntWalk.i64_in _ (by have := P4.out.1; have := P4.out.2; omega)
  have wn : IntKind.i64.wrap (h.pc + n) = h.pc + n := IntWalk.i64_in _ (by have := PN.out.1; have := PN.out.2; omega)
  obtain ⟨h7, hh7⟩ : ∃ h7 : Ht, ({ putH h d (wrap32 (h.pc + 4)) with pc := twoN 6 (va + n) (-2) } : Ht) = h7 := ⟨_, rfl⟩
  rw [hh7]
  have HH7 := Lib.hid hh7; clear hh7
  have PV : Hid (I64 (wrap32 (h.pc + 4))) := Lib.hid (i32_64 (wrap32_i32 _))
  have hvn : I64 (va + n) := by have := IAI.out.1; have := IAI.out.2; constructor <;> omega
  have HVN := Lib.hid hvn
  have wvn : IntKind.i64.wrap (va + n) = va + n := IntWalk.i64_in _ (by have := hvn.1; have := hvn.2; omega)
  clear hvn
  have hfm : (rowT 4).form = 73 := by decide +kernel
  obtain ⟨w0, hw0, hx, hi, hz, hy, hb0, hs0⟩ := four_new w (.cells (hA h) 28) (.cells #[.int .i64 4, .int .i64 d, .int .i64 ka, .int .i64 kb, .int .i64 n] 24) (.cells zA 28) (.cells effZ 34)
  have i0 := cell_in hi (j := 0) (u := .int .i64 4) rfl
  have i1 := cell_in hi (j := 1) (u := .int .i64 d) rfl
  have i2 := cell_in hi (j := 2) (u := .int .i64 ka) rfl
  have i3 := cell_in hi (j := 3) (u := .int .i64 kb) rfl
  have i4 := cell_in hi (j := 4) (u := .int .i64 n) rfl
  have HW := Lib.hid hw0
  have HX := Lib.hid hx; have HI := Lib.hid hi; have HZ := Lib.hid hz; have HY := Lib.hid hy; have HR := Lib.hid hr; have FF := Lib.hid f; have HN := Lib.hid hn
  clear hx hi hz hy hw0 hr f hn
  unfold insV
  go_enter Try.func17, Try.ntmps17
  go_upto_region 1 with (fail)
  change Code.wp _ _ _ _ ((((w.alloc (.cells (hA h) 28)).alloc (.cells #[.int .i64 4, .int .i64 d, .int .i64 ka, .int .i64 kb, .int .i64 n] 24)).alloc (.cells zA 28)).alloc (.cells effZ 34))
  rw [← HW.out]
  go_wp2_with fail
  refine (refRight_h 4 d ka kb n true _ HR.out).mono ?_
  rintro e w1 ⟨rfl, hb1⟩
  have HX1 := Lib.hid (upH hb1 HX.out); have HI1 := Lib.hid (upH hb1 HI.out); have HZ1 := Lib.hid (upH hb1 HZ.out); have HY1 := Lib.hid (upH hb1 HY.out)
  have hbw1 : Below w.heap.size w w1 := (by repeat (first | (with_reducible exact Below.refl _ _) | (with_reducible refine bw_set ?_ ?_ _) | (with_reducible apply bw_alloc) | (with_reducible refine bw_tr ?_ (by with_reducible assumption)) | (with_reducible apply bw_drew) | omega))
  have hs1 : w.heap.size + 4 ≤ w1.heap.size := by have := hb1.size; omega
  clear i0 i1 i2 i3 i4 HX HI HZ HY HW hb0 hs0 hb1
  have ca := cell_in HX1.out (show (hA h)[ka]? = some (.int .i64 va) by rw [hA_r h h32 ka hka, HVA.out])
  have cb := cell_in HX1.out (show (hA h)[kb]? = some (.int .i64 vb) by rw [hA_r h h32 kb hkb, HVB.out])
  have c32 := cell_in HX1.out (hA_fields h h32).1
  have i0 := cell_in HI1.out (j := 0) (u := .int .i64 4) rfl
  have i2 := cell_in HI1.out (j := 2) (u := .int .i64 ka) rfl
  have i3 := cell_in HI1.out (j := 3) (u := .int .i64 kb) rfl
  have i4 := cell_in HI1.out (j := 4) (u := .int .i64 n) rfl
  go_upto_region 8 with (first | (go_at_call 38; (with_reducible refine (rwrap_any (h.pc + 4) _ P4.out).mono ?_); rintro e w' ⟨rfl, rfl⟩) | (go_at_call 38; (with_reducible refine (rwrap_any (h.pc + n) _ PN.out).mono ?_); rintro e w' ⟨rfl, rfl⟩))
  go_wp2_with fail
  refine (refRow_any 4 _).mono ?_
  obtain ⟨rw0, hrw⟩ : ∃ r, rowT 4 = r := ⟨_, rfl⟩
  rw [hrw]
  rw [hrw] at hfm
  obtain ⟨nm, fm, lo, mi, hi⟩ := rw0
  simp only at hfm
  clear hrw
  subst hfm
  have hfld : ∀ w : World, (Instr.field 54 (.agg #[.string nm, .int .u8 73, .int .i64 lo, .int .i64 mi, .int .i64 hi]) 1).run Try.prog w = .ok (.int .u8 73) w := fun w => by kernel_rfl
  rintro e w2 ⟨rfl, hb2⟩
  have HX2 := Lib.hid (upH hb2 HX1.out); have HI2 := Lib.hid (upH hb2 HI1.out); have HZ2 := Lib.hid (upH hb2 HZ1.out); have HY2 := Lib.hid (upH hb2 HY1.out)
  have hbw2 : Below w.heap.size w w2 := (by repeat (first | (with_reducible exact Below.refl _ _) | (with_reducible refine bw_set ?_ ?_ _) | (with_reducible apply bw_alloc) | (with_reducible refine bw_tr ?_ (by with_reducible assumption)) | (with_reducible apply bw_drew) | omega))
  have hs2 : w.heap.size + 4 ≤ w2.heap.size := by have := hb2.size; omega
  clear ca cb c32 i0 i2 i3 i4 hb2 HX1 HI1 HZ1 HY1 hbw1 hs1 w4 wn
  unfold rfV
  go_upto_region 12 with (fail)
  clear hfld
  change Code.wp _ _ _ _ (w2.alloc (.cells effZ 34))
  have N3 : Hid ((w2.alloc (.cells effZ 34)).heap[w2.heap.size]? = some (.cells effZ 34 (0, 0))) := Lib.hid (new_in w2 (.cells effZ 34))
  have hb3 : Below w2.heap.size w2 (w2.alloc (.cells effZ 34)) := newH w2 (.cells effZ 34)
  have hs3 : w2.heap.size < (w2.alloc (.cells effZ 34)).heap.size := lt_in N3.out
  obtain ⟨w3, hw3⟩ : ∃ w3 : World, w2.alloc (.cells effZ 34) = w3 := ⟨_, rfl⟩
  rw [hw3] at N3 hb3 hs3 ⊢
  have HX3 := Lib.hid (upH hb3 HX2.out); have HI3 := Lib.hid (upH hb3 HI2.out); have HZ3 := Lib.hid (upH hb3 HZ2.out); have HY3 := Lib.hid (upH hb3 HY2.out)
  have hbw3 : Below w.heap.size w w3 := bw_tr hbw2 hb3
  obtain ⟨pe, hpe⟩ : ∃ pe, w2.heap.size = pe := ⟨_, rfl⟩
  rw [hpe] at N3 hs2 hs3 ⊢
  clear hpe hw3 hb3 HX2 HI2 HZ2 HY2 hbw2
  have i0 := cell_in HI3.out (j := 0) (u := .int .i64 4) rfl
  have i1 := cell_in HI3.out (j := 1) (u := .int .i64 d) rfl
  have i4 := cell_in HI3.out (j := 4) (u := .int .i64 n) rfl
  go_wp2_with (first | (refine wpList_load_row rfl 28 _ rfl (w.heap.size) rfl 28 (hA h) (0, 0) _ HX3.out Try.underlying28 rfl (infoA (hA_size h h32)) ?_))
  refine (rput_any h d (wrap32 (h.pc + 4)) _ h32 PV.out).mono ?_
  rintro e w5 ⟨rfl, hb5⟩
  have HX5 := Lib.hid (upH hb5 HX3.out); have HZ5 := Lib.hid (upH hb5 HZ3.out); have HY5 := Lib.hid (upH hb5 HY3.out); have N5 := Lib.hid (upH hb5 N3.out); have HI5 := Lib.hid (upH hb5 HI3.out)
  have bw5 : Below w.heap.size w w5 := bw_tr hbw3 hb5
  have hs5 : w3.heap.size ≤ w5.heap.size := hb5.size
  have hl5 := put_len h32 d (wrap32 (h.pc + 4))
  obtain ⟨h5, hh5⟩ : ∃ h5, putH h d (wrap32 (h.pc + 4)) = h5 := ⟨_, rfl⟩
  rw [hh5]
  rw [hh5] at hl5
  have HH5 := Lib.hid hh5
  clear hh5 hb5 i0 i1 i4 HX3 HZ3 HY3 HI3 N3 hbw3
  go_upto_region 21 with (refine wpList_store_row rfl 28 _ _ rfl (w.heap.size) (hA h5) rfl rfl 28 (hA h) HX5.out (infoA (hA_size h5 hl5)) (by rw [hA_size h5 hl5, hA_size h h32]) (hA_one h5) ?_)
  obtain ⟨w6, hw6⟩ : ∃ w6 : World, w5.setRow w.heap.size (hA h5) = w6 := ⟨_, rfl⟩
  have HX6 : Hid (w6.heap[w.heap.size]? = some (.cells (hA h5) 28 (0, 0))) := by rw [← hw6]; exact setRow_heap _ _ _ _ _ _ HX5.out
  have HZ6 : Hid (w6.heap[w.heap.size + 2]? = some (.cells zA 28 (0, 0))) := by rw [← hw6]; exact row_ne (by omega) HZ5.out
  have HY6 : Hid (w6.heap[w.heap.size + 3]? = some (.cells effZ 34 (0, 0))) := by rw [← hw6]; exact row_ne (by omega) HY5.out
  have HI6 : Hid (w6.heap[w.heap.size + 1]? = some (.cells #[.int .i64 4, .int .i64 d, .int .i64 ka, .int .i64 kb, .int .i64 n] 24 (0, 0))) := by rw [← hw6]; exact row_ne (by omega) HI5.out
  have N6 : Hid (w6.heap[pe]? = some (.cells effZ 34 (0, 0))) := by rw [← hw6]; exact row_ne (by omega) N5.out
  have bw6 : Below w.heap.size w w6 := by rw [← hw6]; exact below_setRow bw5 (Nat.le_refl _) _
  have hs6 : pe < w6.heap.size := lt_in N6.out
  have c4 := cell_in HI6.out (j := 4) (u := .int .i64 n) rfl
  rw [hw6]
  clear hw6 HX5 HZ5 HY5 HI5 N5 bw5 hs5
  go_upto_region 51 with (go_at_call 39; (with_reducible refine (rtwo_any 6 (va + n) (-2) _ HVN.out (by decide)).mono ?_); rintro e w' ⟨rfl, rfl⟩)
  have g32 := cell_in HX6.out (hA_fields h5 hl5).1
  have f32 := frozen_in HX6.out 32
  have X7 : Hid ((w6.setCell ⟨w.heap.size, 32, none⟩ (.int .i64 (twoN 6 (va + n) (-2)))).heap[w.heap.size]? = some (.cells (hA { h5 with pc := twoN 6 (va + n) (-2) }) 28 (0, 0))) := Lib.hid (set_heap HX6.out 32 (.int .i64 (twoN 6 (va + n) (-2))) _ (hA_pc h5 hl5 (twoN 6 (va + n) (-2))))
  have Z7 : Hid ((w6.setCell ⟨w.heap.size, 32, none⟩ (.int .i64 (twoN 6 (va + n) (-2)))).heap[w.heap.size + 2]? = some (.cells zA 28 (0, 0))) := Lib.hid (heap_set_ne (by omega) HZ6.out)
  have Y7 : Hid ((w6.setCell ⟨w.heap.size, 32, none⟩ (.int .i64 (twoN 6 (va + n) (-2)))).heap[w.heap.size + 3]? = some (.cells effZ 34 (0, 0))) := Lib.hid (heap_set_ne (by omega) HY6.out)
  have N7 : Hid ((w6.setCell ⟨w.heap.size, 32, none⟩ (.int .i64 (twoN 6 (va + n) (-2)))).heap[pe]? = some (.cells #[.int .i64 0, .int .i64 0, .int .i64 0, .int .i64 0, .int .i64 0] 34 (0, 0))) := Lib.hid (heap_set_ne (by omega) N6.out)
  have B7 : Hid (Below w.heap.size w (w6.setCell ⟨w.heap.size, 32, none⟩ (.int .i64 (twoN 6 (va + n) (-2))))) := Lib.hid (bw_set bw6 (Nat.le_refl _) _)
  go_upto_region 52 with (fail)
  obtain ⟨w7, hw7⟩ : ∃ w7 : World, w6.setCell ⟨w.heap.size, 32, none⟩ (.int .i64 (twoN 6 (va + n) (-2))) = w7 := ⟨_, rfl⟩
  rw [hw7] at X7 Z7 Y7 N7 B7 ⊢
  have hh7 : ({ h5 with pc := twoN 6 (va + n) (-2) } : Ht) = h7 := by rw [← HH5.out]; exact HH7.out
  have hl7' : h7.r.length = 32 := by rw [← hh7]; exact hl5
  rw [hh7] at X7
  have HL7 := Lib.hid hl7'
  clear hw7 hh7 hl7' g32 f32 HX6 HZ6 HY6 N6
  refine wp_region_up (fun w' => w'.heap[w.heap.size]? = some (.cells (hA h7) 28 (0, 0)) ∧ w'.heap[pe]? = some (.cells #[.int .i64 0, .int .i64 0, .int .i64 0, .int .i64 0, .int .i64 0] 34 (0, 0))) [true, true, false, false] (by kernel_rfl) (by kernel_rfl) (by kernel_rfl) (fun _ _ hh hu => ⟨upH hu hh.1, upH hu hh.2⟩) ⟨X7.out, N7.out⟩ ?ra ?rh ?rt
  case rh =>
    intro w0 h0
    have R0 : Hid (∀ w' : World, (∃ x : Wd w0, w' = x.val) → (loadVar 28 ⟨w.heap.size, 0, none⟩).run Try.prog w' = .ok (.agg (hA h7)) w') := by
      rintro w' ⟨x, rfl⟩
      exact run_loadVar_row _ _ 28 28 (hA h7) (0, 0) _ (bel_in x.bel (lt_in h0.1) h0.1) Try.underlying28 rfl (infoA (hA_size h7 HL7.out))
    have R1 : Hid (∀ w' : World, (∃ x : Wd w0, w' = x.val) → (loadVar 34 ⟨pe, 0, none⟩).run Try.prog w' = .ok (.agg #[.int .i64 0, .int .i64 0, .int .i64 0, .int .i64 0, .int .i64 0]) w') := by
      rintro w' ⟨x, rfl⟩
      exact run_loadVar_row _ _ 34 34 #[.int .i64 0, .int .i64 0, .int .i64 0, .int .i64 0, .int .i64 0] (0, 0) _ (bel_in x.bel (lt_in h0.2) h0.2) Try.underlying34 rfl (by kernel_rfl)
    clear h0
    simp only [pickM]
    go_big_quiet_want
    refine quiet_load_row 28 _ (w.heap.size) (hA h7) rfl rfl R0.out ?_
    simp only [Act.put, List.setIfInBounds_toArray, List.set_cons_succ, List.set_cons_zero]
    go_big_quiet_on
    go_big_quiet_want
    refine quiet_load_row 34 _ pe #[.int .i64 0, .int .i64 0, .int .i64 0, .int .i64 0, .int .i64 0] rfl rfl R1.out ?_
    simp only [Act.put, List.setIfInBounds_toArray, List.set_cons_succ, List.set_cons_zero]
    go_big_quiet_on
    refine wpQuiet_nil ?_
    rfl
  case rt => as_aux_lemma =>
    change wpAnyU _ _ _ _ _ 2 _ _ _
    refine anyU_one (i := 2) (by kernel_rfl) rfl ?_
    intro w8 hu8 hc8
    have hu8 := bw_undrew hu8
    have Z8 := Lib.hid (upH hu8 Z7.out); have Y8 := Lib.hid (upH hu8 Y7.out); have B8 := Lib.hid (bw_tr B7.out hu8); have D8 := Lib.hid hc8
    clear hu8 hc8 X7 Z7 Y7 N7
    go_wp2_with (refine wpList_store_row rfl 28 _ _ rfl (w.heap.size + 2) (hA h7) rfl rfl 28 zA Z8.out (infoA (hA_size h7 HL7.out)) (by rw [hA_size h7 HL7.out]; rfl) (hA_one h7) ?_)
    refine ⟨⟨row_ne (by omega) D8.out.1, row_ne (by omega) D8.out.2⟩, ?_⟩
    refine anyU_one (i := 3) (by kernel_rfl) rfl ?_
    intro w9 hu9 hc9
    have Z9 := Lib.hid (upH hu9 (setRow_heap _ _ _ _ _ _ Z8.out : (w8.setRow (w.heap.size + 2) (hA h7)).heap[w.heap.size + 2]? = some (.cells (hA h7) 28 (0, 0))))
    have Y9 := Lib.hid (upH hu9 (row_ne (cs := hA h7) (by omega) Y8.out))
    have B9 := Lib.hid (bw_tr (below_setRow B8.out (by omega) (hA h7)) hu9 : Below w.heap.size w w9)
    have D9 := Lib.hid hc9
    clear hu9 hc9 Z8 Y8 D8 B8
    go_wp2_with (refine wpList_store_row rfl 34 _ _ rfl (w.heap.size + 3) #[.int .i64 0, .int .i64 0, .int .i64 0, .int .i64 0, .int .i64 0] rfl rfl 34 effZ Y9.out (by kernel_rfl) rfl (by kernel_rfl) ?_)
    refine ⟨⟨row_ne (by omega) D9.out.1, row_ne (by omega) D9.out.2⟩, ?_⟩
    refine anyU_nil (by kernel_rfl) ?_
    intro w10 hu10 hc10
    have Z10 := Lib.hid (upH hu10 (row_ne (cs := #[.int .i64 0, .int .i64 0, .int .i64 0, .int .i64 0, .int .i64 0]) (by omega) Z9.out))
    have Y10 := Lib.hid (upH hu10 (setRow_heap _ _ _ _ _ _ Y9.out : (w9.setRow (w.heap.size + 3) #[.int .i64 0, .int .i64 0, .int .i64 0, .int .i64 0, .int .i64 0]).heap[w.heap.size + 3]? = some (.cells #[.int .i64 0, .int .i64 0, .int .i64 0, .int .i64 0, .int .i64 0] 34 (0, 0))))
    have B10 := Lib.hid (bw_tr (below_setRow B9.out (by omega) #[.int .i64 0, .int .i64 0, .int .i64 0, .int .i64 0, .int .i64 0]) hu10 : Below w.heap.size w w10)
    clear hu10 hc10 Z9 Y9 D9 B9
    go_wp2_with fail
    exact bodyPost_ret (v := .tuple #[.agg (hA h7), .agg #[.int .i64 0, .int .i64 0, .int .i64 0, .int .i64 0, .int .i64 0]]) (results_cells2 rfl _ _ (w.heap.size + 2) (w.heap.size + 3) 28 34 (hA h7) #[.int .i64 0, .int .i64 0, .int .i64 0, .int .i64 0, .int .i64 0] (0, 0) (0, 0) _ _ rfl rfl Z10.out Y10.out Try.underlying28 rfl (infoA (hA_size h7 HL7.out)) Try.underlying34 rfl (by kernel_rfl)) rfl ⟨rfl, B10.out⟩
set_option maxRecDepth 100000 in
set_option maxHeartbeats 8000000 in
theorem rstep_reg (h : Ht) (id op d n : Int) (ka kb : Nat) (w : World) (f : Fine h) (hr : rightB ⟨op, d, ka, kb, n⟩ = true) (hka : ka < 32) (hkb : kb < 32) (hn : -1048576 ≤ n ∧ n ≤ 1048575) (hop : 22 ≤ op ∧ op ≤ 38) :
    Calls Try.prog 17 #[.agg (hA h), .int .i64 id, insV ⟨op, d, ka, kb, n⟩] w fun e w' => e = .returned (.tuple #[.agg (hA ({ putH h d (makesN op (h.r.getD ka 0) (h.r.getD kb 0)) with pc := wrap32 (h.pc + 4) })), effV ⟨0, 0, 0, 0, 0⟩]) ∧ Below w.heap.size w w' := by
  have h32 := f.len
  have P4 : Hid (I64 (h.pc + 4)) := Lib.hid (by have := f.pc.1.1; have := f.pc.1.2; constructor <;> omega)
  have PN : Hid (I64 (h.pc + n)) := Lib.hid (by have := f.pc.1.1; have := f.pc.1.2; constructor <;> omega)
  obtain ⟨va, hva⟩ : ∃ va, h.r.getD ka 0 = va := ⟨_, rfl⟩
  obtain ⟨vb, hvb⟩ : ∃ vb, h.r.getD kb 0 = vb := ⟨_, rfl⟩
  have IAI : Hid (I32 va) := Lib.hid (hva ▸ f.reg ka hka)
  have IBI : Hid (I32 vb) := Lib.hid (hvb ▸ f.reg kb hkb)
  have HVA := Lib.hid hva; have HVB := Lib.hid hvb
  try rw [hva]
  try rw [hvb]
  clear hva hvb
  have w4 : IntKind.i64.wrap (h.pc + 4) = h.pc + 4 := IntWalk.i64_in _ (by have := P4.out.1; have := P4.out.2; omega)
  have wn : IntKind.i64.wrap (h.pc + n) = h.pc + n := IntWalk.i64_in _ (by have := PN.out.1; have := PN.out.2; omega)
  obtain ⟨h7, hh7⟩ : ∃ h7 : Ht, ({ putH h d (makesN op va vb) with pc := wrap32 (h.pc + 4) } : Ht) = h7 := ⟨_, rfl⟩
  rw [hh7]
  have HH7 := Lib.hid hh7; clear hh7
  have PV := Lib.hid (makes_i64 op va vb (i32_64 IAI.out))
  have Hva6 := Lib.hid (i32_64 IAI.out)
  have Hvb6 : Hid (I64 vb) := Lib.hid (i32_64 IBI.out)
  have HOPR : Hid (13 ≤ op ∧ op ≤ 38) := Lib.hid (by omega)
  have q1 : (op == 1) = false := beq_eq_false_iff_ne.2 (by omega)
  have q2 : (op == 2) = false := beq_eq_false_iff_ne.2 (by omega)
  have q3 : (op == 3) = false := beq_eq_false_iff_ne.2 (by omega)
  have q4 : (op == 4) = false := beq_eq_false_iff_ne.2 (by omega)
  have q11 : (op == 11) = false := beq_eq_false_iff_ne.2 (by omega)
  have q12 : (op == 12) = false := beq_eq_false_iff_ne.2 (by omega)
  have q39 : (op == 39) = false := beq_eq_false_iff_ne.2 (by omega)
  have q46 : (op == 46) = false := beq_eq_false_iff_ne.2 (by omega)
  have q47 : (op == 47) = false := beq_eq_false_iff_ne.2 (by omega)
  have q48 : (op == 48) = false := beq_eq_false_iff_ne.2 (by omega)
  have q49 : (op == 49) = false := beq_eq_false_iff_ne.2 (by omega)
  have q43 : (op == 43) = false := beq_eq_false_iff_ne.2 (by omega)
  have q45 : (op == 45) = false := beq_eq_false_iff_ne.2 (by omega)
  have q44 : (op == 44) = false := beq_eq_false_iff_ne.2 (by omega)
  have hfm : (rowT op).form = 82 := (forms op (by omega)).2.2.1 hop
  obtain ⟨w0, hw0, hx, hi, hz, hy, hb0, hs0⟩ := four_new w (.cells (hA h) 28) (.cells #[.int .i64 op, .int .i64 d, .int .i64 ka, .int .i64 kb, .int .i64 n] 24) (.cells zA 28) (.cells effZ 34)
  have i0 := cell_in hi (j := 0) (u := .int .i64 op) rfl
  have i1 := cell_in hi (j := 1) (u := .int .i64 d) rfl
  have i2 := cell_in hi (j := 2) (u := .int .i64 ka) rfl
  have i3 := cell_in hi (j := 3) (u := .int .i64 kb) rfl
  have i4 := cell_in hi (j := 4) (u := .int .i64 n) rfl
  have HW := Lib.hid hw0
  have HX := Lib.hid hx; have HI := Lib.hid hi; have HZ := Lib.hid hz; have HY := Lib.hid hy; have HR := Lib.hid hr; have FF := Lib.hid f; have HN := Lib.hid hn
  clear hx hi hz hy hw0 hr f hn
  unfold insV
  go_enter Try.func17, Try.ntmps17
  go_upto_region 1 with (fail)
  change Code.wp _ _ _ _ ((((w.alloc (.cells (hA h) 28)).alloc (.cells #[.int .i64 op, .int .i64 d, .int .i64 ka, .int .i64 kb, .int .i64 n] 24)).alloc (.cells zA 28)).alloc (.cells effZ 34))
  rw [← HW.out]
  go_wp2_with fail
  refine (refRight_h op d ka kb n true _ HR.out).mono ?_
  rintro e w1 ⟨rfl, hb1⟩
  have HX1 := Lib.hid (upH hb1 HX.out); have HI1 := Lib.hid (upH hb1 HI.out); have HZ1 := Lib.hid (upH hb1 HZ.out); have HY1 := Lib.hid (upH hb1 HY.out)
  have hbw1 : Below w.heap.size w w1 := (by repeat (first | (with_reducible exact Below.refl _ _) | (with_reducible refine bw_set ?_ ?_ _) | (with_reducible apply bw_alloc) | (with_reducible refine bw_tr ?_ (by with_reducible assumption)) | (with_reducible apply bw_drew) | omega))
  have hs1 : w.heap.size + 4 ≤ w1.heap.size := by have := hb1.size; omega
  clear i0 i1 i2 i3 i4 HX HI HZ HY HW hb0 hs0 hb1
  have ca := cell_in HX1.out (show (hA h)[ka]? = some (.int .i64 va) by rw [hA_r h h32 ka hka, HVA.out])
  have cb := cell_in HX1.out (show (hA h)[kb]? = some (.int .i64 vb) by rw [hA_r h h32 kb hkb, HVB.out])
  have c32 := cell_in HX1.out (hA_fields h h32).1
  have i0 := cell_in HI1.out (j := 0) (u := .int .i64 op) rfl
  have i2 := cell_in HI1.out (j := 2) (u := .int .i64 ka) rfl
  have i3 := cell_in HI1.out (j := 3) (u := .int .i64 kb) rfl
  have i4 := cell_in HI1.out (j := 4) (u := .int .i64 n) rfl
  go_upto_region 8 with (first | (go_at_call 38; (with_reducible refine (rwrap_any (h.pc + 4) _ P4.out).mono ?_); rintro e w' ⟨rfl, rfl⟩) | (go_at_call 38; (with_reducible refine (rwrap_any (h.pc + n) _ PN.out).mono ?_); rintro e w' ⟨rfl, rfl⟩))
  go_wp2_with fail
  refine (refRow_any op _).mono ?_
  obtain ⟨rw0, hrw⟩ : ∃ r, rowT op = r := ⟨_, rfl⟩
  rw [hrw]
  rw [hrw] at hfm
  obtain ⟨nm, fm, lo, mi, hi⟩ := rw0
  simp only at hfm
  clear hrw
  subst hfm
  have hfld : ∀ w : World, (Instr.field 54 (.agg #[.string nm, .int .u8 82, .int .i64 lo, .int .i64 mi, .int .i64 hi]) 1).run Try.prog w = .ok (.int .u8 82) w := fun w => by kernel_rfl
  rintro e w2 ⟨rfl, hb2⟩
  have HX2 := Lib.hid (upH hb2 HX1.out); have HI2 := Lib.hid (upH hb2 HI1.out); have HZ2 := Lib.hid (upH hb2 HZ1.out); have HY2 := Lib.hid (upH hb2 HY1.out)
  have hbw2 : Below w.heap.size w w2 := (by repeat (first | (with_reducible exact Below.refl _ _) | (with_reducible refine bw_set ?_ ?_ _) | (with_reducible apply bw_alloc) | (with_reducible refine bw_tr ?_ (by with_reducible assumption)) | (with_reducible apply bw_drew) | omega))
  have hs2 : w.heap.size + 4 ≤ w2.heap.size := by have := hb2.size; omega
  clear ca cb c32 i0 i2 i3 i4 hb2 HX1 HI1 HZ1 HY1 hbw1 hs1 w4 wn
  unfold rfV
  go_upto_region 12 with (fail)
  clear hfld
  change Code.wp _ _ _ _ (w2.alloc (.cells effZ 34))
  have N3 : Hid ((w2.alloc (.cells effZ 34)).heap[w2.heap.size]? = some (.cells effZ 34 (0, 0))) := Lib.hid (new_in w2 (.cells effZ 34))
  have hb3 : Below w2.heap.size w2 (w2.alloc (.cells effZ 34)) := newH w2 (.cells effZ 34)
  have hs3 : w2.heap.size < (w2.alloc (.cells effZ 34)).heap.size := lt_in N3.out
  obtain ⟨w3, hw3⟩ : ∃ w3 : World, w2.alloc (.cells effZ 34) = w3 := ⟨_, rfl⟩
  rw [hw3] at N3 hb3 hs3 ⊢
  have HX3 := Lib.hid (upH hb3 HX2.out); have HI3 := Lib.hid (upH hb3 HI2.out); have HZ3 := Lib.hid (upH hb3 HZ2.out); have HY3 := Lib.hid (upH hb3 HY2.out)
  have hbw3 : Below w.heap.size w w3 := bw_tr hbw2 hb3
  obtain ⟨pe, hpe⟩ : ∃ pe, w2.heap.size = pe := ⟨_, rfl⟩
  rw [hpe] at N3 hs2 hs3 ⊢
  clear hpe hw3 hb3 HX2 HI2 HZ2 HY2 hbw2
  have i0 := cell_in HI3.out (j := 0) (u := .int .i64 op) rfl
  have i1 := cell_in HI3.out (j := 1) (u := .int .i64 d) rfl
  have i4 := cell_in HI3.out (j := 4) (u := .int .i64 n) rfl
  clear hop
  go_wp2_with (first | (refine wpList_load_row rfl 28 _ rfl (w.heap.size) rfl 28 (hA h) (0, 0) _ HX3.out Try.underlying28 rfl (infoA (hA_size h h32)) ?_) | (go_at_call 43; (with_reducible refine (rmakes_any op va vb _ HOPR.out Hva6.out Hvb6.out).mono ?_); rintro e w' ⟨rfl, rfl⟩))
  refine (rput_any h d (makesN op va vb) _ h32 PV.out).mono ?_
  rintro e w5 ⟨rfl, hb5⟩
  have HX5 := Lib.hid (upH hb5 HX3.out); have HZ5 := Lib.hid (upH hb5 HZ3.out); have HY5 := Lib.hid (upH hb5 HY3.out); have N5 := Lib.hid (upH hb5 N3.out); have HI5 := Lib.hid (upH hb5 HI3.out)
  have bw5 : Below w.heap.size w w5 := bw_tr hbw3 hb5
  have hs5 : w3.heap.size ≤ w5.heap.size := hb5.size
  have hl5 := put_len h32 d (makesN op va vb)
  obtain ⟨h5, hh5⟩ : ∃ h5, putH h d (makesN op va vb) = h5 := ⟨_, rfl⟩
  rw [hh5]
  rw [hh5] at hl5
  have HH5 := Lib.hid hh5
  clear hh5 hb5 i0 i1 i4 HX3 HZ3 HY3 HI3 N3 hbw3
  go_upto_region 51 with (refine wpList_store_row rfl 28 _ _ rfl (w.heap.size) (hA h5) rfl rfl 28 (hA h) HX5.out (infoA (hA_size h5 hl5)) (by rw [hA_size h5 hl5, hA_size h h32]) (hA_one h5) ?_)
  obtain ⟨w6, hw6⟩ : ∃ w6 : World, w5.setRow w.heap.size (hA h5) = w6 := ⟨_, rfl⟩
  have HX6 : Hid (w6.heap[w.heap.size]? = some (.cells (hA h5) 28 (0, 0))) := by rw [← hw6]; exact setRow_heap _ _ _ _ _ _ HX5.out
  have HZ6 : Hid (w6.heap[w.heap.size + 2]? = some (.cells zA 28 (0, 0))) := by rw [← hw6]; exact row_ne (by omega) HZ5.out
  have HY6 : Hid (w6.heap[w.heap.size + 3]? = some (.cells effZ 34 (0, 0))) := by rw [← hw6]; exact row_ne (by omega) HY5.out
  have HI6 : Hid (w6.heap[w.heap.size + 1]? = some (.cells #[.int .i64 op, .int .i64 d, .int .i64 ka, .int .i64 kb, .int .i64 n] 24 (0, 0))) := by rw [← hw6]; exact row_ne (by omega) HI5.out
  have N6 : Hid (w6.heap[pe]? = some (.cells effZ 34 (0, 0))) := by rw [← hw6]; exact row_ne (by omega) N5.out
  have bw6 : Below w.heap.size w w6 := by rw [← hw6]; exact below_setRow bw5 (Nat.le_refl _) _
  have hs6 : pe < w6.heap.size := lt_in N6.out
  have c4 := cell_in HI6.out (j := 4) (u := .int .i64 n) rfl
  rw [hw6]
  clear hw6 HX5 HZ5 HY5 HI5 N5 bw5 hs5
  clear q1 q2 q3 q4 q11 q12 q39 q46 q47 q48 q49 q43 q45 q44
  have g32 := cell_in HX6.out (hA_fields h5 hl5).1
  have f32 := frozen_in HX6.out 32
  have X7 : Hid ((w6.setCell ⟨w.heap.size, 32, none⟩ (.int .i64 (wrap32 (h.pc + 4)))).heap[w.heap.size]? = some (.cells (hA { h5 with pc := wrap32 (h.pc + 4) }) 28 (0, 0))) := Lib.hid (set_heap HX6.out 32 (.int .i64 (wrap32 (h.pc + 4))) _ (hA_pc h5 hl5 (wrap32 (h.pc + 4))))
  have Z7 : Hid ((w6.setCell ⟨w.heap.size, 32, none⟩ (.int .i64 (wrap32 (h.pc + 4)))).heap[w.heap.size + 2]? = some (.cells zA 28 (0, 0))) := Lib.hid (heap_set_ne (by omega) HZ6.out)
  have Y7 : Hid ((w6.setCell ⟨w.heap.size, 32, none⟩ (.int .i64 (wrap32 (h.pc + 4)))).heap[w.heap.size + 3]? = some (.cells effZ 34 (0, 0))) := Lib.hid (heap_set_ne (by omega) HY6.out)
  have N7 : Hid ((w6.setCell ⟨w.heap.size, 32, none⟩ (.int .i64 (wrap32 (h.pc + 4)))).heap[pe]? = some (.cells #[.int .i64 0, .int .i64 0, .int .i64 0, .int .i64 0, .int .i64 0] 34 (0, 0))) := Lib.hid (heap_set_ne (by omega) N6.out)
  have B7 : Hid (Below w.heap.size w (w6.setCell ⟨w.heap.size, 32, none⟩ (.int .i64 (wrap32 (h.pc + 4))))) := Lib.hid (bw_set bw6 (Nat.le_refl _) _)
  go_upto_region 52 with (fail)
  obtain ⟨w7, hw7⟩ : ∃ w7 : World, w6.setCell ⟨w.heap.size, 32, none⟩ (.int .i64 (wrap32 (h.pc + 4))) = w7 := ⟨_, rfl⟩
  rw [hw7] at X7 Z7 Y7 N7 B7 ⊢
  have hh7 : ({ h5 with pc := wrap32 (h.pc + 4) } : Ht) = h7 := by rw [← HH5.out]; exact HH7.out
  have hl7' : h7.r.length = 32 := by rw [← hh7]; exact hl5
  rw [hh7] at X7
  have HL7 := Lib.hid hl7'
  clear hw7 hh7 hl7' g32 f32 HX6 HZ6 HY6 N6
  refine wp_region_up (fun w' => w'.heap[w.heap.size]? = some (.cells (hA h7) 28 (0, 0)) ∧ w'.heap[pe]? = some (.cells #[.int .i64 0, .int .i64 0, .int .i64 0, .int .i64 0, .int .i64 0] 34 (0, 0))) [true, true, false, false] (by kernel_rfl) (by kernel_rfl) (by kernel_rfl) (fun _ _ hh hu => ⟨upH hu hh.1, upH hu hh.2⟩) ⟨X7.out, N7.out⟩ ?ra ?rh ?rt
  case rh =>
    intro w0 h0
    have R0 : Hid (∀ w' : World, (∃ x : Wd w0, w' = x.val) → (loadVar 28 ⟨w.heap.size, 0, none⟩).run Try.prog w' = .ok (.agg (hA h7)) w') := by
      rintro w' ⟨x, rfl⟩
      exact run_loadVar_row _ _ 28 28 (hA h7) (0, 0) _ (bel_in x.bel (lt_in h0.1) h0.1) Try.underlying28 rfl (infoA (hA_size h7 HL7.out))
    have R1 : Hid (∀ w' : World, (∃ x : Wd w0, w' = x.val) → (loadVar 34 ⟨pe, 0, none⟩).run Try.prog w' = .ok (.agg #[.int .i64 0, .int .i64 0, .int .i64 0, .int .i64 0, .int .i64 0]) w') := by
      rintro w' ⟨x, rfl⟩
      exact run_loadVar_row _ _ 34 34 #[.int .i64 0, .int .i64 0, .int .i64 0, .int .i64 0, .int .i64 0] (0, 0) _ (bel_in x.bel (lt_in h0.2) h0.2) Try.underlying34 rfl (by kernel_rfl)
    clear h0
    simp only [pickM]
    go_big_quiet_want
    refine quiet_load_row 28 _ (w.heap.size) (hA h7) rfl rfl R0.out ?_
    simp only [Act.put, List.setIfInBounds_toArray, List.set_cons_succ, List.set_cons_zero]
    go_big_quiet_on
    go_big_quiet_want
    refine quiet_load_row 34 _ pe #[.int .i64 0, .int .i64 0, .int .i64 0, .int .i64 0, .int .i64 0] rfl rfl R1.out ?_
    simp only [Act.put, List.setIfInBounds_toArray, List.set_cons_succ, List.set_cons_zero]
    go_big_quiet_on
    refine wpQuiet_nil ?_
    rfl
  case rt => as_aux_lemma =>
    change wpAnyU _ _ _ _ _ 2 _ _ _
    refine anyU_one (i := 2) (by kernel_rfl) rfl ?_
    intro w8 hu8 hc8
    have hu8 := bw_undrew hu8
    have Z8 := Lib.hid (upH hu8 Z7.out); have Y8 := Lib.hid (upH hu8 Y7.out); have B8 := Lib.hid (bw_tr B7.out hu8); have D8 := Lib.hid hc8
    clear hu8 hc8 X7 Z7 Y7 N7
    go_wp2_with (refine wpList_store_row rfl 28 _ _ rfl (w.heap.size + 2) (hA h7) rfl rfl 28 zA Z8.out (infoA (hA_size h7 HL7.out)) (by rw [hA_size h7 HL7.out]; rfl) (hA_one h7) ?_)
    refine ⟨⟨row_ne (by omega) D8.out.1, row_ne (by omega) D8.out.2⟩, ?_⟩
    refine anyU_one (i := 3) (by kernel_rfl) rfl ?_
    intro w9 hu9 hc9
    have Z9 := Lib.hid (upH hu9 (setRow_heap _ _ _ _ _ _ Z8.out : (w8.setRow (w.heap.size + 2) (hA h7)).heap[w.heap.size + 2]? = some (.cells (hA h7) 28 (0, 0))))
    have Y9 := Lib.hid (upH hu9 (row_ne (cs := hA h7) (by omega) Y8.out))
    have B9 := Lib.hid (bw_tr (below_setRow B8.out (by omega) (hA h7)) hu9 : Below w.heap.size w w9)
    have D9 := Lib.hid hc9
    clear hu9 hc9 Z8 Y8 D8 B8
    go_wp2_with (refine wpList_store_row rfl 34 _ _ rfl (w.heap.size + 3) #[.int .i64 0, .int .i64 0, .int .i64 0, .int .i64 0, .int .i64 0] rfl rfl 34 effZ Y9.out (by kernel_rfl) rfl (by kernel_rfl) ?_)
    refine ⟨⟨row_ne (by omega) D9.out.1, row_ne (by omega) D9.out.2⟩, ?_⟩
    refine anyU_nil (by kernel_rfl) ?_
    intro w10 hu10 hc10
    have Z10 := Lib.hid (upH hu10 (row_ne (cs := #[.int .i64 0, .int .i64 0, .int .i64 0, .int .i64 0, .int .i64 0]) (by omega) Z9.out))
    have Y10 := Lib.hid (upH hu10 (setRow_heap _ _ _ _ _ _ Y9.out : (w9.setRow (w.heap.size + 3) #[.int .i64 0, .int .i64 0, .int .i64 0, .int .i64 0, .int .i64 0]).heap[w.heap.size + 3]? = some (.cells #[.int .i64 0, .int .i64 0, .int .i64 0, .int .i64 0, .int .i64 0] 34 (0, 0))))
    have B10 := Lib.hid (bw_tr (below_setRow B9.out (by omega) #[.int .i64 0, .int .i64 0, .int .i64 0, .int .i64 0, .int .i64 0]) hu10 : Below w.heap.size w w10)
    clear hu10 hc10 Z9 Y9 D9 B9
    go_wp2_with fail
    exact bodyPost_ret (v := .tuple #[.agg (hA h7), .agg #[.int .i64 0, .int .i64 0, .int .i64 0, .int .i64 0, .int .i64 0]]) (results_cells2 rfl _ _ (w.heap.size + 2) (w.heap.size + 3) 28 34 (hA h7) #[.int .i64 0, .int .i64 0, .int .i64 0, .int .i64 0, .int .i64 0] (0, 0) (0, 0) _ _ rfl rfl Z10.out Y10.out Try.underlying28 rfl (infoA (hA_size h7 HL7.out)) Try.underlying34 rfl (by kernel_rfl)) rfl ⟨rfl, B10.out⟩
set_option maxRecDepth 100000 in
set_option maxHeartbeats 8000000 in
theorem rstep_imm (h : Ht) (id op d n : Int) (ka kb : Nat) (w : World) (f : Fine h) (hr : rightB ⟨op, d, ka, kb, n⟩ = true) (hka : ka < 32) (hkb : kb < 32) (hn : -1048576 ≤ n ∧ n ≤ 1048575) (hop : 13 ≤ op ∧ op ≤ 21) :
    Calls Try.prog 17 #[.agg (hA h), .int .i64 id, insV ⟨op, d, ka, kb, n⟩] w fun e w' => e = .returned (.tuple #[.agg (hA ({ putH h d (makesN op (h.r.getD ka 0) n) with pc := wrap32 (h.pc + 4) })), effV ⟨0, 0, 0, 0, 0⟩]) ∧ Below w.heap.size w w' := by
  have h32 := f.len
  have P4 : Hid (I64 (h.pc + 4)) := Lib.hid (by have := f.pc.1.1; have := f.pc.1.2; constructor <;> omega)
  have PN : Hid (I64 (h.pc + n)) := Lib.hid (by have := f.pc.1.1; have := f.pc.1.2; constructor <;> omega)
  obtain ⟨va, hva⟩ : ∃ va, h.r.getD ka 0 = va := ⟨_, rfl⟩
  obtain ⟨vb, hvb⟩ : ∃ vb, h.r.getD kb 0 = vb := ⟨_, rfl⟩
  have IAI : Hid (I32 va) := Lib.hid (hva ▸ f.reg ka hka)
  have IBI : Hid (I32 vb) := Lib.hid (hvb ▸ f.reg kb hkb)
  have HVA := Lib.hid hva; have HVB := Lib.hid hvb
  try rw [hva]
  try rw [hvb]
  clear hva hvb
  have w4 : IntKind.i64.wrap (h.pc + 4) = h.pc + 4 := IntWalk.i64_in _ (by have := P4.out.1; have := P4.out.2; omega)
  have wn : IntKind.i64.wrap (h.pc + n) = h.pc + n := IntWalk.i64_in _ (by have := PN.out.1; have := PN.out.2; omega)
  obtain ⟨h7, hh7⟩ : ∃ h7 : Ht, ({ putH h d (makesN op va n) with pc := wrap32 (h.pc + 4) } : Ht) = h7 := ⟨_, rfl⟩
  rw [hh7]
  have HH7 := Lib.hid hh7; clear hh7
  have PV := Lib.hid (makes_i64 op va n (i32_64 IAI.out))
  have Hva6 := Lib.hid (i32_64 IAI.out)
  have Hvb6 : Hid (I64 n) := Lib.hid (by constructor <;> omega)
  have HOPR : Hid (13 ≤ op ∧ op ≤ 38) := Lib.hid (by omega)
  have q1 : (op == 1) = false := beq_eq_false_iff_ne.2 (by omega)
  have q2 : (op == 2) = false := beq_eq_false_iff_ne.2 (by omega)
  have q3 : (op == 3) = false := beq_eq_false_iff_ne.2 (by omega)
  have q4 : (op == 4) = false := beq_eq_false_iff_ne.2 (by omega)
  have q11 : (op == 11) = false := beq_eq_false_iff_ne.2 (by omega)
  have q12 : (op == 12) = false := beq_eq_false_iff_ne.2 (by omega)
  have q39 : (op == 39) = false := beq_eq_false_iff_ne.2 (by omega)
  have q46 : (op == 46) = false := beq_eq_false_iff_ne.2 (by omega)
  have q47 : (op == 47) = false := beq_eq_false_iff_ne.2 (by omega)
  have q48 : (op == 48) = false := beq_eq_false_iff_ne.2 (by omega)
  have q49 : (op == 49) = false := beq_eq_false_iff_ne.2 (by omega)
  have q43 : (op == 43) = false := beq_eq_false_iff_ne.2 (by omega)
  have q45 : (op == 45) = false := beq_eq_false_iff_ne.2 (by omega)
  have q44 : (op == 44) = false := beq_eq_false_iff_ne.2 (by omega)
  have hfm : ((rowT op).form == 66) = false ∧ ((rowT op).form == 67) = false ∧ ((rowT op).form == 82) = false := (forms op (by omega)).2.2.2 hop
  obtain ⟨w0, hw0, hx, hi, hz, hy, hb0, hs0⟩ := four_new w (.cells (hA h) 28) (.cells #[.int .i64 op, .int .i64 d, .int .i64 ka, .int .i64 kb, .int .i64 n] 24) (.cells zA 28) (.cells effZ 34)
  have i0 := cell_in hi (j := 0) (u := .int .i64 op) rfl
  have i1 := cell_in hi (j := 1) (u := .int .i64 d) rfl
  have i2 := cell_in hi (j := 2) (u := .int .i64 ka) rfl
  have i3 := cell_in hi (j := 3) (u := .int .i64 kb) rfl
  have i4 := cell_in hi (j := 4) (u := .int .i64 n) rfl
  have HW := Lib.hid hw0
  have HX := Lib.hid hx; have HI := Lib.hid hi; have HZ := Lib.hid hz; have HY := Lib.hid hy; have HR := Lib.hid hr; have FF := Lib.hid f; have HN := Lib.hid hn
  clear hx hi hz hy hw0 hr f hn
  unfold insV
  go_enter Try.func17, Try.ntmps17
  go_upto_region 1 with (fail)
  change Code.wp _ _ _ _ ((((w.alloc (.cells (hA h) 28)).alloc (.cells #[.int .i64 op, .int .i64 d, .int .i64 ka, .int .i64 kb, .int .i64 n] 24)).alloc (.cells zA 28)).alloc (.cells effZ 34))
  rw [← HW.out]
  go_wp2_with fail
  refine (refRight_h op d ka kb n true _ HR.out).mono ?_
  rintro e w1 ⟨rfl, hb1⟩
  have HX1 := Lib.hid (upH hb1 HX.out); have HI1 := Lib.hid (upH hb1 HI.out); have HZ1 := Lib.hid (upH hb1 HZ.out); have HY1 := Lib.hid (upH hb1 HY.out)
  have hbw1 : Below w.heap.size w w1 := (by repeat (first | (with_reducible exact Below.refl _ _) | (with_reducible refine bw_set ?_ ?_ _) | (with_reducible apply bw_alloc) | (with_reducible refine bw_tr ?_ (by with_reducible assumption)) | (with_reducible apply bw_drew) | omega))
  have hs1 : w.heap.size + 4 ≤ w1.heap.size := by have := hb1.size; omega
  clear i0 i1 i2 i3 i4 HX HI HZ HY HW hb0 hs0 hb1
  have ca := cell_in HX1.out (show (hA h)[ka]? = some (.int .i64 va) by rw [hA_r h h32 ka hka, HVA.out])
  have cb := cell_in HX1.out (show (hA h)[kb]? = some (.int .i64 vb) by rw [hA_r h h32 kb hkb, HVB.out])
  have c32 := cell_in HX1.out (hA_fields h h32).1
  have i0 := cell_in HI1.out (j := 0) (u := .int .i64 op) rfl
  have i2 := cell_in HI1.out (j := 2) (u := .int .i64 ka) rfl
  have i3 := cell_in HI1.out (j := 3) (u := .int .i64 kb) rfl
  have i4 := cell_in HI1.out (j := 4) (u := .int .i64 n) rfl
  go_upto_region 8 with (first | (go_at_call 38; (with_reducible refine (rwrap_any (h.pc + 4) _ P4.out).mono ?_); rintro e w' ⟨rfl, rfl⟩) | (go_at_call 38; (with_reducible refine (rwrap_any (h.pc + n) _ PN.out).mono ?_); rintro e w' ⟨rfl, rfl⟩))
  go_wp2_with fail
  refine (refRow_any op _).mono ?_
  obtain ⟨rw0, hrw⟩ : ∃ r, rowT op = r := ⟨_, rfl⟩
  rw [hrw]
  rw [hrw] at hfm
  obtain ⟨nm, fm, lo, mi, hi⟩ := rw0
  simp only at hfm
  clear hrw
  obtain ⟨fb, fc, fr⟩ := hfm
  have hfld : ∀ w : World, (Instr.field 54 (.agg #[.string nm, .int .u8 fm, .int .i64 lo, .int .i64 mi, .int .i64 hi]) 1).run Try.prog w = .ok (.int .u8 fm) w := fun w => by kernel_rfl
  rintro e w2 ⟨rfl, hb2⟩
  have HX2 := Lib.hid (upH hb2 HX1.out); have HI2 := Lib.hid (upH hb2 HI1.out); have HZ2 := Lib.hid (upH hb2 HZ1.out); have HY2 := Lib.hid (upH hb2 HY1.out)
  have hbw2 : Below w.heap.size w w2 := (by repeat (first | (with_reducible exact Below.refl _ _) | (with_reducible refine bw_set ?_ ?_ _) | (with_reducible apply bw_alloc) | (with_reducible refine bw_tr ?_ (by with_reducible assumption)) | (with_reducible apply bw_drew) | omega))
  have hs2 : w.heap.size + 4 ≤ w2.heap.size := by have := hb2.size; omega
  clear ca cb c32 i0 i2 i3 i4 hb2 HX1 HI1 HZ1 HY1 hbw1 hs1 w4 wn
  unfold rfV
  go_upto_region 12 with (fail)
  clear hfld
  change Code.wp _ _ _ _ (w2.alloc (.cells effZ 34))
  have N3 : Hid ((w2.alloc (.cells effZ 34)).heap[w2.heap.size]? = some (.cells effZ 34 (0, 0))) := Lib.hid (new_in w2 (.cells effZ 34))
  have hb3 : Below w2.heap.size w2 (w2.alloc (.cells effZ 34)) := newH w2 (.cells effZ 34)
  have hs3 : w2.heap.size < (w2.alloc (.cells effZ 34)).heap.size := lt_in N3.out
  obtain ⟨w3, hw3⟩ : ∃ w3 : World, w2.alloc (.cells effZ 34) = w3 := ⟨_, rfl⟩
  rw [hw3] at N3 hb3 hs3 ⊢
  have HX3 := Lib.hid (upH hb3 HX2.out); have HI3 := Lib.hid (upH hb3 HI2.out); have HZ3 := Lib.hid (upH hb3 HZ2.out); have HY3 := Lib.hid (upH hb3 HY2.out)
  have hbw3 : Below w.heap.size w w3 := bw_tr hbw2 hb3
  obtain ⟨pe, hpe⟩ : ∃ pe, w2.heap.size = pe := ⟨_, rfl⟩
  rw [hpe] at N3 hs2 hs3 ⊢
  clear hpe hw3 hb3 HX2 HI2 HZ2 HY2 hbw2
  have i0 := cell_in HI3.out (j := 0) (u := .int .i64 op) rfl
  have i1 := cell_in HI3.out (j := 1) (u := .int .i64 d) rfl
  have i4 := cell_in HI3.out (j := 4) (u := .int .i64 n) rfl
  clear hop
  go_wp2_with (first | (refine wpList_load_row rfl 28 _ rfl (w.heap.size) rfl 28 (hA h) (0, 0) _ HX3.out Try.underlying28 rfl (infoA (hA_size h h32)) ?_) | (go_at_call 43; (with_reducible refine (rmakes_any op va n _ HOPR.out Hva6.out Hvb6.out).mono ?_); rintro e w' ⟨rfl, rfl⟩))
  refine (rput_any h d (makesN op va n) _ h32 PV.out).mono ?_
  rintro e w5 ⟨rfl, hb5⟩
  have HX5 := Lib.hid (upH hb5 HX3.out); have HZ5 := Lib.hid (upH hb5 HZ3.out); have HY5 := Lib.hid (upH hb5 HY3.out); have N5 := Lib.hid (upH hb5 N3.out); have HI5 := Lib.hid (upH hb5 HI3.out)
  have bw5 : Below w.heap.size w w5 := bw_tr hbw3 hb5
  have hs5 : w3.heap.size ≤ w5.heap.size := hb5.size
  have hl5 := put_len h32 d (makesN op va n)
  obtain ⟨h5, hh5⟩ : ∃ h5, putH h d (makesN op va n) = h5 := ⟨_, rfl⟩
  rw [hh5]
  rw [hh5] at hl5
  have HH5 := Lib.hid hh5
  clear hh5 hb5 i0 i1 i4 HX3 HZ3 HY3 HI3 N3 hbw3
  go_upto_region 51 with (refine wpList_store_row rfl 28 _ _ rfl (w.heap.size) (hA h5) rfl rfl 28 (hA h) HX5.out (infoA (hA_size h5 hl5)) (by rw [hA_size h5 hl5, hA_size h h32]) (hA_one h5) ?_)
  obtain ⟨w6, hw6⟩ : ∃ w6 : World, w5.setRow w.heap.size (hA h5) = w6 := ⟨_, rfl⟩
  have HX6 : Hid (w6.heap[w.heap.size]? = some (.cells (hA h5) 28 (0, 0))) := by rw [← hw6]; exact setRow_heap _ _ _ _ _ _ HX5.out
  have HZ6 : Hid (w6.heap[w.heap.size + 2]? = some (.cells zA 28 (0, 0))) := by rw [← hw6]; exact row_ne (by omega) HZ5.out
  have HY6 : Hid (w6.heap[w.heap.size + 3]? = some (.cells effZ 34 (0, 0))) := by rw [← hw6]; exact row_ne (by omega) HY5.out
  have HI6 : Hid (w6.heap[w.heap.size + 1]? = some (.cells #[.int .i64 op, .int .i64 d, .int .i64 ka, .int .i64 kb, .int .i64 n] 24 (0, 0))) := by rw [← hw6]; exact row_ne (by omega) HI5.out
  have N6 : Hid (w6.heap[pe]? = some (.cells effZ 34 (0, 0))) := by rw [← hw6]; exact row_ne (by omega) N5.out
  have bw6 : Below w.heap.size w w6 := by rw [← hw6]; exact below_setRow bw5 (Nat.le_refl _) _
  have hs6 : pe < w6.heap.size := lt_in N6.out
  have c4 := cell_in HI6.out (j := 4) (u := .int .i64 n) rfl
  rw [hw6]
  clear hw6 HX5 HZ5 HY5 HI5 N5 bw5 hs5
  clear q1 q2 q3 q4 q11 q12 q39 q46 q47 q48 q49 q43 q45 q44
  have g32 := cell_in HX6.out (hA_fields h5 hl5).1
  have f32 := frozen_in HX6.out 32
  have X7 : Hid ((w6.setCell ⟨w.heap.size, 32, none⟩ (.int .i64 (wrap32 (h.pc + 4)))).heap[w.heap.size]? = some (.cells (hA { h5 with pc := wrap32 (h.pc + 4) }) 28 (0, 0))) := Lib.hid (set_heap HX6.out 32 (.int .i64 (wrap32 (h.pc + 4))) _ (hA_pc h5 hl5 (wrap32 (h.pc + 4))))
  have Z7 : Hid ((w6.setCell ⟨w.heap.size, 32, none⟩ (.int .i64 (wrap32 (h.pc + 4)))).heap[w.heap.size + 2]? = some (.cells zA 28 (0, 0))) := Lib.hid (heap_set_ne (by omega) HZ6.out)
  have Y7 : Hid ((w6.setCell ⟨w.heap.size, 32, none⟩ (.int .i64 (wrap32 (h.pc + 4)))).heap[w.heap.size + 3]? = some (.cells effZ 34 (0, 0))) := Lib.hid (heap_set_ne (by omega) HY6.out)
  have N7 : Hid ((w6.setCell ⟨w.heap.size, 32, none⟩ (.int .i64 (wrap32 (h.pc + 4)))).heap[pe]? = some (.cells #[.int .i64 0, .int .i64 0, .int .i64 0, .int .i64 0, .int .i64 0] 34 (0, 0))) := Lib.hid (heap_set_ne (by omega) N6.out)
  have B7 : Hid (Below w.heap.size w (w6.setCell ⟨w.heap.size, 32, none⟩ (.int .i64 (wrap32 (h.pc + 4))))) := Lib.hid (bw_set bw6 (Nat.le_refl _) _)
  go_upto_region 52 with (fail)
  obtain ⟨w7, hw7⟩ : ∃ w7 : World, w6.setCell ⟨w.heap.size, 32, none⟩ (.int .i64 (wrap32 (h.pc + 4))) = w7 := ⟨_, rfl⟩
  rw [hw7] at X7 Z7 Y7 N7 B7 ⊢
  have hh7 : ({ h5 with pc := wrap32 (h.pc + 4) } : Ht) = h7 := by rw [← HH5.out]; exact HH7.out
  have hl7' : h7.r.length = 32 := by rw [← hh7]; exact hl5
  rw [hh7] at X7
  have HL7 := Lib.hid hl7'
  clear hw7 hh7 hl7' g32 f32 HX6 HZ6 HY6 N6
  refine wp_region_up (fun w' => w'.heap[w.heap.size]? = some (.cells (hA h7) 28 (0, 0)) ∧ w'.heap[pe]? = some (.cells #[.int .i64 0, .int .i64 0, .int .i64 0, .int .i64 0, .int .i64 0] 34 (0, 0))) [true, true, false, false] (by kernel_rfl) (by kernel_rfl) (by kernel_rfl) (fun _ _ hh hu => ⟨upH hu hh.1, upH hu hh.2⟩) ⟨X7.out, N7.out⟩ ?ra ?rh ?rt
  case rh =>
    intro w0 h0
    have R0 : Hid (∀ w' : World, (∃ x : Wd w0, w' = x.val) → (loadVar 28 ⟨w.heap.size, 0, none⟩).run Try.prog w' = .ok (.agg (hA h7)) w') := by
      rintro w' ⟨x, rfl⟩
      exact run_loadVar_row _ _ 28 28 (hA h7) (0, 0) _ (bel_in x.bel (lt_in h0.1) h0.1) Try.underlying28 rfl (infoA (hA_size h7 HL7.out))
    have R1 : Hid (∀ w' : World, (∃ x : Wd w0, w' = x.val) → (loadVar 34 ⟨pe, 0, none⟩).run Try.prog w' = .ok (.agg #[.int .i64 0, .int .i64 0, .int .i64 0, .int .i64 0, .int .i64 0]) w') := by
      rintro w' ⟨x, rfl⟩
      exact run_loadVar_row _ _ 34 34 #[.int .i64 0, .int .i64 0, .int .i64 0, .int .i64 0, .int .i64 0] (0, 0) _ (bel_in x.bel (lt_in h0.2) h0.2) Try.underlying34 rfl (by kernel_rfl)
    clear h0
    simp only [pickM]
    go_big_quiet_want
    refine quiet_load_row 28 _ (w.heap.size) (hA h7) rfl rfl R0.out ?_
    simp only [Act.put, List.setIfInBounds_toArray, List.set_cons_succ, List.set_cons_zero]
    go_big_quiet_on
    go_big_quiet_want
    refine quiet_load_row 34 _ pe #[.int .i64 0, .int .i64 0, .int .i64 0, .int .i64 0, .int .i64 0] rfl rfl R1.out ?_
    simp only [Act.put, List.setIfInBounds_toArray, List.set_cons_succ, List.set_cons_zero]
    go_big_quiet_on
    refine wpQuiet_nil ?_
    rfl
  case rt => as_aux_lemma =>
    change wpAnyU _ _ _ _ _ 2 _ _ _
    refine anyU_one (i := 2) (by kernel_rfl) rfl ?_
    intro w8 hu8 hc8
    have hu8 := bw_undrew hu8
    have Z8 := Lib.hid (upH hu8 Z7.out); have Y8 := Lib.hid (upH hu8 Y7.out); have B8 := Lib.hid (bw_tr B7.out hu8); have D8 := Lib.hid hc8
    clear hu8 hc8 X7 Z7 Y7 N7
    go_wp2_with (refine wpList_store_row rfl 28 _ _ rfl (w.heap.size + 2) (hA h7) rfl rfl 28 zA Z8.out (infoA (hA_size h7 HL7.out)) (by rw [hA_size h7 HL7.out]; rfl) (hA_one h7) ?_)
    refine ⟨⟨row_ne (by omega) D8.out.1, row_ne (by omega) D8.out.2⟩, ?_⟩
    refine anyU_one (i := 3) (by kernel_rfl) rfl ?_
    intro w9 hu9 hc9
    have Z9 := Lib.hid (upH hu9 (setRow_heap _ _ _ _ _ _ Z8.out : (w8.setRow (w.heap.size + 2) (hA h7)).heap[w.heap.size + 2]? = some (.cells (hA h7) 28 (0, 0))))
    have Y9 := Lib.hid (upH hu9 (row_ne (cs := hA h7) (by omega) Y8.out))
    have B9 := Lib.hid (bw_tr (below_setRow B8.out (by omega) (hA h7)) hu9 : Below w.heap.size w w9)
    have D9 := Lib.hid hc9
    clear hu9 hc9 Z8 Y8 D8 B8
    go_wp2_with (refine wpList_store_row rfl 34 _ _ rfl (w.heap.size + 3) #[.int .i64 0, .int .i64 0, .int .i64 0, .int .i64 0, .int .i64 0] rfl rfl 34 effZ Y9.out (by kernel_rfl) rfl (by kernel_rfl) ?_)
    refine ⟨⟨row_ne (by omega) D9.out.1, row_ne (by omega) D9.out.2⟩, ?_⟩
    refine anyU_nil (by kernel_rfl) ?_
    intro w10 hu10 hc10
    have Z10 := Lib.hid (upH hu10 (row_ne (cs := #[.int .i64 0, .int .i64 0, .int .i64 0, .int .i64 0, .int .i64 0]) (by omega) Z9.out))
    have Y10 := Lib.hid (upH hu10 (setRow_heap _ _ _ _ _ _ Y9.out : (w9.setRow (w.heap.size + 3) #[.int .i64 0, .int .i64 0, .int .i64 0, .int .i64 0, .int .i64 0]).heap[w.heap.size + 3]? = some (.cells #[.int .i64 0, .int .i64 0, .int .i64 0, .int .i64 0, .int .i64 0] 34 (0, 0))))
    have B10 := Lib.hid (bw_tr (below_setRow B9.out (by omega) #[.int .i64 0, .int .i64 0, .int .i64 0, .int .i64 0, .int .i64 0]) hu10 : Below w.heap.size w w10)
    clear hu10 hc10 Z9 Y9 D9 B9
    go_wp2_with fail
    exact bodyPost_ret (v := .tuple #[.agg (hA h7), .agg #[.int .i64 0, .int .i64 0, .int .i64 0, .int .i64 0, .int .i64 0]]) (results_cells2 rfl _ _ (w.heap.size + 2) (w.heap.size + 3) 28 34 (hA h7) #[.int .i64 0, .int .i64 0, .int .i64 0, .int .i64 0, .int .i64 0] (0, 0) (0, 0) _ _ rfl rfl Z10.out Y10.out Try.underlying28 rfl (infoA (hA_size h7 HL7.out)) Try.underlying34 rfl (by kernel_rfl)) rfl ⟨rfl, B10.out⟩
end Go.Proofs.Ytiahdhlfecgnpaa
