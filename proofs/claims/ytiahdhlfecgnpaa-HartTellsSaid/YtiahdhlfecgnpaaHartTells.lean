/-
  The walk of the law HartTells.
-/
import Derived.Test.YtiahdhlfecgnpaaHartMid
import Derived.Test.YtiahdhlfecgnpaaRef14l
import Derived.Deep.DeepCutAuto
import Derived.Deep.QuietTactic
import Derived.BigQuiet
import Derived.Outline
namespace Go.Proofs.Ytiahdhlfecgnpaa
open Go.RowKit
set_option linter.unusedSimpArgs false
theorem rstep_at (h : Ht) (id op d a b n : Int) (w : World) (f : Fine h) (hid : I64 id) (h' : Ht) (e0 e1 e2 e3 e4 : Int) (hs : stepX h id ⟨op, d, a, b, n⟩ = (h', ⟨e0, e1, e2, e3, e4⟩)) :
    Calls Try.prog 17 #[.agg (hA h), .int .i64 id, .agg #[.int .i64 op, .int .i64 d, .int .i64 a, .int .i64 b, .int .i64 n]] w fun e w' => e = .returned (.tuple #[.agg (hA h'), .agg #[.int .i64 e0, .int .i64 e1, .int .i64 e2, .int .i64 e3, .int .i64 e4]]) ∧ Below w.heap.size w w' := by
  have := rstep_any h id ⟨op, d, a, b, n⟩ w f hid
  rw [hs] at this
  exact this
theorem csr_list (a : Act) (r : Nat) (o : Oper) (ho : o.op = .buildSlice 22 8 #[(0, .const (.int .i64 768)), (1, .const (.int .i64 773)), (2, .const (.int .i64 832)), (3, .const (.int .i64 833)), (4, .const (.int .i64 834)), (5, .const (.int .i64 1984)), (6, .const (.int .i64 3860)), (7, .const (.int .i64 0))]) :
    newAt Try.prog r (execOp a.eval o) = some (.cells #[.int .i64 768, .int .i64 773, .int .i64 832, .int .i64 833, .int .i64 834, .int .i64 1984, .int .i64 3860, .int .i64 0] 3, .value (.slice (some ⟨r, 0, none⟩) 8 8)) := by
  unfold execOp
  rw [ho]
  kernel_rfl
theorem put_r (h : Ht) (d n : Int) (g : Ht) (w : World) (h32 : h.r.length = 32) (e : putH h d n = g) :
    Calls Try.prog 18 #[.agg (hA h), .int .i64 d, .int .i64 n] w fun e w' => e = .returned (.agg (hA g)) ∧ Below w.heap.size w w' := by subst e; exact put_any h d n w h32
theorem rput_r (h : Ht) (d n : Int) (g : Ht) (w : World) (h32 : h.r.length = 32) (hn : I64 n) (e : putH h d n = g) :
    Calls Try.prog 19 #[.agg (hA h), .int .i64 d, .int .i64 n] w fun e w' => e = .returned (.agg (hA g)) ∧ Below w.heap.size w w' := by subst e; exact rput_any h d n w h32 hn
theorem trap_r (h : Ht) (c : Int) (g : Ht) (w : World) (h32 : h.r.length = 32) (e : trapH h c = g) :
    Calls Try.prog 20 #[.agg (hA h), .int .i64 c] w fun e w' => e = .returned (.agg (hA g)) ∧ Below w.heap.size w w' := by subst e; exact trap_any' h c w h32
theorem fine_st {h : Ht} (f : Fine h) : 0 ≤ h.st ∧ h.st ≤ 136 := by rcases f.st with e | e | e | e <;> omega
theorem rtrap_r (h : Ht) (c : Int) (g : Ht) (w : World) (f : Fine h) (hc : I64 c) (e : trapH h c = g) :
    Calls Try.prog 21 #[.agg (hA h), .int .i64 c] w fun e w' => e = .returned (.agg (hA g)) ∧ Below w.heap.size w w' := by
  subst e; rw [← rtrap_eq h c f.st]; exact rtrap_any h c w f.len (fine_st f) hc
theorem rlets_eq {h : Ht} (f : Fine h) (p : Int) : ((h.st / 8 % 2 == 1) && decide (h.le < p)) = letsB h.st h.le p := by
  unfold letsB
  have : (h.st / 8 % 2 == 1) = (bits .and .i64 h.st 8 != 0) := by rcases f.st with e | e | e | e <;> rw [e] <;> kernel_rfl
  rw [this]
theorem rlets_r (h : Ht) (p : Int) (r : Bool) (w : World) (f : Fine h) (e : letsB h.st h.le p = r) :
    Calls Try.prog 23 #[.agg (hA h), .int .i64 p] w fun e w' => e = .returned (.bool r) ∧ Below w.heap.size w w' := by
  subst e; rw [← rlets_eq f p]; exact rlets_any h p w f.len (fine_st f)
theorem pick14_r (c n r : Int) (w : World) (hc : I64 c) (hn : 0 < n ∧ n ≤ 9223372036854775807) (e : pickN c n = r) :
    Calls Try.prog 15 #[.int .i64 c, .int .i64 n] w fun e w' => e = .returned (.int .i64 r) ∧ w = w' := by subst e; exact pick14 c n w hc hn
def csrB (op : Int) : Bool := op == 40 || op == 41 || op == 42
set_option maxRecDepth 100000 in
set_option maxHeartbeats 8000000 in
theorem hart_tells (v : Value) (l : List Int) (x : Ins) (id dd nn : Int) (w : World) (ha : ArgS 1 c1 w v l) (hl : ∀ x ∈ l, I64 x) (hx : ok_instr x) (hid : I64 id) (hdd : I64 dd) (hnn : I64 nn) :
    Calls Try.prog 3 #[v, insV x, .int .i64 id, .int .i64 dd, .int .i64 nn] w fun e w' => e = .returned (.bool true) ∧ Below w.heap.size w w' := by
  have HA := Lib.hid ha; have HL := Lib.hid hl; have HXO := Lib.hid hx; have HID := Lib.hid hid; have HDD := Lib.hid hdd; have HNN := Lib.hid hnn
  clear ha hl hx hid hdd hnn
  have fine := fit_fine l
  obtain ⟨op, d, a, b, n⟩ := x
  obtain ⟨p8, hp8, hp8b⟩ : ∃ p8 : Nat, pickN nn 8 = p8 ∧ p8 < 8 := ⟨(pickN nn 8).toNat, by have := pickN_bd nn 8 (by omega); omega, by have := pickN_bd nn 8 (by omega); omega⟩
  have HP8 := Lib.hid hp8; clear hp8
  obtain ⟨w0, hw0⟩ : ∃ w0 : World, w0 = w.alloc (.cells #[.int .i64 op, .int .i64 d, .int .i64 a, .int .i64 b, .int .i64 n] 24) := ⟨_, rfl⟩
  have HI0 : Hid (w0.heap[w.heap.size]? = some (.cells #[.int .i64 op, .int .i64 d, .int .i64 a, .int .i64 b, .int .i64 n] 24 (0, 0))) := by rw [hw0]; exact Lib.hid (new_in _ _)
  have hb0 : Below w.heap.size w w0 := by rw [hw0]; exact (Below.refl _ _).alloc (Nat.le_refl _) _
  have HW := Lib.hid hw0; clear hw0
  unfold insV
  go_enter Try.func3, Try.ntmps3
  go_upto_region 1 with (fail)
  rw [← HW.out]
  clear HW
  go_wp2_with fail
  have bel1 : Below w.heap.size w w0 := hb0
  refine (awake14 _).mono ?_
  rintro e w1 ⟨rfl, hb1⟩
  have F2 := Lib.hid (bel_in hb1 (lt_in HI0.out) HI0.out)
  have bel3 : Below w.heap.size w w1 := bw_tr bel1 hb1
  clear HI0 bel1
  clear hb1
  go_wp2_with fail
  refine (hfit_any v l _ (HA.out.below bel3) HL.out).mono ?_
  rintro e w2 ⟨rfl, hb2⟩
  have F4 := Lib.hid (bel_in hb2 (lt_in F2.out) F2.out)
  have bel5 : Below w.heap.size w w2 := bw_tr bel3 hb2
  clear F2 bel3
  clear hb2
  generalize fitH l = h at *
  have hlh := fine.len
  have FN := Lib.hid fine
  clear fine
  have ZN2 := Lib.hid (new_in w2 (.cells zA 28))
  go_upto_region 3 with (refine wpList_store_row rfl 28 _ _ rfl (w2.heap.size) (hA h) rfl rfl 28 zA ZN2.out (infoA (hA_size h hlh)) (by rw [hA_size h hlh]; rfl) (hA_one h) ?_)
  obtain ⟨w2x, hw2x⟩ : ∃ w2x : World, w2x = (w2.alloc (.cells zA 28)).setRow w2.heap.size (hA h) := ⟨_, rfl⟩
  have HG2 : Hid (w2x.heap[w2.heap.size]? = some (.cells (hA h) 28 (0, 0))) := by rw [hw2x]; exact setRow_heap _ _ _ _ _ _ ZN2.out
  have hbx2 : Below w2.heap.size w2 w2x := by rw [hw2x]; exact below_setRow ((Below.refl _ _).alloc (Nat.le_refl _) _) (Nat.le_refl _) _
  have hsx2 : w2.heap.size + 1 ≤ w2x.heap.size := by have := lt_in HG2.out; omega
  first | rw [← hw2x] | (change Code.wp _ _ _ _ ((w2.alloc (.cells zA 28)).setRow w2.heap.size (hA h)); rw [← hw2x])
  clear hw2x ZN2
  have F6 := Lib.hid (bel_in hbx2 (lt_in F4.out) F4.out)
  have bel7 : Below w.heap.size w w2x := bw_tr bel5 hbx2
  clear F4 bel5
  clear hbx2 hsx2
  have ci0 := cell_in F6.out (j := 0) (u := .int .i64 (op)) rfl
  have ci1 := cell_in F6.out (j := 1) (u := .int .i64 (d)) rfl
  have ci2 := cell_in F6.out (j := 2) (u := .int .i64 (a)) rfl
  have ci3 := cell_in F6.out (j := 3) (u := .int .i64 (b)) rfl
  have ci4 := cell_in F6.out (j := 4) (u := .int .i64 (n)) rfl
  go_wp2_with fail
  refine (fit_any ⟨op, d, a, b, n⟩ _ HXO.out).mono ?_
  rintro e w3 ⟨rfl, hb3⟩
  have F8 := Lib.hid (bel_in hb3 (lt_in F6.out) F6.out)
  have F9 := Lib.hid (bel_in hb3 (lt_in HG2.out) HG2.out)
  have bel10 : Below w.heap.size w w3 := bw_tr bel7 hb3
  clear F6 HG2 bel7
  clear hb3
  clear ci0 ci1 ci2 ci3 ci4 HXO
  generalize fitX ⟨op, d, a, b, n⟩ = y at *
  obtain ⟨yop, yd, ya, yb, yn⟩ := y
  unfold insV
  have ZNI3 := Lib.hid (new_in w3 (.cells effZ 24))
  go_upto_region 4 with (refine wpList_store_row rfl 24 _ _ rfl (w3.heap.size) #[.int .i64 yop, .int .i64 yd, .int .i64 ya, .int .i64 yb, .int .i64 yn] rfl rfl 24 effZ ZNI3.out (by kernel_rfl) rfl (by kernel_rfl) ?_)
  obtain ⟨w3x, hw3x⟩ : ∃ w3x : World, w3x = (w3.alloc (.cells effZ 24)).setRow w3.heap.size #[.int .i64 yop, .int .i64 yd, .int .i64 ya, .int .i64 yb, .int .i64 yn] := ⟨_, rfl⟩
  have HG3 : Hid (w3x.heap[w3.heap.size]? = some (.cells #[.int .i64 yop, .int .i64 yd, .int .i64 ya, .int .i64 yb, .int .i64 yn] 24 (0, 0))) := by rw [hw3x]; exact Lib.hid (setRow_heap _ _ _ _ _ _ ZNI3.out)
  have hbx3 : Below w3.heap.size w3 w3x := by rw [hw3x]; exact below_setRow ((Below.refl _ _).alloc (Nat.le_refl _) _) (Nat.le_refl _) _
  first | rw [← hw3x] | (change Code.wp _ _ _ _ ((w3.alloc (.cells effZ 24)).setRow w3.heap.size #[.int .i64 yop, .int .i64 yd, .int .i64 ya, .int .i64 yb, .int .i64 yn]); rw [← hw3x])
  clear hw3x ZNI3
  have F11 := Lib.hid (bel_in hbx3 (lt_in F8.out) F8.out)
  have F12 := Lib.hid (bel_in hbx3 (lt_in F9.out) F9.out)
  have bel13 : Below w.heap.size w w3x := bw_tr bel10 hbx3
  clear F8 F9 bel10
  clear hbx3
  have cy0 := cell_in HG3.out (j := 0) (u := .int .i64 (yop)) rfl
  have cy1 := cell_in HG3.out (j := 1) (u := .int .i64 (yd)) rfl
  have cy2 := cell_in HG3.out (j := 2) (u := .int .i64 (ya)) rfl
  have cy3 := cell_in HG3.out (j := 3) (u := .int .i64 (yb)) rfl
  have cy4 := cell_in HG3.out (j := 4) (u := .int .i64 (yn)) rfl
  have lzI := lt_in F11.out
  have lzG2 := lt_in F12.out
  have lzY3 := lt_in HG3.out
  have ZNI4 := Lib.hid (new_in w3x (.cells effZ 24))
  go_upto_region 5 with (refine wpList_store_row rfl 24 _ _ rfl (w3x.heap.size) #[.int .i64 yop, .int .i64 yd, .int .i64 ya, .int .i64 yb, .int .i64 yn] rfl rfl 24 effZ ZNI4.out (by kernel_rfl) rfl (by kernel_rfl) ?_)
  obtain ⟨w4x, hw4x⟩ : ∃ w4x : World, w4x = (w3x.alloc (.cells effZ 24)).setRow w3x.heap.size #[.int .i64 yop, .int .i64 yd, .int .i64 ya, .int .i64 yb, .int .i64 yn] := ⟨_, rfl⟩
  have HG4 : Hid (w4x.heap[w3x.heap.size]? = some (.cells #[.int .i64 yop, .int .i64 yd, .int .i64 ya, .int .i64 yb, .int .i64 yn] 24 (0, 0))) := by rw [hw4x]; exact Lib.hid (setRow_heap _ _ _ _ _ _ ZNI4.out)
  have hbx4 : Below w3x.heap.size w3x w4x := by rw [hw4x]; exact below_setRow ((Below.refl _ _).alloc (Nat.le_refl _) _) (Nat.le_refl _) _
  first | rw [← hw4x] | (change Code.wp _ _ _ _ ((w3x.alloc (.cells effZ 24)).setRow w3x.heap.size #[.int .i64 yop, .int .i64 yd, .int .i64 ya, .int .i64 yb, .int .i64 yn]); rw [← hw4x])
  clear hw4x ZNI4
  have F14 := Lib.hid (bel_in hbx4 (lt_in F11.out) F11.out)
  have F15 := Lib.hid (bel_in hbx4 (lt_in F12.out) F12.out)
  have F16 := Lib.hid (bel_in hbx4 (lt_in HG3.out) HG3.out)
  have bel17 : Below w.heap.size w w4x := bw_tr bel13 hbx4
  clear F11 F12 HG3 bel13
  clear hbx4
  clear cy0 cy1 cy2 cy3 cy4
  have cy0 := cell_in F16.out (j := 0) (u := .int .i64 yop) rfl
  try simp only [Act.put, List.setIfInBounds_toArray, List.set_cons_succ, List.set_cons_zero]
  go_cut [39] (fun s wx => s = .bool (csrB yop) ∧ wx = w4x)
  case first => as_aux_lemma =>
    cases q40 : (yop == 40) <;> cases q41 : (yop == 41) <;> cases q42 : (yop == 42)
    all_goals
      go_wp2_with fail
      go_meet
      case rel => exact ⟨by unfold csrB; rw [q40, q41, q42]; rfl, rfl⟩
  case rest =>
    obtain ⟨rfl, hwc⟩ := hcut
    have hwc' := hwc.symm
    subst hwc'
    clear cy0
    obtain ⟨cs, hcs⟩ : ∃ cs, csrB yop = cs := ⟨_, rfl⟩
    rw [hcs]
    clear hcs
    go_upto_if 39 with fail
    go_cut [] (fun wx => ∃ zn : Int, wx.heap[w3x.heap.size]? = some (.cells #[.int .i64 yop, .int .i64 yd, .int .i64 ya, .int .i64 yb, .int .i64 zn] 24 (0, 0)) ∧ Below (w3x.heap.size) w4x wx)
    case first => as_aux_lemma =>
      cases cs
      case false =>
        go_wp2_with fail
        go_meet
        case rel => exact ⟨yn, HG4.out, Below.refl _ _⟩
      case true =>
        obtain ⟨cv, hcv⟩ : ∃ cv, ([768, 773, 832, 833, 834, 1984, 3860, 0] : List Int).getD p8 0 = cv := ⟨_, rfl⟩
        go_upto_region 6 with fail
        apply wp_region_lit
        refine wpList_newAt (.cells #[.int .i64 768, .int .i64 773, .int .i64 832, .int .i64 833, .int .i64 834, .int .i64 1984, .int .i64 3860, .int .i64 0] 3) (.slice (some ⟨w4x.heap.size, 0, none⟩) 8 8) rfl (csr_list _ _ _ rfl) ?_
        have hl0 := new_in w4x (.cells #[.int .i64 768, .int .i64 773, .int .i64 832, .int .i64 833, .int .i64 834, .int .i64 1984, .int .i64 3860, .int .i64 0] 3)
        have hb6 : Below w4x.heap.size w4x (w4x.alloc (.cells #[.int .i64 768, .int .i64 773, .int .i64 832, .int .i64 833, .int .i64 834, .int .i64 1984, .int .i64 3860, .int .i64 0] 3)) := (Below.refl _ _).alloc (Nat.le_refl _) _
        obtain ⟨wl, hwl⟩ : ∃ wl, w4x.alloc (.cells #[.int .i64 768, .int .i64 773, .int .i64 832, .int .i64 833, .int .i64 834, .int .i64 1984, .int .i64 3860, .int .i64 0] 3) = wl := ⟨_, rfl⟩
        rw [hwl] at hl0 hb6 ⊢
        clear hwl
        have cl : wl.cell? ⟨w4x.heap.size, p8, none⟩ = some (.int .i64 cv) := by
          refine cell_in hl0 ?_
          rw [← hcv]
          rcases (by omega : p8 = 0 ∨ p8 = 1 ∨ p8 = 2 ∨ p8 = 3 ∨ p8 = 4 ∨ p8 = 5 ∨ p8 = 6 ∨ p8 = 7) with rfl | rfl | rfl | rfl | rfl | rfl | rfl | rfl <;> rfl
        have Z6 := Lib.hid (bel_in hb6 (lt_in HG4.out) HG4.out)
        have pb0 : (0 : Int) ≤ (p8 : Int) := by omega
        have pb1 : (p8 : Int) < 8 := by omega
        have zc := cell_in Z6.out (j := 4) (u := .int .i64 yn) rfl
        have fz := frozen_in Z6.out 4
        have HB6 := Lib.hid hb6
        have ltz := lt_in HG4.out
        clear hcv hl0 hb6
        try simp only [Act.put, List.setIfInBounds_toArray, List.set_cons_succ, List.set_cons_zero]
        go_wp2_with (go_at_call 15; ((with_reducible refine (pick14 nn 8 _ HNN.out (by omega)).mono ?_); rw [HP8.out]; rintro e w' ⟨rfl, rfl⟩))
        go_meet
        case rel => exact ⟨cv, set_heap Z6.out 4 (.int .i64 cv) _ rfl, (HB6.out.mono (Nat.le_of_lt ltz)).setCell (Nat.le_refl _) _⟩
    case rest =>
      obtain ⟨zn, hz, hzb⟩ := hcut
      have HZ9 := Lib.hid hz
      have HI9 := Lib.hid (bel_in hzb lzI F14.out)
      have HH9 := Lib.hid (bel_in hzb lzG2 F15.out)
      have HY9 := Lib.hid (bel_in hzb lzY3 F16.out)
      have bw9 : Below w.heap.size w wc := (bel17).trans (hzb.mono (Nat.le_trans (Nat.le_of_lt lzI) (Nat.le_refl _)))
      have HYY := HG4
      clear hz hzb F14 F15 F16 HG4 bel17 HYY
      have xi0 := cell_in HI9.out (j := 0) (u := .int .i64 (op)) rfl
      have xi1 := cell_in HI9.out (j := 1) (u := .int .i64 (d)) rfl
      have xi2 := cell_in HI9.out (j := 2) (u := .int .i64 (a)) rfl
      have xi3 := cell_in HI9.out (j := 3) (u := .int .i64 (b)) rfl
      have xi4 := cell_in HI9.out (j := 4) (u := .int .i64 (n)) rfl
      have xy0 := cell_in HY9.out (j := 0) (u := .int .i64 (yop)) rfl
      have xy1 := cell_in HY9.out (j := 1) (u := .int .i64 (yd)) rfl
      have xy2 := cell_in HY9.out (j := 2) (u := .int .i64 (ya)) rfl
      have xy3 := cell_in HY9.out (j := 3) (u := .int .i64 (yb)) rfl
      have xy4 := cell_in HY9.out (j := 4) (u := .int .i64 (yn)) rfl
      have xz0 := cell_in HZ9.out (j := 0) (u := .int .i64 (yop)) rfl
      have xz1 := cell_in HZ9.out (j := 1) (u := .int .i64 (yd)) rfl
      have xz2 := cell_in HZ9.out (j := 2) (u := .int .i64 (ya)) rfl
      have xz3 := cell_in HZ9.out (j := 3) (u := .int .i64 (yb)) rfl
      have xz4 := cell_in HZ9.out (j := 4) (u := .int .i64 (zn)) rfl
      go_wp2_with fail
      go_loopw [51] (fun i wr => ∃ k : Nat, k ≤ 3 ∧ i = .int .i64 k ∧ wr.heap[w2.heap.size]? = some (.cells (hA h) 28 (0, 0)) ∧
        wr.heap[wc.heap.size]? = some (.cells #[.int .i64 op, .int .i64 d, .int .i64 a, .int .i64 b, .int .i64 n, .int .i64 yop, .int .i64 yd, .int .i64 ya, .int .i64 yb, .int .i64 yn, .int .i64 yop, .int .i64 yd, .int .i64 ya, .int .i64 yb, .int .i64 zn] 24 (0, 0)) ∧ Below w.heap.size w wr) (fun i _ => 3 - (intOf i).toNat)
      case atStart => exact ⟨0, by omega, rfl, bel_in ((Below.refl _ _).alloc (Nat.le_refl _) _) (lt_in HH9.out) HH9.out, new_in _ _, bw9.trans (((Below.refl _ _).alloc (Nat.le_refl _) _).mono bw9.size)⟩
      case round =>
        obtain ⟨k, hk, rfl, hh, hs, hbb⟩ := hrel
        have HHr := Lib.hid hh; have HSr := Lib.hid hs; have BBr := Lib.hid hbb
        clear hh hs hbb HH9 bw9 lzI lzG2 lzY3
        clear xi0 xi1 xi2 xi3 xi4 xy0 xy1 xy2 xy3 xy4 xz0 xz1 xz2 xz3 xz4 HI9 HY9 HZ9
        by_cases hlt : k < 3
        · as_aux_lemma =>
            obtain ⟨z, c0, c1, c2, c3, c4⟩ : ∃ z : Ins, wr.cell? ⟨wc.heap.size, k * 5, none⟩ = some (.int .i64 z.op) ∧ wr.cell? ⟨wc.heap.size, k * 5 + 1, none⟩ = some (.int .i64 z.d) ∧ wr.cell? ⟨wc.heap.size, k * 5 + 2, none⟩ = some (.int .i64 z.a) ∧ wr.cell? ⟨wc.heap.size, k * 5 + 3, none⟩ = some (.int .i64 z.b) ∧ wr.cell? ⟨wc.heap.size, k * 5 + 4, none⟩ = some (.int .i64 z.n) := by
              rcases (by omega : k = 0 ∨ k = 1 ∨ k = 2) with rfl | rfl | rfl
              · exact ⟨⟨op, d, a, b, n⟩, cell_in HSr.out rfl, cell_in HSr.out rfl, cell_in HSr.out rfl, cell_in HSr.out rfl, cell_in HSr.out rfl⟩
              · exact ⟨⟨yop, yd, ya, yb, yn⟩, cell_in HSr.out rfl, cell_in HSr.out rfl, cell_in HSr.out rfl, cell_in HSr.out rfl, cell_in HSr.out rfl⟩
              · exact ⟨⟨yop, yd, ya, yb, zn⟩, cell_in HSr.out rfl, cell_in HSr.out rfl, cell_in HSr.out rfl, cell_in HSr.out rfl, cell_in HSr.out rfl⟩
            obtain ⟨zop, zd, za, zb, zzn⟩ := z
            simp only at c0 c1 c2 c3 c4
            obtain ⟨⟨g, ⟨e0, e1, e2, e3, e4⟩⟩, hst⟩ : ∃ r, stepX h id ⟨zop, zd, za, zb, zzn⟩ = r := ⟨_, rfl⟩
            have len_g := len_at hlh hst
            have HST := Lib.hid hst; clear hst
            go_upto_region 10 with fail
            have hzz := new_in wr (.cells #[.int .i64 zop, .int .i64 zd, .int .i64 za, .int .i64 zb, .int .i64 zzn] 24)
            obtain ⟨W, hW⟩ : ∃ W, wr.alloc (.cells #[.int .i64 zop, .int .i64 zd, .int .i64 za, .int .i64 zb, .int .i64 zzn] 24) = W := ⟨_, rfl⟩
            have hU : Below wr.heap.size wr W := by rw [← hW]; exact (Below.refl _ _).alloc (Nat.le_refl _) _
            rw [hW] at hzz
            first | rw [hW] | (change Code.wp _ _ _ _ (wr.alloc (.cells #[.int .i64 zop, .int .i64 zd, .int .i64 za, .int .i64 zb, .int .i64 zzn] 24)); rw [hW])
            have FZ0 := Lib.hid hzz; have FH0 := Lib.hid (bel_in hU (lt_in HHr.out) HHr.out); have FS0 := Lib.hid (bel_in hU (lt_in HSr.out) HSr.out); have belW := bw_tr BBr.out hU
            clear hzz hU hW c0 c1 c2 c3 c4 HHr HSr BBr
            have ck0 := cell_in FZ0.out (j := 0) (u := .int .i64 (zop)) rfl
            have ck1 := cell_in FZ0.out (j := 1) (u := .int .i64 (zd)) rfl
            have ck2 := cell_in FZ0.out (j := 2) (u := .int .i64 (za)) rfl
            have ck3 := cell_in FZ0.out (j := 3) (u := .int .i64 (zb)) rfl
            have ck4 := cell_in FZ0.out (j := 4) (u := .int .i64 (zzn)) rfl
            go_wp2_with (refine wpList_load_row rfl 28 _ rfl (w2.heap.size) rfl 28 (hA h) (0, 0) _ FH0.out Try.underlying28 rfl (infoA (hA_size h hlh)) ?_)
            refine (step_at h id (zop) (zd) (za) (zb) (zzn) _ hlh g (e0) (e1) (e2) (e3) (e4) HST.out).mono ?_
            rintro e w10 ⟨rfl, hb10⟩
            have F18 := Lib.hid (bel_in hb10 (lt_in FH0.out) FH0.out)
            have F19 := Lib.hid (bel_in hb10 (lt_in FS0.out) FS0.out)
            have F20 := Lib.hid (bel_in hb10 (lt_in FZ0.out) FZ0.out)
            have bel21 : Below w.heap.size w w10 := bw_tr belW hb10
            clear FH0 FS0 FZ0 belW
            clear hb10
            have ZN10 := Lib.hid (heap_alloc2_old w10 (.cells zA 28) (.cells effZ 34))
            have YN10 := Lib.hid (row_ne (b := w10.heap.size) (cs := hA g) (by omega) (heap_alloc2_new w10 (.cells zA 28) (.cells effZ 34)))
            go_upto_region 11 with (first | (refine wpList_store_row rfl 28 _ _ rfl (w10.heap.size) (hA g) rfl rfl 28 zA ZN10.out (infoA (hA_size g len_g)) (by rw [hA_size g len_g]; rfl) (hA_one g) ?_) | (refine wpList_store_row rfl 34 _ _ rfl (w10.heap.size + 1) #[.int .i64 (e0), .int .i64 (e1), .int .i64 (e2), .int .i64 (e3), .int .i64 (e4)] rfl rfl 34 effZ YN10.out (by kernel_rfl) rfl (by kernel_rfl) ?_))
            obtain ⟨w10x, hw10x⟩ : ∃ w10x : World, w10x = (((w10.alloc (.cells zA 28)).alloc (.cells effZ 34)).setRow w10.heap.size (hA g)).setRow (w10.heap.size + 1) #[.int .i64 (e0), .int .i64 (e1), .int .i64 (e2), .int .i64 (e3), .int .i64 (e4)] := ⟨_, rfl⟩
            have HG10 : Hid (w10x.heap[w10.heap.size]? = some (.cells (hA g) 28 (0, 0))) := by rw [hw10x]; exact row_ne (by omega) (setRow_heap _ _ _ _ _ _ ZN10.out)
            have HE10 : Hid (w10x.heap[w10.heap.size + 1]? = some (.cells #[.int .i64 (e0), .int .i64 (e1), .int .i64 (e2), .int .i64 (e3), .int .i64 (e4)] 34 (0, 0))) := by rw [hw10x]; exact setRow_heap _ _ _ _ _ _ YN10.out
            have hbx10 : Below w10.heap.size w10 w10x := by rw [hw10x]; exact below_setRow (below_setRow (((Below.refl _ _).alloc (Nat.le_refl _) _).alloc (by simp) _) (Nat.le_refl _) _) (by omega) _
            have hsx10 : w10.heap.size + 2 ≤ w10x.heap.size := by have := lt_in HE10.out; omega
            first | rw [← hw10x] | (change Code.wp _ _ _ _ ((((w10.alloc (.cells zA 28)).alloc (.cells effZ 34)).setRow w10.heap.size (hA g)).setRow (w10.heap.size + 1) #[.int .i64 (e0), .int .i64 (e1), .int .i64 (e2), .int .i64 (e3), .int .i64 (e4)]); rw [← hw10x])
            clear hw10x ZN10 YN10
            have F22 := Lib.hid (bel_in hbx10 (lt_in F18.out) F18.out)
            have F23 := Lib.hid (bel_in hbx10 (lt_in F19.out) F19.out)
            have F24 := Lib.hid (bel_in hbx10 (lt_in F20.out) F20.out)
            have bel25 : Below w.heap.size w w10x := bw_tr bel21 hbx10
            clear F18 F19 F20 bel21
            clear hbx10 hsx10
            clear ck0 ck1 ck2 ck3 ck4
            have ck0 := cell_in F24.out (j := 0) (u := .int .i64 (zop)) rfl
            have ck1 := cell_in F24.out (j := 1) (u := .int .i64 (zd)) rfl
            have ck2 := cell_in F24.out (j := 2) (u := .int .i64 (za)) rfl
            have ck3 := cell_in F24.out (j := 3) (u := .int .i64 (zb)) rfl
            have ck4 := cell_in F24.out (j := 4) (u := .int .i64 (zzn)) rfl
            go_wp2_with (refine wpList_load_row rfl 28 _ rfl (w2.heap.size) rfl 28 (hA h) (0, 0) _ F22.out Try.underlying28 rfl (infoA (hA_size h hlh)) ?_)
            refine (rstep_at h id zop zd za zb zzn _ FN.out HID.out g e0 e1 e2 e3 e4 HST.out).mono ?_
            rintro e w11 ⟨rfl, hb11⟩
            have F26 := Lib.hid (bel_in hb11 (lt_in F22.out) F22.out)
            have F27 := Lib.hid (bel_in hb11 (lt_in F23.out) F23.out)
            have F28 := Lib.hid (bel_in hb11 (lt_in F24.out) F24.out)
            have F29 := Lib.hid (bel_in hb11 (lt_in HG10.out) HG10.out)
            have F30 := Lib.hid (bel_in hb11 (lt_in HE10.out) HE10.out)
            have bel31 : Below w.heap.size w w11 := bw_tr bel25 hb11
            clear F22 F23 F24 HG10 HE10 bel25
            clear hb11
            clear ck0 ck1 ck2 ck3 ck4
            have ZN11 := Lib.hid (heap_alloc2_old w11 (.cells zA 28) (.cells effZ 34))
            have YN11 := Lib.hid (row_ne (b := w11.heap.size) (cs := hA g) (by omega) (heap_alloc2_new w11 (.cells zA 28) (.cells effZ 34)))
            go_upto_region 12 with (first | (refine wpList_store_row rfl 28 _ _ rfl (w11.heap.size) (hA g) rfl rfl 28 zA ZN11.out (infoA (hA_size g len_g)) (by rw [hA_size g len_g]; rfl) (hA_one g) ?_) | (refine wpList_store_row rfl 34 _ _ rfl (w11.heap.size + 1) #[.int .i64 (e0), .int .i64 (e1), .int .i64 (e2), .int .i64 (e3), .int .i64 (e4)] rfl rfl 34 effZ YN11.out (by kernel_rfl) rfl (by kernel_rfl) ?_))
            obtain ⟨w11x, hw11x⟩ : ∃ w11x : World, w11x = (((w11.alloc (.cells zA 28)).alloc (.cells effZ 34)).setRow w11.heap.size (hA g)).setRow (w11.heap.size + 1) #[.int .i64 (e0), .int .i64 (e1), .int .i64 (e2), .int .i64 (e3), .int .i64 (e4)] := ⟨_, rfl⟩
            have HG11 : Hid (w11x.heap[w11.heap.size]? = some (.cells (hA g) 28 (0, 0))) := by rw [hw11x]; exact row_ne (by omega) (setRow_heap _ _ _ _ _ _ ZN11.out)
            have HE11 : Hid (w11x.heap[w11.heap.size + 1]? = some (.cells #[.int .i64 (e0), .int .i64 (e1), .int .i64 (e2), .int .i64 (e3), .int .i64 (e4)] 34 (0, 0))) := by rw [hw11x]; exact setRow_heap _ _ _ _ _ _ YN11.out
            have hbx11 : Below w11.heap.size w11 w11x := by rw [hw11x]; exact below_setRow (below_setRow (((Below.refl _ _).alloc (Nat.le_refl _) _).alloc (by simp) _) (Nat.le_refl _) _) (by omega) _
            have hsx11 : w11.heap.size + 2 ≤ w11x.heap.size := by have := lt_in HE11.out; omega
            first | rw [← hw11x] | (change Code.wp _ _ _ _ ((((w11.alloc (.cells zA 28)).alloc (.cells effZ 34)).setRow w11.heap.size (hA g)).setRow (w11.heap.size + 1) #[.int .i64 (e0), .int .i64 (e1), .int .i64 (e2), .int .i64 (e3), .int .i64 (e4)]); rw [← hw11x])
            clear hw11x ZN11 YN11
            have F32 := Lib.hid (bel_in hbx11 (lt_in F26.out) F26.out)
            have F33 := Lib.hid (bel_in hbx11 (lt_in F27.out) F27.out)
            have F34 := Lib.hid (bel_in hbx11 (lt_in F28.out) F28.out)
            have F35 := Lib.hid (bel_in hbx11 (lt_in F29.out) F29.out)
            have F36 := Lib.hid (bel_in hbx11 (lt_in F30.out) F30.out)
            have bel37 : Below w.heap.size w w11x := bw_tr bel31 hbx11
            clear F26 F27 F28 F29 F30 bel31
            clear hbx11 hsx11
            have ee100 := cell_in F36.out (j := 0) (u := .int .i64 (e0)) rfl
            have ee101 := cell_in F36.out (j := 1) (u := .int .i64 (e1)) rfl
            have ee102 := cell_in F36.out (j := 2) (u := .int .i64 (e2)) rfl
            have ee103 := cell_in F36.out (j := 3) (u := .int .i64 (e3)) rfl
            have ee104 := cell_in F36.out (j := 4) (u := .int .i64 (e4)) rfl
            have ee110 := cell_in HE11.out (j := 0) (u := .int .i64 (e0)) rfl
            have ee111 := cell_in HE11.out (j := 1) (u := .int .i64 (e1)) rfl
            have ee112 := cell_in HE11.out (j := 2) (u := .int .i64 (e2)) rfl
            have ee113 := cell_in HE11.out (j := 3) (u := .int .i64 (e3)) rfl
            have ee114 := cell_in HE11.out (j := 4) (u := .int .i64 (e4)) rfl
            have qh := eq_hA g len_g
            have qe := eq_eff e0 e1 e2 e3 e4
            go_wp2_with (first | (refine wpList_load_row rfl 28 _ rfl (w10.heap.size) rfl 28 (hA g) (0, 0) _ F35.out Try.underlying28 rfl (infoA (hA_size g len_g)) ?_) | (refine wpList_load_row rfl 28 _ rfl (w11.heap.size) rfl 28 (hA g) (0, 0) _ HG11.out Try.underlying28 rfl (infoA (hA_size g len_g)) ?_))
            refine ⟨⟨k + 1, by omega, by go_num, F32.out, F33.out, bel37⟩, by simp [intOf]; omega⟩
        · obtain rfl : k = 3 := by omega
          have len_h := FN.out.len
          obtain ⟨g1, hg1⟩ : ∃ g, putH h dd nn = g := ⟨_, rfl⟩
          obtain ⟨p33, hp33⟩ : ∃ p, pickN dd 33 = p := ⟨_, rfl⟩
          obtain ⟨g2, hg2⟩ : ∃ g, putH h p33 nn = g := ⟨_, rfl⟩
          obtain ⟨g3, hg3⟩ : ∃ g, trapH h nn = g := ⟨_, rfl⟩
          obtain ⟨p9, hp9⟩ : ∃ p, pickN nn 9 = p := ⟨_, rfl⟩
          obtain ⟨r1, hr1⟩ : ∃ r, letsB h.st h.le nn = r := ⟨_, rfl⟩
          obtain ⟨r2, hr2⟩ : ∃ r, letsB h.st h.le p9 = r := ⟨_, rfl⟩
          have l1 : g1.r.length = 32 := by rw [← hg1]; exact put_len hlh _ _
          have l2 : g2.r.length = 32 := by rw [← hg2]; exact put_len hlh _ _
          have l3 : g3.r.length = 32 := by rw [← hg3]; exact hlh
          have G1 := Lib.hid hg1; have G2 := Lib.hid hg2; have G3 := Lib.hid hg3; have P33 := Lib.hid hp33; have P9 := Lib.hid hp9; have RR1 := Lib.hid hr1; have RR2 := Lib.hid hr2
          clear hg1 hg2 hg3 hp33 hp9 hr1 hr2 hlt hk
          have q1 := eq_hA g1 l1
          have q2 := eq_hA g2 l2
          have q3 := eq_hA g3 l3
          have q4 : (r1 == r1) = true := by simp
          have q5 : (r2 == r2) = true := by simp
          have NP33 : (0 : Int) < 33 ∧ (33 : Int) ≤ 9223372036854775807 := by omega
          have NP9 : (0 : Int) < 9 ∧ (9 : Int) ≤ 9223372036854775807 := by omega
          have HN33 := Lib.hid NP33; have HN9 := Lib.hid NP9
          clear NP33 NP9
          have rh1 : Hid (∀ w' : World, (∃ x : Wd wr, w' = x.val) → (loadVar 28 ⟨w2.heap.size, 0, none⟩).run Try.prog w' = .ok (.agg (hA h)) w') := by
            rintro w' ⟨x, rfl⟩
            exact run_loadVar_row _ _ 28 28 (hA h) (0, 0) _ (bel_in x.bel (lt_in HHr.out) HHr.out) Try.underlying28 rfl (infoA (hA_size h hlh))
          clear  HHr HSr
          try simp only [List.append_eq, List.cons_append, List.nil_append] at *
          go_wp2_with fail
          refine wp_region_below (by kernel_rfl) (by kernel_rfl) ?_
          try simp only [Act.put, List.setIfInBounds_toArray, List.set_cons_succ, List.set_cons_zero]
          repeat (first | (go_big_quiet_want; (with_reducible refine quiet_load_row (o := ⟨_, .load _ _, _, _, _, _⟩) 28 _ (w2.heap.size) (hA h) rfl ?_ rh1.out ?_); exact rfl; simp only [Act.put, List.setIfInBounds_toArray, List.set_cons_succ, List.set_cons_zero]; go_big_quiet_on) | go_big_quiet_step ((first | (go_at_call 18; first | with_reducible exact quiet_b (put_r h dd nn g1 _ hlh G1.out) | with_reducible exact quiet_b (put_r h p33 nn g2 _ hlh G2.out)) | (go_at_call 19; first | with_reducible exact quiet_b (rput_r h dd nn g1 _ hlh HNN.out G1.out) | with_reducible exact quiet_b (rput_r h p33 nn g2 _ hlh HNN.out G2.out)) | (go_at_call 20; first | with_reducible exact quiet_b (trap_r h nn g3 _ hlh G3.out)) | (go_at_call 21; first | with_reducible exact quiet_b (rtrap_r h nn g3 _ FN.out HNN.out G3.out)) | (go_at_call 22; first | with_reducible exact quiet_b (lets_at h nn r1 _ hlh RR1.out) | with_reducible exact quiet_b (lets_at h p9 r2 _ hlh RR2.out)) | (go_at_call 23; first | with_reducible exact quiet_b (rlets_r h nn r1 _ FN.out RR1.out) | with_reducible exact quiet_b (rlets_r h p9 r2 _ FN.out RR2.out)) | (go_at_call 15; first | with_reducible exact quiet_s (pick14_r dd 33 p33 _ HDD.out HN33.out P33.out) | with_reducible exact quiet_s (pick14_r nn 9 p9 _ HNN.out HN9.out P9.out)))))
          refine wpQuiet_nil ?_
          rintro w99 ⟨⟨w99x, hb99⟩, rfl⟩
          go_wp2_with fail
          go_ret
          exact ⟨rfl, bw_tr BBr.out hb99⟩
end Go.Proofs.Ytiahdhlfecgnpaa
