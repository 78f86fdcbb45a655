/-
  The walk of the law DeviceChanges.
-/
import Derived.Test.YtodcmmdobnjbbaaLaws10
namespace Go.Proofs.Ytodcmmdobnjbbaa
open Go.RowKit
abbrev I32 (x : Int) : Prop := -2147483648 ≤ x ∧ x ≤ 2147483647
theorem ext64 {x : Int} (h : I32 x) : BitVec.ofInt 64 x = (BitVec.ofInt 32 x).signExtend 64 := by
  apply BitVec.eq_of_toInt_eq
  rw [BitVec.toInt_signExtend_of_le (by decide), BitVec.toInt_ofInt, BitVec.toInt_ofInt]
  simp only [Int.bmod]; simp only [Nat.reducePow]; omega
theorem toInt32_bd (x : BitVec 32) : I32 x.toInt := by
  have := x.toInt_lt; have := x.le_toInt
  simp only [Nat.add_one_sub_one] at *
  constructor <;> omega
theorem and_i32 {x y : Int} (hx : I32 x) (hy : I32 y) : I32 (bits .and .i64 x y) := by
  rw [and64_bv, ext64 hx, ext64 hy, ← BitVec.signExtend_and, BitVec.toInt_signExtend_of_le (by decide)]; exact toInt32_bd _
theorem or_i32 {x y : Int} (hx : I32 x) (hy : I32 y) : I32 (bits .or .i64 x y) := by
  rw [or64_bv, ext64 hx, ext64 hy, ← BitVec.signExtend_or, BitVec.toInt_signExtend_of_le (by decide)]; exact toInt32_bd _
theorem xor_i32 {x y : Int} (hx : I32 x) (hy : I32 y) : I32 (bits .xor .i64 x y) := by
  rw [xor64_bv, ext64 hx, ext64 hy, ← BitVec.signExtend_xor, BitVec.toInt_signExtend_of_le (by decide)]; exact toInt32_bd _
theorem xor_comm64 (x y : Int) : bits .xor .i64 x y = bits .xor .i64 y x := by rw [xor64_bv, xor64_bv, BitVec.xor_comm]
theorem andNot_self (x : Int) : bits .andNot .i64 x x = 0 := by
  have e : bits .andNot .i64 x x = (BitVec.ofInt 64 x &&& ~~~ (BitVec.ofInt 64 x)).toInt := wrap_i64_nat _
  rw [e]
  have : BitVec.ofInt 64 x &&& ~~~ (BitVec.ofInt 64 x) = 0#64 := by ext i hi; simp
  rw [this]; rfl
/-- A gpio: what it has at its pins, its mask, what has changed. -/
def gpS (M : Int) (p : Int × Int) : St := ⟨3, 0, p.1, M, p.2, [], 0, p.2 != 0⟩
def gpN (M : Int) (p : Int × Int) (x : Int) : Int × Int := (wrap32 x, bits .or .i64 p.2 (bits .and .i64 (bits .xor .i64 p.1 (wrap32 x)) M))
def gpK (M : Int) (l : List Int) (k : Nat) : Int × Int := (l.take k).foldl (gpN M) (0, 0)
theorem gpK_snoc (M : Int) (l : List Int) (k : Nat) (h : k < l.length) : gpK M l (k + 1) = gpN M (gpK M l k) l[k] := by
  unfold gpK; rw [List.take_succ_eq_append_getElem h, List.foldl_append]; rfl
theorem gp_i32 (M : Int) (hM : I32 M) (l : List Int) : ∀ p : Int × Int, I32 p.1 → I32 p.2 → I32 (l.foldl (gpN M) p).1 ∧ I32 (l.foldl (gpN M) p).2 := by
  induction l with
  | nil => intro p h1 h2; exact ⟨h1, h2⟩
  | cons x l ih =>
    intro p h1 h2
    exact ih (gpN M p x) (w32_bd _) (or_i32 h2 (and_i32 (xor_i32 h1 (w32_bd _)) hM))
theorem gpK_i32 (m : Int) (l : List Int) (k : Nat) : I32 (gpK (wrap32 m) l k).1 ∧ I32 (gpK (wrap32 m) l k).2 := gp_i32 _ (w32_bd _) _ _ ⟨by simp, by simp⟩ ⟨by simp, by simp⟩
theorem gp_inv (M : Int) (p : Int × Int) : Inv (gpS M p) := ⟨by simp [gpS], by simp [gpS], by simp [gpS], by simp [gpS]⟩
theorem gp_first (m : Int) : doneS (writeS (newS 3) 2 (wrap32 m)) = gpS (wrap32 m) (0, 0) := by simp [doneS, writeS, newS, raisesS, gpS]
theorem gp_input (M : Int) (p : Int × Int) (x : Int) : doneS (inputS (gpS M p) (wrap32 x)) = gpS M (gpN M p x) := by
  simp [doneS, inputS, gpS, raisesS, gpN, xor_comm64 (wrap32 x)]
theorem gp_read (M : Int) (p : Int × Int) (r : Int) : doneS (readS (gpS M p) r) = gpS M p := by simp [doneS, readS, gpS, raisesS]
theorem gp_let (M : Int) (p : Int × Int) (h : I32 p.2) : doneS (writeS (gpS M p) 3 (wrap32 p.2)) = gpS M (p.1, 0) := by
  rw [w32_id h]; simp [doneS, writeS, gpS, raisesS, andNot_self]
set_option maxHeartbeats 4000000 in
theorem walkDeviceChanges (v : Value) (l : List Int) (mask : Int) (w : World) (hv : ArgS 1 c1 w v l) (hok : ∀ r ∈ l, I64 r) (_ : I64 mask) :
    Calls Try.prog 7 #[v, .int .i64 mask] w fun e w' => e = .returned (.bool true) ∧ Below w.heap.size w w' := by
  have H := Lib.hid hv
  obtain ⟨a, cap, rfl, hlen⟩ := hv.len
  have HOK := Lib.hid hok; clear hv hok
  go_enter Try.func7, Try.ntmps7
  go_wp2_with fail
  refine (awake_any _).mono ?_
  rintro e w1 ⟨rfl, hb1⟩
  have s1 := hb1.size
  go_wp2_with fail
  refine (new_any 3 _ (by decide)).mono ?_
  rintro e w2 ⟨v2, rfl, hv2, hb2⟩
  have HV2 := Lib.hid hv2; clear hv2
  go_wp2_with fail
  refine (write_any _ _ 2 mask _ HV2.out.st (inv_new 3 (by decide)) (by decide)).mono ?_
  rw [gp_first mask]
  rintro e w4 ⟨v4, rfl, hv4, hb4⟩
  have s2 := hb2.size
  have s4 := hb4.size
  have HV4 := Lib.hid hv4.st
  obtain ⟨qv, hv, hr, hf⟩ := hv4
  obtain ⟨qa4, qc4, rfl⟩ := hr.shape
  clear hr hf
  subst hv
  have HSV := Lib.hid (sv_new HV4.out)
  unfold stC at HSV ⊢
  have hb14 : Below w.heap.size w w4 := bw_tr (bw_tr hb1 hb2) hb4
  go_wp2_with fail

  go_loopw [7, 8, 9] (fun at' ch i wr => ∃ j : Nat, j ≤ l.length ∧ j ≤ 20 ∧ i = .int .i64 j ∧ at' = .int .i64 (gpK (wrap32 mask) l j).1 ∧ ch = .int .i64 (gpK (wrap32 mask) l j).2 ∧ SV wr w4.heap.size (gpS (wrap32 mask) (gpK (wrap32 mask) l j)) ∧ Below w4.heap.size w4 wr) (fun _ _ i _ => l.length - (intOf i).toNat)
  case atStart => exact ⟨0, Nat.zero_le _, Nat.zero_le _, rfl, rfl, rfl, HSV.out, (by repeat (first | (with_reducible exact Below.refl _ _) | (with_reducible refine bw_set ?_ ?_ _) | (with_reducible apply bw_alloc) | (with_reducible refine bw_tr ?_ (by with_reducible assumption)) | (with_reducible apply bw_drew) | omega))⟩
  case round =>
    obtain ⟨j, hj, hj20, rfl, rfl, rfl, hsv, hbb⟩ := hrel
    have HSV_hsv := Lib.hid hsv
    obtain ⟨qa_hsv, qc_hsv, hx_hsv, hst_hsv⟩ := hsv.shape
    have HST_hsv := Lib.hid hst_hsv; have HX_hsv := Lib.hid hx_hsv
    have lt_hsv : w4.heap.size < wr.heap.size := lt_in hx_hsv
    obtain ⟨u0_hsv, u1_hsv, u2_hsv, u3_hsv, u4_hsv, u5_hsv, u6_hsv, u7_hsv, t0_hsv, t1_hsv, t2_hsv, t3_hsv, t4_hsv, t5_hsv, t6_hsv, t7_hsv⟩ := cells8o hx_hsv |> cells8
    clear hx_hsv hst_hsv hsv
    have HARG := Lib.hid ((H.out.below hb14).below hbb)
    by_cases hlt : j < l.length
    · by_cases h20 : j < 20
      · obtain ⟨b, o, c, ev, hblt, hl64, hc⟩ := HARG.out.one (by intro e; rw [e] at hlt; simp at hlt)
        injection ev with e1 _ e2
        subst e1 e2
        have hjj : l[j]? = some l[j] := by simp [hlt]
        have g1 := hc j l[j] hjj
        clear hc hjj
        have HSN := Lib.hid (gpK_snoc (wrap32 mask) l j hlt)
        have HXB := Lib.hid (HOK.out l[j] (List.getElem_mem hlt))
        generalize l[j] = x at *
        have HIN := Lib.hid (gp_inv (wrap32 mask) (gpK (wrap32 mask) l j))
        generalize gpK (wrap32 mask) l j = p at *
        have q1 := w64_w32 x
        have q2 := w64_w32 mask
        have lt0 := lt_hsv
        have HZI := Lib.hid (gp_input (wrap32 mask) p x)
        have HZ3 := Lib.hid (show readN (gpS (wrap32 mask) (gpN (wrap32 mask) p x)) 3 = bits .or .i64 p.2 (bits .and .i64 (bits .xor .i64 p.1 (wrap32 x)) (wrap32 mask)) by simp [readN, gpS, gpN])
        have HZ1 := Lib.hid (show readN (gpS (wrap32 mask) (gpN (wrap32 mask) p x)) 1 = wrap32 x by simp [readN, gpS, gpN])
        have HZR := fun r => gp_read (wrap32 mask) (gpN (wrap32 mask) p x) r
        have HRD := Lib.hid HZR; clear HZR
        have HZV := Lib.hid (gp_inv (wrap32 mask) (gpN (wrap32 mask) p x))
        have hn1 : (gpN (wrap32 mask) p x).1 = wrap32 x := rfl
        have hn2 : (gpN (wrap32 mask) p x).2 = bits .or .i64 p.2 (bits .and .i64 (bits .xor .i64 p.1 (wrap32 x)) (wrap32 mask)) := rfl
        have HN1 := Lib.hid hn1; have HN2 := Lib.hid hn2; clear hn1 hn2
        have HZB := Lib.hid (show (gpS (wrap32 mask) (gpN (wrap32 mask) p x)).ra = ((bits .or .i64 p.2 (bits .and .i64 (bits .xor .i64 p.1 (wrap32 x)) (wrap32 mask))) != 0) from rfl)
        generalize hz : gpS (wrap32 mask) (gpN (wrap32 mask) p x) = z at *
        have HZ := Lib.hid hz; clear hz
        generalize hch : bits .or .i64 p.2 (bits .and .i64 (bits .xor .i64 p.1 (wrap32 x)) (wrap32 mask)) = ch at *
        go_wp2_with fail
        have HCH := Lib.hid hch; clear hch
        go_region_with (go_at_call 19; refine (input_any _ (gpS (wrap32 mask) p) x _ (HST_hsv.out.below (Below.refl _ _).drew) HIN.out).mono ?_; rw [HZI.out]; rintro e w6 ⟨v6, rfl, hv6, hb6⟩; have HV6 := Lib.hid hv6; have HB6 := Lib.hid (show Below wr.heap.size wr w6 from Below.of_drew hb6); have lt6 := Nat.lt_of_lt_of_le lt_hsv hb6.size; obtain ⟨x0, x1, x2, x3, x4, x5, x6, x7, y0, y1, y2, y3, y4, y5, y6, y7⟩ := cells8 (cells8o (bel_in hb6 lt_hsv HX_hsv.out)); clear hb6; obtain ⟨qv, hv, hr, hf⟩ := hv6; obtain ⟨qa6, qc6, rfl⟩ := hr.shape; clear hr hf; subst hv; unfold stC)
        all_goals
          go_wp2_with fail
          have hb6 := HB6.out
          have hsv_W6 := sv_setS (F := wr.heap.size) HSV_hsv.out lt_hsv HB6.out HV6.out
          obtain ⟨hx_W6, hst_W6⟩ := svq_setS (F := wr.heap.size) HSV_hsv.out lt_hsv HB6.out HV6.out
          have hb_W6 : Below w4.heap.size w4 (setS w6 w4.heap.size z (.slice qa6 (z).q.length qc6)) := bw_setS (by repeat (first | (with_reducible exact Below.refl _ _) | (with_reducible refine bw_set ?_ ?_ _) | (with_reducible apply bw_alloc) | (with_reducible refine bw_tr ?_ (by with_reducible assumption)) | (with_reducible apply bw_drew) | omega)) (by omega) _ _
          change Calls _ _ _ (setS w6 w4.heap.size z (.slice qa6 (z).q.length qc6)) _
          generalize setS w6 w4.heap.size z (.slice qa6 (z).q.length qc6) = W6 at *
          have HSV_W6 := Lib.hid hsv_W6
          have HST_W6 := Lib.hid hst_W6; have HX_W6 := Lib.hid hx_W6
          have lt_W6 : w4.heap.size < W6.heap.size := lt_in hx_W6
          obtain ⟨u0_W6, u1_W6, u2_W6, u3_W6, u4_W6, u5_W6, u6_W6, u7_W6, t0_W6, t1_W6, t2_W6, t3_W6, t4_W6, t5_W6, t6_W6, t7_W6⟩ := cells8o hx_W6 |> cells8
          clear hx_W6 hst_W6 hsv_W6
          have HSU_W6 := HST_W6
          unfold stC at HSU_W6
          refine (read_any _ z 3 _ HST_W6.out HZV.out (by decide)).mono ?_
          rw [HZ3.out, HRD.out]
          rintro e w7 ⟨v7, rfl, hv7, hb7⟩
          have HV7 := Lib.hid hv7; have HB7 := Lib.hid hb7
          obtain ⟨c7, f7⟩ := bcell hb7
          have s7 := hb7.size
          have lt7 : w4.heap.size < w7.heap.size := by omega
          obtain ⟨qv, hv, hr, hf⟩ := hv7
          obtain ⟨qa7, qc7, rfl⟩ := hr.shape
          clear hr hf
          subst hv
          unfold stC
          go_wp2_with fail
          refine (read_any _ z 1 _ (HST_W6.out.below (by repeat (first | (with_reducible exact Below.refl _ _) | (with_reducible refine bw_set ?_ ?_ _) | (with_reducible apply bw_alloc) | (with_reducible refine bw_tr ?_ (by with_reducible assumption)) | (with_reducible apply bw_drew) | omega))) HZV.out (by decide)).mono ?_
          rw [HZ1.out, HRD.out]
          rintro e w8 ⟨v8, rfl, hv8, hb8⟩
          have HV8 := Lib.hid hv8; have HB8 := Lib.hid hb8
          obtain ⟨c8, f8⟩ := bcell hb8
          have s8 := hb8.size
          simp at s8
          have lt8 : w4.heap.size < w8.heap.size := by omega
          obtain ⟨qv, hv, hr, hf⟩ := hv8
          obtain ⟨qa8, qc8, rfl⟩ := hr.shape
          clear hr hf
          subst hv
          unfold stC
          go_wp2_with (go_at_call 20; ((with_reducible refine (raises_lit _ z _ _ _ HZB.out HSU_W6.out (by repeat (first | (with_reducible exact Below.refl _ _) | (with_reducible refine bw_set ?_ ?_ _) | (with_reducible apply bw_alloc) | (with_reducible refine bw_tr ?_ (by with_reducible assumption)) | (with_reducible apply bw_drew) | omega))).mono ?_); rintro e w9 ⟨rfl, hb9⟩; obtain ⟨c9, f9⟩ := bcell hb9; have s9 := hb9.size; simp at s9; have lt9 : w4.heap.size < w9.heap.size := by omega))
          refine ⟨⟨j + 1, by omega, by omega, by go_num, by rw [HSN.out, HN1.out], by rw [HSN.out, HN2.out], ?_, ?_⟩, by simp [intOf]; omega⟩
          · rw [HSN.out, HZ.out]
            exact HSV_W6.out.below (by repeat (first | (with_reducible exact Below.refl _ _) | (with_reducible refine bw_set ?_ ?_ _) | (with_reducible apply bw_alloc) | (with_reducible refine bw_tr ?_ (by with_reducible assumption)) | (with_reducible apply bw_drew) | omega))
          · exact (by repeat (first | (with_reducible exact Below.refl _ _) | (with_reducible refine bw_set ?_ ?_ _) | (with_reducible apply bw_alloc) | (with_reducible refine bw_tr ?_ (by with_reducible assumption)) | (with_reducible apply bw_drew) | omega))
      · have HPB := Lib.hid (gpK_i32 mask l j)
        have HIN := Lib.hid (gp_inv (wrap32 mask) (gpK (wrap32 mask) l j))
        generalize gpK (wrap32 mask) l j = p at *
        have HLT := Lib.hid (gp_let (wrap32 mask) p HPB.out.2)
        have HUR := fun r => gp_read (wrap32 mask) (p.1, 0) r
        have HRD := Lib.hid HUR; clear HUR
        have HU3 := Lib.hid (show readN (gpS (wrap32 mask) (p.1, 0)) 3 = 0 by simp [readN, gpS])
        have HUI := Lib.hid (gp_inv (wrap32 mask) (p.1, 0))
        have HUB := Lib.hid (show (gpS (wrap32 mask) (p.1, 0)).ra = false from rfl)
        generalize gpS (wrap32 mask) (p.1, 0) = u at *
        go_wp2_with fail
        refine (write_any _ (gpS (wrap32 mask) p) 3 p.2 _ HST_hsv.out HIN.out (by decide)).mono ?_
        rw [HLT.out]
        rintro e w6 ⟨v6, rfl, hv6, hb6⟩
        have HV6 := Lib.hid hv6.st
        obtain ⟨c6, f6⟩ := bcell hb6
        have s6 := hb6.size
        have lt6 : w4.heap.size < w6.heap.size := by omega
        obtain ⟨qv, hv, hr, hf⟩ := hv6
        obtain ⟨qa6, qc6, rfl⟩ := hr.shape
        clear hr hf
        subst hv
        unfold stC at HV6 ⊢
        go_wp2_with fail
        refine (read_any _ u 3 _ (HV6.out.below (by repeat (first | (with_reducible exact Below.refl _ _) | (with_reducible refine bw_set ?_ ?_ _) | (with_reducible apply bw_alloc) | (with_reducible refine bw_tr ?_ (by with_reducible assumption)) | (with_reducible apply bw_drew) | omega))) HUI.out (by decide)).mono ?_
        rw [HU3.out]
        rintro e w7 ⟨v7, rfl, hv7, hb7⟩
        obtain ⟨c7, f7⟩ := bcell hb7
        have s7 := hb7.size
        simp at s7
        have lt7 : w6.heap.size < w7.heap.size := by omega
        obtain ⟨qv, hv, hr, hf⟩ := hv7
        obtain ⟨qa7, qc7, rfl⟩ := hr.shape
        clear hr hf
        subst hv
        unfold stC
        go_wp2_with (go_at_call 20; ((with_reducible refine (raises_lit _ u false _ _ HUB.out HV6.out (by repeat (first | (with_reducible exact Below.refl _ _) | (with_reducible refine bw_set ?_ ?_ _) | (with_reducible apply bw_alloc) | (with_reducible refine bw_tr ?_ (by with_reducible assumption)) | (with_reducible apply bw_drew) | omega))).mono ?_); rintro e w9 ⟨rfl, hb9⟩))
        go_ret
        exact ⟨ret1 (rbool (by simp)), (by repeat (first | (with_reducible exact Below.refl _ _) | (with_reducible refine bw_set ?_ ?_ _) | (with_reducible apply bw_alloc) | (with_reducible refine bw_tr ?_ (by with_reducible assumption)) | (with_reducible apply bw_drew) | omega))⟩
    · have HPB := Lib.hid (gpK_i32 mask l j)
      have HIN := Lib.hid (gp_inv (wrap32 mask) (gpK (wrap32 mask) l j))
      generalize gpK (wrap32 mask) l j = p at *
      have HLT := Lib.hid (gp_let (wrap32 mask) p HPB.out.2)
      have HUR := fun r => gp_read (wrap32 mask) (p.1, 0) r
      have HRD := Lib.hid HUR; clear HUR
      have HU3 := Lib.hid (show readN (gpS (wrap32 mask) (p.1, 0)) 3 = 0 by simp [readN, gpS])
      have HUI := Lib.hid (gp_inv (wrap32 mask) (p.1, 0))
      have HUB := Lib.hid (show (gpS (wrap32 mask) (p.1, 0)).ra = false from rfl)
      generalize gpS (wrap32 mask) (p.1, 0) = u at *
      go_wp2_with fail
      refine (write_any _ (gpS (wrap32 mask) p) 3 p.2 _ HST_hsv.out HIN.out (by decide)).mono ?_
      rw [HLT.out]
      rintro e w6 ⟨v6, rfl, hv6, hb6⟩
      have HV6 := Lib.hid hv6.st
      obtain ⟨c6, f6⟩ := bcell hb6
      have s6 := hb6.size
      have lt6 : w4.heap.size < w6.heap.size := by omega
      obtain ⟨qv, hv, hr, hf⟩ := hv6
      obtain ⟨qa6, qc6, rfl⟩ := hr.shape
      clear hr hf
      subst hv
      unfold stC at HV6 ⊢
      go_wp2_with fail
      refine (read_any _ u 3 _ (HV6.out.below (by repeat (first | (with_reducible exact Below.refl _ _) | (with_reducible refine bw_set ?_ ?_ _) | (with_reducible apply bw_alloc) | (with_reducible refine bw_tr ?_ (by with_reducible assumption)) | (with_reducible apply bw_drew) | omega))) HUI.out (by decide)).mono ?_
      rw [HU3.out]
      rintro e w7 ⟨v7, rfl, hv7, hb7⟩
      obtain ⟨c7, f7⟩ := bcell hb7
      have s7 := hb7.size
      simp at s7
      have lt7 : w6.heap.size < w7.heap.size := by omega
      obtain ⟨qv, hv, hr, hf⟩ := hv7
      obtain ⟨qa7, qc7, rfl⟩ := hr.shape
      clear hr hf
      subst hv
      unfold stC
      go_wp2_with (go_at_call 20; ((with_reducible refine (raises_lit _ u false _ _ HUB.out HV6.out (by repeat (first | (with_reducible exact Below.refl _ _) | (with_reducible refine bw_set ?_ ?_ _) | (with_reducible apply bw_alloc) | (with_reducible refine bw_tr ?_ (by with_reducible assumption)) | (with_reducible apply bw_drew) | omega))).mono ?_); rintro e w9 ⟨rfl, hb9⟩))
      go_ret
      exact ⟨ret1 (rbool (by simp)), (by repeat (first | (with_reducible exact Below.refl _ _) | (with_reducible refine bw_set ?_ ?_ _) | (with_reducible apply bw_alloc) | (with_reducible refine bw_tr ?_ (by with_reducible assumption)) | (with_reducible apply bw_drew) | omega))⟩
end Go.Proofs.Ytodcmmdobnjbbaa
