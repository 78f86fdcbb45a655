/-
  The walk of the law DeviceTimes.
-/
import Derived.Test.YtodcmmdobnjbbaaLaws10
namespace Go.Proofs.Ytodcmmdobnjbbaa
open Go.RowKit
/-- A timer behind i inputs, whose second register is k. -/
def timS (k i : Int) : St := ⟨2, i, k, 1, 0, [], 0, decide (k ≤ i)⟩
theorem inv_tim (k i : Int) (hi : 0 ≤ i ∧ i ≤ 1000) : Inv (timS k i) := ⟨by simp [timS], by simp [timS], by simp [timS], by simp [timS]; omega⟩
theorem w32_in {n : Int} (h : -2147483648 ≤ n ∧ n ≤ 2147483647) : wrap32 n = n := by unfold wrap32; omega
theorem tim_input (k i n : Int) (hi : 0 ≤ i ∧ i ≤ 1000) : doneS (inputS (timS k i) n) = timS k (i + 1) := by
  have e : wrap32 (i + 1) = i + 1 := w32_in (by omega)
  have e2 : (bits BinOp.and .i64 1 1 != 0) = true := by kernel_rfl
  have e3 : (decide (k ≤ i) || (i + 1 == k && true)) = decide (k ≤ i + 1) := by
    by_cases h : k ≤ i
    · have h2 : k ≤ i + 1 := by omega
      simp [h, h2]
    · by_cases h2 : i + 1 = k
      · have h3 : k ≤ i + 1 := by omega
        simp [h2]
      · have h3 : ¬ k ≤ i + 1 := by omega
        simp [h, h2, h3]
  simp only [timS, doneS, inputS, raisesS, en, e, e2, if_true]
  simp
  simpa using e3
theorem tim_first (k : Int) (hk : 1 ≤ k ∧ k ≤ 100) : doneS (writeS (doneS (writeS (newS 2) 1 (wrap32 k))) 2 (wrap32 1)) = timS k 0 := by
  have e : wrap32 k = k := w32_in (by omega)
  have e2 : decide (k ≤ 0) = false := by simp; omega
  have e3 : wrap32 1 = 1 := w32_in (by omega)
  rw [e, e3]; simp [timS, doneS, writeS, newS, raisesS]; omega
theorem tim_read (k i r : Int) : readS (timS k i) r = timS k i := by simp [readS, timS]
theorem tim_done (k i : Int) : doneS (timS k i) = timS k i := by simp [doneS, raisesS, timS]
theorem tim_zero (k i : Int) : readN (timS k i) 0 = i := by simp [readN, timS]
theorem tim_last (k i : Int) (h : k ≤ i) : readN (timS k i) 3 = 1 := by simp [readN, timS, h, flag]
set_option maxHeartbeats 4000000 in
theorem walkDeviceTimes (n more : Int) (v : Value) (l : List Int) (w : World) (hn : I64 n) (hm : I64 more) (hv : ArgS 1 c1 w v l) (hok : ∀ r ∈ l, I64 r) :
    Calls Try.prog 6 #[.int .i64 n, .int .i64 more, v] w fun e w' => e = .returned (.bool true) ∧ Below w.heap.size w w' := by
  have H := Lib.hid hv
  obtain ⟨a, cap, rfl, hlen⟩ := hv.len
  have HOK := Lib.hid hok; clear hv hok
  have p1 := pickN_bd n 40 (by omega)
  have p2 := pickN_bd more 10 (by omega)
  go_enter Try.func6, Try.ntmps6
  go_wp2_with fail
  refine (awake_any _).mono ?_
  rintro e w1 ⟨rfl, hb1⟩
  have s1 := hb1.size
  go_wp2_with (go_at_call 13; ((with_reducible refine (pick_any n _ _ hn (by omega)).mono ?_); rintro e w' ⟨rfl, rfl⟩))
  generalize hk : 1 + pickN n 40 = k at *
  have hk1 : 1 ≤ k ∧ k ≤ 40 := by omega
  have HK := Lib.hid hk; clear hk p1
  refine (new_any 2 _ (by decide)).mono ?_
  rintro e w2 ⟨v2, rfl, hv2, hb2⟩
  have HV2 := Lib.hid hv2; clear hv2
  go_wp2_with fail
  refine (write_any _ _ 1 k _ HV2.out.st (inv_new 2 (by decide)) (by decide)).mono ?_
  rintro e w3 ⟨v3, rfl, hv3, hb3⟩
  have HV3 := Lib.hid hv3; clear hv3
  go_wp2_with fail
  refine (write_any _ _ 2 1 _ HV3.out.st (inv_done (inv_write (inv_new 2 (by decide)) 1 _ (w32_bd _))) (by decide)).mono ?_
  rw [tim_first k (by omega)]
  rintro e w4 ⟨v4, rfl, hv4, hb4⟩
  have s2 := hb2.size
  have s3 := hb3.size
  have s4 := hb4.size
  have HV4 := Lib.hid hv4.st
  obtain ⟨qv, hv, hr, hf⟩ := hv4
  obtain ⟨qa4, qc4, rfl⟩ := hr.shape
  clear hr hf
  subst hv
  have HSV := Lib.hid (sv_new HV4.out)
  unfold stC at HSV ⊢
  go_wp2_with fail
  have hb14 : Below w.heap.size w w4 := bw_tr (bw_tr (bw_tr hb1 hb2) hb3) hb4
  go_loopw [10] (fun i wr => ∃ j : Nat, j ≤ k.toNat ∧ i = .int .i64 j ∧ SV wr w4.heap.size (timS k j) ∧ Below w4.heap.size w4 wr) (fun i _ => k.toNat - (intOf i).toNat)
  case atStart => exact ⟨0, Nat.zero_le _, rfl, HSV.out, (by repeat (first | (with_reducible exact Below.refl _ _) | (with_reducible refine bw_set ?_ ?_ _) | (with_reducible apply bw_alloc) | (with_reducible refine bw_tr ?_ (by with_reducible assumption)) | (with_reducible apply bw_drew) | omega))⟩
  case round =>
    obtain ⟨j, hj, rfl, hsv, hbb⟩ := hrel
    have HSV_hsv := Lib.hid hsv
    obtain ⟨qa_hsv, qc_hsv, hx_hsv, hst_hsv⟩ := hsv.shape
    have HST_hsv := Lib.hid hst_hsv; have HX_hsv := Lib.hid hx_hsv
    have lt_hsv : w4.heap.size < wr.heap.size := lt_in hx_hsv
    obtain ⟨u0_hsv, u1_hsv, u2_hsv, u3_hsv, u4_hsv, u5_hsv, u6_hsv, u7_hsv, t0_hsv, t1_hsv, t2_hsv, t3_hsv, t4_hsv, t5_hsv, t6_hsv, t7_hsv⟩ := cells8o hx_hsv |> cells8
    clear hx_hsv hst_hsv hsv
    have HARG := Lib.hid ((H.out.below hb14).below hbb)
    by_cases hlt : (j : Int) < k
    · have hra : decide (k ≤ (j : Int)) = false := by simp; omega
      have HRA := Lib.hid hra; clear hra
      have HIN := Lib.hid (inv_tim k j (by omega))
      go_wp2_with fail
      refine (raises_any _ (timS k j) _ HST_hsv.out).mono ?_
      rw [show (timS k (j : Int)).ra = false from HRA.out]
      rintro e w5 ⟨rfl, hb5⟩
      have HB5 := Lib.hid hb5
      obtain ⟨c5, f5⟩ := bcell hb5
      have s5 := hb5.size
      have lt5 : w4.heap.size < w5.heap.size := by omega
      have HTI := fun n => tim_input k j n (by omega)
      have HT := Lib.hid HTI; clear HTI
      by_cases hl : j < l.length
      · obtain ⟨b, o, c, ev, hblt, hl64, hc⟩ := HARG.out.one (by intro e; rw [e] at hl; simp at hl)
        injection ev with e1 _ e2
        subst e1 e2
        have hjj : l[j]? = some l[j] := by simp [hl]
        have g1 := hc j l[j] hjj
        clear hc hjj
        generalize l[j] = x at *
        go_wp2_with fail
        refine (input_any _ (timS k j) x _ (HST_hsv.out.below (by repeat (first | (with_reducible exact Below.refl _ _) | (with_reducible refine bw_set ?_ ?_ _) | (with_reducible apply bw_alloc) | (with_reducible refine bw_tr ?_ (by with_reducible assumption)) | (with_reducible apply bw_drew) | omega))) HIN.out).mono ?_
        rw [HT.out]
        rintro e w6 ⟨v6, rfl, hv6, hb6⟩
        have HV6 := Lib.hid hv6; have HB6 := Lib.hid hb6
        obtain ⟨c6, f6⟩ := bcell hb6
        have s6 := hb6.size
        try simp at s6
        obtain ⟨qv, hv, hr, hf⟩ := hv6
        obtain ⟨qa6, qc6, rfl⟩ := hr.shape
        clear hr hf
        subst hv
        unfold stC
        have lt6 : w4.heap.size < w6.heap.size := by omega
        go_wp2_with fail
        refine ⟨⟨j + 1, by omega, by go_num, ?_, ?_⟩, by simp [intOf]; omega⟩
        · exact sv_set (F := w5.heap.size) HSV_hsv.out lt5 (by have hh := HB5.out; have hh6 := HB6.out; exact (by repeat (first | (with_reducible exact Below.refl _ _) | (with_reducible refine bw_set ?_ ?_ _) | (with_reducible apply bw_alloc) | (with_reducible refine bw_tr ?_ (by with_reducible assumption)) | (with_reducible apply bw_drew) | omega))) HV6.out
        · exact (by repeat (first | (with_reducible exact Below.refl _ _) | (with_reducible refine bw_set ?_ ?_ _) | (with_reducible apply bw_alloc) | (with_reducible refine bw_tr ?_ (by with_reducible assumption)) | (with_reducible apply bw_drew) | omega))
      · go_wp2_with fail
        refine (input_any _ (timS k j) 0 _ (HST_hsv.out.below (by repeat (first | (with_reducible exact Below.refl _ _) | (with_reducible refine bw_set ?_ ?_ _) | (with_reducible apply bw_alloc) | (with_reducible refine bw_tr ?_ (by with_reducible assumption)) | (with_reducible apply bw_drew) | omega))) HIN.out).mono ?_
        rw [HT.out]
        rintro e w6 ⟨v6, rfl, hv6, hb6⟩
        have HV6 := Lib.hid hv6; have HB6 := Lib.hid hb6
        obtain ⟨c6, f6⟩ := bcell hb6
        have s6 := hb6.size
        try simp at s6
        obtain ⟨qv, hv, hr, hf⟩ := hv6
        obtain ⟨qa6, qc6, rfl⟩ := hr.shape
        clear hr hf
        subst hv
        unfold stC
        have lt6 : w4.heap.size < w6.heap.size := by omega
        go_wp2_with fail
        refine ⟨⟨j + 1, by omega, by go_num, ?_, ?_⟩, by simp [intOf]; omega⟩
        · exact sv_set (F := w5.heap.size) HSV_hsv.out lt5 (by have hh := HB5.out; have hh6 := HB6.out; exact (by repeat (first | (with_reducible exact Below.refl _ _) | (with_reducible refine bw_set ?_ ?_ _) | (with_reducible apply bw_alloc) | (with_reducible refine bw_tr ?_ (by with_reducible assumption)) | (with_reducible apply bw_drew) | omega))) HV6.out
        · exact (by repeat (first | (with_reducible exact Below.refl _ _) | (with_reducible refine bw_set ?_ ?_ _) | (with_reducible apply bw_alloc) | (with_reducible refine bw_tr ?_ (by with_reducible assumption)) | (with_reducible apply bw_drew) | omega))
    · obtain ⟨wo, rfl⟩ : ∃ wo : World, wo = wr := ⟨_, rfl⟩
      obtain rfl : k = (j : Int) := by omega
      generalize hkj : (j : Int) = k at *
      have hra : decide (k ≤ k) = true := by simp
      have HRA := Lib.hid hra; clear hra
      go_wp2_with fail
      refine (raises_any _ (timS k k) _ HST_hsv.out).mono ?_
      rw [show (timS k k).ra = true from HRA.out]
      rintro e w5 ⟨rfl, hb5⟩
      have HB5 := Lib.hid hb5
      obtain ⟨c5, f5⟩ := bcell hb5
      have s5 := hb5.size
      have lt5 : w4.heap.size < w5.heap.size := by omega
      have HSV5 := Lib.hid (HSV_hsv.out.below hb5)
      go_wp2_with (go_at_call 13; ((with_reducible refine (pick_any more _ _ hm (by omega)).mono ?_); rintro e w' ⟨rfl, rfl⟩))
      generalize hmm : pickN more 10 = m at *
      have HM := Lib.hid hmm; clear hmm
      clear hlt
      go_loopw [13] (fun i wr => ∃ j : Nat, j ≤ m.toNat ∧ i = .int .i64 j ∧ SV wr w4.heap.size (timS k (k + m - j)) ∧ Below w4.heap.size w4 wr) (fun i _ => (intOf i).toNat)
      case atStart => exact ⟨m.toNat, Nat.le_refl _, by rw [Int.toNat_of_nonneg p2.1], by rw [Int.toNat_of_nonneg p2.1]; have := HSV5.out; rwa [show k + m - m = k by omega], (by repeat (first | (with_reducible exact Below.refl _ _) | (with_reducible refine bw_set ?_ ?_ _) | (with_reducible apply bw_alloc) | (with_reducible refine bw_tr ?_ (by with_reducible assumption)) | (with_reducible apply bw_drew) | omega))⟩
      case round =>
        obtain ⟨i, hi, rfl, hsv, hbb2⟩ := hrel
        by_cases hi0 : (i : Int) > 0
        · have HSV_hsv := Lib.hid hsv
          obtain ⟨qa_hsv, qc_hsv, hx_hsv, hst_hsv⟩ := hsv.shape
          have HST_hsv := Lib.hid hst_hsv; have HX_hsv := Lib.hid hx_hsv
          have lt_hsv : w4.heap.size < wr.heap.size := lt_in hx_hsv
          obtain ⟨u0_hsv, u1_hsv, u2_hsv, u3_hsv, u4_hsv, u5_hsv, u6_hsv, u7_hsv, t0_hsv, t1_hsv, t2_hsv, t3_hsv, t4_hsv, t5_hsv, t6_hsv, t7_hsv⟩ := cells8o hx_hsv |> cells8
          clear hx_hsv hst_hsv hsv
          have HT := Lib.hid (tim_input k (k + m - i) (wrap32 0) (by omega))
          have HIN := Lib.hid (inv_tim k (k + m - i) (by omega))
          go_wp2_with fail
          refine (input_any _ (timS k (k + m - i)) 0 _ HST_hsv.out HIN.out).mono ?_
          rw [HT.out]
          rintro e w6 ⟨v6, rfl, hv6, hb6⟩
          have HV6 := Lib.hid hv6; have HB6 := Lib.hid hb6
          obtain ⟨c6, f6⟩ := bcell hb6
          have s6 := hb6.size
          try simp at s6
          obtain ⟨qv, hv, hr, hf⟩ := hv6
          obtain ⟨qa6, qc6, rfl⟩ := hr.shape
          clear hr hf
          subst hv
          unfold stC
          have lt6 : w4.heap.size < w6.heap.size := by omega
          go_wp2_with fail
          refine ⟨⟨i - 1, by omega, by rw [Int.ofNat_sub (by omega)]; rfl, ?_, ?_⟩, by simp [intOf]; omega⟩
          · have e : k + m - ((i - 1 : Nat) : Int) = k + m - i + 1 := by omega
            rw [e]
            exact sv_set (F := wr.heap.size) HSV_hsv.out lt_hsv HB6.out HV6.out
          · exact (by repeat (first | (with_reducible exact Below.refl _ _) | (with_reducible refine bw_set ?_ ?_ _) | (with_reducible apply bw_alloc) | (with_reducible refine bw_tr ?_ (by with_reducible assumption)) | (with_reducible apply bw_drew) | omega))
        · obtain rfl : i = 0 := by omega
          rw [show k + m - ((0 : Nat) : Int) = k + m by omega] at hsv
          have HSV_hsv := Lib.hid hsv
          obtain ⟨qa_hsv, qc_hsv, hx_hsv, hst_hsv⟩ := hsv.shape
          have HST_hsv := Lib.hid hst_hsv; have HX_hsv := Lib.hid hx_hsv
          have lt_hsv : w4.heap.size < wr.heap.size := lt_in hx_hsv
          obtain ⟨u0_hsv, u1_hsv, u2_hsv, u3_hsv, u4_hsv, u5_hsv, u6_hsv, u7_hsv, t0_hsv, t1_hsv, t2_hsv, t3_hsv, t4_hsv, t5_hsv, t6_hsv, t7_hsv⟩ := cells8o hx_hsv |> cells8
          clear hx_hsv hst_hsv hsv
          have HIN := Lib.hid (inv_tim k (k + m) (by omega))
          have HR3 := Lib.hid (tim_last k (k + m) (by omega))
          have HRR := fun r => tim_read k (k + m) r
          have HRD := Lib.hid HRR; clear HRR
          have HR0 := Lib.hid (tim_zero k (k + m))
          have HDD := Lib.hid (tim_done k (k + m))
          have HU1 := Lib.hid (show (doneS (writeS (timS k (k + m)) 3 (wrap32 0))).ra = false by simp [doneS, writeS, timS, raisesS])
          have HU2 := Lib.hid (show readN (doneS (writeS (timS k (k + m)) 3 (wrap32 0))) 3 = 0 by simp [doneS, writeS, timS, raisesS, readN, flag])
          have HU3 := Lib.hid (inv_done (inv_write HIN.out 3 (wrap32 0) (w32_bd _)))
          have HTT := Lib.hid (show (timS k (k + m)).ra = true by simp [timS]; omega)
          generalize timS k (k + m) = z at *
          generalize hu : doneS (writeS z 3 (wrap32 0)) = u at *
          have HUU := Lib.hid hu; clear hu
          clear hkj
          go_wp2_with fail
          refine (read_any _ z 3 _ HST_hsv.out HIN.out (by decide)).mono ?_
          rw [HR3.out, HRD.out, HDD.out]
          rintro e w6 ⟨v6, rfl, hv6, hb6⟩
          have HV6 := Lib.hid hv6; have HB6 := Lib.hid hb6
          obtain ⟨c6, f6⟩ := bcell hb6
          have s6 := hb6.size
          try simp at s6
          obtain ⟨qv, hv, hr, hf⟩ := hv6
          obtain ⟨qa6, qc6, rfl⟩ := hr.shape
          clear hr hf
          subst hv
          unfold stC
          have lt6 : w4.heap.size < w6.heap.size := by omega
          go_wp2_with fail
          have hsv_W6 := sv_setS (F := wr.heap.size) HSV_hsv.out lt_hsv HB6.out HV6.out
          obtain ⟨hx_W6, hst_W6⟩ := svq_setS (F := wr.heap.size) HSV_hsv.out lt_hsv HB6.out HV6.out
          have hb_W6 : Below w4.heap.size w4 (setS w6 w4.heap.size z (.slice qa6 (z).q.length qc6)) := bw_setS (by repeat (first | (with_reducible exact Below.refl _ _) | (with_reducible refine bw_set ?_ ?_ _) | (with_reducible apply bw_alloc) | (with_reducible refine bw_tr ?_ (by with_reducible assumption)) | (with_reducible apply bw_drew) | omega)) (by omega) _ _
          change Calls _ _ _ (setS w6 w4.heap.size z (.slice qa6 (z).q.length qc6)) _
          generalize setS w6 w4.heap.size z (.slice qa6 (z).q.length qc6) = W6 at *
          have HSV_W6 := Lib.hid hsv_W6
          have HST_W6 := Lib.hid hst_W6; have HX_W6 := Lib.hid hx_W6
          have lt_W6 : w4.heap.size < W6.heap.size := lt_in hx_W6
          obtain ⟨u0_W6, u1_W6, u2_W6, u3_W6, u4_W6, u5_W6, u6_W6, u7_W6, t0_W6, t1_W6, t2_W6, t3_W6, t4_W6, t5_W6, t6_W6, t7_W6⟩ := cells8o hx_W6 |> cells8
          clear hx_W6 hst_W6 hsv_W6
          refine (read_any _ z 0 _ HST_W6.out HIN.out (by decide)).mono ?_
          rw [HR0.out, HRD.out, HDD.out]
          rintro e w7 ⟨v7, rfl, hv7, hb7⟩
          have HV7 := Lib.hid hv7; have HB7 := Lib.hid hb7
          obtain ⟨c7, f7⟩ := bcell hb7
          have s7 := hb7.size
          try simp at s7
          obtain ⟨qv, hv, hr, hf⟩ := hv7
          obtain ⟨qa7, qc7, rfl⟩ := hr.shape
          clear hr hf
          subst hv
          unfold stC
          have lt7 : w4.heap.size < w7.heap.size := by omega
          go_wp2_with fail
          have hsv_W7 := sv_setS (F := W6.heap.size) HSV_W6.out lt_W6 HB7.out HV7.out
          obtain ⟨hx_W7, hst_W7⟩ := svq_setS (F := W6.heap.size) HSV_W6.out lt_W6 HB7.out HV7.out
          have hb_W7 : Below w4.heap.size w4 (setS w7 w4.heap.size z (.slice qa7 (z).q.length qc7)) := bw_setS (by repeat (first | (with_reducible exact Below.refl _ _) | (with_reducible refine bw_set ?_ ?_ _) | (with_reducible apply bw_alloc) | (with_reducible refine bw_tr ?_ (by with_reducible assumption)) | (with_reducible apply bw_drew) | omega)) (by omega) _ _
          change Calls _ _ _ (setS w7 w4.heap.size z (.slice qa7 (z).q.length qc7)) _
          generalize setS w7 w4.heap.size z (.slice qa7 (z).q.length qc7) = W7 at *
          have HSV_W7 := Lib.hid hsv_W7
          have HST_W7 := Lib.hid hst_W7; have HX_W7 := Lib.hid hx_W7
          have lt_W7 : w4.heap.size < W7.heap.size := lt_in hx_W7
          obtain ⟨u0_W7, u1_W7, u2_W7, u3_W7, u4_W7, u5_W7, u6_W7, u7_W7, t0_W7, t1_W7, t2_W7, t3_W7, t4_W7, t5_W7, t6_W7, t7_W7⟩ := cells8o hx_W7 |> cells8
          clear hx_W7 hst_W7 hsv_W7
          refine (write_any _ z 3 0 _ HST_W7.out HIN.out (by decide)).mono ?_
          rw [HUU.out]
          rintro e w8 ⟨v8, rfl, hv8, hb8⟩
          have HV8 := Lib.hid hv8; have HB8 := Lib.hid hb8
          obtain ⟨c8, f8⟩ := bcell hb8
          have s8 := hb8.size
          try simp at s8
          obtain ⟨qv, hv, hr, hf⟩ := hv8
          obtain ⟨qa8, qc8, rfl⟩ := hr.shape
          clear hr hf
          subst hv
          unfold stC
          have lt8 : w4.heap.size < w8.heap.size := by omega
          go_wp2_with fail
          refine (read_any _ u 3 _ (HV8.out.st.below (by repeat (first | (with_reducible exact Below.refl _ _) | (with_reducible refine bw_set ?_ ?_ _) | (with_reducible apply bw_alloc) | (with_reducible refine bw_tr ?_ (by with_reducible assumption)) | (with_reducible apply bw_drew) | omega))) HU3.out (by decide)).mono ?_
          rw [HU2.out]
          rintro e w9 ⟨v9, rfl, hv9, hb9⟩
          obtain ⟨c9, f9⟩ := bcell hb9
          have s9 := hb9.size
          simp at s9
          obtain ⟨qv, hv, hr, hf⟩ := hv9
          obtain ⟨qa9, qc9, rfl⟩ := hr.shape
          clear hr hf
          subst hv
          unfold stC
          have lt9 : w4.heap.size < w9.heap.size := by omega
          have lt89 : w8.heap.size < w9.heap.size := by omega
          have HVT := Lib.hid (HV8.out.st.below (show Below w8.heap.size w8 w9 from (by repeat (first | (with_reducible exact Below.refl _ _) | (with_reducible refine bw_set ?_ ?_ _) | (with_reducible apply bw_alloc) | (with_reducible refine bw_tr ?_ (by with_reducible assumption)) | (with_reducible apply bw_drew) | omega))))
          have HVS := Lib.hid (HST_W7.out.below (show Below W7.heap.size W7 w9 from (by repeat (first | (with_reducible exact Below.refl _ _) | (with_reducible refine bw_set ?_ ?_ _) | (with_reducible apply bw_alloc) | (with_reducible refine bw_tr ?_ (by with_reducible assumption)) | (with_reducible apply bw_drew) | omega))))
          unfold stC at HVT HVS
          go_wp2_with (first | (go_at_call 13; ((with_reducible refine (pick_lit more _ _ _ HM.out hm (by omega)).mono ?_); rintro e w' ⟨rfl, rfl⟩)) | (go_at_call 20; ((with_reducible refine (raises_lit _ z true _ _ HTT.out HVS.out (by repeat (first | (with_reducible exact Below.refl _ _) | (with_reducible refine bw_set ?_ ?_ _) | (with_reducible apply bw_alloc) | (with_reducible refine bw_tr ?_ (by with_reducible assumption)) | (with_reducible apply bw_drew) | omega))).mono ?_); rintro e w10 ⟨rfl, hb10⟩; obtain ⟨c10, f10⟩ := bcell hb10; have s10 := hb10.size; simp at s10; have lt810 : w8.heap.size < w10.heap.size := by omega)) | (go_at_call 20; ((with_reducible refine (raises_lit _ u false _ _ HU1.out HVT.out (by repeat (first | (with_reducible exact Below.refl _ _) | (with_reducible refine bw_set ?_ ?_ _) | (with_reducible apply bw_alloc) | (with_reducible refine bw_tr ?_ (by with_reducible assumption)) | (with_reducible apply bw_drew) | omega))).mono ?_); rintro e w11 ⟨rfl, hb11⟩)))
          go_ret
          exact ⟨ret1 (rbool (by simp)), (by repeat (first | (with_reducible exact Below.refl _ _) | (with_reducible refine bw_set ?_ ?_ _) | (with_reducible apply bw_alloc) | (with_reducible refine bw_tr ?_ (by with_reducible assumption)) | (with_reducible apply bw_drew) | omega))⟩
end Go.Proofs.Ytodcmmdobnjbbaa
