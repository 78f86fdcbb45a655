/-
  The walk of the law DeviceCounts.
-/
import Derived.Test.YtodcmmdobnjbbaaLaws10
import Derived.Deep.QuietTactic
import Derived.BigQuiet
namespace Go.Proofs.Ytodcmmdobnjbbaa
open Go.RowKit
def cntS (l : List (Int × Int × Int)) : Int := (l.filter fun r => pickN r.1 3 = 1 ∧ pickN r.2.1 4 = 0).length
theorem cnt_le (l : List (Int × Int × Int)) : 0 ≤ cntS l ∧ cntS l ≤ l.length := by
  unfold cntS
  have := List.length_filter_le (fun r : Int × Int × Int => pickN r.1 3 = 1 ∧ pickN r.2.1 4 = 0) l
  omega
theorem cnt_snoc (l : List (Int × Int × Int)) (k : Nat) (h : k < l.length) : cntS (l.take (k + 1)) = cntS (l.take k) + if pickN l[k].1 3 = 1 ∧ pickN l[k].2.1 4 = 0 then 1 else 0 := by
  unfold cntS
  rw [List.take_succ_eq_append_getElem h, List.filter_append]
  by_cases e : pickN l[k].1 3 = 1 ∧ pickN l[k].2.1 4 = 0 <;> simp [e]
theorem sent_step (s : St) (r : Int × Int × Int) (hk : s.k = 1) (hs : 0 ≤ s.sent ∧ s.sent < 100) : (stepS s r).k = 1 ∧ (stepS s r).sent = s.sent + if pickN r.1 3 = 1 ∧ pickN r.2.1 4 = 0 then 1 else 0 := by
  unfold stepS
  by_cases h0 : pickN r.1 3 = 0
  · simp only [h0, if_true, doneS, readS, hk]
    split <;> simp [hk]
  by_cases h1 : pickN r.1 3 = 1
  · by_cases h2 : pickN r.2.1 4 = 0
    · simp only [h1, h2, doneS, writeS, hk, if_true, and_most]
      simp; omega
    · simp only [h1, doneS, writeS, hk, if_true, h2, if_false]
      simp; split <;> simp [hk]
  · simp only [h0, h1, doneS, inputS, hk, if_true, if_false]
    simp; split <;> simp [hk]
theorem sent_steps (l : List (Int × Int × Int)) (k : Nat) (hk : k ≤ l.length) (h50 : k ≤ 50) : (steps (newS 1) (l.take k)).k = 1 ∧ (steps (newS 1) (l.take k)).sent = cntS (l.take k) := by
  induction k with
  | zero => exact ⟨rfl, rfl⟩
  | succ k ih =>
    obtain ⟨i1, i2⟩ := ih (by omega) (by omega)
    have hc := cnt_le (l.take k)
    have hl : (l.take k).length ≤ k := List.length_take_le _ _
    rw [steps_snoc _ _ _ (by omega), cnt_snoc _ _ (by omega)]
    obtain ⟨j1, j2⟩ := sent_step (steps (newS 1) (l.take k)) l[k] i1 (by omega)
    exact ⟨j1, by rw [j2, i2]⟩
set_option maxHeartbeats 4000000 in
theorem walkDeviceCounts (v : Value) (raw : List (Int × Int × Int)) (w : World) (hv : ArgS 3 c3 w v raw) (hok : ∀ r ∈ raw, ok3 r) :
    Calls Try.prog 8 #[v] w fun e w' => e = .returned (.bool true) ∧ Below w.heap.size w w' := by
  have H := Lib.hid hv
  obtain ⟨a, cap, rfl, hlen⟩ := hv.len
  have HOK := Lib.hid hok; clear hv hok
  go_enter Try.func8, Try.ntmps8
  go_wp2_with fail
  refine (awake_any _).mono ?_
  rintro e w1 ⟨rfl, hb1⟩
  go_wp2_with fail
  refine (new_any 1 _ (by decide)).mono ?_
  rintro e w2 ⟨v2, rfl, hv2, hb2⟩
  have s1 := hb1.size
  have s2 := hb2.size
  have HV2 := Lib.hid hv2.st
  obtain ⟨qv, hv, hr, hf⟩ := hv2
  obtain ⟨qa2, qc2, rfl⟩ := hr.shape
  clear hr hf
  subst hv
  have HSV := Lib.hid (sv_new HV2.out)
  unfold stC at HSV ⊢
  go_wp2_with fail
  go_loopw [5, 6] (fun n i wr => ∃ j : Nat, j ≤ raw.length ∧ j ≤ 50 ∧ i = .int .i64 j ∧ n = .int .i64 (cntS (raw.take j)) ∧ SV wr w2.heap.size (steps (newS 1) (raw.take j)) ∧ Below w.heap.size w wr) (fun _ i _ => raw.length - (intOf i).toNat)
  case atStart => exact ⟨0, Nat.zero_le _, Nat.zero_le _, rfl, rfl, HSV.out, (by repeat (first | (with_reducible exact Below.refl _ _) | (with_reducible refine bw_set ?_ ?_ _) | (with_reducible apply bw_alloc) | (with_reducible refine bw_tr ?_ (by with_reducible assumption)) | (with_reducible apply bw_drew) | omega))⟩
  case round =>
    obtain ⟨j, hj, hj50, rfl, rfl, hsv, hbb⟩ := hrel
    obtain ⟨hsk, hss⟩ := sent_steps raw j hj hj50
    have hcl := cnt_le (raw.take j)
    have hlt' : (raw.take j).length ≤ j := List.length_take_le _ _
    have HK := Lib.hid hsk; have HS := Lib.hid hss; have HSVR := Lib.hid hsv
    have HINV := Lib.hid (inv_steps (inv_new 1 (by decide)) (raw.take j))
    clear hsk hss
    have hxr := lt_in hsv.shape.choose_spec.choose_spec.1
    by_cases hlt : j < raw.length
    · by_cases h50 : j < 50
      · obtain ⟨b, o, c, ev, hblt, hl64, hc⟩ := (H.out.below hbb).row (by intro e; rw [e] at hlt; simp at hlt)
        injection ev with e1 _ e2
        subst e1 e2
        have hjj : raw[j]? = some raw[j] := by simp [hlt]
        obtain ⟨g1, g2, g3⟩ := hc j raw[j] hjj
        obtain ⟨hi1, hi2, hi3⟩ := HOK.out raw[j] (List.getElem_mem hlt)
        have HSN := Lib.hid (steps_snoc (newS 1) raw j hlt)
        have HCN := Lib.hid (cnt_snoc raw j hlt)
        obtain ⟨qa, qc, hx, hst⟩ := hsv.shape
        have HX := Lib.hid hx; have HST := Lib.hid hst
        obtain ⟨u0, u1, u2, u3, u4, u5, u6, u7, t0, t1, t2, t3, t4, t5, t6, t7⟩ := cells8o hx |> cells8
        clear hx hst hc hsv hjj
        generalize hr : raw[j] = r at *
        have HR := Lib.hid hr; clear hr
        obtain ⟨x, y, z⟩ := r
        have I1 := Lib.hid hi1; have I2 := Lib.hid hi2; have I3 := Lib.hid hi3
        clear hi1 hi2 hi3
        simp only at g1 g2 g3
        generalize steps (newS 1) (raw.take j) = s at *
        generalize cntS (raw.take j) = cn at *
        have p1 := pickN_bd x 3 (by omega)
        have p2 := pickN_bd y 4 (by omega)
        have hcase : (pickN x 3 == 1) = true ∧ (pickN y 4 == 0) = true ∧ cntS (raw.take (j + 1)) = cn + 1 ∨ (pickN x 3 == 1) = true ∧ (pickN y 4 == 0) = false ∧ cntS (raw.take (j + 1)) = cn ∨ (pickN x 3 == 1) = false ∧ True ∧ cntS (raw.take (j + 1)) = cn := by
          rw [HCN.out]
          by_cases hp1 : pickN x 3 = 1 <;> by_cases hp2 : pickN y 4 = 0 <;> simp [hp1, hp2]
        have hle : w.heap.size ≤ w2.heap.size := by omega
        rcases hcase with ⟨hq1, hq2, hq3⟩ | ⟨hq1, hq2, hq3⟩ | ⟨hq1, hq2, hq3⟩
        all_goals
          have HQ := Lib.hid hq3; clear hq3
          go_wp2_with (first | (go_at_call 13; ((with_reducible refine (pick_any x _ _ I1.out (by omega)).mono ?_); rintro e w' ⟨rfl, rfl⟩)) | (go_at_call 13; ((with_reducible refine (pick_any y _ _ I2.out (by omega)).mono ?_); rintro e w' ⟨rfl, rfl⟩)))
          go_region_with (go_at_call 21; refine (step_any _ s x y z _ (HST.out.below (Below.refl _ _).drew) HINV.out I1.out I2.out I3.out).mono ?_; rintro e w3 ⟨v3, rfl, hv3, hb3⟩; have HV3 := Lib.hid hv3; have HB3 := Lib.hid hb3; have s3 := Nat.lt_of_lt_of_le hxr hb3.size; obtain ⟨x0, x1, x2, x3, x4, x5, x6, x7, y0, y1, y2, y3, y4, y5, y6, y7⟩ := cells8 (cells8o (bel_in hb3 hxr HX.out)); clear hb3; obtain ⟨qv3, rfl, hr3, _⟩ := hv3; obtain ⟨qa3, qc3, rfl⟩ := hr3.shape; clear hr3; unfold stC)
          all_goals
            go_wp2_with fail
            refine ⟨⟨j + 1, by omega, by omega, by go_num, by rw [HQ.out], ?_, ?_⟩, by simp [intOf]; omega⟩
            · rw [HSN.out]
              exact sv_set (F := wr.heap.size) HSVR.out hxr (Below.of_drew HB3.out) HV3.out
            · have hb3 := HB3.out
              exact (by repeat (first | (with_reducible exact Below.refl _ _) | (with_reducible refine bw_set ?_ ?_ _) | (with_reducible apply bw_alloc) | (with_reducible refine bw_tr ?_ (by with_reducible assumption)) | (with_reducible apply bw_drew) | omega))
      · have hj5 : j = 50 := by omega
        obtain ⟨qa, qc, hx, hst⟩ := hsv.shape
        have HST := Lib.hid hst
        obtain ⟨u0, u1, u2, u3, u4, u5, u6, u7, t0, t1, t2, t3, t4, t5, t6, t7⟩ := cells8o hx |> cells8
        clear hx hst hsv
        generalize steps (newS 1) (raw.take j) = s at *
        generalize cntS (raw.take j) = cn at *
        obtain ⟨sk, r0, r1, r2, r3, q, sent, ra⟩ := s
        obtain rfl : sk = 1 := HK.out
        obtain rfl : sent = cn := HS.out
        have E1 := Lib.hid (show readN ⟨1, r0, r1, r2, r3, q, sent, ra⟩ 3 = sent by simp [readN])
        go_wp2_with fail
        refine (read_any _ ⟨1, r0, r1, r2, r3, q, sent, ra⟩ 3 _ HST.out HINV.out (by decide)).mono ?_
        rw [E1.out]
        rintro e w3 ⟨v3, rfl, hv3, hb3⟩
        obtain ⟨c3, f3⟩ := bcell hb3
        have s3 := hb3.size
        have y3 := Nat.lt_of_lt_of_le hxr s3
        obtain ⟨qv, hv, hr, hf⟩ := hv3
        obtain ⟨qa3, qc3, rfl⟩ := hr.shape
        clear hr hf
        subst hv
        unfold stC
        go_wp2_with fail
        go_ret
        exact ⟨ret1 (rbool (by simp)), (by repeat (first | (with_reducible exact Below.refl _ _) | (with_reducible refine bw_set ?_ ?_ _) | (with_reducible apply bw_alloc) | (with_reducible refine bw_tr ?_ (by with_reducible assumption)) | (with_reducible apply bw_drew) | omega))⟩
    · have hjl : j = raw.length := by omega
      obtain ⟨qa, qc, hx, hst⟩ := hsv.shape
      have HST := Lib.hid hst
      obtain ⟨u0, u1, u2, u3, u4, u5, u6, u7, t0, t1, t2, t3, t4, t5, t6, t7⟩ := cells8o hx |> cells8
      clear hx hst hsv
      generalize steps (newS 1) (raw.take j) = s at *
      generalize cntS (raw.take j) = cn at *
      obtain ⟨sk, r0, r1, r2, r3, q, sent, ra⟩ := s
      obtain rfl : sk = 1 := HK.out
      obtain rfl : sent = cn := HS.out
      have E1 := Lib.hid (show readN ⟨1, r0, r1, r2, r3, q, sent, ra⟩ 3 = sent by simp [readN])
      go_wp2_with fail
      refine (read_any _ ⟨1, r0, r1, r2, r3, q, sent, ra⟩ 3 _ HST.out HINV.out (by decide)).mono ?_
      rw [E1.out]
      rintro e w3 ⟨v3, rfl, hv3, hb3⟩
      obtain ⟨c3, f3⟩ := bcell hb3
      have s3 := hb3.size
      have y3 := Nat.lt_of_lt_of_le hxr s3
      obtain ⟨qv, hv, hr, hf⟩ := hv3
      obtain ⟨qa3, qc3, rfl⟩ := hr.shape
      clear hr hf
      subst hv
      unfold stC
      go_wp2_with fail
      go_ret
      exact ⟨ret1 (rbool (by simp)), (by repeat (first | (with_reducible exact Below.refl _ _) | (with_reducible refine bw_set ?_ ?_ _) | (with_reducible apply bw_alloc) | (with_reducible refine bw_tr ?_ (by with_reducible assumption)) | (with_reducible apply bw_drew) | omega))⟩
end Go.Proofs.Ytodcmmdobnjbbaa
