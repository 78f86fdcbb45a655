/-
  The walk of the law DeviceLooks.
-/
import Derived.Test.YtodcmmdobnjbbaaLaws10
namespace Go.Proofs.Ytodcmmdobnjbbaa
open Go.RowKit
def looksR (s : St) (c : Int) : Int := if s.k = 1 ∧ pickN c 4 = 0 then 3 else pickN c 4
theorem looks_stays (s : St) (c : Int) : readS s (looksR s c) = s := by
  unfold looksR readS
  by_cases h : s.k = 1 ∧ pickN c 4 = 0
  · simp [h]
  · simp [h]
set_option maxHeartbeats 4000000 in
theorem walkDeviceLooks (k : Int) (v : Value) (raw : List (Int × Int × Int)) (v2 : Value) (l : List Int) (w : World) (hk : I64 k) (hv : ArgS 3 c3 w v raw) (hok : ∀ r ∈ raw, ok3 r) (hv' : ArgS 1 c1 w v2 l) (hok' : ∀ r ∈ l, I64 r) :
    Calls Try.prog 5 #[.int .i64 k, v, v2] w fun e w' => e = .returned (.bool true) ∧ Below w.heap.size w w' := by
  obtain ⟨a, len, cap, rfl, h⟩ := rows3_of hv hok
  have H := Lib.hid h; clear h hv hok
  have H2 := Lib.hid hv'
  obtain ⟨a2, cap2, rfl, hlen⟩ := hv'.len
  have HOK := Lib.hid hok'; clear hv' hok'
  have HI := Lib.hid (inv_made k raw)
  have HD := Lib.hid (made_done k raw)
  go_enter Try.func5, Try.ntmps5
  go_wp2_with fail
  refine (awake_any _).mono ?_
  rintro e w1 ⟨rfl, hb1⟩
  go_wp2_with fail
  refine (made_any _ _ _ _ _ _ hk (H.out.below hb1)).mono ?_
  generalize hs : madeS k raw = s at *
  have HS := Lib.hid hs; clear hs
  rintro e w2 ⟨v2, rfl, hv2, hb2⟩
  have s1 := hb1.size
  have s2 := hb2.size
  have HV2 := Lib.hid hv2.st
  obtain ⟨qv, hv, hr, hf⟩ := hv2
  obtain ⟨qa2, qc2, rfl⟩ := hr.shape
  clear hr hf
  subst hv
  have HSE := Lib.hid (sameS_self s)
  have hsv0 := sv_new (HV2.out.below ((Below.refl _ _).alloc (Nat.le_refl _) (.cells (stC s (.slice qa2 s.q.length qc2)) 27)))
  have hx0 : ((w2.alloc (.cells (stC s (.slice qa2 s.q.length qc2)) 27)).alloc (.cells (stC s (.slice qa2 s.q.length qc2)) 27)).heap[w2.heap.size]? = some (.cells (stC s (.slice qa2 s.q.length qc2)) 27 (0, 0)) := bel_in ((Below.refl _ _).alloc (Nat.le_refl _) _) (by simp) (new_in _ _)
  have HSV := Lib.hid hsv0; have HX0 := Lib.hid hx0; clear hsv0 hx0
  have HV2' := HV2
  unfold stC at HSV HV2 HX0 ⊢
  go_wp2_with fail
  go_loopw [10] (fun i wr => ∃ j : Nat, j ≤ l.length ∧ i = .int .i64 j ∧ wr.heap[w2.heap.size]? = some (.cells (stC s (.slice qa2 s.q.length qc2)) 27 (0, 0)) ∧ SV wr (w2.heap.size + 1) s ∧ Below w2.heap.size w2 wr) (fun i _ => l.length - (intOf i).toNat)
  case atStart => exact ⟨0, Nat.zero_le _, rfl, HX0.out, by have := HSV.out; simpa [stC] using this, (by repeat (first | (with_reducible exact Below.refl _ _) | (with_reducible refine bw_set ?_ ?_ _) | (with_reducible apply bw_alloc) | (with_reducible refine bw_tr ?_ (by with_reducible assumption)) | (with_reducible apply bw_drew) | omega))⟩
  case round =>
    obtain ⟨j, hj, rfl, hx, hsv, hbb⟩ := hrel
    have HSVR := Lib.hid hsv; have HX := Lib.hid hx
    have HST := Lib.hid (HV2'.out.below hbb)
    obtain ⟨qa, qc, hx1, hst1⟩ := hsv.shape
    have HX1 := Lib.hid hx1; have HST1 := Lib.hid hst1
    have hyr : w2.heap.size < wr.heap.size := lt_in hx
    have hxr : w2.heap.size + 1 < wr.heap.size := lt_in hx1
    obtain ⟨u0, u1, u2, u3, u4, u5, u6, u7, t0, t1, t2, t3, t4, t5, t6, t7⟩ := cells8o hx |> cells8
    obtain ⟨p0, p1, p2, p3, p4, p5, p6, p7, q0, q1, q2, q3, q4, q5, q6, q7⟩ := cells8o hx1 |> cells8
    clear hx hx1 hst1 hsv
    by_cases hlt : j < l.length
    · by_cases h20 : j < 20
      · obtain ⟨b, o, c, ev, hblt, hl64, hc⟩ := ((H2.out.below hb1).below (bw_tr hb2 hbb)).one (by intro e; rw [e] at hlt; simp at hlt)
        injection ev with e1 _ e2
        subst e1 e2
        have hjj : l[j]? = some l[j] := by simp [hlt]
        have g1 := hc j l[j] hjj
        have hi1 := HOK.out l[j] (List.getElem_mem hlt)
        clear hc hjj
        generalize l[j] = x at *
        have I1 := Lib.hid hi1
        clear hi1
        have pp := pickN_bd x 4 (by omega)
        have hcase : ∃ r : Int, 0 ≤ r ∧ r < 4 ∧ readS s r = s ∧ ((s.k == 1) = true ∧ (pickN x 4 == 0) = true ∧ r = 3 ∨ (s.k == 1) = true ∧ (pickN x 4 == 0) = false ∧ r = pickN x 4 ∨ (s.k == 1) = false ∧ True ∧ r = pickN x 4) := by
          refine ⟨looksR s x, ?_, ?_, looks_stays s x, ?_⟩
          · unfold looksR; split <;> omega
          · unfold looksR; split <;> omega
          · unfold looksR
            by_cases hp1 : s.k = 1 <;> by_cases hp2 : pickN x 4 = 0 <;> simp [hp1, hp2]
        obtain ⟨r, hr0, hr4, hrs, hcase⟩ := hcase
        have hne : w2.heap.size ≠ w2.heap.size + 1 := by omega
        rcases hcase with ⟨hq1, hq2, rfl⟩ | ⟨hq1, hq2, rfl⟩ | ⟨hq1, hq2, rfl⟩
        all_goals
          have HRS := Lib.hid hrs; clear hrs
          go_wp2_with (go_at_call 13; ((with_reducible refine (pick_any x _ _ I1.out (by omega)).mono ?_); rintro e w' ⟨rfl, rfl⟩))
          refine (read_any _ s _ _ HST1.out HI.out (by omega)).mono ?_
          rw [HRS.out, HD.out]
          rintro e w3 ⟨v3, rfl, hv3, hb3⟩
          have HV3 := Lib.hid hv3; have HB3 := Lib.hid hb3
          obtain ⟨c3, f3⟩ := bcell hb3
          have s3 := hb3.size
          have y3 := Nat.lt_of_lt_of_le hxr s3
          have x3 := Nat.lt_of_lt_of_le hyr s3
          obtain ⟨qv, hv, hr, hf⟩ := hv3
          obtain ⟨qa3, qc3, rfl⟩ := hr.shape
          clear hr hf
          subst hv
          unfold stC
          go_wp2_with fail
          refine (read_any _ s _ _ (HST.out.below (by repeat (first | (with_reducible exact Below.refl _ _) | (with_reducible refine bw_set ?_ ?_ _) | (with_reducible apply bw_alloc) | (with_reducible refine bw_tr ?_ (by with_reducible assumption)) | (with_reducible apply bw_drew) | omega))) HI.out (by omega)).mono ?_
          rw [HRS.out, HD.out]
          rintro e w4 ⟨v4, rfl, hv4, hb4⟩
          have HB4 := Lib.hid hb4
          obtain ⟨c4, f4⟩ := bcell hb4
          have s4 := hb4.size; simp at s4
          have y4 : w2.heap.size + 1 < w4.heap.size := by omega
          have x4 : w2.heap.size < w4.heap.size := by omega
          have z4 : w3.heap.size < w4.heap.size := by omega
          obtain ⟨qv, hv, hr, hf⟩ := hv4
          obtain ⟨qa4, qc4, rfl⟩ := hr.shape
          clear hr hf
          subst hv
          unfold stC
          go_wp2_with fail
          refine (same_lit _ _ s s true _ _ _ HSE.out HV3.out.st HV2'.out (by repeat (first | (with_reducible exact Below.refl _ _) | (with_reducible refine bw_set ?_ ?_ _) | (with_reducible apply bw_alloc) | (with_reducible refine bw_tr ?_ (by with_reducible assumption)) | (with_reducible apply bw_drew) | omega)) (by repeat (first | (with_reducible exact Below.refl _ _) | (with_reducible refine bw_set ?_ ?_ _) | (with_reducible apply bw_alloc) | (with_reducible refine bw_tr ?_ (by with_reducible assumption)) | (with_reducible apply bw_drew) | omega))).mono ?_
          rintro e w5 ⟨rfl, hb5⟩
          have HB5 := Lib.hid hb5
          obtain ⟨c5, f5⟩ := bcell hb5
          have s5 := hb5.size; simp at s5
          have y5 : w2.heap.size + 1 < w5.heap.size := by omega
          have x5 : w2.heap.size < w5.heap.size := by omega
          have z5 : w3.heap.size < w5.heap.size := by omega
          go_wp2_with fail
          refine ⟨⟨j + 1, by omega, by go_num, ?_, ?_, ?_⟩, by simp [intOf]; omega⟩
          · iterate 8 apply heap_set_ne hne
            exact bel_in (w := wr) (B := wr.heap.size) (by have hh := HB3.out; have hh4 := HB4.out; have hh5 := HB5.out; exact (by repeat (first | (with_reducible exact Below.refl _ _) | (with_reducible refine bw_set ?_ ?_ _) | (with_reducible apply bw_alloc) | (with_reducible refine bw_tr ?_ (by with_reducible assumption)) | (with_reducible apply bw_drew) | omega))) hyr HX.out
          · refine sv_set (F := wr.heap.size) HSVR.out hxr (by have hh := HB3.out; have hh4 := HB4.out; have hh5 := HB5.out; exact (by repeat (first | (with_reducible exact Below.refl _ _) | (with_reducible refine bw_set ?_ ?_ _) | (with_reducible apply bw_alloc) | (with_reducible refine bw_tr ?_ (by with_reducible assumption)) | (with_reducible apply bw_drew) | omega))) ?_
            exact stf_below HV3.out (by repeat (first | (with_reducible exact Below.refl _ _) | (with_reducible refine bw_set ?_ ?_ _) | (with_reducible apply bw_alloc) | (with_reducible refine bw_tr ?_ (by with_reducible assumption)) | (with_reducible apply bw_drew) | omega))
          · exact (by repeat (first | (with_reducible exact Below.refl _ _) | (with_reducible refine bw_set ?_ ?_ _) | (with_reducible apply bw_alloc) | (with_reducible refine bw_tr ?_ (by with_reducible assumption)) | (with_reducible apply bw_drew) | omega))
      · go_wp2_with fail
        go_ret
        exact ⟨ret1 (rbool rfl), (by repeat (first | (with_reducible exact Below.refl _ _) | (with_reducible refine bw_set ?_ ?_ _) | (with_reducible apply bw_alloc) | (with_reducible refine bw_tr ?_ (by with_reducible assumption)) | (with_reducible apply bw_drew) | omega))⟩
    · go_wp2_with fail
      go_ret
      exact ⟨ret1 (rbool rfl), (by repeat (first | (with_reducible exact Below.refl _ _) | (with_reducible refine bw_set ?_ ?_ _) | (with_reducible apply bw_alloc) | (with_reducible refine bw_tr ?_ (by with_reducible assumption)) | (with_reducible apply bw_drew) | omega))⟩
end Go.Proofs.Ytodcmmdobnjbbaa
