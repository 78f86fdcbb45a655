/-
  The contracts of device.with, at each closure.
-/
import Derived.Test.YtodcmmdobnjbbaaDevClo
namespace Go.Proofs.Ytodcmmdobnjbbaa
open Go.RowKit

set_option maxHeartbeats 2000000 in
theorem withi_uart (pn : Nat) (v : Value) (s : St) (n : Int) (w : World) (h : IsSt w v s) (hk : s.k = 1) (hq : s.q.length ≤ 1000)  (hs : -2147483648 ≤ s.r0 ∧ s.r0 ≤ 2147483647)
     (h2 : w.cell? ⟨pn, 0, none⟩ = some (.int .i64 n)) (hp2 : pn < w.heap.size) :
    Calls Try.prog 22 #[v, .int .i64 0, .func (.func 27) #[] #[.pointer (some ⟨pn, 0, none⟩)]] w fun e w' => ∃ v', e = .returned v' ∧ IsStF w.heap.size w' v' (doneS (inputS s (wrap32 n))) ∧ Below w.heap.size w w' := by
  obtain ⟨qv, rfl, hr⟩ := h
  obtain ⟨qa, qc, rfl⟩ := hr.shape
  have bel0 : Below w.heap.size w ((w.alloc (.cells (stC s (.slice qa s.q.length qc)) 27)).alloc (.cells #[.int .i64 0, .int .i64 0, .int .i64 0, .int .i64 0, .int .i64 0, .slice none 0 0, .int .i64 0, .bool false] 27)) := ((Below.refl _ _).alloc (Nat.le_refl _) _).alloc (by simp) _
  have hst : IsSt ((w.alloc (.cells (stC s (.slice qa s.q.length qc)) 27)).alloc (.cells #[.int .i64 0, .int .i64 0, .int .i64 0, .int .i64 0, .int .i64 0, .slice none 0 0, .int .i64 0, .bool false] 27)) (.agg (stC s (.slice qa s.q.length qc))) s := ⟨_, rfl, hr.below bel0⟩
  have H2 := Lib.hid h2; have HK := Lib.hid hk; have HST := Lib.hid hst; have B0 := Lib.hid bel0
  clear h2 hk hst hr bel0
  unfold stC at *
  go_enter Try.func22, Try.ntmps22
  go_wp2_with fail
  refine (of_uart _ s _ HST.out HK.out hq).mono ?_
  rintro e w1 ⟨b, rfl, hW, hb⟩
  have HW := Lib.hid hW; have B1 := Lib.hid hb
  clear hW hb
  have bel1 : Below w.heap.size w w1 := B0.out.trans (B1.out.mono (by simp; omega))
  have B1' := Lib.hid bel1; clear bel1
  have H2' : w1.cell? ⟨pn, 0, none⟩ = some (.int .i64 n) := by rw [B1'.out.cell (p := ⟨pn, 0, none⟩) hp2]; exact H2.out
  have C2 := Lib.hid H2'; clear H2'
  go_wp2_with fail
  refine (iclo_uart _ b pn s n _ HW.out HK.out hs C2.out).mono ?_
  rintro e w2 ⟨rfl, ha, hb⟩
  have HA := Lib.hid ha; have B2 := Lib.hid hb
  clear ha hb
  go_wp2_with fail
  refine (done_uart _ b _ _ HA.out (k_input s _ HK.out)).mono ?_
  rintro e w3 ⟨v', rfl, hv, hb⟩
  have HV := Lib.hid hv; have B3 := Lib.hid hb
  clear hb
  obtain ⟨qv, hv, hr, hf⟩ := hv
  obtain ⟨qa', qc', rfl⟩ := hr.shape
  clear hr hf
  have hz : w3.heap[w.heap.size + 1]? = some (.cells #[.int .i64 0, .int .i64 0, .int .i64 0, .int .i64 0, .int .i64 0, .slice none 0 0, .int .i64 0, .bool false] 27) := by
    have h0 : ((w.alloc (.cells #[Value.int .i64 s.k, .int .i64 s.r0, .int .i64 s.r1, .int .i64 s.r2, .int .i64 s.r3, .slice qa s.q.length qc, .int .i64 s.sent, .bool s.ra] 27)).alloc (.cells #[.int .i64 0, .int .i64 0, .int .i64 0, .int .i64 0, .int .i64 0, .slice none 0 0, .int .i64 0, .bool false] 27)).heap[w.heap.size + 1]? = some (.cells #[.int .i64 0, .int .i64 0, .int .i64 0, .int .i64 0, .int .i64 0, .slice none 0 0, .int .i64 0, .bool false] 27) := by
      have := new_in (w.alloc (.cells #[Value.int .i64 s.k, .int .i64 s.r0, .int .i64 s.r1, .int .i64 s.r2, .int .i64 s.r3, .slice qa s.q.length qc, .int .i64 s.sent, .bool s.ra] 27)) (.cells #[.int .i64 0, .int .i64 0, .int .i64 0, .int .i64 0, .int .i64 0, .slice none 0 0, .int .i64 0, .bool false] 27)
      simpa using this
    have h1 := bel_in B1.out (by simp) h0
    have h2 := bel_in B2.out (by simp) h1
    exact bel_in B3.out (lt_in h2) h2
  have hlt := lt_in hz
  obtain ⟨u0, u1, u2, u3, u4, u5, u6, u7, t0, t1, t2, t3, t4, t5, t6, t7⟩ := cells8 hz
  clear hz
  subst hv
  have hll : w.heap.size + 1 < w.heap.size + 1 + 1 := by omega
  have hle : w.heap.size ≤ w.heap.size + 1 := by omega
  have HV2 : IsStF (w.heap.size + 1 + 1) w3 (.agg (stC (doneS (inputS s (wrap32 n))) (.slice qa' (doneS (inputS s (wrap32 n))).q.length qc'))) (doneS (inputS s (wrap32 n))) := by simpa using HV.out
  have bel3 : Below w.heap.size w w3 := B1'.out.trans ((B2.out.mono (by simp; omega)).trans (B3.out.mono (Nat.le_trans B1'.out.size B2.out.size)))
  have HV3 := Lib.hid HV2; have B4 := Lib.hid bel3
  clear HV HV2 bel3
  unfold stC
  go_wp2_with fail
  refine bodyPost_ret (v := .agg (stC (doneS (inputS s (wrap32 n))) (.slice qa' (doneS (inputS s (wrap32 n))).q.length qc'))) (by simp [results, Try.results22, go_sem, stC, u0, u1, u2, u3, u4, u5, u6, u7]) rfl ⟨_, rfl, IsStF.mono (B := w.heap.size + 1 + 1) (by omega) ?_, ?_⟩
  · iterate 8 apply stf_set hll
    exact HV3.out
  · iterate 8 apply bel_set hle
    exact B4.out

set_option maxHeartbeats 2000000 in
theorem withi_timer (pn : Nat) (v : Value) (s : St) (n : Int) (w : World) (h : IsSt w v s) (hk : s.k = 2) (hq : s.q.length ≤ 1000)  (hs : -2147483648 ≤ s.r0 ∧ s.r0 ≤ 2147483647)
     (h2 : w.cell? ⟨pn, 0, none⟩ = some (.int .i64 n)) (hp2 : pn < w.heap.size) :
    Calls Try.prog 22 #[v, .int .i64 0, .func (.func 27) #[] #[.pointer (some ⟨pn, 0, none⟩)]] w fun e w' => ∃ v', e = .returned v' ∧ IsStF w.heap.size w' v' (doneS (inputS s (wrap32 n))) ∧ Below w.heap.size w w' := by
  obtain ⟨qv, rfl, hr⟩ := h
  obtain ⟨qa, qc, rfl⟩ := hr.shape
  have bel0 : Below w.heap.size w ((w.alloc (.cells (stC s (.slice qa s.q.length qc)) 27)).alloc (.cells #[.int .i64 0, .int .i64 0, .int .i64 0, .int .i64 0, .int .i64 0, .slice none 0 0, .int .i64 0, .bool false] 27)) := ((Below.refl _ _).alloc (Nat.le_refl _) _).alloc (by simp) _
  have hst : IsSt ((w.alloc (.cells (stC s (.slice qa s.q.length qc)) 27)).alloc (.cells #[.int .i64 0, .int .i64 0, .int .i64 0, .int .i64 0, .int .i64 0, .slice none 0 0, .int .i64 0, .bool false] 27)) (.agg (stC s (.slice qa s.q.length qc))) s := ⟨_, rfl, hr.below bel0⟩
  have H2 := Lib.hid h2; have HK := Lib.hid hk; have HST := Lib.hid hst; have B0 := Lib.hid bel0
  clear h2 hk hst hr bel0
  unfold stC at *
  go_enter Try.func22, Try.ntmps22
  go_wp2_with fail
  refine (of_timer _ s _ HST.out HK.out hq).mono ?_
  rintro e w1 ⟨b, rfl, hW, hb⟩
  have HW := Lib.hid hW; have B1 := Lib.hid hb
  clear hW hb
  have bel1 : Below w.heap.size w w1 := B0.out.trans (B1.out.mono (by simp; omega))
  have B1' := Lib.hid bel1; clear bel1
  have H2' : w1.cell? ⟨pn, 0, none⟩ = some (.int .i64 n) := by rw [B1'.out.cell (p := ⟨pn, 0, none⟩) hp2]; exact H2.out
  have C2 := Lib.hid H2'; clear H2'
  go_wp2_with fail
  refine (iclo_timer _ b pn s n _ HW.out HK.out hs C2.out).mono ?_
  rintro e w2 ⟨rfl, ha, hb⟩
  have HA := Lib.hid ha; have B2 := Lib.hid hb
  clear ha hb
  go_wp2_with fail
  refine (done_timer _ b _ _ HA.out (k_input s _ HK.out)).mono ?_
  rintro e w3 ⟨v', rfl, hv, hb⟩
  have HV := Lib.hid hv; have B3 := Lib.hid hb
  clear hb
  obtain ⟨qv, hv, hr, hf⟩ := hv
  obtain ⟨qa', qc', rfl⟩ := hr.shape
  clear hr hf
  have hz : w3.heap[w.heap.size + 1]? = some (.cells #[.int .i64 0, .int .i64 0, .int .i64 0, .int .i64 0, .int .i64 0, .slice none 0 0, .int .i64 0, .bool false] 27) := by
    have h0 : ((w.alloc (.cells #[Value.int .i64 s.k, .int .i64 s.r0, .int .i64 s.r1, .int .i64 s.r2, .int .i64 s.r3, .slice qa s.q.length qc, .int .i64 s.sent, .bool s.ra] 27)).alloc (.cells #[.int .i64 0, .int .i64 0, .int .i64 0, .int .i64 0, .int .i64 0, .slice none 0 0, .int .i64 0, .bool false] 27)).heap[w.heap.size + 1]? = some (.cells #[.int .i64 0, .int .i64 0, .int .i64 0, .int .i64 0, .int .i64 0, .slice none 0 0, .int .i64 0, .bool false] 27) := by
      have := new_in (w.alloc (.cells #[Value.int .i64 s.k, .int .i64 s.r0, .int .i64 s.r1, .int .i64 s.r2, .int .i64 s.r3, .slice qa s.q.length qc, .int .i64 s.sent, .bool s.ra] 27)) (.cells #[.int .i64 0, .int .i64 0, .int .i64 0, .int .i64 0, .int .i64 0, .slice none 0 0, .int .i64 0, .bool false] 27)
      simpa using this
    have h1 := bel_in B1.out (by simp) h0
    have h2 := bel_in B2.out (by simp) h1
    exact bel_in B3.out (lt_in h2) h2
  have hlt := lt_in hz
  obtain ⟨u0, u1, u2, u3, u4, u5, u6, u7, t0, t1, t2, t3, t4, t5, t6, t7⟩ := cells8 hz
  clear hz
  subst hv
  have hll : w.heap.size + 1 < w.heap.size + 1 + 1 := by omega
  have hle : w.heap.size ≤ w.heap.size + 1 := by omega
  have HV2 : IsStF (w.heap.size + 1 + 1) w3 (.agg (stC (doneS (inputS s (wrap32 n))) (.slice qa' (doneS (inputS s (wrap32 n))).q.length qc'))) (doneS (inputS s (wrap32 n))) := by simpa using HV.out
  have bel3 : Below w.heap.size w w3 := B1'.out.trans ((B2.out.mono (by simp; omega)).trans (B3.out.mono (Nat.le_trans B1'.out.size B2.out.size)))
  have HV3 := Lib.hid HV2; have B4 := Lib.hid bel3
  clear HV HV2 bel3
  unfold stC
  go_wp2_with fail
  refine bodyPost_ret (v := .agg (stC (doneS (inputS s (wrap32 n))) (.slice qa' (doneS (inputS s (wrap32 n))).q.length qc'))) (by simp [results, Try.results22, go_sem, stC, u0, u1, u2, u3, u4, u5, u6, u7]) rfl ⟨_, rfl, IsStF.mono (B := w.heap.size + 1 + 1) (by omega) ?_, ?_⟩
  · iterate 8 apply stf_set hll
    exact HV3.out
  · iterate 8 apply bel_set hle
    exact B4.out

set_option maxHeartbeats 2000000 in
theorem withi_gpio (pn : Nat) (v : Value) (s : St) (n : Int) (w : World) (h : IsSt w v s) (hk : s.k = 3) (hq : s.q.length ≤ 1000)  (hs : -2147483648 ≤ s.r0 ∧ s.r0 ≤ 2147483647)
     (h2 : w.cell? ⟨pn, 0, none⟩ = some (.int .i64 n)) (hp2 : pn < w.heap.size) :
    Calls Try.prog 22 #[v, .int .i64 0, .func (.func 27) #[] #[.pointer (some ⟨pn, 0, none⟩)]] w fun e w' => ∃ v', e = .returned v' ∧ IsStF w.heap.size w' v' (doneS (inputS s (wrap32 n))) ∧ Below w.heap.size w w' := by
  obtain ⟨qv, rfl, hr⟩ := h
  obtain ⟨qa, qc, rfl⟩ := hr.shape
  have bel0 : Below w.heap.size w ((w.alloc (.cells (stC s (.slice qa s.q.length qc)) 27)).alloc (.cells #[.int .i64 0, .int .i64 0, .int .i64 0, .int .i64 0, .int .i64 0, .slice none 0 0, .int .i64 0, .bool false] 27)) := ((Below.refl _ _).alloc (Nat.le_refl _) _).alloc (by simp) _
  have hst : IsSt ((w.alloc (.cells (stC s (.slice qa s.q.length qc)) 27)).alloc (.cells #[.int .i64 0, .int .i64 0, .int .i64 0, .int .i64 0, .int .i64 0, .slice none 0 0, .int .i64 0, .bool false] 27)) (.agg (stC s (.slice qa s.q.length qc))) s := ⟨_, rfl, hr.below bel0⟩
  have H2 := Lib.hid h2; have HK := Lib.hid hk; have HST := Lib.hid hst; have B0 := Lib.hid bel0
  clear h2 hk hst hr bel0
  unfold stC at *
  go_enter Try.func22, Try.ntmps22
  go_wp2_with fail
  refine (of_gpio _ s _ HST.out HK.out hq).mono ?_
  rintro e w1 ⟨b, rfl, hW, hb⟩
  have HW := Lib.hid hW; have B1 := Lib.hid hb
  clear hW hb
  have bel1 : Below w.heap.size w w1 := B0.out.trans (B1.out.mono (by simp; omega))
  have B1' := Lib.hid bel1; clear bel1
  have H2' : w1.cell? ⟨pn, 0, none⟩ = some (.int .i64 n) := by rw [B1'.out.cell (p := ⟨pn, 0, none⟩) hp2]; exact H2.out
  have C2 := Lib.hid H2'; clear H2'
  go_wp2_with fail
  refine (iclo_gpio _ b pn s n _ HW.out HK.out hs C2.out).mono ?_
  rintro e w2 ⟨rfl, ha, hb⟩
  have HA := Lib.hid ha; have B2 := Lib.hid hb
  clear ha hb
  go_wp2_with fail
  refine (done_gpio _ b _ _ HA.out (k_input s _ HK.out)).mono ?_
  rintro e w3 ⟨v', rfl, hv, hb⟩
  have HV := Lib.hid hv; have B3 := Lib.hid hb
  clear hb
  obtain ⟨qv, hv, hr, hf⟩ := hv
  obtain ⟨qa', qc', rfl⟩ := hr.shape
  clear hr hf
  have hz : w3.heap[w.heap.size + 1]? = some (.cells #[.int .i64 0, .int .i64 0, .int .i64 0, .int .i64 0, .int .i64 0, .slice none 0 0, .int .i64 0, .bool false] 27) := by
    have h0 : ((w.alloc (.cells #[Value.int .i64 s.k, .int .i64 s.r0, .int .i64 s.r1, .int .i64 s.r2, .int .i64 s.r3, .slice qa s.q.length qc, .int .i64 s.sent, .bool s.ra] 27)).alloc (.cells #[.int .i64 0, .int .i64 0, .int .i64 0, .int .i64 0, .int .i64 0, .slice none 0 0, .int .i64 0, .bool false] 27)).heap[w.heap.size + 1]? = some (.cells #[.int .i64 0, .int .i64 0, .int .i64 0, .int .i64 0, .int .i64 0, .slice none 0 0, .int .i64 0, .bool false] 27) := by
      have := new_in (w.alloc (.cells #[Value.int .i64 s.k, .int .i64 s.r0, .int .i64 s.r1, .int .i64 s.r2, .int .i64 s.r3, .slice qa s.q.length qc, .int .i64 s.sent, .bool s.ra] 27)) (.cells #[.int .i64 0, .int .i64 0, .int .i64 0, .int .i64 0, .int .i64 0, .slice none 0 0, .int .i64 0, .bool false] 27)
      simpa using this
    have h1 := bel_in B1.out (by simp) h0
    have h2 := bel_in B2.out (by simp) h1
    exact bel_in B3.out (lt_in h2) h2
  have hlt := lt_in hz
  obtain ⟨u0, u1, u2, u3, u4, u5, u6, u7, t0, t1, t2, t3, t4, t5, t6, t7⟩ := cells8 hz
  clear hz
  subst hv
  have hll : w.heap.size + 1 < w.heap.size + 1 + 1 := by omega
  have hle : w.heap.size ≤ w.heap.size + 1 := by omega
  have HV2 : IsStF (w.heap.size + 1 + 1) w3 (.agg (stC (doneS (inputS s (wrap32 n))) (.slice qa' (doneS (inputS s (wrap32 n))).q.length qc'))) (doneS (inputS s (wrap32 n))) := by simpa using HV.out
  have bel3 : Below w.heap.size w w3 := B1'.out.trans ((B2.out.mono (by simp; omega)).trans (B3.out.mono (Nat.le_trans B1'.out.size B2.out.size)))
  have HV3 := Lib.hid HV2; have B4 := Lib.hid bel3
  clear HV HV2 bel3
  unfold stC
  go_wp2_with fail
  refine bodyPost_ret (v := .agg (stC (doneS (inputS s (wrap32 n))) (.slice qa' (doneS (inputS s (wrap32 n))).q.length qc'))) (by simp [results, Try.results22, go_sem, stC, u0, u1, u2, u3, u4, u5, u6, u7]) rfl ⟨_, rfl, IsStF.mono (B := w.heap.size + 1 + 1) (by omega) ?_, ?_⟩
  · iterate 8 apply stf_set hll
    exact HV3.out
  · iterate 8 apply bel_set hle
    exact B4.out
end Go.Proofs.Ytodcmmdobnjbbaa
