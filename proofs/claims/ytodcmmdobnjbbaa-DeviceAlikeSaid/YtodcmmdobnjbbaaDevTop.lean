/-
  The contracts of device.Write, device.Read and device.Input.
-/
import Derived.Test.YtodcmmdobnjbbaaDevWithW
import Derived.Test.YtodcmmdobnjbbaaDevWithI
import Derived.Test.YtodcmmdobnjbbaaDevWithR
namespace Go.Proofs.Ytodcmmdobnjbbaa
open Go.RowKit

set_option maxHeartbeats 2000000 in
theorem writeT_uart (v : Value) (s : St) (reg n : Int) (w : World) (h : IsSt w v s) (hk : s.k = 1) (hq : s.q.length ≤ 1000) (hreg : 0 ≤ reg ∧ reg < 4) (hs : 0 ≤ s.sent ∧ s.sent ≤ 2147483647) :
    Calls Try.prog 14 #[v, .int .i64 reg, .int .i64 n] w fun e w' => ∃ v', e = .returned v' ∧ IsStF w.heap.size w' v' (doneS (writeS s reg (wrap32 n))) ∧ Below w.heap.size w w' := by
  obtain ⟨qv, rfl, hr⟩ := h
  obtain ⟨qa, qc, rfl⟩ := hr.shape
  have bel0 : Below w.heap.size w ((((w.alloc (.cells (stC s (.slice qa s.q.length qc)) 27)).alloc (.cells #[.int .i64 reg] 3)).alloc (.cells #[.int .i64 n] 3)).alloc (.cells #[.int .i64 0, .int .i64 0, .int .i64 0, .int .i64 0, .int .i64 0, .slice none 0 0, .int .i64 0, .bool false] 27)) := by
    refine Below.alloc ?_ (by simp; omega) _
    refine Below.alloc ?_ (by simp; omega) _
    refine Below.alloc ?_ (by simp) _
    exact (Below.refl _ _).alloc (Nat.le_refl _) _
  have hst : IsSt ((((w.alloc (.cells (stC s (.slice qa s.q.length qc)) 27)).alloc (.cells #[.int .i64 reg] 3)).alloc (.cells #[.int .i64 n] 3)).alloc (.cells #[.int .i64 0, .int .i64 0, .int .i64 0, .int .i64 0, .int .i64 0, .slice none 0 0, .int .i64 0, .bool false] 27)) (.agg (stC s (.slice qa s.q.length qc))) s := ⟨_, rfl, hr.below bel0⟩
  have HK := Lib.hid hk; have HST := Lib.hid hst; have B0 := Lib.hid bel0
  clear hk hst hr bel0
  unfold stC at *
  go_enter Try.func14, Try.ntmps14
  go_wp2_with fail
  refine (withw_uart _ _ _ s reg n _ HST.out HK.out hq hreg hs (by go_simp) (by simp) (by go_simp) (by simp)).mono ?_
  rintro e w1 ⟨v', rfl, hv, hb⟩
  have HV := Lib.hid hv; have B1 := Lib.hid hb
  skip
  clear hb
  obtain ⟨qv, hv, hr, hf⟩ := hv
  obtain ⟨qa', qc', rfl⟩ := hr.shape
  clear hr
  have hz : w1.heap[w.heap.size + 1 + 1 + 1]? = some (.cells #[.int .i64 0, .int .i64 0, .int .i64 0, .int .i64 0, .int .i64 0, .slice none 0 0, .int .i64 0, .bool false] 27) := bel_in B1.out (by simp) (new_at _ _ _ (by simp))
  have hlt := lt_in hz
  obtain ⟨u0, u1, u2, u3, u4, u5, u6, u7, t0, t1, t2, t3, t4, t5, t6, t7⟩ := cells8 hz
  clear hz
  subst hv
  have hle : w.heap.size ≤ w.heap.size + 1 + 1 + 1 := by omega
  have hll : w.heap.size + 1 + 1 + 1 < w.heap.size + 1 + 1 + 1 + 1 := by omega
  have HV2 : IsStF (w.heap.size + 1 + 1 + 1 + 1) w1 (.agg (stC (doneS (writeS s reg (wrap32 n))) (.slice qa' (doneS (writeS s reg (wrap32 n))).q.length qc'))) (doneS (writeS s reg (wrap32 n))) := by simpa using HV.out
  have bel3 : Below w.heap.size w w1 := B0.out.trans (B1.out.mono (by simp; omega))
  have HV3 := Lib.hid HV2; have B4 := Lib.hid bel3
  clear HV HV2 bel3
  unfold stC
  go_wp2_with fail
  refine bodyPost_ret (v := .agg (stC (doneS (writeS s reg (wrap32 n))) (.slice qa' (doneS (writeS s reg (wrap32 n))).q.length qc'))) (by simp [results, Try.results14, go_sem, stC, u0, u1, u2, u3, u4, u5, u6, u7]) rfl ⟨_, rfl, IsStF.mono (B := w.heap.size + 1 + 1 + 1 + 1) (by omega) ?_, ?_⟩
  · iterate 8 apply stf_set hll
    exact HV3.out
  · iterate 8 apply bel_set hle
    exact B4.out

set_option maxHeartbeats 2000000 in
theorem writeT_timer (v : Value) (s : St) (reg n : Int) (w : World) (h : IsSt w v s) (hk : s.k = 2) (hq : s.q.length ≤ 1000) (hreg : 0 ≤ reg ∧ reg < 4) (hs : 0 ≤ s.sent ∧ s.sent ≤ 2147483647) :
    Calls Try.prog 14 #[v, .int .i64 reg, .int .i64 n] w fun e w' => ∃ v', e = .returned v' ∧ IsStF w.heap.size w' v' (doneS (writeS s reg (wrap32 n))) ∧ Below w.heap.size w w' := by
  obtain ⟨qv, rfl, hr⟩ := h
  obtain ⟨qa, qc, rfl⟩ := hr.shape
  have bel0 : Below w.heap.size w ((((w.alloc (.cells (stC s (.slice qa s.q.length qc)) 27)).alloc (.cells #[.int .i64 reg] 3)).alloc (.cells #[.int .i64 n] 3)).alloc (.cells #[.int .i64 0, .int .i64 0, .int .i64 0, .int .i64 0, .int .i64 0, .slice none 0 0, .int .i64 0, .bool false] 27)) := by
    refine Below.alloc ?_ (by simp; omega) _
    refine Below.alloc ?_ (by simp; omega) _
    refine Below.alloc ?_ (by simp) _
    exact (Below.refl _ _).alloc (Nat.le_refl _) _
  have hst : IsSt ((((w.alloc (.cells (stC s (.slice qa s.q.length qc)) 27)).alloc (.cells #[.int .i64 reg] 3)).alloc (.cells #[.int .i64 n] 3)).alloc (.cells #[.int .i64 0, .int .i64 0, .int .i64 0, .int .i64 0, .int .i64 0, .slice none 0 0, .int .i64 0, .bool false] 27)) (.agg (stC s (.slice qa s.q.length qc))) s := ⟨_, rfl, hr.below bel0⟩
  have HK := Lib.hid hk; have HST := Lib.hid hst; have B0 := Lib.hid bel0
  clear hk hst hr bel0
  unfold stC at *
  go_enter Try.func14, Try.ntmps14
  go_wp2_with fail
  refine (withw_timer _ _ _ s reg n _ HST.out HK.out hq hreg hs (by go_simp) (by simp) (by go_simp) (by simp)).mono ?_
  rintro e w1 ⟨v', rfl, hv, hb⟩
  have HV := Lib.hid hv; have B1 := Lib.hid hb
  skip
  clear hb
  obtain ⟨qv, hv, hr, hf⟩ := hv
  obtain ⟨qa', qc', rfl⟩ := hr.shape
  clear hr
  have hz : w1.heap[w.heap.size + 1 + 1 + 1]? = some (.cells #[.int .i64 0, .int .i64 0, .int .i64 0, .int .i64 0, .int .i64 0, .slice none 0 0, .int .i64 0, .bool false] 27) := bel_in B1.out (by simp) (new_at _ _ _ (by simp))
  have hlt := lt_in hz
  obtain ⟨u0, u1, u2, u3, u4, u5, u6, u7, t0, t1, t2, t3, t4, t5, t6, t7⟩ := cells8 hz
  clear hz
  subst hv
  have hle : w.heap.size ≤ w.heap.size + 1 + 1 + 1 := by omega
  have hll : w.heap.size + 1 + 1 + 1 < w.heap.size + 1 + 1 + 1 + 1 := by omega
  have HV2 : IsStF (w.heap.size + 1 + 1 + 1 + 1) w1 (.agg (stC (doneS (writeS s reg (wrap32 n))) (.slice qa' (doneS (writeS s reg (wrap32 n))).q.length qc'))) (doneS (writeS s reg (wrap32 n))) := by simpa using HV.out
  have bel3 : Below w.heap.size w w1 := B0.out.trans (B1.out.mono (by simp; omega))
  have HV3 := Lib.hid HV2; have B4 := Lib.hid bel3
  clear HV HV2 bel3
  unfold stC
  go_wp2_with fail
  refine bodyPost_ret (v := .agg (stC (doneS (writeS s reg (wrap32 n))) (.slice qa' (doneS (writeS s reg (wrap32 n))).q.length qc'))) (by simp [results, Try.results14, go_sem, stC, u0, u1, u2, u3, u4, u5, u6, u7]) rfl ⟨_, rfl, IsStF.mono (B := w.heap.size + 1 + 1 + 1 + 1) (by omega) ?_, ?_⟩
  · iterate 8 apply stf_set hll
    exact HV3.out
  · iterate 8 apply bel_set hle
    exact B4.out

set_option maxHeartbeats 2000000 in
theorem writeT_gpio (v : Value) (s : St) (reg n : Int) (w : World) (h : IsSt w v s) (hk : s.k = 3) (hq : s.q.length ≤ 1000) (hreg : 0 ≤ reg ∧ reg < 4) (hs : 0 ≤ s.sent ∧ s.sent ≤ 2147483647) :
    Calls Try.prog 14 #[v, .int .i64 reg, .int .i64 n] w fun e w' => ∃ v', e = .returned v' ∧ IsStF w.heap.size w' v' (doneS (writeS s reg (wrap32 n))) ∧ Below w.heap.size w w' := by
  obtain ⟨qv, rfl, hr⟩ := h
  obtain ⟨qa, qc, rfl⟩ := hr.shape
  have bel0 : Below w.heap.size w ((((w.alloc (.cells (stC s (.slice qa s.q.length qc)) 27)).alloc (.cells #[.int .i64 reg] 3)).alloc (.cells #[.int .i64 n] 3)).alloc (.cells #[.int .i64 0, .int .i64 0, .int .i64 0, .int .i64 0, .int .i64 0, .slice none 0 0, .int .i64 0, .bool false] 27)) := by
    refine Below.alloc ?_ (by simp; omega) _
    refine Below.alloc ?_ (by simp; omega) _
    refine Below.alloc ?_ (by simp) _
    exact (Below.refl _ _).alloc (Nat.le_refl _) _
  have hst : IsSt ((((w.alloc (.cells (stC s (.slice qa s.q.length qc)) 27)).alloc (.cells #[.int .i64 reg] 3)).alloc (.cells #[.int .i64 n] 3)).alloc (.cells #[.int .i64 0, .int .i64 0, .int .i64 0, .int .i64 0, .int .i64 0, .slice none 0 0, .int .i64 0, .bool false] 27)) (.agg (stC s (.slice qa s.q.length qc))) s := ⟨_, rfl, hr.below bel0⟩
  have HK := Lib.hid hk; have HST := Lib.hid hst; have B0 := Lib.hid bel0
  clear hk hst hr bel0
  unfold stC at *
  go_enter Try.func14, Try.ntmps14
  go_wp2_with fail
  refine (withw_gpio _ _ _ s reg n _ HST.out HK.out hq hreg hs (by go_simp) (by simp) (by go_simp) (by simp)).mono ?_
  rintro e w1 ⟨v', rfl, hv, hb⟩
  have HV := Lib.hid hv; have B1 := Lib.hid hb
  skip
  clear hb
  obtain ⟨qv, hv, hr, hf⟩ := hv
  obtain ⟨qa', qc', rfl⟩ := hr.shape
  clear hr
  have hz : w1.heap[w.heap.size + 1 + 1 + 1]? = some (.cells #[.int .i64 0, .int .i64 0, .int .i64 0, .int .i64 0, .int .i64 0, .slice none 0 0, .int .i64 0, .bool false] 27) := bel_in B1.out (by simp) (new_at _ _ _ (by simp))
  have hlt := lt_in hz
  obtain ⟨u0, u1, u2, u3, u4, u5, u6, u7, t0, t1, t2, t3, t4, t5, t6, t7⟩ := cells8 hz
  clear hz
  subst hv
  have hle : w.heap.size ≤ w.heap.size + 1 + 1 + 1 := by omega
  have hll : w.heap.size + 1 + 1 + 1 < w.heap.size + 1 + 1 + 1 + 1 := by omega
  have HV2 : IsStF (w.heap.size + 1 + 1 + 1 + 1) w1 (.agg (stC (doneS (writeS s reg (wrap32 n))) (.slice qa' (doneS (writeS s reg (wrap32 n))).q.length qc'))) (doneS (writeS s reg (wrap32 n))) := by simpa using HV.out
  have bel3 : Below w.heap.size w w1 := B0.out.trans (B1.out.mono (by simp; omega))
  have HV3 := Lib.hid HV2; have B4 := Lib.hid bel3
  clear HV HV2 bel3
  unfold stC
  go_wp2_with fail
  refine bodyPost_ret (v := .agg (stC (doneS (writeS s reg (wrap32 n))) (.slice qa' (doneS (writeS s reg (wrap32 n))).q.length qc'))) (by simp [results, Try.results14, go_sem, stC, u0, u1, u2, u3, u4, u5, u6, u7]) rfl ⟨_, rfl, IsStF.mono (B := w.heap.size + 1 + 1 + 1 + 1) (by omega) ?_, ?_⟩
  · iterate 8 apply stf_set hll
    exact HV3.out
  · iterate 8 apply bel_set hle
    exact B4.out

set_option maxHeartbeats 2000000 in
theorem inputT_uart (v : Value) (s : St) (n : Int) (w : World) (h : IsSt w v s) (hk : s.k = 1) (hq : s.q.length ≤ 1000)  (hs : -2147483648 ≤ s.r0 ∧ s.r0 ≤ 2147483647) :
    Calls Try.prog 19 #[v, .int .i64 n] w fun e w' => ∃ v', e = .returned v' ∧ IsStF w.heap.size w' v' (doneS (inputS s (wrap32 n))) ∧ Below w.heap.size w w' := by
  obtain ⟨qv, rfl, hr⟩ := h
  obtain ⟨qa, qc, rfl⟩ := hr.shape
  have bel0 : Below w.heap.size w (((w.alloc (.cells (stC s (.slice qa s.q.length qc)) 27)).alloc (.cells #[.int .i64 n] 3)).alloc (.cells #[.int .i64 0, .int .i64 0, .int .i64 0, .int .i64 0, .int .i64 0, .slice none 0 0, .int .i64 0, .bool false] 27)) := by
    refine Below.alloc ?_ (by simp; omega) _
    refine Below.alloc ?_ (by simp) _
    exact (Below.refl _ _).alloc (Nat.le_refl _) _
  have hst : IsSt (((w.alloc (.cells (stC s (.slice qa s.q.length qc)) 27)).alloc (.cells #[.int .i64 n] 3)).alloc (.cells #[.int .i64 0, .int .i64 0, .int .i64 0, .int .i64 0, .int .i64 0, .slice none 0 0, .int .i64 0, .bool false] 27)) (.agg (stC s (.slice qa s.q.length qc))) s := ⟨_, rfl, hr.below bel0⟩
  have HK := Lib.hid hk; have HST := Lib.hid hst; have B0 := Lib.hid bel0
  clear hk hst hr bel0
  unfold stC at *
  go_enter Try.func19, Try.ntmps19
  go_wp2_with fail
  refine (withi_uart _ _ s n _ HST.out HK.out hq hs (by go_simp) (by simp)).mono ?_
  rintro e w1 ⟨v', rfl, hv, hb⟩
  have HV := Lib.hid hv; have B1 := Lib.hid hb
  skip
  clear hb
  obtain ⟨qv, hv, hr, hf⟩ := hv
  obtain ⟨qa', qc', rfl⟩ := hr.shape
  clear hr
  have hz : w1.heap[w.heap.size + 1 + 1]? = some (.cells #[.int .i64 0, .int .i64 0, .int .i64 0, .int .i64 0, .int .i64 0, .slice none 0 0, .int .i64 0, .bool false] 27) := bel_in B1.out (by simp) (new_at _ _ _ (by simp))
  have hlt := lt_in hz
  obtain ⟨u0, u1, u2, u3, u4, u5, u6, u7, t0, t1, t2, t3, t4, t5, t6, t7⟩ := cells8 hz
  clear hz
  subst hv
  have hle : w.heap.size ≤ w.heap.size + 1 + 1 := by omega
  have hll : w.heap.size + 1 + 1 < w.heap.size + 1 + 1 + 1 := by omega
  have HV2 : IsStF (w.heap.size + 1 + 1 + 1) w1 (.agg (stC (doneS (inputS s (wrap32 n))) (.slice qa' (doneS (inputS s (wrap32 n))).q.length qc'))) (doneS (inputS s (wrap32 n))) := by simpa using HV.out
  have bel3 : Below w.heap.size w w1 := B0.out.trans (B1.out.mono (by simp; omega))
  have HV3 := Lib.hid HV2; have B4 := Lib.hid bel3
  clear HV HV2 bel3
  unfold stC
  go_wp2_with fail
  refine bodyPost_ret (v := .agg (stC (doneS (inputS s (wrap32 n))) (.slice qa' (doneS (inputS s (wrap32 n))).q.length qc'))) (by simp [results, Try.results19, go_sem, stC, u0, u1, u2, u3, u4, u5, u6, u7]) rfl ⟨_, rfl, IsStF.mono (B := w.heap.size + 1 + 1 + 1) (by omega) ?_, ?_⟩
  · iterate 8 apply stf_set hll
    exact HV3.out
  · iterate 8 apply bel_set hle
    exact B4.out

set_option maxHeartbeats 2000000 in
theorem inputT_timer (v : Value) (s : St) (n : Int) (w : World) (h : IsSt w v s) (hk : s.k = 2) (hq : s.q.length ≤ 1000)  (hs : -2147483648 ≤ s.r0 ∧ s.r0 ≤ 2147483647) :
    Calls Try.prog 19 #[v, .int .i64 n] w fun e w' => ∃ v', e = .returned v' ∧ IsStF w.heap.size w' v' (doneS (inputS s (wrap32 n))) ∧ Below w.heap.size w w' := by
  obtain ⟨qv, rfl, hr⟩ := h
  obtain ⟨qa, qc, rfl⟩ := hr.shape
  have bel0 : Below w.heap.size w (((w.alloc (.cells (stC s (.slice qa s.q.length qc)) 27)).alloc (.cells #[.int .i64 n] 3)).alloc (.cells #[.int .i64 0, .int .i64 0, .int .i64 0, .int .i64 0, .int .i64 0, .slice none 0 0, .int .i64 0, .bool false] 27)) := by
    refine Below.alloc ?_ (by simp; omega) _
    refine Below.alloc ?_ (by simp) _
    exact (Below.refl _ _).alloc (Nat.le_refl _) _
  have hst : IsSt (((w.alloc (.cells (stC s (.slice qa s.q.length qc)) 27)).alloc (.cells #[.int .i64 n] 3)).alloc (.cells #[.int .i64 0, .int .i64 0, .int .i64 0, .int .i64 0, .int .i64 0, .slice none 0 0, .int .i64 0, .bool false] 27)) (.agg (stC s (.slice qa s.q.length qc))) s := ⟨_, rfl, hr.below bel0⟩
  have HK := Lib.hid hk; have HST := Lib.hid hst; have B0 := Lib.hid bel0
  clear hk hst hr bel0
  unfold stC at *
  go_enter Try.func19, Try.ntmps19
  go_wp2_with fail
  refine (withi_timer _ _ s n _ HST.out HK.out hq hs (by go_simp) (by simp)).mono ?_
  rintro e w1 ⟨v', rfl, hv, hb⟩
  have HV := Lib.hid hv; have B1 := Lib.hid hb
  skip
  clear hb
  obtain ⟨qv, hv, hr, hf⟩ := hv
  obtain ⟨qa', qc', rfl⟩ := hr.shape
  clear hr
  have hz : w1.heap[w.heap.size + 1 + 1]? = some (.cells #[.int .i64 0, .int .i64 0, .int .i64 0, .int .i64 0, .int .i64 0, .slice none 0 0, .int .i64 0, .bool false] 27) := bel_in B1.out (by simp) (new_at _ _ _ (by simp))
  have hlt := lt_in hz
  obtain ⟨u0, u1, u2, u3, u4, u5, u6, u7, t0, t1, t2, t3, t4, t5, t6, t7⟩ := cells8 hz
  clear hz
  subst hv
  have hle : w.heap.size ≤ w.heap.size + 1 + 1 := by omega
  have hll : w.heap.size + 1 + 1 < w.heap.size + 1 + 1 + 1 := by omega
  have HV2 : IsStF (w.heap.size + 1 + 1 + 1) w1 (.agg (stC (doneS (inputS s (wrap32 n))) (.slice qa' (doneS (inputS s (wrap32 n))).q.length qc'))) (doneS (inputS s (wrap32 n))) := by simpa using HV.out
  have bel3 : Below w.heap.size w w1 := B0.out.trans (B1.out.mono (by simp; omega))
  have HV3 := Lib.hid HV2; have B4 := Lib.hid bel3
  clear HV HV2 bel3
  unfold stC
  go_wp2_with fail
  refine bodyPost_ret (v := .agg (stC (doneS (inputS s (wrap32 n))) (.slice qa' (doneS (inputS s (wrap32 n))).q.length qc'))) (by simp [results, Try.results19, go_sem, stC, u0, u1, u2, u3, u4, u5, u6, u7]) rfl ⟨_, rfl, IsStF.mono (B := w.heap.size + 1 + 1 + 1) (by omega) ?_, ?_⟩
  · iterate 8 apply stf_set hll
    exact HV3.out
  · iterate 8 apply bel_set hle
    exact B4.out

set_option maxHeartbeats 2000000 in
theorem inputT_gpio (v : Value) (s : St) (n : Int) (w : World) (h : IsSt w v s) (hk : s.k = 3) (hq : s.q.length ≤ 1000)  (hs : -2147483648 ≤ s.r0 ∧ s.r0 ≤ 2147483647) :
    Calls Try.prog 19 #[v, .int .i64 n] w fun e w' => ∃ v', e = .returned v' ∧ IsStF w.heap.size w' v' (doneS (inputS s (wrap32 n))) ∧ Below w.heap.size w w' := by
  obtain ⟨qv, rfl, hr⟩ := h
  obtain ⟨qa, qc, rfl⟩ := hr.shape
  have bel0 : Below w.heap.size w (((w.alloc (.cells (stC s (.slice qa s.q.length qc)) 27)).alloc (.cells #[.int .i64 n] 3)).alloc (.cells #[.int .i64 0, .int .i64 0, .int .i64 0, .int .i64 0, .int .i64 0, .slice none 0 0, .int .i64 0, .bool false] 27)) := by
    refine Below.alloc ?_ (by simp; omega) _
    refine Below.alloc ?_ (by simp) _
    exact (Below.refl _ _).alloc (Nat.le_refl _) _
  have hst : IsSt (((w.alloc (.cells (stC s (.slice qa s.q.length qc)) 27)).alloc (.cells #[.int .i64 n] 3)).alloc (.cells #[.int .i64 0, .int .i64 0, .int .i64 0, .int .i64 0, .int .i64 0, .slice none 0 0, .int .i64 0, .bool false] 27)) (.agg (stC s (.slice qa s.q.length qc))) s := ⟨_, rfl, hr.below bel0⟩
  have HK := Lib.hid hk; have HST := Lib.hid hst; have B0 := Lib.hid bel0
  clear hk hst hr bel0
  unfold stC at *
  go_enter Try.func19, Try.ntmps19
  go_wp2_with fail
  refine (withi_gpio _ _ s n _ HST.out HK.out hq hs (by go_simp) (by simp)).mono ?_
  rintro e w1 ⟨v', rfl, hv, hb⟩
  have HV := Lib.hid hv; have B1 := Lib.hid hb
  skip
  clear hb
  obtain ⟨qv, hv, hr, hf⟩ := hv
  obtain ⟨qa', qc', rfl⟩ := hr.shape
  clear hr
  have hz : w1.heap[w.heap.size + 1 + 1]? = some (.cells #[.int .i64 0, .int .i64 0, .int .i64 0, .int .i64 0, .int .i64 0, .slice none 0 0, .int .i64 0, .bool false] 27) := bel_in B1.out (by simp) (new_at _ _ _ (by simp))
  have hlt := lt_in hz
  obtain ⟨u0, u1, u2, u3, u4, u5, u6, u7, t0, t1, t2, t3, t4, t5, t6, t7⟩ := cells8 hz
  clear hz
  subst hv
  have hle : w.heap.size ≤ w.heap.size + 1 + 1 := by omega
  have hll : w.heap.size + 1 + 1 < w.heap.size + 1 + 1 + 1 := by omega
  have HV2 : IsStF (w.heap.size + 1 + 1 + 1) w1 (.agg (stC (doneS (inputS s (wrap32 n))) (.slice qa' (doneS (inputS s (wrap32 n))).q.length qc'))) (doneS (inputS s (wrap32 n))) := by simpa using HV.out
  have bel3 : Below w.heap.size w w1 := B0.out.trans (B1.out.mono (by simp; omega))
  have HV3 := Lib.hid HV2; have B4 := Lib.hid bel3
  clear HV HV2 bel3
  unfold stC
  go_wp2_with fail
  refine bodyPost_ret (v := .agg (stC (doneS (inputS s (wrap32 n))) (.slice qa' (doneS (inputS s (wrap32 n))).q.length qc'))) (by simp [results, Try.results19, go_sem, stC, u0, u1, u2, u3, u4, u5, u6, u7]) rfl ⟨_, rfl, IsStF.mono (B := w.heap.size + 1 + 1 + 1) (by omega) ?_, ?_⟩
  · iterate 8 apply stf_set hll
    exact HV3.out
  · iterate 8 apply bel_set hle
    exact B4.out

set_option maxHeartbeats 2000000 in
theorem readT_uart (v : Value) (s : St) (reg : Int) (w : World) (h : IsSt w v s) (hk : s.k = 1) (hq : s.q.length ≤ 1000) (hreg : 0 ≤ reg ∧ reg < 4)  :
    Calls Try.prog 15 #[v, .int .i64 reg] w fun e w' => ∃ v', e = .returned (.tuple #[.int .i64 (readN s reg), v']) ∧ IsStF w.heap.size w' v' (doneS (readS s reg)) ∧ Below w.heap.size w w' := by
  obtain ⟨qv, rfl, hr⟩ := h
  obtain ⟨qa, qc, rfl⟩ := hr.shape
  have bel0 : Below w.heap.size w ((((w.alloc (.cells (stC s (.slice qa s.q.length qc)) 27)).alloc (.cells #[.int .i64 reg] 3)).alloc (.cells #[.int .i64 0] 3)).alloc (.cells #[.int .i64 0, .int .i64 0, .int .i64 0, .int .i64 0, .int .i64 0, .slice none 0 0, .int .i64 0, .bool false] 27)) := by
    refine Below.alloc ?_ (by simp; omega) _
    refine Below.alloc ?_ (by simp; omega) _
    refine Below.alloc ?_ (by simp) _
    exact (Below.refl _ _).alloc (Nat.le_refl _) _
  have hst : IsSt ((((w.alloc (.cells (stC s (.slice qa s.q.length qc)) 27)).alloc (.cells #[.int .i64 reg] 3)).alloc (.cells #[.int .i64 0] 3)).alloc (.cells #[.int .i64 0, .int .i64 0, .int .i64 0, .int .i64 0, .int .i64 0, .slice none 0 0, .int .i64 0, .bool false] 27)) (.agg (stC s (.slice qa s.q.length qc))) s := ⟨_, rfl, hr.below bel0⟩
  have HK := Lib.hid hk; have HST := Lib.hid hst; have B0 := Lib.hid bel0
  clear hk hst hr bel0
  unfold stC at *
  go_enter Try.func15, Try.ntmps15
  go_wp2_with fail
  refine (withr_uart _ _ _ s reg (.int .i64 0) 3 _ HST.out HK.out hq hreg (by go_simp) (by simp) (by exact bel_in (B := w.heap.size + 1 + 1 + 1) (((Below.refl _ _).alloc (by simp) _)) (by omega) (new_at _ _ _ (by simp))) (by simp)).mono ?_
  rintro e w1 ⟨v', rfl, hv, hb, hp⟩
  have HV := Lib.hid hv; have B1 := Lib.hid hb
  have HP := Lib.hid hp; clear hp
  clear hb
  obtain ⟨qv, hv, hr, hf⟩ := hv
  obtain ⟨qa', qc', rfl⟩ := hr.shape
  clear hr
  have hz : w1.heap[w.heap.size + 1 + 1 + 1]? = some (.cells #[.int .i64 0, .int .i64 0, .int .i64 0, .int .i64 0, .int .i64 0, .slice none 0 0, .int .i64 0, .bool false] 27) := (B1.out.block _ (by simp) (by simp)).trans (new_at _ _ _ (by simp))
  have hlt := lt_in hz
  obtain ⟨u0, u1, u2, u3, u4, u5, u6, u7, t0, t1, t2, t3, t4, t5, t6, t7⟩ := cells8 hz
  clear hz
  subst hv
  have hle : w.heap.size ≤ w.heap.size + 1 + 1 + 1 := by omega
  have hll : w.heap.size + 1 + 1 + 1 < w.heap.size + 1 + 1 + 1 + 1 := by omega
  have HV2 : IsStF (w.heap.size + 1 + 1 + 1 + 1) w1 (.agg (stC (doneS (readS s reg)) (.slice qa' (doneS (readS s reg)).q.length qc'))) (doneS (readS s reg)) := by simpa using HV.out
  have bel3 : Below w.heap.size w w1 := ⟨B1.out.os.trans B0.out.os, B1.out.tape.trans B0.out.tape, B1.out.output.trans B0.out.output, Nat.le_trans B0.out.size B1.out.size, fun k hk => (B1.out.block k (by simp; omega) (by simp; omega)).trans (B0.out.block k hk)⟩
  have hpc := cell_in (j := 0) HP.out rfl
  simp only [List.getElem_toArray, List.getElem_cons_zero] at hpc
  have hltp := lt_in HP.out
  have HV3 := Lib.hid HV2; have B4 := Lib.hid bel3
  clear HV HV2 bel3
  unfold stC
  go_wp2_with fail
  refine bodyPost_ret (v := .tuple #[.int .i64 (readN s reg), .agg (stC (doneS (readS s reg)) (.slice qa' (doneS (readS s reg)).q.length qc'))]) (by simp [results, Try.results15, go_sem, stC, u0, u1, u2, u3, u4, u5, u6, u7, hpc]) rfl ⟨_, rfl, IsStF.mono (B := w.heap.size + 1 + 1 + 1 + 1) (by omega) ?_, ?_⟩
  · iterate 8 apply stf_set hll
    exact HV3.out
  · iterate 8 apply bel_set hle
    exact B4.out

set_option maxHeartbeats 2000000 in
theorem readT_timer (v : Value) (s : St) (reg : Int) (w : World) (h : IsSt w v s) (hk : s.k = 2) (hq : s.q.length ≤ 1000) (hreg : 0 ≤ reg ∧ reg < 4)  :
    Calls Try.prog 15 #[v, .int .i64 reg] w fun e w' => ∃ v', e = .returned (.tuple #[.int .i64 (readN s reg), v']) ∧ IsStF w.heap.size w' v' (doneS (readS s reg)) ∧ Below w.heap.size w w' := by
  obtain ⟨qv, rfl, hr⟩ := h
  obtain ⟨qa, qc, rfl⟩ := hr.shape
  have bel0 : Below w.heap.size w ((((w.alloc (.cells (stC s (.slice qa s.q.length qc)) 27)).alloc (.cells #[.int .i64 reg] 3)).alloc (.cells #[.int .i64 0] 3)).alloc (.cells #[.int .i64 0, .int .i64 0, .int .i64 0, .int .i64 0, .int .i64 0, .slice none 0 0, .int .i64 0, .bool false] 27)) := by
    refine Below.alloc ?_ (by simp; omega) _
    refine Below.alloc ?_ (by simp; omega) _
    refine Below.alloc ?_ (by simp) _
    exact (Below.refl _ _).alloc (Nat.le_refl _) _
  have hst : IsSt ((((w.alloc (.cells (stC s (.slice qa s.q.length qc)) 27)).alloc (.cells #[.int .i64 reg] 3)).alloc (.cells #[.int .i64 0] 3)).alloc (.cells #[.int .i64 0, .int .i64 0, .int .i64 0, .int .i64 0, .int .i64 0, .slice none 0 0, .int .i64 0, .bool false] 27)) (.agg (stC s (.slice qa s.q.length qc))) s := ⟨_, rfl, hr.below bel0⟩
  have HK := Lib.hid hk; have HST := Lib.hid hst; have B0 := Lib.hid bel0
  clear hk hst hr bel0
  unfold stC at *
  go_enter Try.func15, Try.ntmps15
  go_wp2_with fail
  refine (withr_timer _ _ _ s reg (.int .i64 0) 3 _ HST.out HK.out hq hreg (by go_simp) (by simp) (by exact bel_in (B := w.heap.size + 1 + 1 + 1) (((Below.refl _ _).alloc (by simp) _)) (by omega) (new_at _ _ _ (by simp))) (by simp)).mono ?_
  rintro e w1 ⟨v', rfl, hv, hb, hp⟩
  have HV := Lib.hid hv; have B1 := Lib.hid hb
  have HP := Lib.hid hp; clear hp
  clear hb
  obtain ⟨qv, hv, hr, hf⟩ := hv
  obtain ⟨qa', qc', rfl⟩ := hr.shape
  clear hr
  have hz : w1.heap[w.heap.size + 1 + 1 + 1]? = some (.cells #[.int .i64 0, .int .i64 0, .int .i64 0, .int .i64 0, .int .i64 0, .slice none 0 0, .int .i64 0, .bool false] 27) := (B1.out.block _ (by simp) (by simp)).trans (new_at _ _ _ (by simp))
  have hlt := lt_in hz
  obtain ⟨u0, u1, u2, u3, u4, u5, u6, u7, t0, t1, t2, t3, t4, t5, t6, t7⟩ := cells8 hz
  clear hz
  subst hv
  have hle : w.heap.size ≤ w.heap.size + 1 + 1 + 1 := by omega
  have hll : w.heap.size + 1 + 1 + 1 < w.heap.size + 1 + 1 + 1 + 1 := by omega
  have HV2 : IsStF (w.heap.size + 1 + 1 + 1 + 1) w1 (.agg (stC (doneS (readS s reg)) (.slice qa' (doneS (readS s reg)).q.length qc'))) (doneS (readS s reg)) := by simpa using HV.out
  have bel3 : Below w.heap.size w w1 := ⟨B1.out.os.trans B0.out.os, B1.out.tape.trans B0.out.tape, B1.out.output.trans B0.out.output, Nat.le_trans B0.out.size B1.out.size, fun k hk => (B1.out.block k (by simp; omega) (by simp; omega)).trans (B0.out.block k hk)⟩
  have hpc := cell_in (j := 0) HP.out rfl
  simp only [List.getElem_toArray, List.getElem_cons_zero] at hpc
  have hltp := lt_in HP.out
  have HV3 := Lib.hid HV2; have B4 := Lib.hid bel3
  clear HV HV2 bel3
  unfold stC
  go_wp2_with fail
  refine bodyPost_ret (v := .tuple #[.int .i64 (readN s reg), .agg (stC (doneS (readS s reg)) (.slice qa' (doneS (readS s reg)).q.length qc'))]) (by simp [results, Try.results15, go_sem, stC, u0, u1, u2, u3, u4, u5, u6, u7, hpc]) rfl ⟨_, rfl, IsStF.mono (B := w.heap.size + 1 + 1 + 1 + 1) (by omega) ?_, ?_⟩
  · iterate 8 apply stf_set hll
    exact HV3.out
  · iterate 8 apply bel_set hle
    exact B4.out

set_option maxHeartbeats 2000000 in
theorem readT_gpio (v : Value) (s : St) (reg : Int) (w : World) (h : IsSt w v s) (hk : s.k = 3) (hq : s.q.length ≤ 1000) (hreg : 0 ≤ reg ∧ reg < 4)  :
    Calls Try.prog 15 #[v, .int .i64 reg] w fun e w' => ∃ v', e = .returned (.tuple #[.int .i64 (readN s reg), v']) ∧ IsStF w.heap.size w' v' (doneS (readS s reg)) ∧ Below w.heap.size w w' := by
  obtain ⟨qv, rfl, hr⟩ := h
  obtain ⟨qa, qc, rfl⟩ := hr.shape
  have bel0 : Below w.heap.size w ((((w.alloc (.cells (stC s (.slice qa s.q.length qc)) 27)).alloc (.cells #[.int .i64 reg] 3)).alloc (.cells #[.int .i64 0] 3)).alloc (.cells #[.int .i64 0, .int .i64 0, .int .i64 0, .int .i64 0, .int .i64 0, .slice none 0 0, .int .i64 0, .bool false] 27)) := by
    refine Below.alloc ?_ (by simp; omega) _
    refine Below.alloc ?_ (by simp; omega) _
    refine Below.alloc ?_ (by simp) _
    exact (Below.refl _ _).alloc (Nat.le_refl _) _
  have hst : IsSt ((((w.alloc (.cells (stC s (.slice qa s.q.length qc)) 27)).alloc (.cells #[.int .i64 reg] 3)).alloc (.cells #[.int .i64 0] 3)).alloc (.cells #[.int .i64 0, .int .i64 0, .int .i64 0, .int .i64 0, .int .i64 0, .slice none 0 0, .int .i64 0, .bool false] 27)) (.agg (stC s (.slice qa s.q.length qc))) s := ⟨_, rfl, hr.below bel0⟩
  have HK := Lib.hid hk; have HST := Lib.hid hst; have B0 := Lib.hid bel0
  clear hk hst hr bel0
  unfold stC at *
  go_enter Try.func15, Try.ntmps15
  go_wp2_with fail
  refine (withr_gpio _ _ _ s reg (.int .i64 0) 3 _ HST.out HK.out hq hreg (by go_simp) (by simp) (by exact bel_in (B := w.heap.size + 1 + 1 + 1) (((Below.refl _ _).alloc (by simp) _)) (by omega) (new_at _ _ _ (by simp))) (by simp)).mono ?_
  rintro e w1 ⟨v', rfl, hv, hb, hp⟩
  have HV := Lib.hid hv; have B1 := Lib.hid hb
  have HP := Lib.hid hp; clear hp
  clear hb
  obtain ⟨qv, hv, hr, hf⟩ := hv
  obtain ⟨qa', qc', rfl⟩ := hr.shape
  clear hr
  have hz : w1.heap[w.heap.size + 1 + 1 + 1]? = some (.cells #[.int .i64 0, .int .i64 0, .int .i64 0, .int .i64 0, .int .i64 0, .slice none 0 0, .int .i64 0, .bool false] 27) := (B1.out.block _ (by simp) (by simp)).trans (new_at _ _ _ (by simp))
  have hlt := lt_in hz
  obtain ⟨u0, u1, u2, u3, u4, u5, u6, u7, t0, t1, t2, t3, t4, t5, t6, t7⟩ := cells8 hz
  clear hz
  subst hv
  have hle : w.heap.size ≤ w.heap.size + 1 + 1 + 1 := by omega
  have hll : w.heap.size + 1 + 1 + 1 < w.heap.size + 1 + 1 + 1 + 1 := by omega
  have HV2 : IsStF (w.heap.size + 1 + 1 + 1 + 1) w1 (.agg (stC (doneS (readS s reg)) (.slice qa' (doneS (readS s reg)).q.length qc'))) (doneS (readS s reg)) := by simpa using HV.out
  have bel3 : Below w.heap.size w w1 := ⟨B1.out.os.trans B0.out.os, B1.out.tape.trans B0.out.tape, B1.out.output.trans B0.out.output, Nat.le_trans B0.out.size B1.out.size, fun k hk => (B1.out.block k (by simp; omega) (by simp; omega)).trans (B0.out.block k hk)⟩
  have hpc := cell_in (j := 0) HP.out rfl
  simp only [List.getElem_toArray, List.getElem_cons_zero] at hpc
  have hltp := lt_in HP.out
  have HV3 := Lib.hid HV2; have B4 := Lib.hid bel3
  clear HV HV2 bel3
  unfold stC
  go_wp2_with fail
  refine bodyPost_ret (v := .tuple #[.int .i64 (readN s reg), .agg (stC (doneS (readS s reg)) (.slice qa' (doneS (readS s reg)).q.length qc'))]) (by simp [results, Try.results15, go_sem, stC, u0, u1, u2, u3, u4, u5, u6, u7, hpc]) rfl ⟨_, rfl, IsStF.mono (B := w.heap.size + 1 + 1 + 1 + 1) (by omega) ?_, ?_⟩
  · iterate 8 apply stf_set hll
    exact HV3.out
  · iterate 8 apply bel_set hle
    exact B4.out
end Go.Proofs.Ytodcmmdobnjbbaa
