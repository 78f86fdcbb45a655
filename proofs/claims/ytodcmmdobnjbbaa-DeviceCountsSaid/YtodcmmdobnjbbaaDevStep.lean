/-
  One raw step of a device, and the device that raw steps make: plain, and what the calls return.
-/
import Derived.Test.YtodcmmdobnjbbaaDevNew
import Derived.Test.YtodcmmdobnjbbaaDevSame
import Derived.Test.YtodcmmdobnjbbaaPickMath
namespace Go.Proofs.Ytodcmmdobnjbbaa
open Go.RowKit

theorem pick_any (c n : Int) (w : World) (hc : -9223372036854775808 ≤ c ∧ c ≤ 9223372036854775807) (hn : 0 < n ∧ n ≤ 9223372036854775807) :
    Calls Try.prog 13 #[.int .i64 c, .int .i64 n] w fun e w' => e = .returned (.int .i64 (pickN c n)) ∧ w = w' := by
  have hn0 : (n == 0) = false := by simp; omega
  have hb := pickN_bd c n hn.1
  by_cases h : c < 0
  · have E := Lib.hid (pick_neg c n h)
    go_enter Try.func13, Try.ntmps13
    go_wp2
    go_ret
    exact ⟨ret1 (rint E.out), rfl⟩
  · have E := Lib.hid (pick_pos c n h)
    go_enter Try.func13, Try.ntmps13
    go_wp2
    go_ret
    exact ⟨ret1 (rint E.out), rfl⟩

structure Inv (s : St) : Prop where
  k : 1 ≤ s.k ∧ s.k ≤ 3
  q : s.q.length ≤ 16
  sent : 0 ≤ s.sent ∧ s.sent ≤ 2147483647
  r0 : -2147483648 ≤ s.r0 ∧ s.r0 ≤ 2147483647
theorem and_most (x : Int) : bits .and .i64 x 2147483647 = x % 2147483648 := by
  have e : bits .and .i64 x 2147483647 = (BitVec.ofInt 64 x &&& BitVec.ofInt 64 2147483647).toInt := wrap_i64_nat _
  rw [e, BitVec.toInt_eq_toNat_bmod, BitVec.toNat_and, BitVec.toNat_ofInt, BitVec.toNat_ofInt]
  rw [show ((2147483647 : Int) % (2 ^ 64 : Nat)).toNat = 2147483647 from rfl, Nat.and_two_pow_sub_one_eq_mod _ 31]
  unfold Int.bmod; simp only [Nat.reducePow]; omega
theorem inv_new (k : Int) (h : 1 ≤ k ∧ k ≤ 3) : Inv (newS k) := ⟨h, by simp [newS], by simp [newS], by simp [newS]⟩
theorem inv_done {s : St} (h : Inv s) : Inv (doneS s) := ⟨h.k, h.q, h.sent, h.r0⟩
theorem inv_read {s : St} (h : Inv s) (reg : Int) : Inv (readS s reg) := by
  obtain ⟨hk, hq, hs, h0⟩ := h
  unfold readS; split
  · exact ⟨hk, by simp; omega, hs, h0⟩
  · exact ⟨hk, hq, hs, h0⟩
theorem inv_write {s : St} (h : Inv s) (reg n : Int) (hn : -2147483648 ≤ n ∧ n ≤ 2147483647) : Inv (writeS s reg n) := by
  obtain ⟨hk, hq, hs, h0⟩ := h
  unfold writeS
  repeat' split
  all_goals first | exact ⟨hk, hq, hs, h0⟩ | exact ⟨hk, hq, hs, hn⟩ | exact ⟨hk, hq, by simp only [and_most]; omega, h0⟩
theorem inv_input {s : St} (h : Inv s) (n : Int) : Inv (inputS s n) := by
  obtain ⟨hk, hq, hs, h0⟩ := h
  unfold inputS
  repeat' split
  all_goals first | exact ⟨hk, hq, hs, h0⟩ | exact ⟨hk, hq, hs, w32_bd _⟩ | exact ⟨hk, by simp; omega, hs, h0⟩

/-! The calls at any device that may be. -/
theorem k3 {k : Int} (h : 1 ≤ k ∧ k ≤ 3) : k = 1 ∨ k = 2 ∨ k = 3 := by omega
theorem write_any (v : Value) (s : St) (reg n : Int) (w : World) (h : IsSt w v s) (hi : Inv s) (hreg : 0 ≤ reg ∧ reg < 4) :
    Calls Try.prog 14 #[v, .int .i64 reg, .int .i64 n] w fun e w' => ∃ v', e = .returned v' ∧ IsStF w.heap.size w' v' (doneS (writeS s reg (wrap32 n))) ∧ Below w.heap.size w w' := by
  have hq := hi.q
  rcases k3 hi.k with hk | hk | hk
  · exact writeT_uart v s reg n w h hk (by omega) hreg hi.sent
  · exact writeT_timer v s reg n w h hk (by omega) hreg hi.sent
  · exact writeT_gpio v s reg n w h hk (by omega) hreg hi.sent
theorem input_any (v : Value) (s : St) (n : Int) (w : World) (h : IsSt w v s) (hi : Inv s) :
    Calls Try.prog 19 #[v, .int .i64 n] w fun e w' => ∃ v', e = .returned v' ∧ IsStF w.heap.size w' v' (doneS (inputS s (wrap32 n))) ∧ Below w.heap.size w w' := by
  have hq := hi.q
  rcases k3 hi.k with hk | hk | hk
  · exact inputT_uart v s n w h hk (by omega) hi.r0
  · exact inputT_timer v s n w h hk (by omega) hi.r0
  · exact inputT_gpio v s n w h hk (by omega) hi.r0
theorem read_any (v : Value) (s : St) (reg : Int) (w : World) (h : IsSt w v s) (hi : Inv s) (hreg : 0 ≤ reg ∧ reg < 4) :
    Calls Try.prog 15 #[v, .int .i64 reg] w fun e w' => ∃ v', e = .returned (.tuple #[.int .i64 (readN s reg), v']) ∧ IsStF w.heap.size w' v' (doneS (readS s reg)) ∧ Below w.heap.size w w' := by
  have hq := hi.q
  rcases k3 hi.k with hk | hk | hk
  · exact readT_uart v s reg w h hk (by omega) hreg
  · exact readT_timer v s reg w h hk (by omega) hreg
  · exact readT_gpio v s reg w h hk (by omega) hreg

def stepS (s : St) (r : Int × Int × Int) : St :=
  if pickN r.1 3 = 0 then doneS (readS s (pickN r.2.1 4)) else if pickN r.1 3 = 1 then doneS (writeS s (pickN r.2.1 4) (wrap32 r.2.2)) else doneS (inputS s (wrap32 r.2.2))
def stepN (s : St) (r : Int × Int × Int) : Int := if pickN r.1 3 = 0 then readN s (pickN r.2.1 4) else 0
theorem inv_step {s : St} (h : Inv s) (r : Int × Int × Int) : Inv (stepS s r) := by
  unfold stepS; repeat' split
  · exact inv_done (inv_read h _)
  · exact inv_done (inv_write h _ _ (w32_bd _))
  · exact inv_done (inv_input h _)
set_option maxHeartbeats 1000000 in
theorem step_any (v : Value) (s : St) (a b c : Int) (w : World) (h : IsSt w v s) (hi : Inv s) (ha : I64 a) (hb : I64 b) (_ : I64 c) :
    Calls Try.prog 21 #[v, .agg #[.int .i64 a, .int .i64 b, .int .i64 c]] w fun e w' => ∃ v', e = .returned (.tuple #[.int .i64 (stepN s (a, b, c)), v']) ∧ IsStF w.heap.size w' v' (stepS s (a, b, c)) ∧ Below w.heap.size w w' := by
  obtain ⟨qv, rfl, hr⟩ := h
  obtain ⟨qa, qc, rfl⟩ := hr.shape
  have HR := Lib.hid hr; clear hr
  have p1 := pickN_bd b 4 (by omega)
  have p2 := pickN_bd a 3 (by omega)
  unfold stC
  have bel0 : Below w.heap.size w (((w.alloc (.cells #[Value.int .i64 s.k, .int .i64 s.r0, .int .i64 s.r1, .int .i64 s.r2, .int .i64 s.r3, .slice qa s.q.length qc, .int .i64 s.sent, .bool s.ra] 27)).alloc (.cells #[.int .i64 a, .int .i64 b, .int .i64 c] 43)).alloc (.cells #[.int .i64 0, .int .i64 0, .int .i64 0, .int .i64 0, .int .i64 0, .slice none 0 0, .int .i64 0, .bool false] 27)) := by
    refine Below.alloc ?_ (by simp; omega) _
    refine Below.alloc ?_ (by simp) _
    exact (Below.refl _ _).alloc (Nat.le_refl _) _
  have hst : IsSt (((w.alloc (.cells #[Value.int .i64 s.k, .int .i64 s.r0, .int .i64 s.r1, .int .i64 s.r2, .int .i64 s.r3, .slice qa s.q.length qc, .int .i64 s.sent, .bool s.ra] 27)).alloc (.cells #[.int .i64 a, .int .i64 b, .int .i64 c] 43)).alloc (.cells #[.int .i64 0, .int .i64 0, .int .i64 0, .int .i64 0, .int .i64 0, .slice none 0 0, .int .i64 0, .bool false] 27)) (.agg (stC s (.slice qa s.q.length qc))) s := ⟨_, rfl, HR.out.below bel0⟩
  have HST := Lib.hid hst; have B0 := Lib.hid bel0
  clear hst bel0
  unfold stC at HST
  by_cases h0 : pickN a 3 = 0
  · have hb0 : (pickN a 3 == 0) = true := beq_iff_eq.2 h0
    have e1 : stepS s (a, b, c) = doneS (readS s (pickN b 4)) := by simp [stepS, h0]
    have e2 : stepN s (a, b, c) = readN s (pickN b 4) := by simp [stepN, h0]
    rw [e1, e2]
    clear e1 e2 h0
    go_enter Try.func21, Try.ntmps21
    go_wp2_with (go_at_call 13; refine (pick_any _ _ _ (by omega) (by omega)).mono ?_; rintro e w' ⟨rfl, rfl⟩)
    refine (read_any _ s _ _ HST.out hi p1).mono ?_
    rintro e w1 ⟨v', rfl, hv, hb⟩
    have HV := Lib.hid hv; have B1 := Lib.hid hb
    clear hb
    obtain ⟨qv, hv, hr, hf⟩ := hv
    obtain ⟨qa', qc', rfl⟩ := hr.shape
    clear hr
    have hz : w1.heap[w.heap.size + 1 + 1]? = some (.cells #[.int .i64 0, .int .i64 0, .int .i64 0, .int .i64 0, .int .i64 0, .slice none 0 0, .int .i64 0, .bool false] 27) := bel_in B1.out (by simp) (new_at _ _ _ (by simp))
    have hlt := lt_in hz
    obtain ⟨u0, u1, u2, u3, u4, u5, u6, u7, t0, t1, t2, t3, t4, t5, t6, t7⟩ := cells8 hz
    clear hz
    subst hv
    have hle : w.heap.size ≤ w.heap.size + 1 + 1 := by omega
    have hll : w.heap.size + 1 + 1 < w.heap.size + 1 + 1 + 1 := by omega
    have HV2 : IsStF (w.heap.size + 1 + 1 + 1) w1 (.agg (stC (doneS (readS s (pickN b 4))) (.slice qa' (doneS (readS s (pickN b 4))).q.length qc'))) (doneS (readS s (pickN b 4))) := by simpa using HV.out
    have bel3 : Below w.heap.size w w1 := B0.out.trans (B1.out.mono (by simp; omega))
    have HV3 := Lib.hid HV2; have B4 := Lib.hid bel3
    clear HV HV2 bel3
    unfold stC
    go_wp2_with fail
    refine bodyPost_ret (v := .tuple #[.int .i64 (readN s (pickN b 4)), .agg (stC (doneS (readS s (pickN b 4))) (.slice qa' (doneS (readS s (pickN b 4))).q.length qc'))]) (by simp [results, Try.results21, go_sem, stC, u0, u1, u2, u3, u4, u5, u6, u7]) rfl ⟨_, rfl, IsStF.mono (B := w.heap.size + 1 + 1 + 1) (by omega) ?_, ?_⟩
    · iterate 8 apply stf_set hll
      exact HV3.out
    · iterate 8 apply bel_set hle
      exact B4.out
  by_cases h1 : pickN a 3 = 1
  · have hb0 : (pickN a 3 == 0) = false := beq_eq_false_iff_ne.2 h0
    have hb1 : (pickN a 3 == 1) = true := beq_iff_eq.2 h1
    have e1 : stepS s (a, b, c) = doneS (writeS s (pickN b 4) (wrap32 c)) := by simp [stepS, h1]
    have e2 : stepN s (a, b, c) = 0 := by simp [stepN, h1]
    rw [e1, e2]
    clear e1 e2 h0 h1
    go_enter Try.func21, Try.ntmps21
    go_wp2_with (go_at_call 13; refine (pick_any _ _ _ (by omega) (by omega)).mono ?_; rintro e w' ⟨rfl, rfl⟩)
    refine (write_any _ s _ c _ HST.out hi p1).mono ?_
    rintro e w1 ⟨v', rfl, hv, hb⟩
    have HV := Lib.hid hv; have B1 := Lib.hid hb
    clear hb
    obtain ⟨qv, hv, hr, hf⟩ := hv
    obtain ⟨qa', qc', rfl⟩ := hr.shape
    clear hr
    have hz : w1.heap[w.heap.size + 1 + 1]? = some (.cells #[.int .i64 0, .int .i64 0, .int .i64 0, .int .i64 0, .int .i64 0, .slice none 0 0, .int .i64 0, .bool false] 27) := bel_in B1.out (by simp) (new_at _ _ _ (by simp))
    have hlt := lt_in hz
    obtain ⟨u0, u1, u2, u3, u4, u5, u6, u7, t0, t1, t2, t3, t4, t5, t6, t7⟩ := cells8 hz
    clear hz
    subst hv
    have hle : w.heap.size ≤ w.heap.size + 1 + 1 := by omega
    have hll : w.heap.size + 1 + 1 < w.heap.size + 1 + 1 + 1 := by omega
    have HV2 : IsStF (w.heap.size + 1 + 1 + 1) w1 (.agg (stC (doneS (writeS s (pickN b 4) (wrap32 c))) (.slice qa' (doneS (writeS s (pickN b 4) (wrap32 c))).q.length qc'))) (doneS (writeS s (pickN b 4) (wrap32 c))) := by simpa using HV.out
    have bel3 : Below w.heap.size w w1 := B0.out.trans (B1.out.mono (by simp; omega))
    have HV3 := Lib.hid HV2; have B4 := Lib.hid bel3
    clear HV HV2 bel3
    unfold stC
    go_wp2_with fail
    refine bodyPost_ret (v := .tuple #[.int .i64 (0), .agg (stC (doneS (writeS s (pickN b 4) (wrap32 c))) (.slice qa' (doneS (writeS s (pickN b 4) (wrap32 c))).q.length qc'))]) (by simp [results, Try.results21, go_sem, stC, u0, u1, u2, u3, u4, u5, u6, u7]) rfl ⟨_, rfl, IsStF.mono (B := w.heap.size + 1 + 1 + 1) (by omega) ?_, ?_⟩
    · iterate 8 apply stf_set hll
      exact HV3.out
    · iterate 8 apply bel_set hle
      exact B4.out
  · have hb0 : (pickN a 3 == 0) = false := beq_eq_false_iff_ne.2 h0
    have hb1 : (pickN a 3 == 1) = false := beq_eq_false_iff_ne.2 h1
    have e1 : stepS s (a, b, c) = doneS (inputS s (wrap32 c)) := by simp [stepS, h0, h1]
    have e2 : stepN s (a, b, c) = 0 := by simp [stepN, h0]
    rw [e1, e2]
    clear e1 e2 h0 h1
    go_enter Try.func21, Try.ntmps21
    go_wp2_with (go_at_call 13; refine (pick_any _ _ _ (by omega) (by omega)).mono ?_; rintro e w' ⟨rfl, rfl⟩)
    refine (input_any _ s c _ HST.out hi).mono ?_
    rintro e w1 ⟨v', rfl, hv, hb⟩
    have HV := Lib.hid hv; have B1 := Lib.hid hb
    clear hb
    obtain ⟨qv, hv, hr, hf⟩ := hv
    obtain ⟨qa', qc', rfl⟩ := hr.shape
    clear hr
    have hz : w1.heap[w.heap.size + 1 + 1]? = some (.cells #[.int .i64 0, .int .i64 0, .int .i64 0, .int .i64 0, .int .i64 0, .slice none 0 0, .int .i64 0, .bool false] 27) := bel_in B1.out (by simp) (new_at _ _ _ (by simp))
    have hlt := lt_in hz
    obtain ⟨u0, u1, u2, u3, u4, u5, u6, u7, t0, t1, t2, t3, t4, t5, t6, t7⟩ := cells8 hz
    clear hz
    subst hv
    have hle : w.heap.size ≤ w.heap.size + 1 + 1 := by omega
    have hll : w.heap.size + 1 + 1 < w.heap.size + 1 + 1 + 1 := by omega
    have HV2 : IsStF (w.heap.size + 1 + 1 + 1) w1 (.agg (stC (doneS (inputS s (wrap32 c))) (.slice qa' (doneS (inputS s (wrap32 c))).q.length qc'))) (doneS (inputS s (wrap32 c))) := by simpa using HV.out
    have bel3 : Below w.heap.size w w1 := B0.out.trans (B1.out.mono (by simp; omega))
    have HV3 := Lib.hid HV2; have B4 := Lib.hid bel3
    clear HV HV2 bel3
    unfold stC
    go_wp2_with fail
    refine bodyPost_ret (v := .tuple #[.int .i64 (0), .agg (stC (doneS (inputS s (wrap32 c))) (.slice qa' (doneS (inputS s (wrap32 c))).q.length qc'))]) (by simp [results, Try.results21, go_sem, stC, u0, u1, u2, u3, u4, u5, u6, u7]) rfl ⟨_, rfl, IsStF.mono (B := w.heap.size + 1 + 1 + 1) (by omega) ?_, ?_⟩
    · iterate 8 apply stf_set hll
      exact HV3.out
    · iterate 8 apply bel_set hle
      exact B4.out
end Go.Proofs.Ytodcmmdobnjbbaa
