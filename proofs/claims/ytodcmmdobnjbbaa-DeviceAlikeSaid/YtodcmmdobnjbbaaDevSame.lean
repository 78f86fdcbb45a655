/-
  The contracts of slices.Equal at []int and device.Same.
-/
import Derived.Test.YtodcmmdobnjbbaaDevMath
import Derived.Test.YtodcmmdobnjbbaaRows
import Derived.Test.YtodcmmdobnjbbaaWrapWalks
import Derived.Deep.QuietTactic
import Derived.BigQuiet
namespace Go.Proofs.Ytodcmmdobnjbbaa
open Go.RowKit
theorem Reads.cells {w : World} {k n : Nat} {v : Value} {xs : List Value} (h : Reads w k n v xs) (hn : 0 < n) :
    ∃ b o c, v = .slice (some ⟨b, o, none⟩) n c ∧ n ≤ c ∧ c ≤ maxLen ∧ ∀ j u, xs[j]? = some u → w.cell? ⟨b, o + j, none⟩ = some u := by
  rcases h.2.2 with ⟨_, h0⟩ | ⟨b, o, c, hv, _, hc, hm, hcell⟩
  · omega
  · exact ⟨b, o, c, hv, hc, hm, hcell⟩
theorem below_drewN {B : Nat} {a w : World} (h : Below B a w) (n : Nat) : Below B a (w.drewN n) := ⟨h.os, h.tape, h.output, h.size, h.block⟩
set_option maxHeartbeats 1000000 in
theorem equal_int (v v' : Value) (xs ys : List Int) (w : World) (h : Reads w 1 xs.length v (xs.map (Value.int .i64))) (h' : Reads w 1 ys.length v' (ys.map (Value.int .i64))) :
    Calls Try.prog 25 #[v, v'] w fun e w' => e = .returned (.bool (decide (xs = ys))) ∧ Below w.heap.size w w' := by
  obtain ⟨a, c, rfl⟩ := h.shape
  obtain ⟨a', c', rfl⟩ := h'.shape
  have HR := Lib.hid h; have HR' := Lib.hid h'; clear h h'
  by_cases hl : xs.length = ys.length
  · have hlb : (((xs.length : Nat) : Int) != ((ys.length : Nat) : Int)) = false := by simp [hl]
    by_cases h0 : xs.length = 0
    · have hx0 : xs = [] := List.eq_nil_of_length_eq_zero h0
      have hy0 : ys = [] := List.eq_nil_of_length_eq_zero (by omega)
      subst hx0 hy0
      simp only [List.length_nil] at *
      go_enter Try.func25, Try.ntmps25
      go_wp2_with fail
      refine wp_loop_rounds 1 ?_
      rw [rounds_succ]
      go_wp2_with fail
      go_ret
      exact ⟨ret1 (rbool (by simp)), Below.refl _ _⟩
    · obtain ⟨b, o, c0, hv, hc, hm, hcell⟩ := HR.out.cells (by omega)
      obtain ⟨b', o', c0', hv', hc', hm', hcell'⟩ := HR'.out.cells (by omega)
      injection hv with e1 _ e2; injection hv' with e3 _ e4
      subst e1 e2 e3 e4
      have HL := Lib.hid hl
      have HC := Lib.hid hcell; have HC' := Lib.hid hcell'
      clear hcell hcell' hl
      unfold maxLen at hm hm'
      go_enter Try.func25, Try.ntmps25
      go_wp2_with fail
      go_loopw [13] (fun i wr => ∃ k : Nat, k ≤ xs.length ∧ i = .int .i64 k ∧ xs.take k = ys.take k ∧ Below w.heap.size w wr ∧ (∀ a, wr.cell? a = w.cell? a)) (fun i _ => xs.length - (intOf i).toNat)
      case atStart => exact ⟨0, Nat.zero_le _, rfl, rfl, Below.refl _ _, fun _ => rfl⟩
      case round =>
        obtain ⟨k, hk, rfl, ht, hb, hw⟩ := hrel
        have HT := Lib.hid ht; have HB := Lib.hid hb; have HW := Lib.hid hw; clear ht hb hw
        by_cases hlt : k < xs.length
        · have hlt' : k < ys.length := by rw [← HL.out]; exact hlt
          have g1 : wr.cell? ⟨b, o + k, none⟩ = some (.int .i64 (xs[k])) := by rw [HW.out]; exact HC.out k _ (by simp [hlt])
          have g2 : wr.cell? ⟨b', o' + k, none⟩ = some (.int .i64 (ys[k])) := by rw [HW.out]; exact HC'.out k _ (by simp [hlt'])
          by_cases hx : xs[k] = ys[k]
          · have hxb : (xs[k] != ys[k]) = false := by simp [hx]
            have HX := Lib.hid hx; clear hx
            go_wp2_with fail
            go_quiet (fail)
            go_wp2_with fail
            refine ⟨⟨k + 1, by omega, by go_num, ?_, below_drewN HB.out _, HW.out⟩, by simp [intOf]; omega⟩
            rw [List.take_succ_eq_append_getElem hlt, List.take_succ_eq_append_getElem hlt', HT.out, HX.out]
          · have hxb : (xs[k] != ys[k]) = true := by simp [hx]
            have hd : decide (xs = ys) = false := decide_eq_false (fun e => hx (by subst e; rfl))
            have HD := Lib.hid hd; clear hx hd
            go_wp2_with fail
            go_quiet (fail)
            go_wp2_with fail
            go_ret
            exact ⟨ret1 (rbool HD.out.symm), below_drewN HB.out _⟩
        · have hd : decide (xs = ys) = true := decide_eq_true (by
            have e1 := HT.out
            have hkx : k = xs.length := by omega
            rw [hkx, List.take_length, HL.out, List.take_length] at e1
            exact e1)
          have HD := Lib.hid hd; clear hd
          go_wp2_with fail
          go_ret
          exact ⟨ret1 (rbool HD.out.symm), HB.out⟩
  · have hlb : (((xs.length : Nat) : Int) != ((ys.length : Nat) : Int)) = true := by simp; omega
    have hd : decide (xs = ys) = false := decide_eq_false (fun e => hl (by rw [e]))
    rw [hd]
    clear hl hd
    go_enter Try.func25, Try.ntmps25
    go_wp2_with fail
    go_ret
    exact ⟨ret1 (rbool rfl), Below.refl _ _⟩

theorem size_int (w : World) : (sizeOf 3).run Try.prog w = .ok 1 w := by kernel_rfl
theorem part4_0 (a b c d : Int) (w : World) : (part 3 #[.int .i64 a, .int .i64 b, .int .i64 c, .int .i64 d] 0).run Try.prog w = .ok (.int .i64 a) w := by kernel_rfl
theorem part4_1 (a b c d : Int) (w : World) : (part 3 #[.int .i64 a, .int .i64 b, .int .i64 c, .int .i64 d] 1).run Try.prog w = .ok (.int .i64 b) w := by kernel_rfl
theorem part4_2 (a b c d : Int) (w : World) : (part 3 #[.int .i64 a, .int .i64 b, .int .i64 c, .int .i64 d] 2).run Try.prog w = .ok (.int .i64 c) w := by kernel_rfl
theorem part4_3 (a b c d : Int) (w : World) : (part 3 #[.int .i64 a, .int .i64 b, .int .i64 c, .int .i64 d] 3).run Try.prog w = .ok (.int .i64 d) w := by kernel_rfl
theorem eq_int (d : Nat) (a b : Int) (w : World) : (Op.equalIn (d + 1) 3 (.int .i64 a) (.int .i64 b)).run Try.prog w = .ok (a == b) w := run_equalIn_int w d 3 .i64 .i64 a b Try.underlying3
theorem arr4_eq (w : World) (a0 a1 a2 a3 b0 b1 b2 b3 : Int) : (Op.equalIn 10000 24 (.agg #[.int .i64 a0, .int .i64 a1, .int .i64 a2, .int .i64 a3]) (.agg #[.int .i64 b0, .int .i64 b1, .int .i64 b2, .int .i64 b3])).run Try.prog w = .ok (decide (a0 = b0 ∧ a1 = b1 ∧ a2 = b2 ∧ a3 = b3)) w := by
  have e := fun a b w => eq_int 9998 a b w
  rw [show (10000 : Nat) = 9999 + 1 from rfl, Op.equalIn]
  by_cases h0 : a0 = b0
  · by_cases h1 : a1 = b1
    · by_cases h2 : a2 = b2
      · by_cases h3 : a3 = b3
        · simp [run_underlying Try.underlying24, Std.Legacy.Range.forIn_eq_forIn_range', Std.Legacy.Range.size, List.range', part4_0, part4_1, part4_2, part4_3, e, h0, h1, h2, h3]
        · simp [run_underlying Try.underlying24, Std.Legacy.Range.forIn_eq_forIn_range', Std.Legacy.Range.size, List.range', part4_0, part4_1, part4_2, part4_3, e, h0, h1, h2, h3]
      · simp [run_underlying Try.underlying24, Std.Legacy.Range.forIn_eq_forIn_range', Std.Legacy.Range.size, List.range', part4_0, part4_1, part4_2, part4_3, e, h0, h1, h2]
    · simp [run_underlying Try.underlying24, Std.Legacy.Range.forIn_eq_forIn_range', Std.Legacy.Range.size, List.range', part4_0, part4_1, part4_2, part4_3, e, h0, h1]
  · simp [run_underlying Try.underlying24, Std.Legacy.Range.forIn_eq_forIn_range', Std.Legacy.Range.size, List.range', part4_0, e, h0]

def regsEq (s t : St) : Bool := decide (s.r0 = t.r0 ∧ s.r1 = t.r1 ∧ s.r2 = t.r2 ∧ s.r3 = t.r3)
def sameS (s t : St) : Bool := (s.k == t.k) && (regsEq s t && ((s.sent == t.sent) && ((s.ra == t.ra) && decide (s.q = t.q))))
theorem arr4_st (w : World) (s t : St) : (Op.equalIn 10000 24 (.agg #[.int .i64 s.r0, .int .i64 s.r1, .int .i64 s.r2, .int .i64 s.r3]) (.agg #[.int .i64 t.r0, .int .i64 t.r1, .int .i64 t.r2, .int .i64 t.r3])).run Try.prog w = .ok (regsEq s t) w := arr4_eq _ _ _ _ _ _ _ _ _
set_option maxHeartbeats 4000000 in
theorem same_any (v v' : Value) (s t : St) (w : World) (h : IsSt w v s) (h' : IsSt w v' t) :
    Calls Try.prog 17 #[v, v'] w fun e w' => e = .returned (.bool (sameS s t)) ∧ Below w.heap.size w w' := by
  obtain ⟨qv, rfl, hr⟩ := h
  obtain ⟨qa, qc, rfl⟩ := hr.shape
  obtain ⟨qv', rfl, hr'⟩ := h'
  obtain ⟨qa', qc', rfl⟩ := hr'.shape
  have bel : Below w.heap.size w ((w.alloc (.cells (stC s (.slice qa s.q.length qc)) 27)).alloc (.cells (stC t (.slice qa' t.q.length qc')) 27)) := ((Below.refl _ _).alloc (Nat.le_refl _) _).alloc (by simp) _
  have HR := Lib.hid (hr.below bel); have HR' := Lib.hid (hr'.below bel); have HBEL := Lib.hid bel; clear hr hr' bel
  have ha := fun w => arr4_st w s t
  unfold stC at *
  cases hk : (s.k == t.k)
  case false =>
    have e : sameS s t = false := by simp only [sameS, hk, Bool.false_and]
    rw [e]; clear e
    go_enter Try.func17, Try.ntmps17
    go_wp2_with fail
    go_ret
    exact ⟨ret1 (rbool rfl), HBEL.out⟩
  case true =>
  cases hg : regsEq s t
  case false =>
    have e : sameS s t = false := by simp only [sameS, hk, hg, Bool.false_and, Bool.and_false]
    rw [e]; clear e
    go_enter Try.func17, Try.ntmps17
    go_wp2_with fail
    go_ret
    exact ⟨ret1 (rbool rfl), HBEL.out⟩
  case true =>
  cases hs : (s.sent == t.sent)
  case false =>
    have e : sameS s t = false := by simp only [sameS, hk, hg, hs, Bool.false_and, Bool.and_false]
    rw [e]; clear e
    go_enter Try.func17, Try.ntmps17
    go_wp2_with fail
    go_ret
    exact ⟨ret1 (rbool rfl), HBEL.out⟩
  case true =>
  cases hra : (s.ra == t.ra)
  case false =>
    have e : sameS s t = false := by simp only [sameS, hk, hg, hs, hra, Bool.false_and, Bool.and_false]
    rw [e]; clear e
    go_enter Try.func17, Try.ntmps17
    go_wp2_with fail
    go_ret
    exact ⟨ret1 (rbool rfl), HBEL.out⟩
  case true =>
    have e : sameS s t = decide (s.q = t.q) := by simp only [sameS, hk, hg, hs, hra, Bool.true_and]
    rw [e]; clear e
    go_enter Try.func17, Try.ntmps17
    go_wp2_with fail
    refine (equal_int _ _ s.q t.q _ HR.out HR'.out).mono ?_
    rintro e w1 ⟨rfl, hb⟩
    have HB := Lib.hid hb; clear hb
    go_wp2_with fail
    go_ret
    exact ⟨ret1 (rbool rfl), HBEL.out.trans (HB.out.mono (by simp; omega))⟩
end Go.Proofs.Ytodcmmdobnjbbaa
