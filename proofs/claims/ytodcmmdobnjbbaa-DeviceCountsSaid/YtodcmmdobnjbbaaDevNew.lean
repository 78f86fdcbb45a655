/-
  The contracts of device.New and device.Raises.
-/
import Derived.Test.YtodcmmdobnjbbaaDevTop
namespace Go.Proofs.Ytodcmmdobnjbbaa
open Go.RowKit
def newS (k : Int) : St := ⟨k, 0, 0, 0, 0, [], 0, false⟩
theorem raises_any (v : Value) (s : St) (w : World) (h : IsSt w v s) :
    Calls Try.prog 20 #[v] w fun e w' => e = .returned (.bool s.ra) ∧ Below w.heap.size w w' := by
  obtain ⟨qv, rfl, hr⟩ := h
  obtain ⟨qa, qc, rfl⟩ := hr.shape
  clear hr
  unfold stC
  go_enter Try.func20, Try.ntmps20
  go_wp2_with fail
  go_ret
  exact ⟨ret1 (rbool rfl), (Below.refl _ _).alloc (Nat.le_refl _) _⟩
set_option maxHeartbeats 1000000 in
theorem new_uart (w : World) :
    Calls Try.prog 18 #[.int .i64 1] w fun e w' => ∃ v', e = .returned v' ∧ IsStF w.heap.size w' v' (newS 1) ∧ Below w.heap.size w w' := by
  go_enter Try.func18, Try.ntmps18
  go_wp2_with fail
  refine (of_uart _ (newS 1) _ ⟨_, rfl, Reads.nil _ _⟩ rfl (by decide)).mono ?_
  rintro e w1 ⟨b, rfl, _, hb⟩
  have h0 := bel_in (b := w.heap.size) hb (by simp; omega) (bel_in (B := w.heap.size + 1) ((Below.refl _ _).alloc (by simp) _) (by omega) (new_at _ _ _ rfl))
  have h1 := bel_in (b := w.heap.size + 1) hb (by simp) (new_at _ _ _ (by simp))
  have hl0 := lt_in h0
  have hl1 := lt_in h1
  obtain ⟨u0, u1, u2, u3, u4, u5, u6, u7, t0, t1, t2, t3, t4, t5, t6, t7⟩ := cells8 h0
  obtain ⟨v0, v1, v2, v3, v4, v5, v6, v7, _⟩ := cells8 h1
  have HB := Lib.hid hb
  clear h0 h1 hb
  go_wp2_with fail
  have HV : IsStF (w.heap.size + 1) w1 (.agg (stC (newS 1) (.slice none 0 0))) (newS 1) := ⟨_, rfl, Reads.nil _ _, fun a n c h => by cases h⟩
  have bel : Below w.heap.size w w1 := (((Below.refl _ _).alloc (Nat.le_refl _) _).alloc (by simp) _).trans (HB.out.mono (by simp; omega))
  have hll : w.heap.size < w.heap.size + 1 := by omega
  have hle := Nat.le_refl w.heap.size
  refine bodyPost_ret (v := .agg (stC (newS 1) (.slice none 0 0))) (by simp [results, Try.results18, go_sem, stC, newS, u0, u1, u2, u3, u4, u5, u6, u7]) rfl ⟨_, rfl, IsStF.mono (B := w.heap.size + 1) (by omega) ?_, ?_⟩
  · iterate 8 apply stf_set hll
    exact HV
  · iterate 8 apply bel_set hle
    exact bel
set_option maxHeartbeats 1000000 in
theorem new_timer (w : World) :
    Calls Try.prog 18 #[.int .i64 2] w fun e w' => ∃ v', e = .returned v' ∧ IsStF w.heap.size w' v' (newS 2) ∧ Below w.heap.size w w' := by
  go_enter Try.func18, Try.ntmps18
  go_wp2_with fail
  refine (of_timer _ (newS 2) _ ⟨_, rfl, Reads.nil _ _⟩ rfl (by decide)).mono ?_
  rintro e w1 ⟨b, rfl, _, hb⟩
  have h0 := bel_in (b := w.heap.size) hb (by simp; omega) (bel_in (B := w.heap.size + 1) ((Below.refl _ _).alloc (by simp) _) (by omega) (new_at _ _ _ rfl))
  have h1 := bel_in (b := w.heap.size + 1) hb (by simp) (new_at _ _ _ (by simp))
  have hl0 := lt_in h0
  have hl1 := lt_in h1
  obtain ⟨u0, u1, u2, u3, u4, u5, u6, u7, t0, t1, t2, t3, t4, t5, t6, t7⟩ := cells8 h0
  obtain ⟨v0, v1, v2, v3, v4, v5, v6, v7, _⟩ := cells8 h1
  have HB := Lib.hid hb
  clear h0 h1 hb
  go_wp2_with fail
  have HV : IsStF (w.heap.size + 1) w1 (.agg (stC (newS 2) (.slice none 0 0))) (newS 2) := ⟨_, rfl, Reads.nil _ _, fun a n c h => by cases h⟩
  have bel : Below w.heap.size w w1 := (((Below.refl _ _).alloc (Nat.le_refl _) _).alloc (by simp) _).trans (HB.out.mono (by simp; omega))
  have hll : w.heap.size < w.heap.size + 1 := by omega
  have hle := Nat.le_refl w.heap.size
  refine bodyPost_ret (v := .agg (stC (newS 2) (.slice none 0 0))) (by simp [results, Try.results18, go_sem, stC, newS, u0, u1, u2, u3, u4, u5, u6, u7]) rfl ⟨_, rfl, IsStF.mono (B := w.heap.size + 1) (by omega) ?_, ?_⟩
  · iterate 8 apply stf_set hll
    exact HV
  · iterate 8 apply bel_set hle
    exact bel
set_option maxHeartbeats 1000000 in
theorem new_gpio (w : World) :
    Calls Try.prog 18 #[.int .i64 3] w fun e w' => ∃ v', e = .returned v' ∧ IsStF w.heap.size w' v' (newS 3) ∧ Below w.heap.size w w' := by
  go_enter Try.func18, Try.ntmps18
  go_wp2_with fail
  refine (of_gpio _ (newS 3) _ ⟨_, rfl, Reads.nil _ _⟩ rfl (by decide)).mono ?_
  rintro e w1 ⟨b, rfl, _, hb⟩
  have h0 := bel_in (b := w.heap.size) hb (by simp; omega) (bel_in (B := w.heap.size + 1) ((Below.refl _ _).alloc (by simp) _) (by omega) (new_at _ _ _ rfl))
  have h1 := bel_in (b := w.heap.size + 1) hb (by simp) (new_at _ _ _ (by simp))
  have hl0 := lt_in h0
  have hl1 := lt_in h1
  obtain ⟨u0, u1, u2, u3, u4, u5, u6, u7, t0, t1, t2, t3, t4, t5, t6, t7⟩ := cells8 h0
  obtain ⟨v0, v1, v2, v3, v4, v5, v6, v7, _⟩ := cells8 h1
  have HB := Lib.hid hb
  clear h0 h1 hb
  go_wp2_with fail
  have HV : IsStF (w.heap.size + 1) w1 (.agg (stC (newS 3) (.slice none 0 0))) (newS 3) := ⟨_, rfl, Reads.nil _ _, fun a n c h => by cases h⟩
  have bel : Below w.heap.size w w1 := (((Below.refl _ _).alloc (Nat.le_refl _) _).alloc (by simp) _).trans (HB.out.mono (by simp; omega))
  have hll : w.heap.size < w.heap.size + 1 := by omega
  have hle := Nat.le_refl w.heap.size
  refine bodyPost_ret (v := .agg (stC (newS 3) (.slice none 0 0))) (by simp [results, Try.results18, go_sem, stC, newS, u0, u1, u2, u3, u4, u5, u6, u7]) rfl ⟨_, rfl, IsStF.mono (B := w.heap.size + 1) (by omega) ?_, ?_⟩
  · iterate 8 apply stf_set hll
    exact HV
  · iterate 8 apply bel_set hle
    exact bel

theorem new_any (k : Int) (w : World) (hk : 1 ≤ k ∧ k ≤ 3) :
    Calls Try.prog 18 #[.int .i64 k] w fun e w' => ∃ v', e = .returned v' ∧ IsStF w.heap.size w' v' (newS k) ∧ Below w.heap.size w w' := by
  have : k = 1 ∨ k = 2 ∨ k = 3 := by omega
  rcases this with rfl | rfl | rfl
  · exact new_uart w
  · exact new_timer w
  · exact new_gpio w
end Go.Proofs.Ytodcmmdobnjbbaa
