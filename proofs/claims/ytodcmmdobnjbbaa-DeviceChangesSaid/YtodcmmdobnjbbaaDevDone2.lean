/-
  The contract of device.done: the state behind what was done.
-/
import Derived.Test.YtodcmmdobnjbbaaDevDone
namespace Go.Proofs.Ytodcmmdobnjbbaa
open Go.RowKit

set_option maxHeartbeats 1000000 in
theorem done_uart (F b : Nat) (s : St) (w : World) (h : After F 61 w b s) (hk : s.k = 1) :
    Calls Try.prog 29 #[.iface 57 (.pointer (some ⟨b, 0, none⟩))] w fun e w' => ∃ v, e = .returned v ∧ IsStF F w' v (doneS s) ∧ Below w.heap.size w w' := by
  obtain ⟨qv, hb, hr, hf⟩ := h
  obtain ⟨a1, c1, rfl⟩ := hr.shape
  obtain ⟨k, r0, r1, r2, r3, q, sent, ra⟩ := s
  simp only at hk
  subst hk
  unfold stC at hb
  simp only at hb
  have hlt := lt_in hb
  have HB := Lib.hid hb; have HR := Lib.hid hr
  clear hb hr
  have m1 := meth_told_uart
  have m2 := meth_raises_uart
  go_enter Try.func29, Try.ntmps29
  go_wp2_with fail
  refine (told_any b _ _ _ _ _ _ _ _ _ _ _ _ (bel_in ((Below.refl _ _).alloc (Nat.le_refl _) _) hlt HB.out)).mono ?_
  rintro e w1 ⟨rfl, hbel⟩
  have hn := bel_in hbel (by simp) (new_in w _)
  have hbb := bel_in hbel (by simp; omega) (bel_in ((Below.refl _ _).alloc (Nat.le_refl _) _) hlt HB.out)
  have hlt2 := lt_in hbb
  have hn2 := lt_in hn
  obtain ⟨_, _, _, z3, z4, z5, _, z7, _⟩ := cells8 hbb
  obtain ⟨_, _, _, _, _, _, _, _, t0, t1, t2, t3, t4, t5, t6, t7⟩ := cells8 hn
  obtain ⟨u0, u1, u2, u3, u4, u5, u6, u7, _⟩ := cells8 hn
  have HBEL := Lib.hid hbel
  clear hbel hn hbb
  go_wp2_with fail
  refine (raises_uart _ r2 a1 q.length c1 _ (by go_simp) (by go_simp)).mono ?_
  rintro e w' ⟨rfl, rfl⟩
  go_wp2_with fail
  have hw1 : Below w.heap.size w w1 := ((Below.refl _ _).alloc (Nat.le_refl _) _).trans (HBEL.out.mono (by simp))
  refine bodyPost_ret (v := .agg #[.int .i64 1, .int .i64 r0, .int .i64 r1, .int .i64 r2, .int .i64 r3, .slice a1 q.length c1, .int .i64 sent, .bool (decide (0 < q.length) && (bits .and .i64 r2 1 != 0))]) (by simp [results, Try.results29, go_sem, hn2, u0, u1, u2, u3, u4, u5, u6, u7]) rfl ?_
  have hb : ∀ W, Below w.heap.size w W → ∃ v', Ending.returned (Value.agg #[.int .i64 1, .int .i64 r0, .int .i64 r1, .int .i64 r2, .int .i64 r3, .slice a1 q.length c1, .int .i64 sent, .bool (decide (0 < q.length) && (bits .and .i64 r2 1 != 0))]) = .returned v' ∧ IsStF F W v' (doneS ⟨1, r0, r1, r2, r3, q, sent, ra⟩) ∧ Below w.heap.size w W := fun W hW => st_close HR.out hf rfl rfl hW hW
  refine hb _ ?_
  refine Below.alloc ?_ (by simp only [size_set]; omega) _
  have hle := Nat.le_refl w.heap.size
  iterate 8 apply bel_set hle
  exact hw1

set_option maxHeartbeats 1000000 in
theorem done_timer (F b : Nat) (s : St) (w : World) (h : After F 63 w b s) (hk : s.k = 2) :
    Calls Try.prog 29 #[.iface 62 (.pointer (some ⟨b, 0, none⟩))] w fun e w' => ∃ v, e = .returned v ∧ IsStF F w' v (doneS s) ∧ Below w.heap.size w w' := by
  obtain ⟨qv, hb, hr, hf⟩ := h
  obtain ⟨a1, c1, rfl⟩ := hr.shape
  obtain ⟨k, r0, r1, r2, r3, q, sent, ra⟩ := s
  simp only at hk
  subst hk
  unfold stC at hb
  simp only at hb
  have hlt := lt_in hb
  have HB := Lib.hid hb; have HR := Lib.hid hr
  clear hb hr
  have m1 := meth_told_timer
  have m2 := meth_raises_timer
  go_enter Try.func29, Try.ntmps29
  go_wp2_with fail
  refine (told_any b _ _ _ _ _ _ _ _ _ _ _ _ (bel_in ((Below.refl _ _).alloc (Nat.le_refl _) _) hlt HB.out)).mono ?_
  rintro e w1 ⟨rfl, hbel⟩
  have hn := bel_in hbel (by simp) (new_in w _)
  have hbb := bel_in hbel (by simp; omega) (bel_in ((Below.refl _ _).alloc (Nat.le_refl _) _) hlt HB.out)
  have hlt2 := lt_in hbb
  have hn2 := lt_in hn
  obtain ⟨_, _, _, z3, z4, z5, _, z7, _⟩ := cells8 hbb
  obtain ⟨_, _, _, _, _, _, _, _, t0, t1, t2, t3, t4, t5, t6, t7⟩ := cells8 hn
  obtain ⟨u0, u1, u2, u3, u4, u5, u6, u7, _⟩ := cells8 hn
  have HBEL := Lib.hid hbel
  clear hbel hn hbb
  go_wp2_with fail
  refine (raises_timer _ ra _ (by go_simp)).mono ?_
  rintro e w' ⟨rfl, rfl⟩
  go_wp2_with fail
  have hw1 : Below w.heap.size w w1 := ((Below.refl _ _).alloc (Nat.le_refl _) _).trans (HBEL.out.mono (by simp))
  refine bodyPost_ret (v := .agg #[.int .i64 2, .int .i64 r0, .int .i64 r1, .int .i64 r2, .int .i64 r3, .slice a1 q.length c1, .int .i64 sent, .bool ra]) (by simp [results, Try.results29, go_sem, hn2, u0, u1, u2, u3, u4, u5, u6, u7]) rfl ?_
  have hb : ∀ W, Below w.heap.size w W → ∃ v', Ending.returned (Value.agg #[.int .i64 2, .int .i64 r0, .int .i64 r1, .int .i64 r2, .int .i64 r3, .slice a1 q.length c1, .int .i64 sent, .bool ra]) = .returned v' ∧ IsStF F W v' (doneS ⟨2, r0, r1, r2, r3, q, sent, ra⟩) ∧ Below w.heap.size w W := fun W hW => st_close HR.out hf rfl rfl hW hW
  refine hb _ ?_
  refine Below.alloc ?_ (by simp only [size_set]; omega) _
  have hle := Nat.le_refl w.heap.size
  iterate 8 apply bel_set hle
  exact hw1

set_option maxHeartbeats 1000000 in
theorem done_gpio (F b : Nat) (s : St) (w : World) (h : After F 65 w b s) (hk : s.k = 3) :
    Calls Try.prog 29 #[.iface 64 (.pointer (some ⟨b, 0, none⟩))] w fun e w' => ∃ v, e = .returned v ∧ IsStF F w' v (doneS s) ∧ Below w.heap.size w w' := by
  obtain ⟨qv, hb, hr, hf⟩ := h
  obtain ⟨a1, c1, rfl⟩ := hr.shape
  obtain ⟨k, r0, r1, r2, r3, q, sent, ra⟩ := s
  simp only at hk
  subst hk
  unfold stC at hb
  simp only at hb
  have hlt := lt_in hb
  have HB := Lib.hid hb; have HR := Lib.hid hr
  clear hb hr
  have m1 := meth_told_gpio
  have m2 := meth_raises_gpio
  go_enter Try.func29, Try.ntmps29
  go_wp2_with fail
  refine (told_any b _ _ _ _ _ _ _ _ _ _ _ _ (bel_in ((Below.refl _ _).alloc (Nat.le_refl _) _) hlt HB.out)).mono ?_
  rintro e w1 ⟨rfl, hbel⟩
  have hn := bel_in hbel (by simp) (new_in w _)
  have hbb := bel_in hbel (by simp; omega) (bel_in ((Below.refl _ _).alloc (Nat.le_refl _) _) hlt HB.out)
  have hlt2 := lt_in hbb
  have hn2 := lt_in hn
  obtain ⟨_, _, _, z3, z4, z5, _, z7, _⟩ := cells8 hbb
  obtain ⟨_, _, _, _, _, _, _, _, t0, t1, t2, t3, t4, t5, t6, t7⟩ := cells8 hn
  obtain ⟨u0, u1, u2, u3, u4, u5, u6, u7, _⟩ := cells8 hn
  have HBEL := Lib.hid hbel
  clear hbel hn hbb
  go_wp2_with fail
  refine (raises_gpio _ r3 _ (by go_simp)).mono ?_
  rintro e w' ⟨rfl, rfl⟩
  go_wp2_with fail
  have hw1 : Below w.heap.size w w1 := ((Below.refl _ _).alloc (Nat.le_refl _) _).trans (HBEL.out.mono (by simp))
  refine bodyPost_ret (v := .agg #[.int .i64 3, .int .i64 r0, .int .i64 r1, .int .i64 r2, .int .i64 r3, .slice a1 q.length c1, .int .i64 sent, .bool (r3 != 0)]) (by simp [results, Try.results29, go_sem, hn2, u0, u1, u2, u3, u4, u5, u6, u7]) rfl ?_
  have hb : ∀ W, Below w.heap.size w W → ∃ v', Ending.returned (Value.agg #[.int .i64 3, .int .i64 r0, .int .i64 r1, .int .i64 r2, .int .i64 r3, .slice a1 q.length c1, .int .i64 sent, .bool (r3 != 0)]) = .returned v' ∧ IsStF F W v' (doneS ⟨3, r0, r1, r2, r3, q, sent, ra⟩) ∧ Below w.heap.size w W := fun W hW => st_close HR.out hf rfl rfl hW hW
  refine hb _ ?_
  refine Below.alloc ?_ (by simp only [size_set]; omega) _
  have hle := Nat.le_refl w.heap.size
  iterate 8 apply bel_set hle
  exact hw1
end Go.Proofs.Ytodcmmdobnjbbaa
