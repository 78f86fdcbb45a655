/-
  The contract of device.of: a device that is worked on, in a block of its own.
-/
import Derived.Test.YtodcmmdobnjbbaaDevClone
import Derived.Test.YtodcmmdobnjbbaaDevMath
import Derived.Test.YtodcmmdobnjbbaaWrapWalks
namespace Go.Proofs.Ytodcmmdobnjbbaa
open Go.RowKit
/-- The device that is worked on: its block, whole; its queue a row of its own. -/
def Works (B : Nat) (T : TypeId) (w : World) (b : Nat) (s : St) : Prop :=
  ∃ qv, w.heap[b]? = some (.cells (stC s qv) T (0, 0)) ∧ B ≤ b ∧ w.ownsRow B 3 1 qv s.q.length (qL s) ∧ qv.ownBlock ≠ some b

set_option maxHeartbeats 1000000 in
theorem of_uart (v : Value) (s : St) (w : World) (h : IsSt w v s) (hk : s.k = 1) (hq : s.q.length ≤ 1000) :
    Calls Try.prog 26 #[v] w fun e w' => ∃ b, e = .returned (.iface 57 (.pointer (some ⟨b, 0, none⟩))) ∧ Works w.heap.size 61 w' b s ∧ Below w.heap.size w w' := by
  obtain ⟨qv, rfl, hr⟩ := h
  obtain ⟨qa, qc, rfl⟩ := hr.shape
  have hr' : Reads (w.alloc (.cells (stC s (.slice qa s.q.length qc)) 27)) 1 s.q.length (.slice qa s.q.length qc) (qL s) := hr.below ((Below.refl _ _).alloc (Nat.le_refl _) _)
  have HR := Lib.hid hr'; have HK := Lib.hid hk; clear hr hr'
  obtain ⟨k, r0, r1, r2, r3, q, sent, ra⟩ := s
  simp only at hk hq
  subst hk
  unfold stC at *
  go_enter Try.func26, Try.ntmps26
  go_wp2_with fail
  refine (clone_int _ _ _ _ HR.out (by omega)).mono ?_
  rintro e w1 ⟨v1, rfl, hown, hbel⟩
  obtain ⟨a1, c1, rfl⟩ := own_shape hown
  have hbl := bel_in hbel (by simp) (new_in w _)
  have hlt := lt_in hbl
  obtain ⟨g0, g1, g2, g3, g4, g5, g6, g7, f0, f1, f2, f3, f4, f5, f6, f7⟩ := cells8 hbl
  have HB := Lib.hid hbel; have HO := Lib.hid hown; have HL := Lib.hid hbl
  clear hbel hown hbl
  go_wp2_with fail
  go_ret
  refine ⟨w1.heap.size, rfl, ⟨_, new_set _ _ _ _, Nat.le_of_lt hlt, ?_, own_ne HO.out (Nat.le_refl _)⟩, ?_⟩
  · exact own_base ((ownsRow_setCell_below HO.out (by simp) _).alloc _) (by simp)
  · exact ((((Below.refl _ _).alloc (Nat.le_refl _) _).trans (HB.out.mono (by simp))).setCell (Nat.le_refl _) _).alloc (by rw [size_set]; omega) _

set_option maxHeartbeats 1000000 in
theorem of_timer (v : Value) (s : St) (w : World) (h : IsSt w v s) (hk : s.k = 2) (hq : s.q.length ≤ 1000) :
    Calls Try.prog 26 #[v] w fun e w' => ∃ b, e = .returned (.iface 62 (.pointer (some ⟨b, 0, none⟩))) ∧ Works w.heap.size 63 w' b s ∧ Below w.heap.size w w' := by
  obtain ⟨qv, rfl, hr⟩ := h
  obtain ⟨qa, qc, rfl⟩ := hr.shape
  have hr' : Reads (w.alloc (.cells (stC s (.slice qa s.q.length qc)) 27)) 1 s.q.length (.slice qa s.q.length qc) (qL s) := hr.below ((Below.refl _ _).alloc (Nat.le_refl _) _)
  have HR := Lib.hid hr'; have HK := Lib.hid hk; clear hr hr'
  obtain ⟨k, r0, r1, r2, r3, q, sent, ra⟩ := s
  simp only at hk hq
  subst hk
  unfold stC at *
  go_enter Try.func26, Try.ntmps26
  go_wp2_with fail
  refine (clone_int _ _ _ _ HR.out (by omega)).mono ?_
  rintro e w1 ⟨v1, rfl, hown, hbel⟩
  obtain ⟨a1, c1, rfl⟩ := own_shape hown
  have hbl := bel_in hbel (by simp) (new_in w _)
  have hlt := lt_in hbl
  obtain ⟨g0, g1, g2, g3, g4, g5, g6, g7, f0, f1, f2, f3, f4, f5, f6, f7⟩ := cells8 hbl
  have HB := Lib.hid hbel; have HO := Lib.hid hown; have HL := Lib.hid hbl
  clear hbel hown hbl
  go_wp2_with fail
  go_ret
  refine ⟨w1.heap.size, rfl, ⟨_, new_set _ _ _ _, Nat.le_of_lt hlt, ?_, own_ne HO.out (Nat.le_refl _)⟩, ?_⟩
  · exact own_base ((ownsRow_setCell_below HO.out (by simp) _).alloc _) (by simp)
  · exact ((((Below.refl _ _).alloc (Nat.le_refl _) _).trans (HB.out.mono (by simp))).setCell (Nat.le_refl _) _).alloc (by rw [size_set]; omega) _

set_option maxHeartbeats 1000000 in
theorem of_gpio (v : Value) (s : St) (w : World) (h : IsSt w v s) (hk : s.k = 3) (hq : s.q.length ≤ 1000) :
    Calls Try.prog 26 #[v] w fun e w' => ∃ b, e = .returned (.iface 64 (.pointer (some ⟨b, 0, none⟩))) ∧ Works w.heap.size 65 w' b s ∧ Below w.heap.size w w' := by
  obtain ⟨qv, rfl, hr⟩ := h
  obtain ⟨qa, qc, rfl⟩ := hr.shape
  have hr' : Reads (w.alloc (.cells (stC s (.slice qa s.q.length qc)) 27)) 1 s.q.length (.slice qa s.q.length qc) (qL s) := hr.below ((Below.refl _ _).alloc (Nat.le_refl _) _)
  have HR := Lib.hid hr'; have HK := Lib.hid hk; clear hr hr'
  obtain ⟨k, r0, r1, r2, r3, q, sent, ra⟩ := s
  simp only at hk hq
  subst hk
  unfold stC at *
  go_enter Try.func26, Try.ntmps26
  go_wp2_with fail
  refine (clone_int _ _ _ _ HR.out (by omega)).mono ?_
  rintro e w1 ⟨v1, rfl, hown, hbel⟩
  obtain ⟨a1, c1, rfl⟩ := own_shape hown
  have hbl := bel_in hbel (by simp) (new_in w _)
  have hlt := lt_in hbl
  obtain ⟨g0, g1, g2, g3, g4, g5, g6, g7, f0, f1, f2, f3, f4, f5, f6, f7⟩ := cells8 hbl
  have HB := Lib.hid hbel; have HO := Lib.hid hown; have HL := Lib.hid hbl
  clear hbel hown hbl
  go_wp2_with fail
  go_ret
  refine ⟨w1.heap.size, rfl, ⟨_, new_set _ _ _ _, Nat.le_of_lt hlt, ?_, own_ne HO.out (Nat.le_refl _)⟩, ?_⟩
  · exact own_base ((ownsRow_setCell_below HO.out (by simp) _).alloc _) (by simp)
  · exact ((((Below.refl _ _).alloc (Nat.le_refl _) _).trans (HB.out.mono (by simp))).setCell (Nat.le_refl _) _).alloc (by rw [size_set]; omega) _
end Go.Proofs.Ytodcmmdobnjbbaa
