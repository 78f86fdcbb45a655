/-
  The contracts of device.of and device.New at a kind that no device has.
-/
import Derived.Test.YtodcmmdobnjbbaaDevNew
import Derived.Test.YtodcmmdobnjbbaaDevMade
namespace Go.Proofs.Ytodcmmdobnjbbaa
open Go.RowKit
set_option maxHeartbeats 1000000 in
theorem of_other (v : Value) (s : St) (w : World) (h : IsSt w v s) (h1 : ¬ s.k = 1) (h2 : ¬ s.k = 2) (h3 : ¬ s.k = 3) (hq : s.q.length ≤ 1000) :
    Calls Try.prog 26 #[v] w fun e w' => e = .returned .nilIface ∧ Below w.heap.size w w' := by
  obtain ⟨qv, rfl, hr⟩ := h
  obtain ⟨qa, qc, rfl⟩ := hr.shape
  have hr' : Reads (w.alloc (.cells (stC s (.slice qa s.q.length qc)) 27)) 1 s.q.length (.slice qa s.q.length qc) (qL s) := hr.below ((Below.refl _ _).alloc (Nat.le_refl _) _)
  have HR := Lib.hid hr'; clear hr hr'
  obtain ⟨k, r0, r1, r2, r3, q, sent, ra⟩ := s
  simp only at h1 h2 h3 hq
  unfold stC at *
  go_enter Try.func26, Try.ntmps26
  go_wp2_with fail
  refine (clone_int _ _ _ _ HR.out (by omega)).mono ?_
  rintro e w1 ⟨v1, rfl, hown, hbel⟩
  obtain ⟨a1, c1, rfl⟩ := own_shape hown
  have hbl := bel_in hbel (by simp) (new_in w _)
  have hlt := lt_in hbl
  obtain ⟨g0, g1, g2, g3, g4, g5, g6, g7, f0, f1, f2, f3, f4, f5, f6, f7⟩ := cells8 hbl
  have HB := Lib.hid hbel; have HO := Lib.hid hown; have HL := Lib.hid hbl
  clear hbel hown hbl
  go_wp2_with fail
  go_ret
  exact ⟨rfl, (((Below.refl _ _).alloc (Nat.le_refl _) _).trans (HB.out.mono (by simp))).setCell (Nat.le_refl _) _⟩
set_option maxHeartbeats 1000000 in
theorem new_other (k : Int) (h1 : ¬ k = 1) (h2 : ¬ k = 2) (h3 : ¬ k = 3) (w : World) :
    Calls Try.prog 18 #[.int .i64 k] w fun e w' => ∃ v', e = .returned v' ∧ IsStF w.heap.size w' v' (newS 0) ∧ Below w.heap.size w w' := by
  go_enter Try.func18, Try.ntmps18
  go_wp2_with fail
  refine (of_other _ (newS k) _ ⟨_, rfl, Reads.nil _ _⟩ h1 h2 h3 (by simp [newS])).mono ?_
  rintro e w1 ⟨rfl, hb⟩
  have h0 := bel_in (b := w.heap.size) hb (by simp; omega) (bel_in (B := w.heap.size + 1) ((Below.refl _ _).alloc (by simp) _) (by omega) (new_at _ _ _ rfl))
  have hl0 := lt_in h0
  obtain ⟨u0, u1, u2, u3, u4, u5, u6, u7, t0, t1, t2, t3, t4, t5, t6, t7⟩ := cells8 h0
  have HB := Lib.hid hb
  clear h0 hb
  go_wp2_with fail
  have HV : IsStF (w.heap.size + 1) w1 (.agg (stC (newS 0) (.slice none 0 0))) (newS 0) := ⟨_, rfl, Reads.nil _ _, fun a n c h => by cases h⟩
  have bel : Below w.heap.size w w1 := (((Below.refl _ _).alloc (Nat.le_refl _) _).alloc (by simp) _).trans (HB.out.mono (by simp; omega))
  have hll : w.heap.size < w.heap.size + 1 := by omega
  have hle := Nat.le_refl w.heap.size
  refine bodyPost_ret (v := .agg (stC (newS 0) (.slice none 0 0))) (by simp [results, Try.results18, go_sem, stC, newS, u0, u1, u2, u3, u4, u5, u6, u7]) rfl ⟨_, rfl, IsStF.mono (B := w.heap.size + 1) (by omega) ?_, ?_⟩
  · iterate 8 apply stf_set hll
    exact HV
  · iterate 8 apply bel_set hle
    exact bel
end Go.Proofs.Ytodcmmdobnjbbaa
