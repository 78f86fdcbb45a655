/-
  The contracts of the devices' read.
-/
import Derived.Test.YtodcmmdobnjbbaaDevDone
namespace Go.Proofs.Ytodcmmdobnjbbaa
open Go.RowKit

theorem regs_read (b : Nat) (s : St) (T : TypeId) (qa : Option Addr) (qn qc : Nat) (reg : Int) (w : World) (hreg : 0 ≤ reg ∧ reg < 4)
    (hb : w.heap[b]? = some (.cells (stC s (.slice qa qn qc)) T (0, 0))) :
    Calls Try.prog 51 #[.pointer (some ⟨b, 0, none⟩), .int .i64 reg] w fun e w' => e = .returned (.int .i64 (if reg = 0 then s.r0 else if reg = 1 then s.r1 else if reg = 2 then s.r2 else s.r3)) ∧ w = w' := by
  obtain ⟨k, r0, r1, r2, r3, q, sent, ra⟩ := s
  unfold stC at hb
  simp only at hb
  obtain ⟨g0, g1, g2, g3, g4, g5, g6, g7, f0, f1, f2, f3, f4, f5, f6, f7⟩ := cells8 hb
  clear hb
  rcases reg4 hreg with rfl | rfl | rfl | rfl
  all_goals
    clear hreg
    go_enter Try.func51, Try.ntmps51
    go_wp2
    go_ret
    exact ⟨ret1 (rint rfl), rfl⟩

set_option maxHeartbeats 1000000 in
theorem read_timer (B b : Nat) (s : St) (reg : Int) (w : World) (h : Works B 63 w b s) (hk : s.k = 2) (hreg : 0 ≤ reg ∧ reg < 4) :
    Calls Try.prog 54 #[.pointer (some ⟨b, 0, none⟩), .int .i64 reg] w fun e w' => e = .returned (.int .i64 (readN s reg)) ∧ After B 63 w' b (readS s reg) ∧ Below B w w' := by
  obtain ⟨qv, hb, hB, hown, hne⟩ := h
  obtain ⟨a1, c1, rfl⟩ := own_shape hown
  obtain ⟨k, r0, r1, r2, r3, q, sent, ra⟩ := s
  simp only at hk
  subst hk
  unfold stC at hb
  simp only at hb hown hne
  have hlt := lt_in hb
  obtain ⟨g0, g1, g2, g3, g4, g5, g6, g7, f0, f1, f2, f3, f4, f5, f6, f7⟩ := cells8 hb
  have HB := Lib.hid hb; have HO := Lib.hid hown; have HN := Lib.hid hne
  clear hb hown hne
  have hc3 : ∀ r : Int, readS ⟨2, r0, r1, r2, r3, q, sent, ra⟩ r = ⟨2, r0, r1, r2, r3, q, sent, ra⟩ := fun r => by unfold readS; rw [if_neg]; simp
  rw [hc3]; clear hc3
  rcases reg4 hreg with rfl | rfl | rfl | rfl
  · go_enter Try.func54, Try.ntmps54
    go_wp2_with (go_at_call 51; refine (regs_read _ ⟨2, r0, r1, r2, r3, q, sent, ra⟩ _ _ _ _ 0 _ hreg HB.out).mono ?_; rintro e w' ⟨rfl, rfl⟩)
    go_ret
    exact ⟨ret1 (rint rfl), ⟨_, HB.out, Reads.own HO.out (one_qL _), fresh_own HO.out⟩, Below.refl _ _⟩
  · go_enter Try.func54, Try.ntmps54
    go_wp2_with (go_at_call 51; refine (regs_read _ ⟨2, r0, r1, r2, r3, q, sent, ra⟩ _ _ _ _ 1 _ hreg HB.out).mono ?_; rintro e w' ⟨rfl, rfl⟩)
    go_ret
    exact ⟨ret1 (rint rfl), ⟨_, HB.out, Reads.own HO.out (one_qL _), fresh_own HO.out⟩, Below.refl _ _⟩
  · go_enter Try.func54, Try.ntmps54
    go_wp2_with (go_at_call 51; refine (regs_read _ ⟨2, r0, r1, r2, r3, q, sent, ra⟩ _ _ _ _ 2 _ hreg HB.out).mono ?_; rintro e w' ⟨rfl, rfl⟩)
    go_ret
    exact ⟨ret1 (rint rfl), ⟨_, HB.out, Reads.own HO.out (one_qL _), fresh_own HO.out⟩, Below.refl _ _⟩
  · cases ra
    all_goals
      go_enter Try.func54, Try.ntmps54
      go_wp2_with fail
      go_ret
      exact ⟨ret1 (rint rfl), ⟨_, HB.out, Reads.own HO.out (one_qL _), fresh_own HO.out⟩, Below.refl _ _⟩

set_option maxHeartbeats 1000000 in
theorem read_gpio (B b : Nat) (s : St) (reg : Int) (w : World) (h : Works B 65 w b s) (hk : s.k = 3) (hreg : 0 ≤ reg ∧ reg < 4) :
    Calls Try.prog 51 #[.pointer (some ⟨b, 0, none⟩), .int .i64 reg] w fun e w' => e = .returned (.int .i64 (readN s reg)) ∧ After B 65 w' b (readS s reg) ∧ Below B w w' := by
  obtain ⟨qv, hb, hB, hown, hne⟩ := h
  obtain ⟨a1, c1, rfl⟩ := own_shape hown
  obtain ⟨k, r0, r1, r2, r3, q, sent, ra⟩ := s
  simp only at hk
  subst hk
  unfold stC at hb
  simp only at hb hown hne
  have hlt := lt_in hb
  obtain ⟨g0, g1, g2, g3, g4, g5, g6, g7, f0, f1, f2, f3, f4, f5, f6, f7⟩ := cells8 hb
  have HB := Lib.hid hb; have HO := Lib.hid hown; have HN := Lib.hid hne
  clear hb hown hne
  refine (regs_read _ ⟨3, r0, r1, r2, r3, q, sent, ra⟩ _ _ _ _ reg _ hreg HB.out).mono ?_
  rintro e w' ⟨rfl, rfl⟩
  have hc3 : readS ⟨3, r0, r1, r2, r3, q, sent, ra⟩ reg = ⟨3, r0, r1, r2, r3, q, sent, ra⟩ := by unfold readS; rw [if_neg]; simp
  rw [hc3]
  exact ⟨ret1 (rint rfl), ⟨_, HB.out, Reads.own HO.out (one_qL _), fresh_own HO.out⟩, Below.refl _ _⟩

set_option maxHeartbeats 1000000 in
theorem read_uart (B b : Nat) (s : St) (reg : Int) (w : World) (h : Works B 61 w b s) (hk : s.k = 1) (hreg : 0 ≤ reg ∧ reg < 4) :
    Calls Try.prog 48 #[.pointer (some ⟨b, 0, none⟩), .int .i64 reg] w fun e w' => e = .returned (.int .i64 (readN s reg)) ∧ After B 61 w' b (readS s reg) ∧ Below B w w' := by
  obtain ⟨qv, hb, hB, hown, hne⟩ := h
  obtain ⟨a1, c1, rfl⟩ := own_shape hown
  obtain ⟨k, r0, r1, r2, r3, q, sent, ra⟩ := s
  simp only at hk
  subst hk
  unfold stC at hb
  simp only at hb hown hne
  have hlt := lt_in hb
  obtain ⟨g0, g1, g2, g3, g4, g5, g6, g7, f0, f1, f2, f3, f4, f5, f6, f7⟩ := cells8 hb
  have HB := Lib.hid hb; have HO := Lib.hid hown; have HN := Lib.hid hne
  clear hb hown hne
  rcases reg4 hreg with rfl | rfl | rfl | rfl
  · cases q with
    | nil =>
      simp only [List.length_nil] at *
      clear hreg
      go_enter Try.func48, Try.ntmps48
      go_wp2_with fail
      go_ret
      exact ⟨ret1 (rint rfl), ⟨_, HB.out, Reads.own HO.out (one_qL _), fresh_own HO.out⟩, Below.refl _ _⟩
    | cons x q =>
      obtain ⟨g, c, cur, hv, hg, hcur, hn, hm, hcs, ht⟩ : ∃ g c cur, Value.slice a1 (q.length + 1) c1 = .slice (some ⟨g, 0, none⟩) (q.length + 1) c ∧ B ≤ g ∧ w.heap[g]? = some (.cells cur 3 (0, 0)) ∧ q.length + 1 ≤ c ∧ c ≤ maxLen ∧ cur.size = c * 1 ∧ cur.toList.take ((q.length + 1) * 1) = qL ⟨1, r0, r1, r2, r3, x :: q, sent, ra⟩ := by
        rcases HO.out.2 with ⟨h1, h2⟩ | h
        · simp at h2
        · simpa using h
      obtain ⟨rfl, rfl⟩ : a1 = some ⟨g, 0, none⟩ ∧ c1 = c := by simpa using hv
      have hgb : g ≠ b := fun e => HN.out (by rw [e]; rfl)
      have hall : ∀ j u, (qL ⟨1, r0, r1, r2, r3, x :: q, sent, ra⟩)[j]? = some u → w.cell? ⟨g, j, none⟩ = some u := fun j u hj => by
        have hj2 : j < (q.length + 1) * 1 := by
          have := (List.getElem?_eq_some_iff.1 hj).1
          rw [len_qL] at this; simpa using this
        have hk : w.ownsRow B 3 1 (.slice (some ⟨g, 0, none⟩) (q.length + 1) c1) (q.length + 1) (qL ⟨1, r0, r1, r2, r3, x :: q, sent, ra⟩) := HO.out
        rw [hk.cellAt j hj2, hj]
      have hx := hall 0 _ rfl
      have HALL := Lib.hid hall; have HC := Lib.hid hcur
      have hlg := lt_in hcur
      clear hall hcur ht hcs hv
      unfold maxLen at hm
      simp only [List.length_cons] at *
      clear hreg
      by_cases hc1 : c1 = 1
      · subst hc1
        go_enter Try.func48, Try.ntmps48
        go_wp2_with fail
        go_ret
        have hq0 : q = [] := List.eq_nil_of_length_eq_zero (by omega)
        subst hq0
        exact ⟨ret1 (rint rfl), after_mk (s := ⟨1, r0, r1, r2, r3, [], sent, ra⟩) (set_in HB.out 5 _) ⟨rfl, by simp [qL], .inr ⟨g, 0, 0, rfl, by rw [size_set]; exact hlg, Nat.zero_le _, by simp, fun j u hj => by simp [qL] at hj⟩⟩ (fun a n c h => by cases h; exact hg), bel_set hB (Below.refl _ _)⟩
      · go_enter Try.func48, Try.ntmps48
        go_wp2_with fail
        go_ret
        refine ⟨ret1 (rint rfl), after_mk (s := ⟨1, r0, r1, r2, r3, q, sent, ra⟩) (set_in HB.out 5 _) ⟨by simp [qL], one_qL _, .inr ⟨g, 1, c1 - 1, rfl, by rw [size_set]; exact hlg, by simp only; omega, by unfold maxLen; omega, fun j u hj => ?_⟩⟩ (fun a n c h => by cases h; exact hg), bel_set hB (Below.refl _ _)⟩
        rw [cell_set_ne hgb]
        refine HALL.out (1 + j) u ?_
        rw [Nat.add_comm]; exact hj
  · cases q with
    | nil =>
      simp only [List.length_nil] at *
      clear hreg
      go_enter Try.func48, Try.ntmps48
      go_wp2_with fail
      go_ret
      exact ⟨ret1 (rint rfl), ⟨_, HB.out, Reads.own HO.out (one_qL _), fresh_own HO.out⟩, Below.refl _ _⟩
    | cons x q =>
      simp only [List.length_cons] at *
      clear hreg
      go_enter Try.func48, Try.ntmps48
      go_wp2_with fail
      go_ret
      exact ⟨ret1 (rint rfl), ⟨_, HB.out, Reads.own HO.out (one_qL _), fresh_own HO.out⟩, Below.refl _ _⟩
  · go_enter Try.func48, Try.ntmps48
    go_wp2_with (go_at_call 51; refine (regs_read _ ⟨1, r0, r1, r2, r3, q, sent, ra⟩ _ _ _ _ 2 _ hreg HB.out).mono ?_; rintro e w' ⟨rfl, rfl⟩)
    go_ret
    exact ⟨ret1 (rint rfl), ⟨_, HB.out, Reads.own HO.out (one_qL _), fresh_own HO.out⟩, Below.refl _ _⟩
  · clear hreg
    go_enter Try.func48, Try.ntmps48
    go_wp2_with fail
    go_ret
    exact ⟨ret1 (rint rfl), ⟨_, HB.out, Reads.own HO.out (one_qL _), fresh_own HO.out⟩, Below.refl _ _⟩
end Go.Proofs.Ytodcmmdobnjbbaa
