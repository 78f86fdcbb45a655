/-
  The contracts of the devices' write.
-/
import Derived.Test.YtodcmmdobnjbbaaDevDone
namespace Go.Proofs.Ytodcmmdobnjbbaa
open Go.RowKit

set_option maxHeartbeats 1000000 in
theorem write_uart (B b : Nat) (s : St) (reg n : Int) (w : World) (h : Works B 61 w b s) (hk : s.k = 1) (hreg : 0 ≤ reg ∧ reg < 4) (hs : 0 ≤ s.sent ∧ s.sent ≤ 2147483647) :
    Calls Try.prog 50 #[.pointer (some ⟨b, 0, none⟩), .int .i64 reg, .int .i64 n] w fun e w' => e = .returned (.tuple #[]) ∧ After B 61 w' b (writeS s reg n) ∧ Below B w w' := by
  obtain ⟨qv, hb, hB, hown, hne⟩ := h
  obtain ⟨a1, c1, rfl⟩ := own_shape hown
  obtain ⟨k, r0, r1, r2, r3, q, sent, ra⟩ := s
  simp only at hk
  subst hk
  unfold stC at hb
  simp only at hb hown hne
  have hlt := lt_in hb
  obtain ⟨g0, g1, g2, g3, g4, g5, g6, g7, f0, f1, f2, f3, f4, f5, f6, f7⟩ := cells8 hb
  have HB := Lib.hid hb; have HO := Lib.hid hown; have HN := Lib.hid hne
  clear hb hown hne
  simp only at hs
  rcases reg4 hreg with rfl | rfl | rfl | rfl
  · clear hreg
    go_enter Try.func50, Try.ntmps50
    go_wp2_with fail
    go_end0
    exact ⟨rfl, works_set (s' := writeS ⟨1, r0, r1, r2, r3, q, sent, ra⟩ 0 n) HB.out HO.out HN.out 6 _ rfl rfl, bel_set hB (Below.refl _ _)⟩
  · clear hreg
    go_enter Try.func50, Try.ntmps50
    go_wp2_with fail
    go_end0
    exact ⟨rfl, ⟨_, HB.out, Reads.own HO.out (one_qL _), fresh_own HO.out⟩, Below.refl _ _⟩
  · clear hreg
    go_enter Try.func50, Try.ntmps50
    go_wp2_with fail
    go_end0
    exact ⟨rfl, works_set (s' := writeS ⟨1, r0, r1, r2, r3, q, sent, ra⟩ 2 n) HB.out HO.out HN.out 3 _ rfl rfl, bel_set hB (Below.refl _ _)⟩
  · clear hreg
    go_enter Try.func50, Try.ntmps50
    go_wp2_with fail
    go_end0
    exact ⟨rfl, ⟨_, HB.out, Reads.own HO.out (one_qL _), fresh_own HO.out⟩, Below.refl _ _⟩

set_option maxHeartbeats 1000000 in
theorem write_timer (B b : Nat) (s : St) (reg n : Int) (w : World) (h : Works B 63 w b s) (hk : s.k = 2) (hreg : 0 ≤ reg ∧ reg < 4) (hs : 0 ≤ s.sent ∧ s.sent ≤ 2147483647) :
    Calls Try.prog 55 #[.pointer (some ⟨b, 0, none⟩), .int .i64 reg, .int .i64 n] w fun e w' => e = .returned (.tuple #[]) ∧ After B 63 w' b (writeS s reg n) ∧ Below B w w' := by
  obtain ⟨qv, hb, hB, hown, hne⟩ := h
  obtain ⟨a1, c1, rfl⟩ := own_shape hown
  obtain ⟨k, r0, r1, r2, r3, q, sent, ra⟩ := s
  simp only at hk
  subst hk
  unfold stC at hb
  simp only at hb hown hne
  have hlt := lt_in hb
  obtain ⟨g0, g1, g2, g3, g4, g5, g6, g7, f0, f1, f2, f3, f4, f5, f6, f7⟩ := cells8 hb
  have HB := Lib.hid hb; have HO := Lib.hid hown; have HN := Lib.hid hne
  clear hb hown hne
  simp only at hs
  rcases reg4 hreg with rfl | rfl | rfl | rfl
  · clear hreg
    go_enter Try.func55, Try.ntmps55
    go_wp2_with fail
    go_end0
    exact ⟨rfl, ⟨_, HB.out, Reads.own HO.out (one_qL _), fresh_own HO.out⟩, Below.refl _ _⟩
  · clear hreg
    go_enter Try.func55, Try.ntmps55
    go_wp2_with fail
    go_end0
    exact ⟨rfl, works_set (s' := writeS ⟨2, r0, r1, r2, r3, q, sent, ra⟩ 1 n) HB.out HO.out HN.out 2 _ rfl rfl, bel_set hB (Below.refl _ _)⟩
  · clear hreg
    go_enter Try.func55, Try.ntmps55
    go_wp2_with fail
    go_end0
    exact ⟨rfl, works_set (s' := writeS ⟨2, r0, r1, r2, r3, q, sent, ra⟩ 2 n) HB.out HO.out HN.out 3 _ rfl rfl, bel_set hB (Below.refl _ _)⟩
  · clear hreg
    go_enter Try.func55, Try.ntmps55
    go_wp2_with fail
    go_end0
    exact ⟨rfl, works_set (s' := writeS ⟨2, r0, r1, r2, r3, q, sent, ra⟩ 3 n) HB.out HO.out HN.out 7 _ rfl rfl, bel_set hB (Below.refl _ _)⟩

set_option maxHeartbeats 1000000 in
theorem write_gpio (B b : Nat) (s : St) (reg n : Int) (w : World) (h : Works B 65 w b s) (hk : s.k = 3) (hreg : 0 ≤ reg ∧ reg < 4) (hs : 0 ≤ s.sent ∧ s.sent ≤ 2147483647) :
    Calls Try.prog 58 #[.pointer (some ⟨b, 0, none⟩), .int .i64 reg, .int .i64 n] w fun e w' => e = .returned (.tuple #[]) ∧ After B 65 w' b (writeS s reg n) ∧ Below B w w' := by
  obtain ⟨qv, hb, hB, hown, hne⟩ := h
  obtain ⟨a1, c1, rfl⟩ := own_shape hown
  obtain ⟨k, r0, r1, r2, r3, q, sent, ra⟩ := s
  simp only at hk
  subst hk
  unfold stC at hb
  simp only at hb hown hne
  have hlt := lt_in hb
  obtain ⟨g0, g1, g2, g3, g4, g5, g6, g7, f0, f1, f2, f3, f4, f5, f6, f7⟩ := cells8 hb
  have HB := Lib.hid hb; have HO := Lib.hid hown; have HN := Lib.hid hne
  clear hb hown hne
  simp only at hs
  rcases reg4 hreg with rfl | rfl | rfl | rfl
  · clear hreg
    go_enter Try.func58, Try.ntmps58
    go_wp2_with fail
    go_end0
    exact ⟨rfl, works_set (s' := writeS ⟨3, r0, r1, r2, r3, q, sent, ra⟩ 0 n) HB.out HO.out HN.out 1 _ rfl rfl, bel_set hB (Below.refl _ _)⟩
  · clear hreg
    go_enter Try.func58, Try.ntmps58
    go_wp2_with fail
    go_end0
    exact ⟨rfl, ⟨_, HB.out, Reads.own HO.out (one_qL _), fresh_own HO.out⟩, Below.refl _ _⟩
  · clear hreg
    go_enter Try.func58, Try.ntmps58
    go_wp2_with fail
    go_end0
    exact ⟨rfl, works_set (s' := writeS ⟨3, r0, r1, r2, r3, q, sent, ra⟩ 2 n) HB.out HO.out HN.out 3 _ rfl rfl, bel_set hB (Below.refl _ _)⟩
  · clear hreg
    go_enter Try.func58, Try.ntmps58
    go_wp2_with fail
    go_region
    all_goals
      go_wp2_with fail
      go_end0
      exact ⟨rfl, After.drew (works_set (s' := writeS ⟨3, r0, r1, r2, r3, q, sent, ra⟩ 3 n) HB.out HO.out HN.out 4 _ rfl rfl), (bel_set hB (Below.refl _ _)).drew⟩
end Go.Proofs.Ytodcmmdobnjbbaa
