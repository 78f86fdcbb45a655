/-
  The contracts of the devices' input.
-/
import Derived.Test.YtodcmmdobnjbbaaDevDone
import Derived.StillTailTactics
namespace Go.Proofs.Ytodcmmdobnjbbaa
open Go.RowKit
theorem wpStill_skip {P : Program} {ops : Array Oper} {w : World} {Q : Act → Prop} {a : Act} {o : Oper} {rest : List Oper} (hw : Region.wanted o (yielded ops a.tmps) = false) (h : wpStill P ops w Q rest (a.put o.dst undef)) : wpStill P ops w Q (o :: rest) a := by
  simp only [wpStill, hw]; exact h
theorem wpStill_want {P : Program} {ops : Array Oper} {w : World} {Q : Act → Prop} {a : Act} {o : Oper} {rest : List Oper} (hw : Region.wanted o (yielded ops a.tmps) = true) (h : ∀ K : Act → Prop, (∀ a, wpStill P ops w Q rest a → K a) → o.still P a w K) : wpStill P ops w Q (o :: rest) a := by
  simp only [wpStill, hw]; exact h _ (fun _ h => h)
attribute [local irreducible] wpStill

set_option maxHeartbeats 1000000 in
theorem input_gpio (B b : Nat) (s : St) (n : Int) (w : World) (h : Works B 65 w b s) (hk : s.k = 3) (_ : -2147483648 ≤ n ∧ n ≤ 2147483647) (hr0 : -2147483648 ≤ s.r0 ∧ s.r0 ≤ 2147483647) :
    Calls Try.prog 56 #[.pointer (some ⟨b, 0, none⟩), .int .i64 n] w fun e w' => e = .returned (.tuple #[]) ∧ After B 65 w' b (inputS s n) ∧ Below B w w' := by
  obtain ⟨qv, hb, hB, hown, hne⟩ := h
  obtain ⟨a1, c1, rfl⟩ := own_shape hown
  obtain ⟨k, r0, r1, r2, r3, q, sent, ra⟩ := s
  simp only at hk
  subst hk
  unfold stC at hb
  simp only at hb hown hne
  have hlt := lt_in hb
  obtain ⟨g0, g1, g2, g3, g4, g5, g6, g7, f0, f1, f2, f3, f4, f5, f6, f7⟩ := cells8 hb
  have HB := Lib.hid hb; have HO := Lib.hid hown; have HN := Lib.hid hne
  clear hb hown hne
  simp only at hr0
  go_enter Try.func56, Try.ntmps56
  go_wp2_with fail
  go_still_tail 30, (by kernel_rfl)
  change wpList _ _ _ _ _ w.drew
  go_wp2_with fail
  go_end0
  refine ⟨rfl, After.drew ?_, (bel_set hB (bel_set hB (Below.refl _ _))).drew⟩
  exact works_set (s := ⟨3, r0, r1, r2, bits .or .i64 r3 (bits .and .i64 (bits .xor .i64 n r1) r2), q, sent, ra⟩) (s' := inputS ⟨3, r0, r1, r2, r3, q, sent, ra⟩ n) (set_in HB.out 4 _) (own_set HO.out HN.out 4 _) HN.out 2 _ rfl rfl

set_option maxHeartbeats 1000000 in
theorem input_timer (B b : Nat) (s : St) (n : Int) (w : World) (h : Works B 63 w b s) (hk : s.k = 2) (_ : -2147483648 ≤ n ∧ n ≤ 2147483647) (hr0 : -2147483648 ≤ s.r0 ∧ s.r0 ≤ 2147483647) :
    Calls Try.prog 52 #[.pointer (some ⟨b, 0, none⟩), .int .i64 n] w fun e w' => e = .returned (.tuple #[]) ∧ After B 63 w' b (inputS s n) ∧ Below B w w' := by
  obtain ⟨qv, hb, hB, hown, hne⟩ := h
  obtain ⟨a1, c1, rfl⟩ := own_shape hown
  obtain ⟨k, r0, r1, r2, r3, q, sent, ra⟩ := s
  simp only at hk
  subst hk
  unfold stC at hb
  simp only at hb hown hne
  have hlt := lt_in hb
  obtain ⟨g0, g1, g2, g3, g4, g5, g6, g7, f0, f1, f2, f3, f4, f5, f6, f7⟩ := cells8 hb
  have HB := Lib.hid hb; have HO := Lib.hid hown; have HN := Lib.hid hne
  clear hb hown hne
  simp only at hr0
  cases ra with
  | true =>
    go_enter Try.func52, Try.ntmps52
    go_wp2_with fail
    go_still_tail 15, (by kernel_rfl)
    still_call ((wrap_any _ _).mono fun _ _ ⟨h, hw⟩ => ⟨h, hw.symm⟩)
    repeat still_step
    refine wpStill_nil ?_
    change wpList _ _ _ _ _ w.drew
    go_wp2_with fail
    have hb1 := set_in HB.out 1 (Value.int IntKind.i64 (wrap32 (r0 + 1)))
    have hb2 : ((w.setCell ⟨b, 1, none⟩ (Value.int IntKind.i64 (wrap32 (r0 + 1)))).drew).heap[b]? = some (.cells #[.int .i64 2, .int .i64 (wrap32 (r0 + 1)), .int .i64 r1, .int .i64 r2, .int .i64 r3, .slice a1 q.length c1, .int .i64 sent, .bool true] 63 (0, 0)) := hb1
    have ho2 : ((w.setCell ⟨b, 1, none⟩ (Value.int IntKind.i64 (wrap32 (r0 + 1)))).drew).ownsRow B 3 1 (.slice a1 q.length c1) q.length (qL ⟨2, r0, r1, r2, r3, q, sent, true⟩) := own_set HO.out HN.out 1 _
    have hB2 : Below B w ((w.setCell ⟨b, 1, none⟩ (Value.int IntKind.i64 (wrap32 (r0 + 1)))).drew) := (bel_set hB (Below.refl _ _)).drew
    have HB2 := Lib.hid hb2; have HO2 := Lib.hid ho2; have HBEL := Lib.hid hB2
    clear hb1 hb2 ho2 hB2 HB HO g0 g1 g2 g3 g4 g5 g6 g7 f0 f1 f2 f3 f4 f5 f6 f7
    generalize (w.setCell ⟨b, 1, none⟩ (Value.int IntKind.i64 (wrap32 (r0 + 1)))).drew = w1 at *
    have hlt1 := lt_in HB2.out
    obtain ⟨g0, g1, g2, g3, g4, g5, g6, g7, f0, f1, f2, f3, f4, f5, f6, f7⟩ := cells8 HB2.out
    refine wp_region_still_tail 34 (by kernel_rfl) (by kernel_rfl) ?_
    simp only [List.take_succ_cons, List.take_zero, List.drop_succ_cons, List.drop_zero]
    iterate 8 still_step
    iterate 21 refine wpStill_skip (by kernel_rfl) ?_
    repeat still_step
    refine wpStill_nil ?_
    change wpList _ _ _ _ _ w1.drew
    go_wp2_with fail
    go_end0
    exact ⟨rfl, After.drew (works_set (s := ⟨2, wrap32 (r0 + 1), r1, r2, r3, q, sent, true⟩) (s' := inputS ⟨2, r0, r1, r2, r3, q, sent, true⟩ n) HB2.out HO2.out HN.out 7 _ rfl rfl), (bel_set hB HBEL.out).drew⟩
  | false =>
    by_cases he : wrap32 (r0 + 1) = r1
    · skip
      have heb : (wrap32 (r0 + 1) == r1) = true := beq_iff_eq.2 he
      have hs : inputS ⟨2, r0, r1, r2, r3, q, sent, false⟩ n = ⟨2, wrap32 (r0 + 1), r1, r2, r3, q, sent, bits .and .i64 r2 1 != 0⟩ := by simp [inputS, heb, en]
      rw [hs]
      clear hs he
      go_enter Try.func52, Try.ntmps52
      go_wp2_with fail
      go_still_tail 15, (by kernel_rfl)
      still_call ((wrap_any _ _).mono fun _ _ ⟨h, hw⟩ => ⟨h, hw.symm⟩)
      repeat still_step
      refine wpStill_nil ?_
      change wpList _ _ _ _ _ w.drew
      go_wp2_with fail
      have hb1 := set_in HB.out 1 (Value.int IntKind.i64 (wrap32 (r0 + 1)))
      have hb2 : ((w.setCell ⟨b, 1, none⟩ (Value.int IntKind.i64 (wrap32 (r0 + 1)))).drew).heap[b]? = some (.cells #[.int .i64 2, .int .i64 (wrap32 (r0 + 1)), .int .i64 r1, .int .i64 r2, .int .i64 r3, .slice a1 q.length c1, .int .i64 sent, .bool false] 63 (0, 0)) := hb1
      have ho2 : ((w.setCell ⟨b, 1, none⟩ (Value.int IntKind.i64 (wrap32 (r0 + 1)))).drew).ownsRow B 3 1 (.slice a1 q.length c1) q.length (qL ⟨2, r0, r1, r2, r3, q, sent, false⟩) := own_set HO.out HN.out 1 _
      have hB2 : Below B w ((w.setCell ⟨b, 1, none⟩ (Value.int IntKind.i64 (wrap32 (r0 + 1)))).drew) := (bel_set hB (Below.refl _ _)).drew
      have HB2 := Lib.hid hb2; have HO2 := Lib.hid ho2; have HBEL := Lib.hid hB2
      clear hb1 hb2 ho2 hB2 HB HO g0 g1 g2 g3 g4 g5 g6 g7 f0 f1 f2 f3 f4 f5 f6 f7
      generalize (w.setCell ⟨b, 1, none⟩ (Value.int IntKind.i64 (wrap32 (r0 + 1)))).drew = w1 at *
      have hlt1 := lt_in HB2.out
      obtain ⟨g0, g1, g2, g3, g4, g5, g6, g7, f0, f1, f2, f3, f4, f5, f6, f7⟩ := cells8 HB2.out
      refine wp_region_still_tail 34 (by kernel_rfl) (by kernel_rfl) ?_
      simp only [List.take_succ_cons, List.take_zero, List.drop_succ_cons, List.drop_zero]
      iterate 8 still_step
      iterate 19 (refine wpStill_want (by kernel_rfl) (fun K hK => ?_); go_simp; refine hK _ ?_; clear hK K)
      (refine wpStill_want (by kernel_rfl) (fun K hK => ?_); go_simp; refine ⟨_, ((enabled_any _ r2 w1.drew g3).mono fun _ _ hh => ⟨hh.1, hh.2.symm⟩), hK _ ?_⟩; clear hK K)
      (refine wpStill_want (by kernel_rfl) (fun K hK => ?_); go_simp; refine hK _ ?_; clear hK K)
      repeat still_step
      refine wpStill_nil ?_
      change wpList _ _ _ _ _ w1.drew
      go_wp2_with fail
      go_end0
      exact ⟨rfl, After.drew (works_set (s := ⟨2, wrap32 (r0 + 1), r1, r2, r3, q, sent, false⟩) (s' := ⟨2, wrap32 (r0 + 1), r1, r2, r3, q, sent, bits .and .i64 r2 1 != 0⟩) HB2.out HO2.out HN.out 7 _ rfl rfl), (bel_set hB HBEL.out).drew⟩
    · skip
      have heb : (wrap32 (r0 + 1) == r1) = false := beq_eq_false_iff_ne.2 he
      have hs : inputS ⟨2, r0, r1, r2, r3, q, sent, false⟩ n = ⟨2, wrap32 (r0 + 1), r1, r2, r3, q, sent, false⟩ := by simp [inputS, heb]
      rw [hs]
      clear hs he
      go_enter Try.func52, Try.ntmps52
      go_wp2_with fail
      go_still_tail 15, (by kernel_rfl)
      still_call ((wrap_any _ _).mono fun _ _ ⟨h, hw⟩ => ⟨h, hw.symm⟩)
      repeat still_step
      refine wpStill_nil ?_
      change wpList _ _ _ _ _ w.drew
      go_wp2_with fail
      have hb1 := set_in HB.out 1 (Value.int IntKind.i64 (wrap32 (r0 + 1)))
      have hb2 : ((w.setCell ⟨b, 1, none⟩ (Value.int IntKind.i64 (wrap32 (r0 + 1)))).drew).heap[b]? = some (.cells #[.int .i64 2, .int .i64 (wrap32 (r0 + 1)), .int .i64 r1, .int .i64 r2, .int .i64 r3, .slice a1 q.length c1, .int .i64 sent, .bool false] 63 (0, 0)) := hb1
      have ho2 : ((w.setCell ⟨b, 1, none⟩ (Value.int IntKind.i64 (wrap32 (r0 + 1)))).drew).ownsRow B 3 1 (.slice a1 q.length c1) q.length (qL ⟨2, r0, r1, r2, r3, q, sent, false⟩) := own_set HO.out HN.out 1 _
      have hB2 : Below B w ((w.setCell ⟨b, 1, none⟩ (Value.int IntKind.i64 (wrap32 (r0 + 1)))).drew) := (bel_set hB (Below.refl _ _)).drew
      have HB2 := Lib.hid hb2; have HO2 := Lib.hid ho2; have HBEL := Lib.hid hB2
      clear hb1 hb2 ho2 hB2 HB HO g0 g1 g2 g3 g4 g5 g6 g7 f0 f1 f2 f3 f4 f5 f6 f7
      generalize (w.setCell ⟨b, 1, none⟩ (Value.int IntKind.i64 (wrap32 (r0 + 1)))).drew = w1 at *
      have hlt1 := lt_in HB2.out
      obtain ⟨g0, g1, g2, g3, g4, g5, g6, g7, f0, f1, f2, f3, f4, f5, f6, f7⟩ := cells8 HB2.out
      refine wp_region_still_tail 34 (by kernel_rfl) (by kernel_rfl) ?_
      simp only [List.take_succ_cons, List.take_zero, List.drop_succ_cons, List.drop_zero]
      iterate 8 still_step
      iterate 16 (refine wpStill_want (by kernel_rfl) (fun K hK => ?_); go_simp; refine hK _ ?_; clear hK K)
      iterate 4 refine wpStill_skip (by kernel_rfl) ?_
      (refine wpStill_want (by kernel_rfl) (fun K hK => ?_); go_simp; refine hK _ ?_; clear hK K)
      repeat still_step
      refine wpStill_nil ?_
      change wpList _ _ _ _ _ w1.drew
      go_wp2_with fail
      go_end0
      exact ⟨rfl, After.drew (works_set (s := ⟨2, wrap32 (r0 + 1), r1, r2, r3, q, sent, false⟩) (s' := ⟨2, wrap32 (r0 + 1), r1, r2, r3, q, sent, false⟩) HB2.out HO2.out HN.out 7 _ rfl rfl), (bel_set hB HBEL.out).drew⟩

set_option maxHeartbeats 1000000 in
theorem input_uart (B b : Nat) (s : St) (n : Int) (w : World) (h : Works B 61 w b s) (hk : s.k = 1) (_ : -2147483648 ≤ n ∧ n ≤ 2147483647) (hr0 : -2147483648 ≤ s.r0 ∧ s.r0 ≤ 2147483647) :
    Calls Try.prog 46 #[.pointer (some ⟨b, 0, none⟩), .int .i64 n] w fun e w' => e = .returned (.tuple #[]) ∧ After B 61 w' b (inputS s n) ∧ Below B w w' := by
  obtain ⟨qv, hb, hB, hown, hne⟩ := h
  obtain ⟨a1, c1, rfl⟩ := own_shape hown
  obtain ⟨k, r0, r1, r2, r3, q, sent, ra⟩ := s
  simp only at hk
  subst hk
  unfold stC at hb
  simp only at hb hown hne
  have hlt := lt_in hb
  obtain ⟨g0, g1, g2, g3, g4, g5, g6, g7, f0, f1, f2, f3, f4, f5, f6, f7⟩ := cells8 hb
  have HB := Lib.hid hb; have HO := Lib.hid hown; have HN := Lib.hid hne
  clear hb hown hne
  simp only at hr0
  obtain ⟨i0, hi, hz0, hz1, hz2⟩ := info_parts info_int
  by_cases hlen : q.length < 16
  · have hnew : ∀ j u, [Value.int IntKind.i64 (bits .and .i64 n 255)][j]? = some u → (w.alloc (.cells #[.int .i64 (bits .and .i64 n 255)] 3)).cell? ((⟨w.heap.size, 0, none⟩ : Addr).add j) = some u := cell_one_new _ _ _
    have HN2 := Lib.hid hnew; clear hnew
    go_enter Try.func46, Try.ntmps46
    go_wp2_with (at_builtin; refine wpList_append_own _ rfl _ _ 25 rfl B 3 i0 (.int .i64 0) 1 8 Try.underlying25 hi hz0 hz1 hz2 rfl (by decide) _ q.length _ rfl (HO.out.alloc _) ⟨w.heap.size, 0, none⟩ 1 1 [.int .i64 (bits .and .i64 n 255)] rfl rfl HN2.out (by simp [Value.oneCell']) (by unfold maxLen; omega) (by omega) (by simp; omega) ?_; intro v' w1 hown' hgrow _; obtain ⟨a2, c2, rfl⟩ := own_shape hown'; have hbw := (hgrow.block b (by simp; omega) (fun e => HN.out e.symm)).trans (bel_in ((Below.refl _ _).alloc (Nat.le_refl _) _) hlt HB.out); have hlt1 := lt_in hbw; obtain ⟨z0, z1, z2, z3, z4, z5, z6, z7, y0, y1, y2, y3, y4, y5, y6, y7⟩ := cells8 hbw; have HBW := Lib.hid hbw; have HOW := Lib.hid hown'; have HGR := Lib.hid hgrow; clear hbw hown' hgrow)
    go_end0
    have hne2 : (Value.slice a2 (q.length + 1) c2).ownBlock ≠ some b := own_ne_type HOW.out HBW.out (by decide)
    have hlen2 : (q ++ [bits .and .i64 n 255]).length = q.length + 1 := by simp
    have hr2 : Reads (w1.setCell ⟨b, 5, none⟩ (.slice a2 (q.length + 1) c2)) 1 (q ++ [bits .and .i64 n 255]).length (.slice a2 (q.length + 1) c2) (qL ⟨1, r0, r1, r2, r3, q ++ [bits .and .i64 n 255], sent, ra⟩) := by
      rw [hlen2]
      refine Reads.own (base := B) (e := 3) ?_ (one_qL _)
      have := own_set HOW.out hne2 5 (.slice a2 (q.length + 1) c2)
      simpa [qL] using this
    have hs : inputS ⟨1, r0, r1, r2, r3, q, sent, ra⟩ n = ⟨1, r0, r1, r2, r3, q ++ [bits .and .i64 n 255], sent, ra⟩ := by simp [inputS, hlen]
    rw [hs]
    exact ⟨rfl, after_mk (s := ⟨1, r0, r1, r2, r3, q ++ [bits .and .i64 n 255], sent, ra⟩) (set_in HBW.out 5 _) hr2 (fresh_own HOW.out), bel_set hB ((((Below.refl B w).alloc (by omega) _).grown HGR.out (by simp; omega) (fun k hk => (HO.out.lt k hk).1)))⟩
  · have hs : inputS ⟨1, r0, r1, r2, r3, q, sent, ra⟩ n = ⟨1, r0, r1, r2, r3, q, sent, ra⟩ := by simp [inputS, hlen]
    rw [hs]; clear hs
    go_enter Try.func46, Try.ntmps46
    go_wp2_with fail
    go_end0
    exact ⟨rfl, ⟨_, HB.out, Reads.own HO.out (one_qL _), fresh_own HO.out⟩, Below.refl _ _⟩
end Go.Proofs.Ytodcmmdobnjbbaa
