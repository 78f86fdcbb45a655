/-
  The contract of headstocklaw10.awake.
-/
import Derived.Test.YtodcmmdobnjbbaaDevNew4
import Derived.Test.YtodcmmdobnjbbaaDevSame
namespace Go.Proofs.Ytodcmmdobnjbbaa
open Go.RowKit
theorem field_kind (q : Value) (w : World) : (Instr.field 27 (.agg #[.int .i64 0, .int .i64 0, .int .i64 0, .int .i64 0, .int .i64 0, q, .int .i64 0, .bool false]) 0).run Try.prog w = .ok (.int .i64 0) w := by kernel_rfl
set_option maxHeartbeats 1000000 in
theorem awake_any (w : World) :
    Calls Try.prog 11 #[] w fun e w' => e = .returned (.bool true) ∧ Below w.heap.size w w' := by
  go_enter Try.func11, Try.ntmps11
  go_wp2_with fail
  refine (new_any 1 _ (by decide)).mono ?_
  rintro e w1 ⟨v1, rfl, hv1, hb1⟩
  have HV1 := Lib.hid hv1; have HB1 := Lib.hid hb1
  clear hv1 hb1
  go_wp2_with fail
  refine (input_any _ _ 65 _ HV1.out.st (inv_new 1 (by decide))).mono ?_
  rintro e w2 ⟨v2, rfl, hv2, hb2⟩
  have e2 : doneS (inputS (newS 1) (wrap32 65)) = ⟨1, 0, 0, 0, 0, [65], 0, false⟩ := by kernel_rfl
  rw [e2] at hv2
  obtain ⟨qv, hv, hr2, hf2⟩ := hv2
  obtain ⟨qa2, qc2, rfl⟩ := hr2.shape
  subst hv
  have HR2 := Lib.hid hr2; have HF2 := Lib.hid hf2; have HB2 := Lib.hid hb2
  clear hr2 hf2 hb2
  unfold stC
  go_wp2_with fail
  have hi : Inv ⟨1, 0, 0, 0, 0, [65], 0, false⟩ := ⟨by decide, by decide, by decide, by decide⟩
  have HI := Lib.hid hi; clear hi
  refine (read_any _ ⟨1, 0, 0, 0, 0, [65], 0, false⟩ 1 _ ⟨_, rfl, HR2.out.below ((Below.refl _ _).alloc (Nat.le_refl _) _)⟩ HI.out (by decide)).mono ?_
  rintro e w3 ⟨v3, rfl, hv3, hb3⟩
  have e3 : readN ⟨1, 0, 0, 0, 0, [65], 0, false⟩ 1 = 3 := by kernel_rfl
  have e3' : doneS (readS ⟨1, 0, 0, 0, 0, [65], 0, false⟩ 1) = ⟨1, 0, 0, 0, 0, [65], 0, false⟩ := by kernel_rfl
  rw [e3'] at hv3
  rw [e3]
  clear e3 e3' e2
  have hx3 := bel_in hb3 (by simp) (new_in w2 _)
  have hl3 := lt_in hx3
  have HX3 := Lib.hid hx3
  obtain ⟨u0, u1, u2, u3, u4, u5, u6, u7, t0, t1, t2, t3, t4, t5, t6, t7⟩ := cells8 hx3
  clear hx3
  obtain ⟨qv, hv, hr3, hf3⟩ := hv3
  obtain ⟨qa3, qc3, rfl⟩ := hr3.shape
  have hv3 : IsStF (w2.heap.size + 1) w3 (.agg (stC ⟨1, 0, 0, 0, 0, [65], 0, false⟩ (.slice qa3 1 qc3))) ⟨1, 0, 0, 0, 0, [65], 0, false⟩ := ⟨_, rfl, hr3, by simpa using hf3⟩
  have HV3 := Lib.hid hv3
  subst hv
  have HB3 := Lib.hid hb3
  clear hr3 hf3 hb3 hv3
  unfold stC
  go_wp2_with fail
  have hll : w2.heap.size < w2.heap.size + 1 := by omega
  refine (read_any _ ⟨1, 0, 0, 0, 0, [65], 0, false⟩ 0 _ (IsStF.st (B := w2.heap.size + 1) ?hs) HI.out (by decide)).mono ?_
  case hs =>
    iterate 8 apply stf_set hll
    exact HV3.out
  rintro e w4 ⟨v4, rfl, hv4, hb4⟩
  have e3 : readN ⟨1, 0, 0, 0, 0, [65], 0, false⟩ 0 = 65 := by kernel_rfl
  have e3' : doneS (readS ⟨1, 0, 0, 0, 0, [65], 0, false⟩ 0) = ⟨1, 0, 0, 0, 0, [], 0, false⟩ := by kernel_rfl
  rw [e3'] at hv4
  rw [e3]
  clear e3 e3'
  have hx4 := bel_in hb4 (by simp only [size_set]; omega) (set8 HX3.out)
  have hl4 := lt_in hx4
  have HX4 := Lib.hid hx4
  clear u0 u1 u2 u3 u4 u5 u6 u7 t0 t1 t2 t3 t4 t5 t6 t7
  obtain ⟨u0, u1, u2, u3, u4, u5, u6, u7, t0, t1, t2, t3, t4, t5, t6, t7⟩ := cells8 hx4
  clear hx4
  obtain ⟨qv, hv, hr4, hf4⟩ := hv4
  obtain ⟨qa4, qc4, rfl⟩ := hr4.shape
  have hv4 : IsStF (w2.heap.size + 1) w4 (.agg (stC ⟨1, 0, 0, 0, 0, [], 0, false⟩ (.slice qa4 0 qc4))) ⟨1, 0, 0, 0, 0, [], 0, false⟩ := IsStF.mono (by simp only [size_set]; omega) ⟨_, rfl, hr4, hf4⟩
  have HV4 := Lib.hid hv4
  subst hv
  have HB4 := Lib.hid hb4
  clear hr4 hf4 hb4 hv4
  unfold stC
  go_wp2_with fail
  have hi : Inv ⟨1, 0, 0, 0, 0, [], 0, false⟩ := ⟨by decide, by decide, by decide, by decide⟩
  have HI2 := Lib.hid hi; clear hi
  refine (read_any _ ⟨1, 0, 0, 0, 0, [], 0, false⟩ 1 _ (IsStF.st (B := w2.heap.size + 1) ?hs) HI2.out (by decide)).mono ?_
  case hs =>
    iterate 8 apply stf_set hll
    exact HV4.out
  rintro e w5 ⟨v5, rfl, hv5, hb5⟩
  have e3 : readN ⟨1, 0, 0, 0, 0, [], 0, false⟩ 1 = 2 := by kernel_rfl
  have e3' : doneS (readS ⟨1, 0, 0, 0, 0, [], 0, false⟩ 1) = ⟨1, 0, 0, 0, 0, [], 0, false⟩ := by kernel_rfl
  rw [e3'] at hv5
  rw [e3]
  clear e3 e3'
  have hx5 := bel_in hb5 (by simp only [size_set]; omega) (set8 HX4.out)
  have hl5 := lt_in hx5
  have HX5 := Lib.hid hx5
  clear u0 u1 u2 u3 u4 u5 u6 u7 t0 t1 t2 t3 t4 t5 t6 t7
  obtain ⟨u0, u1, u2, u3, u4, u5, u6, u7, t0, t1, t2, t3, t4, t5, t6, t7⟩ := cells8 hx5
  clear hx5
  obtain ⟨qv, hv, hr5, hf5⟩ := hv5
  obtain ⟨qa5, qc5, rfl⟩ := hr5.shape
  have hv5 : IsStF (w2.heap.size + 1) w5 (.agg (stC ⟨1, 0, 0, 0, 0, [], 0, false⟩ (.slice qa5 0 qc5))) ⟨1, 0, 0, 0, 0, [], 0, false⟩ := IsStF.mono (by simp only [size_set]; omega) ⟨_, rfl, hr5, hf5⟩
  have HV5 := Lib.hid hv5
  subst hv
  have HB5 := Lib.hid hb5
  clear hr5 hf5 hb5 hv5
  unfold stC
  go_wp2_with fail
  refine (new_any 2 _ (by decide)).mono ?_
  rintro e w6 ⟨v6, rfl, hv6, hb6⟩
  have HV6 := Lib.hid hv6; have HB6 := Lib.hid hb6
  have hx6 := bel_in hb6 (by simp only [size_set]; omega) (set8 HX5.out)
  have hl6 := lt_in hx6
  have HX6 := Lib.hid hx6
  clear u0 u1 u2 u3 u4 u5 u6 u7 t0 t1 t2 t3 t4 t5 t6 t7
  obtain ⟨u0, u1, u2, u3, u4, u5, u6, u7, t0, t1, t2, t3, t4, t5, t6, t7⟩ := cells8 hx6
  clear hv6 hb6 hx6
  go_wp2_with fail
  refine (write_any _ _ 1 1 _ HV6.out.st (inv_new 2 (by decide)) (by decide)).mono ?_
  rintro e w7 ⟨v7, rfl, hv7, hb7⟩
  have e3 : doneS (writeS (newS 2) 1 (wrap32 1)) = ⟨2, 0, 1, 0, 0, [], 0, false⟩ := by kernel_rfl
  rw [e3] at hv7
  clear e3
  have HV7 := Lib.hid hv7; have HB7 := Lib.hid hb7
  clear hv7 hb7
  go_wp2_with fail
  refine (write_any _ _ 2 1 _ HV7.out.st ⟨by decide, by decide, by decide, by decide⟩ (by decide)).mono ?_
  rintro e w8 ⟨v8, rfl, hv8, hb8⟩
  have e3 : doneS (writeS ⟨2, 0, 1, 0, 0, [], 0, false⟩ 2 (wrap32 1)) = ⟨2, 0, 1, 1, 0, [], 0, false⟩ := by kernel_rfl
  rw [e3] at hv8
  clear e3
  have HV8 := Lib.hid hv8; have HB8 := Lib.hid hb8
  clear hv8 hb8
  go_wp2_with fail
  refine (input_any _ _ 0 _ HV8.out.st ⟨by decide, by decide, by decide, by decide⟩).mono ?_
  rintro e w9 ⟨v9, rfl, hv9, hb9⟩
  have e3 : doneS (inputS ⟨2, 0, 1, 1, 0, [], 0, false⟩ (wrap32 0)) = ⟨2, 1, 1, 1, 0, [], 0, true⟩ := by kernel_rfl
  rw [e3] at hv9
  clear e3
  have s67 := HB7.out.size
  have s78 := HB8.out.size
  have s89 := hb9.size
  have hx9 := bel_in hb9 (by omega) (bel_in HB8.out (by omega) (bel_in HB7.out hl6 HX6.out))
  have HX9 := Lib.hid hx9
  clear u0 u1 u2 u3 u4 u5 u6 u7 t0 t1 t2 t3 t4 t5 t6 t7
  obtain ⟨u0, u1, u2, u3, u4, u5, u6, u7, t0, t1, t2, t3, t4, t5, t6, t7⟩ := cells8 hx9
  have HB9 := Lib.hid hb9
  obtain ⟨qv, hv, hr9, hf9⟩ := hv9
  obtain ⟨qa9, qc9, rfl⟩ := hr9.shape
  have hv9 : IsSt w9 (.agg (stC ⟨2, 1, 1, 1, 0, [], 0, true⟩ (.slice qa9 0 qc9))) ⟨2, 1, 1, 1, 0, [], 0, true⟩ := ⟨_, rfl, hr9⟩
  have HV9 := Lib.hid hv9
  subst hv
  clear hr9 hf9 hb9 hv9 hx9
  unfold stC
  go_wp2_with fail
  refine (new_any 3 _ (by decide)).mono ?_
  rintro e w10 ⟨v10, rfl, hv10, hb10⟩
  have HV10 := Lib.hid hv10; have HB10 := Lib.hid hb10
  clear hv10 hb10
  go_wp2_with fail
  refine (write_any _ _ 0 7 _ HV10.out.st (inv_new 3 (by decide)) (by decide)).mono ?_
  rintro e w11 ⟨v11, rfl, hv11, hb11⟩
  have e3 : doneS (writeS (newS 3) 0 (wrap32 7)) = ⟨3, 7, 0, 0, 0, [], 0, false⟩ := by kernel_rfl
  rw [e3] at hv11
  clear e3
  have HB11 := Lib.hid hb11
  have hl9 := lt_in HX9.out
  have s910 := HB10.out.size
  simp at s910
  have s1011 := hb11.size
  have hx11 := bel_in hb11 (by omega) (bel_in HB10.out (by simp; omega) (bel_in (B := w9.heap.size) ((Below.refl _ _).alloc (Nat.le_refl _) (.cells #[.int .i64 2, .int .i64 1, .int .i64 1, .int .i64 1, .int .i64 0, .slice qa9 0 qc9, .int .i64 0, .bool true] 27)) hl9 HX9.out))
  have hy11 := bel_in hb11 (by omega) (bel_in HB10.out (by simp) (new_in w9 _))
  have HX11 := Lib.hid hx11; have HY11 := Lib.hid hy11
  have hlx := lt_in hx11
  have hly := lt_in hy11
  clear u0 u1 u2 u3 u4 u5 u6 u7 t0 t1 t2 t3 t4 t5 t6 t7
  obtain ⟨u0, u1, u2, u3, u4, u5, u6, u7, t0, t1, t2, t3, t4, t5, t6, t7⟩ := cells8 hx11
  obtain ⟨p0, p1, p2, p3, p4, p5, p6, p7, q0, q1, q2, q3, q4, q5, q6, q7⟩ := cells8 hy11
  clear hx11 hy11
  obtain ⟨qv, hv, hr11, hf11⟩ := hv11
  obtain ⟨qa11, qc11, rfl⟩ := hr11.shape
  have hv11 : IsSt w11 (.agg (stC ⟨3, 7, 0, 0, 0, [], 0, false⟩ (.slice qa11 0 qc11))) ⟨3, 7, 0, 0, 0, [], 0, false⟩ := ⟨_, rfl, hr11⟩
  have HV11 := Lib.hid hv11
  subst hv
  clear hr11 hf11 hb11 hv11
  unfold stC
  go_wp2_with fail
  have b911 : Below w9.heap.size w9 w11 := ((Below.refl _ _).alloc (Nat.le_refl _) _).trans ((HB10.out.mono (by simp)).trans (HB11.out.mono (by omega)))
  have B911 := Lib.hid b911; clear b911
  refine (raises_any _ ⟨2, 1, 1, 1, 0, [], 0, true⟩ _ (HV9.out.below (B911.out.alloc (by omega) _))).mono ?_
  rintro e w12 ⟨rfl, hb12⟩
  have hx12 := bel_in hb12 (by simp; omega) (bel_in (B := w11.heap.size) ((Below.refl _ _).alloc (Nat.le_refl _) (.cells #[.int .i64 3, .int .i64 7, .int .i64 0, .int .i64 0, .int .i64 0, .slice qa11 0 qc11, .int .i64 0, .bool false] 27)) hlx HX11.out)
  have hy12 := bel_in hb12 (by simp; omega) (bel_in (B := w11.heap.size) ((Below.refl _ _).alloc (Nat.le_refl _) (.cells #[.int .i64 3, .int .i64 7, .int .i64 0, .int .i64 0, .int .i64 0, .slice qa11 0 qc11, .int .i64 0, .bool false] 27)) hly HY11.out)
  have hg12 := bel_in hb12 (by simp) (new_in w11 _)
  have hb12' : Below w11.heap.size w11 w12 := ((Below.refl _ _).alloc (Nat.le_refl _) _).trans (hb12.mono (by simp))
  have HB12 := Lib.hid hb12'
  clear hb12 hb12'
  have HX12 := Lib.hid hx12; have HY12 := Lib.hid hy12; have HG12 := Lib.hid hg12
  have hlx12 := lt_in hx12
  have hly12 := lt_in hy12
  have hlg12 := lt_in hg12
  clear u0 u1 u2 u3 u4 u5 u6 u7 t0 t1 t2 t3 t4 t5 t6 t7
  clear p0 p1 p2 p3 p4 p5 p6 p7 q0 q1 q2 q3 q4 q5 q6 q7
  obtain ⟨u0, u1, u2, u3, u4, u5, u6, u7, t0, t1, t2, t3, t4, t5, t6, t7⟩ := cells8 hx12
  obtain ⟨p0, p1, p2, p3, p4, p5, p6, p7, q0, q1, q2, q3, q4, q5, q6, q7⟩ := cells8 hy12
  obtain ⟨g0, g1, g2, g3, g4, g5, g6, g7, f0, f1, f2, f3, f4, f5, f6, f7⟩ := cells8 hg12
  clear hx12 hy12 hg12
  go_wp2_with fail
  have hs12 : IsSt w12 (.agg (stC ⟨1, 0, 0, 0, 0, [], 0, false⟩ (.slice qa5 0 qc5))) ⟨1, 0, 0, 0, 0, [], 0, false⟩ := by
    refine (((((IsSt.below ?_ HB6.out).below HB7.out).below HB8.out).below HB9.out).below B911.out).below HB12.out
    refine IsStF.st (B := w2.heap.size + 1) ?_
    iterate 8 apply stf_set hll
    exact HV5.out
  refine (same_any _ _ ⟨1, 0, 0, 0, 0, [], 0, false⟩ ⟨2, 1, 1, 1, 0, [], 0, true⟩ _ hs12 ((HV9.out.below B911.out).below HB12.out)).mono ?_
  rintro e w13 ⟨rfl, hb13⟩
  have e3 : sameS ⟨1, 0, 0, 0, 0, [], 0, false⟩ ⟨2, 1, 1, 1, 0, [], 0, true⟩ = false := by kernel_rfl
  rw [e3]
  clear e3 hs12
  have hg13 := bel_in hb13 hlg12 HG12.out
  have hlg13 := lt_in hg13
  have HG13 := Lib.hid hg13; have HB13 := Lib.hid hb13
  clear u0 u1 u2 u3 u4 u5 u6 u7 t0 t1 t2 t3 t4 t5 t6 t7
  clear p0 p1 p2 p3 p4 p5 p6 p7 q0 q1 q2 q3 q4 q5 q6 q7
  clear g0 g1 g2 g3 g4 g5 g6 g7 f0 f1 f2 f3 f4 f5 f6 f7
  obtain ⟨g0, g1, g2, g3, g4, g5, g6, g7, f0, f1, f2, f3, f4, f5, f6, f7⟩ := cells8 hg13
  clear hb13 hg13
  go_wp2_with fail
  have hgg := (HV11.out.below HB12.out).below HB13.out
  refine (same_any _ _ ⟨3, 7, 0, 0, 0, [], 0, false⟩ ⟨3, 7, 0, 0, 0, [], 0, false⟩ _ hgg hgg).mono ?_
  rintro e w14 ⟨rfl, hb14⟩
  have e3 : sameS ⟨3, 7, 0, 0, 0, [], 0, false⟩ ⟨3, 7, 0, 0, 0, [], 0, false⟩ = true := by kernel_rfl
  rw [e3]
  clear e3 hgg
  have HB14 := Lib.hid hb14
  clear hb14
  clear g0 g1 g2 g3 g4 g5 g6 g7 f0 f1 f2 f3 f4 f5 f6 f7
  go_wp2_with fail
  refine (new_other 4 (by decide) (by decide) (by decide) _).mono ?_
  rintro e w15 ⟨v15, rfl, hv15, hb15⟩
  obtain ⟨qv, rfl, _, _⟩ := hv15
  have HB15 := Lib.hid hb15
  clear hb15
  unfold stC newS
  have hfld := field_kind qv w15
  go_wp2_with fail
  go_ret
  refine ⟨ret1 (rbool rfl), ?_⟩
  have s1 := HB1.out.size
  have s2 := HB2.out.size
  have c6 : Below w.heap.size w w6 := by
    have h2 : Below w.heap.size w w2 := HB1.out.trans (HB2.out.mono (by omega))
    have h3 : Below w.heap.size w w3 := (h2.alloc (by omega) _).trans (HB3.out.mono (by simp; omega))
    have hle : w.heap.size ≤ w2.heap.size := by omega
    refine Below.trans ?_ (HB6.out.mono ?_)
    · iterate 8 apply bel_set hle
      refine Below.trans ?_ (HB5.out.mono ?_)
      · iterate 8 apply bel_set hle
        refine Below.trans ?_ (HB4.out.mono ?_)
        · iterate 8 apply bel_set hle
          exact h3
        · simp only [size_set]; omega
      · simp only [size_set]; omega
    · simp only [size_set]; omega
  have s6 := c6.size
  have s12 := HB12.out.size
  have s13 := HB13.out.size
  have s14 := HB14.out.size
  exact (c6.trans (HB7.out.mono (by omega))).trans ((HB8.out.mono (by omega)).trans ((HB9.out.mono (by omega)).trans ((B911.out.mono (by omega)).trans ((HB12.out.mono (by omega)).trans ((HB13.out.mono (by omega)).trans ((HB14.out.mono (by omega)).trans (HB15.out.mono (by omega))))))))
end Go.Proofs.Ytodcmmdobnjbbaa
