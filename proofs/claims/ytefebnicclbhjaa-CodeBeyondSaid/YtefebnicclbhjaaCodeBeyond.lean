/-
  'CodeBeyond': registers and numbers beyond are refused; what is refused reads and writes nothing.
-/
import Derived.Test.YtefebnicclbhjaaFit02
import Derived.Test.YtefebnicclbhjaaAwake02
import Derived.Test.YtefebnicclbhjaaInsEq
namespace Go.Proofs.Ytefebnicclbhjaa
open Go.RowKit
theorem pick_at (c n r : Int) (w : World) (hc : I64 c) (hn : 0 < n ∧ n ≤ 9223372036854775807) (h : pickN c n = r) :
    Calls Try.prog 24 #[.int .i64 c, .int .i64 n] w fun e w' => e = .returned (.int .i64 r) ∧ w = w' := by subst h; exact pick02 c n w hc hn
theorem may_far (k : Int) (b : Bool) (h : 32 ≤ k ∨ k < 0) : mayB k b = false := by
  unfold mayB
  rcases h with h | h
  · rw [decide_eq_false (by omega : ¬ k < 32)]; simp
  · rw [decide_eq_false (by omega : ¬ 0 ≤ k)]; simp
theorem wrong_d (x : Ins) (k : Int) (h : 32 ≤ k) : rightB ⟨x.op, k, x.a, x.b, x.n⟩ = false := by
  simp only [rightB]; rw [may_far k _ (.inl h)]; simp
theorem wrong_a (x : Ins) (k : Int) (h : k < 0) : rightB ⟨x.op, x.d, k, x.b, x.n⟩ = false := by
  simp only [rightB]; rw [may_far k _ (.inr h)]; simp
theorem wrong_b (x : Ins) (k : Int) (h : 32 ≤ k) : rightB ⟨x.op, x.d, x.a, k, x.n⟩ = false := by
  simp only [rightB]; rw [may_far k _ (.inl h)]; simp
theorem wrong_n (x : Ins) (k : Int) (h : 1048576 ≤ k ∨ k < -1048576) : rightB ⟨x.op, x.d, x.a, x.b, k⟩ = false := by
  cases hh : rightB ⟨x.op, x.d, x.a, x.b, k⟩
  · rfl
  · exfalso
    have := shape_bd (rowT x.op).form
    obtain ⟨_, _, _, _, h1, h2, _⟩ := right_parts hh
    change (shapeT (rowT x.op).form).least ≤ k at h1
    change k ≤ (shapeT (rowT x.op).form).most at h2
    omega
theorem wrong_op (x : Ins) (k : Int) (h : 49 < k) : rightB ⟨k, x.d, x.a, x.b, x.n⟩ = false := by
  simp only [rightB]; rw [isOp_no (by omega)]; simp
theorem reads_wrong {x : Ins} (h : rightB x = false) : readsL x = [] := by unfold readsL; rw [h]; rfl
theorem writes_wrong {x : Ins} (h : rightB x = false) : writesN x = 0 := by unfold writesN; rw [h]; rfl
set_option maxHeartbeats 4000000 in
theorem beyond_0 (x : Ins) (which by' : Int) (w : World) (h : ok_instr x) (hw : I64 which) (hb : I64 by') (hi : pickN which 6 = 0) :
    Calls Try.prog 7 #[insV x, .int .i64 which, .int .i64 by'] w fun e w' => e = .returned (.bool true) ∧ Below w.heap.size w w' := by
  have p1 := pickN_bd by' 1000 (by omega)
  have p2 := pickN_bd by' 1099511627776 (by omega)
  obtain ⟨op, d, a, b, n⟩ := x
  have H := Lib.hid h; have HW := Lib.hid hw; have HB := Lib.hid hb; have HI := Lib.hid hi
  clear h hw hb hi
  unfold insV
  go_enter Try.func7, Try.ntmps7
  go_wp2_with fail
  refine (awake02 _).mono ?_
  rintro e w1 ⟨rfl, hb1⟩
  obtain ⟨c1, f1⟩ := bcell hb1
  have s1 := hb1.size
  try simp at s1
  have l1x0 : w.heap.size < w1.heap.size := by omega
  go_wp2_with fail
  refine (fit_any ⟨op, d, a, b, n⟩ _ H.out).mono ?_
  rintro e w2 ⟨rfl, hb2⟩
  obtain ⟨c2, f2⟩ := bcell hb2
  have s2 := hb2.size
  try simp at s2
  have l2x0 : w.heap.size < w2.heap.size := by omega
  generalize fitX ⟨op, d, a, b, n⟩ = y at *
  obtain ⟨xop, xd, xa, xb, xn⟩ := y
  have hwr : rightB ⟨xop, 32 + pickN by' 1000, xa, xb, xn⟩ = false := wrong_d ⟨xop, xd, xa, xb, xn⟩ _ (by omega)
  have R1 := Lib.hid hwr
  have R2 := Lib.hid (enc_wrong hwr)
  have R3 := Lib.hid (reads_wrong hwr)
  have R4 := Lib.hid (writes_wrong hwr)
  clear hwr
  unfold insV
  go_wp2_with (go_at_call 24; (first | ((with_reducible refine (pick02 by' _ _ HB.out (by omega)).mono ?_); rintro e w' ⟨rfl, rfl⟩) | ((with_reducible refine (pick_at which 6 _ _ HW.out (by omega) HI.out).mono ?_); rintro e w' ⟨rfl, rfl⟩)))
  refine (encode_any ⟨xop, 32 + pickN by' 1000, xa, xb, xn⟩ _).mono ?_
  rw [R2.out.1, R2.out.2]
  rintro e w3 ⟨rfl, hb3⟩
  obtain ⟨c3, f3⟩ := bcell hb3
  have s3 := hb3.size
  try simp at s3
  have l3x0 : w2.heap.size < w3.heap.size := by omega
  go_wp2_with fail
  refine (right_at ⟨xop, 32 + pickN by' 1000, xa, xb, xn⟩ false _ R1.out).mono ?_
  rintro e w4 ⟨rfl, hb4⟩
  obtain ⟨c4, f4⟩ := bcell hb4
  have s4 := hb4.size
  try simp at s4
  have l4x0 : w2.heap.size < w4.heap.size := by omega
  go_wp2_with fail
  refine (reads_any ⟨xop, 32 + pickN by' 1000, xa, xb, xn⟩ _).mono ?_
  rintro e w5 ⟨v5, rfl, hr5, hb5⟩
  rw [R3.out] at hr5
  obtain ⟨qa5, qc5, rfl⟩ := hr5.shape
  clear hr5
  obtain ⟨c5, f5⟩ := bcell hb5
  have s5 := hb5.size
  have l5 : w2.heap.size < w5.heap.size := by omega
  go_wp2_with fail
  refine (writes_any ⟨xop, 32 + pickN by' 1000, xa, xb, xn⟩ _).mono ?_
  rw [R4.out]
  rintro e w6 ⟨rfl, hb6⟩
  go_wp2_with fail
  go_ret
  exact ⟨rfl, (by repeat (first | (with_reducible exact Below.refl _ _) | (with_reducible refine bw_set ?_ ?_ _) | (with_reducible apply bw_alloc) | (with_reducible refine bw_tr ?_ (by with_reducible assumption)) | (with_reducible apply bw_drew) | omega))⟩
set_option maxHeartbeats 4000000 in
theorem beyond_1 (x : Ins) (which by' : Int) (w : World) (h : ok_instr x) (hw : I64 which) (hb : I64 by') (hi : pickN which 6 = 1) :
    Calls Try.prog 7 #[insV x, .int .i64 which, .int .i64 by'] w fun e w' => e = .returned (.bool true) ∧ Below w.heap.size w w' := by
  have p1 := pickN_bd by' 1000 (by omega)
  have p2 := pickN_bd by' 1099511627776 (by omega)
  obtain ⟨op, d, a, b, n⟩ := x
  have H := Lib.hid h; have HW := Lib.hid hw; have HB := Lib.hid hb; have HI := Lib.hid hi
  clear h hw hb hi
  unfold insV
  go_enter Try.func7, Try.ntmps7
  go_wp2_with fail
  refine (awake02 _).mono ?_
  rintro e w1 ⟨rfl, hb1⟩
  obtain ⟨c1, f1⟩ := bcell hb1
  have s1 := hb1.size
  try simp at s1
  have l1x0 : w.heap.size < w1.heap.size := by omega
  go_wp2_with fail
  refine (fit_any ⟨op, d, a, b, n⟩ _ H.out).mono ?_
  rintro e w2 ⟨rfl, hb2⟩
  obtain ⟨c2, f2⟩ := bcell hb2
  have s2 := hb2.size
  try simp at s2
  have l2x0 : w.heap.size < w2.heap.size := by omega
  generalize fitX ⟨op, d, a, b, n⟩ = y at *
  obtain ⟨xop, xd, xa, xb, xn⟩ := y
  have hwr : rightB ⟨xop, xd, -(32 + pickN by' 1000), xb, xn⟩ = false := wrong_a ⟨xop, xd, xa, xb, xn⟩ _ (by omega)
  have R1 := Lib.hid hwr
  have R2 := Lib.hid (enc_wrong hwr)
  have R3 := Lib.hid (reads_wrong hwr)
  have R4 := Lib.hid (writes_wrong hwr)
  clear hwr
  unfold insV
  go_wp2_with (go_at_call 24; (first | ((with_reducible refine (pick02 by' _ _ HB.out (by omega)).mono ?_); rintro e w' ⟨rfl, rfl⟩) | ((with_reducible refine (pick_at which 6 _ _ HW.out (by omega) HI.out).mono ?_); rintro e w' ⟨rfl, rfl⟩)))
  refine (encode_any ⟨xop, xd, -(32 + pickN by' 1000), xb, xn⟩ _).mono ?_
  rw [R2.out.1, R2.out.2]
  rintro e w3 ⟨rfl, hb3⟩
  obtain ⟨c3, f3⟩ := bcell hb3
  have s3 := hb3.size
  try simp at s3
  have l3x0 : w2.heap.size < w3.heap.size := by omega
  go_wp2_with fail
  refine (right_at ⟨xop, xd, -(32 + pickN by' 1000), xb, xn⟩ false _ R1.out).mono ?_
  rintro e w4 ⟨rfl, hb4⟩
  obtain ⟨c4, f4⟩ := bcell hb4
  have s4 := hb4.size
  try simp at s4
  have l4x0 : w2.heap.size < w4.heap.size := by omega
  go_wp2_with fail
  refine (reads_any ⟨xop, xd, -(32 + pickN by' 1000), xb, xn⟩ _).mono ?_
  rintro e w5 ⟨v5, rfl, hr5, hb5⟩
  rw [R3.out] at hr5
  obtain ⟨qa5, qc5, rfl⟩ := hr5.shape
  clear hr5
  obtain ⟨c5, f5⟩ := bcell hb5
  have s5 := hb5.size
  have l5 : w2.heap.size < w5.heap.size := by omega
  go_wp2_with fail
  refine (writes_any ⟨xop, xd, -(32 + pickN by' 1000), xb, xn⟩ _).mono ?_
  rw [R4.out]
  rintro e w6 ⟨rfl, hb6⟩
  go_wp2_with fail
  go_ret
  exact ⟨rfl, (by repeat (first | (with_reducible exact Below.refl _ _) | (with_reducible refine bw_set ?_ ?_ _) | (with_reducible apply bw_alloc) | (with_reducible refine bw_tr ?_ (by with_reducible assumption)) | (with_reducible apply bw_drew) | omega))⟩
set_option maxHeartbeats 4000000 in
theorem beyond_2 (x : Ins) (which by' : Int) (w : World) (h : ok_instr x) (hw : I64 which) (hb : I64 by') (hi : pickN which 6 = 2) :
    Calls Try.prog 7 #[insV x, .int .i64 which, .int .i64 by'] w fun e w' => e = .returned (.bool true) ∧ Below w.heap.size w w' := by
  have p1 := pickN_bd by' 1000 (by omega)
  have p2 := pickN_bd by' 1099511627776 (by omega)
  obtain ⟨op, d, a, b, n⟩ := x
  have H := Lib.hid h; have HW := Lib.hid hw; have HB := Lib.hid hb; have HI := Lib.hid hi
  clear h hw hb hi
  unfold insV
  go_enter Try.func7, Try.ntmps7
  go_wp2_with fail
  refine (awake02 _).mono ?_
  rintro e w1 ⟨rfl, hb1⟩
  obtain ⟨c1, f1⟩ := bcell hb1
  have s1 := hb1.size
  try simp at s1
  have l1x0 : w.heap.size < w1.heap.size := by omega
  go_wp2_with fail
  refine (fit_any ⟨op, d, a, b, n⟩ _ H.out).mono ?_
  rintro e w2 ⟨rfl, hb2⟩
  obtain ⟨c2, f2⟩ := bcell hb2
  have s2 := hb2.size
  try simp at s2
  have l2x0 : w.heap.size < w2.heap.size := by omega
  generalize fitX ⟨op, d, a, b, n⟩ = y at *
  obtain ⟨xop, xd, xa, xb, xn⟩ := y
  have hwr : rightB ⟨xop, xd, xa, 32 + pickN by' 1000, xn⟩ = false := wrong_b ⟨xop, xd, xa, xb, xn⟩ _ (by omega)
  have R1 := Lib.hid hwr
  have R2 := Lib.hid (enc_wrong hwr)
  have R3 := Lib.hid (reads_wrong hwr)
  have R4 := Lib.hid (writes_wrong hwr)
  clear hwr
  unfold insV
  go_wp2_with (go_at_call 24; (first | ((with_reducible refine (pick02 by' _ _ HB.out (by omega)).mono ?_); rintro e w' ⟨rfl, rfl⟩) | ((with_reducible refine (pick_at which 6 _ _ HW.out (by omega) HI.out).mono ?_); rintro e w' ⟨rfl, rfl⟩)))
  refine (encode_any ⟨xop, xd, xa, 32 + pickN by' 1000, xn⟩ _).mono ?_
  rw [R2.out.1, R2.out.2]
  rintro e w3 ⟨rfl, hb3⟩
  obtain ⟨c3, f3⟩ := bcell hb3
  have s3 := hb3.size
  try simp at s3
  have l3x0 : w2.heap.size < w3.heap.size := by omega
  go_wp2_with fail
  refine (right_at ⟨xop, xd, xa, 32 + pickN by' 1000, xn⟩ false _ R1.out).mono ?_
  rintro e w4 ⟨rfl, hb4⟩
  obtain ⟨c4, f4⟩ := bcell hb4
  have s4 := hb4.size
  try simp at s4
  have l4x0 : w2.heap.size < w4.heap.size := by omega
  go_wp2_with fail
  refine (reads_any ⟨xop, xd, xa, 32 + pickN by' 1000, xn⟩ _).mono ?_
  rintro e w5 ⟨v5, rfl, hr5, hb5⟩
  rw [R3.out] at hr5
  obtain ⟨qa5, qc5, rfl⟩ := hr5.shape
  clear hr5
  obtain ⟨c5, f5⟩ := bcell hb5
  have s5 := hb5.size
  have l5 : w2.heap.size < w5.heap.size := by omega
  go_wp2_with fail
  refine (writes_any ⟨xop, xd, xa, 32 + pickN by' 1000, xn⟩ _).mono ?_
  rw [R4.out]
  rintro e w6 ⟨rfl, hb6⟩
  go_wp2_with fail
  go_ret
  exact ⟨rfl, (by repeat (first | (with_reducible exact Below.refl _ _) | (with_reducible refine bw_set ?_ ?_ _) | (with_reducible apply bw_alloc) | (with_reducible refine bw_tr ?_ (by with_reducible assumption)) | (with_reducible apply bw_drew) | omega))⟩
set_option maxHeartbeats 4000000 in
theorem beyond_3 (x : Ins) (which by' : Int) (w : World) (h : ok_instr x) (hw : I64 which) (hb : I64 by') (hi : pickN which 6 = 3) :
    Calls Try.prog 7 #[insV x, .int .i64 which, .int .i64 by'] w fun e w' => e = .returned (.bool true) ∧ Below w.heap.size w w' := by
  have p1 := pickN_bd by' 1000 (by omega)
  have p2 := pickN_bd by' 1099511627776 (by omega)
  obtain ⟨op, d, a, b, n⟩ := x
  have H := Lib.hid h; have HW := Lib.hid hw; have HB := Lib.hid hb; have HI := Lib.hid hi
  clear h hw hb hi
  unfold insV
  go_enter Try.func7, Try.ntmps7
  go_wp2_with fail
  refine (awake02 _).mono ?_
  rintro e w1 ⟨rfl, hb1⟩
  obtain ⟨c1, f1⟩ := bcell hb1
  have s1 := hb1.size
  try simp at s1
  have l1x0 : w.heap.size < w1.heap.size := by omega
  go_wp2_with fail
  refine (fit_any ⟨op, d, a, b, n⟩ _ H.out).mono ?_
  rintro e w2 ⟨rfl, hb2⟩
  obtain ⟨c2, f2⟩ := bcell hb2
  have s2 := hb2.size
  try simp at s2
  have l2x0 : w.heap.size < w2.heap.size := by omega
  generalize fitX ⟨op, d, a, b, n⟩ = y at *
  obtain ⟨xop, xd, xa, xb, xn⟩ := y
  have hwr : rightB ⟨xop, xd, xa, xb, 1048576 + pickN by' 1099511627776⟩ = false := wrong_n ⟨xop, xd, xa, xb, xn⟩ _ (by omega)
  have R1 := Lib.hid hwr
  have R2 := Lib.hid (enc_wrong hwr)
  have R3 := Lib.hid (reads_wrong hwr)
  have R4 := Lib.hid (writes_wrong hwr)
  clear hwr
  unfold insV
  go_wp2_with (go_at_call 24; (first | ((with_reducible refine (pick02 by' _ _ HB.out (by omega)).mono ?_); rintro e w' ⟨rfl, rfl⟩) | ((with_reducible refine (pick_at which 6 _ _ HW.out (by omega) HI.out).mono ?_); rintro e w' ⟨rfl, rfl⟩)))
  refine (encode_any ⟨xop, xd, xa, xb, 1048576 + pickN by' 1099511627776⟩ _).mono ?_
  rw [R2.out.1, R2.out.2]
  rintro e w3 ⟨rfl, hb3⟩
  obtain ⟨c3, f3⟩ := bcell hb3
  have s3 := hb3.size
  try simp at s3
  have l3x0 : w2.heap.size < w3.heap.size := by omega
  go_wp2_with fail
  refine (right_at ⟨xop, xd, xa, xb, 1048576 + pickN by' 1099511627776⟩ false _ R1.out).mono ?_
  rintro e w4 ⟨rfl, hb4⟩
  obtain ⟨c4, f4⟩ := bcell hb4
  have s4 := hb4.size
  try simp at s4
  have l4x0 : w2.heap.size < w4.heap.size := by omega
  go_wp2_with fail
  refine (reads_any ⟨xop, xd, xa, xb, 1048576 + pickN by' 1099511627776⟩ _).mono ?_
  rintro e w5 ⟨v5, rfl, hr5, hb5⟩
  rw [R3.out] at hr5
  obtain ⟨qa5, qc5, rfl⟩ := hr5.shape
  clear hr5
  obtain ⟨c5, f5⟩ := bcell hb5
  have s5 := hb5.size
  have l5 : w2.heap.size < w5.heap.size := by omega
  go_wp2_with fail
  refine (writes_any ⟨xop, xd, xa, xb, 1048576 + pickN by' 1099511627776⟩ _).mono ?_
  rw [R4.out]
  rintro e w6 ⟨rfl, hb6⟩
  go_wp2_with fail
  go_ret
  exact ⟨rfl, (by repeat (first | (with_reducible exact Below.refl _ _) | (with_reducible refine bw_set ?_ ?_ _) | (with_reducible apply bw_alloc) | (with_reducible refine bw_tr ?_ (by with_reducible assumption)) | (with_reducible apply bw_drew) | omega))⟩
set_option maxHeartbeats 4000000 in
theorem beyond_4 (x : Ins) (which by' : Int) (w : World) (h : ok_instr x) (hw : I64 which) (hb : I64 by') (hi : pickN which 6 = 4) :
    Calls Try.prog 7 #[insV x, .int .i64 which, .int .i64 by'] w fun e w' => e = .returned (.bool true) ∧ Below w.heap.size w w' := by
  have p1 := pickN_bd by' 1000 (by omega)
  have p2 := pickN_bd by' 1099511627776 (by omega)
  obtain ⟨op, d, a, b, n⟩ := x
  have H := Lib.hid h; have HW := Lib.hid hw; have HB := Lib.hid hb; have HI := Lib.hid hi
  clear h hw hb hi
  unfold insV
  go_enter Try.func7, Try.ntmps7
  go_wp2_with fail
  refine (awake02 _).mono ?_
  rintro e w1 ⟨rfl, hb1⟩
  obtain ⟨c1, f1⟩ := bcell hb1
  have s1 := hb1.size
  try simp at s1
  have l1x0 : w.heap.size < w1.heap.size := by omega
  go_wp2_with fail
  refine (fit_any ⟨op, d, a, b, n⟩ _ H.out).mono ?_
  rintro e w2 ⟨rfl, hb2⟩
  obtain ⟨c2, f2⟩ := bcell hb2
  have s2 := hb2.size
  try simp at s2
  have l2x0 : w.heap.size < w2.heap.size := by omega
  generalize fitX ⟨op, d, a, b, n⟩ = y at *
  obtain ⟨xop, xd, xa, xb, xn⟩ := y
  have hwr : rightB ⟨xop, xd, xa, xb, -1048577 - pickN by' 1099511627776⟩ = false := wrong_n ⟨xop, xd, xa, xb, xn⟩ _ (by omega)
  have R1 := Lib.hid hwr
  have R2 := Lib.hid (enc_wrong hwr)
  have R3 := Lib.hid (reads_wrong hwr)
  have R4 := Lib.hid (writes_wrong hwr)
  clear hwr
  unfold insV
  go_wp2_with (go_at_call 24; (first | ((with_reducible refine (pick02 by' _ _ HB.out (by omega)).mono ?_); rintro e w' ⟨rfl, rfl⟩) | ((with_reducible refine (pick_at which 6 _ _ HW.out (by omega) HI.out).mono ?_); rintro e w' ⟨rfl, rfl⟩)))
  refine (encode_any ⟨xop, xd, xa, xb, -1048577 - pickN by' 1099511627776⟩ _).mono ?_
  rw [R2.out.1, R2.out.2]
  rintro e w3 ⟨rfl, hb3⟩
  obtain ⟨c3, f3⟩ := bcell hb3
  have s3 := hb3.size
  try simp at s3
  have l3x0 : w2.heap.size < w3.heap.size := by omega
  go_wp2_with fail
  refine (right_at ⟨xop, xd, xa, xb, -1048577 - pickN by' 1099511627776⟩ false _ R1.out).mono ?_
  rintro e w4 ⟨rfl, hb4⟩
  obtain ⟨c4, f4⟩ := bcell hb4
  have s4 := hb4.size
  try simp at s4
  have l4x0 : w2.heap.size < w4.heap.size := by omega
  go_wp2_with fail
  refine (reads_any ⟨xop, xd, xa, xb, -1048577 - pickN by' 1099511627776⟩ _).mono ?_
  rintro e w5 ⟨v5, rfl, hr5, hb5⟩
  rw [R3.out] at hr5
  obtain ⟨qa5, qc5, rfl⟩ := hr5.shape
  clear hr5
  obtain ⟨c5, f5⟩ := bcell hb5
  have s5 := hb5.size
  have l5 : w2.heap.size < w5.heap.size := by omega
  go_wp2_with fail
  refine (writes_any ⟨xop, xd, xa, xb, -1048577 - pickN by' 1099511627776⟩ _).mono ?_
  rw [R4.out]
  rintro e w6 ⟨rfl, hb6⟩
  go_wp2_with fail
  go_ret
  exact ⟨rfl, (by repeat (first | (with_reducible exact Below.refl _ _) | (with_reducible refine bw_set ?_ ?_ _) | (with_reducible apply bw_alloc) | (with_reducible refine bw_tr ?_ (by with_reducible assumption)) | (with_reducible apply bw_drew) | omega))⟩
set_option maxHeartbeats 4000000 in
theorem beyond_5 (x : Ins) (which by' : Int) (w : World) (h : ok_instr x) (hw : I64 which) (hb : I64 by') (hi : pickN which 6 = 5) :
    Calls Try.prog 7 #[insV x, .int .i64 which, .int .i64 by'] w fun e w' => e = .returned (.bool true) ∧ Below w.heap.size w w' := by
  have p1 := pickN_bd by' 1000 (by omega)
  have p2 := pickN_bd by' 1099511627776 (by omega)
  obtain ⟨op, d, a, b, n⟩ := x
  have H := Lib.hid h; have HW := Lib.hid hw; have HB := Lib.hid hb; have HI := Lib.hid hi
  clear h hw hb hi
  unfold insV
  go_enter Try.func7, Try.ntmps7
  go_wp2_with fail
  refine (awake02 _).mono ?_
  rintro e w1 ⟨rfl, hb1⟩
  obtain ⟨c1, f1⟩ := bcell hb1
  have s1 := hb1.size
  try simp at s1
  have l1x0 : w.heap.size < w1.heap.size := by omega
  go_wp2_with fail
  refine (fit_any ⟨op, d, a, b, n⟩ _ H.out).mono ?_
  rintro e w2 ⟨rfl, hb2⟩
  obtain ⟨c2, f2⟩ := bcell hb2
  have s2 := hb2.size
  try simp at s2
  have l2x0 : w.heap.size < w2.heap.size := by omega
  generalize fitX ⟨op, d, a, b, n⟩ = y at *
  obtain ⟨xop, xd, xa, xb, xn⟩ := y
  have hwr : rightB ⟨49 + (32 + pickN by' 1000), xd, xa, xb, xn⟩ = false := wrong_op ⟨xop, xd, xa, xb, xn⟩ _ (by omega)
  have R1 := Lib.hid hwr
  have R2 := Lib.hid (enc_wrong hwr)
  have R3 := Lib.hid (reads_wrong hwr)
  have R4 := Lib.hid (writes_wrong hwr)
  clear hwr
  unfold insV
  go_wp2_with (go_at_call 24; (first | ((with_reducible refine (pick02 by' _ _ HB.out (by omega)).mono ?_); rintro e w' ⟨rfl, rfl⟩) | ((with_reducible refine (pick_at which 6 _ _ HW.out (by omega) HI.out).mono ?_); rintro e w' ⟨rfl, rfl⟩)))
  refine (encode_any ⟨49 + (32 + pickN by' 1000), xd, xa, xb, xn⟩ _).mono ?_
  rw [R2.out.1, R2.out.2]
  rintro e w3 ⟨rfl, hb3⟩
  obtain ⟨c3, f3⟩ := bcell hb3
  have s3 := hb3.size
  try simp at s3
  have l3x0 : w2.heap.size < w3.heap.size := by omega
  go_wp2_with fail
  refine (right_at ⟨49 + (32 + pickN by' 1000), xd, xa, xb, xn⟩ false _ R1.out).mono ?_
  rintro e w4 ⟨rfl, hb4⟩
  obtain ⟨c4, f4⟩ := bcell hb4
  have s4 := hb4.size
  try simp at s4
  have l4x0 : w2.heap.size < w4.heap.size := by omega
  go_wp2_with fail
  refine (reads_any ⟨49 + (32 + pickN by' 1000), xd, xa, xb, xn⟩ _).mono ?_
  rintro e w5 ⟨v5, rfl, hr5, hb5⟩
  rw [R3.out] at hr5
  obtain ⟨qa5, qc5, rfl⟩ := hr5.shape
  clear hr5
  obtain ⟨c5, f5⟩ := bcell hb5
  have s5 := hb5.size
  have l5 : w2.heap.size < w5.heap.size := by omega
  go_wp2_with fail
  refine (writes_any ⟨49 + (32 + pickN by' 1000), xd, xa, xb, xn⟩ _).mono ?_
  rw [R4.out]
  rintro e w6 ⟨rfl, hb6⟩
  go_wp2_with fail
  go_ret
  exact ⟨rfl, (by repeat (first | (with_reducible exact Below.refl _ _) | (with_reducible refine bw_set ?_ ?_ _) | (with_reducible apply bw_alloc) | (with_reducible refine bw_tr ?_ (by with_reducible assumption)) | (with_reducible apply bw_drew) | omega))⟩
theorem code_beyond (x : Ins) (which by' : Int) (w : World) (h : ok_instr x) (hw : I64 which) (hb : I64 by') :
    Calls Try.prog 7 #[insV x, .int .i64 which, .int .i64 by'] w fun e w' => e = .returned (.bool true) ∧ Below w.heap.size w w' := by
  have p := pickN_bd which 6 (by omega)
  rcases (by omega : pickN which 6 = 0 ∨ pickN which 6 = 1 ∨ pickN which 6 = 2 ∨ pickN which 6 = 3 ∨ pickN which 6 = 4 ∨ pickN which 6 = 5) with hi | hi | hi | hi | hi | hi
  · exact beyond_0 x which by' w h hw hb hi
  · exact beyond_1 x which by' w h hw hb hi
  · exact beyond_2 x which by' w h hw hb hi
  · exact beyond_3 x which by' w h hw hb hi
  · exact beyond_4 x which by' w h hw hb hi
  · exact beyond_5 x which by' w h hw hb hi
end Go.Proofs.Ytefebnicclbhjaa
