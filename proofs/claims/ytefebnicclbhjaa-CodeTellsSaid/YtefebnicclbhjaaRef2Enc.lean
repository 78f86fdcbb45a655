/-
  The contract of headstockref02.Encode.
-/
import Derived.Test.YtefebnicclbhjaaRef2Right
import Derived.Test.YtefebnicclbhjaaEncSum
namespace Go.Proofs.Ytefebnicclbhjaa
open Go.RowKit
theorem rintv {k : IntKind} {a b : Int} (h : a = b) : Value.int k a = .int k b := by rw [h]
theorem ret2v {a b c d : Value} (h : a = c) (h' : b = d) : Ending.returned (.tuple #[a, b]) = .returned (.tuple #[c, d]) := by rw [h, h']
theorem refRight_g (op d a b n : Int) (r : Bool) (w : World) (hr : rightB ⟨op, d, a, b, n⟩ = r) :
    Calls Try.prog 16 #[.agg #[.int .i64 op, .int .i64 d, .int .i64 a, .int .i64 b, .int .i64 n]] w fun e w' => e = .returned (.bool r) ∧ Below w.heap.size w w' := by subst hr; exact refRight_any ⟨op, d, a, b, n⟩ w
theorem bits_at (n a b : Int) (fr mn : Nat) (w : World) (hn : I64 n) (ha : a = fr) (hb : b = mn) (hf : fr < 32) (hm : mn < 32) :
    Calls Try.prog 32 #[.int .i64 n, .int .i64 a, .int .i64 b] w fun e w' => e = .returned (.int .i64 (fieldN (n % 4294967296).toNat fr mn : Nat)) ∧ ∃ q, w' = w.drewN q := by subst ha hb; exact bits_any n fr mn w hn hf hm
set_option maxHeartbeats 4000000 in
set_option maxRecDepth 100000 in
theorem refEnc_82 (x : Ins) (w : World) (hr : rightB x = true) (hf : (rowT x.op).form = 82) :
    Calls Try.prog 14 #[insV x] w fun e w' => e = .returned (.tuple #[.int .i64 (encN x : Nat), .int .i64 0]) ∧ Below w.heap.size w w' := by
  obtain ⟨h0, hd, ha, hb, hn1, hn2, hn3⟩ := right_parts hr
  obtain ⟨hrb, hop⟩ := row_facts h0
  have hq := hr
  simp only [rowB, hop, Bool.and_eq_true, decide_eq_true_eq, Bool.or_eq_true, beq_iff_eq] at hrb
  obtain ⟨⟨hlo, z1, z2, z3, z4⟩, _⟩ := hrb
  have HEQ := Lib.hid (encS_82 x hr hf)
  unfold shX at hd ha hb hn1 hn2 hn3
  have hnb := ok_nn hr
  obtain ⟨op, d, a, b, n⟩ := x
  simp only at *
  generalize hrw : rowT op = r at *
  obtain ⟨nm, f, lo, mi, hi⟩ := r
  simp only at *
  subst hf
  have HRW := Lib.hid hrw; have HR := Lib.hid hr; have HN := Lib.hid hnb
  clear hrw hr hq h0 hop hnb
  simp [shapeT] at hd ha hb hn1 hn2 hn3 z1 z2 z3
  try (obtain ⟨_, _, rfl⟩ := hd)
  try (obtain ⟨_, _, rfl⟩ := ha)
  try (obtain ⟨_, _, rfl⟩ := hb)
  try subst z1
  try subst z2
  unfold insV
  go_enter Try.func14, Try.ntmps14
  go_wp2_with fail
  refine (refRight_g _ _ _ _ _ true _ HR.out).mono ?_
  rintro e w1 ⟨rfl, hb1⟩
  obtain ⟨c1, f1⟩ := bcell hb1
  have s1 := hb1.size
  try simp at s1
  have l1x0 : w.heap.size < w1.heap.size := by omega
  go_wp2_with fail
  refine (refRow_any op _).mono ?_
  rw [HRW.out]
  rintro e w2 ⟨rfl, hb2⟩
  obtain ⟨c2, f2⟩ := bcell hb2
  have s2 := hb2.size
  try simp at s2
  have l2x0 : w.heap.size < w2.heap.size := by omega
  unfold rfV
  go_wp2_with fail
  go_ret2
  refine ⟨ret2v (rintv ?_) rfl, (by repeat (first | (with_reducible exact Below.refl _ _) | (with_reducible refine bw_set ?_ ?_ _) | (with_reducible apply bw_alloc) | (with_reducible refine bw_tr ?_ (by with_reducible assumption)) | (with_reducible apply bw_drew) | omega))⟩
  rw [HEQ.out]
  try simp (disch := omega) only [IntWalk.wrap64_in]
  try (show _ = _; omega)
set_option maxHeartbeats 4000000 in
set_option maxRecDepth 100000 in
theorem refEnc_73 (x : Ins) (w : World) (hr : rightB x = true) (hf : (rowT x.op).form = 73) :
    Calls Try.prog 14 #[insV x] w fun e w' => e = .returned (.tuple #[.int .i64 (encN x : Nat), .int .i64 0]) ∧ Below w.heap.size w w' := by
  obtain ⟨h0, hd, ha, hb, hn1, hn2, hn3⟩ := right_parts hr
  obtain ⟨hrb, hop⟩ := row_facts h0
  have hq := hr
  simp only [rowB, hop, Bool.and_eq_true, decide_eq_true_eq, Bool.or_eq_true, beq_iff_eq] at hrb
  obtain ⟨⟨hlo, z1, z2, z3, z4⟩, _⟩ := hrb
  have HEQ := Lib.hid (encS_73 x hr hf)
  unfold shX at hd ha hb hn1 hn2 hn3
  have hnb := ok_nn hr
  obtain ⟨op, d, a, b, n⟩ := x
  simp only at *
  generalize hrw : rowT op = r at *
  obtain ⟨nm, f, lo, mi, hi⟩ := r
  simp only at *
  subst hf
  have HRW := Lib.hid hrw; have HR := Lib.hid hr; have HN := Lib.hid hnb
  clear hrw hr hq h0 hop hnb
  simp [shapeT] at hd ha hb hn1 hn2 hn3 z1 z2 z3
  try (obtain ⟨_, _, rfl⟩ := hd)
  try (obtain ⟨_, _, rfl⟩ := ha)
  try (obtain ⟨_, _, rfl⟩ := hb)
  try subst z1
  try subst z2
  unfold insV
  go_enter Try.func14, Try.ntmps14
  go_wp2_with fail
  refine (refRight_g _ _ _ _ _ true _ HR.out).mono ?_
  rintro e w1 ⟨rfl, hb1⟩
  obtain ⟨c1, f1⟩ := bcell hb1
  have s1 := hb1.size
  try simp at s1
  have l1x0 : w.heap.size < w1.heap.size := by omega
  go_wp2_with fail
  refine (refRow_any op _).mono ?_
  rw [HRW.out]
  rintro e w2 ⟨rfl, hb2⟩
  obtain ⟨c2, f2⟩ := bcell hb2
  have s2 := hb2.size
  try simp at s2
  have l2x0 : w.heap.size < w2.heap.size := by omega
  unfold rfV
  go_wp2_with fail
  go_quiet ((go_at_call 32; first | with_reducible exact Calls.quiet_of (bits_at n 0 12 0 12 _ HN.out rfl rfl (by decide) (by decide))))
  go_wp2_with fail
  go_ret2
  refine ⟨ret2v (rintv ?_) rfl, below_drewN (by repeat (first | (with_reducible exact Below.refl _ _) | (with_reducible refine bw_set ?_ ?_ _) | (with_reducible apply bw_alloc) | (with_reducible refine bw_tr ?_ (by with_reducible assumption)) | (with_reducible apply bw_drew) | omega)) _⟩
  rw [HEQ.out]
  have b0_12 := field_lt (n % 4294967296).toNat 0 12
  simp only [Nat.reducePow] at b0_12
  generalize fieldN (n % 4294967296).toNat 0 12 = t0 at *
  try simp (disch := omega) only [IntWalk.wrap64_in]
  try (show _ = _; omega)
set_option maxHeartbeats 4000000 in
set_option maxRecDepth 100000 in
theorem refEnc_67 (x : Ins) (w : World) (hr : rightB x = true) (hf : (rowT x.op).form = 67) :
    Calls Try.prog 14 #[insV x] w fun e w' => e = .returned (.tuple #[.int .i64 (encN x : Nat), .int .i64 0]) ∧ Below w.heap.size w w' := by
  obtain ⟨h0, hd, ha, hb, hn1, hn2, hn3⟩ := right_parts hr
  obtain ⟨hrb, hop⟩ := row_facts h0
  have hq := hr
  simp only [rowB, hop, Bool.and_eq_true, decide_eq_true_eq, Bool.or_eq_true, beq_iff_eq] at hrb
  obtain ⟨⟨hlo, z1, z2, z3, z4⟩, _⟩ := hrb
  have HEQ := Lib.hid (encS_67 x hr hf)
  unfold shX at hd ha hb hn1 hn2 hn3
  have hnb := ok_nn hr
  obtain ⟨op, d, a, b, n⟩ := x
  simp only at *
  generalize hrw : rowT op = r at *
  obtain ⟨nm, f, lo, mi, hi⟩ := r
  simp only at *
  subst hf
  have HRW := Lib.hid hrw; have HR := Lib.hid hr; have HN := Lib.hid hnb
  clear hrw hr hq h0 hop hnb
  simp [shapeT] at hd ha hb hn1 hn2 hn3 z1 z2 z3
  try (obtain ⟨_, _, rfl⟩ := hd)
  try (obtain ⟨_, _, rfl⟩ := ha)
  try (obtain ⟨_, _, rfl⟩ := hb)
  try subst z1
  try subst z2
  unfold insV
  go_enter Try.func14, Try.ntmps14
  go_wp2_with fail
  refine (refRight_g _ _ _ _ _ true _ HR.out).mono ?_
  rintro e w1 ⟨rfl, hb1⟩
  obtain ⟨c1, f1⟩ := bcell hb1
  have s1 := hb1.size
  try simp at s1
  have l1x0 : w.heap.size < w1.heap.size := by omega
  go_wp2_with fail
  refine (refRow_any op _).mono ?_
  rw [HRW.out]
  rintro e w2 ⟨rfl, hb2⟩
  obtain ⟨c2, f2⟩ := bcell hb2
  have s2 := hb2.size
  try simp at s2
  have l2x0 : w.heap.size < w2.heap.size := by omega
  unfold rfV
  go_wp2_with fail
  go_quiet ((go_at_call 32; first | with_reducible exact Calls.quiet_of (bits_at n 0 12 0 12 _ HN.out rfl rfl (by decide) (by decide))))
  go_wp2_with fail
  go_ret2
  refine ⟨ret2v (rintv ?_) rfl, below_drewN (by repeat (first | (with_reducible exact Below.refl _ _) | (with_reducible refine bw_set ?_ ?_ _) | (with_reducible apply bw_alloc) | (with_reducible refine bw_tr ?_ (by with_reducible assumption)) | (with_reducible apply bw_drew) | omega)) _⟩
  rw [HEQ.out]
  have b0_12 := field_lt (n % 4294967296).toNat 0 12
  simp only [Nat.reducePow] at b0_12
  generalize fieldN (n % 4294967296).toNat 0 12 = t0 at *
  try simp (disch := omega) only [IntWalk.wrap64_in]
  try (show _ = _; omega)
set_option maxHeartbeats 4000000 in
set_option maxRecDepth 100000 in
theorem refEnc_72 (x : Ins) (w : World) (hr : rightB x = true) (hf : (rowT x.op).form = 72) :
    Calls Try.prog 14 #[insV x] w fun e w' => e = .returned (.tuple #[.int .i64 (encN x : Nat), .int .i64 0]) ∧ Below w.heap.size w w' := by
  obtain ⟨h0, hd, ha, hb, hn1, hn2, hn3⟩ := right_parts hr
  obtain ⟨hrb, hop⟩ := row_facts h0
  have hq := hr
  simp only [rowB, hop, Bool.and_eq_true, decide_eq_true_eq, Bool.or_eq_true, beq_iff_eq] at hrb
  obtain ⟨⟨hlo, z1, z2, z3, z4⟩, _⟩ := hrb
  have HEQ := Lib.hid (encS_72 x hr hf)
  unfold shX at hd ha hb hn1 hn2 hn3
  have hnb := ok_nn hr
  obtain ⟨op, d, a, b, n⟩ := x
  simp only at *
  generalize hrw : rowT op = r at *
  obtain ⟨nm, f, lo, mi, hi⟩ := r
  simp only at *
  subst hf
  have HRW := Lib.hid hrw; have HR := Lib.hid hr; have HN := Lib.hid hnb
  clear hrw hr hq h0 hop hnb
  simp [shapeT] at hd ha hb hn1 hn2 hn3 z1 z2 z3
  try (obtain ⟨_, _, rfl⟩ := hd)
  try (obtain ⟨_, _, rfl⟩ := ha)
  try (obtain ⟨_, _, rfl⟩ := hb)
  try subst z1
  try subst z2
  unfold insV
  go_enter Try.func14, Try.ntmps14
  go_wp2_with fail
  refine (refRight_g _ _ _ _ _ true _ HR.out).mono ?_
  rintro e w1 ⟨rfl, hb1⟩
  obtain ⟨c1, f1⟩ := bcell hb1
  have s1 := hb1.size
  try simp at s1
  have l1x0 : w.heap.size < w1.heap.size := by omega
  go_wp2_with fail
  refine (refRow_any op _).mono ?_
  rw [HRW.out]
  rintro e w2 ⟨rfl, hb2⟩
  obtain ⟨c2, f2⟩ := bcell hb2
  have s2 := hb2.size
  try simp at s2
  have l2x0 : w.heap.size < w2.heap.size := by omega
  unfold rfV
  go_wp2_with fail
  go_ret2
  refine ⟨ret2v (rintv ?_) rfl, (by repeat (first | (with_reducible exact Below.refl _ _) | (with_reducible refine bw_set ?_ ?_ _) | (with_reducible apply bw_alloc) | (with_reducible refine bw_tr ?_ (by with_reducible assumption)) | (with_reducible apply bw_drew) | omega))⟩
  rw [HEQ.out]
  try simp (disch := omega) only [IntWalk.wrap64_in]
  try (show _ = _; omega)
set_option maxHeartbeats 4000000 in
set_option maxRecDepth 100000 in
theorem refEnc_83 (x : Ins) (w : World) (hr : rightB x = true) (hf : (rowT x.op).form = 83) :
    Calls Try.prog 14 #[insV x] w fun e w' => e = .returned (.tuple #[.int .i64 (encN x : Nat), .int .i64 0]) ∧ Below w.heap.size w w' := by
  obtain ⟨h0, hd, ha, hb, hn1, hn2, hn3⟩ := right_parts hr
  obtain ⟨hrb, hop⟩ := row_facts h0
  have hq := hr
  simp only [rowB, hop, Bool.and_eq_true, decide_eq_true_eq, Bool.or_eq_true, beq_iff_eq] at hrb
  obtain ⟨⟨hlo, z1, z2, z3, z4⟩, _⟩ := hrb
  have HEQ := Lib.hid (encS_83 x hr hf)
  unfold shX at hd ha hb hn1 hn2 hn3
  have hnb := ok_nn hr
  obtain ⟨op, d, a, b, n⟩ := x
  simp only at *
  generalize hrw : rowT op = r at *
  obtain ⟨nm, f, lo, mi, hi⟩ := r
  simp only at *
  subst hf
  have HRW := Lib.hid hrw; have HR := Lib.hid hr; have HN := Lib.hid hnb
  clear hrw hr hq h0 hop hnb
  simp [shapeT] at hd ha hb hn1 hn2 hn3 z1 z2 z3
  try (obtain ⟨_, _, rfl⟩ := hd)
  try (obtain ⟨_, _, rfl⟩ := ha)
  try (obtain ⟨_, _, rfl⟩ := hb)
  try subst z1
  try subst z2
  unfold insV
  go_enter Try.func14, Try.ntmps14
  go_wp2_with fail
  refine (refRight_g _ _ _ _ _ true _ HR.out).mono ?_
  rintro e w1 ⟨rfl, hb1⟩
  obtain ⟨c1, f1⟩ := bcell hb1
  have s1 := hb1.size
  try simp at s1
  have l1x0 : w.heap.size < w1.heap.size := by omega
  go_wp2_with fail
  refine (refRow_any op _).mono ?_
  rw [HRW.out]
  rintro e w2 ⟨rfl, hb2⟩
  obtain ⟨c2, f2⟩ := bcell hb2
  have s2 := hb2.size
  try simp at s2
  have l2x0 : w.heap.size < w2.heap.size := by omega
  unfold rfV
  go_wp2_with fail
  go_quiet ((go_at_call 32; first | with_reducible exact Calls.quiet_of (bits_at n 0 5 0 5 _ HN.out rfl rfl (by decide) (by decide)) | with_reducible exact Calls.quiet_of (bits_at n 5 7 5 7 _ HN.out rfl rfl (by decide) (by decide))))
  go_wp2_with fail
  go_ret2
  refine ⟨ret2v (rintv ?_) rfl, below_drewN (by repeat (first | (with_reducible exact Below.refl _ _) | (with_reducible refine bw_set ?_ ?_ _) | (with_reducible apply bw_alloc) | (with_reducible refine bw_tr ?_ (by with_reducible assumption)) | (with_reducible apply bw_drew) | omega)) _⟩
  rw [HEQ.out]
  have b0_5 := field_lt (n % 4294967296).toNat 0 5
  have b5_7 := field_lt (n % 4294967296).toNat 5 7
  simp only [Nat.reducePow] at b0_5 b5_7
  generalize fieldN (n % 4294967296).toNat 0 5 = t0, fieldN (n % 4294967296).toNat 5 7 = t1 at *
  try simp (disch := omega) only [IntWalk.wrap64_in]
  try (show _ = _; omega)
set_option maxHeartbeats 4000000 in
set_option maxRecDepth 100000 in
theorem refEnc_66 (x : Ins) (w : World) (hr : rightB x = true) (hf : (rowT x.op).form = 66) :
    Calls Try.prog 14 #[insV x] w fun e w' => e = .returned (.tuple #[.int .i64 (encN x : Nat), .int .i64 0]) ∧ Below w.heap.size w w' := by
  obtain ⟨h0, hd, ha, hb, hn1, hn2, hn3⟩ := right_parts hr
  obtain ⟨hrb, hop⟩ := row_facts h0
  have hq := hr
  simp only [rowB, hop, Bool.and_eq_true, decide_eq_true_eq, Bool.or_eq_true, beq_iff_eq] at hrb
  obtain ⟨⟨hlo, z1, z2, z3, z4⟩, _⟩ := hrb
  have HEQ := Lib.hid (encS_66 x hr hf)
  unfold shX at hd ha hb hn1 hn2 hn3
  have hnb := ok_nn hr
  obtain ⟨op, d, a, b, n⟩ := x
  simp only at *
  generalize hrw : rowT op = r at *
  obtain ⟨nm, f, lo, mi, hi⟩ := r
  simp only at *
  subst hf
  have HRW := Lib.hid hrw; have HR := Lib.hid hr; have HN := Lib.hid hnb
  clear hrw hr hq h0 hop hnb
  simp [shapeT] at hd ha hb hn1 hn2 hn3 z1 z2 z3
  try (obtain ⟨_, _, rfl⟩ := hd)
  try (obtain ⟨_, _, rfl⟩ := ha)
  try (obtain ⟨_, _, rfl⟩ := hb)
  try subst z1
  try subst z2
  unfold insV
  go_enter Try.func14, Try.ntmps14
  go_wp2_with fail
  refine (refRight_g _ _ _ _ _ true _ HR.out).mono ?_
  rintro e w1 ⟨rfl, hb1⟩
  obtain ⟨c1, f1⟩ := bcell hb1
  have s1 := hb1.size
  try simp at s1
  have l1x0 : w.heap.size < w1.heap.size := by omega
  go_wp2_with fail
  refine (refRow_any op _).mono ?_
  rw [HRW.out]
  rintro e w2 ⟨rfl, hb2⟩
  obtain ⟨c2, f2⟩ := bcell hb2
  have s2 := hb2.size
  try simp at s2
  have l2x0 : w.heap.size < w2.heap.size := by omega
  unfold rfV
  go_wp2_with fail
  go_quiet ((go_at_call 32; first | with_reducible exact Calls.quiet_of (bits_at n 11 1 11 1 _ HN.out rfl rfl (by decide) (by decide)) | with_reducible exact Calls.quiet_of (bits_at n 1 4 1 4 _ HN.out rfl rfl (by decide) (by decide)) | with_reducible exact Calls.quiet_of (bits_at n 5 6 5 6 _ HN.out rfl rfl (by decide) (by decide)) | with_reducible exact Calls.quiet_of (bits_at n 12 1 12 1 _ HN.out rfl rfl (by decide) (by decide))))
  go_wp2_with fail
  go_ret2
  refine ⟨ret2v (rintv ?_) rfl, below_drewN (by repeat (first | (with_reducible exact Below.refl _ _) | (with_reducible refine bw_set ?_ ?_ _) | (with_reducible apply bw_alloc) | (with_reducible refine bw_tr ?_ (by with_reducible assumption)) | (with_reducible apply bw_drew) | omega)) _⟩
  rw [HEQ.out]
  have b11_1 := field_lt (n % 4294967296).toNat 11 1
  have b1_4 := field_lt (n % 4294967296).toNat 1 4
  have b5_6 := field_lt (n % 4294967296).toNat 5 6
  have b12_1 := field_lt (n % 4294967296).toNat 12 1
  simp only [Nat.reducePow] at b11_1 b1_4 b5_6 b12_1
  generalize fieldN (n % 4294967296).toNat 11 1 = t0, fieldN (n % 4294967296).toNat 1 4 = t1, fieldN (n % 4294967296).toNat 5 6 = t2, fieldN (n % 4294967296).toNat 12 1 = t3 at *
  try simp (disch := omega) only [IntWalk.wrap64_in]
  try (show _ = _; omega)
set_option maxHeartbeats 4000000 in
set_option maxRecDepth 100000 in
theorem refEnc_85 (x : Ins) (w : World) (hr : rightB x = true) (hf : (rowT x.op).form = 85) :
    Calls Try.prog 14 #[insV x] w fun e w' => e = .returned (.tuple #[.int .i64 (encN x : Nat), .int .i64 0]) ∧ Below w.heap.size w w' := by
  obtain ⟨h0, hd, ha, hb, hn1, hn2, hn3⟩ := right_parts hr
  obtain ⟨hrb, hop⟩ := row_facts h0
  have hq := hr
  simp only [rowB, hop, Bool.and_eq_true, decide_eq_true_eq, Bool.or_eq_true, beq_iff_eq] at hrb
  obtain ⟨⟨hlo, z1, z2, z3, z4⟩, _⟩ := hrb
  have HEQ := Lib.hid (encS_85 x hr hf)
  unfold shX at hd ha hb hn1 hn2 hn3
  have hnb := ok_nn hr
  obtain ⟨op, d, a, b, n⟩ := x
  simp only at *
  generalize hrw : rowT op = r at *
  obtain ⟨nm, f, lo, mi, hi⟩ := r
  simp only at *
  subst hf
  have HRW := Lib.hid hrw; have HR := Lib.hid hr; have HN := Lib.hid hnb
  clear hrw hr hq h0 hop hnb
  simp [shapeT] at hd ha hb hn1 hn2 hn3 z1 z2 z3
  try (obtain ⟨_, _, rfl⟩ := hd)
  try (obtain ⟨_, _, rfl⟩ := ha)
  try (obtain ⟨_, _, rfl⟩ := hb)
  try subst z1
  try subst z2
  unfold insV
  go_enter Try.func14, Try.ntmps14
  go_wp2_with fail
  refine (refRight_g _ _ _ _ _ true _ HR.out).mono ?_
  rintro e w1 ⟨rfl, hb1⟩
  obtain ⟨c1, f1⟩ := bcell hb1
  have s1 := hb1.size
  try simp at s1
  have l1x0 : w.heap.size < w1.heap.size := by omega
  go_wp2_with fail
  refine (refRow_any op _).mono ?_
  rw [HRW.out]
  rintro e w2 ⟨rfl, hb2⟩
  obtain ⟨c2, f2⟩ := bcell hb2
  have s2 := hb2.size
  try simp at s2
  have l2x0 : w.heap.size < w2.heap.size := by omega
  unfold rfV
  go_wp2_with fail
  go_ret2
  refine ⟨ret2v (rintv ?_) rfl, (by repeat (first | (with_reducible exact Below.refl _ _) | (with_reducible refine bw_set ?_ ?_ _) | (with_reducible apply bw_alloc) | (with_reducible refine bw_tr ?_ (by with_reducible assumption)) | (with_reducible apply bw_drew) | omega))⟩
  rw [HEQ.out]
  try simp (disch := omega) only [IntWalk.wrap64_in]
  try (show _ = _; omega)
set_option maxHeartbeats 4000000 in
set_option maxRecDepth 100000 in
theorem refEnc_74 (x : Ins) (w : World) (hr : rightB x = true) (hf : (rowT x.op).form = 74) :
    Calls Try.prog 14 #[insV x] w fun e w' => e = .returned (.tuple #[.int .i64 (encN x : Nat), .int .i64 0]) ∧ Below w.heap.size w w' := by
  obtain ⟨h0, hd, ha, hb, hn1, hn2, hn3⟩ := right_parts hr
  obtain ⟨hrb, hop⟩ := row_facts h0
  have hq := hr
  simp only [rowB, hop, Bool.and_eq_true, decide_eq_true_eq, Bool.or_eq_true, beq_iff_eq] at hrb
  obtain ⟨⟨hlo, z1, z2, z3, z4⟩, _⟩ := hrb
  have HEQ := Lib.hid (encS_74 x hr hf)
  unfold shX at hd ha hb hn1 hn2 hn3
  have hnb := ok_nn hr
  obtain ⟨op, d, a, b, n⟩ := x
  simp only at *
  generalize hrw : rowT op = r at *
  obtain ⟨nm, f, lo, mi, hi⟩ := r
  simp only at *
  subst hf
  have HRW := Lib.hid hrw; have HR := Lib.hid hr; have HN := Lib.hid hnb
  clear hrw hr hq h0 hop hnb
  simp [shapeT] at hd ha hb hn1 hn2 hn3 z1 z2 z3
  try (obtain ⟨_, _, rfl⟩ := hd)
  try (obtain ⟨_, _, rfl⟩ := ha)
  try (obtain ⟨_, _, rfl⟩ := hb)
  try subst z1
  try subst z2
  unfold insV
  go_enter Try.func14, Try.ntmps14
  go_wp2_with fail
  refine (refRight_g _ _ _ _ _ true _ HR.out).mono ?_
  rintro e w1 ⟨rfl, hb1⟩
  obtain ⟨c1, f1⟩ := bcell hb1
  have s1 := hb1.size
  try simp at s1
  have l1x0 : w.heap.size < w1.heap.size := by omega
  go_wp2_with fail
  refine (refRow_any op _).mono ?_
  rw [HRW.out]
  rintro e w2 ⟨rfl, hb2⟩
  obtain ⟨c2, f2⟩ := bcell hb2
  have s2 := hb2.size
  try simp at s2
  have l2x0 : w.heap.size < w2.heap.size := by omega
  unfold rfV
  go_wp2_with fail
  go_quiet ((go_at_call 32; first | with_reducible exact Calls.quiet_of (bits_at n 12 8 12 8 _ HN.out rfl rfl (by decide) (by decide)) | with_reducible exact Calls.quiet_of (bits_at n 11 1 11 1 _ HN.out rfl rfl (by decide) (by decide)) | with_reducible exact Calls.quiet_of (bits_at n 1 10 1 10 _ HN.out rfl rfl (by decide) (by decide)) | with_reducible exact Calls.quiet_of (bits_at n 20 1 20 1 _ HN.out rfl rfl (by decide) (by decide))))
  go_wp2_with fail
  go_ret2
  refine ⟨ret2v (rintv ?_) rfl, below_drewN (by repeat (first | (with_reducible exact Below.refl _ _) | (with_reducible refine bw_set ?_ ?_ _) | (with_reducible apply bw_alloc) | (with_reducible refine bw_tr ?_ (by with_reducible assumption)) | (with_reducible apply bw_drew) | omega)) _⟩
  rw [HEQ.out]
  have b12_8 := field_lt (n % 4294967296).toNat 12 8
  have b11_1 := field_lt (n % 4294967296).toNat 11 1
  have b1_10 := field_lt (n % 4294967296).toNat 1 10
  have b20_1 := field_lt (n % 4294967296).toNat 20 1
  simp only [Nat.reducePow] at b12_8 b11_1 b1_10 b20_1
  generalize fieldN (n % 4294967296).toNat 12 8 = t0, fieldN (n % 4294967296).toNat 11 1 = t1, fieldN (n % 4294967296).toNat 1 10 = t2, fieldN (n % 4294967296).toNat 20 1 = t3 at *
  try simp (disch := omega) only [IntWalk.wrap64_in]
  try (show _ = _; omega)
set_option maxHeartbeats 4000000 in
set_option maxRecDepth 100000 in
theorem refEnc_70 (x : Ins) (w : World) (hr : rightB x = true) (hf : (rowT x.op).form = 70) :
    Calls Try.prog 14 #[insV x] w fun e w' => e = .returned (.tuple #[.int .i64 (encN x : Nat), .int .i64 0]) ∧ Below w.heap.size w w' := by
  obtain ⟨h0, hd, ha, hb, hn1, hn2, hn3⟩ := right_parts hr
  obtain ⟨hrb, hop⟩ := row_facts h0
  have hq := hr
  simp only [rowB, hop, Bool.and_eq_true, decide_eq_true_eq, Bool.or_eq_true, beq_iff_eq] at hrb
  obtain ⟨⟨hlo, z1, z2, z3, z4⟩, _⟩ := hrb
  have HEQ := Lib.hid (encS_70 x hr hf)
  unfold shX at hd ha hb hn1 hn2 hn3
  have hnb := ok_nn hr
  obtain ⟨op, d, a, b, n⟩ := x
  simp only at *
  generalize hrw : rowT op = r at *
  obtain ⟨nm, f, lo, mi, hi⟩ := r
  simp only at *
  subst hf
  have HRW := Lib.hid hrw; have HR := Lib.hid hr; have HN := Lib.hid hnb
  clear hrw hr hq h0 hop hnb
  simp [shapeT] at hd ha hb hn1 hn2 hn3 z1 z2 z3
  try (obtain ⟨_, _, rfl⟩ := hd)
  try (obtain ⟨_, _, rfl⟩ := ha)
  try (obtain ⟨_, _, rfl⟩ := hb)
  try subst z1
  try subst z2
  unfold insV
  go_enter Try.func14, Try.ntmps14
  go_wp2_with fail
  refine (refRight_g _ _ _ _ _ true _ HR.out).mono ?_
  rintro e w1 ⟨rfl, hb1⟩
  obtain ⟨c1, f1⟩ := bcell hb1
  have s1 := hb1.size
  try simp at s1
  have l1x0 : w.heap.size < w1.heap.size := by omega
  go_wp2_with fail
  refine (refRow_any op _).mono ?_
  rw [HRW.out]
  rintro e w2 ⟨rfl, hb2⟩
  obtain ⟨c2, f2⟩ := bcell hb2
  have s2 := hb2.size
  try simp at s2
  have l2x0 : w.heap.size < w2.heap.size := by omega
  unfold rfV
  go_wp2_with fail
  go_ret2
  refine ⟨ret2v (rintv ?_) rfl, (by repeat (first | (with_reducible exact Below.refl _ _) | (with_reducible refine bw_set ?_ ?_ _) | (with_reducible apply bw_alloc) | (with_reducible refine bw_tr ?_ (by with_reducible assumption)) | (with_reducible apply bw_drew) | omega))⟩
  rw [HEQ.out]
  try simp (disch := omega) only [IntWalk.wrap64_in]
  try (show _ = _; omega)
set_option maxHeartbeats 4000000 in
set_option maxRecDepth 100000 in
theorem refEnc_90 (x : Ins) (w : World) (hr : rightB x = true) (hf : (rowT x.op).form = 90) :
    Calls Try.prog 14 #[insV x] w fun e w' => e = .returned (.tuple #[.int .i64 (encN x : Nat), .int .i64 0]) ∧ Below w.heap.size w w' := by
  obtain ⟨h0, hd, ha, hb, hn1, hn2, hn3⟩ := right_parts hr
  obtain ⟨hrb, hop⟩ := row_facts h0
  have hq := hr
  simp only [rowB, hop, Bool.and_eq_true, decide_eq_true_eq, Bool.or_eq_true, beq_iff_eq] at hrb
  obtain ⟨⟨hlo, z1, z2, z3, z4⟩, _⟩ := hrb
  have HEQ := Lib.hid (encS_90 x hr hf)
  unfold shX at hd ha hb hn1 hn2 hn3
  have hnb := ok_nn hr
  obtain ⟨op, d, a, b, n⟩ := x
  simp only at *
  generalize hrw : rowT op = r at *
  obtain ⟨nm, f, lo, mi, hi⟩ := r
  simp only at *
  subst hf
  have HRW := Lib.hid hrw; have HR := Lib.hid hr; have HN := Lib.hid hnb
  clear hrw hr hq h0 hop hnb
  simp [shapeT] at hd ha hb hn1 hn2 hn3 z1 z2 z3
  try (obtain ⟨_, _, rfl⟩ := hd)
  try (obtain ⟨_, _, rfl⟩ := ha)
  try (obtain ⟨_, _, rfl⟩ := hb)
  try subst z1
  try subst z2
  unfold insV
  go_enter Try.func14, Try.ntmps14
  go_wp2_with fail
  refine (refRight_g _ _ _ _ _ true _ HR.out).mono ?_
  rintro e w1 ⟨rfl, hb1⟩
  obtain ⟨c1, f1⟩ := bcell hb1
  have s1 := hb1.size
  try simp at s1
  have l1x0 : w.heap.size < w1.heap.size := by omega
  go_wp2_with fail
  refine (refRow_any op _).mono ?_
  rw [HRW.out]
  rintro e w2 ⟨rfl, hb2⟩
  obtain ⟨c2, f2⟩ := bcell hb2
  have s2 := hb2.size
  try simp at s2
  have l2x0 : w.heap.size < w2.heap.size := by omega
  unfold rfV
  go_wp2_with fail
  all_goals
    go_ret2
    refine ⟨ret2v (rintv ?_) rfl, (by repeat (first | (with_reducible exact Below.refl _ _) | (with_reducible refine bw_set ?_ ?_ _) | (with_reducible apply bw_alloc) | (with_reducible refine bw_tr ?_ (by with_reducible assumption)) | (with_reducible apply bw_drew) | omega))⟩
    rw [HEQ.out]
    simp_all [fixedN]
    try omega
set_option maxHeartbeats 4000000 in
set_option maxRecDepth 100000 in
theorem refEnc_76 (x : Ins) (w : World) (hr : rightB x = true) (hf : (rowT x.op).form = 76) :
    Calls Try.prog 14 #[insV x] w fun e w' => e = .returned (.tuple #[.int .i64 (encN x : Nat), .int .i64 0]) ∧ Below w.heap.size w w' := by
  obtain ⟨h0, hd, ha, hb, hn1, hn2, hn3⟩ := right_parts hr
  obtain ⟨hrb, hop⟩ := row_facts h0
  have hq := hr
  simp only [rowB, hop, Bool.and_eq_true, decide_eq_true_eq, Bool.or_eq_true, beq_iff_eq] at hrb
  obtain ⟨⟨hlo, z1, z2, z3, z4⟩, _⟩ := hrb
  have HEQ := Lib.hid (encS_76 x hr hf)
  unfold shX at hd ha hb hn1 hn2 hn3
  have hnb := ok_nn hr
  obtain ⟨op, d, a, b, n⟩ := x
  simp only at *
  generalize hrw : rowT op = r at *
  obtain ⟨nm, f, lo, mi, hi⟩ := r
  simp only at *
  subst hf
  have HRW := Lib.hid hrw; have HR := Lib.hid hr; have HN := Lib.hid hnb
  clear hrw hr hq h0 hop hnb
  simp [shapeT] at hd ha hb hn1 hn2 hn3 z1 z2 z3
  try (obtain ⟨_, _, rfl⟩ := hd)
  try (obtain ⟨_, _, rfl⟩ := ha)
  try (obtain ⟨_, _, rfl⟩ := hb)
  try subst z1
  try subst z2
  unfold insV
  go_enter Try.func14, Try.ntmps14
  go_wp2_with fail
  refine (refRight_g _ _ _ _ _ true _ HR.out).mono ?_
  rintro e w1 ⟨rfl, hb1⟩
  obtain ⟨c1, f1⟩ := bcell hb1
  have s1 := hb1.size
  try simp at s1
  have l1x0 : w.heap.size < w1.heap.size := by omega
  go_wp2_with fail
  refine (refRow_any op _).mono ?_
  rw [HRW.out]
  rintro e w2 ⟨rfl, hb2⟩
  obtain ⟨c2, f2⟩ := bcell hb2
  have s2 := hb2.size
  try simp at s2
  have l2x0 : w.heap.size < w2.heap.size := by omega
  unfold rfV
  go_wp2_with fail
  go_ret2
  refine ⟨ret2v (rintv ?_) rfl, (by repeat (first | (with_reducible exact Below.refl _ _) | (with_reducible refine bw_set ?_ ?_ _) | (with_reducible apply bw_alloc) | (with_reducible refine bw_tr ?_ (by with_reducible assumption)) | (with_reducible apply bw_drew) | omega))⟩
  rw [HEQ.out]
  try simp (disch := omega) only [IntWalk.wrap64_in]
  try (show _ = _; omega)
set_option maxHeartbeats 4000000 in
set_option maxRecDepth 100000 in
theorem refEnc_65 (x : Ins) (w : World) (hr : rightB x = true) (hf : (rowT x.op).form = 65) :
    Calls Try.prog 14 #[insV x] w fun e w' => e = .returned (.tuple #[.int .i64 (encN x : Nat), .int .i64 0]) ∧ Below w.heap.size w w' := by
  obtain ⟨h0, hd, ha, hb, hn1, hn2, hn3⟩ := right_parts hr
  obtain ⟨hrb, hop⟩ := row_facts h0
  have hq := hr
  simp only [rowB, hop, Bool.and_eq_true, decide_eq_true_eq, Bool.or_eq_true, beq_iff_eq] at hrb
  obtain ⟨⟨hlo, z1, z2, z3, z4⟩, _⟩ := hrb
  have HEQ := Lib.hid (encS_65 x hr hf)
  unfold shX at hd ha hb hn1 hn2 hn3
  have hnb := ok_nn hr
  obtain ⟨op, d, a, b, n⟩ := x
  simp only at *
  generalize hrw : rowT op = r at *
  obtain ⟨nm, f, lo, mi, hi⟩ := r
  simp only at *
  subst hf
  have HRW := Lib.hid hrw; have HR := Lib.hid hr; have HN := Lib.hid hnb
  clear hrw hr hq h0 hop hnb
  simp [shapeT] at hd ha hb hn1 hn2 hn3 z1 z2 z3
  try (obtain ⟨_, _, rfl⟩ := hd)
  try (obtain ⟨_, _, rfl⟩ := ha)
  try (obtain ⟨_, _, rfl⟩ := hb)
  try subst z1
  try subst z2
  unfold insV
  go_enter Try.func14, Try.ntmps14
  go_wp2_with fail
  refine (refRight_g _ _ _ _ _ true _ HR.out).mono ?_
  rintro e w1 ⟨rfl, hb1⟩
  obtain ⟨c1, f1⟩ := bcell hb1
  have s1 := hb1.size
  try simp at s1
  have l1x0 : w.heap.size < w1.heap.size := by omega
  go_wp2_with fail
  refine (refRow_any op _).mono ?_
  rw [HRW.out]
  rintro e w2 ⟨rfl, hb2⟩
  obtain ⟨c2, f2⟩ := bcell hb2
  have s2 := hb2.size
  try simp at s2
  have l2x0 : w.heap.size < w2.heap.size := by omega
  unfold rfV
  go_wp2_with fail
  go_ret2
  refine ⟨ret2v (rintv ?_) rfl, (by repeat (first | (with_reducible exact Below.refl _ _) | (with_reducible refine bw_set ?_ ?_ _) | (with_reducible apply bw_alloc) | (with_reducible refine bw_tr ?_ (by with_reducible assumption)) | (with_reducible apply bw_drew) | omega))⟩
  rw [HEQ.out]
  try simp (disch := omega) only [IntWalk.wrap64_in]
  try (show _ = _; omega)
set_option maxRecDepth 100000 in
theorem refEncode_any (x : Ins) (w : World) :
    Calls Try.prog 14 #[insV x] w fun e w' => e = .returned (.tuple #[.int .i64 (encV x), .int .i64 (encE x)]) ∧ Below w.heap.size w w' := by
  cases hr : rightB x
  case false =>
    rw [(enc_wrong hr).1, (enc_wrong hr).2]
    obtain ⟨op, d, a, b, n⟩ := x
    have HR := Lib.hid hr; clear hr
    unfold insV
    go_enter Try.func14, Try.ntmps14
    go_wp2_with fail
    refine (refRight_g _ _ _ _ _ false _ HR.out).mono ?_
    rintro e w1 ⟨rfl, hb1⟩
    obtain ⟨c1, f1⟩ := bcell hb1
    have s1 := hb1.size
    try simp at s1
    have l1x0 : w.heap.size < w1.heap.size := by omega
    go_wp2_with fail
    go_ret2
    exact ⟨rfl, (by repeat (first | (with_reducible exact Below.refl _ _) | (with_reducible refine bw_set ?_ ?_ _) | (with_reducible apply bw_alloc) | (with_reducible refine bw_tr ?_ (by with_reducible assumption)) | (with_reducible apply bw_drew) | omega))⟩
  case true =>
    rw [(enc_right hr).1, (enc_right hr).2]
    rcases form_mem _ (right_parts hr).1 with h | h | h | h | h | h | h | h | h | h | h | h
    · exact refEnc_82 x w hr h
    · exact refEnc_73 x w hr h
    · exact refEnc_72 x w hr h
    · exact refEnc_83 x w hr h
    · exact refEnc_66 x w hr h
    · exact refEnc_85 x w hr h
    · exact refEnc_74 x w hr h
    · exact refEnc_70 x w hr h
    · exact refEnc_67 x w hr h
    · exact refEnc_76 x w hr h
    · exact refEnc_65 x w hr h
    · exact refEnc_90 x w hr h
end Go.Proofs.Ytefebnicclbhjaa
