/-
  headstockref14.Step does what hart.Step does, at a fine hart.
-/
import Derived.Test.YtiahdhlfecgnpaaRef14k
namespace Go.Proofs.Ytiahdhlfecgnpaa
open Go.RowKit
set_option linter.unusedSimpArgs false
set_option linter.unusedVariables false
theorem w32w32 (a : Int) : wrap32 (wrap32 a) = wrap32 a := wrap32_id (wrap32_i32 a)
theorem right_n {x : Ins} (hr : rightB x = true) : -1048576 ≤ x.n ∧ x.n ≤ 1048575 := by
  rw [right_fold] at hr
  simp only [Bool.and_eq_true] at hr
  have ho : 1 ≤ x.op ∧ x.op ≤ 49 := by
    by_cases hq : 1 ≤ x.op ∧ x.op ≤ 49
    · exact hq
    · have := hr.1; rw [isOp_no hq] at this; cases this
  have hf := form_mem x.op ho
  have hn := hr.2.2.2.2
  generalize (rowT x.op).form = f at *
  unfold numB at hn
  simp only [Bool.and_eq_true, decide_eq_true_eq] at hn
  rcases hf with rfl | rfl | rfl | rfl | rfl | rfl | rfl | rfl | rfl | rfl | rfl | rfl <;> simp [shapeT] at hn <;> omega
theorem seq_1 (h : Ht) (id d n : Int) (ka kb : Nat) (f : Fine h) (hr : rightB ⟨1, d, ka, kb, n⟩ = true) :
    stepX h id ⟨1, d, ka, kb, n⟩ = ({ putH h d (4096 * n) with pc := wrap32 (h.pc + 4) }, ⟨0, 0, 0, 0, 0⟩) := by
  rw [stepX_ok hr (by simp) (by simp)]
  unfold stepN putX leadsN effX
  simp only [Int.toNat_natCast, Int.reduceEq, Int.reduceLE, if_false, if_true, false_and, and_false, or_false, false_or, or_self, true_and, and_true, or_true, true_or]
  rw [Int.mul_comm]
theorem seq_2 (h : Ht) (id d n : Int) (ka kb : Nat) (f : Fine h) (hr : rightB ⟨2, d, ka, kb, n⟩ = true) :
    stepX h id ⟨2, d, ka, kb, n⟩ = ({ putH h d (h.pc + 4096 * n) with pc := wrap32 (h.pc + 4) }, ⟨0, 0, 0, 0, 0⟩) := by
  rw [stepX_ok hr (by simp) (by simp)]
  unfold stepN putX leadsN effX
  simp only [Int.toNat_natCast, Int.reduceEq, Int.reduceLE, if_false, if_true, false_and, and_false, or_false, false_or, or_self, true_and, and_true, or_true, true_or]
  rw [Int.mul_comm]
theorem seq_3 (h : Ht) (id d n : Int) (ka kb : Nat) (f : Fine h) (hr : rightB ⟨3, d, ka, kb, n⟩ = true) :
    stepX h id ⟨3, d, ka, kb, n⟩ = ({ putH h d (wrap32 (h.pc + 4)) with pc := wrap32 (h.pc + n) }, ⟨0, 0, 0, 0, 0⟩) := by
  rw [stepX_ok hr (by simp) (by simp)]
  unfold stepN putX leadsN effX
  simp only [Int.toNat_natCast, Int.reduceEq, Int.reduceLE, if_false, if_true, false_and, and_false, or_false, false_or, or_self, true_and, and_true, or_true, true_or]
  rw [putH_wrap h d (h.pc + 4) (wrap32 (h.pc + 4)) (w32w32 _).symm]
theorem seq_4 (h : Ht) (id d n : Int) (ka kb : Nat) (f : Fine h) (hr : rightB ⟨4, d, ka, kb, n⟩ = true) :
    stepX h id ⟨4, d, ka, kb, n⟩ = ({ putH h d (wrap32 (h.pc + 4)) with pc := twoN 6 ((h.r.getD ka 0) + n) (-2) }, ⟨0, 0, 0, 0, 0⟩) := by
  rw [stepX_ok hr (by simp) (by simp)]
  unfold stepN putX leadsN effX
  simp only [Int.toNat_natCast, Int.reduceEq, Int.reduceLE, if_false, if_true, false_and, and_false, or_false, false_or, or_self, true_and, and_true, or_true, true_or]
  rw [putH_wrap h d (h.pc + 4) (wrap32 (h.pc + 4)) (w32w32 _).symm, two6_any _ ⟨by decide, by decide⟩]
theorem seq_11 (h : Ht) (id d n : Int) (ka kb : Nat) (f : Fine h) (hr : rightB ⟨11, d, ka, kb, n⟩ = true) :
    stepX h id ⟨11, d, ka, kb, n⟩ = ({ h with pc := wrap32 (h.pc + 4) }, ⟨1, d, wrap32 ((h.r.getD ka 0) + n), 0, 0⟩) := by
  rw [stepX_ok hr (by simp) (by simp)]
  unfold stepN putX leadsN effX
  simp only [Int.toNat_natCast, Int.reduceEq, Int.reduceLE, if_false, if_true, false_and, and_false, or_false, false_or, or_self, true_and, and_true, or_true, true_or]
  try rfl
theorem seq_12 (h : Ht) (id d n : Int) (ka kb : Nat) (f : Fine h) (hr : rightB ⟨12, d, ka, kb, n⟩ = true) :
    stepX h id ⟨12, d, ka, kb, n⟩ = ({ h with pc := wrap32 (h.pc + 4) }, ⟨2, 0, wrap32 ((h.r.getD ka 0) + n), (h.r.getD kb 0), 0⟩) := by
  rw [stepX_ok hr (by simp) (by simp)]
  unfold stepN putX leadsN effX
  simp only [Int.toNat_natCast, Int.reduceEq, Int.reduceLE, if_false, if_true, false_and, and_false, or_false, false_or, or_self, true_and, and_true, or_true, true_or]
  try rfl
theorem seq_39 (h : Ht) (id d n : Int) (ka kb : Nat) (f : Fine h) (hr : rightB ⟨39, d, ka, kb, n⟩ = true) :
    stepX h id ⟨39, d, ka, kb, n⟩ = ({ h with pc := wrap32 (h.pc + 4) }, ⟨6, 0, 0, 0, 0⟩) := by
  rw [stepX_ok hr (by simp) (by simp)]
  unfold stepN putX leadsN effX
  simp only [Int.toNat_natCast, Int.reduceEq, Int.reduceLE, if_false, if_true, false_and, and_false, or_false, false_or, or_self, true_and, and_true, or_true, true_or]
  try rfl
theorem seq_46 (h : Ht) (id d n : Int) (ka kb : Nat) (f : Fine h) (hr : rightB ⟨46, d, ka, kb, n⟩ = true) :
    stepX h id ⟨46, d, ka, kb, n⟩ = ({ h with pc := wrap32 (h.pc + 4) }, ⟨3, d, (h.r.getD ka 0), 0, 0⟩) := by
  rw [stepX_ok hr (by simp) (by simp)]
  unfold stepN putX leadsN effX
  simp only [Int.toNat_natCast, Int.reduceEq, Int.reduceLE, if_false, if_true, false_and, and_false, or_false, false_or, or_self, true_and, and_true, or_true, true_or]
  try rfl
theorem seq_47 (h : Ht) (id d n : Int) (ka kb : Nat) (f : Fine h) (hr : rightB ⟨47, d, ka, kb, n⟩ = true) :
    stepX h id ⟨47, d, ka, kb, n⟩ = ({ h with pc := wrap32 (h.pc + 4) }, ⟨4, d, (h.r.getD ka 0), (h.r.getD kb 0), 0⟩) := by
  rw [stepX_ok hr (by simp) (by simp)]
  unfold stepN putX leadsN effX
  simp only [Int.toNat_natCast, Int.reduceEq, Int.reduceLE, if_false, if_true, false_and, and_false, or_false, false_or, or_self, true_and, and_true, or_true, true_or]
  try rfl
theorem seq_48 (h : Ht) (id d n : Int) (ka kb : Nat) (f : Fine h) (hr : rightB ⟨48, d, ka, kb, n⟩ = true) :
    stepX h id ⟨48, d, ka, kb, n⟩ = ({ h with pc := wrap32 (h.pc + 4) }, ⟨5, d, (h.r.getD ka 0), (h.r.getD kb 0), 0⟩) := by
  rw [stepX_ok hr (by simp) (by simp)]
  unfold stepN putX leadsN effX
  simp only [Int.toNat_natCast, Int.reduceEq, Int.reduceLE, if_false, if_true, false_and, and_false, or_false, false_or, or_self, true_and, and_true, or_true, true_or]
  try rfl
theorem seq_49 (h : Ht) (id d n : Int) (ka kb : Nat) (f : Fine h) (hr : rightB ⟨49, d, ka, kb, n⟩ = true) :
    stepX h id ⟨49, d, ka, kb, n⟩ = ({ h with pc := wrap32 (h.pc + 4) }, ⟨5, d, (h.r.getD ka 0), (h.r.getD kb 0), 1⟩) := by
  rw [stepX_ok hr (by simp) (by simp)]
  unfold stepN putX leadsN effX
  simp only [Int.toNat_natCast, Int.reduceEq, Int.reduceLE, if_false, if_true, false_and, and_false, or_false, false_or, or_self, true_and, and_true, or_true, true_or]
  try rfl
theorem seq_43 (h : Ht) (id d n : Int) (ka kb : Nat) (f : Fine h) (hr : rightB ⟨43, d, ka, kb, n⟩ = true) :
    stepX h id ⟨43, d, ka, kb, n⟩ = ({ h with pc := wrap32 (h.pc + 4) }, ⟨7, 0, 0, 0, 0⟩) := by
  rw [stepX_ok hr (by simp) (by simp)]
  unfold stepN putX leadsN effX
  simp only [Int.toNat_natCast, Int.reduceEq, Int.reduceLE, if_false, if_true, false_and, and_false, or_false, false_or, or_self, true_and, and_true, or_true, true_or]
  try rfl
theorem seq_45 (h : Ht) (id d n : Int) (ka kb : Nat) (f : Fine h) (hr : rightB ⟨45, d, ka, kb, n⟩ = true) :
    stepX h id ⟨45, d, ka, kb, n⟩ = ({ h with pc := wrap32 (h.pc + 4) }, ⟨8, 0, 0, 0, 0⟩) := by
  rw [stepX_ok hr (by simp) (by simp)]
  unfold stepN putX leadsN effX
  simp only [Int.toNat_natCast, Int.reduceEq, Int.reduceLE, if_false, if_true, false_and, and_false, or_false, false_or, or_self, true_and, and_true, or_true, true_or]
  try rfl
theorem seq_goes (h : Ht) (id op d n : Int) (ka kb : Nat) (f : Fine h) (hr : rightB ⟨op, d, ka, kb, n⟩ = true) (hop : 5 ≤ op ∧ op ≤ 10) (hj : jumpsB op (h.r.getD ka 0) (h.r.getD kb 0) = true) :
    stepX h id ⟨op, d, ka, kb, n⟩ = ({ h with pc := wrap32 (h.pc + n) }, ⟨0, 0, 0, 0, 0⟩) := by
  have e1 : ¬ op = 11 := by omega
  have e2 : ¬ op = 12 := by omega
  have e3 : ¬ op = 39 := by omega
  have e4 : ¬ op = 46 := by omega
  have e5 : ¬ op = 47 := by omega
  have e6 : ¬ op = 48 := by omega
  have e7 : ¬ op = 49 := by omega
  have e8 : ¬ op = 43 := by omega
  have e9 : ¬ op = 45 := by omega
  have p1 : ¬ op = 1 := by omega
  have p2 : ¬ op = 2 := by omega
  have p3 : ¬ op = 3 := by omega
  have p4 : ¬ op = 4 := by omega
  rw [stepX_ok hr (show op ≠ 44 by omega) (show op ≠ 40 ∧ op ≠ 41 ∧ op ≠ 42 by omega)]
  unfold stepN putX leadsN effX
  simp only [Int.toNat_natCast]
  have b1 : ¬ (13 ≤ op ∧ op ≤ 21) := by omega
  have b2 : ¬ (22 ≤ op ∧ op ≤ 38) := by omega
  have b3 : 5 ≤ op ∧ op ≤ 10 ∧ jumpsB op (h.r.getD ka 0) (h.r.getD kb 0) = true := ⟨hop.1, hop.2, hj⟩
  simp only [e1, e2, e3, e4, e5, e6, e7, e8, e9, p1, p2, p3, p4, if_false, if_true, or_self, false_or, or_false, true_and, false_and, and_false, and_true, if_neg b1, if_neg b2, if_pos b3]
theorem seq_falls (h : Ht) (id op d n : Int) (ka kb : Nat) (f : Fine h) (hr : rightB ⟨op, d, ka, kb, n⟩ = true) (hop : 5 ≤ op ∧ op ≤ 10) (hj : jumpsB op (h.r.getD ka 0) (h.r.getD kb 0) = false) :
    stepX h id ⟨op, d, ka, kb, n⟩ = ({ h with pc := wrap32 (h.pc + 4) }, ⟨0, 0, 0, 0, 0⟩) := by
  have e1 : ¬ op = 11 := by omega
  have e2 : ¬ op = 12 := by omega
  have e3 : ¬ op = 39 := by omega
  have e4 : ¬ op = 46 := by omega
  have e5 : ¬ op = 47 := by omega
  have e6 : ¬ op = 48 := by omega
  have e7 : ¬ op = 49 := by omega
  have e8 : ¬ op = 43 := by omega
  have e9 : ¬ op = 45 := by omega
  have p1 : ¬ op = 1 := by omega
  have p2 : ¬ op = 2 := by omega
  have p3 : ¬ op = 3 := by omega
  have p4 : ¬ op = 4 := by omega
  rw [stepX_ok hr (show op ≠ 44 by omega) (show op ≠ 40 ∧ op ≠ 41 ∧ op ≠ 42 by omega)]
  unfold stepN putX leadsN effX
  simp only [Int.toNat_natCast]
  have b1 : ¬ (13 ≤ op ∧ op ≤ 21) := by omega
  have b2 : ¬ (22 ≤ op ∧ op ≤ 38) := by omega
  have b3 : ¬ (5 ≤ op ∧ op ≤ 10 ∧ jumpsB op (h.r.getD ka 0) (h.r.getD kb 0) = true) := by rw [hj]; simp
  simp only [e1, e2, e3, e4, e5, e6, e7, e8, e9, p1, p2, p3, p4, if_false, if_true, or_self, false_or, or_false, true_and, false_and, and_false, and_true, if_neg b1, if_neg b2, if_neg b3]
theorem seq_reg (h : Ht) (id op d n : Int) (ka kb : Nat) (f : Fine h) (hr : rightB ⟨op, d, ka, kb, n⟩ = true) (hop : 22 ≤ op ∧ op ≤ 38) :
    stepX h id ⟨op, d, ka, kb, n⟩ = ({ putH h d (makesN op (h.r.getD ka 0) (h.r.getD kb 0)) with pc := wrap32 (h.pc + 4) }, ⟨0, 0, 0, 0, 0⟩) := by
  have e1 : ¬ op = 11 := by omega
  have e2 : ¬ op = 12 := by omega
  have e3 : ¬ op = 39 := by omega
  have e4 : ¬ op = 46 := by omega
  have e5 : ¬ op = 47 := by omega
  have e6 : ¬ op = 48 := by omega
  have e7 : ¬ op = 49 := by omega
  have e8 : ¬ op = 43 := by omega
  have e9 : ¬ op = 45 := by omega
  have p1 : ¬ op = 1 := by omega
  have p2 : ¬ op = 2 := by omega
  have p3 : ¬ op = 3 := by omega
  have p4 : ¬ op = 4 := by omega
  rw [stepX_ok hr (show op ≠ 44 by omega) (show op ≠ 40 ∧ op ≠ 41 ∧ op ≠ 42 by omega)]
  unfold stepN putX leadsN effX
  simp only [Int.toNat_natCast]
  have b1 : ¬ (13 ≤ op ∧ op ≤ 21) := by omega
  have b3 : ¬ (5 ≤ op ∧ op ≤ 10 ∧ jumpsB op (h.r.getD ka 0) (h.r.getD kb 0) = true) := by omega
  simp only [e1, e2, e3, e4, e5, e6, e7, e8, e9, p1, p2, p3, p4, if_false, if_true, or_self, false_or, or_false, true_and, false_and, and_false, and_true, if_neg b1, if_pos hop, if_neg b3]
theorem seq_imm (h : Ht) (id op d n : Int) (ka kb : Nat) (f : Fine h) (hr : rightB ⟨op, d, ka, kb, n⟩ = true) (hop : 13 ≤ op ∧ op ≤ 21) :
    stepX h id ⟨op, d, ka, kb, n⟩ = ({ putH h d (makesN op (h.r.getD ka 0) n) with pc := wrap32 (h.pc + 4) }, ⟨0, 0, 0, 0, 0⟩) := by
  have e1 : ¬ op = 11 := by omega
  have e2 : ¬ op = 12 := by omega
  have e3 : ¬ op = 39 := by omega
  have e4 : ¬ op = 46 := by omega
  have e5 : ¬ op = 47 := by omega
  have e6 : ¬ op = 48 := by omega
  have e7 : ¬ op = 49 := by omega
  have e8 : ¬ op = 43 := by omega
  have e9 : ¬ op = 45 := by omega
  have p1 : ¬ op = 1 := by omega
  have p2 : ¬ op = 2 := by omega
  have p3 : ¬ op = 3 := by omega
  have p4 : ¬ op = 4 := by omega
  rw [stepX_ok hr (show op ≠ 44 by omega) (show op ≠ 40 ∧ op ≠ 41 ∧ op ≠ 42 by omega)]
  unfold stepN putX leadsN effX
  simp only [Int.toNat_natCast]
  have b3 : ¬ (5 ≤ op ∧ op ≤ 10 ∧ jumpsB op (h.r.getD ka 0) (h.r.getD kb 0) = true) := by omega
  simp only [e1, e2, e3, e4, e5, e6, e7, e8, e9, p1, p2, p3, p4, if_false, if_true, or_self, false_or, or_false, true_and, false_and, and_false, and_true, if_pos hop, if_neg b3]
set_option maxHeartbeats 2000000 in
theorem rstep_any (h : Ht) (id : Int) (x : Ins) (w : World) (f : Fine h) (hid : I64 id) :
    Calls Try.prog 17 #[.agg (hA h), .int .i64 id, insV x] w fun e w' => e = .returned (.tuple #[.agg (hA (stepX h id x).1), effV (stepX h id x).2]) ∧ Below w.heap.size w w' := by
  cases hr : rightB x
  · rw [stepX_bad hr]; exact rstep_bad h id x w f.len hr
  have hn := right_n hr
  have ho : 1 ≤ x.op ∧ x.op ≤ 49 := by
    by_cases hq : 1 ≤ x.op ∧ x.op ≤ 49
    · exact hq
    · have h2 := hr; rw [right_fold, isOp_no hq] at h2; cases h2
  obtain ⟨ra, rb⟩ := right_regs hr
  obtain ⟨op, d, a, b, n⟩ := x
  simp only at hn ho ra rb
  obtain ⟨ka, rfl, hka⟩ : ∃ k : Nat, a = k ∧ k < 32 := ⟨a.toNat, by omega, by omega⟩
  obtain ⟨kb, rfl, hkb⟩ : ∃ k : Nat, b = k ∧ k < 32 := ⟨b.toNat, by omega, by omega⟩
  clear ra rb
  by_cases k1 : op = 1
  · subst k1; rw [seq_1 h id d n ka kb f hr]; exact rstep_1 h id d n ka kb w f hr hka hkb hn
  by_cases k2 : op = 2
  · subst k2; rw [seq_2 h id d n ka kb f hr]; exact rstep_2 h id d n ka kb w f hr hka hkb hn
  by_cases k3 : op = 3
  · subst k3; rw [seq_3 h id d n ka kb f hr]; exact rstep_3 h id d n ka kb w f hr hka hkb hn
  by_cases k4 : op = 4
  · subst k4; rw [seq_4 h id d n ka kb f hr]; exact rstep_4 h id d n ka kb w f hr hka hkb hn
  by_cases k11 : op = 11
  · subst k11; rw [seq_11 h id d n ka kb f hr]; exact rstep_11 h id d n ka kb w f hr hka hkb hn
  by_cases k12 : op = 12
  · subst k12; rw [seq_12 h id d n ka kb f hr]; exact rstep_12 h id d n ka kb w f hr hka hkb hn
  by_cases k39 : op = 39
  · subst k39; rw [seq_39 h id d n ka kb f hr]; exact rstep_39 h id d n ka kb w f hr hka hkb hn
  by_cases k46 : op = 46
  · subst k46; rw [seq_46 h id d n ka kb f hr]; exact rstep_46 h id d n ka kb w f hr hka hkb hn
  by_cases k47 : op = 47
  · subst k47; rw [seq_47 h id d n ka kb f hr]; exact rstep_47 h id d n ka kb w f hr hka hkb hn
  by_cases k48 : op = 48
  · subst k48; rw [seq_48 h id d n ka kb f hr]; exact rstep_48 h id d n ka kb w f hr hka hkb hn
  by_cases k49 : op = 49
  · subst k49; rw [seq_49 h id d n ka kb f hr]; exact rstep_49 h id d n ka kb w f hr hka hkb hn
  by_cases k43 : op = 43
  · subst k43; rw [seq_43 h id d n ka kb f hr]; exact rstep_43 h id d n ka kb w f hr hka hkb hn
  by_cases k45 : op = 45
  · subst k45; rw [seq_45 h id d n ka kb f hr]; exact rstep_45 h id d n ka kb w f hr hka hkb hn
  by_cases k44 : op = 44
  · subst k44; rw [stepX_back hr rfl, ← rback_eq h f.st]; exact rstep_44 h id d n ka kb w f hr hka hkb hn
  by_cases kc : 40 ≤ op ∧ op ≤ 42
  · rw [stepX_ctl hr (show op = 40 ∨ op = 41 ∨ op = 42 by omega), ← rcsr_eq f id ⟨op, d, ka, kb, n⟩ ⟨by simp, by simp; omega⟩]; exact rstep_csr h id op d n ka kb w f hr hka hkb hn kc hid
  by_cases kr : 22 ≤ op ∧ op ≤ 38
  · rw [seq_reg h id op d n ka kb f hr kr]; exact rstep_reg h id op d n ka kb w f hr hka hkb hn kr
  by_cases ki : 13 ≤ op ∧ op ≤ 21
  · rw [seq_imm h id op d n ka kb f hr ki]; exact rstep_imm h id op d n ka kb w f hr hka hkb hn ki
  have kj : 5 ≤ op ∧ op ≤ 10 := by omega
  cases hj : jumpsB op (h.r.getD ka 0) (h.r.getD kb 0)
  · rw [seq_falls h id op d n ka kb f hr kj hj]; exact rstep_falls h id op d n ka kb w f hr hka hkb hn kj hj
  · rw [seq_goes h id op d n ka kb f hr kj hj]; exact rstep_goes h id op d n ka kb w f hr hka hkb hn kj hj
end Go.Proofs.Ytiahdhlfecgnpaa
