/-
  An instruction's word as a sum: plain. No program in sight.
-/
import Derived.Test.YtefebnicclbhjaaCodePlain
namespace Go.Proofs.Ytefebnicclbhjaa
open Go.RowKit
set_option linter.unusedSimpArgs false
theorem fixed_bd (op : Int) : 0 ≤ fixedN op ∧ fixedN op ≤ 5 := by
  unfold fixedN
  repeat' split
  all_goals omega
theorem shape_bd' (f : Int) : -1048576 ≤ (shapeT f).least ∧ (shapeT f).most ≤ 1048575 := by
  unfold shapeT
  repeat' split
  all_goals simp
theorem ok_nn {x : Ins} (h : rightB x = true) : I64 x.n := by
  obtain ⟨_, _, _, _, h1, h2, _⟩ := right_parts h
  have := shape_bd' (rowT x.op).form
  unfold shX at h1 h2
  exact ⟨by omega, by omega⟩
theorem split_0 (V : Nat) (h : V < 4294967296) : V = fieldN V 0 7 * 1 + fieldN V 7 1 * 128 + fieldN V 8 4 * 256 + fieldN V 12 3 * 4096 + fieldN V 15 5 * 32768 + fieldN V 20 5 * 1048576 + fieldN V 25 6 * 33554432 + fieldN V 31 1 * 2147483648 := by
  simp only [fieldN, Nat.reducePow, Nat.div_one]
  omega
theorem split_1 (V : Nat) (h : V < 4294967296) : V = fieldN V 0 7 * 1 + fieldN V 7 5 * 128 + fieldN V 12 3 * 4096 + fieldN V 15 5 * 32768 + fieldN V 20 5 * 1048576 + fieldN V 25 2 * 33554432 + fieldN V 27 5 * 134217728 := by
  simp only [fieldN, Nat.reducePow, Nat.div_one]
  omega
theorem split_2 (V : Nat) (h : V < 4294967296) : V = fieldN V 0 7 * 1 + fieldN V 7 5 * 128 + fieldN V 12 3 * 4096 + fieldN V 15 5 * 32768 + fieldN V 20 5 * 1048576 + fieldN V 25 7 * 33554432 := by
  simp only [fieldN, Nat.reducePow, Nat.div_one]
  omega
theorem split_3 (V : Nat) (h : V < 4294967296) : V = fieldN V 0 7 * 1 + fieldN V 7 5 * 128 + fieldN V 12 3 * 4096 + fieldN V 15 5 * 32768 + fieldN V 20 8 * 1048576 + fieldN V 28 4 * 268435456 := by
  simp only [fieldN, Nat.reducePow, Nat.div_one]
  omega
theorem split_4 (V : Nat) (h : V < 4294967296) : V = fieldN V 0 7 * 1 + fieldN V 7 5 * 128 + fieldN V 12 3 * 4096 + fieldN V 15 5 * 32768 + fieldN V 20 12 * 1048576 := by
  simp only [fieldN, Nat.reducePow, Nat.div_one]
  omega
theorem split_5 (V : Nat) (h : V < 4294967296) : V = fieldN V 0 7 * 1 + fieldN V 7 5 * 128 + fieldN V 12 8 * 4096 + fieldN V 20 1 * 1048576 + fieldN V 21 10 * 2097152 + fieldN V 31 1 * 2147483648 := by
  simp only [fieldN, Nat.reducePow, Nat.div_one]
  omega
theorem split_6 (V : Nat) (h : V < 4294967296) : V = fieldN V 0 7 * 1 + fieldN V 7 5 * 128 + fieldN V 12 20 * 4096 := by
  simp only [fieldN, Nat.reducePow, Nat.div_one]
  omega
set_option maxRecDepth 10000 in
set_option maxHeartbeats 1000000 in
theorem encS_82 (x : Ins) (h : rightB x = true) (hfo : (rowT x.op).form = 82) : ((encN x : Nat) : Int) = (rowT x.op).low + (rowT x.op).mid * 4096 + x.a * 32768 + x.d * 128 + x.b * 1048576 + (rowT x.op).high * 33554432 := by
  obtain ⟨h0, hd, ha, hb, hn1, hn2, hn3⟩ := right_parts h
  obtain ⟨hr, hop⟩ := row_facts h0
  have hfx := fixed_bd x.op
  clear h
  simp only [rowB, hop, Bool.and_eq_true, decide_eq_true_eq, Bool.or_eq_true, beq_iff_eq] at hr
  obtain ⟨⟨hlo, z1, z2, z3, z4⟩, _⟩ := hr
  unfold encN headP
  unfold shX at hd ha hb hn1 hn2 hn3
  obtain ⟨op, d, a, b, n⟩ := x
  simp only at *
  generalize rowT op = r at *
  obtain ⟨nm, f, lo, mi, hi⟩ := r
  simp only at *
  generalize fixedN op = fx at *
  subst hfo
  clear hop h0
  simp [shapeT] at hd ha hb hn1 hn2 hn3 z1 z2 z3 z4
  try (obtain ⟨_, _, rfl⟩ := hd)
  try (obtain ⟨_, _, rfl⟩ := ha)
  try (obtain ⟨_, _, rfl⟩ := hb)
  try subst z1
  try subst z2
  try subst z4
  have hlt := layN_lt ([⟨lo, 0, 7, 0⟩, ⟨mi, 0, 3, 12⟩, ⟨hi, 0, 7, 25⟩, ⟨d, 0, 5, 7⟩, ⟨a, 0, 5, 15⟩, ⟨b + 0, 0, 5, 20⟩] ++ numP 82 n)
  generalize hV : layN _ = V at *
  have e0 : ((fieldN V 0 7 : Nat) : Int) = lo := by
    have e := congrArg (fun v => fieldN v 0 7) hV
    simp only [List.cons_append, List.nil_append] at e
    simp [numP, layN, layFrom, field_or, piece_zero, field_zero] at e
    try simp (disch := decide) only [pf_out, pf_in, piece_zero, field_zero, Nat.or_zero, Nat.zero_or] at e
    try simp only [Int.reduceToNat, Nat.reducePow, Nat.reduceSub, Nat.div_one, Nat.reduceMul, Nat.mul_one] at e
    clear hV
    rw [← e]
    try simp only [fieldN, Nat.reducePow, Nat.div_one]
    try omega
  have e1 : ((fieldN V 7 5 : Nat) : Int) = d := by
    have e := congrArg (fun v => fieldN v 7 5) hV
    simp only [List.cons_append, List.nil_append] at e
    simp [numP, layN, layFrom, field_or, piece_zero, field_zero] at e
    try simp (disch := decide) only [pf_out, pf_in, piece_zero, field_zero, Nat.or_zero, Nat.zero_or] at e
    try simp only [Int.reduceToNat, Nat.reducePow, Nat.reduceSub, Nat.div_one, Nat.reduceMul, Nat.mul_one] at e
    clear hV
    rw [← e]
    try simp only [fieldN, Nat.reducePow, Nat.div_one]
    try omega
  have e2 : ((fieldN V 12 3 : Nat) : Int) = mi := by
    have e := congrArg (fun v => fieldN v 12 3) hV
    simp only [List.cons_append, List.nil_append] at e
    simp [numP, layN, layFrom, field_or, piece_zero, field_zero] at e
    try simp (disch := decide) only [pf_out, pf_in, piece_zero, field_zero, Nat.or_zero, Nat.zero_or] at e
    try simp only [Int.reduceToNat, Nat.reducePow, Nat.reduceSub, Nat.div_one, Nat.reduceMul, Nat.mul_one] at e
    clear hV
    rw [← e]
    try simp only [fieldN, Nat.reducePow, Nat.div_one]
    try omega
  have e3 : ((fieldN V 15 5 : Nat) : Int) = a := by
    have e := congrArg (fun v => fieldN v 15 5) hV
    simp only [List.cons_append, List.nil_append] at e
    simp [numP, layN, layFrom, field_or, piece_zero, field_zero] at e
    try simp (disch := decide) only [pf_out, pf_in, piece_zero, field_zero, Nat.or_zero, Nat.zero_or] at e
    try simp only [Int.reduceToNat, Nat.reducePow, Nat.reduceSub, Nat.div_one, Nat.reduceMul, Nat.mul_one] at e
    clear hV
    rw [← e]
    try simp only [fieldN, Nat.reducePow, Nat.div_one]
    try omega
  have e4 : ((fieldN V 20 5 : Nat) : Int) = b := by
    have e := congrArg (fun v => fieldN v 20 5) hV
    simp only [List.cons_append, List.nil_append] at e
    simp [numP, layN, layFrom, field_or, piece_zero, field_zero] at e
    try simp (disch := decide) only [pf_out, pf_in, piece_zero, field_zero, Nat.or_zero, Nat.zero_or] at e
    try simp only [Int.reduceToNat, Nat.reducePow, Nat.reduceSub, Nat.div_one, Nat.reduceMul, Nat.mul_one] at e
    clear hV
    rw [← e]
    try simp only [fieldN, Nat.reducePow, Nat.div_one]
    try omega
  have e5 : ((fieldN V 25 7 : Nat) : Int) = hi := by
    have e := congrArg (fun v => fieldN v 25 7) hV
    simp only [List.cons_append, List.nil_append] at e
    simp [numP, layN, layFrom, field_or, piece_zero, field_zero] at e
    try simp (disch := decide) only [pf_out, pf_in, piece_zero, field_zero, Nat.or_zero, Nat.zero_or] at e
    try simp only [Int.reduceToNat, Nat.reducePow, Nat.reduceSub, Nat.div_one, Nat.reduceMul, Nat.mul_one] at e
    clear hV
    rw [← e]
    try simp only [fieldN, Nat.reducePow, Nat.div_one]
    try omega
  have hs := split_2 V hlt
  clear hV hlt
  generalize fieldN V 0 7 = q0, fieldN V 7 5 = q1, fieldN V 12 3 = q2, fieldN V 15 5 = q3, fieldN V 20 5 = q4, fieldN V 25 7 = q5 at *
  clear hlo
  omega
set_option maxRecDepth 10000 in
set_option maxHeartbeats 1000000 in
theorem encS_73 (x : Ins) (h : rightB x = true) (hfo : (rowT x.op).form = 73) : ((encN x : Nat) : Int) = (rowT x.op).low + (rowT x.op).mid * 4096 + x.a * 32768 + x.d * 128 + ((fieldN (x.n % 4294967296).toNat 0 12 : Nat) : Int) * 1048576 := by
  obtain ⟨h0, hd, ha, hb, hn1, hn2, hn3⟩ := right_parts h
  obtain ⟨hr, hop⟩ := row_facts h0
  have hfx := fixed_bd x.op
  clear h
  simp only [rowB, hop, Bool.and_eq_true, decide_eq_true_eq, Bool.or_eq_true, beq_iff_eq] at hr
  obtain ⟨⟨hlo, z1, z2, z3, z4⟩, _⟩ := hr
  unfold encN headP
  unfold shX at hd ha hb hn1 hn2 hn3
  obtain ⟨op, d, a, b, n⟩ := x
  simp only at *
  generalize rowT op = r at *
  obtain ⟨nm, f, lo, mi, hi⟩ := r
  simp only at *
  generalize fixedN op = fx at *
  subst hfo
  clear hop h0
  simp [shapeT] at hd ha hb hn1 hn2 hn3 z1 z2 z3 z4
  try (obtain ⟨_, _, rfl⟩ := hd)
  try (obtain ⟨_, _, rfl⟩ := ha)
  try (obtain ⟨_, _, rfl⟩ := hb)
  try subst z1
  try subst z2
  try subst z4
  have hlt := layN_lt ([⟨lo, 0, 7, 0⟩, ⟨mi, 0, 3, 12⟩, ⟨0, 0, 7, 25⟩, ⟨d, 0, 5, 7⟩, ⟨a, 0, 5, 15⟩, ⟨0 + 0, 0, 5, 20⟩] ++ numP 73 n)
  generalize hV : layN _ = V at *
  have e0 : ((fieldN V 0 7 : Nat) : Int) = lo := by
    have e := congrArg (fun v => fieldN v 0 7) hV
    simp only [List.cons_append, List.nil_append] at e
    simp [numP, layN, layFrom, field_or, piece_zero, field_zero] at e
    try simp (disch := decide) only [pf_out, pf_in, piece_zero, field_zero, Nat.or_zero, Nat.zero_or] at e
    try simp only [Int.reduceToNat, Nat.reducePow, Nat.reduceSub, Nat.div_one, Nat.reduceMul, Nat.mul_one] at e
    clear hV
    rw [← e]
    try simp only [fieldN, Nat.reducePow, Nat.div_one]
    try omega
  have e1 : ((fieldN V 7 5 : Nat) : Int) = d := by
    have e := congrArg (fun v => fieldN v 7 5) hV
    simp only [List.cons_append, List.nil_append] at e
    simp [numP, layN, layFrom, field_or, piece_zero, field_zero] at e
    try simp (disch := decide) only [pf_out, pf_in, piece_zero, field_zero, Nat.or_zero, Nat.zero_or] at e
    try simp only [Int.reduceToNat, Nat.reducePow, Nat.reduceSub, Nat.div_one, Nat.reduceMul, Nat.mul_one] at e
    clear hV
    rw [← e]
    try simp only [fieldN, Nat.reducePow, Nat.div_one]
    try omega
  have e2 : ((fieldN V 12 3 : Nat) : Int) = mi := by
    have e := congrArg (fun v => fieldN v 12 3) hV
    simp only [List.cons_append, List.nil_append] at e
    simp [numP, layN, layFrom, field_or, piece_zero, field_zero] at e
    try simp (disch := decide) only [pf_out, pf_in, piece_zero, field_zero, Nat.or_zero, Nat.zero_or] at e
    try simp only [Int.reduceToNat, Nat.reducePow, Nat.reduceSub, Nat.div_one, Nat.reduceMul, Nat.mul_one] at e
    clear hV
    rw [← e]
    try simp only [fieldN, Nat.reducePow, Nat.div_one]
    try omega
  have e3 : ((fieldN V 15 5 : Nat) : Int) = a := by
    have e := congrArg (fun v => fieldN v 15 5) hV
    simp only [List.cons_append, List.nil_append] at e
    simp [numP, layN, layFrom, field_or, piece_zero, field_zero] at e
    try simp (disch := decide) only [pf_out, pf_in, piece_zero, field_zero, Nat.or_zero, Nat.zero_or] at e
    try simp only [Int.reduceToNat, Nat.reducePow, Nat.reduceSub, Nat.div_one, Nat.reduceMul, Nat.mul_one] at e
    clear hV
    rw [← e]
    try simp only [fieldN, Nat.reducePow, Nat.div_one]
    try omega
  have e4 : ((fieldN V 20 12 : Nat) : Int) = ((fieldN (n % 4294967296).toNat 0 12 : Nat) : Int) := by
    have e := congrArg (fun v => fieldN v 20 12) hV
    simp only [List.cons_append, List.nil_append] at e
    simp [numP, layN, layFrom, field_or, piece_zero, field_zero] at e
    try simp (disch := decide) only [pf_out, pf_in, piece_zero, field_zero, Nat.or_zero, Nat.zero_or] at e
    try simp only [Int.reduceToNat, Nat.reducePow, Nat.reduceSub, Nat.div_one, Nat.reduceMul, Nat.mul_one] at e
    clear hV
    rw [← e]
    try simp only [fieldN, Nat.reducePow, Nat.div_one]
    try omega
  have hs := split_4 V hlt
  clear hV hlt
  generalize fieldN V 0 7 = q0, fieldN V 7 5 = q1, fieldN V 12 3 = q2, fieldN V 15 5 = q3, fieldN V 20 12 = q4 at *
  generalize fieldN (n % 4294967296).toNat 0 12 = t0 at *
  clear hlo
  omega
set_option maxRecDepth 10000 in
set_option maxHeartbeats 1000000 in
theorem encS_67 (x : Ins) (h : rightB x = true) (hfo : (rowT x.op).form = 67) : ((encN x : Nat) : Int) = (rowT x.op).low + (rowT x.op).mid * 4096 + x.a * 32768 + x.d * 128 + ((fieldN (x.n % 4294967296).toNat 0 12 : Nat) : Int) * 1048576 := by
  obtain ⟨h0, hd, ha, hb, hn1, hn2, hn3⟩ := right_parts h
  obtain ⟨hr, hop⟩ := row_facts h0
  have hfx := fixed_bd x.op
  clear h
  simp only [rowB, hop, Bool.and_eq_true, decide_eq_true_eq, Bool.or_eq_true, beq_iff_eq] at hr
  obtain ⟨⟨hlo, z1, z2, z3, z4⟩, _⟩ := hr
  unfold encN headP
  unfold shX at hd ha hb hn1 hn2 hn3
  obtain ⟨op, d, a, b, n⟩ := x
  simp only at *
  generalize rowT op = r at *
  obtain ⟨nm, f, lo, mi, hi⟩ := r
  simp only at *
  generalize fixedN op = fx at *
  subst hfo
  clear hop h0
  simp [shapeT] at hd ha hb hn1 hn2 hn3 z1 z2 z3 z4
  try (obtain ⟨_, _, rfl⟩ := hd)
  try (obtain ⟨_, _, rfl⟩ := ha)
  try (obtain ⟨_, _, rfl⟩ := hb)
  try subst z1
  try subst z2
  try subst z4
  have hlt := layN_lt ([⟨lo, 0, 7, 0⟩, ⟨mi, 0, 3, 12⟩, ⟨0, 0, 7, 25⟩, ⟨d, 0, 5, 7⟩, ⟨a, 0, 5, 15⟩, ⟨0 + 0, 0, 5, 20⟩] ++ numP 67 n)
  generalize hV : layN _ = V at *
  have e0 : ((fieldN V 0 7 : Nat) : Int) = lo := by
    have e := congrArg (fun v => fieldN v 0 7) hV
    simp only [List.cons_append, List.nil_append] at e
    simp [numP, layN, layFrom, field_or, piece_zero, field_zero] at e
    try simp (disch := decide) only [pf_out, pf_in, piece_zero, field_zero, Nat.or_zero, Nat.zero_or] at e
    try simp only [Int.reduceToNat, Nat.reducePow, Nat.reduceSub, Nat.div_one, Nat.reduceMul, Nat.mul_one] at e
    clear hV
    rw [← e]
    try simp only [fieldN, Nat.reducePow, Nat.div_one]
    try omega
  have e1 : ((fieldN V 7 5 : Nat) : Int) = d := by
    have e := congrArg (fun v => fieldN v 7 5) hV
    simp only [List.cons_append, List.nil_append] at e
    simp [numP, layN, layFrom, field_or, piece_zero, field_zero] at e
    try simp (disch := decide) only [pf_out, pf_in, piece_zero, field_zero, Nat.or_zero, Nat.zero_or] at e
    try simp only [Int.reduceToNat, Nat.reducePow, Nat.reduceSub, Nat.div_one, Nat.reduceMul, Nat.mul_one] at e
    clear hV
    rw [← e]
    try simp only [fieldN, Nat.reducePow, Nat.div_one]
    try omega
  have e2 : ((fieldN V 12 3 : Nat) : Int) = mi := by
    have e := congrArg (fun v => fieldN v 12 3) hV
    simp only [List.cons_append, List.nil_append] at e
    simp [numP, layN, layFrom, field_or, piece_zero, field_zero] at e
    try simp (disch := decide) only [pf_out, pf_in, piece_zero, field_zero, Nat.or_zero, Nat.zero_or] at e
    try simp only [Int.reduceToNat, Nat.reducePow, Nat.reduceSub, Nat.div_one, Nat.reduceMul, Nat.mul_one] at e
    clear hV
    rw [← e]
    try simp only [fieldN, Nat.reducePow, Nat.div_one]
    try omega
  have e3 : ((fieldN V 15 5 : Nat) : Int) = a := by
    have e := congrArg (fun v => fieldN v 15 5) hV
    simp only [List.cons_append, List.nil_append] at e
    simp [numP, layN, layFrom, field_or, piece_zero, field_zero] at e
    try simp (disch := decide) only [pf_out, pf_in, piece_zero, field_zero, Nat.or_zero, Nat.zero_or] at e
    try simp only [Int.reduceToNat, Nat.reducePow, Nat.reduceSub, Nat.div_one, Nat.reduceMul, Nat.mul_one] at e
    clear hV
    rw [← e]
    try simp only [fieldN, Nat.reducePow, Nat.div_one]
    try omega
  have e4 : ((fieldN V 20 12 : Nat) : Int) = ((fieldN (n % 4294967296).toNat 0 12 : Nat) : Int) := by
    have e := congrArg (fun v => fieldN v 20 12) hV
    simp only [List.cons_append, List.nil_append] at e
    simp [numP, layN, layFrom, field_or, piece_zero, field_zero] at e
    try simp (disch := decide) only [pf_out, pf_in, piece_zero, field_zero, Nat.or_zero, Nat.zero_or] at e
    try simp only [Int.reduceToNat, Nat.reducePow, Nat.reduceSub, Nat.div_one, Nat.reduceMul, Nat.mul_one] at e
    clear hV
    rw [← e]
    try simp only [fieldN, Nat.reducePow, Nat.div_one]
    try omega
  have hs := split_4 V hlt
  clear hV hlt
  generalize fieldN V 0 7 = q0, fieldN V 7 5 = q1, fieldN V 12 3 = q2, fieldN V 15 5 = q3, fieldN V 20 12 = q4 at *
  generalize fieldN (n % 4294967296).toNat 0 12 = t0 at *
  clear hlo
  omega
set_option maxRecDepth 10000 in
set_option maxHeartbeats 1000000 in
theorem encS_72 (x : Ins) (h : rightB x = true) (hfo : (rowT x.op).form = 72) : ((encN x : Nat) : Int) = (rowT x.op).low + (rowT x.op).mid * 4096 + x.a * 32768 + x.d * 128 + x.n * 1048576 + (rowT x.op).high * 33554432 := by
  obtain ⟨h0, hd, ha, hb, hn1, hn2, hn3⟩ := right_parts h
  obtain ⟨hr, hop⟩ := row_facts h0
  have hfx := fixed_bd x.op
  clear h
  simp only [rowB, hop, Bool.and_eq_true, decide_eq_true_eq, Bool.or_eq_true, beq_iff_eq] at hr
  obtain ⟨⟨hlo, z1, z2, z3, z4⟩, _⟩ := hr
  unfold encN headP
  unfold shX at hd ha hb hn1 hn2 hn3
  obtain ⟨op, d, a, b, n⟩ := x
  simp only at *
  generalize rowT op = r at *
  obtain ⟨nm, f, lo, mi, hi⟩ := r
  simp only at *
  generalize fixedN op = fx at *
  subst hfo
  clear hop h0
  simp [shapeT] at hd ha hb hn1 hn2 hn3 z1 z2 z3 z4
  try (obtain ⟨_, _, rfl⟩ := hd)
  try (obtain ⟨_, _, rfl⟩ := ha)
  try (obtain ⟨_, _, rfl⟩ := hb)
  try subst z1
  try subst z2
  try subst z4
  have hlt := layN_lt ([⟨lo, 0, 7, 0⟩, ⟨mi, 0, 3, 12⟩, ⟨hi, 0, 7, 25⟩, ⟨d, 0, 5, 7⟩, ⟨a, 0, 5, 15⟩, ⟨0 + 0, 0, 5, 20⟩] ++ numP 72 n)
  generalize hV : layN _ = V at *
  have e0 : ((fieldN V 0 7 : Nat) : Int) = lo := by
    have e := congrArg (fun v => fieldN v 0 7) hV
    simp only [List.cons_append, List.nil_append] at e
    simp [numP, layN, layFrom, field_or, piece_zero, field_zero] at e
    try simp (disch := decide) only [pf_out, pf_in, piece_zero, field_zero, Nat.or_zero, Nat.zero_or] at e
    try simp only [Int.reduceToNat, Nat.reducePow, Nat.reduceSub, Nat.div_one, Nat.reduceMul, Nat.mul_one] at e
    clear hV
    rw [← e]
    try simp only [fieldN, Nat.reducePow, Nat.div_one]
    try omega
  have e1 : ((fieldN V 7 5 : Nat) : Int) = d := by
    have e := congrArg (fun v => fieldN v 7 5) hV
    simp only [List.cons_append, List.nil_append] at e
    simp [numP, layN, layFrom, field_or, piece_zero, field_zero] at e
    try simp (disch := decide) only [pf_out, pf_in, piece_zero, field_zero, Nat.or_zero, Nat.zero_or] at e
    try simp only [Int.reduceToNat, Nat.reducePow, Nat.reduceSub, Nat.div_one, Nat.reduceMul, Nat.mul_one] at e
    clear hV
    rw [← e]
    try simp only [fieldN, Nat.reducePow, Nat.div_one]
    try omega
  have e2 : ((fieldN V 12 3 : Nat) : Int) = mi := by
    have e := congrArg (fun v => fieldN v 12 3) hV
    simp only [List.cons_append, List.nil_append] at e
    simp [numP, layN, layFrom, field_or, piece_zero, field_zero] at e
    try simp (disch := decide) only [pf_out, pf_in, piece_zero, field_zero, Nat.or_zero, Nat.zero_or] at e
    try simp only [Int.reduceToNat, Nat.reducePow, Nat.reduceSub, Nat.div_one, Nat.reduceMul, Nat.mul_one] at e
    clear hV
    rw [← e]
    try simp only [fieldN, Nat.reducePow, Nat.div_one]
    try omega
  have e3 : ((fieldN V 15 5 : Nat) : Int) = a := by
    have e := congrArg (fun v => fieldN v 15 5) hV
    simp only [List.cons_append, List.nil_append] at e
    simp [numP, layN, layFrom, field_or, piece_zero, field_zero] at e
    try simp (disch := decide) only [pf_out, pf_in, piece_zero, field_zero, Nat.or_zero, Nat.zero_or] at e
    try simp only [Int.reduceToNat, Nat.reducePow, Nat.reduceSub, Nat.div_one, Nat.reduceMul, Nat.mul_one] at e
    clear hV
    rw [← e]
    try simp only [fieldN, Nat.reducePow, Nat.div_one]
    try omega
  have e4 : ((fieldN V 20 5 : Nat) : Int) = n := by
    have e := congrArg (fun v => fieldN v 20 5) hV
    simp only [List.cons_append, List.nil_append] at e
    simp [numP, layN, layFrom, field_or, piece_zero, field_zero] at e
    try simp (disch := decide) only [pf_out, pf_in, piece_zero, field_zero, Nat.or_zero, Nat.zero_or] at e
    try simp only [Int.reduceToNat, Nat.reducePow, Nat.reduceSub, Nat.div_one, Nat.reduceMul, Nat.mul_one] at e
    clear hV
    rw [← e]
    try simp only [fieldN, Nat.reducePow, Nat.div_one]
    try omega
  have e5 : ((fieldN V 25 7 : Nat) : Int) = hi := by
    have e := congrArg (fun v => fieldN v 25 7) hV
    simp only [List.cons_append, List.nil_append] at e
    simp [numP, layN, layFrom, field_or, piece_zero, field_zero] at e
    try simp (disch := decide) only [pf_out, pf_in, piece_zero, field_zero, Nat.or_zero, Nat.zero_or] at e
    try simp only [Int.reduceToNat, Nat.reducePow, Nat.reduceSub, Nat.div_one, Nat.reduceMul, Nat.mul_one] at e
    clear hV
    rw [← e]
    try simp only [fieldN, Nat.reducePow, Nat.div_one]
    try omega
  have hs := split_2 V hlt
  clear hV hlt
  generalize fieldN V 0 7 = q0, fieldN V 7 5 = q1, fieldN V 12 3 = q2, fieldN V 15 5 = q3, fieldN V 20 5 = q4, fieldN V 25 7 = q5 at *
  clear hlo
  omega
set_option maxRecDepth 10000 in
set_option maxHeartbeats 1000000 in
theorem encS_83 (x : Ins) (h : rightB x = true) (hfo : (rowT x.op).form = 83) : ((encN x : Nat) : Int) = (rowT x.op).low + (rowT x.op).mid * 4096 + x.a * 32768 + ((fieldN (x.n % 4294967296).toNat 0 5 : Nat) : Int) * 128 + x.b * 1048576 + ((fieldN (x.n % 4294967296).toNat 5 7 : Nat) : Int) * 33554432 := by
  obtain ⟨h0, hd, ha, hb, hn1, hn2, hn3⟩ := right_parts h
  obtain ⟨hr, hop⟩ := row_facts h0
  have hfx := fixed_bd x.op
  clear h
  simp only [rowB, hop, Bool.and_eq_true, decide_eq_true_eq, Bool.or_eq_true, beq_iff_eq] at hr
  obtain ⟨⟨hlo, z1, z2, z3, z4⟩, _⟩ := hr
  unfold encN headP
  unfold shX at hd ha hb hn1 hn2 hn3
  obtain ⟨op, d, a, b, n⟩ := x
  simp only at *
  generalize rowT op = r at *
  obtain ⟨nm, f, lo, mi, hi⟩ := r
  simp only at *
  generalize fixedN op = fx at *
  subst hfo
  clear hop h0
  simp [shapeT] at hd ha hb hn1 hn2 hn3 z1 z2 z3 z4
  try (obtain ⟨_, _, rfl⟩ := hd)
  try (obtain ⟨_, _, rfl⟩ := ha)
  try (obtain ⟨_, _, rfl⟩ := hb)
  try subst z1
  try subst z2
  try subst z4
  have hlt := layN_lt ([⟨lo, 0, 7, 0⟩, ⟨mi, 0, 3, 12⟩, ⟨0, 0, 7, 25⟩, ⟨0, 0, 5, 7⟩, ⟨a, 0, 5, 15⟩, ⟨b + 0, 0, 5, 20⟩] ++ numP 83 n)
  generalize hV : layN _ = V at *
  have e0 : ((fieldN V 0 7 : Nat) : Int) = lo := by
    have e := congrArg (fun v => fieldN v 0 7) hV
    simp only [List.cons_append, List.nil_append] at e
    simp [numP, layN, layFrom, field_or, piece_zero, field_zero] at e
    try simp (disch := decide) only [pf_out, pf_in, piece_zero, field_zero, Nat.or_zero, Nat.zero_or] at e
    try simp only [Int.reduceToNat, Nat.reducePow, Nat.reduceSub, Nat.div_one, Nat.reduceMul, Nat.mul_one] at e
    clear hV
    rw [← e]
    try simp only [fieldN, Nat.reducePow, Nat.div_one]
    try omega
  have e1 : ((fieldN V 7 5 : Nat) : Int) = ((fieldN (n % 4294967296).toNat 0 5 : Nat) : Int) := by
    have e := congrArg (fun v => fieldN v 7 5) hV
    simp only [List.cons_append, List.nil_append] at e
    simp [numP, layN, layFrom, field_or, piece_zero, field_zero] at e
    try simp (disch := decide) only [pf_out, pf_in, piece_zero, field_zero, Nat.or_zero, Nat.zero_or] at e
    try simp only [Int.reduceToNat, Nat.reducePow, Nat.reduceSub, Nat.div_one, Nat.reduceMul, Nat.mul_one] at e
    clear hV
    rw [← e]
    try simp only [fieldN, Nat.reducePow, Nat.div_one]
    try omega
  have e2 : ((fieldN V 12 3 : Nat) : Int) = mi := by
    have e := congrArg (fun v => fieldN v 12 3) hV
    simp only [List.cons_append, List.nil_append] at e
    simp [numP, layN, layFrom, field_or, piece_zero, field_zero] at e
    try simp (disch := decide) only [pf_out, pf_in, piece_zero, field_zero, Nat.or_zero, Nat.zero_or] at e
    try simp only [Int.reduceToNat, Nat.reducePow, Nat.reduceSub, Nat.div_one, Nat.reduceMul, Nat.mul_one] at e
    clear hV
    rw [← e]
    try simp only [fieldN, Nat.reducePow, Nat.div_one]
    try omega
  have e3 : ((fieldN V 15 5 : Nat) : Int) = a := by
    have e := congrArg (fun v => fieldN v 15 5) hV
    simp only [List.cons_append, List.nil_append] at e
    simp [numP, layN, layFrom, field_or, piece_zero, field_zero] at e
    try simp (disch := decide) only [pf_out, pf_in, piece_zero, field_zero, Nat.or_zero, Nat.zero_or] at e
    try simp only [Int.reduceToNat, Nat.reducePow, Nat.reduceSub, Nat.div_one, Nat.reduceMul, Nat.mul_one] at e
    clear hV
    rw [← e]
    try simp only [fieldN, Nat.reducePow, Nat.div_one]
    try omega
  have e4 : ((fieldN V 20 5 : Nat) : Int) = b := by
    have e := congrArg (fun v => fieldN v 20 5) hV
    simp only [List.cons_append, List.nil_append] at e
    simp [numP, layN, layFrom, field_or, piece_zero, field_zero] at e
    try simp (disch := decide) only [pf_out, pf_in, piece_zero, field_zero, Nat.or_zero, Nat.zero_or] at e
    try simp only [Int.reduceToNat, Nat.reducePow, Nat.reduceSub, Nat.div_one, Nat.reduceMul, Nat.mul_one] at e
    clear hV
    rw [← e]
    try simp only [fieldN, Nat.reducePow, Nat.div_one]
    try omega
  have e5 : ((fieldN V 25 7 : Nat) : Int) = ((fieldN (n % 4294967296).toNat 5 7 : Nat) : Int) := by
    have e := congrArg (fun v => fieldN v 25 7) hV
    simp only [List.cons_append, List.nil_append] at e
    simp [numP, layN, layFrom, field_or, piece_zero, field_zero] at e
    try simp (disch := decide) only [pf_out, pf_in, piece_zero, field_zero, Nat.or_zero, Nat.zero_or] at e
    try simp only [Int.reduceToNat, Nat.reducePow, Nat.reduceSub, Nat.div_one, Nat.reduceMul, Nat.mul_one] at e
    clear hV
    rw [← e]
    try simp only [fieldN, Nat.reducePow, Nat.div_one]
    try omega
  have hs := split_2 V hlt
  clear hV hlt
  generalize fieldN V 0 7 = q0, fieldN V 7 5 = q1, fieldN V 12 3 = q2, fieldN V 15 5 = q3, fieldN V 20 5 = q4, fieldN V 25 7 = q5 at *
  generalize fieldN (n % 4294967296).toNat 0 5 = t0, fieldN (n % 4294967296).toNat 5 7 = t1 at *
  clear hlo
  omega
set_option maxRecDepth 10000 in
set_option maxHeartbeats 1000000 in
theorem encS_66 (x : Ins) (h : rightB x = true) (hfo : (rowT x.op).form = 66) : ((encN x : Nat) : Int) = (rowT x.op).low + (rowT x.op).mid * 4096 + x.a * 32768 + ((fieldN (x.n % 4294967296).toNat 11 1 : Nat) : Int) * 128 + ((fieldN (x.n % 4294967296).toNat 1 4 : Nat) : Int) * 256 + x.b * 1048576 + ((fieldN (x.n % 4294967296).toNat 5 6 : Nat) : Int) * 33554432 + ((fieldN (x.n % 4294967296).toNat 12 1 : Nat) : Int) * 2147483648 := by
  obtain ⟨h0, hd, ha, hb, hn1, hn2, hn3⟩ := right_parts h
  obtain ⟨hr, hop⟩ := row_facts h0
  have hfx := fixed_bd x.op
  clear h
  simp only [rowB, hop, Bool.and_eq_true, decide_eq_true_eq, Bool.or_eq_true, beq_iff_eq] at hr
  obtain ⟨⟨hlo, z1, z2, z3, z4⟩, _⟩ := hr
  unfold encN headP
  unfold shX at hd ha hb hn1 hn2 hn3
  obtain ⟨op, d, a, b, n⟩ := x
  simp only at *
  generalize rowT op = r at *
  obtain ⟨nm, f, lo, mi, hi⟩ := r
  simp only at *
  generalize fixedN op = fx at *
  subst hfo
  clear hop h0
  simp [shapeT] at hd ha hb hn1 hn2 hn3 z1 z2 z3 z4
  try (obtain ⟨_, _, rfl⟩ := hd)
  try (obtain ⟨_, _, rfl⟩ := ha)
  try (obtain ⟨_, _, rfl⟩ := hb)
  try subst z1
  try subst z2
  try subst z4
  have hlt := layN_lt ([⟨lo, 0, 7, 0⟩, ⟨mi, 0, 3, 12⟩, ⟨0, 0, 7, 25⟩, ⟨0, 0, 5, 7⟩, ⟨a, 0, 5, 15⟩, ⟨b + 0, 0, 5, 20⟩] ++ numP 66 n)
  generalize hV : layN _ = V at *
  have e0 : ((fieldN V 0 7 : Nat) : Int) = lo := by
    have e := congrArg (fun v => fieldN v 0 7) hV
    simp only [List.cons_append, List.nil_append] at e
    simp [numP, layN, layFrom, field_or, piece_zero, field_zero] at e
    try simp (disch := decide) only [pf_out, pf_in, piece_zero, field_zero, Nat.or_zero, Nat.zero_or] at e
    try simp only [Int.reduceToNat, Nat.reducePow, Nat.reduceSub, Nat.div_one, Nat.reduceMul, Nat.mul_one] at e
    clear hV
    rw [← e]
    try simp only [fieldN, Nat.reducePow, Nat.div_one]
    try omega
  have e1 : ((fieldN V 7 1 : Nat) : Int) = ((fieldN (n % 4294967296).toNat 11 1 : Nat) : Int) := by
    have e := congrArg (fun v => fieldN v 7 1) hV
    simp only [List.cons_append, List.nil_append] at e
    simp [numP, layN, layFrom, field_or, piece_zero, field_zero] at e
    try simp (disch := decide) only [pf_out, pf_in, piece_zero, field_zero, Nat.or_zero, Nat.zero_or] at e
    try simp only [Int.reduceToNat, Nat.reducePow, Nat.reduceSub, Nat.div_one, Nat.reduceMul, Nat.mul_one] at e
    clear hV
    rw [← e]
    try simp only [fieldN, Nat.reducePow, Nat.div_one]
    try omega
  have e2 : ((fieldN V 8 4 : Nat) : Int) = ((fieldN (n % 4294967296).toNat 1 4 : Nat) : Int) := by
    have e := congrArg (fun v => fieldN v 8 4) hV
    simp only [List.cons_append, List.nil_append] at e
    simp [numP, layN, layFrom, field_or, piece_zero, field_zero] at e
    try simp (disch := decide) only [pf_out, pf_in, piece_zero, field_zero, Nat.or_zero, Nat.zero_or] at e
    try simp only [Int.reduceToNat, Nat.reducePow, Nat.reduceSub, Nat.div_one, Nat.reduceMul, Nat.mul_one] at e
    clear hV
    rw [← e]
    try simp only [fieldN, Nat.reducePow, Nat.div_one]
    try omega
  have e3 : ((fieldN V 12 3 : Nat) : Int) = mi := by
    have e := congrArg (fun v => fieldN v 12 3) hV
    simp only [List.cons_append, List.nil_append] at e
    simp [numP, layN, layFrom, field_or, piece_zero, field_zero] at e
    try simp (disch := decide) only [pf_out, pf_in, piece_zero, field_zero, Nat.or_zero, Nat.zero_or] at e
    try simp only [Int.reduceToNat, Nat.reducePow, Nat.reduceSub, Nat.div_one, Nat.reduceMul, Nat.mul_one] at e
    clear hV
    rw [← e]
    try simp only [fieldN, Nat.reducePow, Nat.div_one]
    try omega
  have e4 : ((fieldN V 15 5 : Nat) : Int) = a := by
    have e := congrArg (fun v => fieldN v 15 5) hV
    simp only [List.cons_append, List.nil_append] at e
    simp [numP, layN, layFrom, field_or, piece_zero, field_zero] at e
    try simp (disch := decide) only [pf_out, pf_in, piece_zero, field_zero, Nat.or_zero, Nat.zero_or] at e
    try simp only [Int.reduceToNat, Nat.reducePow, Nat.reduceSub, Nat.div_one, Nat.reduceMul, Nat.mul_one] at e
    clear hV
    rw [← e]
    try simp only [fieldN, Nat.reducePow, Nat.div_one]
    try omega
  have e5 : ((fieldN V 20 5 : Nat) : Int) = b := by
    have e := congrArg (fun v => fieldN v 20 5) hV
    simp only [List.cons_append, List.nil_append] at e
    simp [numP, layN, layFrom, field_or, piece_zero, field_zero] at e
    try simp (disch := decide) only [pf_out, pf_in, piece_zero, field_zero, Nat.or_zero, Nat.zero_or] at e
    try simp only [Int.reduceToNat, Nat.reducePow, Nat.reduceSub, Nat.div_one, Nat.reduceMul, Nat.mul_one] at e
    clear hV
    rw [← e]
    try simp only [fieldN, Nat.reducePow, Nat.div_one]
    try omega
  have e6 : ((fieldN V 25 6 : Nat) : Int) = ((fieldN (n % 4294967296).toNat 5 6 : Nat) : Int) := by
    have e := congrArg (fun v => fieldN v 25 6) hV
    simp only [List.cons_append, List.nil_append] at e
    simp [numP, layN, layFrom, field_or, piece_zero, field_zero] at e
    try simp (disch := decide) only [pf_out, pf_in, piece_zero, field_zero, Nat.or_zero, Nat.zero_or] at e
    try simp only [Int.reduceToNat, Nat.reducePow, Nat.reduceSub, Nat.div_one, Nat.reduceMul, Nat.mul_one] at e
    clear hV
    rw [← e]
    try simp only [fieldN, Nat.reducePow, Nat.div_one]
    try omega
  have e7 : ((fieldN V 31 1 : Nat) : Int) = ((fieldN (n % 4294967296).toNat 12 1 : Nat) : Int) := by
    have e := congrArg (fun v => fieldN v 31 1) hV
    simp only [List.cons_append, List.nil_append] at e
    simp [numP, layN, layFrom, field_or, piece_zero, field_zero] at e
    try simp (disch := decide) only [pf_out, pf_in, piece_zero, field_zero, Nat.or_zero, Nat.zero_or] at e
    try simp only [Int.reduceToNat, Nat.reducePow, Nat.reduceSub, Nat.div_one, Nat.reduceMul, Nat.mul_one] at e
    clear hV
    rw [← e]
    try simp only [fieldN, Nat.reducePow, Nat.div_one]
    try omega
  have hs := split_0 V hlt
  clear hV hlt
  generalize fieldN V 0 7 = q0, fieldN V 7 1 = q1, fieldN V 8 4 = q2, fieldN V 12 3 = q3, fieldN V 15 5 = q4, fieldN V 20 5 = q5, fieldN V 25 6 = q6, fieldN V 31 1 = q7 at *
  generalize fieldN (n % 4294967296).toNat 1 4 = t0, fieldN (n % 4294967296).toNat 11 1 = t1, fieldN (n % 4294967296).toNat 12 1 = t2, fieldN (n % 4294967296).toNat 5 6 = t3 at *
  clear hlo
  omega
set_option maxRecDepth 10000 in
set_option maxHeartbeats 1000000 in
theorem encS_85 (x : Ins) (h : rightB x = true) (hfo : (rowT x.op).form = 85) : ((encN x : Nat) : Int) = (rowT x.op).low + x.d * 128 + x.n * 4096 := by
  obtain ⟨h0, hd, ha, hb, hn1, hn2, hn3⟩ := right_parts h
  obtain ⟨hr, hop⟩ := row_facts h0
  have hfx := fixed_bd x.op
  clear h
  simp only [rowB, hop, Bool.and_eq_true, decide_eq_true_eq, Bool.or_eq_true, beq_iff_eq] at hr
  obtain ⟨⟨hlo, z1, z2, z3, z4⟩, _⟩ := hr
  unfold encN headP
  unfold shX at hd ha hb hn1 hn2 hn3
  obtain ⟨op, d, a, b, n⟩ := x
  simp only at *
  generalize rowT op = r at *
  obtain ⟨nm, f, lo, mi, hi⟩ := r
  simp only at *
  generalize fixedN op = fx at *
  subst hfo
  clear hop h0
  simp [shapeT] at hd ha hb hn1 hn2 hn3 z1 z2 z3 z4
  try (obtain ⟨_, _, rfl⟩ := hd)
  try (obtain ⟨_, _, rfl⟩ := ha)
  try (obtain ⟨_, _, rfl⟩ := hb)
  try subst z1
  try subst z2
  try subst z4
  have hlt := layN_lt ([⟨lo, 0, 7, 0⟩, ⟨0, 0, 3, 12⟩, ⟨0, 0, 7, 25⟩, ⟨d, 0, 5, 7⟩, ⟨0, 0, 5, 15⟩, ⟨0 + 0, 0, 5, 20⟩] ++ numP 85 n)
  generalize hV : layN _ = V at *
  have e0 : ((fieldN V 0 7 : Nat) : Int) = lo := by
    have e := congrArg (fun v => fieldN v 0 7) hV
    simp only [List.cons_append, List.nil_append] at e
    simp [numP, layN, layFrom, field_or, piece_zero, field_zero] at e
    try simp (disch := decide) only [pf_out, pf_in, piece_zero, field_zero, Nat.or_zero, Nat.zero_or] at e
    try simp only [Int.reduceToNat, Nat.reducePow, Nat.reduceSub, Nat.div_one, Nat.reduceMul, Nat.mul_one] at e
    clear hV
    rw [← e]
    try simp only [fieldN, Nat.reducePow, Nat.div_one]
    try omega
  have e1 : ((fieldN V 7 5 : Nat) : Int) = d := by
    have e := congrArg (fun v => fieldN v 7 5) hV
    simp only [List.cons_append, List.nil_append] at e
    simp [numP, layN, layFrom, field_or, piece_zero, field_zero] at e
    try simp (disch := decide) only [pf_out, pf_in, piece_zero, field_zero, Nat.or_zero, Nat.zero_or] at e
    try simp only [Int.reduceToNat, Nat.reducePow, Nat.reduceSub, Nat.div_one, Nat.reduceMul, Nat.mul_one] at e
    clear hV
    rw [← e]
    try simp only [fieldN, Nat.reducePow, Nat.div_one]
    try omega
  have e2 : ((fieldN V 12 20 : Nat) : Int) = n := by
    have e := congrArg (fun v => fieldN v 12 20) hV
    simp only [List.cons_append, List.nil_append] at e
    simp [numP, layN, layFrom, field_or, piece_zero, field_zero] at e
    try simp (disch := decide) only [pf_out, pf_in, piece_zero, field_zero, Nat.or_zero, Nat.zero_or] at e
    try simp only [Int.reduceToNat, Nat.reducePow, Nat.reduceSub, Nat.div_one, Nat.reduceMul, Nat.mul_one] at e
    clear hV
    rw [← e]
    try simp only [fieldN, Nat.reducePow, Nat.div_one]
    try omega
  have hs := split_6 V hlt
  clear hV hlt
  generalize fieldN V 0 7 = q0, fieldN V 7 5 = q1, fieldN V 12 20 = q2 at *
  clear hlo
  omega
set_option maxRecDepth 10000 in
set_option maxHeartbeats 1000000 in
theorem encS_74 (x : Ins) (h : rightB x = true) (hfo : (rowT x.op).form = 74) : ((encN x : Nat) : Int) = (rowT x.op).low + x.d * 128 + ((fieldN (x.n % 4294967296).toNat 12 8 : Nat) : Int) * 4096 + ((fieldN (x.n % 4294967296).toNat 11 1 : Nat) : Int) * 1048576 + ((fieldN (x.n % 4294967296).toNat 1 10 : Nat) : Int) * 2097152 + ((fieldN (x.n % 4294967296).toNat 20 1 : Nat) : Int) * 2147483648 := by
  obtain ⟨h0, hd, ha, hb, hn1, hn2, hn3⟩ := right_parts h
  obtain ⟨hr, hop⟩ := row_facts h0
  have hfx := fixed_bd x.op
  clear h
  simp only [rowB, hop, Bool.and_eq_true, decide_eq_true_eq, Bool.or_eq_true, beq_iff_eq] at hr
  obtain ⟨⟨hlo, z1, z2, z3, z4⟩, _⟩ := hr
  unfold encN headP
  unfold shX at hd ha hb hn1 hn2 hn3
  obtain ⟨op, d, a, b, n⟩ := x
  simp only at *
  generalize rowT op = r at *
  obtain ⟨nm, f, lo, mi, hi⟩ := r
  simp only at *
  generalize fixedN op = fx at *
  subst hfo
  clear hop h0
  simp [shapeT] at hd ha hb hn1 hn2 hn3 z1 z2 z3 z4
  try (obtain ⟨_, _, rfl⟩ := hd)
  try (obtain ⟨_, _, rfl⟩ := ha)
  try (obtain ⟨_, _, rfl⟩ := hb)
  try subst z1
  try subst z2
  try subst z4
  have hlt := layN_lt ([⟨lo, 0, 7, 0⟩, ⟨0, 0, 3, 12⟩, ⟨0, 0, 7, 25⟩, ⟨d, 0, 5, 7⟩, ⟨0, 0, 5, 15⟩, ⟨0 + 0, 0, 5, 20⟩] ++ numP 74 n)
  generalize hV : layN _ = V at *
  have e0 : ((fieldN V 0 7 : Nat) : Int) = lo := by
    have e := congrArg (fun v => fieldN v 0 7) hV
    simp only [List.cons_append, List.nil_append] at e
    simp [numP, layN, layFrom, field_or, piece_zero, field_zero] at e
    try simp (disch := decide) only [pf_out, pf_in, piece_zero, field_zero, Nat.or_zero, Nat.zero_or] at e
    try simp only [Int.reduceToNat, Nat.reducePow, Nat.reduceSub, Nat.div_one, Nat.reduceMul, Nat.mul_one] at e
    clear hV
    rw [← e]
    try simp only [fieldN, Nat.reducePow, Nat.div_one]
    try omega
  have e1 : ((fieldN V 7 5 : Nat) : Int) = d := by
    have e := congrArg (fun v => fieldN v 7 5) hV
    simp only [List.cons_append, List.nil_append] at e
    simp [numP, layN, layFrom, field_or, piece_zero, field_zero] at e
    try simp (disch := decide) only [pf_out, pf_in, piece_zero, field_zero, Nat.or_zero, Nat.zero_or] at e
    try simp only [Int.reduceToNat, Nat.reducePow, Nat.reduceSub, Nat.div_one, Nat.reduceMul, Nat.mul_one] at e
    clear hV
    rw [← e]
    try simp only [fieldN, Nat.reducePow, Nat.div_one]
    try omega
  have e2 : ((fieldN V 12 8 : Nat) : Int) = ((fieldN (n % 4294967296).toNat 12 8 : Nat) : Int) := by
    have e := congrArg (fun v => fieldN v 12 8) hV
    simp only [List.cons_append, List.nil_append] at e
    simp [numP, layN, layFrom, field_or, piece_zero, field_zero] at e
    try simp (disch := decide) only [pf_out, pf_in, piece_zero, field_zero, Nat.or_zero, Nat.zero_or] at e
    try simp only [Int.reduceToNat, Nat.reducePow, Nat.reduceSub, Nat.div_one, Nat.reduceMul, Nat.mul_one] at e
    clear hV
    rw [← e]
    try simp only [fieldN, Nat.reducePow, Nat.div_one]
    try omega
  have e3 : ((fieldN V 20 1 : Nat) : Int) = ((fieldN (n % 4294967296).toNat 11 1 : Nat) : Int) := by
    have e := congrArg (fun v => fieldN v 20 1) hV
    simp only [List.cons_append, List.nil_append] at e
    simp [numP, layN, layFrom, field_or, piece_zero, field_zero] at e
    try simp (disch := decide) only [pf_out, pf_in, piece_zero, field_zero, Nat.or_zero, Nat.zero_or] at e
    try simp only [Int.reduceToNat, Nat.reducePow, Nat.reduceSub, Nat.div_one, Nat.reduceMul, Nat.mul_one] at e
    clear hV
    rw [← e]
    try simp only [fieldN, Nat.reducePow, Nat.div_one]
    try omega
  have e4 : ((fieldN V 21 10 : Nat) : Int) = ((fieldN (n % 4294967296).toNat 1 10 : Nat) : Int) := by
    have e := congrArg (fun v => fieldN v 21 10) hV
    simp only [List.cons_append, List.nil_append] at e
    simp [numP, layN, layFrom, field_or, piece_zero, field_zero] at e
    try simp (disch := decide) only [pf_out, pf_in, piece_zero, field_zero, Nat.or_zero, Nat.zero_or] at e
    try simp only [Int.reduceToNat, Nat.reducePow, Nat.reduceSub, Nat.div_one, Nat.reduceMul, Nat.mul_one] at e
    clear hV
    rw [← e]
    try simp only [fieldN, Nat.reducePow, Nat.div_one]
    try omega
  have e5 : ((fieldN V 31 1 : Nat) : Int) = ((fieldN (n % 4294967296).toNat 20 1 : Nat) : Int) := by
    have e := congrArg (fun v => fieldN v 31 1) hV
    simp only [List.cons_append, List.nil_append] at e
    simp [numP, layN, layFrom, field_or, piece_zero, field_zero] at e
    try simp (disch := decide) only [pf_out, pf_in, piece_zero, field_zero, Nat.or_zero, Nat.zero_or] at e
    try simp only [Int.reduceToNat, Nat.reducePow, Nat.reduceSub, Nat.div_one, Nat.reduceMul, Nat.mul_one] at e
    clear hV
    rw [← e]
    try simp only [fieldN, Nat.reducePow, Nat.div_one]
    try omega
  have hs := split_5 V hlt
  clear hV hlt
  generalize fieldN V 0 7 = q0, fieldN V 7 5 = q1, fieldN V 12 8 = q2, fieldN V 20 1 = q3, fieldN V 21 10 = q4, fieldN V 31 1 = q5 at *
  generalize fieldN (n % 4294967296).toNat 1 10 = t0, fieldN (n % 4294967296).toNat 11 1 = t1, fieldN (n % 4294967296).toNat 12 8 = t2, fieldN (n % 4294967296).toNat 20 1 = t3 at *
  clear hlo
  omega
set_option maxRecDepth 10000 in
set_option maxHeartbeats 1000000 in
theorem encS_70 (x : Ins) (h : rightB x = true) (hfo : (rowT x.op).form = 70) : ((encN x : Nat) : Int) = (rowT x.op).low + (rowT x.op).mid * 4096 + x.a * 32768 + x.n * 1048576 := by
  obtain ⟨h0, hd, ha, hb, hn1, hn2, hn3⟩ := right_parts h
  obtain ⟨hr, hop⟩ := row_facts h0
  have hfx := fixed_bd x.op
  clear h
  simp only [rowB, hop, Bool.and_eq_true, decide_eq_true_eq, Bool.or_eq_true, beq_iff_eq] at hr
  obtain ⟨⟨hlo, z1, z2, z3, z4⟩, _⟩ := hr
  unfold encN headP
  unfold shX at hd ha hb hn1 hn2 hn3
  obtain ⟨op, d, a, b, n⟩ := x
  simp only at *
  generalize rowT op = r at *
  obtain ⟨nm, f, lo, mi, hi⟩ := r
  simp only at *
  generalize fixedN op = fx at *
  subst hfo
  clear hop h0
  simp [shapeT] at hd ha hb hn1 hn2 hn3 z1 z2 z3 z4
  try (obtain ⟨_, _, rfl⟩ := hd)
  try (obtain ⟨_, _, rfl⟩ := ha)
  try (obtain ⟨_, _, rfl⟩ := hb)
  try subst z1
  try subst z2
  try subst z4
  have hlt := layN_lt ([⟨lo, 0, 7, 0⟩, ⟨mi, 0, 3, 12⟩, ⟨0, 0, 7, 25⟩, ⟨0, 0, 5, 7⟩, ⟨0, 0, 5, 15⟩, ⟨0 + 0, 0, 5, 20⟩] ++ numP 70 n)
  generalize hV : layN _ = V at *
  have e0 : ((fieldN V 0 7 : Nat) : Int) = lo := by
    have e := congrArg (fun v => fieldN v 0 7) hV
    simp only [List.cons_append, List.nil_append] at e
    simp [numP, layN, layFrom, field_or, piece_zero, field_zero] at e
    try simp (disch := decide) only [pf_out, pf_in, piece_zero, field_zero, Nat.or_zero, Nat.zero_or] at e
    try simp only [Int.reduceToNat, Nat.reducePow, Nat.reduceSub, Nat.div_one, Nat.reduceMul, Nat.mul_one] at e
    clear hV
    rw [← e]
    try simp only [fieldN, Nat.reducePow, Nat.div_one]
    try omega
  have e1 : ((fieldN V 7 5 : Nat) : Int) = 0 := by
    have e := congrArg (fun v => fieldN v 7 5) hV
    simp only [List.cons_append, List.nil_append] at e
    simp [numP, layN, layFrom, field_or, piece_zero, field_zero] at e
    try simp (disch := decide) only [pf_out, pf_in, piece_zero, field_zero, Nat.or_zero, Nat.zero_or] at e
    try simp only [Int.reduceToNat, Nat.reducePow, Nat.reduceSub, Nat.div_one, Nat.reduceMul, Nat.mul_one] at e
    clear hV
    rw [← e]
    try simp only [fieldN, Nat.reducePow, Nat.div_one]
    try omega
  have e2 : ((fieldN V 12 3 : Nat) : Int) = mi := by
    have e := congrArg (fun v => fieldN v 12 3) hV
    simp only [List.cons_append, List.nil_append] at e
    simp [numP, layN, layFrom, field_or, piece_zero, field_zero] at e
    try simp (disch := decide) only [pf_out, pf_in, piece_zero, field_zero, Nat.or_zero, Nat.zero_or] at e
    try simp only [Int.reduceToNat, Nat.reducePow, Nat.reduceSub, Nat.div_one, Nat.reduceMul, Nat.mul_one] at e
    clear hV
    rw [← e]
    try simp only [fieldN, Nat.reducePow, Nat.div_one]
    try omega
  have e3 : ((fieldN V 15 5 : Nat) : Int) = 0 := by
    have e := congrArg (fun v => fieldN v 15 5) hV
    simp only [List.cons_append, List.nil_append] at e
    simp [numP, layN, layFrom, field_or, piece_zero, field_zero] at e
    try simp (disch := decide) only [pf_out, pf_in, piece_zero, field_zero, Nat.or_zero, Nat.zero_or] at e
    try simp only [Int.reduceToNat, Nat.reducePow, Nat.reduceSub, Nat.div_one, Nat.reduceMul, Nat.mul_one] at e
    clear hV
    rw [← e]
    try simp only [fieldN, Nat.reducePow, Nat.div_one]
    try omega
  have e4 : ((fieldN V 20 8 : Nat) : Int) = n := by
    have e := congrArg (fun v => fieldN v 20 8) hV
    simp only [List.cons_append, List.nil_append] at e
    simp [numP, layN, layFrom, field_or, piece_zero, field_zero] at e
    try simp (disch := decide) only [pf_out, pf_in, piece_zero, field_zero, Nat.or_zero, Nat.zero_or] at e
    try simp only [Int.reduceToNat, Nat.reducePow, Nat.reduceSub, Nat.div_one, Nat.reduceMul, Nat.mul_one] at e
    clear hV
    rw [← e]
    try simp only [fieldN, Nat.reducePow, Nat.div_one]
    try omega
  have e5 : ((fieldN V 28 4 : Nat) : Int) = 0 := by
    have e := congrArg (fun v => fieldN v 28 4) hV
    simp only [List.cons_append, List.nil_append] at e
    simp [numP, layN, layFrom, field_or, piece_zero, field_zero] at e
    try simp (disch := decide) only [pf_out, pf_in, piece_zero, field_zero, Nat.or_zero, Nat.zero_or] at e
    try simp only [Int.reduceToNat, Nat.reducePow, Nat.reduceSub, Nat.div_one, Nat.reduceMul, Nat.mul_one] at e
    clear hV
    rw [← e]
    try simp only [fieldN, Nat.reducePow, Nat.div_one]
    try omega
  have hs := split_3 V hlt
  clear hV hlt
  generalize fieldN V 0 7 = q0, fieldN V 7 5 = q1, fieldN V 12 3 = q2, fieldN V 15 5 = q3, fieldN V 20 8 = q4, fieldN V 28 4 = q5 at *
  clear hlo
  omega
set_option maxRecDepth 10000 in
set_option maxHeartbeats 1000000 in
theorem encS_90 (x : Ins) (h : rightB x = true) (hfo : (rowT x.op).form = 90) : ((encN x : Nat) : Int) = (rowT x.op).low + (rowT x.op).mid * 4096 + x.a * 32768 + (rowT x.op).high * 33554432 + fixedN x.op * 1048576 := by
  obtain ⟨h0, hd, ha, hb, hn1, hn2, hn3⟩ := right_parts h
  obtain ⟨hr, hop⟩ := row_facts h0
  have hfx := fixed_bd x.op
  clear h
  simp only [rowB, hop, Bool.and_eq_true, decide_eq_true_eq, Bool.or_eq_true, beq_iff_eq] at hr
  obtain ⟨⟨hlo, z1, z2, z3, z4⟩, _⟩ := hr
  unfold encN headP
  unfold shX at hd ha hb hn1 hn2 hn3
  obtain ⟨op, d, a, b, n⟩ := x
  simp only at *
  generalize rowT op = r at *
  obtain ⟨nm, f, lo, mi, hi⟩ := r
  simp only at *
  generalize fixedN op = fx at *
  subst hfo
  clear hop h0
  simp [shapeT] at hd ha hb hn1 hn2 hn3 z1 z2 z3 z4
  try (obtain ⟨_, _, rfl⟩ := hd)
  try (obtain ⟨_, _, rfl⟩ := ha)
  try (obtain ⟨_, _, rfl⟩ := hb)
  try subst z1
  try subst z2
  try subst z4
  have hlt := layN_lt ([⟨lo, 0, 7, 0⟩, ⟨mi, 0, 3, 12⟩, ⟨hi, 0, 7, 25⟩, ⟨0, 0, 5, 7⟩, ⟨0, 0, 5, 15⟩, ⟨0 + fx, 0, 5, 20⟩] ++ numP 90 n)
  generalize hV : layN _ = V at *
  have e0 : ((fieldN V 0 7 : Nat) : Int) = lo := by
    have e := congrArg (fun v => fieldN v 0 7) hV
    simp only [List.cons_append, List.nil_append] at e
    simp [numP, layN, layFrom, field_or, piece_zero, field_zero] at e
    try simp (disch := decide) only [pf_out, pf_in, piece_zero, field_zero, Nat.or_zero, Nat.zero_or] at e
    try simp only [Int.reduceToNat, Nat.reducePow, Nat.reduceSub, Nat.div_one, Nat.reduceMul, Nat.mul_one] at e
    clear hV
    rw [← e]
    try simp only [fieldN, Nat.reducePow, Nat.div_one]
    try omega
  have e1 : ((fieldN V 7 5 : Nat) : Int) = 0 := by
    have e := congrArg (fun v => fieldN v 7 5) hV
    simp only [List.cons_append, List.nil_append] at e
    simp [numP, layN, layFrom, field_or, piece_zero, field_zero] at e
    try simp (disch := decide) only [pf_out, pf_in, piece_zero, field_zero, Nat.or_zero, Nat.zero_or] at e
    try simp only [Int.reduceToNat, Nat.reducePow, Nat.reduceSub, Nat.div_one, Nat.reduceMul, Nat.mul_one] at e
    clear hV
    rw [← e]
    try simp only [fieldN, Nat.reducePow, Nat.div_one]
    try omega
  have e2 : ((fieldN V 12 3 : Nat) : Int) = mi := by
    have e := congrArg (fun v => fieldN v 12 3) hV
    simp only [List.cons_append, List.nil_append] at e
    simp [numP, layN, layFrom, field_or, piece_zero, field_zero] at e
    try simp (disch := decide) only [pf_out, pf_in, piece_zero, field_zero, Nat.or_zero, Nat.zero_or] at e
    try simp only [Int.reduceToNat, Nat.reducePow, Nat.reduceSub, Nat.div_one, Nat.reduceMul, Nat.mul_one] at e
    clear hV
    rw [← e]
    try simp only [fieldN, Nat.reducePow, Nat.div_one]
    try omega
  have e3 : ((fieldN V 15 5 : Nat) : Int) = 0 := by
    have e := congrArg (fun v => fieldN v 15 5) hV
    simp only [List.cons_append, List.nil_append] at e
    simp [numP, layN, layFrom, field_or, piece_zero, field_zero] at e
    try simp (disch := decide) only [pf_out, pf_in, piece_zero, field_zero, Nat.or_zero, Nat.zero_or] at e
    try simp only [Int.reduceToNat, Nat.reducePow, Nat.reduceSub, Nat.div_one, Nat.reduceMul, Nat.mul_one] at e
    clear hV
    rw [← e]
    try simp only [fieldN, Nat.reducePow, Nat.div_one]
    try omega
  have e4 : ((fieldN V 20 5 : Nat) : Int) = fx := by
    have e := congrArg (fun v => fieldN v 20 5) hV
    simp only [List.cons_append, List.nil_append] at e
    simp [numP, layN, layFrom, field_or, piece_zero, field_zero] at e
    try simp (disch := decide) only [pf_out, pf_in, piece_zero, field_zero, Nat.or_zero, Nat.zero_or] at e
    try simp only [Int.reduceToNat, Nat.reducePow, Nat.reduceSub, Nat.div_one, Nat.reduceMul, Nat.mul_one] at e
    clear hV
    rw [← e]
    try simp only [fieldN, Nat.reducePow, Nat.div_one]
    try omega
  have e5 : ((fieldN V 25 7 : Nat) : Int) = hi := by
    have e := congrArg (fun v => fieldN v 25 7) hV
    simp only [List.cons_append, List.nil_append] at e
    simp [numP, layN, layFrom, field_or, piece_zero, field_zero] at e
    try simp (disch := decide) only [pf_out, pf_in, piece_zero, field_zero, Nat.or_zero, Nat.zero_or] at e
    try simp only [Int.reduceToNat, Nat.reducePow, Nat.reduceSub, Nat.div_one, Nat.reduceMul, Nat.mul_one] at e
    clear hV
    rw [← e]
    try simp only [fieldN, Nat.reducePow, Nat.div_one]
    try omega
  have hs := split_2 V hlt
  clear hV hlt
  generalize fieldN V 0 7 = q0, fieldN V 7 5 = q1, fieldN V 12 3 = q2, fieldN V 15 5 = q3, fieldN V 20 5 = q4, fieldN V 25 7 = q5 at *
  clear hlo
  omega
set_option maxRecDepth 10000 in
set_option maxHeartbeats 1000000 in
theorem encS_76 (x : Ins) (h : rightB x = true) (hfo : (rowT x.op).form = 76) : ((encN x : Nat) : Int) = (rowT x.op).low + (rowT x.op).mid * 4096 + x.a * 32768 + x.d * 128 + x.b * 1048576 + ((rowT x.op).high + x.n) * 33554432 := by
  obtain ⟨h0, hd, ha, hb, hn1, hn2, hn3⟩ := right_parts h
  obtain ⟨hr, hop⟩ := row_facts h0
  have hfx := fixed_bd x.op
  clear h
  simp only [rowB, hop, Bool.and_eq_true, decide_eq_true_eq, Bool.or_eq_true, beq_iff_eq] at hr
  obtain ⟨⟨hlo, z1, z2, z3, z4⟩, _⟩ := hr
  unfold encN headP
  unfold shX at hd ha hb hn1 hn2 hn3
  obtain ⟨op, d, a, b, n⟩ := x
  simp only at *
  generalize rowT op = r at *
  obtain ⟨nm, f, lo, mi, hi⟩ := r
  simp only at *
  generalize fixedN op = fx at *
  subst hfo
  clear hop h0
  simp [shapeT] at hd ha hb hn1 hn2 hn3 z1 z2 z3 z4
  try (obtain ⟨_, _, rfl⟩ := hd)
  try (obtain ⟨_, _, rfl⟩ := ha)
  try (obtain ⟨_, _, rfl⟩ := hb)
  try subst z1
  try subst z2
  try subst z4
  have hlt := layN_lt ([⟨lo, 0, 7, 0⟩, ⟨mi, 0, 3, 12⟩, ⟨hi, 0, 7, 25⟩, ⟨d, 0, 5, 7⟩, ⟨a, 0, 5, 15⟩, ⟨0 + 0, 0, 5, 20⟩] ++ numP 76 n)
  generalize hV : layN _ = V at *
  have e0 : ((fieldN V 0 7 : Nat) : Int) = lo := by
    have e := congrArg (fun v => fieldN v 0 7) hV
    simp only [List.cons_append, List.nil_append] at e
    simp [numP, layN, layFrom, field_or, piece_zero, field_zero] at e
    try simp (disch := decide) only [pf_out, pf_in, piece_zero, field_zero, Nat.or_zero, Nat.zero_or] at e
    try simp only [Int.reduceToNat, Nat.reducePow, Nat.reduceSub, Nat.div_one, Nat.reduceMul, Nat.mul_one] at e
    clear hV
    rw [← e]
    try simp only [fieldN, Nat.reducePow, Nat.div_one]
    try omega
  have e1 : ((fieldN V 7 5 : Nat) : Int) = d := by
    have e := congrArg (fun v => fieldN v 7 5) hV
    simp only [List.cons_append, List.nil_append] at e
    simp [numP, layN, layFrom, field_or, piece_zero, field_zero] at e
    try simp (disch := decide) only [pf_out, pf_in, piece_zero, field_zero, Nat.or_zero, Nat.zero_or] at e
    try simp only [Int.reduceToNat, Nat.reducePow, Nat.reduceSub, Nat.div_one, Nat.reduceMul, Nat.mul_one] at e
    clear hV
    rw [← e]
    try simp only [fieldN, Nat.reducePow, Nat.div_one]
    try omega
  have e2 : ((fieldN V 12 3 : Nat) : Int) = mi := by
    have e := congrArg (fun v => fieldN v 12 3) hV
    simp only [List.cons_append, List.nil_append] at e
    simp [numP, layN, layFrom, field_or, piece_zero, field_zero] at e
    try simp (disch := decide) only [pf_out, pf_in, piece_zero, field_zero, Nat.or_zero, Nat.zero_or] at e
    try simp only [Int.reduceToNat, Nat.reducePow, Nat.reduceSub, Nat.div_one, Nat.reduceMul, Nat.mul_one] at e
    clear hV
    rw [← e]
    try simp only [fieldN, Nat.reducePow, Nat.div_one]
    try omega
  have e3 : ((fieldN V 15 5 : Nat) : Int) = a := by
    have e := congrArg (fun v => fieldN v 15 5) hV
    simp only [List.cons_append, List.nil_append] at e
    simp [numP, layN, layFrom, field_or, piece_zero, field_zero] at e
    try simp (disch := decide) only [pf_out, pf_in, piece_zero, field_zero, Nat.or_zero, Nat.zero_or] at e
    try simp only [Int.reduceToNat, Nat.reducePow, Nat.reduceSub, Nat.div_one, Nat.reduceMul, Nat.mul_one] at e
    clear hV
    rw [← e]
    try simp only [fieldN, Nat.reducePow, Nat.div_one]
    try omega
  have e4 : ((fieldN V 20 5 : Nat) : Int) = 0 := by
    have e := congrArg (fun v => fieldN v 20 5) hV
    simp only [List.cons_append, List.nil_append] at e
    simp [numP, layN, layFrom, field_or, piece_zero, field_zero] at e
    try simp (disch := decide) only [pf_out, pf_in, piece_zero, field_zero, Nat.or_zero, Nat.zero_or] at e
    try simp only [Int.reduceToNat, Nat.reducePow, Nat.reduceSub, Nat.div_one, Nat.reduceMul, Nat.mul_one] at e
    clear hV
    rw [← e]
    try simp only [fieldN, Nat.reducePow, Nat.div_one]
    try omega
  have e5 : ((fieldN V 25 2 : Nat) : Int) = n := by
    have e := congrArg (fun v => fieldN v 25 2) hV
    simp only [List.cons_append, List.nil_append] at e
    simp [numP, layN, layFrom, field_or, piece_zero, field_zero] at e
    try simp (disch := decide) only [pf_out, pf_in, piece_zero, field_zero, Nat.or_zero, Nat.zero_or] at e
    try simp only [Int.reduceToNat, Nat.reducePow, Nat.reduceSub, Nat.div_one, Nat.reduceMul, Nat.mul_one] at e
    clear hV
    rw [show (hi % 4294967296).toNat % 4 = 0 by omega, Nat.zero_or] at e
    rw [← e]
    try simp only [fieldN, Nat.reducePow, Nat.div_one]
    try omega
  have e6 : ((fieldN V 27 5 : Nat) : Int) = (hi / 4) := by
    have e := congrArg (fun v => fieldN v 27 5) hV
    simp only [List.cons_append, List.nil_append] at e
    simp [numP, layN, layFrom, field_or, piece_zero, field_zero] at e
    try simp (disch := decide) only [pf_out, pf_in, piece_zero, field_zero, Nat.or_zero, Nat.zero_or] at e
    try simp only [Int.reduceToNat, Nat.reducePow, Nat.reduceSub, Nat.div_one, Nat.reduceMul, Nat.mul_one] at e
    clear hV
    rw [← e]
    try simp only [fieldN, Nat.reducePow, Nat.div_one]
    try omega
  have hs := split_1 V hlt
  clear hV hlt
  generalize fieldN V 0 7 = q0, fieldN V 7 5 = q1, fieldN V 12 3 = q2, fieldN V 15 5 = q3, fieldN V 20 5 = q4, fieldN V 25 2 = q5, fieldN V 27 5 = q6 at *
  omega
set_option maxRecDepth 10000 in
set_option maxHeartbeats 1000000 in
theorem encS_65 (x : Ins) (h : rightB x = true) (hfo : (rowT x.op).form = 65) : ((encN x : Nat) : Int) = (rowT x.op).low + (rowT x.op).mid * 4096 + x.a * 32768 + x.d * 128 + x.b * 1048576 + ((rowT x.op).high + x.n) * 33554432 := by
  obtain ⟨h0, hd, ha, hb, hn1, hn2, hn3⟩ := right_parts h
  obtain ⟨hr, hop⟩ := row_facts h0
  have hfx := fixed_bd x.op
  clear h
  simp only [rowB, hop, Bool.and_eq_true, decide_eq_true_eq, Bool.or_eq_true, beq_iff_eq] at hr
  obtain ⟨⟨hlo, z1, z2, z3, z4⟩, _⟩ := hr
  unfold encN headP
  unfold shX at hd ha hb hn1 hn2 hn3
  obtain ⟨op, d, a, b, n⟩ := x
  simp only at *
  generalize rowT op = r at *
  obtain ⟨nm, f, lo, mi, hi⟩ := r
  simp only at *
  generalize fixedN op = fx at *
  subst hfo
  clear hop h0
  simp [shapeT] at hd ha hb hn1 hn2 hn3 z1 z2 z3 z4
  try (obtain ⟨_, _, rfl⟩ := hd)
  try (obtain ⟨_, _, rfl⟩ := ha)
  try (obtain ⟨_, _, rfl⟩ := hb)
  try subst z1
  try subst z2
  try subst z4
  have hlt := layN_lt ([⟨lo, 0, 7, 0⟩, ⟨mi, 0, 3, 12⟩, ⟨hi, 0, 7, 25⟩, ⟨d, 0, 5, 7⟩, ⟨a, 0, 5, 15⟩, ⟨b + 0, 0, 5, 20⟩] ++ numP 65 n)
  generalize hV : layN _ = V at *
  have e0 : ((fieldN V 0 7 : Nat) : Int) = lo := by
    have e := congrArg (fun v => fieldN v 0 7) hV
    simp only [List.cons_append, List.nil_append] at e
    simp [numP, layN, layFrom, field_or, piece_zero, field_zero] at e
    try simp (disch := decide) only [pf_out, pf_in, piece_zero, field_zero, Nat.or_zero, Nat.zero_or] at e
    try simp only [Int.reduceToNat, Nat.reducePow, Nat.reduceSub, Nat.div_one, Nat.reduceMul, Nat.mul_one] at e
    clear hV
    rw [← e]
    try simp only [fieldN, Nat.reducePow, Nat.div_one]
    try omega
  have e1 : ((fieldN V 7 5 : Nat) : Int) = d := by
    have e := congrArg (fun v => fieldN v 7 5) hV
    simp only [List.cons_append, List.nil_append] at e
    simp [numP, layN, layFrom, field_or, piece_zero, field_zero] at e
    try simp (disch := decide) only [pf_out, pf_in, piece_zero, field_zero, Nat.or_zero, Nat.zero_or] at e
    try simp only [Int.reduceToNat, Nat.reducePow, Nat.reduceSub, Nat.div_one, Nat.reduceMul, Nat.mul_one] at e
    clear hV
    rw [← e]
    try simp only [fieldN, Nat.reducePow, Nat.div_one]
    try omega
  have e2 : ((fieldN V 12 3 : Nat) : Int) = mi := by
    have e := congrArg (fun v => fieldN v 12 3) hV
    simp only [List.cons_append, List.nil_append] at e
    simp [numP, layN, layFrom, field_or, piece_zero, field_zero] at e
    try simp (disch := decide) only [pf_out, pf_in, piece_zero, field_zero, Nat.or_zero, Nat.zero_or] at e
    try simp only [Int.reduceToNat, Nat.reducePow, Nat.reduceSub, Nat.div_one, Nat.reduceMul, Nat.mul_one] at e
    clear hV
    rw [← e]
    try simp only [fieldN, Nat.reducePow, Nat.div_one]
    try omega
  have e3 : ((fieldN V 15 5 : Nat) : Int) = a := by
    have e := congrArg (fun v => fieldN v 15 5) hV
    simp only [List.cons_append, List.nil_append] at e
    simp [numP, layN, layFrom, field_or, piece_zero, field_zero] at e
    try simp (disch := decide) only [pf_out, pf_in, piece_zero, field_zero, Nat.or_zero, Nat.zero_or] at e
    try simp only [Int.reduceToNat, Nat.reducePow, Nat.reduceSub, Nat.div_one, Nat.reduceMul, Nat.mul_one] at e
    clear hV
    rw [← e]
    try simp only [fieldN, Nat.reducePow, Nat.div_one]
    try omega
  have e4 : ((fieldN V 20 5 : Nat) : Int) = b := by
    have e := congrArg (fun v => fieldN v 20 5) hV
    simp only [List.cons_append, List.nil_append] at e
    simp [numP, layN, layFrom, field_or, piece_zero, field_zero] at e
    try simp (disch := decide) only [pf_out, pf_in, piece_zero, field_zero, Nat.or_zero, Nat.zero_or] at e
    try simp only [Int.reduceToNat, Nat.reducePow, Nat.reduceSub, Nat.div_one, Nat.reduceMul, Nat.mul_one] at e
    clear hV
    rw [← e]
    try simp only [fieldN, Nat.reducePow, Nat.div_one]
    try omega
  have e5 : ((fieldN V 25 2 : Nat) : Int) = n := by
    have e := congrArg (fun v => fieldN v 25 2) hV
    simp only [List.cons_append, List.nil_append] at e
    simp [numP, layN, layFrom, field_or, piece_zero, field_zero] at e
    try simp (disch := decide) only [pf_out, pf_in, piece_zero, field_zero, Nat.or_zero, Nat.zero_or] at e
    try simp only [Int.reduceToNat, Nat.reducePow, Nat.reduceSub, Nat.div_one, Nat.reduceMul, Nat.mul_one] at e
    clear hV
    rw [show (hi % 4294967296).toNat % 4 = 0 by omega, Nat.zero_or] at e
    rw [← e]
    try simp only [fieldN, Nat.reducePow, Nat.div_one]
    try omega
  have e6 : ((fieldN V 27 5 : Nat) : Int) = (hi / 4) := by
    have e := congrArg (fun v => fieldN v 27 5) hV
    simp only [List.cons_append, List.nil_append] at e
    simp [numP, layN, layFrom, field_or, piece_zero, field_zero] at e
    try simp (disch := decide) only [pf_out, pf_in, piece_zero, field_zero, Nat.or_zero, Nat.zero_or] at e
    try simp only [Int.reduceToNat, Nat.reducePow, Nat.reduceSub, Nat.div_one, Nat.reduceMul, Nat.mul_one] at e
    clear hV
    rw [← e]
    try simp only [fieldN, Nat.reducePow, Nat.div_one]
    try omega
  have hs := split_1 V hlt
  clear hV hlt
  generalize fieldN V 0 7 = q0, fieldN V 7 5 = q1, fieldN V 12 3 = q2, fieldN V 15 5 = q3, fieldN V 20 5 = q4, fieldN V 25 2 = q5, fieldN V 27 5 = q6 at *
  omega
end Go.Proofs.Ytefebnicclbhjaa
