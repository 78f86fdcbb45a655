/-
  'CodeNames': unlike instructions have unlike names; each word's bits 0 and 1 are 1.
-/
import Derived.Test.YtefebnicclbhjaaFit02
import Derived.Test.YtefebnicclbhjaaAwake02
import Derived.Test.YtefebnicclbhjaaInsEq
namespace Go.Proofs.Ytefebnicclbhjaa
open Go.RowKit
theorem isOp_of {x : Ins} (h : rightB x = true) : 1 ≤ x.op ∧ x.op ≤ 49 := (right_parts h).1
theorem low_three (x : Ins) (h : rightB x = true) : ((encN x : Nat) : Int) % 4 = 3 := by
  have k := (keys x h).1
  have o := isOp_of h
  have s := (names_some ⟨x.op.toNat, by omega⟩ (by simp; omega)).2
  have f := (row_facts o).1
  simp only [rowB, show ((x.op.toNat : Nat) : Int) = x.op by omega, Bool.and_eq_true, decide_eq_true_eq] at s f
  have g := f.1.1
  clear f
  simp only [fieldN] at k
  omega
theorem name_some (op : Int) (h : 1 ≤ op ∧ op ≤ 49) : (rowT op).nm ≠ ⟨#[]⟩ := by
  have s := (names_some ⟨op.toNat, by omega⟩ (by simp; omega)).1
  rwa [show ((op.toNat : Nat) : Int) = op by omega] at s
theorem name_eq (i j : Int) (hi : 1 ≤ i ∧ i ≤ 49) (hj : 1 ≤ j ∧ j ≤ 49) : (rowT i).nm = (rowT j).nm ↔ i = j := by
  constructor
  · intro h
    by_cases e : i = j
    · exact e
    · exfalso
      have := names_all ⟨i.toNat, by omega⟩ ⟨j.toNat, by omega⟩ (by simp; omega) (by simp; omega) (by simp [Fin.ext_iff]; omega)
      rw [show ((i.toNat : Nat) : Int) = i by omega, show ((j.toNat : Nat) : Int) = j by omega] at this
      exact this h
  · rintro rfl; rfl
theorem name_none (op : Int) (h : ¬ (1 ≤ op ∧ op ≤ 49)) : (rowT op).nm = ⟨#[]⟩ := by rw [rowT_no h]; rfl
theorem empty_b {s : ByteArray} (h : s ≠ ⟨#[]⟩) : s.toList.isEmpty = false := by
  rw [ByteArray.toList_eq]
  obtain ⟨⟨l⟩⟩ := s
  cases l with
  | nil => exact absurd rfl h
  | cons a l => rfl
theorem str_eq_b (s t : ByteArray) : (s.toList == t.toList) = decide (s = t) := by
  rw [ByteArray.toList_eq, ByteArray.toList_eq, Bool.eq_iff_iff]
  simp only [beq_iff_eq, decide_eq_true_eq]
  constructor
  · intro h
    obtain ⟨⟨l⟩⟩ := s
    obtain ⟨⟨m⟩⟩ := t
    simp only at h
    rw [h]
  · rintro rfl; rfl
set_option maxHeartbeats 4000000 in
theorem code_names (x y : Ins) (w : World) (hx : ok_instr x) (hy : ok_instr y) :
    Calls Try.prog 8 #[insV x, insV y] w fun e w' => e = .returned (.bool true) ∧ Below w.heap.size w w' := by
  have hr := fit_right x
  have hs := fit_right y
  obtain ⟨e1, e2⟩ := enc_right hr
  have hlow := low_three _ hr
  have o1 := isOp_of hr
  have o2 := isOp_of hs
  have n1 := encN_lt (fitX x)
  obtain ⟨op, d, a, b, n⟩ := x
  obtain ⟨op', d', a', b', n'⟩ := y
  have H := Lib.hid hx; clear hx
  have H' := Lib.hid hy; clear hy
  have E1 := Lib.hid e1; have E2 := Lib.hid e2
  have HL := Lib.hid hlow
  clear hr hs e1 e2 hlow
  unfold insV
  go_enter Try.func8, Try.ntmps8
  go_wp2_with fail
  refine (awake02 _).mono ?_
  rintro e w1 ⟨rfl, hb1⟩
  obtain ⟨c1, f1⟩ := bcell hb1
  have s1 := hb1.size
  try simp at s1
  have l1x0 : w.heap.size < w1.heap.size := by omega
  have l1x1 : w.heap.size + 1 < w1.heap.size := by omega
  go_wp2_with fail
  have hn1 : I64 (fitX ⟨op, d, a, b, n⟩).n := ok_n (fit_right ⟨op, d, a, b, n⟩)
  have HN1 := Lib.hid hn1; clear hn1
  refine (fit_any ⟨op, d, a, b, n⟩ _ H.out).mono ?_
  rintro e w2 ⟨rfl, hb2⟩
  obtain ⟨c2, f2⟩ := bcell hb2
  have s2 := hb2.size
  try simp at s2
  have l2x0 : w.heap.size < w2.heap.size := by omega
  have l2x1 : w.heap.size + 1 < w2.heap.size := by omega
  generalize fitX ⟨op, d, a, b, n⟩ = x at *
  obtain ⟨xop, xd, xa, xb, xn⟩ := x
  unfold insV
  go_wp2_with fail
  refine (fit_any ⟨op', d', a', b', n'⟩ _ H'.out).mono ?_
  rintro e w3 ⟨rfl, hb3⟩
  obtain ⟨c3, f3⟩ := bcell hb3
  have s3 := hb3.size
  try simp at s3
  have l3x0 : w2.heap.size < w3.heap.size := by omega
  generalize fitX ⟨op', d', a', b', n'⟩ = y at *
  obtain ⟨yop, yd, ya, yb, yn⟩ := y
  unfold insV
  go_wp2_with fail
  refine (encode_any ⟨xop, xd, xa, xb, xn⟩ _).mono ?_
  rw [E1.out, E2.out]
  rintro e w4 ⟨rfl, hb4⟩
  obtain ⟨c4, f4⟩ := bcell hb4
  have s4 := hb4.size
  try simp at s4
  have l4x0 : w2.heap.size < w4.heap.size := by omega
  have l4x1 : w3.heap.size < w4.heap.size := by omega
  go_wp2_with fail
  refine (name_any xop _).mono ?_
  rintro e w5 ⟨rfl, hb5⟩
  obtain ⟨c5, f5⟩ := bcell hb5
  have s5 := hb5.size
  try simp at s5
  have l5x0 : w2.heap.size < w5.heap.size := by omega
  have l5x1 : w3.heap.size < w5.heap.size := by omega
  go_wp2_with fail
  refine (name_any yop _).mono ?_
  rintro e w6 ⟨rfl, hb6⟩
  obtain ⟨c6, f6⟩ := bcell hb6
  have s6 := hb6.size
  try simp at s6
  have l6x0 : w2.heap.size < w6.heap.size := by omega
  have l6x1 : w3.heap.size < w6.heap.size := by omega
  change 1 ≤ xop ∧ xop ≤ 49 at o1
  change 1 ≤ yop ∧ yop ≤ 49 at o2
  have k1 := empty_b (name_some _ o1)
  have k2 := empty_b (name_some _ o2)
  have k3 := str_eq_b (rowT xop).nm (rowT yop).nm
  have k4 : (xop == yop) = decide ((rowT xop).nm = (rowT yop).nm) := by
    rw [Bool.eq_iff_iff]; simp [name_eq xop yop o1 o2]
  have k7 := pickN_bd xn 99 (by omega)
  have k5 := name_none 0 (by omega)
  have k6 := name_none (50 + pickN xn 99) (by omega)
  have K5 := Lib.hid k5; have K6 := Lib.hid k6; have K3 := Lib.hid k3; have K4 := Lib.hid k4
  clear k5 k6 k3 k4 o1 o2
  have hl := HL.out
  cases hd : decide ((rowT xop).nm = (rowT yop).nm)
  all_goals
    have k3 := K3.out; have k4 := K4.out
    rw [hd] at k3 k4
    clear hd
    generalize (rowT xop).nm = s1 at *
    generalize (rowT yop).nm = s2 at *
    go_wp2_with (first | (go_at_call 24; ((with_reducible refine (pick02 xn 99 _ HN1.out (by omega)).mono ?_); rintro e w' ⟨rfl, rfl⟩)) | (go_at_call 17; (first | ((with_reducible refine (name_any 0 _).mono ?_); rw [K5.out]; rintro e w7 ⟨rfl, hb7⟩; obtain ⟨c7, f7⟩ := bcell hb7; have s7 := hb7.size; have l7 : w2.heap.size < w7.heap.size := (by omega)) | ((with_reducible refine (name_any (50 + pickN xn 99) _).mono ?_); rw [K6.out]; rintro e w8 ⟨rfl, hb8⟩))))
    go_ret
    exact ⟨rfl, (by repeat (first | (with_reducible exact Below.refl _ _) | (with_reducible refine bw_set ?_ ?_ _) | (with_reducible apply bw_alloc) | (with_reducible refine bw_tr ?_ (by with_reducible assumption)) | (with_reducible apply bw_drew) | omega))⟩
end Go.Proofs.Ytefebnicclbhjaa
