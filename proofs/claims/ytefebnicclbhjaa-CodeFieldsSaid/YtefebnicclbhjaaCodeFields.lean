/-
  'CodeFields': another register in the place of one changes its field, and nothing else of the word.
-/
import Derived.Test.YtefebnicclbhjaaFit02
import Derived.Test.YtefebnicclbhjaaAwake02
import Derived.Test.YtefebnicclbhjaaFieldMath
import Derived.Test.YtefebnicclbhjaaInsEq
namespace Go.Proofs.Ytefebnicclbhjaa
open Go.RowKit
theorem pick_at (c n r : Int) (w : World) (hc : I64 c) (hn : 0 < n ∧ n ≤ 9223372036854775807) (h : pickN c n = r) :
    Calls Try.prog 24 #[.int .i64 c, .int .i64 n] w fun e w' => e = .returned (.int .i64 r) ∧ w = w' := by subst h; exact pick02 c n w hc hn
theorem dE_of {x : Ins} {b : Bool} (h : rightB x = b) : encE x = if b then 0 else 1 := by subst h; rfl
set_option maxHeartbeats 8000000 in
set_option maxRecDepth 100000 in
theorem fields_0 (x : Ins) (which other : Int) (w : World) (h : ok_instr x) (hw : I64 which) (ho : I64 other) (hi : pickN which 3 = 0) :
    Calls Try.prog 6 #[insV x, .int .i64 which, .int .i64 other] w fun e w' => e = .returned (.bool true) ∧ Below w.heap.size w w' := by
  have hm := pickN_bd other 32 (by omega)
  have hr := fit_right x
  obtain ⟨op, d, a, b, n⟩ := x
  generalize hoth : pickN other 32 = m at *
  have H := Lib.hid h; have HW := Lib.hid hw; have HO := Lib.hid ho; have HI := Lib.hid hi; have HOT := Lib.hid hoth
  have HR := Lib.hid hr
  clear h hw ho hi hoth hr
  unfold insV
  go_enter Try.func6, Try.ntmps6
  go_wp2_with fail
  refine (awake02 _).mono ?_
  rintro e w1 ⟨rfl, hb1⟩
  obtain ⟨c1, f1⟩ := bcell hb1
  have s1 := hb1.size
  try simp at s1
  have l1x0 : w.heap.size < w1.heap.size := by omega
  go_wp2_with fail
  refine (fit_any ⟨op, d, a, b, n⟩ _ H.out).mono ?_
  rintro e w2 ⟨rfl, hb2⟩
  obtain ⟨c2, f2⟩ := bcell hb2
  have s2 := hb2.size
  try simp at s2
  have l2x0 : w.heap.size < w2.heap.size := by omega
  generalize fitX ⟨op, d, a, b, n⟩ = y at *
  obtain ⟨xop, xd, xa, xb, xn⟩ := y
  unfold insV
  go_wp2_with fail
  refine (refRow_any _ _).mono ?_
  have HLK := Lib.hid (lacks_d (x := ⟨xop, xd, xa, xb, xn⟩) (m := m) HR.out hm)
  have HXR := Lib.hid (xor_d (x := ⟨xop, xd, xa, xb, xn⟩) (m := m) HR.out hm)
  simp only at HLK HXR
  generalize rowT xop = r at *
  obtain ⟨nm, f, lo, mi, hi⟩ := r
  rintro e w3 ⟨rfl, hb3⟩
  obtain ⟨c3, f3⟩ := bcell hb3
  have s3 := hb3.size
  try simp at s3
  have l3x0 : w2.heap.size < w3.heap.size := by omega
  have l3x1 : w2.heap.size + 1 < w3.heap.size := by omega
  unfold rfV
  have hfld := fun w => field_form nm f lo mi hi w
  simp only at HLK
  go_wp2_with (go_at_call 24; (first | ((with_reducible refine (pick_at other 32 _ _ HO.out (by omega) HOT.out).mono ?_); rintro e w' ⟨rfl, rfl⟩) | ((with_reducible refine (pick_at which 3 _ _ HW.out (by omega) HI.out).mono ?_); rintro e w' ⟨rfl, rfl⟩)))
  clear hfld
  cases hq : rightB ⟨xop, m, xa, xb, xn⟩
  case false =>
    refine (right_at ⟨xop, m, xa, xb, xn⟩ false _ hq).mono ?_
    rintro e w4 ⟨rfl, hb4⟩
    obtain ⟨hm0, hf⟩ := HLK.out hq
    clear hq
    rcases hf with rfl | rfl | rfl | rfl
    all_goals
      simp only [List.append_eq, List.cons_append, List.nil_append] at *
      go_wp2_with fail
      go_ret
      exact ⟨rfl, (by repeat (first | (with_reducible exact Below.refl _ _) | (with_reducible refine bw_set ?_ ?_ _) | (with_reducible apply bw_alloc) | (with_reducible refine bw_tr ?_ (by with_reducible assumption)) | (with_reducible apply bw_drew) | omega))⟩
  case true =>
    refine (right_at ⟨xop, m, xa, xb, xn⟩ true _ hq).mono ?_
    rintro e w4 ⟨rfl, hb4⟩
    obtain ⟨c4, f4⟩ := bcell hb4
    have s4 := hb4.size
    try simp at s4
    have l4x0 : w2.heap.size < w4.heap.size := by omega
    have l4x1 : w2.heap.size + 1 < w4.heap.size := by omega
    have E1 := Lib.hid (enc_right HR.out).1; have E2 := Lib.hid (enc_right HR.out).2
    have E3 := Lib.hid (enc_right hq).1; have E4 := Lib.hid (enc_right hq).2
    have HQ := Lib.hid hq; clear hq
    go_wp2_with fail
    refine (encode_any ⟨xop, xd, xa, xb, xn⟩ _).mono ?_
    rw [E1.out, E2.out]
    rintro e w5 ⟨rfl, hb5⟩
    obtain ⟨c5, f5⟩ := bcell hb5
    have s5 := hb5.size
    try simp at s5
    have l5x0 : w2.heap.size < w5.heap.size := by omega
    have l5x1 : w2.heap.size + 1 < w5.heap.size := by omega
    go_wp2_with fail
    refine (encode_any ⟨xop, m, xa, xb, xn⟩ _).mono ?_
    rw [E3.out, E4.out]
    rintro e w6 ⟨rfl, hb6⟩
    obtain ⟨c6, f6⟩ := bcell hb6
    have s6 := hb6.size
    try simp at s6
    have l6x0 : w2.heap.size < w6.heap.size := by omega
    have l6x1 : w2.heap.size + 1 < w6.heap.size := by omega
    cases he : decide ((⟨xop, xd, xa, xb, xn⟩ : Ins) = ⟨xop, m, xa, xb, xn⟩)
    case true =>
      have q1 := fun w => eqI true ⟨xop, xd, xa, xb, xn⟩ ⟨xop, m, xa, xb, xn⟩ he w
      have q2 : (((encN ⟨xop, xd, xa, xb, xn⟩ : Nat) : Int) == ((encN ⟨xop, m, xa, xb, xn⟩ : Nat) : Int)) = true := by rw [← of_decide_eq_true he]; simp
      clear he
      go_wp2_with fail
      go_ret
      exact ⟨rfl, (by repeat (first | (with_reducible exact Below.refl _ _) | (with_reducible refine bw_set ?_ ?_ _) | (with_reducible apply bw_alloc) | (with_reducible refine bw_tr ?_ (by with_reducible assumption)) | (with_reducible apply bw_drew) | omega))⟩
    case false =>
      have q1 := fun w => eqI false ⟨xop, xd, xa, xb, xn⟩ ⟨xop, m, xa, xb, xn⟩ he w
      obtain ⟨z1, z2, z3⟩ := HXR.out HQ.out (of_decide_eq_false he)
      clear he
      go_wp2_with fail
      go_ret
      exact ⟨rfl, (by repeat (first | (with_reducible exact Below.refl _ _) | (with_reducible refine bw_set ?_ ?_ _) | (with_reducible apply bw_alloc) | (with_reducible refine bw_tr ?_ (by with_reducible assumption)) | (with_reducible apply bw_drew) | omega))⟩
set_option maxHeartbeats 8000000 in
set_option maxRecDepth 100000 in
theorem fields_1 (x : Ins) (which other : Int) (w : World) (h : ok_instr x) (hw : I64 which) (ho : I64 other) (hi : pickN which 3 = 1) :
    Calls Try.prog 6 #[insV x, .int .i64 which, .int .i64 other] w fun e w' => e = .returned (.bool true) ∧ Below w.heap.size w w' := by
  have hm := pickN_bd other 32 (by omega)
  have hr := fit_right x
  obtain ⟨op, d, a, b, n⟩ := x
  generalize hoth : pickN other 32 = m at *
  have H := Lib.hid h; have HW := Lib.hid hw; have HO := Lib.hid ho; have HI := Lib.hid hi; have HOT := Lib.hid hoth
  have HR := Lib.hid hr
  clear h hw ho hi hoth hr
  unfold insV
  go_enter Try.func6, Try.ntmps6
  go_wp2_with fail
  refine (awake02 _).mono ?_
  rintro e w1 ⟨rfl, hb1⟩
  obtain ⟨c1, f1⟩ := bcell hb1
  have s1 := hb1.size
  try simp at s1
  have l1x0 : w.heap.size < w1.heap.size := by omega
  go_wp2_with fail
  refine (fit_any ⟨op, d, a, b, n⟩ _ H.out).mono ?_
  rintro e w2 ⟨rfl, hb2⟩
  obtain ⟨c2, f2⟩ := bcell hb2
  have s2 := hb2.size
  try simp at s2
  have l2x0 : w.heap.size < w2.heap.size := by omega
  generalize fitX ⟨op, d, a, b, n⟩ = y at *
  obtain ⟨xop, xd, xa, xb, xn⟩ := y
  unfold insV
  go_wp2_with fail
  refine (refRow_any _ _).mono ?_
  have HLK := Lib.hid (lacks_a (x := ⟨xop, xd, xa, xb, xn⟩) (m := m) HR.out hm)
  have HXR := Lib.hid (xor_a (x := ⟨xop, xd, xa, xb, xn⟩) (m := m) HR.out hm)
  simp only at HLK HXR
  generalize rowT xop = r at *
  obtain ⟨nm, f, lo, mi, hi⟩ := r
  rintro e w3 ⟨rfl, hb3⟩
  obtain ⟨c3, f3⟩ := bcell hb3
  have s3 := hb3.size
  try simp at s3
  have l3x0 : w2.heap.size < w3.heap.size := by omega
  have l3x1 : w2.heap.size + 1 < w3.heap.size := by omega
  unfold rfV
  have hfld := fun w => field_form nm f lo mi hi w
  simp only at HLK
  go_wp2_with (go_at_call 24; (first | ((with_reducible refine (pick_at other 32 _ _ HO.out (by omega) HOT.out).mono ?_); rintro e w' ⟨rfl, rfl⟩) | ((with_reducible refine (pick_at which 3 _ _ HW.out (by omega) HI.out).mono ?_); rintro e w' ⟨rfl, rfl⟩)))
  clear hfld
  cases hq : rightB ⟨xop, xd, m, xb, xn⟩
  case false =>
    refine (right_at ⟨xop, xd, m, xb, xn⟩ false _ hq).mono ?_
    rintro e w4 ⟨rfl, hb4⟩
    obtain ⟨hm0, hf⟩ := HLK.out hq
    clear hq
    rcases hf with rfl | rfl | rfl | rfl
    all_goals
      simp only [List.append_eq, List.cons_append, List.nil_append] at *
      go_wp2_with fail
      go_ret
      exact ⟨rfl, (by repeat (first | (with_reducible exact Below.refl _ _) | (with_reducible refine bw_set ?_ ?_ _) | (with_reducible apply bw_alloc) | (with_reducible refine bw_tr ?_ (by with_reducible assumption)) | (with_reducible apply bw_drew) | omega))⟩
  case true =>
    refine (right_at ⟨xop, xd, m, xb, xn⟩ true _ hq).mono ?_
    rintro e w4 ⟨rfl, hb4⟩
    obtain ⟨c4, f4⟩ := bcell hb4
    have s4 := hb4.size
    try simp at s4
    have l4x0 : w2.heap.size < w4.heap.size := by omega
    have l4x1 : w2.heap.size + 1 < w4.heap.size := by omega
    have E1 := Lib.hid (enc_right HR.out).1; have E2 := Lib.hid (enc_right HR.out).2
    have E3 := Lib.hid (enc_right hq).1; have E4 := Lib.hid (enc_right hq).2
    have HQ := Lib.hid hq; clear hq
    go_wp2_with fail
    refine (encode_any ⟨xop, xd, xa, xb, xn⟩ _).mono ?_
    rw [E1.out, E2.out]
    rintro e w5 ⟨rfl, hb5⟩
    obtain ⟨c5, f5⟩ := bcell hb5
    have s5 := hb5.size
    try simp at s5
    have l5x0 : w2.heap.size < w5.heap.size := by omega
    have l5x1 : w2.heap.size + 1 < w5.heap.size := by omega
    go_wp2_with fail
    refine (encode_any ⟨xop, xd, m, xb, xn⟩ _).mono ?_
    rw [E3.out, E4.out]
    rintro e w6 ⟨rfl, hb6⟩
    obtain ⟨c6, f6⟩ := bcell hb6
    have s6 := hb6.size
    try simp at s6
    have l6x0 : w2.heap.size < w6.heap.size := by omega
    have l6x1 : w2.heap.size + 1 < w6.heap.size := by omega
    cases he : decide ((⟨xop, xd, xa, xb, xn⟩ : Ins) = ⟨xop, xd, m, xb, xn⟩)
    case true =>
      have q1 := fun w => eqI true ⟨xop, xd, xa, xb, xn⟩ ⟨xop, xd, m, xb, xn⟩ he w
      have q2 : (((encN ⟨xop, xd, xa, xb, xn⟩ : Nat) : Int) == ((encN ⟨xop, xd, m, xb, xn⟩ : Nat) : Int)) = true := by rw [← of_decide_eq_true he]; simp
      clear he
      go_wp2_with fail
      go_ret
      exact ⟨rfl, (by repeat (first | (with_reducible exact Below.refl _ _) | (with_reducible refine bw_set ?_ ?_ _) | (with_reducible apply bw_alloc) | (with_reducible refine bw_tr ?_ (by with_reducible assumption)) | (with_reducible apply bw_drew) | omega))⟩
    case false =>
      have q1 := fun w => eqI false ⟨xop, xd, xa, xb, xn⟩ ⟨xop, xd, m, xb, xn⟩ he w
      obtain ⟨z1, z2, z3⟩ := HXR.out HQ.out (of_decide_eq_false he)
      clear he
      go_wp2_with fail
      go_ret
      exact ⟨rfl, (by repeat (first | (with_reducible exact Below.refl _ _) | (with_reducible refine bw_set ?_ ?_ _) | (with_reducible apply bw_alloc) | (with_reducible refine bw_tr ?_ (by with_reducible assumption)) | (with_reducible apply bw_drew) | omega))⟩
set_option maxHeartbeats 8000000 in
set_option maxRecDepth 100000 in
theorem fields_2 (x : Ins) (which other : Int) (w : World) (h : ok_instr x) (hw : I64 which) (ho : I64 other) (hi : pickN which 3 = 2) :
    Calls Try.prog 6 #[insV x, .int .i64 which, .int .i64 other] w fun e w' => e = .returned (.bool true) ∧ Below w.heap.size w w' := by
  have hm := pickN_bd other 32 (by omega)
  have hr := fit_right x
  obtain ⟨op, d, a, b, n⟩ := x
  generalize hoth : pickN other 32 = m at *
  have H := Lib.hid h; have HW := Lib.hid hw; have HO := Lib.hid ho; have HI := Lib.hid hi; have HOT := Lib.hid hoth
  have HR := Lib.hid hr
  clear h hw ho hi hoth hr
  unfold insV
  go_enter Try.func6, Try.ntmps6
  go_wp2_with fail
  refine (awake02 _).mono ?_
  rintro e w1 ⟨rfl, hb1⟩
  obtain ⟨c1, f1⟩ := bcell hb1
  have s1 := hb1.size
  try simp at s1
  have l1x0 : w.heap.size < w1.heap.size := by omega
  go_wp2_with fail
  refine (fit_any ⟨op, d, a, b, n⟩ _ H.out).mono ?_
  rintro e w2 ⟨rfl, hb2⟩
  obtain ⟨c2, f2⟩ := bcell hb2
  have s2 := hb2.size
  try simp at s2
  have l2x0 : w.heap.size < w2.heap.size := by omega
  generalize fitX ⟨op, d, a, b, n⟩ = y at *
  obtain ⟨xop, xd, xa, xb, xn⟩ := y
  unfold insV
  go_wp2_with fail
  refine (refRow_any _ _).mono ?_
  have HLK := Lib.hid (lacks_b (x := ⟨xop, xd, xa, xb, xn⟩) (m := m) HR.out hm)
  have HXR := Lib.hid (xor_b (x := ⟨xop, xd, xa, xb, xn⟩) (m := m) HR.out hm)
  simp only at HLK HXR
  generalize rowT xop = r at *
  obtain ⟨nm, f, lo, mi, hi⟩ := r
  rintro e w3 ⟨rfl, hb3⟩
  obtain ⟨c3, f3⟩ := bcell hb3
  have s3 := hb3.size
  try simp at s3
  have l3x0 : w2.heap.size < w3.heap.size := by omega
  have l3x1 : w2.heap.size + 1 < w3.heap.size := by omega
  unfold rfV
  have hfld := fun w => field_form nm f lo mi hi w
  simp only at HLK
  go_wp2_with (go_at_call 24; (first | ((with_reducible refine (pick_at other 32 _ _ HO.out (by omega) HOT.out).mono ?_); rintro e w' ⟨rfl, rfl⟩) | ((with_reducible refine (pick_at which 3 _ _ HW.out (by omega) HI.out).mono ?_); rintro e w' ⟨rfl, rfl⟩)))
  clear hfld
  cases hq : rightB ⟨xop, xd, xa, m, xn⟩
  case false =>
    refine (right_at ⟨xop, xd, xa, m, xn⟩ false _ hq).mono ?_
    rintro e w4 ⟨rfl, hb4⟩
    obtain ⟨hm0, hf⟩ := HLK.out hq
    clear hq
    rcases hf with rfl | rfl | rfl | rfl | rfl | rfl | rfl | rfl
    all_goals
      simp only [List.append_eq, List.cons_append, List.nil_append] at *
      go_wp2_with fail
      go_ret
      exact ⟨rfl, (by repeat (first | (with_reducible exact Below.refl _ _) | (with_reducible refine bw_set ?_ ?_ _) | (with_reducible apply bw_alloc) | (with_reducible refine bw_tr ?_ (by with_reducible assumption)) | (with_reducible apply bw_drew) | omega))⟩
  case true =>
    refine (right_at ⟨xop, xd, xa, m, xn⟩ true _ hq).mono ?_
    rintro e w4 ⟨rfl, hb4⟩
    obtain ⟨c4, f4⟩ := bcell hb4
    have s4 := hb4.size
    try simp at s4
    have l4x0 : w2.heap.size < w4.heap.size := by omega
    have l4x1 : w2.heap.size + 1 < w4.heap.size := by omega
    have E1 := Lib.hid (enc_right HR.out).1; have E2 := Lib.hid (enc_right HR.out).2
    have E3 := Lib.hid (enc_right hq).1; have E4 := Lib.hid (enc_right hq).2
    have HQ := Lib.hid hq; clear hq
    go_wp2_with fail
    refine (encode_any ⟨xop, xd, xa, xb, xn⟩ _).mono ?_
    rw [E1.out, E2.out]
    rintro e w5 ⟨rfl, hb5⟩
    obtain ⟨c5, f5⟩ := bcell hb5
    have s5 := hb5.size
    try simp at s5
    have l5x0 : w2.heap.size < w5.heap.size := by omega
    have l5x1 : w2.heap.size + 1 < w5.heap.size := by omega
    go_wp2_with fail
    refine (encode_any ⟨xop, xd, xa, m, xn⟩ _).mono ?_
    rw [E3.out, E4.out]
    rintro e w6 ⟨rfl, hb6⟩
    obtain ⟨c6, f6⟩ := bcell hb6
    have s6 := hb6.size
    try simp at s6
    have l6x0 : w2.heap.size < w6.heap.size := by omega
    have l6x1 : w2.heap.size + 1 < w6.heap.size := by omega
    cases he : decide ((⟨xop, xd, xa, xb, xn⟩ : Ins) = ⟨xop, xd, xa, m, xn⟩)
    case true =>
      have q1 := fun w => eqI true ⟨xop, xd, xa, xb, xn⟩ ⟨xop, xd, xa, m, xn⟩ he w
      have q2 : (((encN ⟨xop, xd, xa, xb, xn⟩ : Nat) : Int) == ((encN ⟨xop, xd, xa, m, xn⟩ : Nat) : Int)) = true := by rw [← of_decide_eq_true he]; simp
      clear he
      go_wp2_with fail
      go_ret
      exact ⟨rfl, (by repeat (first | (with_reducible exact Below.refl _ _) | (with_reducible refine bw_set ?_ ?_ _) | (with_reducible apply bw_alloc) | (with_reducible refine bw_tr ?_ (by with_reducible assumption)) | (with_reducible apply bw_drew) | omega))⟩
    case false =>
      have q1 := fun w => eqI false ⟨xop, xd, xa, xb, xn⟩ ⟨xop, xd, xa, m, xn⟩ he w
      obtain ⟨z1, z2, z3⟩ := HXR.out HQ.out (of_decide_eq_false he)
      clear he
      go_wp2_with fail
      go_ret
      exact ⟨rfl, (by repeat (first | (with_reducible exact Below.refl _ _) | (with_reducible refine bw_set ?_ ?_ _) | (with_reducible apply bw_alloc) | (with_reducible refine bw_tr ?_ (by with_reducible assumption)) | (with_reducible apply bw_drew) | omega))⟩
theorem code_fields (x : Ins) (which other : Int) (w : World) (h : ok_instr x) (hw : I64 which) (ho : I64 other) :
    Calls Try.prog 6 #[insV x, .int .i64 which, .int .i64 other] w fun e w' => e = .returned (.bool true) ∧ Below w.heap.size w w' := by
  have p := pickN_bd which 3 (by omega)
  rcases (by omega : pickN which 3 = 0 ∨ pickN which 3 = 1 ∨ pickN which 3 = 2) with hi | hi | hi
  · exact fields_0 x which other w h hw ho hi
  · exact fields_1 x which other w h hw ho hi
  · exact fields_2 x which other w h hw ho hi
end Go.Proofs.Ytefebnicclbhjaa
