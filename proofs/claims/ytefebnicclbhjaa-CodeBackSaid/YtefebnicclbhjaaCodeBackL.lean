/-
  'CodeBack': Decode undoes Encode; unlike right instructions have unlike words.
-/
import Derived.Test.YtefebnicclbhjaaFit02
import Derived.Test.YtefebnicclbhjaaAwake02
import Derived.Test.YtefebnicclbhjaaInsEq
namespace Go.Proofs.Ytefebnicclbhjaa
open Go.RowKit
theorem enc_eq_b (x y : Ins) (hx : rightB x = true) (hy : rightB y = true) : (((encN x : Nat) : Int) == ((encN y : Nat) : Int)) = decide (x = y) := by
  by_cases h : x = y
  · subst h; simp
  · rw [decide_eq_false h]
    simp only [beq_eq_false_iff_ne, ne_eq]
    intro e
    exact h (enc_inj x y hx hy (by omega))
set_option maxHeartbeats 4000000 in
theorem code_back (x y : Ins) (w : World) (hx : ok_instr x) (hy : ok_instr y) :
    Calls Try.prog 4 #[insV x, insV y] w fun e w' => e = .returned (.bool true) ∧ Below w.heap.size w w' := by
  have hr := fit_right x
  have hs := fit_right y
  obtain ⟨e1, e2⟩ := enc_right hr
  obtain ⟨e3, e4⟩ := enc_right hs
  obtain ⟨d1, d2⟩ := dX_enc _ hr
  have hq := enc_eq_b _ _ hr hs
  have n1 : (0 : Int) ≤ ((encN (fitX x) : Nat) : Int) := by omega
  have n2 := encN_lt (fitX x)
  have n3 : I64 ((encN (fitX x) : Nat) : Int) := ⟨by omega, by omega⟩
  obtain ⟨op, d, a, b, n⟩ := x
  obtain ⟨op', d', a', b', n'⟩ := y
  have H := Lib.hid hx; clear hx
  have H' := Lib.hid hy; clear hy
  have D1 := Lib.hid d1; have D2 := Lib.hid d2
  have E1 := Lib.hid e1; have E2 := Lib.hid e2; have E3 := Lib.hid e3; have E4 := Lib.hid e4
  have HQ := Lib.hid hq; have N3 := Lib.hid n3
  clear hr hs e1 e2 e3 e4 d1 d2 hq n3
  unfold insV
  go_enter Try.func4, Try.ntmps4
  go_wp2_with fail
  refine (awake02 _).mono ?_
  rintro e w1 ⟨rfl, hb1⟩
  obtain ⟨c1, f1⟩ := bcell hb1
  have s1 := hb1.size
  try simp at s1
  have l1x0 : w.heap.size < w1.heap.size := by omega
  have l1x1 : w.heap.size + 1 < w1.heap.size := by omega
  go_wp2_with fail
  refine (fit_any ⟨op, d, a, b, n⟩ _ H.out).mono ?_
  rintro e w2 ⟨rfl, hb2⟩
  obtain ⟨c2, f2⟩ := bcell hb2
  have s2 := hb2.size
  try simp at s2
  have l2x0 : w.heap.size < w2.heap.size := by omega
  have l2x1 : w.heap.size + 1 < w2.heap.size := by omega
  generalize fitX ⟨op, d, a, b, n⟩ = x at *
  obtain ⟨xop, xd, xa, xb, xn⟩ := x
  unfold insV
  go_wp2_with fail
  refine (fit_any ⟨op', d', a', b', n'⟩ _ H'.out).mono ?_
  rintro e w3 ⟨rfl, hb3⟩
  obtain ⟨c3, f3⟩ := bcell hb3
  have s3 := hb3.size
  try simp at s3
  have l3x0 : w2.heap.size < w3.heap.size := by omega
  generalize fitX ⟨op', d', a', b', n'⟩ = y at *
  obtain ⟨yop, yd, ya, yb, yn⟩ := y
  unfold insV
  go_wp2_with fail
  refine (encode_any ⟨xop, xd, xa, xb, xn⟩ _).mono ?_
  rw [E1.out, E2.out]
  rintro e w4 ⟨rfl, hb4⟩
  obtain ⟨c4, f4⟩ := bcell hb4
  have s4 := hb4.size
  try simp at s4
  have l4x0 : w2.heap.size < w4.heap.size := by omega
  have l4x1 : w3.heap.size < w4.heap.size := by omega
  go_wp2_with fail
  refine (encode_any ⟨yop, yd, ya, yb, yn⟩ _).mono ?_
  rw [E3.out, E4.out]
  rintro e w5 ⟨rfl, hb5⟩
  obtain ⟨c5, f5⟩ := bcell hb5
  have s5 := hb5.size
  try simp at s5
  have l5x0 : w2.heap.size < w5.heap.size := by omega
  have l5x1 : w3.heap.size < w5.heap.size := by omega
  go_wp2_with fail
  refine (decode_any _ _ N3.out).mono ?_
  rw [D1.out, D2.out]
  rintro e w6 ⟨rfl, hb6⟩
  obtain ⟨c6, f6⟩ := bcell hb6
  have s6 := hb6.size
  try simp at s6
  have l6x0 : w2.heap.size < w6.heap.size := by omega
  have l6x1 : w3.heap.size < w6.heap.size := by omega
  unfold insV
  have q1 := fun w => eqI true ⟨xop, xd, xa, xb, xn⟩ ⟨xop, xd, xa, xb, xn⟩ (by simp) w
  cases hd : decide ((⟨xop, xd, xa, xb, xn⟩ : Ins) = ⟨yop, yd, ya, yb, yn⟩)
  case false =>
    have q2 := fun w => eqI false ⟨xop, xd, xa, xb, xn⟩ ⟨yop, yd, ya, yb, yn⟩ hd w
    have q3 := HQ.out
    rw [hd] at q3
    clear hd
    go_wp2_with fail
    go_ret
    exact ⟨ret1b (by simp; omega), (by repeat (first | (with_reducible exact Below.refl _ _) | (with_reducible refine bw_set ?_ ?_ _) | (with_reducible apply bw_alloc) | (with_reducible refine bw_tr ?_ (by with_reducible assumption)) | (with_reducible apply bw_drew) | omega))⟩
  case true =>
    have q2 := fun w => eqI true ⟨xop, xd, xa, xb, xn⟩ ⟨yop, yd, ya, yb, yn⟩ hd w
    have q3 := HQ.out
    rw [hd] at q3
    clear hd
    go_wp2_with fail
    go_ret
    exact ⟨ret1b (by simp; omega), (by repeat (first | (with_reducible exact Below.refl _ _) | (with_reducible refine bw_set ?_ ?_ _) | (with_reducible apply bw_alloc) | (with_reducible refine bw_tr ?_ (by with_reducible assumption)) | (with_reducible apply bw_drew) | omega))⟩
end Go.Proofs.Ytefebnicclbhjaa
