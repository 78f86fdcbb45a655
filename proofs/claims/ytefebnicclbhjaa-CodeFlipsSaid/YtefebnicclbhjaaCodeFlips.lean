/-
  'CodeFlips': a word of which one bit is another one is another instruction's, or none's.
-/
import Derived.Test.YtefebnicclbhjaaFit02
import Derived.Test.YtefebnicclbhjaaAwake02
import Derived.Test.YtefebnicclbhjaaCodeFlip
import Derived.Test.YtefebnicclbhjaaInsEq
namespace Go.Proofs.Ytefebnicclbhjaa
open Go.RowKit
set_option maxHeartbeats 4000000 in
theorem code_flips (x : Ins) (bit : Int) (w : World) (h : ok_instr x) (hb : I64 bit) :
    Calls Try.prog 9 #[insV x, .int .i64 bit] w fun e w' => e = .returned (.bool true) ∧ Below w.heap.size w w' := by
  have hr := fit_right x
  obtain ⟨e1, e2⟩ := enc_right hr
  obtain ⟨op, d, a, b, n⟩ := x
  have H := Lib.hid h; clear h
  have HB := Lib.hid hb; clear hb
  unfold insV
  go_enter Try.func9, Try.ntmps9
  go_wp2_with fail
  refine (awake02 _).mono ?_
  rintro e w1 ⟨rfl, hb1⟩
  obtain ⟨c1, f1⟩ := bcell hb1
  have s1 := hb1.size
  try simp at s1
  have l1x0 : w.heap.size < w1.heap.size := by omega
  go_wp2_with fail
  refine (fit_any ⟨op, d, a, b, n⟩ _ H.out).mono ?_
  rintro e w2 ⟨rfl, hb2⟩
  obtain ⟨c2, f2⟩ := bcell hb2
  have s2 := hb2.size
  try simp at s2
  have l2x0 : w.heap.size < w2.heap.size := by omega
  generalize fitX ⟨op, d, a, b, n⟩ = y at *
  have HR := Lib.hid hr; have E1 := Lib.hid e1; have E2 := Lib.hid e2
  clear hr e1 e2
  obtain ⟨yop, yd, ya, yb, yn⟩ := y
  unfold insV
  go_wp2_with fail
  refine (encode_any ⟨yop, yd, ya, yb, yn⟩ _).mono ?_
  rw [E1.out, E2.out]
  rintro e w3 ⟨rfl, hb3⟩
  obtain ⟨c3, f3⟩ := bcell hb3
  have s3 := hb3.size
  try simp at s3
  have l3x0 : w.heap.size < w3.heap.size := by omega
  have l3x1 : w2.heap.size < w3.heap.size := by omega
  have hlt : encN ⟨yop, yd, ya, yb, yn⟩ < 4294967296 := layN_lt _
  go_wp2_with fail
  have hpk := pickN_bd bit 32 (by omega)
  refine (pick02 bit 32 _ HB.out (by omega)).mono ?_
  rintro e w4 ⟨rfl, rfl⟩
  go_wp2_with fail
  rw [flip_eq _ _ hlt hpk]
  have hl2 := flip_lt (k := (pickN bit 32).toNat) hlt (by omega)
  have hne := flip_ne (encN ⟨yop, yd, ya, yb, yn⟩) (pickN bit 32).toNat
  generalize flipN _ _ = word at *
  refine (decode_near word _ hl2).mono ?_
  rintro e w5 ⟨rfl, hb5⟩
  obtain ⟨c5, f5⟩ := bcell hb5
  have s5 := hb5.size
  try simp at s5
  have l5x0 : w.heap.size < w5.heap.size := by omega
  have l5x1 : w2.heap.size < w5.heap.size := by omega
  rcases dec_cases word with hd | hd
  · obtain ⟨r1, r2⟩ := dec_ok word hd
    rw [hd]
    have hzy : decX word ≠ ⟨yop, yd, ya, yb, yn⟩ := fun he => hne (by rw [← r2, he])
    generalize decX word = z at *
    obtain ⟨zop, zd, za, zb, zn⟩ := z
    have R1 := Lib.hid r1
    have hq := fun w => eqI false ⟨zop, zd, za, zb, zn⟩ ⟨yop, yd, ya, yb, yn⟩ (decide_eq_false hzy) w
    clear r1 r2 hzy hne hd
    unfold insV
    go_wp2_with fail
    refine (right_at ⟨zop, zd, za, zb, zn⟩ true _ R1.out).mono ?_
    rintro e w6 ⟨rfl, hb6⟩
    go_wp2_with fail
    go_ret
    exact ⟨rfl, (by repeat (first | (with_reducible exact Below.refl _ _) | (with_reducible refine bw_set ?_ ?_ _) | (with_reducible apply bw_alloc) | (with_reducible refine bw_tr ?_ (by with_reducible assumption)) | (with_reducible apply bw_drew) | omega))⟩
  · rw [hd]
    generalize decX word = z at *
    obtain ⟨zop, zd, za, zb, zn⟩ := z
    clear hne hd
    unfold insV
    go_wp2_with fail
    go_ret
    exact ⟨rfl, (by repeat (first | (with_reducible exact Below.refl _ _) | (with_reducible refine bw_set ?_ ?_ _) | (with_reducible apply bw_alloc) | (with_reducible refine bw_tr ?_ (by with_reducible assumption)) | (with_reducible apply bw_drew) | omega))⟩
end Go.Proofs.Ytefebnicclbhjaa
