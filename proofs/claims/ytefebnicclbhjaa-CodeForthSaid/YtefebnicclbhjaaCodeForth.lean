/-
  'CodeForth': Encode undoes Decode.
-/
import Derived.Test.YtefebnicclbhjaaFit02
import Derived.Test.YtefebnicclbhjaaAwake02
import Derived.Test.YtefebnicclbhjaaCodeFlip
import Derived.Test.YtefebnicclbhjaaInsEq
namespace Go.Proofs.Ytefebnicclbhjaa
open Go.RowKit
set_option maxHeartbeats 8000000 in
theorem code_forth (word : Int) (x : Ins) (bit : Int) (w : World) (hw : I64 word) (h : ok_instr x) (hb : I64 bit) :
    Calls Try.prog 5 #[.int .i64 word, insV x, .int .i64 bit] w fun e w' => e = .returned (.bool true) ∧ Below w.heap.size w w' := by
  have hr := fit_right x
  obtain ⟨e1, e2⟩ := enc_right hr
  have hlt := encN_lt (fitX x)
  have hp32 := pickN_bd bit 32 (by omega)
  have hpw := pickN_bd word 4294967296 (by omega)
  obtain ⟨op, d, a, b, n⟩ := x
  have H := Lib.hid h; have HB := Lib.hid hb; have HW := Lib.hid hw
  clear h hb hw
  unfold insV
  go_enter Try.func5, Try.ntmps5
  go_wp2_with fail
  refine (awake02 _).mono ?_
  rintro e w1 ⟨rfl, hb1⟩
  obtain ⟨c1, f1⟩ := bcell hb1
  have s1 := hb1.size
  try simp at s1
  have l1x0 : w.heap.size < w1.heap.size := by omega
  go_wp2_with fail
  refine (fit_any ⟨op, d, a, b, n⟩ _ H.out).mono ?_
  rintro e w2 ⟨rfl, hb2⟩
  obtain ⟨c2, f2⟩ := bcell hb2
  have s2 := hb2.size
  try simp at s2
  have l2x0 : w.heap.size < w2.heap.size := by omega
  generalize fitX ⟨op, d, a, b, n⟩ = y at *
  have E1 := Lib.hid e1; have E2 := Lib.hid e2
  clear hr e1 e2
  obtain ⟨yop, yd, ya, yb, yn⟩ := y
  unfold insV
  go_wp2_with fail
  refine (encode_any ⟨yop, yd, ya, yb, yn⟩ _).mono ?_
  rw [E1.out, E2.out]
  rintro e w3 ⟨rfl, hb3⟩
  obtain ⟨c3, f3⟩ := bcell hb3
  have s3 := hb3.size
  try simp at s3
  have l3x0 : w.heap.size < w3.heap.size := by omega
  go_wp2_with (go_at_call 24; (first | ((with_reducible refine (pick02 word 4294967296 _ HW.out (by omega)).mono ?_); rintro e w' ⟨rfl, rfl⟩) | ((with_reducible refine (pick02 bit 32 _ HB.out (by omega)).mono ?_); rintro e w' ⟨rfl, rfl⟩)))
  rw [flip_eq _ _ hlt hp32]
  have hl2 := flip_lt (k := (pickN bit 32).toNat) hlt (by omega)
  generalize flipN _ _ = wf at *
  generalize pickN word 4294967296 = wp at *
  go_loopw [33] (fun i wr => ∃ k : Nat, k ≤ 3 ∧ i = .int .i64 k ∧ wr.heap[w3.heap.size]? = some (.cells #[.int .i64 word, .int .i64 wp, .int .i64 (wf : Int)] 3 (0, 0)) ∧ Below w.heap.size w wr) (fun i _ => 3 - (intOf i).toNat)
  case atStart => exact ⟨0, by omega, rfl, new_in _ _, (by repeat (first | (with_reducible exact Below.refl _ _) | (with_reducible refine bw_set ?_ ?_ _) | (with_reducible apply bw_alloc) | (with_reducible refine bw_tr ?_ (by with_reducible assumption)) | (with_reducible apply bw_drew) | omega))⟩
  case round =>
    obtain ⟨k, hk, rfl, hx, hbb⟩ := hrel
    have ltx := lt_in hx
    by_cases hlt : k < 3
    · obtain ⟨z, hz, hc⟩ : ∃ z : Int, I64 z ∧ wr.cell? ⟨w3.heap.size, k, none⟩ = some (.int .i64 z) := by
        match k, hlt with
        | 0, _ => exact ⟨word, HW.out, cell_in hx rfl⟩
        | 1, _ => exact ⟨wp, ⟨by omega, by omega⟩, cell_in hx rfl⟩
        | 2, _ => exact ⟨wf, ⟨by omega, by omega⟩, cell_in hx rfl⟩
      have HX := Lib.hid hx
      clear hx
      go_wp2_with fail
      refine (decode_any z _ hz).mono ?_
      rintro e w5 ⟨rfl, hb5⟩
      obtain ⟨c5, f5⟩ := bcell hb5
      have s5 := hb5.size
      try simp at s5
      have l5x0 : w3.heap.size < w5.heap.size := by omega
      rcases dE_cases z with hd | hd
      · obtain ⟨r1, r2⟩ := dX_ok z hd
        rw [hd]
        generalize dX z = v at *
        obtain ⟨zop, zd, za, zb, zn⟩ := v
        have V1 := Lib.hid (enc_right r1).1
        have V2 := Lib.hid (enc_right r1).2
        have R1 := Lib.hid r1; have R2 := Lib.hid r2
        clear r1 r2 hd
        unfold insV
        go_wp2_with fail
        refine (encode_any ⟨zop, zd, za, zb, zn⟩ _).mono ?_
        rw [V1.out, V2.out, R2.out]
        rintro e w6 ⟨rfl, hb6⟩
        obtain ⟨c6, f6⟩ := bcell hb6
        have s6 := hb6.size
        try simp at s6
        have l6x0 : w5.heap.size < w6.heap.size := by omega
        have l6x1 : w3.heap.size < w6.heap.size := by omega
        go_wp2_with fail
        refine (right_at ⟨zop, zd, za, zb, zn⟩ true _ R1.out).mono ?_
        rintro e w7 ⟨rfl, hb7⟩
        obtain ⟨c7, f7⟩ := bcell hb7
        have s7 := hb7.size
        try simp at s7
        have l7x0 : w3.heap.size < w7.heap.size := by omega
        go_wp2_with fail
        have hk2 := bel_in (w := wr) (w' := w7) (B := wr.heap.size) (by repeat (first | (with_reducible exact Below.refl _ _) | (with_reducible refine bw_set ?_ ?_ _) | (with_reducible apply bw_alloc) | (with_reducible refine bw_tr ?_ (by with_reducible assumption)) | (with_reducible apply bw_drew) | omega)) ltx HX.out
        refine ⟨⟨k + 1, by omega, by go_num, hk2, (by repeat (first | (with_reducible exact Below.refl _ _) | (with_reducible refine bw_set ?_ ?_ _) | (with_reducible apply bw_alloc) | (with_reducible refine bw_tr ?_ (by with_reducible assumption)) | (with_reducible apply bw_drew) | omega))⟩, by simp [intOf]; omega⟩
      · have r1 := dX_bad z hd
        rw [hd, r1]
        have q := fun w => eqI true noIns noIns (by simp) w
        unfold noIns at q
        simp only at q
        clear r1 hd
        unfold insV noIns
        go_wp2_with fail
        have hk2 := bel_in (w := wr) (w' := w5) (B := wr.heap.size) (by repeat (first | (with_reducible exact Below.refl _ _) | (with_reducible refine bw_set ?_ ?_ _) | (with_reducible apply bw_alloc) | (with_reducible refine bw_tr ?_ (by with_reducible assumption)) | (with_reducible apply bw_drew) | omega)) ltx HX.out
        have hk3 := bel_in (w := w5) (w' := w5.alloc (.cells #[.int .i64 0, .int .i64 0, .int .i64 0, .int .i64 0, .int .i64 0] 23)) (B := w5.heap.size) (by repeat (first | (with_reducible exact Below.refl _ _) | (with_reducible refine bw_set ?_ ?_ _) | (with_reducible apply bw_alloc) | (with_reducible refine bw_tr ?_ (by with_reducible assumption)) | (with_reducible apply bw_drew) | omega)) (lt_in hk2) hk2
        refine ⟨⟨k + 1, by omega, by go_num, hk3, (by repeat (first | (with_reducible exact Below.refl _ _) | (with_reducible refine bw_set ?_ ?_ _) | (with_reducible apply bw_alloc) | (with_reducible refine bw_tr ?_ (by with_reducible assumption)) | (with_reducible apply bw_drew) | omega))⟩, by simp [intOf]; omega⟩
    · have hk3 : k = 3 := by omega
      subst hk3
      clear hx
      go_wp2_with fail
      go_ret
      exact ⟨rfl, (by repeat (first | (with_reducible exact Below.refl _ _) | (with_reducible refine bw_set ?_ ?_ _) | (with_reducible apply bw_alloc) | (with_reducible refine bw_tr ?_ (by with_reducible assumption)) | (with_reducible apply bw_drew) | omega))⟩
end Go.Proofs.Ytefebnicclbhjaa
