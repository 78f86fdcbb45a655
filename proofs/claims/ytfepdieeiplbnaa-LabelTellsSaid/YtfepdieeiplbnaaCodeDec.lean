/-
  The contract of code.Decode.
-/
import Derived.Test.YtfepdieeiplbnaaCodeFind
namespace Go.Proofs.Ytfepdieeiplbnaa
open Go.RowKit
theorem decode_far (word : Int) (w : World) (_ : I64 word) (hw : word < 0 ∨ 4294967296 ≤ word) :
    Calls Try.prog 26 #[.int .i64 word] w fun e w' => e = .returned (.tuple #[insV noIns, .int .i64 20]) ∧ Below w.heap.size w w' := by
  have q1 : wrap64 (word % 4294967296) = word % 4294967296 := by unfold wrap64; omega
  have q2 : (word != word % 4294967296) = true := by simp; omega
  go_enter Try.func26, Try.ntmps26
  go_wp2_with fail
  refine bodyPost_ret (v := .tuple #[insV noIns, .int .i64 20]) (by simp [results, Try.results26, go_sem, insV, noIns]) rfl ⟨rfl, (by repeat (first | (with_reducible exact Below.refl _ _) | (with_reducible refine bw_set ?_ ?_ _) | (with_reducible apply bw_alloc) | (with_reducible refine bw_tr ?_ (by with_reducible assumption)) | (with_reducible apply bw_drew) | omega))⟩
theorem field_7 (word : Nat) (w : World) (hw : word < 4294967296) :
    Calls Try.prog 47 #[.int .i64 word, .int .i64 7, .int .i64 5] w fun e w' => e = .returned (.int .i64 (fieldN word 7 5 : Nat)) ∧ Below w.heap.size w w' := field_any word 7 5 w (by omega) (by omega) hw
theorem field_15 (word : Nat) (w : World) (hw : word < 4294967296) :
    Calls Try.prog 47 #[.int .i64 word, .int .i64 15, .int .i64 5] w fun e w' => e = .returned (.int .i64 (fieldN word 15 5 : Nat)) ∧ Below w.heap.size w w' := field_any word 15 5 w (by omega) (by omega) hw
theorem field_20 (word : Nat) (w : World) (hw : word < 4294967296) :
    Calls Try.prog 47 #[.int .i64 word, .int .i64 20, .int .i64 5] w fun e w' => e = .returned (.int .i64 (fieldN word 20 5 : Nat)) ∧ Below w.heap.size w w' := field_any word 20 5 w (by omega) (by omega) hw
theorem encode_at (v : Value) (x : Ins) (w : World) (hv : v = insV x) :
    Calls Try.prog 48 #[v] w fun e w' => e = .returned (.tuple #[.int .i64 (encV x), .int .i64 (encE x)]) ∧ Below w.heap.size w w' := by subst hv; exact encode_any x w
set_option maxRecDepth 100000 in
set_option maxHeartbeats 60000000 in
theorem decode_near (word : Nat) (w : World) (hw : word < 4294967296) :
    Calls Try.prog 26 #[.int .i64 word] w fun e w' => e = .returned (.tuple #[insV (decX word), .int .i64 (decE word)]) ∧ Below w.heap.size w w' := by
  have q0 : (word : Int) % 4294967296 = word := by omega
  have q1 : wrap64 (word : Int) = word := by unfold wrap64; omega
  go_enter Try.func26, Try.ntmps26
  go_wp2_with fail
  clear q0 q1
  go_loopw [4] (fun i wr => ∃ op : Nat, 1 ≤ op ∧ op ≤ 50 ∧ i = .int .i64 op ∧ (∀ o, 1 ≤ o → o < op → decHit word o = false) ∧ wr.heap[w.heap.size]? = some (.cells #[.int .i64 0, .int .i64 0, .int .i64 0, .int .i64 0, .int .i64 0] 24 (0, 0)) ∧ Below w.heap.size w wr) (fun i _ => 50 - (intOf i).toNat)
  case atStart => exact ⟨1, by omega, by omega, rfl, fun o h1 h2 => by omega, new_in _ _, (by repeat (first | (with_reducible exact Below.refl _ _) | (with_reducible refine bw_set ?_ ?_ _) | (with_reducible apply bw_alloc) | (with_reducible refine bw_tr ?_ (by with_reducible assumption)) | (with_reducible apply bw_drew) | omega))⟩
  case round =>
    obtain ⟨op, hop1, hop2, rfl, hno, hx, hbb⟩ := hrel
    have HNO := Lib.hid hno; have HX := Lib.hid hx
    have ltx : w.heap.size < wr.heap.size := lt_in hx
    have k0 : wr.cell? ⟨w.heap.size, 0, none⟩ = some (.int .i64 0) := cell_in hx rfl
    have g0 := frozen_in hx 0
    have k1 : wr.cell? ⟨w.heap.size, 1, none⟩ = some (.int .i64 0) := cell_in hx rfl
    have g1 := frozen_in hx 1
    have k2 : wr.cell? ⟨w.heap.size, 2, none⟩ = some (.int .i64 0) := cell_in hx rfl
    have g2 := frozen_in hx 2
    have k3 : wr.cell? ⟨w.heap.size, 3, none⟩ = some (.int .i64 0) := cell_in hx rfl
    have g3 := frozen_in hx 3
    have k4 : wr.cell? ⟨w.heap.size, 4, none⟩ = some (.int .i64 0) := cell_in hx rfl
    have g4 := frozen_in hx 4
    by_cases hlt : (op : Int) ≤ 49
    · clear hno hx
      go_wp2_with fail
      refine (rowOf_any _ _).mono ?_
      have HD := Lib.hid (show decI op word = decR (rowT op).form op word from rfl)
      generalize hrw : rowT (op : Int) = r at *
      have HRW := Lib.hid hrw; clear hrw
      obtain ⟨nm, f, lo, mi, hi⟩ := r
      rintro e w1 ⟨rfl, hb1⟩
      obtain ⟨c1, f1⟩ := bcell hb1
      have z1 : wr.heap.size ≤ w1.heap.size := hb1.size
      have z1x : w.heap.size < w1.heap.size := by omega
      unfold rwV
      simp only at HD
      go_wp2_with fail
      refine (shapeOf_any _ _).mono ?_
      rintro e w2 ⟨rfl, hb2⟩
      obtain ⟨c2, f2⟩ := bcell hb2
      have z2 : w1.heap.size < w2.heap.size := by have := hb2.size; simp at this; omega
      have z2x : w.heap.size < w2.heap.size := by omega
      have z2p : w.heap.size ≤ w2.heap.size + 1 := by omega
      have z2q : w.heap.size < w2.heap.size + 1 + 1 := by omega
      have z2r : w1.heap.size ≤ w2.heap.size + 1 := by omega
      have z2s : w1.heap.size < w2.heap.size + 1 + 1 := by omega
      have z2t : w.heap.size ≤ w2.heap.size := by omega
      have z2u : w1.heap.size ≤ w2.heap.size := by omega
      have z2v : w.heap.size ≤ w1.heap.size := by omega
      by_cases hf82 : f = 82
      · subst hf82
        rw [show shapeT 82 = ⟨true, true, true, 0, 0, 0⟩ from rfl]
        unfold shV
        go_wp2_with fail
        refine (back_any 82 word _ hw).mono ?_
        rw [show backMax (numP 82 0) = 0 from rfl]
        have hbl := backFold_lt word (numP 82 0) (num_okQ 82 0)
        have HD1 := Lib.hid (show decR 82 op word = ⟨op, ((fieldN word 7 5 : Nat) : Int), ((fieldN word 15 5 : Nat) : Int), ((fieldN word 20 5 : Nat) : Int), signN (0) (backFold word (numP 82 0)) 0⟩ from rfl)
        generalize backFold word (numP 82 0) = bn at *
        have HDD : Hid (decI op word = ⟨op, ((fieldN word 7 5 : Nat) : Int), ((fieldN word 15 5 : Nat) : Int), ((fieldN word 20 5 : Nat) : Int), (bn : Int)⟩) := by
          rw [HD.out, HD1.out]
          have : signN (0) bn 0 = (bn : Int) := by unfold signN; rw [if_neg]; simp
          rw [this]; exact rfl
        rintro e w3 ⟨rfl, hb3⟩
        obtain ⟨c3, f3⟩ := bcell hb3
        have z3 : w2.heap.size + 1 < w3.heap.size := by have := hb3.size; simp at this; omega
        have z3x : w.heap.size < w3.heap.size := by omega
        have z3y : w1.heap.size < w3.heap.size := by omega
        have z3z : w2.heap.size < w3.heap.size := by omega
        go_wp2_with (go_at_call 47; (first | ((with_reducible refine (field_7 word _ hw).mono ?_); rintro e w5 ⟨rfl, hb5⟩; obtain ⟨c5, f5⟩ := bcell hb5; have s5 := hb5.size; simp at s5; have y5 : w2.heap.size + 1 < w5.heap.size := (by omega); have y5x : w.heap.size < w5.heap.size := (by omega); have y5y : w1.heap.size < w5.heap.size := (by omega); have y5z : w2.heap.size < w5.heap.size := (by omega)) | ((with_reducible refine (field_15 word _ hw).mono ?_); rintro e w6 ⟨rfl, hb6⟩; obtain ⟨c6, f6⟩ := bcell hb6; have s6 := hb6.size; simp at s6; have y6 : w2.heap.size + 1 < w6.heap.size := (by omega); have y6x : w.heap.size < w6.heap.size := (by omega); have y6y : w1.heap.size < w6.heap.size := (by omega); have y6z : w2.heap.size < w6.heap.size := (by omega)) | ((with_reducible refine (field_20 word _ hw).mono ?_); rintro e w7 ⟨rfl, hb7⟩; obtain ⟨c7, f7⟩ := bcell hb7; have s7 := hb7.size; simp at s7; have y7 : w2.heap.size + 1 < w7.heap.size := (by omega); have y7x : w.heap.size < w7.heap.size := (by omega); have y7y : w1.heap.size < w7.heap.size := (by omega); have y7z : w2.heap.size < w7.heap.size := (by omega))))
        refine (encode_at _ (decI op word) _ (by rw [HDD.out]; rfl)).mono ?_
        rintro e w8 ⟨rfl, hb8⟩
        obtain ⟨c8, f8⟩ := bcell hb8
        have s8 := hb8.size
        simp at s8
        have y8 : w2.heap.size + 1 < w8.heap.size := by omega
        have y8x : w.heap.size < w8.heap.size := by omega
        have hk := bel_in (w := wr) (w' := w8) (B := wr.heap.size) (by repeat (first | (with_reducible exact Below.refl _ _) | (with_reducible refine bw_set ?_ ?_ _) | (with_reducible apply bw_alloc) | (with_reducible refine bw_tr ?_ (by with_reducible assumption)) | (with_reducible apply bw_drew) | omega)) ltx HX.out
        have HK := Lib.hid hk
        clear hk
        try clear hsg hbi hbj
        have hh0 : decHit word op = (encE (decI op word) == 0 && encV (decI op word) == (word : Int)) := rfl
        cases hh1 : (encE (decI op word) == 0) <;> cases hh2 : (encV (decI op word) == (word : Int))
        all_goals
          rw [hh1, hh2] at hh0
          have HH := Lib.hid hh0
          clear hh0
          generalize encE (decI op word) = ee at *
          generalize encV (decI op word) = ev at *
          go_wp2_with fail
          first
            | (refine ⟨⟨op + 1, by omega, by omega, by go_num, fun o h1 h2 => ?_, HK.out, (by repeat (first | (with_reducible exact Below.refl _ _) | (with_reducible refine bw_set ?_ ?_ _) | (with_reducible apply bw_alloc) | (with_reducible refine bw_tr ?_ (by with_reducible assumption)) | (with_reducible apply bw_drew) | omega))⟩, by simp [intOf]; omega⟩; by_cases ho : o = op; (subst ho; exact HH.out); (exact HNO.out o h1 (by omega)))
            | ((try simp only [Exit.inBlock, Exit.then]); have k0 : w8.cell? ⟨w.heap.size, 0, none⟩ = some (.int .i64 0) := cell_in HK.out rfl; have k1 : w8.cell? ⟨w.heap.size, 1, none⟩ = some (.int .i64 0) := cell_in HK.out rfl; have k2 : w8.cell? ⟨w.heap.size, 2, none⟩ = some (.int .i64 0) := cell_in HK.out rfl; have k3 : w8.cell? ⟨w.heap.size, 3, none⟩ = some (.int .i64 0) := cell_in HK.out rfl; have k4 : w8.cell? ⟨w.heap.size, 4, none⟩ = some (.int .i64 0) := cell_in HK.out rfl; obtain ⟨d1, d2⟩ := dec_hit (by omega) HH.out HNO.out; rw [HDD.out] at d1; refine bodyPost_ret (v := .tuple #[insV ⟨op, ((fieldN word 7 5 : Nat) : Int), ((fieldN word 15 5 : Nat) : Int), ((fieldN word 20 5 : Nat) : Int), (bn : Int)⟩, .int .i64 0]) (by simp [results, Try.results26, go_sem, insV, k0, k1, k2, k3, k4]) rfl ⟨by rw [d1, d2], (by repeat (first | (with_reducible exact Below.refl _ _) | (with_reducible refine bw_set ?_ ?_ _) | (with_reducible apply bw_alloc) | (with_reducible refine bw_tr ?_ (by with_reducible assumption)) | (with_reducible apply bw_drew) | omega))⟩)
      by_cases hf73 : f = 73
      · subst hf73
        rw [show shapeT 73 = ⟨true, true, false, -2048, 2047, 0⟩ from rfl]
        unfold shV
        go_wp2_with fail
        refine (back_any 73 word _ hw).mono ?_
        rw [show backMax (numP 73 0) = 12 from rfl]
        have hbl := backFold_lt word (numP 73 0) (num_okQ 73 0)
        have HD1 := Lib.hid (show decR 73 op word = ⟨op, ((fieldN word 7 5 : Nat) : Int), ((fieldN word 15 5 : Nat) : Int), 0, signN (-2048) (backFold word (numP 73 0)) 12⟩ from rfl)
        generalize backFold word (numP 73 0) = bn at *
        have hbi : (0 : Int) ≤ (bn : Int) := by omega
        have hbj : (bn : Int) < 4294967296 := by omega
        cases hsg : ((bn : Int) / 2048 != 0)
        case false =>
          have HDD : Hid (decI op word = ⟨op, ((fieldN word 7 5 : Nat) : Int), ((fieldN word 15 5 : Nat) : Int), 0, (bn : Int)⟩) := by
            rw [HD.out, HD1.out]
            have : signN (-2048) bn 12 = (bn : Int) := by unfold signN; rw [if_neg]; simp at hsg ⊢; omega
            rw [this]; exact rfl
          rintro e w3 ⟨rfl, hb3⟩
          obtain ⟨c3, f3⟩ := bcell hb3
          have z3 : w2.heap.size + 1 < w3.heap.size := by have := hb3.size; simp at this; omega
          have z3x : w.heap.size < w3.heap.size := by omega
          have z3y : w1.heap.size < w3.heap.size := by omega
          have z3z : w2.heap.size < w3.heap.size := by omega
          go_wp2_with (go_at_call 47; (first | ((with_reducible refine (field_7 word _ hw).mono ?_); rintro e w5 ⟨rfl, hb5⟩; obtain ⟨c5, f5⟩ := bcell hb5; have s5 := hb5.size; simp at s5; have y5 : w2.heap.size + 1 < w5.heap.size := (by omega); have y5x : w.heap.size < w5.heap.size := (by omega); have y5y : w1.heap.size < w5.heap.size := (by omega); have y5z : w2.heap.size < w5.heap.size := (by omega)) | ((with_reducible refine (field_15 word _ hw).mono ?_); rintro e w6 ⟨rfl, hb6⟩; obtain ⟨c6, f6⟩ := bcell hb6; have s6 := hb6.size; simp at s6; have y6 : w2.heap.size + 1 < w6.heap.size := (by omega); have y6x : w.heap.size < w6.heap.size := (by omega); have y6y : w1.heap.size < w6.heap.size := (by omega); have y6z : w2.heap.size < w6.heap.size := (by omega)) | ((with_reducible refine (field_20 word _ hw).mono ?_); rintro e w7 ⟨rfl, hb7⟩; obtain ⟨c7, f7⟩ := bcell hb7; have s7 := hb7.size; simp at s7; have y7 : w2.heap.size + 1 < w7.heap.size := (by omega); have y7x : w.heap.size < w7.heap.size := (by omega); have y7y : w1.heap.size < w7.heap.size := (by omega); have y7z : w2.heap.size < w7.heap.size := (by omega))))
          refine (encode_at _ (decI op word) _ (by rw [HDD.out]; rfl)).mono ?_
          rintro e w8 ⟨rfl, hb8⟩
          obtain ⟨c8, f8⟩ := bcell hb8
          have s8 := hb8.size
          simp at s8
          have y8 : w2.heap.size + 1 < w8.heap.size := by omega
          have y8x : w.heap.size < w8.heap.size := by omega
          have hk := bel_in (w := wr) (w' := w8) (B := wr.heap.size) (by repeat (first | (with_reducible exact Below.refl _ _) | (with_reducible refine bw_set ?_ ?_ _) | (with_reducible apply bw_alloc) | (with_reducible refine bw_tr ?_ (by with_reducible assumption)) | (with_reducible apply bw_drew) | omega)) ltx HX.out
          have HK := Lib.hid hk
          clear hk
          try clear hsg hbi hbj
          have hh0 : decHit word op = (encE (decI op word) == 0 && encV (decI op word) == (word : Int)) := rfl
          cases hh1 : (encE (decI op word) == 0) <;> cases hh2 : (encV (decI op word) == (word : Int))
          all_goals
            rw [hh1, hh2] at hh0
            have HH := Lib.hid hh0
            clear hh0
            generalize encE (decI op word) = ee at *
            generalize encV (decI op word) = ev at *
            go_wp2_with fail
            first
              | (refine ⟨⟨op + 1, by omega, by omega, by go_num, fun o h1 h2 => ?_, HK.out, (by repeat (first | (with_reducible exact Below.refl _ _) | (with_reducible refine bw_set ?_ ?_ _) | (with_reducible apply bw_alloc) | (with_reducible refine bw_tr ?_ (by with_reducible assumption)) | (with_reducible apply bw_drew) | omega))⟩, by simp [intOf]; omega⟩; by_cases ho : o = op; (subst ho; exact HH.out); (exact HNO.out o h1 (by omega)))
              | ((try simp only [Exit.inBlock, Exit.then]); have k0 : w8.cell? ⟨w.heap.size, 0, none⟩ = some (.int .i64 0) := cell_in HK.out rfl; have k1 : w8.cell? ⟨w.heap.size, 1, none⟩ = some (.int .i64 0) := cell_in HK.out rfl; have k2 : w8.cell? ⟨w.heap.size, 2, none⟩ = some (.int .i64 0) := cell_in HK.out rfl; have k3 : w8.cell? ⟨w.heap.size, 3, none⟩ = some (.int .i64 0) := cell_in HK.out rfl; have k4 : w8.cell? ⟨w.heap.size, 4, none⟩ = some (.int .i64 0) := cell_in HK.out rfl; obtain ⟨d1, d2⟩ := dec_hit (by omega) HH.out HNO.out; rw [HDD.out] at d1; refine bodyPost_ret (v := .tuple #[insV ⟨op, ((fieldN word 7 5 : Nat) : Int), ((fieldN word 15 5 : Nat) : Int), 0, (bn : Int)⟩, .int .i64 0]) (by simp [results, Try.results26, go_sem, insV, k0, k1, k2, k3, k4]) rfl ⟨by rw [d1, d2], (by repeat (first | (with_reducible exact Below.refl _ _) | (with_reducible refine bw_set ?_ ?_ _) | (with_reducible apply bw_alloc) | (with_reducible refine bw_tr ?_ (by with_reducible assumption)) | (with_reducible apply bw_drew) | omega))⟩)
        case true =>
          have HDD : Hid (decI op word = ⟨op, ((fieldN word 7 5 : Nat) : Int), ((fieldN word 15 5 : Nat) : Int), 0, (bn : Int) - 4096⟩) := by
            rw [HD.out, HD1.out]
            have : signN (-2048) bn 12 = (bn : Int) - 4096 := by unfold signN; rw [if_pos]; rfl; simp at hsg ⊢; omega
            rw [this]; exact rfl
          rintro e w3 ⟨rfl, hb3⟩
          obtain ⟨c3, f3⟩ := bcell hb3
          have z3 : w2.heap.size + 1 < w3.heap.size := by have := hb3.size; simp at this; omega
          have z3x : w.heap.size < w3.heap.size := by omega
          have z3y : w1.heap.size < w3.heap.size := by omega
          have z3z : w2.heap.size < w3.heap.size := by omega
          go_wp2_with (go_at_call 47; (first | ((with_reducible refine (field_7 word _ hw).mono ?_); rintro e w5 ⟨rfl, hb5⟩; obtain ⟨c5, f5⟩ := bcell hb5; have s5 := hb5.size; simp at s5; have y5 : w2.heap.size + 1 < w5.heap.size := (by omega); have y5x : w.heap.size < w5.heap.size := (by omega); have y5y : w1.heap.size < w5.heap.size := (by omega); have y5z : w2.heap.size < w5.heap.size := (by omega)) | ((with_reducible refine (field_15 word _ hw).mono ?_); rintro e w6 ⟨rfl, hb6⟩; obtain ⟨c6, f6⟩ := bcell hb6; have s6 := hb6.size; simp at s6; have y6 : w2.heap.size + 1 < w6.heap.size := (by omega); have y6x : w.heap.size < w6.heap.size := (by omega); have y6y : w1.heap.size < w6.heap.size := (by omega); have y6z : w2.heap.size < w6.heap.size := (by omega)) | ((with_reducible refine (field_20 word _ hw).mono ?_); rintro e w7 ⟨rfl, hb7⟩; obtain ⟨c7, f7⟩ := bcell hb7; have s7 := hb7.size; simp at s7; have y7 : w2.heap.size + 1 < w7.heap.size := (by omega); have y7x : w.heap.size < w7.heap.size := (by omega); have y7y : w1.heap.size < w7.heap.size := (by omega); have y7z : w2.heap.size < w7.heap.size := (by omega))))
          refine (encode_at _ (decI op word) _ (by rw [HDD.out]; rfl)).mono ?_
          rintro e w8 ⟨rfl, hb8⟩
          obtain ⟨c8, f8⟩ := bcell hb8
          have s8 := hb8.size
          simp at s8
          have y8 : w2.heap.size + 1 < w8.heap.size := by omega
          have y8x : w.heap.size < w8.heap.size := by omega
          have hk := bel_in (w := wr) (w' := w8) (B := wr.heap.size) (by repeat (first | (with_reducible exact Below.refl _ _) | (with_reducible refine bw_set ?_ ?_ _) | (with_reducible apply bw_alloc) | (with_reducible refine bw_tr ?_ (by with_reducible assumption)) | (with_reducible apply bw_drew) | omega)) ltx HX.out
          have HK := Lib.hid hk
          clear hk
          try clear hsg hbi hbj
          have hh0 : decHit word op = (encE (decI op word) == 0 && encV (decI op word) == (word : Int)) := rfl
          cases hh1 : (encE (decI op word) == 0) <;> cases hh2 : (encV (decI op word) == (word : Int))
          all_goals
            rw [hh1, hh2] at hh0
            have HH := Lib.hid hh0
            clear hh0
            generalize encE (decI op word) = ee at *
            generalize encV (decI op word) = ev at *
            go_wp2_with fail
            first
              | (refine ⟨⟨op + 1, by omega, by omega, by go_num, fun o h1 h2 => ?_, HK.out, (by repeat (first | (with_reducible exact Below.refl _ _) | (with_reducible refine bw_set ?_ ?_ _) | (with_reducible apply bw_alloc) | (with_reducible refine bw_tr ?_ (by with_reducible assumption)) | (with_reducible apply bw_drew) | omega))⟩, by simp [intOf]; omega⟩; by_cases ho : o = op; (subst ho; exact HH.out); (exact HNO.out o h1 (by omega)))
              | ((try simp only [Exit.inBlock, Exit.then]); have k0 : w8.cell? ⟨w.heap.size, 0, none⟩ = some (.int .i64 0) := cell_in HK.out rfl; have k1 : w8.cell? ⟨w.heap.size, 1, none⟩ = some (.int .i64 0) := cell_in HK.out rfl; have k2 : w8.cell? ⟨w.heap.size, 2, none⟩ = some (.int .i64 0) := cell_in HK.out rfl; have k3 : w8.cell? ⟨w.heap.size, 3, none⟩ = some (.int .i64 0) := cell_in HK.out rfl; have k4 : w8.cell? ⟨w.heap.size, 4, none⟩ = some (.int .i64 0) := cell_in HK.out rfl; obtain ⟨d1, d2⟩ := dec_hit (by omega) HH.out HNO.out; rw [HDD.out] at d1; refine bodyPost_ret (v := .tuple #[insV ⟨op, ((fieldN word 7 5 : Nat) : Int), ((fieldN word 15 5 : Nat) : Int), 0, (bn : Int) - 4096⟩, .int .i64 0]) (by simp [results, Try.results26, go_sem, insV, k0, k1, k2, k3, k4]) rfl ⟨by rw [d1, d2], (by repeat (first | (with_reducible exact Below.refl _ _) | (with_reducible refine bw_set ?_ ?_ _) | (with_reducible apply bw_alloc) | (with_reducible refine bw_tr ?_ (by with_reducible assumption)) | (with_reducible apply bw_drew) | omega))⟩)
      by_cases hf72 : f = 72
      · subst hf72
        rw [show shapeT 72 = ⟨true, true, false, 0, 31, 0⟩ from rfl]
        unfold shV
        go_wp2_with fail
        refine (back_any 72 word _ hw).mono ?_
        rw [show backMax (numP 72 0) = 5 from rfl]
        have hbl := backFold_lt word (numP 72 0) (num_okQ 72 0)
        have HD1 := Lib.hid (show decR 72 op word = ⟨op, ((fieldN word 7 5 : Nat) : Int), ((fieldN word 15 5 : Nat) : Int), 0, signN (0) (backFold word (numP 72 0)) 5⟩ from rfl)
        generalize backFold word (numP 72 0) = bn at *
        have HDD : Hid (decI op word = ⟨op, ((fieldN word 7 5 : Nat) : Int), ((fieldN word 15 5 : Nat) : Int), 0, (bn : Int)⟩) := by
          rw [HD.out, HD1.out]
          have : signN (0) bn 5 = (bn : Int) := by unfold signN; rw [if_neg]; simp
          rw [this]; exact rfl
        rintro e w3 ⟨rfl, hb3⟩
        obtain ⟨c3, f3⟩ := bcell hb3
        have z3 : w2.heap.size + 1 < w3.heap.size := by have := hb3.size; simp at this; omega
        have z3x : w.heap.size < w3.heap.size := by omega
        have z3y : w1.heap.size < w3.heap.size := by omega
        have z3z : w2.heap.size < w3.heap.size := by omega
        go_wp2_with (go_at_call 47; (first | ((with_reducible refine (field_7 word _ hw).mono ?_); rintro e w5 ⟨rfl, hb5⟩; obtain ⟨c5, f5⟩ := bcell hb5; have s5 := hb5.size; simp at s5; have y5 : w2.heap.size + 1 < w5.heap.size := (by omega); have y5x : w.heap.size < w5.heap.size := (by omega); have y5y : w1.heap.size < w5.heap.size := (by omega); have y5z : w2.heap.size < w5.heap.size := (by omega)) | ((with_reducible refine (field_15 word _ hw).mono ?_); rintro e w6 ⟨rfl, hb6⟩; obtain ⟨c6, f6⟩ := bcell hb6; have s6 := hb6.size; simp at s6; have y6 : w2.heap.size + 1 < w6.heap.size := (by omega); have y6x : w.heap.size < w6.heap.size := (by omega); have y6y : w1.heap.size < w6.heap.size := (by omega); have y6z : w2.heap.size < w6.heap.size := (by omega)) | ((with_reducible refine (field_20 word _ hw).mono ?_); rintro e w7 ⟨rfl, hb7⟩; obtain ⟨c7, f7⟩ := bcell hb7; have s7 := hb7.size; simp at s7; have y7 : w2.heap.size + 1 < w7.heap.size := (by omega); have y7x : w.heap.size < w7.heap.size := (by omega); have y7y : w1.heap.size < w7.heap.size := (by omega); have y7z : w2.heap.size < w7.heap.size := (by omega))))
        refine (encode_at _ (decI op word) _ (by rw [HDD.out]; rfl)).mono ?_
        rintro e w8 ⟨rfl, hb8⟩
        obtain ⟨c8, f8⟩ := bcell hb8
        have s8 := hb8.size
        simp at s8
        have y8 : w2.heap.size + 1 < w8.heap.size := by omega
        have y8x : w.heap.size < w8.heap.size := by omega
        have hk := bel_in (w := wr) (w' := w8) (B := wr.heap.size) (by repeat (first | (with_reducible exact Below.refl _ _) | (with_reducible refine bw_set ?_ ?_ _) | (with_reducible apply bw_alloc) | (with_reducible refine bw_tr ?_ (by with_reducible assumption)) | (with_reducible apply bw_drew) | omega)) ltx HX.out
        have HK := Lib.hid hk
        clear hk
        try clear hsg hbi hbj
        have hh0 : decHit word op = (encE (decI op word) == 0 && encV (decI op word) == (word : Int)) := rfl
        cases hh1 : (encE (decI op word) == 0) <;> cases hh2 : (encV (decI op word) == (word : Int))
        all_goals
          rw [hh1, hh2] at hh0
          have HH := Lib.hid hh0
          clear hh0
          generalize encE (decI op word) = ee at *
          generalize encV (decI op word) = ev at *
          go_wp2_with fail
          first
            | (refine ⟨⟨op + 1, by omega, by omega, by go_num, fun o h1 h2 => ?_, HK.out, (by repeat (first | (with_reducible exact Below.refl _ _) | (with_reducible refine bw_set ?_ ?_ _) | (with_reducible apply bw_alloc) | (with_reducible refine bw_tr ?_ (by with_reducible assumption)) | (with_reducible apply bw_drew) | omega))⟩, by simp [intOf]; omega⟩; by_cases ho : o = op; (subst ho; exact HH.out); (exact HNO.out o h1 (by omega)))
            | ((try simp only [Exit.inBlock, Exit.then]); have k0 : w8.cell? ⟨w.heap.size, 0, none⟩ = some (.int .i64 0) := cell_in HK.out rfl; have k1 : w8.cell? ⟨w.heap.size, 1, none⟩ = some (.int .i64 0) := cell_in HK.out rfl; have k2 : w8.cell? ⟨w.heap.size, 2, none⟩ = some (.int .i64 0) := cell_in HK.out rfl; have k3 : w8.cell? ⟨w.heap.size, 3, none⟩ = some (.int .i64 0) := cell_in HK.out rfl; have k4 : w8.cell? ⟨w.heap.size, 4, none⟩ = some (.int .i64 0) := cell_in HK.out rfl; obtain ⟨d1, d2⟩ := dec_hit (by omega) HH.out HNO.out; rw [HDD.out] at d1; refine bodyPost_ret (v := .tuple #[insV ⟨op, ((fieldN word 7 5 : Nat) : Int), ((fieldN word 15 5 : Nat) : Int), 0, (bn : Int)⟩, .int .i64 0]) (by simp [results, Try.results26, go_sem, insV, k0, k1, k2, k3, k4]) rfl ⟨by rw [d1, d2], (by repeat (first | (with_reducible exact Below.refl _ _) | (with_reducible refine bw_set ?_ ?_ _) | (with_reducible apply bw_alloc) | (with_reducible refine bw_tr ?_ (by with_reducible assumption)) | (with_reducible apply bw_drew) | omega))⟩)
      by_cases hf83 : f = 83
      · subst hf83
        rw [show shapeT 83 = ⟨false, true, true, -2048, 2047, 0⟩ from rfl]
        unfold shV
        go_wp2_with fail
        refine (back_any 83 word _ hw).mono ?_
        rw [show backMax (numP 83 0) = 12 from rfl]
        have hbl := backFold_lt word (numP 83 0) (num_okQ 83 0)
        have HD1 := Lib.hid (show decR 83 op word = ⟨op, 0, ((fieldN word 15 5 : Nat) : Int), ((fieldN word 20 5 : Nat) : Int), signN (-2048) (backFold word (numP 83 0)) 12⟩ from rfl)
        generalize backFold word (numP 83 0) = bn at *
        have hbi : (0 : Int) ≤ (bn : Int) := by omega
        have hbj : (bn : Int) < 4294967296 := by omega
        cases hsg : ((bn : Int) / 2048 != 0)
        case false =>
          have HDD : Hid (decI op word = ⟨op, 0, ((fieldN word 15 5 : Nat) : Int), ((fieldN word 20 5 : Nat) : Int), (bn : Int)⟩) := by
            rw [HD.out, HD1.out]
            have : signN (-2048) bn 12 = (bn : Int) := by unfold signN; rw [if_neg]; simp at hsg ⊢; omega
            rw [this]; exact rfl
          rintro e w3 ⟨rfl, hb3⟩
          obtain ⟨c3, f3⟩ := bcell hb3
          have z3 : w2.heap.size + 1 < w3.heap.size := by have := hb3.size; simp at this; omega
          have z3x : w.heap.size < w3.heap.size := by omega
          have z3y : w1.heap.size < w3.heap.size := by omega
          have z3z : w2.heap.size < w3.heap.size := by omega
          go_wp2_with (go_at_call 47; (first | ((with_reducible refine (field_7 word _ hw).mono ?_); rintro e w5 ⟨rfl, hb5⟩; obtain ⟨c5, f5⟩ := bcell hb5; have s5 := hb5.size; simp at s5; have y5 : w2.heap.size + 1 < w5.heap.size := (by omega); have y5x : w.heap.size < w5.heap.size := (by omega); have y5y : w1.heap.size < w5.heap.size := (by omega); have y5z : w2.heap.size < w5.heap.size := (by omega)) | ((with_reducible refine (field_15 word _ hw).mono ?_); rintro e w6 ⟨rfl, hb6⟩; obtain ⟨c6, f6⟩ := bcell hb6; have s6 := hb6.size; simp at s6; have y6 : w2.heap.size + 1 < w6.heap.size := (by omega); have y6x : w.heap.size < w6.heap.size := (by omega); have y6y : w1.heap.size < w6.heap.size := (by omega); have y6z : w2.heap.size < w6.heap.size := (by omega)) | ((with_reducible refine (field_20 word _ hw).mono ?_); rintro e w7 ⟨rfl, hb7⟩; obtain ⟨c7, f7⟩ := bcell hb7; have s7 := hb7.size; simp at s7; have y7 : w2.heap.size + 1 < w7.heap.size := (by omega); have y7x : w.heap.size < w7.heap.size := (by omega); have y7y : w1.heap.size < w7.heap.size := (by omega); have y7z : w2.heap.size < w7.heap.size := (by omega))))
          refine (encode_at _ (decI op word) _ (by rw [HDD.out]; rfl)).mono ?_
          rintro e w8 ⟨rfl, hb8⟩
          obtain ⟨c8, f8⟩ := bcell hb8
          have s8 := hb8.size
          simp at s8
          have y8 : w2.heap.size + 1 < w8.heap.size := by omega
          have y8x : w.heap.size < w8.heap.size := by omega
          have hk := bel_in (w := wr) (w' := w8) (B := wr.heap.size) (by repeat (first | (with_reducible exact Below.refl _ _) | (with_reducible refine bw_set ?_ ?_ _) | (with_reducible apply bw_alloc) | (with_reducible refine bw_tr ?_ (by with_reducible assumption)) | (with_reducible apply bw_drew) | omega)) ltx HX.out
          have HK := Lib.hid hk
          clear hk
          try clear hsg hbi hbj
          have hh0 : decHit word op = (encE (decI op word) == 0 && encV (decI op word) == (word : Int)) := rfl
          cases hh1 : (encE (decI op word) == 0) <;> cases hh2 : (encV (decI op word) == (word : Int))
          all_goals
            rw [hh1, hh2] at hh0
            have HH := Lib.hid hh0
            clear hh0
            generalize encE (decI op word) = ee at *
            generalize encV (decI op word) = ev at *
            go_wp2_with fail
            first
              | (refine ⟨⟨op + 1, by omega, by omega, by go_num, fun o h1 h2 => ?_, HK.out, (by repeat (first | (with_reducible exact Below.refl _ _) | (with_reducible refine bw_set ?_ ?_ _) | (with_reducible apply bw_alloc) | (with_reducible refine bw_tr ?_ (by with_reducible assumption)) | (with_reducible apply bw_drew) | omega))⟩, by simp [intOf]; omega⟩; by_cases ho : o = op; (subst ho; exact HH.out); (exact HNO.out o h1 (by omega)))
              | ((try simp only [Exit.inBlock, Exit.then]); have k0 : w8.cell? ⟨w.heap.size, 0, none⟩ = some (.int .i64 0) := cell_in HK.out rfl; have k1 : w8.cell? ⟨w.heap.size, 1, none⟩ = some (.int .i64 0) := cell_in HK.out rfl; have k2 : w8.cell? ⟨w.heap.size, 2, none⟩ = some (.int .i64 0) := cell_in HK.out rfl; have k3 : w8.cell? ⟨w.heap.size, 3, none⟩ = some (.int .i64 0) := cell_in HK.out rfl; have k4 : w8.cell? ⟨w.heap.size, 4, none⟩ = some (.int .i64 0) := cell_in HK.out rfl; obtain ⟨d1, d2⟩ := dec_hit (by omega) HH.out HNO.out; rw [HDD.out] at d1; refine bodyPost_ret (v := .tuple #[insV ⟨op, 0, ((fieldN word 15 5 : Nat) : Int), ((fieldN word 20 5 : Nat) : Int), (bn : Int)⟩, .int .i64 0]) (by simp [results, Try.results26, go_sem, insV, k0, k1, k2, k3, k4]) rfl ⟨by rw [d1, d2], (by repeat (first | (with_reducible exact Below.refl _ _) | (with_reducible refine bw_set ?_ ?_ _) | (with_reducible apply bw_alloc) | (with_reducible refine bw_tr ?_ (by with_reducible assumption)) | (with_reducible apply bw_drew) | omega))⟩)
        case true =>
          have HDD : Hid (decI op word = ⟨op, 0, ((fieldN word 15 5 : Nat) : Int), ((fieldN word 20 5 : Nat) : Int), (bn : Int) - 4096⟩) := by
            rw [HD.out, HD1.out]
            have : signN (-2048) bn 12 = (bn : Int) - 4096 := by unfold signN; rw [if_pos]; rfl; simp at hsg ⊢; omega
            rw [this]; exact rfl
          rintro e w3 ⟨rfl, hb3⟩
          obtain ⟨c3, f3⟩ := bcell hb3
          have z3 : w2.heap.size + 1 < w3.heap.size := by have := hb3.size; simp at this; omega
          have z3x : w.heap.size < w3.heap.size := by omega
          have z3y : w1.heap.size < w3.heap.size := by omega
          have z3z : w2.heap.size < w3.heap.size := by omega
          go_wp2_with (go_at_call 47; (first | ((with_reducible refine (field_7 word _ hw).mono ?_); rintro e w5 ⟨rfl, hb5⟩; obtain ⟨c5, f5⟩ := bcell hb5; have s5 := hb5.size; simp at s5; have y5 : w2.heap.size + 1 < w5.heap.size := (by omega); have y5x : w.heap.size < w5.heap.size := (by omega); have y5y : w1.heap.size < w5.heap.size := (by omega); have y5z : w2.heap.size < w5.heap.size := (by omega)) | ((with_reducible refine (field_15 word _ hw).mono ?_); rintro e w6 ⟨rfl, hb6⟩; obtain ⟨c6, f6⟩ := bcell hb6; have s6 := hb6.size; simp at s6; have y6 : w2.heap.size + 1 < w6.heap.size := (by omega); have y6x : w.heap.size < w6.heap.size := (by omega); have y6y : w1.heap.size < w6.heap.size := (by omega); have y6z : w2.heap.size < w6.heap.size := (by omega)) | ((with_reducible refine (field_20 word _ hw).mono ?_); rintro e w7 ⟨rfl, hb7⟩; obtain ⟨c7, f7⟩ := bcell hb7; have s7 := hb7.size; simp at s7; have y7 : w2.heap.size + 1 < w7.heap.size := (by omega); have y7x : w.heap.size < w7.heap.size := (by omega); have y7y : w1.heap.size < w7.heap.size := (by omega); have y7z : w2.heap.size < w7.heap.size := (by omega))))
          refine (encode_at _ (decI op word) _ (by rw [HDD.out]; rfl)).mono ?_
          rintro e w8 ⟨rfl, hb8⟩
          obtain ⟨c8, f8⟩ := bcell hb8
          have s8 := hb8.size
          simp at s8
          have y8 : w2.heap.size + 1 < w8.heap.size := by omega
          have y8x : w.heap.size < w8.heap.size := by omega
          have hk := bel_in (w := wr) (w' := w8) (B := wr.heap.size) (by repeat (first | (with_reducible exact Below.refl _ _) | (with_reducible refine bw_set ?_ ?_ _) | (with_reducible apply bw_alloc) | (with_reducible refine bw_tr ?_ (by with_reducible assumption)) | (with_reducible apply bw_drew) | omega)) ltx HX.out
          have HK := Lib.hid hk
          clear hk
          try clear hsg hbi hbj
          have hh0 : decHit word op = (encE (decI op word) == 0 && encV (decI op word) == (word : Int)) := rfl
          cases hh1 : (encE (decI op word) == 0) <;> cases hh2 : (encV (decI op word) == (word : Int))
          all_goals
            rw [hh1, hh2] at hh0
            have HH := Lib.hid hh0
            clear hh0
            generalize encE (decI op word) = ee at *
            generalize encV (decI op word) = ev at *
            go_wp2_with fail
            first
              | (refine ⟨⟨op + 1, by omega, by omega, by go_num, fun o h1 h2 => ?_, HK.out, (by repeat (first | (with_reducible exact Below.refl _ _) | (with_reducible refine bw_set ?_ ?_ _) | (with_reducible apply bw_alloc) | (with_reducible refine bw_tr ?_ (by with_reducible assumption)) | (with_reducible apply bw_drew) | omega))⟩, by simp [intOf]; omega⟩; by_cases ho : o = op; (subst ho; exact HH.out); (exact HNO.out o h1 (by omega)))
              | ((try simp only [Exit.inBlock, Exit.then]); have k0 : w8.cell? ⟨w.heap.size, 0, none⟩ = some (.int .i64 0) := cell_in HK.out rfl; have k1 : w8.cell? ⟨w.heap.size, 1, none⟩ = some (.int .i64 0) := cell_in HK.out rfl; have k2 : w8.cell? ⟨w.heap.size, 2, none⟩ = some (.int .i64 0) := cell_in HK.out rfl; have k3 : w8.cell? ⟨w.heap.size, 3, none⟩ = some (.int .i64 0) := cell_in HK.out rfl; have k4 : w8.cell? ⟨w.heap.size, 4, none⟩ = some (.int .i64 0) := cell_in HK.out rfl; obtain ⟨d1, d2⟩ := dec_hit (by omega) HH.out HNO.out; rw [HDD.out] at d1; refine bodyPost_ret (v := .tuple #[insV ⟨op, 0, ((fieldN word 15 5 : Nat) : Int), ((fieldN word 20 5 : Nat) : Int), (bn : Int) - 4096⟩, .int .i64 0]) (by simp [results, Try.results26, go_sem, insV, k0, k1, k2, k3, k4]) rfl ⟨by rw [d1, d2], (by repeat (first | (with_reducible exact Below.refl _ _) | (with_reducible refine bw_set ?_ ?_ _) | (with_reducible apply bw_alloc) | (with_reducible refine bw_tr ?_ (by with_reducible assumption)) | (with_reducible apply bw_drew) | omega))⟩)
      by_cases hf66 : f = 66
      · subst hf66
        rw [show shapeT 66 = ⟨false, true, true, -4096, 4094, 2⟩ from rfl]
        unfold shV
        go_wp2_with fail
        refine (back_any 66 word _ hw).mono ?_
        rw [show backMax (numP 66 0) = 13 from rfl]
        have hbl := backFold_lt word (numP 66 0) (num_okQ 66 0)
        have HD1 := Lib.hid (show decR 66 op word = ⟨op, 0, ((fieldN word 15 5 : Nat) : Int), ((fieldN word 20 5 : Nat) : Int), signN (-4096) (backFold word (numP 66 0)) 13⟩ from rfl)
        generalize backFold word (numP 66 0) = bn at *
        have hbi : (0 : Int) ≤ (bn : Int) := by omega
        have hbj : (bn : Int) < 4294967296 := by omega
        cases hsg : ((bn : Int) / 4096 != 0)
        case false =>
          have HDD : Hid (decI op word = ⟨op, 0, ((fieldN word 15 5 : Nat) : Int), ((fieldN word 20 5 : Nat) : Int), (bn : Int)⟩) := by
            rw [HD.out, HD1.out]
            have : signN (-4096) bn 13 = (bn : Int) := by unfold signN; rw [if_neg]; simp at hsg ⊢; omega
            rw [this]; exact rfl
          rintro e w3 ⟨rfl, hb3⟩
          obtain ⟨c3, f3⟩ := bcell hb3
          have z3 : w2.heap.size + 1 < w3.heap.size := by have := hb3.size; simp at this; omega
          have z3x : w.heap.size < w3.heap.size := by omega
          have z3y : w1.heap.size < w3.heap.size := by omega
          have z3z : w2.heap.size < w3.heap.size := by omega
          go_wp2_with (go_at_call 47; (first | ((with_reducible refine (field_7 word _ hw).mono ?_); rintro e w5 ⟨rfl, hb5⟩; obtain ⟨c5, f5⟩ := bcell hb5; have s5 := hb5.size; simp at s5; have y5 : w2.heap.size + 1 < w5.heap.size := (by omega); have y5x : w.heap.size < w5.heap.size := (by omega); have y5y : w1.heap.size < w5.heap.size := (by omega); have y5z : w2.heap.size < w5.heap.size := (by omega)) | ((with_reducible refine (field_15 word _ hw).mono ?_); rintro e w6 ⟨rfl, hb6⟩; obtain ⟨c6, f6⟩ := bcell hb6; have s6 := hb6.size; simp at s6; have y6 : w2.heap.size + 1 < w6.heap.size := (by omega); have y6x : w.heap.size < w6.heap.size := (by omega); have y6y : w1.heap.size < w6.heap.size := (by omega); have y6z : w2.heap.size < w6.heap.size := (by omega)) | ((with_reducible refine (field_20 word _ hw).mono ?_); rintro e w7 ⟨rfl, hb7⟩; obtain ⟨c7, f7⟩ := bcell hb7; have s7 := hb7.size; simp at s7; have y7 : w2.heap.size + 1 < w7.heap.size := (by omega); have y7x : w.heap.size < w7.heap.size := (by omega); have y7y : w1.heap.size < w7.heap.size := (by omega); have y7z : w2.heap.size < w7.heap.size := (by omega))))
          refine (encode_at _ (decI op word) _ (by rw [HDD.out]; rfl)).mono ?_
          rintro e w8 ⟨rfl, hb8⟩
          obtain ⟨c8, f8⟩ := bcell hb8
          have s8 := hb8.size
          simp at s8
          have y8 : w2.heap.size + 1 < w8.heap.size := by omega
          have y8x : w.heap.size < w8.heap.size := by omega
          have hk := bel_in (w := wr) (w' := w8) (B := wr.heap.size) (by repeat (first | (with_reducible exact Below.refl _ _) | (with_reducible refine bw_set ?_ ?_ _) | (with_reducible apply bw_alloc) | (with_reducible refine bw_tr ?_ (by with_reducible assumption)) | (with_reducible apply bw_drew) | omega)) ltx HX.out
          have HK := Lib.hid hk
          clear hk
          try clear hsg hbi hbj
          have hh0 : decHit word op = (encE (decI op word) == 0 && encV (decI op word) == (word : Int)) := rfl
          cases hh1 : (encE (decI op word) == 0) <;> cases hh2 : (encV (decI op word) == (word : Int))
          all_goals
            rw [hh1, hh2] at hh0
            have HH := Lib.hid hh0
            clear hh0
            generalize encE (decI op word) = ee at *
            generalize encV (decI op word) = ev at *
            go_wp2_with fail
            first
              | (refine ⟨⟨op + 1, by omega, by omega, by go_num, fun o h1 h2 => ?_, HK.out, (by repeat (first | (with_reducible exact Below.refl _ _) | (with_reducible refine bw_set ?_ ?_ _) | (with_reducible apply bw_alloc) | (with_reducible refine bw_tr ?_ (by with_reducible assumption)) | (with_reducible apply bw_drew) | omega))⟩, by simp [intOf]; omega⟩; by_cases ho : o = op; (subst ho; exact HH.out); (exact HNO.out o h1 (by omega)))
              | ((try simp only [Exit.inBlock, Exit.then]); have k0 : w8.cell? ⟨w.heap.size, 0, none⟩ = some (.int .i64 0) := cell_in HK.out rfl; have k1 : w8.cell? ⟨w.heap.size, 1, none⟩ = some (.int .i64 0) := cell_in HK.out rfl; have k2 : w8.cell? ⟨w.heap.size, 2, none⟩ = some (.int .i64 0) := cell_in HK.out rfl; have k3 : w8.cell? ⟨w.heap.size, 3, none⟩ = some (.int .i64 0) := cell_in HK.out rfl; have k4 : w8.cell? ⟨w.heap.size, 4, none⟩ = some (.int .i64 0) := cell_in HK.out rfl; obtain ⟨d1, d2⟩ := dec_hit (by omega) HH.out HNO.out; rw [HDD.out] at d1; refine bodyPost_ret (v := .tuple #[insV ⟨op, 0, ((fieldN word 15 5 : Nat) : Int), ((fieldN word 20 5 : Nat) : Int), (bn : Int)⟩, .int .i64 0]) (by simp [results, Try.results26, go_sem, insV, k0, k1, k2, k3, k4]) rfl ⟨by rw [d1, d2], (by repeat (first | (with_reducible exact Below.refl _ _) | (with_reducible refine bw_set ?_ ?_ _) | (with_reducible apply bw_alloc) | (with_reducible refine bw_tr ?_ (by with_reducible assumption)) | (with_reducible apply bw_drew) | omega))⟩)
        case true =>
          have HDD : Hid (decI op word = ⟨op, 0, ((fieldN word 15 5 : Nat) : Int), ((fieldN word 20 5 : Nat) : Int), (bn : Int) - 8192⟩) := by
            rw [HD.out, HD1.out]
            have : signN (-4096) bn 13 = (bn : Int) - 8192 := by unfold signN; rw [if_pos]; rfl; simp at hsg ⊢; omega
            rw [this]; exact rfl
          rintro e w3 ⟨rfl, hb3⟩
          obtain ⟨c3, f3⟩ := bcell hb3
          have z3 : w2.heap.size + 1 < w3.heap.size := by have := hb3.size; simp at this; omega
          have z3x : w.heap.size < w3.heap.size := by omega
          have z3y : w1.heap.size < w3.heap.size := by omega
          have z3z : w2.heap.size < w3.heap.size := by omega
          go_wp2_with (go_at_call 47; (first | ((with_reducible refine (field_7 word _ hw).mono ?_); rintro e w5 ⟨rfl, hb5⟩; obtain ⟨c5, f5⟩ := bcell hb5; have s5 := hb5.size; simp at s5; have y5 : w2.heap.size + 1 < w5.heap.size := (by omega); have y5x : w.heap.size < w5.heap.size := (by omega); have y5y : w1.heap.size < w5.heap.size := (by omega); have y5z : w2.heap.size < w5.heap.size := (by omega)) | ((with_reducible refine (field_15 word _ hw).mono ?_); rintro e w6 ⟨rfl, hb6⟩; obtain ⟨c6, f6⟩ := bcell hb6; have s6 := hb6.size; simp at s6; have y6 : w2.heap.size + 1 < w6.heap.size := (by omega); have y6x : w.heap.size < w6.heap.size := (by omega); have y6y : w1.heap.size < w6.heap.size := (by omega); have y6z : w2.heap.size < w6.heap.size := (by omega)) | ((with_reducible refine (field_20 word _ hw).mono ?_); rintro e w7 ⟨rfl, hb7⟩; obtain ⟨c7, f7⟩ := bcell hb7; have s7 := hb7.size; simp at s7; have y7 : w2.heap.size + 1 < w7.heap.size := (by omega); have y7x : w.heap.size < w7.heap.size := (by omega); have y7y : w1.heap.size < w7.heap.size := (by omega); have y7z : w2.heap.size < w7.heap.size := (by omega))))
          refine (encode_at _ (decI op word) _ (by rw [HDD.out]; rfl)).mono ?_
          rintro e w8 ⟨rfl, hb8⟩
          obtain ⟨c8, f8⟩ := bcell hb8
          have s8 := hb8.size
          simp at s8
          have y8 : w2.heap.size + 1 < w8.heap.size := by omega
          have y8x : w.heap.size < w8.heap.size := by omega
          have hk := bel_in (w := wr) (w' := w8) (B := wr.heap.size) (by repeat (first | (with_reducible exact Below.refl _ _) | (with_reducible refine bw_set ?_ ?_ _) | (with_reducible apply bw_alloc) | (with_reducible refine bw_tr ?_ (by with_reducible assumption)) | (with_reducible apply bw_drew) | omega)) ltx HX.out
          have HK := Lib.hid hk
          clear hk
          try clear hsg hbi hbj
          have hh0 : decHit word op = (encE (decI op word) == 0 && encV (decI op word) == (word : Int)) := rfl
          cases hh1 : (encE (decI op word) == 0) <;> cases hh2 : (encV (decI op word) == (word : Int))
          all_goals
            rw [hh1, hh2] at hh0
            have HH := Lib.hid hh0
            clear hh0
            generalize encE (decI op word) = ee at *
            generalize encV (decI op word) = ev at *
            go_wp2_with fail
            first
              | (refine ⟨⟨op + 1, by omega, by omega, by go_num, fun o h1 h2 => ?_, HK.out, (by repeat (first | (with_reducible exact Below.refl _ _) | (with_reducible refine bw_set ?_ ?_ _) | (with_reducible apply bw_alloc) | (with_reducible refine bw_tr ?_ (by with_reducible assumption)) | (with_reducible apply bw_drew) | omega))⟩, by simp [intOf]; omega⟩; by_cases ho : o = op; (subst ho; exact HH.out); (exact HNO.out o h1 (by omega)))
              | ((try simp only [Exit.inBlock, Exit.then]); have k0 : w8.cell? ⟨w.heap.size, 0, none⟩ = some (.int .i64 0) := cell_in HK.out rfl; have k1 : w8.cell? ⟨w.heap.size, 1, none⟩ = some (.int .i64 0) := cell_in HK.out rfl; have k2 : w8.cell? ⟨w.heap.size, 2, none⟩ = some (.int .i64 0) := cell_in HK.out rfl; have k3 : w8.cell? ⟨w.heap.size, 3, none⟩ = some (.int .i64 0) := cell_in HK.out rfl; have k4 : w8.cell? ⟨w.heap.size, 4, none⟩ = some (.int .i64 0) := cell_in HK.out rfl; obtain ⟨d1, d2⟩ := dec_hit (by omega) HH.out HNO.out; rw [HDD.out] at d1; refine bodyPost_ret (v := .tuple #[insV ⟨op, 0, ((fieldN word 15 5 : Nat) : Int), ((fieldN word 20 5 : Nat) : Int), (bn : Int) - 8192⟩, .int .i64 0]) (by simp [results, Try.results26, go_sem, insV, k0, k1, k2, k3, k4]) rfl ⟨by rw [d1, d2], (by repeat (first | (with_reducible exact Below.refl _ _) | (with_reducible refine bw_set ?_ ?_ _) | (with_reducible apply bw_alloc) | (with_reducible refine bw_tr ?_ (by with_reducible assumption)) | (with_reducible apply bw_drew) | omega))⟩)
      by_cases hf85 : f = 85
      · subst hf85
        rw [show shapeT 85 = ⟨true, false, false, 0, 1048575, 0⟩ from rfl]
        unfold shV
        go_wp2_with fail
        refine (back_any 85 word _ hw).mono ?_
        rw [show backMax (numP 85 0) = 20 from rfl]
        have hbl := backFold_lt word (numP 85 0) (num_okQ 85 0)
        have HD1 := Lib.hid (show decR 85 op word = ⟨op, ((fieldN word 7 5 : Nat) : Int), 0, 0, signN (0) (backFold word (numP 85 0)) 20⟩ from rfl)
        generalize backFold word (numP 85 0) = bn at *
        have HDD : Hid (decI op word = ⟨op, ((fieldN word 7 5 : Nat) : Int), 0, 0, (bn : Int)⟩) := by
          rw [HD.out, HD1.out]
          have : signN (0) bn 20 = (bn : Int) := by unfold signN; rw [if_neg]; simp
          rw [this]; exact rfl
        rintro e w3 ⟨rfl, hb3⟩
        obtain ⟨c3, f3⟩ := bcell hb3
        have z3 : w2.heap.size + 1 < w3.heap.size := by have := hb3.size; simp at this; omega
        have z3x : w.heap.size < w3.heap.size := by omega
        have z3y : w1.heap.size < w3.heap.size := by omega
        have z3z : w2.heap.size < w3.heap.size := by omega
        go_wp2_with (go_at_call 47; (first | ((with_reducible refine (field_7 word _ hw).mono ?_); rintro e w5 ⟨rfl, hb5⟩; obtain ⟨c5, f5⟩ := bcell hb5; have s5 := hb5.size; simp at s5; have y5 : w2.heap.size + 1 < w5.heap.size := (by omega); have y5x : w.heap.size < w5.heap.size := (by omega); have y5y : w1.heap.size < w5.heap.size := (by omega); have y5z : w2.heap.size < w5.heap.size := (by omega)) | ((with_reducible refine (field_15 word _ hw).mono ?_); rintro e w6 ⟨rfl, hb6⟩; obtain ⟨c6, f6⟩ := bcell hb6; have s6 := hb6.size; simp at s6; have y6 : w2.heap.size + 1 < w6.heap.size := (by omega); have y6x : w.heap.size < w6.heap.size := (by omega); have y6y : w1.heap.size < w6.heap.size := (by omega); have y6z : w2.heap.size < w6.heap.size := (by omega)) | ((with_reducible refine (field_20 word _ hw).mono ?_); rintro e w7 ⟨rfl, hb7⟩; obtain ⟨c7, f7⟩ := bcell hb7; have s7 := hb7.size; simp at s7; have y7 : w2.heap.size + 1 < w7.heap.size := (by omega); have y7x : w.heap.size < w7.heap.size := (by omega); have y7y : w1.heap.size < w7.heap.size := (by omega); have y7z : w2.heap.size < w7.heap.size := (by omega))))
        refine (encode_at _ (decI op word) _ (by rw [HDD.out]; rfl)).mono ?_
        rintro e w8 ⟨rfl, hb8⟩
        obtain ⟨c8, f8⟩ := bcell hb8
        have s8 := hb8.size
        simp at s8
        have y8 : w2.heap.size + 1 < w8.heap.size := by omega
        have y8x : w.heap.size < w8.heap.size := by omega
        have hk := bel_in (w := wr) (w' := w8) (B := wr.heap.size) (by repeat (first | (with_reducible exact Below.refl _ _) | (with_reducible refine bw_set ?_ ?_ _) | (with_reducible apply bw_alloc) | (with_reducible refine bw_tr ?_ (by with_reducible assumption)) | (with_reducible apply bw_drew) | omega)) ltx HX.out
        have HK := Lib.hid hk
        clear hk
        try clear hsg hbi hbj
        have hh0 : decHit word op = (encE (decI op word) == 0 && encV (decI op word) == (word : Int)) := rfl
        cases hh1 : (encE (decI op word) == 0) <;> cases hh2 : (encV (decI op word) == (word : Int))
        all_goals
          rw [hh1, hh2] at hh0
          have HH := Lib.hid hh0
          clear hh0
          generalize encE (decI op word) = ee at *
          generalize encV (decI op word) = ev at *
          go_wp2_with fail
          first
            | (refine ⟨⟨op + 1, by omega, by omega, by go_num, fun o h1 h2 => ?_, HK.out, (by repeat (first | (with_reducible exact Below.refl _ _) | (with_reducible refine bw_set ?_ ?_ _) | (with_reducible apply bw_alloc) | (with_reducible refine bw_tr ?_ (by with_reducible assumption)) | (with_reducible apply bw_drew) | omega))⟩, by simp [intOf]; omega⟩; by_cases ho : o = op; (subst ho; exact HH.out); (exact HNO.out o h1 (by omega)))
            | ((try simp only [Exit.inBlock, Exit.then]); have k0 : w8.cell? ⟨w.heap.size, 0, none⟩ = some (.int .i64 0) := cell_in HK.out rfl; have k1 : w8.cell? ⟨w.heap.size, 1, none⟩ = some (.int .i64 0) := cell_in HK.out rfl; have k2 : w8.cell? ⟨w.heap.size, 2, none⟩ = some (.int .i64 0) := cell_in HK.out rfl; have k3 : w8.cell? ⟨w.heap.size, 3, none⟩ = some (.int .i64 0) := cell_in HK.out rfl; have k4 : w8.cell? ⟨w.heap.size, 4, none⟩ = some (.int .i64 0) := cell_in HK.out rfl; obtain ⟨d1, d2⟩ := dec_hit (by omega) HH.out HNO.out; rw [HDD.out] at d1; refine bodyPost_ret (v := .tuple #[insV ⟨op, ((fieldN word 7 5 : Nat) : Int), 0, 0, (bn : Int)⟩, .int .i64 0]) (by simp [results, Try.results26, go_sem, insV, k0, k1, k2, k3, k4]) rfl ⟨by rw [d1, d2], (by repeat (first | (with_reducible exact Below.refl _ _) | (with_reducible refine bw_set ?_ ?_ _) | (with_reducible apply bw_alloc) | (with_reducible refine bw_tr ?_ (by with_reducible assumption)) | (with_reducible apply bw_drew) | omega))⟩)
      by_cases hf74 : f = 74
      · subst hf74
        rw [show shapeT 74 = ⟨true, false, false, -1048576, 1048574, 2⟩ from rfl]
        unfold shV
        go_wp2_with fail
        refine (back_any 74 word _ hw).mono ?_
        rw [show backMax (numP 74 0) = 21 from rfl]
        have hbl := backFold_lt word (numP 74 0) (num_okQ 74 0)
        have HD1 := Lib.hid (show decR 74 op word = ⟨op, ((fieldN word 7 5 : Nat) : Int), 0, 0, signN (-1048576) (backFold word (numP 74 0)) 21⟩ from rfl)
        generalize backFold word (numP 74 0) = bn at *
        have hbi : (0 : Int) ≤ (bn : Int) := by omega
        have hbj : (bn : Int) < 4294967296 := by omega
        cases hsg : ((bn : Int) / 1048576 != 0)
        case false =>
          have HDD : Hid (decI op word = ⟨op, ((fieldN word 7 5 : Nat) : Int), 0, 0, (bn : Int)⟩) := by
            rw [HD.out, HD1.out]
            have : signN (-1048576) bn 21 = (bn : Int) := by unfold signN; rw [if_neg]; simp at hsg ⊢; omega
            rw [this]; exact rfl
          rintro e w3 ⟨rfl, hb3⟩
          obtain ⟨c3, f3⟩ := bcell hb3
          have z3 : w2.heap.size + 1 < w3.heap.size := by have := hb3.size; simp at this; omega
          have z3x : w.heap.size < w3.heap.size := by omega
          have z3y : w1.heap.size < w3.heap.size := by omega
          have z3z : w2.heap.size < w3.heap.size := by omega
          go_wp2_with (go_at_call 47; (first | ((with_reducible refine (field_7 word _ hw).mono ?_); rintro e w5 ⟨rfl, hb5⟩; obtain ⟨c5, f5⟩ := bcell hb5; have s5 := hb5.size; simp at s5; have y5 : w2.heap.size + 1 < w5.heap.size := (by omega); have y5x : w.heap.size < w5.heap.size := (by omega); have y5y : w1.heap.size < w5.heap.size := (by omega); have y5z : w2.heap.size < w5.heap.size := (by omega)) | ((with_reducible refine (field_15 word _ hw).mono ?_); rintro e w6 ⟨rfl, hb6⟩; obtain ⟨c6, f6⟩ := bcell hb6; have s6 := hb6.size; simp at s6; have y6 : w2.heap.size + 1 < w6.heap.size := (by omega); have y6x : w.heap.size < w6.heap.size := (by omega); have y6y : w1.heap.size < w6.heap.size := (by omega); have y6z : w2.heap.size < w6.heap.size := (by omega)) | ((with_reducible refine (field_20 word _ hw).mono ?_); rintro e w7 ⟨rfl, hb7⟩; obtain ⟨c7, f7⟩ := bcell hb7; have s7 := hb7.size; simp at s7; have y7 : w2.heap.size + 1 < w7.heap.size := (by omega); have y7x : w.heap.size < w7.heap.size := (by omega); have y7y : w1.heap.size < w7.heap.size := (by omega); have y7z : w2.heap.size < w7.heap.size := (by omega))))
          refine (encode_at _ (decI op word) _ (by rw [HDD.out]; rfl)).mono ?_
          rintro e w8 ⟨rfl, hb8⟩
          obtain ⟨c8, f8⟩ := bcell hb8
          have s8 := hb8.size
          simp at s8
          have y8 : w2.heap.size + 1 < w8.heap.size := by omega
          have y8x : w.heap.size < w8.heap.size := by omega
          have hk := bel_in (w := wr) (w' := w8) (B := wr.heap.size) (by repeat (first | (with_reducible exact Below.refl _ _) | (with_reducible refine bw_set ?_ ?_ _) | (with_reducible apply bw_alloc) | (with_reducible refine bw_tr ?_ (by with_reducible assumption)) | (with_reducible apply bw_drew) | omega)) ltx HX.out
          have HK := Lib.hid hk
          clear hk
          try clear hsg hbi hbj
          have hh0 : decHit word op = (encE (decI op word) == 0 && encV (decI op word) == (word : Int)) := rfl
          cases hh1 : (encE (decI op word) == 0) <;> cases hh2 : (encV (decI op word) == (word : Int))
          all_goals
            rw [hh1, hh2] at hh0
            have HH := Lib.hid hh0
            clear hh0
            generalize encE (decI op word) = ee at *
            generalize encV (decI op word) = ev at *
            go_wp2_with fail
            first
              | (refine ⟨⟨op + 1, by omega, by omega, by go_num, fun o h1 h2 => ?_, HK.out, (by repeat (first | (with_reducible exact Below.refl _ _) | (with_reducible refine bw_set ?_ ?_ _) | (with_reducible apply bw_alloc) | (with_reducible refine bw_tr ?_ (by with_reducible assumption)) | (with_reducible apply bw_drew) | omega))⟩, by simp [intOf]; omega⟩; by_cases ho : o = op; (subst ho; exact HH.out); (exact HNO.out o h1 (by omega)))
              | ((try simp only [Exit.inBlock, Exit.then]); have k0 : w8.cell? ⟨w.heap.size, 0, none⟩ = some (.int .i64 0) := cell_in HK.out rfl; have k1 : w8.cell? ⟨w.heap.size, 1, none⟩ = some (.int .i64 0) := cell_in HK.out rfl; have k2 : w8.cell? ⟨w.heap.size, 2, none⟩ = some (.int .i64 0) := cell_in HK.out rfl; have k3 : w8.cell? ⟨w.heap.size, 3, none⟩ = some (.int .i64 0) := cell_in HK.out rfl; have k4 : w8.cell? ⟨w.heap.size, 4, none⟩ = some (.int .i64 0) := cell_in HK.out rfl; obtain ⟨d1, d2⟩ := dec_hit (by omega) HH.out HNO.out; rw [HDD.out] at d1; refine bodyPost_ret (v := .tuple #[insV ⟨op, ((fieldN word 7 5 : Nat) : Int), 0, 0, (bn : Int)⟩, .int .i64 0]) (by simp [results, Try.results26, go_sem, insV, k0, k1, k2, k3, k4]) rfl ⟨by rw [d1, d2], (by repeat (first | (with_reducible exact Below.refl _ _) | (with_reducible refine bw_set ?_ ?_ _) | (with_reducible apply bw_alloc) | (with_reducible refine bw_tr ?_ (by with_reducible assumption)) | (with_reducible apply bw_drew) | omega))⟩)
        case true =>
          have HDD : Hid (decI op word = ⟨op, ((fieldN word 7 5 : Nat) : Int), 0, 0, (bn : Int) - 2097152⟩) := by
            rw [HD.out, HD1.out]
            have : signN (-1048576) bn 21 = (bn : Int) - 2097152 := by unfold signN; rw [if_pos]; rfl; simp at hsg ⊢; omega
            rw [this]; exact rfl
          rintro e w3 ⟨rfl, hb3⟩
          obtain ⟨c3, f3⟩ := bcell hb3
          have z3 : w2.heap.size + 1 < w3.heap.size := by have := hb3.size; simp at this; omega
          have z3x : w.heap.size < w3.heap.size := by omega
          have z3y : w1.heap.size < w3.heap.size := by omega
          have z3z : w2.heap.size < w3.heap.size := by omega
          go_wp2_with (go_at_call 47; (first | ((with_reducible refine (field_7 word _ hw).mono ?_); rintro e w5 ⟨rfl, hb5⟩; obtain ⟨c5, f5⟩ := bcell hb5; have s5 := hb5.size; simp at s5; have y5 : w2.heap.size + 1 < w5.heap.size := (by omega); have y5x : w.heap.size < w5.heap.size := (by omega); have y5y : w1.heap.size < w5.heap.size := (by omega); have y5z : w2.heap.size < w5.heap.size := (by omega)) | ((with_reducible refine (field_15 word _ hw).mono ?_); rintro e w6 ⟨rfl, hb6⟩; obtain ⟨c6, f6⟩ := bcell hb6; have s6 := hb6.size; simp at s6; have y6 : w2.heap.size + 1 < w6.heap.size := (by omega); have y6x : w.heap.size < w6.heap.size := (by omega); have y6y : w1.heap.size < w6.heap.size := (by omega); have y6z : w2.heap.size < w6.heap.size := (by omega)) | ((with_reducible refine (field_20 word _ hw).mono ?_); rintro e w7 ⟨rfl, hb7⟩; obtain ⟨c7, f7⟩ := bcell hb7; have s7 := hb7.size; simp at s7; have y7 : w2.heap.size + 1 < w7.heap.size := (by omega); have y7x : w.heap.size < w7.heap.size := (by omega); have y7y : w1.heap.size < w7.heap.size := (by omega); have y7z : w2.heap.size < w7.heap.size := (by omega))))
          refine (encode_at _ (decI op word) _ (by rw [HDD.out]; rfl)).mono ?_
          rintro e w8 ⟨rfl, hb8⟩
          obtain ⟨c8, f8⟩ := bcell hb8
          have s8 := hb8.size
          simp at s8
          have y8 : w2.heap.size + 1 < w8.heap.size := by omega
          have y8x : w.heap.size < w8.heap.size := by omega
          have hk := bel_in (w := wr) (w' := w8) (B := wr.heap.size) (by repeat (first | (with_reducible exact Below.refl _ _) | (with_reducible refine bw_set ?_ ?_ _) | (with_reducible apply bw_alloc) | (with_reducible refine bw_tr ?_ (by with_reducible assumption)) | (with_reducible apply bw_drew) | omega)) ltx HX.out
          have HK := Lib.hid hk
          clear hk
          try clear hsg hbi hbj
          have hh0 : decHit word op = (encE (decI op word) == 0 && encV (decI op word) == (word : Int)) := rfl
          cases hh1 : (encE (decI op word) == 0) <;> cases hh2 : (encV (decI op word) == (word : Int))
          all_goals
            rw [hh1, hh2] at hh0
            have HH := Lib.hid hh0
            clear hh0
            generalize encE (decI op word) = ee at *
            generalize encV (decI op word) = ev at *
            go_wp2_with fail
            first
              | (refine ⟨⟨op + 1, by omega, by omega, by go_num, fun o h1 h2 => ?_, HK.out, (by repeat (first | (with_reducible exact Below.refl _ _) | (with_reducible refine bw_set ?_ ?_ _) | (with_reducible apply bw_alloc) | (with_reducible refine bw_tr ?_ (by with_reducible assumption)) | (with_reducible apply bw_drew) | omega))⟩, by simp [intOf]; omega⟩; by_cases ho : o = op; (subst ho; exact HH.out); (exact HNO.out o h1 (by omega)))
              | ((try simp only [Exit.inBlock, Exit.then]); have k0 : w8.cell? ⟨w.heap.size, 0, none⟩ = some (.int .i64 0) := cell_in HK.out rfl; have k1 : w8.cell? ⟨w.heap.size, 1, none⟩ = some (.int .i64 0) := cell_in HK.out rfl; have k2 : w8.cell? ⟨w.heap.size, 2, none⟩ = some (.int .i64 0) := cell_in HK.out rfl; have k3 : w8.cell? ⟨w.heap.size, 3, none⟩ = some (.int .i64 0) := cell_in HK.out rfl; have k4 : w8.cell? ⟨w.heap.size, 4, none⟩ = some (.int .i64 0) := cell_in HK.out rfl; obtain ⟨d1, d2⟩ := dec_hit (by omega) HH.out HNO.out; rw [HDD.out] at d1; refine bodyPost_ret (v := .tuple #[insV ⟨op, ((fieldN word 7 5 : Nat) : Int), 0, 0, (bn : Int) - 2097152⟩, .int .i64 0]) (by simp [results, Try.results26, go_sem, insV, k0, k1, k2, k3, k4]) rfl ⟨by rw [d1, d2], (by repeat (first | (with_reducible exact Below.refl _ _) | (with_reducible refine bw_set ?_ ?_ _) | (with_reducible apply bw_alloc) | (with_reducible refine bw_tr ?_ (by with_reducible assumption)) | (with_reducible apply bw_drew) | omega))⟩)
      by_cases hf70 : f = 70
      · subst hf70
        rw [show shapeT 70 = ⟨false, false, false, 0, 255, 0⟩ from rfl]
        unfold shV
        go_wp2_with fail
        refine (back_any 70 word _ hw).mono ?_
        rw [show backMax (numP 70 0) = 8 from rfl]
        have hbl := backFold_lt word (numP 70 0) (num_okQ 70 0)
        have HD1 := Lib.hid (show decR 70 op word = ⟨op, 0, 0, 0, signN (0) (backFold word (numP 70 0)) 8⟩ from rfl)
        generalize backFold word (numP 70 0) = bn at *
        have HDD : Hid (decI op word = ⟨op, 0, 0, 0, (bn : Int)⟩) := by
          rw [HD.out, HD1.out]
          have : signN (0) bn 8 = (bn : Int) := by unfold signN; rw [if_neg]; simp
          rw [this]; exact rfl
        rintro e w3 ⟨rfl, hb3⟩
        obtain ⟨c3, f3⟩ := bcell hb3
        have z3 : w2.heap.size + 1 < w3.heap.size := by have := hb3.size; simp at this; omega
        have z3x : w.heap.size < w3.heap.size := by omega
        have z3y : w1.heap.size < w3.heap.size := by omega
        have z3z : w2.heap.size < w3.heap.size := by omega
        go_wp2_with (go_at_call 47; (first | ((with_reducible refine (field_7 word _ hw).mono ?_); rintro e w5 ⟨rfl, hb5⟩; obtain ⟨c5, f5⟩ := bcell hb5; have s5 := hb5.size; simp at s5; have y5 : w2.heap.size + 1 < w5.heap.size := (by omega); have y5x : w.heap.size < w5.heap.size := (by omega); have y5y : w1.heap.size < w5.heap.size := (by omega); have y5z : w2.heap.size < w5.heap.size := (by omega)) | ((with_reducible refine (field_15 word _ hw).mono ?_); rintro e w6 ⟨rfl, hb6⟩; obtain ⟨c6, f6⟩ := bcell hb6; have s6 := hb6.size; simp at s6; have y6 : w2.heap.size + 1 < w6.heap.size := (by omega); have y6x : w.heap.size < w6.heap.size := (by omega); have y6y : w1.heap.size < w6.heap.size := (by omega); have y6z : w2.heap.size < w6.heap.size := (by omega)) | ((with_reducible refine (field_20 word _ hw).mono ?_); rintro e w7 ⟨rfl, hb7⟩; obtain ⟨c7, f7⟩ := bcell hb7; have s7 := hb7.size; simp at s7; have y7 : w2.heap.size + 1 < w7.heap.size := (by omega); have y7x : w.heap.size < w7.heap.size := (by omega); have y7y : w1.heap.size < w7.heap.size := (by omega); have y7z : w2.heap.size < w7.heap.size := (by omega))))
        refine (encode_at _ (decI op word) _ (by rw [HDD.out]; rfl)).mono ?_
        rintro e w8 ⟨rfl, hb8⟩
        obtain ⟨c8, f8⟩ := bcell hb8
        have s8 := hb8.size
        simp at s8
        have y8 : w2.heap.size + 1 < w8.heap.size := by omega
        have y8x : w.heap.size < w8.heap.size := by omega
        have hk := bel_in (w := wr) (w' := w8) (B := wr.heap.size) (by repeat (first | (with_reducible exact Below.refl _ _) | (with_reducible refine bw_set ?_ ?_ _) | (with_reducible apply bw_alloc) | (with_reducible refine bw_tr ?_ (by with_reducible assumption)) | (with_reducible apply bw_drew) | omega)) ltx HX.out
        have HK := Lib.hid hk
        clear hk
        try clear hsg hbi hbj
        have hh0 : decHit word op = (encE (decI op word) == 0 && encV (decI op word) == (word : Int)) := rfl
        cases hh1 : (encE (decI op word) == 0) <;> cases hh2 : (encV (decI op word) == (word : Int))
        all_goals
          rw [hh1, hh2] at hh0
          have HH := Lib.hid hh0
          clear hh0
          generalize encE (decI op word) = ee at *
          generalize encV (decI op word) = ev at *
          go_wp2_with fail
          first
            | (refine ⟨⟨op + 1, by omega, by omega, by go_num, fun o h1 h2 => ?_, HK.out, (by repeat (first | (with_reducible exact Below.refl _ _) | (with_reducible refine bw_set ?_ ?_ _) | (with_reducible apply bw_alloc) | (with_reducible refine bw_tr ?_ (by with_reducible assumption)) | (with_reducible apply bw_drew) | omega))⟩, by simp [intOf]; omega⟩; by_cases ho : o = op; (subst ho; exact HH.out); (exact HNO.out o h1 (by omega)))
            | ((try simp only [Exit.inBlock, Exit.then]); have k0 : w8.cell? ⟨w.heap.size, 0, none⟩ = some (.int .i64 0) := cell_in HK.out rfl; have k1 : w8.cell? ⟨w.heap.size, 1, none⟩ = some (.int .i64 0) := cell_in HK.out rfl; have k2 : w8.cell? ⟨w.heap.size, 2, none⟩ = some (.int .i64 0) := cell_in HK.out rfl; have k3 : w8.cell? ⟨w.heap.size, 3, none⟩ = some (.int .i64 0) := cell_in HK.out rfl; have k4 : w8.cell? ⟨w.heap.size, 4, none⟩ = some (.int .i64 0) := cell_in HK.out rfl; obtain ⟨d1, d2⟩ := dec_hit (by omega) HH.out HNO.out; rw [HDD.out] at d1; refine bodyPost_ret (v := .tuple #[insV ⟨op, 0, 0, 0, (bn : Int)⟩, .int .i64 0]) (by simp [results, Try.results26, go_sem, insV, k0, k1, k2, k3, k4]) rfl ⟨by rw [d1, d2], (by repeat (first | (with_reducible exact Below.refl _ _) | (with_reducible refine bw_set ?_ ?_ _) | (with_reducible apply bw_alloc) | (with_reducible refine bw_tr ?_ (by with_reducible assumption)) | (with_reducible apply bw_drew) | omega))⟩)
      by_cases hf67 : f = 67
      · subst hf67
        rw [show shapeT 67 = ⟨true, true, false, 0, 4095, 0⟩ from rfl]
        unfold shV
        go_wp2_with fail
        refine (back_any 67 word _ hw).mono ?_
        rw [show backMax (numP 67 0) = 12 from rfl]
        have hbl := backFold_lt word (numP 67 0) (num_okQ 67 0)
        have HD1 := Lib.hid (show decR 67 op word = ⟨op, ((fieldN word 7 5 : Nat) : Int), ((fieldN word 15 5 : Nat) : Int), 0, signN (0) (backFold word (numP 67 0)) 12⟩ from rfl)
        generalize backFold word (numP 67 0) = bn at *
        have HDD : Hid (decI op word = ⟨op, ((fieldN word 7 5 : Nat) : Int), ((fieldN word 15 5 : Nat) : Int), 0, (bn : Int)⟩) := by
          rw [HD.out, HD1.out]
          have : signN (0) bn 12 = (bn : Int) := by unfold signN; rw [if_neg]; simp
          rw [this]; exact rfl
        rintro e w3 ⟨rfl, hb3⟩
        obtain ⟨c3, f3⟩ := bcell hb3
        have z3 : w2.heap.size + 1 < w3.heap.size := by have := hb3.size; simp at this; omega
        have z3x : w.heap.size < w3.heap.size := by omega
        have z3y : w1.heap.size < w3.heap.size := by omega
        have z3z : w2.heap.size < w3.heap.size := by omega
        go_wp2_with (go_at_call 47; (first | ((with_reducible refine (field_7 word _ hw).mono ?_); rintro e w5 ⟨rfl, hb5⟩; obtain ⟨c5, f5⟩ := bcell hb5; have s5 := hb5.size; simp at s5; have y5 : w2.heap.size + 1 < w5.heap.size := (by omega); have y5x : w.heap.size < w5.heap.size := (by omega); have y5y : w1.heap.size < w5.heap.size := (by omega); have y5z : w2.heap.size < w5.heap.size := (by omega)) | ((with_reducible refine (field_15 word _ hw).mono ?_); rintro e w6 ⟨rfl, hb6⟩; obtain ⟨c6, f6⟩ := bcell hb6; have s6 := hb6.size; simp at s6; have y6 : w2.heap.size + 1 < w6.heap.size := (by omega); have y6x : w.heap.size < w6.heap.size := (by omega); have y6y : w1.heap.size < w6.heap.size := (by omega); have y6z : w2.heap.size < w6.heap.size := (by omega)) | ((with_reducible refine (field_20 word _ hw).mono ?_); rintro e w7 ⟨rfl, hb7⟩; obtain ⟨c7, f7⟩ := bcell hb7; have s7 := hb7.size; simp at s7; have y7 : w2.heap.size + 1 < w7.heap.size := (by omega); have y7x : w.heap.size < w7.heap.size := (by omega); have y7y : w1.heap.size < w7.heap.size := (by omega); have y7z : w2.heap.size < w7.heap.size := (by omega))))
        refine (encode_at _ (decI op word) _ (by rw [HDD.out]; rfl)).mono ?_
        rintro e w8 ⟨rfl, hb8⟩
        obtain ⟨c8, f8⟩ := bcell hb8
        have s8 := hb8.size
        simp at s8
        have y8 : w2.heap.size + 1 < w8.heap.size := by omega
        have y8x : w.heap.size < w8.heap.size := by omega
        have hk := bel_in (w := wr) (w' := w8) (B := wr.heap.size) (by repeat (first | (with_reducible exact Below.refl _ _) | (with_reducible refine bw_set ?_ ?_ _) | (with_reducible apply bw_alloc) | (with_reducible refine bw_tr ?_ (by with_reducible assumption)) | (with_reducible apply bw_drew) | omega)) ltx HX.out
        have HK := Lib.hid hk
        clear hk
        try clear hsg hbi hbj
        have hh0 : decHit word op = (encE (decI op word) == 0 && encV (decI op word) == (word : Int)) := rfl
        cases hh1 : (encE (decI op word) == 0) <;> cases hh2 : (encV (decI op word) == (word : Int))
        all_goals
          rw [hh1, hh2] at hh0
          have HH := Lib.hid hh0
          clear hh0
          generalize encE (decI op word) = ee at *
          generalize encV (decI op word) = ev at *
          go_wp2_with fail
          first
            | (refine ⟨⟨op + 1, by omega, by omega, by go_num, fun o h1 h2 => ?_, HK.out, (by repeat (first | (with_reducible exact Below.refl _ _) | (with_reducible refine bw_set ?_ ?_ _) | (with_reducible apply bw_alloc) | (with_reducible refine bw_tr ?_ (by with_reducible assumption)) | (with_reducible apply bw_drew) | omega))⟩, by simp [intOf]; omega⟩; by_cases ho : o = op; (subst ho; exact HH.out); (exact HNO.out o h1 (by omega)))
            | ((try simp only [Exit.inBlock, Exit.then]); have k0 : w8.cell? ⟨w.heap.size, 0, none⟩ = some (.int .i64 0) := cell_in HK.out rfl; have k1 : w8.cell? ⟨w.heap.size, 1, none⟩ = some (.int .i64 0) := cell_in HK.out rfl; have k2 : w8.cell? ⟨w.heap.size, 2, none⟩ = some (.int .i64 0) := cell_in HK.out rfl; have k3 : w8.cell? ⟨w.heap.size, 3, none⟩ = some (.int .i64 0) := cell_in HK.out rfl; have k4 : w8.cell? ⟨w.heap.size, 4, none⟩ = some (.int .i64 0) := cell_in HK.out rfl; obtain ⟨d1, d2⟩ := dec_hit (by omega) HH.out HNO.out; rw [HDD.out] at d1; refine bodyPost_ret (v := .tuple #[insV ⟨op, ((fieldN word 7 5 : Nat) : Int), ((fieldN word 15 5 : Nat) : Int), 0, (bn : Int)⟩, .int .i64 0]) (by simp [results, Try.results26, go_sem, insV, k0, k1, k2, k3, k4]) rfl ⟨by rw [d1, d2], (by repeat (first | (with_reducible exact Below.refl _ _) | (with_reducible refine bw_set ?_ ?_ _) | (with_reducible apply bw_alloc) | (with_reducible refine bw_tr ?_ (by with_reducible assumption)) | (with_reducible apply bw_drew) | omega))⟩)
      by_cases hf76 : f = 76
      · subst hf76
        rw [show shapeT 76 = ⟨true, true, false, 0, 3, 0⟩ from rfl]
        unfold shV
        go_wp2_with fail
        refine (back_any 76 word _ hw).mono ?_
        rw [show backMax (numP 76 0) = 2 from rfl]
        have hbl := backFold_lt word (numP 76 0) (num_okQ 76 0)
        have HD1 := Lib.hid (show decR 76 op word = ⟨op, ((fieldN word 7 5 : Nat) : Int), ((fieldN word 15 5 : Nat) : Int), 0, signN (0) (backFold word (numP 76 0)) 2⟩ from rfl)
        generalize backFold word (numP 76 0) = bn at *
        have HDD : Hid (decI op word = ⟨op, ((fieldN word 7 5 : Nat) : Int), ((fieldN word 15 5 : Nat) : Int), 0, (bn : Int)⟩) := by
          rw [HD.out, HD1.out]
          have : signN (0) bn 2 = (bn : Int) := by unfold signN; rw [if_neg]; simp
          rw [this]; exact rfl
        rintro e w3 ⟨rfl, hb3⟩
        obtain ⟨c3, f3⟩ := bcell hb3
        have z3 : w2.heap.size + 1 < w3.heap.size := by have := hb3.size; simp at this; omega
        have z3x : w.heap.size < w3.heap.size := by omega
        have z3y : w1.heap.size < w3.heap.size := by omega
        have z3z : w2.heap.size < w3.heap.size := by omega
        go_wp2_with (go_at_call 47; (first | ((with_reducible refine (field_7 word _ hw).mono ?_); rintro e w5 ⟨rfl, hb5⟩; obtain ⟨c5, f5⟩ := bcell hb5; have s5 := hb5.size; simp at s5; have y5 : w2.heap.size + 1 < w5.heap.size := (by omega); have y5x : w.heap.size < w5.heap.size := (by omega); have y5y : w1.heap.size < w5.heap.size := (by omega); have y5z : w2.heap.size < w5.heap.size := (by omega)) | ((with_reducible refine (field_15 word _ hw).mono ?_); rintro e w6 ⟨rfl, hb6⟩; obtain ⟨c6, f6⟩ := bcell hb6; have s6 := hb6.size; simp at s6; have y6 : w2.heap.size + 1 < w6.heap.size := (by omega); have y6x : w.heap.size < w6.heap.size := (by omega); have y6y : w1.heap.size < w6.heap.size := (by omega); have y6z : w2.heap.size < w6.heap.size := (by omega)) | ((with_reducible refine (field_20 word _ hw).mono ?_); rintro e w7 ⟨rfl, hb7⟩; obtain ⟨c7, f7⟩ := bcell hb7; have s7 := hb7.size; simp at s7; have y7 : w2.heap.size + 1 < w7.heap.size := (by omega); have y7x : w.heap.size < w7.heap.size := (by omega); have y7y : w1.heap.size < w7.heap.size := (by omega); have y7z : w2.heap.size < w7.heap.size := (by omega))))
        refine (encode_at _ (decI op word) _ (by rw [HDD.out]; rfl)).mono ?_
        rintro e w8 ⟨rfl, hb8⟩
        obtain ⟨c8, f8⟩ := bcell hb8
        have s8 := hb8.size
        simp at s8
        have y8 : w2.heap.size + 1 < w8.heap.size := by omega
        have y8x : w.heap.size < w8.heap.size := by omega
        have hk := bel_in (w := wr) (w' := w8) (B := wr.heap.size) (by repeat (first | (with_reducible exact Below.refl _ _) | (with_reducible refine bw_set ?_ ?_ _) | (with_reducible apply bw_alloc) | (with_reducible refine bw_tr ?_ (by with_reducible assumption)) | (with_reducible apply bw_drew) | omega)) ltx HX.out
        have HK := Lib.hid hk
        clear hk
        try clear hsg hbi hbj
        have hh0 : decHit word op = (encE (decI op word) == 0 && encV (decI op word) == (word : Int)) := rfl
        cases hh1 : (encE (decI op word) == 0) <;> cases hh2 : (encV (decI op word) == (word : Int))
        all_goals
          rw [hh1, hh2] at hh0
          have HH := Lib.hid hh0
          clear hh0
          generalize encE (decI op word) = ee at *
          generalize encV (decI op word) = ev at *
          go_wp2_with fail
          first
            | (refine ⟨⟨op + 1, by omega, by omega, by go_num, fun o h1 h2 => ?_, HK.out, (by repeat (first | (with_reducible exact Below.refl _ _) | (with_reducible refine bw_set ?_ ?_ _) | (with_reducible apply bw_alloc) | (with_reducible refine bw_tr ?_ (by with_reducible assumption)) | (with_reducible apply bw_drew) | omega))⟩, by simp [intOf]; omega⟩; by_cases ho : o = op; (subst ho; exact HH.out); (exact HNO.out o h1 (by omega)))
            | ((try simp only [Exit.inBlock, Exit.then]); have k0 : w8.cell? ⟨w.heap.size, 0, none⟩ = some (.int .i64 0) := cell_in HK.out rfl; have k1 : w8.cell? ⟨w.heap.size, 1, none⟩ = some (.int .i64 0) := cell_in HK.out rfl; have k2 : w8.cell? ⟨w.heap.size, 2, none⟩ = some (.int .i64 0) := cell_in HK.out rfl; have k3 : w8.cell? ⟨w.heap.size, 3, none⟩ = some (.int .i64 0) := cell_in HK.out rfl; have k4 : w8.cell? ⟨w.heap.size, 4, none⟩ = some (.int .i64 0) := cell_in HK.out rfl; obtain ⟨d1, d2⟩ := dec_hit (by omega) HH.out HNO.out; rw [HDD.out] at d1; refine bodyPost_ret (v := .tuple #[insV ⟨op, ((fieldN word 7 5 : Nat) : Int), ((fieldN word 15 5 : Nat) : Int), 0, (bn : Int)⟩, .int .i64 0]) (by simp [results, Try.results26, go_sem, insV, k0, k1, k2, k3, k4]) rfl ⟨by rw [d1, d2], (by repeat (first | (with_reducible exact Below.refl _ _) | (with_reducible refine bw_set ?_ ?_ _) | (with_reducible apply bw_alloc) | (with_reducible refine bw_tr ?_ (by with_reducible assumption)) | (with_reducible apply bw_drew) | omega))⟩)
      by_cases hf65 : f = 65
      · subst hf65
        rw [show shapeT 65 = ⟨true, true, true, 0, 3, 0⟩ from rfl]
        unfold shV
        go_wp2_with fail
        refine (back_any 65 word _ hw).mono ?_
        rw [show backMax (numP 65 0) = 2 from rfl]
        have hbl := backFold_lt word (numP 65 0) (num_okQ 65 0)
        have HD1 := Lib.hid (show decR 65 op word = ⟨op, ((fieldN word 7 5 : Nat) : Int), ((fieldN word 15 5 : Nat) : Int), ((fieldN word 20 5 : Nat) : Int), signN (0) (backFold word (numP 65 0)) 2⟩ from rfl)
        generalize backFold word (numP 65 0) = bn at *
        have HDD : Hid (decI op word = ⟨op, ((fieldN word 7 5 : Nat) : Int), ((fieldN word 15 5 : Nat) : Int), ((fieldN word 20 5 : Nat) : Int), (bn : Int)⟩) := by
          rw [HD.out, HD1.out]
          have : signN (0) bn 2 = (bn : Int) := by unfold signN; rw [if_neg]; simp
          rw [this]; exact rfl
        rintro e w3 ⟨rfl, hb3⟩
        obtain ⟨c3, f3⟩ := bcell hb3
        have z3 : w2.heap.size + 1 < w3.heap.size := by have := hb3.size; simp at this; omega
        have z3x : w.heap.size < w3.heap.size := by omega
        have z3y : w1.heap.size < w3.heap.size := by omega
        have z3z : w2.heap.size < w3.heap.size := by omega
        go_wp2_with (go_at_call 47; (first | ((with_reducible refine (field_7 word _ hw).mono ?_); rintro e w5 ⟨rfl, hb5⟩; obtain ⟨c5, f5⟩ := bcell hb5; have s5 := hb5.size; simp at s5; have y5 : w2.heap.size + 1 < w5.heap.size := (by omega); have y5x : w.heap.size < w5.heap.size := (by omega); have y5y : w1.heap.size < w5.heap.size := (by omega); have y5z : w2.heap.size < w5.heap.size := (by omega)) | ((with_reducible refine (field_15 word _ hw).mono ?_); rintro e w6 ⟨rfl, hb6⟩; obtain ⟨c6, f6⟩ := bcell hb6; have s6 := hb6.size; simp at s6; have y6 : w2.heap.size + 1 < w6.heap.size := (by omega); have y6x : w.heap.size < w6.heap.size := (by omega); have y6y : w1.heap.size < w6.heap.size := (by omega); have y6z : w2.heap.size < w6.heap.size := (by omega)) | ((with_reducible refine (field_20 word _ hw).mono ?_); rintro e w7 ⟨rfl, hb7⟩; obtain ⟨c7, f7⟩ := bcell hb7; have s7 := hb7.size; simp at s7; have y7 : w2.heap.size + 1 < w7.heap.size := (by omega); have y7x : w.heap.size < w7.heap.size := (by omega); have y7y : w1.heap.size < w7.heap.size := (by omega); have y7z : w2.heap.size < w7.heap.size := (by omega))))
        refine (encode_at _ (decI op word) _ (by rw [HDD.out]; rfl)).mono ?_
        rintro e w8 ⟨rfl, hb8⟩
        obtain ⟨c8, f8⟩ := bcell hb8
        have s8 := hb8.size
        simp at s8
        have y8 : w2.heap.size + 1 < w8.heap.size := by omega
        have y8x : w.heap.size < w8.heap.size := by omega
        have hk := bel_in (w := wr) (w' := w8) (B := wr.heap.size) (by repeat (first | (with_reducible exact Below.refl _ _) | (with_reducible refine bw_set ?_ ?_ _) | (with_reducible apply bw_alloc) | (with_reducible refine bw_tr ?_ (by with_reducible assumption)) | (with_reducible apply bw_drew) | omega)) ltx HX.out
        have HK := Lib.hid hk
        clear hk
        try clear hsg hbi hbj
        have hh0 : decHit word op = (encE (decI op word) == 0 && encV (decI op word) == (word : Int)) := rfl
        cases hh1 : (encE (decI op word) == 0) <;> cases hh2 : (encV (decI op word) == (word : Int))
        all_goals
          rw [hh1, hh2] at hh0
          have HH := Lib.hid hh0
          clear hh0
          generalize encE (decI op word) = ee at *
          generalize encV (decI op word) = ev at *
          go_wp2_with fail
          first
            | (refine ⟨⟨op + 1, by omega, by omega, by go_num, fun o h1 h2 => ?_, HK.out, (by repeat (first | (with_reducible exact Below.refl _ _) | (with_reducible refine bw_set ?_ ?_ _) | (with_reducible apply bw_alloc) | (with_reducible refine bw_tr ?_ (by with_reducible assumption)) | (with_reducible apply bw_drew) | omega))⟩, by simp [intOf]; omega⟩; by_cases ho : o = op; (subst ho; exact HH.out); (exact HNO.out o h1 (by omega)))
            | ((try simp only [Exit.inBlock, Exit.then]); have k0 : w8.cell? ⟨w.heap.size, 0, none⟩ = some (.int .i64 0) := cell_in HK.out rfl; have k1 : w8.cell? ⟨w.heap.size, 1, none⟩ = some (.int .i64 0) := cell_in HK.out rfl; have k2 : w8.cell? ⟨w.heap.size, 2, none⟩ = some (.int .i64 0) := cell_in HK.out rfl; have k3 : w8.cell? ⟨w.heap.size, 3, none⟩ = some (.int .i64 0) := cell_in HK.out rfl; have k4 : w8.cell? ⟨w.heap.size, 4, none⟩ = some (.int .i64 0) := cell_in HK.out rfl; obtain ⟨d1, d2⟩ := dec_hit (by omega) HH.out HNO.out; rw [HDD.out] at d1; refine bodyPost_ret (v := .tuple #[insV ⟨op, ((fieldN word 7 5 : Nat) : Int), ((fieldN word 15 5 : Nat) : Int), ((fieldN word 20 5 : Nat) : Int), (bn : Int)⟩, .int .i64 0]) (by simp [results, Try.results26, go_sem, insV, k0, k1, k2, k3, k4]) rfl ⟨by rw [d1, d2], (by repeat (first | (with_reducible exact Below.refl _ _) | (with_reducible refine bw_set ?_ ?_ _) | (with_reducible apply bw_alloc) | (with_reducible refine bw_tr ?_ (by with_reducible assumption)) | (with_reducible apply bw_drew) | omega))⟩)
      have hsh : shapeT f = ⟨false, false, false, 0, 0, 0⟩ := by simp [shapeT, hf82, hf73, hf72, hf83, hf66, hf85, hf74, hf70, hf67, hf76, hf65]
      have hnm : numP f 0 = [] := by simp [numP, hf73, hf72, hf83, hf66, hf85, hf74, hf70, hf67, hf76, hf65]
      rw [hsh]
      unfold shV
      go_wp2_with fail
      refine (back_any f word _ hw).mono ?_
      rw [hnm]
      rw [show backMax [] = 0 from rfl, show backFold word [] = 0 from rfl]
      have HDD : Hid (decI op word = ⟨op, 0, 0, 0, 0⟩) := by
        rw [HD.out]; unfold decR; rw [hsh, hnm]; rfl
      clear hsh hnm hf82 hf73 hf72 hf83 hf66 hf85 hf74 hf70 hf67 hf76 hf65
      rintro e w3 ⟨rfl, hb3⟩
      obtain ⟨c3, f3⟩ := bcell hb3
      have z3 : w2.heap.size + 1 < w3.heap.size := by have := hb3.size; simp at this; omega
      have z3x : w.heap.size < w3.heap.size := by omega
      have z3y : w1.heap.size < w3.heap.size := by omega
      have z3z : w2.heap.size < w3.heap.size := by omega
      go_wp2_with (go_at_call 47; (first | ((with_reducible refine (field_7 word _ hw).mono ?_); rintro e w5 ⟨rfl, hb5⟩; obtain ⟨c5, f5⟩ := bcell hb5; have s5 := hb5.size; simp at s5; have y5 : w2.heap.size + 1 < w5.heap.size := (by omega); have y5x : w.heap.size < w5.heap.size := (by omega); have y5y : w1.heap.size < w5.heap.size := (by omega); have y5z : w2.heap.size < w5.heap.size := (by omega)) | ((with_reducible refine (field_15 word _ hw).mono ?_); rintro e w6 ⟨rfl, hb6⟩; obtain ⟨c6, f6⟩ := bcell hb6; have s6 := hb6.size; simp at s6; have y6 : w2.heap.size + 1 < w6.heap.size := (by omega); have y6x : w.heap.size < w6.heap.size := (by omega); have y6y : w1.heap.size < w6.heap.size := (by omega); have y6z : w2.heap.size < w6.heap.size := (by omega)) | ((with_reducible refine (field_20 word _ hw).mono ?_); rintro e w7 ⟨rfl, hb7⟩; obtain ⟨c7, f7⟩ := bcell hb7; have s7 := hb7.size; simp at s7; have y7 : w2.heap.size + 1 < w7.heap.size := (by omega); have y7x : w.heap.size < w7.heap.size := (by omega); have y7y : w1.heap.size < w7.heap.size := (by omega); have y7z : w2.heap.size < w7.heap.size := (by omega))))
      refine (encode_at _ (decI op word) _ (by rw [HDD.out]; rfl)).mono ?_
      rintro e w8 ⟨rfl, hb8⟩
      obtain ⟨c8, f8⟩ := bcell hb8
      have s8 := hb8.size
      simp at s8
      have y8 : w2.heap.size + 1 < w8.heap.size := by omega
      have y8x : w.heap.size < w8.heap.size := by omega
      have hk := bel_in (w := wr) (w' := w8) (B := wr.heap.size) (by repeat (first | (with_reducible exact Below.refl _ _) | (with_reducible refine bw_set ?_ ?_ _) | (with_reducible apply bw_alloc) | (with_reducible refine bw_tr ?_ (by with_reducible assumption)) | (with_reducible apply bw_drew) | omega)) ltx HX.out
      have HK := Lib.hid hk
      clear hk
      try clear hsg hbi hbj
      have hh0 : decHit word op = (encE (decI op word) == 0 && encV (decI op word) == (word : Int)) := rfl
      cases hh1 : (encE (decI op word) == 0) <;> cases hh2 : (encV (decI op word) == (word : Int))
      all_goals
        rw [hh1, hh2] at hh0
        have HH := Lib.hid hh0
        clear hh0
        generalize encE (decI op word) = ee at *
        generalize encV (decI op word) = ev at *
        go_wp2_with fail
        first
          | (refine ⟨⟨op + 1, by omega, by omega, by go_num, fun o h1 h2 => ?_, HK.out, (by repeat (first | (with_reducible exact Below.refl _ _) | (with_reducible refine bw_set ?_ ?_ _) | (with_reducible apply bw_alloc) | (with_reducible refine bw_tr ?_ (by with_reducible assumption)) | (with_reducible apply bw_drew) | omega))⟩, by simp [intOf]; omega⟩; by_cases ho : o = op; (subst ho; exact HH.out); (exact HNO.out o h1 (by omega)))
          | ((try simp only [Exit.inBlock, Exit.then]); have k0 : w8.cell? ⟨w.heap.size, 0, none⟩ = some (.int .i64 0) := cell_in HK.out rfl; have k1 : w8.cell? ⟨w.heap.size, 1, none⟩ = some (.int .i64 0) := cell_in HK.out rfl; have k2 : w8.cell? ⟨w.heap.size, 2, none⟩ = some (.int .i64 0) := cell_in HK.out rfl; have k3 : w8.cell? ⟨w.heap.size, 3, none⟩ = some (.int .i64 0) := cell_in HK.out rfl; have k4 : w8.cell? ⟨w.heap.size, 4, none⟩ = some (.int .i64 0) := cell_in HK.out rfl; obtain ⟨d1, d2⟩ := dec_hit (by omega) HH.out HNO.out; rw [HDD.out] at d1; refine bodyPost_ret (v := .tuple #[insV ⟨op, 0, 0, 0, 0⟩, .int .i64 0]) (by simp [results, Try.results26, go_sem, insV, k0, k1, k2, k3, k4]) rfl ⟨by rw [d1, d2], (by repeat (first | (with_reducible exact Below.refl _ _) | (with_reducible refine bw_set ?_ ?_ _) | (with_reducible apply bw_alloc) | (with_reducible refine bw_tr ?_ (by with_reducible assumption)) | (with_reducible apply bw_drew) | omega))⟩)
    · have hop : op = 50 := by omega
      subst hop
      obtain ⟨d1, d2⟩ := dec_none (fun o h1 h2 => HNO.out o h1 h2)
      clear hno hx
      have HD1 := Lib.hid d1; have HD2 := Lib.hid d2
      clear d1 d2
      go_wp2_with fail
      try simp only [Exit.inBlock, Exit.then]
      refine bodyPost_ret (v := .tuple #[insV noIns, .int .i64 20]) (by simp [results, Try.results26, go_sem, insV, noIns, k0, k1, k2, k3, k4]) rfl ⟨by rw [HD1.out, HD2.out], (by repeat (first | (with_reducible exact Below.refl _ _) | (with_reducible refine bw_set ?_ ?_ _) | (with_reducible apply bw_alloc) | (with_reducible refine bw_tr ?_ (by with_reducible assumption)) | (with_reducible apply bw_drew) | omega))⟩
end Go.Proofs.Ytfepdieeiplbnaa
