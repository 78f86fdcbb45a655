/-
  The contract of headstockref02.Right.
-/
import Derived.Test.YtiahdhlfecgnpaaRef2Has
namespace Go.Proofs.Ytiahdhlfecgnpaa
open Go.RowKit
theorem empty_b' {s : ByteArray} (h : s ≠ ⟨#[]⟩) : s.toList.isEmpty = false := by
  rw [ByteArray.toList_eq]
  obtain ⟨⟨l⟩⟩ := s
  cases l with
  | nil => exact absurd rfl h
  | cons a l => rfl
theorem names_all : ∀ i : Fin 50, 1 ≤ i.val → (rowT i.val).nm ≠ ⟨#[]⟩ := by decide +kernel
theorem name_some' (op : Int) (h : 1 ≤ op ∧ op ≤ 49) : (rowT op).nm.toList.isEmpty = false := by
  have s := names_all ⟨op.toNat, by omega⟩ (by simp; omega)
  rw [show ((op.toNat : Nat) : Int) = op by omega] at s
  exact empty_b' s
theorem has_q (f c : Int) (r : Bool) (w : World) (hf : form12 f) (hc : c = 68 ∨ c = 65 ∨ c = 66) (hr : hasB f c = r) :
    Calls Try.prog 57 #[.int .u8 f, .int .u8 c] w fun e w' => e = .returned (.bool r) ∧ w' = w := by
  subst hr; exact (has_any f c w hf hc).mono fun _ _ ⟨a, b⟩ => ⟨a, b.symm⟩
theorem register_q (n : Int) (is r : Bool) (w : World) (hr : mayB n is = r) :
    Calls Try.prog 56 #[.int .i64 n, .bool is] w fun e w' => e = .returned (.bool r) ∧ w' = w := by
  subst hr; exact (register_any n is w).mono fun _ _ ⟨a, b⟩ => ⟨a, b.symm⟩
theorem number_q (f n : Int) (r : Bool) (w : World) (hf : form12 f) (hr : numB f n = r) :
    Calls Try.prog 58 #[.int .u8 f, .int .i64 n] w fun e w' => e = .returned (.bool r) ∧ w' = w := by
  subst hr; exact (refNumber_any f n w hf).mono fun _ _ ⟨a, b⟩ => ⟨a, b.symm⟩
theorem right_fold (x : Ins) : rightB x = (isOp x.op && (mayB x.d (hasB (rowT x.op).form 68) && (mayB x.a (hasB (rowT x.op).form 65) && (mayB x.b (hasB (rowT x.op).form 66) && numB (rowT x.op).form x.n)))) := rfl
set_option maxHeartbeats 8000000 in
theorem refRight_any (x : Ins) (w : World) :
    Calls Try.prog 37 #[insV x] w fun e w' => e = .returned (.bool (rightB x)) ∧ Below w.heap.size w w' := by
  obtain ⟨op, d, a, b, n⟩ := x
  have HE := Lib.hid (right_fold ⟨op, d, a, b, n⟩)
  simp only at HE
  unfold insV
  by_cases h0 : 1 ≤ op ∧ op ≤ 49
  · have hf := form_mem op h0
    have hne := name_some' op h0
    rw [isOp_yes h0] at HE
    generalize rightB ⟨op, d, a, b, n⟩ = rr at *
    generalize hrw : rowT op = r at *
    have HRW := Lib.hid hrw; clear hrw h0
    obtain ⟨nm, f, lo, mi, hi⟩ := r
    simp only at hf hne HE
    have HF := Lib.hid hf; clear hf
    generalize h68 : hasB f 68 = sd at *
    generalize h65 : hasB f 65 = sa at *
    generalize h66 : hasB f 66 = sb at *
    have H68 := Lib.hid h68; have H65 := Lib.hid h65; have H66 := Lib.hid h66
    clear h68 h65 h66
    cases h1 : mayB d sd
    case false =>
      have H1 := Lib.hid h1; clear h1
      rw [H1.out] at HE
      go_enter Try.func37, Try.ntmps37
      go_wp2_with fail
      refine (refRow_any op _).mono ?_
      rw [HRW.out]
      rintro e w1 ⟨rfl, hb1⟩
      obtain ⟨c1, f1⟩ := bcell hb1
      have s1 := hb1.size
      try simp at s1
      have l1x0 : w.heap.size < w1.heap.size := by omega
      unfold rfV
      go_wp2_with fail
      go_quiet ((first | (go_at_call 57; first | with_reducible exact Calls.quiet_of_same (has_q f 68 sd _ HF.out (by simp) H68.out)) | (go_at_call 56; first | with_reducible exact Calls.quiet_of_same (register_q d sd _ _ H1.out))))
      go_wp2_with fail
      go_ret
      exact ⟨ret1b (HE.out.trans (by simp)).symm, below_drewN (by repeat (first | (with_reducible exact Below.refl _ _) | (with_reducible refine bw_set ?_ ?_ _) | (with_reducible apply bw_alloc) | (with_reducible refine bw_tr ?_ (by with_reducible assumption)) | (with_reducible apply bw_drew) | omega)) _⟩
    case true =>
      have H1 := Lib.hid h1; clear h1
      rw [H1.out] at HE
      cases h2 : mayB a sa
      case false =>
        have H2 := Lib.hid h2; clear h2
        rw [H2.out] at HE
        go_enter Try.func37, Try.ntmps37
        go_wp2_with fail
        refine (refRow_any op _).mono ?_
        rw [HRW.out]
        rintro e w1 ⟨rfl, hb1⟩
        obtain ⟨c1, f1⟩ := bcell hb1
        have s1 := hb1.size
        try simp at s1
        have l1x0 : w.heap.size < w1.heap.size := by omega
        unfold rfV
        go_wp2_with fail
        go_quiet ((first | (go_at_call 57; first | with_reducible exact Calls.quiet_of_same (has_q f 68 sd _ HF.out (by simp) H68.out) | with_reducible exact Calls.quiet_of_same (has_q f 65 sa _ HF.out (by simp) H65.out)) | (go_at_call 56; first | with_reducible exact Calls.quiet_of_same (register_q d sd _ _ H1.out) | with_reducible exact Calls.quiet_of_same (register_q a sa _ _ H2.out))))
        go_wp2_with fail
        go_ret
        exact ⟨ret1b (HE.out.trans (by simp)).symm, below_drewN (by repeat (first | (with_reducible exact Below.refl _ _) | (with_reducible refine bw_set ?_ ?_ _) | (with_reducible apply bw_alloc) | (with_reducible refine bw_tr ?_ (by with_reducible assumption)) | (with_reducible apply bw_drew) | omega)) _⟩
      case true =>
        have H2 := Lib.hid h2; clear h2
        rw [H2.out] at HE
        cases h3 : mayB b sb
        case false =>
          have H3 := Lib.hid h3; clear h3
          rw [H3.out] at HE
          go_enter Try.func37, Try.ntmps37
          go_wp2_with fail
          refine (refRow_any op _).mono ?_
          rw [HRW.out]
          rintro e w1 ⟨rfl, hb1⟩
          obtain ⟨c1, f1⟩ := bcell hb1
          have s1 := hb1.size
          try simp at s1
          have l1x0 : w.heap.size < w1.heap.size := by omega
          unfold rfV
          go_wp2_with fail
          go_quiet ((first | (go_at_call 57; first | with_reducible exact Calls.quiet_of_same (has_q f 68 sd _ HF.out (by simp) H68.out) | with_reducible exact Calls.quiet_of_same (has_q f 65 sa _ HF.out (by simp) H65.out) | with_reducible exact Calls.quiet_of_same (has_q f 66 sb _ HF.out (by simp) H66.out)) | (go_at_call 56; first | with_reducible exact Calls.quiet_of_same (register_q d sd _ _ H1.out) | with_reducible exact Calls.quiet_of_same (register_q a sa _ _ H2.out) | with_reducible exact Calls.quiet_of_same (register_q b sb _ _ H3.out))))
          go_wp2_with fail
          go_ret
          exact ⟨ret1b (HE.out.trans (by simp)).symm, below_drewN (by repeat (first | (with_reducible exact Below.refl _ _) | (with_reducible refine bw_set ?_ ?_ _) | (with_reducible apply bw_alloc) | (with_reducible refine bw_tr ?_ (by with_reducible assumption)) | (with_reducible apply bw_drew) | omega)) _⟩
        case true =>
          have H3 := Lib.hid h3; clear h3
          rw [H3.out] at HE
          cases h4 : numB f n
          case false =>
            have H4 := Lib.hid h4; clear h4
            rw [H4.out] at HE
            go_enter Try.func37, Try.ntmps37
            go_wp2_with fail
            refine (refRow_any op _).mono ?_
            rw [HRW.out]
            rintro e w1 ⟨rfl, hb1⟩
            obtain ⟨c1, f1⟩ := bcell hb1
            have s1 := hb1.size
            try simp at s1
            have l1x0 : w.heap.size < w1.heap.size := by omega
            unfold rfV
            go_wp2_with fail
            go_quiet ((first | (go_at_call 57; first | with_reducible exact Calls.quiet_of_same (has_q f 68 sd _ HF.out (by simp) H68.out) | with_reducible exact Calls.quiet_of_same (has_q f 65 sa _ HF.out (by simp) H65.out) | with_reducible exact Calls.quiet_of_same (has_q f 66 sb _ HF.out (by simp) H66.out)) | (go_at_call 56; first | with_reducible exact Calls.quiet_of_same (register_q d sd _ _ H1.out) | with_reducible exact Calls.quiet_of_same (register_q a sa _ _ H2.out) | with_reducible exact Calls.quiet_of_same (register_q b sb _ _ H3.out)) | (go_at_call 58; with_reducible exact Calls.quiet_of_same (number_q f n _ _ HF.out H4.out))))
            go_wp2_with fail
            go_ret
            exact ⟨ret1b (HE.out.trans (by simp)).symm, below_drewN (by repeat (first | (with_reducible exact Below.refl _ _) | (with_reducible refine bw_set ?_ ?_ _) | (with_reducible apply bw_alloc) | (with_reducible refine bw_tr ?_ (by with_reducible assumption)) | (with_reducible apply bw_drew) | omega)) _⟩
          case true =>
            have H4 := Lib.hid h4; clear h4
            rw [H4.out] at HE
            go_enter Try.func37, Try.ntmps37
            go_wp2_with fail
            refine (refRow_any op _).mono ?_
            rw [HRW.out]
            rintro e w1 ⟨rfl, hb1⟩
            obtain ⟨c1, f1⟩ := bcell hb1
            have s1 := hb1.size
            try simp at s1
            have l1x0 : w.heap.size < w1.heap.size := by omega
            unfold rfV
            go_wp2_with fail
            go_quiet ((first | (go_at_call 57; first | with_reducible exact Calls.quiet_of_same (has_q f 68 sd _ HF.out (by simp) H68.out) | with_reducible exact Calls.quiet_of_same (has_q f 65 sa _ HF.out (by simp) H65.out) | with_reducible exact Calls.quiet_of_same (has_q f 66 sb _ HF.out (by simp) H66.out)) | (go_at_call 56; first | with_reducible exact Calls.quiet_of_same (register_q d sd _ _ H1.out) | with_reducible exact Calls.quiet_of_same (register_q a sa _ _ H2.out) | with_reducible exact Calls.quiet_of_same (register_q b sb _ _ H3.out)) | (go_at_call 58; with_reducible exact Calls.quiet_of_same (number_q f n _ _ HF.out H4.out))))
            go_wp2_with fail
            go_ret
            exact ⟨ret1b (HE.out.trans (by simp)).symm, below_drewN (by repeat (first | (with_reducible exact Below.refl _ _) | (with_reducible refine bw_set ?_ ?_ _) | (with_reducible apply bw_alloc) | (with_reducible refine bw_tr ?_ (by with_reducible assumption)) | (with_reducible apply bw_drew) | omega)) _⟩
  · rw [isOp_no h0] at HE
    generalize rightB ⟨op, d, a, b, n⟩ = rr at *
    have HRW := Lib.hid (rowT_no h0); clear h0
    go_enter Try.func37, Try.ntmps37
    go_wp2_with fail
    refine (refRow_any op _).mono ?_
    rw [HRW.out]
    rintro e w1 ⟨rfl, hb1⟩
    obtain ⟨c1, f1⟩ := bcell hb1
    have s1 := hb1.size
    try simp at s1
    have l1x0 : w.heap.size < w1.heap.size := by omega
    unfold rfV noRw
    go_wp2_with fail
    go_ret
    exact ⟨ret1b HE.out.symm, (by repeat (first | (with_reducible exact Below.refl _ _) | (with_reducible refine bw_set ?_ ?_ _) | (with_reducible apply bw_alloc) | (with_reducible refine bw_tr ?_ (by with_reducible assumption)) | (with_reducible apply bw_drew) | omega))⟩
end Go.Proofs.Ytiahdhlfecgnpaa
