/-
  The contracts of headstockref02.has, number, register, bits, signed, Name. The contract of headstockref02.Right. An instruction's word as a sum: plain. No program in sight. The contract of headstockref02.Encode.
-/
import Derived.Test.YtfepdieeiplbnaaRef2Row
import Derived.Test.YtfepdieeiplbnaaCodeRow
import Derived.Test.YtfepdieeiplbnaaFit02
import Derived.Test.YtfepdieeiplbnaaCodePlain
import Derived.Test.YtfepdieeiplbnaaCodeFind
import Derived.LoopN
import Derived.WalkSpells
import Derived.WalkLawsBesides
import Derived.Deep.QuietTactic
import Derived.BigQuiet
namespace Go.Proofs.Ytfepdieeiplbnaa
open Go.RowKit
def hasB (f c : Int) : Bool := if c = 68 then (shapeT f).d else if c = 65 then (shapeT f).a else (shapeT f).b
set_option maxHeartbeats 8000000 in
theorem has_any (f c : Int) (w : World) (hf : form12 f) (hc : c = 68 ∨ c = 65 ∨ c = 66) :
    Calls Try.prog 60 #[.int .u8 f, .int .u8 c] w fun e w' => e = .returned (.bool (hasB f c)) ∧ w = w' := by
  rcases hf with rfl | rfl | rfl | rfl | rfl | rfl | rfl | rfl | rfl | rfl | rfl | rfl <;> rcases hc with rfl | rfl | rfl
  all_goals
    go_enter Try.func60, Try.ntmps60
    go_wp2_with fail
    refine wp_loop_rounds 5 ?_
    rw [rounds_succ]
    go_wp2_with fail
    iterate 4 (try (rw [rounds_succ]; go_wp2_with fail))
    go_ret
    exact ⟨rfl, rfl⟩
theorem register_any (n : Int) (is : Bool) (w : World) :
    Calls Try.prog 59 #[.int .i64 n, .bool is] w fun e w' => e = .returned (.bool (mayB n is)) ∧ w = w' := by
  cases h0 : (n == 0) <;> cases is <;> cases h1 : decide (0 < n) <;> cases h2 : decide (n < 32)
  all_goals first
    | (exfalso; simp at h0 h1 h2; omega)
    | (go_enter Try.func59, Try.ntmps59
       go_wp2_with fail
       go_ret
       exact ⟨ret1b (by unfold mayB; rw [h0, h2]; simp at h0 h1 h2 ⊢; try omega), rfl⟩)
def numF (f n : Int) : Bool := decide ((shapeT f).least ≤ n) && (decide (n ≤ (shapeT f).most) && modB n (shapeT f).step)
set_option maxHeartbeats 8000000 in
theorem refNumber_any (f n : Int) (w : World) (hf : form12 f) :
    Calls Try.prog 61 #[.int .u8 f, .int .i64 n] w fun e w' => e = .returned (.bool (numF f n)) ∧ w = w' := by
  rcases hf with rfl | rfl | rfl | rfl | rfl | rfl | rfl | rfl | rfl | rfl | rfl | rfl
  · cases h1 : (n == 0)
    all_goals
      have E := Lib.hid (show numF 82 n = (n == 0) by unfold numF; rw [Bool.eq_iff_iff]; simp [shapeT, modB]; omega)
      rw [h1] at E
      go_enter Try.func61, Try.ntmps61
      go_wp2_with fail
      go_ret
      exact ⟨ret1b E.out.symm, rfl⟩
  · have E := Lib.hid (show numF 73 n = (decide (-2048 ≤ n) && decide (n ≤ 2047)) by simp [numF, shapeT, modB])
    cases h1 : decide (-2048 ≤ n) <;> cases h2 : decide (n ≤ 2047)
    all_goals
      rw [h1, h2] at E
      go_enter Try.func61, Try.ntmps61
      go_wp2_with fail
      go_ret
      exact ⟨ret1b E.out.symm, rfl⟩
  · have E := Lib.hid (show numF 72 n = (decide (0 ≤ n) && decide (n ≤ 31)) by simp [numF, shapeT, modB])
    cases h1 : decide (0 ≤ n) <;> cases h2 : decide (n ≤ 31)
    all_goals
      rw [h1, h2] at E
      go_enter Try.func61, Try.ntmps61
      go_wp2_with fail
      go_ret
      exact ⟨ret1b E.out.symm, rfl⟩
  · have E := Lib.hid (show numF 83 n = (decide (-2048 ≤ n) && decide (n ≤ 2047)) by simp [numF, shapeT, modB])
    cases h1 : decide (-2048 ≤ n) <;> cases h2 : decide (n ≤ 2047)
    all_goals
      rw [h1, h2] at E
      go_enter Try.func61, Try.ntmps61
      go_wp2_with fail
      go_ret
      exact ⟨ret1b E.out.symm, rfl⟩
  · have E := Lib.hid (show numF 66 n = (decide (-4096 ≤ n) && (decide (n ≤ 4094) && (n.tmod 2 == 0))) by simp [numF, shapeT, modB])
    cases h1 : decide (-4096 ≤ n) <;> cases h2 : decide (n ≤ 4094) <;> cases h3 : (n.tmod 2 == 0)
    all_goals
      rw [h1, h2, h3] at E
      go_enter Try.func61, Try.ntmps61
      go_wp2_with fail
      go_ret
      exact ⟨ret1b E.out.symm, rfl⟩
  · have E := Lib.hid (show numF 85 n = (decide (0 ≤ n) && decide (n < 1048576)) by rw [Bool.eq_iff_iff]; simp [numF, shapeT, modB]; omega)
    cases h1 : decide (0 ≤ n) <;> cases h2 : decide (n < 1048576)
    all_goals
      rw [h1, h2] at E
      go_enter Try.func61, Try.ntmps61
      go_wp2_with fail
      go_ret
      exact ⟨ret1b E.out.symm, rfl⟩
  · have E := Lib.hid (show numF 74 n = (decide (-1048576 ≤ n) && (decide (n ≤ 1048574) && (n.tmod 2 == 0))) by simp [numF, shapeT, modB])
    cases h1 : decide (-1048576 ≤ n) <;> cases h2 : decide (n ≤ 1048574) <;> cases h3 : (n.tmod 2 == 0)
    all_goals
      rw [h1, h2, h3] at E
      go_enter Try.func61, Try.ntmps61
      go_wp2_with fail
      go_ret
      exact ⟨ret1b E.out.symm, rfl⟩
  · have E := Lib.hid (show numF 70 n = (decide (0 ≤ n) && decide (n ≤ 255)) by simp [numF, shapeT, modB])
    cases h1 : decide (0 ≤ n) <;> cases h2 : decide (n ≤ 255)
    all_goals
      rw [h1, h2] at E
      go_enter Try.func61, Try.ntmps61
      go_wp2_with fail
      go_ret
      exact ⟨ret1b E.out.symm, rfl⟩
  · have E := Lib.hid (show numF 67 n = (decide (0 ≤ n) && decide (n ≤ 4095)) by simp [numF, shapeT, modB])
    cases h1 : decide (0 ≤ n) <;> cases h2 : decide (n ≤ 4095)
    all_goals
      rw [h1, h2] at E
      go_enter Try.func61, Try.ntmps61
      go_wp2_with fail
      go_ret
      exact ⟨ret1b E.out.symm, rfl⟩
  · have E := Lib.hid (show numF 76 n = (decide (0 ≤ n) && decide (n ≤ 3)) by simp [numF, shapeT, modB])
    cases h1 : decide (0 ≤ n) <;> cases h2 : decide (n ≤ 3)
    all_goals
      rw [h1, h2] at E
      go_enter Try.func61, Try.ntmps61
      go_wp2_with fail
      go_ret
      exact ⟨ret1b E.out.symm, rfl⟩
  · have E := Lib.hid (show numF 65 n = (decide (0 ≤ n) && decide (n ≤ 3)) by simp [numF, shapeT, modB])
    cases h1 : decide (0 ≤ n) <;> cases h2 : decide (n ≤ 3)
    all_goals
      rw [h1, h2] at E
      go_enter Try.func61, Try.ntmps61
      go_wp2_with fail
      go_ret
      exact ⟨ret1b E.out.symm, rfl⟩
  · cases h1 : (n == 0)
    all_goals
      have E := Lib.hid (show numF 90 n = (n == 0) by unfold numF; rw [Bool.eq_iff_iff]; simp [shapeT, modB]; omega)
      rw [h1] at E
      go_enter Try.func61, Try.ntmps61
      go_wp2_with fail
      go_ret
      exact ⟨ret1b E.out.symm, rfl⟩
theorem bits_u (n : Int) (h : n < 0) : n.tmod 4294967296 = if n % 4294967296 = 0 then 0 else n % 4294967296 - 4294967296 := by
  rw [Int.tmod_eq_emod]
  split <;> split <;> omega
theorem bits_fin (u : Int) (fr mn : Nat) (h : 0 ≤ u ∧ u < 4294967296) : (u / 2 ^ fr).tmod ((2 ^ mn : Nat) : Int) = ((fieldN u.toNat fr mn : Nat) : Int) := by
  obtain ⟨k, rfl⟩ := Int.eq_ofNat_of_zero_le h.1
  rw [pow_int, ← Int.natCast_ediv, Int.tmod_eq_emod_of_nonneg (Int.natCast_nonneg _), ← Int.natCast_emod]
  rfl
set_option maxHeartbeats 2000000 in
theorem bits_any (n : Int) (fr mn : Nat) (w : World) (_ : I64 n) (hf : fr < 32) (hm : mn < 32) :
    Calls Try.prog 58 #[.int .i64 n, .int .i64 fr, .int .i64 mn] w fun e w' => e = .returned (.int .i64 (fieldN (n % 4294967296).toNat fr mn : Nat)) ∧ ∃ q, w' = w.drewN q := by
  have hu : 0 ≤ n % 4294967296 ∧ n % 4294967296 < 4294967296 := by omega
  have E := Lib.hid (bits_fin (n % 4294967296) fr mn hu)
  have p1 := pow_le31 mn hm
  have p2 : 0 < 2 ^ mn := Nat.two_pow_pos mn
  have hu2 := bits_u n
  generalize hU : n % 4294967296 = u at *
  obtain ⟨P, hP⟩ : ∃ P : Nat, P = 2 ^ mn := ⟨_, rfl⟩
  rw [← hP] at E p1 p2
  have ep : IntKind.i64.wrap (2 ^ mn) = (P : Int) := by rw [pow_int, ← hP]; exact IntWalk.i64_in _ (by omega)
  have hz : ((P : Int) == 0) = false := by simp; omega
  clear hP
  by_cases h0 : 0 ≤ n
  · clear hu2
    have HU := Lib.hid hU
    go_enter Try.func58, Try.ntmps58
    go_wp2_with fail
    clear hU
    go_quiet (fail)
    go_wp2_with fail
    go_ret
    exact ⟨ret1n (by rw [HU.out]; exact E.out), _, rfl⟩
  · have hu3 := hu2 (by omega)
    clear hu2
    by_cases hz0 : u = 0
    · rw [if_pos hz0] at hu3
      subst hz0
      clear hU
      go_enter Try.func58, Try.ntmps58
      go_wp2_with fail
      clear hu3
      go_quiet (fail)
      go_wp2_with fail
      go_ret
      exact ⟨ret1n (by simpa using E.out), _, rfl⟩
    · rw [if_neg hz0] at hu3
      clear hU
      go_enter Try.func58, Try.ntmps58
      go_wp2_with fail
      clear hu3
      go_quiet (fail)
      go_wp2_with fail
      go_ret
      exact ⟨ret1n (by simpa using E.out), _, rfl⟩
end Go.Proofs.Ytfepdieeiplbnaa
namespace Go.Proofs.Ytfepdieeiplbnaa
open Go.RowKit
theorem empty_b' {s : ByteArray} (h : s ≠ ⟨#[]⟩) : s.toList.isEmpty = false := by
  rw [ByteArray.toList_eq]
  obtain ⟨⟨l⟩⟩ := s
  cases l with
  | nil => exact absurd rfl h
  | cons a l => rfl
theorem names_full : ∀ i : Fin 50, 1 ≤ i.val → (rowT i.val).nm ≠ ⟨#[]⟩ := by decide +kernel
theorem name_some' (op : Int) (h : 1 ≤ op ∧ op ≤ 49) : (rowT op).nm.toList.isEmpty = false := by
  have s := names_full ⟨op.toNat, by omega⟩ (by simp; omega)
  rw [show ((op.toNat : Nat) : Int) = op by omega] at s
  exact empty_b' s
theorem has_q (f c : Int) (r : Bool) (w : World) (hf : form12 f) (hc : c = 68 ∨ c = 65 ∨ c = 66) (hr : hasB f c = r) :
    Calls Try.prog 60 #[.int .u8 f, .int .u8 c] w fun e w' => e = .returned (.bool r) ∧ w' = w := by
  subst hr; exact (has_any f c w hf hc).mono fun _ _ ⟨a, b⟩ => ⟨a, b.symm⟩
theorem register_q (n : Int) (is r : Bool) (w : World) (hr : mayB n is = r) :
    Calls Try.prog 59 #[.int .i64 n, .bool is] w fun e w' => e = .returned (.bool r) ∧ w' = w := by
  subst hr; exact (register_any n is w).mono fun _ _ ⟨a, b⟩ => ⟨a, b.symm⟩
theorem number_q (f n : Int) (r : Bool) (w : World) (hf : form12 f) (hr : numF f n = r) :
    Calls Try.prog 61 #[.int .u8 f, .int .i64 n] w fun e w' => e = .returned (.bool r) ∧ w' = w := by
  subst hr; exact (refNumber_any f n w hf).mono fun _ _ ⟨a, b⟩ => ⟨a, b.symm⟩
theorem right_fold (x : Ins) : rightB x = (isOp x.op && (mayB x.d (hasB (rowT x.op).form 68) && (mayB x.a (hasB (rowT x.op).form 65) && (mayB x.b (hasB (rowT x.op).form 66) && numF (rowT x.op).form x.n)))) := rfl
set_option maxHeartbeats 8000000 in
theorem refRight_any (x : Ins) (w : World) :
    Calls Try.prog 40 #[insV x] w fun e w' => e = .returned (.bool (rightB x)) ∧ Below w.heap.size w w' := by
  obtain ⟨op, d, a, b, n⟩ := x
  have HE := Lib.hid (right_fold ⟨op, d, a, b, n⟩)
  simp only at HE
  unfold insV
  by_cases h0 : 1 ≤ op ∧ op ≤ 49
  · have hf := form_mem op h0
    have hne := name_some' op h0
    rw [isOp_yes h0] at HE
    generalize rightB ⟨op, d, a, b, n⟩ = rr at *
    generalize hrw : rowT op = r at *
    have HRW := Lib.hid hrw; clear hrw h0
    obtain ⟨nm, f, lo, mi, hi⟩ := r
    simp only at hf hne HE
    have HF := Lib.hid hf; clear hf
    generalize h68 : hasB f 68 = sd at *
    generalize h65 : hasB f 65 = sa at *
    generalize h66 : hasB f 66 = sb at *
    have H68 := Lib.hid h68; have H65 := Lib.hid h65; have H66 := Lib.hid h66
    clear h68 h65 h66
    cases h1 : mayB d sd
    case false =>
      have H1 := Lib.hid h1; clear h1
      rw [H1.out] at HE
      go_enter Try.func40, Try.ntmps40
      go_wp2_with fail
      refine (refRow_any op _).mono ?_
      rw [HRW.out]
      rintro e w1 ⟨rfl, hb1⟩
      obtain ⟨c1, f1⟩ := bcell hb1
      have s1 := hb1.size
      try simp at s1
      have l1x0 : w.heap.size < w1.heap.size := by omega
      unfold rfV
      go_wp2_with fail
      go_quiet ((first | (go_at_call 60; first | with_reducible exact Calls.quiet_of_same (has_q f 68 sd _ HF.out (by simp) H68.out)) | (go_at_call 59; first | with_reducible exact Calls.quiet_of_same (register_q d sd _ _ H1.out))))
      go_wp2_with fail
      go_ret
      exact ⟨ret1b (HE.out.trans (by simp)).symm, below_drewN (by repeat (first | (with_reducible exact Below.refl _ _) | (with_reducible refine bw_set ?_ ?_ _) | (with_reducible apply bw_alloc) | (with_reducible refine bw_tr ?_ (by with_reducible assumption)) | (with_reducible apply bw_drew) | omega)) _⟩
    case true =>
      have H1 := Lib.hid h1; clear h1
      rw [H1.out] at HE
      cases h2 : mayB a sa
      case false =>
        have H2 := Lib.hid h2; clear h2
        rw [H2.out] at HE
        go_enter Try.func40, Try.ntmps40
        go_wp2_with fail
        refine (refRow_any op _).mono ?_
        rw [HRW.out]
        rintro e w1 ⟨rfl, hb1⟩
        obtain ⟨c1, f1⟩ := bcell hb1
        have s1 := hb1.size
        try simp at s1
        have l1x0 : w.heap.size < w1.heap.size := by omega
        unfold rfV
        go_wp2_with fail
        go_quiet ((first | (go_at_call 60; first | with_reducible exact Calls.quiet_of_same (has_q f 68 sd _ HF.out (by simp) H68.out) | with_reducible exact Calls.quiet_of_same (has_q f 65 sa _ HF.out (by simp) H65.out)) | (go_at_call 59; first | with_reducible exact Calls.quiet_of_same (register_q d sd _ _ H1.out) | with_reducible exact Calls.quiet_of_same (register_q a sa _ _ H2.out))))
        go_wp2_with fail
        go_ret
        exact ⟨ret1b (HE.out.trans (by simp)).symm, below_drewN (by repeat (first | (with_reducible exact Below.refl _ _) | (with_reducible refine bw_set ?_ ?_ _) | (with_reducible apply bw_alloc) | (with_reducible refine bw_tr ?_ (by with_reducible assumption)) | (with_reducible apply bw_drew) | omega)) _⟩
      case true =>
        have H2 := Lib.hid h2; clear h2
        rw [H2.out] at HE
        cases h3 : mayB b sb
        case false =>
          have H3 := Lib.hid h3; clear h3
          rw [H3.out] at HE
          go_enter Try.func40, Try.ntmps40
          go_wp2_with fail
          refine (refRow_any op _).mono ?_
          rw [HRW.out]
          rintro e w1 ⟨rfl, hb1⟩
          obtain ⟨c1, f1⟩ := bcell hb1
          have s1 := hb1.size
          try simp at s1
          have l1x0 : w.heap.size < w1.heap.size := by omega
          unfold rfV
          go_wp2_with fail
          go_quiet ((first | (go_at_call 60; first | with_reducible exact Calls.quiet_of_same (has_q f 68 sd _ HF.out (by simp) H68.out) | with_reducible exact Calls.quiet_of_same (has_q f 65 sa _ HF.out (by simp) H65.out) | with_reducible exact Calls.quiet_of_same (has_q f 66 sb _ HF.out (by simp) H66.out)) | (go_at_call 59; first | with_reducible exact Calls.quiet_of_same (register_q d sd _ _ H1.out) | with_reducible exact Calls.quiet_of_same (register_q a sa _ _ H2.out) | with_reducible exact Calls.quiet_of_same (register_q b sb _ _ H3.out))))
          go_wp2_with fail
          go_ret
          exact ⟨ret1b (HE.out.trans (by simp)).symm, below_drewN (by repeat (first | (with_reducible exact Below.refl _ _) | (with_reducible refine bw_set ?_ ?_ _) | (with_reducible apply bw_alloc) | (with_reducible refine bw_tr ?_ (by with_reducible assumption)) | (with_reducible apply bw_drew) | omega)) _⟩
        case true =>
          have H3 := Lib.hid h3; clear h3
          rw [H3.out] at HE
          cases h4 : numF f n
          case false =>
            have H4 := Lib.hid h4; clear h4
            rw [H4.out] at HE
            go_enter Try.func40, Try.ntmps40
            go_wp2_with fail
            refine (refRow_any op _).mono ?_
            rw [HRW.out]
            rintro e w1 ⟨rfl, hb1⟩
            obtain ⟨c1, f1⟩ := bcell hb1
            have s1 := hb1.size
            try simp at s1
            have l1x0 : w.heap.size < w1.heap.size := by omega
            unfold rfV
            go_wp2_with fail
            go_quiet ((first | (go_at_call 60; first | with_reducible exact Calls.quiet_of_same (has_q f 68 sd _ HF.out (by simp) H68.out) | with_reducible exact Calls.quiet_of_same (has_q f 65 sa _ HF.out (by simp) H65.out) | with_reducible exact Calls.quiet_of_same (has_q f 66 sb _ HF.out (by simp) H66.out)) | (go_at_call 59; first | with_reducible exact Calls.quiet_of_same (register_q d sd _ _ H1.out) | with_reducible exact Calls.quiet_of_same (register_q a sa _ _ H2.out) | with_reducible exact Calls.quiet_of_same (register_q b sb _ _ H3.out)) | (go_at_call 61; with_reducible exact Calls.quiet_of_same (number_q f n _ _ HF.out H4.out))))
            go_wp2_with fail
            go_ret
            exact ⟨ret1b (HE.out.trans (by simp)).symm, below_drewN (by repeat (first | (with_reducible exact Below.refl _ _) | (with_reducible refine bw_set ?_ ?_ _) | (with_reducible apply bw_alloc) | (with_reducible refine bw_tr ?_ (by with_reducible assumption)) | (with_reducible apply bw_drew) | omega)) _⟩
          case true =>
            have H4 := Lib.hid h4; clear h4
            rw [H4.out] at HE
            go_enter Try.func40, Try.ntmps40
            go_wp2_with fail
            refine (refRow_any op _).mono ?_
            rw [HRW.out]
            rintro e w1 ⟨rfl, hb1⟩
            obtain ⟨c1, f1⟩ := bcell hb1
            have s1 := hb1.size
            try simp at s1
            have l1x0 : w.heap.size < w1.heap.size := by omega
            unfold rfV
            go_wp2_with fail
            go_quiet ((first | (go_at_call 60; first | with_reducible exact Calls.quiet_of_same (has_q f 68 sd _ HF.out (by simp) H68.out) | with_reducible exact Calls.quiet_of_same (has_q f 65 sa _ HF.out (by simp) H65.out) | with_reducible exact Calls.quiet_of_same (has_q f 66 sb _ HF.out (by simp) H66.out)) | (go_at_call 59; first | with_reducible exact Calls.quiet_of_same (register_q d sd _ _ H1.out) | with_reducible exact Calls.quiet_of_same (register_q a sa _ _ H2.out) | with_reducible exact Calls.quiet_of_same (register_q b sb _ _ H3.out)) | (go_at_call 61; with_reducible exact Calls.quiet_of_same (number_q f n _ _ HF.out H4.out))))
            go_wp2_with fail
            go_ret
            exact ⟨ret1b (HE.out.trans (by simp)).symm, below_drewN (by repeat (first | (with_reducible exact Below.refl _ _) | (with_reducible refine bw_set ?_ ?_ _) | (with_reducible apply bw_alloc) | (with_reducible refine bw_tr ?_ (by with_reducible assumption)) | (with_reducible apply bw_drew) | omega)) _⟩
  · rw [isOp_no h0] at HE
    generalize rightB ⟨op, d, a, b, n⟩ = rr at *
    have HRW := Lib.hid (rowT_no h0); clear h0
    go_enter Try.func40, Try.ntmps40
    go_wp2_with fail
    refine (refRow_any op _).mono ?_
    rw [HRW.out]
    rintro e w1 ⟨rfl, hb1⟩
    obtain ⟨c1, f1⟩ := bcell hb1
    have s1 := hb1.size
    try simp at s1
    have l1x0 : w.heap.size < w1.heap.size := by omega
    unfold rfV noRw
    go_wp2_with fail
    go_ret
    exact ⟨ret1b HE.out.symm, (by repeat (first | (with_reducible exact Below.refl _ _) | (with_reducible refine bw_set ?_ ?_ _) | (with_reducible apply bw_alloc) | (with_reducible refine bw_tr ?_ (by with_reducible assumption)) | (with_reducible apply bw_drew) | omega))⟩
end Go.Proofs.Ytfepdieeiplbnaa
namespace Go.Proofs.Ytfepdieeiplbnaa
open Go.RowKit
set_option linter.unusedSimpArgs false
theorem fixed_bd (op : Int) : 0 ≤ fixedN op ∧ fixedN op ≤ 5 := by
  unfold fixedN
  repeat' split
  all_goals omega
theorem shape_bd' (f : Int) : -1048576 ≤ (shapeT f).least ∧ (shapeT f).most ≤ 1048575 := by
  unfold shapeT
  repeat' split
  all_goals simp
theorem ok_nn {x : Ins} (h : rightB x = true) : I64 x.n := by
  obtain ⟨_, _, _, _, h1, h2, _⟩ := right_parts h
  have := shape_bd' (rowT x.op).form
  unfold shX at h1 h2
  exact ⟨by omega, by omega⟩
theorem split_0 (V : Nat) (h : V < 4294967296) : V = fieldN V 0 7 * 1 + fieldN V 7 1 * 128 + fieldN V 8 4 * 256 + fieldN V 12 3 * 4096 + fieldN V 15 5 * 32768 + fieldN V 20 5 * 1048576 + fieldN V 25 6 * 33554432 + fieldN V 31 1 * 2147483648 := by
  simp only [fieldN, Nat.reducePow, Nat.div_one]
  omega
theorem split_1 (V : Nat) (h : V < 4294967296) : V = fieldN V 0 7 * 1 + fieldN V 7 5 * 128 + fieldN V 12 3 * 4096 + fieldN V 15 5 * 32768 + fieldN V 20 5 * 1048576 + fieldN V 25 2 * 33554432 + fieldN V 27 5 * 134217728 := by
  simp only [fieldN, Nat.reducePow, Nat.div_one]
  omega
theorem split_2 (V : Nat) (h : V < 4294967296) : V = fieldN V 0 7 * 1 + fieldN V 7 5 * 128 + fieldN V 12 3 * 4096 + fieldN V 15 5 * 32768 + fieldN V 20 5 * 1048576 + fieldN V 25 7 * 33554432 := by
  simp only [fieldN, Nat.reducePow, Nat.div_one]
  omega
theorem split_3 (V : Nat) (h : V < 4294967296) : V = fieldN V 0 7 * 1 + fieldN V 7 5 * 128 + fieldN V 12 3 * 4096 + fieldN V 15 5 * 32768 + fieldN V 20 8 * 1048576 + fieldN V 28 4 * 268435456 := by
  simp only [fieldN, Nat.reducePow, Nat.div_one]
  omega
theorem split_4 (V : Nat) (h : V < 4294967296) : V = fieldN V 0 7 * 1 + fieldN V 7 5 * 128 + fieldN V 12 3 * 4096 + fieldN V 15 5 * 32768 + fieldN V 20 12 * 1048576 := by
  simp only [fieldN, Nat.reducePow, Nat.div_one]
  omega
theorem split_5 (V : Nat) (h : V < 4294967296) : V = fieldN V 0 7 * 1 + fieldN V 7 5 * 128 + fieldN V 12 8 * 4096 + fieldN V 20 1 * 1048576 + fieldN V 21 10 * 2097152 + fieldN V 31 1 * 2147483648 := by
  simp only [fieldN, Nat.reducePow, Nat.div_one]
  omega
theorem split_6 (V : Nat) (h : V < 4294967296) : V = fieldN V 0 7 * 1 + fieldN V 7 5 * 128 + fieldN V 12 20 * 4096 := by
  simp only [fieldN, Nat.reducePow, Nat.div_one]
  omega
set_option maxRecDepth 10000 in
set_option maxHeartbeats 1000000 in
theorem encS_82 (x : Ins) (h : rightB x = true) (hfo : (rowT x.op).form = 82) : ((encN x : Nat) : Int) = (rowT x.op).low + (rowT x.op).mid * 4096 + x.a * 32768 + x.d * 128 + x.b * 1048576 + (rowT x.op).high * 33554432 := by
  obtain ⟨h0, hd, ha, hb, hn1, hn2, hn3⟩ := right_parts h
  obtain ⟨hr, hop⟩ := row_facts h0
  have hfx := fixed_bd x.op
  clear h
  simp only [rowB, hop, Bool.and_eq_true, decide_eq_true_eq, Bool.or_eq_true, beq_iff_eq] at hr
  obtain ⟨⟨hlo, z1, z2, z3, z4⟩, _⟩ := hr
  unfold encN headP
  unfold shX at hd ha hb hn1 hn2 hn3
  obtain ⟨op, d, a, b, n⟩ := x
  simp only at *
  generalize rowT op = r at *
  obtain ⟨nm, f, lo, mi, hi⟩ := r
  simp only at *
  generalize fixedN op = fx at *
  subst hfo
  clear hop h0
  simp [shapeT] at hd ha hb hn1 hn2 hn3 z1 z2 z3 z4
  try (obtain ⟨_, _, rfl⟩ := hd)
  try (obtain ⟨_, _, rfl⟩ := ha)
  try (obtain ⟨_, _, rfl⟩ := hb)
  try subst z1
  try subst z2
  try subst z4
  have hlt := layN_lt ([⟨lo, 0, 7, 0⟩, ⟨mi, 0, 3, 12⟩, ⟨hi, 0, 7, 25⟩, ⟨d, 0, 5, 7⟩, ⟨a, 0, 5, 15⟩, ⟨b + 0, 0, 5, 20⟩] ++ numP 82 n)
  generalize hV : layN _ = V at *
  have e0 : ((fieldN V 0 7 : Nat) : Int) = lo := by
    have e := congrArg (fun v => fieldN v 0 7) hV
    simp only [List.cons_append, List.nil_append] at e
    simp [numP, layN, layFrom, field_or, piece_zero, field_zero] at e
    try simp (disch := decide) only [pf_out, pf_in, piece_zero, field_zero, Nat.or_zero, Nat.zero_or] at e
    try simp only [Int.reduceToNat, Nat.reducePow, Nat.reduceSub, Nat.div_one, Nat.reduceMul, Nat.mul_one] at e
    clear hV
    rw [← e]
    try simp only [fieldN, Nat.reducePow, Nat.div_one]
    try omega
  have e1 : ((fieldN V 7 5 : Nat) : Int) = d := by
    have e := congrArg (fun v => fieldN v 7 5) hV
    simp only [List.cons_append, List.nil_append] at e
    simp [numP, layN, layFrom, field_or, piece_zero, field_zero] at e
    try simp (disch := decide) only [pf_out, pf_in, piece_zero, field_zero, Nat.or_zero, Nat.zero_or] at e
    try simp only [Int.reduceToNat, Nat.reducePow, Nat.reduceSub, Nat.div_one, Nat.reduceMul, Nat.mul_one] at e
    clear hV
    rw [← e]
    try simp only [fieldN, Nat.reducePow, Nat.div_one]
    try omega
  have e2 : ((fieldN V 12 3 : Nat) : Int) = mi := by
    have e := congrArg (fun v => fieldN v 12 3) hV
    simp only [List.cons_append, List.nil_append] at e
    simp [numP, layN, layFrom, field_or, piece_zero, field_zero] at e
    try simp (disch := decide) only [pf_out, pf_in, piece_zero, field_zero, Nat.or_zero, Nat.zero_or] at e
    try simp only [Int.reduceToNat, Nat.reducePow, Nat.reduceSub, Nat.div_one, Nat.reduceMul, Nat.mul_one] at e
    clear hV
    rw [← e]
    try simp only [fieldN, Nat.reducePow, Nat.div_one]
    try omega
  have e3 : ((fieldN V 15 5 : Nat) : Int) = a := by
    have e := congrArg (fun v => fieldN v 15 5) hV
    simp only [List.cons_append, List.nil_append] at e
    simp [numP, layN, layFrom, field_or, piece_zero, field_zero] at e
    try simp (disch := decide) only [pf_out, pf_in, piece_zero, field_zero, Nat.or_zero, Nat.zero_or] at e
    try simp only [Int.reduceToNat, Nat.reducePow, Nat.reduceSub, Nat.div_one, Nat.reduceMul, Nat.mul_one] at e
    clear hV
    rw [← e]
    try simp only [fieldN, Nat.reducePow, Nat.div_one]
    try omega
  have e4 : ((fieldN V 20 5 : Nat) : Int) = b := by
    have e := congrArg (fun v => fieldN v 20 5) hV
    simp only [List.cons_append, List.nil_append] at e
    simp [numP, layN, layFrom, field_or, piece_zero, field_zero] at e
    try simp (disch := decide) only [pf_out, pf_in, piece_zero, field_zero, Nat.or_zero, Nat.zero_or] at e
    try simp only [Int.reduceToNat, Nat.reducePow, Nat.reduceSub, Nat.div_one, Nat.reduceMul, Nat.mul_one] at e
    clear hV
    rw [← e]
    try simp only [fieldN, Nat.reducePow, Nat.div_one]
    try omega
  have e5 : ((fieldN V 25 7 : Nat) : Int) = hi := by
    have e := congrArg (fun v => fieldN v 25 7) hV
    simp only [List.cons_append, List.nil_append] at e
    simp [numP, layN, layFrom, field_or, piece_zero, field_zero] at e
    try simp (disch := decide) only [pf_out, pf_in, piece_zero, field_zero, Nat.or_zero, Nat.zero_or] at e
    try simp only [Int.reduceToNat, Nat.reducePow, Nat.reduceSub, Nat.div_one, Nat.reduceMul, Nat.mul_one] at e
    clear hV
    rw [← e]
    try simp only [fieldN, Nat.reducePow, Nat.div_one]
    try omega
  have hs := split_2 V hlt
  clear hV hlt
  generalize fieldN V 0 7 = q0, fieldN V 7 5 = q1, fieldN V 12 3 = q2, fieldN V 15 5 = q3, fieldN V 20 5 = q4, fieldN V 25 7 = q5 at *
  clear hlo
  omega
set_option maxRecDepth 10000 in
set_option maxHeartbeats 1000000 in
theorem encS_73 (x : Ins) (h : rightB x = true) (hfo : (rowT x.op).form = 73) : ((encN x : Nat) : Int) = (rowT x.op).low + (rowT x.op).mid * 4096 + x.a * 32768 + x.d * 128 + ((fieldN (x.n % 4294967296).toNat 0 12 : Nat) : Int) * 1048576 := by
  obtain ⟨h0, hd, ha, hb, hn1, hn2, hn3⟩ := right_parts h
  obtain ⟨hr, hop⟩ := row_facts h0
  have hfx := fixed_bd x.op
  clear h
  simp only [rowB, hop, Bool.and_eq_true, decide_eq_true_eq, Bool.or_eq_true, beq_iff_eq] at hr
  obtain ⟨⟨hlo, z1, z2, z3, z4⟩, _⟩ := hr
  unfold encN headP
  unfold shX at hd ha hb hn1 hn2 hn3
  obtain ⟨op, d, a, b, n⟩ := x
  simp only at *
  generalize rowT op = r at *
  obtain ⟨nm, f, lo, mi, hi⟩ := r
  simp only at *
  generalize fixedN op = fx at *
  subst hfo
  clear hop h0
  simp [shapeT] at hd ha hb hn1 hn2 hn3 z1 z2 z3 z4
  try (obtain ⟨_, _, rfl⟩ := hd)
  try (obtain ⟨_, _, rfl⟩ := ha)
  try (obtain ⟨_, _, rfl⟩ := hb)
  try subst z1
  try subst z2
  try subst z4
  have hlt := layN_lt ([⟨lo, 0, 7, 0⟩, ⟨mi, 0, 3, 12⟩, ⟨0, 0, 7, 25⟩, ⟨d, 0, 5, 7⟩, ⟨a, 0, 5, 15⟩, ⟨0 + 0, 0, 5, 20⟩] ++ numP 73 n)
  generalize hV : layN _ = V at *
  have e0 : ((fieldN V 0 7 : Nat) : Int) = lo := by
    have e := congrArg (fun v => fieldN v 0 7) hV
    simp only [List.cons_append, List.nil_append] at e
    simp [numP, layN, layFrom, field_or, piece_zero, field_zero] at e
    try simp (disch := decide) only [pf_out, pf_in, piece_zero, field_zero, Nat.or_zero, Nat.zero_or] at e
    try simp only [Int.reduceToNat, Nat.reducePow, Nat.reduceSub, Nat.div_one, Nat.reduceMul, Nat.mul_one] at e
    clear hV
    rw [← e]
    try simp only [fieldN, Nat.reducePow, Nat.div_one]
    try omega
  have e1 : ((fieldN V 7 5 : Nat) : Int) = d := by
    have e := congrArg (fun v => fieldN v 7 5) hV
    simp only [List.cons_append, List.nil_append] at e
    simp [numP, layN, layFrom, field_or, piece_zero, field_zero] at e
    try simp (disch := decide) only [pf_out, pf_in, piece_zero, field_zero, Nat.or_zero, Nat.zero_or] at e
    try simp only [Int.reduceToNat, Nat.reducePow, Nat.reduceSub, Nat.div_one, Nat.reduceMul, Nat.mul_one] at e
    clear hV
    rw [← e]
    try simp only [fieldN, Nat.reducePow, Nat.div_one]
    try omega
  have e2 : ((fieldN V 12 3 : Nat) : Int) = mi := by
    have e := congrArg (fun v => fieldN v 12 3) hV
    simp only [List.cons_append, List.nil_append] at e
    simp [numP, layN, layFrom, field_or, piece_zero, field_zero] at e
    try simp (disch := decide) only [pf_out, pf_in, piece_zero, field_zero, Nat.or_zero, Nat.zero_or] at e
    try simp only [Int.reduceToNat, Nat.reducePow, Nat.reduceSub, Nat.div_one, Nat.reduceMul, Nat.mul_one] at e
    clear hV
    rw [← e]
    try simp only [fieldN, Nat.reducePow, Nat.div_one]
    try omega
  have e3 : ((fieldN V 15 5 : Nat) : Int) = a := by
    have e := congrArg (fun v => fieldN v 15 5) hV
    simp only [List.cons_append, List.nil_append] at e
    simp [numP, layN, layFrom, field_or, piece_zero, field_zero] at e
    try simp (disch := decide) only [pf_out, pf_in, piece_zero, field_zero, Nat.or_zero, Nat.zero_or] at e
    try simp only [Int.reduceToNat, Nat.reducePow, Nat.reduceSub, Nat.div_one, Nat.reduceMul, Nat.mul_one] at e
    clear hV
    rw [← e]
    try simp only [fieldN, Nat.reducePow, Nat.div_one]
    try omega
  have e4 : ((fieldN V 20 12 : Nat) : Int) = ((fieldN (n % 4294967296).toNat 0 12 : Nat) : Int) := by
    have e := congrArg (fun v => fieldN v 20 12) hV
    simp only [List.cons_append, List.nil_append] at e
    simp [numP, layN, layFrom, field_or, piece_zero, field_zero] at e
    try simp (disch := decide) only [pf_out, pf_in, piece_zero, field_zero, Nat.or_zero, Nat.zero_or] at e
    try simp only [Int.reduceToNat, Nat.reducePow, Nat.reduceSub, Nat.div_one, Nat.reduceMul, Nat.mul_one] at e
    clear hV
    rw [← e]
    try simp only [fieldN, Nat.reducePow, Nat.div_one]
    try omega
  have hs := split_4 V hlt
  clear hV hlt
  generalize fieldN V 0 7 = q0, fieldN V 7 5 = q1, fieldN V 12 3 = q2, fieldN V 15 5 = q3, fieldN V 20 12 = q4 at *
  generalize fieldN (n % 4294967296).toNat 0 12 = t0 at *
  clear hlo
  omega
set_option maxRecDepth 10000 in
set_option maxHeartbeats 1000000 in
theorem encS_67 (x : Ins) (h : rightB x = true) (hfo : (rowT x.op).form = 67) : ((encN x : Nat) : Int) = (rowT x.op).low + (rowT x.op).mid * 4096 + x.a * 32768 + x.d * 128 + ((fieldN (x.n % 4294967296).toNat 0 12 : Nat) : Int) * 1048576 := by
  obtain ⟨h0, hd, ha, hb, hn1, hn2, hn3⟩ := right_parts h
  obtain ⟨hr, hop⟩ := row_facts h0
  have hfx := fixed_bd x.op
  clear h
  simp only [rowB, hop, Bool.and_eq_true, decide_eq_true_eq, Bool.or_eq_true, beq_iff_eq] at hr
  obtain ⟨⟨hlo, z1, z2, z3, z4⟩, _⟩ := hr
  unfold encN headP
  unfold shX at hd ha hb hn1 hn2 hn3
  obtain ⟨op, d, a, b, n⟩ := x
  simp only at *
  generalize rowT op = r at *
  obtain ⟨nm, f, lo, mi, hi⟩ := r
  simp only at *
  generalize fixedN op = fx at *
  subst hfo
  clear hop h0
  simp [shapeT] at hd ha hb hn1 hn2 hn3 z1 z2 z3 z4
  try (obtain ⟨_, _, rfl⟩ := hd)
  try (obtain ⟨_, _, rfl⟩ := ha)
  try (obtain ⟨_, _, rfl⟩ := hb)
  try subst z1
  try subst z2
  try subst z4
  have hlt := layN_lt ([⟨lo, 0, 7, 0⟩, ⟨mi, 0, 3, 12⟩, ⟨0, 0, 7, 25⟩, ⟨d, 0, 5, 7⟩, ⟨a, 0, 5, 15⟩, ⟨0 + 0, 0, 5, 20⟩] ++ numP 67 n)
  generalize hV : layN _ = V at *
  have e0 : ((fieldN V 0 7 : Nat) : Int) = lo := by
    have e := congrArg (fun v => fieldN v 0 7) hV
    simp only [List.cons_append, List.nil_append] at e
    simp [numP, layN, layFrom, field_or, piece_zero, field_zero] at e
    try simp (disch := decide) only [pf_out, pf_in, piece_zero, field_zero, Nat.or_zero, Nat.zero_or] at e
    try simp only [Int.reduceToNat, Nat.reducePow, Nat.reduceSub, Nat.div_one, Nat.reduceMul, Nat.mul_one] at e
    clear hV
    rw [← e]
    try simp only [fieldN, Nat.reducePow, Nat.div_one]
    try omega
  have e1 : ((fieldN V 7 5 : Nat) : Int) = d := by
    have e := congrArg (fun v => fieldN v 7 5) hV
    simp only [List.cons_append, List.nil_append] at e
    simp [numP, layN, layFrom, field_or, piece_zero, field_zero] at e
    try simp (disch := decide) only [pf_out, pf_in, piece_zero, field_zero, Nat.or_zero, Nat.zero_or] at e
    try simp only [Int.reduceToNat, Nat.reducePow, Nat.reduceSub, Nat.div_one, Nat.reduceMul, Nat.mul_one] at e
    clear hV
    rw [← e]
    try simp only [fieldN, Nat.reducePow, Nat.div_one]
    try omega
  have e2 : ((fieldN V 12 3 : Nat) : Int) = mi := by
    have e := congrArg (fun v => fieldN v 12 3) hV
    simp only [List.cons_append, List.nil_append] at e
    simp [numP, layN, layFrom, field_or, piece_zero, field_zero] at e
    try simp (disch := decide) only [pf_out, pf_in, piece_zero, field_zero, Nat.or_zero, Nat.zero_or] at e
    try simp only [Int.reduceToNat, Nat.reducePow, Nat.reduceSub, Nat.div_one, Nat.reduceMul, Nat.mul_one] at e
    clear hV
    rw [← e]
    try simp only [fieldN, Nat.reducePow, Nat.div_one]
    try omega
  have e3 : ((fieldN V 15 5 : Nat) : Int) = a := by
    have e := congrArg (fun v => fieldN v 15 5) hV
    simp only [List.cons_append, List.nil_append] at e
    simp [numP, layN, layFrom, field_or, piece_zero, field_zero] at e
    try simp (disch := decide) only [pf_out, pf_in, piece_zero, field_zero, Nat.or_zero, Nat.zero_or] at e
    try simp only [Int.reduceToNat, Nat.reducePow, Nat.reduceSub, Nat.div_one, Nat.reduceMul, Nat.mul_one] at e
    clear hV
    rw [← e]
    try simp only [fieldN, Nat.reducePow, Nat.div_one]
    try omega
  have e4 : ((fieldN V 20 12 : Nat) : Int) = ((fieldN (n % 4294967296).toNat 0 12 : Nat) : Int) := by
    have e := congrArg (fun v => fieldN v 20 12) hV
    simp only [List.cons_append, List.nil_append] at e
    simp [numP, layN, layFrom, field_or, piece_zero, field_zero] at e
    try simp (disch := decide) only [pf_out, pf_in, piece_zero, field_zero, Nat.or_zero, Nat.zero_or] at e
    try simp only [Int.reduceToNat, Nat.reducePow, Nat.reduceSub, Nat.div_one, Nat.reduceMul, Nat.mul_one] at e
    clear hV
    rw [← e]
    try simp only [fieldN, Nat.reducePow, Nat.div_one]
    try omega
  have hs := split_4 V hlt
  clear hV hlt
  generalize fieldN V 0 7 = q0, fieldN V 7 5 = q1, fieldN V 12 3 = q2, fieldN V 15 5 = q3, fieldN V 20 12 = q4 at *
  generalize fieldN (n % 4294967296).toNat 0 12 = t0 at *
  clear hlo
  omega
set_option maxRecDepth 10000 in
set_option maxHeartbeats 1000000 in
theorem encS_72 (x : Ins) (h : rightB x = true) (hfo : (rowT x.op).form = 72) : ((encN x : Nat) : Int) = (rowT x.op).low + (rowT x.op).mid * 4096 + x.a * 32768 + x.d * 128 + x.n * 1048576 + (rowT x.op).high * 33554432 := by
  obtain ⟨h0, hd, ha, hb, hn1, hn2, hn3⟩ := right_parts h
  obtain ⟨hr, hop⟩ := row_facts h0
  have hfx := fixed_bd x.op
  clear h
  simp only [rowB, hop, Bool.and_eq_true, decide_eq_true_eq, Bool.or_eq_true, beq_iff_eq] at hr
  obtain ⟨⟨hlo, z1, z2, z3, z4⟩, _⟩ := hr
  unfold encN headP
  unfold shX at hd ha hb hn1 hn2 hn3
  obtain ⟨op, d, a, b, n⟩ := x
  simp only at *
  generalize rowT op = r at *
  obtain ⟨nm, f, lo, mi, hi⟩ := r
  simp only at *
  generalize fixedN op = fx at *
  subst hfo
  clear hop h0
  simp [shapeT] at hd ha hb hn1 hn2 hn3 z1 z2 z3 z4
  try (obtain ⟨_, _, rfl⟩ := hd)
  try (obtain ⟨_, _, rfl⟩ := ha)
  try (obtain ⟨_, _, rfl⟩ := hb)
  try subst z1
  try subst z2
  try subst z4
  have hlt := layN_lt ([⟨lo, 0, 7, 0⟩, ⟨mi, 0, 3, 12⟩, ⟨hi, 0, 7, 25⟩, ⟨d, 0, 5, 7⟩, ⟨a, 0, 5, 15⟩, ⟨0 + 0, 0, 5, 20⟩] ++ numP 72 n)
  generalize hV : layN _ = V at *
  have e0 : ((fieldN V 0 7 : Nat) : Int) = lo := by
    have e := congrArg (fun v => fieldN v 0 7) hV
    simp only [List.cons_append, List.nil_append] at e
    simp [numP, layN, layFrom, field_or, piece_zero, field_zero] at e
    try simp (disch := decide) only [pf_out, pf_in, piece_zero, field_zero, Nat.or_zero, Nat.zero_or] at e
    try simp only [Int.reduceToNat, Nat.reducePow, Nat.reduceSub, Nat.div_one, Nat.reduceMul, Nat.mul_one] at e
    clear hV
    rw [← e]
    try simp only [fieldN, Nat.reducePow, Nat.div_one]
    try omega
  have e1 : ((fieldN V 7 5 : Nat) : Int) = d := by
    have e := congrArg (fun v => fieldN v 7 5) hV
    simp only [List.cons_append, List.nil_append] at e
    simp [numP, layN, layFrom, field_or, piece_zero, field_zero] at e
    try simp (disch := decide) only [pf_out, pf_in, piece_zero, field_zero, Nat.or_zero, Nat.zero_or] at e
    try simp only [Int.reduceToNat, Nat.reducePow, Nat.reduceSub, Nat.div_one, Nat.reduceMul, Nat.mul_one] at e
    clear hV
    rw [← e]
    try simp only [fieldN, Nat.reducePow, Nat.div_one]
    try omega
  have e2 : ((fieldN V 12 3 : Nat) : Int) = mi := by
    have e := congrArg (fun v => fieldN v 12 3) hV
    simp only [List.cons_append, List.nil_append] at e
    simp [numP, layN, layFrom, field_or, piece_zero, field_zero] at e
    try simp (disch := decide) only [pf_out, pf_in, piece_zero, field_zero, Nat.or_zero, Nat.zero_or] at e
    try simp only [Int.reduceToNat, Nat.reducePow, Nat.reduceSub, Nat.div_one, Nat.reduceMul, Nat.mul_one] at e
    clear hV
    rw [← e]
    try simp only [fieldN, Nat.reducePow, Nat.div_one]
    try omega
  have e3 : ((fieldN V 15 5 : Nat) : Int) = a := by
    have e := congrArg (fun v => fieldN v 15 5) hV
    simp only [List.cons_append, List.nil_append] at e
    simp [numP, layN, layFrom, field_or, piece_zero, field_zero] at e
    try simp (disch := decide) only [pf_out, pf_in, piece_zero, field_zero, Nat.or_zero, Nat.zero_or] at e
    try simp only [Int.reduceToNat, Nat.reducePow, Nat.reduceSub, Nat.div_one, Nat.reduceMul, Nat.mul_one] at e
    clear hV
    rw [← e]
    try simp only [fieldN, Nat.reducePow, Nat.div_one]
    try omega
  have e4 : ((fieldN V 20 5 : Nat) : Int) = n := by
    have e := congrArg (fun v => fieldN v 20 5) hV
    simp only [List.cons_append, List.nil_append] at e
    simp [numP, layN, layFrom, field_or, piece_zero, field_zero] at e
    try simp (disch := decide) only [pf_out, pf_in, piece_zero, field_zero, Nat.or_zero, Nat.zero_or] at e
    try simp only [Int.reduceToNat, Nat.reducePow, Nat.reduceSub, Nat.div_one, Nat.reduceMul, Nat.mul_one] at e
    clear hV
    rw [← e]
    try simp only [fieldN, Nat.reducePow, Nat.div_one]
    try omega
  have e5 : ((fieldN V 25 7 : Nat) : Int) = hi := by
    have e := congrArg (fun v => fieldN v 25 7) hV
    simp only [List.cons_append, List.nil_append] at e
    simp [numP, layN, layFrom, field_or, piece_zero, field_zero] at e
    try simp (disch := decide) only [pf_out, pf_in, piece_zero, field_zero, Nat.or_zero, Nat.zero_or] at e
    try simp only [Int.reduceToNat, Nat.reducePow, Nat.reduceSub, Nat.div_one, Nat.reduceMul, Nat.mul_one] at e
    clear hV
    rw [← e]
    try simp only [fieldN, Nat.reducePow, Nat.div_one]
    try omega
  have hs := split_2 V hlt
  clear hV hlt
  generalize fieldN V 0 7 = q0, fieldN V 7 5 = q1, fieldN V 12 3 = q2, fieldN V 15 5 = q3, fieldN V 20 5 = q4, fieldN V 25 7 = q5 at *
  clear hlo
  omega
set_option maxRecDepth 10000 in
set_option maxHeartbeats 1000000 in
theorem encS_83 (x : Ins) (h : rightB x = true) (hfo : (rowT x.op).form = 83) : ((encN x : Nat) : Int) = (rowT x.op).low + (rowT x.op).mid * 4096 + x.a * 32768 + ((fieldN (x.n % 4294967296).toNat 0 5 : Nat) : Int) * 128 + x.b * 1048576 + ((fieldN (x.n % 4294967296).toNat 5 7 : Nat) : Int) * 33554432 := by
  obtain ⟨h0, hd, ha, hb, hn1, hn2, hn3⟩ := right_parts h
  obtain ⟨hr, hop⟩ := row_facts h0
  have hfx := fixed_bd x.op
  clear h
  simp only [rowB, hop, Bool.and_eq_true, decide_eq_true_eq, Bool.or_eq_true, beq_iff_eq] at hr
  obtain ⟨⟨hlo, z1, z2, z3, z4⟩, _⟩ := hr
  unfold encN headP
  unfold shX at hd ha hb hn1 hn2 hn3
  obtain ⟨op, d, a, b, n⟩ := x
  simp only at *
  generalize rowT op = r at *
  obtain ⟨nm, f, lo, mi, hi⟩ := r
  simp only at *
  generalize fixedN op = fx at *
  subst hfo
  clear hop h0
  simp [shapeT] at hd ha hb hn1 hn2 hn3 z1 z2 z3 z4
  try (obtain ⟨_, _, rfl⟩ := hd)
  try (obtain ⟨_, _, rfl⟩ := ha)
  try (obtain ⟨_, _, rfl⟩ := hb)
  try subst z1
  try subst z2
  try subst z4
  have hlt := layN_lt ([⟨lo, 0, 7, 0⟩, ⟨mi, 0, 3, 12⟩, ⟨0, 0, 7, 25⟩, ⟨0, 0, 5, 7⟩, ⟨a, 0, 5, 15⟩, ⟨b + 0, 0, 5, 20⟩] ++ numP 83 n)
  generalize hV : layN _ = V at *
  have e0 : ((fieldN V 0 7 : Nat) : Int) = lo := by
    have e := congrArg (fun v => fieldN v 0 7) hV
    simp only [List.cons_append, List.nil_append] at e
    simp [numP, layN, layFrom, field_or, piece_zero, field_zero] at e
    try simp (disch := decide) only [pf_out, pf_in, piece_zero, field_zero, Nat.or_zero, Nat.zero_or] at e
    try simp only [Int.reduceToNat, Nat.reducePow, Nat.reduceSub, Nat.div_one, Nat.reduceMul, Nat.mul_one] at e
    clear hV
    rw [← e]
    try simp only [fieldN, Nat.reducePow, Nat.div_one]
    try omega
  have e1 : ((fieldN V 7 5 : Nat) : Int) = ((fieldN (n % 4294967296).toNat 0 5 : Nat) : Int) := by
    have e := congrArg (fun v => fieldN v 7 5) hV
    simp only [List.cons_append, List.nil_append] at e
    simp [numP, layN, layFrom, field_or, piece_zero, field_zero] at e
    try simp (disch := decide) only [pf_out, pf_in, piece_zero, field_zero, Nat.or_zero, Nat.zero_or] at e
    try simp only [Int.reduceToNat, Nat.reducePow, Nat.reduceSub, Nat.div_one, Nat.reduceMul, Nat.mul_one] at e
    clear hV
    rw [← e]
    try simp only [fieldN, Nat.reducePow, Nat.div_one]
    try omega
  have e2 : ((fieldN V 12 3 : Nat) : Int) = mi := by
    have e := congrArg (fun v => fieldN v 12 3) hV
    simp only [List.cons_append, List.nil_append] at e
    simp [numP, layN, layFrom, field_or, piece_zero, field_zero] at e
    try simp (disch := decide) only [pf_out, pf_in, piece_zero, field_zero, Nat.or_zero, Nat.zero_or] at e
    try simp only [Int.reduceToNat, Nat.reducePow, Nat.reduceSub, Nat.div_one, Nat.reduceMul, Nat.mul_one] at e
    clear hV
    rw [← e]
    try simp only [fieldN, Nat.reducePow, Nat.div_one]
    try omega
  have e3 : ((fieldN V 15 5 : Nat) : Int) = a := by
    have e := congrArg (fun v => fieldN v 15 5) hV
    simp only [List.cons_append, List.nil_append] at e
    simp [numP, layN, layFrom, field_or, piece_zero, field_zero] at e
    try simp (disch := decide) only [pf_out, pf_in, piece_zero, field_zero, Nat.or_zero, Nat.zero_or] at e
    try simp only [Int.reduceToNat, Nat.reducePow, Nat.reduceSub, Nat.div_one, Nat.reduceMul, Nat.mul_one] at e
    clear hV
    rw [← e]
    try simp only [fieldN, Nat.reducePow, Nat.div_one]
    try omega
  have e4 : ((fieldN V 20 5 : Nat) : Int) = b := by
    have e := congrArg (fun v => fieldN v 20 5) hV
    simp only [List.cons_append, List.nil_append] at e
    simp [numP, layN, layFrom, field_or, piece_zero, field_zero] at e
    try simp (disch := decide) only [pf_out, pf_in, piece_zero, field_zero, Nat.or_zero, Nat.zero_or] at e
    try simp only [Int.reduceToNat, Nat.reducePow, Nat.reduceSub, Nat.div_one, Nat.reduceMul, Nat.mul_one] at e
    clear hV
    rw [← e]
    try simp only [fieldN, Nat.reducePow, Nat.div_one]
    try omega
  have e5 : ((fieldN V 25 7 : Nat) : Int) = ((fieldN (n % 4294967296).toNat 5 7 : Nat) : Int) := by
    have e := congrArg (fun v => fieldN v 25 7) hV
    simp only [List.cons_append, List.nil_append] at e
    simp [numP, layN, layFrom, field_or, piece_zero, field_zero] at e
    try simp (disch := decide) only [pf_out, pf_in, piece_zero, field_zero, Nat.or_zero, Nat.zero_or] at e
    try simp only [Int.reduceToNat, Nat.reducePow, Nat.reduceSub, Nat.div_one, Nat.reduceMul, Nat.mul_one] at e
    clear hV
    rw [← e]
    try simp only [fieldN, Nat.reducePow, Nat.div_one]
    try omega
  have hs := split_2 V hlt
  clear hV hlt
  generalize fieldN V 0 7 = q0, fieldN V 7 5 = q1, fieldN V 12 3 = q2, fieldN V 15 5 = q3, fieldN V 20 5 = q4, fieldN V 25 7 = q5 at *
  generalize fieldN (n % 4294967296).toNat 0 5 = t0, fieldN (n % 4294967296).toNat 5 7 = t1 at *
  clear hlo
  omega
set_option maxRecDepth 10000 in
set_option maxHeartbeats 1000000 in
theorem encS_66 (x : Ins) (h : rightB x = true) (hfo : (rowT x.op).form = 66) : ((encN x : Nat) : Int) = (rowT x.op).low + (rowT x.op).mid * 4096 + x.a * 32768 + ((fieldN (x.n % 4294967296).toNat 11 1 : Nat) : Int) * 128 + ((fieldN (x.n % 4294967296).toNat 1 4 : Nat) : Int) * 256 + x.b * 1048576 + ((fieldN (x.n % 4294967296).toNat 5 6 : Nat) : Int) * 33554432 + ((fieldN (x.n % 4294967296).toNat 12 1 : Nat) : Int) * 2147483648 := by
  obtain ⟨h0, hd, ha, hb, hn1, hn2, hn3⟩ := right_parts h
  obtain ⟨hr, hop⟩ := row_facts h0
  have hfx := fixed_bd x.op
  clear h
  simp only [rowB, hop, Bool.and_eq_true, decide_eq_true_eq, Bool.or_eq_true, beq_iff_eq] at hr
  obtain ⟨⟨hlo, z1, z2, z3, z4⟩, _⟩ := hr
  unfold encN headP
  unfold shX at hd ha hb hn1 hn2 hn3
  obtain ⟨op, d, a, b, n⟩ := x
  simp only at *
  generalize rowT op = r at *
  obtain ⟨nm, f, lo, mi, hi⟩ := r
  simp only at *
  generalize fixedN op = fx at *
  subst hfo
  clear hop h0
  simp [shapeT] at hd ha hb hn1 hn2 hn3 z1 z2 z3 z4
  try (obtain ⟨_, _, rfl⟩ := hd)
  try (obtain ⟨_, _, rfl⟩ := ha)
  try (obtain ⟨_, _, rfl⟩ := hb)
  try subst z1
  try subst z2
  try subst z4
  have hlt := layN_lt ([⟨lo, 0, 7, 0⟩, ⟨mi, 0, 3, 12⟩, ⟨0, 0, 7, 25⟩, ⟨0, 0, 5, 7⟩, ⟨a, 0, 5, 15⟩, ⟨b + 0, 0, 5, 20⟩] ++ numP 66 n)
  generalize hV : layN _ = V at *
  have e0 : ((fieldN V 0 7 : Nat) : Int) = lo := by
    have e := congrArg (fun v => fieldN v 0 7) hV
    simp only [List.cons_append, List.nil_append] at e
    simp [numP, layN, layFrom, field_or, piece_zero, field_zero] at e
    try simp (disch := decide) only [pf_out, pf_in, piece_zero, field_zero, Nat.or_zero, Nat.zero_or] at e
    try simp only [Int.reduceToNat, Nat.reducePow, Nat.reduceSub, Nat.div_one, Nat.reduceMul, Nat.mul_one] at e
    clear hV
    rw [← e]
    try simp only [fieldN, Nat.reducePow, Nat.div_one]
    try omega
  have e1 : ((fieldN V 7 1 : Nat) : Int) = ((fieldN (n % 4294967296).toNat 11 1 : Nat) : Int) := by
    have e := congrArg (fun v => fieldN v 7 1) hV
    simp only [List.cons_append, List.nil_append] at e
    simp [numP, layN, layFrom, field_or, piece_zero, field_zero] at e
    try simp (disch := decide) only [pf_out, pf_in, piece_zero, field_zero, Nat.or_zero, Nat.zero_or] at e
    try simp only [Int.reduceToNat, Nat.reducePow, Nat.reduceSub, Nat.div_one, Nat.reduceMul, Nat.mul_one] at e
    clear hV
    rw [← e]
    try simp only [fieldN, Nat.reducePow, Nat.div_one]
    try omega
  have e2 : ((fieldN V 8 4 : Nat) : Int) = ((fieldN (n % 4294967296).toNat 1 4 : Nat) : Int) := by
    have e := congrArg (fun v => fieldN v 8 4) hV
    simp only [List.cons_append, List.nil_append] at e
    simp [numP, layN, layFrom, field_or, piece_zero, field_zero] at e
    try simp (disch := decide) only [pf_out, pf_in, piece_zero, field_zero, Nat.or_zero, Nat.zero_or] at e
    try simp only [Int.reduceToNat, Nat.reducePow, Nat.reduceSub, Nat.div_one, Nat.reduceMul, Nat.mul_one] at e
    clear hV
    rw [← e]
    try simp only [fieldN, Nat.reducePow, Nat.div_one]
    try omega
  have e3 : ((fieldN V 12 3 : Nat) : Int) = mi := by
    have e := congrArg (fun v => fieldN v 12 3) hV
    simp only [List.cons_append, List.nil_append] at e
    simp [numP, layN, layFrom, field_or, piece_zero, field_zero] at e
    try simp (disch := decide) only [pf_out, pf_in, piece_zero, field_zero, Nat.or_zero, Nat.zero_or] at e
    try simp only [Int.reduceToNat, Nat.reducePow, Nat.reduceSub, Nat.div_one, Nat.reduceMul, Nat.mul_one] at e
    clear hV
    rw [← e]
    try simp only [fieldN, Nat.reducePow, Nat.div_one]
    try omega
  have e4 : ((fieldN V 15 5 : Nat) : Int) = a := by
    have e := congrArg (fun v => fieldN v 15 5) hV
    simp only [List.cons_append, List.nil_append] at e
    simp [numP, layN, layFrom, field_or, piece_zero, field_zero] at e
    try simp (disch := decide) only [pf_out, pf_in, piece_zero, field_zero, Nat.or_zero, Nat.zero_or] at e
    try simp only [Int.reduceToNat, Nat.reducePow, Nat.reduceSub, Nat.div_one, Nat.reduceMul, Nat.mul_one] at e
    clear hV
    rw [← e]
    try simp only [fieldN, Nat.reducePow, Nat.div_one]
    try omega
  have e5 : ((fieldN V 20 5 : Nat) : Int) = b := by
    have e := congrArg (fun v => fieldN v 20 5) hV
    simp only [List.cons_append, List.nil_append] at e
    simp [numP, layN, layFrom, field_or, piece_zero, field_zero] at e
    try simp (disch := decide) only [pf_out, pf_in, piece_zero, field_zero, Nat.or_zero, Nat.zero_or] at e
    try simp only [Int.reduceToNat, Nat.reducePow, Nat.reduceSub, Nat.div_one, Nat.reduceMul, Nat.mul_one] at e
    clear hV
    rw [← e]
    try simp only [fieldN, Nat.reducePow, Nat.div_one]
    try omega
  have e6 : ((fieldN V 25 6 : Nat) : Int) = ((fieldN (n % 4294967296).toNat 5 6 : Nat) : Int) := by
    have e := congrArg (fun v => fieldN v 25 6) hV
    simp only [List.cons_append, List.nil_append] at e
    simp [numP, layN, layFrom, field_or, piece_zero, field_zero] at e
    try simp (disch := decide) only [pf_out, pf_in, piece_zero, field_zero, Nat.or_zero, Nat.zero_or] at e
    try simp only [Int.reduceToNat, Nat.reducePow, Nat.reduceSub, Nat.div_one, Nat.reduceMul, Nat.mul_one] at e
    clear hV
    rw [← e]
    try simp only [fieldN, Nat.reducePow, Nat.div_one]
    try omega
  have e7 : ((fieldN V 31 1 : Nat) : Int) = ((fieldN (n % 4294967296).toNat 12 1 : Nat) : Int) := by
    have e := congrArg (fun v => fieldN v 31 1) hV
    simp only [List.cons_append, List.nil_append] at e
    simp [numP, layN, layFrom, field_or, piece_zero, field_zero] at e
    try simp (disch := decide) only [pf_out, pf_in, piece_zero, field_zero, Nat.or_zero, Nat.zero_or] at e
    try simp only [Int.reduceToNat, Nat.reducePow, Nat.reduceSub, Nat.div_one, Nat.reduceMul, Nat.mul_one] at e
    clear hV
    rw [← e]
    try simp only [fieldN, Nat.reducePow, Nat.div_one]
    try omega
  have hs := split_0 V hlt
  clear hV hlt
  generalize fieldN V 0 7 = q0, fieldN V 7 1 = q1, fieldN V 8 4 = q2, fieldN V 12 3 = q3, fieldN V 15 5 = q4, fieldN V 20 5 = q5, fieldN V 25 6 = q6, fieldN V 31 1 = q7 at *
  generalize fieldN (n % 4294967296).toNat 1 4 = t0, fieldN (n % 4294967296).toNat 11 1 = t1, fieldN (n % 4294967296).toNat 12 1 = t2, fieldN (n % 4294967296).toNat 5 6 = t3 at *
  clear hlo
  omega
set_option maxRecDepth 10000 in
set_option maxHeartbeats 1000000 in
theorem encS_85 (x : Ins) (h : rightB x = true) (hfo : (rowT x.op).form = 85) : ((encN x : Nat) : Int) = (rowT x.op).low + x.d * 128 + x.n * 4096 := by
  obtain ⟨h0, hd, ha, hb, hn1, hn2, hn3⟩ := right_parts h
  obtain ⟨hr, hop⟩ := row_facts h0
  have hfx := fixed_bd x.op
  clear h
  simp only [rowB, hop, Bool.and_eq_true, decide_eq_true_eq, Bool.or_eq_true, beq_iff_eq] at hr
  obtain ⟨⟨hlo, z1, z2, z3, z4⟩, _⟩ := hr
  unfold encN headP
  unfold shX at hd ha hb hn1 hn2 hn3
  obtain ⟨op, d, a, b, n⟩ := x
  simp only at *
  generalize rowT op = r at *
  obtain ⟨nm, f, lo, mi, hi⟩ := r
  simp only at *
  generalize fixedN op = fx at *
  subst hfo
  clear hop h0
  simp [shapeT] at hd ha hb hn1 hn2 hn3 z1 z2 z3 z4
  try (obtain ⟨_, _, rfl⟩ := hd)
  try (obtain ⟨_, _, rfl⟩ := ha)
  try (obtain ⟨_, _, rfl⟩ := hb)
  try subst z1
  try subst z2
  try subst z4
  have hlt := layN_lt ([⟨lo, 0, 7, 0⟩, ⟨0, 0, 3, 12⟩, ⟨0, 0, 7, 25⟩, ⟨d, 0, 5, 7⟩, ⟨0, 0, 5, 15⟩, ⟨0 + 0, 0, 5, 20⟩] ++ numP 85 n)
  generalize hV : layN _ = V at *
  have e0 : ((fieldN V 0 7 : Nat) : Int) = lo := by
    have e := congrArg (fun v => fieldN v 0 7) hV
    simp only [List.cons_append, List.nil_append] at e
    simp [numP, layN, layFrom, field_or, piece_zero, field_zero] at e
    try simp (disch := decide) only [pf_out, pf_in, piece_zero, field_zero, Nat.or_zero, Nat.zero_or] at e
    try simp only [Int.reduceToNat, Nat.reducePow, Nat.reduceSub, Nat.div_one, Nat.reduceMul, Nat.mul_one] at e
    clear hV
    rw [← e]
    try simp only [fieldN, Nat.reducePow, Nat.div_one]
    try omega
  have e1 : ((fieldN V 7 5 : Nat) : Int) = d := by
    have e := congrArg (fun v => fieldN v 7 5) hV
    simp only [List.cons_append, List.nil_append] at e
    simp [numP, layN, layFrom, field_or, piece_zero, field_zero] at e
    try simp (disch := decide) only [pf_out, pf_in, piece_zero, field_zero, Nat.or_zero, Nat.zero_or] at e
    try simp only [Int.reduceToNat, Nat.reducePow, Nat.reduceSub, Nat.div_one, Nat.reduceMul, Nat.mul_one] at e
    clear hV
    rw [← e]
    try simp only [fieldN, Nat.reducePow, Nat.div_one]
    try omega
  have e2 : ((fieldN V 12 20 : Nat) : Int) = n := by
    have e := congrArg (fun v => fieldN v 12 20) hV
    simp only [List.cons_append, List.nil_append] at e
    simp [numP, layN, layFrom, field_or, piece_zero, field_zero] at e
    try simp (disch := decide) only [pf_out, pf_in, piece_zero, field_zero, Nat.or_zero, Nat.zero_or] at e
    try simp only [Int.reduceToNat, Nat.reducePow, Nat.reduceSub, Nat.div_one, Nat.reduceMul, Nat.mul_one] at e
    clear hV
    rw [← e]
    try simp only [fieldN, Nat.reducePow, Nat.div_one]
    try omega
  have hs := split_6 V hlt
  clear hV hlt
  generalize fieldN V 0 7 = q0, fieldN V 7 5 = q1, fieldN V 12 20 = q2 at *
  clear hlo
  omega
set_option maxRecDepth 10000 in
set_option maxHeartbeats 1000000 in
theorem encS_74 (x : Ins) (h : rightB x = true) (hfo : (rowT x.op).form = 74) : ((encN x : Nat) : Int) = (rowT x.op).low + x.d * 128 + ((fieldN (x.n % 4294967296).toNat 12 8 : Nat) : Int) * 4096 + ((fieldN (x.n % 4294967296).toNat 11 1 : Nat) : Int) * 1048576 + ((fieldN (x.n % 4294967296).toNat 1 10 : Nat) : Int) * 2097152 + ((fieldN (x.n % 4294967296).toNat 20 1 : Nat) : Int) * 2147483648 := by
  obtain ⟨h0, hd, ha, hb, hn1, hn2, hn3⟩ := right_parts h
  obtain ⟨hr, hop⟩ := row_facts h0
  have hfx := fixed_bd x.op
  clear h
  simp only [rowB, hop, Bool.and_eq_true, decide_eq_true_eq, Bool.or_eq_true, beq_iff_eq] at hr
  obtain ⟨⟨hlo, z1, z2, z3, z4⟩, _⟩ := hr
  unfold encN headP
  unfold shX at hd ha hb hn1 hn2 hn3
  obtain ⟨op, d, a, b, n⟩ := x
  simp only at *
  generalize rowT op = r at *
  obtain ⟨nm, f, lo, mi, hi⟩ := r
  simp only at *
  generalize fixedN op = fx at *
  subst hfo
  clear hop h0
  simp [shapeT] at hd ha hb hn1 hn2 hn3 z1 z2 z3 z4
  try (obtain ⟨_, _, rfl⟩ := hd)
  try (obtain ⟨_, _, rfl⟩ := ha)
  try (obtain ⟨_, _, rfl⟩ := hb)
  try subst z1
  try subst z2
  try subst z4
  have hlt := layN_lt ([⟨lo, 0, 7, 0⟩, ⟨0, 0, 3, 12⟩, ⟨0, 0, 7, 25⟩, ⟨d, 0, 5, 7⟩, ⟨0, 0, 5, 15⟩, ⟨0 + 0, 0, 5, 20⟩] ++ numP 74 n)
  generalize hV : layN _ = V at *
  have e0 : ((fieldN V 0 7 : Nat) : Int) = lo := by
    have e := congrArg (fun v => fieldN v 0 7) hV
    simp only [List.cons_append, List.nil_append] at e
    simp [numP, layN, layFrom, field_or, piece_zero, field_zero] at e
    try simp (disch := decide) only [pf_out, pf_in, piece_zero, field_zero, Nat.or_zero, Nat.zero_or] at e
    try simp only [Int.reduceToNat, Nat.reducePow, Nat.reduceSub, Nat.div_one, Nat.reduceMul, Nat.mul_one] at e
    clear hV
    rw [← e]
    try simp only [fieldN, Nat.reducePow, Nat.div_one]
    try omega
  have e1 : ((fieldN V 7 5 : Nat) : Int) = d := by
    have e := congrArg (fun v => fieldN v 7 5) hV
    simp only [List.cons_append, List.nil_append] at e
    simp [numP, layN, layFrom, field_or, piece_zero, field_zero] at e
    try simp (disch := decide) only [pf_out, pf_in, piece_zero, field_zero, Nat.or_zero, Nat.zero_or] at e
    try simp only [Int.reduceToNat, Nat.reducePow, Nat.reduceSub, Nat.div_one, Nat.reduceMul, Nat.mul_one] at e
    clear hV
    rw [← e]
    try simp only [fieldN, Nat.reducePow, Nat.div_one]
    try omega
  have e2 : ((fieldN V 12 8 : Nat) : Int) = ((fieldN (n % 4294967296).toNat 12 8 : Nat) : Int) := by
    have e := congrArg (fun v => fieldN v 12 8) hV
    simp only [List.cons_append, List.nil_append] at e
    simp [numP, layN, layFrom, field_or, piece_zero, field_zero] at e
    try simp (disch := decide) only [pf_out, pf_in, piece_zero, field_zero, Nat.or_zero, Nat.zero_or] at e
    try simp only [Int.reduceToNat, Nat.reducePow, Nat.reduceSub, Nat.div_one, Nat.reduceMul, Nat.mul_one] at e
    clear hV
    rw [← e]
    try simp only [fieldN, Nat.reducePow, Nat.div_one]
    try omega
  have e3 : ((fieldN V 20 1 : Nat) : Int) = ((fieldN (n % 4294967296).toNat 11 1 : Nat) : Int) := by
    have e := congrArg (fun v => fieldN v 20 1) hV
    simp only [List.cons_append, List.nil_append] at e
    simp [numP, layN, layFrom, field_or, piece_zero, field_zero] at e
    try simp (disch := decide) only [pf_out, pf_in, piece_zero, field_zero, Nat.or_zero, Nat.zero_or] at e
    try simp only [Int.reduceToNat, Nat.reducePow, Nat.reduceSub, Nat.div_one, Nat.reduceMul, Nat.mul_one] at e
    clear hV
    rw [← e]
    try simp only [fieldN, Nat.reducePow, Nat.div_one]
    try omega
  have e4 : ((fieldN V 21 10 : Nat) : Int) = ((fieldN (n % 4294967296).toNat 1 10 : Nat) : Int) := by
    have e := congrArg (fun v => fieldN v 21 10) hV
    simp only [List.cons_append, List.nil_append] at e
    simp [numP, layN, layFrom, field_or, piece_zero, field_zero] at e
    try simp (disch := decide) only [pf_out, pf_in, piece_zero, field_zero, Nat.or_zero, Nat.zero_or] at e
    try simp only [Int.reduceToNat, Nat.reducePow, Nat.reduceSub, Nat.div_one, Nat.reduceMul, Nat.mul_one] at e
    clear hV
    rw [← e]
    try simp only [fieldN, Nat.reducePow, Nat.div_one]
    try omega
  have e5 : ((fieldN V 31 1 : Nat) : Int) = ((fieldN (n % 4294967296).toNat 20 1 : Nat) : Int) := by
    have e := congrArg (fun v => fieldN v 31 1) hV
    simp only [List.cons_append, List.nil_append] at e
    simp [numP, layN, layFrom, field_or, piece_zero, field_zero] at e
    try simp (disch := decide) only [pf_out, pf_in, piece_zero, field_zero, Nat.or_zero, Nat.zero_or] at e
    try simp only [Int.reduceToNat, Nat.reducePow, Nat.reduceSub, Nat.div_one, Nat.reduceMul, Nat.mul_one] at e
    clear hV
    rw [← e]
    try simp only [fieldN, Nat.reducePow, Nat.div_one]
    try omega
  have hs := split_5 V hlt
  clear hV hlt
  generalize fieldN V 0 7 = q0, fieldN V 7 5 = q1, fieldN V 12 8 = q2, fieldN V 20 1 = q3, fieldN V 21 10 = q4, fieldN V 31 1 = q5 at *
  generalize fieldN (n % 4294967296).toNat 1 10 = t0, fieldN (n % 4294967296).toNat 11 1 = t1, fieldN (n % 4294967296).toNat 12 8 = t2, fieldN (n % 4294967296).toNat 20 1 = t3 at *
  clear hlo
  omega
set_option maxRecDepth 10000 in
set_option maxHeartbeats 1000000 in
theorem encS_70 (x : Ins) (h : rightB x = true) (hfo : (rowT x.op).form = 70) : ((encN x : Nat) : Int) = (rowT x.op).low + (rowT x.op).mid * 4096 + x.a * 32768 + x.n * 1048576 := by
  obtain ⟨h0, hd, ha, hb, hn1, hn2, hn3⟩ := right_parts h
  obtain ⟨hr, hop⟩ := row_facts h0
  have hfx := fixed_bd x.op
  clear h
  simp only [rowB, hop, Bool.and_eq_true, decide_eq_true_eq, Bool.or_eq_true, beq_iff_eq] at hr
  obtain ⟨⟨hlo, z1, z2, z3, z4⟩, _⟩ := hr
  unfold encN headP
  unfold shX at hd ha hb hn1 hn2 hn3
  obtain ⟨op, d, a, b, n⟩ := x
  simp only at *
  generalize rowT op = r at *
  obtain ⟨nm, f, lo, mi, hi⟩ := r
  simp only at *
  generalize fixedN op = fx at *
  subst hfo
  clear hop h0
  simp [shapeT] at hd ha hb hn1 hn2 hn3 z1 z2 z3 z4
  try (obtain ⟨_, _, rfl⟩ := hd)
  try (obtain ⟨_, _, rfl⟩ := ha)
  try (obtain ⟨_, _, rfl⟩ := hb)
  try subst z1
  try subst z2
  try subst z4
  have hlt := layN_lt ([⟨lo, 0, 7, 0⟩, ⟨mi, 0, 3, 12⟩, ⟨0, 0, 7, 25⟩, ⟨0, 0, 5, 7⟩, ⟨0, 0, 5, 15⟩, ⟨0 + 0, 0, 5, 20⟩] ++ numP 70 n)
  generalize hV : layN _ = V at *
  have e0 : ((fieldN V 0 7 : Nat) : Int) = lo := by
    have e := congrArg (fun v => fieldN v 0 7) hV
    simp only [List.cons_append, List.nil_append] at e
    simp [numP, layN, layFrom, field_or, piece_zero, field_zero] at e
    try simp (disch := decide) only [pf_out, pf_in, piece_zero, field_zero, Nat.or_zero, Nat.zero_or] at e
    try simp only [Int.reduceToNat, Nat.reducePow, Nat.reduceSub, Nat.div_one, Nat.reduceMul, Nat.mul_one] at e
    clear hV
    rw [← e]
    try simp only [fieldN, Nat.reducePow, Nat.div_one]
    try omega
  have e1 : ((fieldN V 7 5 : Nat) : Int) = 0 := by
    have e := congrArg (fun v => fieldN v 7 5) hV
    simp only [List.cons_append, List.nil_append] at e
    simp [numP, layN, layFrom, field_or, piece_zero, field_zero] at e
    try simp (disch := decide) only [pf_out, pf_in, piece_zero, field_zero, Nat.or_zero, Nat.zero_or] at e
    try simp only [Int.reduceToNat, Nat.reducePow, Nat.reduceSub, Nat.div_one, Nat.reduceMul, Nat.mul_one] at e
    clear hV
    rw [← e]
    try simp only [fieldN, Nat.reducePow, Nat.div_one]
    try omega
  have e2 : ((fieldN V 12 3 : Nat) : Int) = mi := by
    have e := congrArg (fun v => fieldN v 12 3) hV
    simp only [List.cons_append, List.nil_append] at e
    simp [numP, layN, layFrom, field_or, piece_zero, field_zero] at e
    try simp (disch := decide) only [pf_out, pf_in, piece_zero, field_zero, Nat.or_zero, Nat.zero_or] at e
    try simp only [Int.reduceToNat, Nat.reducePow, Nat.reduceSub, Nat.div_one, Nat.reduceMul, Nat.mul_one] at e
    clear hV
    rw [← e]
    try simp only [fieldN, Nat.reducePow, Nat.div_one]
    try omega
  have e3 : ((fieldN V 15 5 : Nat) : Int) = 0 := by
    have e := congrArg (fun v => fieldN v 15 5) hV
    simp only [List.cons_append, List.nil_append] at e
    simp [numP, layN, layFrom, field_or, piece_zero, field_zero] at e
    try simp (disch := decide) only [pf_out, pf_in, piece_zero, field_zero, Nat.or_zero, Nat.zero_or] at e
    try simp only [Int.reduceToNat, Nat.reducePow, Nat.reduceSub, Nat.div_one, Nat.reduceMul, Nat.mul_one] at e
    clear hV
    rw [← e]
    try simp only [fieldN, Nat.reducePow, Nat.div_one]
    try omega
  have e4 : ((fieldN V 20 8 : Nat) : Int) = n := by
    have e := congrArg (fun v => fieldN v 20 8) hV
    simp only [List.cons_append, List.nil_append] at e
    simp [numP, layN, layFrom, field_or, piece_zero, field_zero] at e
    try simp (disch := decide) only [pf_out, pf_in, piece_zero, field_zero, Nat.or_zero, Nat.zero_or] at e
    try simp only [Int.reduceToNat, Nat.reducePow, Nat.reduceSub, Nat.div_one, Nat.reduceMul, Nat.mul_one] at e
    clear hV
    rw [← e]
    try simp only [fieldN, Nat.reducePow, Nat.div_one]
    try omega
  have e5 : ((fieldN V 28 4 : Nat) : Int) = 0 := by
    have e := congrArg (fun v => fieldN v 28 4) hV
    simp only [List.cons_append, List.nil_append] at e
    simp [numP, layN, layFrom, field_or, piece_zero, field_zero] at e
    try simp (disch := decide) only [pf_out, pf_in, piece_zero, field_zero, Nat.or_zero, Nat.zero_or] at e
    try simp only [Int.reduceToNat, Nat.reducePow, Nat.reduceSub, Nat.div_one, Nat.reduceMul, Nat.mul_one] at e
    clear hV
    rw [← e]
    try simp only [fieldN, Nat.reducePow, Nat.div_one]
    try omega
  have hs := split_3 V hlt
  clear hV hlt
  generalize fieldN V 0 7 = q0, fieldN V 7 5 = q1, fieldN V 12 3 = q2, fieldN V 15 5 = q3, fieldN V 20 8 = q4, fieldN V 28 4 = q5 at *
  clear hlo
  omega
set_option maxRecDepth 10000 in
set_option maxHeartbeats 1000000 in
theorem encS_90 (x : Ins) (h : rightB x = true) (hfo : (rowT x.op).form = 90) : ((encN x : Nat) : Int) = (rowT x.op).low + (rowT x.op).mid * 4096 + x.a * 32768 + (rowT x.op).high * 33554432 + fixedN x.op * 1048576 := by
  obtain ⟨h0, hd, ha, hb, hn1, hn2, hn3⟩ := right_parts h
  obtain ⟨hr, hop⟩ := row_facts h0
  have hfx := fixed_bd x.op
  clear h
  simp only [rowB, hop, Bool.and_eq_true, decide_eq_true_eq, Bool.or_eq_true, beq_iff_eq] at hr
  obtain ⟨⟨hlo, z1, z2, z3, z4⟩, _⟩ := hr
  unfold encN headP
  unfold shX at hd ha hb hn1 hn2 hn3
  obtain ⟨op, d, a, b, n⟩ := x
  simp only at *
  generalize rowT op = r at *
  obtain ⟨nm, f, lo, mi, hi⟩ := r
  simp only at *
  generalize fixedN op = fx at *
  subst hfo
  clear hop h0
  simp [shapeT] at hd ha hb hn1 hn2 hn3 z1 z2 z3 z4
  try (obtain ⟨_, _, rfl⟩ := hd)
  try (obtain ⟨_, _, rfl⟩ := ha)
  try (obtain ⟨_, _, rfl⟩ := hb)
  try subst z1
  try subst z2
  try subst z4
  have hlt := layN_lt ([⟨lo, 0, 7, 0⟩, ⟨mi, 0, 3, 12⟩, ⟨hi, 0, 7, 25⟩, ⟨0, 0, 5, 7⟩, ⟨0, 0, 5, 15⟩, ⟨0 + fx, 0, 5, 20⟩] ++ numP 90 n)
  generalize hV : layN _ = V at *
  have e0 : ((fieldN V 0 7 : Nat) : Int) = lo := by
    have e := congrArg (fun v => fieldN v 0 7) hV
    simp only [List.cons_append, List.nil_append] at e
    simp [numP, layN, layFrom, field_or, piece_zero, field_zero] at e
    try simp (disch := decide) only [pf_out, pf_in, piece_zero, field_zero, Nat.or_zero, Nat.zero_or] at e
    try simp only [Int.reduceToNat, Nat.reducePow, Nat.reduceSub, Nat.div_one, Nat.reduceMul, Nat.mul_one] at e
    clear hV
    rw [← e]
    try simp only [fieldN, Nat.reducePow, Nat.div_one]
    try omega
  have e1 : ((fieldN V 7 5 : Nat) : Int) = 0 := by
    have e := congrArg (fun v => fieldN v 7 5) hV
    simp only [List.cons_append, List.nil_append] at e
    simp [numP, layN, layFrom, field_or, piece_zero, field_zero] at e
    try simp (disch := decide) only [pf_out, pf_in, piece_zero, field_zero, Nat.or_zero, Nat.zero_or] at e
    try simp only [Int.reduceToNat, Nat.reducePow, Nat.reduceSub, Nat.div_one, Nat.reduceMul, Nat.mul_one] at e
    clear hV
    rw [← e]
    try simp only [fieldN, Nat.reducePow, Nat.div_one]
    try omega
  have e2 : ((fieldN V 12 3 : Nat) : Int) = mi := by
    have e := congrArg (fun v => fieldN v 12 3) hV
    simp only [List.cons_append, List.nil_append] at e
    simp [numP, layN, layFrom, field_or, piece_zero, field_zero] at e
    try simp (disch := decide) only [pf_out, pf_in, piece_zero, field_zero, Nat.or_zero, Nat.zero_or] at e
    try simp only [Int.reduceToNat, Nat.reducePow, Nat.reduceSub, Nat.div_one, Nat.reduceMul, Nat.mul_one] at e
    clear hV
    rw [← e]
    try simp only [fieldN, Nat.reducePow, Nat.div_one]
    try omega
  have e3 : ((fieldN V 15 5 : Nat) : Int) = 0 := by
    have e := congrArg (fun v => fieldN v 15 5) hV
    simp only [List.cons_append, List.nil_append] at e
    simp [numP, layN, layFrom, field_or, piece_zero, field_zero] at e
    try simp (disch := decide) only [pf_out, pf_in, piece_zero, field_zero, Nat.or_zero, Nat.zero_or] at e
    try simp only [Int.reduceToNat, Nat.reducePow, Nat.reduceSub, Nat.div_one, Nat.reduceMul, Nat.mul_one] at e
    clear hV
    rw [← e]
    try simp only [fieldN, Nat.reducePow, Nat.div_one]
    try omega
  have e4 : ((fieldN V 20 5 : Nat) : Int) = fx := by
    have e := congrArg (fun v => fieldN v 20 5) hV
    simp only [List.cons_append, List.nil_append] at e
    simp [numP, layN, layFrom, field_or, piece_zero, field_zero] at e
    try simp (disch := decide) only [pf_out, pf_in, piece_zero, field_zero, Nat.or_zero, Nat.zero_or] at e
    try simp only [Int.reduceToNat, Nat.reducePow, Nat.reduceSub, Nat.div_one, Nat.reduceMul, Nat.mul_one] at e
    clear hV
    rw [← e]
    try simp only [fieldN, Nat.reducePow, Nat.div_one]
    try omega
  have e5 : ((fieldN V 25 7 : Nat) : Int) = hi := by
    have e := congrArg (fun v => fieldN v 25 7) hV
    simp only [List.cons_append, List.nil_append] at e
    simp [numP, layN, layFrom, field_or, piece_zero, field_zero] at e
    try simp (disch := decide) only [pf_out, pf_in, piece_zero, field_zero, Nat.or_zero, Nat.zero_or] at e
    try simp only [Int.reduceToNat, Nat.reducePow, Nat.reduceSub, Nat.div_one, Nat.reduceMul, Nat.mul_one] at e
    clear hV
    rw [← e]
    try simp only [fieldN, Nat.reducePow, Nat.div_one]
    try omega
  have hs := split_2 V hlt
  clear hV hlt
  generalize fieldN V 0 7 = q0, fieldN V 7 5 = q1, fieldN V 12 3 = q2, fieldN V 15 5 = q3, fieldN V 20 5 = q4, fieldN V 25 7 = q5 at *
  clear hlo
  omega
set_option maxRecDepth 10000 in
set_option maxHeartbeats 1000000 in
theorem encS_76 (x : Ins) (h : rightB x = true) (hfo : (rowT x.op).form = 76) : ((encN x : Nat) : Int) = (rowT x.op).low + (rowT x.op).mid * 4096 + x.a * 32768 + x.d * 128 + x.b * 1048576 + ((rowT x.op).high + x.n) * 33554432 := by
  obtain ⟨h0, hd, ha, hb, hn1, hn2, hn3⟩ := right_parts h
  obtain ⟨hr, hop⟩ := row_facts h0
  have hfx := fixed_bd x.op
  clear h
  simp only [rowB, hop, Bool.and_eq_true, decide_eq_true_eq, Bool.or_eq_true, beq_iff_eq] at hr
  obtain ⟨⟨hlo, z1, z2, z3, z4⟩, _⟩ := hr
  unfold encN headP
  unfold shX at hd ha hb hn1 hn2 hn3
  obtain ⟨op, d, a, b, n⟩ := x
  simp only at *
  generalize rowT op = r at *
  obtain ⟨nm, f, lo, mi, hi⟩ := r
  simp only at *
  generalize fixedN op = fx at *
  subst hfo
  clear hop h0
  simp [shapeT] at hd ha hb hn1 hn2 hn3 z1 z2 z3 z4
  try (obtain ⟨_, _, rfl⟩ := hd)
  try (obtain ⟨_, _, rfl⟩ := ha)
  try (obtain ⟨_, _, rfl⟩ := hb)
  try subst z1
  try subst z2
  try subst z4
  have hlt := layN_lt ([⟨lo, 0, 7, 0⟩, ⟨mi, 0, 3, 12⟩, ⟨hi, 0, 7, 25⟩, ⟨d, 0, 5, 7⟩, ⟨a, 0, 5, 15⟩, ⟨0 + 0, 0, 5, 20⟩] ++ numP 76 n)
  generalize hV : layN _ = V at *
  have e0 : ((fieldN V 0 7 : Nat) : Int) = lo := by
    have e := congrArg (fun v => fieldN v 0 7) hV
    simp only [List.cons_append, List.nil_append] at e
    simp [numP, layN, layFrom, field_or, piece_zero, field_zero] at e
    try simp (disch := decide) only [pf_out, pf_in, piece_zero, field_zero, Nat.or_zero, Nat.zero_or] at e
    try simp only [Int.reduceToNat, Nat.reducePow, Nat.reduceSub, Nat.div_one, Nat.reduceMul, Nat.mul_one] at e
    clear hV
    rw [← e]
    try simp only [fieldN, Nat.reducePow, Nat.div_one]
    try omega
  have e1 : ((fieldN V 7 5 : Nat) : Int) = d := by
    have e := congrArg (fun v => fieldN v 7 5) hV
    simp only [List.cons_append, List.nil_append] at e
    simp [numP, layN, layFrom, field_or, piece_zero, field_zero] at e
    try simp (disch := decide) only [pf_out, pf_in, piece_zero, field_zero, Nat.or_zero, Nat.zero_or] at e
    try simp only [Int.reduceToNat, Nat.reducePow, Nat.reduceSub, Nat.div_one, Nat.reduceMul, Nat.mul_one] at e
    clear hV
    rw [← e]
    try simp only [fieldN, Nat.reducePow, Nat.div_one]
    try omega
  have e2 : ((fieldN V 12 3 : Nat) : Int) = mi := by
    have e := congrArg (fun v => fieldN v 12 3) hV
    simp only [List.cons_append, List.nil_append] at e
    simp [numP, layN, layFrom, field_or, piece_zero, field_zero] at e
    try simp (disch := decide) only [pf_out, pf_in, piece_zero, field_zero, Nat.or_zero, Nat.zero_or] at e
    try simp only [Int.reduceToNat, Nat.reducePow, Nat.reduceSub, Nat.div_one, Nat.reduceMul, Nat.mul_one] at e
    clear hV
    rw [← e]
    try simp only [fieldN, Nat.reducePow, Nat.div_one]
    try omega
  have e3 : ((fieldN V 15 5 : Nat) : Int) = a := by
    have e := congrArg (fun v => fieldN v 15 5) hV
    simp only [List.cons_append, List.nil_append] at e
    simp [numP, layN, layFrom, field_or, piece_zero, field_zero] at e
    try simp (disch := decide) only [pf_out, pf_in, piece_zero, field_zero, Nat.or_zero, Nat.zero_or] at e
    try simp only [Int.reduceToNat, Nat.reducePow, Nat.reduceSub, Nat.div_one, Nat.reduceMul, Nat.mul_one] at e
    clear hV
    rw [← e]
    try simp only [fieldN, Nat.reducePow, Nat.div_one]
    try omega
  have e4 : ((fieldN V 20 5 : Nat) : Int) = 0 := by
    have e := congrArg (fun v => fieldN v 20 5) hV
    simp only [List.cons_append, List.nil_append] at e
    simp [numP, layN, layFrom, field_or, piece_zero, field_zero] at e
    try simp (disch := decide) only [pf_out, pf_in, piece_zero, field_zero, Nat.or_zero, Nat.zero_or] at e
    try simp only [Int.reduceToNat, Nat.reducePow, Nat.reduceSub, Nat.div_one, Nat.reduceMul, Nat.mul_one] at e
    clear hV
    rw [← e]
    try simp only [fieldN, Nat.reducePow, Nat.div_one]
    try omega
  have e5 : ((fieldN V 25 2 : Nat) : Int) = n := by
    have e := congrArg (fun v => fieldN v 25 2) hV
    simp only [List.cons_append, List.nil_append] at e
    simp [numP, layN, layFrom, field_or, piece_zero, field_zero] at e
    try simp (disch := decide) only [pf_out, pf_in, piece_zero, field_zero, Nat.or_zero, Nat.zero_or] at e
    try simp only [Int.reduceToNat, Nat.reducePow, Nat.reduceSub, Nat.div_one, Nat.reduceMul, Nat.mul_one] at e
    clear hV
    rw [show (hi % 4294967296).toNat % 4 = 0 by omega, Nat.zero_or] at e
    rw [← e]
    try simp only [fieldN, Nat.reducePow, Nat.div_one]
    try omega
  have e6 : ((fieldN V 27 5 : Nat) : Int) = (hi / 4) := by
    have e := congrArg (fun v => fieldN v 27 5) hV
    simp only [List.cons_append, List.nil_append] at e
    simp [numP, layN, layFrom, field_or, piece_zero, field_zero] at e
    try simp (disch := decide) only [pf_out, pf_in, piece_zero, field_zero, Nat.or_zero, Nat.zero_or] at e
    try simp only [Int.reduceToNat, Nat.reducePow, Nat.reduceSub, Nat.div_one, Nat.reduceMul, Nat.mul_one] at e
    clear hV
    rw [← e]
    try simp only [fieldN, Nat.reducePow, Nat.div_one]
    try omega
  have hs := split_1 V hlt
  clear hV hlt
  generalize fieldN V 0 7 = q0, fieldN V 7 5 = q1, fieldN V 12 3 = q2, fieldN V 15 5 = q3, fieldN V 20 5 = q4, fieldN V 25 2 = q5, fieldN V 27 5 = q6 at *
  omega
set_option maxRecDepth 10000 in
set_option maxHeartbeats 1000000 in
theorem encS_65 (x : Ins) (h : rightB x = true) (hfo : (rowT x.op).form = 65) : ((encN x : Nat) : Int) = (rowT x.op).low + (rowT x.op).mid * 4096 + x.a * 32768 + x.d * 128 + x.b * 1048576 + ((rowT x.op).high + x.n) * 33554432 := by
  obtain ⟨h0, hd, ha, hb, hn1, hn2, hn3⟩ := right_parts h
  obtain ⟨hr, hop⟩ := row_facts h0
  have hfx := fixed_bd x.op
  clear h
  simp only [rowB, hop, Bool.and_eq_true, decide_eq_true_eq, Bool.or_eq_true, beq_iff_eq] at hr
  obtain ⟨⟨hlo, z1, z2, z3, z4⟩, _⟩ := hr
  unfold encN headP
  unfold shX at hd ha hb hn1 hn2 hn3
  obtain ⟨op, d, a, b, n⟩ := x
  simp only at *
  generalize rowT op = r at *
  obtain ⟨nm, f, lo, mi, hi⟩ := r
  simp only at *
  generalize fixedN op = fx at *
  subst hfo
  clear hop h0
  simp [shapeT] at hd ha hb hn1 hn2 hn3 z1 z2 z3 z4
  try (obtain ⟨_, _, rfl⟩ := hd)
  try (obtain ⟨_, _, rfl⟩ := ha)
  try (obtain ⟨_, _, rfl⟩ := hb)
  try subst z1
  try subst z2
  try subst z4
  have hlt := layN_lt ([⟨lo, 0, 7, 0⟩, ⟨mi, 0, 3, 12⟩, ⟨hi, 0, 7, 25⟩, ⟨d, 0, 5, 7⟩, ⟨a, 0, 5, 15⟩, ⟨b + 0, 0, 5, 20⟩] ++ numP 65 n)
  generalize hV : layN _ = V at *
  have e0 : ((fieldN V 0 7 : Nat) : Int) = lo := by
    have e := congrArg (fun v => fieldN v 0 7) hV
    simp only [List.cons_append, List.nil_append] at e
    simp [numP, layN, layFrom, field_or, piece_zero, field_zero] at e
    try simp (disch := decide) only [pf_out, pf_in, piece_zero, field_zero, Nat.or_zero, Nat.zero_or] at e
    try simp only [Int.reduceToNat, Nat.reducePow, Nat.reduceSub, Nat.div_one, Nat.reduceMul, Nat.mul_one] at e
    clear hV
    rw [← e]
    try simp only [fieldN, Nat.reducePow, Nat.div_one]
    try omega
  have e1 : ((fieldN V 7 5 : Nat) : Int) = d := by
    have e := congrArg (fun v => fieldN v 7 5) hV
    simp only [List.cons_append, List.nil_append] at e
    simp [numP, layN, layFrom, field_or, piece_zero, field_zero] at e
    try simp (disch := decide) only [pf_out, pf_in, piece_zero, field_zero, Nat.or_zero, Nat.zero_or] at e
    try simp only [Int.reduceToNat, Nat.reducePow, Nat.reduceSub, Nat.div_one, Nat.reduceMul, Nat.mul_one] at e
    clear hV
    rw [← e]
    try simp only [fieldN, Nat.reducePow, Nat.div_one]
    try omega
  have e2 : ((fieldN V 12 3 : Nat) : Int) = mi := by
    have e := congrArg (fun v => fieldN v 12 3) hV
    simp only [List.cons_append, List.nil_append] at e
    simp [numP, layN, layFrom, field_or, piece_zero, field_zero] at e
    try simp (disch := decide) only [pf_out, pf_in, piece_zero, field_zero, Nat.or_zero, Nat.zero_or] at e
    try simp only [Int.reduceToNat, Nat.reducePow, Nat.reduceSub, Nat.div_one, Nat.reduceMul, Nat.mul_one] at e
    clear hV
    rw [← e]
    try simp only [fieldN, Nat.reducePow, Nat.div_one]
    try omega
  have e3 : ((fieldN V 15 5 : Nat) : Int) = a := by
    have e := congrArg (fun v => fieldN v 15 5) hV
    simp only [List.cons_append, List.nil_append] at e
    simp [numP, layN, layFrom, field_or, piece_zero, field_zero] at e
    try simp (disch := decide) only [pf_out, pf_in, piece_zero, field_zero, Nat.or_zero, Nat.zero_or] at e
    try simp only [Int.reduceToNat, Nat.reducePow, Nat.reduceSub, Nat.div_one, Nat.reduceMul, Nat.mul_one] at e
    clear hV
    rw [← e]
    try simp only [fieldN, Nat.reducePow, Nat.div_one]
    try omega
  have e4 : ((fieldN V 20 5 : Nat) : Int) = b := by
    have e := congrArg (fun v => fieldN v 20 5) hV
    simp only [List.cons_append, List.nil_append] at e
    simp [numP, layN, layFrom, field_or, piece_zero, field_zero] at e
    try simp (disch := decide) only [pf_out, pf_in, piece_zero, field_zero, Nat.or_zero, Nat.zero_or] at e
    try simp only [Int.reduceToNat, Nat.reducePow, Nat.reduceSub, Nat.div_one, Nat.reduceMul, Nat.mul_one] at e
    clear hV
    rw [← e]
    try simp only [fieldN, Nat.reducePow, Nat.div_one]
    try omega
  have e5 : ((fieldN V 25 2 : Nat) : Int) = n := by
    have e := congrArg (fun v => fieldN v 25 2) hV
    simp only [List.cons_append, List.nil_append] at e
    simp [numP, layN, layFrom, field_or, piece_zero, field_zero] at e
    try simp (disch := decide) only [pf_out, pf_in, piece_zero, field_zero, Nat.or_zero, Nat.zero_or] at e
    try simp only [Int.reduceToNat, Nat.reducePow, Nat.reduceSub, Nat.div_one, Nat.reduceMul, Nat.mul_one] at e
    clear hV
    rw [show (hi % 4294967296).toNat % 4 = 0 by omega, Nat.zero_or] at e
    rw [← e]
    try simp only [fieldN, Nat.reducePow, Nat.div_one]
    try omega
  have e6 : ((fieldN V 27 5 : Nat) : Int) = (hi / 4) := by
    have e := congrArg (fun v => fieldN v 27 5) hV
    simp only [List.cons_append, List.nil_append] at e
    simp [numP, layN, layFrom, field_or, piece_zero, field_zero] at e
    try simp (disch := decide) only [pf_out, pf_in, piece_zero, field_zero, Nat.or_zero, Nat.zero_or] at e
    try simp only [Int.reduceToNat, Nat.reducePow, Nat.reduceSub, Nat.div_one, Nat.reduceMul, Nat.mul_one] at e
    clear hV
    rw [← e]
    try simp only [fieldN, Nat.reducePow, Nat.div_one]
    try omega
  have hs := split_1 V hlt
  clear hV hlt
  generalize fieldN V 0 7 = q0, fieldN V 7 5 = q1, fieldN V 12 3 = q2, fieldN V 15 5 = q3, fieldN V 20 5 = q4, fieldN V 25 2 = q5, fieldN V 27 5 = q6 at *
  omega
end Go.Proofs.Ytfepdieeiplbnaa
namespace Go.Proofs.Ytfepdieeiplbnaa
open Go.RowKit
theorem rintv {k : IntKind} {a b : Int} (h : a = b) : Value.int k a = .int k b := by rw [h]
theorem ret2v {a b c d : Value} (h : a = c) (h' : b = d) : Ending.returned (.tuple #[a, b]) = .returned (.tuple #[c, d]) := by rw [h, h']
theorem refRight_g (op d a b n : Int) (r : Bool) (w : World) (hr : rightB ⟨op, d, a, b, n⟩ = r) :
    Calls Try.prog 40 #[.agg #[.int .i64 op, .int .i64 d, .int .i64 a, .int .i64 b, .int .i64 n]] w fun e w' => e = .returned (.bool r) ∧ Below w.heap.size w w' := by subst hr; exact refRight_any ⟨op, d, a, b, n⟩ w
theorem bits_at (n a b : Int) (fr mn : Nat) (w : World) (hn : I64 n) (ha : a = fr) (hb : b = mn) (hf : fr < 32) (hm : mn < 32) :
    Calls Try.prog 58 #[.int .i64 n, .int .i64 a, .int .i64 b] w fun e w' => e = .returned (.int .i64 (fieldN (n % 4294967296).toNat fr mn : Nat)) ∧ ∃ q, w' = w.drewN q := by subst ha hb; exact bits_any n fr mn w hn hf hm
set_option maxHeartbeats 4000000 in
set_option maxRecDepth 100000 in
theorem refEnc_82 (x : Ins) (w : World) (hr : rightB x = true) (hf : (rowT x.op).form = 82) :
    Calls Try.prog 37 #[insV x] w fun e w' => e = .returned (.tuple #[.int .i64 (encN x : Nat), .int .i64 0]) ∧ Below w.heap.size w w' := by
  obtain ⟨h0, hd, ha, hb, hn1, hn2, hn3⟩ := right_parts hr
  obtain ⟨hrb, hop⟩ := row_facts h0
  have hq := hr
  simp only [rowB, hop, Bool.and_eq_true, decide_eq_true_eq, Bool.or_eq_true, beq_iff_eq] at hrb
  obtain ⟨⟨hlo, z1, z2, z3, z4⟩, _⟩ := hrb
  have HEQ := Lib.hid (encS_82 x hr hf)
  unfold shX at hd ha hb hn1 hn2 hn3
  have hnb := ok_nn hr
  obtain ⟨op, d, a, b, n⟩ := x
  simp only at *
  generalize hrw : rowT op = r at *
  obtain ⟨nm, f, lo, mi, hi⟩ := r
  simp only at *
  subst hf
  have HRW := Lib.hid hrw; have HR := Lib.hid hr; have HN := Lib.hid hnb
  clear hrw hr hq h0 hop hnb
  simp [shapeT] at hd ha hb hn1 hn2 hn3 z1 z2 z3
  try (obtain ⟨_, _, rfl⟩ := hd)
  try (obtain ⟨_, _, rfl⟩ := ha)
  try (obtain ⟨_, _, rfl⟩ := hb)
  try subst z1
  try subst z2
  unfold insV
  go_enter Try.func37, Try.ntmps37
  go_wp2_with fail
  refine (refRight_g _ _ _ _ _ true _ HR.out).mono ?_
  rintro e w1 ⟨rfl, hb1⟩
  obtain ⟨c1, f1⟩ := bcell hb1
  have s1 := hb1.size
  try simp at s1
  have l1x0 : w.heap.size < w1.heap.size := by omega
  go_wp2_with fail
  refine (refRow_any op _).mono ?_
  rw [HRW.out]
  rintro e w2 ⟨rfl, hb2⟩
  obtain ⟨c2, f2⟩ := bcell hb2
  have s2 := hb2.size
  try simp at s2
  have l2x0 : w.heap.size < w2.heap.size := by omega
  unfold rfV
  go_wp2_with fail
  go_ret2
  refine ⟨ret2v (rintv ?_) rfl, (by repeat (first | (with_reducible exact Below.refl _ _) | (with_reducible refine bw_set ?_ ?_ _) | (with_reducible apply bw_alloc) | (with_reducible refine bw_tr ?_ (by with_reducible assumption)) | (with_reducible apply bw_drew) | omega))⟩
  rw [HEQ.out]
  try simp (disch := omega) only [IntWalk.wrap64_in]
  try (show _ = _; omega)
set_option maxHeartbeats 4000000 in
set_option maxRecDepth 100000 in
theorem refEnc_73 (x : Ins) (w : World) (hr : rightB x = true) (hf : (rowT x.op).form = 73) :
    Calls Try.prog 37 #[insV x] w fun e w' => e = .returned (.tuple #[.int .i64 (encN x : Nat), .int .i64 0]) ∧ Below w.heap.size w w' := by
  obtain ⟨h0, hd, ha, hb, hn1, hn2, hn3⟩ := right_parts hr
  obtain ⟨hrb, hop⟩ := row_facts h0
  have hq := hr
  simp only [rowB, hop, Bool.and_eq_true, decide_eq_true_eq, Bool.or_eq_true, beq_iff_eq] at hrb
  obtain ⟨⟨hlo, z1, z2, z3, z4⟩, _⟩ := hrb
  have HEQ := Lib.hid (encS_73 x hr hf)
  unfold shX at hd ha hb hn1 hn2 hn3
  have hnb := ok_nn hr
  obtain ⟨op, d, a, b, n⟩ := x
  simp only at *
  generalize hrw : rowT op = r at *
  obtain ⟨nm, f, lo, mi, hi⟩ := r
  simp only at *
  subst hf
  have HRW := Lib.hid hrw; have HR := Lib.hid hr; have HN := Lib.hid hnb
  clear hrw hr hq h0 hop hnb
  simp [shapeT] at hd ha hb hn1 hn2 hn3 z1 z2 z3
  try (obtain ⟨_, _, rfl⟩ := hd)
  try (obtain ⟨_, _, rfl⟩ := ha)
  try (obtain ⟨_, _, rfl⟩ := hb)
  try subst z1
  try subst z2
  unfold insV
  go_enter Try.func37, Try.ntmps37
  go_wp2_with fail
  refine (refRight_g _ _ _ _ _ true _ HR.out).mono ?_
  rintro e w1 ⟨rfl, hb1⟩
  obtain ⟨c1, f1⟩ := bcell hb1
  have s1 := hb1.size
  try simp at s1
  have l1x0 : w.heap.size < w1.heap.size := by omega
  go_wp2_with fail
  refine (refRow_any op _).mono ?_
  rw [HRW.out]
  rintro e w2 ⟨rfl, hb2⟩
  obtain ⟨c2, f2⟩ := bcell hb2
  have s2 := hb2.size
  try simp at s2
  have l2x0 : w.heap.size < w2.heap.size := by omega
  unfold rfV
  go_wp2_with fail
  go_quiet ((go_at_call 58; first | with_reducible exact Calls.quiet_of (bits_at n 0 12 0 12 _ HN.out rfl rfl (by decide) (by decide))))
  go_wp2_with fail
  go_ret2
  refine ⟨ret2v (rintv ?_) rfl, below_drewN (by repeat (first | (with_reducible exact Below.refl _ _) | (with_reducible refine bw_set ?_ ?_ _) | (with_reducible apply bw_alloc) | (with_reducible refine bw_tr ?_ (by with_reducible assumption)) | (with_reducible apply bw_drew) | omega)) _⟩
  rw [HEQ.out]
  have b0_12 := field_lt (n % 4294967296).toNat 0 12
  simp only [Nat.reducePow] at b0_12
  generalize fieldN (n % 4294967296).toNat 0 12 = t0 at *
  try simp (disch := omega) only [IntWalk.wrap64_in]
  try (show _ = _; omega)
set_option maxHeartbeats 4000000 in
set_option maxRecDepth 100000 in
theorem refEnc_67 (x : Ins) (w : World) (hr : rightB x = true) (hf : (rowT x.op).form = 67) :
    Calls Try.prog 37 #[insV x] w fun e w' => e = .returned (.tuple #[.int .i64 (encN x : Nat), .int .i64 0]) ∧ Below w.heap.size w w' := by
  obtain ⟨h0, hd, ha, hb, hn1, hn2, hn3⟩ := right_parts hr
  obtain ⟨hrb, hop⟩ := row_facts h0
  have hq := hr
  simp only [rowB, hop, Bool.and_eq_true, decide_eq_true_eq, Bool.or_eq_true, beq_iff_eq] at hrb
  obtain ⟨⟨hlo, z1, z2, z3, z4⟩, _⟩ := hrb
  have HEQ := Lib.hid (encS_67 x hr hf)
  unfold shX at hd ha hb hn1 hn2 hn3
  have hnb := ok_nn hr
  obtain ⟨op, d, a, b, n⟩ := x
  simp only at *
  generalize hrw : rowT op = r at *
  obtain ⟨nm, f, lo, mi, hi⟩ := r
  simp only at *
  subst hf
  have HRW := Lib.hid hrw; have HR := Lib.hid hr; have HN := Lib.hid hnb
  clear hrw hr hq h0 hop hnb
  simp [shapeT] at hd ha hb hn1 hn2 hn3 z1 z2 z3
  try (obtain ⟨_, _, rfl⟩ := hd)
  try (obtain ⟨_, _, rfl⟩ := ha)
  try (obtain ⟨_, _, rfl⟩ := hb)
  try subst z1
  try subst z2
  unfold insV
  go_enter Try.func37, Try.ntmps37
  go_wp2_with fail
  refine (refRight_g _ _ _ _ _ true _ HR.out).mono ?_
  rintro e w1 ⟨rfl, hb1⟩
  obtain ⟨c1, f1⟩ := bcell hb1
  have s1 := hb1.size
  try simp at s1
  have l1x0 : w.heap.size < w1.heap.size := by omega
  go_wp2_with fail
  refine (refRow_any op _).mono ?_
  rw [HRW.out]
  rintro e w2 ⟨rfl, hb2⟩
  obtain ⟨c2, f2⟩ := bcell hb2
  have s2 := hb2.size
  try simp at s2
  have l2x0 : w.heap.size < w2.heap.size := by omega
  unfold rfV
  go_wp2_with fail
  go_quiet ((go_at_call 58; first | with_reducible exact Calls.quiet_of (bits_at n 0 12 0 12 _ HN.out rfl rfl (by decide) (by decide))))
  go_wp2_with fail
  go_ret2
  refine ⟨ret2v (rintv ?_) rfl, below_drewN (by repeat (first | (with_reducible exact Below.refl _ _) | (with_reducible refine bw_set ?_ ?_ _) | (with_reducible apply bw_alloc) | (with_reducible refine bw_tr ?_ (by with_reducible assumption)) | (with_reducible apply bw_drew) | omega)) _⟩
  rw [HEQ.out]
  have b0_12 := field_lt (n % 4294967296).toNat 0 12
  simp only [Nat.reducePow] at b0_12
  generalize fieldN (n % 4294967296).toNat 0 12 = t0 at *
  try simp (disch := omega) only [IntWalk.wrap64_in]
  try (show _ = _; omega)
set_option maxHeartbeats 4000000 in
set_option maxRecDepth 100000 in
theorem refEnc_72 (x : Ins) (w : World) (hr : rightB x = true) (hf : (rowT x.op).form = 72) :
    Calls Try.prog 37 #[insV x] w fun e w' => e = .returned (.tuple #[.int .i64 (encN x : Nat), .int .i64 0]) ∧ Below w.heap.size w w' := by
  obtain ⟨h0, hd, ha, hb, hn1, hn2, hn3⟩ := right_parts hr
  obtain ⟨hrb, hop⟩ := row_facts h0
  have hq := hr
  simp only [rowB, hop, Bool.and_eq_true, decide_eq_true_eq, Bool.or_eq_true, beq_iff_eq] at hrb
  obtain ⟨⟨hlo, z1, z2, z3, z4⟩, _⟩ := hrb
  have HEQ := Lib.hid (encS_72 x hr hf)
  unfold shX at hd ha hb hn1 hn2 hn3
  have hnb := ok_nn hr
  obtain ⟨op, d, a, b, n⟩ := x
  simp only at *
  generalize hrw : rowT op = r at *
  obtain ⟨nm, f, lo, mi, hi⟩ := r
  simp only at *
  subst hf
  have HRW := Lib.hid hrw; have HR := Lib.hid hr; have HN := Lib.hid hnb
  clear hrw hr hq h0 hop hnb
  simp [shapeT] at hd ha hb hn1 hn2 hn3 z1 z2 z3
  try (obtain ⟨_, _, rfl⟩ := hd)
  try (obtain ⟨_, _, rfl⟩ := ha)
  try (obtain ⟨_, _, rfl⟩ := hb)
  try subst z1
  try subst z2
  unfold insV
  go_enter Try.func37, Try.ntmps37
  go_wp2_with fail
  refine (refRight_g _ _ _ _ _ true _ HR.out).mono ?_
  rintro e w1 ⟨rfl, hb1⟩
  obtain ⟨c1, f1⟩ := bcell hb1
  have s1 := hb1.size
  try simp at s1
  have l1x0 : w.heap.size < w1.heap.size := by omega
  go_wp2_with fail
  refine (refRow_any op _).mono ?_
  rw [HRW.out]
  rintro e w2 ⟨rfl, hb2⟩
  obtain ⟨c2, f2⟩ := bcell hb2
  have s2 := hb2.size
  try simp at s2
  have l2x0 : w.heap.size < w2.heap.size := by omega
  unfold rfV
  go_wp2_with fail
  go_ret2
  refine ⟨ret2v (rintv ?_) rfl, (by repeat (first | (with_reducible exact Below.refl _ _) | (with_reducible refine bw_set ?_ ?_ _) | (with_reducible apply bw_alloc) | (with_reducible refine bw_tr ?_ (by with_reducible assumption)) | (with_reducible apply bw_drew) | omega))⟩
  rw [HEQ.out]
  try simp (disch := omega) only [IntWalk.wrap64_in]
  try (show _ = _; omega)
set_option maxHeartbeats 4000000 in
set_option maxRecDepth 100000 in
theorem refEnc_83 (x : Ins) (w : World) (hr : rightB x = true) (hf : (rowT x.op).form = 83) :
    Calls Try.prog 37 #[insV x] w fun e w' => e = .returned (.tuple #[.int .i64 (encN x : Nat), .int .i64 0]) ∧ Below w.heap.size w w' := by
  obtain ⟨h0, hd, ha, hb, hn1, hn2, hn3⟩ := right_parts hr
  obtain ⟨hrb, hop⟩ := row_facts h0
  have hq := hr
  simp only [rowB, hop, Bool.and_eq_true, decide_eq_true_eq, Bool.or_eq_true, beq_iff_eq] at hrb
  obtain ⟨⟨hlo, z1, z2, z3, z4⟩, _⟩ := hrb
  have HEQ := Lib.hid (encS_83 x hr hf)
  unfold shX at hd ha hb hn1 hn2 hn3
  have hnb := ok_nn hr
  obtain ⟨op, d, a, b, n⟩ := x
  simp only at *
  generalize hrw : rowT op = r at *
  obtain ⟨nm, f, lo, mi, hi⟩ := r
  simp only at *
  subst hf
  have HRW := Lib.hid hrw; have HR := Lib.hid hr; have HN := Lib.hid hnb
  clear hrw hr hq h0 hop hnb
  simp [shapeT] at hd ha hb hn1 hn2 hn3 z1 z2 z3
  try (obtain ⟨_, _, rfl⟩ := hd)
  try (obtain ⟨_, _, rfl⟩ := ha)
  try (obtain ⟨_, _, rfl⟩ := hb)
  try subst z1
  try subst z2
  unfold insV
  go_enter Try.func37, Try.ntmps37
  go_wp2_with fail
  refine (refRight_g _ _ _ _ _ true _ HR.out).mono ?_
  rintro e w1 ⟨rfl, hb1⟩
  obtain ⟨c1, f1⟩ := bcell hb1
  have s1 := hb1.size
  try simp at s1
  have l1x0 : w.heap.size < w1.heap.size := by omega
  go_wp2_with fail
  refine (refRow_any op _).mono ?_
  rw [HRW.out]
  rintro e w2 ⟨rfl, hb2⟩
  obtain ⟨c2, f2⟩ := bcell hb2
  have s2 := hb2.size
  try simp at s2
  have l2x0 : w.heap.size < w2.heap.size := by omega
  unfold rfV
  go_wp2_with fail
  go_quiet ((go_at_call 58; first | with_reducible exact Calls.quiet_of (bits_at n 0 5 0 5 _ HN.out rfl rfl (by decide) (by decide)) | with_reducible exact Calls.quiet_of (bits_at n 5 7 5 7 _ HN.out rfl rfl (by decide) (by decide))))
  go_wp2_with fail
  go_ret2
  refine ⟨ret2v (rintv ?_) rfl, below_drewN (by repeat (first | (with_reducible exact Below.refl _ _) | (with_reducible refine bw_set ?_ ?_ _) | (with_reducible apply bw_alloc) | (with_reducible refine bw_tr ?_ (by with_reducible assumption)) | (with_reducible apply bw_drew) | omega)) _⟩
  rw [HEQ.out]
  have b0_5 := field_lt (n % 4294967296).toNat 0 5
  have b5_7 := field_lt (n % 4294967296).toNat 5 7
  simp only [Nat.reducePow] at b0_5 b5_7
  generalize fieldN (n % 4294967296).toNat 0 5 = t0, fieldN (n % 4294967296).toNat 5 7 = t1 at *
  try simp (disch := omega) only [IntWalk.wrap64_in]
  try (show _ = _; omega)
set_option maxHeartbeats 4000000 in
set_option maxRecDepth 100000 in
theorem refEnc_66 (x : Ins) (w : World) (hr : rightB x = true) (hf : (rowT x.op).form = 66) :
    Calls Try.prog 37 #[insV x] w fun e w' => e = .returned (.tuple #[.int .i64 (encN x : Nat), .int .i64 0]) ∧ Below w.heap.size w w' := by
  obtain ⟨h0, hd, ha, hb, hn1, hn2, hn3⟩ := right_parts hr
  obtain ⟨hrb, hop⟩ := row_facts h0
  have hq := hr
  simp only [rowB, hop, Bool.and_eq_true, decide_eq_true_eq, Bool.or_eq_true, beq_iff_eq] at hrb
  obtain ⟨⟨hlo, z1, z2, z3, z4⟩, _⟩ := hrb
  have HEQ := Lib.hid (encS_66 x hr hf)
  unfold shX at hd ha hb hn1 hn2 hn3
  have hnb := ok_nn hr
  obtain ⟨op, d, a, b, n⟩ := x
  simp only at *
  generalize hrw : rowT op = r at *
  obtain ⟨nm, f, lo, mi, hi⟩ := r
  simp only at *
  subst hf
  have HRW := Lib.hid hrw; have HR := Lib.hid hr; have HN := Lib.hid hnb
  clear hrw hr hq h0 hop hnb
  simp [shapeT] at hd ha hb hn1 hn2 hn3 z1 z2 z3
  try (obtain ⟨_, _, rfl⟩ := hd)
  try (obtain ⟨_, _, rfl⟩ := ha)
  try (obtain ⟨_, _, rfl⟩ := hb)
  try subst z1
  try subst z2
  unfold insV
  go_enter Try.func37, Try.ntmps37
  go_wp2_with fail
  refine (refRight_g _ _ _ _ _ true _ HR.out).mono ?_
  rintro e w1 ⟨rfl, hb1⟩
  obtain ⟨c1, f1⟩ := bcell hb1
  have s1 := hb1.size
  try simp at s1
  have l1x0 : w.heap.size < w1.heap.size := by omega
  go_wp2_with fail
  refine (refRow_any op _).mono ?_
  rw [HRW.out]
  rintro e w2 ⟨rfl, hb2⟩
  obtain ⟨c2, f2⟩ := bcell hb2
  have s2 := hb2.size
  try simp at s2
  have l2x0 : w.heap.size < w2.heap.size := by omega
  unfold rfV
  go_wp2_with fail
  go_quiet ((go_at_call 58; first | with_reducible exact Calls.quiet_of (bits_at n 11 1 11 1 _ HN.out rfl rfl (by decide) (by decide)) | with_reducible exact Calls.quiet_of (bits_at n 1 4 1 4 _ HN.out rfl rfl (by decide) (by decide)) | with_reducible exact Calls.quiet_of (bits_at n 5 6 5 6 _ HN.out rfl rfl (by decide) (by decide)) | with_reducible exact Calls.quiet_of (bits_at n 12 1 12 1 _ HN.out rfl rfl (by decide) (by decide))))
  go_wp2_with fail
  go_ret2
  refine ⟨ret2v (rintv ?_) rfl, below_drewN (by repeat (first | (with_reducible exact Below.refl _ _) | (with_reducible refine bw_set ?_ ?_ _) | (with_reducible apply bw_alloc) | (with_reducible refine bw_tr ?_ (by with_reducible assumption)) | (with_reducible apply bw_drew) | omega)) _⟩
  rw [HEQ.out]
  have b11_1 := field_lt (n % 4294967296).toNat 11 1
  have b1_4 := field_lt (n % 4294967296).toNat 1 4
  have b5_6 := field_lt (n % 4294967296).toNat 5 6
  have b12_1 := field_lt (n % 4294967296).toNat 12 1
  simp only [Nat.reducePow] at b11_1 b1_4 b5_6 b12_1
  generalize fieldN (n % 4294967296).toNat 11 1 = t0, fieldN (n % 4294967296).toNat 1 4 = t1, fieldN (n % 4294967296).toNat 5 6 = t2, fieldN (n % 4294967296).toNat 12 1 = t3 at *
  try simp (disch := omega) only [IntWalk.wrap64_in]
  try (show _ = _; omega)
set_option maxHeartbeats 4000000 in
set_option maxRecDepth 100000 in
theorem refEnc_85 (x : Ins) (w : World) (hr : rightB x = true) (hf : (rowT x.op).form = 85) :
    Calls Try.prog 37 #[insV x] w fun e w' => e = .returned (.tuple #[.int .i64 (encN x : Nat), .int .i64 0]) ∧ Below w.heap.size w w' := by
  obtain ⟨h0, hd, ha, hb, hn1, hn2, hn3⟩ := right_parts hr
  obtain ⟨hrb, hop⟩ := row_facts h0
  have hq := hr
  simp only [rowB, hop, Bool.and_eq_true, decide_eq_true_eq, Bool.or_eq_true, beq_iff_eq] at hrb
  obtain ⟨⟨hlo, z1, z2, z3, z4⟩, _⟩ := hrb
  have HEQ := Lib.hid (encS_85 x hr hf)
  unfold shX at hd ha hb hn1 hn2 hn3
  have hnb := ok_nn hr
  obtain ⟨op, d, a, b, n⟩ := x
  simp only at *
  generalize hrw : rowT op = r at *
  obtain ⟨nm, f, lo, mi, hi⟩ := r
  simp only at *
  subst hf
  have HRW := Lib.hid hrw; have HR := Lib.hid hr; have HN := Lib.hid hnb
  clear hrw hr hq h0 hop hnb
  simp [shapeT] at hd ha hb hn1 hn2 hn3 z1 z2 z3
  try (obtain ⟨_, _, rfl⟩ := hd)
  try (obtain ⟨_, _, rfl⟩ := ha)
  try (obtain ⟨_, _, rfl⟩ := hb)
  try subst z1
  try subst z2
  unfold insV
  go_enter Try.func37, Try.ntmps37
  go_wp2_with fail
  refine (refRight_g _ _ _ _ _ true _ HR.out).mono ?_
  rintro e w1 ⟨rfl, hb1⟩
  obtain ⟨c1, f1⟩ := bcell hb1
  have s1 := hb1.size
  try simp at s1
  have l1x0 : w.heap.size < w1.heap.size := by omega
  go_wp2_with fail
  refine (refRow_any op _).mono ?_
  rw [HRW.out]
  rintro e w2 ⟨rfl, hb2⟩
  obtain ⟨c2, f2⟩ := bcell hb2
  have s2 := hb2.size
  try simp at s2
  have l2x0 : w.heap.size < w2.heap.size := by omega
  unfold rfV
  go_wp2_with fail
  go_ret2
  refine ⟨ret2v (rintv ?_) rfl, (by repeat (first | (with_reducible exact Below.refl _ _) | (with_reducible refine bw_set ?_ ?_ _) | (with_reducible apply bw_alloc) | (with_reducible refine bw_tr ?_ (by with_reducible assumption)) | (with_reducible apply bw_drew) | omega))⟩
  rw [HEQ.out]
  try simp (disch := omega) only [IntWalk.wrap64_in]
  try (show _ = _; omega)
set_option maxHeartbeats 4000000 in
set_option maxRecDepth 100000 in
theorem refEnc_74 (x : Ins) (w : World) (hr : rightB x = true) (hf : (rowT x.op).form = 74) :
    Calls Try.prog 37 #[insV x] w fun e w' => e = .returned (.tuple #[.int .i64 (encN x : Nat), .int .i64 0]) ∧ Below w.heap.size w w' := by
  obtain ⟨h0, hd, ha, hb, hn1, hn2, hn3⟩ := right_parts hr
  obtain ⟨hrb, hop⟩ := row_facts h0
  have hq := hr
  simp only [rowB, hop, Bool.and_eq_true, decide_eq_true_eq, Bool.or_eq_true, beq_iff_eq] at hrb
  obtain ⟨⟨hlo, z1, z2, z3, z4⟩, _⟩ := hrb
  have HEQ := Lib.hid (encS_74 x hr hf)
  unfold shX at hd ha hb hn1 hn2 hn3
  have hnb := ok_nn hr
  obtain ⟨op, d, a, b, n⟩ := x
  simp only at *
  generalize hrw : rowT op = r at *
  obtain ⟨nm, f, lo, mi, hi⟩ := r
  simp only at *
  subst hf
  have HRW := Lib.hid hrw; have HR := Lib.hid hr; have HN := Lib.hid hnb
  clear hrw hr hq h0 hop hnb
  simp [shapeT] at hd ha hb hn1 hn2 hn3 z1 z2 z3
  try (obtain ⟨_, _, rfl⟩ := hd)
  try (obtain ⟨_, _, rfl⟩ := ha)
  try (obtain ⟨_, _, rfl⟩ := hb)
  try subst z1
  try subst z2
  unfold insV
  go_enter Try.func37, Try.ntmps37
  go_wp2_with fail
  refine (refRight_g _ _ _ _ _ true _ HR.out).mono ?_
  rintro e w1 ⟨rfl, hb1⟩
  obtain ⟨c1, f1⟩ := bcell hb1
  have s1 := hb1.size
  try simp at s1
  have l1x0 : w.heap.size < w1.heap.size := by omega
  go_wp2_with fail
  refine (refRow_any op _).mono ?_
  rw [HRW.out]
  rintro e w2 ⟨rfl, hb2⟩
  obtain ⟨c2, f2⟩ := bcell hb2
  have s2 := hb2.size
  try simp at s2
  have l2x0 : w.heap.size < w2.heap.size := by omega
  unfold rfV
  go_wp2_with fail
  go_quiet ((go_at_call 58; first | with_reducible exact Calls.quiet_of (bits_at n 12 8 12 8 _ HN.out rfl rfl (by decide) (by decide)) | with_reducible exact Calls.quiet_of (bits_at n 11 1 11 1 _ HN.out rfl rfl (by decide) (by decide)) | with_reducible exact Calls.quiet_of (bits_at n 1 10 1 10 _ HN.out rfl rfl (by decide) (by decide)) | with_reducible exact Calls.quiet_of (bits_at n 20 1 20 1 _ HN.out rfl rfl (by decide) (by decide))))
  go_wp2_with fail
  go_ret2
  refine ⟨ret2v (rintv ?_) rfl, below_drewN (by repeat (first | (with_reducible exact Below.refl _ _) | (with_reducible refine bw_set ?_ ?_ _) | (with_reducible apply bw_alloc) | (with_reducible refine bw_tr ?_ (by with_reducible assumption)) | (with_reducible apply bw_drew) | omega)) _⟩
  rw [HEQ.out]
  have b12_8 := field_lt (n % 4294967296).toNat 12 8
  have b11_1 := field_lt (n % 4294967296).toNat 11 1
  have b1_10 := field_lt (n % 4294967296).toNat 1 10
  have b20_1 := field_lt (n % 4294967296).toNat 20 1
  simp only [Nat.reducePow] at b12_8 b11_1 b1_10 b20_1
  generalize fieldN (n % 4294967296).toNat 12 8 = t0, fieldN (n % 4294967296).toNat 11 1 = t1, fieldN (n % 4294967296).toNat 1 10 = t2, fieldN (n % 4294967296).toNat 20 1 = t3 at *
  try simp (disch := omega) only [IntWalk.wrap64_in]
  try (show _ = _; omega)
set_option maxHeartbeats 4000000 in
set_option maxRecDepth 100000 in
theorem refEnc_70 (x : Ins) (w : World) (hr : rightB x = true) (hf : (rowT x.op).form = 70) :
    Calls Try.prog 37 #[insV x] w fun e w' => e = .returned (.tuple #[.int .i64 (encN x : Nat), .int .i64 0]) ∧ Below w.heap.size w w' := by
  obtain ⟨h0, hd, ha, hb, hn1, hn2, hn3⟩ := right_parts hr
  obtain ⟨hrb, hop⟩ := row_facts h0
  have hq := hr
  simp only [rowB, hop, Bool.and_eq_true, decide_eq_true_eq, Bool.or_eq_true, beq_iff_eq] at hrb
  obtain ⟨⟨hlo, z1, z2, z3, z4⟩, _⟩ := hrb
  have HEQ := Lib.hid (encS_70 x hr hf)
  unfold shX at hd ha hb hn1 hn2 hn3
  have hnb := ok_nn hr
  obtain ⟨op, d, a, b, n⟩ := x
  simp only at *
  generalize hrw : rowT op = r at *
  obtain ⟨nm, f, lo, mi, hi⟩ := r
  simp only at *
  subst hf
  have HRW := Lib.hid hrw; have HR := Lib.hid hr; have HN := Lib.hid hnb
  clear hrw hr hq h0 hop hnb
  simp [shapeT] at hd ha hb hn1 hn2 hn3 z1 z2 z3
  try (obtain ⟨_, _, rfl⟩ := hd)
  try (obtain ⟨_, _, rfl⟩ := ha)
  try (obtain ⟨_, _, rfl⟩ := hb)
  try subst z1
  try subst z2
  unfold insV
  go_enter Try.func37, Try.ntmps37
  go_wp2_with fail
  refine (refRight_g _ _ _ _ _ true _ HR.out).mono ?_
  rintro e w1 ⟨rfl, hb1⟩
  obtain ⟨c1, f1⟩ := bcell hb1
  have s1 := hb1.size
  try simp at s1
  have l1x0 : w.heap.size < w1.heap.size := by omega
  go_wp2_with fail
  refine (refRow_any op _).mono ?_
  rw [HRW.out]
  rintro e w2 ⟨rfl, hb2⟩
  obtain ⟨c2, f2⟩ := bcell hb2
  have s2 := hb2.size
  try simp at s2
  have l2x0 : w.heap.size < w2.heap.size := by omega
  unfold rfV
  go_wp2_with fail
  go_ret2
  refine ⟨ret2v (rintv ?_) rfl, (by repeat (first | (with_reducible exact Below.refl _ _) | (with_reducible refine bw_set ?_ ?_ _) | (with_reducible apply bw_alloc) | (with_reducible refine bw_tr ?_ (by with_reducible assumption)) | (with_reducible apply bw_drew) | omega))⟩
  rw [HEQ.out]
  try simp (disch := omega) only [IntWalk.wrap64_in]
  try (show _ = _; omega)
set_option maxHeartbeats 4000000 in
set_option maxRecDepth 100000 in
theorem refEnc_90 (x : Ins) (w : World) (hr : rightB x = true) (hf : (rowT x.op).form = 90) :
    Calls Try.prog 37 #[insV x] w fun e w' => e = .returned (.tuple #[.int .i64 (encN x : Nat), .int .i64 0]) ∧ Below w.heap.size w w' := by
  obtain ⟨h0, hd, ha, hb, hn1, hn2, hn3⟩ := right_parts hr
  obtain ⟨hrb, hop⟩ := row_facts h0
  have hq := hr
  simp only [rowB, hop, Bool.and_eq_true, decide_eq_true_eq, Bool.or_eq_true, beq_iff_eq] at hrb
  obtain ⟨⟨hlo, z1, z2, z3, z4⟩, _⟩ := hrb
  have HEQ := Lib.hid (encS_90 x hr hf)
  unfold shX at hd ha hb hn1 hn2 hn3
  have hnb := ok_nn hr
  obtain ⟨op, d, a, b, n⟩ := x
  simp only at *
  generalize hrw : rowT op = r at *
  obtain ⟨nm, f, lo, mi, hi⟩ := r
  simp only at *
  subst hf
  have HRW := Lib.hid hrw; have HR := Lib.hid hr; have HN := Lib.hid hnb
  clear hrw hr hq h0 hop hnb
  simp [shapeT] at hd ha hb hn1 hn2 hn3 z1 z2 z3
  try (obtain ⟨_, _, rfl⟩ := hd)
  try (obtain ⟨_, _, rfl⟩ := ha)
  try (obtain ⟨_, _, rfl⟩ := hb)
  try subst z1
  try subst z2
  unfold insV
  go_enter Try.func37, Try.ntmps37
  go_wp2_with fail
  refine (refRight_g _ _ _ _ _ true _ HR.out).mono ?_
  rintro e w1 ⟨rfl, hb1⟩
  obtain ⟨c1, f1⟩ := bcell hb1
  have s1 := hb1.size
  try simp at s1
  have l1x0 : w.heap.size < w1.heap.size := by omega
  go_wp2_with fail
  refine (refRow_any op _).mono ?_
  rw [HRW.out]
  rintro e w2 ⟨rfl, hb2⟩
  obtain ⟨c2, f2⟩ := bcell hb2
  have s2 := hb2.size
  try simp at s2
  have l2x0 : w.heap.size < w2.heap.size := by omega
  unfold rfV
  go_wp2_with fail
  all_goals
    go_ret2
    refine ⟨ret2v (rintv ?_) rfl, (by repeat (first | (with_reducible exact Below.refl _ _) | (with_reducible refine bw_set ?_ ?_ _) | (with_reducible apply bw_alloc) | (with_reducible refine bw_tr ?_ (by with_reducible assumption)) | (with_reducible apply bw_drew) | omega))⟩
    rw [HEQ.out]
    simp_all [fixedN]
    try omega
set_option maxHeartbeats 4000000 in
set_option maxRecDepth 100000 in
theorem refEnc_76 (x : Ins) (w : World) (hr : rightB x = true) (hf : (rowT x.op).form = 76) :
    Calls Try.prog 37 #[insV x] w fun e w' => e = .returned (.tuple #[.int .i64 (encN x : Nat), .int .i64 0]) ∧ Below w.heap.size w w' := by
  obtain ⟨h0, hd, ha, hb, hn1, hn2, hn3⟩ := right_parts hr
  obtain ⟨hrb, hop⟩ := row_facts h0
  have hq := hr
  simp only [rowB, hop, Bool.and_eq_true, decide_eq_true_eq, Bool.or_eq_true, beq_iff_eq] at hrb
  obtain ⟨⟨hlo, z1, z2, z3, z4⟩, _⟩ := hrb
  have HEQ := Lib.hid (encS_76 x hr hf)
  unfold shX at hd ha hb hn1 hn2 hn3
  have hnb := ok_nn hr
  obtain ⟨op, d, a, b, n⟩ := x
  simp only at *
  generalize hrw : rowT op = r at *
  obtain ⟨nm, f, lo, mi, hi⟩ := r
  simp only at *
  subst hf
  have HRW := Lib.hid hrw; have HR := Lib.hid hr; have HN := Lib.hid hnb
  clear hrw hr hq h0 hop hnb
  simp [shapeT] at hd ha hb hn1 hn2 hn3 z1 z2 z3
  try (obtain ⟨_, _, rfl⟩ := hd)
  try (obtain ⟨_, _, rfl⟩ := ha)
  try (obtain ⟨_, _, rfl⟩ := hb)
  try subst z1
  try subst z2
  unfold insV
  go_enter Try.func37, Try.ntmps37
  go_wp2_with fail
  refine (refRight_g _ _ _ _ _ true _ HR.out).mono ?_
  rintro e w1 ⟨rfl, hb1⟩
  obtain ⟨c1, f1⟩ := bcell hb1
  have s1 := hb1.size
  try simp at s1
  have l1x0 : w.heap.size < w1.heap.size := by omega
  go_wp2_with fail
  refine (refRow_any op _).mono ?_
  rw [HRW.out]
  rintro e w2 ⟨rfl, hb2⟩
  obtain ⟨c2, f2⟩ := bcell hb2
  have s2 := hb2.size
  try simp at s2
  have l2x0 : w.heap.size < w2.heap.size := by omega
  unfold rfV
  go_wp2_with fail
  go_ret2
  refine ⟨ret2v (rintv ?_) rfl, (by repeat (first | (with_reducible exact Below.refl _ _) | (with_reducible refine bw_set ?_ ?_ _) | (with_reducible apply bw_alloc) | (with_reducible refine bw_tr ?_ (by with_reducible assumption)) | (with_reducible apply bw_drew) | omega))⟩
  rw [HEQ.out]
  try simp (disch := omega) only [IntWalk.wrap64_in]
  try (show _ = _; omega)
set_option maxHeartbeats 4000000 in
set_option maxRecDepth 100000 in
theorem refEnc_65 (x : Ins) (w : World) (hr : rightB x = true) (hf : (rowT x.op).form = 65) :
    Calls Try.prog 37 #[insV x] w fun e w' => e = .returned (.tuple #[.int .i64 (encN x : Nat), .int .i64 0]) ∧ Below w.heap.size w w' := by
  obtain ⟨h0, hd, ha, hb, hn1, hn2, hn3⟩ := right_parts hr
  obtain ⟨hrb, hop⟩ := row_facts h0
  have hq := hr
  simp only [rowB, hop, Bool.and_eq_true, decide_eq_true_eq, Bool.or_eq_true, beq_iff_eq] at hrb
  obtain ⟨⟨hlo, z1, z2, z3, z4⟩, _⟩ := hrb
  have HEQ := Lib.hid (encS_65 x hr hf)
  unfold shX at hd ha hb hn1 hn2 hn3
  have hnb := ok_nn hr
  obtain ⟨op, d, a, b, n⟩ := x
  simp only at *
  generalize hrw : rowT op = r at *
  obtain ⟨nm, f, lo, mi, hi⟩ := r
  simp only at *
  subst hf
  have HRW := Lib.hid hrw; have HR := Lib.hid hr; have HN := Lib.hid hnb
  clear hrw hr hq h0 hop hnb
  simp [shapeT] at hd ha hb hn1 hn2 hn3 z1 z2 z3
  try (obtain ⟨_, _, rfl⟩ := hd)
  try (obtain ⟨_, _, rfl⟩ := ha)
  try (obtain ⟨_, _, rfl⟩ := hb)
  try subst z1
  try subst z2
  unfold insV
  go_enter Try.func37, Try.ntmps37
  go_wp2_with fail
  refine (refRight_g _ _ _ _ _ true _ HR.out).mono ?_
  rintro e w1 ⟨rfl, hb1⟩
  obtain ⟨c1, f1⟩ := bcell hb1
  have s1 := hb1.size
  try simp at s1
  have l1x0 : w.heap.size < w1.heap.size := by omega
  go_wp2_with fail
  refine (refRow_any op _).mono ?_
  rw [HRW.out]
  rintro e w2 ⟨rfl, hb2⟩
  obtain ⟨c2, f2⟩ := bcell hb2
  have s2 := hb2.size
  try simp at s2
  have l2x0 : w.heap.size < w2.heap.size := by omega
  unfold rfV
  go_wp2_with fail
  go_ret2
  refine ⟨ret2v (rintv ?_) rfl, (by repeat (first | (with_reducible exact Below.refl _ _) | (with_reducible refine bw_set ?_ ?_ _) | (with_reducible apply bw_alloc) | (with_reducible refine bw_tr ?_ (by with_reducible assumption)) | (with_reducible apply bw_drew) | omega))⟩
  rw [HEQ.out]
  try simp (disch := omega) only [IntWalk.wrap64_in]
  try (show _ = _; omega)
set_option maxRecDepth 100000 in
theorem refEncode_any (x : Ins) (w : World) :
    Calls Try.prog 37 #[insV x] w fun e w' => e = .returned (.tuple #[.int .i64 (encV x), .int .i64 (encE x)]) ∧ Below w.heap.size w w' := by
  cases hr : rightB x
  case false =>
    rw [(enc_wrong hr).1, (enc_wrong hr).2]
    obtain ⟨op, d, a, b, n⟩ := x
    have HR := Lib.hid hr; clear hr
    unfold insV
    go_enter Try.func37, Try.ntmps37
    go_wp2_with fail
    refine (refRight_g _ _ _ _ _ false _ HR.out).mono ?_
    rintro e w1 ⟨rfl, hb1⟩
    obtain ⟨c1, f1⟩ := bcell hb1
    have s1 := hb1.size
    try simp at s1
    have l1x0 : w.heap.size < w1.heap.size := by omega
    go_wp2_with fail
    go_ret2
    exact ⟨rfl, (by repeat (first | (with_reducible exact Below.refl _ _) | (with_reducible refine bw_set ?_ ?_ _) | (with_reducible apply bw_alloc) | (with_reducible refine bw_tr ?_ (by with_reducible assumption)) | (with_reducible apply bw_drew) | omega))⟩
  case true =>
    rw [(enc_right hr).1, (enc_right hr).2]
    rcases form_mem _ (right_parts hr).1 with h | h | h | h | h | h | h | h | h | h | h | h
    · exact refEnc_82 x w hr h
    · exact refEnc_73 x w hr h
    · exact refEnc_72 x w hr h
    · exact refEnc_83 x w hr h
    · exact refEnc_66 x w hr h
    · exact refEnc_85 x w hr h
    · exact refEnc_74 x w hr h
    · exact refEnc_70 x w hr h
    · exact refEnc_67 x w hr h
    · exact refEnc_76 x w hr h
    · exact refEnc_65 x w hr h
    · exact refEnc_90 x w hr h
end Go.Proofs.Ytfepdieeiplbnaa
