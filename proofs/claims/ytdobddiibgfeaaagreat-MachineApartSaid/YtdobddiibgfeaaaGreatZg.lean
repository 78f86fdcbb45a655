/-
  What the walks of this statement lean on (Ref2A): shown.
-/
import Derived.Test.YtdobddiibgfeaaaGreatZa
import Derived.Test.YtdobddiibgfeaaaGreatZf
import Derived.Test.YtdobddiibgfeaaaGreatZc
import Derived.Test.YtdobddiibgfeaaaGreatZd
import Derived.LoopN
import Derived.WalkSpells
import Derived.WalkLawsBesides
import Derived.Deep.QuietTactic
import Derived.BigQuiet
set_option linter.unusedVariables false
set_option linter.unusedSimpArgs false
namespace Go.Proofs.YtdobddiibgfeaaaGreat
section
open Go.RowKit
def zhL (f c : Int) : Bool := if c = 68 then (zaI f).d else if c = 65 then (zaI f).a else (zaI f).b
set_option maxHeartbeats 8000000 in
theorem has2_any (f c : Int) (w : World) (hf : zhT f) (hc : c = 68 ∨ c = 65 ∨ c = 66) :
 Calls Tryz.prog 104 #[.int .u8 f, .int .u8 c] w fun e w' => e = .returned (.bool (zhL f c)) ∧ w = w' := by
 rcases hf with rfl | rfl | rfl | rfl | rfl | rfl | rfl | rfl | rfl | rfl | rfl | rfl <;> rcases hc with rfl | rfl | rfl
 all_goals
  go_enter Tryz.func104, Tryz.ntmps104
  go_wp2_with fail
  refine wp_loop_rounds 5 ?_
  rw [rounds_succ]
  go_wp2_with fail
  iterate 4 (try (rw [rounds_succ]; go_wp2_with fail))
  go_ret
  exact ⟨rfl, rfl⟩
theorem zgJ (n : Int) (is : Bool) (w : World) :
 Calls Tryz.prog 103 #[.int .i64 n, .bool is] w fun e w' => e = .returned (.bool (mayB n is)) ∧ w = w' := by
 cases h0 : (n == 0) <;> cases is <;> cases h1 : decide (0 < n) <;> cases h2 : decide (n < 32)
 all_goals first
  | (exfalso; simp at h0 h1 h2; omega)
  | (
   go_enter Tryz.func103, Tryz.ntmps103
   go_wp2_with fail
   go_ret
   exact ⟨zco (by unfold mayB; rw [h0, h2]; simp at h0 h1 h2 ⊢; try omega), rfl⟩)
def numF (f n : Int) : Bool := decide ((zaI f).least ≤ n) && (decide (n ≤ (zaI f).most) && modB n (zaI f).step)
set_option maxHeartbeats 8000000 in
theorem zgK (f n : Int) (w : World) (hf : zhT f) :
 Calls Tryz.prog 105 #[.int .u8 f, .int .i64 n] w fun e w' => e = .returned (.bool (numF f n)) ∧ w = w' := by
 rcases hf with rfl | rfl | rfl | rfl | rfl | rfl | rfl | rfl | rfl | rfl | rfl | rfl
 · cases h1 : (n == 0)
   all_goals
    have E := zhd (show numF 82 n = (n == 0) by unfold numF; rw [Bool.eq_iff_iff]; simp [zaI, modB]; omega)
    rw [h1] at E
    go_enter Tryz.func105, Tryz.ntmps105
    go_wp2_with fail
    go_ret
    exact ⟨zco E.out.symm, rfl⟩
 · have E := zhd (show numF 73 n = (decide (-2048 ≤ n) && decide (n ≤ 2047)) by simp [numF, zaI, modB])
   cases h1 : decide (-2048 ≤ n) <;> cases h2 : decide (n ≤ 2047)
   all_goals
    rw [h1, h2] at E
    go_enter Tryz.func105, Tryz.ntmps105
    go_wp2_with fail
    go_ret
    exact ⟨zco E.out.symm, rfl⟩
 · have E := zhd (show numF 72 n = (decide (0 ≤ n) && decide (n ≤ 31)) by simp [numF, zaI, modB])
   cases h1 : decide (0 ≤ n) <;> cases h2 : decide (n ≤ 31)
   all_goals
    rw [h1, h2] at E
    go_enter Tryz.func105, Tryz.ntmps105
    go_wp2_with fail
    go_ret
    exact ⟨zco E.out.symm, rfl⟩
 · have E := zhd (show numF 83 n = (decide (-2048 ≤ n) && decide (n ≤ 2047)) by simp [numF, zaI, modB])
   cases h1 : decide (-2048 ≤ n) <;> cases h2 : decide (n ≤ 2047)
   all_goals
    rw [h1, h2] at E
    go_enter Tryz.func105, Tryz.ntmps105
    go_wp2_with fail
    go_ret
    exact ⟨zco E.out.symm, rfl⟩
 · have E := zhd (show numF 66 n = (decide (-4096 ≤ n) && (decide (n ≤ 4094) && (n.tmod 2 == 0))) by simp [numF, zaI, modB])
   cases h1 : decide (-4096 ≤ n) <;> cases h2 : decide (n ≤ 4094) <;> cases h3 : (n.tmod 2 == 0)
   all_goals
    rw [h1, h2, h3] at E
    go_enter Tryz.func105, Tryz.ntmps105
    go_wp2_with fail
    go_ret
    exact ⟨zco E.out.symm, rfl⟩
 · have E := zhd (show numF 85 n = (decide (0 ≤ n) && decide (n < 1048576)) by rw [Bool.eq_iff_iff]; simp [numF, zaI, modB]; omega)
   cases h1 : decide (0 ≤ n) <;> cases h2 : decide (n < 1048576)
   all_goals
    rw [h1, h2] at E
    go_enter Tryz.func105, Tryz.ntmps105
    go_wp2_with fail
    go_ret
    exact ⟨zco E.out.symm, rfl⟩
 · have E := zhd (show numF 74 n = (decide (-1048576 ≤ n) && (decide (n ≤ 1048574) && (n.tmod 2 == 0))) by simp [numF, zaI, modB])
   cases h1 : decide (-1048576 ≤ n) <;> cases h2 : decide (n ≤ 1048574) <;> cases h3 : (n.tmod 2 == 0)
   all_goals
    rw [h1, h2, h3] at E
    go_enter Tryz.func105, Tryz.ntmps105
    go_wp2_with fail
    go_ret
    exact ⟨zco E.out.symm, rfl⟩
 · have E := zhd (show numF 70 n = (decide (0 ≤ n) && decide (n ≤ 255)) by simp [numF, zaI, modB])
   cases h1 : decide (0 ≤ n) <;> cases h2 : decide (n ≤ 255)
   all_goals
    rw [h1, h2] at E
    go_enter Tryz.func105, Tryz.ntmps105
    go_wp2_with fail
    go_ret
    exact ⟨zco E.out.symm, rfl⟩
 · have E := zhd (show numF 67 n = (decide (0 ≤ n) && decide (n ≤ 4095)) by simp [numF, zaI, modB])
   cases h1 : decide (0 ≤ n) <;> cases h2 : decide (n ≤ 4095)
   all_goals
    rw [h1, h2] at E
    go_enter Tryz.func105, Tryz.ntmps105
    go_wp2_with fail
    go_ret
    exact ⟨zco E.out.symm, rfl⟩
 · have E := zhd (show numF 76 n = (decide (0 ≤ n) && decide (n ≤ 3)) by simp [numF, zaI, modB])
   cases h1 : decide (0 ≤ n) <;> cases h2 : decide (n ≤ 3)
   all_goals
    rw [h1, h2] at E
    go_enter Tryz.func105, Tryz.ntmps105
    go_wp2_with fail
    go_ret
    exact ⟨zco E.out.symm, rfl⟩
 · have E := zhd (show numF 65 n = (decide (0 ≤ n) && decide (n ≤ 3)) by simp [numF, zaI, modB])
   cases h1 : decide (0 ≤ n) <;> cases h2 : decide (n ≤ 3)
   all_goals
    rw [h1, h2] at E
    go_enter Tryz.func105, Tryz.ntmps105
    go_wp2_with fail
    go_ret
    exact ⟨zco E.out.symm, rfl⟩
 · cases h1 : (n == 0)
   all_goals
    have E := zhd (show numF 90 n = (n == 0) by unfold numF; rw [Bool.eq_iff_iff]; simp [zaI, modB]; omega)
    rw [h1] at E
    go_enter Tryz.func105, Tryz.ntmps105
    go_wp2_with fail
    go_ret
    exact ⟨zco E.out.symm, rfl⟩
theorem bits_u (n : Int) (h : n < 0) : n.tmod 4294967296 = if n % 4294967296 = 0 then 0 else n % 4294967296 - 4294967296 := by
 rw [Int.tmod_eq_emod]
 split <;> split <;> omega
theorem bits_fin (u : Int) (fr mn : Nat) (h : 0 ≤ u ∧ u < 4294967296) : (u / 2 ^ fr).tmod ((2 ^ mn : Nat) : Int) = ((zac u.toNat fr mn : Nat) : Int) := by
 obtain ⟨k, rfl⟩ := Int.eq_ofNat_of_zero_le h.1
 rw [zdR, ← Int.natCast_ediv, Int.tmod_eq_emod_of_nonneg (Int.natCast_nonneg _), ← Int.natCast_emod]
 rfl
set_option maxHeartbeats 2000000 in
theorem bits_any (n : Int) (fr mn : Nat) (w : World) (_ : I64 n) (hf : fr < 32) (hm : mn < 32) :
 Calls Tryz.prog 63 #[.int .i64 n, .int .i64 fr, .int .i64 mn] w fun e w' => e = .returned (.int .i64 (zac (n % 4294967296).toNat fr mn : Nat)) ∧ ∃ q, w' = w.drewN q := by
 have hu : 0 ≤ n % 4294967296 ∧ n % 4294967296 < 4294967296 := by omega
 have E := zhd (bits_fin (n % 4294967296) fr mn hu)
 have p1 := zfo mn hm
 have p2 : 0 < 2 ^ mn := Nat.two_pow_pos mn
 have hu2 := bits_u n
 generalize hU : n % 4294967296 = u at *
 obtain ⟨P, hP⟩ : ∃ P : Nat, P = 2 ^ mn := ⟨_, rfl⟩
 rw [← hP] at E p1 p2
 have ep : IntKind.i64.wrap (2 ^ mn) = (P : Int) := by rw [zdR, ← hP]; exact IntWalk.i64_in _ (by omega)
 have hz : ((P : Int) == 0) = false := by simp; omega
 clear hP
 by_cases h0 : 0 ≤ n
 · clear hu2
   have HU := zhd hU
   go_enter Tryz.func63, Tryz.ntmps63
   go_wp2_with fail
   clear hU
   go_quiet (fail)
   go_wp2_with fail
   go_ret
   exact ⟨zjQ (by rw [HU.out]; exact E.out), _, rfl⟩
 · have hu3 := hu2 (by omega)
   clear hu2
   by_cases hz0 : u = 0
   · rw [if_pos hz0] at hu3
     subst hz0
     clear hU
     go_enter Tryz.func63, Tryz.ntmps63
     go_wp2_with fail
     clear hu3
     go_quiet (fail)
     go_wp2_with fail
     go_ret
     exact ⟨zjQ (by simpa using E.out), _, rfl⟩
   · rw [if_neg hz0] at hu3
     clear hU
     go_enter Tryz.func63, Tryz.ntmps63
     go_wp2_with fail
     clear hu3
     go_quiet (fail)
     go_wp2_with fail
     go_ret
     exact ⟨zjQ (by simpa using E.out), _, rfl⟩
end
section
open Go.RowKit
theorem empty_b' {s : ByteArray} (h : s ≠ ⟨#[]⟩) : s.toList.isEmpty = false := by
 rw [ByteArray.toList_eq]
 obtain ⟨⟨l⟩⟩ := s
 cases l with
 | nil => exact absurd rfl h
 | cons a l => rfl
theorem zj1 : ∀ i : Fin 50, 1 ≤ i.val → (rowT i.val).nm ≠ ⟨#[]⟩ := by decide +kernel
theorem zj2 (op : Int) (h : 1 ≤ op ∧ op ≤ 49) : (rowT op).nm.toList.isEmpty = false := by
 have s := zj1 ⟨op.toNat, by omega⟩ (by simp; omega)
 rw [show ((op.toNat : Nat) : Int) = op by omega] at s
 exact empty_b' s
theorem zfl (f c : Int) (r : Bool) (w : World) (hf : zhT f) (hc : c = 68 ∨ c = 65 ∨ c = 66) (hr : zhL f c = r) :
 Calls Tryz.prog 104 #[.int .u8 f, .int .u8 c] w fun e w' => e = .returned (.bool r) ∧ w' = w := by
 subst hr; exact (has2_any f c w hf hc).mono fun _ _ ⟨a, b⟩ => ⟨a, b.symm⟩
theorem zbD (n : Int) (is r : Bool) (w : World) (hr : mayB n is = r) :
 Calls Tryz.prog 103 #[.int .i64 n, .bool is] w fun e w' => e = .returned (.bool r) ∧ w' = w := by
 subst hr; exact (zgJ n is w).mono fun _ _ ⟨a, b⟩ => ⟨a, b.symm⟩
theorem zjb (f n : Int) (r : Bool) (w : World) (hf : zhT f) (hr : numF f n = r) :
 Calls Tryz.prog 105 #[.int .u8 f, .int .i64 n] w fun e w' => e = .returned (.bool r) ∧ w' = w := by
 subst hr; exact (zgK f n w hf).mono fun _ _ ⟨a, b⟩ => ⟨a, b.symm⟩
theorem zjP (x : Ins) : zaS x = (isOp x.op && (mayB x.d (zhL (rowT x.op).form 68) && (mayB x.a (zhL (rowT x.op).form 65) && (mayB x.b (zhL (rowT x.op).form 66) && numF (rowT x.op).form x.n)))) := rfl
set_option maxHeartbeats 8000000 in
theorem zhx (x : Ins) (w : World) :
 Calls Tryz.prog 61 #[insV x] w fun e w' => e = .returned (.bool (zaS x)) ∧ Below w.heap.size w w' := by
 obtain ⟨op, d, a, b, n⟩ := x
 have HE := zhd (zjP ⟨op, d, a, b, n⟩)
 simp only at HE
 unfold insV
 by_cases h0 : 1 ≤ op ∧ op ≤ 49
 · have hf := zg6 op h0
   have hne := zj2 op h0
   rw [zgZ h0] at HE
   generalize zaS ⟨op, d, a, b, n⟩ = rr at *
   generalize hrw : rowT op = r at *
   have HRW := zhd hrw; clear hrw h0
   obtain ⟨nm, f, lo, mi, hi⟩ := r
   simp only at hf hne HE
   have HF := zhd hf; clear hf
   generalize h68 : zhL f 68 = sd at *
   generalize h65 : zhL f 65 = sa at *
   generalize h66 : zhL f 66 = sb at *
   have H68 := zhd h68; have H65 := zhd h65; have H66 := zhd h66
   clear h68 h65 h66
   cases h1 : mayB d sd
   case false =>
    have H1 := zhd h1; clear h1
    rw [H1.out] at HE
    go_enter Tryz.func61, Tryz.ntmps61
    go_wp2_with fail
    refine (za6 op _).mono ?_
    rw [HRW.out]
    rintro e w1 ⟨rfl, hb1⟩
    obtain ⟨c1, f1⟩ := za8 hb1
    have s1 := hb1.size
    try simp at s1
    have l1x0 : w.heap.size < w1.heap.size := by omega
    unfold rfV
    go_wp2_with fail
    go_quiet ((first | (go_at_call 104; first | with_reducible exact Calls.quiet_of_same (zfl f 68 sd _ HF.out (by simp) H68.out)) | (go_at_call 103; first | with_reducible exact Calls.quiet_of_same (zbD d sd _ _ H1.out))))
    go_wp2_with fail
    go_ret
    exact ⟨zco (HE.out.trans (by simp)).symm, zaF (by repeat (first | (with_reducible first | exact Below.refl _ _ | refine zaj ?_ ?_ _ | apply zag | refine zae ?_ (by assumption) | apply zak) | omega)) _⟩
   case true =>
    have H1 := zhd h1; clear h1
    rw [H1.out] at HE
    cases h2 : mayB a sa
    case false =>
     have H2 := zhd h2; clear h2
     rw [H2.out] at HE
     go_enter Tryz.func61, Tryz.ntmps61
     go_wp2_with fail
     refine (za6 op _).mono ?_
     rw [HRW.out]
     rintro e w1 ⟨rfl, hb1⟩
     obtain ⟨c1, f1⟩ := za8 hb1
     have s1 := hb1.size
     try simp at s1
     have l1x0 : w.heap.size < w1.heap.size := by omega
     unfold rfV
     go_wp2_with fail
     go_quiet ((first | (go_at_call 104; first | with_reducible exact Calls.quiet_of_same (zfl f 68 sd _ HF.out (by simp) H68.out) | with_reducible exact Calls.quiet_of_same (zfl f 65 sa _ HF.out (by simp) H65.out)) | (go_at_call 103; first | with_reducible exact Calls.quiet_of_same (zbD d sd _ _ H1.out) | with_reducible exact Calls.quiet_of_same (zbD a sa _ _ H2.out))))
     go_wp2_with fail
     go_ret
     exact ⟨zco (HE.out.trans (by simp)).symm, zaF (by repeat (first | (with_reducible first | exact Below.refl _ _ | refine zaj ?_ ?_ _ | apply zag | refine zae ?_ (by assumption) | apply zak) | omega)) _⟩
    case true =>
     have H2 := zhd h2; clear h2
     rw [H2.out] at HE
     cases h3 : mayB b sb
     case false =>
      have H3 := zhd h3; clear h3
      rw [H3.out] at HE
      go_enter Tryz.func61, Tryz.ntmps61
      go_wp2_with fail
      refine (za6 op _).mono ?_
      rw [HRW.out]
      rintro e w1 ⟨rfl, hb1⟩
      obtain ⟨c1, f1⟩ := za8 hb1
      have s1 := hb1.size
      try simp at s1
      have l1x0 : w.heap.size < w1.heap.size := by omega
      unfold rfV
      go_wp2_with fail
      go_quiet ((first | (go_at_call 104; first | with_reducible exact Calls.quiet_of_same (zfl f 68 sd _ HF.out (by simp) H68.out) | with_reducible exact Calls.quiet_of_same (zfl f 65 sa _ HF.out (by simp) H65.out) | with_reducible exact Calls.quiet_of_same (zfl f 66 sb _ HF.out (by simp) H66.out)) | (go_at_call 103; first | with_reducible exact Calls.quiet_of_same (zbD d sd _ _ H1.out) | with_reducible exact Calls.quiet_of_same (zbD a sa _ _ H2.out) | with_reducible exact Calls.quiet_of_same (zbD b sb _ _ H3.out))))
      go_wp2_with fail
      go_ret
      exact ⟨zco (HE.out.trans (by simp)).symm, zaF (by repeat (first | (with_reducible first | exact Below.refl _ _ | refine zaj ?_ ?_ _ | apply zag | refine zae ?_ (by assumption) | apply zak) | omega)) _⟩
     case true =>
      have H3 := zhd h3; clear h3
      rw [H3.out] at HE
      cases h4 : numF f n
      case false =>
       have H4 := zhd h4; clear h4
       rw [H4.out] at HE
       go_enter Tryz.func61, Tryz.ntmps61
       go_wp2_with fail
       refine (za6 op _).mono ?_
       rw [HRW.out]
       rintro e w1 ⟨rfl, hb1⟩
       obtain ⟨c1, f1⟩ := za8 hb1
       have s1 := hb1.size
       try simp at s1
       have l1x0 : w.heap.size < w1.heap.size := by omega
       unfold rfV
       go_wp2_with fail
       go_quiet ((first | (go_at_call 104; first | with_reducible exact Calls.quiet_of_same (zfl f 68 sd _ HF.out (by simp) H68.out) | with_reducible exact Calls.quiet_of_same (zfl f 65 sa _ HF.out (by simp) H65.out) | with_reducible exact Calls.quiet_of_same (zfl f 66 sb _ HF.out (by simp) H66.out)) | (go_at_call 103; first | with_reducible exact Calls.quiet_of_same (zbD d sd _ _ H1.out) | with_reducible exact Calls.quiet_of_same (zbD a sa _ _ H2.out) | with_reducible exact Calls.quiet_of_same (zbD b sb _ _ H3.out)) | (go_at_call 105; with_reducible exact Calls.quiet_of_same (zjb f n _ _ HF.out H4.out))))
       go_wp2_with fail
       go_ret
       exact ⟨zco (HE.out.trans (by simp)).symm, zaF (by repeat (first | (with_reducible first | exact Below.refl _ _ | refine zaj ?_ ?_ _ | apply zag | refine zae ?_ (by assumption) | apply zak) | omega)) _⟩
      case true =>
       have H4 := zhd h4; clear h4
       rw [H4.out] at HE
       go_enter Tryz.func61, Tryz.ntmps61
       go_wp2_with fail
       refine (za6 op _).mono ?_
       rw [HRW.out]
       rintro e w1 ⟨rfl, hb1⟩
       obtain ⟨c1, f1⟩ := za8 hb1
       have s1 := hb1.size
       try simp at s1
       have l1x0 : w.heap.size < w1.heap.size := by omega
       unfold rfV
       go_wp2_with fail
       go_quiet ((first | (go_at_call 104; first | with_reducible exact Calls.quiet_of_same (zfl f 68 sd _ HF.out (by simp) H68.out) | with_reducible exact Calls.quiet_of_same (zfl f 65 sa _ HF.out (by simp) H65.out) | with_reducible exact Calls.quiet_of_same (zfl f 66 sb _ HF.out (by simp) H66.out)) | (go_at_call 103; first | with_reducible exact Calls.quiet_of_same (zbD d sd _ _ H1.out) | with_reducible exact Calls.quiet_of_same (zbD a sa _ _ H2.out) | with_reducible exact Calls.quiet_of_same (zbD b sb _ _ H3.out)) | (go_at_call 105; with_reducible exact Calls.quiet_of_same (zjb f n _ _ HF.out H4.out))))
       go_wp2_with fail
       go_ret
       exact ⟨zco (HE.out.trans (by simp)).symm, zaF (by repeat (first | (with_reducible first | exact Below.refl _ _ | refine zaj ?_ ?_ _ | apply zag | refine zae ?_ (by assumption) | apply zak) | omega)) _⟩
 · rw [zg0 h0] at HE
   generalize zaS ⟨op, d, a, b, n⟩ = rr at *
   have HRW := zhd (zgI h0); clear h0
   go_enter Tryz.func61, Tryz.ntmps61
   go_wp2_with fail
   refine (za6 op _).mono ?_
   rw [HRW.out]
   rintro e w1 ⟨rfl, hb1⟩
   obtain ⟨c1, f1⟩ := za8 hb1
   have s1 := hb1.size
   try simp at s1
   have l1x0 : w.heap.size < w1.heap.size := by omega
   unfold rfV noRw
   go_wp2_with fail
   go_ret
   exact ⟨zco HE.out.symm, (by repeat (first | (with_reducible first | exact Below.refl _ _ | refine zaj ?_ ?_ _ | apply zag | refine zae ?_ (by assumption) | apply zak) | omega))⟩
end
section
open Go.RowKit
set_option linter.unusedSimpArgs false
theorem zce (op : Int) : 0 ≤ zbE op ∧ zbE op ≤ 5 := by
 unfold zbE
 repeat' split
 all_goals omega
theorem zk6 (f : Int) : -1048576 ≤ (zaI f).least ∧ (zaI f).most ≤ 1048575 := by
 unfold zaI
 repeat' split
 all_goals simp
theorem zfb {x : Ins} (h : zaS x = true) : I64 x.n := by
 obtain ⟨_, _, _, _, h1, h2, _⟩ := zaN h
 have := zk6 (rowT x.op).form
 unfold shX at h1 h2
 exact ⟨by omega, by omega⟩
theorem split_0 (V : Nat) (h : V < 4294967296) : V = zac V 0 7 * 1 + zac V 7 1 * 128 + zac V 8 4 * 256 + zac V 12 3 * 4096 + zac V 15 5 * 32768 + zac V 20 5 * 1048576 + zac V 25 6 * 33554432 + zac V 31 1 * 2147483648 := by
 simp only [zac, Nat.reducePow, Nat.div_one]
 omega
theorem zk5 (V : Nat) (h : V < 4294967296) : V = zac V 0 7 * 1 + zac V 7 5 * 128 + zac V 12 3 * 4096 + zac V 15 5 * 32768 + zac V 20 5 * 1048576 + zac V 25 2 * 33554432 + zac V 27 5 * 134217728 := by
 simp only [zac, Nat.reducePow, Nat.div_one]
 omega
theorem zgE (V : Nat) (h : V < 4294967296) : V = zac V 0 7 * 1 + zac V 7 5 * 128 + zac V 12 3 * 4096 + zac V 15 5 * 32768 + zac V 20 5 * 1048576 + zac V 25 7 * 33554432 := by
 simp only [zac, Nat.reducePow, Nat.div_one]
 omega
theorem split_3 (V : Nat) (h : V < 4294967296) : V = zac V 0 7 * 1 + zac V 7 5 * 128 + zac V 12 3 * 4096 + zac V 15 5 * 32768 + zac V 20 8 * 1048576 + zac V 28 4 * 268435456 := by
 simp only [zac, Nat.reducePow, Nat.div_one]
 omega
theorem zk4 (V : Nat) (h : V < 4294967296) : V = zac V 0 7 * 1 + zac V 7 5 * 128 + zac V 12 3 * 4096 + zac V 15 5 * 32768 + zac V 20 12 * 1048576 := by
 simp only [zac, Nat.reducePow, Nat.div_one]
 omega
theorem split_5 (V : Nat) (h : V < 4294967296) : V = zac V 0 7 * 1 + zac V 7 5 * 128 + zac V 12 8 * 4096 + zac V 20 1 * 1048576 + zac V 21 10 * 2097152 + zac V 31 1 * 2147483648 := by
 simp only [zac, Nat.reducePow, Nat.div_one]
 omega
theorem split_6 (V : Nat) (h : V < 4294967296) : V = zac V 0 7 * 1 + zac V 7 5 * 128 + zac V 12 20 * 4096 := by
 simp only [zac, Nat.reducePow, Nat.div_one]
 omega
set_option maxRecDepth 10000 in
set_option maxHeartbeats 1000000 in
theorem encS_82 (x : Ins) (h : zaS x = true) (hfo : (rowT x.op).form = 82) : ((encN x : Nat) : Int) = (rowT x.op).low + (rowT x.op).mid * 4096 + x.a * 32768 + x.d * 128 + x.b * 1048576 + (rowT x.op).high * 33554432 := by
 obtain ⟨h0, hd, ha, hb, hn1, hn2, hn3⟩ := zaN h
 obtain ⟨hr, hop⟩ := za4 h0
 have hfx := zce x.op
 clear h
 simp only [rowB, hop, Bool.and_eq_true, decide_eq_true_eq, Bool.or_eq_true, beq_iff_eq] at hr
 obtain ⟨⟨hlo, z1, z2, z3, z4⟩, _⟩ := hr
 unfold encN zdX
 unfold shX at hd ha hb hn1 hn2 hn3
 obtain ⟨op, d, a, b, n⟩ := x
 simp only at *
 generalize rowT op = r at *
 obtain ⟨nm, f, lo, mi, hi⟩ := r
 simp only at *
 generalize zbE op = fx at *
 subst hfo
 clear hop h0
 simp [zaI] at hd ha hb hn1 hn2 hn3 z1 z2 z3 z4
 try (obtain ⟨_, _, rfl⟩ := hd)
 try (obtain ⟨_, _, rfl⟩ := ha)
 try (obtain ⟨_, _, rfl⟩ := hb)
 try subst z1
 try subst z2
 try subst z4
 have hlt := zci ([⟨lo, 0, 7, 0⟩, ⟨mi, 0, 3, 12⟩, ⟨hi, 0, 7, 25⟩, ⟨d, 0, 5, 7⟩, ⟨a, 0, 5, 15⟩, ⟨b + 0, 0, 5, 20⟩] ++ numP 82 n)
 generalize hV : layN _ = V at *
 obtain ⟨e0, e1, e2, e3, e4, e5⟩ : (((zac V 0 7 : Nat) : Int) = lo) ∧ (((zac V 7 5 : Nat) : Int) = d) ∧ (((zac V 12 3 : Nat) : Int) = mi) ∧ (((zac V 15 5 : Nat) : Int) = a) ∧ (((zac V 20 5 : Nat) : Int) = b) ∧ (((zac V 25 7 : Nat) : Int) = hi) := by
  refine ⟨?_, ?_, ?_, ?_, ?_, ?_⟩
  all_goals
   rw [← hV]
   generalize hE : zac (layN _) _ _ = E
   simp only [List.cons_append, List.nil_append] at hE
   simp [numP, layN, zbn, zbd, zav, field_zero] at hE
   try simp (disch := decide) only [zb0, zcO, zav, field_zero, Nat.or_zero, Nat.zero_or] at hE
   try simp only [Int.reduceToNat, Nat.reducePow, Nat.reduceSub, Nat.div_one, Nat.reduceMul, Nat.mul_one] at hE
   clear hV
   rw [← hE]
   try simp only [zac, Nat.reducePow, Nat.div_one]
   try omega
 have hs := zgE V hlt
 clear hV hlt
 generalize zac V 0 7 = q0, zac V 7 5 = q1, zac V 12 3 = q2, zac V 15 5 = q3, zac V 20 5 = q4, zac V 25 7 = q5 at *
 clear hlo
 omega
set_option maxRecDepth 10000 in
set_option maxHeartbeats 1000000 in
theorem encS_73 (x : Ins) (h : zaS x = true) (hfo : (rowT x.op).form = 73) : ((encN x : Nat) : Int) = (rowT x.op).low + (rowT x.op).mid * 4096 + x.a * 32768 + x.d * 128 + ((zac (x.n % 4294967296).toNat 0 12 : Nat) : Int) * 1048576 := by
 obtain ⟨h0, hd, ha, hb, hn1, hn2, hn3⟩ := zaN h
 obtain ⟨hr, hop⟩ := za4 h0
 have hfx := zce x.op
 clear h
 simp only [rowB, hop, Bool.and_eq_true, decide_eq_true_eq, Bool.or_eq_true, beq_iff_eq] at hr
 obtain ⟨⟨hlo, z1, z2, z3, z4⟩, _⟩ := hr
 unfold encN zdX
 unfold shX at hd ha hb hn1 hn2 hn3
 obtain ⟨op, d, a, b, n⟩ := x
 simp only at *
 generalize rowT op = r at *
 obtain ⟨nm, f, lo, mi, hi⟩ := r
 simp only at *
 generalize zbE op = fx at *
 subst hfo
 clear hop h0
 simp [zaI] at hd ha hb hn1 hn2 hn3 z1 z2 z3 z4
 try (obtain ⟨_, _, rfl⟩ := hd)
 try (obtain ⟨_, _, rfl⟩ := ha)
 try (obtain ⟨_, _, rfl⟩ := hb)
 try subst z1
 try subst z2
 try subst z4
 have hlt := zci ([⟨lo, 0, 7, 0⟩, ⟨mi, 0, 3, 12⟩, ⟨0, 0, 7, 25⟩, ⟨d, 0, 5, 7⟩, ⟨a, 0, 5, 15⟩, ⟨0 + 0, 0, 5, 20⟩] ++ numP 73 n)
 generalize hV : layN _ = V at *
 obtain ⟨e0, e1, e2, e3, e4⟩ : (((zac V 0 7 : Nat) : Int) = lo) ∧ (((zac V 7 5 : Nat) : Int) = d) ∧ (((zac V 12 3 : Nat) : Int) = mi) ∧ (((zac V 15 5 : Nat) : Int) = a) ∧ (((zac V 20 12 : Nat) : Int) = ((zac (n % 4294967296).toNat 0 12 : Nat) : Int)) := by
  refine ⟨?_, ?_, ?_, ?_, ?_⟩
  all_goals
   rw [← hV]
   generalize hE : zac (layN _) _ _ = E
   simp only [List.cons_append, List.nil_append] at hE
   simp [numP, layN, zbn, zbd, zav, field_zero] at hE
   try simp (disch := decide) only [zb0, zcO, zav, field_zero, Nat.or_zero, Nat.zero_or] at hE
   try simp only [Int.reduceToNat, Nat.reducePow, Nat.reduceSub, Nat.div_one, Nat.reduceMul, Nat.mul_one] at hE
   clear hV
   rw [← hE]
   try simp only [zac, Nat.reducePow, Nat.div_one]
   try omega
 have hs := zk4 V hlt
 clear hV hlt
 generalize zac V 0 7 = q0, zac V 7 5 = q1, zac V 12 3 = q2, zac V 15 5 = q3, zac V 20 12 = q4 at *
 generalize zac (n % 4294967296).toNat 0 12 = t0 at *
 clear hlo
 omega
set_option maxRecDepth 10000 in
set_option maxHeartbeats 1000000 in
theorem encS_67 (x : Ins) (h : zaS x = true) (hfo : (rowT x.op).form = 67) : ((encN x : Nat) : Int) = (rowT x.op).low + (rowT x.op).mid * 4096 + x.a * 32768 + x.d * 128 + ((zac (x.n % 4294967296).toNat 0 12 : Nat) : Int) * 1048576 := by
 obtain ⟨h0, hd, ha, hb, hn1, hn2, hn3⟩ := zaN h
 obtain ⟨hr, hop⟩ := za4 h0
 have hfx := zce x.op
 clear h
 simp only [rowB, hop, Bool.and_eq_true, decide_eq_true_eq, Bool.or_eq_true, beq_iff_eq] at hr
 obtain ⟨⟨hlo, z1, z2, z3, z4⟩, _⟩ := hr
 unfold encN zdX
 unfold shX at hd ha hb hn1 hn2 hn3
 obtain ⟨op, d, a, b, n⟩ := x
 simp only at *
 generalize rowT op = r at *
 obtain ⟨nm, f, lo, mi, hi⟩ := r
 simp only at *
 generalize zbE op = fx at *
 subst hfo
 clear hop h0
 simp [zaI] at hd ha hb hn1 hn2 hn3 z1 z2 z3 z4
 try (obtain ⟨_, _, rfl⟩ := hd)
 try (obtain ⟨_, _, rfl⟩ := ha)
 try (obtain ⟨_, _, rfl⟩ := hb)
 try subst z1
 try subst z2
 try subst z4
 have hlt := zci ([⟨lo, 0, 7, 0⟩, ⟨mi, 0, 3, 12⟩, ⟨0, 0, 7, 25⟩, ⟨d, 0, 5, 7⟩, ⟨a, 0, 5, 15⟩, ⟨0 + 0, 0, 5, 20⟩] ++ numP 67 n)
 generalize hV : layN _ = V at *
 obtain ⟨e0, e1, e2, e3, e4⟩ : (((zac V 0 7 : Nat) : Int) = lo) ∧ (((zac V 7 5 : Nat) : Int) = d) ∧ (((zac V 12 3 : Nat) : Int) = mi) ∧ (((zac V 15 5 : Nat) : Int) = a) ∧ (((zac V 20 12 : Nat) : Int) = ((zac (n % 4294967296).toNat 0 12 : Nat) : Int)) := by
  refine ⟨?_, ?_, ?_, ?_, ?_⟩
  all_goals
   rw [← hV]
   generalize hE : zac (layN _) _ _ = E
   simp only [List.cons_append, List.nil_append] at hE
   simp [numP, layN, zbn, zbd, zav, field_zero] at hE
   try simp (disch := decide) only [zb0, zcO, zav, field_zero, Nat.or_zero, Nat.zero_or] at hE
   try simp only [Int.reduceToNat, Nat.reducePow, Nat.reduceSub, Nat.div_one, Nat.reduceMul, Nat.mul_one] at hE
   clear hV
   rw [← hE]
   try simp only [zac, Nat.reducePow, Nat.div_one]
   try omega
 have hs := zk4 V hlt
 clear hV hlt
 generalize zac V 0 7 = q0, zac V 7 5 = q1, zac V 12 3 = q2, zac V 15 5 = q3, zac V 20 12 = q4 at *
 generalize zac (n % 4294967296).toNat 0 12 = t0 at *
 clear hlo
 omega
set_option maxRecDepth 10000 in
set_option maxHeartbeats 1000000 in
theorem encS_72 (x : Ins) (h : zaS x = true) (hfo : (rowT x.op).form = 72) : ((encN x : Nat) : Int) = (rowT x.op).low + (rowT x.op).mid * 4096 + x.a * 32768 + x.d * 128 + x.n * 1048576 + (rowT x.op).high * 33554432 := by
 obtain ⟨h0, hd, ha, hb, hn1, hn2, hn3⟩ := zaN h
 obtain ⟨hr, hop⟩ := za4 h0
 have hfx := zce x.op
 clear h
 simp only [rowB, hop, Bool.and_eq_true, decide_eq_true_eq, Bool.or_eq_true, beq_iff_eq] at hr
 obtain ⟨⟨hlo, z1, z2, z3, z4⟩, _⟩ := hr
 unfold encN zdX
 unfold shX at hd ha hb hn1 hn2 hn3
 obtain ⟨op, d, a, b, n⟩ := x
 simp only at *
 generalize rowT op = r at *
 obtain ⟨nm, f, lo, mi, hi⟩ := r
 simp only at *
 generalize zbE op = fx at *
 subst hfo
 clear hop h0
 simp [zaI] at hd ha hb hn1 hn2 hn3 z1 z2 z3 z4
 try (obtain ⟨_, _, rfl⟩ := hd)
 try (obtain ⟨_, _, rfl⟩ := ha)
 try (obtain ⟨_, _, rfl⟩ := hb)
 try subst z1
 try subst z2
 try subst z4
 have hlt := zci ([⟨lo, 0, 7, 0⟩, ⟨mi, 0, 3, 12⟩, ⟨hi, 0, 7, 25⟩, ⟨d, 0, 5, 7⟩, ⟨a, 0, 5, 15⟩, ⟨0 + 0, 0, 5, 20⟩] ++ numP 72 n)
 generalize hV : layN _ = V at *
 obtain ⟨e0, e1, e2, e3, e4, e5⟩ : (((zac V 0 7 : Nat) : Int) = lo) ∧ (((zac V 7 5 : Nat) : Int) = d) ∧ (((zac V 12 3 : Nat) : Int) = mi) ∧ (((zac V 15 5 : Nat) : Int) = a) ∧ (((zac V 20 5 : Nat) : Int) = n) ∧ (((zac V 25 7 : Nat) : Int) = hi) := by
  refine ⟨?_, ?_, ?_, ?_, ?_, ?_⟩
  all_goals
   rw [← hV]
   generalize hE : zac (layN _) _ _ = E
   simp only [List.cons_append, List.nil_append] at hE
   simp [numP, layN, zbn, zbd, zav, field_zero] at hE
   try simp (disch := decide) only [zb0, zcO, zav, field_zero, Nat.or_zero, Nat.zero_or] at hE
   try simp only [Int.reduceToNat, Nat.reducePow, Nat.reduceSub, Nat.div_one, Nat.reduceMul, Nat.mul_one] at hE
   clear hV
   rw [← hE]
   try simp only [zac, Nat.reducePow, Nat.div_one]
   try omega
 have hs := zgE V hlt
 clear hV hlt
 generalize zac V 0 7 = q0, zac V 7 5 = q1, zac V 12 3 = q2, zac V 15 5 = q3, zac V 20 5 = q4, zac V 25 7 = q5 at *
 clear hlo
 omega
set_option maxRecDepth 10000 in
set_option maxHeartbeats 1000000 in
theorem encS_83 (x : Ins) (h : zaS x = true) (hfo : (rowT x.op).form = 83) : ((encN x : Nat) : Int) = (rowT x.op).low + (rowT x.op).mid * 4096 + x.a * 32768 + ((zac (x.n % 4294967296).toNat 0 5 : Nat) : Int) * 128 + x.b * 1048576 + ((zac (x.n % 4294967296).toNat 5 7 : Nat) : Int) * 33554432 := by
 obtain ⟨h0, hd, ha, hb, hn1, hn2, hn3⟩ := zaN h
 obtain ⟨hr, hop⟩ := za4 h0
 have hfx := zce x.op
 clear h
 simp only [rowB, hop, Bool.and_eq_true, decide_eq_true_eq, Bool.or_eq_true, beq_iff_eq] at hr
 obtain ⟨⟨hlo, z1, z2, z3, z4⟩, _⟩ := hr
 unfold encN zdX
 unfold shX at hd ha hb hn1 hn2 hn3
 obtain ⟨op, d, a, b, n⟩ := x
 simp only at *
 generalize rowT op = r at *
 obtain ⟨nm, f, lo, mi, hi⟩ := r
 simp only at *
 generalize zbE op = fx at *
 subst hfo
 clear hop h0
 simp [zaI] at hd ha hb hn1 hn2 hn3 z1 z2 z3 z4
 try (obtain ⟨_, _, rfl⟩ := hd)
 try (obtain ⟨_, _, rfl⟩ := ha)
 try (obtain ⟨_, _, rfl⟩ := hb)
 try subst z1
 try subst z2
 try subst z4
 have hlt := zci ([⟨lo, 0, 7, 0⟩, ⟨mi, 0, 3, 12⟩, ⟨0, 0, 7, 25⟩, ⟨0, 0, 5, 7⟩, ⟨a, 0, 5, 15⟩, ⟨b + 0, 0, 5, 20⟩] ++ numP 83 n)
 generalize hV : layN _ = V at *
 obtain ⟨e0, e1, e2, e3, e4, e5⟩ : (((zac V 0 7 : Nat) : Int) = lo) ∧ (((zac V 7 5 : Nat) : Int) = ((zac (n % 4294967296).toNat 0 5 : Nat) : Int)) ∧ (((zac V 12 3 : Nat) : Int) = mi) ∧ (((zac V 15 5 : Nat) : Int) = a) ∧ (((zac V 20 5 : Nat) : Int) = b) ∧ (((zac V 25 7 : Nat) : Int) = ((zac (n % 4294967296).toNat 5 7 : Nat) : Int)) := by
  refine ⟨?_, ?_, ?_, ?_, ?_, ?_⟩
  all_goals
   rw [← hV]
   generalize hE : zac (layN _) _ _ = E
   simp only [List.cons_append, List.nil_append] at hE
   simp [numP, layN, zbn, zbd, zav, field_zero] at hE
   try simp (disch := decide) only [zb0, zcO, zav, field_zero, Nat.or_zero, Nat.zero_or] at hE
   try simp only [Int.reduceToNat, Nat.reducePow, Nat.reduceSub, Nat.div_one, Nat.reduceMul, Nat.mul_one] at hE
   clear hV
   rw [← hE]
   try simp only [zac, Nat.reducePow, Nat.div_one]
   try omega
 have hs := zgE V hlt
 clear hV hlt
 generalize zac V 0 7 = q0, zac V 7 5 = q1, zac V 12 3 = q2, zac V 15 5 = q3, zac V 20 5 = q4, zac V 25 7 = q5 at *
 generalize zac (n % 4294967296).toNat 0 5 = t0, zac (n % 4294967296).toNat 5 7 = t1 at *
 clear hlo
 omega
set_option maxRecDepth 10000 in
set_option maxHeartbeats 1000000 in
theorem encS_66 (x : Ins) (h : zaS x = true) (hfo : (rowT x.op).form = 66) : ((encN x : Nat) : Int) = (rowT x.op).low + (rowT x.op).mid * 4096 + x.a * 32768 + ((zac (x.n % 4294967296).toNat 11 1 : Nat) : Int) * 128 + ((zac (x.n % 4294967296).toNat 1 4 : Nat) : Int) * 256 + x.b * 1048576 + ((zac (x.n % 4294967296).toNat 5 6 : Nat) : Int) * 33554432 + ((zac (x.n % 4294967296).toNat 12 1 : Nat) : Int) * 2147483648 := by
 obtain ⟨h0, hd, ha, hb, hn1, hn2, hn3⟩ := zaN h
 obtain ⟨hr, hop⟩ := za4 h0
 have hfx := zce x.op
 clear h
 simp only [rowB, hop, Bool.and_eq_true, decide_eq_true_eq, Bool.or_eq_true, beq_iff_eq] at hr
 obtain ⟨⟨hlo, z1, z2, z3, z4⟩, _⟩ := hr
 unfold encN zdX
 unfold shX at hd ha hb hn1 hn2 hn3
 obtain ⟨op, d, a, b, n⟩ := x
 simp only at *
 generalize rowT op = r at *
 obtain ⟨nm, f, lo, mi, hi⟩ := r
 simp only at *
 generalize zbE op = fx at *
 subst hfo
 clear hop h0
 simp [zaI] at hd ha hb hn1 hn2 hn3 z1 z2 z3 z4
 try (obtain ⟨_, _, rfl⟩ := hd)
 try (obtain ⟨_, _, rfl⟩ := ha)
 try (obtain ⟨_, _, rfl⟩ := hb)
 try subst z1
 try subst z2
 try subst z4
 have hlt := zci ([⟨lo, 0, 7, 0⟩, ⟨mi, 0, 3, 12⟩, ⟨0, 0, 7, 25⟩, ⟨0, 0, 5, 7⟩, ⟨a, 0, 5, 15⟩, ⟨b + 0, 0, 5, 20⟩] ++ numP 66 n)
 generalize hV : layN _ = V at *
 obtain ⟨e0, e1, e2, e3, e4, e5, e6, e7⟩ : (((zac V 0 7 : Nat) : Int) = lo) ∧ (((zac V 7 1 : Nat) : Int) = ((zac (n % 4294967296).toNat 11 1 : Nat) : Int)) ∧ (((zac V 8 4 : Nat) : Int) = ((zac (n % 4294967296).toNat 1 4 : Nat) : Int)) ∧ (((zac V 12 3 : Nat) : Int) = mi) ∧ (((zac V 15 5 : Nat) : Int) = a) ∧ (((zac V 20 5 : Nat) : Int) = b) ∧ (((zac V 25 6 : Nat) : Int) = ((zac (n % 4294967296).toNat 5 6 : Nat) : Int)) ∧ (((zac V 31 1 : Nat) : Int) = ((zac (n % 4294967296).toNat 12 1 : Nat) : Int)) := by
  refine ⟨?_, ?_, ?_, ?_, ?_, ?_, ?_, ?_⟩
  all_goals
   rw [← hV]
   generalize hE : zac (layN _) _ _ = E
   simp only [List.cons_append, List.nil_append] at hE
   simp [numP, layN, zbn, zbd, zav, field_zero] at hE
   try simp (disch := decide) only [zb0, zcO, zav, field_zero, Nat.or_zero, Nat.zero_or] at hE
   try simp only [Int.reduceToNat, Nat.reducePow, Nat.reduceSub, Nat.div_one, Nat.reduceMul, Nat.mul_one] at hE
   clear hV
   rw [← hE]
   try simp only [zac, Nat.reducePow, Nat.div_one]
   try omega
 have hs := split_0 V hlt
 clear hV hlt
 generalize zac V 0 7 = q0, zac V 7 1 = q1, zac V 8 4 = q2, zac V 12 3 = q3, zac V 15 5 = q4, zac V 20 5 = q5, zac V 25 6 = q6, zac V 31 1 = q7 at *
 generalize zac (n % 4294967296).toNat 1 4 = t0, zac (n % 4294967296).toNat 11 1 = t1, zac (n % 4294967296).toNat 12 1 = t2, zac (n % 4294967296).toNat 5 6 = t3 at *
 clear hlo
 omega
set_option maxRecDepth 10000 in
set_option maxHeartbeats 1000000 in
theorem encS_85 (x : Ins) (h : zaS x = true) (hfo : (rowT x.op).form = 85) : ((encN x : Nat) : Int) = (rowT x.op).low + x.d * 128 + x.n * 4096 := by
 obtain ⟨h0, hd, ha, hb, hn1, hn2, hn3⟩ := zaN h
 obtain ⟨hr, hop⟩ := za4 h0
 have hfx := zce x.op
 clear h
 simp only [rowB, hop, Bool.and_eq_true, decide_eq_true_eq, Bool.or_eq_true, beq_iff_eq] at hr
 obtain ⟨⟨hlo, z1, z2, z3, z4⟩, _⟩ := hr
 unfold encN zdX
 unfold shX at hd ha hb hn1 hn2 hn3
 obtain ⟨op, d, a, b, n⟩ := x
 simp only at *
 generalize rowT op = r at *
 obtain ⟨nm, f, lo, mi, hi⟩ := r
 simp only at *
 generalize zbE op = fx at *
 subst hfo
 clear hop h0
 simp [zaI] at hd ha hb hn1 hn2 hn3 z1 z2 z3 z4
 try (obtain ⟨_, _, rfl⟩ := hd)
 try (obtain ⟨_, _, rfl⟩ := ha)
 try (obtain ⟨_, _, rfl⟩ := hb)
 try subst z1
 try subst z2
 try subst z4
 have hlt := zci ([⟨lo, 0, 7, 0⟩, ⟨0, 0, 3, 12⟩, ⟨0, 0, 7, 25⟩, ⟨d, 0, 5, 7⟩, ⟨0, 0, 5, 15⟩, ⟨0 + 0, 0, 5, 20⟩] ++ numP 85 n)
 generalize hV : layN _ = V at *
 obtain ⟨e0, e1, e2⟩ : (((zac V 0 7 : Nat) : Int) = lo) ∧ (((zac V 7 5 : Nat) : Int) = d) ∧ (((zac V 12 20 : Nat) : Int) = n) := by
  refine ⟨?_, ?_, ?_⟩
  all_goals
   rw [← hV]
   generalize hE : zac (layN _) _ _ = E
   simp only [List.cons_append, List.nil_append] at hE
   simp [numP, layN, zbn, zbd, zav, field_zero] at hE
   try simp (disch := decide) only [zb0, zcO, zav, field_zero, Nat.or_zero, Nat.zero_or] at hE
   try simp only [Int.reduceToNat, Nat.reducePow, Nat.reduceSub, Nat.div_one, Nat.reduceMul, Nat.mul_one] at hE
   clear hV
   rw [← hE]
   try simp only [zac, Nat.reducePow, Nat.div_one]
   try omega
 have hs := split_6 V hlt
 clear hV hlt
 generalize zac V 0 7 = q0, zac V 7 5 = q1, zac V 12 20 = q2 at *
 clear hlo
 omega
set_option maxRecDepth 10000 in
set_option maxHeartbeats 1000000 in
theorem encS_74 (x : Ins) (h : zaS x = true) (hfo : (rowT x.op).form = 74) : ((encN x : Nat) : Int) = (rowT x.op).low + x.d * 128 + ((zac (x.n % 4294967296).toNat 12 8 : Nat) : Int) * 4096 + ((zac (x.n % 4294967296).toNat 11 1 : Nat) : Int) * 1048576 + ((zac (x.n % 4294967296).toNat 1 10 : Nat) : Int) * 2097152 + ((zac (x.n % 4294967296).toNat 20 1 : Nat) : Int) * 2147483648 := by
 obtain ⟨h0, hd, ha, hb, hn1, hn2, hn3⟩ := zaN h
 obtain ⟨hr, hop⟩ := za4 h0
 have hfx := zce x.op
 clear h
 simp only [rowB, hop, Bool.and_eq_true, decide_eq_true_eq, Bool.or_eq_true, beq_iff_eq] at hr
 obtain ⟨⟨hlo, z1, z2, z3, z4⟩, _⟩ := hr
 unfold encN zdX
 unfold shX at hd ha hb hn1 hn2 hn3
 obtain ⟨op, d, a, b, n⟩ := x
 simp only at *
 generalize rowT op = r at *
 obtain ⟨nm, f, lo, mi, hi⟩ := r
 simp only at *
 generalize zbE op = fx at *
 subst hfo
 clear hop h0
 simp [zaI] at hd ha hb hn1 hn2 hn3 z1 z2 z3 z4
 try (obtain ⟨_, _, rfl⟩ := hd)
 try (obtain ⟨_, _, rfl⟩ := ha)
 try (obtain ⟨_, _, rfl⟩ := hb)
 try subst z1
 try subst z2
 try subst z4
 have hlt := zci ([⟨lo, 0, 7, 0⟩, ⟨0, 0, 3, 12⟩, ⟨0, 0, 7, 25⟩, ⟨d, 0, 5, 7⟩, ⟨0, 0, 5, 15⟩, ⟨0 + 0, 0, 5, 20⟩] ++ numP 74 n)
 generalize hV : layN _ = V at *
 obtain ⟨e0, e1, e2, e3, e4, e5⟩ : (((zac V 0 7 : Nat) : Int) = lo) ∧ (((zac V 7 5 : Nat) : Int) = d) ∧ (((zac V 12 8 : Nat) : Int) = ((zac (n % 4294967296).toNat 12 8 : Nat) : Int)) ∧ (((zac V 20 1 : Nat) : Int) = ((zac (n % 4294967296).toNat 11 1 : Nat) : Int)) ∧ (((zac V 21 10 : Nat) : Int) = ((zac (n % 4294967296).toNat 1 10 : Nat) : Int)) ∧ (((zac V 31 1 : Nat) : Int) = ((zac (n % 4294967296).toNat 20 1 : Nat) : Int)) := by
  refine ⟨?_, ?_, ?_, ?_, ?_, ?_⟩
  all_goals
   rw [← hV]
   generalize hE : zac (layN _) _ _ = E
   simp only [List.cons_append, List.nil_append] at hE
   simp [numP, layN, zbn, zbd, zav, field_zero] at hE
   try simp (disch := decide) only [zb0, zcO, zav, field_zero, Nat.or_zero, Nat.zero_or] at hE
   try simp only [Int.reduceToNat, Nat.reducePow, Nat.reduceSub, Nat.div_one, Nat.reduceMul, Nat.mul_one] at hE
   clear hV
   rw [← hE]
   try simp only [zac, Nat.reducePow, Nat.div_one]
   try omega
 have hs := split_5 V hlt
 clear hV hlt
 generalize zac V 0 7 = q0, zac V 7 5 = q1, zac V 12 8 = q2, zac V 20 1 = q3, zac V 21 10 = q4, zac V 31 1 = q5 at *
 generalize zac (n % 4294967296).toNat 1 10 = t0, zac (n % 4294967296).toNat 11 1 = t1, zac (n % 4294967296).toNat 12 8 = t2, zac (n % 4294967296).toNat 20 1 = t3 at *
 clear hlo
 omega
set_option maxRecDepth 10000 in
set_option maxHeartbeats 1000000 in
theorem encS_70 (x : Ins) (h : zaS x = true) (hfo : (rowT x.op).form = 70) : ((encN x : Nat) : Int) = (rowT x.op).low + (rowT x.op).mid * 4096 + x.a * 32768 + x.n * 1048576 := by
 obtain ⟨h0, hd, ha, hb, hn1, hn2, hn3⟩ := zaN h
 obtain ⟨hr, hop⟩ := za4 h0
 have hfx := zce x.op
 clear h
 simp only [rowB, hop, Bool.and_eq_true, decide_eq_true_eq, Bool.or_eq_true, beq_iff_eq] at hr
 obtain ⟨⟨hlo, z1, z2, z3, z4⟩, _⟩ := hr
 unfold encN zdX
 unfold shX at hd ha hb hn1 hn2 hn3
 obtain ⟨op, d, a, b, n⟩ := x
 simp only at *
 generalize rowT op = r at *
 obtain ⟨nm, f, lo, mi, hi⟩ := r
 simp only at *
 generalize zbE op = fx at *
 subst hfo
 clear hop h0
 simp [zaI] at hd ha hb hn1 hn2 hn3 z1 z2 z3 z4
 try (obtain ⟨_, _, rfl⟩ := hd)
 try (obtain ⟨_, _, rfl⟩ := ha)
 try (obtain ⟨_, _, rfl⟩ := hb)
 try subst z1
 try subst z2
 try subst z4
 have hlt := zci ([⟨lo, 0, 7, 0⟩, ⟨mi, 0, 3, 12⟩, ⟨0, 0, 7, 25⟩, ⟨0, 0, 5, 7⟩, ⟨0, 0, 5, 15⟩, ⟨0 + 0, 0, 5, 20⟩] ++ numP 70 n)
 generalize hV : layN _ = V at *
 obtain ⟨e0, e1, e2, e3, e4, e5⟩ : (((zac V 0 7 : Nat) : Int) = lo) ∧ (((zac V 7 5 : Nat) : Int) = 0) ∧ (((zac V 12 3 : Nat) : Int) = mi) ∧ (((zac V 15 5 : Nat) : Int) = 0) ∧ (((zac V 20 8 : Nat) : Int) = n) ∧ (((zac V 28 4 : Nat) : Int) = 0) := by
  refine ⟨?_, ?_, ?_, ?_, ?_, ?_⟩
  all_goals
   rw [← hV]
   generalize hE : zac (layN _) _ _ = E
   simp only [List.cons_append, List.nil_append] at hE
   simp [numP, layN, zbn, zbd, zav, field_zero] at hE
   try simp (disch := decide) only [zb0, zcO, zav, field_zero, Nat.or_zero, Nat.zero_or] at hE
   try simp only [Int.reduceToNat, Nat.reducePow, Nat.reduceSub, Nat.div_one, Nat.reduceMul, Nat.mul_one] at hE
   clear hV
   rw [← hE]
   try simp only [zac, Nat.reducePow, Nat.div_one]
   try omega
 have hs := split_3 V hlt
 clear hV hlt
 generalize zac V 0 7 = q0, zac V 7 5 = q1, zac V 12 3 = q2, zac V 15 5 = q3, zac V 20 8 = q4, zac V 28 4 = q5 at *
 clear hlo
 omega
set_option maxRecDepth 10000 in
set_option maxHeartbeats 1000000 in
theorem encS_90 (x : Ins) (h : zaS x = true) (hfo : (rowT x.op).form = 90) : ((encN x : Nat) : Int) = (rowT x.op).low + (rowT x.op).mid * 4096 + x.a * 32768 + (rowT x.op).high * 33554432 + zbE x.op * 1048576 := by
 obtain ⟨h0, hd, ha, hb, hn1, hn2, hn3⟩ := zaN h
 obtain ⟨hr, hop⟩ := za4 h0
 have hfx := zce x.op
 clear h
 simp only [rowB, hop, Bool.and_eq_true, decide_eq_true_eq, Bool.or_eq_true, beq_iff_eq] at hr
 obtain ⟨⟨hlo, z1, z2, z3, z4⟩, _⟩ := hr
 unfold encN zdX
 unfold shX at hd ha hb hn1 hn2 hn3
 obtain ⟨op, d, a, b, n⟩ := x
 simp only at *
 generalize rowT op = r at *
 obtain ⟨nm, f, lo, mi, hi⟩ := r
 simp only at *
 generalize zbE op = fx at *
 subst hfo
 clear hop h0
 simp [zaI] at hd ha hb hn1 hn2 hn3 z1 z2 z3 z4
 try (obtain ⟨_, _, rfl⟩ := hd)
 try (obtain ⟨_, _, rfl⟩ := ha)
 try (obtain ⟨_, _, rfl⟩ := hb)
 try subst z1
 try subst z2
 try subst z4
 have hlt := zci ([⟨lo, 0, 7, 0⟩, ⟨mi, 0, 3, 12⟩, ⟨hi, 0, 7, 25⟩, ⟨0, 0, 5, 7⟩, ⟨0, 0, 5, 15⟩, ⟨0 + fx, 0, 5, 20⟩] ++ numP 90 n)
 generalize hV : layN _ = V at *
 obtain ⟨e0, e1, e2, e3, e4, e5⟩ : (((zac V 0 7 : Nat) : Int) = lo) ∧ (((zac V 7 5 : Nat) : Int) = 0) ∧ (((zac V 12 3 : Nat) : Int) = mi) ∧ (((zac V 15 5 : Nat) : Int) = 0) ∧ (((zac V 20 5 : Nat) : Int) = fx) ∧ (((zac V 25 7 : Nat) : Int) = hi) := by
  refine ⟨?_, ?_, ?_, ?_, ?_, ?_⟩
  all_goals
   rw [← hV]
   generalize hE : zac (layN _) _ _ = E
   simp only [List.cons_append, List.nil_append] at hE
   simp [numP, layN, zbn, zbd, zav, field_zero] at hE
   try simp (disch := decide) only [zb0, zcO, zav, field_zero, Nat.or_zero, Nat.zero_or] at hE
   try simp only [Int.reduceToNat, Nat.reducePow, Nat.reduceSub, Nat.div_one, Nat.reduceMul, Nat.mul_one] at hE
   clear hV
   rw [← hE]
   try simp only [zac, Nat.reducePow, Nat.div_one]
   try omega
 have hs := zgE V hlt
 clear hV hlt
 generalize zac V 0 7 = q0, zac V 7 5 = q1, zac V 12 3 = q2, zac V 15 5 = q3, zac V 20 5 = q4, zac V 25 7 = q5 at *
 clear hlo
 omega
set_option maxRecDepth 10000 in
set_option maxHeartbeats 1000000 in
theorem encS_76 (x : Ins) (h : zaS x = true) (hfo : (rowT x.op).form = 76) : ((encN x : Nat) : Int) = (rowT x.op).low + (rowT x.op).mid * 4096 + x.a * 32768 + x.d * 128 + x.b * 1048576 + ((rowT x.op).high + x.n) * 33554432 := by
 obtain ⟨h0, hd, ha, hb, hn1, hn2, hn3⟩ := zaN h
 obtain ⟨hr, hop⟩ := za4 h0
 have hfx := zce x.op
 clear h
 simp only [rowB, hop, Bool.and_eq_true, decide_eq_true_eq, Bool.or_eq_true, beq_iff_eq] at hr
 obtain ⟨⟨hlo, z1, z2, z3, z4⟩, _⟩ := hr
 unfold encN zdX
 unfold shX at hd ha hb hn1 hn2 hn3
 obtain ⟨op, d, a, b, n⟩ := x
 simp only at *
 generalize rowT op = r at *
 obtain ⟨nm, f, lo, mi, hi⟩ := r
 simp only at *
 generalize zbE op = fx at *
 subst hfo
 clear hop h0
 simp [zaI] at hd ha hb hn1 hn2 hn3 z1 z2 z3 z4
 try (obtain ⟨_, _, rfl⟩ := hd)
 try (obtain ⟨_, _, rfl⟩ := ha)
 try (obtain ⟨_, _, rfl⟩ := hb)
 try subst z1
 try subst z2
 try subst z4
 have hlt := zci ([⟨lo, 0, 7, 0⟩, ⟨mi, 0, 3, 12⟩, ⟨hi, 0, 7, 25⟩, ⟨d, 0, 5, 7⟩, ⟨a, 0, 5, 15⟩, ⟨0 + 0, 0, 5, 20⟩] ++ numP 76 n)
 generalize hV : layN _ = V at *
 have e0 : ((zac V 0 7 : Nat) : Int) = lo := by
  have e := congrArg (fun v => zac v 0 7) hV
  simp only [List.cons_append, List.nil_append] at e
  simp [numP, layN, zbn, zbd, zav, field_zero] at e
  try simp (disch := decide) only [zb0, zcO, zav, field_zero, Nat.or_zero, Nat.zero_or] at e
  try simp only [Int.reduceToNat, Nat.reducePow, Nat.reduceSub, Nat.div_one, Nat.reduceMul, Nat.mul_one] at e
  clear hV
  rw [← e]
  try simp only [zac, Nat.reducePow, Nat.div_one]
  try omega
 have e1 : ((zac V 7 5 : Nat) : Int) = d := by
  have e := congrArg (fun v => zac v 7 5) hV
  simp only [List.cons_append, List.nil_append] at e
  simp [numP, layN, zbn, zbd, zav, field_zero] at e
  try simp (disch := decide) only [zb0, zcO, zav, field_zero, Nat.or_zero, Nat.zero_or] at e
  try simp only [Int.reduceToNat, Nat.reducePow, Nat.reduceSub, Nat.div_one, Nat.reduceMul, Nat.mul_one] at e
  clear hV
  rw [← e]
  try simp only [zac, Nat.reducePow, Nat.div_one]
  try omega
 have e2 : ((zac V 12 3 : Nat) : Int) = mi := by
  have e := congrArg (fun v => zac v 12 3) hV
  simp only [List.cons_append, List.nil_append] at e
  simp [numP, layN, zbn, zbd, zav, field_zero] at e
  try simp (disch := decide) only [zb0, zcO, zav, field_zero, Nat.or_zero, Nat.zero_or] at e
  try simp only [Int.reduceToNat, Nat.reducePow, Nat.reduceSub, Nat.div_one, Nat.reduceMul, Nat.mul_one] at e
  clear hV
  rw [← e]
  try simp only [zac, Nat.reducePow, Nat.div_one]
  try omega
 have e3 : ((zac V 15 5 : Nat) : Int) = a := by
  have e := congrArg (fun v => zac v 15 5) hV
  simp only [List.cons_append, List.nil_append] at e
  simp [numP, layN, zbn, zbd, zav, field_zero] at e
  try simp (disch := decide) only [zb0, zcO, zav, field_zero, Nat.or_zero, Nat.zero_or] at e
  try simp only [Int.reduceToNat, Nat.reducePow, Nat.reduceSub, Nat.div_one, Nat.reduceMul, Nat.mul_one] at e
  clear hV
  rw [← e]
  try simp only [zac, Nat.reducePow, Nat.div_one]
  try omega
 have e4 : ((zac V 20 5 : Nat) : Int) = 0 := by
  have e := congrArg (fun v => zac v 20 5) hV
  simp only [List.cons_append, List.nil_append] at e
  simp [numP, layN, zbn, zbd, zav, field_zero] at e
  try simp (disch := decide) only [zb0, zcO, zav, field_zero, Nat.or_zero, Nat.zero_or] at e
  try simp only [Int.reduceToNat, Nat.reducePow, Nat.reduceSub, Nat.div_one, Nat.reduceMul, Nat.mul_one] at e
  clear hV
  rw [← e]
  try simp only [zac, Nat.reducePow, Nat.div_one]
  try omega
 have e5 : ((zac V 25 2 : Nat) : Int) = n := by
  have e := congrArg (fun v => zac v 25 2) hV
  simp only [List.cons_append, List.nil_append] at e
  simp [numP, layN, zbn, zbd, zav, field_zero] at e
  try simp (disch := decide) only [zb0, zcO, zav, field_zero, Nat.or_zero, Nat.zero_or] at e
  try simp only [Int.reduceToNat, Nat.reducePow, Nat.reduceSub, Nat.div_one, Nat.reduceMul, Nat.mul_one] at e
  clear hV
  rw [show (hi % 4294967296).toNat % 4 = 0 by omega, Nat.zero_or] at e
  rw [← e]
  try simp only [zac, Nat.reducePow, Nat.div_one]
  try omega
 have e6 : ((zac V 27 5 : Nat) : Int) = (hi / 4) := by
  have e := congrArg (fun v => zac v 27 5) hV
  simp only [List.cons_append, List.nil_append] at e
  simp [numP, layN, zbn, zbd, zav, field_zero] at e
  try simp (disch := decide) only [zb0, zcO, zav, field_zero, Nat.or_zero, Nat.zero_or] at e
  try simp only [Int.reduceToNat, Nat.reducePow, Nat.reduceSub, Nat.div_one, Nat.reduceMul, Nat.mul_one] at e
  clear hV
  rw [← e]
  try simp only [zac, Nat.reducePow, Nat.div_one]
  try omega
 have hs := zk5 V hlt
 clear hV hlt
 generalize zac V 0 7 = q0, zac V 7 5 = q1, zac V 12 3 = q2, zac V 15 5 = q3, zac V 20 5 = q4, zac V 25 2 = q5, zac V 27 5 = q6 at *
 omega
set_option maxRecDepth 10000 in
set_option maxHeartbeats 1000000 in
theorem encS_65 (x : Ins) (h : zaS x = true) (hfo : (rowT x.op).form = 65) : ((encN x : Nat) : Int) = (rowT x.op).low + (rowT x.op).mid * 4096 + x.a * 32768 + x.d * 128 + x.b * 1048576 + ((rowT x.op).high + x.n) * 33554432 := by
 obtain ⟨h0, hd, ha, hb, hn1, hn2, hn3⟩ := zaN h
 obtain ⟨hr, hop⟩ := za4 h0
 have hfx := zce x.op
 clear h
 simp only [rowB, hop, Bool.and_eq_true, decide_eq_true_eq, Bool.or_eq_true, beq_iff_eq] at hr
 obtain ⟨⟨hlo, z1, z2, z3, z4⟩, _⟩ := hr
 unfold encN zdX
 unfold shX at hd ha hb hn1 hn2 hn3
 obtain ⟨op, d, a, b, n⟩ := x
 simp only at *
 generalize rowT op = r at *
 obtain ⟨nm, f, lo, mi, hi⟩ := r
 simp only at *
 generalize zbE op = fx at *
 subst hfo
 clear hop h0
 simp [zaI] at hd ha hb hn1 hn2 hn3 z1 z2 z3 z4
 try (obtain ⟨_, _, rfl⟩ := hd)
 try (obtain ⟨_, _, rfl⟩ := ha)
 try (obtain ⟨_, _, rfl⟩ := hb)
 try subst z1
 try subst z2
 try subst z4
 have hlt := zci ([⟨lo, 0, 7, 0⟩, ⟨mi, 0, 3, 12⟩, ⟨hi, 0, 7, 25⟩, ⟨d, 0, 5, 7⟩, ⟨a, 0, 5, 15⟩, ⟨b + 0, 0, 5, 20⟩] ++ numP 65 n)
 generalize hV : layN _ = V at *
 have e0 : ((zac V 0 7 : Nat) : Int) = lo := by
  have e := congrArg (fun v => zac v 0 7) hV
  simp only [List.cons_append, List.nil_append] at e
  simp [numP, layN, zbn, zbd, zav, field_zero] at e
  try simp (disch := decide) only [zb0, zcO, zav, field_zero, Nat.or_zero, Nat.zero_or] at e
  try simp only [Int.reduceToNat, Nat.reducePow, Nat.reduceSub, Nat.div_one, Nat.reduceMul, Nat.mul_one] at e
  clear hV
  rw [← e]
  try simp only [zac, Nat.reducePow, Nat.div_one]
  try omega
 have e1 : ((zac V 7 5 : Nat) : Int) = d := by
  have e := congrArg (fun v => zac v 7 5) hV
  simp only [List.cons_append, List.nil_append] at e
  simp [numP, layN, zbn, zbd, zav, field_zero] at e
  try simp (disch := decide) only [zb0, zcO, zav, field_zero, Nat.or_zero, Nat.zero_or] at e
  try simp only [Int.reduceToNat, Nat.reducePow, Nat.reduceSub, Nat.div_one, Nat.reduceMul, Nat.mul_one] at e
  clear hV
  rw [← e]
  try simp only [zac, Nat.reducePow, Nat.div_one]
  try omega
 have e2 : ((zac V 12 3 : Nat) : Int) = mi := by
  have e := congrArg (fun v => zac v 12 3) hV
  simp only [List.cons_append, List.nil_append] at e
  simp [numP, layN, zbn, zbd, zav, field_zero] at e
  try simp (disch := decide) only [zb0, zcO, zav, field_zero, Nat.or_zero, Nat.zero_or] at e
  try simp only [Int.reduceToNat, Nat.reducePow, Nat.reduceSub, Nat.div_one, Nat.reduceMul, Nat.mul_one] at e
  clear hV
  rw [← e]
  try simp only [zac, Nat.reducePow, Nat.div_one]
  try omega
 have e3 : ((zac V 15 5 : Nat) : Int) = a := by
  have e := congrArg (fun v => zac v 15 5) hV
  simp only [List.cons_append, List.nil_append] at e
  simp [numP, layN, zbn, zbd, zav, field_zero] at e
  try simp (disch := decide) only [zb0, zcO, zav, field_zero, Nat.or_zero, Nat.zero_or] at e
  try simp only [Int.reduceToNat, Nat.reducePow, Nat.reduceSub, Nat.div_one, Nat.reduceMul, Nat.mul_one] at e
  clear hV
  rw [← e]
  try simp only [zac, Nat.reducePow, Nat.div_one]
  try omega
 have e4 : ((zac V 20 5 : Nat) : Int) = b := by
  have e := congrArg (fun v => zac v 20 5) hV
  simp only [List.cons_append, List.nil_append] at e
  simp [numP, layN, zbn, zbd, zav, field_zero] at e
  try simp (disch := decide) only [zb0, zcO, zav, field_zero, Nat.or_zero, Nat.zero_or] at e
  try simp only [Int.reduceToNat, Nat.reducePow, Nat.reduceSub, Nat.div_one, Nat.reduceMul, Nat.mul_one] at e
  clear hV
  rw [← e]
  try simp only [zac, Nat.reducePow, Nat.div_one]
  try omega
 have e5 : ((zac V 25 2 : Nat) : Int) = n := by
  have e := congrArg (fun v => zac v 25 2) hV
  simp only [List.cons_append, List.nil_append] at e
  simp [numP, layN, zbn, zbd, zav, field_zero] at e
  try simp (disch := decide) only [zb0, zcO, zav, field_zero, Nat.or_zero, Nat.zero_or] at e
  try simp only [Int.reduceToNat, Nat.reducePow, Nat.reduceSub, Nat.div_one, Nat.reduceMul, Nat.mul_one] at e
  clear hV
  rw [show (hi % 4294967296).toNat % 4 = 0 by omega, Nat.zero_or] at e
  rw [← e]
  try simp only [zac, Nat.reducePow, Nat.div_one]
  try omega
 have e6 : ((zac V 27 5 : Nat) : Int) = (hi / 4) := by
  have e := congrArg (fun v => zac v 27 5) hV
  simp only [List.cons_append, List.nil_append] at e
  simp [numP, layN, zbn, zbd, zav, field_zero] at e
  try simp (disch := decide) only [zb0, zcO, zav, field_zero, Nat.or_zero, Nat.zero_or] at e
  try simp only [Int.reduceToNat, Nat.reducePow, Nat.reduceSub, Nat.div_one, Nat.reduceMul, Nat.mul_one] at e
  clear hV
  rw [← e]
  try simp only [zac, Nat.reducePow, Nat.div_one]
  try omega
 have hs := zk5 V hlt
 clear hV hlt
 generalize zac V 0 7 = q0, zac V 7 5 = q1, zac V 12 3 = q2, zac V 15 5 = q3, zac V 20 5 = q4, zac V 25 2 = q5, zac V 27 5 = q6 at *
 omega
end
section
open Go.RowKit
theorem ze8 {k : IntKind} {a b : Int} (h : a = b) : Value.int k a = .int k b := by rw [h]
theorem ze9 {a b c d : Value} (h : a = c) (h' : b = d) : Ending.returned (.tuple #[a, b]) = .returned (.tuple #[c, d]) := by rw [h, h']
theorem zbz (op d a b n : Int) (r : Bool) (w : World) (hr : zaS ⟨op, d, a, b, n⟩ = r) :
 Calls Tryz.prog 61 #[.agg #[.int .i64 op, .int .i64 d, .int .i64 a, .int .i64 b, .int .i64 n]] w fun e w' => e = .returned (.bool r) ∧ Below w.heap.size w w' := by subst hr; exact zhx ⟨op, d, a, b, n⟩ w
theorem zcL (n a b : Int) (fr mn : Nat) (w : World) (hn : I64 n) (ha : a = fr) (hb : b = mn) (hf : fr < 32) (hm : mn < 32) :
 Calls Tryz.prog 63 #[.int .i64 n, .int .i64 a, .int .i64 b] w fun e w' => e = .returned (.int .i64 (zac (n % 4294967296).toNat fr mn : Nat)) ∧ ∃ q, w' = w.drewN q := by subst ha hb; exact bits_any n fr mn w hn hf hm
set_option maxHeartbeats 4000000 in
set_option maxRecDepth 100000 in
theorem zli (x : Ins) (w : World) (hr : zaS x = true) (hf : (rowT x.op).form = 82) :
 Calls Tryz.prog 25 #[insV x] w fun e w' => e = .returned (.tuple #[.int .i64 (encN x : Nat), .int .i64 0]) ∧ Below w.heap.size w w' := by
 obtain ⟨h0, hd, ha, hb, hn1, hn2, hn3⟩ := zaN hr
 obtain ⟨hrb, hop⟩ := za4 h0
 have hq := hr
 simp only [rowB, hop, Bool.and_eq_true, decide_eq_true_eq, Bool.or_eq_true, beq_iff_eq] at hrb
 obtain ⟨⟨hlo, z1, z2, z3, z4⟩, _⟩ := hrb
 have HEQ := zhd (encS_82 x hr hf)
 unfold shX at hd ha hb hn1 hn2 hn3
 have hnb := zfb hr
 obtain ⟨op, d, a, b, n⟩ := x
 simp only at *
 generalize hrw : rowT op = r at *
 obtain ⟨nm, f, lo, mi, hi⟩ := r
 simp only at *
 subst hf
 have HRW := zhd hrw; have HR := zhd hr; have HN := zhd hnb
 clear hrw hr hq h0 hop hnb
 simp [zaI] at hd ha hb hn1 hn2 hn3 z1 z2 z3
 try (obtain ⟨_, _, rfl⟩ := hd)
 try (obtain ⟨_, _, rfl⟩ := ha)
 try (obtain ⟨_, _, rfl⟩ := hb)
 try subst z1
 try subst z2
 unfold insV
 go_enter Tryz.func25, Tryz.ntmps25
 go_wp2_with fail
 refine (zbz _ _ _ _ _ true _ HR.out).mono ?_
 rintro e w1 ⟨rfl, hb1⟩
 obtain ⟨c1, f1⟩ := za8 hb1
 have s1 := hb1.size
 try simp at s1
 have l1x0 : w.heap.size < w1.heap.size := by omega
 go_wp2_with fail
 refine (za6 op _).mono ?_
 rw [HRW.out]
 rintro e w2 ⟨rfl, hb2⟩
 obtain ⟨c2, f2⟩ := za8 hb2
 have s2 := hb2.size
 try simp at s2
 have l2x0 : w.heap.size < w2.heap.size := by omega
 unfold rfV
 go_wp2_with fail
 go_ret2
 refine ⟨ze9 (ze8 ?_) rfl, (by repeat (first | (with_reducible first | exact Below.refl _ _ | refine zaj ?_ ?_ _ | apply zag | refine zae ?_ (by assumption) | apply zak) | omega))⟩
 rw [HEQ.out]
 try simp (disch := omega) only [IntWalk.wrap64_in]
 try (show _ = _; omega)
set_option maxHeartbeats 4000000 in
set_option maxRecDepth 100000 in
theorem zll (x : Ins) (w : World) (hr : zaS x = true) (hf : (rowT x.op).form = 73) :
 Calls Tryz.prog 25 #[insV x] w fun e w' => e = .returned (.tuple #[.int .i64 (encN x : Nat), .int .i64 0]) ∧ Below w.heap.size w w' := by
 obtain ⟨h0, hd, ha, hb, hn1, hn2, hn3⟩ := zaN hr
 obtain ⟨hrb, hop⟩ := za4 h0
 have hq := hr
 simp only [rowB, hop, Bool.and_eq_true, decide_eq_true_eq, Bool.or_eq_true, beq_iff_eq] at hrb
 obtain ⟨⟨hlo, z1, z2, z3, z4⟩, _⟩ := hrb
 have HEQ := zhd (encS_73 x hr hf)
 unfold shX at hd ha hb hn1 hn2 hn3
 have hnb := zfb hr
 obtain ⟨op, d, a, b, n⟩ := x
 simp only at *
 generalize hrw : rowT op = r at *
 obtain ⟨nm, f, lo, mi, hi⟩ := r
 simp only at *
 subst hf
 have HRW := zhd hrw; have HR := zhd hr; have HN := zhd hnb
 clear hrw hr hq h0 hop hnb
 simp [zaI] at hd ha hb hn1 hn2 hn3 z1 z2 z3
 try (obtain ⟨_, _, rfl⟩ := hd)
 try (obtain ⟨_, _, rfl⟩ := ha)
 try (obtain ⟨_, _, rfl⟩ := hb)
 try subst z1
 try subst z2
 unfold insV
 go_enter Tryz.func25, Tryz.ntmps25
 go_wp2_with fail
 refine (zbz _ _ _ _ _ true _ HR.out).mono ?_
 rintro e w1 ⟨rfl, hb1⟩
 obtain ⟨c1, f1⟩ := za8 hb1
 have s1 := hb1.size
 try simp at s1
 have l1x0 : w.heap.size < w1.heap.size := by omega
 go_wp2_with fail
 refine (za6 op _).mono ?_
 rw [HRW.out]
 rintro e w2 ⟨rfl, hb2⟩
 obtain ⟨c2, f2⟩ := za8 hb2
 have s2 := hb2.size
 try simp at s2
 have l2x0 : w.heap.size < w2.heap.size := by omega
 unfold rfV
 go_wp2_with fail
 go_quiet ((go_at_call 63; first | with_reducible exact Calls.quiet_of (zcL n 0 12 0 12 _ HN.out rfl rfl (by decide) (by decide))))
 go_wp2_with fail
 go_ret2
 refine ⟨ze9 (ze8 ?_) rfl, zaF (by repeat (first | (with_reducible first | exact Below.refl _ _ | refine zaj ?_ ?_ _ | apply zag | refine zae ?_ (by assumption) | apply zak) | omega)) _⟩
 rw [HEQ.out]
 have b0_12 := zb9 (n % 4294967296).toNat 0 12
 simp only [Nat.reducePow] at b0_12
 generalize zac (n % 4294967296).toNat 0 12 = t0 at *
 try simp (disch := omega) only [IntWalk.wrap64_in]
 try (show _ = _; omega)
set_option maxHeartbeats 4000000 in
set_option maxRecDepth 100000 in
theorem zlo (x : Ins) (w : World) (hr : zaS x = true) (hf : (rowT x.op).form = 67) :
 Calls Tryz.prog 25 #[insV x] w fun e w' => e = .returned (.tuple #[.int .i64 (encN x : Nat), .int .i64 0]) ∧ Below w.heap.size w w' := by
 obtain ⟨h0, hd, ha, hb, hn1, hn2, hn3⟩ := zaN hr
 obtain ⟨hrb, hop⟩ := za4 h0
 have hq := hr
 simp only [rowB, hop, Bool.and_eq_true, decide_eq_true_eq, Bool.or_eq_true, beq_iff_eq] at hrb
 obtain ⟨⟨hlo, z1, z2, z3, z4⟩, _⟩ := hrb
 have HEQ := zhd (encS_67 x hr hf)
 unfold shX at hd ha hb hn1 hn2 hn3
 have hnb := zfb hr
 obtain ⟨op, d, a, b, n⟩ := x
 simp only at *
 generalize hrw : rowT op = r at *
 obtain ⟨nm, f, lo, mi, hi⟩ := r
 simp only at *
 subst hf
 have HRW := zhd hrw; have HR := zhd hr; have HN := zhd hnb
 clear hrw hr hq h0 hop hnb
 simp [zaI] at hd ha hb hn1 hn2 hn3 z1 z2 z3
 try (obtain ⟨_, _, rfl⟩ := hd)
 try (obtain ⟨_, _, rfl⟩ := ha)
 try (obtain ⟨_, _, rfl⟩ := hb)
 try subst z1
 try subst z2
 unfold insV
 go_enter Tryz.func25, Tryz.ntmps25
 go_wp2_with fail
 refine (zbz _ _ _ _ _ true _ HR.out).mono ?_
 rintro e w1 ⟨rfl, hb1⟩
 obtain ⟨c1, f1⟩ := za8 hb1
 have s1 := hb1.size
 try simp at s1
 have l1x0 : w.heap.size < w1.heap.size := by omega
 go_wp2_with fail
 refine (za6 op _).mono ?_
 rw [HRW.out]
 rintro e w2 ⟨rfl, hb2⟩
 obtain ⟨c2, f2⟩ := za8 hb2
 have s2 := hb2.size
 try simp at s2
 have l2x0 : w.heap.size < w2.heap.size := by omega
 unfold rfV
 go_wp2_with fail
 go_quiet ((go_at_call 63; first | with_reducible exact Calls.quiet_of (zcL n 0 12 0 12 _ HN.out rfl rfl (by decide) (by decide))))
 go_wp2_with fail
 go_ret2
 refine ⟨ze9 (ze8 ?_) rfl, zaF (by repeat (first | (with_reducible first | exact Below.refl _ _ | refine zaj ?_ ?_ _ | apply zag | refine zae ?_ (by assumption) | apply zak) | omega)) _⟩
 rw [HEQ.out]
 have b0_12 := zb9 (n % 4294967296).toNat 0 12
 simp only [Nat.reducePow] at b0_12
 generalize zac (n % 4294967296).toNat 0 12 = t0 at *
 try simp (disch := omega) only [IntWalk.wrap64_in]
 try (show _ = _; omega)
set_option maxHeartbeats 4000000 in
set_option maxRecDepth 100000 in
theorem zlm (x : Ins) (w : World) (hr : zaS x = true) (hf : (rowT x.op).form = 72) :
 Calls Tryz.prog 25 #[insV x] w fun e w' => e = .returned (.tuple #[.int .i64 (encN x : Nat), .int .i64 0]) ∧ Below w.heap.size w w' := by
 obtain ⟨h0, hd, ha, hb, hn1, hn2, hn3⟩ := zaN hr
 obtain ⟨hrb, hop⟩ := za4 h0
 have hq := hr
 simp only [rowB, hop, Bool.and_eq_true, decide_eq_true_eq, Bool.or_eq_true, beq_iff_eq] at hrb
 obtain ⟨⟨hlo, z1, z2, z3, z4⟩, _⟩ := hrb
 have HEQ := zhd (encS_72 x hr hf)
 unfold shX at hd ha hb hn1 hn2 hn3
 have hnb := zfb hr
 obtain ⟨op, d, a, b, n⟩ := x
 simp only at *
 generalize hrw : rowT op = r at *
 obtain ⟨nm, f, lo, mi, hi⟩ := r
 simp only at *
 subst hf
 have HRW := zhd hrw; have HR := zhd hr; have HN := zhd hnb
 clear hrw hr hq h0 hop hnb
 simp [zaI] at hd ha hb hn1 hn2 hn3 z1 z2 z3
 try (obtain ⟨_, _, rfl⟩ := hd)
 try (obtain ⟨_, _, rfl⟩ := ha)
 try (obtain ⟨_, _, rfl⟩ := hb)
 try subst z1
 try subst z2
 unfold insV
 go_enter Tryz.func25, Tryz.ntmps25
 go_wp2_with fail
 refine (zbz _ _ _ _ _ true _ HR.out).mono ?_
 rintro e w1 ⟨rfl, hb1⟩
 obtain ⟨c1, f1⟩ := za8 hb1
 have s1 := hb1.size
 try simp at s1
 have l1x0 : w.heap.size < w1.heap.size := by omega
 go_wp2_with fail
 refine (za6 op _).mono ?_
 rw [HRW.out]
 rintro e w2 ⟨rfl, hb2⟩
 obtain ⟨c2, f2⟩ := za8 hb2
 have s2 := hb2.size
 try simp at s2
 have l2x0 : w.heap.size < w2.heap.size := by omega
 unfold rfV
 go_wp2_with fail
 go_ret2
 refine ⟨ze9 (ze8 ?_) rfl, (by repeat (first | (with_reducible first | exact Below.refl _ _ | refine zaj ?_ ?_ _ | apply zag | refine zae ?_ (by assumption) | apply zak) | omega))⟩
 rw [HEQ.out]
 try simp (disch := omega) only [IntWalk.wrap64_in]
 try (show _ = _; omega)
set_option maxHeartbeats 4000000 in
set_option maxRecDepth 100000 in
theorem zlh (x : Ins) (w : World) (hr : zaS x = true) (hf : (rowT x.op).form = 83) :
 Calls Tryz.prog 25 #[insV x] w fun e w' => e = .returned (.tuple #[.int .i64 (encN x : Nat), .int .i64 0]) ∧ Below w.heap.size w w' := by
 obtain ⟨h0, hd, ha, hb, hn1, hn2, hn3⟩ := zaN hr
 obtain ⟨hrb, hop⟩ := za4 h0
 have hq := hr
 simp only [rowB, hop, Bool.and_eq_true, decide_eq_true_eq, Bool.or_eq_true, beq_iff_eq] at hrb
 obtain ⟨⟨hlo, z1, z2, z3, z4⟩, _⟩ := hrb
 have HEQ := zhd (encS_83 x hr hf)
 unfold shX at hd ha hb hn1 hn2 hn3
 have hnb := zfb hr
 obtain ⟨op, d, a, b, n⟩ := x
 simp only at *
 generalize hrw : rowT op = r at *
 obtain ⟨nm, f, lo, mi, hi⟩ := r
 simp only at *
 subst hf
 have HRW := zhd hrw; have HR := zhd hr; have HN := zhd hnb
 clear hrw hr hq h0 hop hnb
 simp [zaI] at hd ha hb hn1 hn2 hn3 z1 z2 z3
 try (obtain ⟨_, _, rfl⟩ := hd)
 try (obtain ⟨_, _, rfl⟩ := ha)
 try (obtain ⟨_, _, rfl⟩ := hb)
 try subst z1
 try subst z2
 unfold insV
 go_enter Tryz.func25, Tryz.ntmps25
 go_wp2_with fail
 refine (zbz _ _ _ _ _ true _ HR.out).mono ?_
 rintro e w1 ⟨rfl, hb1⟩
 obtain ⟨c1, f1⟩ := za8 hb1
 have s1 := hb1.size
 try simp at s1
 have l1x0 : w.heap.size < w1.heap.size := by omega
 go_wp2_with fail
 refine (za6 op _).mono ?_
 rw [HRW.out]
 rintro e w2 ⟨rfl, hb2⟩
 obtain ⟨c2, f2⟩ := za8 hb2
 have s2 := hb2.size
 try simp at s2
 have l2x0 : w.heap.size < w2.heap.size := by omega
 unfold rfV
 go_wp2_with fail
 go_quiet ((go_at_call 63; first | with_reducible exact Calls.quiet_of (zcL n 0 5 0 5 _ HN.out rfl rfl (by decide) (by decide)) | with_reducible exact Calls.quiet_of (zcL n 5 7 5 7 _ HN.out rfl rfl (by decide) (by decide))))
 go_wp2_with fail
 go_ret2
 refine ⟨ze9 (ze8 ?_) rfl, zaF (by repeat (first | (with_reducible first | exact Below.refl _ _ | refine zaj ?_ ?_ _ | apply zag | refine zae ?_ (by assumption) | apply zak) | omega)) _⟩
 rw [HEQ.out]
 have b0_5 := zb9 (n % 4294967296).toNat 0 5
 have b5_7 := zb9 (n % 4294967296).toNat 5 7
 simp only [Nat.reducePow] at b0_5 b5_7
 generalize zac (n % 4294967296).toNat 0 5 = t0, zac (n % 4294967296).toNat 5 7 = t1 at *
 try simp (disch := omega) only [IntWalk.wrap64_in]
 try (show _ = _; omega)
set_option maxHeartbeats 4000000 in
set_option maxRecDepth 100000 in
theorem zlp (x : Ins) (w : World) (hr : zaS x = true) (hf : (rowT x.op).form = 66) :
 Calls Tryz.prog 25 #[insV x] w fun e w' => e = .returned (.tuple #[.int .i64 (encN x : Nat), .int .i64 0]) ∧ Below w.heap.size w w' := by
 obtain ⟨h0, hd, ha, hb, hn1, hn2, hn3⟩ := zaN hr
 obtain ⟨hrb, hop⟩ := za4 h0
 have hq := hr
 simp only [rowB, hop, Bool.and_eq_true, decide_eq_true_eq, Bool.or_eq_true, beq_iff_eq] at hrb
 obtain ⟨⟨hlo, z1, z2, z3, z4⟩, _⟩ := hrb
 have HEQ := zhd (encS_66 x hr hf)
 unfold shX at hd ha hb hn1 hn2 hn3
 have hnb := zfb hr
 obtain ⟨op, d, a, b, n⟩ := x
 simp only at *
 generalize hrw : rowT op = r at *
 obtain ⟨nm, f, lo, mi, hi⟩ := r
 simp only at *
 subst hf
 have HRW := zhd hrw; have HR := zhd hr; have HN := zhd hnb
 clear hrw hr hq h0 hop hnb
 simp [zaI] at hd ha hb hn1 hn2 hn3 z1 z2 z3
 try (obtain ⟨_, _, rfl⟩ := hd)
 try (obtain ⟨_, _, rfl⟩ := ha)
 try (obtain ⟨_, _, rfl⟩ := hb)
 try subst z1
 try subst z2
 unfold insV
 go_enter Tryz.func25, Tryz.ntmps25
 go_wp2_with fail
 refine (zbz _ _ _ _ _ true _ HR.out).mono ?_
 rintro e w1 ⟨rfl, hb1⟩
 obtain ⟨c1, f1⟩ := za8 hb1
 have s1 := hb1.size
 try simp at s1
 have l1x0 : w.heap.size < w1.heap.size := by omega
 go_wp2_with fail
 refine (za6 op _).mono ?_
 rw [HRW.out]
 rintro e w2 ⟨rfl, hb2⟩
 obtain ⟨c2, f2⟩ := za8 hb2
 have s2 := hb2.size
 try simp at s2
 have l2x0 : w.heap.size < w2.heap.size := by omega
 unfold rfV
 go_wp2_with fail
 go_quiet ((go_at_call 63; first | with_reducible exact Calls.quiet_of (zcL n 11 1 11 1 _ HN.out rfl rfl (by decide) (by decide)) | with_reducible exact Calls.quiet_of (zcL n 1 4 1 4 _ HN.out rfl rfl (by decide) (by decide)) | with_reducible exact Calls.quiet_of (zcL n 5 6 5 6 _ HN.out rfl rfl (by decide) (by decide)) | with_reducible exact Calls.quiet_of (zcL n 12 1 12 1 _ HN.out rfl rfl (by decide) (by decide))))
 go_wp2_with fail
 go_ret2
 refine ⟨ze9 (ze8 ?_) rfl, zaF (by repeat (first | (with_reducible first | exact Below.refl _ _ | refine zaj ?_ ?_ _ | apply zag | refine zae ?_ (by assumption) | apply zak) | omega)) _⟩
 rw [HEQ.out]
 have b11_1 := zb9 (n % 4294967296).toNat 11 1
 have b1_4 := zb9 (n % 4294967296).toNat 1 4
 have b5_6 := zb9 (n % 4294967296).toNat 5 6
 have b12_1 := zb9 (n % 4294967296).toNat 12 1
 simp only [Nat.reducePow] at b11_1 b1_4 b5_6 b12_1
 generalize zac (n % 4294967296).toNat 11 1 = t0, zac (n % 4294967296).toNat 1 4 = t1, zac (n % 4294967296).toNat 5 6 = t2, zac (n % 4294967296).toNat 12 1 = t3 at *
 try simp (disch := omega) only [IntWalk.wrap64_in]
 try (show _ = _; omega)
set_option maxHeartbeats 4000000 in
set_option maxRecDepth 100000 in
theorem zlg (x : Ins) (w : World) (hr : zaS x = true) (hf : (rowT x.op).form = 85) :
 Calls Tryz.prog 25 #[insV x] w fun e w' => e = .returned (.tuple #[.int .i64 (encN x : Nat), .int .i64 0]) ∧ Below w.heap.size w w' := by
 obtain ⟨h0, hd, ha, hb, hn1, hn2, hn3⟩ := zaN hr
 obtain ⟨hrb, hop⟩ := za4 h0
 have hq := hr
 simp only [rowB, hop, Bool.and_eq_true, decide_eq_true_eq, Bool.or_eq_true, beq_iff_eq] at hrb
 obtain ⟨⟨hlo, z1, z2, z3, z4⟩, _⟩ := hrb
 have HEQ := zhd (encS_85 x hr hf)
 unfold shX at hd ha hb hn1 hn2 hn3
 have hnb := zfb hr
 obtain ⟨op, d, a, b, n⟩ := x
 simp only at *
 generalize hrw : rowT op = r at *
 obtain ⟨nm, f, lo, mi, hi⟩ := r
 simp only at *
 subst hf
 have HRW := zhd hrw; have HR := zhd hr; have HN := zhd hnb
 clear hrw hr hq h0 hop hnb
 simp [zaI] at hd ha hb hn1 hn2 hn3 z1 z2 z3
 try (obtain ⟨_, _, rfl⟩ := hd)
 try (obtain ⟨_, _, rfl⟩ := ha)
 try (obtain ⟨_, _, rfl⟩ := hb)
 try subst z1
 try subst z2
 unfold insV
 go_enter Tryz.func25, Tryz.ntmps25
 go_wp2_with fail
 refine (zbz _ _ _ _ _ true _ HR.out).mono ?_
 rintro e w1 ⟨rfl, hb1⟩
 obtain ⟨c1, f1⟩ := za8 hb1
 have s1 := hb1.size
 try simp at s1
 have l1x0 : w.heap.size < w1.heap.size := by omega
 go_wp2_with fail
 refine (za6 op _).mono ?_
 rw [HRW.out]
 rintro e w2 ⟨rfl, hb2⟩
 obtain ⟨c2, f2⟩ := za8 hb2
 have s2 := hb2.size
 try simp at s2
 have l2x0 : w.heap.size < w2.heap.size := by omega
 unfold rfV
 go_wp2_with fail
 go_ret2
 refine ⟨ze9 (ze8 ?_) rfl, (by repeat (first | (with_reducible first | exact Below.refl _ _ | refine zaj ?_ ?_ _ | apply zag | refine zae ?_ (by assumption) | apply zak) | omega))⟩
 rw [HEQ.out]
 try simp (disch := omega) only [IntWalk.wrap64_in]
 try (show _ = _; omega)
set_option maxHeartbeats 4000000 in
set_option maxRecDepth 100000 in
theorem zlk (x : Ins) (w : World) (hr : zaS x = true) (hf : (rowT x.op).form = 74) :
 Calls Tryz.prog 25 #[insV x] w fun e w' => e = .returned (.tuple #[.int .i64 (encN x : Nat), .int .i64 0]) ∧ Below w.heap.size w w' := by
 obtain ⟨h0, hd, ha, hb, hn1, hn2, hn3⟩ := zaN hr
 obtain ⟨hrb, hop⟩ := za4 h0
 have hq := hr
 simp only [rowB, hop, Bool.and_eq_true, decide_eq_true_eq, Bool.or_eq_true, beq_iff_eq] at hrb
 obtain ⟨⟨hlo, z1, z2, z3, z4⟩, _⟩ := hrb
 have HEQ := zhd (encS_74 x hr hf)
 unfold shX at hd ha hb hn1 hn2 hn3
 have hnb := zfb hr
 obtain ⟨op, d, a, b, n⟩ := x
 simp only at *
 generalize hrw : rowT op = r at *
 obtain ⟨nm, f, lo, mi, hi⟩ := r
 simp only at *
 subst hf
 have HRW := zhd hrw; have HR := zhd hr; have HN := zhd hnb
 clear hrw hr hq h0 hop hnb
 simp [zaI] at hd ha hb hn1 hn2 hn3 z1 z2 z3
 try (obtain ⟨_, _, rfl⟩ := hd)
 try (obtain ⟨_, _, rfl⟩ := ha)
 try (obtain ⟨_, _, rfl⟩ := hb)
 try subst z1
 try subst z2
 unfold insV
 go_enter Tryz.func25, Tryz.ntmps25
 go_wp2_with fail
 refine (zbz _ _ _ _ _ true _ HR.out).mono ?_
 rintro e w1 ⟨rfl, hb1⟩
 obtain ⟨c1, f1⟩ := za8 hb1
 have s1 := hb1.size
 try simp at s1
 have l1x0 : w.heap.size < w1.heap.size := by omega
 go_wp2_with fail
 refine (za6 op _).mono ?_
 rw [HRW.out]
 rintro e w2 ⟨rfl, hb2⟩
 obtain ⟨c2, f2⟩ := za8 hb2
 have s2 := hb2.size
 try simp at s2
 have l2x0 : w.heap.size < w2.heap.size := by omega
 unfold rfV
 go_wp2_with fail
 go_quiet ((go_at_call 63; first | with_reducible exact Calls.quiet_of (zcL n 12 8 12 8 _ HN.out rfl rfl (by decide) (by decide)) | with_reducible exact Calls.quiet_of (zcL n 11 1 11 1 _ HN.out rfl rfl (by decide) (by decide)) | with_reducible exact Calls.quiet_of (zcL n 1 10 1 10 _ HN.out rfl rfl (by decide) (by decide)) | with_reducible exact Calls.quiet_of (zcL n 20 1 20 1 _ HN.out rfl rfl (by decide) (by decide))))
 go_wp2_with fail
 go_ret2
 refine ⟨ze9 (ze8 ?_) rfl, zaF (by repeat (first | (with_reducible first | exact Below.refl _ _ | refine zaj ?_ ?_ _ | apply zag | refine zae ?_ (by assumption) | apply zak) | omega)) _⟩
 rw [HEQ.out]
 have b12_8 := zb9 (n % 4294967296).toNat 12 8
 have b11_1 := zb9 (n % 4294967296).toNat 11 1
 have b1_10 := zb9 (n % 4294967296).toNat 1 10
 have b20_1 := zb9 (n % 4294967296).toNat 20 1
 simp only [Nat.reducePow] at b12_8 b11_1 b1_10 b20_1
 generalize zac (n % 4294967296).toNat 12 8 = t0, zac (n % 4294967296).toNat 11 1 = t1, zac (n % 4294967296).toNat 1 10 = t2, zac (n % 4294967296).toNat 20 1 = t3 at *
 try simp (disch := omega) only [IntWalk.wrap64_in]
 try (show _ = _; omega)
set_option maxHeartbeats 4000000 in
set_option maxRecDepth 100000 in
theorem zln (x : Ins) (w : World) (hr : zaS x = true) (hf : (rowT x.op).form = 70) :
 Calls Tryz.prog 25 #[insV x] w fun e w' => e = .returned (.tuple #[.int .i64 (encN x : Nat), .int .i64 0]) ∧ Below w.heap.size w w' := by
 obtain ⟨h0, hd, ha, hb, hn1, hn2, hn3⟩ := zaN hr
 obtain ⟨hrb, hop⟩ := za4 h0
 have hq := hr
 simp only [rowB, hop, Bool.and_eq_true, decide_eq_true_eq, Bool.or_eq_true, beq_iff_eq] at hrb
 obtain ⟨⟨hlo, z1, z2, z3, z4⟩, _⟩ := hrb
 have HEQ := zhd (encS_70 x hr hf)
 unfold shX at hd ha hb hn1 hn2 hn3
 have hnb := zfb hr
 obtain ⟨op, d, a, b, n⟩ := x
 simp only at *
 generalize hrw : rowT op = r at *
 obtain ⟨nm, f, lo, mi, hi⟩ := r
 simp only at *
 subst hf
 have HRW := zhd hrw; have HR := zhd hr; have HN := zhd hnb
 clear hrw hr hq h0 hop hnb
 simp [zaI] at hd ha hb hn1 hn2 hn3 z1 z2 z3
 try (obtain ⟨_, _, rfl⟩ := hd)
 try (obtain ⟨_, _, rfl⟩ := ha)
 try (obtain ⟨_, _, rfl⟩ := hb)
 try subst z1
 try subst z2
 unfold insV
 go_enter Tryz.func25, Tryz.ntmps25
 go_wp2_with fail
 refine (zbz _ _ _ _ _ true _ HR.out).mono ?_
 rintro e w1 ⟨rfl, hb1⟩
 obtain ⟨c1, f1⟩ := za8 hb1
 have s1 := hb1.size
 try simp at s1
 have l1x0 : w.heap.size < w1.heap.size := by omega
 go_wp2_with fail
 refine (za6 op _).mono ?_
 rw [HRW.out]
 rintro e w2 ⟨rfl, hb2⟩
 obtain ⟨c2, f2⟩ := za8 hb2
 have s2 := hb2.size
 try simp at s2
 have l2x0 : w.heap.size < w2.heap.size := by omega
 unfold rfV
 go_wp2_with fail
 go_ret2
 refine ⟨ze9 (ze8 ?_) rfl, (by repeat (first | (with_reducible first | exact Below.refl _ _ | refine zaj ?_ ?_ _ | apply zag | refine zae ?_ (by assumption) | apply zak) | omega))⟩
 rw [HEQ.out]
 try simp (disch := omega) only [IntWalk.wrap64_in]
 try (show _ = _; omega)
set_option maxHeartbeats 4000000 in
set_option maxRecDepth 100000 in
theorem zlf (x : Ins) (w : World) (hr : zaS x = true) (hf : (rowT x.op).form = 90) :
 Calls Tryz.prog 25 #[insV x] w fun e w' => e = .returned (.tuple #[.int .i64 (encN x : Nat), .int .i64 0]) ∧ Below w.heap.size w w' := by
 obtain ⟨h0, hd, ha, hb, hn1, hn2, hn3⟩ := zaN hr
 obtain ⟨hrb, hop⟩ := za4 h0
 have hq := hr
 simp only [rowB, hop, Bool.and_eq_true, decide_eq_true_eq, Bool.or_eq_true, beq_iff_eq] at hrb
 obtain ⟨⟨hlo, z1, z2, z3, z4⟩, _⟩ := hrb
 have HEQ := zhd (encS_90 x hr hf)
 unfold shX at hd ha hb hn1 hn2 hn3
 have hnb := zfb hr
 obtain ⟨op, d, a, b, n⟩ := x
 simp only at *
 generalize hrw : rowT op = r at *
 obtain ⟨nm, f, lo, mi, hi⟩ := r
 simp only at *
 subst hf
 have HRW := zhd hrw; have HR := zhd hr; have HN := zhd hnb
 clear hrw hr hq h0 hop hnb
 simp [zaI] at hd ha hb hn1 hn2 hn3 z1 z2 z3
 try (obtain ⟨_, _, rfl⟩ := hd)
 try (obtain ⟨_, _, rfl⟩ := ha)
 try (obtain ⟨_, _, rfl⟩ := hb)
 try subst z1
 try subst z2
 unfold insV
 go_enter Tryz.func25, Tryz.ntmps25
 go_wp2_with fail
 refine (zbz _ _ _ _ _ true _ HR.out).mono ?_
 rintro e w1 ⟨rfl, hb1⟩
 obtain ⟨c1, f1⟩ := za8 hb1
 have s1 := hb1.size
 try simp at s1
 have l1x0 : w.heap.size < w1.heap.size := by omega
 go_wp2_with fail
 refine (za6 op _).mono ?_
 rw [HRW.out]
 rintro e w2 ⟨rfl, hb2⟩
 obtain ⟨c2, f2⟩ := za8 hb2
 have s2 := hb2.size
 try simp at s2
 have l2x0 : w.heap.size < w2.heap.size := by omega
 unfold rfV
 go_wp2_with fail
 all_goals
  go_ret2
  refine ⟨ze9 (ze8 ?_) rfl, (by repeat (first | (with_reducible first | exact Below.refl _ _ | refine zaj ?_ ?_ _ | apply zag | refine zae ?_ (by assumption) | apply zak) | omega))⟩
  rw [HEQ.out]
  simp_all [zbE]
  try omega
set_option maxHeartbeats 4000000 in
set_option maxRecDepth 100000 in
theorem zlj (x : Ins) (w : World) (hr : zaS x = true) (hf : (rowT x.op).form = 76) :
 Calls Tryz.prog 25 #[insV x] w fun e w' => e = .returned (.tuple #[.int .i64 (encN x : Nat), .int .i64 0]) ∧ Below w.heap.size w w' := by
 obtain ⟨h0, hd, ha, hb, hn1, hn2, hn3⟩ := zaN hr
 obtain ⟨hrb, hop⟩ := za4 h0
 have hq := hr
 simp only [rowB, hop, Bool.and_eq_true, decide_eq_true_eq, Bool.or_eq_true, beq_iff_eq] at hrb
 obtain ⟨⟨hlo, z1, z2, z3, z4⟩, _⟩ := hrb
 have HEQ := zhd (encS_76 x hr hf)
 unfold shX at hd ha hb hn1 hn2 hn3
 have hnb := zfb hr
 obtain ⟨op, d, a, b, n⟩ := x
 simp only at *
 generalize hrw : rowT op = r at *
 obtain ⟨nm, f, lo, mi, hi⟩ := r
 simp only at *
 subst hf
 have HRW := zhd hrw; have HR := zhd hr; have HN := zhd hnb
 clear hrw hr hq h0 hop hnb
 simp [zaI] at hd ha hb hn1 hn2 hn3 z1 z2 z3
 try (obtain ⟨_, _, rfl⟩ := hd)
 try (obtain ⟨_, _, rfl⟩ := ha)
 try (obtain ⟨_, _, rfl⟩ := hb)
 try subst z1
 try subst z2
 unfold insV
 go_enter Tryz.func25, Tryz.ntmps25
 go_wp2_with fail
 refine (zbz _ _ _ _ _ true _ HR.out).mono ?_
 rintro e w1 ⟨rfl, hb1⟩
 obtain ⟨c1, f1⟩ := za8 hb1
 have s1 := hb1.size
 try simp at s1
 have l1x0 : w.heap.size < w1.heap.size := by omega
 go_wp2_with fail
 refine (za6 op _).mono ?_
 rw [HRW.out]
 rintro e w2 ⟨rfl, hb2⟩
 obtain ⟨c2, f2⟩ := za8 hb2
 have s2 := hb2.size
 try simp at s2
 have l2x0 : w.heap.size < w2.heap.size := by omega
 unfold rfV
 go_wp2_with fail
 go_ret2
 refine ⟨ze9 (ze8 ?_) rfl, (by repeat (first | (with_reducible first | exact Below.refl _ _ | refine zaj ?_ ?_ _ | apply zag | refine zae ?_ (by assumption) | apply zak) | omega))⟩
 rw [HEQ.out]
 try simp (disch := omega) only [IntWalk.wrap64_in]
 try (show _ = _; omega)
set_option maxHeartbeats 4000000 in
set_option maxRecDepth 100000 in
theorem zlq (x : Ins) (w : World) (hr : zaS x = true) (hf : (rowT x.op).form = 65) :
 Calls Tryz.prog 25 #[insV x] w fun e w' => e = .returned (.tuple #[.int .i64 (encN x : Nat), .int .i64 0]) ∧ Below w.heap.size w w' := by
 obtain ⟨h0, hd, ha, hb, hn1, hn2, hn3⟩ := zaN hr
 obtain ⟨hrb, hop⟩ := za4 h0
 have hq := hr
 simp only [rowB, hop, Bool.and_eq_true, decide_eq_true_eq, Bool.or_eq_true, beq_iff_eq] at hrb
 obtain ⟨⟨hlo, z1, z2, z3, z4⟩, _⟩ := hrb
 have HEQ := zhd (encS_65 x hr hf)
 unfold shX at hd ha hb hn1 hn2 hn3
 have hnb := zfb hr
 obtain ⟨op, d, a, b, n⟩ := x
 simp only at *
 generalize hrw : rowT op = r at *
 obtain ⟨nm, f, lo, mi, hi⟩ := r
 simp only at *
 subst hf
 have HRW := zhd hrw; have HR := zhd hr; have HN := zhd hnb
 clear hrw hr hq h0 hop hnb
 simp [zaI] at hd ha hb hn1 hn2 hn3 z1 z2 z3
 try (obtain ⟨_, _, rfl⟩ := hd)
 try (obtain ⟨_, _, rfl⟩ := ha)
 try (obtain ⟨_, _, rfl⟩ := hb)
 try subst z1
 try subst z2
 unfold insV
 go_enter Tryz.func25, Tryz.ntmps25
 go_wp2_with fail
 refine (zbz _ _ _ _ _ true _ HR.out).mono ?_
 rintro e w1 ⟨rfl, hb1⟩
 obtain ⟨c1, f1⟩ := za8 hb1
 have s1 := hb1.size
 try simp at s1
 have l1x0 : w.heap.size < w1.heap.size := by omega
 go_wp2_with fail
 refine (za6 op _).mono ?_
 rw [HRW.out]
 rintro e w2 ⟨rfl, hb2⟩
 obtain ⟨c2, f2⟩ := za8 hb2
 have s2 := hb2.size
 try simp at s2
 have l2x0 : w.heap.size < w2.heap.size := by omega
 unfold rfV
 go_wp2_with fail
 go_ret2
 refine ⟨ze9 (ze8 ?_) rfl, (by repeat (first | (with_reducible first | exact Below.refl _ _ | refine zaj ?_ ?_ _ | apply zag | refine zae ?_ (by assumption) | apply zak) | omega))⟩
 rw [HEQ.out]
 try simp (disch := omega) only [IntWalk.wrap64_in]
 try (show _ = _; omega)
set_option maxRecDepth 100000 in
theorem zgL (x : Ins) (w : World) :
 Calls Tryz.prog 25 #[insV x] w fun e w' => e = .returned (.tuple #[.int .i64 (encV x), .int .i64 (encE x)]) ∧ Below w.heap.size w w' := by
 cases hr : zaS x
 case false =>
  rw [(zhW hr).1, (zhW hr).2]
  obtain ⟨op, d, a, b, n⟩ := x
  have HR := zhd hr; clear hr
  unfold insV
  go_enter Tryz.func25, Tryz.ntmps25
  go_wp2_with fail
  refine (zbz _ _ _ _ _ false _ HR.out).mono ?_
  rintro e w1 ⟨rfl, hb1⟩
  obtain ⟨c1, f1⟩ := za8 hb1
  have s1 := hb1.size
  try simp at s1
  have l1x0 : w.heap.size < w1.heap.size := by omega
  go_wp2_with fail
  go_ret2
  exact ⟨rfl, (by repeat (first | (with_reducible first | exact Below.refl _ _ | refine zaj ?_ ?_ _ | apply zag | refine zae ?_ (by assumption) | apply zak) | omega))⟩
 case true =>
  rw [(zhX hr).1, (zhX hr).2]
  rcases zg6 _ (zaN hr).1 with h | h | h | h | h | h | h | h | h | h | h | h
  · exact zli x w hr h
  · exact zll x w hr h
  · exact zlm x w hr h
  · exact zlh x w hr h
  · exact zlp x w hr h
  · exact zlg x w hr h
  · exact zlk x w hr h
  · exact zln x w hr h
  · exact zlo x w hr h
  · exact zlj x w hr h
  · exact zlq x w hr h
  · exact zlf x w hr h
end
end Go.Proofs.YtdobddiibgfeaaaGreat
