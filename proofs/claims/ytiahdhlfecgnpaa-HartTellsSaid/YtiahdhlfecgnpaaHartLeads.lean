/-
  The contracts of hart.leads, Lets, effect.
-/
import Derived.Test.YtiahdhlfecgnpaaHartMakes
import Derived.Test.YtiahdhlfecgnpaaQuietTail
namespace Go.Proofs.Ytiahdhlfecgnpaa
open Go.RowKit
def leadsN (pc : Int) (x : Ins) (a b : Int) : Int :=
  if x.op = 3 ∨ (5 ≤ x.op ∧ x.op ≤ 10 ∧ jumpsB x.op a b = true) then wrap32 (pc + x.n) else if x.op = 4 then bits .and .i64 (wrap32 (a + x.n)) (-2) else wrap32 (pc + 4)
theorem jumps_at (op a b : Int) (r : Bool) (w : World) (h : 5 ≤ op ∧ op ≤ 10) (hr : jumpsB op a b = r) :
    Calls Try.prog 50 #[.int .i64 op, .int .i64 a, .int .i64 b] w fun e w' => e = .returned (.bool r) ∧ w = w' := by subst hr; exact jumps_any op a b w h
set_option maxHeartbeats 4000000 in
theorem leads_any (h : Ht) (x : Ins) (a b : Int) (w : World) (h32 : h.r.length = 32) :
    Calls Try.prog 32 #[.agg (hA h), insV x, .int .i64 a, .int .i64 b] w fun e w' => e = .returned (.int .i64 (leadsN h.pc x a b)) ∧ Below w.heap.size w w' := by
  have g32 := (hA_fields h h32).1
  obtain ⟨op, d, ra, rb, n⟩ := x
  have HE := Lib.hid (show leadsN h.pc ⟨op, d, ra, rb, n⟩ a b = if op = 3 ∨ (5 ≤ op ∧ op ≤ 10 ∧ jumpsB op a b = true) then wrap32 (h.pc + n) else if op = 4 then bits .and .i64 (wrap32 (a + n)) (-2) else wrap32 (h.pc + 4) from rfl)
  generalize leadsN h.pc ⟨op, d, ra, rb, n⟩ a b = res at *
  generalize h.pc = pc at *
  generalize hA h = A at *
  have f1 := w32_w64 (pc + n)
  have f2 := w32_w64 (a + n)
  have f3 := w32_w64 (pc + 4)
  have F1 := Lib.hid f1; have F2 := Lib.hid f2; have F3 := Lib.hid f3
  clear f1 f2 f3
  unfold insV
  by_cases c1 : op = 3
  · subst c1
    have E : Hid (res = wrap32 (pc + n)) := by rw [HE.out, if_pos (.inl rfl)]; exact rfl
    clear HE
    go_enter Try.func32, Try.ntmps32
    go_wp2_with (go_at_call 24; refine (wrap_any _ _).mono ?_; rintro e w' ⟨rfl, rfl⟩)
    go_ret
    exact ⟨ret1 (rint (by rw [E.out]; first | exact F1.out | rfl)), (by repeat (first | (with_reducible exact Below.refl _ _) | (with_reducible refine bw_set ?_ ?_ _) | (with_reducible apply bw_alloc) | (with_reducible refine bw_tr ?_ (by with_reducible assumption)) | (with_reducible apply bw_drew) | omega))⟩
  have q1 : (op == 3) = false := by simp [c1]
  by_cases c2 : 5 ≤ op ∧ op ≤ 10
  · have C2 := Lib.hid c2
    have q2 : decide (5 ≤ op) = true := by simp; omega
    have q3 : decide (op ≤ 10) = true := by simp; omega
    have q4 : (op == 4) = false := by simp; omega
    cases hj : jumpsB op a b
    · have E : Hid (res = wrap32 (pc + 4)) := by rw [HE.out, if_neg (by rw [hj]; simp [c1]), if_neg (by omega)]; exact rfl
      have HJ := Lib.hid hj
      clear HE hj c1 c2
      go_enter Try.func32, Try.ntmps32
      go_wp2_with (first | (go_at_call 24; refine (wrap_any _ _).mono ?_; rintro e w' ⟨rfl, rfl⟩) | (go_at_call 50; refine (jumps_at op a b _ _ C2.out HJ.out).mono ?_; rintro e w' ⟨rfl, rfl⟩))
      go_ret
      exact ⟨ret1 (rint (by rw [E.out]; first | exact F3.out | rfl)), (by repeat (first | (with_reducible exact Below.refl _ _) | (with_reducible refine bw_set ?_ ?_ _) | (with_reducible apply bw_alloc) | (with_reducible refine bw_tr ?_ (by with_reducible assumption)) | (with_reducible apply bw_drew) | omega))⟩
    · have E : Hid (res = wrap32 (pc + n)) := by rw [HE.out, if_pos (.inr ⟨c2.1, c2.2, hj⟩)]; exact rfl
      have HJ := Lib.hid hj
      clear HE hj c1 c2
      go_enter Try.func32, Try.ntmps32
      go_wp2_with (first | (go_at_call 24; refine (wrap_any _ _).mono ?_; rintro e w' ⟨rfl, rfl⟩) | (go_at_call 50; refine (jumps_at op a b _ _ C2.out HJ.out).mono ?_; rintro e w' ⟨rfl, rfl⟩))
      go_ret
      exact ⟨ret1 (rint (by rw [E.out]; first | exact F1.out | rfl)), (by repeat (first | (with_reducible exact Below.refl _ _) | (with_reducible refine bw_set ?_ ?_ _) | (with_reducible apply bw_alloc) | (with_reducible refine bw_tr ?_ (by with_reducible assumption)) | (with_reducible apply bw_drew) | omega))⟩
  have hn : ¬ (5 ≤ op ∧ op ≤ 10 ∧ jumpsB op a b = true) := fun h => c2 ⟨h.1, h.2.1⟩
  by_cases c3 : op = 4
  · subst c3
    have E : Hid (res = bits .and .i64 (wrap32 (a + n)) (-2)) := by rw [HE.out, if_neg (by simp), if_pos rfl]; exact rfl
    clear HE hn c1 c2
    go_enter Try.func32, Try.ntmps32
    go_wp2_with (go_at_call 24; refine (wrap_any _ _).mono ?_; rintro e w' ⟨rfl, rfl⟩)
    go_ret
    exact ⟨ret1 (rint (by rw [E.out, ← F2.out])), (by repeat (first | (with_reducible exact Below.refl _ _) | (with_reducible refine bw_set ?_ ?_ _) | (with_reducible apply bw_alloc) | (with_reducible refine bw_tr ?_ (by with_reducible assumption)) | (with_reducible apply bw_drew) | omega))⟩
  · have E : Hid (res = wrap32 (pc + 4)) := by rw [HE.out, if_neg (fun h => h.elim c1 hn), if_neg c3]; exact rfl
    have q4 : (op == 4) = false := by simp [c3]
    by_cases h5 : 5 ≤ op
    · have q2 : decide (5 ≤ op) = true := decide_eq_true h5
      have q3 : decide (op ≤ 10) = false := by simp; omega
      clear HE hn c1 c2 c3
      go_enter Try.func32, Try.ntmps32
      go_wp2_with (go_at_call 24; refine (wrap_any _ _).mono ?_; rintro e w' ⟨rfl, rfl⟩)
      go_ret
      exact ⟨ret1 (rint (by rw [E.out]; first | exact F3.out | rfl)), (by repeat (first | (with_reducible exact Below.refl _ _) | (with_reducible refine bw_set ?_ ?_ _) | (with_reducible apply bw_alloc) | (with_reducible refine bw_tr ?_ (by with_reducible assumption)) | (with_reducible apply bw_drew) | omega))⟩
    · have q2 : decide (5 ≤ op) = false := decide_eq_false h5
      clear HE hn c1 c2 c3
      go_enter Try.func32, Try.ntmps32
      go_wp2_with (go_at_call 24; refine (wrap_any _ _).mono ?_; rintro e w' ⟨rfl, rfl⟩)
      go_ret
      exact ⟨ret1 (rint (by rw [E.out]; first | exact F3.out | rfl)), (by repeat (first | (with_reducible exact Below.refl _ _) | (with_reducible refine bw_set ?_ ?_ _) | (with_reducible apply bw_alloc) | (with_reducible refine bw_tr ?_ (by with_reducible assumption)) | (with_reducible apply bw_drew) | omega))⟩
def letsB (st le pr : Int) : Bool := (bits .and .i64 st 8 != 0) && decide (le < pr)
theorem lets_any (h : Ht) (p : Int) (w : World) (h32 : h.r.length = 32) :
    Calls Try.prog 22 #[.agg (hA h), .int .i64 p] w fun e w' => e = .returned (.bool (letsB h.st h.le p)) ∧ Below w.heap.size w w' := by
  have g33 := (hA_fields h h32).2.1
  have g38 := (hA_fields h h32).2.2.2.2.2.2
  generalize h.st = st at *
  generalize h.le = le at *
  generalize hA h = A at *
  have E := Lib.hid (show letsB st le p = ((bits .and .i64 st 8 != 0) && decide (le < p)) from rfl)
  cases h1 : (bits .and .i64 st 8 != 0) <;> cases h2 : decide (le < p)
  all_goals
    rw [h1, h2] at E
    go_enter Try.func22, Try.ntmps22
    go_wp2_with fail
    go_ret
    exact ⟨ret1 (rbool E.out.symm), (by repeat (first | (with_reducible exact Below.refl _ _) | (with_reducible refine bw_set ?_ ?_ _) | (with_reducible apply bw_alloc) | (with_reducible refine bw_tr ?_ (by with_reducible assumption)) | (with_reducible apply bw_drew) | omega))⟩
/-- What an instruction does beyond its hart. -/
structure Eff where
  k : Int
  d : Int
  ad : Int
  n : Int
  o : Int
def effV (e : Eff) : Value := .agg #[.int .i64 e.k, .int .i64 e.d, .int .i64 e.ad, .int .i64 e.n, .int .i64 e.o]
def effX (x : Ins) (a b : Int) : Eff :=
  if x.op = 11 then ⟨1, x.d, wrap32 (a + x.n), 0, 0⟩ else if x.op = 12 then ⟨2, 0, wrap32 (a + x.n), b, 0⟩ else if x.op = 39 then ⟨6, 0, 0, 0, 0⟩ else if x.op = 46 then ⟨3, x.d, a, 0, 0⟩
  else if x.op = 47 then ⟨4, x.d, a, b, 0⟩ else if x.op = 48 then ⟨5, x.d, a, b, 0⟩ else if x.op = 49 then ⟨5, x.d, a, b, 1⟩ else if x.op = 43 then ⟨7, 0, 0, 0, 0⟩ else if x.op = 45 then ⟨8, 0, 0, 0, 0⟩ else ⟨0, 0, 0, 0, 0⟩
def effOp (op : Int) : Prop := op = 11 ∨ op = 12 ∨ op = 39 ∨ op = 46 ∨ op = 47 ∨ op = 43 ∨ op = 45
set_option maxHeartbeats 4000000 in
theorem effect_lit (op d ra rb n a b : Int) (w : World) (h : effOp op) :
    Calls Try.prog 36 #[insV ⟨op, d, ra, rb, n⟩, .int .i64 a, .int .i64 b] w fun e w' => e = .returned (effV (effX ⟨op, d, ra, rb, n⟩ a b)) ∧ Below w.heap.size w w' := by
  have F2 := Lib.hid (w32_w64 (a + n))
  unfold insV
  rcases h with rfl | rfl | rfl | rfl | rfl | rfl | rfl
  all_goals
    go_enter Try.func36, Try.ntmps36
    go_wp2_with (go_at_call 24; refine (wrap_any _ _).mono ?_; rintro e w' ⟨rfl, rfl⟩)
    refine bodyPost_ret (by simp [results, Try.results36, go_sem]; try rfl) rfl ⟨?_, (by repeat (first | (with_reducible exact Below.refl _ _) | (with_reducible refine bw_set ?_ ?_ _) | (with_reducible apply bw_alloc) | (with_reducible refine bw_tr ?_ (by with_reducible assumption)) | (with_reducible apply bw_drew) | omega))⟩
    have f := F2.out
    simp [effX, effV, f]
theorem eff_none (x : Ins) (a b : Int) (h : ¬ effOp x.op) (h1 : x.op ≠ 48) (h2 : x.op ≠ 49) : effX x a b = ⟨0, 0, 0, 0, 0⟩ := by
  simp only [effOp, not_or] at h
  obtain ⟨a1, a2, a3, a4, a5, a6, a7⟩ := h
  simp [effX, a1, a2, a3, a4, a5, a6, a7, h1, h2]
set_option maxHeartbeats 4000000 in
theorem effect_no (op d ra rb n a b : Int) (w : World) (h : ¬ effOp op) (h1 : op ≠ 48) (h2 : op ≠ 49) :
    Calls Try.prog 36 #[insV ⟨op, d, ra, rb, n⟩, .int .i64 a, .int .i64 b] w fun e w' => e = .returned (effV (effX ⟨op, d, ra, rb, n⟩ a b)) ∧ Below w.heap.size w w' := by
  rw [eff_none ⟨op, d, ra, rb, n⟩ a b h h1 h2]
  simp only [effOp, not_or] at h
  obtain ⟨a1, a2, a3, a4, a5, a6, a7⟩ := h
  have q1 := beq_eq_false_iff_ne.2 a1; have q2 := beq_eq_false_iff_ne.2 a2; have q3 := beq_eq_false_iff_ne.2 a3; have q4 := beq_eq_false_iff_ne.2 a4; have q5 := beq_eq_false_iff_ne.2 a5; have q6 := beq_eq_false_iff_ne.2 a6; have q7 := beq_eq_false_iff_ne.2 a7; have q8 := beq_eq_false_iff_ne.2 h1; have q9 := beq_eq_false_iff_ne.2 h2
  clear a1 a2 a3 a4 a5 a6 a7 h1 h2
  unfold insV
  go_enter Try.func36, Try.ntmps36
  go_wp2_with (go_at_call 24; refine (wrap_any _ _).mono ?_; rintro e w' ⟨rfl, rfl⟩)
  refine bodyPost_ret (by simp [results, Try.results36, go_sem]; try rfl) rfl ⟨?_, (by repeat (first | (with_reducible exact Below.refl _ _) | (with_reducible refine bw_set ?_ ?_ _) | (with_reducible apply bw_alloc) | (with_reducible refine bw_tr ?_ (by with_reducible assumption)) | (with_reducible apply bw_drew) | omega))⟩
  rfl
set_option maxHeartbeats 4000000 in
theorem effect_amo (op d ra rb n a b : Int) (w : World) (h : op = 48 ∨ op = 49) :
    Calls Try.prog 36 #[insV ⟨op, d, ra, rb, n⟩, .int .i64 a, .int .i64 b] w fun e w' => e = .returned (effV (effX ⟨op, d, ra, rb, n⟩ a b)) ∧ Below w.heap.size w w' := by
  have hix : ∀ w : World, (Instr.index 80 (.agg opsA) (.int .i64 op)).run Try.prog w = .ok (.int .i64 (opsT op)) w := by
    intro w
    rcases h with rfl | rfl <;> kernel_rfl
  have HO := Lib.hid (show opsT op = if op = 48 then 0 else 1 by rcases h with rfl | rfl <;> rfl)
  obtain ⟨w0, hw0, hx, hz, hb0, hs0⟩ := two_new w (.cells #[.int .i64 op, .int .i64 d, .int .i64 ra, .int .i64 rb, .int .i64 n] 24) (.cells #[.int .i64 0, .int .i64 0, .int .i64 0, .int .i64 0, .int .i64 0] 34)
  have x0 := fun x => wd_cell (by omega) (cell_in hx (j := 0) (u := .int .i64 op) rfl) x
  have x1 := fun x => wd_cell (by omega) (cell_in hx (j := 1) (u := .int .i64 d) rfl) x
  have HZ := Lib.hid hz
  have HW := Lib.hid hw0
  clear hx hz hw0
  unfold insV
  rcases h with rfl | rfl
  all_goals
    have ho := HO.out
    simp at ho
    rw [ho] at hix
    clear ho
    go_enter Try.func36, Try.ntmps36
    go_wp2_with (go_at_call 24; refine (wrap_any _ _).mono ?_; rintro e w' ⟨rfl, rfl⟩)
    rw [← HW.out]
    refine wp_region_below_tail 9 (by kernel_rfl) (by kernel_rfl) ?_
    simp only [List.take_succ_cons, List.take_zero, List.drop_succ_cons, List.drop_zero]
    repeat (go_big_quiet_step ((go_at_call 55; exact quiet_b (operators_any _))))
    refine wpQuiet_nil ?_
    rintro w9 ⟨⟨w9x, hb9⟩, rfl⟩
    have hz9 := bel_in hb9 (by omega) HZ.out
    have hbw : Below w.heap.size w w9 := (by repeat (first | (with_reducible exact Below.refl _ _) | (with_reducible refine bw_set ?_ ?_ _) | (with_reducible apply bw_alloc) | (with_reducible refine bw_tr ?_ (by with_reducible assumption)) | (with_reducible apply bw_drew) | omega))
    first
      | (refine wpList_store_row rfl 34 _ _ rfl (w.heap.size + 1) #[.int .i64 5, .int .i64 d, .int .i64 a, .int .i64 b, .int .i64 0] rfl rfl 34 _ hz9 (by kernel_rfl) rfl (by kernel_rfl) ?_; go_wp2_with fail; exact bodyPost_ret (v := effV (effX ⟨48, d, ra, rb, n⟩ a b)) (results_cell_row rfl _ _ (w.heap.size + 1) 34 #[.int .i64 5, .int .i64 d, .int .i64 a, .int .i64 b, .int .i64 0] (0, 0) _ rfl (setRow_heap _ _ _ _ _ _ hz9) Try.underlying34 rfl (by kernel_rfl)) rfl ⟨rfl, below_setRow hbw (by omega) _⟩)
      | (refine wpList_store_row rfl 34 _ _ rfl (w.heap.size + 1) #[.int .i64 5, .int .i64 d, .int .i64 a, .int .i64 b, .int .i64 1] rfl rfl 34 _ hz9 (by kernel_rfl) rfl (by kernel_rfl) ?_; go_wp2_with fail; exact bodyPost_ret (v := effV (effX ⟨49, d, ra, rb, n⟩ a b)) (results_cell_row rfl _ _ (w.heap.size + 1) 34 #[.int .i64 5, .int .i64 d, .int .i64 a, .int .i64 b, .int .i64 1] (0, 0) _ rfl (setRow_heap _ _ _ _ _ _ hz9) Try.underlying34 rfl (by kernel_rfl)) rfl ⟨rfl, below_setRow hbw (by omega) _⟩)
theorem effect_any (x : Ins) (a b : Int) (w : World) :
    Calls Try.prog 36 #[insV x, .int .i64 a, .int .i64 b] w fun e w' => e = .returned (effV (effX x a b)) ∧ Below w.heap.size w w' := by
  obtain ⟨op, d, ra, rb, n⟩ := x
  by_cases h1 : op = 48 ∨ op = 49
  · exact effect_amo op d ra rb n a b w h1
  by_cases h2 : effOp op
  · exact effect_lit op d ra rb n a b w h2
  · exact effect_no op d ra rb n a b w h2 (fun h => h1 (.inl h)) (fun h => h1 (.inr h))
end Go.Proofs.Ytiahdhlfecgnpaa
