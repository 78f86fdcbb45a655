/-
  The contracts of slices.Equal at []int and at lists of stores, of slices.EqualFunc with the closure of store.Same, of store.Same.
-/
import Derived.Test.YtkhobelceghgfaaMemStore3
import Derived.Deep.QuietTactic
import Derived.BigQuiet
namespace Go.Proofs.Ytkhobelceghgfaa
open Go.RowKit
theorem rd_cells {w : World} {k n : Nat} {v : Value} {xs : List Value} (h : Reads w k n v xs) (hn : 0 < n) :
    ∃ b o c, v = .slice (some ⟨b, o, none⟩) n c ∧ n ≤ c ∧ c ≤ maxLen ∧ ∀ j u, xs[j]? = some u → w.cell? ⟨b, o + j, none⟩ = some u := by
  rcases h.2.2 with ⟨_, h0⟩ | ⟨b, o, c, hv, _, hc, hm, hcell⟩
  · omega
  · exact ⟨b, o, c, hv, hc, hm, hcell⟩
set_option maxHeartbeats 1000000 in
theorem equal_int (v v' : Value) (xs ys : List Int) (w : World) (h : Reads w 1 xs.length v (xs.map (Value.int .i64))) (h' : Reads w 1 ys.length v' (ys.map (Value.int .i64))) :
    Calls Try.prog 42 #[v, v'] w fun e w' => e = .returned (.bool (decide (xs = ys))) ∧ Below w.heap.size w w' := by
  obtain ⟨a, c, rfl⟩ := h.shape
  obtain ⟨a', c', rfl⟩ := h'.shape
  have HR := Lib.hid h; have HR' := Lib.hid h'; clear h h'
  by_cases hl : xs.length = ys.length
  · have hlb : (((xs.length : Nat) : Int) != ((ys.length : Nat) : Int)) = false := by simp [hl]
    by_cases h0 : xs.length = 0
    · have hx0 : xs = [] := List.eq_nil_of_length_eq_zero h0
      have hy0 : ys = [] := List.eq_nil_of_length_eq_zero (by omega)
      subst hx0 hy0
      simp only [List.length_nil] at *
      go_enter Try.func42, Try.ntmps42
      go_wp2_with fail
      refine wp_loop_rounds 1 ?_
      rw [rounds_succ]
      go_wp2_with fail
      go_ret
      exact ⟨ret1 (rbool (by simp)), Below.refl _ _⟩
    · obtain ⟨b, o, c0, hv, hc, hm, hcell⟩ := rd_cells HR.out (by omega)
      obtain ⟨b', o', c0', hv', hc', hm', hcell'⟩ := rd_cells HR'.out (by omega)
      injection hv with e1 _ e2; injection hv' with e3 _ e4
      subst e1 e2 e3 e4
      have HL := Lib.hid hl
      have HC := Lib.hid hcell; have HC' := Lib.hid hcell'
      clear hcell hcell' hl
      unfold maxLen at hm hm'
      go_enter Try.func42, Try.ntmps42
      go_wp2_with fail
      go_loopw [13] (fun i wr => ∃ k : Nat, k ≤ xs.length ∧ i = .int .i64 k ∧ xs.take k = ys.take k ∧ Below w.heap.size w wr ∧ (∀ a, wr.cell? a = w.cell? a)) (fun i _ => xs.length - (intOf i).toNat)
      case atStart => exact ⟨0, Nat.zero_le _, rfl, rfl, Below.refl _ _, fun _ => rfl⟩
      case round =>
        obtain ⟨k, hk, rfl, ht, hb, hw⟩ := hrel
        have HT := Lib.hid ht; have HB := Lib.hid hb; have HW := Lib.hid hw; clear ht hb hw
        by_cases hlt : k < xs.length
        · have hlt' : k < ys.length := by rw [← HL.out]; exact hlt
          have g1 : wr.cell? ⟨b, o + k, none⟩ = some (.int .i64 (xs[k])) := by rw [HW.out]; exact HC.out k _ (by simp [hlt])
          have g2 : wr.cell? ⟨b', o' + k, none⟩ = some (.int .i64 (ys[k])) := by rw [HW.out]; exact HC'.out k _ (by simp [hlt'])
          by_cases hx : xs[k] = ys[k]
          · have hxb : (xs[k] != ys[k]) = false := by simp [hx]
            have HX := Lib.hid hx; clear hx
            go_wp2_with fail
            go_quiet (fail)
            go_wp2_with fail
            refine ⟨⟨k + 1, by omega, by go_num, ?_, below_drewN HB.out _, HW.out⟩, by simp [intOf]; omega⟩
            rw [List.take_succ_eq_append_getElem hlt, List.take_succ_eq_append_getElem hlt', HT.out, HX.out]
          · have hxb : (xs[k] != ys[k]) = true := by simp [hx]
            have hd : decide (xs = ys) = false := decide_eq_false (fun e => hx (by subst e; rfl))
            have HD := Lib.hid hd; clear hx hd
            go_wp2_with fail
            go_quiet (fail)
            go_wp2_with fail
            go_ret
            exact ⟨ret1 (rbool HD.out.symm), below_drewN HB.out _⟩
        · have hd : decide (xs = ys) = true := decide_eq_true (by
            have e1 := HT.out
            have hkx : k = xs.length := by omega
            rw [hkx, List.take_length, HL.out, List.take_length] at e1
            exact e1)
          have HD := Lib.hid hd; clear hd
          go_wp2_with fail
          go_ret
          exact ⟨ret1 (rbool HD.out.symm), HB.out⟩
  · have hlb : (((xs.length : Nat) : Int) != ((ys.length : Nat) : Int)) = true := by simp; omega
    have hd : decide (xs = ys) = false := decide_eq_false (fun e => hl (by rw [e]))
    rw [hd]
    clear hl hd
    go_enter Try.func42, Try.ntmps42
    go_wp2_with fail
    go_ret
    exact ⟨ret1 (rbool rfl), Below.refl _ _⟩

theorem ent_iff (x y : Int × Int) : decide (x = y) = (x.1 == y.1 && x.2 == y.2) := by
  obtain ⟨a, b⟩ := x
  obtain ⟨c, d⟩ := y
  rw [Bool.eq_iff_iff]; simp
theorem eqE (r : Bool) (x y : Int × Int) (h : decide (x = y) = r) (w : World) : (Op.equalIn 10000 44 (.agg #[.int .i64 x.1, .int .i64 x.2]) (.agg #[.int .i64 y.1, .int .i64 y.2])).run Try.prog w = .ok r w := by
  have u3 := Try.underlying3
  have a3 := Try.isAgg3
  have z3 := Try.sizeOf3
  have hS : Try.prog.underlying 44 = some (.struct (Try.prog.fieldsOf 44)) := by kernel_rfl
  have hp : Try.prog.stoodInHeld 44 = false := by kernel_rfl
  rw [← h, ent_iff, show (10000 : Nat) = 9999 + 1 from rfl, run_equalIn_agg w 9999 44 _ _ hS hp]
  simp only [Program.fieldsOf, Try.underlying44]
  go_simp
  cases h1 : (x.1 == y.1)
  · simp_all
  · cases h2 : (x.2 == y.2) <;> simp_all
set_option maxHeartbeats 1000000 in
theorem equal_ent (v v' : Value) (xs ys : List (Int × Int)) (w : World) (h : Reads w 2 xs.length v (entC xs)) (h' : Reads w 2 ys.length v' (entC ys)) :
    Calls Try.prog 45 #[v, v'] w fun e w' => e = .returned (.bool (decide (xs = ys))) ∧ Below w.heap.size w w' := by
  obtain ⟨a, c, rfl⟩ := h.shape
  obtain ⟨a', c', rfl⟩ := h'.shape
  have HR := Lib.hid h; have HR' := Lib.hid h'; clear h h'
  by_cases hl : xs.length = ys.length
  · have hlb : (((xs.length : Nat) : Int) != ((ys.length : Nat) : Int)) = false := by simp [hl]
    by_cases h0 : xs.length = 0
    · have hx0 : xs = [] := List.eq_nil_of_length_eq_zero h0
      have hy0 : ys = [] := List.eq_nil_of_length_eq_zero (by omega)
      subst hx0 hy0
      simp only [List.length_nil] at *
      go_enter Try.func45, Try.ntmps45
      go_wp2_with fail
      refine wp_loop_rounds 1 ?_
      rw [rounds_succ]
      go_wp2_with fail
      go_ret
      exact ⟨ret1 (rbool (by simp)), Below.refl _ _⟩
    · obtain ⟨b, o, c0, hv, hc, hm, hcell⟩ := rd_cells HR.out (by omega)
      obtain ⟨b', o', c0', hv', hc', hm', hcell'⟩ := rd_cells HR'.out (by omega)
      injection hv with e1 _ e2; injection hv' with e3 _ e4
      subst e1 e2 e3 e4
      have HL := Lib.hid hl
      have HC := Lib.hid hcell; have HC' := Lib.hid hcell'
      clear hcell hcell' hl
      unfold maxLen at hm hm'
      go_enter Try.func45, Try.ntmps45
      go_wp2_with fail
      go_loopw [13] (fun i wr => ∃ k : Nat, k ≤ xs.length ∧ i = .int .i64 k ∧ xs.take k = ys.take k ∧ Below w.heap.size w wr ∧ (∀ a, wr.cell? a = w.cell? a)) (fun i _ => xs.length - (intOf i).toNat)
      case atStart => exact ⟨0, Nat.zero_le _, rfl, rfl, Below.refl _ _, fun _ => rfl⟩
      case round =>
        obtain ⟨k, hk, rfl, ht, hb, hw⟩ := hrel
        have HT := Lib.hid ht; have HB := Lib.hid hb; have HW := Lib.hid hw; clear ht hb hw
        by_cases hlt : k < xs.length
        · have hlt' : k < ys.length := by rw [← HL.out]; exact hlt
          obtain ⟨i1, i2⟩ := entC_at xs k xs[k] (by simp)
          obtain ⟨j1, j2⟩ := entC_at ys k ys[k] (by simp)
          have g1 : wr.cell? ⟨b, o + k * 2, none⟩ = some (.int .i64 (xs[k]).1) := by rw [HW.out]; exact HC.out _ _ i1
          have g1' : wr.cell? ⟨b, o + k * 2 + 1, none⟩ = some (.int .i64 (xs[k]).2) := by rw [HW.out]; exact HC.out _ _ i2
          have g2 : wr.cell? ⟨b', o' + k * 2, none⟩ = some (.int .i64 (ys[k]).1) := by rw [HW.out]; exact HC'.out _ _ j1
          have g2' : wr.cell? ⟨b', o' + k * 2 + 1, none⟩ = some (.int .i64 (ys[k]).2) := by rw [HW.out]; exact HC'.out _ _ j2
          clear i1 i2 j1 j2
          by_cases hx : xs[k] = ys[k]
          · have hxb := fun w => eqE true xs[k] ys[k] (by simp [hx]) w
            have HX := Lib.hid hx; clear hx
            go_wp2_with fail
            go_quiet (fail)
            go_wp2_with fail
            refine ⟨⟨k + 1, by omega, by go_num, ?_, below_drewN HB.out _, HW.out⟩, by simp [intOf]; omega⟩
            rw [List.take_succ_eq_append_getElem hlt, List.take_succ_eq_append_getElem hlt', HT.out, HX.out]
          · have hxb := fun w => eqE false xs[k] ys[k] (by simp [hx]) w
            have hd : decide (xs = ys) = false := decide_eq_false (fun e => hx (by subst e; rfl))
            have HD := Lib.hid hd; clear hx hd
            go_wp2_with fail
            go_quiet (fail)
            go_wp2_with fail
            go_ret
            exact ⟨ret1 (rbool HD.out.symm), below_drewN HB.out _⟩
        · have hd : decide (xs = ys) = true := decide_eq_true (by
            have e1 := HT.out
            have hkx : k = xs.length := by omega
            rw [hkx, List.take_length, HL.out, List.take_length] at e1
            exact e1)
          have HD := Lib.hid hd; clear hd
          go_wp2_with fail
          go_ret
          exact ⟨ret1 (rbool HD.out.symm), HB.out⟩
  · have hlb : (((xs.length : Nat) : Int) != ((ys.length : Nat) : Int)) = true := by simp; omega
    have hd : decide (xs = ys) = false := decide_eq_false (fun e => hl (by rw [e]))
    rw [hd]
    clear hl hd
    go_enter Try.func45, Try.ntmps45
    go_wp2_with fail
    go_ret
    exact ⟨ret1 (rbool rfl), Below.refl _ _⟩

end Go.Proofs.Ytkhobelceghgfaa
