/-
  The contracts of store's hasHart, has, atOnce.
-/
import Derived.Test.YtkhobelceghgfaaMemOwn
import Derived.Test.YtkhobelceghgfaaRows
import Derived.Test.YtkhobelceghgfaaWrapWalks
namespace Go.Proofs.Ytkhobelceghgfaa
open Go.RowKit
theorem IsMem.parts {w : World} {v : Value} {m : Mem} (h : IsMem w v m) : ∃ a1 c1 a2 c2 a3 c3 rows, v = .agg #[.slice a1 m.words.length c1, .slice a2 m.pend.length c2, .slice a3 m.res.length c3] ∧ Reads w 1 m.words.length (.slice a1 m.words.length c1) (intC m.words) ∧
    Reads w 1 m.pend.length (.slice a2 m.pend.length c2) rows ∧ Reads w 1 m.res.length (.slice a3 m.res.length c3) (intC m.res) ∧ RowsAt w rows m.pend := by
  obtain ⟨wv, pv, rv, rows, rfl, h1, h2, h3, h4⟩ := h
  obtain ⟨a1, c1, rfl⟩ := own_shape h1
  obtain ⟨a2, c2, rfl⟩ := own_shape h2
  obtain ⟨a3, c3, rfl⟩ := own_shape h3
  refine ⟨a1, c1, a2, c2, a3, c3, rows, rfl, Reads.own h1 (intC_one _), Reads.own h2 (fun u hu => ?_), Reads.own h3 (intC_one _), h4⟩
  obtain ⟨i, hi, rfl⟩ := List.mem_iff_getElem.1 hu
  have hi' : i < m.pend.length := by rw [← h4.1]; exact hi
  exact own_one (h4.2 i rows[i] m.pend[i] (by simp) (by simp [hi']))
theorem bel_new (w : World) (o : Obj) : Below w.heap.size w (w.alloc o) := (Below.refl _ _).alloc (Nat.le_refl _) _
set_option maxHeartbeats 1000000 in
theorem hasHart_any (v : Value) (m : Mem) (h : Int) (r : Bool) (w : World) (hm : IsMem w v m) (hr : hartB m h = r) :
    Calls Try.prog 34 #[v, .int .i64 h] w fun e w' => e = .returned (.bool r) ∧ Below w.heap.size w w' := by
  obtain ⟨a1, c1, a2, c2, a3, c3, rows, rfl, _, _, _, _⟩ := hm.parts
  subst hr
  unfold hartB
  generalize m.words.length = n1
  generalize m.pend.length = n2
  generalize m.res.length = n3
  by_cases h0 : 0 ≤ h
  · have hd : decide (0 ≤ h) = true := decide_eq_true h0
    rw [hd]
    by_cases h1 : h < n2
    · by_cases h2 : h < n3
      · have e1 : decide (h < (n2 : Int)) = true := decide_eq_true h1
        have e2 : decide (h < (n3 : Int)) = true := decide_eq_true h2
        rw [e1, e2]
        go_enter Try.func34, Try.ntmps34
        go_wp2
        all_goals first | omega | (go_ret; exact ⟨ret1 (rbool (by first | rfl | (apply decide_eq_false; omega) | (apply decide_eq_true; omega))), bel_new _ _⟩)
      · have e1 : decide (h < (n2 : Int)) = true := decide_eq_true h1
        have e2 : decide (h < (n3 : Int)) = false := decide_eq_false h2
        rw [e1, e2]
        go_enter Try.func34, Try.ntmps34
        go_wp2
        all_goals first | omega | (go_ret; exact ⟨ret1 (rbool (by first | rfl | (apply decide_eq_false; omega) | (apply decide_eq_true; omega))), bel_new _ _⟩)
    · have e1 : decide (h < (n2 : Int)) = false := decide_eq_false h1
      rw [e1]
      go_enter Try.func34, Try.ntmps34
      go_wp2
      all_goals first | omega | (go_ret; exact ⟨ret1 (rbool (by first | rfl | (apply decide_eq_false; omega) | (apply decide_eq_true; omega))), bel_new _ _⟩)
  · have hd : decide (0 ≤ h) = false := decide_eq_false h0
    rw [hd]
    go_enter Try.func34, Try.ntmps34
    go_wp2
    go_ret
    exact ⟨ret1 (rbool rfl), bel_new _ _⟩
set_option maxHeartbeats 1000000 in
theorem has_any (v : Value) (m : Mem) (h a : Int) (r : Bool) (w : World) (hm : IsMem w v m) (hr : hasB m h a = r) :
    Calls Try.prog 35 #[v, .int .i64 h, .int .i64 a] w fun e w' => e = .returned (.bool r) ∧ Below w.heap.size w w' := by
  subst hr
  have HM := Lib.hid hm
  obtain ⟨a1, c1, a2, c2, a3, c3, rows, rfl, _, _, _, _⟩ := hm.parts
  clear hm
  unfold hasB
  cases hh : hartB m h
  · have HH := Lib.hid hh; clear hh
    generalize m.words.length = n1 at *
    generalize m.pend.length = n2 at *
    generalize m.res.length = n3 at *
    go_enter Try.func35, Try.ntmps35
    go_wp2_with (go_at_call 34; ((with_reducible refine (hasHart_any _ m h false _ (HM.out.below (bel_new _ _)) HH.out).mono ?_); rintro e w1 ⟨rfl, hb⟩))
    go_ret
    exact ⟨ret1 (rbool rfl), bw_tr (bel_new _ _) hb⟩
  · have HH := Lib.hid hh; clear hh
    generalize m.words.length = n1 at *
    generalize m.pend.length = n2 at *
    generalize m.res.length = n3 at *
    by_cases h0 : 0 ≤ a
    · have hd : decide (0 ≤ a) = true := decide_eq_true h0
      rw [hd]
      cases hd2 : decide (a < (n1 : Int))
      all_goals
        go_enter Try.func35, Try.ntmps35
        go_wp2_with (go_at_call 34; ((with_reducible refine (hasHart_any _ m h true _ (HM.out.below (bel_new _ _)) HH.out).mono ?_); rintro e w1 ⟨rfl, hb⟩; obtain ⟨c1, f1⟩ := bcell hb))
        go_ret
        exact ⟨ret1 (rbool rfl), bw_tr (bel_new _ _) hb⟩
    · have hd : decide (0 ≤ a) = false := decide_eq_false h0
      rw [hd]
      go_enter Try.func35, Try.ntmps35
      go_wp2_with (go_at_call 34; ((with_reducible refine (hasHart_any _ m h true _ (HM.out.below (bel_new _ _)) HH.out).mono ?_); rintro e w1 ⟨rfl, hb⟩))
      go_ret
      exact ⟨ret1 (rbool rfl), bw_tr (bel_new _ _) hb⟩
theorem hasB_spec {m : Mem} {h a : Int} (hh : hasB m h a = true) : 0 ≤ h ∧ h < m.pend.length ∧ h < m.res.length ∧ 0 ≤ a ∧ a < m.words.length := by
  simp only [hasB, hartB, Bool.and_eq_true, decide_eq_true_eq] at hh
  omega
theorem pendOf_at {m : Mem} {h : Int} (h1 : h < m.pend.length) (h0 : 0 ≤ h) : m.pend[h.toNat]? = some (pendOf m h) := by
  unfold pendOf
  have : h.toNat < m.pend.length := by omega
  simp [this]
/-- The list of a hart's stores. -/
theorem RowsAt.at' {w : World} {rows : List Value} {m : Mem} (hr : RowsAt w rows m.pend) {h : Int} (h1 : h < m.pend.length) (h0 : 0 ≤ h) : ∃ a c, rows[h.toNat]? = some (.slice a (pendOf m h).length c) ∧ Reads w 2 (pendOf m h).length (.slice a (pendOf m h).length c) (entC (pendOf m h)) := by
  have hl : h.toNat < rows.length := by rw [hr.1]; omega
  have hrr := Reads.own (hr.2 h.toNat rows[h.toNat] _ (by simp [hl]) (pendOf_at h1 h0)) (entC_one _)
  obtain ⟨a, c, e⟩ := hrr.shape
  exact ⟨a, c, by rw [← e]; simp [hl], by rw [← e]; exact hrr⟩
theorem Reads.some {w : World} {k n : Nat} {v : Value} {xs : List Value} (h : Reads w k n v xs) (hn : 0 < n) :
    ∃ b o c, v = .slice (some ⟨b, o, none⟩) n c ∧ b < w.heap.size ∧ n ≤ c ∧ c ≤ maxLen ∧ ∀ j u, xs[j]? = some u → w.cell? ⟨b, o + j, none⟩ = some u := by
  rcases h.2.2 with ⟨_, h0⟩ | h
  · omega
  · exact h
/-- A memory that has that hart: where its list of stores lies. -/
theorem IsMem.row {w : World} {a1 a2 a3 : Option Addr} {n1 n2 n3 c1 c2 c3 : Nat} {m : Mem} (hm : IsMem w (.agg #[.slice a1 n1 c1, .slice a2 n2 c2, .slice a3 n3 c3]) m) {h : Int} (h1 : h < m.pend.length) (h0 : 0 ≤ h) :
    ∃ b o a c, a2 = some ⟨b, o, none⟩ ∧ n2 = m.pend.length ∧ c2 ≤ 9223372036854775807 ∧ n2 ≤ c2 ∧ b < w.heap.size ∧ w.cell? ⟨b, o + h.toNat, none⟩ = some (.slice a (pendOf m h).length c) ∧ Reads w 2 (pendOf m h).length (.slice a (pendOf m h).length c) (entC (pendOf m h)) := by
  obtain ⟨a1', c1', a2', c2', a3', c3', rows, e, r1, r2, r3, r4⟩ := hm.parts
  injection e with e
  have e2 : (.slice a2' m.pend.length c2' : Value) = .slice a2 n2 c2 := by
    have := congrArg (fun x => x[1]?) e
    simpa using this.symm
  rw [e2] at r2
  obtain ⟨b, o, c, e3, hlt, hc, hmx, hcell⟩ := r2.some (by omega)
  injection e3 with e4 e5 e6
  subst e4 e5 e6
  obtain ⟨a, c', hrow, hrd⟩ := r4.at' h1 h0
  unfold maxLen at hmx
  exact ⟨b, o, a, c', rfl, rfl, by omega, hc, hlt, hcell _ _ hrow, hrd⟩
set_option maxHeartbeats 1000000 in
theorem once_any (v : Value) (m : Mem) (h a : Int) (r : Int) (w : World) (hm : IsMem w v m) (hr : onceE m h a = r) :
    Calls Try.prog 46 #[v, .int .i64 h, .int .i64 a] w fun e w' => e = .returned (.int .i64 r) ∧ Below w.heap.size w w' := by
  subst hr
  have HM := Lib.hid hm
  obtain ⟨a1, c1, a2, c2, a3, c3, rows, rfl, _, _, _, _⟩ := hm.parts
  unfold onceE
  cases hh : hasB m h a
  · have HH := Lib.hid hh; clear hh hm
    generalize m.words.length = n1 at *
    generalize m.pend.length = n2 at *
    generalize m.res.length = n3 at *
    go_enter Try.func46, Try.ntmps46
    go_wp2_with (go_at_call 35; ((with_reducible refine (has_any _ m h a false _ (HM.out.below (bel_new _ _)) HH.out).mono ?_); rintro e w1 ⟨rfl, hb⟩))
    go_ret
    exact ⟨ret1 rfl, bw_tr (bel_new _ _) hb⟩
  · obtain ⟨q1, q2, q3, q4, q5⟩ := hasB_spec hh
    obtain ⟨b, o, a', c', rfl, q6, q7, q8, q9, q10, _⟩ := hm.row q2 q1
    have HH := Lib.hid hh; clear hh hm
    have q11 : h.toNat < m.pend.length := by omega
    generalize m.words.length = n1 at *
    generalize m.pend.length = n2 at *
    generalize m.res.length = n3 at *
    generalize (pendOf m h).length = n4 at *
    by_cases hL : n4 = 0
    · subst hL
      go_enter Try.func46, Try.ntmps46
      go_wp2_with (go_at_call 35; ((with_reducible refine (has_any _ m h a true _ (HM.out.below (bel_new _ _)) HH.out).mono ?_); rintro e w1 ⟨rfl, hb⟩; obtain ⟨c1, f1⟩ := bcell hb))
      go_ret
      exact ⟨ret1 rfl, bw_tr (bel_new _ _) hb⟩
    · have hL' : 0 < n4 := by omega
      have HL := Lib.hid hL; clear hL
      go_enter Try.func46, Try.ntmps46
      go_wp2_with (go_at_call 35; ((with_reducible refine (has_any _ m h a true _ (HM.out.below (bel_new _ _)) HH.out).mono ?_); rintro e w1 ⟨rfl, hb⟩; obtain ⟨c1, f1⟩ := bcell hb))
      go_ret
      exact ⟨ret1 (by first | rfl | (rw [if_pos rfl, if_neg HL.out]; rfl)), bw_tr (bel_new _ _) hb⟩
end Go.Proofs.Ytkhobelceghgfaa
