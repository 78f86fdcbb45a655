/-
  Laws that several walks of chapter 10 use.
-/
import Derived.Test.YtodcmmdobnjbbaaAlikeMath
import Derived.Test.YtodcmmdobnjbbaaBw
import Derived.Test.YtodcmmdobnjbbaaOpen
namespace Go.Proofs.Ytodcmmdobnjbbaa
open Go.RowKit
theorem same_lit (v v' : Value) (s t : St) (r : Bool) (w0 w0' w : World) (hr : sameS s t = r) (h : IsSt w0 v s) (h' : IsSt w0' v' t) (hb : Below w0.heap.size w0 w) (hb' : Below w0'.heap.size w0' w) :
    Calls Try.prog 17 #[v, v'] w fun e w' => e = .returned (.bool r) ∧ Below w.heap.size w w' := by
  subst hr
  exact same_any v v' s t w (h.below hb) (h'.below hb')
theorem raises_lit (v : Value) (s : St) (r : Bool) (w0 w : World) (hr : s.ra = r) (h : IsSt w0 v s) (hb : Below w0.heap.size w0 w) :
    Calls Try.prog 20 #[v] w fun e w' => e = .returned (.bool r) ∧ Below w.heap.size w w' := by
  subst hr
  exact raises_any v s w (h.below hb)
theorem same_write {s : St} (h : Inv s) (hd : doneS s = s) (n : Int) : sameS s (doneS (writeS s 2 n)) = (s.r2 == n) := by
  by_cases e : s.r2 = n
  · rw [done_same h hd n e, sameS_self, beq_iff_eq.2 e]
  · rw [beq_eq_false_iff_ne.2 e]
    have : regsEq s (doneS (writeS s 2 n)) = false := by
      unfold regsEq
      apply decide_eq_false
      rintro ⟨_, _, h2, _⟩
      apply e
      rw [h2]
      unfold writeS doneS
      rcases k3 h.k with hk | hk | hk <;> simp [hk]
    simp [sameS, this]
theorem read_write {s : St} (h : Inv s) (n : Int) : readN (doneS (writeS s 2 n)) 2 = n := by
  rcases k3 h.k with hk | hk | hk <;> simp [readN, doneS, writeS, hk]
theorem readS_two (s : St) : readS s 2 = s := by simp [readS]
theorem made_done (k : Int) (raw : List (Int × Int × Int)) : doneS (madeS k raw) = madeS k raw := by
  refine done_steps _ ?_ _
  have := pickN_bd k 3 (by omega)
  have h3 : 1 + pickN k 3 = 1 ∨ 1 + pickN k 3 = 2 ∨ 1 + pickN k 3 = 3 := by omega
  rcases h3 with e | e | e <;> rw [e] <;> rfl
theorem rows3_of {w : World} {v : Value} {raw : List (Int × Int × Int)} (h : ArgS 3 c3 w v raw) (hok : ∀ r ∈ raw, ok3 r) : ∃ a len cap, v = .slice a len cap ∧ Rows3 w a len cap raw := by
  obtain ⟨a, c, hv, h1, h2, h3⟩ := h
  refine ⟨a, raw.length, c, hv, rfl, hok, h1, h2, ?_⟩
  rcases h3 with rfl | ⟨b, o, ha, hlt, hc⟩
  · exact .inl rfl
  · refine .inr ⟨b, o, ha, hlt, fun i r hr => ⟨hc i r hr 0 _ rfl, hc i r hr 1 _ rfl, hc i r hr 2 _ rfl⟩⟩
theorem pick_lit (c n r : Int) (w : World) (hr : pickN c n = r) (hc : I64 c) (hn : 0 < n ∧ n ≤ 9223372036854775807) :
    Calls Try.prog 13 #[.int .i64 c, .int .i64 n] w fun e w' => e = .returned (.int .i64 r) ∧ w = w' := by
  subst hr; exact pick_any c n w hc hn
theorem stf_below {B : Nat} {w w' : World} {v : Value} {s : St} (h : IsStF B w v s) (hb : Below w.heap.size w w') : IsStF B w' v s := by
  obtain ⟨qv, hv, hr, hf⟩ := h
  exact ⟨qv, hv, hr.below hb, hf⟩
/-- A variable that holds a state. -/
def SV (w : World) (b : Nat) (s : St) : Prop := ∃ qv, w.heap[b]? = some (.cells (stC s qv) 27 (0, 0)) ∧ IsSt w (.agg (stC s qv)) s
theorem SV.below {w w' : World} {b : Nat} {s : St} (h : SV w b s) (hb : Below w.heap.size w w') : SV w' b s := by
  obtain ⟨qv, h1, h2⟩ := h
  exact ⟨qv, bel_in hb (lt_in h1) h1, h2.below hb⟩
theorem SV.shape {w : World} {b : Nat} {s : St} (h : SV w b s) : ∃ qa qc, w.heap[b]? = some (.cells (stC s (.slice qa s.q.length qc)) 27 (0, 0)) ∧ IsSt w (.agg (stC s (.slice qa s.q.length qc))) s := by
  obtain ⟨qv, h1, h2⟩ := h
  obtain ⟨qv', e, hr⟩ := h2
  have : qv' = qv := by
    have h1 : (stC s qv)[5]? = (stC s qv')[5]? := by injection e with e; rw [e]
    simp [stC] at h1; exact h1.symm
  subst this
  obtain ⟨qa, qc, rfl⟩ := hr.shape
  exact ⟨qa, qc, h1, ⟨_, rfl, hr⟩⟩
/-- A new variable. -/
theorem sv_new {w : World} {s : St} {qv : Value} (h : IsSt w (.agg (stC s qv)) s) : SV (w.alloc (.cells (stC s qv) 27)) w.heap.size s :=
  ⟨qv, new_in _ _, h.below ((Below.refl _ _).alloc (Nat.le_refl _) _)⟩
/-- A variable that a new state is written into. -/
theorem sv_set {w1 w2 : World} {b F : Nat} {s s' : St} {qv : Value} (hx : SV w1 b s) (hlt : b < F) (hb : Below w1.heap.size w1 w2) (hv : IsStF F w2 (.agg (stC s' qv)) s') :
    SV ((((((((w2.setCell ⟨b, 0, none⟩ (.int .i64 s'.k)).setCell ⟨b, 1, none⟩ (.int .i64 s'.r0)).setCell ⟨b, 2, none⟩ (.int .i64 s'.r1)).setCell ⟨b, 3, none⟩ (.int .i64 s'.r2)).setCell ⟨b, 4, none⟩ (.int .i64 s'.r3)).setCell ⟨b, 5, none⟩ qv).setCell ⟨b, 6, none⟩ (.int .i64 s'.sent)).setCell ⟨b, 7, none⟩ (.bool s'.ra)) b s' := by
  obtain ⟨qv0, h1, _⟩ := hx
  refine ⟨qv, set8 (cells8o (bel_in hb (lt_in h1) h1)), ?_⟩
  apply IsStF.st (B := F)
  iterate 8 apply stf_set hlt
  exact hv
theorem sv_set' {w2 : World} {b F : Nat} {s s' : St} {qv : Value} (hx : SV w2 b s) (hlt : b < F) (hv : IsStF F w2 (.agg (stC s' qv)) s') :
    SV ((((((((w2.setCell ⟨b, 0, none⟩ (.int .i64 s'.k)).setCell ⟨b, 1, none⟩ (.int .i64 s'.r0)).setCell ⟨b, 2, none⟩ (.int .i64 s'.r1)).setCell ⟨b, 3, none⟩ (.int .i64 s'.r2)).setCell ⟨b, 4, none⟩ (.int .i64 s'.r3)).setCell ⟨b, 5, none⟩ qv).setCell ⟨b, 6, none⟩ (.int .i64 s'.sent)).setCell ⟨b, 7, none⟩ (.bool s'.ra)) b s' := sv_set hx hlt (Below.refl _ _) hv
/-- A state stored into a variable. -/
def setS (w : World) (b : Nat) (s : St) (qv : Value) : World := (((((((w.setCell ⟨b, 0, none⟩ (.int .i64 s.k)).setCell ⟨b, 1, none⟩ (.int .i64 s.r0)).setCell ⟨b, 2, none⟩ (.int .i64 s.r1)).setCell ⟨b, 3, none⟩ (.int .i64 s.r2)).setCell ⟨b, 4, none⟩ (.int .i64 s.r3)).setCell ⟨b, 5, none⟩ qv).setCell ⟨b, 6, none⟩ (.int .i64 s.sent)).setCell ⟨b, 7, none⟩ (.bool s.ra)
theorem sv_setS {w1 w2 : World} {b F : Nat} {s s' : St} {qv : Value} (hx : SV w1 b s) (hlt : b < F) (hb : Below w1.heap.size w1 w2) (hv : IsStF F w2 (.agg (stC s' qv)) s') : SV (setS w2 b s' qv) b s' := sv_set hx hlt hb hv
theorem svq_setS {w1 w2 : World} {b F : Nat} {s s' : St} {qv : Value} (hx : SV w1 b s) (hlt : b < F) (hb : Below w1.heap.size w1 w2) (hv : IsStF F w2 (.agg (stC s' qv)) s') :
    (setS w2 b s' qv).heap[b]? = some (.cells (stC s' qv) 27 (0, 0)) ∧ IsSt (setS w2 b s' qv) (.agg (stC s' qv)) s' := by
  obtain ⟨qv0, h1, _⟩ := hx
  refine ⟨set8 (cells8o (bel_in hb (lt_in h1) h1)), ?_⟩
  apply IsStF.st (B := F)
  unfold setS
  iterate 8 apply stf_set hlt
  exact hv
theorem bw_setS {a w : World} {b : Nat} (h : Below a.heap.size a w) (hp : a.heap.size ≤ b) (s : St) (qv : Value) : Below a.heap.size a (setS w b s qv) := by
  unfold setS
  repeat (refine bw_set ?_ hp _)
  exact h
/-- What a slice of rows of three holds. -/
theorem ArgS.row {w : World} {v : Value} {raw : List (Int × Int × Int)} (h : ArgS 3 c3 w v raw) (hn : raw ≠ []) : ∃ b o c, v = .slice (some ⟨b, o, none⟩) raw.length c ∧ b < w.heap.size ∧ raw.length ≤ 9223372036854775807 ∧
    ∀ i r, raw[i]? = some r → w.cell? ⟨b, o + i * 3, none⟩ = some (.int .i64 r.1) ∧ w.cell? ⟨b, o + i * 3 + 1, none⟩ = some (.int .i64 r.2.1) ∧ w.cell? ⟨b, o + i * 3 + 2, none⟩ = some (.int .i64 r.2.2) := by
  obtain ⟨a, c, hv, h1, h2, h3⟩ := h
  rcases h3 with h3 | ⟨b, o, rfl, hlt, hc⟩
  · exact absurd h3 hn
  · unfold maxLen at h2
    exact ⟨b, o, c, hv, hlt, by omega, fun i r hr => ⟨hc i r hr 0 _ rfl, hc i r hr 1 _ rfl, hc i r hr 2 _ rfl⟩⟩
theorem ArgS.one {w : World} {v : Value} {l : List Int} (h : ArgS 1 c1 w v l) (hn : l ≠ []) : ∃ b o c, v = .slice (some ⟨b, o, none⟩) l.length c ∧ b < w.heap.size ∧ l.length ≤ 9223372036854775807 ∧
    ∀ i r, l[i]? = some r → w.cell? ⟨b, o + i, none⟩ = some (.int .i64 r) := by
  obtain ⟨a, c, hv, h1, h2, h3⟩ := h
  rcases h3 with h3 | ⟨b, o, rfl, hlt, hc⟩
  · exact absurd h3 hn
  · unfold maxLen at h2
    refine ⟨b, o, c, hv, hlt, by omega, fun i r hr => ?_⟩
    have := hc i r hr 0 _ rfl
    simpa using this
theorem ArgS.one_at {w wr : World} {v : Value} {l : List Int} (h : ArgS 1 c1 w v l) (hb : Below w.heap.size w wr) (hn : l ≠ []) : ∃ b o c, v = .slice (some ⟨b, o, none⟩) l.length c ∧ b < w.heap.size ∧ l.length ≤ 9223372036854775807 ∧
    ∀ i r, l[i]? = some r → wr.cell? ⟨b, o + i, none⟩ = some (.int .i64 r) := by
  obtain ⟨b, o, c, hv, hlt, h1, hc⟩ := h.one hn
  exact ⟨b, o, c, hv, hlt, h1, fun i r hr => by rw [hb.cell (p := ⟨b, o + i, none⟩) hlt]; exact hc i r hr⟩
theorem ArgS.len {α : Type} {k : Nat} {cells : α → List Value} {w : World} {v : Value} {l : List α} (h : ArgS k cells w v l) : ∃ a c, v = .slice a l.length c ∧ l.length ≤ 9223372036854775807 := by
  obtain ⟨a, c, hv, h1, h2, _⟩ := h
  unfold maxLen at h2
  exact ⟨a, c, hv, by omega⟩
end Go.Proofs.Ytodcmmdobnjbbaa
