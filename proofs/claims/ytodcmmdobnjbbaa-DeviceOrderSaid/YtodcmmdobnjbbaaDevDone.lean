/-
  The contracts of told, enabled, raises and done.
-/
import Derived.Test.YtodcmmdobnjbbaaDevMeth
namespace Go.Proofs.Ytodcmmdobnjbbaa
open Go.RowKit
/-- whether the interrupt may be raised -/
def en (s : St) : Bool := bits .and .i64 s.r2 1 != 0
theorem cells8o {w : World} {b : Nat} {t : TypeId} {s : St} {qv : Value} (h : w.heap[b]? = some (.cells (stC s qv) t (0, 0))) :
    w.heap[b]? = some (.cells #[.int .i64 s.k, .int .i64 s.r0, .int .i64 s.r1, .int .i64 s.r2, .int .i64 s.r3, qv, .int .i64 s.sent, .bool s.ra] t (0, 0)) := h

theorem told_any (b : Nat) (T : TypeId) (c0 c1 c2 c3 c4 : Int) (qa : Option Addr) (qn qc : Nat) (c6 : Int) (c7 : Bool) (w : World)
    (h : w.heap[b]? = some (.cells #[.int .i64 c0, .int .i64 c1, .int .i64 c2, .int .i64 c3, .int .i64 c4, .slice qa qn qc, .int .i64 c6, .bool c7] T (0, 0))) :
    Calls Try.prog 49 #[.pointer (some ⟨b, 0, none⟩)] w fun e w' => e = .returned (.agg #[.int .i64 c0, .int .i64 c1, .int .i64 c2, .int .i64 c3, .int .i64 c4, .slice qa qn qc, .int .i64 c6, .bool c7]) ∧ Below w.heap.size w w' := by
  have hlt := lt_in h
  obtain ⟨g0, g1, g2, g3, g4, g5, g6, g7, f0, f1, f2, f3, f4, f5, f6, f7⟩ := cells8 h
  clear h
  go_enter Try.func49, Try.ntmps49
  go_wp2
  exact bodyPost_ret (v := .agg #[.int .i64 c0, .int .i64 c1, .int .i64 c2, .int .i64 c3, .int .i64 c4, .slice qa qn qc, .int .i64 c6, .bool c7]) (by simp [results, Try.results49, go_sem]) rfl ⟨rfl, (Below.refl _ _).alloc (Nat.le_refl _) _⟩

theorem enabled_any (b : Nat) (r2 : Int) (w : World) (h : w.cell? ⟨b, 3, none⟩ = some (.int .i64 r2)) :
    Calls Try.prog 45 #[.pointer (some ⟨b, 0, none⟩)] w fun e w' => e = .returned (.bool (bits .and .i64 r2 1 != 0)) ∧ w = w' := by
  go_enter Try.func45, Try.ntmps45
  go_wp2
  go_ret
  exact ⟨ret1 (rbool rfl), rfl⟩

theorem raises_timer (b : Nat) (ra : Bool) (w : World) (h : w.cell? ⟨b, 7, none⟩ = some (.bool ra)) :
    Calls Try.prog 53 #[.pointer (some ⟨b, 0, none⟩)] w fun e w' => e = .returned (.bool ra) ∧ w = w' := by
  go_enter Try.func53, Try.ntmps53
  go_wp2
  go_ret
  exact ⟨ret1 (rbool rfl), rfl⟩
theorem raises_gpio (b : Nat) (r3 : Int) (w : World) (h : w.cell? ⟨b, 4, none⟩ = some (.int .i64 r3)) :
    Calls Try.prog 57 #[.pointer (some ⟨b, 0, none⟩)] w fun e w' => e = .returned (.bool (r3 != 0)) ∧ w = w' := by
  go_enter Try.func57, Try.ntmps57
  go_wp2
  go_ret
  exact ⟨ret1 (rbool rfl), rfl⟩
theorem raises_uart (b : Nat) (r2 : Int) (a : Option Addr) (n c : Nat) (w : World) (h : w.cell? ⟨b, 3, none⟩ = some (.int .i64 r2)) (hq : w.cell? ⟨b, 5, none⟩ = some (.slice a n c)) :
    Calls Try.prog 47 #[.pointer (some ⟨b, 0, none⟩)] w fun e w' => e = .returned (.bool (decide (0 < n) && (bits .and .i64 r2 1 != 0))) ∧ w = w' := by
  by_cases hn : 0 < n
  · go_enter Try.func47, Try.ntmps47
    go_wp2_with (go_at_call 45; refine (enabled_any _ r2 _ h).mono ?_; rintro e w' ⟨rfl, rfl⟩)
    go_ret
    exact ⟨ret1 (rbool (by simp [hn])), rfl⟩
  · go_enter Try.func47, Try.ntmps47
    go_wp2_with (go_at_call 45; refine (enabled_any _ r2 _ h).mono ?_; rintro e w' ⟨rfl, rfl⟩)
    go_ret
    exact ⟨ret1 (rbool (by simp [hn])), rfl⟩

/-- The slice lies from block B on (or is nil). -/
def FreshV (B : Nat) (v : Value) : Prop := ∀ a n c, v = .slice (some a) n c → B ≤ a.block
theorem fresh_own {w : World} {B e k n : Nat} {v : Value} {xs : List Value} (h : w.ownsRow B e k v n xs) : FreshV B v := by
  intro a m c hv
  rcases h.2 with ⟨rfl, _⟩ | ⟨g, c', cur, rfl, hg, _⟩
  · cases hv
  · cases hv; exact hg
def After (B : Nat) (T : TypeId) (w : World) (b : Nat) (s : St) : Prop := ∃ qv, w.heap[b]? = some (.cells (stC s qv) T (0, 0)) ∧ Reads w 1 s.q.length qv (qL s) ∧ FreshV B qv
def IsStF (B : Nat) (w : World) (v : Value) (s : St) : Prop := ∃ qv, v = .agg (stC s qv) ∧ Reads w 1 s.q.length qv (qL s) ∧ FreshV B qv
theorem IsStF.st {B : Nat} {w : World} {v : Value} {s : St} (h : IsStF B w v s) : IsSt w v s := by
  obtain ⟨qv, hv, hr, _⟩ := h; exact ⟨qv, hv, hr⟩
/-- A fresh state is read still, when only a block below B is written. -/
theorem IsStF.set {B b o : Nat} {w : World} {v u : Value} {s : St} (h : IsStF B w v s) (hb : b < B) : IsStF B (w.setCell ⟨b, o, none⟩ u) v s := by
  obtain ⟨qv, hv, hr, hf⟩ := h
  refine ⟨qv, hv, ⟨hr.1, hr.2.1, ?_⟩, hf⟩
  rcases hr.2.2 with h' | ⟨g, o', c, rfl, hlt, hc, hm, hcell⟩
  · exact .inl h'
  · have := hf _ _ _ rfl
    refine .inr ⟨g, o', c, rfl, by rw [size_set]; exact hlt, hc, hm, fun j u' hj => ?_⟩
    rw [cell_set_ne (by simp only at this; omega)]; exact hcell j u' hj
theorem Works.after {B : Nat} {T : TypeId} {w : World} {b : Nat} {s : St} (h : Works B T w b s) : After B T w b s := by
  obtain ⟨qv, hb, _, hown, _⟩ := h; exact ⟨qv, hb, Reads.own hown (one_qL s), fresh_own hown⟩

def raisesS (s : St) : Bool := if s.k = 1 then (decide (0 < s.q.length) && en s) else if s.k = 2 then s.ra else s.r3 != 0
def doneS (s : St) : St := { s with ra := raisesS s }
theorem st_close {w W : World} {B F : Nat} {v : Value} {s s' : St} {qv : Value} (hr : Reads w 1 s.q.length qv (qL s)) (hf : FreshV F qv) (hq : s'.q = s.q) (hv : v = .agg (stC s' qv)) (hB : Below w.heap.size w W) (hB' : Below B w W) :
    ∃ v', Ending.returned v = .returned v' ∧ IsStF F W v' s' ∧ Below B w W := by
  refine ⟨v, rfl, ⟨qv, hv, ?_, hf⟩, hB'⟩
  unfold qL at *
  rw [hq]; exact hr.below hB

/-- What a register tells, the device behind a read, behind a write, behind an input. -/
def readN (s : St) (reg : Int) : Int :=
  if s.k = 1 then (if reg = 0 then s.q.headD (-1) else if reg = 1 then (if s.q.length = 0 then 2 else 3) else if reg = 3 then s.sent else s.r2)
  else if s.k = 2 then (if reg = 0 then s.r0 else if reg = 1 then s.r1 else if reg = 2 then s.r2 else flag s.ra)
  else (if reg = 0 then s.r0 else if reg = 1 then s.r1 else if reg = 2 then s.r2 else s.r3)
def readS (s : St) (reg : Int) : St := if s.k = 1 ∧ reg = 0 then { s with q := s.q.tail } else s
def writeS (s : St) (reg n : Int) : St :=
  if s.k = 1 then (if reg = 0 then { s with sent := bits .and .i64 (s.sent + 1) 2147483647 } else if reg = 2 then { s with r2 := n } else s)
  else if s.k = 2 then (if reg = 1 then { s with r1 := n } else if reg = 2 then { s with r2 := n } else if reg = 3 then { s with ra := false } else s)
  else (if reg = 0 then { s with r0 := n } else if reg = 2 then { s with r2 := n } else if reg = 3 then { s with r3 := bits .andNot .i64 s.r3 n } else s)
def inputS (s : St) (n : Int) : St :=
  if s.k = 1 then (if s.q.length < 16 then { s with q := s.q ++ [bits .and .i64 n 255] } else s)
  else if s.k = 2 then { s with r0 := wrap32 (s.r0 + 1), ra := s.ra || ((wrap32 (s.r0 + 1) == s.r1) && en s) }
  else { s with r3 := bits .or .i64 s.r3 (bits .and .i64 (bits .xor .i64 n s.r1) s.r2), r1 := n }
theorem reg4 {reg : Int} (h : 0 ≤ reg ∧ reg < 4) : reg = 0 ∨ reg = 1 ∨ reg = 2 ∨ reg = 3 := by omega
theorem after_mk {B : Nat} {T : TypeId} {w : World} {b : Nat} {s : St} {qv : Value} (h : w.heap[b]? = some (.cells (stC s qv) T (0, 0))) (hr : Reads w 1 s.q.length qv (qL s)) (hf : FreshV B qv) : After B T w b s := ⟨qv, h, hr, hf⟩
theorem grown_set (w : World) (b o : Nat) (u : Value) : w.grownBy (w.setCell ⟨b, o, none⟩ u) (some b) :=
  ⟨rfl, rfl, rfl, by rw [size_set]; exact Nat.le_refl _, fun k _ hne => Below.heap_setCell w _ u k (fun e => hne (by rw [e]))⟩
theorem own_set {w : World} {base e k n : Nat} {v : Value} {xs : List Value} {b : Nat} (h : w.ownsRow base e k v n xs) (hne : v.ownBlock ≠ some b) (o : Nat) (u : Value) : (w.setCell ⟨b, o, none⟩ u).ownsRow base e k v n xs :=
  h.kept (grown_set w b o u) (.inr hne)
theorem works_set {B : Nat} {T : TypeId} {w : World} {b : Nat} {s s' : St} {qv : Value} (hb : w.heap[b]? = some (.cells (stC s qv) T (0, 0))) (hown : w.ownsRow B 3 1 qv s.q.length (qL s)) (hne : qv.ownBlock ≠ some b) (o : Nat) (u : Value)
    (hq : s'.q = s.q) (hc : (stC s qv).setIfInBounds o u = stC s' qv) : After B T (w.setCell ⟨b, o, none⟩ u) b s' := by
  refine ⟨qv, by rw [set_in hb, hc], ?_, fresh_own hown⟩
  have h1 := Reads.own (own_set hown hne o u) (one_qL s)
  unfold qL at *
  rw [hq]; exact h1
theorem Reads.drew {w : World} {k n : Nat} {v : Value} {xs : List Value} (h : Reads w k n v xs) : Reads w.drew k n v xs := h.below ((Below.refl _ _).drew)
theorem After.drew {B : Nat} {T : TypeId} {w : World} {b : Nat} {s : St} (h : After B T w b s) : After B T w.drew b s := by
  obtain ⟨qv, hb, hr, hf⟩ := h; exact ⟨qv, hb, hr.drew, hf⟩
theorem own_ne_type {w : World} {base e k n b : Nat} {v : Value} {xs : List Value} {cs : Array Value} {T : TypeId} (h : w.ownsRow base e k v n xs) (hb : w.heap[b]? = some (.cells cs T (0, 0))) (ht : T ≠ e) : v.ownBlock ≠ some b := by
  rcases h.2 with ⟨rfl, _⟩ | ⟨g, c, cur, rfl, _, hg, _⟩
  · simp [Value.ownBlock]
  · intro hh
    have : g = b := by simpa [Value.ownBlock] using hh
    subst this
    rw [hb] at hg
    injection hg with hg
    injection hg with _ h2 _
    exact ht h2
theorem k_write (s : St) (reg n : Int) {k : Int} (h : s.k = k) : (writeS s reg n).k = k := by
  subst h; unfold writeS; repeat' (first | rfl | split)
theorem k_read (s : St) (reg : Int) {k : Int} (h : s.k = k) : (readS s reg).k = k := by
  subst h; unfold readS; repeat' (first | rfl | split)
theorem k_input (s : St) (n : Int) {k : Int} (h : s.k = k) : (inputS s n).k = k := by
  subst h; unfold inputS; repeat' (first | rfl | split)
theorem IsStF.mono {B B' : Nat} {w : World} {v : Value} {s : St} (hb : B' ≤ B) (h : IsStF B w v s) : IsStF B' w v s := by
  obtain ⟨qv, hv, hr, hf⟩ := h; exact ⟨qv, hv, hr, fun a n c e => Nat.le_trans hb (hf a n c e)⟩
theorem stf_set {B b o : Nat} {w : World} {v u : Value} {s : St} (hb : b < B) (h : IsStF B w v s) : IsStF B (w.setCell ⟨b, o, none⟩ u) v s := h.set hb
theorem After.set {B p o : Nat} {T : TypeId} {w : World} {b : Nat} {s : St} {u : Value} (h : After B T w b s) (hp : p < B) (hb : B ≤ b) : After B T (w.setCell ⟨p, o, none⟩ u) b s := by
  obtain ⟨qv, hh, hr, hf⟩ := h
  obtain ⟨qv', e, hr', _⟩ := IsStF.set (o := o) (u := u) (⟨qv, rfl, hr, hf⟩ : IsStF B w (.agg (stC s qv)) s) hp
  have : qv' = qv := by
    have h1 : (stC s qv)[5]? = (stC s qv')[5]? := by injection e with e; rw [e]
    simp [stC] at h1; exact h1.symm
  subst this
  exact ⟨qv', heap_set_ne (by omega) hh, hr', hf⟩
end Go.Proofs.Ytodcmmdobnjbbaa
