/-
  Memories as they lie in the heap: read, and a call's own. No program in sight.
-/
import Derived.Test.YtkhobelceghgfaaMemMath
import Derived.Test.YtkhobelceghgfaaHeap
import Derived.Test.YtkhobelceghgfaaBw
namespace Go.Proofs.Ytkhobelceghgfaa
open Go.RowKit
def intC (l : List Int) : List Value := l.map (Value.int .i64)
def entC : List (Int × Int) → List Value
  | [] => []
  | x :: l => .int .i64 x.1 :: .int .i64 x.2 :: entC l
theorem intC_len (l : List Int) : (intC l).length = l.length := by simp [intC]
theorem intC_one (l : List Int) : ∀ u ∈ intC l, u.oneCell' = true := by simp [intC, Value.oneCell']
theorem intC_at (l : List Int) (k : Nat) (hk : k < l.length) : (intC l)[k]? = some (.int .i64 l[k]) := by simp [intC, hk]
theorem entC_len (l : List (Int × Int)) : (entC l).length = l.length * 2 := by
  induction l with
  | nil => rfl
  | cons x l ih => simp only [entC, List.length_cons, ih]; omega
theorem entC_one (l : List (Int × Int)) : ∀ u ∈ entC l, u.oneCell' = true := by
  induction l with
  | nil => simp [entC]
  | cons x l ih =>
    intro u hu
    simp only [entC, List.mem_cons] at hu
    rcases hu with rfl | rfl | hu
    · rfl
    · rfl
    · exact ih u hu
theorem entC_app (l l' : List (Int × Int)) : entC (l ++ l') = entC l ++ entC l' := by
  induction l with
  | nil => rfl
  | cons x l ih => simp [entC, ih]
theorem entC_at (l : List (Int × Int)) : ∀ (k : Nat) (x : Int × Int), l[k]? = some x → (entC l)[k * 2]? = some (.int .i64 x.1) ∧ (entC l)[k * 2 + 1]? = some (.int .i64 x.2) := by
  induction l with
  | nil => intro k x h; simp at h
  | cons y l ih =>
    intro k x h
    cases k with
    | zero => simp at h; subst h; exact ⟨rfl, rfl⟩
    | succ k =>
      have := ih k x (by simpa using h)
      rw [show (k + 1) * 2 = k * 2 + 2 by omega]
      simpa [entC] using this
theorem entC_take (l : List (Int × Int)) : ∀ k, entC (l.take k) = (entC l).take (k * 2) := by
  induction l with
  | nil => intro k; simp [entC]
  | cons x l ih =>
    intro k
    cases k with
    | zero => rfl
    | succ k => rw [show (k + 1) * 2 = k * 2 + 1 + 1 by omega]; simp [entC, ih]
theorem entC_drop (l : List (Int × Int)) : ∀ k, entC (l.drop k) = (entC l).drop (k * 2) := by
  induction l with
  | nil => intro k; simp [entC]
  | cons x l ih =>
    intro k
    cases k with
    | zero => rfl
    | succ k => rw [show (k + 1) * 2 = k * 2 + 1 + 1 by omega]; simp [entC, ih]
theorem own_kept {w w' : World} {base e k n : Nat} {v : Value} {xs : List Value} (h : w.ownsRow base e k v n xs) (hg : ∀ g, v.ownBlock = some g → w'.heap[g]? = w.heap[g]?) : w'.ownsRow base e k v n xs := by
  refine ⟨h.1, ?_⟩
  rcases h.2 with h | ⟨g, cap, cur, rfl, hb, hgg, rest⟩
  · exact .inl h
  · exact .inr ⟨g, cap, cur, rfl, hb, by rw [hg g rfl]; exact hgg, rest⟩
theorem own_below {w w' : World} {base e k n : Nat} {v : Value} {xs : List Value} (h : w.ownsRow base e k v n xs) (hb : Below w.heap.size w w') : w'.ownsRow base e k v n xs :=
  own_kept h fun g hg => hb.block g (h.lt g hg).2
/-- The block of a row of the call's own. -/
theorem own_block {w : World} {base e k n : Nat} {v : Value} {xs : List Value} (h : w.ownsRow base e k v n xs) {g : Nat} (hg : v.ownBlock = some g) : ∃ cur, w.heap[g]? = some (.cells cur e (0, 0)) := by
  rcases h.2 with ⟨rfl, _⟩ | ⟨g', cap, cur, rfl, _, hgg, _⟩
  · simp [Value.ownBlock] at hg
  · simp [Value.ownBlock] at hg
    subst hg
    exact ⟨cur, hgg⟩
/-- Rows of unlike elements lie apart. -/
theorem own_apart {w : World} {base base' e e' k k' n n' : Nat} {v v' : Value} {xs xs' : List Value} (h : w.ownsRow base e k v n xs) (h' : w.ownsRow base' e' k' v' n' xs') (hne : e ≠ e') {g : Nat} (hg : v.ownBlock = some g) : v'.ownBlock ≠ some g := by
  intro hg'
  obtain ⟨c, hc⟩ := own_block h hg
  obtain ⟨c', hc'⟩ := own_block h' hg'
  rw [hc] at hc'
  injection hc' with e1
  injection e1 with _ e2
  exact hne e2
theorem own_not {w : World} {base e e' k n b : Nat} {v : Value} {xs : List Value} {cs : Array Value} (h : w.ownsRow base e k v n xs) (hb : w.heap[b]? = some (.cells cs e' (0, 0))) (hne : e ≠ e') : v.ownBlock ≠ some b := by
  intro hg
  obtain ⟨c, hc⟩ := own_block h hg
  rw [hb] at hc
  injection hc with e1
  injection e1 with _ e2
  exact hne e2.symm
theorem own_one {w : World} {base e k n : Nat} {v : Value} {xs : List Value} (h : w.ownsRow base e k v n xs) : v.oneCell' = true := by
  obtain ⟨a, c, rfl⟩ := own_shape h
  rfl
theorem own_some {w : World} {base e k n : Nat} {v : Value} {xs : List Value} (h : w.ownsRow base e k v n xs) (hn : 0 < n) : ∃ g c, v = .slice (some ⟨g, 0, none⟩) n c ∧ n ≤ c ∧ c ≤ maxLen := by
  rcases h.2 with ⟨_, h0⟩ | ⟨g, c, cur, hv, _, _, hc, hm, _⟩
  · omega
  · exact ⟨g, c, hv, hc, hm⟩
/-- The lists of stores, each behind its slice. -/
def RowsAt (w : World) (rows : List Value) (pend : List (List (Int × Int))) : Prop :=
  rows.length = pend.length ∧ ∀ (i : Nat) (r : Value) (l : List (Int × Int)), rows[i]? = some r → pend[i]? = some l → w.ownsRow 0 44 2 r l.length (entC l)
/-- A value that is a memory. -/
def IsMem (w : World) (v : Value) (m : Mem) : Prop := ∃ wv pv rv rows, v = .agg #[wv, pv, rv] ∧ w.ownsRow 0 3 1 wv m.words.length (intC m.words) ∧ w.ownsRow 0 42 1 pv m.pend.length rows ∧ w.ownsRow 0 3 1 rv m.res.length (intC m.res) ∧ RowsAt w rows m.pend
theorem RowsAt.below {w w' : World} {rows : List Value} {pend : List (List (Int × Int))} (h : RowsAt w rows pend) (hb : Below w.heap.size w w') : RowsAt w' rows pend := ⟨h.1, fun i r l hr hl => own_below (h.2 i r l hr hl) hb⟩
theorem IsMem.below {w w' : World} {v : Value} {m : Mem} (h : IsMem w v m) (hb : Below w.heap.size w w') : IsMem w' v m := by
  obtain ⟨wv, pv, rv, rows, rfl, h1, h2, h3, h4⟩ := h
  exact ⟨wv, pv, rv, rows, rfl, own_below h1 hb, own_below h2 hb, own_below h3 hb, h4.below hb⟩
theorem isMem_no (w : World) : IsMem w (.agg #[.slice none 0 0, .slice none 0 0, .slice none 0 0]) noMem :=
  ⟨_, _, _, [], rfl, World.ownsRow_nil _ _ _ _, World.ownsRow_nil _ _ _ _, World.ownsRow_nil _ _ _ _, rfl, fun i r l hr _ => by simp at hr⟩
/-- A memory of the call's own, behind a pointer. -/
structure OwnMem (w : World) (B p T : Nat) (m : Mem) (wv pv rv : Value) (rows : List Value) : Prop where
  at_ : w.heap[p]? = some (.cells #[wv, pv, rv] T (0, 0))
  base : B ≤ p
  words : w.ownsRow B 3 1 wv m.words.length (intC m.words)
  pend : w.ownsRow B 42 1 pv m.pend.length rows
  res : w.ownsRow B 3 1 rv m.res.length (intC m.res)
  len : rows.length = m.pend.length
  each : ∀ (i : Nat) (r : Value) (l : List (Int × Int)), rows[i]? = some r → m.pend[i]? = some l → w.ownsRow B 44 2 r l.length (entC l)
  apart : ∀ g, wv.ownBlock = some g → rv.ownBlock ≠ some g
  rowsApart : ∀ (i j : Nat) (r s : Value) (g : Nat), rows[i]? = some r → rows[j]? = some s → i ≠ j → r.ownBlock = some g → s.ownBlock ≠ some g
section
variable {w w' : World} {B p T : Nat} {m : Mem} {wv pv rv : Value} {rows : List Value}
theorem OwnMem.row (h : OwnMem w B p T m wv pv rv rows) {i : Nat} (hi : i < m.pend.length) : ∃ r, rows[i]? = some r ∧ w.ownsRow B 44 2 r m.pend[i].length (entC m.pend[i]) := by
  have hl := h.len
  refine ⟨rows[i], by simp, ?_⟩
  exact h.each i _ _ (by simp) (by simp [hi])
theorem OwnMem.rowOf (h : OwnMem w B p T m wv pv rv rows) {i : Nat} {r : Value} (hr : rows[i]? = some r) : ∃ l, m.pend[i]? = some l ∧ w.ownsRow B 44 2 r l.length (entC l) := by
  have hl := h.len
  have hi := (List.getElem?_eq_some_iff.1 hr).1
  have hi' : i < m.pend.length := by omega
  exact ⟨m.pend[i], by simp [hi'], h.each i r _ hr (by simp [hi'])⟩
theorem OwnMem.kept (h : OwnMem w B p T m wv pv rv rows) (hg : ∀ b, b < w.heap.size → w'.heap[b]? = w.heap[b]?) : OwnMem w' B p T m wv pv rv rows where
  at_ := by rw [hg p (lt_in h.at_)]; exact h.at_
  base := h.base
  words := own_kept h.words fun g e => hg g (h.words.lt g e).2
  pend := own_kept h.pend fun g e => hg g (h.pend.lt g e).2
  res := own_kept h.res fun g e => hg g (h.res.lt g e).2
  len := h.len
  each := fun i r l hr hl => own_kept (h.each i r l hr hl) fun g e => hg g ((h.each i r l hr hl).lt g e).2
  apart := h.apart
  rowsApart := h.rowsApart
theorem OwnMem.below (h : OwnMem w B p T m wv pv rv rows) (hb : Below w.heap.size w w') : OwnMem w' B p T m wv pv rv rows := h.kept fun b hlt => hb.block b hlt
theorem own_zero {w : World} {base e k n : Nat} {v : Value} {xs : List Value} (h : w.ownsRow base e k v n xs) : w.ownsRow 0 e k v n xs := own_base h (Nat.zero_le _)
theorem OwnMem.isMem (h : OwnMem w B p T m wv pv rv rows) : IsMem w (.agg #[wv, pv, rv]) m :=
  ⟨wv, pv, rv, rows, rfl, own_zero h.words, own_zero h.pend, own_zero h.res, h.len, fun i r l hr hl => own_zero (h.each i r l hr hl)⟩
/-- The same memory, behind another pointer. -/
theorem OwnMem.move (h : OwnMem w B p T m wv pv rv rows) {p' T' : Nat} (h1 : w'.heap[p']? = some (.cells #[wv, pv, rv] T' (0, 0))) (hB : B ≤ p') (hb : Below w.heap.size w w') : OwnMem w' B p' T' m wv pv rv rows :=
  let k := h.below hb
  ⟨h1, hB, k.words, k.pend, k.res, k.len, k.each, k.apart, k.rowsApart⟩
theorem heap_set {w : World} {b g o : Nat} {u : Value} (h : g ≠ b) : (w.setCell ⟨b, o, none⟩ u).heap[g]? = w.heap[g]? := Below.heap_setCell w _ u g h
/-- A word is stored. -/
theorem OwnMem.setWord (h : OwnMem w B p T m wv pv rv rows) (hT : T ≠ 3) {g n c : Nat} (hv : wv = .slice (some ⟨g, 0, none⟩) n c) (k : Nat) (x : Int) : OwnMem (w.setCell ⟨g, k, none⟩ (.int .i64 x)) B p T ⟨m.words.set k x, m.pend, m.res⟩ wv pv rv rows := by
  have hg : wv.ownBlock = some g := by rw [hv]; rfl
  have e1 : p ≠ g := fun e => own_not h.words h.at_ (Ne.symm hT) (by rw [e]; exact hg)
  refine ⟨by rw [heap_set e1]; exact h.at_, h.base, ?_, ?_, ?_, h.len, ?_, h.apart, h.rowsApart⟩
  · have hw := h.words
    rw [hv] at hw ⊢
    obtain ⟨_, hn, _⟩ := own_shape hw
    have := (World.ownsRow.stored (n := m.words.length) (by obtain ⟨a, c', e⟩ := own_shape hw; injection e with e1 e2 e3; subst e1 e2 e3; exact hw) k (.int .i64 x)).1
    obtain ⟨a, c', e⟩ := own_shape hw
    injection e with e1 e2 e3
    subst e1 e2 e3
    simp only [List.length_set]
    rw [show intC (m.words.set k x) = (intC m.words).set k (.int .i64 x) by simp [intC, List.map_set]]
    exact this
  · refine own_kept h.pend fun g' e => heap_set (fun e' => ?_)
    subst e'
    exact own_apart h.pend h.words (by decide) e hg
  · refine own_kept h.res fun g' e => heap_set (fun e' => ?_)
    subst e'
    exact h.apart g' hg e
  · intro i r l hr hl
    refine own_kept (h.each i r l hr hl) fun g' e => heap_set (fun e' => ?_)
    subst e'
    exact own_apart (h.each i r l hr hl) h.words (by decide) e hg
/-- A reservation is stored. -/
theorem OwnMem.setResv (h : OwnMem w B p T m wv pv rv rows) (hT : T ≠ 3) {g n c : Nat} (hv : rv = .slice (some ⟨g, 0, none⟩) n c) (k : Nat) (x : Int) : OwnMem (w.setCell ⟨g, k, none⟩ (.int .i64 x)) B p T ⟨m.words, m.pend, m.res.set k x⟩ wv pv rv rows := by
  have hg : rv.ownBlock = some g := by rw [hv]; rfl
  have e1 : p ≠ g := fun e => own_not h.res h.at_ (Ne.symm hT) (by rw [e]; exact hg)
  refine ⟨by rw [heap_set e1]; exact h.at_, h.base, ?_, ?_, ?_, h.len, ?_, h.apart, h.rowsApart⟩
  · refine own_kept h.words fun g' e => heap_set (fun e' => ?_)
    subst e'
    exact h.apart g' e hg
  · refine own_kept h.pend fun g' e => heap_set (fun e' => ?_)
    subst e'
    exact own_apart h.pend h.res (by decide) e hg
  · have hw := h.res
    rw [hv] at hw ⊢
    obtain ⟨a, c', e⟩ := own_shape hw
    injection e with e1 e2 e3
    subst e1 e2 e3
    have := (World.ownsRow.stored (n := m.res.length) hw k (.int .i64 x)).1
    simp only [List.length_set]
    rw [show intC (m.res.set k x) = (intC m.res).set k (.int .i64 x) by simp [intC, List.map_set]]
    exact this
  · intro i r l hr hl
    refine own_kept (h.each i r l hr hl) fun g' e => heap_set (fun e' => ?_)
    subst e'
    exact own_apart (h.each i r l hr hl) h.res (by decide) e hg
/-- Another list has come to its row's own block, and is stored. -/
theorem OwnMem.setRow (h : OwnMem w B p T m wv pv rv rows) (hT : T ≠ 44) (hT' : T ≠ 42) {i b : Nat} {r r' : Value} {l' : List (Int × Int)} (hr : rows[i]? = some r) (hb : r.ownBlock = some b)
    (hk : ∀ g, g < w.heap.size → g ≠ b → w'.heap[g]? = w.heap[g]?) (hr' : r'.ownBlock = some b) (ho : w'.ownsRow B 44 2 r' l'.length (entC l')) {g n c : Nat} (hv : pv = .slice (some ⟨g, 0, none⟩) n c) :
    OwnMem (w'.setCell ⟨g, i, none⟩ r') B p T ⟨m.words, m.pend.set i l', m.res⟩ wv pv rv (rows.set i r') := by
  have hg : pv.ownBlock = some g := by rw [hv]; rfl
  obtain ⟨l0, hl0, hrow⟩ := h.rowOf hr
  have hil := (List.getElem?_eq_some_iff.1 hr).1
  have hgl := (h.pend.lt g hg).2
  have hbg : g ≠ b := fun e => own_apart h.pend hrow (by decide) hg (by rw [e]; exact hb)
  have e1 : p ≠ g := fun e => own_not h.pend h.at_ (Ne.symm hT') (by rw [e]; exact hg)
  have e2 : p ≠ b := fun e => own_not hrow h.at_ (Ne.symm hT) (by rw [e]; exact hb)
  refine ⟨?_, h.base, ?_, ?_, ?_, by simp [h.len], ?_, h.apart, ?_⟩
  · rw [heap_set e1, hk p (lt_in h.at_) e2]; exact h.at_
  · refine own_kept h.words fun g' e => ?_
    have n1 : g' ≠ g := fun e' => own_apart h.words h.pend (by decide) e (by rw [e']; exact hg)
    have n2 : g' ≠ b := fun e' => own_apart h.words hrow (by decide) e (by rw [e']; exact hb)
    rw [heap_set n1, hk g' (h.words.lt g' e).2 n2]
  · have hw : w'.ownsRow B 42 1 pv m.pend.length rows := own_kept h.pend fun g' e => by
      rw [hg] at e; injection e with e; subst e
      exact hk g hgl hbg
    rw [hv] at hw ⊢
    obtain ⟨a, c', e⟩ := own_shape hw
    injection e with e1 e2 e3
    subst e1 e2 e3
    have := (World.ownsRow.stored (n := m.pend.length) hw i r').1
    simp only [List.length_set]
    exact this
  · refine own_kept h.res fun g' e => ?_
    have n1 : g' ≠ g := fun e' => own_apart h.res h.pend (by decide) e (by rw [e']; exact hg)
    have n2 : g' ≠ b := fun e' => own_apart h.res hrow (by decide) e (by rw [e']; exact hb)
    rw [heap_set n1, hk g' (h.res.lt g' e).2 n2]
  · intro j s l hs hl
    by_cases hj : i = j
    · subst hj
      simp only [List.getElem?_set_self hil] at hs
      have hil' : i < m.pend.length := by rw [← h.len]; exact hil
      simp only [List.getElem?_set_self hil'] at hl
      injection hs with hs; injection hl with hl
      subst hs hl
      refine own_kept ho fun g' e => heap_set (fun e' => ?_)
      subst e'
      rw [hr'] at e
      injection e with e
      exact hbg e.symm
    · simp only [List.getElem?_set_ne hj] at hs hl
      have hj' := h.each j s l hs hl
      refine own_kept hj' fun g' e => ?_
      have n1 : g' ≠ g := fun e' => own_apart hj' h.pend (by decide) e (by rw [e']; exact hg)
      have n2 : g' ≠ b := fun e' => h.rowsApart i j r s b hr hs hj hb (by rw [← e']; exact e)
      rw [heap_set n1, hk g' (hj'.lt g' e).2 n2]
  · intro j k s t g' hs ht hjk hsg
    by_cases h1 : i = j
    · subst h1
      rw [List.getElem?_set_self hil] at hs
      injection hs with hs; subst hs
      rw [List.getElem?_set_ne hjk] at ht
      rw [hr'] at hsg; injection hsg with hsg; subst hsg
      exact h.rowsApart i k r t b hr ht hjk hb
    · rw [List.getElem?_set_ne h1] at hs
      by_cases h2 : i = k
      · subst h2
        rw [List.getElem?_set_self hil] at ht
        injection ht with ht; subst ht
        rw [hr']
        intro e; injection e with e; subst e
        exact h.rowsApart j i s r b hs hr (Ne.symm h1) hsg hb
      · rw [List.getElem?_set_ne h2] at ht
        exact h.rowsApart j k s t g' hs ht hjk hsg
/-- One more list. -/
theorem OwnMem.push {w1 w2 : World} (h : OwnMem w B p T m wv pv rv rows) (hT : T ≠ 42) (hT1 : T ≠ 3) (hT2 : T ≠ 44) {r pv' : Value} {l : List (Int × Int)} (hb : Below w.heap.size w w1) (hr : w1.ownsRow w.heap.size 44 2 r l.length (entC l))
    (hp : w2.ownsRow B 42 1 pv' (m.pend.length + 1) (rows ++ [r])) (hg : w1.grownBy w2 pv.ownBlock) (hB : B ≤ w.heap.size) :
    OwnMem (w2.setCell ⟨p, 1, none⟩ pv') B p T ⟨m.words, m.pend ++ [l], m.res⟩ wv pv' rv (rows ++ [r]) := by
  have k := h.below hb
  have old : ∀ g, g < w1.heap.size → pv.ownBlock ≠ some g → w2.heap[g]? = w1.heap[g]? := fun g hg' hne => hg.block g hg' (fun e => hne e.symm)
  have np : pv.ownBlock ≠ some p := own_not k.pend k.at_ (Ne.symm hT)
  have hat : w2.heap[p]? = some (.cells #[wv, pv, rv] T (0, 0)) := by rw [old p (lt_in k.at_) np]; exact k.at_
  have nb : ∀ {e kk n : Nat} {v : Value} {xs : List Value}, w1.ownsRow B e kk v n xs → e ≠ 42 → e ≠ T → (w2.setCell ⟨p, 1, none⟩ pv').ownsRow B e kk v n xs := fun ho hne hne2 =>
    own_kept ho fun g e => by
      have hgp : g ≠ p := fun e' => own_not ho k.at_ hne2 (by rw [← e']; exact e)
      rw [heap_set hgp, old g (ho.lt g e).2 (fun e' => own_apart ho k.pend hne e e')]
  have np' : pv'.ownBlock ≠ some p := own_not hp hat (Ne.symm hT)
  have lr : rows.length = m.pend.length := h.len
  refine ⟨?_, h.base, nb k.words (by decide) (Ne.symm hT1), ?_, nb k.res (by decide) (Ne.symm hT1), by simp [lr], ?_, h.apart, ?_⟩
  · have := set_in hat 1 pv'
    simpa using this
  · simp only [List.length_append, List.length_cons, List.length_nil]
    exact own_kept hp fun g e => heap_set (fun e' => np' (by rw [← e']; exact e))
  · intro i s l' hs hl
    by_cases hi : i < rows.length
    · rw [List.getElem?_append_left hi] at hs
      rw [List.getElem?_append_left (by omega)] at hl
      exact nb (k.each i s l' hs hl) (by decide) (Ne.symm hT2)
    · have hi2 := (List.getElem?_eq_some_iff.1 hs).1
      have : i = rows.length := by simp at hi2; omega
      subst this
      simp at hs
      rw [lr] at hl
      simp at hl
      subst hs hl
      exact nb (own_base hr hB) (by decide) (Ne.symm hT2)
  · intro i j s t g hs ht hij hsg
    by_cases hi : i < rows.length
    · rw [List.getElem?_append_left hi] at hs
      by_cases hj : j < rows.length
      · rw [List.getElem?_append_left hj] at ht
        exact h.rowsApart i j s t g hs ht hij hsg
      · have hj2 := (List.getElem?_eq_some_iff.1 ht).1
        have : j = rows.length := by simp at hj2; omega
        subst this
        simp at ht
        subst ht
        intro e
        have h1 := (hr.lt g e).1
        obtain ⟨l1, _, ho⟩ := h.rowOf hs
        have h2 := (ho.lt g hsg).2
        omega
    · have hi2 := (List.getElem?_eq_some_iff.1 hs).1
      have : i = rows.length := by simp at hi2; omega
      subst this
      simp at hs
      subst hs
      have hj2 := (List.getElem?_eq_some_iff.1 ht).1
      have hj : j < rows.length := by simp at hj2; omega
      rw [List.getElem?_append_left hj] at ht
      intro e
      have h1 := (hr.lt g hsg).1
      obtain ⟨l1, _, ho⟩ := h.rowOf ht
      have h2 := (ho.lt g e).2
      omega
/-- A list with one more store: all is read. -/
theorem OwnMem.stored {w1 : World} (h : OwnMem w B p T m wv pv rv rows) (hT : T ≠ 44) (hT' : T ≠ 42) {i : Nat} {r r' : Value} {l' : List (Int × Int)} (hr : rows[i]? = some r)
    (hg : w.grownBy w1 r.ownBlock) (ho : w1.ownsRow B 44 2 r' l'.length (entC l')) {g n c : Nat} (hv : pv = .slice (some ⟨g, 0, none⟩) n c) :
    (w1.setCell ⟨g, i, none⟩ r').heap[p]? = some (.cells #[wv, pv, rv] T (0, 0)) ∧ IsMem (w1.setCell ⟨g, i, none⟩ r') (.agg #[wv, pv, rv]) ⟨m.words, m.pend.set i l', m.res⟩ := by
  have hgb : pv.ownBlock = some g := by rw [hv]; rfl
  obtain ⟨l0, hl0, hrow⟩ := h.rowOf hr
  have hil := (List.getElem?_eq_some_iff.1 hr).1
  have hil' : i < m.pend.length := by rw [← h.len]; exact hil
  have old : ∀ b, b < w.heap.size → r.ownBlock ≠ some b → w1.heap[b]? = w.heap[b]? := fun b hb hne => hg.block b hb (fun e => hne e.symm)
  have np : r.ownBlock ≠ some p := own_not hrow h.at_ (Ne.symm hT)
  have ng : r.ownBlock ≠ some g := fun e => own_apart h.pend hrow (by decide) hgb e
  have e1 : p ≠ g := fun e => own_not h.pend h.at_ (Ne.symm hT') (by rw [e]; exact hgb)
  have kw : (w1.setCell ⟨g, i, none⟩ r').ownsRow B 3 1 wv m.words.length (intC m.words) := own_kept h.words fun b e => by
    rw [heap_set (fun e' => own_apart h.words h.pend (by decide) e (by rw [e']; exact hgb)), old b (h.words.lt b e).2 (fun e' => own_apart h.words hrow (by decide) e e')]
  have kr : (w1.setCell ⟨g, i, none⟩ r').ownsRow B 3 1 rv m.res.length (intC m.res) := own_kept h.res fun b e => by
    rw [heap_set (fun e' => own_apart h.res h.pend (by decide) e (by rw [e']; exact hgb)), old b (h.res.lt b e).2 (fun e' => own_apart h.res hrow (by decide) e e')]
  have kp : (w1.setCell ⟨g, i, none⟩ r').ownsRow B 42 1 pv (m.pend.set i l').length (rows.set i r') := by
    have hw : w1.ownsRow B 42 1 pv m.pend.length rows := own_kept h.pend fun g' e => by
      rw [hgb] at e; injection e with e; subst e
      exact old g (h.pend.lt g hgb).2 ng
    rw [hv] at hw ⊢
    obtain ⟨a, c', e⟩ := own_shape hw
    injection e with e1 e2 e3
    subst e1 e2 e3
    have := (World.ownsRow.stored (n := m.pend.length) hw i r').1
    simp only [List.length_set]
    exact this
  have ke : ∀ (j : Nat) (s : Value) (l : List (Int × Int)), (rows.set i r')[j]? = some s → (m.pend.set i l')[j]? = some l → (w1.setCell ⟨g, i, none⟩ r').ownsRow B 44 2 s l.length (entC l) := by
    intro j s l hs hl
    by_cases hj : i = j
    · subst hj
      simp only [List.getElem?_set_self hil] at hs
      simp only [List.getElem?_set_self hil'] at hl
      injection hs with hs; injection hl with hl
      subst hs hl
      refine own_kept ho fun g' e => heap_set (fun e' => ?_)
      subst e'
      have hpg := own_block kp (g := g') (by rw [hv]; rfl)
      obtain ⟨c1, hc1⟩ := hpg
      obtain ⟨c2, hc2⟩ := own_block ho e
      have : (w1.setCell ⟨g', i, none⟩ r').heap[g']? = some (.cells (c2.setIfInBounds i r') 44 (0, 0)) := set_in hc2 i r'
      rw [hc1] at this
      injection this with e1
      injection e1 with _ e2
      exact absurd e2 (by decide)
    · simp only [List.getElem?_set_ne hj] at hs hl
      have hj' := h.each j s l hs hl
      refine own_kept hj' fun g' e => ?_
      rw [heap_set (fun e' => own_apart hj' h.pend (by decide) e (by rw [e']; exact hgb)), old g' (hj'.lt g' e).2 (fun e' => h.rowsApart j i s r g' hs hr (Ne.symm hj) e e')]
  refine ⟨?_, wv, pv, rv, rows.set i r', rfl, own_zero kw, own_zero kp, own_zero kr, by simp [h.len], fun j s l hs hl => own_zero (ke j s l hs hl)⟩
  rw [heap_set e1, old p (lt_in h.at_) np]; exact h.at_
/-- A variable of another type is stored into. -/
theorem IsMem.setVar {b j : Nat} {u v : Value} {cs : Array Value} (h : IsMem w v m) (hb : w.heap[b]? = some (.cells cs T (0, 0))) (hT : T ≠ 3) (hT1 : T ≠ 44) (hT2 : T ≠ 42) : IsMem (w.setCell ⟨b, j, none⟩ u) v m := by
  obtain ⟨wv, pv, rv, rows, rfl, h1, h2, h3, h4, h5⟩ := h
  exact ⟨wv, pv, rv, rows, rfl, own_kept h1 fun g e => heap_set (fun e' => own_not h1 hb (Ne.symm hT) (by rw [← e']; exact e)), own_kept h2 fun g e => heap_set (fun e' => own_not h2 hb (Ne.symm hT2) (by rw [← e']; exact e)),
    own_kept h3 fun g e => heap_set (fun e' => own_not h3 hb (Ne.symm hT) (by rw [← e']; exact e)), h4, fun i r l hr hl => own_kept (h5 i r l hr hl) fun g e => heap_set (fun e' => own_not (h5 i r l hr hl) hb (Ne.symm hT1) (by rw [← e']; exact e))⟩
end
end Go.Proofs.Ytkhobelceghgfaa
