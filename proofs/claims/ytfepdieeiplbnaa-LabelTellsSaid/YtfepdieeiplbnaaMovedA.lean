/-
  Items appended to items; the words that Assemble tells, read; instructions ahead.
-/
import Derived.Test.YtfepdieeiplbnaaLabelShort
namespace Go.Proofs.Ytfepdieeiplbnaa
open Go.RowKit
set_option linter.unusedSimpArgs false
instance : Inhabited Ins := ⟨noI⟩
theorem flatI_append (l l' : List Itm) : flatI l ++ flatI l' = flatI (l ++ l') := by simp [flatI]
theorem flatI_one (l : List Itm) : ∀ u ∈ flatI l, u.oneCell' = true := by
  intro u hu
  obtain ⟨x, _, h⟩ := List.mem_flatMap.1 hu
  exact one8 x u h
theorem flatI_idx {l : List Itm} {j : Nat} {u : Value} (h : (flatI l)[j]? = some u) : ∃ i t, i < l.length ∧ t < 8 ∧ j = i * 8 + t ∧ (itC (it l i))[t]? = some u := by
  have hj : j < l.length * 8 := by rw [← flatI_len]; exact (List.getElem?_eq_some_iff.1 h).1
  refine ⟨j / 8, j % 8, by omega, by omega, by omega, ?_⟩
  have hlt : j % 8 < (itC (it l (j / 8))).length := by simp [itC]; omega
  have h2 := flatI_get l (j / 8) (by omega) (j % 8) _ (List.getElem?_eq_getElem hlt)
  rw [show j / 8 * 8 + j % 8 = j by omega, h] at h2
  injection h2 with h2
  rw [List.getElem?_eq_getElem hlt, h2]
/-- Items that lie at an address. -/
def ItemsAt (w : World) (b o : Nat) (l : List Itm) : Prop := ∀ i, i < l.length → ∀ t u, (itC (it l i))[t]? = some u → w.cell? ⟨b, o + i * 8 + t, none⟩ = some u
theorem ItemsAt.flat {w : World} {b o : Nat} {l : List Itm} (h : ItemsAt w b o l) : ∀ j u, (flatI l)[j]? = some u → w.cell? ((⟨b, o, none⟩ : Addr).add j) = some u := by
  intro j u hj
  obtain ⟨i, t, hi, _, rfl, ht⟩ := flatI_idx hj
  rw [addr_add, ← Nat.add_assoc]
  exact h i hi t u ht
theorem itemsAt_args {w : World} {a : Option Addr} {n c : Nat} {l : List Itm} (h : ArgS 8 itC w (.slice a n c) l) (hl : 0 < l.length) : ∃ b o, a = some ⟨b, o, none⟩ ∧ b < w.heap.size ∧ ItemsAt w b o l := by
  obtain ⟨a', c', hv, _, _, h3⟩ := h
  injection hv with e1 e2 e3
  subst e1 e2 e3
  rcases h3 with h3 | ⟨b, o, ha, hlt, hc⟩
  · subst h3; simp at hl
  · exact ⟨b, o, ha, hlt, fun i hi t u ht => hc i (it l i) (it_get hi) t u ht⟩
theorem ItemsAt.below {w w' : World} {b o : Nat} {l : List Itm} (h : ItemsAt w b o l) (hb : Below w.heap.size w w') (hlt : b < w.heap.size) : ItemsAt w' b o l := fun i hi t u ht => (hb.cell (p := ⟨b, _, none⟩) hlt).trans (h i hi t u ht)
section
variable {w : World} {ops : Array Oper} {rest : List Oper} {o : Oper} {a : Act} {Q : Exit → Act → World → Prop}
/-- Many items appended to a row of the call's own. -/
theorem app_items (hgd : o.guard = none) (s x : Operand) (ho : o.op = .call { callee := .builtin .append, args := #[s, x], argTypes := #[22, 22] })
    (base : Nat) (v : Value) (l : List Itm) (y : List Itm) (n m : Nat) (_hn : l.length = n) (hm : y.length = m) (hs : a.eval s = v) (hown : w.ownsRow base 26 8 v n (flatI l)) (B O c : Nat) (hB : ItemsAt w B O y) (hx : a.eval x = .slice (some ⟨B, O, none⟩) m c)
    (hl : n + m ≤ 100000) (hbase : base ≤ w.heap.size)
    (h : ∀ g c w', w'.ownsRow base 26 8 (.slice g (n + m) c) (n + m) (flatI (l ++ y)) → w.grownBy w' v.ownBlock → wpList Try.prog ops Q rest (a.put o.dst (.slice g (n + m) c)) w') : wpList Try.prog ops Q (o :: rest) a w := by
  obtain ⟨i0, hi, hz0, hz1, hz2⟩ := info_parts info_item
  refine wpList_append_own w hgd s x 22 ho base 26 i0 _ 8 72 Try.underlying22 hi hz0 hz1 hz2 rfl (by decide) v n (flatI l) hs hown ⟨B, O, none⟩ m c (flatI y) hx (by rw [flatI_len, hm]) hB.flat (flatI_one y) (by unfold maxLen; omega) (by omega) hbase ?_
  intro v' w' hown' hg _
  obtain ⟨g, c, rfl⟩ := own_shape hown'
  refine h g c w' ?_ hg
  rw [← flatI_append]; exact hown'
end
theorem fit_pos (raw : List Itm) : 0 < (fitL raw).length := by
  obtain ⟨f, hne⟩ := fit3_ok raw
  rw [fitL_len]
  cases h : (fit3 raw).2 with
  | nil => exact absurd h hne
  | cons a b =>
    obtain ⟨_, i, hi, _⟩ := f.have_ a (by rw [h]; simp)
    omega
/-- The labels that Fit lays. -/
theorem fitR_names (raw : List Itm) (k : Nat) : ∀ nm ∈ (fitR raw k).2, nm ∈ nameT := by
  induction k with
  | zero => intro nm h; simp [fitR] at h
  | succ k ih =>
    intro nm h
    simp only [fitR, fitS] at h
    repeat' split at h
    all_goals first | exact ih nm h | (rcases List.mem_append.1 h with h | h; exact ih nm h; simp at h; rw [h]; exact name_mem _)
theorem fitL_names (raw : List Itm) (i : Nat) (hi : i < (fitL raw).length) (h2 : (it (fitL raw) i).kind = 2) : (it (fitL raw) i).name ∈ endS :: nameT := by
  obtain ⟨f, _⟩ := fit3_ok raw
  rw [fitL_at raw i hi] at h2 ⊢
  rw [renN_kind] at h2
  rw [renN_same _ _ _ (by omega)]
  rw [fitL_len] at hi
  have hm := f.labs i hi h2
  generalize (it (fit3 raw).1 i).name = nm at hm ⊢
  unfold fit3 fitE at hm
  split at hm
  · simp at hm; simp [hm]
  · exact List.mem_cons_of_mem _ (fitR_names raw _ nm hm)
def preL (ah : List Ins) : Nat → List Itm
  | 0 => []
  | k + 1 => preL ah k ++ [⟨1, fitX (ah.getD k noI), ⟨#[]⟩, 0⟩]
theorem preL_len (ah : List Ins) (k : Nat) : (preL ah k).length = k := by
  induction k with
  | zero => rfl
  | succ k ih => simp [preL, ih]
theorem preL_ahead (ah : List Ins) (k : Nat) : Ahead (preL ah k) := by
  induction k with
  | zero => exact ⟨fun i hi => by simp [preL] at hi⟩
  | succ k ih =>
    refine ⟨fun i hi => ?_⟩
    rw [preL_len] at hi
    simp only [preL]
    by_cases e : i < k
    · rw [it_left (by rw [preL_len]; exact e)]; exact ih.kind i (by rw [preL_len]; exact e)
    · obtain rfl : i = (preL ah k).length := by rw [preL_len]; omega
      rw [it_last]
      refine ⟨rfl, ?_⟩
      have hr := fit_right (ah.getD (preL ah k).length noI)
      try rw [preL_len] at hr
      generalize fitX (ah.getD k noI) = y at hr ⊢
      obtain ⟨op, d, a, b, n⟩ := y
      rw [itemB_1, hr]; simp
theorem moved_ok {pre l : List Itm} (h : Ahead pre) (hp : pre.length ≤ 10) (hl : l.length ≤ 17) (ha : allB l) (hk : knownB l = true) (hb : pl l (longF l) l.length ≤ 80000) : errOf (pre ++ l) = 0 := by
  have h1 := pl_ahead h hk l.length (Nat.le_refl _)
  refine err_ok (by simp; omega) (all_ahead h ha) (known_ahead h hk) ?_
  rw [List.length_append, h1]
  omega
end Go.Proofs.Ytfepdieeiplbnaa
