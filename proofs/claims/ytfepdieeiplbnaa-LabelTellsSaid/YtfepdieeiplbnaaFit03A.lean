/-
  Items and names appended to rows of the call's own; headstocklaw03.name.
-/
import Derived.Test.YtfepdieeiplbnaaFit03B
import Derived.Test.YtfepdieeiplbnaaLabE
import Derived.Test.YtfepdieeiplbnaaLabelNumbers
namespace Go.Proofs.Ytfepdieeiplbnaa
open Go.RowKit
set_option linter.unusedSimpArgs false
def flatI (l : List Itm) : List Value := l.flatMap itC
def flatS (l : List ByteArray) : List Value := l.map Value.string
theorem flatI_len (l : List Itm) : (flatI l).length = l.length * 8 := by
  induction l with
  | nil => rfl
  | cons x l ih =>
    have e : flatI (x :: l) = itC x ++ flatI l := List.flatMap_cons
    rw [e, List.length_append, ih, List.length_cons]
    simp [itC]; omega
theorem flatI_snoc (l : List Itm) (x : Itm) : flatI l ++ itC x = flatI (l ++ [x]) := by simp [flatI]
theorem flatS_snoc (l : List ByteArray) (x : ByteArray) : flatS l ++ [.string x] = flatS (l ++ [x]) := by simp [flatS]
theorem flatI_get (l : List Itm) (k : Nat) (hk : k < l.length) (j : Nat) (u : Value) (hj : (itC (it l k))[j]? = some u) : (flatI l)[k * 8 + j]? = some u := by
  have := items_get l k hk j u hj
  unfold itemsA at this
  rw [List.getElem?_toArray] at this
  exact this
theorem flatI_cons (x : Itm) (l : List Itm) : flatI (x :: l) = itC x ++ flatI l := List.flatMap_cons
theorem flatI_set (l : List Itm) (k : Nat) (hk : k < l.length) (nm : ByteArray) : (flatI l).set (k * 8 + 6) (.string nm) = flatI (l.set k ⟨(it l k).kind, (it l k).i, nm, (it l k).n⟩) := by
  rw [it_at hk]
  induction l generalizing k with
  | nil => simp at hk
  | cons x xs ih =>
    cases k with
    | zero => simp only [flatI_cons, List.set_cons_zero, List.getElem_cons_zero]; rfl
    | succ k =>
      simp only [flatI_cons, List.set_cons_succ, List.getElem_cons_succ]
      rw [← ih k (by simpa using hk), List.set_append_right _ _ (by simp [itC]; omega)]
      congr 2
      simp [itC]; omega
theorem renTo_no {s : FS} {k : Nat} (h : (it s.1 k).kind ≠ 3) : renTo s (k + 1) = renTo s k := by
  unfold renTo
  apply List.map_congr_left
  intro i hi
  by_cases e : i = k
  · subst e; rw [if_pos (by omega), if_neg (by omega), renN_same _ _ _ h]
  · by_cases h2 : i < k
    · rw [if_pos (by omega), if_pos h2]
    · rw [if_neg (by omega), if_neg h2]
theorem renTo_yes {s : FS} {k : Nat} (hk : k < s.1.length) (h : (it s.1 k).kind = 3) :
    renTo s (k + 1) = (renTo s k).set k ⟨(it (renTo s k) k).kind, (it (renTo s k) k).i, s.2.getD (((it s.1 k).name.size + k) % s.2.length) ⟨#[]⟩, (it (renTo s k) k).n⟩ := by
  rw [renTo_at s k k hk, if_neg (Nat.lt_irrefl k)]
  apply List.ext_getElem
  · simp [renTo]
  · intro i h1 h2
    have hi : i < s.1.length := by simpa [renTo] using h1
    rw [List.getElem_set]
    by_cases e : k = i
    · subst e
      rw [if_pos rfl]
      simp only [renTo, List.getElem_map, List.getElem_range]
      rw [if_pos (Nat.lt_succ_self k)]
      unfold renN
      rw [if_pos h]
    · rw [if_neg e]
      simp only [renTo, List.getElem_map, List.getElem_range]
      by_cases h3 : i < k
      · rw [if_pos (by omega), if_pos h3]
      · rw [if_neg (by omega), if_neg h3]
theorem one8 (x : Itm) : ∀ u ∈ itC x, u.oneCell' = true := by
  intro u hu
  simp [itC] at hu
  rcases hu with rfl | rfl | rfl | rfl | rfl | rfl | rfl | rfl <;> rfl
theorem info_item : (Try.prog.info? 26).map (fun i => (i.zero, i.size, i.bytes)) = some (some (.agg #[.int .i64 0, .int .i64 0, .int .i64 0, .int .i64 0, .int .i64 0, .int .i64 0, .string ⟨#[]⟩, .int .i64 0]), 8, 72) := by kernel_rfl
theorem info_string : (Try.prog.info? 9).map (fun i => (i.zero, i.size, i.bytes)) = some (some (.string ⟨#[]⟩), 1, 16) := by kernel_rfl
section
variable {w : World} {ops : Array Oper} {rest : List Oper} {o : Oper} {a : Act} {Q : Exit → Act → World → Prop}
/-- One item appended to a row of the call's own. -/
theorem app_item (hgd : o.guard = none) (s x : Operand) (ho : o.op = .call { callee := .builtin .append, args := #[s, x], argTypes := #[22, 22] })
    (base : Nat) (v : Value) (l : List Itm) (y : Itm) (n : Nat) (hn : l.length = n) (hs : a.eval s = v) (hown : w.ownsRow base 26 8 v n (flatI l)) (B : Nat) (hB : w.heap[B]? = some (.cells (itC y).toArray 26 (0, 0))) (hx : a.eval x = .slice (some ⟨B, 0, none⟩) 1 1)
    (hl : n ≤ 100000) (hbase : base ≤ w.heap.size)
    (h : ∀ g c w', w'.ownsRow base 26 8 (.slice g (n + 1) c) (n + 1) (flatI (l ++ [y])) → w.grownBy w' v.ownBlock → wpList Try.prog ops Q rest (a.put o.dst (.slice g (n + 1) c)) w') : wpList Try.prog ops Q (o :: rest) a w := by
  obtain ⟨i0, hi, hz0, hz1, hz2⟩ := info_parts info_item
  refine wpList_append_own w hgd s x 22 ho base 26 i0 _ 8 72 Try.underlying22 hi hz0 hz1 hz2 rfl (by decide) v n (flatI l) hs hown ⟨B, 0, none⟩ 1 1 (itC y) hx rfl (fun j u hj => by
    rw [addr_add, Nat.zero_add]; exact cell_in hB (by simpa using hj)) (one8 y) (by unfold maxLen; omega) (by omega) hbase ?_
  intro v' w' hown' hg _
  obtain ⟨g, c, rfl⟩ := own_shape hown'
  refine h g c w' ?_ hg
  rw [← flatI_snoc]; exact hown'
/-- One name appended. -/
theorem app_name (hgd : o.guard = none) (s x : Operand) (ho : o.op = .call { callee := .builtin .append, args := #[s, x], argTypes := #[53, 53] })
    (base : Nat) (v : Value) (l : List ByteArray) (y : ByteArray) (n : Nat) (hn : l.length = n) (hs : a.eval s = v) (hown : w.ownsRow base 9 1 v n (flatS l)) (B : Nat) (hB : w.heap[B]? = some (.cells #[.string y] 9 (0, 0))) (hx : a.eval x = .slice (some ⟨B, 0, none⟩) 1 1)
    (hl : n ≤ 100000) (hbase : base ≤ w.heap.size)
    (h : ∀ g c w', w'.ownsRow base 9 1 (.slice g (n + 1) c) (n + 1) (flatS (l ++ [y])) → w.grownBy w' v.ownBlock → wpList Try.prog ops Q rest (a.put o.dst (.slice g (n + 1) c)) w') : wpList Try.prog ops Q (o :: rest) a w := by
  obtain ⟨i0, hi, hz0, hz1, hz2⟩ := info_parts info_string
  refine wpList_append_own w hgd s x 53 ho base 9 i0 _ 1 16 Try.underlying53 hi hz0 hz1 hz2 rfl (by decide) v n (flatS l) hs hown ⟨B, 0, none⟩ 1 1 [.string y] hx rfl (fun j u hj => by
    have : j = 0 := by have := (List.getElem?_eq_some_iff.1 hj).1; simp at this; exact this
    subst this
    simp at hj; subst hj
    rw [addr_add]; exact cell_in hB rfl) (by simp [Value.oneCell']) (by unfold maxLen; omega) (by omega) hbase ?_
  intro v' w' hown' hg _
  obtain ⟨g, c, rfl⟩ := own_shape hown'
  refine h g c w' ?_ hg
  rw [← flatS_snoc]; exact hown'
end
theorem name_any (n : Int) (w : World) (hn : I64 n) (z : ByteArray) (hz : nameN n = z) : Calls Try.prog 31 #[.int .i64 n] w fun e w' => e = .returned (.string z) ∧ Below w.heap.size w w' := by
  have hb := pickN_bd n 8 (by omega)
  unfold nameN at hz
  obtain ⟨p, hp⟩ : ∃ p, pickN n 8 = p := ⟨_, rfl⟩
  have P1 := Lib.hid (fun w => pick03 n 8 w hn (by omega) p hp)
  rw [hp] at hb hz
  have HZ := Lib.hid hz
  clear hp hn hz
  have h8 : p = 0 ∨ p = 1 ∨ p = 2 ∨ p = 3 ∨ p = 4 ∨ p = 5 ∨ p = 6 ∨ p = 7 := by omega
  clear hb
  rcases h8 with rfl | rfl | rfl | rfl | rfl | rfl | rfl | rfl
  all_goals
    have HZ' := Lib.hid (HZ.out.symm.trans (show _ = _ by rfl))
    go_enter Try.func31, Try.ntmps31
    go_wp2_with (go_at_call 13; ((with_reducible refine (P1.out _).mono ?_); rintro e w' ⟨rfl, rfl⟩))
    go_ret
    refine ⟨?_, (by repeat (first | (with_reducible exact Below.refl _ _) | (with_reducible refine bw_set ?_ ?_ _) | (with_reducible apply bw_alloc) | (with_reducible refine bw_tr ?_ (by with_reducible assumption)) | (with_reducible apply bw_drew) | omega))⟩
    rw [HZ'.out]; rfl
end Go.Proofs.Ytfepdieeiplbnaa
