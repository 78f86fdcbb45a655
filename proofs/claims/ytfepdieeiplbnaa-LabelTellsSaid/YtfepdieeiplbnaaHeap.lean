/-
  Slices that are read: what a slice's elements are, as cells. No program in sight.
-/
import Derived.WalkKit
import Derived.WalkSpells
import Derived.WalkLawsBesides
import Derived.Lib.Hide
namespace Go.Proofs.Ytfepdieeiplbnaa
open Go.RowKit

theorem addr_add (b o j : Nat) : (⟨b, o, none⟩ : Addr).add j = ⟨b, o + j, none⟩ := by
  unfold Addr.add; split
  · subst_vars; rfl
  · rfl
/-- The slice v has n elements of k cells each; all their cells, one behind the other, are xs. -/
def Reads (w : World) (k n : Nat) (v : Value) (xs : List Value) : Prop :=
  xs.length = n * k ∧ (∀ u ∈ xs, u.oneCell' = true) ∧
  ((v = .slice none 0 0 ∧ n = 0) ∨
   ∃ b o c, v = .slice (some ⟨b, o, none⟩) n c ∧ b < w.heap.size ∧ n ≤ c ∧ c ≤ maxLen ∧ ∀ j u, xs[j]? = some u → w.cell? ⟨b, o + j, none⟩ = some u)

theorem Reads.nil (w : World) (k : Nat) : Reads w k 0 (.slice none 0 0) [] := ⟨by simp, by simp, .inl ⟨rfl, rfl⟩⟩

theorem Reads.below {w w' : World} {k n : Nat} {v : Value} {xs : List Value} (h : Reads w k n v xs) (hb : Below w.heap.size w w') : Reads w' k n v xs := by
  refine ⟨h.1, h.2.1, ?_⟩
  rcases h.2.2 with h | ⟨b, o, c, rfl, hlt, hc, hm, hcell⟩
  · exact .inl h
  · exact .inr ⟨b, o, c, rfl, Nat.lt_of_lt_of_le hlt hb.size, hc, hm, fun j u hj => by rw [hb.cell (p := ⟨b, o + j, none⟩) hlt]; exact hcell j u hj⟩

/-- What the call owns is read. -/
theorem Reads.own {w : World} {base e k n : Nat} {v : Value} {xs : List Value} (h : w.ownsRow base e k v n xs) (h1 : ∀ u ∈ xs, u.oneCell' = true) : Reads w k n v xs := by
  refine ⟨h.1, h1, ?_⟩
  rcases h.2 with h' | ⟨g, c, cur, rfl, hg, hb, hn, hm, hs, ht⟩
  · exact .inl h'
  · have hlt : g < w.heap.size := by
      by_cases hh : g < w.heap.size
      · exact hh
      · rw [Array.getElem?_eq_none (by omega)] at hb; cases hb
    refine .inr ⟨g, 0, c, rfl, hlt, hn, hm, fun j u hj => ?_⟩
    have hk : w.ownsRow base e k (.slice (some ⟨g, 0, none⟩) n c) n xs := h
    have hj' : j < n * k := by
      have := (List.getElem?_eq_some_iff.1 hj).1
      rw [h.1] at this; exact this
    rw [show 0 + j = j from Nat.zero_add j, hk.cellAt j hj', hj]
theorem Reads.shape {w : World} {k n : Nat} {v : Value} {xs : List Value} (h : Reads w k n v xs) : ∃ a c, v = .slice a n c := by
  rcases h.2.2 with ⟨rfl, rfl⟩ | ⟨b, o, c, rfl, _⟩
  · exact ⟨_, _, rfl⟩
  · exact ⟨_, _, rfl⟩
theorem own_shape {w : World} {base e k n : Nat} {v : Value} {xs : List Value} (h : w.ownsRow base e k v n xs) : ∃ a c, v = .slice a n c := by
  rcases h.2 with ⟨rfl, rfl⟩ | ⟨g, c, cur, rfl, _⟩
  · exact ⟨_, _, rfl⟩
  · exact ⟨_, _, rfl⟩
theorem own_base {w : World} {base base' e k n : Nat} {v : Value} {xs : List Value} (h : w.ownsRow base e k v n xs) (hb : base' ≤ base) : w.ownsRow base' e k v n xs := by
  refine ⟨h.1, ?_⟩
  rcases h.2 with h | ⟨g, c, cur, hv, hg, r⟩
  · exact .inl h
  · exact .inr ⟨g, c, cur, hv, Nat.le_trans hb hg, r⟩
theorem size_set (w : World) (a : Addr) (u : Value) : (w.setCell a u).heap.size = w.heap.size := by simp [World.setCell]
theorem new_set (w : World) (a : Addr) (u : Value) (o : Obj) : ((w.setCell a u).alloc o).heap[w.heap.size]? = some o := by
  have := heap_alloc_new (w.setCell a u) o
  rwa [size_set] at this
theorem own_ne {w : World} {base e k n b : Nat} {v : Value} {xs : List Value} (h : w.ownsRow base e k v n xs) (hb : w.heap.size ≤ b) : v.ownBlock ≠ some b := by
  intro e
  have := (h.lt b e).2; omega
theorem bel_set {B b o : Nat} {a w : World} {u : Value} (hb : B ≤ b) (h : Below B a w) : Below B a (w.setCell ⟨b, o, none⟩ u) := h.setCell hb u
theorem cell_set_ne {w : World} {b g : Nat} (h : g ≠ b) (o j : Nat) (u : Value) : (w.setCell ⟨b, o, none⟩ u).cell? ⟨g, j, none⟩ = w.cell? ⟨g, j, none⟩ :=
  World.cell?_of_block (Below.heap_setCell w _ u g h)
theorem grown_below {w a : World} {row : Option Nat} (h : Below w.heap.size w a) : w.grownBy a row := ⟨h.os, h.tape, h.output, h.size, fun k hk _ => h.block k hk⟩
theorem grown_tr {w a b : World} {C : Nat} {row : Option Nat} (h : w.grownBy a row) (hC : w.heap.size ≤ C) (h2 : Below C a b) : w.grownBy b row :=
  ⟨h2.os.trans h.os, h2.tape.trans h.tape, h2.output.trans h.output, Nat.le_trans h.size h2.size, fun k hk hne => (h2.block k (Nat.lt_of_lt_of_le hk hC)).trans (h.block k hk hne)⟩
theorem grown_setrow {w a : World} {p o : Nat} {u : Value} (h : w.grownBy a (some p)) : w.grownBy (a.setCell ⟨p, o, none⟩ u) (some p) :=
  ⟨h.os, h.tape, h.output, by rw [size_set]; exact h.size, fun k hk hne => (Below.heap_setCell a _ u k (fun e => hne (by rw [e]))).trans (h.block k hk hne)⟩
theorem grown_setnew {w a : World} {row : Option Nat} {b o : Nat} {u : Value} (hb : w.heap.size ≤ b) (h : w.grownBy a row) : w.grownBy (a.setCell ⟨b, o, none⟩ u) row :=
  ⟨h.os, h.tape, h.output, by rw [size_set]; exact h.size, fun k hk hne => (Below.heap_setCell a _ u k (by simp only; omega)).trans (h.block k hk hne)⟩
theorem heap_set_ne {w : World} {b g o : Nat} {u : Value} {x : Option Obj} (h : g ≠ b) (hx : w.heap[g]? = x) : (w.setCell ⟨b, o, none⟩ u).heap[g]? = x := (Below.heap_setCell w _ u g h).trans hx
theorem new_at (w : World) (o : Obj) (b : Nat) (h : b = w.heap.size) : (w.alloc o).heap[b]? = some o := by subst h; exact heap_alloc_new w o
/-- A block that is known whole. -/
theorem cell_in {w : World} {b : Nat} {cs : Array Value} {t : TypeId} (h : w.heap[b]? = some (.cells cs t (0, 0))) {j : Nat} {u : Value} (hj : cs[j]? = some u) : w.cell? ⟨b, j, none⟩ = some u := by
  rw [cell_of_row w b j cs t (0, 0) h, hj]
theorem frozen_in {w : World} {b : Nat} {cs : Array Value} {t : TypeId} (h : w.heap[b]? = some (.cells cs t (0, 0))) (j : Nat) : w.frozen? ⟨b, j, none⟩ = false := by
  simp [World.frozen?, h]
theorem lt_in {w : World} {b : Nat} {o : Obj} (h : w.heap[b]? = some o) : b < w.heap.size := by
  by_cases hh : b < w.heap.size
  · exact hh
  · rw [Array.getElem?_eq_none (by omega)] at h; cases h
theorem set_in {w : World} {b : Nat} {cs : Array Value} {t : TypeId} (h : w.heap[b]? = some (.cells cs t (0, 0))) (j : Nat) (u : Value) : (w.setCell ⟨b, j, none⟩ u).heap[b]? = some (.cells (cs.setIfInBounds j u) t (0, 0)) := by
  simp [World.setCell, Array.getElem?_modify, h]
theorem new_in (w : World) (o : Obj) : (w.alloc o).heap[w.heap.size]? = some o := heap_alloc_new w o
theorem bel_in {B : Nat} {w w' : World} {b : Nat} {o : Obj} (hb : Below B w w') (hlt : b < B) (h : w.heap[b]? = some o) : w'.heap[b]? = some o := by rw [hb.block b hlt, h]
theorem below_drewN {B : Nat} {a w : World} (h : Below B a w) (n : Nat) : Below B a (w.drewN n) := ⟨h.os, h.tape, h.output, h.size, h.block⟩
/-- A new slice of literal cells is read. -/
theorem reads_new {w w' : World} {b k n : Nat} {cs : Array Value} {t : TypeId} (h : w.heap[b]? = some (.cells cs t (0, 0))) (hn : cs.size = n * k) (h1 : ∀ u ∈ cs.toList, u.oneCell' = true) (hm : n ≤ maxLen) (hb : Below w.heap.size w w') :
    Reads w' k n (.slice (some ⟨b, 0, none⟩) n n) cs.toList := by
  refine Reads.below ?_ hb
  refine ⟨by simpa using hn, h1, .inr ⟨b, 0, n, rfl, lt_in h, Nat.le_refl _, hm, fun j u hj => ?_⟩⟩
  rw [show 0 + j = j from Nat.zero_add j]
  exact cell_in h (by simpa using hj)
theorem reads_list {w w' : World} {b k n : Nat} {xs : List Value} {t : TypeId} (h : w.heap[b]? = some (.cells xs.toArray t (0, 0))) (hn : xs.length = n * k) (h1 : ∀ u ∈ xs, u.oneCell' = true) (hm : n ≤ maxLen) (hb : Below w.heap.size w w') :
    Reads w' k n (.slice (some ⟨b, 0, none⟩) n n) xs := by
  have := reads_new (k := k) (n := n) h (by simpa using hn) (by simpa using h1) hm hb
  simpa using this
end Go.Proofs.Ytfepdieeiplbnaa
