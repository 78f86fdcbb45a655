/-
  Cells that are there, and where a list's stores lie.
-/
import Derived.Test.YtkhobelceghgfaaMemMade
namespace Go.Proofs.Ytkhobelceghgfaa
open Go.RowKit
/-- A cell that is there. -/
def CellAt (w : World) (b o : Nat) (v : Value) : Prop := b < w.heap.size ∧ w.cell? ⟨b, o, none⟩ = some v
theorem CellAt.up {w w' : World} {b o : Nat} {v : Value} (h : CellAt w b o v) (hb : Below w.heap.size w w') : CellAt w' b o v := ⟨Nat.lt_of_lt_of_le h.1 hb.size, rd_cell hb h.1 h.2⟩
theorem CellAt.set3 {w : World} {b o q : Nat} {v : Value} (x y z : Value) (h : CellAt w b o v) (hne : b ≠ q) : CellAt (((w.setCell ⟨q, 0, none⟩ x).setCell ⟨q, 1, none⟩ y).setCell ⟨q, 2, none⟩ z) b o v := by
  refine ⟨by simp only [size_set]; exact h.1, ?_⟩
  have e : (((w.setCell ⟨q, 0, none⟩ x).setCell ⟨q, 1, none⟩ y).setCell ⟨q, 2, none⟩ z).heap[b]? = w.heap[b]? := by rw [heap_set hne, heap_set hne, heap_set hne]
  have h2 := h.2
  unfold World.cell? at h2 ⊢
  simp only [e]
  exact h2
theorem entry_cells {w : World} {a : Option Addr} {n c : Nat} {l : List (Int × Int)} (h : Reads w 2 n (.slice a n c) (entC l)) {i : Nat} {x : Int × Int} (hx : l[i]? = some x) (hn : 0 < n) :
    ∃ b o, a = some ⟨b, o, none⟩ ∧ n ≤ c ∧ c ≤ 9223372036854775807 ∧ CellAt w b (o + i * 2) (.int .i64 x.1) ∧ CellAt w b (o + i * 2 + 1) (.int .i64 x.2) := by
  obtain ⟨b, o, c', e, hlt, hc, hm, hcell⟩ := h.some hn
  injection e with e1 e2 e3
  subst e1 e3
  obtain ⟨h1, h2⟩ := entC_at l i x hx
  unfold maxLen at hm
  exact ⟨b, o, rfl, hc, by omega, ⟨hlt, hcell _ _ h1⟩, ⟨hlt, hcell _ _ h2⟩⟩
end Go.Proofs.Ytkhobelceghgfaa
