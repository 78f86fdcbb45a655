/-
  Devices as plain data: what the calls of layer 10 make of a state. No program in sight.
-/
import Derived.Test.YtodcmmdobnjbbaaHeap
import Derived.Test.YtodcmmdobnjbbaaWrapMath
namespace Go.Proofs.Ytodcmmdobnjbbaa
open Go.RowKit

structure St where
  k : Int
  r0 : Int
  r1 : Int
  r2 : Int
  r3 : Int
  q : List Int
  sent : Int
  ra : Bool

/-- A state's cells, its queue being the slice qv. -/
def stC (s : St) (qv : Value) : Array Value := #[.int .i64 s.k, .int .i64 s.r0, .int .i64 s.r1, .int .i64 s.r2, .int .i64 s.r3, qv, .int .i64 s.sent, .bool s.ra]
def qL (s : St) : List Value := s.q.map (Value.int .i64)
/-- v is the state s. -/
def IsSt (w : World) (v : Value) (s : St) : Prop := ∃ qv, v = .agg (stC s qv) ∧ Reads w 1 s.q.length qv (qL s)
theorem IsSt.below {w w' : World} {v : Value} {s : St} (h : IsSt w v s) (hb : Below w.heap.size w w') : IsSt w' v s := by
  obtain ⟨qv, hv, hr⟩ := h; exact ⟨qv, hv, hr.below hb⟩
theorem one_qL (s : St) : ∀ u ∈ qL s, u.oneCell' = true := by
  intro u hu; simp only [qL, List.mem_map] at hu; obtain ⟨n, _, rfl⟩ := hu; rfl
theorem len_qL (s : St) : (qL s).length = s.q.length := by simp [qL]

/-- A block that is known whole. -/
theorem cell_in {w : World} {b : Nat} {cs : Array Value} {t : TypeId} (h : w.heap[b]? = some (.cells cs t (0, 0))) {j : Nat} {u : Value} (hj : cs[j]? = some u) : w.cell? ⟨b, j, none⟩ = some u := by
  rw [cell_of_row w b j cs t (0, 0) h, hj]
theorem frozen_in {w : World} {b : Nat} {cs : Array Value} {t : TypeId} (h : w.heap[b]? = some (.cells cs t (0, 0))) (j : Nat) : w.frozen? ⟨b, j, none⟩ = false := by
  simp [World.frozen?, h]
theorem lt_in {w : World} {b : Nat} {o : Obj} (h : w.heap[b]? = some o) : b < w.heap.size := by
  by_cases hh : b < w.heap.size
  · exact hh
  · rw [Array.getElem?_eq_none (by omega)] at h; cases h
theorem set_in {w : World} {b : Nat} {cs : Array Value} {t : TypeId} (h : w.heap[b]? = some (.cells cs t (0, 0))) (j : Nat) (u : Value) : (w.setCell ⟨b, j, none⟩ u).heap[b]? = some (.cells (cs.setIfInBounds j u) t (0, 0)) := by
  simp [World.setCell, Array.getElem?_modify, h]
theorem new_in (w : World) (o : Obj) : (w.alloc o).heap[w.heap.size]? = some o := heap_alloc_new w o
theorem bel_in {B : Nat} {w w' : World} {b : Nat} {o : Obj} (hb : Below B w w') (hlt : b < B) (h : w.heap[b]? = some o) : w'.heap[b]? = some o := by rw [hb.block b hlt, h]
theorem cells8 {w : World} {b : Nat} {t : TypeId} {c0 c1 c2 c3 c4 c5 c6 c7 : Value} (h : w.heap[b]? = some (.cells #[c0, c1, c2, c3, c4, c5, c6, c7] t (0, 0))) :
    w.cell? ⟨b, 0, none⟩ = some c0 ∧ w.cell? ⟨b, 1, none⟩ = some c1 ∧ w.cell? ⟨b, 2, none⟩ = some c2 ∧ w.cell? ⟨b, 3, none⟩ = some c3 ∧ w.cell? ⟨b, 4, none⟩ = some c4 ∧ w.cell? ⟨b, 5, none⟩ = some c5 ∧ w.cell? ⟨b, 6, none⟩ = some c6 ∧ w.cell? ⟨b, 7, none⟩ = some c7 ∧ w.frozen? ⟨b, 0, none⟩ = false ∧ w.frozen? ⟨b, 1, none⟩ = false ∧ w.frozen? ⟨b, 2, none⟩ = false ∧ w.frozen? ⟨b, 3, none⟩ = false ∧ w.frozen? ⟨b, 4, none⟩ = false ∧ w.frozen? ⟨b, 5, none⟩ = false ∧ w.frozen? ⟨b, 6, none⟩ = false ∧ w.frozen? ⟨b, 7, none⟩ = false :=
  ⟨cell_in h rfl, cell_in h rfl, cell_in h rfl, cell_in h rfl, cell_in h rfl, cell_in h rfl, cell_in h rfl, cell_in h rfl, frozen_in h 0, frozen_in h 1, frozen_in h 2, frozen_in h 3, frozen_in h 4, frozen_in h 5, frozen_in h 6, frozen_in h 7⟩
end Go.Proofs.Ytodcmmdobnjbbaa
