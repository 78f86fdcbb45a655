/-
  Harts: their cells. No program in sight.
-/
import Derived.Test.YtiahdhlfecgnpaaHeap
import Derived.Laws.Rows
import Derived.Laws.Tables
import Derived.Laws.CopyOwn
namespace Go.Proofs.Ytiahdhlfecgnpaa
open Go.RowKit
structure Ht where
  r : List Int
  pc : Int
  st : Int
  ve : Int
  sc : Int
  ep : Int
  ca : Int
  le : Int
def hL (h : Ht) : List Int := h.r ++ [h.pc, h.st, h.ve, h.sc, h.ep, h.ca, h.le]
def hA (h : Ht) : Array Value := ((hL h).map (Value.int .i64)).toArray
theorem hA_size (h : Ht) (h32 : h.r.length = 32) : (hA h).size = 39 := by simp [hA, hL, h32]
theorem hA_one (h : Ht) : (hA h).all (·.oneCell') = true := by
  simp only [hA, List.all_toArray, List.all_eq_true]
  intro v hv
  obtain ⟨a, _, rfl⟩ := List.mem_map.1 hv
  rfl
theorem hA_get (h : Ht) (j : Nat) : (hA h)[j]? = ((hL h)[j]?).map (Value.int .i64) := by simp [hA]
theorem hA_r (h : Ht) (h32 : h.r.length = 32) (k : Nat) (hk : k < 32) : (hA h)[k]? = some (.int .i64 (h.r.getD k 0)) := by
  rw [hA_get, hL, List.getElem?_append_left (by omega), List.getD_eq_getElem?_getD, List.getElem?_eq_getElem (by omega)]; rfl
theorem hA_hi (h : Ht) (h32 : h.r.length = 32) (k : Nat) : (hA h)[32 + k]? = ([h.pc, h.st, h.ve, h.sc, h.ep, h.ca, h.le][k]?).map (Value.int .i64) := by
  rw [hA_get, hL, List.getElem?_append_right (by omega), h32, Nat.add_sub_cancel_left]
theorem hA_fields (h : Ht) (h32 : h.r.length = 32) : (hA h)[32]? = some (.int .i64 h.pc) ∧ (hA h)[33]? = some (.int .i64 h.st) ∧ (hA h)[34]? = some (.int .i64 h.ve) ∧ (hA h)[35]? = some (.int .i64 h.sc) ∧
    (hA h)[36]? = some (.int .i64 h.ep) ∧ (hA h)[37]? = some (.int .i64 h.ca) ∧ (hA h)[38]? = some (.int .i64 h.le) :=
  ⟨hA_hi h h32 0, hA_hi h h32 1, hA_hi h h32 2, hA_hi h h32 3, hA_hi h h32 4, hA_hi h h32 5, hA_hi h h32 6⟩
theorem hA_set_r (h : Ht) (h32 : h.r.length = 32) (k : Nat) (hk : k < 32) (v : Int) : (hA h).setIfInBounds k (.int .i64 v) = hA { h with r := h.r.set k v } := by
  simp only [hA, hL, List.setIfInBounds_toArray, List.map_append, List.map_set]
  rw [List.set_append_left _ _ (by simpa using by omega)]
theorem hA_set_hi (h : Ht) (h32 : h.r.length = 32) (k : Nat) (v : Int) : (hA h).setIfInBounds (32 + k) (.int .i64 v) = ((h.r ++ [h.pc, h.st, h.ve, h.sc, h.ep, h.ca, h.le].set k v).map (Value.int .i64)).toArray := by
  simp only [hA, hL, List.setIfInBounds_toArray, List.map_append]
  rw [List.set_append_right _ _ (by simpa using by omega), List.length_map, h32, Nat.add_sub_cancel_left, List.map_set]
theorem hA_pc (h : Ht) (h32 : h.r.length = 32) (v : Int) : (hA h).setIfInBounds 32 (.int .i64 v) = hA { h with pc := v } := hA_set_hi h h32 0 v
theorem hA_st (h : Ht) (h32 : h.r.length = 32) (v : Int) : (hA h).setIfInBounds 33 (.int .i64 v) = hA { h with st := v } := hA_set_hi h h32 1 v
theorem hA_ve (h : Ht) (h32 : h.r.length = 32) (v : Int) : (hA h).setIfInBounds 34 (.int .i64 v) = hA { h with ve := v } := hA_set_hi h h32 2 v
theorem hA_sc (h : Ht) (h32 : h.r.length = 32) (v : Int) : (hA h).setIfInBounds 35 (.int .i64 v) = hA { h with sc := v } := hA_set_hi h h32 3 v
theorem hA_ep (h : Ht) (h32 : h.r.length = 32) (v : Int) : (hA h).setIfInBounds 36 (.int .i64 v) = hA { h with ep := v } := hA_set_hi h h32 4 v
theorem hA_ca (h : Ht) (h32 : h.r.length = 32) (v : Int) : (hA h).setIfInBounds 37 (.int .i64 v) = hA { h with ca := v } := hA_set_hi h h32 5 v
theorem hA_le (h : Ht) (h32 : h.r.length = 32) (v : Int) : (hA h).setIfInBounds 38 (.int .i64 v) = hA { h with le := v } := hA_set_hi h h32 6 v
def zA : Array Value := #[.int .i64 0, .int .i64 0, .int .i64 0, .int .i64 0, .int .i64 0, .int .i64 0, .int .i64 0, .int .i64 0, .int .i64 0, .int .i64 0, .int .i64 0, .int .i64 0, .int .i64 0, .int .i64 0, .int .i64 0, .int .i64 0, .int .i64 0, .int .i64 0, .int .i64 0, .int .i64 0, .int .i64 0, .int .i64 0, .int .i64 0, .int .i64 0, .int .i64 0, .int .i64 0, .int .i64 0, .int .i64 0, .int .i64 0, .int .i64 0, .int .i64 0, .int .i64 0, .int .i64 0, .int .i64 0, .int .i64 0, .int .i64 0, .int .i64 0, .int .i64 0, .int .i64 0]
theorem two_new (w : World) (o1 o2 : Obj) : ∃ w0 : World, w0 = (w.alloc o1).alloc o2 ∧ w0.heap[w.heap.size]? = some o1 ∧ w0.heap[w.heap.size + 1]? = some o2 ∧ Below w.heap.size w w0 ∧ w.heap.size + 2 ≤ w0.heap.size :=
  ⟨_, rfl, heap_alloc2_old w o1 o2, heap_alloc2_new w o1 o2, ((Below.refl _ _).alloc (Nat.le_refl _) _).alloc (by simp) _, by simp⟩
theorem one_new (w : World) (o1 : Obj) : ∃ w0 : World, w0 = w.alloc o1 ∧ w0.heap[w.heap.size]? = some o1 ∧ Below w.heap.size w w0 ∧ w.heap.size + 1 ≤ w0.heap.size :=
  ⟨_, rfl, heap_alloc_new w o1, (Below.refl _ _).alloc (Nat.le_refl _) _, by simp⟩
theorem set_heap {w : World} {b : Nat} {cs : Array Value} {t : TypeId} (h : w.heap[b]? = some (.cells cs t (0, 0))) (j : Nat) (u : Value) (cs' : Array Value) (e : cs.setIfInBounds j u = cs') : (w.setCell ⟨b, j, none⟩ u).heap[b]? = some (.cells cs' t (0, 0)) := by
  rw [← e]; exact set_in h j u
theorem row_ne {w : World} {b g : Nat} {cs : Array Value} {x : Option Obj} (h : g ≠ b) (hx : w.heap[g]? = x) : (w.setRow b cs).heap[g]? = x := (setRow_other w b g cs h).trans hx
end Go.Proofs.Ytiahdhlfecgnpaa
