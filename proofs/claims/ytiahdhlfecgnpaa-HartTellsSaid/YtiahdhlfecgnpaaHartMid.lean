/-
  A hart's registers stored into a variable: the block behind it.
-/
import Derived.Test.YtiahdhlfecgnpaaHartEq
import Derived.Test.YtiahdhlfecgnpaaHartFine
namespace Go.Proofs.Ytiahdhlfecgnpaa
open Go.RowKit
set_option linter.unusedVariables false
def ovr : Array Value → Nat → List Value → Array Value
  | A, _, [] => A
  | A, o, v :: r => ovr (A.setIfInBounds o v) (o + 1) r
theorem ovr_size : ∀ (vs : List Value) (A : Array Value) (o : Nat), (ovr A o vs).size = A.size
  | [], _, _ => rfl
  | v :: r, A, o => by rw [ovr, ovr_size r]; simp
theorem ovr_get : ∀ (vs : List Value) (A : Array Value) (o i : Nat), o + vs.length ≤ A.size → (ovr A o vs)[i]? = if o ≤ i ∧ i < o + vs.length then vs[i - o]? else A[i]?
  | [], A, o, i, _ => by rw [ovr, if_neg (by simp only [List.length_nil]; omega)]
  | v :: r, A, o, i, h => by
    simp only [List.length_cons] at h
    rw [ovr, ovr_get r _ (o + 1) i (by simpa using by omega)]
    by_cases h1 : o + 1 ≤ i ∧ i < o + 1 + r.length
    · rw [if_pos h1, if_pos (by simp only [List.length_cons]; omega), show i - o = (i - (o + 1)) + 1 by omega, List.getElem?_cons_succ]
    · rw [if_neg h1]
      by_cases h2 : i = o
      · subst h2
        rw [if_pos (by simp only [List.length_cons]; omega), Nat.sub_self, List.getElem?_cons_zero]
        simp [show i < A.size by omega]
      · rw [if_neg (by simp only [List.length_cons]; omega), Array.getElem?_setIfInBounds]
        simp [Ne.symm h2]
theorem setCells_heap : ∀ (vs : List Value) (w : World) (b o : Nat) (A : Array Value) (t : TypeId), w.heap[b]? = some (.cells A t (0, 0)) → (w.setCells b o vs).heap[b]? = some (.cells (ovr A o vs) t (0, 0))
  | [], _, _, _, _, _, h => h
  | v :: r, w, b, o, A, t, h => setCells_heap r _ b (o + 1) _ t (set_in h o v)
theorem setCells_ne : ∀ (vs : List Value) (w : World) (b g o : Nat) (x : Option Obj), g ≠ b → w.heap[g]? = x → (w.setCells b o vs).heap[g]? = x
  | [], _, _, _, _, _, _, h => h
  | v :: r, w, b, g, o, x, hne, h => setCells_ne r _ b g (o + 1) x hne (heap_set_ne hne h)
theorem bw_setCells {a : World} : ∀ (vs : List Value) (w : World) (b o : Nat), a.heap.size ≤ b → Below a.heap.size a w → Below a.heap.size a (w.setCells b o vs)
  | [], _, _, _, _, h => h
  | v :: r, w, b, o, hp, h => bw_setCells r _ b (o + 1) hp (bw_set h hp v)
theorem ovr_hA (h : Ht) (h32 : h.r.length = 32) (r : List Int) (hr : r.length = 32) : ovr (hA h) 0 (rA r).toList = hA { h with r := r } := by
  have hv : (rA r).toList.length = 32 := by simp [rA, hr]
  apply Array.ext
  · rw [ovr_size, hA_size h h32, hA_size _ hr]
  · intro i h1 h2
    apply Option.some.inj
    rw [← Array.getElem?_eq_getElem h1, ← Array.getElem?_eq_getElem h2, ovr_get _ _ _ _ (by rw [hv, hA_size h h32]; omega), hv]
    have hi : i < 39 := by rw [ovr_size, hA_size h h32] at h1; exact h1
    by_cases hk : i < 32
    · rw [if_pos (by omega), Nat.sub_zero, hA_r ({ h with r := r } : Ht) hr i hk, Array.getElem?_toList, rA_get r hr i hk]
    · rw [if_neg (by omega)]
      obtain ⟨k, rfl⟩ : ∃ k, i = 32 + k := ⟨i - 32, by omega⟩
      rw [hA_hi h h32, hA_hi ({ h with r := r } : Ht) hr]
theorem there_hA {w : World} {b : Nat} {h : Ht} {t : TypeId} (h32 : h.r.length = 32) (hx : w.heap[b]? = some (.cells (hA h) t (0, 0))) : w.there b 0 32 := fun j hj => by
  have e := cell_in hx (hA_r h h32 j hj)
  rw [Nat.zero_add]
  exact ⟨by rw [e]; rfl, frozen_in hx j⟩
theorem infoR : (Try.prog.info? 26).map (·.size) = some 32 := by kernel_rfl
theorem rA_size {r : List Int} (h : r.length = 32) : (rA r).size = 32 := by simp [rA, h]
theorem rA_one (r : List Int) : (rA r).all (·.oneCell') = true := by
  simp only [rA, List.all_toArray, List.all_eq_true]
  intro v hv
  obtain ⟨a, _, rfl⟩ := List.mem_map.1 hv
  rfl
end Go.Proofs.Ytiahdhlfecgnpaa
