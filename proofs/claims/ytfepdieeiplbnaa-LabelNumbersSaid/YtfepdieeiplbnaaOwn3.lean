/-
  Rows of the call's own: small laws. No program in sight.
-/
import Derived.Test.YtfepdieeiplbnaaHeap
import Derived.Test.YtfepdieeiplbnaaBw
import Derived.Laws.AppendOwn
namespace Go.Proofs.Ytfepdieeiplbnaa
open Go.RowKit
theorem own_kept {w w' : World} {base e k n : Nat} {v : Value} {xs : List Value} (h : w.ownsRow base e k v n xs) (hg : ∀ g, v.ownBlock = some g → w'.heap[g]? = w.heap[g]?) : w'.ownsRow base e k v n xs := by
  refine ⟨h.1, ?_⟩
  rcases h.2 with h | ⟨g, cap, cur, rfl, hb, hgg, rest⟩
  · exact .inl h
  · exact .inr ⟨g, cap, cur, rfl, hb, by rw [hg g rfl]; exact hgg, rest⟩
theorem own_below {w w' : World} {base e k n : Nat} {v : Value} {xs : List Value} (h : w.ownsRow base e k v n xs) (hb : Below w.heap.size w w') : w'.ownsRow base e k v n xs :=
  own_kept h fun g hg => hb.block g (h.lt g hg).2
/-- The block of a row of the call's own. -/
theorem own_block {w : World} {base e k n : Nat} {v : Value} {xs : List Value} (h : w.ownsRow base e k v n xs) {g : Nat} (hg : v.ownBlock = some g) : ∃ cur, w.heap[g]? = some (.cells cur e (0, 0)) := by
  rcases h.2 with ⟨rfl, _⟩ | ⟨g', cap, cur, rfl, _, hgg, _⟩
  · simp [Value.ownBlock] at hg
  · simp [Value.ownBlock] at hg
    subst hg
    exact ⟨cur, hgg⟩
/-- Rows of unlike elements lie apart. -/
theorem own_apart {w : World} {base base' e e' k k' n n' : Nat} {v v' : Value} {xs xs' : List Value} (h : w.ownsRow base e k v n xs) (h' : w.ownsRow base' e' k' v' n' xs') (hne : e ≠ e') {g : Nat} (hg : v.ownBlock = some g) : v'.ownBlock ≠ some g := by
  intro hg'
  obtain ⟨c, hc⟩ := own_block h hg
  obtain ⟨c', hc'⟩ := own_block h' hg'
  rw [hc] at hc'
  injection hc' with e1
  injection e1 with _ e2
  exact hne e2
theorem own_not {w : World} {base e e' k n b : Nat} {v : Value} {xs : List Value} {cs : Array Value} (h : w.ownsRow base e k v n xs) (hb : w.heap[b]? = some (.cells cs e' (0, 0))) (hne : e ≠ e') : v.ownBlock ≠ some b := by
  intro hg
  obtain ⟨c, hc⟩ := own_block h hg
  rw [hb] at hc
  injection hc with e1
  injection e1 with _ e2
  exact hne e2.symm
theorem own_one {w : World} {base e k n : Nat} {v : Value} {xs : List Value} (h : w.ownsRow base e k v n xs) : v.oneCell' = true := by
  obtain ⟨a, c, rfl⟩ := own_shape h
  rfl
theorem one_new {e : Nat} (w : World) (u : Value) : ∀ j v, [u][j]? = some v → (w.alloc (.cells #[u] e)).cell? ((⟨w.heap.size, 0, none⟩ : Addr).add j) = some v := fun j v hj => by
  have : j = 0 := by
    have := (List.getElem?_eq_some_iff.1 hj).1
    simp at this; exact this
  subst this
  simp at hj; subst hj
  rw [addr_add]; exact cell_in (new_in w _) rfl
theorem grown_bel {a w w' : World} {row : Option Nat} (h : Below a.heap.size a w) (hg : w.grownBy w' row) (hr : ∀ g, row = some g → a.heap.size ≤ g) : Below a.heap.size a w' := h.grown hg h.size (fun k hk => hr k hk)
end Go.Proofs.Ytfepdieeiplbnaa
