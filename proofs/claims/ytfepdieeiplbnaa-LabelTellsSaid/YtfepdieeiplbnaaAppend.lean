/-
  append onto a slice that has no room left, of whatever slice: a new row, or as it was. No program in sight.
-/
import Derived.Test.YtfepdieeiplbnaaHeap
import Derived.Test.YtfepdieeiplbnaaBw
import Derived.Deep.AppendSrc
namespace Go.Proofs.Ytfepdieeiplbnaa
open Go.RowKit
section
variable {P : Program}
theorem src_of_reads {w : World} {k m : Nat} {src : Value} {ys : List Value} {tx e' : TypeId} (htx : P.underlying tx = some (.slice e')) (h : Reads w k m src ys) : Src P k tx src m ys w := by
  obtain ⟨h1, h2, h3⟩ := h
  rcases h3 with ⟨rfl, rfl⟩ | ⟨b, o, c, rfl, hlt, hc, hm, hcell⟩
  · have : ys = [] := List.eq_nil_of_length_eq_zero (by simpa using h1)
    subst this
    exact Src.ofNil w htx 0
  · exact Src.ofSlice w htx ⟨b, o, none⟩ m c ys h1 (fun j u hj => by rw [addr_add]; exact hcell j u hj) h2
theorem append_full {w : World} {k n m : Nat} {dst src : Value} {xs ys : List Value} {t tx ty e e' : TypeId} {i : TypeInfo} {z : Value} (ht : P.underlying t = some (.slice e)) (htx : P.underlying tx = some (.slice e'))
    (hi : P.info? e = some i) (hz : i.zero = some z) (hk : i.size = k) (hd : Reads w k n dst xs) (hfull : ∃ b o, dst = .slice (some ⟨b, o, none⟩) n n) (hs : Reads w k m src ys)
    (hmax : n + m ≤ 1000000) (hby : i.bytes ≤ 1000) :
    ∃ v w', (Builtin.append_ #[t, tx] ty #[dst, src]).run P w = .ok v w' ∧ Reads w' k (n + m) v (xs ++ ys) ∧ Below w.heap.size w w' := by
  obtain ⟨b, o, rfl⟩ := hfull
  have hsrc : Src P i.size tx src m ys w := by rw [hk]; exact src_of_reads htx hs
  obtain ⟨h1, h2, h3⟩ := hd
  rcases h3 with ⟨h, _⟩ | ⟨b', o', c', hv, hlt, hc, hm, hcell⟩
  · cases h
  injection hv with e1 _ e2
  injection e1 with e1
  injection e1 with e3 e4
  subst e2 e3 e4
  by_cases hm0 : m = 0
  · subst hm0
    have : ys = [] := List.eq_nil_of_length_eq_zero (by simpa using hs.1)
    subst this
    have hr := run_append_room_src w t tx ty e i ht hi b o n n src 0 [] hsrc (by omega) (fun j hj => by simp at hj) (fun j hj => by simp at hj)
    refine ⟨_, _, hr, ?_, ?_⟩
    · simp only [Nat.add_zero, List.append_nil]
      exact ⟨h1, h2, .inr ⟨b, o, n, rfl, hlt, hc, hm, hcell⟩⟩
    · exact Below.refl _ _
  · have hr := run_append_grow_src w t tx ty e i z ht hi hz (some ⟨b, o, none⟩) n n xs (run_firstCells_some w.drew i.size n ⟨b, o, none⟩ n n xs (by rw [hk]; exact h1) (fun j u hj => by rw [addr_add]; exact hcell j u hj)) src m ys hsrc (by omega) (by omega)
      (growslice_fits (by omega) (Nat.le_trans (Nat.mul_le_mul hmax hby) (by decide)))
    refine ⟨_, _, hr, ?_, (Below.refl _ _).drew.alloc (Nat.le_refl _) _⟩
    have hge := grownCap_ge w (n + m) n e
    have hle := grownCap_le_maxLen w (n + m) n e (by unfold maxLen; omega)
    refine ⟨by rw [List.length_append, h1, hs.1, Nat.add_mul], fun u hu => ?_, .inr ⟨w.heap.size, 0, _, rfl, by simp, hge, hle, fun j u hj => ?_⟩⟩
    · rcases List.mem_append.1 hu with hu | hu
      · exact h2 u hu
      · exact hs.2.1 u hu
    · rw [show 0 + j = j from Nat.zero_add j]
      refine cell_in (new_in w.drew _) ?_
      have hj' := (List.getElem?_eq_some_iff.1 hj).1
      rw [Array.getElem?_append_left (by simpa using hj')]
      simpa using hj
theorem wpList_append_run {w : World} {ops : Array Oper} {rest : List Oper} {o : Oper} {a : Act} {Q : Exit → Act → World → Prop} (hgd : o.guard = none) (s x : Operand) (t tx : TypeId)
    (ho : o.op = .call { callee := .builtin .append, args := #[s, x], argTypes := #[t, tx] }) (dv xv v' : Value) (w' : World) (hs : a.eval s = dv) (hx : a.eval x = xv)
    (hrun : (Builtin.append_ #[t, tx] o.type #[dv, xv]).run P w = .ok v' w') (h : wpList P ops Q rest (a.put o.dst v') w') : wpList P ops Q (o :: rest) a w :=
  wpList_plain hgd fun K hK' => by
    unfold Oper.wp
    simp [execOp, ho, resolve, invoke, builtin, hs, hx, hrun, Result.andThen]
    exact hK' _ _ h
end
end Go.Proofs.Ytfepdieeiplbnaa
