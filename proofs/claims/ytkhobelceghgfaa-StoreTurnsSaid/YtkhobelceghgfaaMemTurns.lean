/-
  Two stores drained in either order, and what one hart has pending: plain.
-/
import Derived.Test.YtkhobelceghgfaaMemPlain2
namespace Go.Proofs.Ytkhobelceghgfaa
open Go.RowKit
theorem drain_at {m : Mem} {H W : Nat} (g : Good m H W) {h : Int} (h0 : 0 ≤ h) (h1 : h < H) {k : Nat} {x : Int × Int} (hx : (pendOf m h)[k]? = some x) (ha : ∀ y ∈ (pendOf m h).take k, y.1 ≠ x.1) :
    drainR m h k = (setPend (goesM m h x.1 x.2) h ((pendOf m h).eraseIdx k), 0) := by
  have hb := g.hart h0 h1
  obtain ⟨x0, x1⟩ := g.at hb (List.mem_of_getElem? hx)
  rw [drain_mem hb hx, g.has h0 h1 x0 x1]
  have hno : anyAt ((pendOf m h).take k) x.1 = false := by
    rw [Bool.eq_false_iff]
    intro h
    unfold anyAt at h
    rw [List.any_eq_true] at h
    obtain ⟨y, hy, he⟩ := h
    exact ha y hy (by simpa using he)
  rw [hno]
  have : drainX m h k = setPend (goesM m h x.1 x.2) h ((pendOf m h).eraseIdx k) := by
    unfold drainX
    rw [show (pendOf m h).getD k (0, 0) = x by simp [List.getD, hx]]
  simp [this]
/-- In range, a drain goes well or something is ahead. -/
theorem drain_err {m : Mem} {H W : Nat} (g : Good m H W) {h : Int} (h0 : 0 ≤ h) (h1 : h < H) {k : Nat} (hk : k < (pendOf m h).length) : (drainR m h k).2 = 0 ∨ (drainR m h k).2 = 91 := by
  have hb := g.hart h0 h1
  have hx : (pendOf m h)[k]? = some (pendOf m h)[k] := List.getElem?_eq_getElem hk
  obtain ⟨x0, x1⟩ := g.at hb (List.mem_of_getElem? hx)
  rw [drain_mem hb hx, g.has h0 h1 x0 x1]
  simp only [if_true]
  split
  · exact .inr rfl
  · exact .inl rfl
theorem goRes_turn (h h' a a' : Int) (l : List Int) (_ : 0 ≤ a) (_ : 0 ≤ a') : goRes h a 0 (goRes h' a' 0 l) = goRes h' a' 0 (goRes h a 0 l) := by
  apply List.ext_getElem?
  intro i
  simp only [goRes_get, Option.map_map]
  congr 1
  funext r
  simp only [Function.comp]
  split <;> split <;> (try split) <;> (try split) <;> first | rfl | omega
theorem set_turn {α : Type} (l : List α) (i j : Nat) (x y : α) (h : i ≠ j) : (l.set i x).set j y = (l.set j y).set i x := List.set_comm _ _ h
theorem goes_turn (m : Mem) {h h' a a' n n' : Int} (ha : 0 ≤ a) (ha' : 0 ≤ a') (hne : a ≠ a') : goesM (goesM m h a n) h' a' n' = goesM (goesM m h' a' n') h a n := by
  unfold goesM
  simp only [Mem.mk.injEq, true_and]
  exact ⟨set_turn _ _ _ _ _ (by omega), goRes_turn _ _ _ _ _ ha' ha⟩
theorem pend_goes (m : Mem) (h a n b : Int) : pendOf (goesM m h a n) b = pendOf m b := rfl
theorem setPend_turn (m : Mem) {a b : Int} (a0 : 0 ≤ a) (b0 : 0 ≤ b) (hne : a ≠ b) (l l' : List (Int × Int)) : setPend (setPend m a l) b l' = setPend (setPend m b l') a l := by
  unfold setPend
  simp only [Mem.mk.injEq, true_and, and_true]
  exact set_turn _ _ _ _ _ (by omega)
theorem setPend_twice (m : Mem) (a : Int) (l l' : List (Int × Int)) : setPend (setPend m a l) a l' = setPend m a l' := by
  unfold setPend; simp
theorem goes_setPend (m : Mem) (a b c n : Int) (l : List (Int × Int)) : goesM (setPend m a l) b c n = setPend (goesM m b c n) a l := rfl
theorem erase_turn {α : Type} (l : List α) (i k : Nat) (h : i < k) : (l.eraseIdx i).eraseIdx (k - 1) = (l.eraseIdx k).eraseIdx i := by
  apply List.ext_getElem?
  intro j
  simp only [List.getElem?_eraseIdx]
  repeat' split
  all_goals first | rfl | omega | (congr 1; omega)
/-- Two harts. -/
theorem turns_two {m p q : Mem} {H W : Nat} (g : Good m H W) {a b : Int} {i k : Nat} {x y : Int × Int} (a0 : 0 ≤ a) (a1 : a < H) (b0 : 0 ≤ b) (b1 : b < H) (hne : a ≠ b)
    (hx : (pendOf m a)[i]? = some x) (hy : (pendOf m b)[k]? = some y) (hxy : x.1 ≠ y.1) (ep : drainR m a i = (p, 0)) (eq : drainR m b k = (q, 0)) : ∃ r, drainR p b k = (r, 0) ∧ drainR q a i = (r, 0) := by
  have gp := good_drain g ep
  have gq := good_drain g eq
  obtain ⟨_, _, ⟨x', hx', _, ax⟩, _⟩ := drain_ok ep
  obtain ⟨_, _, ⟨y', hy', _, ay⟩, _⟩ := drain_ok eq
  simp only [Int.toNat_natCast] at hx' hy' ax ay
  obtain rfl : x' = x := by rw [hx] at hx'; injection hx' with h; exact h.symm
  obtain rfl : y' = y := by rw [hy] at hy'; injection hy' with h; exact h.symm
  obtain ⟨x0, x1⟩ := g.at (g.hart a0 a1) (List.mem_of_getElem? hx)
  obtain ⟨y0, y1⟩ := g.at (g.hart b0 b1) (List.mem_of_getElem? hy)
  have pb := drain_other ep b0 (Ne.symm hne)
  have qa := drain_other eq a0 hne
  have e1 := drain_at gp b0 b1 (k := k) (by rw [pb]; exact hy) (by rw [pb]; exact ay)
  have e2 := drain_at gq a0 a1 (k := i) (by rw [qa]; exact hx) (by rw [qa]; exact ax)
  rw [pb] at e1
  rw [qa] at e2
  refine ⟨_, e1, ?_⟩
  rw [e2]
  rw [drain_at g a0 a1 hx ax] at ep
  rw [drain_at g b0 b1 hy ay] at eq
  injection ep with ep _
  injection eq with eq _
  subst ep eq
  rw [goes_setPend, goes_setPend, setPend_turn _ b0 a0 (Ne.symm hne), goes_turn m y0 x0 (Ne.symm hxy)]
/-- One hart, the first ahead of the second. -/
theorem turns_one {m p q : Mem} {H W : Nat} (g : Good m H W) {a : Int} {i k : Nat} {x y : Int × Int} (a0 : 0 ≤ a) (a1 : a < H) (hik : i < k)
    (hx : (pendOf m a)[i]? = some x) (hy : (pendOf m a)[k]? = some y) (hxy : x.1 ≠ y.1) (ep : drainR m a i = (p, 0)) (eq : drainR m a k = (q, 0)) : ∃ r, drainR p a ((k - 1 : Nat) : Int) = (r, 0) ∧ drainR q a i = (r, 0) := by
  have gp := good_drain g ep
  have gq := good_drain g eq
  obtain ⟨_, _, ⟨x', hx', _, ax⟩, _⟩ := drain_ok ep
  obtain ⟨_, _, ⟨y', hy', _, ay⟩, _⟩ := drain_ok eq
  simp only [Int.toNat_natCast] at hx' hy' ax ay
  obtain rfl : x' = x := by rw [hx] at hx'; injection hx' with h; exact h.symm
  obtain rfl : y' = y := by rw [hy] at hy'; injection hy' with h; exact h.symm
  have hb := g.hart a0 a1
  obtain ⟨x0, x1⟩ := g.at hb (List.mem_of_getElem? hx)
  obtain ⟨y0, y1⟩ := g.at hb (List.mem_of_getElem? hy)
  rw [drain_at g a0 a1 hx ax] at ep
  rw [drain_at g a0 a1 hy ay] at eq
  injection ep with ep _
  injection eq with eq _
  subst ep eq
  have pp : pendOf (setPend (goesM m a x'.1 x'.2) a ((pendOf m a).eraseIdx i)) a = (pendOf m a).eraseIdx i := pend_set ((good_goes g _ _ _).hart a0 a1) _
  have pq : pendOf (setPend (goesM m a y'.1 y'.2) a ((pendOf m a).eraseIdx k)) a = (pendOf m a).eraseIdx k := pend_set ((good_goes g _ _ _).hart a0 a1) _
  have e1 := drain_at gp a0 a1 (k := k - 1) (x := y') (by rw [pp, List.getElem?_eraseIdx, if_neg (by omega), show k - 1 + 1 = k by omega]; exact hy) (by
    rw [pp]
    intro z hz
    refine ay z ?_
    obtain ⟨j, hj⟩ := List.mem_iff_getElem?.1 hz
    rw [List.getElem?_take] at hj
    split at hj
    · rw [List.getElem?_eraseIdx] at hj
      split at hj
      · exact List.mem_iff_getElem?.2 ⟨j, by rw [List.getElem?_take, if_pos (by omega)]; exact hj⟩
      · exact List.mem_iff_getElem?.2 ⟨j + 1, by rw [List.getElem?_take, if_pos (by omega)]; exact hj⟩
    · cases hj)
  have e2 := drain_at gq a0 a1 (k := i) (x := x') (by rw [pq, List.getElem?_eraseIdx, if_pos hik]; exact hx) (by
    rw [pq]
    intro z hz
    refine ax z ?_
    obtain ⟨j, hj⟩ := List.mem_iff_getElem?.1 hz
    rw [List.getElem?_take] at hj
    split at hj
    · rw [List.getElem?_eraseIdx, if_pos (by omega)] at hj
      exact List.mem_iff_getElem?.2 ⟨j, by rw [List.getElem?_take, if_pos (by omega)]; exact hj⟩
    · cases hj)
  rw [pp] at e1
  rw [pq] at e2
  refine ⟨_, e1, ?_⟩
  rw [e2, goes_setPend, goes_setPend, setPend_twice, setPend_twice, goes_turn m y0 x0 (Ne.symm hxy), erase_turn _ _ _ hik]
end Go.Proofs.Ytkhobelceghgfaa
