/-
  What a law's arguments are: slices of numbers, and of rows of numbers, as they are read ahead of the call. No program in sight.
-/
import Derived.Deep.Slices
import Derived.Test.YtfepdieeiplbnaaHeap
import Derived.Test.YtfepdieeiplbnaaPickMath
import Derived.OpenShut
namespace Go.Proofs.Ytfepdieeiplbnaa
open Go.RowKit Go.ChangeShapes Go.WideShapes
/-- A slice that came in: its elements, each of k cells. -/
def ArgS {α : Type} (k : Nat) (cells : α → List Value) (w : World) (v : Value) (l : List α) : Prop :=
  ∃ a c, v = .slice a l.length c ∧ l.length ≤ c ∧ c ≤ maxLen ∧
    (l = [] ∨ ∃ b o, a = some ⟨b, o, none⟩ ∧ b < w.heap.size ∧ ∀ i r, l[i]? = some r → ∀ j u, (cells r)[j]? = some u → w.cell? ⟨b, o + i * k + j, none⟩ = some u)
theorem ArgS.below {α : Type} {k : Nat} {cells : α → List Value} {w w' : World} {v : Value} {l : List α} (h : ArgS k cells w v l) (hb : Below w.heap.size w w') : ArgS k cells w' v l := by
  obtain ⟨a, c, hv, h1, h2, h3⟩ := h
  refine ⟨a, c, hv, h1, h2, ?_⟩
  rcases h3 with h3 | ⟨b, o, ha, hlt, hc⟩
  · exact .inl h3
  · exact .inr ⟨b, o, ha, Nat.lt_of_lt_of_le hlt hb.size, fun i r hi j u hj => by rw [hb.cell (p := ⟨b, _, none⟩) hlt]; exact hc i r hi j u hj⟩
theorem nums_of {cs : List Value} (h : ∀ i, i < cs.length → ∃ a, cs[i]? = some (.int .i64 a) ∧ (Lit.int .i64 a).wf = true) :
    ∃ l : List Int, cs = l.map (Value.int .i64) ∧ ∀ a ∈ l, (Lit.int .i64 a).wf = true := by
  induction cs with
  | nil => exact ⟨[], rfl, by simp⟩
  | cons c cs ih =>
    obtain ⟨l, hl, hw⟩ := ih (fun i hi => by simpa using h (i + 1) (by simpa using hi))
    obtain ⟨a, ha, haw⟩ := h 0 (by simp)
    simp at ha
    subst ha hl
    exact ⟨a :: l, rfl, by simpa using ⟨haw, hw⟩⟩
theorem list_eta {α : Type} (l : List α) (x : α) (i : Nat) (h : l[i]? = some x) : (l.drop i).take 1 = [x] := by
  have hi := (List.getElem?_eq_some_iff.1 h).1
  rw [List.drop_eq_getElem_cons hi, List.take_succ_cons, List.take_zero]
  rw [List.getElem?_eq_getElem hi] at h
  injection h with h; rw [h]
theorem first_of {α : Type} {l : List α} {x : α} {i : Nat} (h : (l.drop i).take 1 = [x]) : l[i]? = some x := by
  have := congrArg (fun l => l[0]?) h
  simpa using this
section
variable {H : Type} {enc : TypeId × Value → H} {P : Program} {w : World} {base : Nat} {spare : Nat → Bool} {held : Bool}
theorem open_arr {t e : TypeId} {n : Nat} (ht : P.underlying t = some (.array n e)) (he : P.underlying e = some (.int .i64)) (hc : P.cellsOf e = 1) (hct : P.cellsOf t = n) {fuel : Nat} {cs : List Value} {x : DataW H × List MemPlace}
    (h : DataW.trod enc P w base spare held fuel t cs = some x) : ∃ l : List Int, l.length = n ∧ cs = l.map (Value.int .i64) ∧ ∀ a ∈ l, (Lit.int .i64 a).wf = true := by
  obtain ⟨xs, m, rfl, rfl, hl, hn, hf⟩ := DataW.trod_array ht h
  rw [hct] at hl
  obtain ⟨l, h1, h2⟩ := nums_of (cs := cs) (fun i hi => by
    have hi' : i < n := by omega
    have e1 := hf i hi'
    rw [hc, Nat.mul_one, List.getElem?_eq_getElem (by omega)] at e1
    obtain ⟨a, h, _, hw⟩ := DataW.trod_int he e1
    exact ⟨a, first_of h, hw⟩)
  refine ⟨l, ?_, h1, h2⟩
  rw [← hl, h1, List.length_map]
abbrev c1 (n : Int) : List Value := [.int .i64 n]
abbrev c3 (r : Int × Int × Int) : List Value := [.int .i64 r.1, .int .i64 r.2.1, .int .i64 r.2.2]
abbrev c4 (r : Int × Int × Int × Int) : List Value := [.int .i64 r.1, .int .i64 r.2.1, .int .i64 r.2.2.1, .int .i64 r.2.2.2]
abbrev ok3 (r : Int × Int × Int) : Prop := I64 r.1 ∧ I64 r.2.1 ∧ I64 r.2.2
abbrev ok4 (r : Int × Int × Int × Int) : Prop := I64 r.1 ∧ I64 r.2.1 ∧ I64 r.2.2.1 ∧ I64 r.2.2.2
theorem open_one {t : TypeId} (ht : P.underlying t = some (.int .i64)) {fuel : Nat} {cs : List Value} {x : DataW H × List MemPlace} (h : DataW.trod enc P w base spare held fuel t cs = some x) : ∃ r : Int, cs = c1 r ∧ I64 r := by
  obtain ⟨n, h1, _, hw⟩ := DataW.trod_int ht h
  exact ⟨n, h1, i64_of_wf hw⟩
theorem open_two {t e : TypeId} (ht : P.underlying t = some (.array 2 e)) (he : P.underlying e = some (.int .i64)) (hc : P.cellsOf e = 1) (hct : P.cellsOf t = 2) {fuel : Nat} {cs : List Value} {x : DataW H × List MemPlace}
    (h : DataW.trod enc P w base spare held fuel t cs = some x) : ∃ a b : Int, cs = [.int .i64 a, .int .i64 b] ∧ I64 a ∧ I64 b := by
  obtain ⟨l, hl, h1, hw⟩ := open_arr ht he hc hct h
  match l, hl, h1, hw with
  | [a, b], _, h1, hw => exact ⟨a, b, h1, i64_of_wf (hw a (by simp)), i64_of_wf (hw b (by simp))⟩
theorem open_three {t e : TypeId} (ht : P.underlying t = some (.array 3 e)) (he : P.underlying e = some (.int .i64)) (hc : P.cellsOf e = 1) (hct : P.cellsOf t = 3) {fuel : Nat} {cs : List Value} {x : DataW H × List MemPlace}
    (h : DataW.trod enc P w base spare held fuel t cs = some x) : ∃ r : Int × Int × Int, cs = c3 r ∧ ok3 r := by
  obtain ⟨l, hl, h1, hw⟩ := open_arr ht he hc hct h
  match l, hl, h1, hw with
  | [a, b, c], _, h1, hw => exact ⟨(a, b, c), h1, i64_of_wf (hw a (by simp)), i64_of_wf (hw b (by simp)), i64_of_wf (hw c (by simp))⟩
theorem open_four {t e : TypeId} (ht : P.underlying t = some (.array 4 e)) (he : P.underlying e = some (.int .i64)) (hc : P.cellsOf e = 1) (hct : P.cellsOf t = 4) {fuel : Nat} {cs : List Value} {x : DataW H × List MemPlace}
    (h : DataW.trod enc P w base spare held fuel t cs = some x) : ∃ r : Int × Int × Int × Int, cs = c4 r ∧ ok4 r := by
  obtain ⟨l, hl, h1, hw⟩ := open_arr ht he hc hct h
  match l, hl, h1, hw with
  | [a, b, c, d], _, h1, hw => exact ⟨(a, b, c, d), h1, i64_of_wf (hw a (by simp)), i64_of_wf (hw b (by simp)), i64_of_wf (hw c (by simp)), i64_of_wf (hw d (by simp))⟩
theorem cell_none {w : World} {a : Addr} {v : Value} (h : w.cell? a = some v) : a.spot = none ∧ a.block < w.heap.size := by
  unfold World.cell? at h
  split at h
  · rename_i c _ _ hh
    refine ⟨?_, ?_⟩
    · cases hs : a.spot with
      | none => rfl
      | some x => simp [hs] at h
    · by_cases hlt : a.block < w.heap.size
      · exact hlt
      · rw [Array.getElem?_eq_none (by omega)] at hh; cases hh
  · cases h
theorem open_elems {α : Type} [Inhabited α] (cells : α → List Value) (k : Nat) (ok : α → Prop) {t e : TypeId} (ht : P.underlying t = some (.slice e)) (hk : P.cellsOf e = k) (hk0 : 0 < k)
    (hop : ∀ fuel cs x, DataW.trod enc P w base spare held fuel e cs = some x → ∃ r : α, cs = cells r ∧ ok r) {fuel : Nat} {cs : List Value} {x : DataW H × List MemPlace}
    (h : DataW.trod enc P w base spare held fuel t cs = some x) : ∃ (v : Value) (l : List α), cs = [v] ∧ ArgS k cells w v l ∧ ∀ r ∈ l, ok r := by
  rcases Deep.open_slice ht h with ⟨h0, _⟩ | ⟨a, len, cap, m, n, D, Pl, rfl, hb, hl, hm, hmm, rfl, hx⟩
  · exact ⟨_, [], h0, ⟨none, 0, rfl, by simp, by simp, .inl rfl⟩, by simp⟩
  · have hlm : len ≤ m := by rw [hmm]; split <;> omega
    obtain ⟨R, hR⟩ := Deep.choose_lt (α := α) (n := len) (p := fun i r => w.cells? base (a.add (i * k)) k = some (cells r) ∧ ok r) (fun i hi => by
      obtain ⟨cs', h1, h2⟩ := hx i (by omega)
      obtain ⟨r, hr, hok⟩ := hop _ _ _ h2
      rw [hk, hr] at h1
      exact ⟨r, h1, hok⟩)
    refine ⟨_, (List.range len).map R, rfl, ⟨some a, cap, by simp, by simpa using hl, hm, ?_⟩, ?_⟩
    · by_cases h0 : len = 0
      · left; simp [h0]
      · right
        obtain ⟨h1, _⟩ := hR 0 (by omega)
        obtain ⟨_, hlen, hc⟩ := World.cells?_some h1
        have hc0 := hc 0 hk0
        rw [List.getElem?_eq_getElem (by omega)] at hc0
        obtain ⟨hs, hlt⟩ := cell_none hc0
        obtain ⟨b, o, s⟩ := a
        have hs' : s = none := by
          cases s with
          | none => rfl
          | some y =>
            exfalso
            by_cases hi : 0 * k = 0 <;> simp [Addr.add] at hs
        subst hs'
        refine ⟨b, o, rfl, by simpa [Addr.add] using hlt, ?_⟩
        intro i r hi j u hj
        have hi' : i < len := by
          have := (List.getElem?_eq_some_iff.1 hi).1
          simpa using this
        have er : r = R i := by simpa [hi'] using hi.symm
        subst er
        obtain ⟨h1, _⟩ := hR i hi'
        obtain ⟨_, hlen, hc⟩ := World.cells?_some h1
        have hj' : j < k := by
          have := (List.getElem?_eq_some_iff.1 hj).1
          omega
        have := hc j hj'
        rw [hj, addr_add, addr_add] at this
        exact this
    · intro r hr
      obtain ⟨i, hi, rfl⟩ := List.mem_map.1 hr
      exact (hR i (by simpa using hi)).2
theorem open_slice_arg {α : Type} [Inhabited α] (cells : α → List Value) (k : Nat) (ok : α → Prop) {t e : TypeId} (ht : P.underlying t = some (.slice e)) (hk : P.cellsOf e = k) (hk0 : 0 < k)
    (hop : ∀ fuel cs x, DataW.trod enc P w base spare held fuel e cs = some x → ∃ r : α, cs = cells r ∧ ok r) {r : Reach} {b0 : Nat} {w0 : World} {v : Value} {d : DataW H} {ps : List MemPlace}
    (hval : Value.okWide P w0 r b0 t v) (h : DataW.Trod enc P w base spare held t v d ps) : ∃ l : List α, ArgS k cells w v l ∧ ∀ r ∈ l, ok r := by
  obtain ⟨a, len, cap, rfl⟩ := okWide_slice ht hval
  obtain ⟨fuel, hf⟩ := h
  obtain ⟨v', l, e1, h1, h2⟩ := open_elems cells k ok ht hk hk0 hop hf
  simp [Value.cells] at e1
  subst e1
  exact ⟨l, h1, h2⟩
theorem okWide_array {n : Nat} {e t : TypeId} (ht : P.underlying t = some (.array n e)) {r : Reach} {b0 : Nat} {w0 : World} {v : Value} (h : Value.okWide P w0 r b0 t v) : ∃ cs, v = .agg cs := by
  unfold Value.okWide at h
  rw [ht] at h
  obtain ⟨cs, h, _⟩ := h
  exact ⟨cs, h⟩
end
end Go.Proofs.Ytfepdieeiplbnaa
