/-
  Items: what they are, how long they are, where they stand, which branches grow. Plain: no program in sight. A map of the call's own from labels to places in a list. Items compared.
-/
import Derived.Test.YtfepdieeiplbnaaLabA
import Derived.Test.YtfepdieeiplbnaaCodeEnc
import Derived.Test.YtfepdieeiplbnaaInsEq
import Derived.Maps.Own
import Derived.Maps.OwnSet
import Derived.Maps.Views
namespace Go.Proofs.Ytfepdieeiplbnaa
open Go.RowKit
structure Itm where
  kind : Int
  i : Ins
  name : ByteArray
  n : Int
theorem itm_iff (x y : Itm) : (x.kind = y.kind ∧ x.i = y.i ∧ x.name = y.name ∧ x.n = y.n) ↔ x = y := by
  obtain ⟨a, b, c, d⟩ := x
  obtain ⟨a', b', c', d'⟩ := y
  simp
instance : DecidableEq Itm := fun x y => decidable_of_iff _ (itm_iff x y)
def noI : Ins := ⟨0, 0, 0, 0, 0⟩
def noItm : Itm := ⟨0, noI, ⟨#[]⟩, 0⟩
def itC (x : Itm) : List Value := [.int .i64 x.kind, .int .i64 x.i.op, .int .i64 x.i.d, .int .i64 x.i.a, .int .i64 x.i.b, .int .i64 x.i.n, .string x.name, .int .i64 x.n]
def itV (x : Itm) : Value := .agg #[.int .i64 x.kind, .int .i64 x.i.op, .int .i64 x.i.d, .int .i64 x.i.a, .int .i64 x.i.b, .int .i64 x.i.n, .string x.name, .int .i64 x.n]
def toB (x : Itm) : Bool := rightB x.i && (decide (x.i.n = 0) && ((isBr x.i.op || decide (x.i.op = 3)) && labelB x.name))
def numB (d n : Int) : Bool := decide (1 ≤ d) && (decide (d < 32) && decide (wrap32 n = n))
def nopB (n : Int) : Bool := decide (0 ≤ n) && decide (n ≤ 4096)
/-- May an item be, by itself? -/
def itemB (x : Itm) : Bool :=
  if x.kind = 1 then decide (x = ⟨1, x.i, ⟨#[]⟩, 0⟩) && rightB x.i
  else if x.kind = 2 then decide (x = ⟨2, noI, x.name, 0⟩) && labelB x.name
  else if x.kind = 3 then decide (x = ⟨3, x.i, x.name, 0⟩) && toB x
  else if x.kind = 4 then decide (x = ⟨4, ⟨0, x.i.d, 0, 0, 0⟩, ⟨#[]⟩, x.n⟩) && numB x.i.d x.n
  else if x.kind = 5 then decide (x = ⟨5, noI, ⟨#[]⟩, x.n⟩) && nopB x.n
  else false
theorem labL_nil (d n : Int) : labL d n = [] ↔ numB d n = false := by
  unfold labL numB
  by_cases h : 1 ≤ d ∧ d < 32 ∧ wrap32 n = n
  · rw [if_pos h]
    obtain ⟨a, b, c⟩ := h
    simp [a, b, c]
    split <;> simp
  · rw [if_neg h]
    simp
    intro a b c
    exact h ⟨a, b, c⟩
/-- How many words an item has. -/
def sizeZ (x : Itm) (long : Bool) : Int :=
  if x.kind = 2 then 0 else if x.kind = 5 then x.n else if x.kind = 4 then ((labL x.i.d x.n).length : Nat) else if long then 2 else 1
theorem labL_len (d n : Int) : (labL d n).length ≤ 2 := by
  unfold labL
  split
  · split <;> simp
  · simp
theorem itemB_nops {x : Itm} (h : itemB x = true) (hk : x.kind = 5) : 0 ≤ x.n ∧ x.n ≤ 4096 := by
  unfold itemB at h
  rw [if_neg (by omega), if_neg (by omega), if_neg (by omega), if_neg (by omega), if_pos hk] at h
  simp only [Bool.and_eq_true] at h
  have := h.2
  unfold nopB at this
  simpa using this
theorem size_bd {x : Itm} (h : itemB x = true) (g : Bool) : 0 ≤ sizeZ x g ∧ sizeZ x g ≤ 4096 := by
  unfold sizeZ
  split
  · omega
  split
  · rename_i hk; exact itemB_nops h hk
  split
  · have := labL_len x.i.d x.n; omega
  split <;> omega
theorem size_mono {x : Itm} {g g' : Bool} (h : g = true → g' = true) : sizeZ x g ≤ sizeZ x g' := by
  unfold sizeZ
  split
  · omega
  split
  · omega
  split
  · omega
  cases g <;> cases g' <;> simp at h ⊢
def it (l : List Itm) (i : Nat) : Itm := l.getD i noItm
theorem it_at {l : List Itm} {i : Nat} (h : i < l.length) : it l i = l[i] := by simp [it, h]
theorem it_get {l : List Itm} {i : Nat} (h : i < l.length) : l[i]? = some (it l i) := by simp [it, h]
theorem it_far {l : List Itm} {i : Nat} (h : l.length ≤ i) : it l i = noItm := by simp [it, h]
def allB (l : List Itm) : Prop := ∀ i, i < l.length → itemB (it l i) = true
/-- Where items are, in bytes. -/
def pl (l : List Itm) (L : Nat → Bool) : Nat → Int
  | 0 => 0
  | k + 1 => pl l L k + 4 * sizeZ (it l k) (L k)
theorem pl_bd {l : List Itm} (h : allB l) (L : Nat → Bool) (k : Nat) (hk : k ≤ l.length) : 0 ≤ pl l L k ∧ pl l L k ≤ 16384 * k := by
  induction k with
  | zero => simp [pl]
  | succ k ih =>
    have := ih (by omega)
    have := size_bd (h k (by omega)) (L k)
    simp only [pl]; omega
theorem pl_le {l : List Itm} (h : allB l) (L : Nat → Bool) (j k : Nat) (hjk : j ≤ k) (hk : k ≤ l.length) : pl l L j ≤ pl l L k := by
  induction k with
  | zero => rw [show j = 0 by omega]; exact Int.le_refl _
  | succ k ih =>
    by_cases e : j = k + 1
    · rw [e]; exact Int.le_refl _
    · have := ih (by omega) (by omega)
      have := size_bd (h k (by omega)) (L k)
      simp only [pl]; omega
theorem pl_congr {l : List Itm} {L L' : Nat → Bool} (k : Nat) (h : ∀ i, i < k → L i = L' i) : pl l L k = pl l L' k := by
  induction k with
  | zero => rfl
  | succ k ih => simp only [pl]; rw [ih (fun i hi => h i (by omega)), h k (by omega)]
/-- The label's item, the last one of that name among the first k. -/
def mp (l : List Itm) : Nat → ByteArray → Option Nat
  | 0, _ => none
  | k + 1, s => if (it l k).kind = 2 ∧ (it l k).name = s then some k else mp l k s
def labI (l : List Itm) (s : ByteArray) : Option Nat := mp l l.length s
theorem mp_some {l : List Itm} {k j : Nat} {s : ByteArray} (h : mp l k s = some j) : j < k ∧ (it l j).kind = 2 ∧ (it l j).name = s := by
  induction k with
  | zero => cases h
  | succ k ih =>
    simp only [mp] at h
    split at h
    · rename_i hc
      injection h with h; subst h
      exact ⟨by omega, hc⟩
    · obtain ⟨a, b⟩ := ih h
      exact ⟨by omega, b⟩
theorem mp_none {l : List Itm} {k : Nat} {s : ByteArray} (h : mp l k s = none) (j : Nat) (hj : j < k) (hk : (it l j).kind = 2) : (it l j).name ≠ s := by
  induction k with
  | zero => omega
  | succ k ih =>
    simp only [mp] at h
    split at h
    · cases h
    · rename_i hc
      by_cases e : j = k
      · subst e; exact fun hs => hc ⟨hk, hs⟩
      · exact ih h (by omega)
def okL (l : List Itm) : Nat → Bool
  | 0 => true
  | k + 1 => okL l k && !(decide ((it l k).kind = 2) && (mp l k (it l k).name).isSome)
def nmL (l : List Itm) : Nat → Bool
  | 0 => true
  | k + 1 => nmL l k && !(decide ((it l k).kind = 3) && (labI l (it l k).name).isNone)
def knownB (l : List Itm) : Bool := okL l l.length && nmL l l.length
theorem okL_one {l : List Itm} {k : Nat} (h : okL l k = true) (i j : Nat) (hj : j < k) (hij : i < j) (hi2 : (it l i).kind = 2) (hj2 : (it l j).kind = 2) : (it l i).name ≠ (it l j).name := by
  induction k with
  | zero => omega
  | succ k ih =>
    simp only [okL, Bool.and_eq_true] at h
    by_cases e : j = k
    · subst e
      have h2 := h.2
      simp only [hj2, decide_true, Bool.true_and, Bool.not_eq_true', Option.isSome_eq_false_iff, Option.isNone_iff_eq_none] at h2
      exact mp_none h2 i hij hi2
    · exact ih h.1 (by omega)
theorem okL_of {l : List Itm} {k : Nat} (h : ∀ i j, j < k → i < j → (it l i).kind = 2 → (it l j).kind = 2 → (it l i).name ≠ (it l j).name) : okL l k = true := by
  induction k with
  | zero => rfl
  | succ k ih =>
    simp only [okL, Bool.and_eq_true]
    refine ⟨ih (fun i j hj => h i j (by omega)), ?_⟩
    by_cases hk : (it l k).kind = 2
    · cases hm : mp l k (it l k).name with
      | none => simp
      | some j =>
        obtain ⟨a, b, c⟩ := mp_some hm
        exact absurd c (h j k (by omega) a b hk)
    · simp [hk]
theorem nmL_at {l : List Itm} {k : Nat} (h : nmL l k = true) (j : Nat) (hj : j < k) (h3 : (it l j).kind = 3) : ∃ i, labI l (it l j).name = some i := by
  induction k with
  | zero => omega
  | succ k ih =>
    simp only [nmL, Bool.and_eq_true] at h
    by_cases e : j = k
    · subst e
      have h2 := h.2
      simp only [h3, decide_true, Bool.true_and, Bool.not_eq_true'] at h2
      cases hm : labI l (it l j).name with
      | none => rw [hm] at h2; cases h2
      | some i => exact ⟨i, rfl⟩
    · exact ih h.1 (by omega)
theorem nmL_of {l : List Itm} {k : Nat} (h : ∀ j, j < k → (it l j).kind = 3 → ∃ i, labI l (it l j).name = some i) : nmL l k = true := by
  induction k with
  | zero => rfl
  | succ k ih =>
    simp only [nmL, Bool.and_eq_true]
    refine ⟨ih (fun j hj => h j (by omega)), ?_⟩
    by_cases hk : (it l k).kind = 3
    · obtain ⟨i, hi⟩ := h k (by omega) hk
      simp [hi]
    · simp [hk]
theorem labI_at {l : List Itm} {k : Nat} (h : okL l k = true) (j : Nat) (hj : j < k) (h2 : (it l j).kind = 2) : mp l k (it l j).name = some j := by
  cases hm : mp l k (it l j).name with
  | none => exact absurd rfl (mp_none hm j hj h2)
  | some i =>
    obtain ⟨a, b, c⟩ := mp_some hm
    rcases Nat.lt_trichotomy i j with e | e | e
    · exact absurd c (okL_one h i j hj e b h2)
    · rw [e]
    · exact absurd c.symm (okL_one h j i a e h2 b)
/-- How far an item's label is. -/
def dst (l : List Itm) (L : Nat → Bool) (i : Nat) : Int := pl l L ((labI l (it l i).name).getD 0) - pl l L i
def farB (z : Int) : Bool := decide (z < -4096) || decide (4094 < z)
/-- May an item grow at all? -/
def growK (x : Itm) : Bool := decide (x.kind = 3) && !decide (x.i.op = 3)
def needs (l : List Itm) (L : Nat → Bool) (i : Nat) : Bool := growK (it l i) && (!L i && farB (dst l L i))
def growF (l : List Itm) (L : Nat → Bool) : Nat → Bool := fun i => L i || needs l L i
def itL (l : List Itm) : Nat → Nat → Bool
  | 0 => fun _ => false
  | k + 1 => growF l (itL l k)
/-- So much of an item's list has grown at the first k. -/
def grownB (l : List Itm) (L : Nat → Bool) : Nat → Bool
  | 0 => false
  | k + 1 => grownB l L k || needs l L k
theorem grown_none {l : List Itm} {L : Nat → Bool} {k : Nat} (h : grownB l L k = false) (i : Nat) (hi : i < k) : needs l L i = false := by
  induction k with
  | zero => omega
  | succ k ih =>
    simp only [grownB, Bool.or_eq_false_iff] at h
    by_cases e : i = k
    · subst e; exact h.2
    · exact ih h.1 (by omega)
theorem grown_some {l : List Itm} {L : Nat → Bool} {k : Nat} (h : grownB l L k = true) : ∃ i, i < k ∧ needs l L i = true := by
  induction k with
  | zero => cases h
  | succ k ih =>
    simp only [grownB, Bool.or_eq_true] at h
    rcases h with h | h
    · obtain ⟨i, hi, hn⟩ := ih h; exact ⟨i, by omega, hn⟩
    · exact ⟨k, by omega, h⟩
theorem needs_far {l : List Itm} {L : Nat → Bool} {i : Nat} (h : l.length ≤ i) : needs l L i = false := by
  unfold needs; rw [it_far h]; rfl
theorem growF_same {l : List Itm} {L : Nat → Bool} (h : grownB l L l.length = false) : growF l L = L := by
  funext i
  unfold growF
  by_cases hi : i < l.length
  · rw [grown_none h i hi, Bool.or_false]
  · rw [needs_far (by omega), Bool.or_false]
theorem grown_stop {l : List Itm} {L : Nat → Bool} (h : growF l L = L) (k : Nat) : grownB l L k = false := by
  induction k with
  | zero => rfl
  | succ k ih =>
    simp only [grownB, ih, Bool.false_or]
    have := congrFun h k
    unfold growF at this
    cases hn : needs l L k
    · rfl
    · rw [hn, Bool.or_true] at this
      unfold needs at hn
      rw [← this] at hn
      simp at hn
theorem itL_stays {l : List Itm} {k : Nat} (h : growF l (itL l k) = itL l k) (m : Nat) : itL l (k + m) = itL l k := by
  induction m with
  | zero => rfl
  | succ m ih => rw [← Nat.add_assoc]; simp only [itL]; rw [ih, h]
open Classical in
/-- Which items are long in the end. -/
noncomputable def longF (l : List Itm) : Nat → Bool := if h : ∃ k, growF l (itL l k) = itL l k then itL l (Classical.choose h) else fun _ => false
theorem long_of {l : List Itm} {k : Nat} (h : growF l (itL l k) = itL l k) : longF l = itL l k := by
  have hex : ∃ k, growF l (itL l k) = itL l k := ⟨k, h⟩
  unfold longF
  rw [dif_pos hex]
  have hc := Classical.choose_spec hex
  generalize Classical.choose hex = c at hc
  rcases Nat.le_total c k with e | e
  · obtain ⟨m, rfl⟩ := Nat.le.dest e
    exact (itL_stays hc m).symm
  · obtain ⟨m, rfl⟩ := Nat.le.dest e
    exact itL_stays h m
/-- How many are not long yet. -/
def shortN (L : Nat → Bool) : Nat → Nat
  | 0 => 0
  | k + 1 => shortN L k + if L k then 0 else 1
theorem short_le (L L' : Nat → Bool) (h : ∀ i, L i = true → L' i = true) (k : Nat) : shortN L' k ≤ shortN L k := by
  induction k with
  | zero => exact Nat.le_refl _
  | succ k ih =>
    simp only [shortN]
    by_cases e : L k = true
    · rw [e, h k e]; exact ih
    · rw [if_neg e]; split <;> omega
theorem short_lt (L L' : Nat → Bool) (h : ∀ i, L i = true → L' i = true) (k i : Nat) (hi : i < k) (h0 : L i = false) (h1 : L' i = true) : shortN L' k < shortN L k := by
  induction k with
  | zero => omega
  | succ k ih =>
    simp only [shortN]
    by_cases e : i = k
    · subst e
      have := short_le L L' h i
      rw [h0, h1]; simp; omega
    · have := ih (by omega)
      by_cases e : L k = true
      · rw [e, h k e]; omega
      · rw [if_neg e]; split <;> omega
theorem grow_lt {l : List Itm} {L : Nat → Bool} (h : grownB l L l.length = true) : shortN (growF l L) l.length < shortN L l.length := by
  obtain ⟨i, hi, hn⟩ := grown_some h
  refine short_lt L _ (fun j hj => by unfold growF; rw [hj]; rfl) _ i hi ?_ (by unfold growF; rw [hn, Bool.or_true])
  unfold needs at hn
  simp at hn
  exact hn.2.1
theorem short_bd (L : Nat → Bool) (k : Nat) : shortN L k ≤ k := by
  induction k with
  | zero => exact Nat.le_refl _
  | succ k ih => simp only [shortN]; split <;> omega
open Classical in
/-- What the document says of items: no error, or which one. -/
noncomputable def errOf (l : List Itm) : Int :=
  if 40000 < l.length then 2 else if ¬ allB l then 1 else if knownB l = false then 30 else if 262144 < pl l (longF l) l.length then 2 else 0
/-- The instructions of an item. -/
def insOf (l : List Itm) (L : Nat → Bool) (i : Nat) : List Ins :=
  if (it l i).kind = 1 then [(it l i).i]
  else if (it l i).kind = 3 then (if L i then [⟨oppN (it l i).i.op, (it l i).i.d, (it l i).i.a, (it l i).i.b, 8⟩, ⟨3, 0, 0, 0, dst l L i - 4⟩] else [⟨(it l i).i.op, (it l i).i.d, (it l i).i.a, (it l i).i.b, dst l L i⟩])
  else if (it l i).kind = 4 then labL (it l i).i.d (it l i).n
  else if (it l i).kind = 5 then List.replicate (it l i).n.toNat ⟨13, 0, 0, 0, 0⟩
  else []
def insTo (l : List Itm) (L : Nat → Bool) : Nat → List Ins
  | 0 => []
  | k + 1 => insTo l L k ++ insOf l L k
def wordsTo (l : List Itm) (L : Nat → Bool) (k : Nat) : List Int := (insTo l L k).map encV
theorem itL_to {l : List Itm} (k : Nat) {i : Nat} (h : itL l k i = true) : growK (it l i) = true := by
  induction k with
  | zero => cases h
  | succ k ih =>
    simp only [itL, growF, Bool.or_eq_true] at h
    rcases h with h | h
    · exact ih h
    · unfold needs at h
      simp only [Bool.and_eq_true] at h
      exact h.1
theorem long_to {l : List Itm} {i : Nat} (h : longF l i = true) : growK (it l i) = true := by
  unfold longF at h
  split at h
  · exact itL_to _ h
  · cases h
theorem growK_iff (x : Itm) : growK x = true ↔ x.kind = 3 ∧ x.i.op ≠ 3 := by simp [growK]
theorem insOf_len {l : List Itm} {i : Nat} (h : itemB (it l i) = true) (L : Nat → Bool) (hL : L i = true → growK (it l i) = true) : ((insOf l L i).length : Int) = sizeZ (it l i) (L i) := by
  have hk : (it l i).kind = 1 ∨ (it l i).kind = 2 ∨ (it l i).kind = 3 ∨ (it l i).kind = 4 ∨ (it l i).kind = 5 := by
    unfold itemB at h
    by_cases h1 : (it l i).kind = 1
    · exact .inl h1
    by_cases h2 : (it l i).kind = 2
    · exact .inr (.inl h2)
    by_cases h3 : (it l i).kind = 3
    · exact .inr (.inr (.inl h3))
    by_cases h4 : (it l i).kind = 4
    · exact .inr (.inr (.inr (.inl h4)))
    by_cases h5 : (it l i).kind = 5
    · exact .inr (.inr (.inr (.inr h5)))
    rw [if_neg h1, if_neg h2, if_neg h3, if_neg h4, if_neg h5] at h
    cases h
  have hf : (it l i).kind ≠ 3 → L i = false := fun hn => by
    cases e : L i
    · rfl
    · exact absurd ((growK_iff _).1 (hL e)).1 hn
  unfold insOf sizeZ
  rcases hk with h1 | h1 | h1 | h1 | h1
  · rw [hf (by omega), h1]; simp
  · rw [h1]; simp
  · rw [h1]; cases L i <;> simp
  · rw [h1]; simp
  · have := itemB_nops h h1
    rw [h1]; simp; omega
theorem insTo_len {l : List Itm} (h : allB l) (L : Nat → Bool) (hL : ∀ i, L i = true → growK (it l i) = true) (k : Nat) (hk : k ≤ l.length) : 4 * ((insTo l L k).length : Int) = pl l L k := by
  induction k with
  | zero => rfl
  | succ k ih =>
    have := ih (by omega)
    have := insOf_len (h k (by omega)) L (hL k)
    simp only [insTo, pl, List.length_append]
    omega
end Go.Proofs.Ytfepdieeiplbnaa
namespace Go.Proofs.Ytfepdieeiplbnaa
open Go.RowKit Go.Maps
theorem law_string : Keyed Try.prog 9 := string_keyed Try.underlying9
theorem zero_int (w : World) : (zeroValue 3).run Try.prog w = .ok (.int .i64 0) w := by kernel_rfl
/-- Block b is a map that knows what f says. -/
def Knows (w : World) (b n : Nat) (f : ByteArray → Option Nat) : Prop :=
  ∃ D : DataW Unit, w.ownsMap Try.prog 9 (plainElem Try.prog 3) b n D ∧ IsMap D ∧ ∀ (s : ByteArray) (z : DataW Unit), D.atKey (.string s.data.toList) z = match f s with | some i => .lit (.int .i64 (i : Nat)) | none => z
theorem Knows.made (w : World) : Knows (w.alloc (.map #[] 0)) w.heap.size 0 (fun _ => none) :=
  ⟨.map [], World.ownsMap_made w _ _ _, ⟨[], rfl⟩, fun _ _ => rfl⟩
theorem Knows.below {w w' : World} {B b n : Nat} {f : ByteArray → Option Nat} (h : Knows w b n f) (hb : Below B w w') (hlt : b < B) : Knows w' b n f := by
  obtain ⟨D, h1, h2⟩ := h
  obtain ⟨es, clock, hb0, F, hs0, hD⟩ := h1
  exact ⟨D, ⟨es, clock, (hb.block b hlt).trans hb0, F, hs0, hD⟩, h2⟩
theorem Knows.mono {w : World} {b n n' : Nat} {f : ByteArray → Option Nat} (h : Knows w b n f) (hn : n ≤ n') : Knows w b n' f := by
  obtain ⟨D, h1, h2⟩ := h
  exact ⟨D, h1.mono hn, h2⟩
theorem Knows.of_block {w w' : World} {b n : Nat} {f : ByteArray → Option Nat} (h : Knows w b n f) (hb : w'.heap[b]? = w.heap[b]?) : Knows w' b n f := by
  obtain ⟨D, h1, h2⟩ := h
  obtain ⟨es, clock, hb0, F, hs0, hD⟩ := h1
  exact ⟨D, ⟨es, clock, hb.trans hb0, F, hs0, hD⟩, h2⟩
theorem Knows.lt {w : World} {b n : Nat} {f : ByteArray → Option Nat} (h : Knows w b n f) : b < w.heap.size := by
  obtain ⟨D, h1, h2⟩ := h
  exact h1.lt
theorem key_string (s : ByteArray) (hs : s.size ≤ maxLen) : keyOf Try.prog 9 (.string s) = some (.string s.data.toList) := WideMaps.keyOf_string_mk Try.underlying9 hs
theorem key_isLit (l : List UInt8) : WideAt.IsKeyLit (.string l) := by
  first | trivial | (unfold WideAt.IsKeyLit; trivial) | simp [WideAt.IsKeyLit]
theorem Knows.look {w : World} {b n : Nat} {f : ByteArray → Option Nat} (h : Knows w b n f) (s : ByteArray) (hs : s.size ≤ maxLen) :
    (Instr.lookup 59 (.map (some b)) (.string s) false).run Try.prog w = .ok (.int .i64 (((f s).getD 0 : Nat) : Int)) w := by
  obtain ⟨D, h1, h2, h3⟩ := h
  obtain ⟨c, hrun, hat, _⟩ := h1.lookup_int law_string Try.underlying59 Try.underlying3 (zero_int w) (key_string s hs)
  rw [hrun]
  rw [h3] at hat
  cases hf : f s with
  | none => rw [hf] at hat; simp at hat; rw [← hat]; rfl
  | some i => rw [hf] at hat; simp at hat; rw [← hat]; rfl
theorem Knows.look_ok {w : World} {b n : Nat} {f : ByteArray → Option Nat} (h : Knows w b n f) (s : ByteArray) (hs : s.size ≤ maxLen) :
    (Instr.lookup 59 (.map (some b)) (.string s) true).run Try.prog w = .ok (.tuple #[.int .i64 (((f s).getD 0 : Nat) : Int), .bool (f s).isSome]) w := by
  obtain ⟨D, h1, h2, h3⟩ := h
  obtain ⟨v, ps, hrun, hv⟩ := h1.look_ok law_string Try.underlying59 (zero_int w) (plainElem_int Try.underlying3 (by decide)) (key_string s hs)
  obtain ⟨c, rfl, hc, _⟩ := plainElem_int_inv Try.underlying3 hv
  rw [hrun]
  have hat := congrArg Prod.fst hc
  simp only at hat
  rw [h3] at hat
  cases hf : f s with
  | none =>
    rw [hf] at hat; simp at hat
    rw [has_false_of_atKey (D := D) (fun z => by rw [h3, hf]), ← hat]; rfl
  | some i =>
    rw [hf] at hat; simp at hat
    rw [has_true_of_atKey (D := D) (y := .lit (.int .i64 (i : Nat))) (fun z => by rw [h3, hf]), ← hat]; rfl
theorem str_ne {s t : ByteArray} (h : s ≠ t) : Lit.string s.data.toList ≠ Lit.string t.data.toList := by
  intro e
  injection e with e
  apply h
  obtain ⟨⟨a⟩⟩ := s
  obtain ⟨⟨b⟩⟩ := t
  simp at e
  rw [e]
theorem Knows.update {w : World} {b n : Nat} {f : ByteArray → Option Nat} (h : Knows w b n f) (s : ByteArray) (hs : s.size ≤ maxLen) (hn : n < maxLen) (i : Nat) (hi : i ≤ 1000000) :
    ∃ w', (Instr.mapUpdate 59 (.map (some b)) (.string s) (.int .i64 (i : Int))).run Try.prog w = .ok () w' ∧ Knows w' b (n + 1) (fun t => if s = t then some i else f t) ∧ w.grownBy w' (some b) := by
  obtain ⟨D, h1, h2, h3⟩ := h
  obtain ⟨w', hrun, ho, hg⟩ := h1.update law_string Try.underlying59 hn (key_string s hs) (plainElem_int (H := Unit) Try.underlying3 (a := (i : Int)) (WalkArith.wf_i64 (by omega)))
  refine ⟨w', hrun, ⟨_, ho, h2.put _ _, fun t z => ?_⟩, hg⟩
  simp only []
  by_cases e : s = t
  · subst e
    rw [if_pos rfl, atKey_put_same h2 (key_isLit _)]
  · rw [if_neg e, atKey_put_other (str_ne (fun e' => e e'.symm)), h3]
theorem mp_succ (l : List Itm) (k : Nat) (h2 : (it l k).kind = 2) : mp l (k + 1) = fun t => if (it l k).name = t then some k else mp l k t := by
  funext t
  simp only [mp]
  by_cases e : (it l k).name = t
  · rw [if_pos ⟨h2, e⟩, if_pos e]
  · rw [if_neg (fun h => e h.2), if_neg e]
theorem mp_same (l : List Itm) (k : Nat) (h2 : ¬ (it l k).kind = 2) : mp l (k + 1) = mp l k := by
  funext t
  simp only [mp]
  rw [if_neg (fun h => h2 h.1)]
end Go.Proofs.Ytfepdieeiplbnaa
namespace Go.Proofs.Ytfepdieeiplbnaa
open Go.RowKit
theorem itmEq_fields (x y : Itm) : decide (x = y) = (x.kind == y.kind && (decide (x.i = y.i) && (decide (x.name = y.name) && x.n == y.n))) := by
  rw [Bool.eq_iff_iff, decide_eq_true_iff, ← itm_iff]
  simp
theorem part_i64 (A : Array Value) (i : Nat) (x : Int) (h : A[i]? = some (.int .i64 x)) (w : World) : (part 3 A i).run Try.prog w = .ok (.int .i64 x) w := by
  have a3 := Try.isAgg3
  simp [part, a3, h]
theorem part_str (A : Array Value) (i : Nat) (x : ByteArray) (h : A[i]? = some (.string x)) (w : World) : (part 9 A i).run Try.prog w = .ok (.string x) w := by
  have a3 := Try.isAgg9
  simp [part, a3, h]
theorem eq_i64 (d : Nat) (a b : Int) (w : World) : (Op.equalIn (d + 1) 3 (.int .i64 a) (.int .i64 b)).run Try.prog w = .ok (a == b) w := run_equalIn_int w d 3 .i64 .i64 a b Try.underlying3
theorem str_beq (a b : ByteArray) : (a.toList == b.toList) = decide (a = b) := by
  rw [ByteArray.toList_eq, ByteArray.toList_eq, Bool.eq_iff_iff, beq_iff_eq, decide_eq_true_iff]
  constructor
  · intro h
    obtain ⟨⟨a⟩⟩ := a
    obtain ⟨⟨b⟩⟩ := b
    simp at h
    rw [h]
  · intro h; rw [h]
theorem eq_str (d : Nat) (a b : ByteArray) (w : World) : (Op.equalIn (d + 1) 9 (.string a) (.string b)).run Try.prog w = .ok (decide (a = b)) w := by
  rw [run_equalIn_string w d 9 a b Try.underlying9, str_beq]
theorem eq_insN (d : Nat) (x y : Ins) (w : World) : (Op.equalIn (d + 1 + 1) 24 (.agg #[.int .i64 x.op, .int .i64 x.d, .int .i64 x.a, .int .i64 x.b, .int .i64 x.n]) (.agg #[.int .i64 y.op, .int .i64 y.d, .int .i64 y.a, .int .i64 y.b, .int .i64 y.n])).run Try.prog w = .ok (decide (x = y)) w := by
  have u3 := Try.underlying3
  have a3 := Try.isAgg3
  have z3 := Try.sizeOf3
  have hS : Try.prog.underlying 24 = some (.struct (Try.prog.fieldsOf 24)) := by kernel_rfl
  have hp : Try.prog.stoodInHeld 24 = false := by kernel_rfl
  rw [insEq_fields, run_equalIn_agg w (d + 1) 24 _ _ hS hp]
  have e := fun a b w => eq_i64 d a b w
  simp only [Program.fieldsOf, Try.underlying24]
  simp [Op.eqFields, part, a3, e]
  by_cases h1 : x.op = y.op <;> by_cases h2 : x.d = y.d <;> by_cases h3 : x.a = y.a <;> by_cases h4 : x.b = y.b <;> by_cases h5 : x.n = y.n <;> simp [h1, h2, h3, h4, h5]
set_option maxHeartbeats 1000000 in
theorem eq_itm (x y : Itm) (w : World) : (Op.equalIn 10000 26 (.agg #[.int .i64 x.kind, .int .i64 x.i.op, .int .i64 x.i.d, .int .i64 x.i.a, .int .i64 x.i.b, .int .i64 x.i.n, .string x.name, .int .i64 x.n]) (.agg #[.int .i64 y.kind, .int .i64 y.i.op, .int .i64 y.i.d, .int .i64 y.i.a, .int .i64 y.i.b, .int .i64 y.i.n, .string y.name, .int .i64 y.n])).run Try.prog w = .ok (decide (x = y)) w := by
  have a3 := Try.isAgg3
  have a9 := Try.isAgg9
  have a24 := Try.isAgg24
  have s24 := Try.sizeOf24
  have hS : Try.prog.underlying 26 = some (.struct (Try.prog.fieldsOf 26)) := by kernel_rfl
  have hp : Try.prog.stoodInHeld 26 = false := by kernel_rfl
  have e := fun a b w => eq_i64 9998 a b w
  have es := fun a b w => eq_str 9998 a b w
  have ei := fun w => eq_insN 9997 x.i y.i w
  rw [itmEq_fields, show (10000 : Nat) = 9999 + 1 from rfl, run_equalIn_agg w 9999 26 _ _ hS hp]
  simp only [Program.fieldsOf, Try.underlying26]
  simp [Op.eqFields, part, a3, a9, a24, s24, e, es, ei]
  by_cases h1 : x.kind = y.kind <;> by_cases h2 : x.i = y.i <;> by_cases h3 : x.name = y.name <;> by_cases h4 : x.n = y.n <;> simp [h1, h2, h3, h4]
theorem eqT (b : Bool) (x y : Itm) (h : decide (x = y) = b) (w : World) : (Op.equalIn 10000 26 (.agg #[.int .i64 x.kind, .int .i64 x.i.op, .int .i64 x.i.d, .int .i64 x.i.a, .int .i64 x.i.b, .int .i64 x.i.n, .string x.name, .int .i64 x.n]) (.agg #[.int .i64 y.kind, .int .i64 y.i.op, .int .i64 y.i.d, .int .i64 y.i.a, .int .i64 y.i.b, .int .i64 y.i.n, .string y.name, .int .i64 y.n])).run Try.prog w = .ok b w := by
  rw [eq_itm, h]
end Go.Proofs.Ytfepdieeiplbnaa
