/-
  What long items are: plain laws on how branches grow. Items among others: places, long ones and words are as they were. Plain.
-/
import Derived.Test.YtfepdieeiplbnaaFit03B
import Derived.Test.YtfepdieeiplbnaaLabE
namespace Go.Proofs.Ytfepdieeiplbnaa
open Go.RowKit
theorem stable_ex (l : List Itm) : ∃ k, growF l (itL l k) = itL l k := by
  have key : ∀ m k, shortN (itL l k) l.length ≤ m → ∃ k, growF l (itL l k) = itL l k := by
    intro m
    induction m with
    | zero =>
      intro k hk
      cases hg : grownB l (itL l k) l.length
      · exact ⟨k, growF_same hg⟩
      · have := grow_lt hg; omega
    | succ m ih =>
      intro k hk
      cases hg : grownB l (itL l k) l.length
      · exact ⟨k, growF_same hg⟩
      · have h1 := grow_lt hg
        exact ih (k + 1) (by show shortN (growF l (itL l k)) l.length ≤ m; omega)
  exact key _ 0 (Nat.le_refl _)
theorem long_stable (l : List Itm) : growF l (longF l) = longF l := by
  obtain ⟨k, hk⟩ := stable_ex l
  rw [long_of hk, hk]
theorem long_it (l : List Itm) : ∃ k, longF l = itL l k := by
  obtain ⟨k, hk⟩ := stable_ex l
  exact ⟨k, long_of hk⟩
theorem itL_mono {l : List Itm} {k m i : Nat} (hkm : k ≤ m) (h : itL l k i = true) : itL l m i = true := by
  induction m with
  | zero => rwa [show k = 0 by omega] at h
  | succ m ih =>
    by_cases e : k = m + 1
    · rwa [e] at h
    · have := ih (by omega)
      simp only [itL, growF, this, Bool.true_or]
theorem long_above {l : List Itm} (k : Nat) {i : Nat} (h : itL l k i = true) : longF l i = true := by
  obtain ⟨m, hm⟩ := stable_ex l
  rcases Nat.le_total k m with e | e
  · rw [long_of hm]; exact itL_mono e h
  · obtain ⟨j, rfl⟩ := Nat.le.dest e
    rw [itL_stays hm] at h
    rw [long_of hm]; exact h
theorem first_long {l : List Itm} {K i : Nat} (h : itL l K i = true) : ∃ k, needs l (itL l k) i = true := by
  induction K with
  | zero => cases h
  | succ K ih =>
    simp only [itL, growF, Bool.or_eq_true] at h
    rcases h with h | h
    · exact ih h
    · exact ⟨K, h⟩
theorem pl_diff {l : List Itm} {L L' : Nat → Bool} (h : ∀ i, L i = true → L' i = true) (a b : Nat) (hab : a ≤ b) : pl l L b - pl l L a ≤ pl l L' b - pl l L' a := by
  induction b with
  | zero => rw [show a = 0 by omega]; omega
  | succ b ih =>
    by_cases e : a = b + 1
    · rw [e]; omega
    · have h1 := ih (by omega)
      have h2 := size_mono (x := it l b) (g := L b) (g' := L' b) (h b)
      simp only [pl]; omega
theorem short_near {l : List Itm} {i : Nat} (hg : growK (it l i) = true) (hl : longF l i = false) : -4096 ≤ dst l (longF l) i ∧ dst l (longF l) i ≤ 4094 := by
  have hs := congrFun (long_stable l) i
  unfold growF at hs
  rw [hl, Bool.false_or] at hs
  unfold needs at hs
  rw [hg, hl] at hs
  simp [farB] at hs
  omega
/-- What is long is far in the end. -/
theorem long_far {l : List Itm} (ha : allB l) {i : Nat} (hi : i < l.length) (hl : longF l i = true) :
    dst l (longF l) i < -4096 ∨ 4094 < dst l (longF l) i := by
  obtain ⟨K, hK⟩ := long_it l
  rw [hK] at hl
  obtain ⟨k, hk⟩ := first_long hl
  unfold needs at hk
  simp only [Bool.and_eq_true] at hk
  have hf := hk.2.2
  simp only [farB, Bool.or_eq_true, decide_eq_true_eq] at hf
  have hm : ∀ j, itL l k j = true → longF l j = true := fun j => long_above k
  unfold dst at hf ⊢
  obtain ⟨t, ht⟩ : ∃ t, (labI l (it l i).name).getD 0 = t := ⟨_, rfl⟩
  have htl : t ≤ l.length := by
    rw [← ht]
    cases e : labI l (it l i).name with
    | none => simp
    | some j => have := (mp_some e).1; simp; omega
  rw [ht] at hf ⊢
  rcases Nat.le_total i t with e | e
  · have h1 := pl_diff (l := l) hm i t e
    have h2 := pl_le ha (itL l k) i t e htl
    right; omega
  · have h1 := pl_diff (l := l) hm t i e
    have h2 := pl_le ha (itL l k) t i e (by omega)
    left; omega
theorem dst_total {l : List Itm} (ha : allB l) (L : Nat → Bool) {i : Nat} (hi : i < l.length) : -(pl l L l.length) ≤ dst l L i ∧ dst l L i ≤ pl l L l.length := by
  unfold dst
  have htl : (labI l (it l i).name).getD 0 ≤ l.length := by
    cases e : labI l (it l i).name with
    | none => simp
    | some j => have := (mp_some e).1; simp; omega
  have h1 := pl_le ha L _ l.length htl (Nat.le_refl _)
  have h2 := pl_le ha L i l.length (by omega) (Nat.le_refl _)
  have h3 := pl_bd ha L _ htl
  have h4 := pl_bd ha L i (by omega)
  omega
theorem to_size {x : Itm} (hk : x.kind = 3) (g : Bool) : sizeZ x g = if g = true then 2 else 1 := by
  unfold sizeZ; rw [if_neg (by omega), if_neg (by omega), if_neg (by omega)]
/-- Where the item's label is found. -/
theorem find_to {l : List Itm} (he : errOf l = 0) {i : Nat} (hi : i < l.length) (hk : (it l i).kind = 3) : findZ l (it l i).name = pl l (longF l) i + dst l (longF l) i := by
  obtain ⟨_, _, h3, _⟩ := err_parts he
  unfold knownB at h3
  rw [Bool.and_eq_true] at h3
  obtain ⟨j, hj⟩ := nmL_at h3.2 i hi hk
  unfold findZ dst
  rw [if_pos he, hj]
  simp only [Option.getD_some]
  omega
end Go.Proofs.Ytfepdieeiplbnaa
namespace Go.Proofs.Ytfepdieeiplbnaa
open Go.RowKit
structure Emb (l m : List Itm) (σ : Nat → Nat) (c : Int) : Prop where
  at_ : ∀ i, i < l.length → it m (σ i) = it l i
  els : ∀ j, growK (it m j) = true → ∃ i, i < l.length ∧ σ i = j
  pl_ : ∀ L L' : Nat → Bool, (∀ i, i < l.length → L' (σ i) = L i) → (∀ j, L' j = true → growK (it m j) = true) → ∀ i, i < l.length → pl m L' (σ i) = c + pl l L i
  lab : ∀ i, i < l.length → (it l i).kind = 3 → ∃ t, t < l.length ∧ labI l (it l i).name = some t ∧ labI m (it l i).name = some (σ t)
theorem Emb.dst_ {l m : List Itm} {σ : Nat → Nat} {c : Int} (h : Emb l m σ c) {L L' : Nat → Bool} (hL : ∀ i, i < l.length → L' (σ i) = L i) (hg : ∀ j, L' j = true → growK (it m j) = true) {i : Nat} (hi : i < l.length) (hk : (it l i).kind = 3) :
    dst m L' (σ i) = dst l L i := by
  obtain ⟨t, ht, h1, h2⟩ := h.lab i hi hk
  unfold dst
  rw [h.at_ i hi, h1, h2]
  simp only [Option.getD_some]
  rw [h.pl_ L L' hL hg t ht, h.pl_ L L' hL hg i hi]
  omega
theorem Emb.needs_ {l m : List Itm} {σ : Nat → Nat} {c : Int} (h : Emb l m σ c) {L L' : Nat → Bool} (hL : ∀ i, i < l.length → L' (σ i) = L i) (hg : ∀ j, L' j = true → growK (it m j) = true) {i : Nat} (hi : i < l.length) :
    needs m L' (σ i) = needs l L i := by
  unfold needs
  rw [h.at_ i hi, hL i hi]
  cases hk : growK (it l i)
  · rfl
  · rw [h.dst_ hL hg hi ((growK_iff _).1 hk).1]
theorem Emb.it_ {l m : List Itm} {σ : Nat → Nat} {c : Int} (h : Emb l m σ c) (t : Nat) : ∀ i, i < l.length → itL m t (σ i) = itL l t i := by
  induction t with
  | zero => intro i _; rfl
  | succ t ih =>
    intro i hi
    simp only [itL, growF]
    rw [ih i hi, h.needs_ (L := itL l t) (L' := itL m t) ih (fun _ => itL_to t) hi]
theorem Emb.long_ {l m : List Itm} {σ : Nat → Nat} {c : Int} (h : Emb l m σ c) : ∀ i, i < l.length → longF m (σ i) = longF l i := by
  obtain ⟨t, ht⟩ := stable_ex l
  have hm : growF m (itL m t) = itL m t := by
    funext j
    unfold growF
    cases hn : needs m (itL m t) j
    · rw [Bool.or_false]
    · have hk : growK (it m j) = true := by unfold needs at hn; simp only [Bool.and_eq_true] at hn; exact hn.1
      obtain ⟨i, hi, rfl⟩ := h.els j hk
      rw [h.needs_ (L := itL l t) (h.it_ t) (fun j => itL_to t) hi] at hn
      have := congrFun ht i
      unfold growF at this
      rw [hn, Bool.or_true] at this
      rw [h.it_ t i hi, ← this]; rfl
  intro i hi
  rw [long_of hm, long_of ht, h.it_ t i hi]
theorem Emb.place {l m : List Itm} {σ : Nat → Nat} {c : Int} (h : Emb l m σ c) {i : Nat} (hi : i < l.length) : pl m (longF m) (σ i) = c + pl l (longF l) i :=
  h.pl_ (longF l) (longF m) h.long_ (fun j => long_to) i hi
theorem Emb.ins {l m : List Itm} {σ : Nat → Nat} {c : Int} (h : Emb l m σ c) {i : Nat} (hi : i < l.length) : insOf m (longF m) (σ i) = insOf l (longF l) i := by
  unfold insOf
  rw [h.at_ i hi]
  by_cases h3 : (it l i).kind = 3
  · rw [h.long_ i hi, h.dst_ h.long_ (fun j => long_to) hi h3]
  · rw [if_neg h3, if_neg h3]
/-! ### instructions ahead -/
theorem it_shift (pre l : List Itm) (i : Nat) : it (pre ++ l) (pre.length + i) = it l i := by
  simp [it, List.getD_eq_getElem?_getD, List.getElem?_append_right]
theorem it_pre {pre l : List Itm} {i : Nat} (h : i < pre.length) : it (pre ++ l) i = it pre i := it_left h
structure Ahead (pre : List Itm) : Prop where
  kind : ∀ i, i < pre.length → (it pre i).kind = 1 ∧ itemB (it pre i) = true
theorem pl_pre {pre l : List Itm} (h : Ahead pre) {L' : Nat → Bool} (hg : ∀ j, L' j = true → growK (it (pre ++ l) j) = true) (k : Nat) (hk : k ≤ pre.length) : pl (pre ++ l) L' k = 4 * k := by
  induction k with
  | zero => rfl
  | succ k ih =>
    have h1 := (h.kind k (by omega)).1
    have hf : L' k = false := by
      cases e : L' k
      · rfl
      · have := hg k e
        rw [it_pre (by omega), growK_iff] at this
        omega
    simp only [pl]
    rw [ih (by omega), it_pre (by omega), hf]
    unfold sizeZ
    rw [h1]; simp; omega
theorem pl_shift {pre l : List Itm} (h : Ahead pre) {L L' : Nat → Bool} (n : Nat) (hL : ∀ i, i < n → L' (pre.length + i) = L i) (hg : ∀ j, L' j = true → growK (it (pre ++ l) j) = true) (i : Nat) (hi : i ≤ n) : pl (pre ++ l) L' (pre.length + i) = 4 * pre.length + pl l L i := by
  induction i with
  | zero => rw [Nat.add_zero, pl_pre h hg _ (Nat.le_refl _)]; simp [pl]
  | succ i ih =>
    rw [← Nat.add_assoc]
    simp only [pl]
    rw [ih (by omega), it_shift, hL i (by omega)]
    omega
theorem mp_pre {pre l : List Itm} (h : Ahead pre) (s : ByteArray) (k : Nat) (hk : k ≤ pre.length) : mp (pre ++ l) k s = none := by
  induction k with
  | zero => rfl
  | succ k ih =>
    simp only [mp]
    rw [it_pre (by omega), if_neg (fun hh => by have := (h.kind k (by omega)).1; omega), ih (by omega)]
theorem mp_shift {pre l : List Itm} (h : Ahead pre) (s : ByteArray) (k : Nat) : mp (pre ++ l) (pre.length + k) s = (mp l k s).map (pre.length + ·) := by
  induction k with
  | zero => rw [Nat.add_zero, mp_pre h s _ (Nat.le_refl _)]; rfl
  | succ k ih =>
    rw [← Nat.add_assoc]
    simp only [mp]
    rw [it_shift, ih]
    split <;> rfl
theorem labI_shift {pre l : List Itm} (h : Ahead pre) (s : ByteArray) : labI (pre ++ l) s = (labI l s).map (pre.length + ·) := by
  unfold labI; rw [List.length_append, mp_shift h]
theorem emb_ahead {pre l : List Itm} (h : Ahead pre) (hk : knownB l = true) : Emb l (pre ++ l) (pre.length + ·) (4 * pre.length) := by
  unfold knownB at hk
  rw [Bool.and_eq_true] at hk
  refine ⟨fun i _ => it_shift pre l i, fun j hj => ?_, fun L L' hL hg i hi => pl_shift h l.length hL hg i (by omega), fun i hi h3 => ?_⟩
  · by_cases hjp : j < pre.length
    · rw [it_pre hjp, growK_iff] at hj
      have := (h.kind j hjp).1; omega
    · refine ⟨j - pre.length, ?_, by show pre.length + (j - pre.length) = j; omega⟩
      by_cases hl : j - pre.length < l.length
      · exact hl
      · rw [it_far (by simp; omega)] at hj; cases hj
  · obtain ⟨t, ht⟩ := nmL_at hk.2 i hi h3
    exact ⟨t, (mp_some ht).1, ht, by rw [labI_shift h, ht]; rfl⟩
theorem known_ahead {pre l : List Itm} (h : Ahead pre) (hk : knownB l = true) : knownB (pre ++ l) = true := by
  unfold knownB at hk ⊢
  rw [Bool.and_eq_true] at hk ⊢
  have hidx : ∀ j, j < (pre ++ l).length → j < pre.length ∨ ∃ i, i < l.length ∧ j = pre.length + i := fun j hj => by
    by_cases hjp : j < pre.length
    · exact .inl hjp
    · exact .inr ⟨j - pre.length, by simp at hj; omega, by omega⟩
  constructor
  · refine okL_of fun i j hj hij h2 h2' => ?_
    rcases hidx i (by omega) with hi' | ⟨i', hi', rfl⟩
    · rw [it_pre hi'] at h2; have := (h.kind i hi').1; omega
    rcases hidx j hj with hj' | ⟨j', hj', rfl⟩
    · omega
    rw [it_shift] at h2 h2' ⊢
    rw [it_shift]
    exact okL_one hk.1 i' j' hj' (by omega) h2 h2'
  · refine nmL_of fun j hj h3 => ?_
    rcases hidx j hj with hj' | ⟨j', hj', rfl⟩
    · rw [it_pre hj'] at h3; have := (h.kind j hj').1; omega
    rw [it_shift] at h3 ⊢
    obtain ⟨t, ht⟩ := nmL_at hk.2 j' hj' h3
    exact ⟨pre.length + t, by rw [labI_shift h, ht]; rfl⟩
theorem all_ahead {pre l : List Itm} (h : Ahead pre) (ha : allB l) : allB (pre ++ l) := by
  intro j hj
  by_cases hjp : j < pre.length
  · rw [it_pre hjp]; exact (h.kind j hjp).2
  · have := ha (j - pre.length) (by simp at hj; omega)
    rw [show j = pre.length + (j - pre.length) by omega, it_shift]; exact this
theorem pl_ahead {pre l : List Itm} (h : Ahead pre) (hk : knownB l = true) (i : Nat) (hi : i ≤ l.length) : pl (pre ++ l) (longF (pre ++ l)) (pre.length + i) = 4 * pre.length + pl l (longF l) i :=
  pl_shift h l.length (emb_ahead h hk).long_ (fun j => long_to) i hi
theorem insTo_pre {pre l : List Itm} (h : Ahead pre) (L : Nat → Bool) (k : Nat) (hk : k ≤ pre.length) : (insTo (pre ++ l) L k).length = k := by
  induction k with
  | zero => rfl
  | succ k ih =>
    simp only [insTo, List.length_append]
    rw [ih (by omega), insOf_1 L (by rw [it_pre (by omega)]; exact (h.kind k (by omega)).1)]
    rfl
theorem insTo_ahead {pre l : List Itm} (h : Ahead pre) (hk : knownB l = true) (i : Nat) (hi : i ≤ l.length) : insTo (pre ++ l) (longF (pre ++ l)) (pre.length + i) = insTo (pre ++ l) (longF (pre ++ l)) pre.length ++ insTo l (longF l) i := by
  induction i with
  | zero => simp [insTo]
  | succ i ih =>
    rw [← Nat.add_assoc]
    simp only [insTo]
    rw [ih (by omega), (emb_ahead h hk).ins (by omega), List.append_assoc]
theorem words_ahead {pre l : List Itm} (h : Ahead pre) (hk : knownB l = true) : ∃ ps : List Int, ps.length = pre.length ∧ wordsOf (pre ++ l) = ps ++ wordsOf l := by
  refine ⟨(insTo (pre ++ l) (longF (pre ++ l)) pre.length).map encV, by rw [List.length_map, insTo_pre h _ _ (Nat.le_refl _)], ?_⟩
  unfold wordsOf wordsTo
  rw [List.length_append, insTo_ahead h hk _ (Nat.le_refl _), List.map_append]
/-! ### one label more, to which nothing leads -/
def insAt (l : List Itm) (k : Nat) (x : Itm) : List Itm := l.take k ++ [x] ++ l.drop k
theorem insAt_len (l : List Itm) (k : Nat) (x : Itm) (hk : k ≤ l.length) : (insAt l k x).length = l.length + 1 := by simp [insAt]; omega
def sg (k i : Nat) : Nat := if i < k then i else i + 1
theorem insAt_lo {l : List Itm} {k : Nat} {x : Itm} (hk : k ≤ l.length) {i : Nat} (hi : i < k) : it (insAt l k x) i = it l i := by
  unfold insAt
  rw [List.append_assoc, it_left (by simp; omega), it_at (by simp; omega), it_at (by omega), List.getElem_take]
theorem insAt_at {l : List Itm} {k : Nat} {x : Itm} (hk : k ≤ l.length) : it (insAt l k x) k = x := by
  unfold insAt
  have : (l.take k).length = k := by simp; omega
  rw [it_left (by simp; omega)]
  have h2 := it_last (l.take k) x
  rw [this] at h2; exact h2
theorem insAt_hi {l : List Itm} {k : Nat} {x : Itm} (hk : k ≤ l.length) {i : Nat} (hi : k ≤ i) : it (insAt l k x) (i + 1) = it l i := by
  unfold insAt
  have h1 : (l.take k ++ [x]).length = k + 1 := by simp; omega
  rw [show i + 1 = (l.take k ++ [x]).length + (i - k) by omega, it_shift]
  unfold it
  rw [List.getD_eq_getElem?_getD, List.getElem?_drop, List.getD_eq_getElem?_getD, show k + (i - k) = i by omega]
theorem insAt_sg {l : List Itm} {k : Nat} {x : Itm} (hk : k ≤ l.length) (i : Nat) : it (insAt l k x) (sg k i) = it l i := by
  unfold sg
  by_cases h : i < k
  · rw [if_pos h, insAt_lo hk h]
  · rw [if_neg h, insAt_hi hk (by omega)]
def labX (nm : ByteArray) : Itm := ⟨2, noI, nm, 0⟩
section
variable {l : List Itm} {k : Nat} {nm : ByteArray}
theorem pl_idle (hk : k ≤ l.length) {L L' : Nat → Bool} (n : Nat) (hL : ∀ i, i < n → L' (sg k i) = L i) (hg : ∀ j, L' j = true → growK (it (insAt l k (labX nm)) j) = true) :
    (∀ i, i ≤ k → i ≤ n → pl (insAt l k (labX nm)) L' i = pl l L i) ∧ (∀ i, k ≤ i → i ≤ n → pl (insAt l k (labX nm)) L' (i + 1) = pl l L i) := by
  have a1 : ∀ i, i ≤ k → i ≤ n → pl (insAt l k (labX nm)) L' i = pl l L i := by
    intro i
    induction i with
    | zero => intro _ _; rfl
    | succ i ih =>
      intro h1 h2
      simp only [pl]
      have := hL i (by omega)
      unfold sg at this
      rw [if_pos (by omega)] at this
      rw [ih (by omega) (by omega), insAt_lo hk (by omega), this]
  refine ⟨a1, ?_⟩
  intro i
  induction i with
  | zero =>
    intro h1 h2
    have hk0 : k = 0 := by omega
    subst hk0
    simp only [pl]
    rw [insAt_at hk]
    simp [labX, sizeZ]
  | succ i ih =>
    intro h1 h2
    by_cases e : k = i + 1
    · subst e
      have := a1 (i + 1) (Nat.le_refl _) h2
      show pl (insAt l (i + 1) (labX nm)) L' (i + 1) + 4 * sizeZ (it (insAt l (i + 1) (labX nm)) (i + 1)) (L' (i + 1)) = _
      rw [this, insAt_at hk]
      simp [labX, sizeZ]
    · have h3 := ih (by omega) (by omega)
      have := hL i (by omega)
      unfold sg at this
      rw [if_neg (by omega)] at this
      show pl (insAt l k (labX nm)) L' (i + 1) + 4 * sizeZ (it (insAt l k (labX nm)) (i + 1)) (L' (i + 1)) = _
      rw [h3, insAt_hi hk (by omega), this]
      rfl
theorem mp_idle (hk : k ≤ l.length) (s : ByteArray) (hs : s ≠ nm) : (∀ i, i ≤ k → mp (insAt l k (labX nm)) i s = mp l i s) ∧ (∀ i, k ≤ i → mp (insAt l k (labX nm)) (i + 1) s = (mp l i s).map (sg k)) := by
  have a1 : ∀ i, i ≤ k → mp (insAt l k (labX nm)) i s = mp l i s := by
    intro i
    induction i with
    | zero => intro _; rfl
    | succ i ih =>
      intro h1
      simp only [mp]
      rw [ih (by omega), insAt_lo hk (by omega)]
  have base : ∀ t, t = k → mp (insAt l k (labX nm)) (t + 1) s = (mp l t s).map (sg k) := by
    intro t ht
    subst ht
    simp only [mp]
    rw [insAt_at hk, if_neg (fun h => hs h.2.symm), a1 _ (Nat.le_refl _)]
    cases h : mp l t s with
    | none => rfl
    | some j => have := (mp_some h).1; simp [sg, this]
  refine ⟨a1, ?_⟩
  intro i
  induction i with
  | zero => intro h1; exact base 0 (by omega)
  | succ i ih =>
    intro h1
    by_cases e : k = i + 1
    · exact base (i + 1) e.symm
    · have h3 := ih (by omega)
      show (if (it (insAt l k (labX nm)) (i + 1)).kind = 2 ∧ (it (insAt l k (labX nm)) (i + 1)).name = s then some (i + 1) else mp (insAt l k (labX nm)) (i + 1) s) = _
      rw [insAt_hi hk (by omega), h3]
      simp only [mp]
      split
      · simp [sg]; omega
      · rfl
theorem labI_idle (hk : k ≤ l.length) (s : ByteArray) (hs : s ≠ nm) : labI (insAt l k (labX nm)) s = (labI l s).map (sg k) := by
  unfold labI; rw [insAt_len l k _ hk, (mp_idle hk s hs).2 l.length hk]
theorem labI_self (hk : k ≤ l.length) (hn : ∀ i, i < l.length → (it l i).kind = 2 → (it l i).name ≠ nm) : labI (insAt l k (labX nm)) nm = some k := by
  cases h : labI (insAt l k (labX nm)) nm with
  | none => exact absurd rfl (mp_none h k (by rw [insAt_len l k _ hk]; omega) (by rw [insAt_at hk]; rfl) |> fun hh => by rw [insAt_at hk] at hh; exact hh)
  | some j =>
    obtain ⟨a, b, c⟩ := mp_some h
    rw [insAt_len l k _ hk] at a
    rcases Nat.lt_trichotomy j k with e | e | e
    · rw [insAt_lo hk e] at b c; exact absurd c (hn j (by omega) b)
    · rw [e]
    · obtain ⟨j', rfl⟩ : ∃ j', j = j' + 1 := ⟨j - 1, by omega⟩
      rw [insAt_hi hk (by omega)] at b c; exact absurd c (hn j' (by omega) b)
theorem idle_idx (hk : k ≤ l.length) {j : Nat} (hj : j < (insAt l k (labX nm)).length) : j = k ∨ ∃ i, i < l.length ∧ sg k i = j := by
  rw [insAt_len l k _ hk] at hj
  rcases Nat.lt_trichotomy j k with e | e | e
  · exact .inr ⟨j, by omega, by simp [sg, e]⟩
  · exact .inl e
  · exact .inr ⟨j - 1, by omega, by unfold sg; rw [if_neg (by omega)]; omega⟩
theorem emb_idle (hk : k ≤ l.length) (hkn : knownB l = true) (hn : ∀ i, i < l.length → (it l i).kind = 2 → (it l i).name ≠ nm) : Emb l (insAt l k (labX nm)) (sg k) 0 := by
  unfold knownB at hkn
  rw [Bool.and_eq_true] at hkn
  refine ⟨fun i _ => insAt_sg hk i, fun j hj => ?_, fun L L' hL hg i hi => ?_, fun i hi h3 => ?_⟩
  · by_cases hl : j < (insAt l k (labX nm)).length
    · rcases idle_idx hk hl with rfl | h
      · rw [insAt_at hk] at hj; cases hj
      · exact h
    · rw [it_far (by omega)] at hj; cases hj
  · obtain ⟨p1, p2⟩ := pl_idle (nm := nm) hk l.length hL hg
    rw [Int.zero_add]
    unfold sg
    by_cases h : i < k
    · rw [if_pos h]; exact p1 i (by omega) (by omega)
    · rw [if_neg h]; exact p2 i (by omega) (by omega)
  · obtain ⟨t, ht⟩ := nmL_at hkn.2 i hi h3
    obtain ⟨a, b, c⟩ := mp_some ht
    refine ⟨t, a, ht, ?_⟩
    rw [labI_idle hk _ (fun e => hn t a b (by rw [c, e])), ht]; rfl
theorem known_idle (hk : k ≤ l.length) (hkn : knownB l = true) (hn : ∀ i, i < l.length → (it l i).kind = 2 → (it l i).name ≠ nm) : knownB (insAt l k (labX nm)) = true := by
  have he := emb_idle hk hkn hn
  unfold knownB at hkn ⊢
  rw [Bool.and_eq_true] at hkn ⊢
  constructor
  · refine okL_of fun i j hj hij h2 h2' => ?_
    rcases idle_idx hk (Nat.lt_trans hij hj) with rfl | ⟨i', hi', rfl⟩
    · rcases idle_idx hk hj with rfl | ⟨j', hj', rfl⟩
      · omega
      · rw [insAt_at hk, insAt_sg hk]
        rw [insAt_sg hk] at h2'
        exact fun e => hn j' hj' h2' e.symm
    · rw [insAt_sg hk] at h2 ⊢
      rcases idle_idx hk hj with rfl | ⟨j', hj', rfl⟩
      · rw [insAt_at hk]; exact hn i' hi' h2
      · rw [insAt_sg hk] at h2' ⊢
        refine okL_one hkn.1 i' j' hj' ?_ h2 h2'
        unfold sg at hij
        split at hij <;> split at hij <;> omega
  · refine nmL_of fun j hj h3 => ?_
    rcases idle_idx hk hj with rfl | ⟨i, hi, rfl⟩
    · rw [insAt_at hk] at h3; cases h3
    · rw [insAt_sg hk] at h3 ⊢
      obtain ⟨t, _, _, h2⟩ := he.lab i hi h3
      exact ⟨_, h2⟩
theorem all_idle (hk : k ≤ l.length) (ha : allB l) (hx : itemB (labX nm) = true) : allB (insAt l k (labX nm)) := by
  intro j hj
  rcases idle_idx hk hj with rfl | ⟨i, hi, rfl⟩
  · rw [insAt_at hk]; exact hx
  · rw [insAt_sg hk]; exact ha i hi
theorem insTo_idle (hk : k ≤ l.length) (he : Emb l (insAt l k (labX nm)) (sg k) 0) : insTo (insAt l k (labX nm)) (longF (insAt l k (labX nm))) (l.length + 1) = insTo l (longF l) l.length := by
  have a1 : ∀ i, i ≤ k → insTo (insAt l k (labX nm)) (longF (insAt l k (labX nm))) i = insTo l (longF l) i := by
    intro i
    induction i with
    | zero => intro _; rfl
    | succ i ih =>
      intro h1
      have h2 := he.ins (i := i) (by omega)
      unfold sg at h2
      rw [if_pos (by omega)] at h2
      simp only [insTo]
      rw [ih (by omega), h2]
  have a2 : ∀ i, k ≤ i → i ≤ l.length → insTo (insAt l k (labX nm)) (longF (insAt l k (labX nm))) (i + 1) = insTo l (longF l) i := by
    have base : ∀ t, t = k → insTo (insAt l k (labX nm)) (longF (insAt l k (labX nm))) (t + 1) = insTo l (longF l) t := by
      intro t ht
      subst ht
      simp only [insTo]
      rw [a1 _ (Nat.le_refl _), insOf_2 _ (by rw [insAt_at hk]; rfl), List.append_nil]
    intro i
    induction i with
    | zero => intro h1 _; exact base 0 (by omega)
    | succ i ih =>
      intro h1 h2
      by_cases e : k = i + 1
      · exact base (i + 1) e.symm
      · have h3 := ih (by omega) (by omega)
        have h4 := he.ins (i := i) (by omega)
        unfold sg at h4
        rw [if_neg (by omega)] at h4
        show insTo _ _ (i + 1) ++ insOf _ _ (i + 1) = _
        rw [h3, h4]
        rfl
  exact a2 l.length hk (Nat.le_refl _)
end
end Go.Proofs.Ytfepdieeiplbnaa
