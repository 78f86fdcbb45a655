/-
  Where an item's words stand; the instructions that lead to a label are right. Plain.
-/
import Derived.Test.YtfepdieeiplbnaaEmbS
import Derived.Test.YtfepdieeiplbnaaInsEq
namespace Go.Proofs.Ytfepdieeiplbnaa
open Go.RowKit
theorem insTo_le (l : List Itm) (L : Nat → Bool) (i n : Nat) (h : i ≤ n) : ∃ r, insTo l L n = insTo l L i ++ r := by
  induction n with
  | zero => rw [show i = 0 by omega]; exact ⟨[], by simp⟩
  | succ n ih =>
    by_cases e : i = n + 1
    · rw [e]; exact ⟨[], by simp⟩
    · obtain ⟨r, hr⟩ := ih (by omega)
      exact ⟨r ++ insOf l L n, by simp only [insTo]; rw [hr, List.append_assoc]⟩
theorem insTo_get (l : List Itm) (L : Nat → Bool) (i n j : Nat) (h : i < n) (x : Ins) (hj : (insOf l L i)[j]? = some x) : (insTo l L n)[(insTo l L i).length + j]? = some x := by
  obtain ⟨r, hr⟩ := insTo_le l L (i + 1) n (by omega)
  have hjl := (List.getElem?_eq_some_iff.1 hj).1
  rw [hr]
  simp only [insTo]
  rw [List.append_assoc, List.getElem?_append_right (by omega), Nat.add_sub_cancel_left, List.getElem?_append_left hjl, hj]
/-- The word of an item's instruction. -/
theorem words_at {l : List Itm} (ha : allB l) (i j : Nat) (hi : i < l.length) (x : Ins) (hj : (insOf l (longF l) i)[j]? = some x) (q : Nat) (hq : pl l (longF l) i = 4 * q) : (wordsOf l)[q + j]? = some (encV x) := by
  have h1 := insTo_len ha (longF l) (fun _ => long_to) i (by omega)
  have h2 := insTo_get l (longF l) i l.length j hi x hj
  unfold wordsOf wordsTo
  rw [List.getElem?_map, show q + j = (insTo l (longF l) i).length + j by omega, h2]
  rfl
theorem pl_four {l : List Itm} (ha : allB l) (i : Nat) (hi : i ≤ l.length) : ∃ q : Nat, pl l (longF l) i = 4 * q := ⟨_, (insTo_len ha (longF l) (fun _ => long_to) i hi).symm⟩
theorem right_n {op d a b n m : Int} (h : rightB ⟨op, d, a, b, n⟩ = true) (hm : (shapeT (rowT op).form).least ≤ m ∧ m ≤ (shapeT (rowT op).form).most) (hs : modB m (shapeT (rowT op).form).step = true) : rightB ⟨op, d, a, b, m⟩ = true := by
  unfold rightB shX at h ⊢
  simp only at h ⊢
  simp only [Bool.and_eq_true] at h ⊢
  obtain ⟨h1, h2, h3, h4, _⟩ := h
  exact ⟨h1, h2, h3, h4, by simpa using hm.1, by simpa using hm.2, hs⟩
theorem dst_four {l : List Itm} (ha : allB l) {i : Nat} (hi : i < l.length) : ∃ z : Int, dst l (longF l) i = 4 * z := by
  unfold dst
  have htl : (labI l (it l i).name).getD 0 ≤ l.length := by
    cases e : labI l (it l i).name with
    | none => simp
    | some j => have := (mp_some e).1; simp; omega
  obtain ⟨a, h1⟩ := pl_four ha _ htl
  obtain ⟨b, h2⟩ := pl_four ha i (by omega)
  exact ⟨(a : Int) - b, by rw [h1, h2]; omega⟩
theorem mod_four (z s : Int) : modB (4 * z) s = true := by
  unfold modB
  split
  · have : (4 * z).tmod 2 = 0 := by rw [show 4 * z = 2 * (2 * z) by omega]; exact Int.mul_tmod_right 2 _
    rw [this]; rfl
  · rfl
theorem br_free {op d a b n : Int} (h : rightB ⟨op, d, a, b, n⟩ = true) (ho : 5 ≤ op ∧ op ≤ 10) : d = 0 ∧ (0 ≤ a ∧ a < 32) ∧ (0 ≤ b ∧ b < 32) := by
  unfold rightB shX at h
  simp only [Bool.and_eq_true] at h
  rw [shBr op ho] at h
  obtain ⟨_, h2, h3, h4, _⟩ := h
  have hd := may_bd h2
  refine ⟨?_, may_bd h3, may_bd h4⟩
  unfold mayB at h2
  simp only [Bool.and_eq_true, decide_eq_true_eq] at h2
  have := h2.2.2
  simp at this; exact this
theorem lead_short {l : List Itm} (ha : allB l) {i : Nat} (hi : i < l.length) (hb : pl l (longF l) l.length ≤ 80000) (hk : (it l i).kind = 3) (hL : longF l i = false) :
    rightB ⟨(it l i).i.op, (it l i).i.d, (it l i).i.a, (it l i).i.b, dst l (longF l) i⟩ = true := by
  obtain ⟨h1, h2, h3, _⟩ := to_parts (ha i hi) hk
  obtain ⟨z, hz⟩ := dst_four ha hi
  have ht := dst_total ha (longF l) hi
  have hg : (it l i).i.op ≠ 3 → -4096 ≤ dst l (longF l) i ∧ dst l (longF l) i ≤ 4094 := fun hn => short_near ((growK_iff _).2 ⟨hk, hn⟩) hL
  generalize (it l i).i = x at h1 h2 h3 hg ⊢
  obtain ⟨op, d, a, b, n⟩ := x
  simp only at h2 h3 hg ⊢
  rcases h3 with h3 | h3
  · have ho := br_bd h3
    have h5 := hg (by omega)
    refine right_n h1 ?_ (by rw [hz]; exact mod_four _ _)
    rw [shBr op ho]
    exact ⟨by simp only; omega, by simp only; omega⟩
  · subst h3
    refine right_n h1 ?_ (by rw [hz]; exact mod_four _ _)
    rw [shJ]
    exact ⟨by simp only; omega, by simp only; omega⟩
theorem lead_long {l : List Itm} (ha : allB l) {i : Nat} (hi : i < l.length) (hk : (it l i).kind = 3) (hL : longF l i = true) (hb : pl l (longF l) l.length ≤ 80000) :
    rightB ⟨oppN (it l i).i.op, (it l i).i.d, (it l i).i.a, (it l i).i.b, 8⟩ = true ∧ rightB ⟨3, 0, 0, 0, dst l (longF l) i - 4⟩ = true := by
  obtain ⟨h1, h2, h3, _⟩ := to_parts (ha i hi) hk
  obtain ⟨z, hz⟩ := dst_four ha hi
  have ht := dst_total ha (longF l) hi
  have hn := ((growK_iff _).1 (long_to hL)).2
  generalize (it l i).i = x at h1 h2 h3 hn ⊢
  obtain ⟨op, d, a, b, n⟩ := x
  simp only at h2 h3 hn ⊢
  have ho := br_bd (h3.resolve_right hn)
  obtain ⟨rfl, h5, h6⟩ := br_free h1 ho
  have ho2 : 5 ≤ oppN op ∧ oppN op ≤ 10 := by unfold oppN; split <;> omega
  refine ⟨right_mk _ (shBr _ ho2) (by omega) ⟨by omega, by omega, .inr rfl⟩ ⟨h5.1, h5.2, .inl rfl⟩ ⟨h6.1, h6.2, .inl rfl⟩ ⟨by simp only; omega, by simp only; omega⟩ rfl, ?_⟩
  refine right_mk _ shJ (by omega) ⟨by omega, by omega, .inl rfl⟩ ⟨by omega, by omega, .inr rfl⟩ ⟨by omega, by omega, .inr rfl⟩ ⟨by simp only; omega, by simp only; omega⟩ ?_
  rw [hz, show 4 * z - 4 = 4 * (z - 1) by omega]; exact mod_four _ _
/-- Decode of a word that Encode made. -/
theorem decode_enc (x : Ins) (h : rightB x = true) : I64 (encV x) ∧ dX (encV x) = x ∧ dE (encV x) = 0 := by
  have e : encV x = (encN x : Nat) := by unfold encV; rw [h]; rfl
  have hl := encN_lt x
  rw [e]
  exact ⟨⟨by omega, by omega⟩, dX_enc x h⟩
end Go.Proofs.Ytfepdieeiplbnaa
