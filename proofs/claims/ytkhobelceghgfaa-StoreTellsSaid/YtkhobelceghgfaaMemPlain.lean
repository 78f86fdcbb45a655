/-
  Memories in good form, plain: what stores, drains, flushes keep. No program in sight.
-/
import Derived.Test.YtkhobelceghgfaaMemFlush
namespace Go.Proofs.Ytkhobelceghgfaa
open Go.RowKit
/-- So many harts and words, no list long, all stores to words that are there. -/
structure Good (m : Mem) (H W : Nat) : Prop where
  words : m.words.length = W
  pend : m.pend.length = H
  res : m.res.length = H
  few : ∀ l ∈ m.pend, l.length ≤ 8
  ats : ∀ l ∈ m.pend, ∀ x ∈ l, 0 ≤ x.1 ∧ x.1 < W
theorem Good.small {m : Mem} {H W : Nat} (g : Good m H W) (h1 : H ≤ 1000) (h2 : W ≤ 100000) : Small m :=
  ⟨by rw [g.words]; omega, by rw [g.pend]; omega, by rw [g.res]; omega, fun l hl => Nat.le_trans (g.few l hl) (by omega)⟩
theorem Good.hart {m : Mem} {H W : Nat} (g : Good m H W) {h : Int} (h0 : 0 ≤ h) (h1 : h < H) : hartB m h = true := by
  simp [hartB, g.pend, g.res]; omega
theorem Good.has {m : Mem} {H W : Nat} (g : Good m H W) {h a : Int} (h0 : 0 ≤ h) (h1 : h < H) (a0 : 0 ≤ a) (a1 : a < W) : hasB m h a = true := by
  simp [hasB, g.hart h0 h1, g.words]; omega
theorem has_range {m : Mem} {H W : Nat} (g : Good m H W) {h a : Int} (hh : hasB m h a = true) : 0 ≤ h ∧ h < H ∧ 0 ≤ a ∧ a < W := by
  simp [hasB, hartB, g.pend, g.res, g.words] at hh; omega
theorem hart_range {m : Mem} {H W : Nat} (g : Good m H W) {h : Int} (hh : hartB m h = true) : 0 ≤ h ∧ h < H := by
  simp [hartB, g.pend, g.res] at hh; omega
theorem pendOf_mem {m : Mem} {h : Int} (hh : hartB m h = true) : pendOf m h ∈ m.pend := by
  obtain ⟨h0, h1, _⟩ := hartB_spec hh
  unfold pendOf
  rw [List.getD_eq_getElem?_getD, List.getElem?_eq_getElem (by omega)]
  exact List.getElem_mem _
theorem Good.len {m : Mem} {H W : Nat} (g : Good m H W) {h : Int} (hh : hartB m h = true) : (pendOf m h).length ≤ 8 := g.few _ (pendOf_mem hh)
theorem Good.at {m : Mem} {H W : Nat} (g : Good m H W) {h : Int} (hh : hartB m h = true) {x : Int × Int} (hx : x ∈ pendOf m h) : 0 ≤ x.1 ∧ x.1 < W := g.ats _ (pendOf_mem hh) x hx
theorem good_new (H W : Nat) : Good (newMem H W) H W := by
  constructor <;> simp [newMem]
  all_goals (intro l _ hl; subst hl; simp)
theorem good_set {m : Mem} {H W : Nat} (g : Good m H W) (h : Int) {l : List (Int × Int)} (hl : l.length ≤ 8) (hx : ∀ x ∈ l, 0 ≤ x.1 ∧ x.1 < W) : Good (setPend m h l) H W := by
  refine ⟨g.words, by simp [setPend, g.pend], g.res, ?_, ?_⟩
  · intro l' hl'
    rcases List.mem_or_eq_of_mem_set hl' with h | h
    · exact g.few l' h
    · subst h; exact hl
  · intro l' hl'
    rcases List.mem_or_eq_of_mem_set hl' with h | h
    · exact g.ats l' h
    · subst h; exact hx
theorem good_goes {m : Mem} {H W : Nat} (g : Good m H W) (h a n : Int) : Good (goesM m h a n) H W :=
  ⟨by simp [goesM, g.words], g.pend, by simp [goesM, goRes_len, g.res], g.few, g.ats⟩
theorem good_res {m : Mem} {H W : Nat} (g : Good m H W) (h a : Int) : Good (setRes m h a) H W :=
  ⟨g.words, g.pend, by simp [setRes, g.res], g.few, g.ats⟩
/-- A store that goes well. -/
theorem store_ok {m m' : Mem} {h a n : Int} (e : storeR m h a n = (m', 0)) : hasB m h a = true ∧ (pendOf m h).length < 8 ∧ m' = setPend m h (pendOf m h ++ [(a, wrap32 n)]) := by
  unfold storeR at e
  split at e
  · rename_i hh
    split at e
    · cases e
    · rename_i h8
      injection e with e1 e2
      exact ⟨hh, by omega, e1.symm⟩
  · cases e
theorem good_store {m m' : Mem} {H W : Nat} {h a n : Int} (g : Good m H W) (e : storeR m h a n = (m', 0)) : Good m' H W := by
  obtain ⟨hh, h8, rfl⟩ := store_ok e
  obtain ⟨h0, h1, a0, a1⟩ := has_range g hh
  have hb := g.hart h0 h1
  refine good_set g h (by simp; omega) ?_
  intro x hx
  rcases List.mem_append.1 hx with hx | hx
  · exact g.at hb hx
  · simp at hx; subst hx; exact ⟨a0, a1⟩
/-- A drain that goes well. -/
theorem drain_ok {m m' : Mem} {h k : Int} (e : drainR m h k = (m', 0)) : hartB m h = true ∧ 0 ≤ k ∧ (∃ x, (pendOf m h)[k.toNat]? = some x ∧ hasB m h x.1 = true ∧ ∀ y ∈ (pendOf m h).take k.toNat, y.1 ≠ x.1) ∧ m' = drainX m h k.toNat := by
  unfold drainR at e
  split at e
  · rename_i hh
    simp only [Bool.and_eq_true, decide_eq_true_eq] at hh
    obtain ⟨hb, k0, k1⟩ := hh
    have kl : k.toNat < (pendOf m h).length := by omega
    split at e
    · rename_i hhas
      split at e
      · cases e
      · rename_i ha
        injection e with e1 e2
        have e' : (pendOf m h).getD k.toNat (0, 0) = (pendOf m h)[k.toNat] := by simp [List.getD, List.getElem?_eq_getElem kl]
        refine ⟨hb, k0, ⟨(pendOf m h)[k.toNat], List.getElem?_eq_getElem kl, e' ▸ hhas, ?_⟩, e1.symm⟩
        intro y hy hc
        apply ha
        unfold aheadB
        rw [List.any_eq_true]
        exact ⟨y, hy, by rw [e']; simp [hc]⟩
    · cases e
  · cases e
theorem good_drainX {m : Mem} {H W : Nat} {h : Int} {k : Nat} (g : Good m H W) (hb : hartB m h = true) : Good (drainX m h k) H W := by
  refine good_set (good_goes g _ _ _) h ?_ ?_
  · exact Nat.le_trans (List.length_eraseIdx_le _ _) (g.len hb)
  · intro x hx
    exact g.at hb (List.mem_of_mem_eraseIdx hx)
theorem good_drain {m m' : Mem} {H W : Nat} {h k : Int} (g : Good m H W) (e : drainR m h k = (m', 0)) : Good m' H W := by
  obtain ⟨hb, _, _, rfl⟩ := drain_ok e
  exact good_drainX g hb
theorem pend_set {m : Mem} {h : Int} (hb : hartB m h = true) (l : List (Int × Int)) : pendOf (setPend m h l) h = l := by
  obtain ⟨h0, h1, _⟩ := hartB_spec hb
  unfold pendOf setPend
  simp only [List.getD_eq_getElem?_getD]
  rw [List.getElem?_set_self (by omega)]
  rfl
theorem pend_set_ne {m : Mem} {h h' : Int} (h0 : 0 ≤ h) (h0' : 0 ≤ h') (hne : h' ≠ h) (l : List (Int × Int)) : pendOf (setPend m h l) h' = pendOf m h' := by
  unfold pendOf setPend
  simp only [List.getD_eq_getElem?_getD]
  rw [List.getElem?_set_ne (by omega)]
theorem word_goes (m : Mem) (h a n b : Int) (a0 : 0 ≤ a) (b0 : 0 ≤ b) (ha : a < m.words.length) : wordOf (goesM m h a n) b = if a = b then n else wordOf m b := by
  unfold wordOf goesM
  simp only [List.getD_eq_getElem?_getD]
  split
  · rename_i e; subst e; rw [List.getElem?_set_self (by omega)]; rfl
  · rw [List.getElem?_set_ne (by omega)]
theorem flushL_ok {H W : Nat} {h : Int} (h0 : 0 ≤ h) (h1 : h < H) : ∀ (n : Nat) (m : Mem), Good m H W → (pendOf m h).length = n →
    ∃ m', flushL h n m = (m', 0) ∧ Good m' H W ∧ pendOf m' h = [] ∧ (∀ h', 0 ≤ h' → h' ≠ h → pendOf m' h' = pendOf m h') ∧ (∀ a, 0 ≤ a → wordOf m' a = loadN m h a) := by
  intro n
  induction n with
  | zero =>
    intro m g hn
    have e : pendOf m h = [] := List.eq_nil_of_length_eq_zero hn
    exact ⟨m, rfl, g, e, fun _ _ _ => rfl, fun a _ => by unfold loadN; rw [e]; rfl⟩
  | succ n ih =>
    intro m g hn
    have hb := g.hart h0 h1
    match hp : pendOf m h, hn with
    | x :: l, hn =>
      have hx : (pendOf m h)[0]? = some x := by rw [hp]; rfl
      obtain ⟨x0, x1⟩ := g.at hb (x := x) (by rw [hp]; exact List.mem_cons_self)
      have e1 := flushL_succ h n m x hx
      rw [g.has h0 h1 x0 x1] at e1
      have g' := good_drainX (k := 0) g hb
      have hp' : pendOf (drainX m h 0) h = l := by rw [drain_pend hb, hp]; rfl
      obtain ⟨m', ha, hg, hpe, hpo, hw⟩ := ih (drainX m h 0) g' (by rw [hp']; simpa using hn)
      refine ⟨m', by rw [e1]; simpa using ha, hg, hpe, ?_, ?_⟩
      · intro h' k0 kne
        rw [hpo h' k0 kne]
        unfold drainX
        rw [pend_set_ne h0 k0 kne]
        rfl
      · intro a a0
        rw [hw a a0]
        unfold loadN
        rw [hp', hp]
        show lastN l a (wordOf (drainX m h 0) a) = lastN l a _
        congr 1
        have : wordOf (drainX m h 0) a = wordOf (goesM m h x.1 x.2) a := by unfold drainX; rw [hp]; rfl
        rw [this, word_goes m h x.1 x.2 a x0 a0 (by rw [g.words]; omega)]
theorem flush_ok {m : Mem} {H W : Nat} {h : Int} (g : Good m H W) (h0 : 0 ≤ h) (h1 : h < H) :
    ∃ m', flushR m h = (m', 0) ∧ Good m' H W ∧ pendOf m' h = [] ∧ (∀ h', 0 ≤ h' → h' ≠ h → pendOf m' h' = pendOf m h') ∧ (∀ a, 0 ≤ a → wordOf m' a = loadN m h a) := by
  have := flushL_ok h0 h1 _ m g rfl
  unfold flushR
  rw [if_pos (g.hart h0 h1)]
  exact this
/-- A drain leaves what the hart itself loads. -/
theorem load_drain {m m' : Mem} {H W : Nat} {h k a : Int} (g : Good m H W) (e : drainR m h k = (m', 0)) (a0 : 0 ≤ a) : loadN m' h a = loadN m h a := by
  obtain ⟨hb, k0, ⟨x, hx, hhas, hah⟩, rfl⟩ := drain_ok e
  obtain ⟨_, _, x0, x1⟩ := has_range g hhas
  obtain ⟨kl, hxe⟩ := List.getElem?_eq_some_iff.1 hx
  unfold loadN
  rw [drain_pend hb]
  have ew : wordOf (drainX m h k.toNat) a = if x.1 = a then x.2 else wordOf m a := by
    have : wordOf (drainX m h k.toNat) a = wordOf (goesM m h x.1 x.2) a := by
      unfold drainX
      rw [show (pendOf m h).getD k.toNat (0, 0) = x by simp [List.getD, hx]]
      rfl
    rw [this, word_goes m h x.1 x.2 a x0 a0 (by rw [g.words]; omega)]
  rw [ew]
  have es : pendOf m h = (pendOf m h).take k.toNat ++ x :: (pendOf m h).drop (k.toNat + 1) := by
    conv => lhs; rw [← List.take_append_drop k.toNat (pendOf m h), List.drop_eq_getElem_cons kl, hxe]
  rw [List.eraseIdx_eq_take_drop_succ]
  conv => rhs; rw [es]
  rw [lastN_app, lastN_app]
  simp only [lastN]
  congr 1
  by_cases hc : x.1 = a
  · rw [if_pos hc, if_pos hc]
    rw [lastN_none _ _ (fun y hy => by rw [← hc]; exact hah y hy)]
  · rw [if_neg hc, if_neg hc]
theorem load_store {m m' : Mem} {h a n b : Int} (e : storeR m h a n = (m', 0)) : loadN m' h b = if a = b then wrap32 n else loadN m h b := by
  obtain ⟨hh, h8, rfl⟩ := store_ok e
  have hb : hartB m h = true := by simp [hasB] at hh; exact hh.1
  unfold loadN
  rw [pend_set hb, lastN_app]
  rfl
theorem store_other {m m' : Mem} {h a n h' b : Int} (e : storeR m h a n = (m', 0)) (h0' : 0 ≤ h') (hne : h' ≠ h) : pendOf m' h' = pendOf m h' ∧ wordOf m' b = wordOf m b := by
  obtain ⟨hh, h8, rfl⟩ := store_ok e
  have h0 : 0 ≤ h := by simp [hasB, hartB] at hh; omega
  exact ⟨pend_set_ne h0 h0' hne _, rfl⟩
theorem drain_other {m m' : Mem} {h k h' : Int} (e : drainR m h k = (m', 0)) (h0' : 0 ≤ h') (hne : h' ≠ h) : pendOf m' h' = pendOf m h' := by
  obtain ⟨hb, k0, _, rfl⟩ := drain_ok e
  obtain ⟨h0, _, _⟩ := hartB_spec hb
  unfold drainX
  rw [pend_set_ne h0 h0' hne]
  rfl
end Go.Proofs.Ytkhobelceghgfaa
