/-
  What the walks of this statement lean on (MacKeep): shown.
-/
import Derived.Test.YtdobddiibgfeaaaGreatZa
import Derived.Test.YtdobddiibgfeaaaGreatZu
set_option linter.unusedVariables false
set_option linter.unusedSimpArgs false
namespace Go.Proofs.YtdobddiibgfeaaaGreat
section
open Go.RowKit
set_option maxRecDepth 100000
def PendK (i : Int) (m m' : Mem) : Prop := m'.pend.length = m.pend.length ∧ ∀ j : Nat, (j : Int) ≠ i → m'.pend[j]? = m.pend[j]?
theorem pendK_eq {i : Int} {m m' : Mem} (h : m'.pend = m.pend) : PendK i m m' := by unfold PendK; rw [h]; exact ⟨rfl, fun _ _ => rfl⟩
theorem pendK_set {i : Int} (h : 0 ≤ i) {m m' : Mem} (l : List (Int × Int)) (hp : m'.pend = m.pend) : PendK i m (zeI m' i l) := by
 refine ⟨by simp [zeI, hp], fun j hj => ?_⟩
 simp only [zeI, hp]
 rw [List.getElem?_set_ne (by omega)]
theorem pendK_memR {M : Mac} {i : Int} {e : Eff} {a : Int} (hi : 0 ≤ i) (h0 : (memR M i e a).2.2 = 0) : PendK i M.mem (memR M i e a).2.1 := by
 unfold memR at h0 ⊢
 split
 · exact pendK_eq rfl
 rename_i h1; rw [if_neg h1] at h0
 split
 · rename_i h2; rw [if_pos h2] at h0
   unfold zee at h0 ⊢
   split
   · rename_i h3; rw [if_pos h3] at h0
     split
     · rename_i h4; rw [if_pos h4] at h0; simp at h0
     · exact pendK_set hi _ rfl
   · rename_i h3; rw [if_neg h3] at h0; simp at h0
 rename_i h2; rw [if_neg h2] at h0
 split
 · rename_i h3; rw [if_pos h3] at h0
   unfold zbJ at h0 ⊢
   split
   · exact pendK_eq rfl
   · rename_i h4; rw [if_neg h4] at h0; exact absurd h0 h4
 rename_i h3; rw [if_neg h3] at h0
 split
 · rename_i h4; rw [if_pos h4] at h0
   unfold zcA at h0 ⊢
   split
   · split
     · exact pendK_eq rfl
     · exact pendK_eq rfl
   · rename_i h5; rw [if_neg h5] at h0; exact absurd h0 h5
 · rename_i h4; rw [if_neg h4] at h0
   unfold zbZ at h0 ⊢
   split
   · exact pendK_eq rfl
   · rename_i h5; rw [if_neg h5] at h0; exact absurd h0 h5
structure KeptS (i : Int) (M M' : Mac) : Prop where
 words : M'.words = M.words
 hl : M'.harts.length = M.harts.length
 el : M'.ends.length = M.ends.length
 pend : PendK i M.mem M'.mem
 trace : M'.trace = M.trace ∨ ∃ a : Ac, a.h = i ∧ M'.trace = M.trace ++ [a]
 harts : ∀ j : Nat, (j : Int) ≠ i → M'.harts[j]? = M.harts[j]?
 ends : ∀ j : Nat, (j : Int) ≠ i → M'.ends[j]? = M.ends[j]?
section
variable {M : Mac} {i : Int}
theorem keptS_hart (h0 : 0 ≤ i) (h : Ht) : KeptS i M (zb5 M i h) :=
 ⟨rfl, by simp [zb5], rfl, pendK_eq rfl, .inl rfl, fun j hj => by simp only [zb5]; rw [List.getElem?_set_ne (by omega)], fun _ _ => rfl⟩
theorem keptS_end (h0 : 0 ≤ i) (x : Int) : KeptS i M (zeY M i x) :=
 ⟨rfl, rfl, by simp [zeY], pendK_eq rfl, .inl rfl, fun _ _ => rfl, fun j hj => by simp only [zeY]; rw [List.getElem?_set_ne (by omega)]⟩
theorem KeptS.mem {M' : Mac} (k : KeptS i M M') {m : Mem} (h : PendK i M.mem m) : KeptS i M { M' with mem := m } :=
 ⟨k.words, k.hl, k.el, h, k.trace, k.harts, k.ends⟩
theorem keptS_memory (h0 : 0 ≤ i) {h : Ht} {e : Eff} {a : Int} (hz : (zbN M i h e a).2 = 0) : KeptS i M (zbN M i h e a).1 := by
 unfold zbN at hz ⊢
 split
 · rename_i hh
   exact (keptS_hart h0 _).mem (pendK_memR h0 hh)
 · rename_i hh; rw [if_neg hh] at hz; exact absurd hz hh
theorem keptS_register (h0 : 0 ≤ i) {h : Ht} {e : Eff} {d g : Int} (hz : (zbA M i h e d g).2 = 0) : KeptS i M (zbA M i h e d g).1 := by
 unfold zbA at hz ⊢
 split
 · rename_i hh; rw [if_pos hh] at hz; simp at hz
 · split
   · have k := keptS_hart (M := M) h0 h
     exact ⟨k.words, k.hl, k.el, k.pend, .inr ⟨_, rfl, rfl⟩, k.harts, k.ends⟩
   · have k := keptS_hart (M := M) h0 (putH h e.d (zbl (zeF M d) g))
     exact ⟨k.words, k.hl, k.el, k.pend, .inr ⟨_, rfl, rfl⟩, k.harts, k.ends⟩
theorem keptS_access (h0 : 0 ≤ i) {h : Ht} {e : Eff} (hz : (zdh M i h e).2 = 0) : KeptS i M (zdh M i h e).1 := by
 unfold zdh at hz ⊢
 split
 · rename_i hh; rw [if_pos hh] at hz; exact keptS_memory h0 hz
 · rename_i hh; rw [if_neg hh] at hz
   split
   · rename_i h2; rw [if_pos h2] at hz; exact keptS_register h0 hz
   · exact keptS_end h0 _
theorem KeptS.hart {M' : Mac} (k : KeptS i M M') (h0 : 0 ≤ i) (h : Ht) : KeptS i M (zb5 M' i h) :=
 ⟨k.words, by simp [zb5, k.hl], k.el, k.pend, k.trace, fun j hj => by simp only [zb5]; rw [List.getElem?_set_ne (by omega)]; exact k.harts j hj, k.ends⟩
theorem keptS_eff (h0 : 0 ≤ i) {r : Ht × Eff} (hz : (effR M i r).2 = 0) : KeptS i M (effR M i r).1 := by
 unfold effR at hz ⊢
 split
 · exact keptS_end h0 _
 rename_i h1; rw [if_neg h1] at hz
 split
 · exact (keptS_end h0 _).hart h0 _
 rename_i h2; rw [if_neg h2] at hz
 split
 · rename_i h3; rw [if_pos h3] at hz
   split
   · rename_i h4; rw [if_pos h4] at hz; simp at hz
   · exact keptS_hart h0 _
 rename_i h3; rw [if_neg h3] at hz
 split
 · rename_i h4; rw [if_pos h4] at hz; exact keptS_access h0 hz
 · exact keptS_hart h0 _
theorem step_kept (hz : (zdC M i).2 = 0) : KeptS i M (zdC M i).1 ∧ zc9 M i = true ∧ zkv M i = 0 := by
 unfold zdC at hz ⊢
 split
 · rename_i h1; rw [if_pos h1] at hz; simp at hz
 rename_i h1; rw [if_neg h1] at hz
 have hi : zc9 M i = true := by simpa using h1
 have h0 := (zcy hi).1
 split
 · rename_i h2; rw [if_pos h2] at hz; simp at hz
 rename_i h2; rw [if_neg h2] at hz
 have he : zkv M i = 0 := by omega
 split
 · exact ⟨keptS_end h0 _, hi, he⟩
 · rename_i h3; rw [if_neg h3] at hz
   exact ⟨keptS_eff h0 hz, hi, he⟩
end
structure Kept (c : Cho) (M M' : Mac) : Prop where
 words : M'.words = M.words
 hl : M'.harts.length = M.harts.length
 el : M'.ends.length = M.ends.length
 pl : M'.mem.pend.length = M.mem.pend.length
 trace : M'.trace = M.trace ∨ c.k = 1 ∧ ∃ a : Ac, a.h = c.h ∧ M'.trace = M.trace ++ [a]
 harts : ∀ j : Nat, ¬ ((c.k = 1 ∨ c.k = 4) ∧ (j : Int) = c.h) → M'.harts[j]? = M.harts[j]?
 ends : ∀ j : Nat, ¬ (c.k = 1 ∧ (j : Int) = c.h) → M'.ends[j]? = M.ends[j]?
 pend : ∀ j : Nat, ¬ ((c.k = 1 ∨ c.k = 2) ∧ (j : Int) = c.h) → M'.mem.pend[j]? = M.mem.pend[j]?
 own : c.k = 1 ∨ c.k = 4 → zc9 M c.h = true ∧ zkv M c.h = 0
theorem drain_pendK {m : Mem} {i k : Int} (h0 : 0 ≤ i) (hz : (zc6 m i k).2 = 0) : PendK i m (zc6 m i k).1 := by
 unfold zc6 at hz ⊢
 split
 · rename_i h1; rw [if_pos h1] at hz
   split
   · rename_i h2; rw [if_pos h2] at hz
     split
     · rename_i h3; rw [if_pos h3] at hz; simp at hz
     · exact pendK_set h0 _ rfl
   · rename_i h2; rw [if_neg h2] at hz; simp at hz
 · rename_i h1; rw [if_neg h1] at hz; simp at hz
theorem do_kept {M : Mac} {c : Cho} (hz : (doR M c).2 = 0) : Kept c M (doR M c).1 := by
 unfold doR at hz ⊢
 split
 · rename_i h1; rw [if_pos h1] at hz
   obtain ⟨k, hi, he⟩ := step_kept hz
   exact ⟨k.words, k.hl, k.el, k.pend.1, k.trace.imp id fun h => ⟨h1, h⟩, fun j hj => k.harts j fun e => hj ⟨.inl h1, e⟩, fun j hj => k.ends j fun e => hj ⟨h1, e⟩, fun j hj => k.pend.2 j fun e => hj ⟨.inl h1, e⟩, fun _ => ⟨hi, he⟩⟩
 rename_i h1; rw [if_neg h1] at hz
 split
 · rename_i h2; rw [if_pos h2] at hz
   unfold zcN at hz ⊢
   split
   · rename_i h3; rw [if_pos h3] at hz; simp at hz
   rename_i h3; rw [if_neg h3] at hz
   have hi : zc9 M c.h = true := by simpa using h3
   split
   · rename_i h4
     have p := drain_pendK (zcy hi).1 h4
     exact ⟨rfl, rfl, rfl, p.1, .inl rfl, fun _ _ => rfl, fun _ _ => rfl, fun j hj => p.2 j fun e => hj ⟨.inr h2, e⟩, fun h => by omega⟩
   · rename_i h4; rw [if_neg h4] at hz; exact absurd hz h4
 rename_i h2; rw [if_neg h2] at hz
 split
 · unfold zdQ at hz ⊢
   split
   · exact ⟨rfl, rfl, rfl, rfl, .inl rfl, fun _ _ => rfl, fun _ _ => rfl, fun _ _ => rfl, fun h => by omega⟩
   · rename_i h3 h4; rw [if_pos h3, if_neg h4] at hz; simp at hz
 rename_i h3; rw [if_neg h3] at hz
 split
 · rename_i h4; rw [if_pos h4] at hz
   unfold zdA at hz ⊢
   split
   · rename_i h5; rw [if_pos h5] at hz; simp at hz
   rename_i h5; rw [if_neg h5] at hz
   have hi : zc9 M c.h = true := by simpa using h5
   have h0 := (zcy hi).1
   split
   · rename_i h6; rw [if_pos h6] at hz; simp at hz
   rename_i h6; rw [if_neg h6] at hz
   split
   · rename_i h7; rw [if_pos h7] at hz; simp at hz
   · exact ⟨rfl, by simp [zb5, zdL], rfl, rfl, .inl rfl, fun j hj => by
      have hne : ¬ (j : Int) = c.h := fun e => hj ⟨.inr h4, e⟩
      simp only [zb5, zdL]; rw [List.getElem?_set_ne (by omega)], fun _ _ => rfl, fun _ _ => rfl, fun _ => ⟨hi, by omega⟩⟩
 rename_i h4; rw [if_neg h4] at hz
 split
 · rename_i h5; rw [if_pos h5] at hz
   unfold zdz at hz ⊢
   split
   · exact ⟨rfl, rfl, rfl, rfl, .inl rfl, fun _ _ => rfl, fun _ _ => rfl, fun _ _ => rfl, fun h => by omega⟩
   · rename_i h6; rw [if_neg h6] at hz; simp at hz
 · rename_i h5; rw [if_neg h5] at hz; simp at hz
structure KeptR (M M' : Mac) : Prop where
 words : M'.words = M.words
 hl : M'.harts.length = M.harts.length
 el : M'.ends.length = M.ends.length
 trace : M.trace.length ≤ M'.trace.length
 ended : ∀ j : Nat, j < M.ends.length → j < M.harts.length → M.ends.getD j 0 ≠ 0 → M'.ends[j]? = M.ends[j]? ∧ M'.harts[j]? = M.harts[j]?
theorem KeptR.refl (M : Mac) : KeptR M M := ⟨rfl, rfl, rfl, Nat.le_refl _, fun _ _ _ _ => ⟨rfl, rfl⟩⟩
theorem KeptR.trans {A B C : Mac} (a : KeptR A B) (b : KeptR B C) : KeptR A C := by
 refine ⟨b.words.trans a.words, b.hl.trans a.hl, b.el.trans a.el, Nat.le_trans a.trace b.trace, fun j h1 h2 h3 => ?_⟩
 obtain ⟨e1, e2⟩ := a.ended j h1 h2 h3
 obtain ⟨f1, f2⟩ := b.ended j (by rw [a.el]; exact h1) (by rw [a.hl]; exact h2) (by rw [List.getD_eq_getElem?_getD, e1, ← List.getD_eq_getElem?_getD]; exact h3)
 exact ⟨f1.trans e1, f2.trans e2⟩
theorem Kept.run {c : Cho} {M M' : Mac} (k : Kept c M M') : KeptR M M' := by
 refine ⟨k.words, k.hl, k.el, ?_, fun j h1 h2 h3 => ?_⟩
 · rcases k.trace with h | ⟨_, a, _, h⟩ <;> rw [h] <;> simp
 · have hno : ¬ ((c.k = 1 ∨ c.k = 4) ∧ (j : Int) = c.h) := by
    rintro ⟨hk, hj⟩
    have := (k.own hk).2
    rw [← hj] at this
    exact h3 this
   exact ⟨k.ends j fun h => hno ⟨.inl h.1, h.2⟩, k.harts j hno⟩
theorem run_kept (l : List Cho) : ∀ M, KeptR M (runR M l).1 := by
 induction l with
 | nil => exact KeptR.refl
 |
  cons c l ih =>
  intro M
  unfold runR
  split
  · rename_i h; exact (do_kept h).run.trans (ih _)
  · exact ih M
theorem once_no (m : Mem) (h a : Int) : zca m h a ≠ 100 := by
 unfold zca
 repeat' split
 all_goals decide
theorem memR_no (M : Mac) (i : Int) (e : Eff) (a : Int) : (memR M i e a).2.2 ≠ 100 := by
 unfold memR zgj zee zbJ zcA zbZ zdg
 have := once_no M.mem i a
 repeat' split
 all_goals simp <;> omega
theorem access_no (M : Mac) (i : Int) (h : Ht) (e : Eff) : (zdh M i h e).2 ≠ 100 := by
 unfold zdh zbN zbA
 have := memR_no M i e ((offM e).tdiv 4)
 repeat' split
 all_goals first | exact this | simp
theorem step_no {M : Mac} {i : Int} : (zdC M i).2 = 100 ↔ zc9 M i = true ∧ zkv M i ≠ 0 := by
 unfold zdC
 split
 · rename_i h; simp [h]
 · rename_i h
   have hi : zc9 M i = true := by simpa using h
   split
   · rename_i h2; simp [hi, h2]
   · rename_i h2
     have h2' : zkv M i = 0 := by omega
     split
     · simp [h2']
     · have : (effR M i (zdB (zbB M i) i (zeD M i))).2 ≠ 100 := by
        generalize zdB (zbB M i) i (zeD M i) = r
        unfold effR
        have := access_no M i r.1 r.2
        repeat' split
        all_goals first | exact this | simp
       simp [h2', this]
theorem take_no {M : Mac} {i : Int} : (zdA M i).2 = 100 ↔ zc9 M i = true ∧ zkv M i ≠ 0 := by
 unfold zdA
 split
 · rename_i h; simp [h]
 · rename_i h
   have hi : zc9 M i = true := by simpa using h
   split
   · rename_i h2; simp [hi, h2]
   · rename_i h2
     have h2' : zkv M i = 0 := by omega
     split <;> simp [h2']
end
end Go.Proofs.YtdobddiibgfeaaaGreat
