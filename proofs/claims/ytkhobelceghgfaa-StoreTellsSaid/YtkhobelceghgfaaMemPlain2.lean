/-
  More plain laws of memories: reservations, conditional stores, changes; what goes to memory at once.
-/
import Derived.Test.YtkhobelceghgfaaMemPlain
namespace Go.Proofs.Ytkhobelceghgfaa
open Go.RowKit
theorem once_ok {m : Mem} {h a : Int} (e : onceE m h a = 0) : hasB m h a = true ∧ pendOf m h = [] := by
  unfold onceE at e
  split at e
  · rename_i hh
    split at e
    · rename_i h0; exact ⟨hh, List.eq_nil_of_length_eq_zero h0⟩
    · cases e
  · cases e
theorem once_in {m : Mem} {H W : Nat} (g : Good m H W) {h a : Int} (h0 : 0 ≤ h) (h1 : h < H) (a0 : 0 ≤ a) (a1 : a < W) : onceE m h a = if pendOf m h = [] then 0 else 92 := by
  unfold onceE
  rw [if_pos (g.has h0 h1 a0 a1)]
  by_cases hp : pendOf m h = []
  · rw [if_pos hp, if_pos (by rw [hp]; rfl)]
  · rw [if_neg hp, if_neg (fun e => hp (List.eq_nil_of_length_eq_zero e))]
theorem reserve_ok {m m' : Mem} {h a u : Int} (e : reserveR m h a = (u, m', 0)) : onceE m h a = 0 ∧ u = wordOf m a ∧ m' = setRes m h a := by
  unfold reserveR at e
  split at e
  · rename_i h0; injection e with e1 e2; injection e2 with e2 e3; exact ⟨h0, e1.symm, e2.symm⟩
  · rename_i h0; injection e with e1 e2; injection e2 with e2 e3; exact absurd e3 h0
theorem good_reserve {m m' : Mem} {H W : Nat} {h a u : Int} (g : Good m H W) (e : reserveR m h a = (u, m', 0)) : Good m' H W := by
  obtain ⟨_, _, rfl⟩ := reserve_ok e; exact good_res g _ _
theorem cond_ok {m m' : Mem} {h a n : Int} {u : Bool} (e : condR m h a n = (u, m', 0)) : onceE m h a = 0 ∧ u = decide (resOf m h = a) ∧ m' = if resOf m h = a then setRes (goesM m h a (wrap32 n)) h (-1) else setRes m h (-1) := by
  unfold condR at e
  split at e
  · rename_i h0
    split at e
    · rename_i hr; injection e with e1 e2; injection e2 with e2 e3; exact ⟨h0, by rw [← e1]; simp [hr], by rw [if_pos hr]; exact e2.symm⟩
    · rename_i hr; injection e with e1 e2; injection e2 with e2 e3; exact ⟨h0, by rw [← e1]; simp [hr], by rw [if_neg hr]; exact e2.symm⟩
  · rename_i h0; injection e with e1 e2; injection e2 with e2 e3; exact absurd e3 h0
theorem good_cond {m m' : Mem} {H W : Nat} {h a n : Int} {u : Bool} (g : Good m H W) (e : condR m h a n = (u, m', 0)) : Good m' H W := by
  obtain ⟨_, _, rfl⟩ := cond_ok e
  split
  · exact good_res (good_goes g _ _ _) _ _
  · exact good_res g _ _
theorem change_ok {m m' : Mem} {h a op n u : Int} (e : changeR m h a op n = (u, m', 0)) : onceE m h a = 0 ∧ u = wordOf m a ∧ m' = goesM m h a (changeN op (wordOf m a) n) := by
  unfold changeR at e
  split at e
  · rename_i h0; injection e with e1 e2; injection e2 with e2 e3
    refine ⟨?_, e1.symm, e2.symm⟩
    unfold changeE at h0
    split at h0
    · cases h0
    · exact h0
  · rename_i h0; injection e with e1 e2; injection e2 with e2 e3; exact absurd e3 h0
theorem good_change {m m' : Mem} {H W : Nat} {h a op n u : Int} (g : Good m H W) (e : changeR m h a op n = (u, m', 0)) : Good m' H W := by
  obtain ⟨_, _, rfl⟩ := change_ok e; exact good_goes g _ _ _
theorem load_word {m : Mem} {h a : Int} (hp : pendOf m h = []) : loadN m h a = wordOf m a := by unfold loadN; rw [hp]; rfl
theorem load_good {m : Mem} {H W : Nat} (g : Good m H W) {h a : Int} (h0 : 0 ≤ h) (h1 : h < H) (a0 : 0 ≤ a) (a1 : a < W) : loadR m h a = (loadN m h a, 0) := by
  unfold loadR; rw [if_pos (g.has h0 h1 a0 a1)]
theorem change_in {m : Mem} {H W : Nat} (g : Good m H W) {h a : Int} (n : Int) (h0 : 0 ≤ h) (h1 : h < H) (a0 : 0 ≤ a) (a1 : a < W) :
    changeR m h a 0 n = if pendOf m h = [] then (wordOf m a, goesM m h a (wrap32 n), 0) else (0, noMem, 92) := by
  have e : changeE m h a 0 = onceE m h a := by unfold changeE; rw [if_neg (by simp)]
  unfold changeR
  rw [e, once_in g h0 h1 a0 a1]
  split <;> rfl
theorem reserve_in {m : Mem} {H W : Nat} (g : Good m H W) {h a : Int} (h0 : 0 ≤ h) (h1 : h < H) (a0 : 0 ≤ a) (a1 : a < W) :
    reserveR m h a = if pendOf m h = [] then (wordOf m a, setRes m h a, 0) else (0, noMem, 92) := by
  unfold reserveR
  rw [once_in g h0 h1 a0 a1]
  split <;> rfl
theorem store_in {m : Mem} {H W : Nat} (g : Good m H W) {h a : Int} (n : Int) (h0 : 0 ≤ h) (h1 : h < H) (a0 : 0 ≤ a) (a1 : a < W) :
    storeR m h a n = if 8 ≤ (pendOf m h).length then (noMem, 90) else (setPend m h (pendOf m h ++ [(a, wrap32 n)]), 0) := by
  unfold storeR; rw [if_pos (g.has h0 h1 a0 a1)]
structure BusyOK (m : Mem) (H W : Nat) (h k n was : Int) (m1 m2 m3 m4 m5 : Mem) : Prop where
  f1 : flushR m h = (m1, 0)
  l1 : loadR m1 h k = (was, 0)
  c1 : changeR m1 h k 0 n = (was, m2, 0)
  s1 : storeR m2 h k n = (m3, 0)
  c2 : changeR m3 h k 0 n = (0, noMem, 92)
  r2 : reserveR m3 h k = (0, noMem, 92)
  o2 : condR m3 h k n = (false, noMem, 92)
  f2 : flushR m3 h = (m4, 0)
  r3 : reserveR m4 h k = (wrap32 n, m5, 0)
  g1 : Good m1 H W
  g2 : Good m2 H W
  g3 : Good m3 H W
  g4 : Good m4 H W
theorem busy_ok {m : Mem} {H W : Nat} (g : Good m H W) {h k : Int} (n : Int) (h0 : 0 ≤ h) (h1 : h < H) (k0 : 0 ≤ k) (k1 : k < W) : ∃ was m1 m2 m3 m4 m5, BusyOK m H W h k n was m1 m2 m3 m4 m5 := by
  obtain ⟨m1, e1, g1, p1, _, _⟩ := flush_ok g h0 h1
  have c1 := change_in g1 n h0 h1 k0 k1
  rw [if_pos p1] at c1
  have g2 := good_goes g1 h k (wrap32 n)
  have p2 : pendOf (goesM m1 h k (wrap32 n)) h = [] := p1
  have s1 := store_in g2 n h0 h1 k0 k1
  rw [if_neg (by rw [p2]; simp)] at s1
  have g3 := good_store g2 s1
  have p3 : pendOf (setPend (goesM m1 h k (wrap32 n)) h (pendOf (goesM m1 h k (wrap32 n)) h ++ [(k, wrap32 n)])) h = [(k, wrap32 n)] := by
    rw [pend_set (g2.hart h0 h1), p2]; rfl
  generalize setPend (goesM m1 h k (wrap32 n)) h (pendOf (goesM m1 h k (wrap32 n)) h ++ [(k, wrap32 n)]) = m3 at *
  have ne3 : ¬ pendOf m3 h = [] := by rw [p3]; simp
  obtain ⟨m4, e4, g4, p4, _, w4⟩ := flush_ok g3 h0 h1
  have c2 := change_in g3 n h0 h1 k0 k1
  rw [if_neg ne3] at c2
  have r2 := reserve_in g3 h0 h1 k0 k1
  rw [if_neg ne3] at r2
  have o2 : condR m3 h k n = (false, noMem, 92) := by
    unfold condR
    rw [once_in g3 h0 h1 k0 k1, if_neg ne3]
    rfl
  have r3 := reserve_in g4 h0 h1 k0 k1
  rw [if_pos p4, w4 k k0] at r3
  have lw : loadN m3 h k = wrap32 n := by
    unfold loadN; rw [p3]; simp [lastN]
  rw [lw] at r3
  exact ⟨_, m1, _, _, m4, _, e1, by rw [load_good g1 h0 h1 k0 k1, load_word p1], c1, s1, c2, r2, o2, e4, r3, g1, g2, g3, g4⟩
end Go.Proofs.Ytkhobelceghgfaa
