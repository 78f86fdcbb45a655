/-
  Reservations and sums, plain: what StoreReserves and StoreSums say of memories. No program in sight.
-/
import Derived.Test.YtkhobelceghgfaaMemPlain2
namespace Go.Proofs.Ytkhobelceghgfaa
open Go.RowKit
/-- What holds between a hart's reservation and its conditional store. -/
structure ResOK (m : Mem) (w : Int) (t : Bool) : Prop where
  good : Good m 2 4
  none : pendOf m 0 = []
  res : resOf m 0 = if t then -1 else w
theorem resOf_goes {m : Mem} {h a n : Int} (hr : 0 < m.res.length) : resOf (goesM m h a n) 0 = if (0 : Int) ≠ h ∧ resOf m 0 = a then -1 else resOf m 0 := by
  have e : m.res[0]? = some m.res[0] := List.getElem?_eq_getElem hr
  have e2 := goRes_get h a m.res 0 0
  rw [e] at e2
  simp only [Option.map_some, Nat.add_zero, Int.natCast_zero] at e2
  unfold resOf goesM
  simp only [List.getD_eq_getElem?_getD, Int.toNat_zero]
  rw [e2, e]
  simp
theorem resOf_set {m : Mem} {h a : Int} (h0 : 0 ≤ h) (hh : h ≠ 0) : resOf (setRes m h a) 0 = resOf m 0 := by
  unfold resOf setRes
  simp only [List.getD_eq_getElem?_getD]
  rw [List.getElem?_set_ne (by omega)]
theorem resOf_set0 {m : Mem} {a : Int} (hr : 0 < m.res.length) : resOf (setRes m 0 a) 0 = a := by
  unfold resOf setRes
  simp only [List.getD_eq_getElem?_getD]
  rw [List.getElem?_set_self (by simpa using hr)]
  rfl
theorem ResOK.len {m : Mem} {w : Int} {t : Bool} (h : ResOK m w t) : 0 < m.res.length := by rw [h.good.res]; decide
theorem res_store {m m' : Mem} {w a n : Int} {t : Bool} (h : ResOK m w t) (e : storeR m 1 a n = (m', 0)) : ResOK m' w t := by
  have g := good_store h.good e
  have n0 := (store_other (b := 0) e (h' := 0) (by decide) (by decide)).1
  obtain ⟨_, _, rfl⟩ := store_ok e
  exact ⟨g, n0.trans h.none, h.res⟩
theorem res_goes {m : Mem} {w a n : Int} {t : Bool} (h : ResOK m w t) (w0 : 0 ≤ w) (_ : 0 ≤ a) : ResOK (goesM m 1 a n) w (t || (a == w)) := by
  refine ⟨good_goes h.good _ _ _, h.none, ?_⟩
  rw [resOf_goes h.len, h.res]
  cases t
  · by_cases e : a = w
    · subst e; simp
    · simp [e]; try (intro h; exact absurd h.symm e)
  · simp
    try (intro h; omega)
theorem res_drain {m m' : Mem} {w d : Int} {t : Bool} (h : ResOK m w t) (w0 : 0 ≤ w) (e : drainR m 1 d = (m', 0)) :
    0 ≤ d ∧ ∃ x, (pendOf m 1)[d.toNat]? = some x ∧ ResOK m' w (t || (x.1 == w)) := by
  have g := good_drain h.good e
  have n0 := drain_other e (h' := 0) (by decide) (by decide)
  obtain ⟨hb, d0, ⟨x, hx, hhas, _⟩, rfl⟩ := drain_ok e
  obtain ⟨_, _, x0, _⟩ := has_range h.good hhas
  refine ⟨d0, x, hx, g, n0.trans h.none, ?_⟩
  have e1 : drainX m 1 d.toNat = setPend (goesM m 1 x.1 x.2) 1 ((pendOf m 1).eraseIdx d.toNat) := by
    unfold drainX
    rw [show (pendOf m 1).getD d.toNat (0, 0) = x by simp [List.getD, hx]]
  rw [e1]
  exact (res_goes (n := x.2) h w0 x0).res
theorem res_change {m m' : Mem} {w a op n u : Int} {t : Bool} (h : ResOK m w t) (w0 : 0 ≤ w) (a0 : 0 ≤ a) (e : changeR m 1 a op n = (u, m', 0)) : ResOK m' w (t || (a == w)) := by
  obtain ⟨_, _, rfl⟩ := change_ok e
  exact res_goes h w0 a0
theorem res_reserve {m m' : Mem} {w a u : Int} {t : Bool} (h : ResOK m w t) (e : reserveR m 1 a = (u, m', 0)) : ResOK m' w t := by
  obtain ⟨_, _, rfl⟩ := reserve_ok e
  exact ⟨good_res h.good _ _, h.none, by rw [resOf_set (by decide) (by decide)]; exact h.res⟩
theorem res_new {w : Int} (w0 : 0 ≤ w) (w1 : w < 4) : ∃ u m, reserveR (newMem 2 4) 0 w = (u, m, 0) ∧ ResOK m w false := by
  have e := reserve_in (good_new 2 4) (h := 0) (by decide) (by decide) w0 w1
  rw [if_pos (show pendOf (newMem 2 4) 0 = [] from rfl)] at e
  exact ⟨_, _, e, good_res (good_new 2 4) _ _, rfl, by rw [resOf_set0 (by decide)]; rfl⟩
theorem cond_in {m : Mem} {w a n : Int} {t : Bool} (h : ResOK m w t) (a0 : 0 ≤ a) (a1 : a < 4) : condR m 0 a n = if resOf m 0 = a then (true, setRes (goesM m 0 a (wrap32 n)) 0 (-1), 0) else (false, setRes m 0 (-1), 0) := by
  unfold condR
  rw [once_in h.good (by decide) (by decide) a0 a1, if_pos h.none]
  rfl
structure ResEnd (m : Mem) (w o n : Int) (t : Bool) (m1 m2 m3 : Mem) (wr : Bool) (x was : Int) : Prop where
  c1 : condR m 0 o n = (wr, m1, 0)
  c2 : condR m 0 w n = (!t, m2, 0)
  c3 : condR m2 0 w n = (false, m3, 0)
  l1 : loadR m2 0 w = (x, 0)
  l2 : loadR m 0 w = (was, 0)
  g : Good m 2 4
  g2 : Good m2 2 4
  wrong : wr = (!t && (o == w))
  yes : t = false → x = wrap32 n
  no : t = true → x = was
theorem load_zero {m : Mem} {a : Int} (g : Good m 2 4) (hp : pendOf m 0 = []) (a0 : 0 ≤ a) (a1 : a < 4) : loadR m 0 a = (wordOf m a, 0) := by
  rw [load_good g (by decide) (by decide) a0 a1, load_word hp]
theorem res_end {m : Mem} {w o n : Int} {t : Bool} (h : ResOK m w t) (w0 : 0 ≤ w) (w1 : w < 4) (o0 : 0 ≤ o) (o1 : o < 4) : ∃ m1 m2 m3 wr x was, ResEnd m w o n t m1 m2 m3 wr x was := by
  have c1 := cond_in (n := n) h o0 o1
  have c2 := cond_in (n := n) h w0 w1
  cases t
  · have hr : resOf m 0 = w := h.res
    rw [if_pos hr] at c2
    have g2 : Good (setRes (goesM m 0 w (wrap32 n)) 0 (-1)) 2 4 := good_res (good_goes h.good _ _ _) _ _
    have p2 : pendOf (setRes (goesM m 0 w (wrap32 n)) 0 (-1)) 0 = [] := h.none
    have r2 : resOf (setRes (goesM m 0 w (wrap32 n)) 0 (-1)) 0 = -1 := resOf_set0 (by rw [(good_goes h.good 0 w (wrap32 n)).res]; decide)
    have c3 : condR (setRes (goesM m 0 w (wrap32 n)) 0 (-1)) 0 w n = (false, setRes (setRes (goesM m 0 w (wrap32 n)) 0 (-1)) 0 (-1), 0) := by
      unfold condR
      rw [once_in g2 (by decide) (by decide) w0 w1, if_pos p2, r2, if_pos rfl, if_neg (by omega)]
    have ew : wordOf (setRes (goesM m 0 w (wrap32 n)) 0 (-1)) w = wrap32 n := by
      show wordOf (goesM m 0 w (wrap32 n)) w = wrap32 n
      rw [word_goes m 0 w _ w w0 w0 (by rw [h.good.words]; omega), if_pos rfl]
    by_cases ho : o = w
    · subst ho
      rw [if_pos hr] at c1
      exact ⟨_, _, _, true, _, _, c1, c2, c3, by rw [load_zero g2 p2 w0 w1, ew], load_zero h.good h.none w0 w1, h.good, g2, by simp, fun _ => rfl, fun e => (Bool.noConfusion e)⟩
    · rw [if_neg (by rw [hr]; exact Ne.symm ho)] at c1
      exact ⟨_, _, _, false, _, _, c1, c2, c3, by rw [load_zero g2 p2 w0 w1, ew], load_zero h.good h.none w0 w1, h.good, g2, by simp [ho], fun _ => rfl, fun e => (Bool.noConfusion e)⟩
  · have hr : resOf m 0 = -1 := h.res
    rw [if_neg (by omega)] at c1 c2
    have g2 : Good (setRes m 0 (-1)) 2 4 := good_res h.good _ _
    have p2 : pendOf (setRes m 0 (-1)) 0 = [] := h.none
    have r2 : resOf (setRes m 0 (-1)) 0 = -1 := resOf_set0 h.len
    have c3 : condR (setRes m 0 (-1)) 0 w n = (false, setRes (setRes m 0 (-1)) 0 (-1), 0) := by
      unfold condR
      rw [once_in g2 (by decide) (by decide) w0 w1, if_pos p2, r2, if_pos rfl, if_neg (by omega)]
    exact ⟨_, _, _, false, _, _, c1, c2, c3, load_zero g2 p2 w0 w1, load_zero h.good h.none w0 w1, h.good, g2, by simp, fun e => (Bool.noConfusion e), fun _ => rfl⟩
/-- What holds while sums are made: no store to word 0 is pending, and that word is the sum. -/
structure SumOK (m : Mem) (s : Int) : Prop where
  good : Good m 3 4
  away : ∀ l ∈ m.pend, ∀ x ∈ l, x.1 ≠ 0
  word : wordOf m 0 = s
theorem sum_new : SumOK (newMem 3 4) 0 := ⟨good_new 3 4, by intro l hl x hx; simp [newMem] at hl; subst hl; simp at hx, rfl⟩
theorem SumOK.of {m : Mem} {s : Int} (h : SumOK m s) {k : Int} (hb : hartB m k = true) : ∀ x ∈ pendOf m k, x.1 ≠ 0 := h.away _ (pendOf_mem hb)
theorem away_set {m : Mem} {h : Int} {l : List (Int × Int)} (ha : ∀ l ∈ m.pend, ∀ x ∈ l, x.1 ≠ 0) (hl : ∀ x ∈ l, x.1 ≠ 0) : ∀ l' ∈ (setPend m h l).pend, ∀ x ∈ l', x.1 ≠ 0 := by
  intro l' hl'
  rcases List.mem_or_eq_of_mem_set hl' with h | h
  · exact ha l' h
  · subst h; exact hl
theorem sum_store {m m' : Mem} {s h a n : Int} (k : SumOK m s) (ha : 0 < a) (e : storeR m h a n = (m', 0)) : SumOK m' s := by
  have g := good_store k.good e
  obtain ⟨hh, _, rfl⟩ := store_ok e
  obtain ⟨h0, h1, _, _⟩ := has_range k.good hh
  refine ⟨g, away_set k.away ?_, k.word⟩
  intro x hx
  rcases List.mem_append.1 hx with hx | hx
  · exact k.of (k.good.hart h0 h1) x hx
  · simp at hx; subst hx; show a ≠ 0; omega
theorem sum_drain {m m' : Mem} {s h d : Int} (k : SumOK m s) (e : drainR m h d = (m', 0)) : SumOK m' s := by
  have g := good_drain k.good e
  obtain ⟨hb, d0, ⟨x, hx, hhas, _⟩, rfl⟩ := drain_ok e
  obtain ⟨_, _, x0, x1⟩ := has_range k.good hhas
  have xne := k.of hb x (List.mem_of_getElem? hx)
  refine ⟨g, away_set k.away (fun y hy => k.of hb y (List.mem_of_mem_eraseIdx hy)), ?_⟩
  have : wordOf (drainX m h d.toNat) 0 = wordOf (goesM m h x.1 x.2) 0 := by
    unfold drainX
    rw [show (pendOf m h).getD d.toNat (0, 0) = x by simp [List.getD, hx]]
    rfl
  rw [this, word_goes m h x.1 x.2 0 x0 (by decide) (by rw [k.good.words]; omega), if_neg xne]
  exact k.word
theorem sum_change {m m' : Mem} {s h n u : Int} (k : SumOK m s) (e : changeR m h 0 1 n = (u, m', 0)) : u = s ∧ SumOK m' (twoN 1 s n) := by
  have g := good_change k.good e
  obtain ⟨_, rfl, rfl⟩ := change_ok e
  refine ⟨k.word, g, k.away, ?_⟩
  rw [word_goes m h 0 _ 0 (by decide) (by decide) (by rw [k.good.words]; decide), if_pos rfl, k.word]
  unfold changeN
  rw [if_neg (by decide)]
theorem sum_load {m : Mem} {s : Int} (k : SumOK m s) : loadR m 1 0 = (s, 0) := by
  rw [load_good k.good (by decide) (by decide) (by decide) (by decide)]
  unfold loadN
  rw [lastN_none _ _ (k.of (k.good.hart (by decide) (by decide))), k.word]
end Go.Proofs.Ytkhobelceghgfaa
