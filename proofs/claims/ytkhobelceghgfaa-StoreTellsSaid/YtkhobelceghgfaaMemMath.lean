/-
  Memories: what is done to them, plain. No program in sight.
-/
import Derived.Test.YtkhobelceghgfaaWrapMath
import Derived.Test.YtkhobelceghgfaaPickMath
namespace Go.Proofs.Ytkhobelceghgfaa
open Go.RowKit
structure Mem where
  words : List Int
  pend : List (List (Int × Int))
  res : List Int
deriving DecidableEq
def noMem : Mem := ⟨[], [], []⟩
def newMem (h n : Nat) : Mem := ⟨List.replicate n 0, List.replicate h [], List.replicate h (-1)⟩
def hartB (m : Mem) (h : Int) : Bool := decide (0 ≤ h) && (decide (h < m.pend.length) && decide (h < m.res.length))
def hasB (m : Mem) (h a : Int) : Bool := hartB m h && (decide (0 ≤ a) && decide (a < m.words.length))
def pendOf (m : Mem) (h : Int) : List (Int × Int) := m.pend.getD h.toNat []
def wordOf (m : Mem) (a : Int) : Int := m.words.getD a.toNat 0
def resOf (m : Mem) (h : Int) : Int := m.res.getD h.toNat 0
/-- The last of a list's stores to a word. -/
def lastN : List (Int × Int) → Int → Int → Int
  | [], _, d => d
  | x :: l, a, d => lastN l a (if x.1 = a then x.2 else d)
def loadN (m : Mem) (h a : Int) : Int := lastN (pendOf m h) a (wordOf m a)
def loadR (m : Mem) (h a : Int) : Int × Int := if hasB m h a then (loadN m h a, 0) else (0, 1)
def setPend (m : Mem) (h : Int) (l : List (Int × Int)) : Mem := ⟨m.words, m.pend.set h.toNat l, m.res⟩
def setRes (m : Mem) (h : Int) (a : Int) : Mem := ⟨m.words, m.pend, m.res.set h.toNat a⟩
def storeR (m : Mem) (h a n : Int) : Mem × Int :=
  if hasB m h a then (if 8 ≤ (pendOf m h).length then (noMem, 90) else (setPend m h (pendOf m h ++ [(a, wrap32 n)]), 0)) else (noMem, 1)
/-- Reservations of other harts that go, the first ones so far. -/
def goRes (h a : Int) : Nat → List Int → List Int
  | _, [] => []
  | i, r :: l => (if (i : Int) ≠ h ∧ r = a then -1 else r) :: goRes h a (i + 1) l
def goesM (m : Mem) (h a n : Int) : Mem := ⟨m.words.set a.toNat n, m.pend, goRes h a 0 m.res⟩
def drainX (m : Mem) (h : Int) (k : Nat) : Mem :=
  setPend (goesM m h ((pendOf m h).getD k (0, 0)).1 ((pendOf m h).getD k (0, 0)).2) h ((pendOf m h).eraseIdx k)
def aheadB (l : List (Int × Int)) (k : Nat) : Bool := (l.take k).any fun x => decide (x.1 = (l.getD k (0, 0)).1)
def drainR (m : Mem) (h k : Int) : Mem × Int :=
  if hartB m h && (decide (0 ≤ k) && decide (k < (pendOf m h).length)) then
    (if hasB m h ((pendOf m h).getD k.toNat (0, 0)).1 then (if aheadB (pendOf m h) k.toNat then (noMem, 91) else (drainX m h k.toNat, 0)) else (noMem, 1))
  else (noMem, 1)
/-- So many of a hart's stores go to memory. -/
def flushL (h : Int) : Nat → Mem → Mem × Int
  | 0, m => (m, 0)
  | k + 1, m => if hasB m h ((pendOf m h).getD 0 (0, 0)).1 then flushL h k (drainX m h 0) else (noMem, 1)
def flushR (m : Mem) (h : Int) : Mem × Int := if hartB m h then flushL h (pendOf m h).length m else (noMem, 1)
def onceE (m : Mem) (h a : Int) : Int := if hasB m h a then (if (pendOf m h).length = 0 then 0 else 92) else 1
def reserveR (m : Mem) (h a : Int) : Int × Mem × Int := if onceE m h a = 0 then (wordOf m a, setRes m h a, 0) else (0, noMem, onceE m h a)
def condR (m : Mem) (h a n : Int) : Bool × Mem × Int :=
  if onceE m h a = 0 then
    (if resOf m h = a then (true, setRes (goesM m h a (wrap32 n)) h (-1), 0) else (false, setRes m h (-1), 0))
  else (false, noMem, onceE m h a)
def changeN (op w n : Int) : Int := if op = 0 then wrap32 n else twoN op w n
def changeE (m : Mem) (h a op : Int) : Int := if op ≠ 0 ∧ levelN op = 0 then 1 else onceE m h a
def changeR (m : Mem) (h a op n : Int) : Int × Mem × Int :=
  if changeE m h a op = 0 then (wordOf m a, goesM m h a (changeN op (wordOf m a) n), 0) else (0, noMem, changeE m h a op)

/-- What walks ask: no list is long. -/
structure Small (m : Mem) : Prop where
  words : m.words.length ≤ 100000
  pend : m.pend.length ≤ 1000
  res : m.res.length ≤ 1000
  each : ∀ l ∈ m.pend, l.length ≤ 1000
theorem goRes_len (h a : Int) (l : List Int) : ∀ i, (goRes h a i l).length = l.length := by
  induction l with
  | nil => intro i; rfl
  | cons r l ih => intro i; simp [goRes, ih]
theorem goRes_get (h a : Int) (l : List Int) : ∀ i k, (goRes h a i l)[k]? = l[k]?.map fun r => if ((i + k : Nat) : Int) ≠ h ∧ r = a then -1 else r := by
  induction l with
  | nil => intro i k; rfl
  | cons r l ih =>
    intro i k
    cases k with
    | zero => rfl
    | succ k =>
      simp only [goRes, List.getElem?_cons_succ]
      rw [ih]
      rw [show i + 1 + k = i + (k + 1) by omega]
/-- The reservations behind so many rounds. -/
def resK (h a : Int) (k : Nat) (l : List Int) : List Int := goRes h a 0 (l.take k) ++ l.drop k
theorem resK_len (h a : Int) (k : Nat) (l : List Int) : (resK h a k l).length = l.length := by
  unfold resK; rw [List.length_append, goRes_len, ← List.length_append, List.take_append_drop]
theorem resK_zero (h a : Int) (l : List Int) : resK h a 0 l = l := rfl
theorem resK_all (h a : Int) (l : List Int) : resK h a l.length l = goRes h a 0 l := by simp [resK]
theorem goRes_app (h a : Int) (l l' : List Int) : ∀ i, goRes h a i (l ++ l') = goRes h a i l ++ goRes h a (i + l.length) l' := by
  induction l with
  | nil => intro i; simp [goRes]
  | cons r l ih => intro i; simp only [List.cons_append, goRes, List.length_cons]; rw [ih, show i + 1 + l.length = i + (l.length + 1) by omega]
theorem resK_at (h a : Int) (k : Nat) (l : List Int) (hk : k < l.length) : (resK h a k l)[k]? = some l[k] := by
  unfold resK
  have : (goRes h a 0 (l.take k)).length = k := by rw [goRes_len]; simp; omega
  rw [List.getElem?_append_right (by omega), this]
  simp [hk]
theorem resK_succ (h a : Int) (k : Nat) (l : List Int) (hk : k < l.length) : resK h a (k + 1) l = (resK h a k l).set k (if (k : Int) ≠ h ∧ l[k] = a then -1 else l[k]) := by
  unfold resK
  have e : (goRes h a 0 (l.take k)).length = k := by rw [goRes_len]; simp; omega
  rw [List.take_succ_eq_append_getElem hk, goRes_app, List.drop_eq_getElem_cons hk]
  have e2 : 0 + (l.take k).length = k := by simp; omega
  rw [e2, List.append_assoc]
  rw [List.set_append_right _ _ (by omega), e, Nat.sub_self]
  rfl
theorem set_same {α : Type} (l : List α) (k : Nat) (x : α) (h : l[k]? = some x) : l.set k x = l := by
  obtain ⟨hk, rfl⟩ := List.getElem?_eq_some_iff.1 h
  exact List.set_getElem_self hk
theorem lastN_app (l l' : List (Int × Int)) (a : Int) : ∀ d, lastN (l ++ l') a d = lastN l' a (lastN l a d) := by
  induction l with
  | nil => intro d; rfl
  | cons x l ih => intro d; simp only [List.cons_append, lastN]; exact ih _
theorem lastN_none (l : List (Int × Int)) (a : Int) (h : ∀ x ∈ l, x.1 ≠ a) : ∀ d, lastN l a d = d := by
  induction l with
  | nil => intro d; rfl
  | cons x l ih =>
    intro d
    simp only [lastN]
    rw [if_neg (h x (by simp)), ih (fun y hy => h y (by simp [hy]))]
/-- Looked for from the end: what is behind has none. -/
theorem lastN_back (l : List (Int × Int)) (a d : Int) (k : Nat) (x : Int × Int) (hk : l[k]? = some x) (h1 : x.1 = a) (h : ∀ y ∈ l.drop (k + 1), y.1 ≠ a) : lastN l a d = x.2 := by
  obtain ⟨hk', rfl⟩ := List.getElem?_eq_some_iff.1 hk
  have e : l.take k ++ (l[k] :: l.drop (k + 1)) = l := by
    rw [← List.drop_eq_getElem_cons hk', List.take_append_drop]
  have : lastN (l.take k ++ (l[k] :: l.drop (k + 1))) a d = l[k].2 := by
    rw [lastN_app]
    simp only [lastN]
    rw [if_pos h1, lastN_none _ _ h]
  rwa [e] at this
end Go.Proofs.Ytkhobelceghgfaa
