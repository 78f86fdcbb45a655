/-
  What code.Decode finds: plain. No program in sight.
-/
import Derived.Test.YtfepdieeiplbnaaCodeEnc
import Derived.Test.YtfepdieeiplbnaaCodeBack
namespace Go.Proofs.Ytfepdieeiplbnaa
open Go.RowKit
def signN (least : Int) (n : Nat) (many : Int) : Int := if least < 0 ∧ (n : Int) / 2 ^ (many - 1).toNat ≠ 0 then n - 2 ^ many.toNat else n
def decR (f : Int) (op : Int) (word : Nat) : Ins :=
  ⟨op, if (shapeT f).d then (fieldN word 7 5 : Nat) else 0, if (shapeT f).a then (fieldN word 15 5 : Nat) else 0, if (shapeT f).b then (fieldN word 20 5 : Nat) else 0,
    signN (shapeT f).least (backFold word (numP f 0)) (backMax (numP f 0))⟩
/-- The instruction of a kind that a word would be. -/
def decI (op : Int) (word : Nat) : Ins := decR (rowT op).form op word
def decHit (word : Nat) (op : Nat) : Bool := encE (decI op word) == 0 && encV (decI op word) == word
def noIns : Ins := ⟨0, 0, 0, 0, 0⟩
def decFind (word : Nat) : Option Nat := (List.range' 1 49).find? (decHit word)
def decX (word : Nat) : Ins := match decFind word with | some op => decI op word | none => noIns
def decE (word : Nat) : Int := match decFind word with | some _ => 0 | none => 20
theorem dec_hit {word op : Nat} (h1 : 1 ≤ op ∧ op ≤ 49) (h : decHit word op = true) (hno : ∀ o, 1 ≤ o → o < op → decHit word o = false) : decX word = decI op word ∧ decE word = 0 := by
  have : decFind word = some op := by
    unfold decFind
    rw [List.find?_eq_some_iff_append]
    refine ⟨h, List.range' 1 (op - 1), List.range' (op + 1) (49 - op), ?_, ?_⟩
    · rw [show List.range' 1 49 = List.range' 1 (op - 1) ++ List.range' op (50 - op) by
        have := @List.range'_append 1 (op - 1) (50 - op) 1
        rw [show 1 + 1 * (op - 1) = op by omega, show op - 1 + (50 - op) = 49 by omega] at this; exact this.symm]
      rw [show 50 - op = (49 - op) + 1 by omega, List.range'_succ]
    · intro o ho
      rw [List.mem_range'_1] at ho
      rw [hno o (by omega) (by omega)]; rfl
  unfold decX decE; rw [this]; exact ⟨rfl, rfl⟩
theorem dec_none {word : Nat} (hno : ∀ o, 1 ≤ o → o < 50 → decHit word o = false) : decX word = noIns ∧ decE word = 20 := by
  have : decFind word = none := by
    unfold decFind
    rw [List.find?_eq_none]
    intro o ho
    rw [List.mem_range'_1] at ho
    rw [hno o (by omega) (by omega)]; simp
  unfold decX decE; rw [this]; exact ⟨rfl, rfl⟩
end Go.Proofs.Ytfepdieeiplbnaa
