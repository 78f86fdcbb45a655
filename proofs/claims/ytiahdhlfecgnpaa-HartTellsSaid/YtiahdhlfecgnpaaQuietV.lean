/-
  In a region walked by ready sets: operations that only read are taken at once, in the order of the text. No program in sight.
-/
import Derived.Test.YtiahdhlfecgnpaaQuietU
namespace Go.Proofs.Ytiahdhlfecgnpaa
open Go.RowKit
theorem anyU_pures {P : Program} {Q : Exit → Act → World → Prop} {C : World → Prop} {l : List Oper} {listed : Array Bool} {a : Act} {w : World} {f : Nat} (mask : List Bool) (g : Nat) (hf : f = (idxM mask 0).length + g)
    (hB : (Region.noSelect l.toArray && ((idxM mask 0).all (fun k => decide (k < l.toArray.size)) && (decide (mask.length ≤ l.length) && lexI .any l.toArray (idxM mask 0) listed))) = true) (hD : dstsB a.tmps.size (pickM mask l) = true)
    (hup : ∀ w w', C w → Up w w' → C w') (hC : C w) (a' : Act)
    (h : ∀ w0, C w0 → wpQuiet P l.toArray (fun w' => ∃ x : Wd w0, w' = x.val) (fun x => x = a') (pickM mask l) a)
    (ht : wpAnyU P .any l.toArray C Q g (setL (idxM mask 0) listed) a' w) : wpAnyU P .any l.toArray C Q f listed a w := by
  subst hf
  simp only [Bool.and_eq_true, decide_eq_true_eq, List.all_eq_true] at hB
  obtain ⟨hsel, hin, hml, hlex⟩ := hB
  have hpk : opsAt l.toArray (idxM mask 0) = pickM mask l := opsAt_mask mask [] l hml
  generalize idxM mask 0 = rs at *
  exact anyU_lex (P := P) (md := .any) (Q := Q) hup (g := g) (w := w) (R := fun x => x = a') hsel rs listed a hin hlex (fun x hx => by subst hx; exact ht) (uniformU w hC a.tmps.size (opsAt l.toArray rs) a rfl (by rw [hpk]; exact hD) (fun w0 h0 => by rw [← clsU, hpk]; exact h w0 h0))
end Go.Proofs.Ytiahdhlfecgnpaa
