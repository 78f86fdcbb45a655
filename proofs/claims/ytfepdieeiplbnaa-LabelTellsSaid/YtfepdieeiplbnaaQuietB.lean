/-
  A region that draws its order, whose operations read old cells and whose callees make memory but tell the same in every world: walked once, in the order of the text. No program in sight.
-/
import Derived.Test.YtfepdieeiplbnaaBw
import Derived.Deep.QuietTactic
import Derived.BigQuiet
namespace Go.Proofs.Ytfepdieeiplbnaa
open Go.RowKit
/-- A world in which all that was in w is as it was. -/
structure Wd (w : World) where
  val : World
  bel : Below w.heap.size w val
instance (w : World) : Nonempty (Wd w) := ⟨⟨w, Below.refl _ _⟩⟩
theorem wp_region_below {P : Program} {id : Nat} {Q : Exit → Act → World → Prop} {a : Act} {w : World} {l : List Oper} (hm : P.follows .mixedOrders = true) (hB : Region.lexB .any l.toArray = true)
    (h : wpQuiet P l.toArray (fun w' => ∃ x : Wd w, w' = x.val) (fun a' => ∀ w', (∃ x : Wd w, w' = x.val) → Q .normal a' w') l a) : (Code.region id l.toArray true).wp P Q a w :=
  wp_region_quiet (C := fun w' => ∃ x : Wd w, w' = x.val) hm hB ⟨⟨_, bw_drew (Below.refl _ _)⟩, rfl⟩ h
theorem quiet_b {P : Program} {f : FuncId} {args : Array Value} {w : World} {x : Wd w} {v : Value} (h : Calls P f args x.val (fun e w' => e = .returned v ∧ Below x.val.heap.size x.val w')) :
    Calls P f args x.val (fun e w'' => e = .returned v ∧ ∃ x' : Wd w, w'' = x'.val) := h.mono fun _ w' ⟨he, hb⟩ => ⟨he, ⟨w', bw_tr x.bel hb⟩, rfl⟩
theorem quiet_s {P : Program} {f : FuncId} {args : Array Value} {w : World} {x : Wd w} {v : Value} (h : Calls P f args x.val (fun e w' => e = .returned v ∧ x.val = w')) :
    Calls P f args x.val (fun e w'' => e = .returned v ∧ ∃ x' : Wd w, w'' = x'.val) := h.mono fun _ _ ⟨he, hb⟩ => ⟨he, x, hb.symm⟩
theorem wd_cell {w : World} {b o : Nat} {v : Value} (hlt : b < w.heap.size) (h : w.cell? ⟨b, o, none⟩ = some v) (x : Wd w) : x.val.cell? ⟨b, o, none⟩ = some v := by
  rw [x.bel.cell (p := ⟨b, o, none⟩) hlt]; exact h
end Go.Proofs.Ytfepdieeiplbnaa
