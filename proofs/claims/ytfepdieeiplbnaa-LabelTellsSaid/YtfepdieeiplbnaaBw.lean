/-
  Worlds in which nothing that was there has turned: small laws for walks. No program in sight.
-/
import Derived.WalkKit
import Derived.Deep.RegionHeld3
import Derived.Lib.Hide
namespace Go.Proofs.Ytfepdieeiplbnaa
open Go.RowKit
theorem bcell {W w1 : World} (hb : Below W.heap.size W w1) : (∀ b o, b < W.heap.size → w1.cell? ⟨b, o, none⟩ = W.cell? ⟨b, o, none⟩) ∧ (∀ b o, b < W.heap.size → w1.frozen? ⟨b, o, none⟩ = W.frozen? ⟨b, o, none⟩) :=
  ⟨fun b o h => hb.cell (p := ⟨b, o, none⟩) h, fun b o h => hb.frozen (p := ⟨b, o, none⟩) h⟩
theorem bw_alloc {a b : World} (h : Below a.heap.size a b) (o : Obj) : Below a.heap.size a (b.alloc o) := h.alloc h.size o
theorem bw_tr {a b c : World} (h : Below a.heap.size a b) (k : Below b.heap.size b c) : Below a.heap.size a c := h.trans (k.mono h.size)
theorem bw_set {a b : World} {p o : Nat} (h : Below a.heap.size a b) (hp : a.heap.size ≤ p) (u : Value) : Below a.heap.size a (b.setCell ⟨p, o, none⟩ u) := h.setCell hp u
theorem bw_drew {a b : World} (h : Below a.heap.size a b) : Below a.heap.size a b.drew := h.drew
theorem bw_undrew {w w' : World} (h : Below w.drew.heap.size w.drew w') : Below w.heap.size w w' := ⟨h.os, h.tape, h.output, h.size, h.block⟩
/-- What a region that loads and calls keeps. -/
abbrev SBel (w0 w' : World) : Prop := (∀ b o, b < w0.heap.size → w'.cell? ⟨b, o, none⟩ = w0.cell? ⟨b, o, none⟩) ∧ Below w0.heap.size w0 w'
theorem sbel_drew (w : World) : SBel w w.drew := ⟨fun _ _ _ => rfl, (Below.refl _ _).drew⟩
theorem sbel_tr {w0 w1 w2 : World} (h : SBel w0 w1) (k : Below w1.heap.size w1 w2) : SBel w0 w2 := ⟨(bcell (bw_tr h.2 k)).1, bw_tr h.2 k⟩
theorem sbel_alloc {w0 w1 : World} (h : SBel w0 w1) (o : Obj) : SBel w0 (w1.alloc o) := ⟨(bcell (bw_alloc h.2 o)).1, bw_alloc h.2 o⟩
end Go.Proofs.Ytfepdieeiplbnaa
