/-
  Operations that only compute, many at once, reckoned by the kernel. No program in sight.
-/
import Derived.WalkKit
namespace Go.Proofs.Ytfepdieeiplbnaa
open Go.RowKit
/-- What an operation that touches no memory computes. -/
def pureOf {α : Type} (P : Program) : Sem α → Option α
  | .pure a => some a
  | .program k => pureOf P (k P)
  | _ => none
theorem pureOf_run {α : Type} {P : Program} {e : Sem α} {x : α} (w : World) (h : pureOf P e = some x) : e.run P w = .ok x w := by
  induction e with
  | pure a => simp only [pureOf, Option.some.injEq] at h; subst h; rfl
  | program k ih => simp only [pureOf] at h; exact ih P h
  | _ => simp [pureOf] at h
/-- What an operation makes that lays one new block. -/
def newOf {α : Type} (P : Program) : Sem α → Option (Obj × (Nat → Option α))
  | .new o k => some (o, fun r => pureOf P (k r))
  | .program k => newOf P (k P)
  | _ => none
theorem newOf_run {α : Type} {P : Program} {e : Sem α} {o : Obj} {f : Nat → Option α} {x : α} (w : World) (h : newOf P e = some (o, f)) (hx : f w.heap.size = some x) : e.run P w = .ok x (w.alloc o) := by
  induction e with
  | new o' k => simp only [newOf, Option.some.injEq, Prod.mk.injEq] at h; obtain ⟨rfl, rfl⟩ := h; exact pureOf_run _ hx
  | program k ih => simp only [newOf] at h; exact ih P h
  | _ => simp [newOf] at h
def runPure (P : Program) : List Oper → Act → Option Act
  | [], a => some a
  | o :: l, a => match o.guard, pureOf P (execOp a.eval o) with
    | none, some (.value v) => runPure P l (a.put o.dst v)
    | _, _ => none
theorem wpList_pures {P : Program} {ops : Array Oper} {Q : Exit → Act → World → Prop} {w : World} (n : Nat) : ∀ (l : List Oper) (a a' : Act), runPure P (l.take n) a = some a' → wpList P ops Q (l.drop n) a' w → wpList P ops Q l a w := by
  induction n with
  | zero => intro l a a' h1 h2; simp only [List.take_zero, runPure, Option.some.injEq] at h1; subst h1; simpa using h2
  | succ n ih =>
    intro l a a' h1 h2
    cases l with
    | nil => simp only [List.take_nil, runPure, Option.some.injEq] at h1; subst h1; simpa using h2
    | cons o l =>
      simp only [List.take_succ_cons, runPure] at h1
      split at h1
      · rename_i v hg hv
        refine wpList_plain hg fun K hK => ?_
        unfold Oper.wp
        rw [pureOf_run w hv]
        exact hK _ _ (ih l _ a' h1 (by simpa using h2))
      · cases h1
theorem wpList_new {P : Program} {ops : Array Oper} {Q : Exit → Act → World → Prop} {w : World} {o : Oper} {rest : List Oper} {a : Act} {ob : Obj} {f : Nat → Option Next} {v : Value} (hg : o.guard = none)
    (h : newOf P (execOp a.eval o) = some (ob, f)) (hx : f w.heap.size = some (.value v)) (hn : wpList P ops Q rest (a.put o.dst v) (w.alloc ob)) : wpList P ops Q (o :: rest) a w := by
  refine wpList_plain hg fun K hK => ?_
  unfold Oper.wp
  rw [newOf_run w h hx]
  exact hK _ _ hn
/-- The same, the new block's number given. -/
def newAt {α : Type} (P : Program) (r : Nat) : Sem α → Option (Obj × α)
  | .new o k => (pureOf P (k r)).map fun x => (o, x)
  | .program k => newAt P r (k P)
  | _ => none
theorem newAt_run {α : Type} {P : Program} {e : Sem α} {o : Obj} {x : α} (w : World) (h : newAt P w.heap.size e = some (o, x)) : e.run P w = .ok x (w.alloc o) := by
  induction e with
  | new o' k =>
    simp only [newAt, Option.map_eq_some_iff, Prod.mk.injEq] at h
    obtain ⟨y, h1, rfl, rfl⟩ := h
    exact pureOf_run _ h1
  | program k ih => simp only [newAt] at h; exact ih P h
  | _ => simp [newAt] at h
theorem wpList_newAt {P : Program} {ops : Array Oper} {Q : Exit → Act → World → Prop} {w : World} {o : Oper} {rest : List Oper} {a : Act} (ob : Obj) (v : Value) (hg : o.guard = none)
    (h : newAt P w.heap.size (execOp a.eval o) = some (ob, .value v)) (hn : wpList P ops Q rest (a.put o.dst v) (w.alloc ob)) : wpList P ops Q (o :: rest) a w := by
  refine wpList_plain hg fun K hK => ?_
  unfold Oper.wp
  rw [newAt_run w h]
  exact hK _ _ hn
end Go.Proofs.Ytfepdieeiplbnaa
