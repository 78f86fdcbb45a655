/-
  A map of the call's own from labels to places in a list.
-/
import Derived.Test.YtfepdieeiplbnaaLabPlain
import Derived.Maps.Own
import Derived.Maps.OwnSet
import Derived.Maps.Views
namespace Go.Proofs.Ytfepdieeiplbnaa
open Go.RowKit Go.Maps
theorem law_string : Keyed Try.prog 9 := string_keyed Try.underlying9
theorem zero_int (w : World) : (zeroValue 3).run Try.prog w = .ok (.int .i64 0) w := by kernel_rfl
/-- Block b is a map that knows what f says. -/
def Knows (w : World) (b n : Nat) (f : ByteArray → Option Nat) : Prop :=
  ∃ D : DataW Unit, w.ownsMap Try.prog 9 (plainElem Try.prog 3) b n D ∧ IsMap D ∧ ∀ (s : ByteArray) (z : DataW Unit), D.atKey (.string s.data.toList) z = match f s with | some i => .lit (.int .i64 (i : Nat)) | none => z
theorem Knows.made (w : World) : Knows (w.alloc (.map #[] 0)) w.heap.size 0 (fun _ => none) :=
  ⟨.map [], World.ownsMap_made w _ _ _, ⟨[], rfl⟩, fun _ _ => rfl⟩
theorem Knows.below {w w' : World} {B b n : Nat} {f : ByteArray → Option Nat} (h : Knows w b n f) (hb : Below B w w') (hlt : b < B) : Knows w' b n f := by
  obtain ⟨D, h1, h2⟩ := h
  obtain ⟨es, clock, hb0, F, hs0, hD⟩ := h1
  exact ⟨D, ⟨es, clock, (hb.block b hlt).trans hb0, F, hs0, hD⟩, h2⟩
theorem Knows.mono {w : World} {b n n' : Nat} {f : ByteArray → Option Nat} (h : Knows w b n f) (hn : n ≤ n') : Knows w b n' f := by
  obtain ⟨D, h1, h2⟩ := h
  exact ⟨D, h1.mono hn, h2⟩
theorem Knows.of_block {w w' : World} {b n : Nat} {f : ByteArray → Option Nat} (h : Knows w b n f) (hb : w'.heap[b]? = w.heap[b]?) : Knows w' b n f := by
  obtain ⟨D, h1, h2⟩ := h
  obtain ⟨es, clock, hb0, F, hs0, hD⟩ := h1
  exact ⟨D, ⟨es, clock, hb.trans hb0, F, hs0, hD⟩, h2⟩
theorem Knows.lt {w : World} {b n : Nat} {f : ByteArray → Option Nat} (h : Knows w b n f) : b < w.heap.size := by
  obtain ⟨D, h1, h2⟩ := h
  exact h1.lt
theorem key_string (s : ByteArray) (hs : s.size ≤ maxLen) : keyOf Try.prog 9 (.string s) = some (.string s.data.toList) := WideMaps.keyOf_string_mk Try.underlying9 hs
theorem key_isLit (l : List UInt8) : WideAt.IsKeyLit (.string l) := by
  first | trivial | (unfold WideAt.IsKeyLit; trivial) | simp [WideAt.IsKeyLit]
theorem Knows.look {w : World} {b n : Nat} {f : ByteArray → Option Nat} (h : Knows w b n f) (s : ByteArray) (hs : s.size ≤ maxLen) :
    (Instr.lookup 59 (.map (some b)) (.string s) false).run Try.prog w = .ok (.int .i64 (((f s).getD 0 : Nat) : Int)) w := by
  obtain ⟨D, h1, h2, h3⟩ := h
  obtain ⟨c, hrun, hat, _⟩ := h1.lookup_int law_string Try.underlying59 Try.underlying3 (zero_int w) (key_string s hs)
  rw [hrun]
  rw [h3] at hat
  cases hf : f s with
  | none => rw [hf] at hat; simp at hat; rw [← hat]; rfl
  | some i => rw [hf] at hat; simp at hat; rw [← hat]; rfl
theorem Knows.look_ok {w : World} {b n : Nat} {f : ByteArray → Option Nat} (h : Knows w b n f) (s : ByteArray) (hs : s.size ≤ maxLen) :
    (Instr.lookup 59 (.map (some b)) (.string s) true).run Try.prog w = .ok (.tuple #[.int .i64 (((f s).getD 0 : Nat) : Int), .bool (f s).isSome]) w := by
  obtain ⟨D, h1, h2, h3⟩ := h
  obtain ⟨v, ps, hrun, hv⟩ := h1.look_ok law_string Try.underlying59 (zero_int w) (plainElem_int Try.underlying3 (by decide)) (key_string s hs)
  obtain ⟨c, rfl, hc, _⟩ := plainElem_int_inv Try.underlying3 hv
  rw [hrun]
  have hat := congrArg Prod.fst hc
  simp only at hat
  rw [h3] at hat
  cases hf : f s with
  | none =>
    rw [hf] at hat; simp at hat
    rw [has_false_of_atKey (D := D) (fun z => by rw [h3, hf]), ← hat]; rfl
  | some i =>
    rw [hf] at hat; simp at hat
    rw [has_true_of_atKey (D := D) (y := .lit (.int .i64 (i : Nat))) (fun z => by rw [h3, hf]), ← hat]; rfl
theorem str_ne {s t : ByteArray} (h : s ≠ t) : Lit.string s.data.toList ≠ Lit.string t.data.toList := by
  intro e
  injection e with e
  apply h
  obtain ⟨⟨a⟩⟩ := s
  obtain ⟨⟨b⟩⟩ := t
  simp at e
  rw [e]
theorem Knows.update {w : World} {b n : Nat} {f : ByteArray → Option Nat} (h : Knows w b n f) (s : ByteArray) (hs : s.size ≤ maxLen) (hn : n < maxLen) (i : Nat) (hi : i ≤ 1000000) :
    ∃ w', (Instr.mapUpdate 59 (.map (some b)) (.string s) (.int .i64 (i : Int))).run Try.prog w = .ok () w' ∧ Knows w' b (n + 1) (fun t => if s = t then some i else f t) ∧ w.grownBy w' (some b) := by
  obtain ⟨D, h1, h2, h3⟩ := h
  obtain ⟨w', hrun, ho, hg⟩ := h1.update law_string Try.underlying59 hn (key_string s hs) (plainElem_int (H := Unit) Try.underlying3 (a := (i : Int)) (WalkArith.wf_i64 (by omega)))
  refine ⟨w', hrun, ⟨_, ho, h2.put _ _, fun t z => ?_⟩, hg⟩
  simp only []
  by_cases e : s = t
  · subst e
    rw [if_pos rfl, atKey_put_same h2 (key_isLit _)]
  · rw [if_neg e, atKey_put_other (str_ne (fun e' => e e'.symm)), h3]
theorem mp_succ (l : List Itm) (k : Nat) (h2 : (it l k).kind = 2) : mp l (k + 1) = fun t => if (it l k).name = t then some k else mp l k t := by
  funext t
  simp only [mp]
  by_cases e : (it l k).name = t
  · rw [if_pos ⟨h2, e⟩, if_pos e]
  · rw [if_neg (fun h => e h.2), if_neg e]
theorem mp_same (l : List Itm) (k : Nat) (h2 : ¬ (it l k).kind = 2) : mp l (k + 1) = mp l k := by
  funext t
  simp only [mp]
  rw [if_neg (fun h => h2 h.1)]
end Go.Proofs.Ytfepdieeiplbnaa
