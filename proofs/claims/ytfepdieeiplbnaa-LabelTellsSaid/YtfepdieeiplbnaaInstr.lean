/-
  An instruction that comes in: its five numbers.
-/
import Derived.Test.YtfepdieeiplbnaaOpen
import Derived.Test.YtfepdieeiplbnaaCodeRight
namespace Go.Proofs.Ytfepdieeiplbnaa
open Go.RowKit Go.ChangeShapes Go.WideShapes
section
variable {H : Type} {enc : TypeId × Value → H} {P : Program} {w : World} {base : Nat} {spare : Nat → Bool} {held : Bool}
/-- A struct whose fields are all ints: its numbers. -/
theorem open_nums {t : TypeId} {fs : Array Field} (ht : P.underlying t = some (.struct fs)) (hct : P.cellsOf t = fs.size)
    (hs : ∀ (i : Nat) (f : Field), fs[i]? = some f → f.offset = i ∧ P.underlying f.type = some (.int .i64) ∧ P.cellsOf f.type = 1) {fuel : Nat} {cs : List Value} {x : DataW H × List MemPlace}
    (h : DataW.trod enc P w base spare held fuel t cs = some x) : ∃ l : List Int, l.length = fs.size ∧ cs = l.map (Value.int .i64) ∧ ∀ a ∈ l, (Lit.int .i64 a).wf = true := by
  obtain ⟨xs, m, rfl, rfl, hl, hn, hf⟩ := DataW.trod_struct ht h
  rw [hct] at hl
  obtain ⟨l, h1, h2⟩ := nums_of (cs := cs) (fun i hi => by
    have hi' : i < fs.size := by omega
    have hfi : fs[i]? = some fs[i] := Array.getElem?_eq_getElem hi'
    obtain ⟨o, u, c⟩ := hs i _ hfi
    have e1 := hf i _ hfi
    rw [o, c, List.getElem?_eq_getElem (by omega)] at e1
    obtain ⟨a, h, _, hw⟩ := DataW.trod_int u e1
    exact ⟨a, first_of h, hw⟩)
  refine ⟨l, ?_, h1, h2⟩
  rw [← hl, h1, List.length_map]
end
def ok_instr (x : Ins) : Prop := I64 x.op ∧ I64 x.d ∧ I64 x.a ∧ I64 x.b ∧ I64 x.n
def cells_instr (x : Ins) : List Value := [.int .i64 x.op, .int .i64 x.d, .int .i64 x.a, .int .i64 x.b, .int .i64 x.n]
theorem fields_instr : ∃ fs, Try.prog.underlying 24 = some (.struct fs) ∧ fs.size = 5 ∧ ∀ (i : Nat) (f : Field), fs[i]? = some f → f.offset = i ∧ f.type = 3 := by
  refine ⟨_, Try.underlying24, rfl, fun i f h => ?_⟩
  have hi : i < 5 := (Array.getElem?_eq_some_iff.1 h).1
  match i, hi, h with
  | 0, _, h => cases h; exact ⟨rfl, rfl⟩
  | 1, _, h => cases h; exact ⟨rfl, rfl⟩
  | 2, _, h => cases h; exact ⟨rfl, rfl⟩
  | 3, _, h => cases h; exact ⟨rfl, rfl⟩
  | 4, _, h => cases h; exact ⟨rfl, rfl⟩
theorem open_instr {H : Type} {enc : TypeId × Value → H} {w : World} {base : Nat} {spare : Nat → Bool} {held : Bool} {fuel : Nat} {cs : List Value} {x : DataW H × List MemPlace}
    (h : DataW.trod enc Try.prog w base spare held fuel 24 cs = some x) : ∃ r : Ins, cs = cells_instr r ∧ ok_instr r := by
  obtain ⟨fs, ht, h5, hs⟩ := fields_instr
  obtain ⟨l, hl, h1, hw⟩ := open_nums ht (by rw [h5]; kernel_rfl) (fun i f hf => by rw [(hs i f hf).2]; exact ⟨(hs i f hf).1, Try.underlying3, by kernel_rfl⟩) h
  rw [h5] at hl
  match l, hl, h1, hw with
  | [a, b, c, d, e], _, h1, hw => exact ⟨⟨a, b, c, d, e⟩, h1, i64_of_wf (hw a (by simp)), i64_of_wf (hw b (by simp)), i64_of_wf (hw c (by simp)), i64_of_wf (hw d (by simp)), i64_of_wf (hw e (by simp))⟩
end Go.Proofs.Ytfepdieeiplbnaa
