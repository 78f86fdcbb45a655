/-
  An item that comes in: its numbers, its name.
-/
import Derived.Test.YtfepdieeiplbnaaLabB
import Derived.Test.YtfepdieeiplbnaaInstr
namespace Go.Proofs.Ytfepdieeiplbnaa
open Go.RowKit Go.ChangeShapes Go.WideShapes
def ok_item (x : Itm) : Prop := I64 x.kind ∧ ok_instr x.i ∧ x.name.size ≤ maxLen ∧ I64 x.n
abbrev cells_item (x : Itm) : List Value := itC x
instance : Inhabited Itm := ⟨noItm⟩
theorem fields_item : ∃ fs, Try.prog.underlying 26 = some (.struct fs) ∧ fs.size = 4 ∧ (∀ f, fs[0]? = some f → f.offset = 0 ∧ f.type = 3) ∧ (∀ f, fs[1]? = some f → f.offset = 1 ∧ f.type = 24) ∧ (∀ f, fs[2]? = some f → f.offset = 6 ∧ f.type = 9) ∧ (∀ f, fs[3]? = some f → f.offset = 7 ∧ f.type = 3) := by
  refine ⟨_, Try.underlying26, rfl, ?_, ?_, ?_, ?_⟩
  all_goals
    intro f h
    cases h
    exact ⟨rfl, rfl⟩
theorem item_cells {cs : List Value} (hl : cs.length = 8) {k n : Int} {i : Ins} {s : ByteArray} (hk : (cs.drop 0).take 1 = [.int .i64 k]) (hi : (cs.drop 1).take 5 = cells_instr i) (hs : (cs.drop 6).take 1 = [.string s]) (hn : (cs.drop 7).take 1 = [.int .i64 n]) : cs = cells_item ⟨k, i, s, n⟩ := by
  match cs, hl with
  | [a0, a1, a2, a3, a4, a5, a6, a7], _ =>
    simp [cells_instr] at hk hi hs hn
    simp [cells_item, itC, hk, hi, hs, hn]
theorem open_item {H : Type} {enc : TypeId × Value → H} {w : World} {base : Nat} {spare : Nat → Bool} {held : Bool} {fuel : Nat} {cs : List Value} {x : DataW H × List MemPlace}
    (h : DataW.trod enc Try.prog w base spare held fuel 26 cs = some x) : ∃ r : Itm, cs = cells_item r ∧ ok_item r := by
  obtain ⟨fs, ht, h4, f0, f1, f2, f3⟩ := fields_item
  obtain ⟨xs, m, rfl, rfl, hl, hn, hf⟩ := DataW.trod_struct ht h
  have hct : Try.prog.cellsOf 26 = 8 := by kernel_rfl
  have c3 : Try.prog.cellsOf 3 = 1 := by kernel_rfl
  have c9 : Try.prog.cellsOf 9 = 1 := by kernel_rfl
  have c24 : Try.prog.cellsOf 24 = 5 := by kernel_rfl
  rw [hct] at hl
  have g0 := hf 0 fs[0] (by simp)
  have g1 := hf 1 fs[1] (by simp)
  have g2 := hf 2 fs[2] (by simp)
  have g3 := hf 3 fs[3] (by simp)
  obtain ⟨o0, t0⟩ := f0 fs[0] (by simp)
  obtain ⟨o1, t1⟩ := f1 fs[1] (by simp)
  obtain ⟨o2, t2⟩ := f2 fs[2] (by simp)
  obtain ⟨o3, t3⟩ := f3 fs[3] (by simp)
  rw [o0, t0, c3] at g0
  rw [o1, t1, c24] at g1
  rw [o2, t2, c9] at g2
  rw [o3, t3, c3] at g3
  have l0 : 0 < xs.length := by omega
  have l1 : 1 < xs.length := by omega
  have l2 : 2 < xs.length := by omega
  have l3 : 3 < xs.length := by omega
  rw [List.getElem?_eq_getElem l0] at g0
  rw [List.getElem?_eq_getElem l1] at g1
  rw [List.getElem?_eq_getElem l2] at g2
  rw [List.getElem?_eq_getElem l3] at g3
  obtain ⟨k, hk, _, wk⟩ := DataW.trod_int Try.underlying3 g0
  obtain ⟨i, hi, wi⟩ := open_instr g1
  obtain ⟨s, hs, _, ws⟩ := DataW.trod_string Try.underlying9 g2
  obtain ⟨n, hn, _, wn⟩ := DataW.trod_int Try.underlying3 g3
  have wk' := i64_of_wf wk
  have wn' := i64_of_wf wn
  clear wk wn g0 g1 g2 g3 hf
  exact ⟨⟨k, i, s, n⟩, item_cells hl hk hi hs hn, And.intro wk' (And.intro wi (And.intro ws wn'))⟩
end Go.Proofs.Ytfepdieeiplbnaa
