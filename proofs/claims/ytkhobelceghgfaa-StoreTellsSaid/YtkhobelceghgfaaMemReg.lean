/-
  What the laws of chapter 11 use in regions that draw their order: worlds that are as they were but for one block; rows of four that came in; a variable that holds numbers.
-/
import Derived.Test.YtkhobelceghgfaaMemAwake
import Derived.Test.YtkhobelceghgfaaMemPlain
import Derived.Test.YtkhobelceghgfaaMemLoad
import Derived.Test.YtkhobelceghgfaaQuietV
namespace Go.Proofs.Ytkhobelceghgfaa
open Go.RowKit
/-- All that was there is as it was, but for one block. -/
def UpB (q : Nat) (w w' : World) : Prop := w.heap.size ≤ w'.heap.size ∧ ∀ k, k < w.heap.size → k ≠ q → w'.heap[k]? = w.heap[k]?
theorem upb_refl (q : Nat) (w : World) : UpB q w w := ⟨Nat.le_refl _, fun _ _ _ => rfl⟩
theorem UpB.up {q : Nat} {w w' w'' : World} (h : UpB q w w') (hu : Below w'.heap.size w' w'') : UpB q w w'' :=
  ⟨Nat.le_trans h.1 hu.size, fun k hk hq => by rw [hu.block k (Nat.lt_of_lt_of_le hk h.1)]; exact h.2 k hk hq⟩
theorem upb_set3 {q : Nat} {w w' : World} (x y z : Value) (h : UpB q w w') : UpB q w (((w'.setCell ⟨q, 0, none⟩ x).setCell ⟨q, 1, none⟩ y).setCell ⟨q, 2, none⟩ z) :=
  ⟨by simp only [size_set]; exact h.1, fun k hk hq => by rw [heap_set hq, heap_set hq, heap_set hq]; exact h.2 k hk hq⟩
theorem upb_new3 {q b : Nat} {w w' : World} (x y z : Value) (h : UpB q w w') (hb : w.heap.size ≤ b) : UpB q w (((w'.setCell ⟨b, 0, none⟩ x).setCell ⟨b, 1, none⟩ y).setCell ⟨b, 2, none⟩ z) :=
  ⟨by simp only [size_set]; exact h.1, fun k hk hq => by rw [heap_set (by omega), heap_set (by omega), heap_set (by omega)]; exact h.2 k hk hq⟩
theorem UpB.wd {q : Nat} {w w' : World} (h : UpB q w w') {b o : Nat} {v : Value} (hlt : b < w.heap.size) (hq : b ≠ q) (hc : w.cell? ⟨b, o, none⟩ = some v) (x : Wd w') : x.val.cell? ⟨b, o, none⟩ = some v := by
  refine wd_cell (Nat.lt_of_lt_of_le hlt h.1) ?_ x
  rw [← hc]
  show (match w'.heap[b]? with | some (.cells cs _ _) => cs[o]? | _ => none) = (match w.heap[b]? with | some (.cells cs _ _) => cs[o]? | _ => none)
  rw [h.2 b hlt hq]
theorem rd_cell {w u : World} {b o : Nat} {v : Value} (hb : Below w.heap.size w u) (hlt : b < w.heap.size) (h : w.cell? ⟨b, o, none⟩ = some v) : u.cell? ⟨b, o, none⟩ = some v := by
  rw [hb.cell (p := ⟨b, o, none⟩) hlt]; exact h
theorem MV.shape {w : World} {b : Nat} {x y z : Value} {m : Mem} (h : MV w b x y z m) : ∃ a1 n1 c1 a2 n2 c2 a3 n3 c3, x = .slice a1 n1 c1 ∧ y = .slice a2 n2 c2 ∧ z = .slice a3 n3 c3 ∧ Hid (n1 = m.words.length ∧ n2 = m.pend.length ∧ n3 = m.res.length) := by
  obtain ⟨a1, n1, b1, a2, n2, b2, a3, n3, b3, e, ln⟩ := h.2.parts9
  injection e with e
  have e1 : x = .slice a1 n1 b1 := by have := congrArg (fun x => x[0]?) e; simpa using this
  have e2 : y = .slice a2 n2 b2 := by have := congrArg (fun x => x[1]?) e; simpa using this
  have e3 : z = .slice a3 n3 b3 := by have := congrArg (fun x => x[2]?) e; simpa using this
  exact ⟨_, _, _, _, _, _, _, _, _, e1, e2, e3, ln⟩
abbrev R4 := Int × Int × Int × Int
/-- Rows of four that came in. -/
def Rows4 (w : World) (a : Option Addr) (len cap : Nat) (raw : List R4) : Prop :=
  raw.length = len ∧ (∀ r ∈ raw, ok4 r) ∧ len ≤ cap ∧ cap ≤ maxLen ∧
  (len = 0 ∨ ∃ b o, a = some ⟨b, o, none⟩ ∧ b < w.heap.size ∧ ∀ i r, raw[i]? = some r → w.cell? ⟨b, o + i * 4, none⟩ = some (.int .i64 r.1) ∧ w.cell? ⟨b, o + i * 4 + 1, none⟩ = some (.int .i64 r.2.1) ∧ w.cell? ⟨b, o + i * 4 + 2, none⟩ = some (.int .i64 r.2.2.1) ∧ w.cell? ⟨b, o + i * 4 + 3, none⟩ = some (.int .i64 r.2.2.2))
theorem rows4_of {w : World} {v : Value} {raw : List R4} (h : ArgS 4 c4 w v raw) (hok : ∀ r ∈ raw, ok4 r) : ∃ a len cap, v = .slice a len cap ∧ Rows4 w a len cap raw := by
  obtain ⟨a, c, hv, h1, h2, h3⟩ := h
  refine ⟨a, raw.length, c, hv, rfl, hok, h1, h2, ?_⟩
  rcases h3 with rfl | ⟨b, o, ha, hlt, hc⟩
  · exact .inl rfl
  · refine .inr ⟨b, o, ha, hlt, fun i r hr => ⟨hc i r hr 0 _ rfl, hc i r hr 1 _ rfl, hc i r hr 2 _ rfl, hc i r hr 3 _ rfl⟩⟩
/-- One row of them. -/
theorem Rows4.row {w : World} {a : Option Addr} {len cap : Nat} {raw : List R4} (h : Rows4 w a len cap raw) {j : Nat} (hj : j < len) : ∃ b o r0 r1 r2 r3, a = some ⟨b, o, none⟩ ∧ b < w.heap.size ∧ raw[j]? = some (r0, r1, r2, r3) ∧
    (I64 r0 ∧ I64 r1 ∧ I64 r2 ∧ I64 r3) ∧ w.cell? ⟨b, o + j * 4, none⟩ = some (.int .i64 r0) ∧ w.cell? ⟨b, o + j * 4 + 1, none⟩ = some (.int .i64 r1) ∧ w.cell? ⟨b, o + j * 4 + 2, none⟩ = some (.int .i64 r2) ∧ w.cell? ⟨b, o + j * 4 + 3, none⟩ = some (.int .i64 r3) := by
  obtain ⟨h1, h2, _, _, h5⟩ := h
  rcases h5 with h5 | ⟨b, o, ha, hlt, hc⟩
  · omega
  · have hjr : j < raw.length := by omega
    obtain ⟨k0, k1, k2, k3⟩ := hc j raw[j] (by simp [hjr])
    have hk := h2 raw[j] (List.getElem_mem hjr)
    exact ⟨b, o, raw[j].1, raw[j].2.1, raw[j].2.2.1, raw[j].2.2.2, ha, hlt, by simp [hjr], hk, k0, k1, k2, k3⟩
end Go.Proofs.Ytkhobelceghgfaa
