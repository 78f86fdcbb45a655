/-
  headstockref14's control, set, csr, back: plain, and told in the program's words.
-/
import Derived.Test.YtiahdhlfecgnpaaRef14d
import Derived.Test.YtiahdhlfecgnpaaHartFine
namespace Go.Proofs.Ytiahdhlfecgnpaa
open Go.RowKit
theorem and_same {x y : Int} (hx : I32 x) (hy : I32 y) : bits .and .i64 x y = bits .and .i32 x y := by
  rw [and64_bv, ext64' hx, ext64' hy, ← BitVec.signExtend_and, BitVec.toInt_signExtend_of_le (by decide), and32_bv]
theorem or_same {x y : Int} (hx : I32 x) (hy : I32 y) : bits .or .i64 x y = bits .or .i32 x y := by
  rw [or64_bv, ext64' hx, ext64' hy, ← BitVec.signExtend_or, BitVec.toInt_signExtend_of_le (by decide), or32_bv]
theorem notI (y : Int) : BitVec.ofInt 32 (-y - 1) = ~~~ (BitVec.ofInt 32 y) := by
  apply BitVec.eq_of_toNat_eq
  rw [BitVec.toNat_not, BitVec.toNat_ofInt, BitVec.toNat_ofInt]
  omega
theorem andNot_same {x y : Int} (hx : I32 x) (hy : I32 y) : bits .andNot .i64 x y = bits .and .i32 x (-y - 1) := by
  rw [andNot64_bv, ext64' hx, ext64' hy, ← BitVec.signExtend_not (by decide), ← BitVec.signExtend_and, BitVec.toInt_signExtend_of_le (by decide), and32_bv, notI]
theorem two6 {x y : Int} (hx : I32 x) (hy : I32 y) : twoN 6 x y = bits .and .i64 x y := by
  rw [and_same hx hy]; unfold twoN; simp only [Int.reduceEq, if_false, if_true]; rw [wrap32_id hx, wrap32_id hy]
theorem two7 {x y : Int} (hx : I32 x) (hy : I32 y) : twoN 7 x y = bits .or .i64 x y := by
  rw [or_same hx hy]; unfold twoN; simp only [Int.reduceEq, if_false, if_true]; rw [wrap32_id hx, wrap32_id hy]
theorem two6not {x y : Int} (hx : I32 x) (hy : I32 y) : twoN 6 x (oneN 17 y) = bits .andNot .i64 x y := by
  have e : oneN 17 y = -y - 1 := by
    unfold oneN; simp only [Int.reduceEq, if_false, if_true]; rw [wrap32_id hy, wrap32_id (by obtain ⟨a, b⟩ := hy; constructor <;> omega)]
  rw [e, andNot_same hx hy]
  unfold twoN; simp only [Int.reduceEq, if_false, if_true]
  rw [wrap32_id hx, wrap32_id (by obtain ⟨a, b⟩ := hy; constructor <;> omega)]
theorem two6_any (x : Int) {y : Int} (hy : I32 y) : twoN 6 x y = bits .and .i64 (wrap32 x) y := by
  rw [and_same (wrap32_i32 x) hy]; unfold twoN; simp only [Int.reduceEq, if_false, if_true]; rw [wrap32_id hy]
/-- A control register, as headstockref14.control tells it. -/
def rctlV (h : Ht) (id csr : Int) : Int × Bool :=
  if csr = 768 then (h.st, true) else if csr = 773 then (h.ve, true) else if csr = 832 then (h.sc, true) else if csr = 833 then (h.ep, true) else if csr = 834 then (h.ca, true) else if csr = 1984 then (h.le, true) else if csr = 3860 then (wrap32 id, true) else (0, false)
/-- A hart, as headstockref14.set makes it. -/
def rsetH (h : Ht) (csr n : Int) : Ht :=
  if csr = 768 then { h with st := twoN 6 n 136 } else if csr = 773 then { h with ve := twoN 6 n (-4) } else if csr = 832 then { h with sc := n } else if csr = 833 then { h with ep := twoN 6 n (-4) } else if csr = 834 then { h with ca := n } else if csr = 1984 then { h with le := n } else h
theorem rset_len {h : Ht} (csr n : Int) (h32 : h.r.length = 32) : (rsetH h csr n).r.length = 32 := by
  unfold rsetH
  repeat' split
  all_goals exact h32
theorem rset_pc (h : Ht) (csr n : Int) : (rsetH h csr n).pc = h.pc := by
  unfold rsetH
  repeat' split
  all_goals rfl
/-- What is written back. -/
def rcsrN (op was n : Int) : Int := if op = 41 then twoN 7 was n else if op = 42 then twoN 6 was (oneN 17 n) else n
theorem rcsr_ch {op was n : Int} (hw : I32 was) (hn : I32 n) : rcsrN op was n = changedN op was n := by
  unfold rcsrN changedN
  split
  · exact two7 hw hn
  · split
    · exact two6not hw hn
    · rfl
theorem ch_i32 {op was n : Int} (hw : I32 was) (hn : I32 n) : I32 (changedN op was n) := by
  unfold changedN
  split
  · exact or_i32' hw hn
  · split
    · exact andNot_i32 hw hn
    · exact hn
theorem fine_ctl {h : Ht} (f : Fine h) (id csr : Int) : I32 (rctlV h id csr).1 := by
  have hst : I32 h.st := by rcases f.st with e | e | e | e <;> rw [e] <;> constructor <;> decide
  have hle : I32 h.le := by have := f.le; constructor <;> omega
  unfold rctlV
  repeat' split
  all_goals first | exact hst | exact f.ve.1 | exact f.sc | exact f.ep.1 | exact f.ca | exact hle | exact wrap32_i32 _ | exact ⟨by decide, by decide⟩
/-- What headstockref14.csr does. -/
def rcsrR (h : Ht) (id : Int) (x : Ins) : Ht × Eff :=
  if (rctlV h id x.n).2 then ({ putH (rsetH h x.n (rcsrN x.op (rctlV h id x.n).1 (ctlN h x))) x.d (rctlV h id x.n).1 with pc := wrap32 (h.pc + 4) }, ⟨0, 0, 0, 0, 0⟩) else (h, ⟨9, 0, 0, 0, 0⟩)
theorem put_pc (h : Ht) (d v p : Int) : ({ putH h d v with pc := p } : Ht) = putH { h with pc := p } d v := by
  unfold putH; split <;> rfl
theorem rcsr_eq {h : Ht} (f : Fine h) (id : Int) (x : Ins) (ha : 0 ≤ x.a ∧ x.a < 32) : rcsrR h id x = ctlR h id x := by
  have hn : I32 (ctlN h x) := f.reg _ (by omega)
  have hw := fine_ctl f id x.n
  have key := fun (w : Int) (hw : I32 w) => rcsr_ch (op := x.op) hw hn
  have ki := fun (w : Int) (hw : I32 w) => ch_i32 (op := x.op) hw hn
  have hst : I32 h.st := by rcases f.st with e | e | e | e <;> rw [e] <;> constructor <;> decide
  have hle : I32 h.le := by have := f.le; constructor <;> omega
  unfold rcsrR
  by_cases h0 : x.n = 768
  · simp only [rctlV, ctlR, rsetH, if_pos h0, if_true]
    rw [put_pc, key _ hst, two6 (ki _ hst) (by constructor <;> decide)]; rfl
  by_cases h1 : x.n = 773
  · simp only [rctlV, ctlR, rsetH, if_neg h0, if_pos h1, if_true]
    rw [put_pc, key _ f.ve.1, two6 (ki _ f.ve.1) (by constructor <;> decide)]; rfl
  by_cases h2 : x.n = 832
  · simp only [rctlV, ctlR, rsetH, if_neg h0, if_neg h1, if_pos h2, if_true]
    rw [put_pc, key _ f.sc]
    unfold ctlH
    rw [and_neg1 (ki _ (by exact f.sc))]; rfl
  by_cases h3 : x.n = 833
  · simp only [rctlV, ctlR, rsetH, if_neg h0, if_neg h1, if_neg h2, if_pos h3, if_true]
    rw [put_pc, key _ f.ep.1, two6 (ki _ f.ep.1) (by constructor <;> decide)]; rfl
  by_cases h4 : x.n = 834
  · simp only [rctlV, ctlR, rsetH, if_neg h0, if_neg h1, if_neg h2, if_neg h3, if_pos h4, if_true]
    rw [put_pc, key _ f.ca]
    unfold ctlH
    rw [and_neg1 (ki _ (by exact f.ca))]; rfl
  by_cases h5 : x.n = 1984
  · simp only [rctlV, ctlR, rsetH, if_neg h0, if_neg h1, if_neg h2, if_neg h3, if_neg h4, if_pos h5, if_true]
    rw [put_pc, key _ hle]
    unfold ctlH
    rw [and_neg1 (ki _ (by exact hle))]; rfl
  by_cases h6 : x.n = 3860
  · simp only [rctlV, ctlR, rsetH, if_neg h0, if_neg h1, if_neg h2, if_neg h3, if_neg h4, if_neg h5, if_pos h6, if_true]
    rw [put_pc]; rfl
  · simp only [rctlV, ctlR, if_neg h0, if_neg h1, if_neg h2, if_neg h3, if_neg h4, if_neg h5, if_neg h6]
    rfl
/-- A hart that comes back, as the document says. -/
def rbackH (h : Ht) : Ht := { h with pc := h.ep, st := 128 + 8 * (h.st / 128 % 2) }
theorem rback_eq (h : Ht) (hs : h.st = 0 ∨ h.st = 8 ∨ h.st = 128 ∨ h.st = 136) : rbackH h = backH h := by
  unfold rbackH backH
  have : backSt h.st = 128 + 8 * (h.st / 128 % 2) := by rcases hs with e | e | e | e <;> rw [e] <;> kernel_rfl
  rw [this]
end Go.Proofs.Ytiahdhlfecgnpaa
