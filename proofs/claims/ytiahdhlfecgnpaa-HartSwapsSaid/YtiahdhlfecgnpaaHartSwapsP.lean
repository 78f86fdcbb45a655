/-
  What HartSwaps's steps do.
-/
import Derived.Test.YtiahdhlfecgnpaaHartFine
import Derived.Deep.QuietTactic
import Derived.BigQuiet
import Derived.Outline
namespace Go.Proofs.Ytiahdhlfecgnpaa
open Go.RowKit
def csrN (j : Nat) : Int := if j = 0 then 768 else if j = 1 then 773 else if j = 2 then 832 else if j = 3 then 833 else if j = 4 then 834 else 1984
def offN (j : Nat) : Nat := 33 + j
def bitN (j : Nat) : Int := if j = 0 then 136 else if j = 1 then -4 else if j = 2 then -1 else if j = 3 then -4 else -1
theorem bitN_i32 (j : Nat) : I32 (bitN j) := by unfold bitN; repeat' split
                                                all_goals (constructor <;> omega)
theorem ctl_any (op : Int) (d a : Nat) (j : Nat) (h : Ht) (ho : op = 40 ∨ op = 41 ∨ op = 42) (hd : d < 32) (ha : a < 32) (hj : j < 6) : stepX h 0 ⟨op, d, a, 0, csrN j⟩ = (ctlH h ⟨op, d, a, 0, csrN j⟩ (offN j) (bitN j), ⟨0, 0, 0, 0, 0⟩) := by
  have hb : 0 ≤ csrN j ∧ csrN j ≤ 4095 := by unfold csrN; repeat' split
                                             all_goals omega
  rw [stepX_ctl (right_mk _ (shC op ho) (by omega) ⟨by omega, by omega, .inl rfl⟩ ⟨by omega, by omega, .inl rfl⟩ ⟨by omega, by omega, .inr rfl⟩ hb rfl) ho]
  rcases (by omega : j = 0 ∨ j = 1 ∨ j = 2 ∨ j = 3 ∨ j = 4 ∨ j = 5) with rfl | rfl | rfl | rfl | rfl | rfl <;> rfl
/-- A hart's control register put: its place, its number. -/
theorem ctl_fields (op : Int) (d a : Nat) (j : Nat) (h : Ht) (hl : h.r.length = 32) (hd : 1 ≤ d ∧ d < 32) (hj : j < 6) :
    let h' := ctlH h ⟨op, d, a, 0, csrN j⟩ (offN j) (bitN j)
    h'.r.length = 32 ∧ h'.r.getD d 0 = wrap32 (getC h (offN j)) ∧ (∀ i : Nat, i ≠ d → h'.r.getD i 0 = h.r.getD i 0) ∧ getC h' (offN j) = bits .and .i64 (changedN op (getC h (offN j)) (h.r.getD a 0)) (bitN j) ∧ h'.pc = wrap32 (h.pc + 4) ∧
    (∀ x : List Int, ∀ y : Int, ({ h' with r := x, pc := y } : Ht) = setC { h with r := x, pc := y } (offN j) (bits .and .i64 (changedN op (getC h (offN j)) (h.r.getD a 0)) (bitN j))) := by
  intro h'
  have e : h' = putH { setC h (offN j) (bits .and .i64 (changedN op (getC h (offN j)) (h.r.getD a 0)) (bitN j)) with pc := wrap32 (h.pc + 4) } d (getC h (offN j)) := rfl
  generalize bits .and .i64 (changedN op (getC h (offN j)) (h.r.getD a 0)) (bitN j) = v at *
  have ls : (setC h (offN j) v).r.length = 32 := setC_len hl _ _
  have rs : (setC h (offN j) v).r = h.r := by unfold setC; repeat' split
                                              all_goals rfl
  have pr := put_rest ({ setC h (offN j) v with pc := wrap32 (h.pc + 4) } : Ht) d (getC h (offN j))
  rw [e]
  refine ⟨put_len (by exact ls) _ _, put_get _ (by exact ls) d hd _, fun i hi => ?_, ?_, pr.1, fun x y => ?_⟩
  · rw [put_get_ne _ _ _ _ (by omega)]
    show (setC h (offN j) v).r.getD i 0 = _
    rw [rs]
  · obtain ⟨_, p2, p3, p4, p5, p6, p7⟩ := pr
    rcases (by omega : j = 0 ∨ j = 1 ∨ j = 2 ∨ j = 3 ∨ j = 4 ∨ j = 5) with rfl | rfl | rfl | rfl | rfl | rfl
    · exact p2
    · exact p3
    · exact p4
    · exact p5
    · exact p6
    · exact p7
  · obtain ⟨_, p2, p3, p4, p5, p6, p7⟩ := pr
    rw [p2, p3, p4, p5, p6, p7]
    rcases (by omega : j = 0 ∨ j = 1 ∨ j = 2 ∨ j = 3 ∨ j = 4 ∨ j = 5) with rfl | rfl | rfl | rfl | rfl | rfl <;> rfl
theorem setC_same (h : Ht) (j : Nat) (v : Int) (hv : v = getC h (offN j)) (hj : j < 6) : setC h (offN j) v = h := by
  subst hv
  rcases (by omega : j = 0 ∨ j = 1 ∨ j = 2 ∨ j = 3 ∨ j = 4 ∨ j = 5) with rfl | rfl | rfl | rfl | rfl | rfl <;> rfl
theorem setC_twice (h : Ht) (j : Nat) (u v : Int) (hj : j < 6) : setC (setC h (offN j) u) (offN j) v = setC h (offN j) v := by
  rcases (by omega : j = 0 ∨ j = 1 ∨ j = 2 ∨ j = 3 ∨ j = 4 ∨ j = 5) with rfl | rfl | rfl | rfl | rfl | rfl <;> rfl
/-- What may stand in a control register is as it is under its bits. -/
theorem fine_bits (h : Ht) (f : Fine h) (j : Nat) (hj : j < 6) : I32 (getC h (offN j)) ∧ bits .and .i64 (getC h (offN j)) (bitN j) = getC h (offN j) := by
  obtain ⟨_, _, _, _, st, ve, sc, ep, ca, le⟩ := f
  rcases (by omega : j = 0 ∨ j = 1 ∨ j = 2 ∨ j = 3 ∨ j = 4 ∨ j = 5) with rfl | rfl | rfl | rfl | rfl | rfl
  · show I32 h.st ∧ bits .and .i64 h.st 136 = h.st
    rcases st with e | e | e | e <;> rw [e] <;> exact ⟨⟨by omega, by omega⟩, by kernel_rfl⟩
  · show I32 h.ve ∧ bits .and .i64 h.ve (-4) = h.ve
    exact ⟨ve.1, by rw [and_neg4 ve.1, ve.2]; omega⟩
  · exact ⟨sc, and_neg1 sc⟩
  · show I32 h.ep ∧ bits .and .i64 h.ep (-4) = h.ep
    exact ⟨ep.1, by rw [and_neg4 ep.1, ep.2]; omega⟩
  · exact ⟨ca, and_neg1 ca⟩
  · exact ⟨⟨by show -2147483648 ≤ h.le; omega, by show h.le ≤ 2147483647; omega⟩, and_neg1 ⟨by show -2147483648 ≤ h.le; omega, by show h.le ≤ 2147483647; omega⟩⟩
theorem bv_of {x : Int} (h : I32 x) : ∃ b : BitVec 64, x = b.toInt ∧ BitVec.ofInt 64 x = b := ⟨_, (toInt64_of h).symm, rfl⟩
theorem ofToInt (b : BitVec 64) : BitVec.ofInt 64 b.toInt = b := BitVec.ofInt_toInt
theorem sw_bits (o v b : Int) : bits .and .i64 (bits .and .i64 (bits .or .i64 o v) b) (bits .and .i64 v b) = bits .and .i64 v b ∧ bits .and .i64 (bits .and .i64 (bits .andNot .i64 (bits .and .i64 (bits .or .i64 o v) b) v) b) (bits .and .i64 v b) = 0 := by
  simp only [and64_bv, or64_bv, andNot64_bv, ofToInt]
  constructor
  · congr 1
    ext i hi
    simp only [BitVec.getElem_and, BitVec.getElem_or]
    cases (BitVec.ofInt 64 o)[i] <;> cases (BitVec.ofInt 64 v)[i] <;> cases (BitVec.ofInt 64 b)[i] <;> rfl
  · have : (((BitVec.ofInt 64 o ||| BitVec.ofInt 64 v) &&& BitVec.ofInt 64 b) &&& ~~~ (BitVec.ofInt 64 v)) &&& BitVec.ofInt 64 b &&& (BitVec.ofInt 64 v &&& BitVec.ofInt 64 b) = 0#64 := by
      ext i hi
      simp only [BitVec.getElem_and, BitVec.getElem_or, BitVec.getElem_not, BitVec.getElem_zero]
      cases (BitVec.ofInt 64 o)[i] <;> cases (BitVec.ofInt 64 v)[i] <;> cases (BitVec.ofInt 64 b)[i] <;> rfl
    rw [this]; rfl
theorem swaps_all (h0 : Ht) (f : Fine h0) (n : Int) (j : Nat) (hj : j < 6) (h : Ht) (hh : h = putH h0 9 n) : ∃ a b p q r : Ht,
    stepX h 0 ⟨40, 10, 9, 0, csrN j⟩ = (a, ⟨0, 0, 0, 0, 0⟩) ∧ stepX a 0 ⟨40, 11, 10, 0, csrN j⟩ = (b, ⟨0, 0, 0, 0, 0⟩) ∧ stepX h 0 ⟨41, 10, 9, 0, csrN j⟩ = (p, ⟨0, 0, 0, 0, 0⟩) ∧ stepX p 0 ⟨42, 11, 9, 0, csrN j⟩ = (q, ⟨0, 0, 0, 0, 0⟩) ∧
    stepX q 0 ⟨41, 12, 0, 0, csrN j⟩ = (r, ⟨0, 0, 0, 0, 0⟩) ∧ b.r.getD 11 0 = bits .and .i64 (wrap32 n) (bitN j) ∧ ({ b with r := h.r, pc := h.pc } : Ht) = h ∧ q.r.getD 10 0 = a.r.getD 10 0 ∧
    bits .and .i64 (q.r.getD 11 0) (bits .and .i64 (wrap32 n) (bitN j)) = bits .and .i64 (wrap32 n) (bitN j) ∧ bits .and .i64 (r.r.getD 12 0) (bits .and .i64 (wrap32 n) (bitN j)) = 0 ∧ b.pc = wrap32 (h.pc + 8) := by
  have hl : h.r.length = 32 := by rw [hh]; exact put_len f.len _ _
  have h9 : h.r.getD 9 0 = wrap32 n := by rw [hh]; exact put_get h0 f.len 9 (by omega) n
  have pr := put_rest h0 9 n
  rw [← hh] at pr
  have gc : getC h (offN j) = getC h0 (offN j) := by
    obtain ⟨_, p2, p3, p4, p5, p6, p7⟩ := pr
    rcases (by omega : j = 0 ∨ j = 1 ∨ j = 2 ∨ j = 3 ∨ j = 4 ∨ j = 5) with rfl | rfl | rfl | rfl | rfl | rfl
    · exact p2
    · exact p3
    · exact p4
    · exact p5
    · exact p6
    · exact p7
  obtain ⟨fb1, fb2⟩ := fine_bits h0 f j hj
  rw [← gc] at fb1 fb2
  obtain ⟨la, a10, ar, ac, apc, aset⟩ := ctl_fields 40 10 9 j h hl (by omega) hj
  have sa := ctl_any 40 10 9 j h (.inl rfl) (by omega) (by omega) hj
  generalize ctlH h ⟨40, (10 : Nat), (9 : Nat), 0, csrN j⟩ (offN j) (bitN j) = a at *
  obtain ⟨lb, b11, br, bc, bpc, bset⟩ := ctl_fields 40 11 10 j a la (by omega) hj
  have sb := ctl_any 40 11 10 j a (.inl rfl) (by omega) (by omega) hj
  generalize ctlH a ⟨40, (11 : Nat), (10 : Nat), 0, csrN j⟩ (offN j) (bitN j) = b at *
  obtain ⟨lp, p10, prr, pc', ppc, pset⟩ := ctl_fields 41 10 9 j h hl (by omega) hj
  have sp := ctl_any 41 10 9 j h (.inr (.inl rfl)) (by omega) (by omega) hj
  generalize ctlH h ⟨41, (10 : Nat), (9 : Nat), 0, csrN j⟩ (offN j) (bitN j) = p at *
  obtain ⟨lq, q11, qr, qc, qpc, qset⟩ := ctl_fields 42 11 9 j p lp (by omega) hj
  have sq := ctl_any 42 11 9 j p (.inr (.inr rfl)) (by omega) (by omega) hj
  generalize ctlH p ⟨42, (11 : Nat), (9 : Nat), 0, csrN j⟩ (offN j) (bitN j) = q at *
  obtain ⟨lr, r12, rr, rc, rpc, rset⟩ := ctl_fields 41 12 0 j q lq (by omega) hj
  have sr := ctl_any 41 12 0 j q (.inr (.inl rfl)) (by omega) (by omega) hj
  generalize ctlH q ⟨41, (12 : Nat), (0 : Nat), 0, csrN j⟩ (offN j) (bitN j) = r at *
  have hw : I32 (wrap32 n) := wrap32_i32 n
  have hbj := bitN_i32 j
  have m32 : I32 (bits .and .i64 (wrap32 n) (bitN j)) := and_i32' hw hbj
  rw [h9] at ac pc'
  have ac' : getC a (offN j) = bits .and .i64 (wrap32 n) (bitN j) := ac
  have p9 : p.r.getD 9 0 = wrap32 n := (prr 9 (by omega)).trans h9
  rw [p9] at qc
  have pcv : getC p (offN j) = bits .and .i64 (bits .or .i64 (getC h (offN j)) (wrap32 n)) (bitN j) := pc'
  have p32 : I32 (getC p (offN j)) := by rw [pcv]; exact and_i32' (or_i32' fb1 hw) hbj
  have qcv : getC q (offN j) = bits .and .i64 (bits .andNot .i64 (getC p (offN j)) (wrap32 n)) (bitN j) := qc
  have q32 : I32 (getC q (offN j)) := by rw [qcv]; exact and_i32' (andNot_i32 p32 hw) hbj
  obtain ⟨w1, w2⟩ := sw_bits (getC h (offN j)) (wrap32 n) (bitN j)
  refine ⟨a, b, p, q, r, sa, sb, sp, sq, sr, ?_, ?_, ?_, ?_, ?_, ?_⟩
  · rw [b11, ac', wrap32_id m32]
  · have e1 := bset h.r h.pc
    have e2 := aset h.r h.pc
    rw [a10, wrap32_id fb1] at bc e1
    rw [e2] at e1
    rw [e1, setC_twice _ _ _ _ hj]
    refine setC_same _ _ _ ?_ hj
    show bits .and .i64 (getC h (offN j)) (bitN j) = _
    rw [fb2]
  · rw [qr 10 (by omega), p10, a10]
  · rw [q11, wrap32_id p32, pcv]; exact w1
  · rw [r12, wrap32_id q32, qcv, pcv]; exact w2
  · rw [bpc, apc]; unfold wrap32; omega
end Go.Proofs.Ytiahdhlfecgnpaa
