/-
  What HartBack's steps do.
-/
import Derived.Test.YtiahdhlfecgnpaaHartFine
import Derived.Deep.QuietTactic
import Derived.BigQuiet
import Derived.Outline
namespace Go.Proofs.Ytiahdhlfecgnpaa
open Go.RowKit
theorem bits_st (st : Int) (h : st = 0 ∨ st = 8 ∨ st = 128 ∨ st = 136) : (bits .and .i64 (trapSt st) 8 != 0) = false ∧ (bits .and .i64 (backSt (trapSt st)) 8 != 0) = (bits .and .i64 st 8 != 0) ∧ (bits .and .i64 st 8 != 0) = (st / 8 % 2 == 1) ∧ (bits .and .i64 st 8 != 0) = ((st.tdiv 8).tmod 2 == 1) := by
  rcases h with rfl | rfl | rfl | rfl <;> (refine ⟨?_, ?_, ?_, ?_⟩ <;> kernel_rfl)
theorem low_step (h : Ht) (f : Fine h) : ∃ h' : Ht, stepX (putH h 7 0) 0 ⟨40, 8, 7, 0, 1984⟩ = (h', ⟨0, 0, 0, 0, 0⟩) ∧ h'.r.getD 8 0 = h.le ∧ h'.st = h.st ∧ h'.le = 0 := by
  rw [stepX_ctl (right_mk _ (shC 40 (by simp)) (by omega) ⟨by omega, by omega, .inl rfl⟩ ⟨by omega, by omega, .inl rfl⟩ ⟨by omega, by omega, .inr rfl⟩ ⟨by simp, by simp⟩ rfl) (by simp)]
  have e : ctlR (putH h 7 0) 0 ⟨40, 8, 7, 0, 1984⟩ = (ctlH (putH h 7 0) ⟨40, 8, 7, 0, 1984⟩ 38 (-1), ⟨0, 0, 0, 0, 0⟩) := rfl
  rw [e]
  have e7 : (putH h 7 0).r.getD 7 0 = 0 := (put_get h f.len 7 (by omega) 0).trans (by unfold wrap32; omega)
  have hr := put_rest h 7 0
  have l7 : (putH h 7 0).r.length = 32 := put_len f.len 7 0
  have fle := f.le
  refine ⟨_, rfl, ?_, ?_, ?_⟩
  · exact (put_get ({ setC (putH h 7 0) 38 _ with pc := _ } : Ht) l7 8 (by omega) _).trans (by show wrap32 (putH h 7 0).le = h.le; rw [hr.2.2.2.2.2.2]; exact wrap32_id ⟨by omega, by omega⟩)
  · have := put_rest ({ setC (putH h 7 0) 38 (bits .and .i64 (changedN 40 (getC (putH h 7 0) 38) (ctlN (putH h 7 0) ⟨40, 8, 7, 0, 1984⟩)) (-1)) with pc := wrap32 ((putH h 7 0).pc + 4) } : Ht) 8 (getC (putH h 7 0) 38)
    exact this.2.1.trans hr.2.1
  · have := put_rest ({ setC (putH h 7 0) 38 (bits .and .i64 (changedN 40 (getC (putH h 7 0) 38) (ctlN (putH h 7 0) ⟨40, 8, 7, 0, 1984⟩)) (-1)) with pc := wrap32 ((putH h 7 0).pc + 4) } : Ht) 8 (getC (putH h 7 0) 38)
    refine this.2.2.2.2.2.2.trans ?_
    show bits .and .i64 (changedN 40 (getC (putH h 7 0) 38) (ctlN (putH h 7 0) ⟨40, 8, 7, 0, 1984⟩)) (-1) = 0
    have : ctlN (putH h 7 0) ⟨40, 8, 7, 0, 1984⟩ = 0 := e7
    rw [this, show ∀ x : Int, changedN 40 x 0 = 0 from fun x => by simp [changedN]]; rfl
theorem back_step (h : Ht) (c : Int) : stepX (trapH h c) 0 ⟨44, 0, 0, 0, 0⟩ = (backH (trapH h c), ⟨0, 0, 0, 0, 0⟩) :=
  stepX_back (right_mk _ shZ (by omega) ⟨by omega, by omega, .inr rfl⟩ ⟨by omega, by omega, .inr rfl⟩ ⟨by omega, by omega, .inr rfl⟩ ⟨by simp, by simp⟩ rfl) rfl
theorem back_all (h : Ht) (f : Fine h) (c p : Int) : ∃ (t b lo : Ht) (q : Bool), trapH h c = t ∧ stepX t 0 ⟨44, 0, 0, 0, 0⟩ = (b, ⟨0, 0, 0, 0, 0⟩) ∧ stepX (putH h 7 0) 0 ⟨40, 8, 7, 0, 1984⟩ = (lo, ⟨0, 0, 0, 0, 0⟩) ∧
    t.pc = h.ve ∧ t.ca = wrap32 c ∧ letsB t.st t.le p = false ∧ b.pc = h.pc ∧ letsB b.st b.le p = letsB h.st h.le p ∧ b.r = h.r ∧ lo.r.getD 8 0 = h.le ∧ letsB lo.st lo.le p = (q && decide (0 < p)) ∧ (h.st / 8 % 2 == 1) = q ∧ ((h.st.tdiv 8).tmod 2 == 1) = q := by
  obtain ⟨b1, b2, b3, b4⟩ := bits_st h.st f.st
  obtain ⟨lo, l1, l2, l3, l4⟩ := low_step h f
  refine ⟨_, _, lo, (bits .and .i64 h.st 8 != 0), rfl, back_step h c, l1, rfl, rfl, ?_, rfl, ?_, rfl, l2, ?_, b3.symm, b4.symm⟩
  · show ((bits .and .i64 (trapSt h.st) 8 != 0) && _) = false
    rw [b1]; rfl
  · show ((bits .and .i64 (backSt (trapSt h.st)) 8 != 0) && decide (h.le < p)) = _
    rw [b2]; rfl
  · rw [l3, l4]; rfl
end Go.Proofs.Ytiahdhlfecgnpaa
