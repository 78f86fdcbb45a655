/-
  Instructions compared; code.Decode of any number.
-/
import Derived.Test.YtfepdieeiplbnaaCodeDec
import Derived.Test.YtfepdieeiplbnaaCodePlain
import Derived.WalkSpells
import Derived.WalkLawsBesides
namespace Go.Proofs.Ytfepdieeiplbnaa
open Go.RowKit
theorem ins_iff (x y : Ins) : (x.op = y.op ∧ x.d = y.d ∧ x.a = y.a ∧ x.b = y.b ∧ x.n = y.n) ↔ x = y := by
  obtain ⟨a, b, c, d, e⟩ := x
  obtain ⟨a', b', c', d', e'⟩ := y
  simp
instance : DecidableEq Ins := fun x y => decidable_of_iff _ (ins_iff x y)
theorem insEq_fields (x y : Ins) : decide (x = y) = (x.op == y.op && (x.d == y.d && (x.a == y.a && (x.b == y.b && x.n == y.n)))) := by
  rw [Bool.eq_iff_iff, decide_eq_true_iff, ← ins_iff]
  simp
set_option maxHeartbeats 1000000 in
theorem eq_ins (x y : Ins) (w : World) : (Op.equalIn 10000 24 (.agg #[.int .i64 x.op, .int .i64 x.d, .int .i64 x.a, .int .i64 x.b, .int .i64 x.n]) (.agg #[.int .i64 y.op, .int .i64 y.d, .int .i64 y.a, .int .i64 y.b, .int .i64 y.n])).run Try.prog w = .ok (decide (x = y)) w := by
  have u3 := Try.underlying3
  have a3 := Try.isAgg3
  have z3 := Try.sizeOf3
  have hS : Try.prog.underlying 24 = some (.struct (Try.prog.fieldsOf 24)) := by kernel_rfl
  have hp : Try.prog.stoodInHeld 24 = false := by kernel_rfl
  rw [insEq_fields, show (10000 : Nat) = 9999 + 1 from rfl, run_equalIn_agg w 9999 24 _ _ hS hp]
  simp only [Program.fieldsOf, Try.underlying24]
  go_simp
  cases h1 : (x.op == y.op)
  · simp_all
  · cases h2 : (x.d == y.d)
    · simp_all
    · cases h3 : (x.a == y.a)
      · simp_all
      · cases h4 : (x.b == y.b)
        · simp_all
        · cases h5 : (x.n == y.n) <;> simp_all
theorem eqI (b : Bool) (x y : Ins) (h : decide (x = y) = b) (w : World) : (Op.equalIn 10000 24 (.agg #[.int .i64 x.op, .int .i64 x.d, .int .i64 x.a, .int .i64 x.b, .int .i64 x.n]) (.agg #[.int .i64 y.op, .int .i64 y.d, .int .i64 y.a, .int .i64 y.b, .int .i64 y.n])).run Try.prog w = .ok b w := by
  rw [eq_ins, h]
/-- What Decode says of any number. -/
def dX (z : Int) : Ins := if 0 ≤ z ∧ z < 4294967296 then decX z.toNat else noIns
def dE (z : Int) : Int := if 0 ≤ z ∧ z < 4294967296 then decE z.toNat else 20
theorem decode_any (z : Int) (w : World) (h : I64 z) :
    Calls Try.prog 26 #[.int .i64 z] w fun e w' => e = .returned (.tuple #[insV (dX z), .int .i64 (dE z)]) ∧ Below w.heap.size w w' := by
  unfold dX dE
  by_cases hz : 0 ≤ z ∧ z < 4294967296
  · rw [if_pos hz, if_pos hz]
    have := decode_near z.toNat w (by omega)
    rw [show ((z.toNat : Nat) : Int) = z by omega] at this
    exact this
  · rw [if_neg hz, if_neg hz]
    exact decode_far z w h (by omega)
theorem dE_cases (z : Int) : dE z = 0 ∨ dE z = 20 := by
  unfold dE; split
  · exact dec_cases _
  · exact .inr rfl
theorem dX_ok (z : Int) (h : dE z = 0) : rightB (dX z) = true ∧ ((encN (dX z) : Nat) : Int) = z := by
  unfold dE at h; unfold dX
  split at h
  · rename_i hz
    rw [if_pos hz]
    obtain ⟨a, b⟩ := dec_ok _ h
    exact ⟨a, by omega⟩
  · cases h
theorem dX_bad (z : Int) (h : dE z = 20) : dX z = noIns := by
  unfold dE at h; unfold dX
  split at h
  · rename_i hz
    rw [if_pos hz]
    exact (dec_bad _ (by omega)).1
  · rename_i hz
    rw [if_neg hz]
theorem dX_enc (x : Ins) (h : rightB x = true) : dX (encN x : Nat) = x ∧ dE (encN x : Nat) = 0 := by
  have hl : encN x < 4294967296 := layN_lt _
  unfold dX dE
  rw [if_pos (by omega), if_pos (by omega), show ((encN x : Nat) : Int).toNat = encN x by omega]
  exact dec_right x h
theorem shape_bd (f : Int) : -1048576 ≤ (shapeT f).least ∧ (shapeT f).most ≤ 1048575 := by
  unfold shapeT
  repeat' split
  all_goals simp
theorem ok_n {x : Ins} (h : rightB x = true) : I64 x.n := by
  obtain ⟨_, _, _, _, h1, h2, _⟩ := right_parts h
  have := shape_bd (rowT x.op).form
  unfold shX at h1 h2
  exact ⟨by omega, by omega⟩
theorem encN_lt (x : Ins) : encN x < 4294967296 := layN_lt _
theorem right_at (x : Ins) (r : Bool) (w : World) (hr : rightB x = r) :
    Calls Try.prog 30 #[insV x] w fun e w' => e = .returned (.bool r) ∧ Below w.heap.size w w' := by subst hr; exact right_any x w
end Go.Proofs.Ytfepdieeiplbnaa
