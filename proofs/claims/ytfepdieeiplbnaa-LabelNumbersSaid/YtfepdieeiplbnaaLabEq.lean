/-
  Items compared.
-/
import Derived.Test.YtfepdieeiplbnaaLabPlain
namespace Go.Proofs.Ytfepdieeiplbnaa
open Go.RowKit
theorem itmEq_fields (x y : Itm) : decide (x = y) = (x.kind == y.kind && (decide (x.i = y.i) && (decide (x.name = y.name) && x.n == y.n))) := by
  rw [Bool.eq_iff_iff, decide_eq_true_iff, ← itm_iff]
  simp
theorem part_i64 (A : Array Value) (i : Nat) (x : Int) (h : A[i]? = some (.int .i64 x)) (w : World) : (part 3 A i).run Try.prog w = .ok (.int .i64 x) w := by
  have a3 := Try.isAgg3
  simp [part, a3, h]
theorem part_str (A : Array Value) (i : Nat) (x : ByteArray) (h : A[i]? = some (.string x)) (w : World) : (part 9 A i).run Try.prog w = .ok (.string x) w := by
  have a3 := Try.isAgg9
  simp [part, a3, h]
theorem eq_i64 (d : Nat) (a b : Int) (w : World) : (Op.equalIn (d + 1) 3 (.int .i64 a) (.int .i64 b)).run Try.prog w = .ok (a == b) w := run_equalIn_int w d 3 .i64 .i64 a b Try.underlying3
theorem str_beq (a b : ByteArray) : (a.toList == b.toList) = decide (a = b) := by
  rw [ByteArray.toList_eq, ByteArray.toList_eq, Bool.eq_iff_iff, beq_iff_eq, decide_eq_true_iff]
  constructor
  · intro h
    obtain ⟨⟨a⟩⟩ := a
    obtain ⟨⟨b⟩⟩ := b
    simp at h
    rw [h]
  · intro h; rw [h]
theorem eq_str (d : Nat) (a b : ByteArray) (w : World) : (Op.equalIn (d + 1) 9 (.string a) (.string b)).run Try.prog w = .ok (decide (a = b)) w := by
  rw [run_equalIn_string w d 9 a b Try.underlying9, str_beq]
theorem eq_insN (d : Nat) (x y : Ins) (w : World) : (Op.equalIn (d + 1 + 1) 24 (.agg #[.int .i64 x.op, .int .i64 x.d, .int .i64 x.a, .int .i64 x.b, .int .i64 x.n]) (.agg #[.int .i64 y.op, .int .i64 y.d, .int .i64 y.a, .int .i64 y.b, .int .i64 y.n])).run Try.prog w = .ok (decide (x = y)) w := by
  have u3 := Try.underlying3
  have a3 := Try.isAgg3
  have z3 := Try.sizeOf3
  have hS : Try.prog.underlying 24 = some (.struct (Try.prog.fieldsOf 24)) := by kernel_rfl
  have hp : Try.prog.stoodInHeld 24 = false := by kernel_rfl
  rw [insEq_fields, run_equalIn_agg w (d + 1) 24 _ _ hS hp]
  have e := fun a b w => eq_i64 d a b w
  simp only [Program.fieldsOf, Try.underlying24]
  simp [Op.eqFields, part, a3, e]
  by_cases h1 : x.op = y.op <;> by_cases h2 : x.d = y.d <;> by_cases h3 : x.a = y.a <;> by_cases h4 : x.b = y.b <;> by_cases h5 : x.n = y.n <;> simp [h1, h2, h3, h4, h5]
set_option maxHeartbeats 1000000 in
theorem eq_itm (x y : Itm) (w : World) : (Op.equalIn 10000 26 (.agg #[.int .i64 x.kind, .int .i64 x.i.op, .int .i64 x.i.d, .int .i64 x.i.a, .int .i64 x.i.b, .int .i64 x.i.n, .string x.name, .int .i64 x.n]) (.agg #[.int .i64 y.kind, .int .i64 y.i.op, .int .i64 y.i.d, .int .i64 y.i.a, .int .i64 y.i.b, .int .i64 y.i.n, .string y.name, .int .i64 y.n])).run Try.prog w = .ok (decide (x = y)) w := by
  have a3 := Try.isAgg3
  have a9 := Try.isAgg9
  have a24 := Try.isAgg24
  have s24 := Try.sizeOf24
  have hS : Try.prog.underlying 26 = some (.struct (Try.prog.fieldsOf 26)) := by kernel_rfl
  have hp : Try.prog.stoodInHeld 26 = false := by kernel_rfl
  have e := fun a b w => eq_i64 9998 a b w
  have es := fun a b w => eq_str 9998 a b w
  have ei := fun w => eq_insN 9997 x.i y.i w
  rw [itmEq_fields, show (10000 : Nat) = 9999 + 1 from rfl, run_equalIn_agg w 9999 26 _ _ hS hp]
  simp only [Program.fieldsOf, Try.underlying26]
  simp [Op.eqFields, part, a3, a9, a24, s24, e, es, ei]
  by_cases h1 : x.kind = y.kind <;> by_cases h2 : x.i = y.i <;> by_cases h3 : x.name = y.name <;> by_cases h4 : x.n = y.n <;> simp [h1, h2, h3, h4]
theorem eqT (b : Bool) (x y : Itm) (h : decide (x = y) = b) (w : World) : (Op.equalIn 10000 26 (.agg #[.int .i64 x.kind, .int .i64 x.i.op, .int .i64 x.i.d, .int .i64 x.i.a, .int .i64 x.i.b, .int .i64 x.i.n, .string x.name, .int .i64 x.n]) (.agg #[.int .i64 y.kind, .int .i64 y.i.op, .int .i64 y.i.d, .int .i64 y.i.a, .int .i64 y.i.b, .int .i64 y.i.n, .string y.name, .int .i64 y.n])).run Try.prog w = .ok b w := by
  rw [eq_itm, h]
end Go.Proofs.Ytfepdieeiplbnaa
