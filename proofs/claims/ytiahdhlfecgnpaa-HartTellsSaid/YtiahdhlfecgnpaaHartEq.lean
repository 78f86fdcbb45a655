/-
  Harts, and their registers, compared and loaded; a guarded load of a whole hart.
-/
import Derived.Test.YtiahdhlfecgnpaaHartStep3
import Derived.Deep.MidRow
import Derived.BigFrame
namespace Go.Proofs.Ytiahdhlfecgnpaa
open Go.RowKit
def rA (r : List Int) : Array Value := (r.map (Value.int .i64)).toArray
theorem part_int (A : Array Value) (i : Nat) (x : Int) (h : A[i]? = some (.int .i64 x)) (w : World) : (part 3 A i).run Try.prog w = .ok (.int .i64 x) w := by
  have a3 := Try.isAgg3
  simp [part, a3, h]
theorem eq_int1 (d : Nat) (a b : Int) (w : World) : (Op.equalIn (d + 1) 3 (.int .i64 a) (.int .i64 b)).run Try.prog w = .ok (a == b) w := run_equalIn_int w d 3 .i64 .i64 a b Try.underlying3
set_option maxHeartbeats 2000000 in
set_option maxRecDepth 100000 in
theorem eq_regs (d : Nat) (A : Array Value) (f : Nat → Int) (h : ∀ i, i < 32 → A[i]? = some (.int .i64 (f i))) (w : World) : (Op.equalIn (d + 1 + 1) 26 (.agg A) (.agg A)).run Try.prog w = .ok true w := by
  have e := fun a b w => eq_int1 d a b w
  have hp : ∀ (i : Nat) (w : World), i < 32 → (part 3 A i).run Try.prog w = .ok (.int .i64 (f i)) w := fun i w hi => part_int A i (f i) (h i hi) w
  rw [Op.equalIn]
  have p0 := fun w => hp 0 w (by omega)
  simp [run_underlying Try.underlying26, Std.Legacy.Range.forIn_eq_forIn_range', Std.Legacy.Range.size, List.range', hp, e]
theorem rA_get (r : List Int) (h32 : r.length = 32) (i : Nat) (hi : i < 32) : (rA r)[i]? = some (.int .i64 (r.getD i 0)) := by
  simp [rA, List.getD_eq_getElem?_getD, List.getElem?_eq_getElem (show i < r.length by omega)]
theorem eq_rA (r : List Int) (h32 : r.length = 32) (w : World) : (Op.equalIn 10000 26 (.agg (rA r)) (.agg (rA r))).run Try.prog w = .ok true w := eq_regs 9998 _ _ (rA_get r h32) w
theorem hA_extract (h : Ht) (h32 : h.r.length = 32) : (hA h).extract 0 32 = rA h.r := by
  unfold hA hL rA
  simp [List.extract_toArray, List.extract_eq_take_drop, List.map_append, h32]
theorem part_regs (h : Ht) (h32 : h.r.length = 32) (w : World) : (part 26 (hA h) 0).run Try.prog w = .ok (.agg (rA h.r)) w := by
  have a3 := Try.isAgg26
  have s3 := Try.sizeOf26
  simp [part, a3, s3, hA_extract h h32]
set_option maxHeartbeats 2000000 in
theorem eq_hA (h : Ht) (h32 : h.r.length = 32) (w : World) : (Op.equalIn 10000 28 (.agg (hA h)) (.agg (hA h))).run Try.prog w = .ok true w := by
  have hS : Try.prog.underlying 28 = some (.struct (Try.prog.fieldsOf 28)) := by kernel_rfl
  have hp : Try.prog.stoodInHeld 28 = false := by kernel_rfl
  have hr := fun w => part_regs h h32 w
  obtain ⟨g32, g33, g34, g35, g36, g37, g38⟩ := hA_fields h h32
  have p32 := part_int _ _ _ g32; have p33 := part_int _ _ _ g33; have p34 := part_int _ _ _ g34; have p35 := part_int _ _ _ g35; have p36 := part_int _ _ _ g36; have p37 := part_int _ _ _ g37; have p38 := part_int _ _ _ g38
  have er := fun w => eq_regs 9997 (rA h.r) _ (rA_get h.r h32) w
  have e := fun a b w => eq_int1 9998 a b w
  rw [show (10000 : Nat) = 9999 + 1 from rfl, run_equalIn_agg w 9999 28 _ _ hS hp]
  simp only [Program.fieldsOf, Try.underlying28]
  simp [Op.eqFields, hr, er, e, p32, p33, p34, p35, p36, p37, p38]
theorem load_row_g {P : Program} {ops : Array Oper} {rest : List Oper} {o : Oper} {a : Act} {w : World} {Q : Exit → Act → World → Prop} (hgd : Region.wanted o (yielded ops a.tmps) = true) (ty : TypeId) (x : Operand) (ho : o.op = .load ty x)
    (g : Nat) (hx : a.eval x = .pointer (some ⟨g, 0, none⟩)) (t : TypeId) (cs : Array Value) (fr : Nat × Nat) (d : TypeDesc) (hg : w.heap[g]? = some (.cells cs t fr))
    (hu : P.underlying ty = some d) (hd : (match d with | .struct _ | .array _ _ => true | _ => false) = true) (hi : (P.info? ty).map (·.size) = some cs.size)
    (h : wpList P ops Q rest (a.put o.dst (.agg cs)) w) : wpList P ops Q (o :: rest) a w :=
  BigFrame.wpList_want hgd fun _ hK => wp_load_row ty x ho g hx t cs fr d hg hu hd hi (hK _ _ h)
/-- The registers of a hart in a variable, loaded. -/
theorem run_load_regs (w : World) (g : Nat) (h : Ht) (h32 : h.r.length = 32) (t : TypeId) (fr : Nat × Nat) (hg : w.heap[g]? = some (.cells (hA h) t fr)) :
    (loadVar 26 ⟨g, 0, none⟩).run Try.prog w = .ok (.agg (rA h.r)) w := by
  have a3 := Try.isAgg26
  have s3 := Try.sizeOf26
  have hl : (loadCells ⟨g, 0, none⟩ (rA h.r).toList.length).run Try.prog w = .ok (rA h.r).toList.toArray w :=
    run_loadCells_list (P := Try.prog) w ⟨g, 0, none⟩ (rA h.r).toList (fun j v hv => by
      have hj : j < 32 := by
        have := (List.getElem?_eq_some_iff.1 hv).1
        simpa [rA, h32] using this
      have e1 : v = .int .i64 (h.r.getD j 0) := by
        have := rA_get h.r h32 j hj
        simp only [Array.getElem?_toList] at hv
        rw [hv] at this; injection this
      have hadd : (⟨g, 0, none⟩ : Addr).add j = ⟨g, j, none⟩ := by unfold Addr.add; split <;> simp_all
      rw [hadd, cell_of_row w g j _ t fr hg, e1]
      exact hA_r h h32 j hj)
  simp only [Array.length_toList, Array.toArray_toList] at hl
  have hsz : (rA h.r).size = 32 := by simp [rA, h32]
  rw [hsz] at hl
  simp [loadVar, Sem.run_bind, a3, s3, hl]
theorem load_run_g {P : Program} {ops : Array Oper} {rest : List Oper} {o : Oper} {a : Act} {w : World} {Q : Exit → Act → World → Prop} (hgd : Region.wanted o (yielded ops a.tmps) = true) (ty : TypeId) (x : Operand) (ho : o.op = .load ty x)
    (g : Nat) (hx : a.eval x = .pointer (some ⟨g, 0, none⟩)) (v : Value) (hr : (loadVar ty ⟨g, 0, none⟩).run P w = .ok v w)
    (h : wpList P ops Q rest (a.put o.dst v) w) : wpList P ops Q (o :: rest) a w :=
  BigFrame.wpList_want hgd fun _ hK => by
    unfold Oper.wp execOp
    simp only [ho, hx, Instr.loadAt, Instr.sureAddr, Sem.run_bind, Sem.run_pure, Result.andThen_ok, hr]
    exact hK _ _ h
end Go.Proofs.Ytiahdhlfecgnpaa
