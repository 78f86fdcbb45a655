/-
  The contracts of hart.control, controls.
-/
import Derived.Test.YtiahdhlfecgnpaaHartTrap
namespace Go.Proofs.Ytiahdhlfecgnpaa
open Go.RowKit
theorem results_cells2 {P : Program} {fn : Func} {p q : Tmp} {ty tz : TypeId} (h : fn.results = #[.cell p ty, .cell q tz]) (tmps : Array Value) (w : World) (g g' : Nat) (t t' : TypeId) (cs cs' : Array Value) (fr fr' : Nat × Nat) (d d' : TypeDesc)
    (hp : tmps.getD p undef = .pointer (some ⟨g, 0, none⟩)) (hq : tmps.getD q undef = .pointer (some ⟨g', 0, none⟩)) (hg : w.heap[g]? = some (.cells cs t fr)) (hg' : w.heap[g']? = some (.cells cs' t' fr'))
    (hu : P.underlying ty = some d) (hd : (match d with | .struct _ | .array _ _ => true | _ => false) = true) (hi : (P.info? ty).map (·.size) = some cs.size)
    (hu' : P.underlying tz = some d') (hd' : (match d' with | .struct _ | .array _ _ => true | _ => false) = true) (hi' : (P.info? tz).map (·.size) = some cs'.size) :
    (results fn tmps).run P w = .ok (.tuple #[.agg cs, .agg cs']) w := by
  have hp' : tmps[p]?.getD undef = .pointer (some ⟨g, 0, none⟩) := by simpa using hp
  have hq' : tmps[q]?.getD undef = .pointer (some ⟨g', 0, none⟩) := by simpa using hq
  simp [results, h, hp', hq', asAddr, run_loadVar_row w g t ty cs fr d hg hu hd hi, run_loadVar_row w g' t' tz cs' fr' d' hg' hu' hd' hi']
def ctlL : List (Int × Nat × Int) := [(768, 33, 136), (773, 34, -4), (832, 35, -1), (833, 36, -4), (834, 37, -1), (1984, 38, -1)]
def isCtl (csr : Int) (off : Nat) (bt : Int) : Prop := csr = 768 ∧ off = 33 ∧ bt = 136 ∨ csr = 773 ∧ off = 34 ∧ bt = -4 ∨ csr = 832 ∧ off = 35 ∧ bt = -1 ∨ csr = 833 ∧ off = 36 ∧ bt = -4 ∨ csr = 834 ∧ off = 37 ∧ bt = -1 ∨ csr = 1984 ∧ off = 38 ∧ bt = -1
set_option maxHeartbeats 2000000 in
theorem control_yes (b : Nat) (csr : Int) (off : Nat) (bt : Int) (w : World) (h : isCtl csr off bt) :
    Calls Try.prog 51 #[.pointer (some ⟨b, 0, none⟩), .int .i64 csr] w fun e w' => e = .returned (.tuple #[.pointer (some ⟨b, off, none⟩), .int .i64 bt]) ∧ w = w' := by
  rcases h with ⟨rfl, rfl, rfl⟩ | ⟨rfl, rfl, rfl⟩ | ⟨rfl, rfl, rfl⟩ | ⟨rfl, rfl, rfl⟩ | ⟨rfl, rfl, rfl⟩ | ⟨rfl, rfl, rfl⟩
  all_goals
    go_enter Try.func51, Try.ntmps51
    go_wp2_with fail
    go_ret2
    exact ⟨rfl, rfl⟩
def noCtl (csr : Int) : Prop := csr ≠ 768 ∧ csr ≠ 773 ∧ csr ≠ 832 ∧ csr ≠ 833 ∧ csr ≠ 834 ∧ csr ≠ 1984
theorem control_no (b : Nat) (csr : Int) (w : World) (h : noCtl csr) :
    Calls Try.prog 51 #[.pointer (some ⟨b, 0, none⟩), .int .i64 csr] w fun e w' => e = .returned (.tuple #[.pointer none, .int .i64 0]) ∧ w = w' := by
  obtain ⟨a1, a2, a3, a4, a5, a6⟩ := h
  have q1 := beq_eq_false_iff_ne.2 a1; have q2 := beq_eq_false_iff_ne.2 a2; have q3 := beq_eq_false_iff_ne.2 a3; have q4 := beq_eq_false_iff_ne.2 a4; have q5 := beq_eq_false_iff_ne.2 a5; have q6 := beq_eq_false_iff_ne.2 a6
  clear a1 a2 a3 a4 a5 a6
  go_enter Try.func51, Try.ntmps51
  go_wp2_with fail
  go_ret2
  exact ⟨rfl, rfl⟩
/-- A control register, read and written. -/
def getC (h : Ht) (off : Nat) : Int := if off = 33 then h.st else if off = 34 then h.ve else if off = 35 then h.sc else if off = 36 then h.ep else if off = 37 then h.ca else h.le
def setC (h : Ht) (off : Nat) (v : Int) : Ht := if off = 33 then { h with st := v } else if off = 34 then { h with ve := v } else if off = 35 then { h with sc := v } else if off = 36 then { h with ep := v } else if off = 37 then { h with ca := v } else { h with le := v }
theorem getC_at (h : Ht) (h32 : h.r.length = 32) (csr : Int) (off : Nat) (bt : Int) (hc : isCtl csr off bt) : (hA h)[off]? = some (.int .i64 (getC h off)) := by
  obtain ⟨g32, g33, g34, g35, g36, g37, g38⟩ := hA_fields h h32
  rcases hc with ⟨rfl, rfl, rfl⟩ | ⟨rfl, rfl, rfl⟩ | ⟨rfl, rfl, rfl⟩ | ⟨rfl, rfl, rfl⟩ | ⟨rfl, rfl, rfl⟩ | ⟨rfl, rfl, rfl⟩
  · exact g33
  · exact g34
  · exact g35
  · exact g36
  · exact g37
  · exact g38
theorem setC_at (h : Ht) (h32 : h.r.length = 32) (csr : Int) (off : Nat) (bt : Int) (hc : isCtl csr off bt) (v : Int) : (hA h).setIfInBounds off (.int .i64 v) = hA (setC h off v) := by
  rcases hc with ⟨rfl, rfl, rfl⟩ | ⟨rfl, rfl, rfl⟩ | ⟨rfl, rfl, rfl⟩ | ⟨rfl, rfl, rfl⟩ | ⟨rfl, rfl, rfl⟩ | ⟨rfl, rfl, rfl⟩
  · exact hA_st h h32 v
  · exact hA_ve h h32 v
  · exact hA_sc h h32 v
  · exact hA_ep h h32 v
  · exact hA_ca h h32 v
  · exact hA_le h h32 v
theorem setC_len {h : Ht} (h32 : h.r.length = 32) (off : Nat) (v : Int) : (setC h off v).r.length = 32 := by
  unfold setC
  repeat' split
  all_goals exact h32
theorem setC_pc (h : Ht) (off : Nat) (v : Int) : (setC h off v).pc = h.pc := by
  unfold setC
  repeat' split
  all_goals rfl
end Go.Proofs.Ytiahdhlfecgnpaa
