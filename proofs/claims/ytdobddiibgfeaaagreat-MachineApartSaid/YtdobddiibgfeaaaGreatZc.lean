/-
  What the walks of this statement lean on (CodeTab, CodeEarly, CodeLate, CodeRow, CodeMath, CodeRight): shown.
-/
import Derived.WalkKit
import Derived.Lib.Hide
import Derived.Test.YtdobddiibgfeaaaGreatZa
import Derived.Test.YtdobddiibgfeaaaGreatRows
import Derived.Deep.QuietTactic
import Derived.BigQuiet
set_option linter.unusedVariables false
set_option linter.unusedSimpArgs false
namespace Go.Proofs.YtdobddiibgfeaaaGreat
section
open Go.RowKit
structure Rw where
 nm : ByteArray
 form : Int
 low : Int
 mid : Int
 high : Int
def noRw : Rw := ⟨⟨#[]⟩, 0, 0, 0, 0⟩
def rwL : List Rw := [⟨⟨#[108, 117, 105]⟩, 85, 55, 0, 0⟩,
 ⟨⟨#[97, 117, 105, 112, 99]⟩, 85, 23, 0, 0⟩,
 ⟨⟨#[106, 97, 108]⟩, 74, 111, 0, 0⟩,
 ⟨⟨#[106, 97, 108, 114]⟩, 73, 103, 0, 0⟩,
 ⟨⟨#[98, 101, 113]⟩, 66, 99, 0, 0⟩,
 ⟨⟨#[98, 110, 101]⟩, 66, 99, 1, 0⟩,
 ⟨⟨#[98, 108, 116]⟩, 66, 99, 4, 0⟩,
 ⟨⟨#[98, 103, 101]⟩, 66, 99, 5, 0⟩,
 ⟨⟨#[98, 108, 116, 117]⟩, 66, 99, 6, 0⟩,
 ⟨⟨#[98, 103, 101, 117]⟩, 66, 99, 7, 0⟩,
 ⟨⟨#[108, 119]⟩, 73, 3, 2, 0⟩,
 ⟨⟨#[115, 119]⟩, 83, 35, 2, 0⟩,
 ⟨⟨#[97, 100, 100, 105]⟩, 73, 19, 0, 0⟩,
 ⟨⟨#[115, 108, 116, 105]⟩, 73, 19, 2, 0⟩,
 ⟨⟨#[115, 108, 116, 105, 117]⟩, 73, 19, 3, 0⟩,
 ⟨⟨#[120, 111, 114, 105]⟩, 73, 19, 4, 0⟩,
 ⟨⟨#[111, 114, 105]⟩, 73, 19, 6, 0⟩,
 ⟨⟨#[97, 110, 100, 105]⟩, 73, 19, 7, 0⟩,
 ⟨⟨#[115, 108, 108, 105]⟩, 72, 19, 1, 0⟩,
 ⟨⟨#[115, 114, 108, 105]⟩, 72, 19, 5, 0⟩,
 ⟨⟨#[115, 114, 97, 105]⟩, 72, 19, 5, 32⟩,
 ⟨⟨#[97, 100, 100]⟩, 82, 51, 0, 0⟩,
 ⟨⟨#[115, 117, 98]⟩, 82, 51, 0, 32⟩,
 ⟨⟨#[115, 108, 108]⟩, 82, 51, 1, 0⟩,
 ⟨⟨#[115, 108, 116]⟩, 82, 51, 2, 0⟩,
 ⟨⟨#[115, 108, 116, 117]⟩, 82, 51, 3, 0⟩,
 ⟨⟨#[120, 111, 114]⟩, 82, 51, 4, 0⟩,
 ⟨⟨#[115, 114, 108]⟩, 82, 51, 5, 0⟩,
 ⟨⟨#[115, 114, 97]⟩, 82, 51, 5, 32⟩,
 ⟨⟨#[111, 114]⟩, 82, 51, 6, 0⟩,
 ⟨⟨#[97, 110, 100]⟩, 82, 51, 7, 0⟩,
 ⟨⟨#[109, 117, 108]⟩, 82, 51, 0, 1⟩,
 ⟨⟨#[109, 117, 108, 104]⟩, 82, 51, 1, 1⟩,
 ⟨⟨#[109, 117, 108, 104, 117]⟩, 82, 51, 3, 1⟩,
 ⟨⟨#[100, 105, 118]⟩, 82, 51, 4, 1⟩,
 ⟨⟨#[100, 105, 118, 117]⟩, 82, 51, 5, 1⟩,
 ⟨⟨#[114, 101, 109]⟩, 82, 51, 6, 1⟩,
 ⟨⟨#[114, 101, 109, 117]⟩, 82, 51, 7, 1⟩,
 ⟨⟨#[102, 101, 110, 99, 101]⟩, 70, 15, 0, 0⟩,
 ⟨⟨#[99, 115, 114, 114, 119]⟩, 67, 115, 1, 0⟩,
 ⟨⟨#[99, 115, 114, 114, 115]⟩, 67, 115, 2, 0⟩,
 ⟨⟨#[99, 115, 114, 114, 99]⟩, 67, 115, 3, 0⟩,
 ⟨⟨#[101, 99, 97, 108, 108]⟩, 90, 115, 0, 0⟩,
 ⟨⟨#[109, 114, 101, 116]⟩, 90, 115, 0, 24⟩,
 ⟨⟨#[119, 102, 105]⟩, 90, 115, 0, 8⟩,
 ⟨⟨#[108, 114, 46, 119]⟩, 76, 47, 2, 8⟩,
 ⟨⟨#[115, 99, 46, 119]⟩, 65, 47, 2, 12⟩,
 ⟨⟨#[97, 109, 111, 115, 119, 97, 112, 46, 119]⟩, 65, 47, 2, 4⟩,
 ⟨⟨#[97, 109, 111, 97, 100, 100, 46, 119]⟩, 65, 47, 2, 0⟩]
def isOp (op : Int) : Bool := decide (1 ≤ op ∧ op ≤ 49)
def rowT (op : Int) : Rw := if 1 ≤ op ∧ op ≤ 49 then rwL.getD (op - 1).toNat noRw else noRw
def rwV (r : Rw) : Value := .agg #[.string r.nm, .int .i32 r.form, .int .i64 r.low, .int .i64 r.mid, .int .i64 r.high]
theorem zgI {op : Int} (h : ¬ (1 ≤ op ∧ op ≤ 49)) : rowT op = noRw := if_neg h
theorem zg0 {op : Int} (h : ¬ (1 ≤ op ∧ op ≤ 49)) : isOp op = false := decide_eq_false h
theorem zgZ {op : Int} (h : 1 ≤ op ∧ op ≤ 49) : isOp op = true := decide_eq_true h
end
section
open Go.RowKit
set_option maxHeartbeats 4000000 in
theorem zmB (op : Int) (w : World) (h : 1 ≤ op ∧ op ≤ 21) :
 Calls Tryz.prog 181 #[.int .i64 op] w fun e w' => e = .returned (.tuple #[rwV (rowT op), .bool true]) ∧ Below w.heap.size w w' := by
 have hc : op = 1 ∨ op = 2 ∨ op = 3 ∨ op = 4 ∨ op = 5 ∨ op = 6 ∨ op = 7 ∨ op = 8 ∨ op = 9 ∨ op = 10 ∨ op = 11 ∨ op = 12 ∨ op = 13 ∨ op = 14 ∨ op = 15 ∨ op = 16 ∨ op = 17 ∨ op = 18 ∨ op = 19 ∨ op = 20 ∨ op = 21 := by omega
 clear h
 rcases hc with rfl | rfl | rfl | rfl | rfl | rfl | rfl | rfl | rfl | rfl | rfl | rfl | rfl | rfl | rfl | rfl | rfl | rfl | rfl | rfl | rfl
 all_goals
  go_enter Tryz.func181, Tryz.ntmps181
  go_wp2_with fail
  refine bodyPost_ret (by simp [results, Tryz.results181, go_sem]; try rfl) rfl ?_
  exact ⟨by kernel_rfl, (by repeat (first | (with_reducible first | exact Below.refl _ _ | refine zaj ?_ ?_ _ | apply zag | refine zae ?_ (by assumption) | apply zak) | omega))⟩
set_option maxHeartbeats 4000000 in
theorem early_no (op : Int) (w : World) (h : op < 1 ∨ 21 < op) :
 Calls Tryz.prog 181 #[.int .i64 op] w fun e w' => e = .returned (.tuple #[rwV noRw, .bool false]) ∧ Below w.heap.size w w' := by
 have q1 : (op == 1) = false := by simp; omega
 have q2 : (op == 2) = false := by simp; omega
 have q3 : (op == 3) = false := by simp; omega
 have q4 : (op == 4) = false := by simp; omega
 have q5 : (op == 5) = false := by simp; omega
 have q6 : (op == 6) = false := by simp; omega
 have q7 : (op == 7) = false := by simp; omega
 have q8 : (op == 8) = false := by simp; omega
 have q9 : (op == 9) = false := by simp; omega
 have q10 : (op == 10) = false := by simp; omega
 have q11 : (op == 11) = false := by simp; omega
 have q12 : (op == 12) = false := by simp; omega
 have q13 : (op == 13) = false := by simp; omega
 have q14 : (op == 14) = false := by simp; omega
 have q15 : (op == 15) = false := by simp; omega
 have q16 : (op == 16) = false := by simp; omega
 have q17 : (op == 17) = false := by simp; omega
 have q18 : (op == 18) = false := by simp; omega
 have q19 : (op == 19) = false := by simp; omega
 have q20 : (op == 20) = false := by simp; omega
 have q21 : (op == 21) = false := by simp; omega
 clear h
 go_enter Tryz.func181, Tryz.ntmps181
 go_wp2_with fail
 refine bodyPost_ret (by simp [results, Tryz.results181, go_sem]; try rfl) rfl ?_
 exact ⟨by kernel_rfl, (by repeat (first | (with_reducible first | exact Below.refl _ _ | refine zaj ?_ ?_ _ | apply zag | refine zae ?_ (by assumption) | apply zak) | omega))⟩
end
section
open Go.RowKit
set_option maxHeartbeats 4000000 in
theorem late_yes (op : Int) (w : World) (h : 22 ≤ op ∧ op ≤ 49) :
 Calls Tryz.prog 182 #[.int .i64 op] w fun e w' => e = .returned (.tuple #[rwV (rowT op), .bool true]) ∧ Below w.heap.size w w' := by
 have hc : op = 22 ∨ op = 23 ∨ op = 24 ∨ op = 25 ∨ op = 26 ∨ op = 27 ∨ op = 28 ∨ op = 29 ∨ op = 30 ∨ op = 31 ∨ op = 32 ∨ op = 33 ∨ op = 34 ∨ op = 35 ∨ op = 36 ∨ op = 37 ∨ op = 38 ∨ op = 39 ∨ op = 40 ∨ op = 41 ∨ op = 42 ∨ op = 43 ∨ op = 44 ∨ op = 45 ∨ op = 46 ∨ op = 47 ∨ op = 48 ∨ op = 49 := by omega
 clear h
 rcases hc with rfl | rfl | rfl | rfl | rfl | rfl | rfl | rfl | rfl | rfl | rfl | rfl | rfl | rfl | rfl | rfl | rfl | rfl | rfl | rfl | rfl | rfl | rfl | rfl | rfl | rfl | rfl | rfl
 all_goals
  go_enter Tryz.func182, Tryz.ntmps182
  go_wp2_with fail
  refine bodyPost_ret (by simp [results, Tryz.results182, go_sem]; try rfl) rfl ?_
  exact ⟨by kernel_rfl, (by repeat (first | (with_reducible first | exact Below.refl _ _ | refine zaj ?_ ?_ _ | apply zag | refine zae ?_ (by assumption) | apply zak) | omega))⟩
set_option maxHeartbeats 4000000 in
theorem late_no (op : Int) (w : World) (h : op < 22 ∨ 49 < op) :
 Calls Tryz.prog 182 #[.int .i64 op] w fun e w' => e = .returned (.tuple #[rwV noRw, .bool false]) ∧ Below w.heap.size w w' := by
 have q22 : (op == 22) = false := by simp; omega
 have q23 : (op == 23) = false := by simp; omega
 have q24 : (op == 24) = false := by simp; omega
 have q25 : (op == 25) = false := by simp; omega
 have q26 : (op == 26) = false := by simp; omega
 have q27 : (op == 27) = false := by simp; omega
 have q28 : (op == 28) = false := by simp; omega
 have q29 : (op == 29) = false := by simp; omega
 have q30 : (op == 30) = false := by simp; omega
 have q31 : (op == 31) = false := by simp; omega
 have q32 : (op == 32) = false := by simp; omega
 have q33 : (op == 33) = false := by simp; omega
 have q34 : (op == 34) = false := by simp; omega
 have q35 : (op == 35) = false := by simp; omega
 have q36 : (op == 36) = false := by simp; omega
 have q37 : (op == 37) = false := by simp; omega
 have q38 : (op == 38) = false := by simp; omega
 have q39 : (op == 39) = false := by simp; omega
 have q40 : (op == 40) = false := by simp; omega
 have q41 : (op == 41) = false := by simp; omega
 have q42 : (op == 42) = false := by simp; omega
 have q43 : (op == 43) = false := by simp; omega
 have q44 : (op == 44) = false := by simp; omega
 have q45 : (op == 45) = false := by simp; omega
 have q46 : (op == 46) = false := by simp; omega
 have q47 : (op == 47) = false := by simp; omega
 have q48 : (op == 48) = false := by simp; omega
 have q49 : (op == 49) = false := by simp; omega
 clear h
 go_enter Tryz.func182, Tryz.ntmps182
 go_wp2_with fail
 refine bodyPost_ret (by simp [results, Tryz.results182, go_sem]; try rfl) rfl ?_
 exact ⟨by kernel_rfl, (by repeat (first | (with_reducible first | exact Below.refl _ _ | refine zaj ?_ ?_ _ | apply zag | refine zae ?_ (by assumption) | apply zak) | omega))⟩
end
section
open Go.RowKit
theorem zmC (op : Int) (w : World) (h : op < 22) :
 Calls Tryz.prog 181 #[.int .i64 op] w fun e w' => e = .returned (.tuple #[rwV (rowT op), .bool (isOp op)]) ∧ Below w.heap.size w w' := by
 by_cases h1 : 1 ≤ op
 · rw [zgZ (by omega)]; exact zmB op w (by omega)
 · rw [zg0 (by omega), zgI (by omega)]; exact early_no op w (by omega)
theorem late_any (op : Int) (w : World) (h : 22 ≤ op) :
 Calls Tryz.prog 182 #[.int .i64 op] w fun e w' => e = .returned (.tuple #[rwV (rowT op), .bool (isOp op)]) ∧ Below w.heap.size w w' := by
 by_cases h1 : op ≤ 49
 · rw [zgZ (by omega)]; exact late_yes op w (by omega)
 · rw [zg0 (by omega), zgI (by omega)]; exact late_no op w (by omega)
set_option maxHeartbeats 1000000 in
theorem zb6 (op : Int) (w : World) :
 Calls Tryz.prog 147 #[.int .i64 op] w fun e w' => e = .returned (.tuple #[rwV (rowT op), .bool (isOp op)]) ∧ Below w.heap.size w w' := by
 by_cases h22 : op < 22
 · go_enter Tryz.func147, Tryz.ntmps147
   go_wp2_with fail
   refine (zmC _ _ h22).mono ?_
   rintro e w1 ⟨rfl, hb1⟩
   obtain ⟨c1, f1⟩ := za8 hb1
   have z1 : w.heap.size < w1.heap.size := by have := hb1.size; simp at this; omega
   unfold rwV
   go_wp2_with fail
   refine bodyPost_ret (v := .tuple #[rwV (rowT op), .bool (isOp op)]) (by simp [results, Tryz.results147, go_sem, rwV, c1]) rfl ⟨rfl, (by repeat (first | (with_reducible first | exact Below.refl _ _ | refine zaj ?_ ?_ _ | apply zag | refine zae ?_ (by assumption) | apply zak) | omega))⟩
 · have h22' : 22 ≤ op := by omega
   go_enter Tryz.func147, Tryz.ntmps147
   go_wp2_with fail
   refine (late_any _ _ h22').mono ?_
   rintro e w1 ⟨rfl, hb1⟩
   obtain ⟨c1, f1⟩ := za8 hb1
   have z1 : w.heap.size < w1.heap.size := by have := hb1.size; simp at this; omega
   unfold rwV
   go_wp2_with fail
   refine bodyPost_ret (v := .tuple #[rwV (rowT op), .bool (isOp op)]) (by simp [results, Tryz.results147, go_sem, rwV, c1]) rfl ⟨rfl, (by repeat (first | (with_reducible first | exact Below.refl _ _ | refine zaj ?_ ?_ _ | apply zag | refine zae ?_ (by assumption) | apply zak) | omega))⟩
structure Sh where
 d : Bool
 a : Bool
 b : Bool
 least : Int
 most : Int
 step : Int
def zaI (f : Int) : Sh :=
 if f = 82 then ⟨true, true, true, 0, 0, 0⟩ else if f = 73 then ⟨true, true, false, -2048, 2047, 0⟩ else if f = 72 then ⟨true, true, false, 0, 31, 0⟩
 else if f = 83 then ⟨false, true, true, -2048, 2047, 0⟩ else if f = 66 then ⟨false, true, true, -4096, 4094, 2⟩ else if f = 85 then ⟨true, false, false, 0, 1048575, 0⟩
 else if f = 74 then ⟨true, false, false, -1048576, 1048574, 2⟩ else if f = 70 then ⟨false, false, false, 0, 255, 0⟩ else if f = 67 then ⟨true, true, false, 0, 4095, 0⟩
 else if f = 76 then ⟨true, true, false, 0, 3, 0⟩ else if f = 65 then ⟨true, true, true, 0, 3, 0⟩ else ⟨false, false, false, 0, 0, 0⟩
def shV (s : Sh) : Value := .agg #[.bool s.d, .bool s.a, .bool s.b, .int .i64 s.least, .int .i64 s.most, .int .i64 s.step]
def isForm (f : Int) : Prop := f = 82 ∨ f = 73 ∨ f = 72 ∨ f = 83 ∨ f = 66 ∨ f = 85 ∨ f = 74 ∨ f = 70 ∨ f = 67 ∨ f = 76 ∨ f = 65
set_option maxHeartbeats 2000000 in
theorem zbF (f : Int) (w : World) :
 Calls Tryz.prog 148 #[.int .i32 f] w fun e w' => e = .returned (shV (zaI f)) ∧ Below w.heap.size w w' := by
 by_cases h : isForm f
 · rcases h with rfl | rfl | rfl | rfl | rfl | rfl | rfl | rfl | rfl | rfl | rfl
   all_goals
    go_enter Tryz.func148, Tryz.ntmps148
    go_wp2_with fail
    refine bodyPost_ret (by simp [results, Tryz.results148, go_sem]; try rfl) rfl ?_
    exact ⟨by kernel_rfl, (by repeat (first | (with_reducible first | exact Below.refl _ _ | refine zaj ?_ ?_ _ | apply zag | refine zae ?_ (by assumption) | apply zak) | omega))⟩
 · simp only [isForm, not_or] at h
   obtain ⟨h1, h2, h3, h4, h5, h6, h7, h8, h9, h10, h11⟩ := h
   have e : zaI f = ⟨false, false, false, 0, 0, 0⟩ := by simp [zaI, h1, h2, h3, h4, h5, h6, h7, h8, h9, h10, h11]
   rw [e]; clear e
   have q1 := beq_eq_false_iff_ne.2 h1; have q2 := beq_eq_false_iff_ne.2 h2; have q3 := beq_eq_false_iff_ne.2 h3; have q4 := beq_eq_false_iff_ne.2 h4; have q5 := beq_eq_false_iff_ne.2 h5; have q6 := beq_eq_false_iff_ne.2 h6; have q7 := beq_eq_false_iff_ne.2 h7; have q8 := beq_eq_false_iff_ne.2 h8; have q9 := beq_eq_false_iff_ne.2 h9; have q10 := beq_eq_false_iff_ne.2 h10; have q11 := beq_eq_false_iff_ne.2 h11
   clear h1 h2 h3 h4 h5 h6 h7 h8 h9 h10 h11
   go_enter Tryz.func148, Tryz.ntmps148
   go_wp2_with fail
   refine bodyPost_ret (by simp [results, Tryz.results148, go_sem]; try rfl) rfl ?_
   exact ⟨by kernel_rfl, (by repeat (first | (with_reducible first | exact Below.refl _ _ | refine zaj ?_ ?_ _ | apply zag | refine zae ?_ (by assumption) | apply zak) | omega))⟩
def mayB (n : Int) (is : Bool) : Bool := decide (0 ≤ n) && (decide (n < 32) && (is || (n == 0)))
theorem zco {a b : Bool} (h : a = b) : Ending.returned (.bool a) = .returned (.bool b) := by rw [h]
theorem may_any (n : Int) (is : Bool) (w : World) :
 Calls Tryz.prog 152 #[.int .i64 n, .bool is] w fun e w' => e = .returned (.bool (mayB n is)) ∧ w = w' := by
 cases h0 : decide (0 ≤ n) <;> cases h1 : decide (n < 32) <;> cases is <;> cases h2 : (n == 0)
 all_goals
  go_enter Tryz.func152, Tryz.ntmps152
  go_wp2_with fail
  go_ret
  exact ⟨zco (by unfold mayB; rw [h0, h1, h2]; rfl), rfl⟩
end
section
open Go.RowKit
structure Pc where
 n : Int
 fr : Int
 mn : Int
 at' : Int
def pcC (p : Pc) : List Value := [.int .i64 p.n, .int .i64 p.fr, .int .i64 p.mn, .int .i64 p.at']
def okP (p : Pc) : Prop := 0 ≤ p.fr ∧ p.fr < 32 ∧ 0 ≤ p.mn ∧ p.mn < 32 ∧ 0 ≤ p.at' ∧ p.at' < 32
def zeg (p : Pc) : Nat := ((p.n % 4294967296).toNat / 2 ^ p.fr.toNat % 2 ^ p.mn.toNat) * 2 ^ p.at'.toNat % 4294967296
def zbn (y : Nat) (l : List Pc) : Nat := l.foldl (fun y p => y ||| zeg p) y
def layN (l : List Pc) : Nat := zbn 0 l
theorem piece_lt (p : Pc) : zeg p < 4294967296 := Nat.mod_lt _ (by decide)
theorem or_lt {x y : Nat} (hx : x < 4294967296) (hy : y < 4294967296) : x ||| y < 4294967296 := Nat.or_lt_two_pow (n := 32) hx hy
theorem zj8 (l : List Pc) : ∀ y, y < 4294967296 → zbn y l < 4294967296 := by
 induction l with
 | nil => intro y h; exact h
 | cons p l ih => intro y h; exact ih _ (or_lt h (piece_lt p))
theorem zci (l : List Pc) : layN l < 4294967296 := zj8 l 0 (by decide)
theorem zlY (l : List Pc) (k : Nat) (h : k < l.length) : layN (l.take (k + 1)) = layN (l.take k) ||| zeg l[k] := by
 unfold layN zbn; rw [List.take_succ_eq_append_getElem h, List.foldl_append]; rfl
theorem or_u32 (x y : Nat) (hx : x < 4294967296) (hy : y < 4294967296) : bits .or .u32 (x : Int) (y : Int) = ((x ||| y : Nat) : Int) := by
 have h := or_lt hx hy
 have e : bits .or .u32 (x : Int) (y : Int) = IntKind.u32.wrap (((BitVec.ofInt 32 (x : Int)) ||| (BitVec.ofInt 32 (y : Int))).toNat : Int) := rfl
 rw [e, BitVec.ofInt_natCast, BitVec.ofInt_natCast, BitVec.toNat_or, BitVec.toNat_ofNat, BitVec.toNat_ofNat, Nat.mod_eq_of_lt hx, Nat.mod_eq_of_lt hy, IntKind.wrap_u32]
 omega
theorem and_u32 (x y : Nat) (hx : x < 4294967296) (hy : y < 4294967296) : bits .and .u32 (x : Int) (y : Int) = ((x &&& y : Nat) : Int) := by
 have h : x &&& y < 4294967296 := Nat.lt_of_le_of_lt Nat.and_le_left hx
 have e : bits .and .u32 (x : Int) (y : Int) = IntKind.u32.wrap (((BitVec.ofInt 32 (x : Int)) &&& (BitVec.ofInt 32 (y : Int))).toNat : Int) := rfl
 rw [e, BitVec.ofInt_natCast, BitVec.ofInt_natCast, BitVec.toNat_and, BitVec.toNat_ofNat, BitVec.toNat_ofNat, Nat.mod_eq_of_lt hx, Nat.mod_eq_of_lt hy, IntKind.wrap_u32]
 omega
theorem and_i64 (x y : Nat) (hx : x < 9223372036854775808) (hy : y < 9223372036854775808) : bits .and .i64 (x : Int) (y : Int) = ((x &&& y : Nat) : Int) := by
 have h : x &&& y < 9223372036854775808 := Nat.lt_of_le_of_lt Nat.and_le_left hx
 have e : bits .and .i64 (x : Int) (y : Int) = IntKind.i64.wrap (((BitVec.ofInt 64 (x : Int)) &&& (BitVec.ofInt 64 (y : Int))).toNat : Int) := rfl
 rw [e, BitVec.ofInt_natCast, BitVec.ofInt_natCast, BitVec.toNat_and, BitVec.toNat_ofNat, BitVec.toNat_ofNat, Nat.mod_eq_of_lt (by omega), Nat.mod_eq_of_lt (by omega)]
 exact IntWalk.i64_in _ (by omega)
theorem or_i64 (x y : Nat) (hx : x < 4294967296) (hy : y < 4294967296) : bits .or .i64 (x : Int) (y : Int) = ((x ||| y : Nat) : Int) := by
 have h := or_lt hx hy
 have e : bits .or .i64 (x : Int) (y : Int) = IntKind.i64.wrap (((BitVec.ofInt 64 (x : Int)) ||| (BitVec.ofInt 64 (y : Int))).toNat : Int) := rfl
 rw [e, BitVec.ofInt_natCast, BitVec.ofInt_natCast, BitVec.toNat_or, BitVec.toNat_ofNat, BitVec.toNat_ofNat, Nat.mod_eq_of_lt (by omega), Nat.mod_eq_of_lt (by omega)]
 exact IntWalk.i64_in _ (by omega)
theorem zfo (m : Nat) (h : m < 32) : (2 : Nat) ^ m ≤ 2147483648 := Nat.pow_le_pow_right (by decide) (by omega : m ≤ 31)
theorem zdR (m : Nat) : (2 : Int) ^ m = ((2 ^ m : Nat) : Int) := by rw [Int.natCast_pow]; rfl
def zac (word : Nat) (fr mn : Nat) : Nat := word / 2 ^ fr % 2 ^ mn
theorem zjo (word : Nat) (fr mn : Nat) (hm : mn < 32) (hw : word < 4294967296) :
 bits .and .i64 ((word : Int) / 2 ^ fr) (wrap64 (wrap64 (2 ^ mn) - 1)) = ((zac word fr mn : Nat) : Int) := by
 have h1 := zfo mn hm
 have h2 : 0 < 2 ^ mn := Nat.two_pow_pos mn
 rw [zdR, zdR, ← Int.natCast_ediv]
 have e1 : wrap64 ((2 ^ mn : Nat) : Int) = ((2 ^ mn : Nat) : Int) := by unfold wrap64; omega
 have e2 : wrap64 (((2 ^ mn : Nat) : Int) - 1) = ((2 ^ mn - 1 : Nat) : Int) := by unfold wrap64; omega
 rw [e1, e2, and_i64 _ _ (Nat.lt_of_le_of_lt (Nat.div_le_self _ _) (by omega)) (by omega), Nat.and_two_pow_sub_one_eq_mod]
 rfl
theorem zb9 (word fr mn : Nat) : zac word fr mn < 2 ^ mn := Nat.mod_lt _ (Nat.two_pow_pos mn)
theorem piece_eq (p : Pc) (h : okP p) (y : Nat) (hy : y < 4294967296) :
 bits .or .u32 (y : Int) (bits .and .u32 (p.n % 4294967296 / 2 ^ p.fr.toNat) ((2 ^ p.mn.toNat - 1) % 4294967296) * 2 ^ p.at'.toNat % 4294967296) = ((y ||| zeg p : Nat) : Int) := by
 obtain ⟨a, b, c, d, e, f⟩ := h
 have h1 := zfo p.mn.toNat (by omega)
 have h2 : 0 < 2 ^ p.mn.toNat := Nat.two_pow_pos _
 have h3 : (p.n % 4294967296).toNat < 4294967296 := by omega
 have e0 : p.n % 4294967296 = (((p.n % 4294967296).toNat : Nat) : Int) := by omega
 rw [e0, zdR, zdR, zdR, ← Int.natCast_ediv]
 have e2 : (((2 ^ p.mn.toNat : Nat) : Int) - 1) % 4294967296 = ((2 ^ p.mn.toNat - 1 : Nat) : Int) := by omega
 rw [e2, and_u32 _ _ (Nat.lt_of_le_of_lt (Nat.div_le_self _ _) h3) (by omega), Nat.and_two_pow_sub_one_eq_mod, ← Int.natCast_mul]
 have e4 : ∀ z : Nat, ((z : Int) % 4294967296) = ((z % 4294967296 : Nat) : Int) := fun z => by omega
 rw [e4, or_u32 y _ hy (Nat.mod_lt _ (by decide))]
 rfl
theorem zda {l : List Pc} {i : Nat} (h : i < l.length) (j : Nat) (hj : j < 4) : (l.flatMap pcC)[i * 4 + j]? = (pcC l[i])[j]? := by
 induction l generalizing i with
 | nil => simp at h
 |
  cons p l ih =>
  cases i with
  | zero => simp only [List.flatMap_cons, List.getElem_cons_zero]; rw [List.getElem?_append_left (by simp [pcC]; omega)]; simp
  |
   succ i =>
   rw [List.flatMap_cons, List.getElem?_append_right (by simp [pcC]; omega)]
   rw [show (i + 1) * 4 + j - (pcC p).length = i * 4 + j by simp [pcC]; omega]
   exact ih (by simpa using h)
end
section
open Go.RowKit
structure Ins where
 op : Int
 d : Int
 a : Int
 b : Int
 n : Int
def insV (x : Ins) : Value := .agg #[.int .i64 x.op, .int .i64 x.d, .int .i64 x.a, .int .i64 x.b, .int .i64 x.n]
def shX (x : Ins) : Sh := zaI (rowT x.op).form
def modB (n s : Int) : Bool := if s = 2 then n.tmod 2 == 0 else true
def zaS (x : Ins) : Bool :=
 isOp x.op && (mayB x.d (shX x).d && (mayB x.a (shX x).a && (mayB x.b (shX x).b && (decide ((shX x).least ≤ x.n) && (decide (x.n ≤ (shX x).most) && modB x.n (shX x).step)))))
theorem step_two (f : Int) : (zaI f).step = 0 ∨ (zaI f).step = 2 := by
 unfold zaI
 repeat' split
 all_goals simp
theorem zbm (n : Int) (is r : Bool) (w : World) (hr : mayB n is = r) :
 Calls Tryz.prog 152 #[.int .i64 n, .bool is] w fun e w' => e = .returned (.bool r) ∧ w = w' := by subst hr; exact may_any n is w
set_option maxHeartbeats 4000000 in
theorem zhu (x : Ins) (w : World) :
 Calls Tryz.prog 109 #[insV x] w fun e w' => e = .returned (.bool (zaS x)) ∧ Below w.heap.size w w' := by
 obtain ⟨op, d, a, b, n⟩ := x
 have hst := step_two (rowT op).form
 have HE : Hid (zaS ⟨op, d, a, b, n⟩ = (isOp op && (mayB d (zaI (rowT op).form).d && (mayB a (zaI (rowT op).form).a && (mayB b (zaI (rowT op).form).b && (decide ((zaI (rowT op).form).least ≤ n) && (decide (n ≤ (zaI (rowT op).form).most) && modB n (zaI (rowT op).form).step))))))) := rfl
 generalize hsh : zaI (rowT op).form = s at *
 obtain ⟨sd, sa, sb, sl, sm, ss⟩ := s
 have HS := zhd hsh; clear hsh
 simp only at hst HE
 unfold insV
 cases h0 : (isOp op)
 case false =>
  have H0 := zhd h0
  have H1 : Hid (mayB d sd = mayB d sd) := rfl
  have H2 : Hid (mayB a sa = mayB a sa) := rfl
  have H3 : Hid (mayB b sb = mayB b sb) := rfl
  go_enter Tryz.func109, Tryz.ntmps109
  go_wp2_with fail
  refine (zb6 op _).mono ?_
  rintro e w1 ⟨rfl, hb1⟩
  obtain ⟨c1, f1⟩ := za8 hb1
  have z1 : w.heap.size < w1.heap.size := by have := hb1.size; simp at this; omega
  unfold rwV
  go_wp2_with fail
  refine (zbF _ _).mono ?_
  rw [HS.out]
  rintro e w2 ⟨rfl, hb2⟩
  obtain ⟨c2, f2⟩ := za8 hb2
  have z2 : w1.heap.size < w2.heap.size := by have := hb2.size; simp at this; omega
  have z3 : w.heap.size < w2.heap.size := by omega
  have z4 : w.heap.size ≤ w1.heap.size := by omega
  have z5 : w.heap.size ≤ w2.heap.size := by omega
  have z6 : w1.heap.size ≤ w2.heap.size := by omega
  unfold shV
  go_wp2_with (go_at_call 152; (first | ((with_reducible refine (zbm d sd _ _ H1.out).mono ?_); rintro e w' ⟨rfl, rfl⟩) | ((with_reducible refine (zbm a sa _ _ H2.out).mono ?_); rintro e w' ⟨rfl, rfl⟩) | ((with_reducible refine (zbm b sb _ _ H3.out).mono ?_); rintro e w' ⟨rfl, rfl⟩)))
  go_ret
  exact ⟨zco (by rw [HE.out, H0.out]; rfl), (by repeat (first | (with_reducible first | exact Below.refl _ _ | refine zaj ?_ ?_ _ | apply zag | refine zae ?_ (by assumption) | apply zak) | omega))⟩
 case true =>
  cases h1 : (mayB d sd)
  case false =>
   have H0 := zhd h0
   have H1 := zhd h1
   clear h1
   have H2 : Hid (mayB a sa = mayB a sa) := rfl
   have H3 : Hid (mayB b sb = mayB b sb) := rfl
   go_enter Tryz.func109, Tryz.ntmps109
   go_wp2_with fail
   refine (zb6 op _).mono ?_
   rintro e w1 ⟨rfl, hb1⟩
   obtain ⟨c1, f1⟩ := za8 hb1
   have z1 : w.heap.size < w1.heap.size := by have := hb1.size; simp at this; omega
   unfold rwV
   go_wp2_with fail
   refine (zbF _ _).mono ?_
   rw [HS.out]
   rintro e w2 ⟨rfl, hb2⟩
   obtain ⟨c2, f2⟩ := za8 hb2
   have z2 : w1.heap.size < w2.heap.size := by have := hb2.size; simp at this; omega
   have z3 : w.heap.size < w2.heap.size := by omega
   have z4 : w.heap.size ≤ w1.heap.size := by omega
   have z5 : w.heap.size ≤ w2.heap.size := by omega
   have z6 : w1.heap.size ≤ w2.heap.size := by omega
   unfold shV
   go_wp2_with (go_at_call 152; (first | ((with_reducible refine (zbm d sd _ _ H1.out).mono ?_); rintro e w' ⟨rfl, rfl⟩) | ((with_reducible refine (zbm a sa _ _ H2.out).mono ?_); rintro e w' ⟨rfl, rfl⟩) | ((with_reducible refine (zbm b sb _ _ H3.out).mono ?_); rintro e w' ⟨rfl, rfl⟩)))
   go_ret
   exact ⟨zco (by rw [HE.out, H0.out, H1.out]; rfl), (by repeat (first | (with_reducible first | exact Below.refl _ _ | refine zaj ?_ ?_ _ | apply zag | refine zae ?_ (by assumption) | apply zak) | omega))⟩
  case true =>
   cases h2 : (mayB a sa)
   case false =>
    have H0 := zhd h0
    have H1 := zhd h1
    have H2 := zhd h2
    clear h1
    clear h2
    have H3 : Hid (mayB b sb = mayB b sb) := rfl
    go_enter Tryz.func109, Tryz.ntmps109
    go_wp2_with fail
    refine (zb6 op _).mono ?_
    rintro e w1 ⟨rfl, hb1⟩
    obtain ⟨c1, f1⟩ := za8 hb1
    have z1 : w.heap.size < w1.heap.size := by have := hb1.size; simp at this; omega
    unfold rwV
    go_wp2_with fail
    refine (zbF _ _).mono ?_
    rw [HS.out]
    rintro e w2 ⟨rfl, hb2⟩
    obtain ⟨c2, f2⟩ := za8 hb2
    have z2 : w1.heap.size < w2.heap.size := by have := hb2.size; simp at this; omega
    have z3 : w.heap.size < w2.heap.size := by omega
    have z4 : w.heap.size ≤ w1.heap.size := by omega
    have z5 : w.heap.size ≤ w2.heap.size := by omega
    have z6 : w1.heap.size ≤ w2.heap.size := by omega
    unfold shV
    go_wp2_with (go_at_call 152; (first | ((with_reducible refine (zbm d sd _ _ H1.out).mono ?_); rintro e w' ⟨rfl, rfl⟩) | ((with_reducible refine (zbm a sa _ _ H2.out).mono ?_); rintro e w' ⟨rfl, rfl⟩) | ((with_reducible refine (zbm b sb _ _ H3.out).mono ?_); rintro e w' ⟨rfl, rfl⟩)))
    go_ret
    exact ⟨zco (by rw [HE.out, H0.out, H1.out, H2.out]; rfl), (by repeat (first | (with_reducible first | exact Below.refl _ _ | refine zaj ?_ ?_ _ | apply zag | refine zae ?_ (by assumption) | apply zak) | omega))⟩
   case true =>
    cases h3 : (mayB b sb)
    case false =>
     have H0 := zhd h0
     have H1 := zhd h1
     have H2 := zhd h2
     have H3 := zhd h3
     clear h1
     clear h2
     clear h3
     go_enter Tryz.func109, Tryz.ntmps109
     go_wp2_with fail
     refine (zb6 op _).mono ?_
     rintro e w1 ⟨rfl, hb1⟩
     obtain ⟨c1, f1⟩ := za8 hb1
     have z1 : w.heap.size < w1.heap.size := by have := hb1.size; simp at this; omega
     unfold rwV
     go_wp2_with fail
     refine (zbF _ _).mono ?_
     rw [HS.out]
     rintro e w2 ⟨rfl, hb2⟩
     obtain ⟨c2, f2⟩ := za8 hb2
     have z2 : w1.heap.size < w2.heap.size := by have := hb2.size; simp at this; omega
     have z3 : w.heap.size < w2.heap.size := by omega
     have z4 : w.heap.size ≤ w1.heap.size := by omega
     have z5 : w.heap.size ≤ w2.heap.size := by omega
     have z6 : w1.heap.size ≤ w2.heap.size := by omega
     unfold shV
     go_wp2_with (go_at_call 152; (first | ((with_reducible refine (zbm d sd _ _ H1.out).mono ?_); rintro e w' ⟨rfl, rfl⟩) | ((with_reducible refine (zbm a sa _ _ H2.out).mono ?_); rintro e w' ⟨rfl, rfl⟩) | ((with_reducible refine (zbm b sb _ _ H3.out).mono ?_); rintro e w' ⟨rfl, rfl⟩)))
     go_ret
     exact ⟨zco (by rw [HE.out, H0.out, H1.out, H2.out, H3.out]; rfl), (by repeat (first | (with_reducible first | exact Below.refl _ _ | refine zaj ?_ ?_ _ | apply zag | refine zae ?_ (by assumption) | apply zak) | omega))⟩
    case true =>
     cases h4 : (decide (sl ≤ n))
     case false =>
      have H0 := zhd h0
      have H1 := zhd h1
      have H2 := zhd h2
      have H3 := zhd h3
      have H4 := zhd h4
      clear h1
      clear h2
      clear h3
      go_enter Tryz.func109, Tryz.ntmps109
      go_wp2_with fail
      refine (zb6 op _).mono ?_
      rintro e w1 ⟨rfl, hb1⟩
      obtain ⟨c1, f1⟩ := za8 hb1
      have z1 : w.heap.size < w1.heap.size := by have := hb1.size; simp at this; omega
      unfold rwV
      go_wp2_with fail
      refine (zbF _ _).mono ?_
      rw [HS.out]
      rintro e w2 ⟨rfl, hb2⟩
      obtain ⟨c2, f2⟩ := za8 hb2
      have z2 : w1.heap.size < w2.heap.size := by have := hb2.size; simp at this; omega
      have z3 : w.heap.size < w2.heap.size := by omega
      have z4 : w.heap.size ≤ w1.heap.size := by omega
      have z5 : w.heap.size ≤ w2.heap.size := by omega
      have z6 : w1.heap.size ≤ w2.heap.size := by omega
      unfold shV
      go_wp2_with (go_at_call 152; (first | ((with_reducible refine (zbm d sd _ _ H1.out).mono ?_); rintro e w' ⟨rfl, rfl⟩) | ((with_reducible refine (zbm a sa _ _ H2.out).mono ?_); rintro e w' ⟨rfl, rfl⟩) | ((with_reducible refine (zbm b sb _ _ H3.out).mono ?_); rintro e w' ⟨rfl, rfl⟩)))
      go_ret
      exact ⟨zco (by rw [HE.out, H0.out, H1.out, H2.out, H3.out, H4.out]; rfl), (by repeat (first | (with_reducible first | exact Below.refl _ _ | refine zaj ?_ ?_ _ | apply zag | refine zae ?_ (by assumption) | apply zak) | omega))⟩
     case true =>
      cases h5 : (decide (n ≤ sm))
      case false =>
       have H0 := zhd h0
       have H1 := zhd h1
       have H2 := zhd h2
       have H3 := zhd h3
       have H4 := zhd h4
       have H5 := zhd h5
       clear h1
       clear h2
       clear h3
       go_enter Tryz.func109, Tryz.ntmps109
       go_wp2_with fail
       refine (zb6 op _).mono ?_
       rintro e w1 ⟨rfl, hb1⟩
       obtain ⟨c1, f1⟩ := za8 hb1
       have z1 : w.heap.size < w1.heap.size := by have := hb1.size; simp at this; omega
       unfold rwV
       go_wp2_with fail
       refine (zbF _ _).mono ?_
       rw [HS.out]
       rintro e w2 ⟨rfl, hb2⟩
       obtain ⟨c2, f2⟩ := za8 hb2
       have z2 : w1.heap.size < w2.heap.size := by have := hb2.size; simp at this; omega
       have z3 : w.heap.size < w2.heap.size := by omega
       have z4 : w.heap.size ≤ w1.heap.size := by omega
       have z5 : w.heap.size ≤ w2.heap.size := by omega
       have z6 : w1.heap.size ≤ w2.heap.size := by omega
       unfold shV
       go_wp2_with (go_at_call 152; (first | ((with_reducible refine (zbm d sd _ _ H1.out).mono ?_); rintro e w' ⟨rfl, rfl⟩) | ((with_reducible refine (zbm a sa _ _ H2.out).mono ?_); rintro e w' ⟨rfl, rfl⟩) | ((with_reducible refine (zbm b sb _ _ H3.out).mono ?_); rintro e w' ⟨rfl, rfl⟩)))
       go_ret
       exact ⟨zco (by rw [HE.out, H0.out, H1.out, H2.out, H3.out, H4.out, H5.out]; rfl), (by repeat (first | (with_reducible first | exact Below.refl _ _ | refine zaj ?_ ?_ _ | apply zag | refine zae ?_ (by assumption) | apply zak) | omega))⟩
      case true =>
       rcases hst with rfl | rfl
       · have H6 : Hid (modB n 0 = true) := rfl
         have H0 := zhd h0
         have H1 := zhd h1
         have H2 := zhd h2
         have H3 := zhd h3
         have H4 := zhd h4
         have H5 := zhd h5
         clear h1
         clear h2
         clear h3
         go_enter Tryz.func109, Tryz.ntmps109
         go_wp2_with fail
         refine (zb6 op _).mono ?_
         rintro e w1 ⟨rfl, hb1⟩
         obtain ⟨c1, f1⟩ := za8 hb1
         have z1 : w.heap.size < w1.heap.size := by have := hb1.size; simp at this; omega
         unfold rwV
         go_wp2_with fail
         refine (zbF _ _).mono ?_
         rw [HS.out]
         rintro e w2 ⟨rfl, hb2⟩
         obtain ⟨c2, f2⟩ := za8 hb2
         have z2 : w1.heap.size < w2.heap.size := by have := hb2.size; simp at this; omega
         have z3 : w.heap.size < w2.heap.size := by omega
         have z4 : w.heap.size ≤ w1.heap.size := by omega
         have z5 : w.heap.size ≤ w2.heap.size := by omega
         have z6 : w1.heap.size ≤ w2.heap.size := by omega
         unfold shV
         go_wp2_with (go_at_call 152; (first | ((with_reducible refine (zbm d sd _ _ H1.out).mono ?_); rintro e w' ⟨rfl, rfl⟩) | ((with_reducible refine (zbm a sa _ _ H2.out).mono ?_); rintro e w' ⟨rfl, rfl⟩) | ((with_reducible refine (zbm b sb _ _ H3.out).mono ?_); rintro e w' ⟨rfl, rfl⟩)))
         go_ret
         exact ⟨zco (by rw [HE.out, H0.out, H1.out, H2.out, H3.out, H4.out, H5.out, H6.out]; rfl), (by repeat (first | (with_reducible first | exact Below.refl _ _ | refine zaj ?_ ?_ _ | apply zag | refine zae ?_ (by assumption) | apply zak) | omega))⟩
       · cases h6 : (n.tmod 2 == 0)
         case false =>
          have H6 : Hid (modB n 2 = false) := by unfold modB; rw [if_pos rfl]; exact h6
          have H0 := zhd h0
          have H1 := zhd h1
          have H2 := zhd h2
          have H3 := zhd h3
          have H4 := zhd h4
          have H5 := zhd h5
          clear h1
          clear h2
          clear h3
          go_enter Tryz.func109, Tryz.ntmps109
          go_wp2_with fail
          refine (zb6 op _).mono ?_
          rintro e w1 ⟨rfl, hb1⟩
          obtain ⟨c1, f1⟩ := za8 hb1
          have z1 : w.heap.size < w1.heap.size := by have := hb1.size; simp at this; omega
          unfold rwV
          go_wp2_with fail
          refine (zbF _ _).mono ?_
          rw [HS.out]
          rintro e w2 ⟨rfl, hb2⟩
          obtain ⟨c2, f2⟩ := za8 hb2
          have z2 : w1.heap.size < w2.heap.size := by have := hb2.size; simp at this; omega
          have z3 : w.heap.size < w2.heap.size := by omega
          have z4 : w.heap.size ≤ w1.heap.size := by omega
          have z5 : w.heap.size ≤ w2.heap.size := by omega
          have z6 : w1.heap.size ≤ w2.heap.size := by omega
          unfold shV
          go_wp2_with (go_at_call 152; (first | ((with_reducible refine (zbm d sd _ _ H1.out).mono ?_); rintro e w' ⟨rfl, rfl⟩) | ((with_reducible refine (zbm a sa _ _ H2.out).mono ?_); rintro e w' ⟨rfl, rfl⟩) | ((with_reducible refine (zbm b sb _ _ H3.out).mono ?_); rintro e w' ⟨rfl, rfl⟩)))
          go_ret
          exact ⟨zco (by rw [HE.out, H0.out, H1.out, H2.out, H3.out, H4.out, H5.out, H6.out]; rfl), (by repeat (first | (with_reducible first | exact Below.refl _ _ | refine zaj ?_ ?_ _ | apply zag | refine zae ?_ (by assumption) | apply zak) | omega))⟩
         case true =>
          have H6 : Hid (modB n 2 = true) := by unfold modB; rw [if_pos rfl]; exact h6
          have H0 := zhd h0
          have H1 := zhd h1
          have H2 := zhd h2
          have H3 := zhd h3
          have H4 := zhd h4
          have H5 := zhd h5
          clear h1
          clear h2
          clear h3
          go_enter Tryz.func109, Tryz.ntmps109
          go_wp2_with fail
          refine (zb6 op _).mono ?_
          rintro e w1 ⟨rfl, hb1⟩
          obtain ⟨c1, f1⟩ := za8 hb1
          have z1 : w.heap.size < w1.heap.size := by have := hb1.size; simp at this; omega
          unfold rwV
          go_wp2_with fail
          refine (zbF _ _).mono ?_
          rw [HS.out]
          rintro e w2 ⟨rfl, hb2⟩
          obtain ⟨c2, f2⟩ := za8 hb2
          have z2 : w1.heap.size < w2.heap.size := by have := hb2.size; simp at this; omega
          have z3 : w.heap.size < w2.heap.size := by omega
          have z4 : w.heap.size ≤ w1.heap.size := by omega
          have z5 : w.heap.size ≤ w2.heap.size := by omega
          have z6 : w1.heap.size ≤ w2.heap.size := by omega
          unfold shV
          go_wp2_with (go_at_call 152; (first | ((with_reducible refine (zbm d sd _ _ H1.out).mono ?_); rintro e w' ⟨rfl, rfl⟩) | ((with_reducible refine (zbm a sa _ _ H2.out).mono ?_); rintro e w' ⟨rfl, rfl⟩) | ((with_reducible refine (zbm b sb _ _ H3.out).mono ?_); rintro e w' ⟨rfl, rfl⟩)))
          go_ret
          exact ⟨zco (by rw [HE.out, H0.out, H1.out, H2.out, H3.out, H4.out, H5.out, H6.out]; rfl), (by repeat (first | (with_reducible first | exact Below.refl _ _ | refine zaj ?_ ?_ _ | apply zag | refine zae ?_ (by assumption) | apply zak) | omega))⟩
end
end Go.Proofs.YtdobddiibgfeaaaGreat
