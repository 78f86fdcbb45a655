/-
  What the walks of this statement lean on (Pures, Ref2Row, Instr, Fit02): shown.
-/
import Derived.WalkKit
import Derived.Test.YtdobddiibgfeaaaGreatZc
import Derived.Test.YtdobddiibgfeaaaGreatZa
import Derived.Test.YtdobddiibgfeaaaGreatRows
import Derived.Deep.DeepCutAuto
import Derived.WalkSpells
import Derived.WalkLawsBesides
set_option linter.unusedVariables false
set_option linter.unusedSimpArgs false
namespace Go.Proofs.YtdobddiibgfeaaaGreat
section
open Go.RowKit
def zeZ {α : Type} (P : Program) : Sem α → Option α
 | .pure a => some a
 | .program k => zeZ P (k P)
 | _ => none
theorem zgo {α : Type} {P : Program} {e : Sem α} {x : α} (w : World) (h : zeZ P e = some x) : e.run P w = .ok x w := by
 induction e with
 | pure a => simp only [zeZ, Option.some.injEq] at h; subst h; rfl
 | program k ih => simp only [zeZ] at h; exact ih P h
 | _ => simp [zeZ] at h
def newOf {α : Type} (P : Program) : Sem α → Option (Obj × (Nat → Option α))
 | .new o k => some (o, fun r => zeZ P (k r))
 | .program k => newOf P (k P)
 | _ => none
def zfB (P : Program) : List Oper → Act → Option Act
 | [], a => some a
 |
  o :: l, a => match o.guard, zeZ P (execOp a.eval o) with
  | none, some (.value v) => zfB P l (a.put o.dst v)
  | _, _ => none
theorem zeX {P : Program} {ops : Array Oper} {Q : Exit → Act → World → Prop} {w : World} (n : Nat) : ∀ (l : List Oper) (a a' : Act), zfB P (l.take n) a = some a' → wpList P ops Q (l.drop n) a' w → wpList P ops Q l a w := by
 induction n with
 | zero => intro l a a' h1 h2; simp only [List.take_zero, zfB, Option.some.injEq] at h1; subst h1; simpa using h2
 |
  succ n ih =>
  intro l a a' h1 h2
  cases l with
  | nil => simp only [List.take_nil, zfB, Option.some.injEq] at h1; subst h1; simpa using h2
  |
   cons o l =>
   simp only [List.take_succ_cons, zfB] at h1
   split at h1
   · rename_i v hg hv
     refine wpList_plain hg fun K hK => ?_
     unfold Oper.wp
     rw [zgo w hv]
     exact hK _ _ (ih l _ a' h1 (by simpa using h2))
   · cases h1
def zj0 {α : Type} (P : Program) (r : Nat) : Sem α → Option (Obj × α)
 | .new o k => (zeZ P (k r)).map fun x => (o, x)
 | .program k => zj0 P r (k P)
 | _ => none
theorem zlK {α : Type} {P : Program} {e : Sem α} {o : Obj} {x : α} (w : World) (h : zj0 P w.heap.size e = some (o, x)) : e.run P w = .ok x (w.alloc o) := by
 induction e with
 |
  new o' k =>
  simp only [zj0, Option.map_eq_some_iff, Prod.mk.injEq] at h
  obtain ⟨y, h1, rfl, rfl⟩ := h
  exact zgo _ h1
 | program k ih => simp only [zj0] at h; exact ih P h
 | _ => simp [zj0] at h
theorem zhk {P : Program} {ops : Array Oper} {Q : Exit → Act → World → Prop} {w : World} {o : Oper} {rest : List Oper} {a : Act} (ob : Obj) (v : Value) (hg : o.guard = none)
 (h : zj0 P w.heap.size (execOp a.eval o) = some (ob, .value v)) (hn : wpList P ops Q rest (a.put o.dst v) (w.alloc ob)) : wpList P ops Q (o :: rest) a w := by
 refine wpList_plain hg fun K hK => ?_
 unfold Oper.wp
 rw [zlK w h]
 exact hK _ _ hn
end
section
open Go.RowKit
def rfV (r : Rw) : Value := .agg #[.string r.nm, .int .u8 r.form, .int .i64 r.low, .int .i64 r.mid, .int .i64 r.high]
def rfC (r : Rw) : List Value := [.string r.nm, .int .u8 r.form, .int .i64 r.low, .int .i64 r.mid, .int .i64 r.high]
def rfAg (k : Nat) : Value := rfV (rwL.getD k noRw)
def rfArr : Array Value := (rwL.flatMap rfC).toArray
theorem flat5 (l : List Rw) : ∀ (i : Nat) (h : i < l.length) (j : Nat), j < 5 → (l.flatMap rfC)[i * 5 + j]? = (rfC l[i])[j]? := by
 induction l with
 | nil => intro i h; simp at h
 |
  cons p l ih =>
  intro i h j hj
  cases i with
  | zero => simp only [List.flatMap_cons, List.getElem_cons_zero]; rw [List.getElem?_append_left (by simp [rfC]; omega)]; simp
  |
   succ i =>
   rw [List.flatMap_cons, List.getElem?_append_right (by simp [rfC]; omega)]
   rw [show (i + 1) * 5 + j - (rfC p).length = i * 5 + j by simp [rfC]; omega]
   exact ih i (by simpa using h) j hj
theorem zdN (k : Nat) (h : k < 49) (j : Nat) (hj : j < 5) : rfArr[k * 5 + j]? = (rfC (rowT ((k : Int) + 1)))[j]? := by
 have e : rowT ((k : Int) + 1) = rwL[k]'(by show k < 49; exact h) := by
  unfold rowT
  rw [if_pos (by omega), show ((k : Int) + 1 - 1).toNat = k by omega, List.getD_eq_getElem?_getD, List.getElem?_eq_getElem (by show k < 49; exact h)]; rfl
 rw [e]
 unfold rfArr
 rw [List.getElem?_toArray]
 exact flat5 rwL k (by show k < 49; exact h) j hj
set_option maxRecDepth 100000 in
set_option maxHeartbeats 4000000 in
theorem zjV (k : Nat) (w : World) (h : k < 49) :
 Calls Tryz.prog 62 #[.int .i64 ((k : Int) + 1)] w fun e w' => e = .returned (rfV (rowT ((k : Int) + 1))) ∧ Below w.heap.size w w' := by
 have q1 : decide ((k : Int) + 1 < 1) = false := by simp; omega
 have q2 : decide (49 < (k : Int) + 1) = false := by simp; omega
 have a0 := zdN k h 0 (by omega)
 have a1 := zdN k h 1 (by omega)
 have a2 := zdN k h 2 (by omega)
 have a3 := zdN k h 3 (by omega)
 have a4 := zdN k h 4 (by omega)
 generalize hr : rowT ((k : Int) + 1) = r at *
 have HR := zhd hr; clear hr
 simp only [rfC, List.getElem?_cons_zero, List.getElem?_cons_succ, Nat.add_zero] at a0 a1 a2 a3 a4
 go_enter Tryz.func62, Tryz.ntmps62
 go_upto_region 3 with (fail)
 apply wp_region_lit
 refine zeX 49 _ _ ⟨#[(.int .i64 ((k : Int) + 1)), undef, (.pointer (some ⟨w.heap.size, 0, none⟩)), (.int .i64 ((k : Int) + 1)), (.bool false), (.bool false), (.int .i64 ((k : Int) + 1)), (.bool false), (.bool false), undef, (rfAg 0), (rfAg 1), (rfAg 2), (rfAg 3), (rfAg 4), (rfAg 5), (rfAg 6), (rfAg 7), (rfAg 8), (rfAg 9), (rfAg 10), (rfAg 11), (rfAg 12), (rfAg 13), (rfAg 14), (rfAg 15), (rfAg 16), (rfAg 17), (rfAg 18), (rfAg 19), (rfAg 20), (rfAg 21), (rfAg 22), (rfAg 23), (rfAg 24), (rfAg 25), (rfAg 26), (rfAg 27), (rfAg 28), (rfAg 29), (rfAg 30), (rfAg 31), (rfAg 32), (rfAg 33), (rfAg 34), (rfAg 35), (rfAg 36), (rfAg 37), (rfAg 38), (rfAg 39), (rfAg 40), (rfAg 41), (rfAg 42), (rfAg 43), (rfAg 44), (rfAg 45), (rfAg 46), (rfAg 47), (rfAg 48), undef, undef, undef, undef, undef], []⟩ (by kernel_rfl) ?_
 simp only [List.drop_succ_cons, List.drop_zero]
 refine zhk (.cells rfArr 111) (.slice (some ⟨(w.alloc (.cells #[.string ⟨#[]⟩, .int .u8 0, .int .i64 0, .int .i64 0, .int .i64 0] 111)).heap.size, 0, none⟩) 49 49) rfl (by kernel_rfl) ?_
 rw [World.size_alloc]
 go_wp2_with fail
 refine bodyPost_ret (v := rfV r) (by simp [results, Tryz.results62, go_sem, rfV]) rfl ⟨rfl, (by repeat (first | (with_reducible first | exact Below.refl _ _ | refine zaj ?_ ?_ _ | apply zag | refine zae ?_ (by assumption) | apply zak) | omega))⟩
theorem zle (op : Int) (w : World) (h : op < 1 ∨ 49 < op) :
 Calls Tryz.prog 62 #[.int .i64 op] w fun e w' => e = .returned (rfV noRw) ∧ Below w.heap.size w w' := by
 rcases h with h | h
 · have q1 : decide (op < 1) = true := by simp; omega
   clear h
   go_enter Tryz.func62, Tryz.ntmps62
   go_wp2_with fail
   refine bodyPost_ret (v := rfV noRw) (by simp [results, Tryz.results62, go_sem, rfV, noRw]) rfl ⟨rfl, (by repeat (first | (with_reducible first | exact Below.refl _ _ | refine zaj ?_ ?_ _ | apply zag | refine zae ?_ (by assumption) | apply zak) | omega))⟩
 · have q1 : decide (op < 1) = false := by simp; omega
   have q2 : decide (49 < op) = true := by simp; omega
   clear h
   go_enter Tryz.func62, Tryz.ntmps62
   go_wp2_with fail
   refine bodyPost_ret (v := rfV noRw) (by simp [results, Tryz.results62, go_sem, rfV, noRw]) rfl ⟨rfl, (by repeat (first | (with_reducible first | exact Below.refl _ _ | refine zaj ?_ ?_ _ | apply zag | refine zae ?_ (by assumption) | apply zak) | omega))⟩
theorem za6 (op : Int) (w : World) :
 Calls Tryz.prog 62 #[.int .i64 op] w fun e w' => e = .returned (rfV (rowT op)) ∧ Below w.heap.size w w' := by
 by_cases h : 1 ≤ op ∧ op ≤ 49
 · obtain ⟨k, rfl⟩ : ∃ k : Nat, op = (k : Int) + 1 := ⟨(op - 1).toNat, by omega⟩
   exact zjV k w (by omega)
 · rw [zgI h]; exact zle op w (by omega)
end
section
open Go.RowKit Go.ChangeShapes Go.WideShapes
def zgR (x : Ins) : Prop := I64 x.op ∧ I64 x.d ∧ I64 x.a ∧ I64 x.b ∧ I64 x.n
end
section
open Go.RowKit
theorem zhA (c n : Int) (w : World) (hc : I64 c) (hn : 0 < n ∧ n ≤ 9223372036854775807) :
 Calls Tryz.prog 70 #[.int .i64 c, .int .i64 n] w fun e w' => e = .returned (.int .i64 (zax c n)) ∧ w = w' := by
 have hn0 : (n == 0) = false := by simp; omega
 have hb := za5 c n hn.1
 by_cases h : c < 0
 · have E := zhd (zi8 c n h)
   go_enter Tryz.func70, Tryz.ntmps70
   go_wp2
   go_ret
   exact ⟨by rw [← E.out]; rfl, rfl⟩
 · have E := zhd (zi7 c n h)
   go_enter Tryz.func70, Tryz.ntmps70
   go_wp2
   go_ret
   exact ⟨by rw [← E.out]; rfl, rfl⟩
def fitF (f : Int) (op : Int) (x : Ins) : Ins :=
 ⟨op, if (zaI f).d then zax x.d 32 else 0, if (zaI f).a then zax x.a 32 else 0, if (zaI f).b then zax x.b 32 else 0,
  if f = 73 then zax x.n 4096 - 2048 else if f = 83 then zax x.n 4096 - 2048 else if f = 72 then zax x.n 32 else if f = 66 then 2 * zax x.n 4096 - 4096 else if f = 85 then zax x.n 1048576
  else if f = 74 then 2 * zax x.n 1048576 - 1048576 else if f = 70 then zax x.n 256 else if f = 67 then zax x.n 4096 else if f = 76 then zax x.n 4 else if f = 65 then zax x.n 4 else 0⟩
def fitX (x : Ins) : Ins := fitF (rowT (1 + zax x.op 49)).form (1 + zax x.op 49) x
def zhT (f : Int) : Prop := f = 82 ∨ f = 73 ∨ f = 72 ∨ f = 83 ∨ f = 66 ∨ f = 85 ∨ f = 74 ∨ f = 70 ∨ f = 67 ∨ f = 76 ∨ f = 65 ∨ f = 90
theorem zg6 (op : Int) (h : 1 ≤ op ∧ op ≤ 49) : zhT (rowT op).form := by
 obtain ⟨k, rfl, hk⟩ : ∃ k : Nat, op = k ∧ 1 ≤ k ∧ k ≤ 49 := ⟨op.toNat, by omega, by omega, by omega⟩
 have : ∀ k : Fin 50, 1 ≤ k.val → ((rowT (k.val : Int)).form = 82 ∨ (rowT (k.val : Int)).form = 73 ∨ (rowT (k.val : Int)).form = 72 ∨ (rowT (k.val : Int)).form = 83 ∨ (rowT (k.val : Int)).form = 66 ∨ (rowT (k.val : Int)).form = 85 ∨ (rowT (k.val : Int)).form = 74 ∨ (rowT (k.val : Int)).form = 70 ∨ (rowT (k.val : Int)).form = 67 ∨ (rowT (k.val : Int)).form = 76 ∨ (rowT (k.val : Int)).form = 65 ∨ (rowT (k.val : Int)).form = 90) := by decide +kernel
 exact this ⟨k, by omega⟩ hk.1
theorem zkp (nm : ByteArray) (f lo mi hi : Int) (w : World) : (Instr.field 111 (.agg #[.string nm, .int .u8 f, .int .i64 lo, .int .i64 mi, .int .i64 hi]) 1).run Tryz.prog w = .ok (.int .u8 f) w := by kernel_rfl
set_option maxRecDepth 100000 in
set_option maxHeartbeats 20000000 in
theorem fit_any (x : Ins) (w : World) (h : zgR x) :
 Calls Tryz.prog 35 #[insV x] w fun e w' => e = .returned (insV (fitX x)) ∧ Below w.heap.size w w' := by
 obtain ⟨op, d, a, b, n⟩ := x
 obtain ⟨h0, h1, h2, h3, h4⟩ := h
 simp only at h0 h1 h2 h3 h4
 have H0 := zhd h0; have H1 := zhd h1; have H2 := zhd h2; have H3 := zhd h3; have H4 := zhd h4
 clear h0 h1 h2 h3 h4
 have hp := za5 op 49 (by omega)
 have hf := zg6 (1 + zax op 49) (by omega)
 have HX : Hid (fitX ⟨op, d, a, b, n⟩ = fitF (rowT (1 + zax op 49)).form (1 + zax op 49) ⟨op, d, a, b, n⟩) := rfl
 generalize hrw : rowT (1 + zax op 49) = r at *
 have HRW := zhd hrw; clear hrw
 obtain ⟨nm, f, lo, mi, hi⟩ := r
 simp only at hf HX
 have p0 := za5 d 32 (by omega)
 have p1 := za5 a 32 (by omega)
 have p2 := za5 b 32 (by omega)
 have p3 := za5 n 4096 (by omega)
 have p4 := za5 n 32 (by omega)
 have p5 := za5 n 1048576 (by omega)
 have p6 := za5 n 256 (by omega)
 have p7 := za5 n 4 (by omega)
 unfold insV
 rcases hf with rfl | rfl | rfl | rfl | rfl | rfl | rfl | rfl | rfl | rfl | rfl | rfl
 all_goals
  go_enter Tryz.func35, Tryz.ntmps35
  go_wp2_with (go_at_call 70; ((with_reducible refine (zhA op 49 _ H0.out (by omega)).mono ?_); rintro e w' ⟨rfl, rfl⟩))
  refine (za6 _ _).mono ?_
  rw [HRW.out]
  rintro e w1 ⟨rfl, hb1⟩
  obtain ⟨c1, f1⟩ := za8 hb1
  have z1 : w.heap.size + 1 + 1 < w1.heap.size := by have := hb1.size; simp at this; omega
  have z2 : w.heap.size + 1 < w1.heap.size := by omega
  have z3 : w.heap.size < w1.heap.size := by omega
  unfold rfV
  have hfld := fun f => zkp nm f lo mi hi w1
  go_wp2_with (go_at_call 70; (first | ((with_reducible refine (zhA d 32 _ H1.out (by omega)).mono ?_); rintro e w' ⟨rfl, rfl⟩) | ((with_reducible refine (zhA a 32 _ H2.out (by omega)).mono ?_); rintro e w' ⟨rfl, rfl⟩) | ((with_reducible refine (zhA b 32 _ H3.out (by omega)).mono ?_); rintro e w' ⟨rfl, rfl⟩) | ((with_reducible refine (zhA n _ _ H4.out (by omega)).mono ?_); rintro e w' ⟨rfl, rfl⟩)))
  refine bodyPost_ret (v := insV (fitF _ (1 + zax op 49) ⟨op, d, a, b, n⟩)) ?_ rfl ⟨by rw [HX.out]; rfl, (by repeat (first | (with_reducible first | exact Below.refl _ _ | refine zaj ?_ ?_ _ | apply zag | refine zae ?_ (by assumption) | apply zak) | omega))⟩
  simp [results, Tryz.results35, go_sem, c1]
  rfl
end
end Go.Proofs.YtdobddiibgfeaaaGreat
