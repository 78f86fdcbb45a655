/-
  A region that draws its order: operations that read old cells or call what makes memory, then two new variables (in either order), then two stores of whole rows into them: the readers walked once in the order of the text. No program in sight.
-/
import Derived.Test.YtfepdieeiplbnaaQuietTail
import Derived.Test.YtfepdieeiplbnaaHeap
import Derived.Laws.Rows
import Derived.Laws.Tables
import Derived.Laws.CopyOwn
import Derived.Deep.DeepCutAuto
namespace Go.Proofs.Ytfepdieeiplbnaa
open Go.RowKit
abbrev Rec := Nat → Option Obj
def upd (S : Rec) (b : Nat) (o : Obj) : Rec := fun x => if x = b then some o else S x
/-- What was in w0 is as it was; the new blocks are as S says. -/
def CR (w0 : World) (S : Rec) (w' : World) : Prop := Below w0.heap.size w0 w' ∧ ∀ b o, S b = some o → w0.heap.size ≤ b ∧ w'.heap[b]? = some o
section
variable {P : Program} {ops : Array Oper} {md : Region.Mode} {w0 : World}
/-- In every world of every class the operation yields v. -/
def YA (P : Program) (ops : Array Oper) (w0 : World) (o : Oper) (v : Value) (a : Act) : Prop := ∀ S, YieldsIn P ops (CR w0 S) o v a
def kOp (P : Program) (ops : Array Oper) (w0 : World) (i : Nat) (K : Act → Rec → Prop) (a : Act) (S : Rec) : Prop :=
  match ops[i]? with
  | none => K a S
  | some o => (∃ v, YA P ops w0 o v a ∧ K (a.put o.dst v) S) ∨
    (o.guard = none ∧ ∃ z, (∀ w : World, (execOp a.eval o).run P w = .ok (.value (.pointer (some ⟨w.heap.size, 0, none⟩))) (w.alloc z)) ∧ ∀ b, w0.heap.size ≤ b → S b = none → K (a.put o.dst (.pointer (some ⟨b, 0, none⟩))) (upd S b z)) ∨
    (o.guard = none ∧ ∃ b cs old t, S b = some (.cells old t (0, 0)) ∧ (∀ w : World, w.heap[b]? = some (.cells old t (0, 0)) → (execOp a.eval o).run P w = .ok .skip (w.setRow b cs)) ∧ K (a.put o.dst undef) (upd S b (.cells cs t (0, 0))))
theorem kOp_mono {i : Nat} {a : Act} {S : Rec} {K K' : Act → Rec → Prop} (h : ∀ a S, K a S → K' a S) (hh : kOp P ops w0 i K a S) : kOp P ops w0 i K' a S := by
  unfold kOp at *
  split at hh
  · exact h _ _ hh
  · rcases hh with ⟨v, h1, h2⟩ | ⟨g, z, h1, h2⟩ | ⟨g, b, cs, old, t, h1, h2, h3⟩
    · exact .inl ⟨v, h1, h _ _ h2⟩
    · exact .inr (.inl ⟨g, z, h1, fun b hb hs => h _ _ (h2 b hb hs)⟩)
    · exact .inr (.inr ⟨g, b, cs, old, t, h1, h2, h _ _ h3⟩)
def kAny (P : Program) (md : Region.Mode) (ops : Array Oper) (w0 : World) (L : Act → Rec → Prop) : Nat → Array Bool → Act → Rec → Prop
  | 0, listed, a, S => Region.ready md ops listed = [] ∧ L a S
  | f + 1, listed, a, S => (Region.ready md ops listed = [] → L a S) ∧ ∀ i ∈ Region.ready md ops listed, kOp P ops w0 i (kAny P md ops w0 L f (listed.setIfInBounds i true)) a S
theorem cr_lt {S : Rec} {w : World} {b : Nat} {o : Obj} (h : CR w0 S w) (hs : S b = some o) : b < w.heap.size := lt_in (h.2 b o hs).2
theorem cr_alloc {S : Rec} {w : World} (z : Obj) (h : CR w0 S w) : w0.heap.size ≤ w.heap.size ∧ S w.heap.size = none ∧ CR w0 (upd S w.heap.size z) (w.alloc z) := by
  have hs := h.1.size
  refine ⟨hs, ?_, h.1.alloc hs z, fun b o hb => ?_⟩
  · cases e : S w.heap.size with
    | none => rfl
    | some o => have := cr_lt h e; omega
  · unfold upd at hb
    by_cases e : b = w.heap.size
    · rw [if_pos e] at hb; injection hb with hb; subst hb e
      exact ⟨hs, new_in w _⟩
    · rw [if_neg e] at hb
      have := h.2 b o hb
      exact ⟨this.1, bel_in ((Below.refl w.heap.size w).alloc (Nat.le_refl _) z) (lt_in this.2) this.2⟩
theorem cr_store {S : Rec} {w : World} {b : Nat} {cs old : Array Value} {t : TypeId} (h : CR w0 S w) (hs : S b = some (.cells old t (0, 0))) : CR w0 (upd S b (.cells cs t (0, 0))) (w.setRow b cs) := by
  have hb := h.2 b _ hs
  refine ⟨below_setRow h.1 hb.1 _, fun b' o hb' => ?_⟩
  unfold upd at hb'
  by_cases e : b' = b
  · subst e
    rw [if_pos rfl] at hb'; injection hb' with hb'; subst hb'
    exact ⟨hb.1, setRow_heap _ _ _ _ _ _ hb.2⟩
  · rw [if_neg e] at hb'
    have := h.2 b' o hb'
    exact ⟨this.1, (setRow_other w b b' cs e).trans this.2⟩
theorem wpAny_of_k {L : Act → Rec → Prop} {Q : Exit → Act → World → Prop} (hL : ∀ a S w, CR w0 S w → L a S → Q .normal a w) : ∀ (f : Nat) (listed : Array Bool) (a : Act) (S : Rec) (w : World), CR w0 S w →
    kAny P md ops w0 L f listed a S → wpAny P md ops Q f listed a w := by
  intro f
  induction f with
  | zero => intro listed a S w hw h; exact ⟨h.1, hL _ _ _ hw h.2⟩
  | succ f ih =>
    intro listed a S w hw h
    refine ⟨fun h0 => hL _ _ _ hw (h.1 h0), fun i hi => ?_⟩
    have hk := h.2 i hi
    unfold kOp at hk
    split at hk
    · rename_i ho
      unfold wpOp; simp only [ho]
      exact ih _ _ _ _ hw hk
    · rename_i o ho
      rcases hk with ⟨v, h1, h2⟩ | ⟨g, z, h1, h2⟩ | ⟨g, b, cs, old, t, h1, h2, h3⟩
      · exact wpOp_of_qOp (C := CR w0 S) (K := fun a' => kAny P md ops w0 L f (listed.setIfInBounds i true) a' S) hw (fun a' w' hw' h' => ih _ _ _ _ hw' h') ((h1 S).qOp ho h2)
      · unfold wpOp; simp only [ho]
        rw [if_pos (by simp [Region.wanted, g])]
        obtain ⟨c1, c2, c3⟩ := cr_alloc z hw
        refine .inl ?_
        unfold Oper.wp
        rw [h1 w]
        exact ih _ _ _ _ c3 (h2 _ c1 c2)
      · unfold wpOp; simp only [ho]
        rw [if_pos (by simp [Region.wanted, g])]
        refine .inl ?_
        unfold Oper.wp
        rw [h2 w (hw.2 b _ h1).2]
        exact ih _ _ _ _ (cr_store hw h1) h3
theorem kOp_put {j : Nat} {oi oj : Oper} {v : Value} (hj : ops[j]? = some oj) (hap : oi.apart ops oj = true)
    (hsi : ∀ cs b, oi.op ≠ .select cs b) (hsj : ∀ cs b, oj.op ≠ .select cs b) {K : Act → Rec → Prop} {a : Act} {S : Rec}
    (hy : YA P ops w0 oi v a) (h : kOp P ops w0 j K (a.put oi.dst v) S) :
    kOp P ops w0 j (fun a' S' => YA P ops w0 oi v a' ∧ K (a'.put oi.dst v) S') a S := by
  obtain ⟨h1, h2, h3⟩ := Oper.apart_spec hap
  have keep : ∀ u, YA P ops w0 oi v (a.put oj.dst u) := fun u S => (hy S).of_same (execOp_put oi hsi a oj.dst u h3) (wanted_put oi a oj.dst u h3)
  have he := execOp_put oj hsj a oi.dst v h1
  unfold kOp at *
  simp only [hj] at *
  rcases h with ⟨u, k1, k2⟩ | ⟨g, z, k1, k2⟩ | ⟨g, b, cs, old, t, k1, k2, k3⟩
  · exact .inl ⟨u, fun S => (k1 S).of_same he.symm (wanted_put oj a oi.dst v h1).symm, keep u, by rw [← Act.put_comm a v u h2]; exact k2⟩
  · exact .inr (.inl ⟨g, z, fun w => by rw [← he]; exact k1 w, fun b hb hs => ⟨keep _, by rw [← Act.put_comm a v _ h2]; exact k2 b hb hs⟩⟩)
  · exact .inr (.inr ⟨g, b, cs, old, t, k1, fun w hw => by rw [← he]; exact k2 w hw, keep _, by rw [← Act.put_comm a v _ h2]; exact k3⟩)
theorem kAny_first {L : Act → Rec → Prop} {i : Nat} {oi : Oper} {v : Value} (hi : ops[i]? = some oi) (hsel : ∀ (j : Nat) (o : Oper) cs b, ops[j]? = some o → o.op ≠ .select cs b) :
    ∀ (fuel : Nat) (listed : Array Bool) (a : Act) (S : Rec),
      (∀ j oj, ops[j]? = some oj → j ≠ i → listed.getD j true = false → (∀ e ∈ oj.after, Region.binds md e = true → e.on ≠ i) → oi.apart ops oj = true) →
      i ∈ Region.ready md ops listed → YA P ops w0 oi v a →
      kAny P md ops w0 L fuel (listed.setIfInBounds i true) (a.put oi.dst v) S → kAny P md ops w0 L (fuel + 1) listed a S := by
  intro fuel
  have self : ∀ (K : Act → Rec → Prop) (a : Act) (S : Rec), YA P ops w0 oi v a → K (a.put oi.dst v) S → kOp P ops w0 i K a S := fun K a S hy h => by
    unfold kOp; simp only [hi]; exact .inl ⟨v, hy, h⟩
  induction fuel with
  | zero =>
    intro listed a S _ hr hy H
    refine ⟨fun h => (by rw [h] at hr; cases hr), fun j hj => ?_⟩
    by_cases hji : j = i
    · subst hji; exact self _ _ _ hy H
    · have := ready_mono hj hji
      rw [H.1] at this
      cases this
  | succ fuel ih =>
    intro listed a S hfree hr hy H
    refine ⟨fun h => (by rw [h] at hr; cases hr), fun j hj => ?_⟩
    by_cases hji : j = i
    · subst hji; exact self _ _ _ hy H
    · have h1 := H.2 j (ready_mono hj hji)
      obtain ⟨hjun, oj, hoj, hall⟩ := mem_ready.1 hj
      have hnot : ∀ e ∈ oj.after, Region.binds md e = true → e.on ≠ i := fun e he hb heq => by
        have h1 := hall e he hb
        have h0 := (mem_ready.1 hr).1
        rw [heq] at h1
        rcases Nat.lt_or_ge i listed.size with h' | h'
        · simp [h'] at h0 h1; rw [h0] at h1; cases h1
        · simp [Array.getElem?_eq_none h'] at h1
      have h2 := kOp_put hoj (hfree j oj hoj hji hjun hnot) (fun cs b => hsel i oi cs b hi) (fun cs b => hsel j oj cs b hoj) hy h1
      have hfree' : ∀ k ok, ops[k]? = some ok → k ≠ i → (listed.setIfInBounds j true).getD k true = false →
          (∀ e ∈ ok.after, Region.binds md e = true → e.on ≠ i) → oi.apart ops ok = true := fun k ok hk hki hun hno => by
        refine hfree k ok hk hki ?_ hno
        by_cases hjk : j = k
        · subst hjk; exact hjun
        · rw [getD_set_ne true hjk] at hun; exact hun
      refine kOp_mono (fun a' S' h3 => ih (listed.setIfInBounds j true) a' S' hfree' (ready_mono hr (Ne.symm hji)) h3.1 ?_) h2
      rw [Array.setIfInBounds_comm _ _ hji]
      exact h3.2
def wpQ2 (P : Program) (ops : Array Oper) (w0 : World) (R : Act → Prop) : List Oper → Act → Prop
  | [], a => R a
  | o :: l, a => ∃ v, YA P ops w0 o v a ∧ wpQ2 P ops w0 R l (a.put o.dst v)
def setN : Nat → Nat → Array Bool → Array Bool
  | 0, _, listed => listed
  | f + 1, k, listed => setN f (k + 1) (listed.setIfInBounds k true)
def lexN (md : Region.Mode) (ops : Array Oper) : Nat → Nat → Array Bool → Bool
  | 0, _, _ => true
  | f + 1, k, listed => (Region.ready md ops listed).contains k && Region.free md ops listed k && lexN md ops f (k + 1) (listed.setIfInBounds k true)
theorem kAny_lex {L : Act → Rec → Prop} {g : Nat} {R : Act → Prop} {S : Rec} (hs : Region.noSelect ops = true) (l : List Oper) : ∀ (k : Nat) (listed : Array Bool) (a : Act), (∀ j, j < l.length → l[j]? = ops[k + j]?) → lexN md ops l.length k listed = true →
    (∀ a', R a' → kAny P md ops w0 L g (setN l.length k listed) a' S) → wpQ2 P ops w0 R l a → kAny P md ops w0 L (l.length + g) listed a S := by
  induction l with
  | nil => intro k listed a _ _ hR h; simp only [List.length_nil, Nat.zero_add]; exact hR a h
  | cons o l ih =>
    intro k listed a hl hB hR h
    have h0 : ops[k]? = some o := by simpa using (hl 0 (by simp)).symm
    simp only [List.length_cons, lexN, Bool.and_eq_true] at hB
    obtain ⟨⟨hr, hf⟩, hB'⟩ := hB
    obtain ⟨v, hy, hK⟩ := h
    rw [show (o :: l).length + g = (l.length + g) + 1 by simp only [List.length_cons]; omega]
    refine kAny_first h0 (Region.noSelect_spec hs) (l.length + g) listed a S (Region.free_spec h0 hf) (by simpa using hr) hy ?_
    exact ih (k + 1) _ _ (fun j hj => by have := hl (j + 1) (by simp; omega); simpa [Nat.add_assoc, Nat.add_comm 1 j] using this) hB' (fun a' ha' => by simpa [setN] using hR a' ha') hK
theorem put_getD (a : Act) (d d' : Tmp) (v : Value) (h : d' ≠ d) : (a.put (some d') v).tmps.getD d undef = a.tmps.getD d undef := by
  simp [Act.put, Array.getD_eq_getD_getElem?, h]
theorem put_getD_same (a : Act) (d : Tmp) (v : Value) (h : d < a.tmps.size) : (a.put (some d) v).tmps.getD d undef = v := by
  simp [Act.put, Array.getD_eq_getD_getElem?, h]
theorem put_size (a : Act) (d : Option Tmp) (v : Value) : (a.put d v).tmps.size = a.tmps.size := by
  cases d <;> simp [Act.put]
theorem q_get {C : World → Prop} {a' : Act} (d : Tmp) (l : List Oper) : ∀ (a : Act), wpQuiet P ops C (fun x => x = a') l a → (∀ o ∈ l, ∀ e, o.dst = some e → e ≠ d) → a'.tmps.getD d undef = a.tmps.getD d undef := by
  induction l with
  | nil => intro a h _; have h' : a = a' := h; rw [h']
  | cons o l ih =>
    intro a h hd
    have key : ∀ v, (a.put o.dst v).tmps.getD d undef = a.tmps.getD d undef := fun v => by
      cases e : o.dst with
      | none => rfl
      | some e' => exact put_getD a d e' v (hd o (by simp) e' e)
    unfold wpQuiet at h
    split at h
    · obtain ⟨v, _, h2⟩ := h
      rw [ih _ h2 (fun o' ho' => hd o' (by simp [ho'])), key]
    · rw [ih _ h (fun o' ho' => hd o' (by simp [ho'])), key]
/-- The operations' places are unlike and in the frame. -/
def dstsB (sz : Nat) : List Oper → Bool
  | [] => true
  | o :: l => (match o.dst with | none => false | some d => decide (d < sz) && l.all (fun o' => match o'.dst with | none => false | some e => decide (e ≠ d))) && dstsB sz l
theorem cr_none (w0 : World) : CR w0 (fun _ => none) w0 := ⟨Below.refl _ _, fun b o hb => (by cases hb)⟩
theorem uniform {a' : Act} (sz : Nat) (l : List Oper) : ∀ (a : Act), a.tmps.size = sz → dstsB sz l = true → (∀ S, (∃ w, CR w0 S w) → wpQuiet P ops (CR w0 S) (fun x => x = a') l a) → wpQ2 P ops w0 (fun x => x = a') l a := by
  induction l with
  | nil => intro a _ _ h; exact h (fun _ => none) ⟨w0, cr_none w0⟩
  | cons o l ih =>
    intro a hsz hB h
    unfold dstsB at hB
    cases hd : o.dst with
    | none => rw [hd] at hB; simp at hB
    | some d =>
      rw [hd] at hB
      simp only [Bool.and_eq_true, decide_eq_true_eq, List.all_eq_true] at hB
      obtain ⟨⟨h1, h2⟩, h3⟩ := hB
      have hne : ∀ o' ∈ l, ∀ e, o'.dst = some e → e ≠ d := fun o' ho' e he => by
        have := h2 o' ho'
        rw [he] at this
        simpa using this
      have hval : ∀ (S : Rec) (v : Value), wpQuiet P ops (CR w0 S) (fun x => x = a') l (a.put o.dst v) → v = a'.tmps.getD d undef := fun S v hq => by
        rw [q_get d l _ hq hne, hd, put_getD_same a d v (by rw [hsz]; exact h1)]
      have step : ∀ S, (∃ w, CR w0 S w) → ∃ v, YieldsIn P ops (CR w0 S) o v a ∧ wpQuiet P ops (CR w0 S) (fun x => x = a') l (a.put o.dst v) := fun S hS => by
        have := h S hS
        unfold wpQuiet at this
        split at this
        · rename_i hw
          obtain ⟨v, k1, k2⟩ := this
          exact ⟨v, .inl ⟨hw, k1⟩, k2⟩
        · rename_i hw
          exact ⟨undef, .inr ⟨by simpa using hw, rfl⟩, this⟩
      refine ⟨a'.tmps.getD d undef, fun S => ?_, ?_⟩
      · by_cases hS : ∃ w, CR w0 S w
        · obtain ⟨v, k1, k2⟩ := step S hS
          rw [← hval S v k2]; exact k1
        · obtain ⟨v, k1, k2⟩ := step (fun _ => none) ⟨w0, cr_none w0⟩
          rw [← hval _ v k2]
          rcases k1 with ⟨k, _⟩ | k
          · exact .inl ⟨k, fun w hw => absurd ⟨w, hw⟩ hS⟩
          · exact .inr k
      · refine ih _ (by rw [put_size]; exact hsz) h3 (fun S hS => ?_)
        obtain ⟨v, k1, k2⟩ := step S hS
        rw [← hval S v k2]; exact k2
end
/-- A world in which all that was in w0 is as it was, and the new blocks are as S says. -/
structure WdS (w0 : World) (S : Rec) where
  val : World
  ok : CR w0 S val
theorem cls {w0 : World} {S : Rec} : (fun w' => ∃ x : WdS w0 S, w' = x.val) = CR w0 S := by
  funext w'
  exact propext ⟨fun ⟨x, hx⟩ => hx ▸ x.ok, fun h => ⟨⟨w', h⟩, rfl⟩⟩
theorem quiet_n {P : Program} {f : FuncId} {args : Array Value} {w : World} {S : Rec} {x : WdS w S} {v : Value} (h : Calls P f args x.val (fun e w' => e = .returned v ∧ Below x.val.heap.size x.val w')) :
    Calls P f args x.val (fun e w'' => e = .returned v ∧ ∃ x' : WdS w S, w'' = x'.val) :=
  h.mono fun _ w' ⟨he, hb⟩ => ⟨he, ⟨w', bw_tr x.ok.1 hb, fun b o hs => ⟨(x.ok.2 b o hs).1, bel_in hb (lt_in (x.ok.2 b o hs).2) (x.ok.2 b o hs).2⟩⟩, rfl⟩
theorem wdS_cell {w : World} {S : Rec} {b o : Nat} {v : Value} (hlt : b < w.heap.size) (h : w.cell? ⟨b, o, none⟩ = some v) (x : WdS w S) : x.val.cell? ⟨b, o, none⟩ = some v := by
  rw [x.ok.1.cell (p := ⟨b, o, none⟩) hlt]; exact h
/-- The order in which a region of n readers, two new variables, two stores may come up. -/
def newB (ops : Array Oper) (n : Nat) : Bool :=
  let D := setN n 0 (Array.replicate ops.size false)
  Region.noSelect ops && (decide (ops.size = n + 4) && (lexN .any ops n 0 (Array.replicate ops.size false) && (decide (Region.ready .any ops D = [n, n + 1]) && (decide (Region.ready .any ops (D.setIfInBounds n true) = [n + 1]) && (decide (Region.ready .any ops (D.setIfInBounds (n + 1) true) = [n]) &&
  (decide (Region.ready .any ops ((D.setIfInBounds n true).setIfInBounds (n + 1) true) = [n + 2]) && (decide (Region.ready .any ops (((D.setIfInBounds n true).setIfInBounds (n + 1) true).setIfInBounds (n + 2) true) = [n + 3]) &&
  decide (Region.ready .any ops ((((D.setIfInBounds n true).setIfInBounds (n + 1) true).setIfInBounds (n + 2) true).setIfInBounds (n + 3) true) = []))))))))
theorem wp_region_new2 {P : Program} {id : Nat} {Q : Exit → Act → World → Prop} {a : Act} {w : World} {l : List Oper} (n : Nat) (hm : P.follows .mixedOrders = true) (hB : newB l.toArray n = true) (hD : dstsB a.tmps.size (l.take n) = true)
    (o1 o2 s1 s2 : Oper) (h1 : l.toArray[n]? = some o1) (h2 : l.toArray[n + 1]? = some o2) (h3 : l.toArray[n + 2]? = some s1) (h4 : l.toArray[n + 3]? = some s2)
    (g1 : o1.guard = none) (g2 : o2.guard = none) (g3 : s1.guard = none) (g4 : s2.guard = none) (p1 p2 : Tmp) (e1 : o1.dst = some p1) (e2 : o2.dst = some p2) (e3 : s1.dst = none) (e4 : s2.dst = none) (hne : p1 ≠ p2)
    (old1 old2 c1 c2 : Array Value) (t1 t2 : TypeId)
    (r1 : ∀ (a : Act) (w : World), (execOp a.eval o1).run P w = .ok (.value (.pointer (some ⟨w.heap.size, 0, none⟩))) (w.alloc (.cells old1 t1)))
    (r2 : ∀ (a : Act) (w : World), (execOp a.eval o2).run P w = .ok (.value (.pointer (some ⟨w.heap.size, 0, none⟩))) (w.alloc (.cells old2 t2)))
    (a' : Act) (h : ∀ S, Nonempty (WdS w S) → wpQuiet P l.toArray (fun w' => ∃ x : WdS w S, w' = x.val) (fun x => x = a') (l.take n) a)
    (hst : ∀ b1 b2, b1 ≠ b2 → (∀ w' : World, w'.heap[b1]? = some (.cells old1 t1 (0, 0)) → (execOp ((a'.put (some p1) (.pointer (some ⟨b1, 0, none⟩))).put (some p2) (.pointer (some ⟨b2, 0, none⟩))).eval s1).run P w' = .ok .skip (w'.setRow b1 c1)) ∧
      (∀ w' : World, w'.heap[b2]? = some (.cells old2 t2 (0, 0)) → (execOp ((a'.put (some p1) (.pointer (some ⟨b1, 0, none⟩))).put (some p2) (.pointer (some ⟨b2, 0, none⟩))).eval s2).run P w' = .ok .skip (w'.setRow b2 c2)))
    (hQ : ∀ b1 b2 w', w.heap.size ≤ b1 → w.heap.size ≤ b2 → b1 ≠ b2 → Below w.heap.size w w' → w'.heap[b1]? = some (.cells c1 t1 (0, 0)) → w'.heap[b2]? = some (.cells c2 t2 (0, 0)) →
      Q .normal ((a'.put (some p1) (.pointer (some ⟨b1, 0, none⟩))).put (some p2) (.pointer (some ⟨b2, 0, none⟩))) w') : (Code.region id l.toArray true).wp P Q a w := by
  simp only [newB, Bool.and_eq_true, decide_eq_true_eq] at hB
  obtain ⟨hsel, hsz, hlex, hr0, hr1, hr2, hr3, hr4, hr5⟩ := hB
  have hn : (l.take n).length = n := by simp at hsz ⊢; omega
  refine wp_region_any hm ?_
  have fin : ∀ (b1 b2 : Nat) (S : Rec), w.heap.size ≤ b1 → w.heap.size ≤ b2 → b1 ≠ b2 → S b1 = some (.cells old1 t1 (0, 0)) → S b2 = some (.cells old2 t2 (0, 0)) →
      kAny P .any l.toArray w (fun a'' S => ∃ b1 b2, w.heap.size ≤ b1 ∧ w.heap.size ≤ b2 ∧ b1 ≠ b2 ∧ a'' = (a'.put (some p1) (.pointer (some ⟨b1, 0, none⟩))).put (some p2) (.pointer (some ⟨b2, 0, none⟩)) ∧ S b1 = some (.cells c1 t1 (0, 0)) ∧ S b2 = some (.cells c2 t2 (0, 0)))
        2 (((setN n 0 (Array.replicate l.toArray.size false)).setIfInBounds n true).setIfInBounds (n + 1) true) ((a'.put (some p1) (.pointer (some ⟨b1, 0, none⟩))).put (some p2) (.pointer (some ⟨b2, 0, none⟩))) S := by
    intro b1 b2 S hb1 hb2 hb hS1 hS2
    obtain ⟨k1, k2⟩ := hst b1 b2 hb
    refine ⟨fun h0 => (by rw [hr3] at h0; cases h0), fun i hi => ?_⟩
    rw [hr3] at hi
    obtain rfl : i = n + 2 := by simpa using hi
    unfold kOp; simp only [h3]
    refine .inr (.inr ⟨g3, b1, c1, old1, t1, hS1, k1, ?_⟩)
    rw [e3]
    refine ⟨fun h0 => (by rw [hr4] at h0; cases h0), fun i hi => ?_⟩
    rw [hr4] at hi
    obtain rfl : i = n + 3 := by simpa using hi
    unfold kOp; simp only [h4]
    refine .inr (.inr ⟨g4, b2, c2, old2, t2, by unfold upd; rw [if_neg (Ne.symm hb)]; exact hS2, k2, ?_⟩)
    rw [e4]
    exact ⟨hr5, b1, b2, hb1, hb2, hb, rfl, by unfold upd; rw [if_neg hb, if_pos rfl], by unfold upd; rw [if_pos rfl]⟩
  have K := kAny_lex (md := .any) (g := 4) (S := fun _ => none) (R := fun x => x = a') hsel (l.take n) 0 (Array.replicate l.toArray.size false) a (fun j hj => by
      have hj' : j < n := by rw [hn] at hj; exact hj
      simp [hj']) (by rw [hn]; exact hlex) (fun x hx => by
      subst hx
      rw [hn]
      refine ⟨fun h0 => (by rw [hr0] at h0; cases h0), fun i hi => ?_⟩
      rw [hr0] at hi
      have hi' : i = n ∨ i = n + 1 := by simpa using hi
      rcases hi' with rfl | rfl
      · unfold kOp; simp only [h1]
        refine .inr (.inl ⟨g1, _, r1 _, fun b1 hb1 _ => ?_⟩)
        rw [e1]
        refine ⟨fun h0 => (by rw [hr1] at h0; cases h0), fun i' hi => ?_⟩
        rw [hr1] at hi
        obtain rfl : i' = i + 1 := by simpa using hi
        unfold kOp; simp only [h2]
        refine .inr (.inl ⟨g2, _, r2 _, fun b2 hb2 hs2 => ?_⟩)
        rw [e2]
        have hb : b1 ≠ b2 := fun e => by subst e; unfold upd at hs2; rw [if_pos rfl] at hs2; cases hs2
        exact fin b1 b2 _ hb1 hb2 hb (by unfold upd; rw [if_neg hb, if_pos rfl]) (by unfold upd; rw [if_pos rfl])
      · unfold kOp; simp only [h2]
        refine .inr (.inl ⟨g2, _, r2 _, fun b2 hb2 _ => ?_⟩)
        rw [e2]
        refine ⟨fun h0 => (by rw [hr2] at h0; cases h0), fun i' hi => ?_⟩
        rw [hr2] at hi
        obtain rfl : i' = n := by simpa using hi
        unfold kOp; simp only [h1]
        refine .inr (.inl ⟨g1, _, r1 _, fun b1 hb1 hs1 => ?_⟩)
        rw [e1]
        have hb : b1 ≠ b2 := fun e => by subst e; unfold upd at hs1; rw [if_pos rfl] at hs1; cases hs1
        have := fin b1 b2 (upd (upd (fun _ => none) b2 (.cells old2 t2 (0, 0))) b1 (.cells old1 t1 (0, 0))) hb1 hb2 hb (by unfold upd; rw [if_pos rfl]) (by unfold upd; rw [if_neg (Ne.symm hb), if_pos rfl])
        rw [Array.setIfInBounds_comm _ _ (show i' + 1 ≠ i' by omega)]
        rw [Act.put_comm x (x := some p2) (y := some p1) _ _ (fun d hd => by injection hd with hd; subst hd; intro e; injection e with e; exact hne e)]
        exact this) (uniform a.tmps.size (l.take n) a rfl hD (fun S hS => by obtain ⟨w1, hw1⟩ := hS; rw [← cls]; exact h S ⟨⟨w1, hw1⟩⟩))
  rw [hn] at K
  rw [hsz]
  refine wpAny_of_k (w0 := w) (fun a'' S w' hw' hL => ?_) _ _ _ (fun _ => none) _ ⟨bw_drew (Below.refl _ _), fun b o hb => (by cases hb)⟩ (by rw [← hsz]; rw [← hsz] at K; exact K)
  obtain ⟨b1, b2, q1, q2, q3, rfl, q5, q6⟩ := hL
  exact hQ b1 b2 w' q1 q2 q3 hw'.1 (hw'.2 b1 _ q5).2 (hw'.2 b2 _ q6).2
theorem store_run {P : Program} {o : Oper} {a : Act} (ty : TypeId) (x y : Operand) (ho : o.op = .store ty x y) (g : Nat) (cells : Array Value) (hx : a.eval x = .pointer (some ⟨g, 0, none⟩)) (hy : a.eval y = .agg cells)
    (t : TypeId) (old : Array Value) (hi : (P.info? ty).map (·.size) = some cells.size) (hold : old.size = cells.size) (h1 : cells.all (·.oneCell') = true) (w : World) (hg : w.heap[g]? = some (.cells old t (0, 0))) :
    (execOp a.eval o).run P w = .ok .skip (w.setRow g cells) := by
  unfold execOp
  simp only [ho, hx, hy, Instr.storeAt, Instr.sureAddr, Sem.run_bind, Sem.run_pure, Result.andThen_ok, run_storeVar_row w g t ty old cells hg hi hold h1]
end Go.Proofs.Ytfepdieeiplbnaa
