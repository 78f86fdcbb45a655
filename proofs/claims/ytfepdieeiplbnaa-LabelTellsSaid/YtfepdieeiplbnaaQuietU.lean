/-
  A region that draws its order: the operations that read (their value is the same in every world of a class that is shut upward) may come first; the others are walked one by one, each from any world above the last one's. No program in sight.
-/
import Derived.Test.YtfepdieeiplbnaaQuietNew
namespace Go.Proofs.Ytfepdieeiplbnaa
open Go.RowKit
abbrev Up (w w' : World) : Prop := Below w.heap.size w w'
theorem up_tr {a b c : World} (h : Up a b) (k : Up b c) : Up a c := bw_tr h k
abbrev QF : Exit → Act → World → Prop := fun _ _ _ => False
/-- Only the ordinary way out. -/
def QN (K : Act → World → Prop) : Exit → Act → World → Prop
  | .normal, a, w => K a w
  | _, _, _ => False
theorem qn_normal {K : Act → World → Prop} {a : Act} {w : World} (h : K a w) : QN K .normal a w := h
section
variable {P : Program} {ops : Array Oper} {md : Region.Mode} {C : World → Prop}
theorem wp_ofF {o : Oper} {a : Act} {w : World} {K : Act → World → Prop} {Q : Exit → Act → World → Prop} (hh : o.wp P a w K QF) : o.wp P a w K Q := by
  unfold Oper.wp at *
  generalize (execOp a.eval o).run P w = r at *
  cases r with
  | ok n w' =>
    cases n <;> simp only [Oper.upon] at hh ⊢ <;>
      first
        | exact hh
        | exact Calls.mono hh (fun e w'' he => by cases e <;> first | exact he | exact he.elim | exact (he.elim fun _ h => h.elim fun _ h => h.elim))
  | halt x w' => cases x <;> simp only [Oper.upon] at hh ⊢ <;> first | exact hh | exact hh.elim
theorem wpOp_ofF {i : Nat} {a : Act} {w : World} {K : Act → World → Prop} {Q : Exit → Act → World → Prop} (hh : wpOp P ops QF i K a w) : wpOp P ops Q i K a w := by
  unfold wpOp at *
  split
  · simpa [*] using hh
  · rename_i o ho
    simp only [ho] at hh
    split
    · rename_i hw
      simp only [hw, if_true] at hh
      rcases hh with hh | ⟨_, h⟩
      · exact .inl (wp_ofF hh)
      · exact h.elim fun _ h => h.elim fun _ h => h.elim
    · rename_i hw; simp only [hw] at hh; exact hh
/-- Whether a value is already in its place makes no difference to an operation that is apart. -/
theorem wpOp_putY {j : Nat} {oi oj : Oper} {v : Value} {Y : Act → Prop} (hj : ops[j]? = some oj) (hap : oi.apart ops oj = true) (hsj : ∀ cs b, oj.op ≠ .select cs b)
    (keep : ∀ (a : Act) (u : Value), Y a → Y (a.put oj.dst u)) (keepD : ∀ (a : Act) d, Y a → Y { a with defers := d :: a.defers }) {K : Act → World → Prop} {a : Act} {w : World}
    (hy : Y a) (h : wpOp P ops QF j K (a.put oi.dst v) w) : wpOp P ops QF j (fun a' w' => Y a' ∧ K (a'.put oi.dst v) w') a w := by
  obtain ⟨h1, h2, h3⟩ := Oper.apart_spec hap
  unfold wpOp at *
  simp only [hj] at *
  rw [wanted_put oj a oi.dst v h1] at h
  split
  · rename_i hw
    simp only [hw, if_true] at h
    rcases h with h | ⟨_, h⟩
    case inr => exact h.elim fun _ h => h.elim fun _ h => h.elim
    refine .inl ?_
    unfold Oper.wp at *
    rw [execOp_put oj hsj a oi.dst v h1] at h
    generalize (execOp a.eval oj).run P w = r at *
    cases r with
    | ok n w' =>
      cases n <;> simp only [Oper.upon] at h ⊢
      case value u => exact ⟨keep a u hy, by rw [← Act.put_comm a v u h2]; exact h⟩
      case skip => exact ⟨keep a _ hy, by rw [← Act.put_comm a v undef h2]; exact h⟩
      case defer d =>
        refine ⟨keep _ _ (keepD _ d hy), ?_⟩
        rw [← Act.put_comm _ v undef h2, ← Act.put_defers]
        exact h
      case enter f args =>
        refine Calls.mono h fun e w'' he => ?_
        cases e with
        | returned u => exact ⟨keep a u hy, by rw [← Act.put_comm a v u h2]; exact he⟩
        | panicked c => exact he.elim
        | outgrown => exact he
      case row row args => exact Rows.mono h fun u w'' he => ⟨keep a u hy, by rw [← Act.put_comm a v u h2]; exact he⟩
    | halt x w' =>
      cases x <;> simp only [Oper.upon] at h ⊢
      case panic u => exact h.elim
  · rename_i hw
    simp only [hw] at h
    exact ⟨keep a _ hy, by rw [← Act.put_comm a v undef h2]; exact h⟩
/-- In every world of the class the operation yields v, and leaves what was there. -/
def YU (P : Program) (ops : Array Oper) (C : World → Prop) (o : Oper) (v : Value) (a : Act) : Prop := ∀ w0, C w0 → YieldsIn P ops (Up w0) o v a
def wpAnyU (P : Program) (md : Region.Mode) (ops : Array Oper) (C : World → Prop) (Q : Exit → Act → World → Prop) : Nat → Array Bool → Act → World → Prop
  | 0, listed, a, w => Region.ready md ops listed = [] ∧ ∀ w1, Up w w1 → C w1 → Q .normal a w1
  | f + 1, listed, a, w => ∀ w1, Up w w1 → C w1 → (Region.ready md ops listed = [] → Q .normal a w1) ∧
      ∀ i ∈ Region.ready md ops listed, wpOp P ops QF i (fun a' w' => C w' ∧ wpAnyU P md ops C Q f (listed.setIfInBounds i true) a' w') a w1
variable {Q : Exit → Act → World → Prop}
theorem anyU_up {f : Nat} {listed : Array Bool} {a : Act} {w w' : World} (h : wpAnyU P md ops C Q f listed a w) (hu : Up w w') : wpAnyU P md ops C Q f listed a w' := by
  cases f with
  | zero => exact ⟨h.1, fun w1 h1 hc => h.2 w1 (up_tr hu h1) hc⟩
  | succ f => exact fun w1 h1 hc => h w1 (up_tr hu h1) hc
theorem anyU_any : ∀ (f : Nat) (listed : Array Bool) (a : Act) (w : World), C w → wpAnyU P md ops C Q f listed a w → wpAny P md ops Q f listed a w
  | 0, _, _, _, hc, h => ⟨h.1, h.2 _ (Below.refl _ _) hc⟩
  | f + 1, _, _, _, hc, h => ⟨(h _ (Below.refl _ _) hc).1, fun i hi => wpOp_mono (fun a' w' hh => anyU_any f _ a' w' hh.1 hh.2) (wpOp_ofF ((h _ (Below.refl _ _) hc).2 i hi))⟩
theorem quiet_wpF {i : Nat} {oi : Oper} {v : Value} {a : Act} {w : World} {K : Act → World → Prop} (hi : ops[i]? = some oi) (hy : YieldsIn P ops (Up w) oi v a) (h : ∀ w', Up w w' → K (a.put oi.dst v) w') : wpOp P ops QF i K a w :=
  wpOp_of_qOp (C := Up w) (K := fun a' => a' = a.put oi.dst v) (Below.refl _ _) (fun a' w' hw' e => by subst e; exact h w' hw') (hy.qOp hi rfl)
theorem anyU_first (hup : ∀ w w', C w → Up w w' → C w') {i : Nat} {oi : Oper} {v : Value} (hi : ops[i]? = some oi) (hsel : ∀ (j : Nat) (o : Oper) cs b, ops[j]? = some o → o.op ≠ .select cs b) :
    ∀ (fuel : Nat) (listed : Array Bool) (a : Act) (w : World),
      (∀ j oj, ops[j]? = some oj → j ≠ i → listed.getD j true = false → (∀ e ∈ oj.after, Region.binds md e = true → e.on ≠ i) → oi.apart ops oj = true) →
      i ∈ Region.ready md ops listed → YU P ops C oi v a →
      wpAnyU P md ops C Q fuel (listed.setIfInBounds i true) (a.put oi.dst v) w → wpAnyU P md ops C Q (fuel + 1) listed a w := by
  intro fuel
  have self : ∀ (f : Nat) (listed : Array Bool) (a : Act) (w w1 : World), Up w w1 → C w1 → YU P ops C oi v a → wpAnyU P md ops C Q f (listed.setIfInBounds i true) (a.put oi.dst v) w →
      wpOp P ops QF i (fun a' w' => C w' ∧ wpAnyU P md ops C Q f (listed.setIfInBounds i true) a' w') a w1 := fun f listed a w w1 h1 hc hy H =>
    quiet_wpF hi (hy w1 hc) fun w' hw' => ⟨hup _ _ hc hw', anyU_up H (up_tr h1 hw')⟩
  induction fuel with
  | zero =>
    intro listed a w _ hr hy H w1 h1 hc
    refine ⟨fun h => (by rw [h] at hr; cases hr), fun j hj => ?_⟩
    by_cases hji : j = i
    · subst hji; exact self _ _ _ _ _ h1 hc hy H
    · have := ready_mono hj hji
      rw [H.1] at this
      cases this
  | succ fuel ih =>
    intro listed a w hfree hr hy H w1 h1 hc
    refine ⟨fun h => (by rw [h] at hr; cases hr), fun j hj => ?_⟩
    by_cases hji : j = i
    · subst hji; exact self _ _ _ _ _ h1 hc hy H
    · have h2 := (H w1 h1 hc).2 j (ready_mono hj hji)
      obtain ⟨hjun, oj, hoj, hall⟩ := mem_ready.1 hj
      have hnot : ∀ e ∈ oj.after, Region.binds md e = true → e.on ≠ i := fun e he hb heq => by
        have h1 := hall e he hb
        have h0 := (mem_ready.1 hr).1
        rw [heq] at h1
        rcases Nat.lt_or_ge i listed.size with h' | h'
        · simp [h'] at h0 h1; rw [h0] at h1; cases h1
        · simp [Array.getElem?_eq_none h'] at h1
      have hap := hfree j oj hoj hji hjun hnot
      obtain ⟨_, _, h3⟩ := Oper.apart_spec hap
      have hsi : ∀ cs b, oi.op ≠ .select cs b := fun cs b => hsel i oi cs b hi
      have h4 := wpOp_putY (Y := YU P ops C oi v) hoj hap (fun cs b => hsel j oj cs b hoj) (fun a u hy w0 h0 => (hy w0 h0).of_same (execOp_put oi hsi a oj.dst u h3) (wanted_put oi a oj.dst u h3)) (fun a d hy w0 h0 => (hy w0 h0).of_same rfl rfl) hy h2
      have hfree' : ∀ k ok, ops[k]? = some ok → k ≠ i → (listed.setIfInBounds j true).getD k true = false →
          (∀ e ∈ ok.after, Region.binds md e = true → e.on ≠ i) → oi.apart ops ok = true := fun k ok hk hki hun hno => by
        refine hfree k ok hk hki ?_ hno
        by_cases hjk : j = k
        · subst hjk; exact hjun
        · rw [getD_set_ne true hjk] at hun; exact hun
      refine wpOp_mono (fun a' w' h5 => ⟨h5.2.1, ih (listed.setIfInBounds j true) a' w' hfree' (ready_mono hr (Ne.symm hji)) h5.1 ?_⟩) h4
      rw [Array.setIfInBounds_comm _ _ hji]
      exact h5.2.2
def wpQU (P : Program) (ops : Array Oper) (C : World → Prop) (R : Act → Prop) : List Oper → Act → Prop
  | [], a => R a
  | o :: l, a => ∃ v, YU P ops C o v a ∧ wpQU P ops C R l (a.put o.dst v)
def setL : List Nat → Array Bool → Array Bool
  | [], listed => listed
  | k :: rs, listed => setL rs (listed.setIfInBounds k true)
def lexI (md : Region.Mode) (ops : Array Oper) : List Nat → Array Bool → Bool
  | [], _ => true
  | k :: rs, listed => (Region.ready md ops listed).contains k && Region.free md ops listed k && lexI md ops rs (listed.setIfInBounds k true)
def opsAt (ops : Array Oper) (rs : List Nat) : List Oper := rs.filterMap fun k => ops[k]?
theorem anyU_lex (hup : ∀ w w', C w → Up w w' → C w') {g : Nat} {R : Act → Prop} {w : World} (hs : Region.noSelect ops = true) (rs : List Nat) : ∀ (listed : Array Bool) (a : Act), (∀ k ∈ rs, k < ops.size) → lexI md ops rs listed = true →
    (∀ a', R a' → wpAnyU P md ops C Q g (setL rs listed) a' w) → wpQU P ops C R (opsAt ops rs) a → wpAnyU P md ops C Q (rs.length + g) listed a w := by
  induction rs with
  | nil => intro listed a _ _ hR h; simp only [List.length_nil, Nat.zero_add]; exact hR a h
  | cons k rs ih =>
    intro listed a hl hB hR h
    have hk : k < ops.size := hl k (by simp)
    have h0 : ops[k]? = some ops[k] := by simp [hk]
    simp only [lexI, Bool.and_eq_true] at hB
    obtain ⟨⟨hr, hf⟩, hB'⟩ := hB
    unfold opsAt at h
    rw [List.filterMap_cons_some h0] at h
    obtain ⟨v, hy, hK⟩ := h
    rw [show (k :: rs).length + g = (rs.length + g) + 1 by simp only [List.length_cons]; omega]
    refine anyU_first hup h0 (Region.noSelect_spec hs) (rs.length + g) listed a w (Region.free_spec h0 hf) (by simpa using hr) hy ?_
    exact ih _ _ (fun j hj => hl j (by simp [hj])) hB' (fun a' ha' => by simpa [setL] using hR a' ha') hK
theorem uniformU {a' : Act} (w00 : World) (h00 : C w00) (sz : Nat) (l : List Oper) : ∀ (a : Act), a.tmps.size = sz → dstsB sz l = true → (∀ w0, C w0 → wpQuiet P ops (Up w0) (fun x => x = a') l a) → wpQU P ops C (fun x => x = a') l a := by
  induction l with
  | nil => intro a _ _ h; exact h w00 h00
  | cons o l ih =>
    intro a hsz hB h
    unfold dstsB at hB
    cases hd : o.dst with
    | none => rw [hd] at hB; simp at hB
    | some d =>
      rw [hd] at hB
      simp only [Bool.and_eq_true, decide_eq_true_eq, List.all_eq_true] at hB
      obtain ⟨⟨h1, h2⟩, h3⟩ := hB
      have hne : ∀ o' ∈ l, ∀ e, o'.dst = some e → e ≠ d := fun o' ho' e he => by
        have := h2 o' ho'
        rw [he] at this
        simpa using this
      have hval : ∀ (w0 : World) (v : Value), wpQuiet P ops (Up w0) (fun x => x = a') l (a.put o.dst v) → v = a'.tmps.getD d undef := fun w0 v hq => by
        rw [q_get d l _ hq hne, hd, put_getD_same a d v (by rw [hsz]; exact h1)]
      have step : ∀ w0, C w0 → ∃ v, YieldsIn P ops (Up w0) o v a ∧ wpQuiet P ops (Up w0) (fun x => x = a') l (a.put o.dst v) := fun w0 hS => by
        have := h w0 hS
        unfold wpQuiet at this
        split at this
        · rename_i hw
          obtain ⟨v, k1, k2⟩ := this
          exact ⟨v, .inl ⟨hw, k1⟩, k2⟩
        · rename_i hw
          exact ⟨undef, .inr ⟨by simpa using hw, rfl⟩, this⟩
      refine ⟨a'.tmps.getD d undef, fun w0 h0 => ?_, ?_⟩
      · obtain ⟨v, k1, k2⟩ := step w0 h0
        rw [← hval w0 v k2]; exact k1
      · refine ih _ (by rw [put_size]; exact hsz) h3 (fun w0 h0 => ?_)
        obtain ⟨v, k1, k2⟩ := step w0 h0
        rw [← hval w0 v k2]; exact k2
theorem clsU (w0 : World) : (fun w' => ∃ x : Wd w0, w' = x.val) = Up w0 := by
  funext w'
  exact propext ⟨fun ⟨x, hx⟩ => hx ▸ x.bel, fun h => ⟨⟨w', h⟩, rfl⟩⟩
/-- One operation that may come up, and no other. -/
theorem anyU_one {f i : Nat} {o : Oper} {listed : Array Bool} {a : Act} {w : World} (hr : Region.ready md ops listed = [i]) (ho : ops[i]? = some o)
    (h : ∀ w1, Up w w1 → C w1 → wpList P ops (QN fun a' w' => C w' ∧ wpAnyU P md ops C Q f (listed.setIfInBounds i true) a' w') [o] a w1) : wpAnyU P md ops C Q (f + 1) listed a w := by
  intro w1 h1 hc
  refine ⟨fun h => (by rw [hr] at h; cases h), fun j hj => ?_⟩
  rw [hr] at hj
  obtain rfl : j = i := by simpa using hj
  have hh := h w1 h1 hc
  unfold wpOp
  simp only [ho]
  unfold wpList at hh
  split at hh
  · rename_i hw
    rw [if_pos hw]
    rcases hh with hh | ⟨_, hh⟩
    · refine .inl ?_
      unfold Oper.wp at *
      generalize (execOp a.eval o).run P w1 = r at *
      cases r with
      | ok n w' =>
        cases n <;> simp only [Oper.upon] at hh ⊢ <;>
          first
            | exact hh
            | exact Calls.mono hh (fun e w'' he => by cases e <;> first | exact he | exact he.elim | exact (he.elim fun _ h => h.elim fun _ h => h.elim))
      | halt x w' => cases x <;> simp only [Oper.upon] at hh ⊢ <;> first | exact hh | exact hh.elim
    · exact hh.elim fun _ h => h.elim fun _ h => h.elim
  · rename_i hw
    rw [if_neg hw]
    exact hh
theorem anyU_step {i : Nat} {o : Oper} {a : Act} {w1 : World} {K : Act → World → Prop} (ho : ops[i]? = some o) (hh : wpList P ops (QN K) [o] a w1) : wpOp P ops QF i K a w1 := by
  unfold wpOp
  simp only [ho]
  unfold wpList at hh
  split at hh
  · rename_i hw
    rw [if_pos hw]
    rcases hh with hh | ⟨_, hh⟩
    · refine .inl ?_
      unfold Oper.wp at *
      generalize (execOp a.eval o).run P w1 = r at *
      cases r with
      | ok n w' =>
        cases n <;> simp only [Oper.upon] at hh ⊢ <;>
          first
            | exact hh
            | exact Calls.mono hh (fun e w'' he => by cases e <;> first | exact he | exact he.elim | exact (he.elim fun _ h => h.elim fun _ h => h.elim))
      | halt x w' => cases x <;> simp only [Oper.upon] at hh ⊢ <;> first | exact hh | exact hh.elim
    · exact hh.elim fun _ h => h.elim fun _ h => h.elim
  · rename_i hw
    rw [if_neg hw]
    exact hh
/-- Two operations that may come up. -/
theorem anyU_two {f i k : Nat} {oi ok : Oper} {listed : Array Bool} {a : Act} {w : World} (hr : Region.ready md ops listed = [i, k]) (hoi : ops[i]? = some oi) (hok : ops[k]? = some ok)
    (h1 : ∀ w1, Up w w1 → C w1 → wpList P ops (QN fun a' w' => C w' ∧ wpAnyU P md ops C Q f (listed.setIfInBounds i true) a' w') [oi] a w1)
    (h2 : ∀ w1, Up w w1 → C w1 → wpList P ops (QN fun a' w' => C w' ∧ wpAnyU P md ops C Q f (listed.setIfInBounds k true) a' w') [ok] a w1) : wpAnyU P md ops C Q (f + 1) listed a w := by
  intro w1 hu hc
  refine ⟨fun h => (by rw [hr] at h; cases h), fun j hj => ?_⟩
  rw [hr] at hj
  have hj' : j = i ∨ j = k := by simpa using hj
  rcases hj' with rfl | rfl
  · exact anyU_step hoi (h1 w1 hu hc)
  · exact anyU_step hok (h2 w1 hu hc)
theorem anyU_nil {f : Nat} {listed : Array Bool} {a : Act} {w : World} (hr : Region.ready md ops listed = []) (h : ∀ w1, Up w w1 → C w1 → Q .normal a w1) : wpAnyU P md ops C Q f listed a w := by
  cases f with
  | zero => exact ⟨hr, h⟩
  | succ f => exact fun w1 h1 hc => ⟨fun _ => h w1 h1 hc, fun i hi => by rw [hr] at hi; cases hi⟩
end
def pickM {α : Type} : List Bool → List α → List α
  | true :: m, o :: l => o :: pickM m l
  | false :: m, _ :: l => pickM m l
  | _, _ => []
def idxM : List Bool → Nat → List Nat
  | true :: m, k => k :: idxM m (k + 1)
  | false :: m, k => idxM m (k + 1)
  | [], _ => []
theorem opsAt_mask (m : List Bool) : ∀ (pre l : List Oper), m.length ≤ l.length → opsAt (pre ++ l).toArray (idxM m pre.length) = pickM m l := by
  induction m with
  | nil => intro pre l _; cases l <;> rfl
  | cons b m ih =>
    intro pre l h
    cases l with
    | nil => simp at h
    | cons o l =>
      have hh := ih (pre ++ [o]) l (by simp at h; omega)
      simp only [List.append_assoc, List.cons_append, List.nil_append, List.length_append, List.length_cons, List.length_nil] at hh
      cases b with
      | false => simp only [idxM, pickM]; exact hh
      | true =>
        simp only [idxM, pickM]
        unfold opsAt at hh ⊢
        rw [List.filterMap_cons_some (b := o) (by simp)]
        rw [hh]
/-- A region of readers (mask: which), and what else there is in any order. -/
theorem wp_region_up {P : Program} {id : Nat} {Q : Exit → Act → World → Prop} {a : Act} {w : World} {l : List Oper} (C : World → Prop) (mask : List Bool) (hm : P.follows .mixedOrders = true)
    (hB : (Region.noSelect l.toArray && ((idxM mask 0).all (fun k => decide (k < l.toArray.size)) && (decide (mask.length ≤ l.length) && (decide ((idxM mask 0).length ≤ l.toArray.size) && lexI .any l.toArray (idxM mask 0) (Array.replicate l.toArray.size false))))) = true) (hD : dstsB a.tmps.size (pickM mask l) = true)
    (hup : ∀ w w', C w → Up w w' → C w') (hC : C w) (a' : Act)
    (h : ∀ w0, C w0 → wpQuiet P l.toArray (fun w' => ∃ x : Wd w0, w' = x.val) (fun x => x = a') (pickM mask l) a)
    (ht : wpAnyU P .any l.toArray C Q (l.toArray.size - (idxM mask 0).length) (setL (idxM mask 0) (Array.replicate l.toArray.size false)) a' w.drew) : (Code.region id l.toArray true).wp P Q a w := by
  simp only [Bool.and_eq_true, decide_eq_true_eq, List.all_eq_true] at hB
  obtain ⟨hsel, hin, hml, hsz, hlex⟩ := hB
  have hpk : opsAt l.toArray (idxM mask 0) = pickM mask l := opsAt_mask mask [] l hml
  generalize idxM mask 0 = rs at *
  have hC' : C w.drew := hup _ _ hC (bw_drew (Below.refl _ _))
  refine wp_region_any hm (anyU_any (C := C) _ _ _ _ hC' ?_)
  have := anyU_lex (P := P) (md := .any) (Q := Q) hup (g := l.toArray.size - rs.length) (w := w.drew) (R := fun x => x = a') hsel rs (Array.replicate l.toArray.size false) a hin hlex (fun x hx => by subst hx; exact ht) (uniformU w hC a.tmps.size (opsAt l.toArray rs) a rfl (by rw [hpk]; exact hD) (fun w0 h0 => by rw [← clsU, hpk]; exact h w0 h0))
  rwa [show rs.length + (l.toArray.size - rs.length) = l.toArray.size by omega] at this
section
variable {P : Program} {ops : Array Oper} {md : Region.Mode} {C : World → Prop}
/-- The head of a region in any order; then a tail. -/
def headU (P : Program) (md : Region.Mode) (ops : Array Oper) (C : World → Prop) (n : Nat) (L : Array Bool → Act → World → Prop) : Nat → Array Bool → Act → World → Prop
  | 0, listed, a, w => ∀ w1, Up w w1 → C w1 → L listed a w1
  | f + 1, listed, a, w => ∀ w1, Up w w1 → C w1 → Region.ready md ops listed ≠ [] ∧
      ∀ i ∈ Region.ready md ops listed, i < n ∧ wpOp P ops QF i (fun a' w' => C w' ∧ headU P md ops C n L f (listed.setIfInBounds i true) a' w') a w1
theorem headU_up {n f : Nat} {L : Array Bool → Act → World → Prop} {listed : Array Bool} {a : Act} {w w' : World} (h : headU P md ops C n L f listed a w) (hu : Up w w') : headU P md ops C n L f listed a w' := by
  cases f with
  | zero => exact fun w1 h1 hc => h w1 (up_tr hu h1) hc
  | succ f => exact fun w1 h1 hc => h w1 (up_tr hu h1) hc
theorem headU_any {n g : Nat} {L : Array Bool → Act → World → Prop} {Q : Exit → Act → World → Prop} (hL : ∀ listed a w, L listed a w → wpAny P md ops Q g listed a w) (f : Nat) :
    ∀ (listed : Array Bool) (a : Act) (w : World), C w → headU P md ops C n L f listed a w → wpAny P md ops Q (f + g) listed a w := by
  induction f with
  | zero => intro listed a w hc h; rw [Nat.zero_add]; exact hL _ _ _ (h _ (Below.refl _ _) hc)
  | succ f ih =>
    intro listed a w hc h
    rw [show f + 1 + g = (f + g) + 1 by omega]
    obtain ⟨h1, h2⟩ := h _ (Below.refl _ _) hc
    exact ⟨fun e => absurd e h1, fun i hi => wpOp_mono (fun a' w' hh => ih _ a' w' hh.1 hh.2) (wpOp_ofF (h2 i hi).2)⟩
theorem headU_first (hup : ∀ w w', C w → Up w w' → C w') {n i : Nat} {oi : Oper} {v : Value} {L : Array Bool → Act → World → Prop} (hi : ops[i]? = some oi) (hsel : ∀ (j : Nat) (o : Oper) cs b, ops[j]? = some o → o.op ≠ .select cs b)
    (hs : Region.sinkB md ops n = true) (hc : Region.chainB md ops n = true) (hn : n < ops.size) (hin : i < n) (hend : ∀ listed a w, L listed a w → ∀ j ∈ Region.ready md ops listed, n ≤ j) (f : Nat) :
    ∀ (listed : Array Bool) (a : Act) (w : World), HeadInv md ops n listed →
      (∀ j oj, ops[j]? = some oj → j ≠ i → listed.getD j true = false → (∀ e ∈ oj.after, Region.binds md e = true → e.on ≠ i) → oi.apart ops oj = true) →
      i ∈ Region.ready md ops listed → YU P ops C oi v a →
      headU P md ops C n L f (listed.setIfInBounds i true) (a.put oi.dst v) w → headU P md ops C n L (f + 1) listed a w := by
  have early : ∀ {listed : Array Bool}, HeadInv md ops n listed → i ∈ Region.ready md ops listed → ∀ j ∈ Region.ready md ops listed, j < n := fun {listed} inv hr j hj =>
    Nat.lt_of_not_le fun h => tail_waits hs hc hn inv _ i rfl hin (mem_ready.1 hr).1 j h hj
  have self : ∀ (f : Nat) (listed : Array Bool) (a : Act) (w w1 : World), Up w w1 → C w1 → YU P ops C oi v a → headU P md ops C n L f (listed.setIfInBounds i true) (a.put oi.dst v) w →
      wpOp P ops QF i (fun a' w' => C w' ∧ headU P md ops C n L f (listed.setIfInBounds i true) a' w') a w1 := fun f listed a w w1 h1 hc hy H =>
    quiet_wpF hi (hy w1 hc) fun w' hw' => ⟨hup _ _ hc hw', headU_up H (up_tr h1 hw')⟩
  induction f with
  | zero =>
    intro listed a w inv _ hr hy H w1 h1 hcw
    refine ⟨fun e => (by rw [e] at hr; cases hr), fun j hj => ⟨early inv hr j hj, ?_⟩⟩
    by_cases e : j = i
    · subst e; exact self _ _ _ _ _ h1 hcw hy H
    · have hq : ∃ w2, L (listed.setIfInBounds i true) (a.put oi.dst v) w2 := ⟨w1, H w1 h1 hcw⟩
      obtain ⟨w2, hq⟩ := hq
      have := hend _ _ _ hq j (ready_mono hj e)
      have := early inv hr j hj
      omega
  | succ f ih =>
    intro listed a w inv hfree hr hy H w1 h1 hcw
    refine ⟨fun e => (by rw [e] at hr; cases hr), fun j hj => ⟨early inv hr j hj, ?_⟩⟩
    by_cases hji : j = i
    · subst hji; exact self _ _ _ _ _ h1 hcw hy H
    · have h2 := ((H w1 h1 hcw).2 j (ready_mono hj hji)).2
      obtain ⟨hjun, oj, hoj, hall⟩ := mem_ready.1 hj
      have hnot : ∀ e ∈ oj.after, Region.binds md e = true → e.on ≠ i := fun e he hb hon => by
        have h1 := hall e he hb
        rw [hon, getD_both (mem_ready.1 hr).1] at h1
        cases h1
      have hap := hfree j oj hoj hji hjun hnot
      obtain ⟨_, _, h3⟩ := Oper.apart_spec hap
      have hsi : ∀ cs b, oi.op ≠ .select cs b := fun cs b => hsel i oi cs b hi
      have h4 := wpOp_putY (Y := YU P ops C oi v) hoj hap (fun cs b => hsel j oj cs b hoj) (fun a u hy w0 h0 => (hy w0 h0).of_same (execOp_put oi hsi a oj.dst u h3) (wanted_put oi a oj.dst u h3)) (fun a d hy w0 h0 => (hy w0 h0).of_same rfl rfl) hy h2
      have hfree' : ∀ k ok, ops[k]? = some ok → k ≠ i → (listed.setIfInBounds j true).getD k true = false →
          (∀ e ∈ ok.after, Region.binds md e = true → e.on ≠ i) → oi.apart ops ok = true := fun k ok hk hki hun hno => by
        refine hfree k ok hk hki ?_ hno
        by_cases hjk : j = k
        · subst hjk; exact hjun
        · rw [getD_set_ne true hjk] at hun; exact hun
      refine wpOp_mono (fun a' w' h5 => ⟨h5.2.1, ih (listed.setIfInBounds j true) a' w' (inv.set hj (early inv hr j hj)) hfree' (ready_mono hr (Ne.symm hji)) h5.1 ?_⟩) h4
      rw [Array.setIfInBounds_comm _ _ hji]
      exact h5.2.2
theorem headU_lex (hup : ∀ w w', C w → Up w w' → C w') {n g : Nat} {L : Array Bool → Act → World → Prop} {R : Act → Prop} {w : World} (hsel : Region.noSelect ops = true) (hs : Region.sinkB md ops n = true) (hc : Region.chainB md ops n = true) (hn : n < ops.size)
    (hend : ∀ listed a w, L listed a w → ∀ j ∈ Region.ready md ops listed, n ≤ j) (rs : List Nat) : ∀ (listed : Array Bool) (a : Act), HeadInv md ops n listed → (∀ k ∈ rs, k < n) → lexI md ops rs listed = true →
    (∀ a', R a' → headU P md ops C n L g (setL rs listed) a' w) → wpQU P ops C R (opsAt ops rs) a → headU P md ops C n L (rs.length + g) listed a w := by
  induction rs with
  | nil => intro listed a _ _ _ hR h; simp only [List.length_nil, Nat.zero_add]; exact hR a h
  | cons k rs ih =>
    intro listed a inv hl hB hR h
    have hk : k < n := hl k (by simp)
    have hk' : k < ops.size := by omega
    have h0 : ops[k]? = some ops[k] := by simp [hk']
    simp only [lexI, Bool.and_eq_true] at hB
    obtain ⟨⟨hr, hf⟩, hB'⟩ := hB
    have hr' : k ∈ Region.ready md ops listed := by simpa using hr
    unfold opsAt at h
    rw [List.filterMap_cons_some h0] at h
    obtain ⟨v, hy, hK⟩ := h
    rw [show (k :: rs).length + g = (rs.length + g) + 1 by simp only [List.length_cons]; omega]
    refine headU_first hup h0 (Region.noSelect_spec hsel) hs hc hn hk hend (rs.length + g) listed a w inv (Region.free_spec h0 hf) hr' hy ?_
    exact ih _ _ (inv.set hr' hk) (fun j hj => hl j (by simp [hj])) hB' (fun a' ha' => by simpa [setL] using hR a' ha') hK
/-- What is left of a region: a tail in a forced order. -/
def TailU (P : Program) (md : Region.Mode) (ops : Array Oper) (Q : Exit → Act → World → Prop) (n : Nat) (t : List Oper) (listed : Array Bool) (a : Act) (w : World) : Prop :=
  Region.seqB md ops (ops.size - n) n listed = true ∧ wpList P ops Q t a w
variable {n : Nat} {t : List Oper} {Q : Exit → Act → World → Prop}
theorem headU_end {listed : Array Bool} {a : Act} {w : World} (hs : Region.seqB md ops (ops.size - n) n listed = true) (h : ∀ w1, Up w w1 → C w1 → wpList P ops Q t a w1) : headU P md ops C n (TailU P md ops Q n t) 0 listed a w :=
  fun w1 h1 hc => ⟨hs, h w1 h1 hc⟩
theorem headU_one {f i : Nat} {o : Oper} {listed : Array Bool} {a : Act} {w : World} {L : Array Bool → Act → World → Prop} (hr : Region.ready md ops listed = [i]) (hin : i < n) (ho : ops[i]? = some o)
    (h : ∀ w1, Up w w1 → C w1 → wpList P ops (QN fun a' w' => C w' ∧ headU P md ops C n L f (listed.setIfInBounds i true) a' w') [o] a w1) : headU P md ops C n L (f + 1) listed a w := by
  intro w1 h1 hc
  refine ⟨fun h => (by rw [hr] at h; cases h), fun j hj => ?_⟩
  rw [hr] at hj
  obtain rfl : j = i := by simpa using hj
  exact ⟨hin, anyU_step ho (h w1 h1 hc)⟩
theorem headU_two {f i k : Nat} {oi ok : Oper} {listed : Array Bool} {a : Act} {w : World} {L : Array Bool → Act → World → Prop} (hr : Region.ready md ops listed = [i, k]) (hin : i < n) (hkn : k < n) (hoi : ops[i]? = some oi) (hok : ops[k]? = some ok)
    (h1 : ∀ w1, Up w w1 → C w1 → wpList P ops (QN fun a' w' => C w' ∧ headU P md ops C n L f (listed.setIfInBounds i true) a' w') [oi] a w1)
    (h2 : ∀ w1, Up w w1 → C w1 → wpList P ops (QN fun a' w' => C w' ∧ headU P md ops C n L f (listed.setIfInBounds k true) a' w') [ok] a w1) : headU P md ops C n L (f + 1) listed a w := by
  intro w1 hu hc
  refine ⟨fun h => (by rw [hr] at h; cases h), fun j hj => ?_⟩
  rw [hr] at hj
  have hj' : j = i ∨ j = k := by simpa using hj
  rcases hj' with rfl | rfl
  · exact ⟨hin, anyU_step hoi (h1 w1 hu hc)⟩
  · exact ⟨hkn, anyU_step hok (h2 w1 hu hc)⟩
end
/-- A region of readers (mask: which), what else there is ahead of n in any order, and a tail in a forced order. -/
theorem wp_region_ut {P : Program} {id : Nat} {Q : Exit → Act → World → Prop} {a : Act} {w : World} {l : List Oper} (C : World → Prop) (n : Nat) (mask : List Bool) (hm : P.follows .mixedOrders = true)
    (hB : (Region.noSelect l.toArray && ((idxM mask 0).all (fun k => decide (k < n)) && (decide (mask.length ≤ l.length) && (decide ((idxM mask 0).length ≤ n) && (decide (n < l.toArray.size) && (Region.sinkB .any l.toArray n && (Region.chainB .any l.toArray n &&
      lexI .any l.toArray (idxM mask 0) (Array.replicate l.toArray.size false)))))))) = true) (hD : dstsB a.tmps.size (pickM mask l) = true)
    (hup : ∀ w w', C w → Up w w' → C w') (hC : C w) (a' : Act)
    (h : ∀ w0, C w0 → wpQuiet P l.toArray (fun w' => ∃ x : Wd w0, w' = x.val) (fun x => x = a') (pickM mask l) a)
    (ht : headU P .any l.toArray C n (TailU P .any l.toArray Q n (l.drop n)) (n - (idxM mask 0).length) (setL (idxM mask 0) (Array.replicate l.toArray.size false)) a' w.drew) : (Code.region id l.toArray true).wp P Q a w := by
  simp only [Bool.and_eq_true, decide_eq_true_eq, List.all_eq_true] at hB
  obtain ⟨hsel, hin, hml, hsz, hn, hsk, hch, hlex⟩ := hB
  have hpk : opsAt l.toArray (idxM mask 0) = pickM mask l := opsAt_mask mask [] l hml
  generalize idxM mask 0 = rs at *
  have hC' : C w.drew := hup _ _ hC (bw_drew (Below.refl _ _))
  have hd : (l.drop n).length = l.toArray.size - n := by simp
  have inv : HeadInv .any l.toArray n (Array.replicate l.toArray.size false) :=
    ⟨by simp, fun j oj _ hl => (by rw [getD_replicate_false] at hl; cases hl), fun t _ ht => getD_in (by simpa using ht) (getD_replicate_false _ _)⟩
  have K := headU_lex (P := P) (md := .any) hup (g := n - rs.length) (w := w.drew) (L := TailU P .any l.toArray Q n (l.drop n)) (R := fun x => x = a') hsel hsk hch hn (fun listed a w hL => seqB_ready hL.1) rs (Array.replicate l.toArray.size false) a inv hin hlex (fun x hx => by subst hx; exact ht)
    (uniformU w hC a.tmps.size (opsAt l.toArray rs) a rfl (by rw [hpk]; exact hD) (fun w0 h0 => by rw [← clsU, hpk]; exact h w0 h0))
  rw [show rs.length + (n - rs.length) = n by omega] at K
  refine wp_region_any hm ?_
  have T := headU_any (Q := Q) (g := l.toArray.size - n) (fun listed a w hL => by
    have := wpAny_of_seq (md := .any) (Q' := Q) (l.drop n) n listed a w (fun j => by simp [List.getElem?_drop]) (by rw [hd]; exact hL.1) hL.2
    rwa [hd] at this) _ _ _ _ hC' K
  rwa [show n + (l.toArray.size - n) = l.toArray.size by omega] at T
end Go.Proofs.Ytfepdieeiplbnaa
