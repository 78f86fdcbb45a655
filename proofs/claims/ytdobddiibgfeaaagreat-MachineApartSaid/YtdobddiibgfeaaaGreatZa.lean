/-
  What the walks of this statement lean on (Heap, Bw, PickMath, QuietB, QuietTail, QuietNew, QuietU, QuietV, QuietI, Open, Append): shown.
-/
import Derived.WalkKit
import Derived.WalkSpells
import Derived.WalkLawsBesides
import Derived.Lib.Hide
import Derived.Deep.RegionHeld3
import Derived.Deep.QuietTactic
import Derived.BigQuiet
import Derived.StillTail
import Derived.Laws.Rows
import Derived.Laws.Tables
import Derived.Laws.CopyOwn
import Derived.Deep.DeepCutAuto
import Derived.Deep.Slices
import Derived.OpenShut
import Derived.Deep.AppendSrc
set_option linter.unusedVariables false
set_option linter.unusedSimpArgs false
namespace Go.Proofs.YtdobddiibgfeaaaGreat
theorem zhd {p : Prop} (h : p) : Go.RowKit.Hid p := Lib.hid h
section
open Go.RowKit

theorem zaQ (b o j : Nat) : (⟨b, o, none⟩ : Addr).add j = ⟨b, o + j, none⟩ := by
 unfold Addr.add; split
 · subst_vars; rfl
 · rfl
def Reads (w : World) (k n : Nat) (v : Value) (xs : List Value) : Prop :=
 xs.length = n * k ∧ (∀ u ∈ xs, u.oneCell' = true) ∧
 (
  (v = .slice none 0 0 ∧ n = 0) ∨
  ∃ b o c, v = .slice (some ⟨b, o, none⟩) n c ∧ b < w.heap.size ∧ n ≤ c ∧ c ≤ maxLen ∧ ∀ j u, xs[j]? = some u → w.cell? ⟨b, o + j, none⟩ = some u)

theorem Reads.nil (w : World) (k : Nat) : Reads w k 0 (.slice none 0 0) [] := ⟨by simp, by simp, .inl ⟨rfl, rfl⟩⟩

theorem Reads.below {w w' : World} {k n : Nat} {v : Value} {xs : List Value} (h : Reads w k n v xs) (hb : Below w.heap.size w w') : Reads w' k n v xs := by
 refine ⟨h.1, h.2.1, ?_⟩
 rcases h.2.2 with h | ⟨b, o, c, rfl, hlt, hc, hm, hcell⟩
 · exact .inl h
 · exact .inr ⟨b, o, c, rfl, Nat.lt_of_lt_of_le hlt hb.size, hc, hm, fun j u hj => by rw [hb.cell (p := ⟨b, o + j, none⟩) hlt]; exact hcell j u hj⟩

theorem Reads.own {w : World} {base e k n : Nat} {v : Value} {xs : List Value} (h : w.ownsRow base e k v n xs) (h1 : ∀ u ∈ xs, u.oneCell' = true) : Reads w k n v xs := by
 refine ⟨h.1, h1, ?_⟩
 rcases h.2 with h' | ⟨g, c, cur, rfl, hg, hb, hn, hm, hs, ht⟩
 · exact .inl h'
 · have hlt : g < w.heap.size := by
    by_cases hh : g < w.heap.size
    · exact hh
    · rw [Array.getElem?_eq_none (by omega)] at hb; cases hb
   refine .inr ⟨g, 0, c, rfl, hlt, hn, hm, fun j u hj => ?_⟩
   have hk : w.ownsRow base e k (.slice (some ⟨g, 0, none⟩) n c) n xs := h
   have hj' : j < n * k := by
    have := (List.getElem?_eq_some_iff.1 hj).1
    rw [h.1] at this; exact this
   rw [show 0 + j = j from Nat.zero_add j, hk.cellAt j hj', hj]
theorem Reads.shape {w : World} {k n : Nat} {v : Value} {xs : List Value} (h : Reads w k n v xs) : ∃ a c, v = .slice a n c := by
 rcases h.2.2 with ⟨rfl, rfl⟩ | ⟨b, o, c, rfl, _⟩
 · exact ⟨_, _, rfl⟩
 · exact ⟨_, _, rfl⟩
theorem zai {w : World} {base e k n : Nat} {v : Value} {xs : List Value} (h : w.ownsRow base e k v n xs) : ∃ a c, v = .slice a n c := by
 rcases h.2 with ⟨rfl, rfl⟩ | ⟨g, c, cur, rfl, _⟩
 · exact ⟨_, _, rfl⟩
 · exact ⟨_, _, rfl⟩
theorem za0 {w : World} {base base' e k n : Nat} {v : Value} {xs : List Value} (h : w.ownsRow base e k v n xs) (hb : base' ≤ base) : w.ownsRow base' e k v n xs := by
 refine ⟨h.1, ?_⟩
 rcases h.2 with h | ⟨g, c, cur, hv, hg, r⟩
 · exact .inl h
 · exact .inr ⟨g, c, cur, hv, Nat.le_trans hb hg, r⟩
theorem zaH (w : World) (a : Addr) (u : Value) : (w.setCell a u).heap.size = w.heap.size := by simp [World.setCell]
theorem zin (w : World) (a : Addr) (u : Value) (o : Obj) : ((w.setCell a u).alloc o).heap[w.heap.size]? = some o := by
 have := heap_alloc_new (w.setCell a u) o
 rwa [zaH] at this
theorem ze1 {w : World} {base e k n b : Nat} {v : Value} {xs : List Value} (h : w.ownsRow base e k v n xs) (hb : w.heap.size ≤ b) : v.ownBlock ≠ some b := by
 intro e
 have := (h.lt b e).2; omega
theorem za2 {B b o : Nat} {a w : World} {u : Value} (hb : B ≤ b) (h : Below B a w) : Below B a (w.setCell ⟨b, o, none⟩ u) := h.setCell hb u
theorem zbU {w : World} {b g : Nat} (h : g ≠ b) (o j : Nat) (u : Value) : (w.setCell ⟨b, o, none⟩ u).cell? ⟨g, j, none⟩ = w.cell? ⟨g, j, none⟩ :=
 World.cell?_of_block (Below.heap_setCell w _ u g h)
theorem ziC {w a : World} {row : Option Nat} (h : Below w.heap.size w a) : w.grownBy a row := ⟨h.os, h.tape, h.output, h.size, fun k hk _ => h.block k hk⟩
theorem zdv {w a b : World} {C : Nat} {row : Option Nat} (h : w.grownBy a row) (hC : w.heap.size ≤ C) (h2 : Below C a b) : w.grownBy b row :=
 ⟨h2.os.trans h.os, h2.tape.trans h.tape, h2.output.trans h.output, Nat.le_trans h.size h2.size, fun k hk hne => (h2.block k (Nat.lt_of_lt_of_le hk hC)).trans (h.block k hk hne)⟩
theorem zhO {w a : World} {p o : Nat} {u : Value} (h : w.grownBy a (some p)) : w.grownBy (a.setCell ⟨p, o, none⟩ u) (some p) :=
 ⟨h.os, h.tape, h.output, by rw [zaH]; exact h.size, fun k hk hne => (Below.heap_setCell a _ u k (fun e => hne (by rw [e]))).trans (h.block k hk hne)⟩
theorem zhP {w a : World} {row : Option Nat} {b o : Nat} {u : Value} (hb : w.heap.size ≤ b) (h : w.grownBy a row) : w.grownBy (a.setCell ⟨b, o, none⟩ u) row :=
 ⟨h.os, h.tape, h.output, by rw [zaH]; exact h.size, fun k hk hne => (Below.heap_setCell a _ u k (by simp only; omega)).trans (h.block k hk hne)⟩
theorem zay {w : World} {b g o : Nat} {u : Value} {x : Option Obj} (h : g ≠ b) (hx : w.heap[g]? = x) : (w.setCell ⟨b, o, none⟩ u).heap[g]? = x := (Below.heap_setCell w _ u g h).trans hx
theorem zc0 (w : World) (o : Obj) (b : Nat) (h : b = w.heap.size) : (w.alloc o).heap[b]? = some o := by subst h; exact heap_alloc_new w o
theorem zad {w : World} {b : Nat} {cs : Array Value} {t : TypeId} (h : w.heap[b]? = some (.cells cs t (0, 0))) {j : Nat} {u : Value} (hj : cs[j]? = some u) : w.cell? ⟨b, j, none⟩ = some u := by
 rw [cell_of_row w b j cs t (0, 0) h, hj]
theorem zaa {w : World} {b : Nat} {cs : Array Value} {t : TypeId} (h : w.heap[b]? = some (.cells cs t (0, 0))) (j : Nat) : w.frozen? ⟨b, j, none⟩ = false := by
 simp [World.frozen?, h]
theorem zao {w : World} {b : Nat} {o : Obj} (h : w.heap[b]? = some o) : b < w.heap.size := by
 by_cases hh : b < w.heap.size
 · exact hh
 · rw [Array.getElem?_eq_none (by omega)] at h; cases h
theorem zaG {w : World} {b : Nat} {cs : Array Value} {t : TypeId} (h : w.heap[b]? = some (.cells cs t (0, 0))) (j : Nat) (u : Value) : (w.setCell ⟨b, j, none⟩ u).heap[b]? = some (.cells (cs.setIfInBounds j u) t (0, 0)) := by
 simp [World.setCell, Array.getElem?_modify, h]
theorem zat (w : World) (o : Obj) : (w.alloc o).heap[w.heap.size]? = some o := heap_alloc_new w o
theorem zaq {B : Nat} {w w' : World} {b : Nat} {o : Obj} (hb : Below B w w') (hlt : b < B) (h : w.heap[b]? = some o) : w'.heap[b]? = some o := by rw [hb.block b hlt, h]
theorem zaF {B : Nat} {a w : World} (h : Below B a w) (n : Nat) : Below B a (w.drewN n) := ⟨h.os, h.tape, h.output, h.size, h.block⟩
theorem zlr {w w' : World} {b k n : Nat} {cs : Array Value} {t : TypeId} (h : w.heap[b]? = some (.cells cs t (0, 0))) (hn : cs.size = n * k) (h1 : ∀ u ∈ cs.toList, u.oneCell' = true) (hm : n ≤ maxLen) (hb : Below w.heap.size w w') :
 Reads w' k n (.slice (some ⟨b, 0, none⟩) n n) cs.toList := by
 refine Reads.below ?_ hb
 refine ⟨by simpa using hn, h1, .inr ⟨b, 0, n, rfl, zao h, Nat.le_refl _, hm, fun j u hj => ?_⟩⟩
 rw [show 0 + j = j from Nat.zero_add j]
 exact zad h (by simpa using hj)
theorem zgn {w w' : World} {b k n : Nat} {xs : List Value} {t : TypeId} (h : w.heap[b]? = some (.cells xs.toArray t (0, 0))) (hn : xs.length = n * k) (h1 : ∀ u ∈ xs, u.oneCell' = true) (hm : n ≤ maxLen) (hb : Below w.heap.size w w') :
 Reads w' k n (.slice (some ⟨b, 0, none⟩) n n) xs := by
 have := zlr (k := k) (n := n) h (by simpa using hn) (by simpa using h1) hm hb
 simpa using this
end
section
open Go.RowKit
theorem za8 {W w1 : World} (hb : Below W.heap.size W w1) : (∀ b o, b < W.heap.size → w1.cell? ⟨b, o, none⟩ = W.cell? ⟨b, o, none⟩) ∧ (∀ b o, b < W.heap.size → w1.frozen? ⟨b, o, none⟩ = W.frozen? ⟨b, o, none⟩) :=
 ⟨fun b o h => hb.cell (p := ⟨b, o, none⟩) h, fun b o h => hb.frozen (p := ⟨b, o, none⟩) h⟩
theorem zag {a b : World} (h : Below a.heap.size a b) (o : Obj) : Below a.heap.size a (b.alloc o) := h.alloc h.size o
theorem zae {a b c : World} (h : Below a.heap.size a b) (k : Below b.heap.size b c) : Below a.heap.size a c := h.trans (k.mono h.size)
theorem zaj {a b : World} {p o : Nat} (h : Below a.heap.size a b) (hp : a.heap.size ≤ p) (u : Value) : Below a.heap.size a (b.setCell ⟨p, o, none⟩ u) := h.setCell hp u
theorem zak {a b : World} (h : Below a.heap.size a b) : Below a.heap.size a b.drew := h.drew
theorem zbk {w w' : World} (h : Below w.drew.heap.size w.drew w') : Below w.heap.size w w' := ⟨h.os, h.tape, h.output, h.size, h.block⟩
abbrev SBel (w0 w' : World) : Prop := (∀ b o, b < w0.heap.size → w'.cell? ⟨b, o, none⟩ = w0.cell? ⟨b, o, none⟩) ∧ Below w0.heap.size w0 w'
theorem zk9 (w : World) : SBel w w.drew := ⟨fun _ _ _ => rfl, (Below.refl _ _).drew⟩
theorem sbel_tr {w0 w1 w2 : World} (h : SBel w0 w1) (k : Below w1.heap.size w1 w2) : SBel w0 w2 := ⟨(za8 (zae h.2 k)).1, zae h.2 k⟩
theorem zjO {w0 w1 : World} (h : SBel w0 w1) (o : Obj) : SBel w0 (w1.alloc o) := ⟨(za8 (zag h.2 o)).1, zag h.2 o⟩
end
section
open Go.RowKit
def zax (c n : Int) : Int := if c < 0 then (-(c + 1)) % n else c % n
theorem za5 (c n : Int) (h : 0 < n) : 0 ≤ zax c n ∧ zax c n < n := by
 unfold zax; split
 · exact ⟨Int.emod_nonneg _ (by omega), Int.emod_lt_of_pos _ h⟩
 · exact ⟨Int.emod_nonneg _ (by omega), Int.emod_lt_of_pos _ h⟩
theorem i64_of_wf {a : Int} (h : (Lit.int .i64 a).wf = true) : -9223372036854775808 ≤ a ∧ a ≤ 9223372036854775807 := by
 simp [Lit.wf, IntKind.min, IntKind.max, IntKind.bits, IntKind.signed] at h; omega
theorem zi8 (c n : Int) (h : c < 0) : -((c + 1).tmod n) = zax c n := by
 rw [show zax c n = (-(c + 1)) % n from if_pos h, ← Int.neg_tmod]
 exact Int.tmod_eq_emod_of_nonneg (by omega)
theorem zi7 (c n : Int) (h : ¬ c < 0) : c % n = zax c n := (if_neg h).symm
abbrev I64 (a : Int) : Prop := -9223372036854775808 ≤ a ∧ a ≤ 9223372036854775807
end
section
open Go.RowKit
structure Wd (w : World) where
 val : World
 bel : Below w.heap.size w val
instance (w : World) : Nonempty (Wd w) := ⟨⟨w, Below.refl _ _⟩⟩
theorem zaB {P : Program} {id : Nat} {Q : Exit → Act → World → Prop} {a : Act} {w : World} {l : List Oper} (hm : P.follows .mixedOrders = true) (hB : Region.lexB .any l.toArray = true)
 (h : wpQuiet P l.toArray (fun w' => ∃ x : Wd w, w' = x.val) (fun a' => ∀ w', (∃ x : Wd w, w' = x.val) → Q .normal a' w') l a) : (Code.region id l.toArray true).wp P Q a w :=
 wp_region_quiet (C := fun w' => ∃ x : Wd w, w' = x.val) hm hB ⟨⟨_, zak (Below.refl _ _)⟩, rfl⟩ h
theorem zcJ {P : Program} {f : FuncId} {args : Array Value} {w : World} {x : Wd w} {v : Value} (h : Calls P f args x.val (fun e w' => e = .returned v ∧ Below x.val.heap.size x.val w')) :
 Calls P f args x.val (fun e w'' => e = .returned v ∧ ∃ x' : Wd w, w'' = x'.val) := h.mono fun _ w' ⟨he, hb⟩ => ⟨he, ⟨w', zae x.bel hb⟩, rfl⟩
theorem zcp {P : Program} {f : FuncId} {args : Array Value} {w : World} {x : Wd w} {v : Value} (h : Calls P f args x.val (fun e w' => e = .returned v ∧ x.val = w')) :
 Calls P f args x.val (fun e w'' => e = .returned v ∧ ∃ x' : Wd w, w'' = x'.val) := h.mono fun _ _ ⟨he, hb⟩ => ⟨he, x, hb.symm⟩
theorem zal {w : World} {b o : Nat} {v : Value} (hlt : b < w.heap.size) (h : w.cell? ⟨b, o, none⟩ = some v) (x : Wd w) : x.val.cell? ⟨b, o, none⟩ = some v := by
 rw [x.bel.cell (p := ⟨b, o, none⟩) hlt]; exact h
end
section
open Go.RowKit
section
variable {P : Program} {ops : Array Oper} {md : Region.Mode} {C : World → Prop}
def zfY (P : Program) (md : Region.Mode) (ops : Array Oper) (C : World → Prop) (n : Nat) (L : Array Bool → Act → Prop) : Nat → Array Bool → Act → Prop
 | 0, done, a => L done a
 | f + 1, done, a => Region.ready md ops done ≠ [] ∧ ∀ i ∈ Region.ready md ops done, i < n ∧ qOp P ops C i (zfY P md ops C n L f (done.setIfInBounds i true)) a
theorem zme {n g : Nat} {L : Array Bool → Act → Prop} {Q : Exit → Act → World → Prop} (hL : ∀ done a w, C w → L done a → wpAny P md ops Q g done a w) (f : Nat) :
 ∀ (done : Array Bool) (a : Act) (w : World), C w → zfY P md ops C n L f done a → wpAny P md ops Q (f + g) done a w := by
 induction f with
 | zero => intro done a w hw h; rw [Nat.zero_add]; exact hL _ _ _ hw h
 |
  succ f ih =>
  intro done a w hw h
  rw [show f + 1 + g = (f + g) + 1 by omega]
  exact ⟨fun e => absurd e h.1, fun i hi => wpOp_of_qOp hw (fun a' w' hw' h' => ih _ a' w' hw' h') (h.2 i hi).2⟩
theorem zkh {n i : Nat} {o : Oper} {v : Value} {L : Array Bool → Act → Prop} (hi : ops[i]? = some o) (hsel : ∀ (j : Nat) (o : Oper) cs b, ops[j]? = some o → o.op ≠ .select cs b)
 (hs : Region.sinkB md ops n = true) (hc : Region.chainB md ops n = true) (hn : n < ops.size) (hin : i < n) (hend : ∀ done a, L done a → ∀ j ∈ Region.ready md ops done, n ≤ j) (f : Nat) :
 ∀ (done : Array Bool) (a : Act), HeadInv md ops n done →
  (∀ j oj, ops[j]? = some oj → j ≠ i → done.getD j true = false → (∀ e ∈ oj.after, Region.binds md e = true → e.on ≠ i) → o.apart ops oj = true) →
  i ∈ Region.ready md ops done → YieldsIn P ops C o v a →
  zfY P md ops C n L f (done.setIfInBounds i true) (a.put o.dst v) → zfY P md ops C n L (f + 1) done a := by
 have early : ∀ {done : Array Bool}, HeadInv md ops n done → i ∈ Region.ready md ops done → ∀ j ∈ Region.ready md ops done, j < n := fun {done} inv hr j hj =>
  Nat.lt_of_not_le fun h => tail_waits hs hc hn inv _ i rfl hin (mem_ready.1 hr).1 j h hj
 induction f with
 |
  zero =>
  intro done a inv _ hr hy H
  refine ⟨fun e => (by rw [e] at hr; cases hr), fun j hj => ⟨early inv hr j hj, ?_⟩⟩
  by_cases e : j = i
  · subst e; exact hy.qOp hi H
  · have := hend _ _ H j (ready_mono hj e)
    have := early inv hr j hj
    omega
 |
  succ f ih =>
  intro done a inv hap hr hy H
  refine ⟨fun e => (by rw [e] at hr; cases hr), fun j hj => ⟨early inv hr j hj, ?_⟩⟩
  by_cases e : j = i
  · subst e; exact hy.qOp hi H
  · obtain ⟨hjd, oj, hoj, hall⟩ := mem_ready.1 hj
    have hnw : ∀ e ∈ oj.after, Region.binds md e = true → e.on ≠ i := fun e he hb hon => by
     have h1 := hall e he hb
     rw [hon, getD_both (mem_ready.1 hr).1] at h1
     cases h1
    have step := qOp_put hoj (hap j oj hoj e hjd hnw) (fun cs b => hsel i o cs b hi) (fun cs b => hsel j oj cs b hoj) hy (H.2 j (ready_mono hj e)).2
    refine qOp_mono (fun a' h => ?_) step
    refine ih (done.setIfInBounds j true) a' (inv.set hj (early inv hr j hj)) (fun k ok hk hki hkd hkw => hap k ok hk hki ?_ hkw) (ready_mono hr (Ne.symm e)) h.1 ?_
    · by_cases ejk : j = k
      · subst ejk; exact hjd
      · rw [getD_set_ne true ejk] at hkd; exact hkd
    · rw [Array.setIfInBounds_comm _ _ e]; exact h.2
theorem head_lex {n g : Nat} {R : Act → Prop} (hsel : Region.noSelect ops = true) (hs : Region.sinkB md ops n = true) (hc : Region.chainB md ops n = true) (hn : n < ops.size) (l : List Oper) :
 ∀ (k : Nat) (done : Array Bool) (a : Act), (∀ j, j < l.length → l[j]? = ops[k + j]?) → k + l.length = n → HeadInv md ops n done → Region.lexHead md ops g l.length k done = true → wpQuiet P ops C R l a →
  zfY P md ops C n (fun done' a' => Region.seqB md ops g n done' = true ∧ R a') l.length done a := by
 induction l with
 |
  nil =>
  intro k done a _ hk _ hB h
  obtain rfl : k = n := by simpa using hk
  exact ⟨by simpa [Region.lexHead] using hB, h⟩
 |
  cons o l ih =>
  intro k done a hl hk inv hB h
  have h0 : ops[k]? = some o := by simpa using (hl 0 (by simp)).symm
  simp only [List.length_cons, Region.lexHead, Bool.and_eq_true] at hB
  obtain ⟨⟨hr, hf⟩, hB'⟩ := hB
  have hkn : k < n := by simp only [List.length_cons] at hk; omega
  have hr' : k ∈ Region.ready md ops done := by simpa using hr
  have hq : qOp P ops C k (wpQuiet P ops C R l) a := by unfold qOp; simp only [h0]; exact h
  obtain ⟨v, hy, hK⟩ := yieldsIn_of_qOp h0 hq
  refine zkh h0 (Region.noSelect_spec hsel) hs hc hn hkn (fun done' a' hL => seqB_ready hL.1) l.length done a inv (Region.free_spec h0 hf) hr' hy ?_
  refine ih (k + 1) _ _ (fun j hj => ?_) (by simp only [List.length_cons] at hk; omega) (inv.set hr' hkn) hB' hK
  have := hl (j + 1) (by simp; omega)
  simpa [Nat.add_assoc, Nat.add_comm 1 j] using this
end
theorem zec {P : Program} {C : World → Prop} {id : Nat} {Q : Exit → Act → World → Prop} {a : Act} {w : World} {l : List Oper} (n : Nat) (hm : P.follows .mixedOrders = true) (hB : Region.lexTailB .any l.toArray n = true)
 (hC : C { w with drawn := w.drawn + 1 }) (h : wpQuiet P l.toArray C (fun a' => ∀ w', C w' → wpList P l.toArray Q (l.drop n) a' w') (l.take n) a) : (Code.region id l.toArray true).wp P Q a w := by
 simp only [Region.lexTailB, Bool.and_eq_true, decide_eq_true_eq] at hB
 obtain ⟨⟨⟨⟨hsel, hn⟩, hs⟩, hc⟩, hlex⟩ := hB
 have hn' : n < l.length := by simpa using hn
 have ht : (l.take n).length = n := by simp; omega
 have hd : (l.drop n).length = l.toArray.size - n := by simp
 have inv : HeadInv .any l.toArray n (Array.replicate l.toArray.size false) :=
  ⟨by simp, fun j oj _ hl => (by rw [getD_replicate_false] at hl; cases hl), fun t _ ht => getD_in (by simpa using ht) (getD_replicate_false _ _)⟩
 have H := head_lex (md := .any) (g := l.toArray.size - n) hsel hs hc hn (l.take n) 0 _ a (fun j hj => by
  have hj' : j < n := by rw [ht] at hj; exact hj
  simp [hj']) (by simpa using ht) inv (by rw [ht]; exact hlex) h
 refine wp_region_any hm ?_
 have T := zme (Q := Q) (g := l.toArray.size - n) (fun done a' w' hw' hL => by
  have := wpAny_of_seq (md := .any) (Q' := Q) (l.drop n) n done a' w' (fun j => by simp [List.getElem?_drop]) (by rw [hd]; exact hL.1) (hL.2 w' hw')
  rwa [hd] at this) _ _ _ _ hC H
 rw [ht, show n + (l.toArray.size - n) = l.toArray.size by omega] at T
 exact T
theorem zau {P : Program} {id : Nat} {Q : Exit → Act → World → Prop} {a : Act} {w : World} {l : List Oper} (n : Nat) (hm : P.follows .mixedOrders = true) (hB : Region.lexTailB .any l.toArray n = true)
 (h : wpQuiet P l.toArray (fun w' => ∃ x : Wd w, w' = x.val) (fun a' => ∀ w', (∃ x : Wd w, w' = x.val) → wpList P l.toArray Q (l.drop n) a' w') (l.take n) a) : (Code.region id l.toArray true).wp P Q a w :=
 zec (C := fun w' => ∃ x : Wd w, w' = x.val) n hm hB ⟨⟨_, zak (Below.refl _ _)⟩, rfl⟩ h
end
section
open Go.RowKit
abbrev Rec := Nat → Option Obj
def upd (S : Rec) (b : Nat) (o : Obj) : Rec := fun x => if x = b then some o else S x
def CR (w0 : World) (S : Rec) (w' : World) : Prop := Below w0.heap.size w0 w' ∧ ∀ b o, S b = some o → w0.heap.size ≤ b ∧ w'.heap[b]? = some o
section
variable {P : Program} {ops : Array Oper} {md : Region.Mode} {w0 : World}
def YA (P : Program) (ops : Array Oper) (w0 : World) (o : Oper) (v : Value) (a : Act) : Prop := ∀ S, YieldsIn P ops (CR w0 S) o v a
def kOp (P : Program) (ops : Array Oper) (w0 : World) (i : Nat) (K : Act → Rec → Prop) (a : Act) (S : Rec) : Prop :=
 match ops[i]? with
 | none => K a S
 |
  some o => (∃ v, YA P ops w0 o v a ∧ K (a.put o.dst v) S) ∨
  (o.guard = none ∧ ∃ z, (∀ w : World, (execOp a.eval o).run P w = .ok (.value (.pointer (some ⟨w.heap.size, 0, none⟩))) (w.alloc z)) ∧ ∀ b, w0.heap.size ≤ b → S b = none → K (a.put o.dst (.pointer (some ⟨b, 0, none⟩))) (upd S b z)) ∨
  (o.guard = none ∧ ∃ b cs old t, S b = some (.cells old t (0, 0)) ∧ (∀ w : World, w.heap[b]? = some (.cells old t (0, 0)) → (execOp a.eval o).run P w = .ok .skip (w.setRow b cs)) ∧ K (a.put o.dst undef) (upd S b (.cells cs t (0, 0))))
theorem kOp_mono {i : Nat} {a : Act} {S : Rec} {K K' : Act → Rec → Prop} (h : ∀ a S, K a S → K' a S) (hh : kOp P ops w0 i K a S) : kOp P ops w0 i K' a S := by
 unfold kOp at *
 split at hh
 · exact h _ _ hh
 · rcases hh with ⟨v, h1, h2⟩ | ⟨g, z, h1, h2⟩ | ⟨g, b, cs, old, t, h1, h2, h3⟩
   · exact .inl ⟨v, h1, h _ _ h2⟩
   · exact .inr (.inl ⟨g, z, h1, fun b hb hs => h _ _ (h2 b hb hs)⟩)
   · exact .inr (.inr ⟨g, b, cs, old, t, h1, h2, h _ _ h3⟩)
def kAny (P : Program) (md : Region.Mode) (ops : Array Oper) (w0 : World) (L : Act → Rec → Prop) : Nat → Array Bool → Act → Rec → Prop
 | 0, listed, a, S => Region.ready md ops listed = [] ∧ L a S
 | f + 1, listed, a, S => (Region.ready md ops listed = [] → L a S) ∧ ∀ i ∈ Region.ready md ops listed, kOp P ops w0 i (kAny P md ops w0 L f (listed.setIfInBounds i true)) a S
theorem cr_lt {S : Rec} {w : World} {b : Nat} {o : Obj} (h : CR w0 S w) (hs : S b = some o) : b < w.heap.size := zao (h.2 b o hs).2
theorem cr_alloc {S : Rec} {w : World} (z : Obj) (h : CR w0 S w) : w0.heap.size ≤ w.heap.size ∧ S w.heap.size = none ∧ CR w0 (upd S w.heap.size z) (w.alloc z) := by
 have hs := h.1.size
 refine ⟨hs, ?_, h.1.alloc hs z, fun b o hb => ?_⟩
 · cases e : S w.heap.size with
   | none => rfl
   | some o => have := cr_lt h e; omega
 · unfold upd at hb
   by_cases e : b = w.heap.size
   · rw [if_pos e] at hb; injection hb with hb; subst hb e
     exact ⟨hs, zat w _⟩
   · rw [if_neg e] at hb
     have := h.2 b o hb
     exact ⟨this.1, zaq ((Below.refl w.heap.size w).alloc (Nat.le_refl _) z) (zao this.2) this.2⟩
theorem cr_store {S : Rec} {w : World} {b : Nat} {cs old : Array Value} {t : TypeId} (h : CR w0 S w) (hs : S b = some (.cells old t (0, 0))) : CR w0 (upd S b (.cells cs t (0, 0))) (w.setRow b cs) := by
 have hb := h.2 b _ hs
 refine ⟨below_setRow h.1 hb.1 _, fun b' o hb' => ?_⟩
 unfold upd at hb'
 by_cases e : b' = b
 · subst e
   rw [if_pos rfl] at hb'; injection hb' with hb'; subst hb'
   exact ⟨hb.1, setRow_heap _ _ _ _ _ _ hb.2⟩
 · rw [if_neg e] at hb'
   have := h.2 b' o hb'
   exact ⟨this.1, (setRow_other w b b' cs e).trans this.2⟩
theorem zjC {L : Act → Rec → Prop} {Q : Exit → Act → World → Prop} (hL : ∀ a S w, CR w0 S w → L a S → Q .normal a w) : ∀ (f : Nat) (listed : Array Bool) (a : Act) (S : Rec) (w : World), CR w0 S w →
 kAny P md ops w0 L f listed a S → wpAny P md ops Q f listed a w := by
 intro f
 induction f with
 | zero => intro listed a S w hw h; exact ⟨h.1, hL _ _ _ hw h.2⟩
 |
  succ f ih =>
  intro listed a S w hw h
  refine ⟨fun h0 => hL _ _ _ hw (h.1 h0), fun i hi => ?_⟩
  have hk := h.2 i hi
  unfold kOp at hk
  split at hk
  · rename_i ho
    unfold wpOp; simp only [ho]
    exact ih _ _ _ _ hw hk
  · rename_i o ho
    rcases hk with ⟨v, h1, h2⟩ | ⟨g, z, h1, h2⟩ | ⟨g, b, cs, old, t, h1, h2, h3⟩
    · exact wpOp_of_qOp (C := CR w0 S) (K := fun a' => kAny P md ops w0 L f (listed.setIfInBounds i true) a' S) hw (fun a' w' hw' h' => ih _ _ _ _ hw' h') ((h1 S).qOp ho h2)
    · unfold wpOp; simp only [ho]
      rw [if_pos (by simp [Region.wanted, g])]
      obtain ⟨c1, c2, c3⟩ := cr_alloc z hw
      refine .inl ?_
      unfold Oper.wp
      rw [h1 w]
      exact ih _ _ _ _ c3 (h2 _ c1 c2)
    · unfold wpOp; simp only [ho]
      rw [if_pos (by simp [Region.wanted, g])]
      refine .inl ?_
      unfold Oper.wp
      rw [h2 w (hw.2 b _ h1).2]
      exact ih _ _ _ _ (cr_store hw h1) h3
theorem kOp_put {j : Nat} {oi oj : Oper} {v : Value} (hj : ops[j]? = some oj) (hap : oi.apart ops oj = true)
 (hsi : ∀ cs b, oi.op ≠ .select cs b) (hsj : ∀ cs b, oj.op ≠ .select cs b) {K : Act → Rec → Prop} {a : Act} {S : Rec}
 (hy : YA P ops w0 oi v a) (h : kOp P ops w0 j K (a.put oi.dst v) S) :
 kOp P ops w0 j (fun a' S' => YA P ops w0 oi v a' ∧ K (a'.put oi.dst v) S') a S := by
 obtain ⟨h1, h2, h3⟩ := Oper.apart_spec hap
 have keep : ∀ u, YA P ops w0 oi v (a.put oj.dst u) := fun u S => (hy S).of_same (execOp_put oi hsi a oj.dst u h3) (wanted_put oi a oj.dst u h3)
 have he := execOp_put oj hsj a oi.dst v h1
 unfold kOp at *
 simp only [hj] at *
 rcases h with ⟨u, k1, k2⟩ | ⟨g, z, k1, k2⟩ | ⟨g, b, cs, old, t, k1, k2, k3⟩
 · exact .inl ⟨u, fun S => (k1 S).of_same he.symm (wanted_put oj a oi.dst v h1).symm, keep u, by rw [← Act.put_comm a v u h2]; exact k2⟩
 · exact .inr (.inl ⟨g, z, fun w => by rw [← he]; exact k1 w, fun b hb hs => ⟨keep _, by rw [← Act.put_comm a v _ h2]; exact k2 b hb hs⟩⟩)
 · exact .inr (.inr ⟨g, b, cs, old, t, k1, fun w hw => by rw [← he]; exact k2 w hw, keep _, by rw [← Act.put_comm a v _ h2]; exact k3⟩)
theorem zka {L : Act → Rec → Prop} {i : Nat} {oi : Oper} {v : Value} (hi : ops[i]? = some oi) (hsel : ∀ (j : Nat) (o : Oper) cs b, ops[j]? = some o → o.op ≠ .select cs b) :
 ∀ (fuel : Nat) (listed : Array Bool) (a : Act) (S : Rec),
  (∀ j oj, ops[j]? = some oj → j ≠ i → listed.getD j true = false → (∀ e ∈ oj.after, Region.binds md e = true → e.on ≠ i) → oi.apart ops oj = true) →
  i ∈ Region.ready md ops listed → YA P ops w0 oi v a →
  kAny P md ops w0 L fuel (listed.setIfInBounds i true) (a.put oi.dst v) S → kAny P md ops w0 L (fuel + 1) listed a S := by
 intro fuel
 have self : ∀ (K : Act → Rec → Prop) (a : Act) (S : Rec), YA P ops w0 oi v a → K (a.put oi.dst v) S → kOp P ops w0 i K a S := fun K a S hy h => by
  unfold kOp; simp only [hi]; exact .inl ⟨v, hy, h⟩
 induction fuel with
 |
  zero =>
  intro listed a S _ hr hy H
  refine ⟨fun h => (by rw [h] at hr; cases hr), fun j hj => ?_⟩
  by_cases hji : j = i
  · subst hji; exact self _ _ _ hy H
  · have := ready_mono hj hji
    rw [H.1] at this
    cases this
 |
  succ fuel ih =>
  intro listed a S hfree hr hy H
  refine ⟨fun h => (by rw [h] at hr; cases hr), fun j hj => ?_⟩
  by_cases hji : j = i
  · subst hji; exact self _ _ _ hy H
  · have h1 := H.2 j (ready_mono hj hji)
    obtain ⟨hjun, oj, hoj, hall⟩ := mem_ready.1 hj
    have hnot : ∀ e ∈ oj.after, Region.binds md e = true → e.on ≠ i := fun e he hb heq => by
     have h1 := hall e he hb
     have h0 := (mem_ready.1 hr).1
     rw [heq] at h1
     rcases Nat.lt_or_ge i listed.size with h' | h'
     · simp [h'] at h0 h1; rw [h0] at h1; cases h1
     · simp [Array.getElem?_eq_none h'] at h1
    have h2 := kOp_put hoj (hfree j oj hoj hji hjun hnot) (fun cs b => hsel i oi cs b hi) (fun cs b => hsel j oj cs b hoj) hy h1
    have hfree' : ∀ k ok, ops[k]? = some ok → k ≠ i → (listed.setIfInBounds j true).getD k true = false →
     (∀ e ∈ ok.after, Region.binds md e = true → e.on ≠ i) → oi.apart ops ok = true := fun k ok hk hki hun hno => by
     refine hfree k ok hk hki ?_ hno
     by_cases hjk : j = k
     · subst hjk; exact hjun
     · rw [getD_set_ne true hjk] at hun; exact hun
    refine kOp_mono (fun a' S' h3 => ih (listed.setIfInBounds j true) a' S' hfree' (ready_mono hr (Ne.symm hji)) h3.1 ?_) h2
    rw [Array.setIfInBounds_comm _ _ hji]
    exact h3.2
def wpQ2 (P : Program) (ops : Array Oper) (w0 : World) (R : Act → Prop) : List Oper → Act → Prop
 | [], a => R a
 | o :: l, a => ∃ v, YA P ops w0 o v a ∧ wpQ2 P ops w0 R l (a.put o.dst v)
def setN : Nat → Nat → Array Bool → Array Bool
 | 0, _, listed => listed
 | f + 1, k, listed => setN f (k + 1) (listed.setIfInBounds k true)
def lexN (md : Region.Mode) (ops : Array Oper) : Nat → Nat → Array Bool → Bool
 | 0, _, _ => true
 | f + 1, k, listed => (Region.ready md ops listed).contains k && Region.free md ops listed k && lexN md ops f (k + 1) (listed.setIfInBounds k true)
theorem kAny_lex {L : Act → Rec → Prop} {g : Nat} {R : Act → Prop} {S : Rec} (hs : Region.noSelect ops = true) (l : List Oper) : ∀ (k : Nat) (listed : Array Bool) (a : Act), (∀ j, j < l.length → l[j]? = ops[k + j]?) → lexN md ops l.length k listed = true →
 (∀ a', R a' → kAny P md ops w0 L g (setN l.length k listed) a' S) → wpQ2 P ops w0 R l a → kAny P md ops w0 L (l.length + g) listed a S := by
 induction l with
 | nil => intro k listed a _ _ hR h; simp only [List.length_nil, Nat.zero_add]; exact hR a h
 |
  cons o l ih =>
  intro k listed a hl hB hR h
  have h0 : ops[k]? = some o := by simpa using (hl 0 (by simp)).symm
  simp only [List.length_cons, lexN, Bool.and_eq_true] at hB
  obtain ⟨⟨hr, hf⟩, hB'⟩ := hB
  obtain ⟨v, hy, hK⟩ := h
  rw [show (o :: l).length + g = (l.length + g) + 1 by simp only [List.length_cons]; omega]
  refine zka h0 (Region.noSelect_spec hs) (l.length + g) listed a S (Region.free_spec h0 hf) (by simpa using hr) hy ?_
  exact ih (k + 1) _ _ (fun j hj => by have := hl (j + 1) (by simp; omega); simpa [Nat.add_assoc, Nat.add_comm 1 j] using this) hB' (fun a' ha' => by simpa [setN] using hR a' ha') hK
theorem put_getD (a : Act) (d d' : Tmp) (v : Value) (h : d' ≠ d) : (a.put (some d') v).tmps.getD d undef = a.tmps.getD d undef := by
 simp [Act.put, Array.getD_eq_getD_getElem?, h]
theorem zet (a : Act) (d : Tmp) (v : Value) (h : d < a.tmps.size) : (a.put (some d) v).tmps.getD d undef = v := by
 simp [Act.put, Array.getD_eq_getD_getElem?, h]
theorem zi5 (a : Act) (d : Option Tmp) (v : Value) : (a.put d v).tmps.size = a.tmps.size := by
 cases d <;> simp [Act.put]
theorem q_get {C : World → Prop} {a' : Act} (d : Tmp) (l : List Oper) : ∀ (a : Act), wpQuiet P ops C (fun x => x = a') l a → (∀ o ∈ l, ∀ e, o.dst = some e → e ≠ d) → a'.tmps.getD d undef = a.tmps.getD d undef := by
 induction l with
 | nil => intro a h _; have h' : a = a' := h; rw [h']
 |
  cons o l ih =>
  intro a h hd
  have key : ∀ v, (a.put o.dst v).tmps.getD d undef = a.tmps.getD d undef := fun v => by
   cases e : o.dst with
   | none => rfl
   | some e' => exact put_getD a d e' v (hd o (by simp) e' e)
  unfold wpQuiet at h
  split at h
  · obtain ⟨v, _, h2⟩ := h
    rw [ih _ h2 (fun o' ho' => hd o' (by simp [ho'])), key]
  · rw [ih _ h (fun o' ho' => hd o' (by simp [ho'])), key]
def zg8 (sz : Nat) : List Oper → Bool
 | [] => true
 | o :: l => (match o.dst with | none => false | some d => decide (d < sz) && l.all (fun o' => match o'.dst with | none => false | some e => decide (e ≠ d))) && zg8 sz l
theorem zmL (w0 : World) : CR w0 (fun _ => none) w0 := ⟨Below.refl _ _, fun b o hb => (by cases hb)⟩
theorem uniform {a' : Act} (sz : Nat) (l : List Oper) : ∀ (a : Act), a.tmps.size = sz → zg8 sz l = true → (∀ S, (∃ w, CR w0 S w) → wpQuiet P ops (CR w0 S) (fun x => x = a') l a) → wpQ2 P ops w0 (fun x => x = a') l a := by
 induction l with
 | nil => intro a _ _ h; exact h (fun _ => none) ⟨w0, zmL w0⟩
 |
  cons o l ih =>
  intro a hsz hB h
  unfold zg8 at hB
  cases hd : o.dst with
  | none => rw [hd] at hB; simp at hB
  |
   some d =>
   rw [hd] at hB
   simp only [Bool.and_eq_true, decide_eq_true_eq, List.all_eq_true] at hB
   obtain ⟨⟨h1, h2⟩, h3⟩ := hB
   have hne : ∀ o' ∈ l, ∀ e, o'.dst = some e → e ≠ d := fun o' ho' e he => by
    have := h2 o' ho'
    rw [he] at this
    simpa using this
   have hval : ∀ (S : Rec) (v : Value), wpQuiet P ops (CR w0 S) (fun x => x = a') l (a.put o.dst v) → v = a'.tmps.getD d undef := fun S v hq => by
    rw [q_get d l _ hq hne, hd, zet a d v (by rw [hsz]; exact h1)]
   have step : ∀ S, (∃ w, CR w0 S w) → ∃ v, YieldsIn P ops (CR w0 S) o v a ∧ wpQuiet P ops (CR w0 S) (fun x => x = a') l (a.put o.dst v) := fun S hS => by
    have := h S hS
    unfold wpQuiet at this
    split at this
    · rename_i hw
      obtain ⟨v, k1, k2⟩ := this
      exact ⟨v, .inl ⟨hw, k1⟩, k2⟩
    · rename_i hw
      exact ⟨undef, .inr ⟨by simpa using hw, rfl⟩, this⟩
   refine ⟨a'.tmps.getD d undef, fun S => ?_, ?_⟩
   · by_cases hS : ∃ w, CR w0 S w
     · obtain ⟨v, k1, k2⟩ := step S hS
       rw [← hval S v k2]; exact k1
     · obtain ⟨v, k1, k2⟩ := step (fun _ => none) ⟨w0, zmL w0⟩
       rw [← hval _ v k2]
       rcases k1 with ⟨k, _⟩ | k
       · exact .inl ⟨k, fun w hw => absurd ⟨w, hw⟩ hS⟩
       · exact .inr k
   · refine ih _ (by rw [zi5]; exact hsz) h3 (fun S hS => ?_)
     obtain ⟨v, k1, k2⟩ := step S hS
     rw [← hval S v k2]; exact k2
end
structure WdS (w0 : World) (S : Rec) where
 val : World
 ok : CR w0 S val
theorem cls {w0 : World} {S : Rec} : (fun w' => ∃ x : WdS w0 S, w' = x.val) = CR w0 S := by
 funext w'
 exact propext ⟨fun ⟨x, hx⟩ => hx ▸ x.ok, fun h => ⟨⟨w', h⟩, rfl⟩⟩
theorem quiet_n {P : Program} {f : FuncId} {args : Array Value} {w : World} {S : Rec} {x : WdS w S} {v : Value} (h : Calls P f args x.val (fun e w' => e = .returned v ∧ Below x.val.heap.size x.val w')) :
 Calls P f args x.val (fun e w'' => e = .returned v ∧ ∃ x' : WdS w S, w'' = x'.val) :=
 h.mono fun _ w' ⟨he, hb⟩ => ⟨he, ⟨w', zae x.ok.1 hb, fun b o hs => ⟨(x.ok.2 b o hs).1, zaq hb (zao (x.ok.2 b o hs).2) (x.ok.2 b o hs).2⟩⟩, rfl⟩
theorem zdo {w : World} {S : Rec} {b o : Nat} {v : Value} (hlt : b < w.heap.size) (h : w.cell? ⟨b, o, none⟩ = some v) (x : WdS w S) : x.val.cell? ⟨b, o, none⟩ = some v := by
 rw [x.ok.1.cell (p := ⟨b, o, none⟩) hlt]; exact h
def newB (ops : Array Oper) (n : Nat) : Bool :=
 let D := setN n 0 (Array.replicate ops.size false)
 Region.noSelect ops && (decide (ops.size = n + 4) && (lexN .any ops n 0 (Array.replicate ops.size false) && (decide (Region.ready .any ops D = [n, n + 1]) && (decide (Region.ready .any ops (D.setIfInBounds n true) = [n + 1]) && (decide (Region.ready .any ops (D.setIfInBounds (n + 1) true) = [n]) &&
 (decide (Region.ready .any ops ((D.setIfInBounds n true).setIfInBounds (n + 1) true) = [n + 2]) && (decide (Region.ready .any ops (((D.setIfInBounds n true).setIfInBounds (n + 1) true).setIfInBounds (n + 2) true) = [n + 3]) &&
 decide (Region.ready .any ops ((((D.setIfInBounds n true).setIfInBounds (n + 1) true).setIfInBounds (n + 2) true).setIfInBounds (n + 3) true) = []))))))))
theorem zgc {P : Program} {id : Nat} {Q : Exit → Act → World → Prop} {a : Act} {w : World} {l : List Oper} (n : Nat) (hm : P.follows .mixedOrders = true) (hB : newB l.toArray n = true) (hD : zg8 a.tmps.size (l.take n) = true)
 (o1 o2 s1 s2 : Oper) (h1 : l.toArray[n]? = some o1) (h2 : l.toArray[n + 1]? = some o2) (h3 : l.toArray[n + 2]? = some s1) (h4 : l.toArray[n + 3]? = some s2)
 (g1 : o1.guard = none) (g2 : o2.guard = none) (g3 : s1.guard = none) (g4 : s2.guard = none) (p1 p2 : Tmp) (e1 : o1.dst = some p1) (e2 : o2.dst = some p2) (e3 : s1.dst = none) (e4 : s2.dst = none) (hne : p1 ≠ p2)
 (old1 old2 c1 c2 : Array Value) (t1 t2 : TypeId)
 (r1 : ∀ (a : Act) (w : World), (execOp a.eval o1).run P w = .ok (.value (.pointer (some ⟨w.heap.size, 0, none⟩))) (w.alloc (.cells old1 t1)))
 (r2 : ∀ (a : Act) (w : World), (execOp a.eval o2).run P w = .ok (.value (.pointer (some ⟨w.heap.size, 0, none⟩))) (w.alloc (.cells old2 t2)))
 (a' : Act) (h : ∀ S, Nonempty (WdS w S) → wpQuiet P l.toArray (fun w' => ∃ x : WdS w S, w' = x.val) (fun x => x = a') (l.take n) a)
 (hst : ∀ b1 b2, b1 ≠ b2 → (∀ w' : World, w'.heap[b1]? = some (.cells old1 t1 (0, 0)) → (execOp ((a'.put (some p1) (.pointer (some ⟨b1, 0, none⟩))).put (some p2) (.pointer (some ⟨b2, 0, none⟩))).eval s1).run P w' = .ok .skip (w'.setRow b1 c1)) ∧
  (∀ w' : World, w'.heap[b2]? = some (.cells old2 t2 (0, 0)) → (execOp ((a'.put (some p1) (.pointer (some ⟨b1, 0, none⟩))).put (some p2) (.pointer (some ⟨b2, 0, none⟩))).eval s2).run P w' = .ok .skip (w'.setRow b2 c2)))
 (hQ : ∀ b1 b2 w', w.heap.size ≤ b1 → w.heap.size ≤ b2 → b1 ≠ b2 → Below w.heap.size w w' → w'.heap[b1]? = some (.cells c1 t1 (0, 0)) → w'.heap[b2]? = some (.cells c2 t2 (0, 0)) →
  Q .normal ((a'.put (some p1) (.pointer (some ⟨b1, 0, none⟩))).put (some p2) (.pointer (some ⟨b2, 0, none⟩))) w') : (Code.region id l.toArray true).wp P Q a w := by
 simp only [newB, Bool.and_eq_true, decide_eq_true_eq] at hB
 obtain ⟨hsel, hsz, hlex, hr0, hr1, hr2, hr3, hr4, hr5⟩ := hB
 have hn : (l.take n).length = n := by simp at hsz ⊢; omega
 refine wp_region_any hm ?_
 have fin : ∀ (b1 b2 : Nat) (S : Rec), w.heap.size ≤ b1 → w.heap.size ≤ b2 → b1 ≠ b2 → S b1 = some (.cells old1 t1 (0, 0)) → S b2 = some (.cells old2 t2 (0, 0)) →
  kAny P .any l.toArray w (fun a'' S => ∃ b1 b2, w.heap.size ≤ b1 ∧ w.heap.size ≤ b2 ∧ b1 ≠ b2 ∧ a'' = (a'.put (some p1) (.pointer (some ⟨b1, 0, none⟩))).put (some p2) (.pointer (some ⟨b2, 0, none⟩)) ∧ S b1 = some (.cells c1 t1 (0, 0)) ∧ S b2 = some (.cells c2 t2 (0, 0)))
   2 (((setN n 0 (Array.replicate l.toArray.size false)).setIfInBounds n true).setIfInBounds (n + 1) true) ((a'.put (some p1) (.pointer (some ⟨b1, 0, none⟩))).put (some p2) (.pointer (some ⟨b2, 0, none⟩))) S := by
  intro b1 b2 S hb1 hb2 hb hS1 hS2
  obtain ⟨k1, k2⟩ := hst b1 b2 hb
  refine ⟨fun h0 => (by rw [hr3] at h0; cases h0), fun i hi => ?_⟩
  rw [hr3] at hi
  obtain rfl : i = n + 2 := by simpa using hi
  unfold kOp; simp only [h3]
  refine .inr (.inr ⟨g3, b1, c1, old1, t1, hS1, k1, ?_⟩)
  rw [e3]
  refine ⟨fun h0 => (by rw [hr4] at h0; cases h0), fun i hi => ?_⟩
  rw [hr4] at hi
  obtain rfl : i = n + 3 := by simpa using hi
  unfold kOp; simp only [h4]
  refine .inr (.inr ⟨g4, b2, c2, old2, t2, by unfold upd; rw [if_neg (Ne.symm hb)]; exact hS2, k2, ?_⟩)
  rw [e4]
  exact ⟨hr5, b1, b2, hb1, hb2, hb, rfl, by unfold upd; rw [if_neg hb, if_pos rfl], by unfold upd; rw [if_pos rfl]⟩
 have K := kAny_lex (md := .any) (g := 4) (S := fun _ => none) (R := fun x => x = a') hsel (l.take n) 0 (Array.replicate l.toArray.size false) a (fun j hj => by
  have hj' : j < n := by rw [hn] at hj; exact hj
  simp [hj']) (by rw [hn]; exact hlex) (fun x hx => by
  subst hx
  rw [hn]
  refine ⟨fun h0 => (by rw [hr0] at h0; cases h0), fun i hi => ?_⟩
  rw [hr0] at hi
  have hi' : i = n ∨ i = n + 1 := by simpa using hi
  rcases hi' with rfl | rfl
  · unfold kOp; simp only [h1]
    refine .inr (.inl ⟨g1, _, r1 _, fun b1 hb1 _ => ?_⟩)
    rw [e1]
    refine ⟨fun h0 => (by rw [hr1] at h0; cases h0), fun i' hi => ?_⟩
    rw [hr1] at hi
    obtain rfl : i' = i + 1 := by simpa using hi
    unfold kOp; simp only [h2]
    refine .inr (.inl ⟨g2, _, r2 _, fun b2 hb2 hs2 => ?_⟩)
    rw [e2]
    have hb : b1 ≠ b2 := fun e => by subst e; unfold upd at hs2; rw [if_pos rfl] at hs2; cases hs2
    exact fin b1 b2 _ hb1 hb2 hb (by unfold upd; rw [if_neg hb, if_pos rfl]) (by unfold upd; rw [if_pos rfl])
  · unfold kOp; simp only [h2]
    refine .inr (.inl ⟨g2, _, r2 _, fun b2 hb2 _ => ?_⟩)
    rw [e2]
    refine ⟨fun h0 => (by rw [hr2] at h0; cases h0), fun i' hi => ?_⟩
    rw [hr2] at hi
    obtain rfl : i' = n := by simpa using hi
    unfold kOp; simp only [h1]
    refine .inr (.inl ⟨g1, _, r1 _, fun b1 hb1 hs1 => ?_⟩)
    rw [e1]
    have hb : b1 ≠ b2 := fun e => by subst e; unfold upd at hs1; rw [if_pos rfl] at hs1; cases hs1
    have := fin b1 b2 (upd (upd (fun _ => none) b2 (.cells old2 t2 (0, 0))) b1 (.cells old1 t1 (0, 0))) hb1 hb2 hb (by unfold upd; rw [if_pos rfl]) (by unfold upd; rw [if_neg (Ne.symm hb), if_pos rfl])
    rw [Array.setIfInBounds_comm _ _ (show i' + 1 ≠ i' by omega)]
    rw [Act.put_comm x (x := some p2) (y := some p1) _ _ (fun d hd => by injection hd with hd; subst hd; intro e; injection e with e; exact hne e)]
    exact this) (uniform a.tmps.size (l.take n) a rfl hD (fun S hS => by obtain ⟨w1, hw1⟩ := hS; rw [← cls]; exact h S ⟨⟨w1, hw1⟩⟩))
 rw [hn] at K
 rw [hsz]
 refine zjC (w0 := w) (fun a'' S w' hw' hL => ?_) _ _ _ (fun _ => none) _ ⟨zak (Below.refl _ _), fun b o hb => (by cases hb)⟩ (by rw [← hsz]; rw [← hsz] at K; exact K)
 obtain ⟨b1, b2, q1, q2, q3, rfl, q5, q6⟩ := hL
 exact hQ b1 b2 w' q1 q2 q3 hw'.1 (hw'.2 b1 _ q5).2 (hw'.2 b2 _ q6).2
theorem zhm {P : Program} {o : Oper} {a : Act} (ty : TypeId) (x y : Operand) (ho : o.op = .store ty x y) (g : Nat) (cells : Array Value) (hx : a.eval x = .pointer (some ⟨g, 0, none⟩)) (hy : a.eval y = .agg cells)
 (t : TypeId) (old : Array Value) (hi : (P.info? ty).map (·.size) = some cells.size) (hold : old.size = cells.size) (h1 : cells.all (·.oneCell') = true) (w : World) (hg : w.heap[g]? = some (.cells old t (0, 0))) :
 (execOp a.eval o).run P w = .ok .skip (w.setRow g cells) := by
 unfold execOp
 simp only [ho, hx, hy, Instr.storeAt, Instr.sureAddr, Sem.run_bind, Sem.run_pure, Result.andThen_ok, run_storeVar_row w g t ty old cells hg hi hold h1]
end
section
open Go.RowKit
abbrev Up (w w' : World) : Prop := Below w.heap.size w w'
theorem zcI {a b c : World} (h : Up a b) (k : Up b c) : Up a c := zae h k
abbrev QF : Exit → Act → World → Prop := fun _ _ _ => False
def QN (K : Act → World → Prop) : Exit → Act → World → Prop
 | .normal, a, w => K a w
 | _, _, _ => False
section
variable {P : Program} {ops : Array Oper} {md : Region.Mode} {C : World → Prop}
theorem wp_ofF {o : Oper} {a : Act} {w : World} {K : Act → World → Prop} {Q : Exit → Act → World → Prop} (hh : o.wp P a w K QF) : o.wp P a w K Q := by
 unfold Oper.wp at *
 generalize (execOp a.eval o).run P w = r at *
 cases r with
 |
  ok n w' =>
  cases n <;> simp only [Oper.upon] at hh ⊢ <;>
   first
    | exact hh
    | exact Calls.mono hh (fun e w'' he => by cases e <;> first | exact he | exact he.elim | exact (he.elim fun _ h => h.elim fun _ h => h.elim))
 | halt x w' => cases x <;> simp only [Oper.upon] at hh ⊢ <;> first | exact hh | exact hh.elim
theorem ziV {i : Nat} {a : Act} {w : World} {K : Act → World → Prop} {Q : Exit → Act → World → Prop} (hh : wpOp P ops QF i K a w) : wpOp P ops Q i K a w := by
 unfold wpOp at *
 split
 · simpa [*] using hh
 · rename_i o ho
   simp only [ho] at hh
   split
   · rename_i hw
     simp only [hw, if_true] at hh
     rcases hh with hh | ⟨_, h⟩
     · exact .inl (wp_ofF hh)
     · exact h.elim fun _ h => h.elim fun _ h => h.elim
   · rename_i hw; simp only [hw] at hh; exact hh
theorem zhj {j : Nat} {oi oj : Oper} {v : Value} {Y : Act → Prop} (hj : ops[j]? = some oj) (hap : oi.apart ops oj = true) (hsj : ∀ cs b, oj.op ≠ .select cs b)
 (keep : ∀ (a : Act) (u : Value), Y a → Y (a.put oj.dst u)) (keepD : ∀ (a : Act) d, Y a → Y { a with defers := d :: a.defers }) {K : Act → World → Prop} {a : Act} {w : World}
 (hy : Y a) (h : wpOp P ops QF j K (a.put oi.dst v) w) : wpOp P ops QF j (fun a' w' => Y a' ∧ K (a'.put oi.dst v) w') a w := by
 obtain ⟨h1, h2, h3⟩ := Oper.apart_spec hap
 unfold wpOp at *
 simp only [hj] at *
 rw [wanted_put oj a oi.dst v h1] at h
 split
 · rename_i hw
   simp only [hw, if_true] at h
   rcases h with h | ⟨_, h⟩
   case inr => exact h.elim fun _ h => h.elim fun _ h => h.elim
   refine .inl ?_
   unfold Oper.wp at *
   rw [execOp_put oj hsj a oi.dst v h1] at h
   generalize (execOp a.eval oj).run P w = r at *
   cases r with
   |
    ok n w' =>
    cases n <;> simp only [Oper.upon] at h ⊢
    case value u => exact ⟨keep a u hy, by rw [← Act.put_comm a v u h2]; exact h⟩
    case skip => exact ⟨keep a _ hy, by rw [← Act.put_comm a v undef h2]; exact h⟩
    case defer d =>
     refine ⟨keep _ _ (keepD _ d hy), ?_⟩
     rw [← Act.put_comm _ v undef h2, ← Act.put_defers]
     exact h
    case enter f args =>
     refine Calls.mono h fun e w'' he => ?_
     cases e with
     | returned u => exact ⟨keep a u hy, by rw [← Act.put_comm a v u h2]; exact he⟩
     | panicked c => exact he.elim
     | outgrown => exact he
    case row row args => exact Rows.mono h fun u w'' he => ⟨keep a u hy, by rw [← Act.put_comm a v u h2]; exact he⟩
   |
    halt x w' =>
    cases x <;> simp only [Oper.upon] at h ⊢
    case panic u => exact h.elim
 · rename_i hw
   simp only [hw] at h
   exact ⟨keep a _ hy, by rw [← Act.put_comm a v undef h2]; exact h⟩
def YU (P : Program) (ops : Array Oper) (C : World → Prop) (o : Oper) (v : Value) (a : Act) : Prop := ∀ w0, C w0 → YieldsIn P ops (Up w0) o v a
def zbh (P : Program) (md : Region.Mode) (ops : Array Oper) (C : World → Prop) (Q : Exit → Act → World → Prop) : Nat → Array Bool → Act → World → Prop
 | 0, listed, a, w => Region.ready md ops listed = [] ∧ ∀ w1, Up w w1 → C w1 → Q .normal a w1
 | f + 1, listed, a, w => ∀ w1, Up w w1 → C w1 → (Region.ready md ops listed = [] → Q .normal a w1) ∧
  ∀ i ∈ Region.ready md ops listed, wpOp P ops QF i (fun a' w' => C w' ∧ zbh P md ops C Q f (listed.setIfInBounds i true) a' w') a w1
variable {Q : Exit → Act → World → Prop}
theorem anyU_up {f : Nat} {listed : Array Bool} {a : Act} {w w' : World} (h : zbh P md ops C Q f listed a w) (hu : Up w w') : zbh P md ops C Q f listed a w' := by
 cases f with
 | zero => exact ⟨h.1, fun w1 h1 hc => h.2 w1 (zcI hu h1) hc⟩
 | succ f => exact fun w1 h1 hc => h w1 (zcI hu h1) hc
theorem zjy : ∀ (f : Nat) (listed : Array Bool) (a : Act) (w : World), C w → zbh P md ops C Q f listed a w → wpAny P md ops Q f listed a w
 | 0, _, _, _, hc, h => ⟨h.1, h.2 _ (Below.refl _ _) hc⟩
 | f + 1, _, _, _, hc, h => ⟨(h _ (Below.refl _ _) hc).1, fun i hi => wpOp_mono (fun a' w' hh => zjy f _ a' w' hh.1 hh.2) (ziV ((h _ (Below.refl _ _) hc).2 i hi))⟩
theorem zhz {i : Nat} {oi : Oper} {v : Value} {a : Act} {w : World} {K : Act → World → Prop} (hi : ops[i]? = some oi) (hy : YieldsIn P ops (Up w) oi v a) (h : ∀ w', Up w w' → K (a.put oi.dst v) w') : wpOp P ops QF i K a w :=
 wpOp_of_qOp (C := Up w) (K := fun a' => a' = a.put oi.dst v) (Below.refl _ _) (fun a' w' hw' e => by subst e; exact h w' hw') (hy.qOp hi rfl)
theorem zkI (hup : ∀ w w', C w → Up w w' → C w') {i : Nat} {oi : Oper} {v : Value} (hi : ops[i]? = some oi) (hsel : ∀ (j : Nat) (o : Oper) cs b, ops[j]? = some o → o.op ≠ .select cs b) :
 ∀ (fuel : Nat) (listed : Array Bool) (a : Act) (w : World),
  (∀ j oj, ops[j]? = some oj → j ≠ i → listed.getD j true = false → (∀ e ∈ oj.after, Region.binds md e = true → e.on ≠ i) → oi.apart ops oj = true) →
  i ∈ Region.ready md ops listed → YU P ops C oi v a →
  zbh P md ops C Q fuel (listed.setIfInBounds i true) (a.put oi.dst v) w → zbh P md ops C Q (fuel + 1) listed a w := by
 intro fuel
 have self : ∀ (f : Nat) (listed : Array Bool) (a : Act) (w w1 : World), Up w w1 → C w1 → YU P ops C oi v a → zbh P md ops C Q f (listed.setIfInBounds i true) (a.put oi.dst v) w →
  wpOp P ops QF i (fun a' w' => C w' ∧ zbh P md ops C Q f (listed.setIfInBounds i true) a' w') a w1 := fun f listed a w w1 h1 hc hy H =>
  zhz hi (hy w1 hc) fun w' hw' => ⟨hup _ _ hc hw', anyU_up H (zcI h1 hw')⟩
 induction fuel with
 |
  zero =>
  intro listed a w _ hr hy H w1 h1 hc
  refine ⟨fun h => (by rw [h] at hr; cases hr), fun j hj => ?_⟩
  by_cases hji : j = i
  · subst hji; exact self _ _ _ _ _ h1 hc hy H
  · have := ready_mono hj hji
    rw [H.1] at this
    cases this
 |
  succ fuel ih =>
  intro listed a w hfree hr hy H w1 h1 hc
  refine ⟨fun h => (by rw [h] at hr; cases hr), fun j hj => ?_⟩
  by_cases hji : j = i
  · subst hji; exact self _ _ _ _ _ h1 hc hy H
  · have h2 := (H w1 h1 hc).2 j (ready_mono hj hji)
    obtain ⟨hjun, oj, hoj, hall⟩ := mem_ready.1 hj
    have hnot : ∀ e ∈ oj.after, Region.binds md e = true → e.on ≠ i := fun e he hb heq => by
     have h1 := hall e he hb
     have h0 := (mem_ready.1 hr).1
     rw [heq] at h1
     rcases Nat.lt_or_ge i listed.size with h' | h'
     · simp [h'] at h0 h1; rw [h0] at h1; cases h1
     · simp [Array.getElem?_eq_none h'] at h1
    have hap := hfree j oj hoj hji hjun hnot
    obtain ⟨_, _, h3⟩ := Oper.apart_spec hap
    have hsi : ∀ cs b, oi.op ≠ .select cs b := fun cs b => hsel i oi cs b hi
    have h4 := zhj (Y := YU P ops C oi v) hoj hap (fun cs b => hsel j oj cs b hoj) (fun a u hy w0 h0 => (hy w0 h0).of_same (execOp_put oi hsi a oj.dst u h3) (wanted_put oi a oj.dst u h3)) (fun a d hy w0 h0 => (hy w0 h0).of_same rfl rfl) hy h2
    have hfree' : ∀ k ok, ops[k]? = some ok → k ≠ i → (listed.setIfInBounds j true).getD k true = false →
     (∀ e ∈ ok.after, Region.binds md e = true → e.on ≠ i) → oi.apart ops ok = true := fun k ok hk hki hun hno => by
     refine hfree k ok hk hki ?_ hno
     by_cases hjk : j = k
     · subst hjk; exact hjun
     · rw [getD_set_ne true hjk] at hun; exact hun
    refine wpOp_mono (fun a' w' h5 => ⟨h5.2.1, ih (listed.setIfInBounds j true) a' w' hfree' (ready_mono hr (Ne.symm hji)) h5.1 ?_⟩) h4
    rw [Array.setIfInBounds_comm _ _ hji]
    exact h5.2.2
def wpQU (P : Program) (ops : Array Oper) (C : World → Prop) (R : Act → Prop) : List Oper → Act → Prop
 | [], a => R a
 | o :: l, a => ∃ v, YU P ops C o v a ∧ wpQU P ops C R l (a.put o.dst v)
def setL : List Nat → Array Bool → Array Bool
 | [], listed => listed
 | k :: rs, listed => setL rs (listed.setIfInBounds k true)
def lexI (md : Region.Mode) (ops : Array Oper) : List Nat → Array Bool → Bool
 | [], _ => true
 | k :: rs, listed => (Region.ready md ops listed).contains k && Region.free md ops listed k && lexI md ops rs (listed.setIfInBounds k true)
def zfa (ops : Array Oper) (rs : List Nat) : List Oper := rs.filterMap fun k => ops[k]?
theorem zjx (hup : ∀ w w', C w → Up w w' → C w') {g : Nat} {R : Act → Prop} {w : World} (hs : Region.noSelect ops = true) (rs : List Nat) : ∀ (listed : Array Bool) (a : Act), (∀ k ∈ rs, k < ops.size) → lexI md ops rs listed = true →
 (∀ a', R a' → zbh P md ops C Q g (setL rs listed) a' w) → wpQU P ops C R (zfa ops rs) a → zbh P md ops C Q (rs.length + g) listed a w := by
 induction rs with
 | nil => intro listed a _ _ hR h; simp only [List.length_nil, Nat.zero_add]; exact hR a h
 |
  cons k rs ih =>
  intro listed a hl hB hR h
  have hk : k < ops.size := hl k (by simp)
  have h0 : ops[k]? = some ops[k] := by simp [hk]
  simp only [lexI, Bool.and_eq_true] at hB
  obtain ⟨⟨hr, hf⟩, hB'⟩ := hB
  unfold zfa at h
  rw [List.filterMap_cons_some h0] at h
  obtain ⟨v, hy, hK⟩ := h
  rw [show (k :: rs).length + g = (rs.length + g) + 1 by simp only [List.length_cons]; omega]
  refine zkI hup h0 (Region.noSelect_spec hs) (rs.length + g) listed a w (Region.free_spec h0 hf) (by simpa using hr) hy ?_
  exact ih _ _ (fun j hj => hl j (by simp [hj])) hB' (fun a' ha' => by simpa [setL] using hR a' ha') hK
theorem zgB {a' : Act} (w00 : World) (h00 : C w00) (sz : Nat) (l : List Oper) : ∀ (a : Act), a.tmps.size = sz → zg8 sz l = true → (∀ w0, C w0 → wpQuiet P ops (Up w0) (fun x => x = a') l a) → wpQU P ops C (fun x => x = a') l a := by
 induction l with
 | nil => intro a _ _ h; exact h w00 h00
 |
  cons o l ih =>
  intro a hsz hB h
  unfold zg8 at hB
  cases hd : o.dst with
  | none => rw [hd] at hB; simp at hB
  |
   some d =>
   rw [hd] at hB
   simp only [Bool.and_eq_true, decide_eq_true_eq, List.all_eq_true] at hB
   obtain ⟨⟨h1, h2⟩, h3⟩ := hB
   have hne : ∀ o' ∈ l, ∀ e, o'.dst = some e → e ≠ d := fun o' ho' e he => by
    have := h2 o' ho'
    rw [he] at this
    simpa using this
   have hval : ∀ (w0 : World) (v : Value), wpQuiet P ops (Up w0) (fun x => x = a') l (a.put o.dst v) → v = a'.tmps.getD d undef := fun w0 v hq => by
    rw [q_get d l _ hq hne, hd, zet a d v (by rw [hsz]; exact h1)]
   have step : ∀ w0, C w0 → ∃ v, YieldsIn P ops (Up w0) o v a ∧ wpQuiet P ops (Up w0) (fun x => x = a') l (a.put o.dst v) := fun w0 hS => by
    have := h w0 hS
    unfold wpQuiet at this
    split at this
    · rename_i hw
      obtain ⟨v, k1, k2⟩ := this
      exact ⟨v, .inl ⟨hw, k1⟩, k2⟩
    · rename_i hw
      exact ⟨undef, .inr ⟨by simpa using hw, rfl⟩, this⟩
   refine ⟨a'.tmps.getD d undef, fun w0 h0 => ?_, ?_⟩
   · obtain ⟨v, k1, k2⟩ := step w0 h0
     rw [← hval w0 v k2]; exact k1
   · refine ih _ (by rw [zi5]; exact hsz) h3 (fun w0 h0 => ?_)
     obtain ⟨v, k1, k2⟩ := step w0 h0
     rw [← hval w0 v k2]; exact k2
theorem clsU (w0 : World) : (fun w' => ∃ x : Wd w0, w' = x.val) = Up w0 := by
 funext w'
 exact propext ⟨fun ⟨x, hx⟩ => hx ▸ x.bel, fun h => ⟨⟨w', h⟩, rfl⟩⟩
theorem zaA {f i : Nat} {o : Oper} {listed : Array Bool} {a : Act} {w : World} (hr : Region.ready md ops listed = [i]) (ho : ops[i]? = some o)
 (h : ∀ w1, Up w w1 → C w1 → wpList P ops (QN fun a' w' => C w' ∧ zbh P md ops C Q f (listed.setIfInBounds i true) a' w') [o] a w1) : zbh P md ops C Q (f + 1) listed a w := by
 intro w1 h1 hc
 refine ⟨fun h => (by rw [hr] at h; cases h), fun j hj => ?_⟩
 rw [hr] at hj
 obtain rfl : j = i := by simpa using hj
 have hh := h w1 h1 hc
 unfold wpOp
 simp only [ho]
 unfold wpList at hh
 split at hh
 · rename_i hw
   rw [if_pos hw]
   rcases hh with hh | ⟨_, hh⟩
   · refine .inl ?_
     unfold Oper.wp at *
     generalize (execOp a.eval o).run P w1 = r at *
     cases r with
     |
      ok n w' =>
      cases n <;> simp only [Oper.upon] at hh ⊢ <;>
       first
        | exact hh
        | exact Calls.mono hh (fun e w'' he => by cases e <;> first | exact he | exact he.elim | exact (he.elim fun _ h => h.elim fun _ h => h.elim))
     | halt x w' => cases x <;> simp only [Oper.upon] at hh ⊢ <;> first | exact hh | exact hh.elim
   · exact hh.elim fun _ h => h.elim fun _ h => h.elim
 · rename_i hw
   rw [if_neg hw]
   exact hh
theorem zaP {i : Nat} {o : Oper} {a : Act} {w1 : World} {K : Act → World → Prop} (ho : ops[i]? = some o) (hh : wpList P ops (QN K) [o] a w1) : wpOp P ops QF i K a w1 := by
 unfold wpOp
 simp only [ho]
 unfold wpList at hh
 split at hh
 · rename_i hw
   rw [if_pos hw]
   rcases hh with hh | ⟨_, hh⟩
   · refine .inl ?_
     unfold Oper.wp at *
     generalize (execOp a.eval o).run P w1 = r at *
     cases r with
     |
      ok n w' =>
      cases n <;> simp only [Oper.upon] at hh ⊢ <;>
       first
        | exact hh
        | exact Calls.mono hh (fun e w'' he => by cases e <;> first | exact he | exact he.elim | exact (he.elim fun _ h => h.elim fun _ h => h.elim))
     | halt x w' => cases x <;> simp only [Oper.upon] at hh ⊢ <;> first | exact hh | exact hh.elim
   · exact hh.elim fun _ h => h.elim fun _ h => h.elim
 · rename_i hw
   rw [if_neg hw]
   exact hh
theorem zeb {f i k : Nat} {oi ok : Oper} {listed : Array Bool} {a : Act} {w : World} (hr : Region.ready md ops listed = [i, k]) (hoi : ops[i]? = some oi) (hok : ops[k]? = some ok)
 (h1 : ∀ w1, Up w w1 → C w1 → wpList P ops (QN fun a' w' => C w' ∧ zbh P md ops C Q f (listed.setIfInBounds i true) a' w') [oi] a w1)
 (h2 : ∀ w1, Up w w1 → C w1 → wpList P ops (QN fun a' w' => C w' ∧ zbh P md ops C Q f (listed.setIfInBounds k true) a' w') [ok] a w1) : zbh P md ops C Q (f + 1) listed a w := by
 intro w1 hu hc
 refine ⟨fun h => (by rw [hr] at h; cases h), fun j hj => ?_⟩
 rw [hr] at hj
 have hj' : j = i ∨ j = k := by simpa using hj
 rcases hj' with rfl | rfl
 · exact zaP hoi (h1 w1 hu hc)
 · exact zaP hok (h2 w1 hu hc)
theorem zbv {f : Nat} {listed : Array Bool} {a : Act} {w : World} (hr : Region.ready md ops listed = []) (h : ∀ w1, Up w w1 → C w1 → Q .normal a w1) : zbh P md ops C Q f listed a w := by
 cases f with
 | zero => exact ⟨hr, h⟩
 | succ f => exact fun w1 h1 hc => ⟨fun _ => h w1 h1 hc, fun i hi => by rw [hr] at hi; cases hi⟩
end
def zbb {α : Type} : List Bool → List α → List α
 | true :: m, o :: l => o :: zbb m l
 | false :: m, _ :: l => zbb m l
 | _, _ => []
def idxM : List Bool → Nat → List Nat
 | true :: m, k => k :: idxM m (k + 1)
 | false :: m, k => idxM m (k + 1)
 | [], _ => []
theorem zeN (m : List Bool) : ∀ (pre l : List Oper), m.length ≤ l.length → zfa (pre ++ l).toArray (idxM m pre.length) = zbb m l := by
 induction m with
 | nil => intro pre l _; cases l <;> rfl
 |
  cons b m ih =>
  intro pre l h
  cases l with
  | nil => simp at h
  |
   cons o l =>
   have hh := ih (pre ++ [o]) l (by simp at h; omega)
   simp only [List.append_assoc, List.cons_append, List.nil_append, List.length_append, List.length_cons, List.length_nil] at hh
   cases b with
   | false => simp only [idxM, zbb]; exact hh
   |
    true =>
    simp only [idxM, zbb]
    unfold zfa at hh ⊢
    rw [List.filterMap_cons_some (b := o) (by simp)]
    rw [hh]
theorem zaV {P : Program} {id : Nat} {Q : Exit → Act → World → Prop} {a : Act} {w : World} {l : List Oper} (C : World → Prop) (mask : List Bool) (hm : P.follows .mixedOrders = true)
 (hB : (Region.noSelect l.toArray && ((idxM mask 0).all (fun k => decide (k < l.toArray.size)) && (decide (mask.length ≤ l.length) && (decide ((idxM mask 0).length ≤ l.toArray.size) && lexI .any l.toArray (idxM mask 0) (Array.replicate l.toArray.size false))))) = true) (hD : zg8 a.tmps.size (zbb mask l) = true)
 (hup : ∀ w w', C w → Up w w' → C w') (hC : C w) (a' : Act)
 (h : ∀ w0, C w0 → wpQuiet P l.toArray (fun w' => ∃ x : Wd w0, w' = x.val) (fun x => x = a') (zbb mask l) a)
 (ht : zbh P .any l.toArray C Q (l.toArray.size - (idxM mask 0).length) (setL (idxM mask 0) (Array.replicate l.toArray.size false)) a' w.drew) : (Code.region id l.toArray true).wp P Q a w := by
 simp only [Bool.and_eq_true, decide_eq_true_eq, List.all_eq_true] at hB
 obtain ⟨hsel, hin, hml, hsz, hlex⟩ := hB
 have hpk : zfa l.toArray (idxM mask 0) = zbb mask l := zeN mask [] l hml
 generalize idxM mask 0 = rs at *
 have hC' : C w.drew := hup _ _ hC (zak (Below.refl _ _))
 refine wp_region_any hm (zjy (C := C) _ _ _ _ hC' ?_)
 have := zjx (P := P) (md := .any) (Q := Q) hup (g := l.toArray.size - rs.length) (w := w.drew) (R := fun x => x = a') hsel rs (Array.replicate l.toArray.size false) a hin hlex (fun x hx => by subst hx; exact ht) (zgB w hC a.tmps.size (zfa l.toArray rs) a rfl (by rw [hpk]; exact hD) (fun w0 h0 => by rw [← clsU, hpk]; exact h w0 h0))
 rwa [show rs.length + (l.toArray.size - rs.length) = l.toArray.size by omega] at this
section
variable {P : Program} {ops : Array Oper} {md : Region.Mode} {C : World → Prop}
def zbO (P : Program) (md : Region.Mode) (ops : Array Oper) (C : World → Prop) (n : Nat) (L : Array Bool → Act → World → Prop) : Nat → Array Bool → Act → World → Prop
 | 0, listed, a, w => ∀ w1, Up w w1 → C w1 → L listed a w1
 | f + 1, listed, a, w => ∀ w1, Up w w1 → C w1 → Region.ready md ops listed ≠ [] ∧
  ∀ i ∈ Region.ready md ops listed, i < n ∧ wpOp P ops QF i (fun a' w' => C w' ∧ zbO P md ops C n L f (listed.setIfInBounds i true) a' w') a w1
theorem headU_up {n f : Nat} {L : Array Bool → Act → World → Prop} {listed : Array Bool} {a : Act} {w w' : World} (h : zbO P md ops C n L f listed a w) (hu : Up w w') : zbO P md ops C n L f listed a w' := by
 cases f with
 | zero => exact fun w1 h1 hc => h w1 (zcI hu h1) hc
 | succ f => exact fun w1 h1 hc => h w1 (zcI hu h1) hc
theorem zmg {n g : Nat} {L : Array Bool → Act → World → Prop} {Q : Exit → Act → World → Prop} (hL : ∀ listed a w, L listed a w → wpAny P md ops Q g listed a w) (f : Nat) :
 ∀ (listed : Array Bool) (a : Act) (w : World), C w → zbO P md ops C n L f listed a w → wpAny P md ops Q (f + g) listed a w := by
 induction f with
 | zero => intro listed a w hc h; rw [Nat.zero_add]; exact hL _ _ _ (h _ (Below.refl _ _) hc)
 |
  succ f ih =>
  intro listed a w hc h
  rw [show f + 1 + g = (f + g) + 1 by omega]
  obtain ⟨h1, h2⟩ := h _ (Below.refl _ _) hc
  exact ⟨fun e => absurd e h1, fun i hi => wpOp_mono (fun a' w' hh => ih _ a' w' hh.1 hh.2) (ziV (h2 i hi).2)⟩
theorem ziy (hup : ∀ w w', C w → Up w w' → C w') {n i : Nat} {oi : Oper} {v : Value} {L : Array Bool → Act → World → Prop} (hi : ops[i]? = some oi) (hsel : ∀ (j : Nat) (o : Oper) cs b, ops[j]? = some o → o.op ≠ .select cs b)
 (hs : Region.sinkB md ops n = true) (hc : Region.chainB md ops n = true) (hn : n < ops.size) (hin : i < n) (hend : ∀ listed a w, L listed a w → ∀ j ∈ Region.ready md ops listed, n ≤ j) (f : Nat) :
 ∀ (listed : Array Bool) (a : Act) (w : World), HeadInv md ops n listed →
  (∀ j oj, ops[j]? = some oj → j ≠ i → listed.getD j true = false → (∀ e ∈ oj.after, Region.binds md e = true → e.on ≠ i) → oi.apart ops oj = true) →
  i ∈ Region.ready md ops listed → YU P ops C oi v a →
  zbO P md ops C n L f (listed.setIfInBounds i true) (a.put oi.dst v) w → zbO P md ops C n L (f + 1) listed a w := by
 have early : ∀ {listed : Array Bool}, HeadInv md ops n listed → i ∈ Region.ready md ops listed → ∀ j ∈ Region.ready md ops listed, j < n := fun {listed} inv hr j hj =>
  Nat.lt_of_not_le fun h => tail_waits hs hc hn inv _ i rfl hin (mem_ready.1 hr).1 j h hj
 have self : ∀ (f : Nat) (listed : Array Bool) (a : Act) (w w1 : World), Up w w1 → C w1 → YU P ops C oi v a → zbO P md ops C n L f (listed.setIfInBounds i true) (a.put oi.dst v) w →
  wpOp P ops QF i (fun a' w' => C w' ∧ zbO P md ops C n L f (listed.setIfInBounds i true) a' w') a w1 := fun f listed a w w1 h1 hc hy H =>
  zhz hi (hy w1 hc) fun w' hw' => ⟨hup _ _ hc hw', headU_up H (zcI h1 hw')⟩
 induction f with
 |
  zero =>
  intro listed a w inv _ hr hy H w1 h1 hcw
  refine ⟨fun e => (by rw [e] at hr; cases hr), fun j hj => ⟨early inv hr j hj, ?_⟩⟩
  by_cases e : j = i
  · subst e; exact self _ _ _ _ _ h1 hcw hy H
  · have hq : ∃ w2, L (listed.setIfInBounds i true) (a.put oi.dst v) w2 := ⟨w1, H w1 h1 hcw⟩
    obtain ⟨w2, hq⟩ := hq
    have := hend _ _ _ hq j (ready_mono hj e)
    have := early inv hr j hj
    omega
 |
  succ f ih =>
  intro listed a w inv hfree hr hy H w1 h1 hcw
  refine ⟨fun e => (by rw [e] at hr; cases hr), fun j hj => ⟨early inv hr j hj, ?_⟩⟩
  by_cases hji : j = i
  · subst hji; exact self _ _ _ _ _ h1 hcw hy H
  · have h2 := ((H w1 h1 hcw).2 j (ready_mono hj hji)).2
    obtain ⟨hjun, oj, hoj, hall⟩ := mem_ready.1 hj
    have hnot : ∀ e ∈ oj.after, Region.binds md e = true → e.on ≠ i := fun e he hb hon => by
     have h1 := hall e he hb
     rw [hon, getD_both (mem_ready.1 hr).1] at h1
     cases h1
    have hap := hfree j oj hoj hji hjun hnot
    obtain ⟨_, _, h3⟩ := Oper.apart_spec hap
    have hsi : ∀ cs b, oi.op ≠ .select cs b := fun cs b => hsel i oi cs b hi
    have h4 := zhj (Y := YU P ops C oi v) hoj hap (fun cs b => hsel j oj cs b hoj) (fun a u hy w0 h0 => (hy w0 h0).of_same (execOp_put oi hsi a oj.dst u h3) (wanted_put oi a oj.dst u h3)) (fun a d hy w0 h0 => (hy w0 h0).of_same rfl rfl) hy h2
    have hfree' : ∀ k ok, ops[k]? = some ok → k ≠ i → (listed.setIfInBounds j true).getD k true = false →
     (∀ e ∈ ok.after, Region.binds md e = true → e.on ≠ i) → oi.apart ops ok = true := fun k ok hk hki hun hno => by
     refine hfree k ok hk hki ?_ hno
     by_cases hjk : j = k
     · subst hjk; exact hjun
     · rw [getD_set_ne true hjk] at hun; exact hun
    refine wpOp_mono (fun a' w' h5 => ⟨h5.2.1, ih (listed.setIfInBounds j true) a' w' (inv.set hj (early inv hr j hj)) hfree' (ready_mono hr (Ne.symm hji)) h5.1 ?_⟩) h4
    rw [Array.setIfInBounds_comm _ _ hji]
    exact h5.2.2
theorem zmf (hup : ∀ w w', C w → Up w w' → C w') {n g : Nat} {L : Array Bool → Act → World → Prop} {R : Act → Prop} {w : World} (hsel : Region.noSelect ops = true) (hs : Region.sinkB md ops n = true) (hc : Region.chainB md ops n = true) (hn : n < ops.size)
 (hend : ∀ listed a w, L listed a w → ∀ j ∈ Region.ready md ops listed, n ≤ j) (rs : List Nat) : ∀ (listed : Array Bool) (a : Act), HeadInv md ops n listed → (∀ k ∈ rs, k < n) → lexI md ops rs listed = true →
 (∀ a', R a' → zbO P md ops C n L g (setL rs listed) a' w) → wpQU P ops C R (zfa ops rs) a → zbO P md ops C n L (rs.length + g) listed a w := by
 induction rs with
 | nil => intro listed a _ _ _ hR h; simp only [List.length_nil, Nat.zero_add]; exact hR a h
 |
  cons k rs ih =>
  intro listed a inv hl hB hR h
  have hk : k < n := hl k (by simp)
  have hk' : k < ops.size := by omega
  have h0 : ops[k]? = some ops[k] := by simp [hk']
  simp only [lexI, Bool.and_eq_true] at hB
  obtain ⟨⟨hr, hf⟩, hB'⟩ := hB
  have hr' : k ∈ Region.ready md ops listed := by simpa using hr
  unfold zfa at h
  rw [List.filterMap_cons_some h0] at h
  obtain ⟨v, hy, hK⟩ := h
  rw [show (k :: rs).length + g = (rs.length + g) + 1 by simp only [List.length_cons]; omega]
  refine ziy hup h0 (Region.noSelect_spec hsel) hs hc hn hk hend (rs.length + g) listed a w inv (Region.free_spec h0 hf) hr' hy ?_
  exact ih _ _ (inv.set hr' hk) (fun j hj => hl j (by simp [hj])) hB' (fun a' ha' => by simpa [setL] using hR a' ha') hK
def TailU (P : Program) (md : Region.Mode) (ops : Array Oper) (Q : Exit → Act → World → Prop) (n : Nat) (t : List Oper) (listed : Array Bool) (a : Act) (w : World) : Prop :=
 Region.seqB md ops (ops.size - n) n listed = true ∧ wpList P ops Q t a w
variable {n : Nat} {t : List Oper} {Q : Exit → Act → World → Prop}
theorem zaO {listed : Array Bool} {a : Act} {w : World} (hs : Region.seqB md ops (ops.size - n) n listed = true) (h : ∀ w1, Up w w1 → C w1 → wpList P ops Q t a w1) : zbO P md ops C n (TailU P md ops Q n t) 0 listed a w :=
 fun w1 h1 hc => ⟨hs, h w1 h1 hc⟩
theorem zaz {f i : Nat} {o : Oper} {listed : Array Bool} {a : Act} {w : World} {L : Array Bool → Act → World → Prop} (hr : Region.ready md ops listed = [i]) (hin : i < n) (ho : ops[i]? = some o)
 (h : ∀ w1, Up w w1 → C w1 → wpList P ops (QN fun a' w' => C w' ∧ zbO P md ops C n L f (listed.setIfInBounds i true) a' w') [o] a w1) : zbO P md ops C n L (f + 1) listed a w := by
 intro w1 h1 hc
 refine ⟨fun h => (by rw [hr] at h; cases h), fun j hj => ?_⟩
 rw [hr] at hj
 obtain rfl : j = i := by simpa using hj
 exact ⟨hin, zaP ho (h w1 h1 hc)⟩
theorem zcw {f i k : Nat} {oi ok : Oper} {listed : Array Bool} {a : Act} {w : World} {L : Array Bool → Act → World → Prop} (hr : Region.ready md ops listed = [i, k]) (hin : i < n) (hkn : k < n) (hoi : ops[i]? = some oi) (hok : ops[k]? = some ok)
 (h1 : ∀ w1, Up w w1 → C w1 → wpList P ops (QN fun a' w' => C w' ∧ zbO P md ops C n L f (listed.setIfInBounds i true) a' w') [oi] a w1)
 (h2 : ∀ w1, Up w w1 → C w1 → wpList P ops (QN fun a' w' => C w' ∧ zbO P md ops C n L f (listed.setIfInBounds k true) a' w') [ok] a w1) : zbO P md ops C n L (f + 1) listed a w := by
 intro w1 hu hc
 refine ⟨fun h => (by rw [hr] at h; cases h), fun j hj => ?_⟩
 rw [hr] at hj
 have hj' : j = i ∨ j = k := by simpa using hj
 rcases hj' with rfl | rfl
 · exact ⟨hin, zaP hoi (h1 w1 hu hc)⟩
 · exact ⟨hkn, zaP hok (h2 w1 hu hc)⟩
end
theorem zaL {P : Program} {id : Nat} {Q : Exit → Act → World → Prop} {a : Act} {w : World} {l : List Oper} (C : World → Prop) (n : Nat) (mask : List Bool) (hm : P.follows .mixedOrders = true)
 (hB : (Region.noSelect l.toArray && ((idxM mask 0).all (fun k => decide (k < n)) && (decide (mask.length ≤ l.length) && (decide ((idxM mask 0).length ≤ n) && (decide (n < l.toArray.size) && (Region.sinkB .any l.toArray n && (Region.chainB .any l.toArray n &&
  lexI .any l.toArray (idxM mask 0) (Array.replicate l.toArray.size false)))))))) = true) (hD : zg8 a.tmps.size (zbb mask l) = true)
 (hup : ∀ w w', C w → Up w w' → C w') (hC : C w) (a' : Act)
 (h : ∀ w0, C w0 → wpQuiet P l.toArray (fun w' => ∃ x : Wd w0, w' = x.val) (fun x => x = a') (zbb mask l) a)
 (ht : zbO P .any l.toArray C n (TailU P .any l.toArray Q n (l.drop n)) (n - (idxM mask 0).length) (setL (idxM mask 0) (Array.replicate l.toArray.size false)) a' w.drew) : (Code.region id l.toArray true).wp P Q a w := by
 simp only [Bool.and_eq_true, decide_eq_true_eq, List.all_eq_true] at hB
 obtain ⟨hsel, hin, hml, hsz, hn, hsk, hch, hlex⟩ := hB
 have hpk : zfa l.toArray (idxM mask 0) = zbb mask l := zeN mask [] l hml
 generalize idxM mask 0 = rs at *
 have hC' : C w.drew := hup _ _ hC (zak (Below.refl _ _))
 have hd : (l.drop n).length = l.toArray.size - n := by simp
 have inv : HeadInv .any l.toArray n (Array.replicate l.toArray.size false) :=
  ⟨by simp, fun j oj _ hl => (by rw [getD_replicate_false] at hl; cases hl), fun t _ ht => getD_in (by simpa using ht) (getD_replicate_false _ _)⟩
 have K := zmf (P := P) (md := .any) hup (g := n - rs.length) (w := w.drew) (L := TailU P .any l.toArray Q n (l.drop n)) (R := fun x => x = a') hsel hsk hch hn (fun listed a w hL => seqB_ready hL.1) rs (Array.replicate l.toArray.size false) a inv hin hlex (fun x hx => by subst hx; exact ht)
  (zgB w hC a.tmps.size (zfa l.toArray rs) a rfl (by rw [hpk]; exact hD) (fun w0 h0 => by rw [← clsU, hpk]; exact h w0 h0))
 rw [show rs.length + (n - rs.length) = n by omega] at K
 refine wp_region_any hm ?_
 have T := zmg (Q := Q) (g := l.toArray.size - n) (fun listed a w hL => by
  have := wpAny_of_seq (md := .any) (Q' := Q) (l.drop n) n listed a w (fun j => by simp [List.getElem?_drop]) (by rw [hd]; exact hL.1) hL.2
  rwa [hd] at this) _ _ _ _ hC' K
 rwa [show n + (l.toArray.size - n) = l.toArray.size by omega] at T
end
section
open Go.RowKit
theorem zcV {P : Program} {Q : Exit → Act → World → Prop} {C : World → Prop} {l : List Oper} {listed : Array Bool} {a : Act} {w : World} {f : Nat} (mask : List Bool) (g : Nat) (hf : f = (idxM mask 0).length + g)
 (hB : (Region.noSelect l.toArray && ((idxM mask 0).all (fun k => decide (k < l.toArray.size)) && (decide (mask.length ≤ l.length) && lexI .any l.toArray (idxM mask 0) listed))) = true) (hD : zg8 a.tmps.size (zbb mask l) = true)
 (hup : ∀ w w', C w → Up w w' → C w') (hC : C w) (a' : Act)
 (h : ∀ w0, C w0 → wpQuiet P l.toArray (fun w' => ∃ x : Wd w0, w' = x.val) (fun x => x = a') (zbb mask l) a)
 (ht : zbh P .any l.toArray C Q g (setL (idxM mask 0) listed) a' w) : zbh P .any l.toArray C Q f listed a w := by
 subst hf
 simp only [Bool.and_eq_true, decide_eq_true_eq, List.all_eq_true] at hB
 obtain ⟨hsel, hin, hml, hlex⟩ := hB
 have hpk : zfa l.toArray (idxM mask 0) = zbb mask l := zeN mask [] l hml
 generalize idxM mask 0 = rs at *
 exact zjx (P := P) (md := .any) (Q := Q) hup (g := g) (w := w) (R := fun x => x = a') hsel rs listed a hin hlex (fun x hx => by subst hx; exact ht) (zgB w hC a.tmps.size (zfa l.toArray rs) a rfl (by rw [hpk]; exact hD) (fun w0 h0 => by rw [← clsU, hpk]; exact h w0 h0))
end
section
open Go.RowKit
set_option maxRecDepth 100000
section
variable {P : Program} {ops : Array Oper} {md : Region.Mode} {C : World → Prop} {Q : Exit → Act → World → Prop}
theorem anyU_inv {I : Nat → Array Bool → Act → World → Prop} (hI : ∀ f listed a w w1, I f listed a w → C w1 → Up w w1 → I f listed a w1)
 (hend : ∀ listed a w, I 0 listed a w → C w → Region.ready md ops listed = [] ∧ Q .normal a w)
 (hmore : ∀ f listed a w, I (f + 1) listed a w → Region.ready md ops listed ≠ [])
 (hstep : ∀ f listed a w, I (f + 1) listed a w → C w → ∀ i ∈ Region.ready md ops listed, wpOp P ops QF i (fun a' w' => C w' ∧ I f (listed.setIfInBounds i true) a' w') a w) :
 ∀ (f : Nat) (listed : Array Bool) (a : Act) (w : World), C w → I f listed a w → zbh P md ops C Q f listed a w := by
 intro f
 induction f with
 | zero => exact fun listed a w hc h => ⟨(hend _ _ _ h hc).1, fun w1 hu hc => (hend _ _ _ (hI _ _ _ _ _ h hc hu) hc).2⟩
 |
  succ f ih =>
  intro listed a w _ h w1 hu hc
  have h1 := hI _ _ _ _ _ h hc hu
  exact ⟨fun e => absurd e (hmore _ _ _ _ h1), fun i hi => wpOp_mono (fun a' w' hh => ⟨hh.1, ih _ _ _ hh.1 hh.2⟩) (hstep _ _ _ _ h1 hc i hi)⟩
def zgY (fl : List Bool) : Nat := (fl.filter (!·)).length
theorem left_set (fl : List Bool) : ∀ (i : Nat) (f : Nat), fl[i]? = some false → zgY fl = f + 1 → zgY (fl.set i true) = f := by
 unfold zgY
 induction fl with
 | nil => intro i f h; simp at h
 |
  cons b fl ih =>
  intro i f h hf
  cases i with
  | zero => simp at h; subst h; simpa using hf
  |
   succ i =>
   simp only [List.getElem?_cons_succ] at h
   cases b
   · simp only [List.set_cons_succ, Bool.not_false, List.filter_cons_of_pos, List.length_cons] at hf ⊢
     cases f with
     |
      zero =>
      exfalso
      have : false ∈ fl.filter (!·) := List.mem_filter.2 ⟨List.mem_of_getElem? h, rfl⟩
      have := List.length_pos_of_mem this
      omega
     | succ f => rw [ih i f h (by omega)]
   · simp only [List.set_cons_succ, Bool.not_true, Bool.false_eq_true, not_false_eq_true, List.filter_cons_of_neg] at hf ⊢
     exact ih i f h hf
theorem zlV (fl : List Bool) (h : zgY fl = 0) : fl.all id = true := by
 rw [List.all_eq_true]
 intro b hb
 cases b
 · exfalso
   have : false ∈ fl.filter (!·) := List.mem_filter.2 ⟨hb, rfl⟩
   have := List.length_pos_of_mem this
   unfold zgY at h
   omega
 · rfl
theorem zlW (fl : List Bool) (f : Nat) (h : zgY fl = f + 1) : fl.all id = false := by
 cases ha : fl.all id
 · rfl
 · exfalso
   rw [List.all_eq_true] at ha
   have : fl.filter (!·) = [] := by
    rw [List.filter_eq_nil_iff]
    intro b hb
    have := ha b hb
    simp only [id_eq] at this
    rw [this]; decide
   unfold zgY at h
   rw [this] at h
   cases h
theorem zhe {a0 : Act} {n : Nat} {w0 : World} (states : List (List Bool)) (cond : List Bool → Nat → Bool) (fl0 : List Bool) (listed0 : Array Bool) (I : Act → List Bool → Act → World → Prop)
 (hchk : (states.all fun fl => ((Region.ready md ops fl.toArray).isEmpty == fl.all id) && (Region.ready md ops fl.toArray).all fun i => cond fl i && (fl[i]? == some false) && states.contains (fl.set i true)) = true)
 (h0 : (states.contains fl0 && (zgY fl0 == n)) = true) (hl : listed0 = fl0.toArray) (hC : C w0) (hs : I a0 fl0 a0 w0)
 (hI : ∀ fl a w w1, I a0 fl a w → Up w w1 → I a0 fl a w1)
 (hend : ∀ fl a w, fl.all id = true → fl ∈ states → I a0 fl a w → C w → Q .normal a w)
 (hstep : ∀ fl a w i, fl ∈ states → I a0 fl a w → C w → cond fl i = true → fl[i]? = some false → wpOp P ops QF i (fun a' w' => C w' ∧ I a0 (fl.set i true) a' w') a w) :
 zbh P md ops C Q n listed0 a0 w0 := by
 simp only [Bool.and_eq_true, List.contains_iff_mem, beq_iff_eq] at h0
 subst hl
 refine anyU_inv (I := fun f listed a w => ∃ fl, listed = fl.toArray ∧ fl ∈ states ∧ zgY fl = f ∧ I a0 fl a w) ?_ ?_ ?_ ?_ n _ a0 w0 hC ⟨fl0, rfl, h0.1, h0.2, hs⟩
 · rintro f listed a w w1 ⟨fl, e, hm, hf, hi⟩ _ hu
   exact ⟨fl, e, hm, hf, hI fl a w w1 hi hu⟩
 · rintro listed a w ⟨fl, rfl, hm, hf, hi⟩ hc
   have ha := zlV fl hf
   have := List.all_eq_true.1 hchk fl hm
   simp only [Bool.and_eq_true, beq_iff_eq, ha, List.isEmpty_iff] at this
   exact ⟨this.1, hend fl a w ha hm hi hc⟩
 · rintro f listed a w ⟨fl, rfl, hm, hf, hi⟩
   have ha := zlW fl f hf
   have := List.all_eq_true.1 hchk fl hm
   simp only [Bool.and_eq_true, beq_iff_eq, ha, List.isEmpty_eq_false_iff] at this
   exact this.1
 · rintro f listed a w ⟨fl, rfl, hm, hf, hi⟩ hc i hr
   have := List.all_eq_true.1 hchk fl hm
   simp only [Bool.and_eq_true] at this
   have h2 := List.all_eq_true.1 this.2 i hr
   simp only [Bool.and_eq_true, beq_iff_eq, List.contains_iff_mem] at h2
   refine wpOp_mono (fun a' w' hh => ⟨hh.1, fl.set i true, by simp, h2.2, left_set fl i f h2.1.2 hf, hh.2⟩) (hstep fl a w i hm hi hc h2.1.1 h2.1.2)
end
end
section
open Go.RowKit Go.ChangeShapes Go.WideShapes
def ArgS {α : Type} (k : Nat) (cells : α → List Value) (w : World) (v : Value) (l : List α) : Prop :=
 ∃ a c, v = .slice a l.length c ∧ l.length ≤ c ∧ c ≤ maxLen ∧
  (l = [] ∨ ∃ b o, a = some ⟨b, o, none⟩ ∧ b < w.heap.size ∧ ∀ i r, l[i]? = some r → ∀ j u, (cells r)[j]? = some u → w.cell? ⟨b, o + i * k + j, none⟩ = some u)
theorem ArgS.below {α : Type} {k : Nat} {cells : α → List Value} {w w' : World} {v : Value} {l : List α} (h : ArgS k cells w v l) (hb : Below w.heap.size w w') : ArgS k cells w' v l := by
 obtain ⟨a, c, hv, h1, h2, h3⟩ := h
 refine ⟨a, c, hv, h1, h2, ?_⟩
 rcases h3 with h3 | ⟨b, o, ha, hlt, hc⟩
 · exact .inl h3
 · exact .inr ⟨b, o, ha, Nat.lt_of_lt_of_le hlt hb.size, fun i r hi j u hj => by rw [hb.cell (p := ⟨b, _, none⟩) hlt]; exact hc i r hi j u hj⟩
theorem nums_of {cs : List Value} (h : ∀ i, i < cs.length → ∃ a, cs[i]? = some (.int .i64 a) ∧ (Lit.int .i64 a).wf = true) :
 ∃ l : List Int, cs = l.map (Value.int .i64) ∧ ∀ a ∈ l, (Lit.int .i64 a).wf = true := by
 induction cs with
 | nil => exact ⟨[], rfl, by simp⟩
 |
  cons c cs ih =>
  obtain ⟨l, hl, hw⟩ := ih (fun i hi => by simpa using h (i + 1) (by simpa using hi))
  obtain ⟨a, ha, haw⟩ := h 0 (by simp)
  simp at ha
  subst ha hl
  exact ⟨a :: l, rfl, by simpa using ⟨haw, hw⟩⟩
theorem first_of {α : Type} {l : List α} {x : α} {i : Nat} (h : (l.drop i).take 1 = [x]) : l[i]? = some x := by
 have := congrArg (fun l => l[0]?) h
 simpa using this
section
variable {H : Type} {enc : TypeId × Value → H} {P : Program} {w : World} {base : Nat} {spare : Nat → Bool} {held : Bool}
theorem zja {t e : TypeId} {n : Nat} (ht : P.underlying t = some (.array n e)) (he : P.underlying e = some (.int .i64)) (hc : P.cellsOf e = 1) (hct : P.cellsOf t = n) {fuel : Nat} {cs : List Value} {x : DataW H × List MemPlace}
 (h : DataW.trod enc P w base spare held fuel t cs = some x) : ∃ l : List Int, l.length = n ∧ cs = l.map (Value.int .i64) ∧ ∀ a ∈ l, (Lit.int .i64 a).wf = true := by
 obtain ⟨xs, m, rfl, rfl, hl, hn, hf⟩ := DataW.trod_array ht h
 rw [hct] at hl
 obtain ⟨l, h1, h2⟩ := nums_of (cs := cs) (fun i hi => by
  have hi' : i < n := by omega
  have e1 := hf i hi'
  rw [hc, Nat.mul_one, List.getElem?_eq_getElem (by omega)] at e1
  obtain ⟨a, h, _, hw⟩ := DataW.trod_int he e1
  exact ⟨a, first_of h, hw⟩)
 refine ⟨l, ?_, h1, h2⟩
 rw [← hl, h1, List.length_map]
abbrev c1 (n : Int) : List Value := [.int .i64 n]
abbrev c3 (r : Int × Int × Int) : List Value := [.int .i64 r.1, .int .i64 r.2.1, .int .i64 r.2.2]
abbrev c4 (r : Int × Int × Int × Int) : List Value := [.int .i64 r.1, .int .i64 r.2.1, .int .i64 r.2.2.1, .int .i64 r.2.2.2]
abbrev ok3 (r : Int × Int × Int) : Prop := I64 r.1 ∧ I64 r.2.1 ∧ I64 r.2.2
abbrev ok4 (r : Int × Int × Int × Int) : Prop := I64 r.1 ∧ I64 r.2.1 ∧ I64 r.2.2.1 ∧ I64 r.2.2.2
theorem open_three {t e : TypeId} (ht : P.underlying t = some (.array 3 e)) (he : P.underlying e = some (.int .i64)) (hc : P.cellsOf e = 1) (hct : P.cellsOf t = 3) {fuel : Nat} {cs : List Value} {x : DataW H × List MemPlace}
 (h : DataW.trod enc P w base spare held fuel t cs = some x) : ∃ r : Int × Int × Int, cs = c3 r ∧ ok3 r := by
 obtain ⟨l, hl, h1, hw⟩ := zja ht he hc hct h
 match l, hl, h1, hw with
 | [a, b, c], _, h1, hw => exact ⟨(a, b, c), h1, i64_of_wf (hw a (by simp)), i64_of_wf (hw b (by simp)), i64_of_wf (hw c (by simp))⟩
theorem open_four {t e : TypeId} (ht : P.underlying t = some (.array 4 e)) (he : P.underlying e = some (.int .i64)) (hc : P.cellsOf e = 1) (hct : P.cellsOf t = 4) {fuel : Nat} {cs : List Value} {x : DataW H × List MemPlace}
 (h : DataW.trod enc P w base spare held fuel t cs = some x) : ∃ r : Int × Int × Int × Int, cs = c4 r ∧ ok4 r := by
 obtain ⟨l, hl, h1, hw⟩ := zja ht he hc hct h
 match l, hl, h1, hw with
 | [a, b, c, d], _, h1, hw => exact ⟨(a, b, c, d), h1, i64_of_wf (hw a (by simp)), i64_of_wf (hw b (by simp)), i64_of_wf (hw c (by simp)), i64_of_wf (hw d (by simp))⟩
theorem zmR {w : World} {a : Addr} {v : Value} (h : w.cell? a = some v) : a.spot = none ∧ a.block < w.heap.size := by
 unfold World.cell? at h
 split at h
 · rename_i c _ _ hh
   refine ⟨?_, ?_⟩
   · cases hs : a.spot with
     | none => rfl
     | some x => simp [hs] at h
   · by_cases hlt : a.block < w.heap.size
     · exact hlt
     · rw [Array.getElem?_eq_none (by omega)] at hh; cases hh
 · cases h
theorem zjZ {α : Type} [Inhabited α] (cells : α → List Value) (k : Nat) (ok : α → Prop) {t e : TypeId} (ht : P.underlying t = some (.slice e)) (hk : P.cellsOf e = k) (hk0 : 0 < k)
 (hop : ∀ fuel cs x, DataW.trod enc P w base spare held fuel e cs = some x → ∃ r : α, cs = cells r ∧ ok r) {fuel : Nat} {cs : List Value} {x : DataW H × List MemPlace}
 (h : DataW.trod enc P w base spare held fuel t cs = some x) : ∃ (v : Value) (l : List α), cs = [v] ∧ ArgS k cells w v l ∧ ∀ r ∈ l, ok r := by
 rcases Deep.open_slice ht h with ⟨h0, _⟩ | ⟨a, len, cap, m, n, D, Pl, rfl, hb, hl, hm, hmm, rfl, hx⟩
 · exact ⟨_, [], h0, ⟨none, 0, rfl, by simp, by simp, .inl rfl⟩, by simp⟩
 · have hlm : len ≤ m := by rw [hmm]; split <;> omega
   obtain ⟨R, hR⟩ := Deep.choose_lt (α := α) (n := len) (p := fun i r => w.cells? base (a.add (i * k)) k = some (cells r) ∧ ok r) (fun i hi => by
    obtain ⟨cs', h1, h2⟩ := hx i (by omega)
    obtain ⟨r, hr, hok⟩ := hop _ _ _ h2
    rw [hk, hr] at h1
    exact ⟨r, h1, hok⟩)
   refine ⟨_, (List.range len).map R, rfl, ⟨some a, cap, by simp, by simpa using hl, hm, ?_⟩, ?_⟩
   · by_cases h0 : len = 0
     · left; simp [h0]
     · right
       obtain ⟨h1, _⟩ := hR 0 (by omega)
       obtain ⟨_, hlen, hc⟩ := World.cells?_some h1
       have hc0 := hc 0 hk0
       rw [List.getElem?_eq_getElem (by omega)] at hc0
       obtain ⟨hs, hlt⟩ := zmR hc0
       obtain ⟨b, o, s⟩ := a
       have hs' : s = none := by
        cases s with
        | none => rfl
        |
         some y =>
         exfalso
         by_cases hi : 0 * k = 0 <;> simp [Addr.add] at hs
       subst hs'
       refine ⟨b, o, rfl, by simpa [Addr.add] using hlt, ?_⟩
       intro i r hi j u hj
       have hi' : i < len := by
        have := (List.getElem?_eq_some_iff.1 hi).1
        simpa using this
       have er : r = R i := by simpa [hi'] using hi.symm
       subst er
       obtain ⟨h1, _⟩ := hR i hi'
       obtain ⟨_, hlen, hc⟩ := World.cells?_some h1
       have hj' : j < k := by
        have := (List.getElem?_eq_some_iff.1 hj).1
        omega
       have := hc j hj'
       rw [hj, zaQ, zaQ] at this
       exact this
   · intro r hr
     obtain ⟨i, hi, rfl⟩ := List.mem_map.1 hr
     exact (hR i (by simpa using hi)).2
theorem open_slice_arg {α : Type} [Inhabited α] (cells : α → List Value) (k : Nat) (ok : α → Prop) {t e : TypeId} (ht : P.underlying t = some (.slice e)) (hk : P.cellsOf e = k) (hk0 : 0 < k)
 (hop : ∀ fuel cs x, DataW.trod enc P w base spare held fuel e cs = some x → ∃ r : α, cs = cells r ∧ ok r) {r : Reach} {b0 : Nat} {w0 : World} {v : Value} {d : DataW H} {ps : List MemPlace}
 (hval : Value.okWide P w0 r b0 t v) (h : DataW.Trod enc P w base spare held t v d ps) : ∃ l : List α, ArgS k cells w v l ∧ ∀ r ∈ l, ok r := by
 obtain ⟨a, len, cap, rfl⟩ := okWide_slice ht hval
 obtain ⟨fuel, hf⟩ := h
 obtain ⟨v', l, e1, h1, h2⟩ := zjZ cells k ok ht hk hk0 hop hf
 simp [Value.cells] at e1
 subst e1
 exact ⟨l, h1, h2⟩
theorem okWide_array {n : Nat} {e t : TypeId} (ht : P.underlying t = some (.array n e)) {r : Reach} {b0 : Nat} {w0 : World} {v : Value} (h : Value.okWide P w0 r b0 t v) : ∃ cs, v = .agg cs := by
 unfold Value.okWide at h
 rw [ht] at h
 obtain ⟨cs, h, _⟩ := h
 exact ⟨cs, h⟩
end
end
section
open Go.RowKit
section
variable {P : Program}
theorem zho {w : World} {k m : Nat} {src : Value} {ys : List Value} {tx e' : TypeId} (htx : P.underlying tx = some (.slice e')) (h : Reads w k m src ys) : Src P k tx src m ys w := by
 obtain ⟨h1, h2, h3⟩ := h
 rcases h3 with ⟨rfl, rfl⟩ | ⟨b, o, c, rfl, hlt, hc, hm, hcell⟩
 · have : ys = [] := List.eq_nil_of_length_eq_zero (by simpa using h1)
   subst this
   exact Src.ofNil w htx 0
 · exact Src.ofSlice w htx ⟨b, o, none⟩ m c ys h1 (fun j u hj => by rw [zaQ]; exact hcell j u hj) h2
theorem ziT {w : World} {k n m : Nat} {dst src : Value} {xs ys : List Value} {t tx ty e e' : TypeId} {i : TypeInfo} {z : Value} (ht : P.underlying t = some (.slice e)) (htx : P.underlying tx = some (.slice e'))
 (hi : P.info? e = some i) (hz : i.zero = some z) (hk : i.size = k) (hd : Reads w k n dst xs) (hfull : ∃ b o, dst = .slice (some ⟨b, o, none⟩) n n) (hs : Reads w k m src ys)
 (hmax : n + m ≤ 1000000) (hby : i.bytes ≤ 1000) :
 ∃ v w', (Builtin.append_ #[t, tx] ty #[dst, src]).run P w = .ok v w' ∧ Reads w' k (n + m) v (xs ++ ys) ∧ Below w.heap.size w w' := by
 obtain ⟨b, o, rfl⟩ := hfull
 have hsrc : Src P i.size tx src m ys w := by rw [hk]; exact zho htx hs
 obtain ⟨h1, h2, h3⟩ := hd
 rcases h3 with ⟨h, _⟩ | ⟨b', o', c', hv, hlt, hc, hm, hcell⟩
 · cases h
 injection hv with e1 _ e2
 injection e1 with e1
 injection e1 with e3 e4
 subst e2 e3 e4
 by_cases hm0 : m = 0
 · subst hm0
   have : ys = [] := List.eq_nil_of_length_eq_zero (by simpa using hs.1)
   subst this
   have hr := run_append_room_src w t tx ty e i ht hi b o n n src 0 [] hsrc (by omega) (fun j hj => by simp at hj) (fun j hj => by simp at hj)
   refine ⟨_, _, hr, ?_, ?_⟩
   · simp only [Nat.add_zero, List.append_nil]
     exact ⟨h1, h2, .inr ⟨b, o, n, rfl, hlt, hc, hm, hcell⟩⟩
   · exact Below.refl _ _
 · have hr := run_append_grow_src w t tx ty e i z ht hi hz (some ⟨b, o, none⟩) n n xs (run_firstCells_some w.drew i.size n ⟨b, o, none⟩ n n xs (by rw [hk]; exact h1) (fun j u hj => by rw [zaQ]; exact hcell j u hj)) src m ys hsrc (by omega) (by omega)
    (growslice_fits (by omega) (Nat.le_trans (Nat.mul_le_mul hmax hby) (by decide)))
   refine ⟨_, _, hr, ?_, (Below.refl _ _).drew.alloc (Nat.le_refl _) _⟩
   have hge := grownCap_ge w (n + m) n e
   have hle := grownCap_le_maxLen w (n + m) n e (by unfold maxLen; omega)
   refine ⟨by rw [List.length_append, h1, hs.1, Nat.add_mul], fun u hu => ?_, .inr ⟨w.heap.size, 0, _, rfl, by simp, hge, hle, fun j u hj => ?_⟩⟩
   · rcases List.mem_append.1 hu with hu | hu
     · exact h2 u hu
     · exact hs.2.1 u hu
   · rw [show 0 + j = j from Nat.zero_add j]
     refine zad (zat w.drew _) ?_
     have hj' := (List.getElem?_eq_some_iff.1 hj).1
     rw [Array.getElem?_append_left (by simpa using hj')]
     simpa using hj
theorem zcx {w : World} {ops : Array Oper} {rest : List Oper} {o : Oper} {a : Act} {Q : Exit → Act → World → Prop} (hgd : o.guard = none) (s x : Operand) (t tx : TypeId)
 (ho : o.op = .call { callee := .builtin .append, args := #[s, x], argTypes := #[t, tx] }) (dv xv v' : Value) (w' : World) (hs : a.eval s = dv) (hx : a.eval x = xv)
 (hrun : (Builtin.append_ #[t, tx] o.type #[dv, xv]).run P w = .ok v' w') (h : wpList P ops Q rest (a.put o.dst v') w') : wpList P ops Q (o :: rest) a w :=
 wpList_plain hgd fun K hK' => by
  unfold Oper.wp
  simp [execOp, ho, resolve, invoke, builtin, hs, hx, hrun, Result.andThen]
  exact hK' _ _ h
end
end
end Go.Proofs.YtdobddiibgfeaaaGreat
