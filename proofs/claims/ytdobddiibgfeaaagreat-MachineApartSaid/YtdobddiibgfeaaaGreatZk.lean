/-
  What the walks of this statement lean on (MemMath, MemOwn, MemHas, MemOf, MemGoes, MemDel, MemDrain): shown.
-/
import Derived.Test.YtdobddiibgfeaaaGreatZb
import Derived.Test.YtdobddiibgfeaaaGreatZa
import Derived.Test.YtdobddiibgfeaaaGreatRows
import Derived.Test.YtdobddiibgfeaaaGreatZh
import Derived.RegionTactic
import Derived.ChangeAlike
import Derived.Deep.DeepCutAuto
set_option linter.unusedVariables false
set_option linter.unusedSimpArgs false
namespace Go.Proofs.YtdobddiibgfeaaaGreat
section
open Go.RowKit
structure Mem where
 words : List Int
 pend : List (List (Int × Int))
 res : List Int
deriving DecidableEq
def zdD : Mem := ⟨[], [], []⟩
def zct (h n : Nat) : Mem := ⟨List.replicate n 0, List.replicate h [], List.replicate h (-1)⟩
def zdu (m : Mem) (h : Int) : Bool := decide (0 ≤ h) && (decide (h < m.pend.length) && decide (h < m.res.length))
def hasB (m : Mem) (h a : Int) : Bool := zdu m h && (decide (0 ≤ a) && decide (a < m.words.length))
def zaJ (m : Mem) (h : Int) : List (Int × Int) := m.pend.getD h.toNat []
def zbR (m : Mem) (a : Int) : Int := m.words.getD a.toNat 0
def zfD (m : Mem) (h : Int) : Int := m.res.getD h.toNat 0
def zez : List (Int × Int) → Int → Int → Int
 | [], _, d => d
 | x :: l, a, d => zez l a (if x.1 = a then x.2 else d)
def loadN (m : Mem) (h a : Int) : Int := zez (zaJ m h) a (zbR m a)
def zgj (m : Mem) (h a : Int) : Int × Int := if hasB m h a then (loadN m h a, 0) else (0, 1)
def zeI (m : Mem) (h : Int) (l : List (Int × Int)) : Mem := ⟨m.words, m.pend.set h.toNat l, m.res⟩
def zdK (m : Mem) (h : Int) (a : Int) : Mem := ⟨m.words, m.pend, m.res.set h.toNat a⟩
def zee (m : Mem) (h a n : Int) : Mem × Int :=
 if hasB m h a then (if 8 ≤ (zaJ m h).length then (zdD, 90) else (zeI m h (zaJ m h ++ [(a, wrap32 n)]), 0)) else (zdD, 1)
def zed (h a : Int) : Nat → List Int → List Int
 | _, [] => []
 | i, r :: l => (if (i : Int) ≠ h ∧ r = a then -1 else r) :: zed h a (i + 1) l
def zdw (m : Mem) (h a n : Int) : Mem := ⟨m.words.set a.toNat n, m.pend, zed h a 0 m.res⟩
def zei (m : Mem) (h : Int) (k : Nat) : Mem :=
 zeI (zdw m h ((zaJ m h).getD k (0, 0)).1 ((zaJ m h).getD k (0, 0)).2) h ((zaJ m h).eraseIdx k)
def zmY (l : List (Int × Int)) (k : Nat) : Bool := (l.take k).any fun x => decide (x.1 = (l.getD k (0, 0)).1)
def zc6 (m : Mem) (h k : Int) : Mem × Int :=
 if zdu m h && (decide (0 ≤ k) && decide (k < (zaJ m h).length)) then
  (if hasB m h ((zaJ m h).getD k.toNat (0, 0)).1 then (if zmY (zaJ m h) k.toNat then (zdD, 91) else (zei m h k.toNat, 0)) else (zdD, 1))
 else (zdD, 1)
def zca (m : Mem) (h a : Int) : Int := if hasB m h a then (if (zaJ m h).length = 0 then 0 else 92) else 1
def zbJ (m : Mem) (h a : Int) : Int × Mem × Int := if zca m h a = 0 then (zbR m a, zdK m h a, 0) else (0, zdD, zca m h a)
def zcA (m : Mem) (h a n : Int) : Bool × Mem × Int :=
 if zca m h a = 0 then
  (if zfD m h = a then (true, zdK (zdw m h a (wrap32 n)) h (-1), 0) else (false, zdK m h (-1), 0))
 else (false, zdD, zca m h a)
def zd0 (op w n : Int) : Int := if op = 0 then wrap32 n else twoN op w n
def zdg (m : Mem) (h a op : Int) : Int := if op ≠ 0 ∧ zhI op = 0 then 1 else zca m h a
def zbZ (m : Mem) (h a op n : Int) : Int × Mem × Int :=
 if zdg m h a op = 0 then (zbR m a, zdw m h a (zd0 op (zbR m a) n), 0) else (0, zdD, zdg m h a op)

structure Small (m : Mem) : Prop where
 words : m.words.length ≤ 100000
 pend : m.pend.length ≤ 1000
 res : m.res.length ≤ 1000
 each : ∀ l ∈ m.pend, l.length ≤ 1000
theorem zdY (h a : Int) (l : List Int) : ∀ i, (zed h a i l).length = l.length := by
 induction l with
 | nil => intro i; rfl
 | cons r l ih => intro i; simp [zed, ih]
theorem zmm (h a : Int) (l : List Int) : ∀ i k, (zed h a i l)[k]? = l[k]?.map fun r => if ((i + k : Nat) : Int) ≠ h ∧ r = a then -1 else r := by
 induction l with
 | nil => intro i k; rfl
 |
  cons r l ih =>
  intro i k
  cases k with
  | zero => rfl
  |
   succ k =>
   simp only [zed, List.getElem?_cons_succ]
   rw [ih]
   rw [show i + 1 + k = i + (k + 1) by omega]
def resK (h a : Int) (k : Nat) (l : List Int) : List Int := zed h a 0 (l.take k) ++ l.drop k
theorem resK_len (h a : Int) (k : Nat) (l : List Int) : (resK h a k l).length = l.length := by
 unfold resK; rw [List.length_append, zdY, ← List.length_append, List.take_append_drop]
theorem resK_all (h a : Int) (l : List Int) : resK h a l.length l = zed h a 0 l := by simp [resK]
theorem zmn (h a : Int) (l l' : List Int) : ∀ i, zed h a i (l ++ l') = zed h a i l ++ zed h a (i + l.length) l' := by
 induction l with
 | nil => intro i; simp [zed]
 | cons r l ih => intro i; simp only [List.cons_append, zed, List.length_cons]; rw [ih, show i + 1 + l.length = i + (l.length + 1) by omega]
theorem resK_at (h a : Int) (k : Nat) (l : List Int) (hk : k < l.length) : (resK h a k l)[k]? = some l[k] := by
 unfold resK
 have : (zed h a 0 (l.take k)).length = k := by rw [zdY]; simp; omega
 rw [List.getElem?_append_right (by omega), this]
 simp [hk]
theorem zld (h a : Int) (k : Nat) (l : List Int) (hk : k < l.length) : resK h a (k + 1) l = (resK h a k l).set k (if (k : Int) ≠ h ∧ l[k] = a then -1 else l[k]) := by
 unfold resK
 have e : (zed h a 0 (l.take k)).length = k := by rw [zdY]; simp; omega
 rw [List.take_succ_eq_append_getElem hk, zmn, List.drop_eq_getElem_cons hk]
 have e2 : 0 + (l.take k).length = k := by simp; omega
 rw [e2, List.append_assoc]
 rw [List.set_append_right _ _ (by omega), e, Nat.sub_self]
 rfl
theorem set_same {α : Type} (l : List α) (k : Nat) (x : α) (h : l[k]? = some x) : l.set k x = l := by
 obtain ⟨hk, rfl⟩ := List.getElem?_eq_some_iff.1 h
 exact List.set_getElem_self hk
theorem zlZ (l l' : List (Int × Int)) (a : Int) : ∀ d, zez (l ++ l') a d = zez l' a (zez l a d) := by
 induction l with
 | nil => intro d; rfl
 | cons x l ih => intro d; simp only [List.cons_append, zez]; exact ih _
theorem zgr (l : List (Int × Int)) (a : Int) (h : ∀ x ∈ l, x.1 ≠ a) : ∀ d, zez l a d = d := by
 induction l with
 | nil => intro d; rfl
 |
  cons x l ih =>
  intro d
  simp only [zez]
  rw [if_neg (h x (by simp)), ih (fun y hy => h y (by simp [hy]))]
theorem zj9 (l : List (Int × Int)) (a d : Int) (k : Nat) (x : Int × Int) (hk : l[k]? = some x) (h1 : x.1 = a) (h : ∀ y ∈ l.drop (k + 1), y.1 ≠ a) : zez l a d = x.2 := by
 obtain ⟨hk', rfl⟩ := List.getElem?_eq_some_iff.1 hk
 have e : l.take k ++ (l[k] :: l.drop (k + 1)) = l := by
  rw [← List.drop_eq_getElem_cons hk', List.take_append_drop]
 have : zez (l.take k ++ (l[k] :: l.drop (k + 1))) a d = l[k].2 := by
  rw [zlZ]
  simp only [zez]
  rw [if_pos h1, zgr _ _ h]
 rwa [e] at this
end
section
open Go.RowKit
def intC (l : List Int) : List Value := l.map (Value.int .i64)
def entC : List (Int × Int) → List Value
 | [] => []
 | x :: l => .int .i64 x.1 :: .int .i64 x.2 :: entC l
theorem zjg (l : List Int) : (intC l).length = l.length := by simp [intC]
theorem zfs (l : List Int) : ∀ u ∈ intC l, u.oneCell' = true := by simp [intC, Value.oneCell']
theorem ziw (l : List Int) (k : Nat) (hk : k < l.length) : (intC l)[k]? = some (.int .i64 l[k]) := by simp [intC, hk]
theorem zcR (l : List (Int × Int)) : (entC l).length = l.length * 2 := by
 induction l with
 | nil => rfl
 | cons x l ih => simp only [entC, List.length_cons, ih]; omega
theorem zdb (l : List (Int × Int)) : ∀ u ∈ entC l, u.oneCell' = true := by
 induction l with
 | nil => simp [entC]
 |
  cons x l ih =>
  intro u hu
  simp only [entC, List.mem_cons] at hu
  rcases hu with rfl | rfl | hu
  · rfl
  · rfl
  · exact ih u hu
theorem zjp (l l' : List (Int × Int)) : entC (l ++ l') = entC l ++ entC l' := by
 induction l with
 | nil => rfl
 | cons x l ih => simp [entC, ih]
theorem zg7 (l : List (Int × Int)) : ∀ (k : Nat) (x : Int × Int), l[k]? = some x → (entC l)[k * 2]? = some (.int .i64 x.1) ∧ (entC l)[k * 2 + 1]? = some (.int .i64 x.2) := by
 induction l with
 | nil => intro k x h; simp at h
 |
  cons y l ih =>
  intro k x h
  cases k with
  | zero => simp at h; subst h; exact ⟨rfl, rfl⟩
  |
   succ k =>
   have := ih k x (by simpa using h)
   rw [show (k + 1) * 2 = k * 2 + 2 by omega]
   simpa [entC] using this
theorem zmx (l : List (Int × Int)) : ∀ k, entC (l.take k) = (entC l).take (k * 2) := by
 induction l with
 | nil => intro k; simp [entC]
 |
  cons x l ih =>
  intro k
  cases k with
  | zero => rfl
  | succ k => rw [show (k + 1) * 2 = k * 2 + 1 + 1 by omega]; simp [entC, ih]
theorem zmy (l : List (Int × Int)) : ∀ k, entC (l.drop k) = (entC l).drop (k * 2) := by
 induction l with
 | nil => intro k; simp [entC]
 |
  cons x l ih =>
  intro k
  cases k with
  | zero => rfl
  | succ k => rw [show (k + 1) * 2 = k * 2 + 1 + 1 by omega]; simp [entC, ih]
theorem za3 {w w' : World} {base e k n : Nat} {v : Value} {xs : List Value} (h : w.ownsRow base e k v n xs) (hg : ∀ g, v.ownBlock = some g → w'.heap[g]? = w.heap[g]?) : w'.ownsRow base e k v n xs := by
 refine ⟨h.1, ?_⟩
 rcases h.2 with h | ⟨g, cap, cur, rfl, hb, hgg, rest⟩
 · exact .inl h
 · exact .inr ⟨g, cap, cur, rfl, hb, by rw [hg g rfl]; exact hgg, rest⟩
theorem zab {w w' : World} {base e k n : Nat} {v : Value} {xs : List Value} (h : w.ownsRow base e k v n xs) (hb : Below w.heap.size w w') : w'.ownsRow base e k v n xs :=
 za3 h fun g hg => hb.block g (h.lt g hg).2
theorem zbx {w : World} {base e k n : Nat} {v : Value} {xs : List Value} (h : w.ownsRow base e k v n xs) {g : Nat} (hg : v.ownBlock = some g) : ∃ cur, w.heap[g]? = some (.cells cur e (0, 0)) := by
 rcases h.2 with ⟨rfl, _⟩ | ⟨g', cap, cur, rfl, _, hgg, _⟩
 · simp [Value.ownBlock] at hg
 · simp [Value.ownBlock] at hg
   subst hg
   exact ⟨cur, hgg⟩
theorem zaC {w : World} {base base' e e' k k' n n' : Nat} {v v' : Value} {xs xs' : List Value} (h : w.ownsRow base e k v n xs) (h' : w.ownsRow base' e' k' v' n' xs') (hne : e ≠ e') {g : Nat} (hg : v.ownBlock = some g) : v'.ownBlock ≠ some g := by
 intro hg'
 obtain ⟨c, hc⟩ := zbx h hg
 obtain ⟨c', hc'⟩ := zbx h' hg'
 rw [hc] at hc'
 injection hc' with e1
 injection e1 with _ e2
 exact hne e2
theorem zar {w : World} {base e e' k n b : Nat} {v : Value} {xs : List Value} {cs : Array Value} (h : w.ownsRow base e k v n xs) (hb : w.heap[b]? = some (.cells cs e' (0, 0))) (hne : e ≠ e') : v.ownBlock ≠ some b := by
 intro hg
 obtain ⟨c, hc⟩ := zbx h hg
 rw [hb] at hc
 injection hc with e1
 injection e1 with _ e2
 exact hne e2.symm
theorem own_one {w : World} {base e k n : Nat} {v : Value} {xs : List Value} (h : w.ownsRow base e k v n xs) : v.oneCell' = true := by
 obtain ⟨a, c, rfl⟩ := zai h
 rfl
theorem zb1 {w : World} {base e k n : Nat} {v : Value} {xs : List Value} (h : w.ownsRow base e k v n xs) (hn : 0 < n) : ∃ g c, v = .slice (some ⟨g, 0, none⟩) n c ∧ n ≤ c ∧ c ≤ maxLen := by
 rcases h.2 with ⟨_, h0⟩ | ⟨g, c, cur, hv, _, _, hc, hm, _⟩
 · omega
 · exact ⟨g, c, hv, hc, hm⟩
def RowsAt (w : World) (rows : List Value) (pend : List (List (Int × Int))) : Prop :=
 rows.length = pend.length ∧ ∀ (i : Nat) (r : Value) (l : List (Int × Int)), rows[i]? = some r → pend[i]? = some l → w.ownsRow 0 127 2 r l.length (entC l)
def IsMem (w : World) (v : Value) (m : Mem) : Prop := ∃ wv pv rv rows, v = .agg #[wv, pv, rv] ∧ w.ownsRow 0 3 1 wv m.words.length (intC m.words) ∧ w.ownsRow 0 57 1 pv m.pend.length rows ∧ w.ownsRow 0 3 1 rv m.res.length (intC m.res) ∧ RowsAt w rows m.pend
theorem RowsAt.below {w w' : World} {rows : List Value} {pend : List (List (Int × Int))} (h : RowsAt w rows pend) (hb : Below w.heap.size w w') : RowsAt w' rows pend := ⟨h.1, fun i r l hr hl => zab (h.2 i r l hr hl) hb⟩
theorem IsMem.below {w w' : World} {v : Value} {m : Mem} (h : IsMem w v m) (hb : Below w.heap.size w w') : IsMem w' v m := by
 obtain ⟨wv, pv, rv, rows, rfl, h1, h2, h3, h4⟩ := h
 exact ⟨wv, pv, rv, rows, rfl, zab h1 hb, zab h2 hb, zab h3 hb, h4.below hb⟩
theorem zb3 (w : World) : IsMem w (.agg #[.slice none 0 0, .slice none 0 0, .slice none 0 0]) zdD :=
 ⟨_, _, _, [], rfl, World.ownsRow_nil _ _ _ _, World.ownsRow_nil _ _ _ _, World.ownsRow_nil _ _ _ _, rfl, fun i r l hr _ => by simp at hr⟩
structure OwnMem (w : World) (B p T : Nat) (m : Mem) (wv pv rv : Value) (rows : List Value) : Prop where
 at_ : w.heap[p]? = some (.cells #[wv, pv, rv] T (0, 0))
 base : B ≤ p
 words : w.ownsRow B 3 1 wv m.words.length (intC m.words)
 pend : w.ownsRow B 57 1 pv m.pend.length rows
 res : w.ownsRow B 3 1 rv m.res.length (intC m.res)
 len : rows.length = m.pend.length
 each : ∀ (i : Nat) (r : Value) (l : List (Int × Int)), rows[i]? = some r → m.pend[i]? = some l → w.ownsRow B 127 2 r l.length (entC l)
 apart : ∀ g, wv.ownBlock = some g → rv.ownBlock ≠ some g
 rowsApart : ∀ (i j : Nat) (r s : Value) (g : Nat), rows[i]? = some r → rows[j]? = some s → i ≠ j → r.ownBlock = some g → s.ownBlock ≠ some g
section
variable {w w' : World} {B p T : Nat} {m : Mem} {wv pv rv : Value} {rows : List Value}
theorem OwnMem.rowOf (h : OwnMem w B p T m wv pv rv rows) {i : Nat} {r : Value} (hr : rows[i]? = some r) : ∃ l, m.pend[i]? = some l ∧ w.ownsRow B 127 2 r l.length (entC l) := by
 have hl := h.len
 have hi := (List.getElem?_eq_some_iff.1 hr).1
 have hi' : i < m.pend.length := by omega
 exact ⟨m.pend[i], by simp [hi'], h.each i r _ hr (by simp [hi'])⟩
theorem OwnMem.kept (h : OwnMem w B p T m wv pv rv rows) (hg : ∀ b, b < w.heap.size → w'.heap[b]? = w.heap[b]?) : OwnMem w' B p T m wv pv rv rows where
 at_ := by rw [hg p (zao h.at_)]; exact h.at_
 base := h.base
 words := za3 h.words fun g e => hg g (h.words.lt g e).2
 pend := za3 h.pend fun g e => hg g (h.pend.lt g e).2
 res := za3 h.res fun g e => hg g (h.res.lt g e).2
 len := h.len
 each := fun i r l hr hl => za3 (h.each i r l hr hl) fun g e => hg g ((h.each i r l hr hl).lt g e).2
 apart := h.apart
 rowsApart := h.rowsApart
theorem OwnMem.below (h : OwnMem w B p T m wv pv rv rows) (hb : Below w.heap.size w w') : OwnMem w' B p T m wv pv rv rows := h.kept fun b hlt => hb.block b hlt
theorem zbq {w : World} {base e k n : Nat} {v : Value} {xs : List Value} (h : w.ownsRow base e k v n xs) : w.ownsRow 0 e k v n xs := za0 h (Nat.zero_le _)
theorem OwnMem.isMem (h : OwnMem w B p T m wv pv rv rows) : IsMem w (.agg #[wv, pv, rv]) m :=
 ⟨wv, pv, rv, rows, rfl, zbq h.words, zbq h.pend, zbq h.res, h.len, fun i r l hr hl => zbq (h.each i r l hr hl)⟩
theorem OwnMem.move (h : OwnMem w B p T m wv pv rv rows) {p' T' : Nat} (h1 : w'.heap[p']? = some (.cells #[wv, pv, rv] T' (0, 0))) (hB : B ≤ p') (hb : Below w.heap.size w w') : OwnMem w' B p' T' m wv pv rv rows :=
 let k := h.below hb
 ⟨h1, hB, k.words, k.pend, k.res, k.len, k.each, k.apart, k.rowsApart⟩
theorem zaD {w : World} {b g o : Nat} {u : Value} (h : g ≠ b) : (w.setCell ⟨b, o, none⟩ u).heap[g]? = w.heap[g]? := Below.heap_setCell w _ u g h
theorem OwnMem.setWord (h : OwnMem w B p T m wv pv rv rows) (hT : T ≠ 3) {g n c : Nat} (hv : wv = .slice (some ⟨g, 0, none⟩) n c) (k : Nat) (x : Int) : OwnMem (w.setCell ⟨g, k, none⟩ (.int .i64 x)) B p T ⟨m.words.set k x, m.pend, m.res⟩ wv pv rv rows := by
 have hg : wv.ownBlock = some g := by rw [hv]; rfl
 have e1 : p ≠ g := fun e => zar h.words h.at_ (Ne.symm hT) (by rw [e]; exact hg)
 refine ⟨by rw [zaD e1]; exact h.at_, h.base, ?_, ?_, ?_, h.len, ?_, h.apart, h.rowsApart⟩
 · have hw := h.words
   rw [hv] at hw ⊢
   obtain ⟨_, hn, _⟩ := zai hw
   have := (World.ownsRow.stored (n := m.words.length) (by obtain ⟨a, c', e⟩ := zai hw; injection e with e1 e2 e3; subst e1 e2 e3; exact hw) k (.int .i64 x)).1
   obtain ⟨a, c', e⟩ := zai hw
   injection e with e1 e2 e3
   subst e1 e2 e3
   simp only [List.length_set]
   rw [show intC (m.words.set k x) = (intC m.words).set k (.int .i64 x) by simp [intC, List.map_set]]
   exact this
 · refine za3 h.pend fun g' e => zaD (fun e' => ?_)
   subst e'
   exact zaC h.pend h.words (by decide) e hg
 · refine za3 h.res fun g' e => zaD (fun e' => ?_)
   subst e'
   exact h.apart g' hg e
 · intro i r l hr hl
   refine za3 (h.each i r l hr hl) fun g' e => zaD (fun e' => ?_)
   subst e'
   exact zaC (h.each i r l hr hl) h.words (by decide) e hg
theorem OwnMem.setResv (h : OwnMem w B p T m wv pv rv rows) (hT : T ≠ 3) {g n c : Nat} (hv : rv = .slice (some ⟨g, 0, none⟩) n c) (k : Nat) (x : Int) : OwnMem (w.setCell ⟨g, k, none⟩ (.int .i64 x)) B p T ⟨m.words, m.pend, m.res.set k x⟩ wv pv rv rows := by
 have hg : rv.ownBlock = some g := by rw [hv]; rfl
 have e1 : p ≠ g := fun e => zar h.res h.at_ (Ne.symm hT) (by rw [e]; exact hg)
 refine ⟨by rw [zaD e1]; exact h.at_, h.base, ?_, ?_, ?_, h.len, ?_, h.apart, h.rowsApart⟩
 · refine za3 h.words fun g' e => zaD (fun e' => ?_)
   subst e'
   exact h.apart g' e hg
 · refine za3 h.pend fun g' e => zaD (fun e' => ?_)
   subst e'
   exact zaC h.pend h.res (by decide) e hg
 · have hw := h.res
   rw [hv] at hw ⊢
   obtain ⟨a, c', e⟩ := zai hw
   injection e with e1 e2 e3
   subst e1 e2 e3
   have := (World.ownsRow.stored (n := m.res.length) hw k (.int .i64 x)).1
   simp only [List.length_set]
   rw [show intC (m.res.set k x) = (intC m.res).set k (.int .i64 x) by simp [intC, List.map_set]]
   exact this
 · intro i r l hr hl
   refine za3 (h.each i r l hr hl) fun g' e => zaD (fun e' => ?_)
   subst e'
   exact zaC (h.each i r l hr hl) h.res (by decide) e hg
theorem OwnMem.setRow (h : OwnMem w B p T m wv pv rv rows) (hT : T ≠ 127) (hT' : T ≠ 57) {i b : Nat} {r r' : Value} {l' : List (Int × Int)} (hr : rows[i]? = some r) (hb : r.ownBlock = some b)
 (hk : ∀ g, g < w.heap.size → g ≠ b → w'.heap[g]? = w.heap[g]?) (hr' : r'.ownBlock = some b) (ho : w'.ownsRow B 127 2 r' l'.length (entC l')) {g n c : Nat} (hv : pv = .slice (some ⟨g, 0, none⟩) n c) :
 OwnMem (w'.setCell ⟨g, i, none⟩ r') B p T ⟨m.words, m.pend.set i l', m.res⟩ wv pv rv (rows.set i r') := by
 have hg : pv.ownBlock = some g := by rw [hv]; rfl
 obtain ⟨l0, hl0, hrow⟩ := h.rowOf hr
 have hil := (List.getElem?_eq_some_iff.1 hr).1
 have hgl := (h.pend.lt g hg).2
 have hbg : g ≠ b := fun e => zaC h.pend hrow (by decide) hg (by rw [e]; exact hb)
 have e1 : p ≠ g := fun e => zar h.pend h.at_ (Ne.symm hT') (by rw [e]; exact hg)
 have e2 : p ≠ b := fun e => zar hrow h.at_ (Ne.symm hT) (by rw [e]; exact hb)
 refine ⟨?_, h.base, ?_, ?_, ?_, by simp [h.len], ?_, h.apart, ?_⟩
 · rw [zaD e1, hk p (zao h.at_) e2]; exact h.at_
 · refine za3 h.words fun g' e => ?_
   have n1 : g' ≠ g := fun e' => zaC h.words h.pend (by decide) e (by rw [e']; exact hg)
   have n2 : g' ≠ b := fun e' => zaC h.words hrow (by decide) e (by rw [e']; exact hb)
   rw [zaD n1, hk g' (h.words.lt g' e).2 n2]
 · have hw : w'.ownsRow B 57 1 pv m.pend.length rows := za3 h.pend fun g' e => by
    rw [hg] at e; injection e with e; subst e
    exact hk g hgl hbg
   rw [hv] at hw ⊢
   obtain ⟨a, c', e⟩ := zai hw
   injection e with e1 e2 e3
   subst e1 e2 e3
   have := (World.ownsRow.stored (n := m.pend.length) hw i r').1
   simp only [List.length_set]
   exact this
 · refine za3 h.res fun g' e => ?_
   have n1 : g' ≠ g := fun e' => zaC h.res h.pend (by decide) e (by rw [e']; exact hg)
   have n2 : g' ≠ b := fun e' => zaC h.res hrow (by decide) e (by rw [e']; exact hb)
   rw [zaD n1, hk g' (h.res.lt g' e).2 n2]
 · intro j s l hs hl
   by_cases hj : i = j
   · subst hj
     simp only [List.getElem?_set_self hil] at hs
     have hil' : i < m.pend.length := by rw [← h.len]; exact hil
     simp only [List.getElem?_set_self hil'] at hl
     injection hs with hs; injection hl with hl
     subst hs hl
     refine za3 ho fun g' e => zaD (fun e' => ?_)
     subst e'
     rw [hr'] at e
     injection e with e
     exact hbg e.symm
   · simp only [List.getElem?_set_ne hj] at hs hl
     have hj' := h.each j s l hs hl
     refine za3 hj' fun g' e => ?_
     have n1 : g' ≠ g := fun e' => zaC hj' h.pend (by decide) e (by rw [e']; exact hg)
     have n2 : g' ≠ b := fun e' => h.rowsApart i j r s b hr hs hj hb (by rw [← e']; exact e)
     rw [zaD n1, hk g' (hj'.lt g' e).2 n2]
 · intro j k s t g' hs ht hjk hsg
   by_cases h1 : i = j
   · subst h1
     rw [List.getElem?_set_self hil] at hs
     injection hs with hs; subst hs
     rw [List.getElem?_set_ne hjk] at ht
     rw [hr'] at hsg; injection hsg with hsg; subst hsg
     exact h.rowsApart i k r t b hr ht hjk hb
   · rw [List.getElem?_set_ne h1] at hs
     by_cases h2 : i = k
     · subst h2
       rw [List.getElem?_set_self hil] at ht
       injection ht with ht; subst ht
       rw [hr']
       intro e; injection e with e; subst e
       exact h.rowsApart j i s r b hs hr (Ne.symm h1) hsg hb
     · rw [List.getElem?_set_ne h2] at ht
       exact h.rowsApart j k s t g' hs ht hjk hsg
theorem OwnMem.push {w1 w2 : World} (h : OwnMem w B p T m wv pv rv rows) (hT : T ≠ 57) (hT1 : T ≠ 3) (hT2 : T ≠ 127) {r pv' : Value} {l : List (Int × Int)} (hb : Below w.heap.size w w1) (hr : w1.ownsRow w.heap.size 127 2 r l.length (entC l))
 (hp : w2.ownsRow B 57 1 pv' (m.pend.length + 1) (rows ++ [r])) (hg : w1.grownBy w2 pv.ownBlock) (hB : B ≤ w.heap.size) :
 OwnMem (w2.setCell ⟨p, 1, none⟩ pv') B p T ⟨m.words, m.pend ++ [l], m.res⟩ wv pv' rv (rows ++ [r]) := by
 have k := h.below hb
 have old : ∀ g, g < w1.heap.size → pv.ownBlock ≠ some g → w2.heap[g]? = w1.heap[g]? := fun g hg' hne => hg.block g hg' (fun e => hne e.symm)
 have np : pv.ownBlock ≠ some p := zar k.pend k.at_ (Ne.symm hT)
 have hat : w2.heap[p]? = some (.cells #[wv, pv, rv] T (0, 0)) := by rw [old p (zao k.at_) np]; exact k.at_
 have nb : ∀ {e kk n : Nat} {v : Value} {xs : List Value}, w1.ownsRow B e kk v n xs → e ≠ 57 → e ≠ T → (w2.setCell ⟨p, 1, none⟩ pv').ownsRow B e kk v n xs := fun ho hne hne2 =>
  za3 ho fun g e => by
   have hgp : g ≠ p := fun e' => zar ho k.at_ hne2 (by rw [← e']; exact e)
   rw [zaD hgp, old g (ho.lt g e).2 (fun e' => zaC ho k.pend hne e e')]
 have np' : pv'.ownBlock ≠ some p := zar hp hat (Ne.symm hT)
 have lr : rows.length = m.pend.length := h.len
 refine ⟨?_, h.base, nb k.words (by decide) (Ne.symm hT1), ?_, nb k.res (by decide) (Ne.symm hT1), by simp [lr], ?_, h.apart, ?_⟩
 · have := zaG hat 1 pv'
   simpa using this
 · simp only [List.length_append, List.length_cons, List.length_nil]
   exact za3 hp fun g e => zaD (fun e' => np' (by rw [← e']; exact e))
 · intro i s l' hs hl
   by_cases hi : i < rows.length
   · rw [List.getElem?_append_left hi] at hs
     rw [List.getElem?_append_left (by omega)] at hl
     exact nb (k.each i s l' hs hl) (by decide) (Ne.symm hT2)
   · have hi2 := (List.getElem?_eq_some_iff.1 hs).1
     have : i = rows.length := by simp at hi2; omega
     subst this
     simp at hs
     rw [lr] at hl
     simp at hl
     subst hs hl
     exact nb (za0 hr hB) (by decide) (Ne.symm hT2)
 · intro i j s t g hs ht hij hsg
   by_cases hi : i < rows.length
   · rw [List.getElem?_append_left hi] at hs
     by_cases hj : j < rows.length
     · rw [List.getElem?_append_left hj] at ht
       exact h.rowsApart i j s t g hs ht hij hsg
     · have hj2 := (List.getElem?_eq_some_iff.1 ht).1
       have : j = rows.length := by simp at hj2; omega
       subst this
       simp at ht
       subst ht
       intro e
       have h1 := (hr.lt g e).1
       obtain ⟨l1, _, ho⟩ := h.rowOf hs
       have h2 := (ho.lt g hsg).2
       omega
   · have hi2 := (List.getElem?_eq_some_iff.1 hs).1
     have : i = rows.length := by simp at hi2; omega
     subst this
     simp at hs
     subst hs
     have hj2 := (List.getElem?_eq_some_iff.1 ht).1
     have hj : j < rows.length := by simp at hj2; omega
     rw [List.getElem?_append_left hj] at ht
     intro e
     have h1 := (hr.lt g hsg).1
     obtain ⟨l1, _, ho⟩ := h.rowOf ht
     have h2 := (ho.lt g e).2
     omega
theorem OwnMem.stored {w1 : World} (h : OwnMem w B p T m wv pv rv rows) (hT : T ≠ 127) (hT' : T ≠ 57) {i : Nat} {r r' : Value} {l' : List (Int × Int)} (hr : rows[i]? = some r)
 (hg : w.grownBy w1 r.ownBlock) (ho : w1.ownsRow B 127 2 r' l'.length (entC l')) {g n c : Nat} (hv : pv = .slice (some ⟨g, 0, none⟩) n c) :
 (w1.setCell ⟨g, i, none⟩ r').heap[p]? = some (.cells #[wv, pv, rv] T (0, 0)) ∧ IsMem (w1.setCell ⟨g, i, none⟩ r') (.agg #[wv, pv, rv]) ⟨m.words, m.pend.set i l', m.res⟩ := by
 have hgb : pv.ownBlock = some g := by rw [hv]; rfl
 obtain ⟨l0, hl0, hrow⟩ := h.rowOf hr
 have hil := (List.getElem?_eq_some_iff.1 hr).1
 have hil' : i < m.pend.length := by rw [← h.len]; exact hil
 have old : ∀ b, b < w.heap.size → r.ownBlock ≠ some b → w1.heap[b]? = w.heap[b]? := fun b hb hne => hg.block b hb (fun e => hne e.symm)
 have np : r.ownBlock ≠ some p := zar hrow h.at_ (Ne.symm hT)
 have ng : r.ownBlock ≠ some g := fun e => zaC h.pend hrow (by decide) hgb e
 have e1 : p ≠ g := fun e => zar h.pend h.at_ (Ne.symm hT') (by rw [e]; exact hgb)
 have kw : (w1.setCell ⟨g, i, none⟩ r').ownsRow B 3 1 wv m.words.length (intC m.words) := za3 h.words fun b e => by
  rw [zaD (fun e' => zaC h.words h.pend (by decide) e (by rw [e']; exact hgb)), old b (h.words.lt b e).2 (fun e' => zaC h.words hrow (by decide) e e')]
 have kr : (w1.setCell ⟨g, i, none⟩ r').ownsRow B 3 1 rv m.res.length (intC m.res) := za3 h.res fun b e => by
  rw [zaD (fun e' => zaC h.res h.pend (by decide) e (by rw [e']; exact hgb)), old b (h.res.lt b e).2 (fun e' => zaC h.res hrow (by decide) e e')]
 have kp : (w1.setCell ⟨g, i, none⟩ r').ownsRow B 57 1 pv (m.pend.set i l').length (rows.set i r') := by
  have hw : w1.ownsRow B 57 1 pv m.pend.length rows := za3 h.pend fun g' e => by
   rw [hgb] at e; injection e with e; subst e
   exact old g (h.pend.lt g hgb).2 ng
  rw [hv] at hw ⊢
  obtain ⟨a, c', e⟩ := zai hw
  injection e with e1 e2 e3
  subst e1 e2 e3
  have := (World.ownsRow.stored (n := m.pend.length) hw i r').1
  simp only [List.length_set]
  exact this
 have ke : ∀ (j : Nat) (s : Value) (l : List (Int × Int)), (rows.set i r')[j]? = some s → (m.pend.set i l')[j]? = some l → (w1.setCell ⟨g, i, none⟩ r').ownsRow B 127 2 s l.length (entC l) := by
  intro j s l hs hl
  by_cases hj : i = j
  · subst hj
    simp only [List.getElem?_set_self hil] at hs
    simp only [List.getElem?_set_self hil'] at hl
    injection hs with hs; injection hl with hl
    subst hs hl
    refine za3 ho fun g' e => zaD (fun e' => ?_)
    subst e'
    have hpg := zbx kp (g := g') (by rw [hv]; rfl)
    obtain ⟨c1, hc1⟩ := hpg
    obtain ⟨c2, hc2⟩ := zbx ho e
    have : (w1.setCell ⟨g', i, none⟩ r').heap[g']? = some (.cells (c2.setIfInBounds i r') 127 (0, 0)) := zaG hc2 i r'
    rw [hc1] at this
    injection this with e1
    injection e1 with _ e2
    exact absurd e2 (by decide)
  · simp only [List.getElem?_set_ne hj] at hs hl
    have hj' := h.each j s l hs hl
    refine za3 hj' fun g' e => ?_
    rw [zaD (fun e' => zaC hj' h.pend (by decide) e (by rw [e']; exact hgb)), old g' (hj'.lt g' e).2 (fun e' => h.rowsApart j i s r g' hs hr (Ne.symm hj) e e')]
 refine ⟨?_, wv, pv, rv, rows.set i r', rfl, zbq kw, zbq kp, zbq kr, by simp [h.len], fun j s l hs hl => zbq (ke j s l hs hl)⟩
 rw [zaD e1, old p (zao h.at_) np]; exact h.at_
theorem IsMem.setVar {b j : Nat} {u v : Value} {cs : Array Value} (h : IsMem w v m) (hb : w.heap[b]? = some (.cells cs T (0, 0))) (hT : T ≠ 3) (hT1 : T ≠ 127) (hT2 : T ≠ 57) : IsMem (w.setCell ⟨b, j, none⟩ u) v m := by
 obtain ⟨wv, pv, rv, rows, rfl, h1, h2, h3, h4, h5⟩ := h
 exact ⟨wv, pv, rv, rows, rfl, za3 h1 fun g e => zaD (fun e' => zar h1 hb (Ne.symm hT) (by rw [← e']; exact e)), za3 h2 fun g e => zaD (fun e' => zar h2 hb (Ne.symm hT2) (by rw [← e']; exact e)),
  za3 h3 fun g e => zaD (fun e' => zar h3 hb (Ne.symm hT) (by rw [← e']; exact e)), h4, fun i r l hr hl => za3 (h5 i r l hr hl) fun g e => zaD (fun e' => zar (h5 i r l hr hl) hb (Ne.symm hT1) (by rw [← e']; exact e))⟩
end
end
section
open Go.RowKit
theorem IsMem.parts {w : World} {v : Value} {m : Mem} (h : IsMem w v m) : ∃ a1 c1 a2 c2 a3 c3 rows, v = .agg #[.slice a1 m.words.length c1, .slice a2 m.pend.length c2, .slice a3 m.res.length c3] ∧ Reads w 1 m.words.length (.slice a1 m.words.length c1) (intC m.words) ∧
 Reads w 1 m.pend.length (.slice a2 m.pend.length c2) rows ∧ Reads w 1 m.res.length (.slice a3 m.res.length c3) (intC m.res) ∧ RowsAt w rows m.pend := by
 obtain ⟨wv, pv, rv, rows, rfl, h1, h2, h3, h4⟩ := h
 obtain ⟨a1, c1, rfl⟩ := zai h1
 obtain ⟨a2, c2, rfl⟩ := zai h2
 obtain ⟨a3, c3, rfl⟩ := zai h3
 refine ⟨a1, c1, a2, c2, a3, c3, rows, rfl, Reads.own h1 (zfs _), Reads.own h2 (fun u hu => ?_), Reads.own h3 (zfs _), h4⟩
 obtain ⟨i, hi, rfl⟩ := List.mem_iff_getElem.1 hu
 have hi' : i < m.pend.length := by rw [← h4.1]; exact hi
 exact own_one (h4.2 i rows[i] m.pend[i] (by simp) (by simp [hi']))
theorem zan (w : World) (o : Obj) : Below w.heap.size w (w.alloc o) := (Below.refl _ _).alloc (Nat.le_refl _) _
set_option maxHeartbeats 1000000 in
theorem zbT (v : Value) (m : Mem) (h : Int) (r : Bool) (w : World) (hm : IsMem w v m) (hr : zdu m h = r) :
 Calls Tryz.prog 118 #[v, .int .i64 h] w fun e w' => e = .returned (.bool r) ∧ Below w.heap.size w w' := by
 obtain ⟨a1, c1, a2, c2, a3, c3, rows, rfl, _, _, _, _⟩ := hm.parts
 subst hr
 unfold zdu
 generalize m.words.length = n1
 generalize m.pend.length = n2
 generalize m.res.length = n3
 by_cases h0 : 0 ≤ h
 · have hd : decide (0 ≤ h) = true := decide_eq_true h0
   rw [hd]
   by_cases h1 : h < n2
   · by_cases h2 : h < n3
     · have e1 : decide (h < (n2 : Int)) = true := decide_eq_true h1
       have e2 : decide (h < (n3 : Int)) = true := decide_eq_true h2
       rw [e1, e2]
       go_enter Tryz.func118, Tryz.ntmps118
       go_wp2
       all_goals first | omega | (go_ret; exact ⟨ret1 (za1 (by first | rfl | (apply decide_eq_false; omega) | (apply decide_eq_true; omega))), zan _ _⟩)
     · have e1 : decide (h < (n2 : Int)) = true := decide_eq_true h1
       have e2 : decide (h < (n3 : Int)) = false := decide_eq_false h2
       rw [e1, e2]
       go_enter Tryz.func118, Tryz.ntmps118
       go_wp2
       all_goals first | omega | (go_ret; exact ⟨ret1 (za1 (by first | rfl | (apply decide_eq_false; omega) | (apply decide_eq_true; omega))), zan _ _⟩)
   · have e1 : decide (h < (n2 : Int)) = false := decide_eq_false h1
     rw [e1]
     go_enter Tryz.func118, Tryz.ntmps118
     go_wp2
     all_goals first | omega | (go_ret; exact ⟨ret1 (za1 (by first | rfl | (apply decide_eq_false; omega) | (apply decide_eq_true; omega))), zan _ _⟩)
 · have hd : decide (0 ≤ h) = false := decide_eq_false h0
   rw [hd]
   go_enter Tryz.func118, Tryz.ntmps118
   go_wp2
   go_ret
   exact ⟨ret1 (za1 rfl), zan _ _⟩
set_option maxHeartbeats 1000000 in
theorem zc2 (v : Value) (m : Mem) (h a : Int) (r : Bool) (w : World) (hm : IsMem w v m) (hr : hasB m h a = r) :
 Calls Tryz.prog 119 #[v, .int .i64 h, .int .i64 a] w fun e w' => e = .returned (.bool r) ∧ Below w.heap.size w w' := by
 subst hr
 have HM := zhd hm
 obtain ⟨a1, c1, a2, c2, a3, c3, rows, rfl, _, _, _, _⟩ := hm.parts
 clear hm
 unfold hasB
 cases hh : zdu m h
 · have HH := zhd hh; clear hh
   generalize m.words.length = n1 at *
   generalize m.pend.length = n2 at *
   generalize m.res.length = n3 at *
   go_enter Tryz.func119, Tryz.ntmps119
   go_wp2_with (go_at_call 118; ((with_reducible refine (zbT _ m h false _ (HM.out.below (zan _ _)) HH.out).mono ?_); rintro e w1 ⟨rfl, hb⟩))
   go_ret
   exact ⟨ret1 (za1 rfl), zae (zan _ _) hb⟩
 · have HH := zhd hh; clear hh
   generalize m.words.length = n1 at *
   generalize m.pend.length = n2 at *
   generalize m.res.length = n3 at *
   by_cases h0 : 0 ≤ a
   · have hd : decide (0 ≤ a) = true := decide_eq_true h0
     rw [hd]
     cases hd2 : decide (a < (n1 : Int))
     all_goals
      go_enter Tryz.func119, Tryz.ntmps119
      go_wp2_with (go_at_call 118; ((with_reducible refine (zbT _ m h true _ (HM.out.below (zan _ _)) HH.out).mono ?_); rintro e w1 ⟨rfl, hb⟩; obtain ⟨c1, f1⟩ := za8 hb))
      go_ret
      exact ⟨ret1 (za1 rfl), zae (zan _ _) hb⟩
   · have hd : decide (0 ≤ a) = false := decide_eq_false h0
     rw [hd]
     go_enter Tryz.func119, Tryz.ntmps119
     go_wp2_with (go_at_call 118; ((with_reducible refine (zbT _ m h true _ (HM.out.below (zan _ _)) HH.out).mono ?_); rintro e w1 ⟨rfl, hb⟩))
     go_ret
     exact ⟨ret1 (za1 rfl), zae (zan _ _) hb⟩
theorem zcG {m : Mem} {h a : Int} (hh : hasB m h a = true) : 0 ≤ h ∧ h < m.pend.length ∧ h < m.res.length ∧ 0 ≤ a ∧ a < m.words.length := by
 simp only [hasB, zdu, Bool.and_eq_true, decide_eq_true_eq] at hh
 omega
theorem zdi {m : Mem} {h : Int} (h1 : h < m.pend.length) (h0 : 0 ≤ h) : m.pend[h.toNat]? = some (zaJ m h) := by
 unfold zaJ
 have : h.toNat < m.pend.length := by omega
 simp [this]
theorem RowsAt.at' {w : World} {rows : List Value} {m : Mem} (hr : RowsAt w rows m.pend) {h : Int} (h1 : h < m.pend.length) (h0 : 0 ≤ h) : ∃ a c, rows[h.toNat]? = some (.slice a (zaJ m h).length c) ∧ Reads w 2 (zaJ m h).length (.slice a (zaJ m h).length c) (entC (zaJ m h)) := by
 have hl : h.toNat < rows.length := by rw [hr.1]; omega
 have hrr := Reads.own (hr.2 h.toNat rows[h.toNat] _ (by simp [hl]) (zdi h1 h0)) (zdb _)
 obtain ⟨a, c, e⟩ := hrr.shape
 exact ⟨a, c, by rw [← e]; simp [hl], by rw [← e]; exact hrr⟩
theorem Reads.some {w : World} {k n : Nat} {v : Value} {xs : List Value} (h : Reads w k n v xs) (hn : 0 < n) :
 ∃ b o c, v = .slice (some ⟨b, o, none⟩) n c ∧ b < w.heap.size ∧ n ≤ c ∧ c ≤ maxLen ∧ ∀ j u, xs[j]? = some u → w.cell? ⟨b, o + j, none⟩ = some u := by
 rcases h.2.2 with ⟨_, h0⟩ | h
 · omega
 · exact h
theorem IsMem.row {w : World} {a1 a2 a3 : Option Addr} {n1 n2 n3 c1 c2 c3 : Nat} {m : Mem} (hm : IsMem w (.agg #[.slice a1 n1 c1, .slice a2 n2 c2, .slice a3 n3 c3]) m) {h : Int} (h1 : h < m.pend.length) (h0 : 0 ≤ h) :
 ∃ b o a c, a2 = some ⟨b, o, none⟩ ∧ n2 = m.pend.length ∧ c2 ≤ 9223372036854775807 ∧ n2 ≤ c2 ∧ b < w.heap.size ∧ w.cell? ⟨b, o + h.toNat, none⟩ = some (.slice a (zaJ m h).length c) ∧ Reads w 2 (zaJ m h).length (.slice a (zaJ m h).length c) (entC (zaJ m h)) := by
 obtain ⟨a1', c1', a2', c2', a3', c3', rows, e, r1, r2, r3, r4⟩ := hm.parts
 injection e with e
 have e2 : (.slice a2' m.pend.length c2' : Value) = .slice a2 n2 c2 := by
  have := congrArg (fun x => x[1]?) e
  simpa using this.symm
 rw [e2] at r2
 obtain ⟨b, o, c, e3, hlt, hc, hmx, hcell⟩ := r2.some (by omega)
 injection e3 with e4 e5 e6
 subst e4 e5 e6
 obtain ⟨a, c', hrow, hrd⟩ := r4.at' h1 h0
 unfold maxLen at hmx
 exact ⟨b, o, a, c', rfl, rfl, by omega, hc, hlt, hcell _ _ hrow, hrd⟩
set_option maxHeartbeats 1000000 in
theorem zcP (v : Value) (m : Mem) (h a : Int) (r : Int) (w : World) (hm : IsMem w v m) (hr : zca m h a = r) :
 Calls Tryz.prog 189 #[v, .int .i64 h, .int .i64 a] w fun e w' => e = .returned (.int .i64 r) ∧ Below w.heap.size w w' := by
 subst hr
 have HM := zhd hm
 obtain ⟨a1, c1, a2, c2, a3, c3, rows, rfl, _, _, _, _⟩ := hm.parts
 unfold zca
 cases hh : hasB m h a
 · have HH := zhd hh; clear hh hm
   generalize m.words.length = n1 at *
   generalize m.pend.length = n2 at *
   generalize m.res.length = n3 at *
   go_enter Tryz.func189, Tryz.ntmps189
   go_wp2_with (go_at_call 119; ((with_reducible refine (zc2 _ m h a false _ (HM.out.below (zan _ _)) HH.out).mono ?_); rintro e w1 ⟨rfl, hb⟩))
   go_ret
   exact ⟨ret1 rfl, zae (zan _ _) hb⟩
 · obtain ⟨q1, q2, q3, q4, q5⟩ := zcG hh
   obtain ⟨b, o, a', c', rfl, q6, q7, q8, q9, q10, _⟩ := hm.row q2 q1
   have HH := zhd hh; clear hh hm
   have q11 : h.toNat < m.pend.length := by omega
   generalize m.words.length = n1 at *
   generalize m.pend.length = n2 at *
   generalize m.res.length = n3 at *
   generalize (zaJ m h).length = n4 at *
   by_cases hL : n4 = 0
   · subst hL
     go_enter Tryz.func189, Tryz.ntmps189
     go_wp2_with (go_at_call 119; ((with_reducible refine (zc2 _ m h a true _ (HM.out.below (zan _ _)) HH.out).mono ?_); rintro e w1 ⟨rfl, hb⟩; obtain ⟨c1, f1⟩ := za8 hb))
     go_ret
     exact ⟨ret1 rfl, zae (zan _ _) hb⟩
   · have hL' : 0 < n4 := by omega
     have HL := zhd hL; clear hL
     go_enter Tryz.func189, Tryz.ntmps189
     go_wp2_with (go_at_call 119; ((with_reducible refine (zc2 _ m h a true _ (HM.out.below (zan _ _)) HH.out).mono ?_); rintro e w1 ⟨rfl, hb⟩; obtain ⟨c1, f1⟩ := za8 hb))
     go_ret
     exact ⟨ret1 (by first | rfl | (rw [if_pos rfl, if_neg HL.out]; rfl)), zae (zan _ _) hb⟩
end
section
open Go.RowKit
theorem zft : (Tryz.prog.info? 127).map (fun i => (i.zero, i.size, i.bytes)) = some (some (.agg #[.int .i64 0, .int .i64 0]), 2, 16) := by kernel_rfl
theorem zhK : (Tryz.prog.info? 57).map (fun i => (i.zero, i.size, i.bytes)) = some (some (.slice none 0 0), 1, 24) := by kernel_rfl
set_option maxHeartbeats 1000000 in
theorem zh1 (v : Value) (n : Nat) (xs : List Value) (w : World) (h : Reads w 2 n v xs) (hb : n * 16 ≤ 140737488355328) :
 Calls Tryz.prog 85 #[v] w fun e w' => ∃ v', e = .returned v' ∧ w'.ownsRow w.heap.size 127 2 v' n xs ∧ Below w.heap.size w w' := by
 obtain ⟨hl, h1, h2⟩ := h
 obtain ⟨i0, hi, hz0, hz1, hz2⟩ := info_parts zft
 rcases h2 with ⟨rfl, rfl⟩ | ⟨b, o, c, rfl, hlt, hn, hm, hcell⟩
 · have hq := fun w : World => Lib.run_eql_slice_nil (P := Tryz.prog) w 57 127 none 0 0 0 0 Tryz.underlying57
   have hxs : xs = [] := List.eq_nil_of_length_eq_zero (by simpa using hl)
   have HX := zhd hxs; clear hxs hl hb
   go_enter Tryz.func85, Tryz.ntmps85
   go_wp2
   go_ret
   exact ⟨_, rfl, by rw [HX.out]; exact World.ownsRow_nil _ _ _ _, Below.refl _ _⟩
 · have hq := fun w : World => Lib.run_eql_slice_nil (P := Tryz.prog) w 57 127 (some ⟨b, o, none⟩) n c 0 0 Tryz.underlying57
   have hw0 : (w.alloc (.cells #[] 127)).ownsRow w.heap.size 127 2 (.slice (some ⟨w.heap.size, 0, none⟩) 0 0) 0 [] := World.ownsRow_made w #[] 0 (Nat.le_refl _) (by simp) (by simp)
   have hc' : ∀ j u, xs[j]? = some u → (w.alloc (.cells #[] 127)).cell? ((⟨b, o, none⟩ : Addr).add j) = some u := fun j u hj => by
    rw [← hcell j u hj]; rw [zaQ]; exact Below.cell (p := ⟨b, o + j, none⟩) ((Below.refl _ _).alloc (Nat.le_refl _) (.cells #[] 127)) hlt
   have H0 := zhd hw0; have HC := zhd hc'; have HL := zhd hl; have H1 := zhd h1
   clear hw0 hc' hl h1 hcell
   have hnm : 0 + n ≤ maxLen := by omega
   go_enter Tryz.func85, Tryz.ntmps85
   go_wp2_with (at_builtin; refine wpList_append_own _ rfl _ _ 57 rfl w.heap.size 127 i0 (.agg #[.int .i64 0, .int .i64 0]) 2 16 Tryz.underlying57 hi hz0 hz1 hz2 rfl (by decide) _ 0 [] rfl H0.out ⟨b, o, none⟩ n c xs rfl HL.out HC.out H1.out hnm (by omega) (by simp) ?_; intro v' w1 hown hgrow _)
   go_ret
   refine ⟨_, rfl, by simpa using hown, ?_⟩
   exact ((Below.refl _ _).alloc (Nat.le_refl _) _).grown hgrow (by simp) (fun k hk => by cases hk; exact Nat.le_refl _)
theorem zaf {w w' : World} {b : Nat} {o : Obj} (hu : Below w.heap.size w w') (h : w.heap[b]? = some o) : w'.heap[b]? = some o := zaq hu (zao h) h
theorem zah {w : World} {b : Nat} {x y z : Value} {t : TypeId} (h : w.heap[b]? = some (.cells #[x, y, z] t (0, 0))) : w.cell? ⟨b, 0, none⟩ = some x ∧ w.cell? ⟨b, 1, none⟩ = some y ∧ w.cell? ⟨b, 2, none⟩ = some z :=
 ⟨zad h rfl, zad h rfl, zad h rfl⟩
theorem zhQ {a w w' : World} {row : Option Nat} (h : Below a.heap.size a w) (hg : w.grownBy w' row) (hr : ∀ g, row = some g → a.heap.size ≤ g) : Below a.heap.size a w' := h.grown hg h.size (fun k hk => hr k hk)
theorem zaR {w : World} {q T : Nat} {z0 z1 z2 x y z : Value} (hq : w.heap[q]? = some (.cells #[z0, z1, z2] T (0, 0))) :
 (((w.setCell ⟨q, 0, none⟩ x).setCell ⟨q, 1, none⟩ y).setCell ⟨q, 2, none⟩ z).heap[q]? = some (.cells #[x, y, z] T (0, 0)) ∧ ∀ g, g ≠ q → (((w.setCell ⟨q, 0, none⟩ x).setCell ⟨q, 1, none⟩ y).setCell ⟨q, 2, none⟩ z).heap[g]? = w.heap[g]? := by
 refine ⟨?_, fun g hg => by rw [zaD hg, zaD hg, zaD hg]⟩
 have h0 := zaG hq 0 x
 have h1 := zaG h0 1 y
 have h2 := zaG h1 2 z
 simpa using h2
theorem zcr {w : World} {q T B e k n : Nat} {z0 z1 z2 v : Value} {xs : List Value} (x y z : Value) (ho : w.ownsRow B e k v n xs) (hq : w.heap[q]? = some (.cells #[z0, z1, z2] T (0, 0))) (hne : e ≠ T) : (((w.setCell ⟨q, 0, none⟩ x).setCell ⟨q, 1, none⟩ y).setCell ⟨q, 2, none⟩ z).ownsRow B e k v n xs :=
 za3 ho fun g e' => (zaR hq).2 g (fun e'' => zar ho hq hne (by rw [← e'']; exact e'))
theorem za9 {a w : World} {q : Nat} {x y z : Value} (h : Below a.heap.size a w) (hq : a.heap.size ≤ q) : Below a.heap.size a (((w.setCell ⟨q, 0, none⟩ x).setCell ⟨q, 1, none⟩ y).setCell ⟨q, 2, none⟩ z) := zaj (zaj (zaj h hq _) hq _) hq _
theorem zds {w : World} {B q T : Nat} {wv rv : Value} {words res : List Int} {n1 n3 : Nat} (hq : w.heap[q]? = some (.cells #[wv, .slice none 0 0, rv] T (0, 0))) (hB : B ≤ q) (h1 : w.ownsRow B 3 1 wv n1 (intC words)) (h3 : w.ownsRow B 3 1 rv n3 (intC res))
 (hap : ∀ g, wv.ownBlock = some g → rv.ownBlock ≠ some g) : OwnMem w B q T ⟨words, [], res⟩ wv (.slice none 0 0) rv [] where
 at_ := hq
 base := hB
 words := by have := h1.1; rw [zjg, Nat.mul_one] at this; simpa [this] using h1
 pend := World.ownsRow_nil _ _ _ _
 res := by have := h3.1; rw [zjg, Nat.mul_one] at this; simpa [this] using h3
 len := rfl
 each := fun i r l hr _ => by simp at hr
 apart := hap
 rowsApart := fun i j r s g hr _ _ _ => by simp at hr
theorem zcX {w1 w2 : World} {b1 b2 e1 e2 k1 k2 n1 n2 : Nat} {v1 v2 : Value} {xs1 xs2 : List Value} (h1 : w1.ownsRow b1 e1 k1 v1 n1 xs1) (h2 : w2.ownsRow b2 e2 k2 v2 n2 xs2) (hb : w1.heap.size ≤ b2) : ∀ g, v1.ownBlock = some g → v2.ownBlock ≠ some g := by
 intro g hg hg'
 have := (h1.lt g hg).2
 have := (h2.lt g hg').1
 omega
set_option maxHeartbeats 4000000 in
theorem zfG (v : Value) (m : Mem) (w : World) (hm : IsMem w v m) (hs : Small m) :
 Calls Tryz.prog 122 #[v] w fun e w' => ∃ p wv pv rv rows, e = .returned (.pointer (some ⟨p, 0, none⟩)) ∧ OwnMem w' w.heap.size p 187 m wv pv rv rows ∧ Below w.heap.size w w' := by
 obtain ⟨a1, c1, a2, c2, a3, c3, rows, rfl, h1, h2, h3, h4⟩ := hm.parts
 have s1 := hs.words; have s2 := hs.pend; have s3 := hs.res
 have H1 := zhd h1; have H2 := zhd h2; have H3 := zhd h3; have H4 := zhd h4
 have HS := zhd hs.each
 clear hm h1 h2 h3 h4 hs
 obtain ⟨n1, hn1⟩ : ∃ n, m.words.length = n := ⟨_, rfl⟩
 obtain ⟨n2, hn2⟩ : ∃ n, m.pend.length = n := ⟨_, rfl⟩
 obtain ⟨n3, hn3⟩ : ∃ n, m.res.length = n := ⟨_, rfl⟩
 rw [hn1] at H1 s1
 rw [hn2] at H2 s2
 rw [hn3] at H3 s3
 rw [hn1, hn2, hn3]
 have HN1 := zhd hn1; have HN2 := zhd hn2; have HN3 := zhd hn3
 clear hn1 hn2 hn3
 obtain ⟨i0, hi, hz0, hz1, hz2⟩ := info_parts zhK
 go_enter Tryz.func122, Tryz.ntmps122
 go_upto_region 1 with (fail)
 go_cut [3] (fun s3 wx => ∃ q wv rv, s3 = .pointer (some ⟨q, 0, none⟩) ∧ OwnMem wx w.heap.size q 33 ⟨m.words, [], m.res⟩ wv (.slice none 0 0) rv [] ∧ wx.heap[w.heap.size]? = some (.cells #[.slice a1 n1 c1, .slice a2 n2 c2, .slice a3 n3 c3] 33 (0, 0)) ∧ Below w.heap.size w wx)
 case first =>
  refine zaV (fun w' => w.heap.size < w'.heap.size ∧ w'.heap[w.heap.size]? = some (.cells #[.slice a1 n1 c1, .slice a2 n2 c2, .slice a3 n3 c3] 33 (0, 0))) [true, true, false, true, true] (by kernel_rfl) (by kernel_rfl) (by kernel_rfl) (fun w1 w2 h hu => ⟨Nat.lt_of_lt_of_le h.1 hu.size, zaq hu h.1 h.2⟩) ⟨by simp, zat w _⟩ ?a' ?h ?ht
  case h =>
   intro w0 ⟨hlt, hcs⟩
   obtain ⟨k0, k1, k2⟩ := zah hcs
   have x0 := fun x => zal hlt k0 x
   have x2 := fun x => zal hlt k2 x
   clear k0 k1 k2 hcs
   simp only [zbb]
   repeat (go_big_quiet_step (fail))
   refine wpQuiet_nil ?_
   rfl
  case ht =>
   change zbh _ _ _ _ _ 5 _ _ _
   have HB0 : Hid (Below w.heap.size w (w.alloc (.cells #[.slice a1 n1 c1, .slice a2 n2 c2, .slice a3 n3 c3] 33)).drew) := zhd (zak (zan _ _))
   refine zeb (i := 2) (k := 7) (by kernel_rfl) rfl rfl ?_ ?_
   · intro w1 hu1 ⟨hl1, hx1⟩
     have B_1 := zhd (zae HB0.out hu1)
     clear HB0
     go_wp2_with fail
     refine (zbi (.slice a1 n1 c1) n1 _ _ (H1.out.below B_1.out) (by omega)).mono ?_
     rintro e v1 ⟨r1, rfl, ho1, hb1⟩
     obtain ⟨x1, y1, rfl⟩ := zai ho1
     have HR1 := zhd ho1
     have sz1 := hb1.size
     have B_1b := zhd (zae B_1.out hb1)
     clear B_1
     have O1 := zhd (za0 ho1 (Nat.le_trans (Nat.le_of_lt hl1) (Nat.le_refl _)))
     clear ho1
     have S1 : Hid (v1.heap.size ≤ v1.heap.size) := zhd (Nat.le_refl _)
     go_wp2_with fail
     refine ⟨⟨Nat.lt_of_lt_of_le hl1 hb1.size, zaf hb1 hx1⟩, ?_⟩
     refine zeb (i := 5) (k := 7) (by kernel_rfl) rfl rfl ?_ ?_
     · intro w2 hu2 ⟨hl2, hx2⟩
       have B_2 := zhd (zae B_1b.out hu2)
       clear B_1b
       have o1_2 := zhd (zab O1.out hu2)
       clear O1
       have s1_2 := zhd (Nat.le_trans S1.out (hu2).size)
       clear S1
       go_wp2_with fail
       refine (zbi (.slice a3 n3 c3) n3 _ _ (H3.out.below B_2.out) (by omega)).mono ?_
       rintro e v2 ⟨r3, rfl, ho3, hb2⟩
       obtain ⟨x3, y3, rfl⟩ := zai ho3
       have HR3 := zhd ho3
       have sz3 := hb2.size
       have szz := (s1_2).out
       have B_2b := zhd (zae B_2.out hb2)
       clear B_2
       have o1_2b := zhd (zab o1_2.out hb2)
       clear o1_2
       have s1_2b := zhd (Nat.le_trans s1_2.out (hb2).size)
       clear s1_2
       have O3 := zhd (za0 ho3 (Nat.le_trans (Nat.le_of_lt hl2) (Nat.le_refl _)))
       clear ho3
       go_wp2_with fail
       refine ⟨⟨Nat.lt_of_lt_of_le hl2 hb2.size, zaf hb2 hx2⟩, ?_⟩
       refine zeb (i := 6) (k := 7) (by kernel_rfl) rfl rfl ?_ ?_
       · intro w3 hu3 ⟨hl3, hx3⟩
         have B_3 := zhd (zae B_2b.out hu3)
         clear B_2b
         have o1_3 := zhd (zab o1_2b.out hu3)
         clear o1_2b
         have s1_3 := zhd (Nat.le_trans s1_2b.out (hu3).size)
         clear s1_2b
         have o3_3 := zhd (zab O3.out hu3)
         clear O3
         go_wp2_with fail
         refine ⟨⟨hl3, hx3⟩, ?_⟩
         refine zaA (i := 7) (by kernel_rfl) rfl ?_
         intro w4 hu4 ⟨hl4, hx4⟩
         have B_4 := zhd (zae B_3.out hu4)
         clear B_3
         have o1_4 := zhd (zab o1_3.out hu4)
         clear o1_3
         have s1_4 := zhd (Nat.le_trans s1_3.out (hu4).size)
         clear s1_3
         have o3_4 := zhd (zab o3_3.out hu4)
         clear o3_3
         go_wp2_with fail
         have B_4b := zhd (zae B_4.out (zan w4 (.cells #[.slice none 0 0, .slice none 0 0, .slice none 0 0] 33)))
         clear B_4
         have o1_4b := zhd (zab o1_4.out (zan w4 (.cells #[.slice none 0 0, .slice none 0 0, .slice none 0 0] 33)))
         clear o1_4
         have s1_4b := zhd (Nat.le_trans s1_4.out ((zan w4 (.cells #[.slice none 0 0, .slice none 0 0, .slice none 0 0] 33))).size)
         clear s1_4
         have o3_4b := zhd (zab o3_4.out (zan w4 (.cells #[.slice none 0 0, .slice none 0 0, .slice none 0 0] 33)))
         clear o3_4
         have HQ := zhd (zat w4 (.cells #[.slice none 0 0, .slice none 0 0, .slice none 0 0] 33))
         have HQB : Hid (w.heap.size ≤ w4.heap.size) := zhd (Nat.le_of_lt hl4)
         have hqne : w.heap.size < w4.heap.size := hl4
         refine ⟨⟨Nat.lt_of_lt_of_le hl4 (zan w4 (.cells #[.slice none 0 0, .slice none 0 0, .slice none 0 0] 33)).size, zaf (zan w4 (.cells #[.slice none 0 0, .slice none 0 0, .slice none 0 0] 33)) hx4⟩, ?_⟩
         refine zaA (i := 8) (by kernel_rfl) rfl ?_
         intro w5 hu5 ⟨hl5, hx5⟩
         have B_5 := zhd (zae B_4b.out hu5)
         clear B_4b
         have o1_5 := zhd (zab o1_4b.out hu5)
         clear o1_4b
         have s1_5 := zhd (Nat.le_trans s1_4b.out (hu5).size)
         clear s1_4b
         have o3_5 := zhd (zab o3_4b.out hu5)
         clear o3_4b
         have hq_5 := zhd (zaf hu5 HQ.out)
         clear HQ
         have hqB_5 := zhd (HQB.out)
         clear HQB
         obtain ⟨q0, q1, q2⟩ := zah hq_5.out
         have g0 := zaa hq_5.out 0
         have g1 := zaa hq_5.out 1
         have g2 := zaa hq_5.out 2
         go_wp2_with fail
         have O1z := zhd (zcr (.slice x1 n1 y1) (.slice none 0 0) (.slice x3 n3 y3) o1_5.out hq_5.out (by decide))
         have O3z := zhd (zcr (.slice x1 n1 y1) (.slice none 0 0) (.slice x3 n3 y3) o3_5.out hq_5.out (by decide))
         have HBz := zhd (za9 (x := .slice x1 n1 y1) (y := .slice none 0 0) (z := .slice x3 n3 y3) B_5.out hqB_5.out)
         have HQz := zhd (zaR (x := .slice x1 n1 y1) (y := .slice none 0 0) (z := .slice x3 n3 y3) hq_5.out)
         refine ⟨⟨by simp only [zaH]; exact hl5, ((HQz.out).2 w.heap.size (by have := hqB_5.out; have := hqne; omega)).trans hx5⟩, ?_⟩
         have HQy := zhd (HQz.out).1
         clear q0 q1 q2 g0 g1 g2 HQz
         refine zbv (by kernel_rfl) ?_
         intro w6 hu6 hc
         have B_6 := zhd (zae HBz.out hu6)
         clear HBz
         have o1_6 := zhd (zab O1z.out hu6)
         clear O1z
         have o3_6 := zhd (zab O3z.out hu6)
         clear O3z
         have hq_6 := zhd (zaf hu6 HQy.out)
         clear HQy
         have hqB_6 := zhd (hqB_5.out)
         clear hqB_5
         go_wp2_with fail
         go_meet
         case rel => exact ⟨_, _, _, rfl, zds hq_6.out (hqB_6.out) o1_6.out o3_6.out (zcX HR1.out HR3.out (by omega)), hc.2, B_6.out⟩
       · intro w3 hu3 ⟨hl3, hx3⟩
         have B_3 := zhd (zae B_2b.out hu3)
         clear B_2b
         have o1_3 := zhd (zab o1_2b.out hu3)
         clear o1_2b
         have s1_3 := zhd (Nat.le_trans s1_2b.out (hu3).size)
         clear s1_2b
         have o3_3 := zhd (zab O3.out hu3)
         clear O3
         go_wp2_with fail
         have B_3b := zhd (zae B_3.out (zan w3 (.cells #[.slice none 0 0, .slice none 0 0, .slice none 0 0] 33)))
         clear B_3
         have o1_3b := zhd (zab o1_3.out (zan w3 (.cells #[.slice none 0 0, .slice none 0 0, .slice none 0 0] 33)))
         clear o1_3
         have s1_3b := zhd (Nat.le_trans s1_3.out ((zan w3 (.cells #[.slice none 0 0, .slice none 0 0, .slice none 0 0] 33))).size)
         clear s1_3
         have o3_3b := zhd (zab o3_3.out (zan w3 (.cells #[.slice none 0 0, .slice none 0 0, .slice none 0 0] 33)))
         clear o3_3
         have HQ := zhd (zat w3 (.cells #[.slice none 0 0, .slice none 0 0, .slice none 0 0] 33))
         have HQB : Hid (w.heap.size ≤ w3.heap.size) := zhd (Nat.le_of_lt hl3)
         have hqne : w.heap.size < w3.heap.size := hl3
         refine ⟨⟨Nat.lt_of_lt_of_le hl3 (zan w3 (.cells #[.slice none 0 0, .slice none 0 0, .slice none 0 0] 33)).size, zaf (zan w3 (.cells #[.slice none 0 0, .slice none 0 0, .slice none 0 0] 33)) hx3⟩, ?_⟩
         refine zaA (i := 6) (by kernel_rfl) rfl ?_
         intro w4 hu4 ⟨hl4, hx4⟩
         have B_4 := zhd (zae B_3b.out hu4)
         clear B_3b
         have o1_4 := zhd (zab o1_3b.out hu4)
         clear o1_3b
         have s1_4 := zhd (Nat.le_trans s1_3b.out (hu4).size)
         clear s1_3b
         have o3_4 := zhd (zab o3_3b.out hu4)
         clear o3_3b
         have hq_4 := zhd (zaf hu4 HQ.out)
         clear HQ
         have hqB_4 := zhd (HQB.out)
         clear HQB
         go_wp2_with fail
         refine ⟨⟨hl4, hx4⟩, ?_⟩
         refine zaA (i := 8) (by kernel_rfl) rfl ?_
         intro w5 hu5 ⟨hl5, hx5⟩
         have B_5 := zhd (zae B_4.out hu5)
         clear B_4
         have o1_5 := zhd (zab o1_4.out hu5)
         clear o1_4
         have s1_5 := zhd (Nat.le_trans s1_4.out (hu5).size)
         clear s1_4
         have o3_5 := zhd (zab o3_4.out hu5)
         clear o3_4
         have hq_5 := zhd (zaf hu5 hq_4.out)
         clear hq_4
         have hqB_5 := zhd (hqB_4.out)
         clear hqB_4
         obtain ⟨q0, q1, q2⟩ := zah hq_5.out
         have g0 := zaa hq_5.out 0
         have g1 := zaa hq_5.out 1
         have g2 := zaa hq_5.out 2
         go_wp2_with fail
         have O1z := zhd (zcr (.slice x1 n1 y1) (.slice none 0 0) (.slice x3 n3 y3) o1_5.out hq_5.out (by decide))
         have O3z := zhd (zcr (.slice x1 n1 y1) (.slice none 0 0) (.slice x3 n3 y3) o3_5.out hq_5.out (by decide))
         have HBz := zhd (za9 (x := .slice x1 n1 y1) (y := .slice none 0 0) (z := .slice x3 n3 y3) B_5.out hqB_5.out)
         have HQz := zhd (zaR (x := .slice x1 n1 y1) (y := .slice none 0 0) (z := .slice x3 n3 y3) hq_5.out)
         refine ⟨⟨by simp only [zaH]; exact hl5, ((HQz.out).2 w.heap.size (by have := hqB_5.out; have := hqne; omega)).trans hx5⟩, ?_⟩
         have HQy := zhd (HQz.out).1
         clear q0 q1 q2 g0 g1 g2 HQz
         refine zbv (by kernel_rfl) ?_
         intro w6 hu6 hc
         have B_6 := zhd (zae HBz.out hu6)
         clear HBz
         have o1_6 := zhd (zab O1z.out hu6)
         clear O1z
         have o3_6 := zhd (zab O3z.out hu6)
         clear O3z
         have hq_6 := zhd (zaf hu6 HQy.out)
         clear HQy
         have hqB_6 := zhd (hqB_5.out)
         clear hqB_5
         go_wp2_with fail
         go_meet
         case rel => exact ⟨_, _, _, rfl, zds hq_6.out (hqB_6.out) o1_6.out o3_6.out (zcX HR1.out HR3.out (by omega)), hc.2, B_6.out⟩
     · intro w2 hu2 ⟨hl2, hx2⟩
       have B_2 := zhd (zae B_1b.out hu2)
       clear B_1b
       have o1_2 := zhd (zab O1.out hu2)
       clear O1
       have s1_2 := zhd (Nat.le_trans S1.out (hu2).size)
       clear S1
       go_wp2_with fail
       have B_2b := zhd (zae B_2.out (zan w2 (.cells #[.slice none 0 0, .slice none 0 0, .slice none 0 0] 33)))
       clear B_2
       have o1_2b := zhd (zab o1_2.out (zan w2 (.cells #[.slice none 0 0, .slice none 0 0, .slice none 0 0] 33)))
       clear o1_2
       have s1_2b := zhd (Nat.le_trans s1_2.out ((zan w2 (.cells #[.slice none 0 0, .slice none 0 0, .slice none 0 0] 33))).size)
       clear s1_2
       have HQ := zhd (zat w2 (.cells #[.slice none 0 0, .slice none 0 0, .slice none 0 0] 33))
       have HQB : Hid (w.heap.size ≤ w2.heap.size) := zhd (Nat.le_of_lt hl2)
       have hqne : w.heap.size < w2.heap.size := hl2
       refine ⟨⟨Nat.lt_of_lt_of_le hl2 (zan w2 (.cells #[.slice none 0 0, .slice none 0 0, .slice none 0 0] 33)).size, zaf (zan w2 (.cells #[.slice none 0 0, .slice none 0 0, .slice none 0 0] 33)) hx2⟩, ?_⟩
       refine zaA (i := 5) (by kernel_rfl) rfl ?_
       intro w3 hu3 ⟨hl3, hx3⟩
       have B_3 := zhd (zae B_2b.out hu3)
       clear B_2b
       have o1_3 := zhd (zab o1_2b.out hu3)
       clear o1_2b
       have s1_3 := zhd (Nat.le_trans s1_2b.out (hu3).size)
       clear s1_2b
       have hq_3 := zhd (zaf hu3 HQ.out)
       clear HQ
       have hqB_3 := zhd (HQB.out)
       clear HQB
       go_wp2_with fail
       refine (zbi (.slice a3 n3 c3) n3 _ _ (H3.out.below B_3.out) (by omega)).mono ?_
       rintro e v3 ⟨r3, rfl, ho3, hb3⟩
       obtain ⟨x3, y3, rfl⟩ := zai ho3
       have HR3 := zhd ho3
       have sz3 := hb3.size
       have szz := (s1_3).out
       have B_3b := zhd (zae B_3.out hb3)
       clear B_3
       have o1_3b := zhd (zab o1_3.out hb3)
       clear o1_3
       have s1_3b := zhd (Nat.le_trans s1_3.out (hb3).size)
       clear s1_3
       have hq_3b := zhd (zaf hb3 hq_3.out)
       clear hq_3
       have hqB_3b := zhd (hqB_3.out)
       clear hqB_3
       have O3 := zhd (za0 ho3 (Nat.le_trans (Nat.le_of_lt hl3) (Nat.le_refl _)))
       clear ho3
       go_wp2_with fail
       refine ⟨⟨Nat.lt_of_lt_of_le hl3 hb3.size, zaf hb3 hx3⟩, ?_⟩
       refine zaA (i := 6) (by kernel_rfl) rfl ?_
       intro w4 hu4 ⟨hl4, hx4⟩
       have B_4 := zhd (zae B_3b.out hu4)
       clear B_3b
       have o1_4 := zhd (zab o1_3b.out hu4)
       clear o1_3b
       have s1_4 := zhd (Nat.le_trans s1_3b.out (hu4).size)
       clear s1_3b
       have hq_4 := zhd (zaf hu4 hq_3b.out)
       clear hq_3b
       have hqB_4 := zhd (hqB_3b.out)
       clear hqB_3b
       have o3_4 := zhd (zab O3.out hu4)
       clear O3
       go_wp2_with fail
       refine ⟨⟨hl4, hx4⟩, ?_⟩
       refine zaA (i := 8) (by kernel_rfl) rfl ?_
       intro w5 hu5 ⟨hl5, hx5⟩
       have B_5 := zhd (zae B_4.out hu5)
       clear B_4
       have o1_5 := zhd (zab o1_4.out hu5)
       clear o1_4
       have s1_5 := zhd (Nat.le_trans s1_4.out (hu5).size)
       clear s1_4
       have hq_5 := zhd (zaf hu5 hq_4.out)
       clear hq_4
       have hqB_5 := zhd (hqB_4.out)
       clear hqB_4
       have o3_5 := zhd (zab o3_4.out hu5)
       clear o3_4
       obtain ⟨q0, q1, q2⟩ := zah hq_5.out
       have g0 := zaa hq_5.out 0
       have g1 := zaa hq_5.out 1
       have g2 := zaa hq_5.out 2
       go_wp2_with fail
       have O1z := zhd (zcr (.slice x1 n1 y1) (.slice none 0 0) (.slice x3 n3 y3) o1_5.out hq_5.out (by decide))
       have O3z := zhd (zcr (.slice x1 n1 y1) (.slice none 0 0) (.slice x3 n3 y3) o3_5.out hq_5.out (by decide))
       have HBz := zhd (za9 (x := .slice x1 n1 y1) (y := .slice none 0 0) (z := .slice x3 n3 y3) B_5.out hqB_5.out)
       have HQz := zhd (zaR (x := .slice x1 n1 y1) (y := .slice none 0 0) (z := .slice x3 n3 y3) hq_5.out)
       refine ⟨⟨by simp only [zaH]; exact hl5, ((HQz.out).2 w.heap.size (by have := hqB_5.out; have := hqne; omega)).trans hx5⟩, ?_⟩
       have HQy := zhd (HQz.out).1
       clear q0 q1 q2 g0 g1 g2 HQz
       refine zbv (by kernel_rfl) ?_
       intro w6 hu6 hc
       have B_6 := zhd (zae HBz.out hu6)
       clear HBz
       have o1_6 := zhd (zab O1z.out hu6)
       clear O1z
       have hq_6 := zhd (zaf hu6 HQy.out)
       clear HQy
       have hqB_6 := zhd (hqB_5.out)
       clear hqB_5
       have o3_6 := zhd (zab O3z.out hu6)
       clear O3z
       go_wp2_with fail
       go_meet
       case rel => exact ⟨_, _, _, rfl, zds hq_6.out (hqB_6.out) o1_6.out o3_6.out (zcX HR1.out HR3.out (by omega)), hc.2, B_6.out⟩
   · intro w1 hu1 ⟨hl1, hx1⟩
     have B_1 := zhd (zae HB0.out hu1)
     clear HB0
     go_wp2_with fail
     have B_1b := zhd (zae B_1.out (zan w1 (.cells #[.slice none 0 0, .slice none 0 0, .slice none 0 0] 33)))
     clear B_1
     have HQ := zhd (zat w1 (.cells #[.slice none 0 0, .slice none 0 0, .slice none 0 0] 33))
     have HQB : Hid (w.heap.size ≤ w1.heap.size) := zhd (Nat.le_of_lt hl1)
     have hqne : w.heap.size < w1.heap.size := hl1
     refine ⟨⟨Nat.lt_of_lt_of_le hl1 (zan w1 (.cells #[.slice none 0 0, .slice none 0 0, .slice none 0 0] 33)).size, zaf (zan w1 (.cells #[.slice none 0 0, .slice none 0 0, .slice none 0 0] 33)) hx1⟩, ?_⟩
     refine zaA (i := 2) (by kernel_rfl) rfl ?_
     intro w2 hu2 ⟨hl2, hx2⟩
     have B_2 := zhd (zae B_1b.out hu2)
     clear B_1b
     have hq_2 := zhd (zaf hu2 HQ.out)
     clear HQ
     have hqB_2 := zhd (HQB.out)
     clear HQB
     go_wp2_with fail
     refine (zbi (.slice a1 n1 c1) n1 _ _ (H1.out.below B_2.out) (by omega)).mono ?_
     rintro e v2 ⟨r1, rfl, ho1, hb2⟩
     obtain ⟨x1, y1, rfl⟩ := zai ho1
     have HR1 := zhd ho1
     have sz1 := hb2.size
     have B_2b := zhd (zae B_2.out hb2)
     clear B_2
     have hq_2b := zhd (zaf hb2 hq_2.out)
     clear hq_2
     have hqB_2b := zhd (hqB_2.out)
     clear hqB_2
     have O1 := zhd (za0 ho1 (Nat.le_trans (Nat.le_of_lt hl2) (Nat.le_refl _)))
     clear ho1
     have S1 : Hid (v2.heap.size ≤ v2.heap.size) := zhd (Nat.le_refl _)
     go_wp2_with fail
     refine ⟨⟨Nat.lt_of_lt_of_le hl2 hb2.size, zaf hb2 hx2⟩, ?_⟩
     refine zaA (i := 5) (by kernel_rfl) rfl ?_
     intro w3 hu3 ⟨hl3, hx3⟩
     have B_3 := zhd (zae B_2b.out hu3)
     clear B_2b
     have hq_3 := zhd (zaf hu3 hq_2b.out)
     clear hq_2b
     have hqB_3 := zhd (hqB_2b.out)
     clear hqB_2b
     have o1_3 := zhd (zab O1.out hu3)
     clear O1
     have s1_3 := zhd (Nat.le_trans S1.out (hu3).size)
     clear S1
     go_wp2_with fail
     refine (zbi (.slice a3 n3 c3) n3 _ _ (H3.out.below B_3.out) (by omega)).mono ?_
     rintro e v3 ⟨r3, rfl, ho3, hb3⟩
     obtain ⟨x3, y3, rfl⟩ := zai ho3
     have HR3 := zhd ho3
     have sz3 := hb3.size
     have szz := (s1_3).out
     have B_3b := zhd (zae B_3.out hb3)
     clear B_3
     have hq_3b := zhd (zaf hb3 hq_3.out)
     clear hq_3
     have hqB_3b := zhd (hqB_3.out)
     clear hqB_3
     have o1_3b := zhd (zab o1_3.out hb3)
     clear o1_3
     have s1_3b := zhd (Nat.le_trans s1_3.out (hb3).size)
     clear s1_3
     have O3 := zhd (za0 ho3 (Nat.le_trans (Nat.le_of_lt hl3) (Nat.le_refl _)))
     clear ho3
     go_wp2_with fail
     refine ⟨⟨Nat.lt_of_lt_of_le hl3 hb3.size, zaf hb3 hx3⟩, ?_⟩
     refine zaA (i := 6) (by kernel_rfl) rfl ?_
     intro w4 hu4 ⟨hl4, hx4⟩
     have B_4 := zhd (zae B_3b.out hu4)
     clear B_3b
     have hq_4 := zhd (zaf hu4 hq_3b.out)
     clear hq_3b
     have hqB_4 := zhd (hqB_3b.out)
     clear hqB_3b
     have o1_4 := zhd (zab o1_3b.out hu4)
     clear o1_3b
     have s1_4 := zhd (Nat.le_trans s1_3b.out (hu4).size)
     clear s1_3b
     have o3_4 := zhd (zab O3.out hu4)
     clear O3
     go_wp2_with fail
     refine ⟨⟨hl4, hx4⟩, ?_⟩
     refine zaA (i := 8) (by kernel_rfl) rfl ?_
     intro w5 hu5 ⟨hl5, hx5⟩
     have B_5 := zhd (zae B_4.out hu5)
     clear B_4
     have hq_5 := zhd (zaf hu5 hq_4.out)
     clear hq_4
     have hqB_5 := zhd (hqB_4.out)
     clear hqB_4
     have o1_5 := zhd (zab o1_4.out hu5)
     clear o1_4
     have s1_5 := zhd (Nat.le_trans s1_4.out (hu5).size)
     clear s1_4
     have o3_5 := zhd (zab o3_4.out hu5)
     clear o3_4
     obtain ⟨q0, q1, q2⟩ := zah hq_5.out
     have g0 := zaa hq_5.out 0
     have g1 := zaa hq_5.out 1
     have g2 := zaa hq_5.out 2
     go_wp2_with fail
     have O1z := zhd (zcr (.slice x1 n1 y1) (.slice none 0 0) (.slice x3 n3 y3) o1_5.out hq_5.out (by decide))
     have O3z := zhd (zcr (.slice x1 n1 y1) (.slice none 0 0) (.slice x3 n3 y3) o3_5.out hq_5.out (by decide))
     have HBz := zhd (za9 (x := .slice x1 n1 y1) (y := .slice none 0 0) (z := .slice x3 n3 y3) B_5.out hqB_5.out)
     have HQz := zhd (zaR (x := .slice x1 n1 y1) (y := .slice none 0 0) (z := .slice x3 n3 y3) hq_5.out)
     refine ⟨⟨by simp only [zaH]; exact hl5, ((HQz.out).2 w.heap.size (by have := hqB_5.out; have := hqne; omega)).trans hx5⟩, ?_⟩
     have HQy := zhd (HQz.out).1
     clear q0 q1 q2 g0 g1 g2 HQz
     refine zbv (by kernel_rfl) ?_
     intro w6 hu6 hc
     have B_6 := zhd (zae HBz.out hu6)
     clear HBz
     have hq_6 := zhd (zaf hu6 HQy.out)
     clear HQy
     have hqB_6 := zhd (hqB_5.out)
     clear hqB_5
     have o1_6 := zhd (zab O1z.out hu6)
     clear O1z
     have o3_6 := zhd (zab O3z.out hu6)
     clear O3z
     go_wp2_with fail
     go_meet
     case rel => exact ⟨_, _, _, rfl, zds hq_6.out (hqB_6.out) o1_6.out o3_6.out (zcX HR1.out HR3.out (by omega)), hc.2, B_6.out⟩
 case rest =>
  obtain ⟨q, wv, rv, rfl, hown, hpar, hB⟩ := hcut
  obtain ⟨k0, k1, k2⟩ := zah hpar
  have HO := zhd hown; have HP := zhd hpar; have HB := zhd hB
  clear hown hpar hB
  go_wp2_with fail
  go_loopw [16] (fun i wr => ∃ (k : Nat) (pv : Value) (rs : List Value), k ≤ n2 ∧ i = .int .i64 k ∧ OwnMem wr w.heap.size q 33 ⟨m.words, m.pend.take k, m.res⟩ wv pv rv rs ∧ Below w.heap.size w wr) (fun i _ => n2 - (intOf i).toNat)
  case atStart => exact ⟨0, _, _, Nat.zero_le _, rfl, by simpa using HO.out, HB.out⟩
  case round =>
   obtain ⟨k, pv, rs, hk, rfl, hown, hbb⟩ := hrel
   have HO' := zhd hown; have HBB := zhd hbb
   clear hown hbb
   by_cases hlt : k < n2
   · obtain ⟨b, o, c, e2, hb2, hc2, hm2, hcell⟩ := (H2.out.below HBB.out).some (by omega)
     injection e2 with e3 e4 e5
     subst e3 e5
     have hkp : k < m.pend.length := by rw [HN2.out]; exact hlt
     have hkr : k < rows.length := by rw [H4.out.1]; exact hkp
     have hrow := (H4.out.2 k rows[k] m.pend[k] (by simp) (by simp))
     obtain ⟨ra, rc, hrs⟩ := zai hrow
     have hcl := hcell k rows[k] (by simp)
     rw [hrs] at hcl hrow
     have HR := zhd (Reads.own hrow (zdb _))
     have hl8 := HS.out m.pend[k] (by simp)
     unfold maxLen at hm2
     clear hcell hrs hrow
     have HPk : Hid (m.pend.take (k + 1) = m.pend.take k ++ [m.pend[k]]) := zhd (List.take_succ_eq_append_getElem hkp)
     have HTL : Hid ((m.pend.take k).length = k) := zhd (by simp; omega)
     generalize m.pend[k] = L at *
     go_wp2_with fail
     refine zaL (fun w' => q < w'.heap.size ∧ w'.heap[q]? = some (.cells #[wv, pv, rv] 33 (0, 0))) 6 [true, true, true] (by kernel_rfl) (by kernel_rfl) (by kernel_rfl) (fun w1 w2 h hu => ⟨Nat.lt_of_lt_of_le h.1 hu.size, zaq hu h.1 h.2⟩) ⟨zao HO'.out.at_, HO'.out.at_⟩ ?a2 ?h2 ?ht2
     case h2 =>
      intro w0 ⟨hlt, hcs⟩
      obtain ⟨k0, k1, k2⟩ := zah hcs
      have x1 := fun x => zal hlt k1 x
      clear k0 k1 k2 hcs
      simp only [zbb]
      repeat (go_big_quiet_step (fail))
      refine wpQuiet_nil ?_
      rfl
     case ht2 =>
      change zbO _ _ _ _ _ _ 3 _ _ _
      refine zaz (i := 3) (by kernel_rfl) (by decide) rfl ?_
      intro w1 hu1 ⟨hl1, hx1⟩
      have hbu : Below wr.heap.size wr w1 := (by repeat (first | (with_reducible first | exact Below.refl _ _ | refine zaj ?_ ?_ _ | apply zag | refine zae ?_ (by assumption) | apply zak) | omega))
      have O1 := zhd (HO'.out.below hbu)
      have B1 : Hid (Below w.heap.size w w1) := zhd (zae HBB.out hbu)
      clear hbu
      go_wp2_with fail
      refine (zh1 _ _ _ _ (HR.out.below B1.out) (by omega)).mono ?_
      rintro e w2 ⟨r, rfl, hor, hb2⟩
      obtain ⟨xr, yr, rfl⟩ := zai hor
      have HOR := zhd hor; clear hor
      have hx2 := zaf hb2 hx1
      have hl2 := zao hx2
      have B2 := zhd hb2; clear hb2
      go_wp2_with fail
      refine ⟨⟨hl2, hx2⟩, ?_⟩
      refine zaz (i := 4) (by kernel_rfl) (by decide) rfl ?_
      intro w3 hu3 ⟨hl3, hx3⟩
      have B3 := zhd (zae B2.out hu3)
      have HOR3 := zhd (zab HOR.out hu3)
      clear hu3 hl2 hx2
      go_wp2_with fail
      refine ⟨⟨by simp; omega, zaf (zan w3 _) hx3⟩, ?_⟩
      refine zaz (i := 5) (by kernel_rfl) (by decide) rfl ?_
      intro w4 hu4 ⟨hl4, hx4⟩
      have hc4 : w4.cell? ⟨w3.heap.size, 0, none⟩ = some (.slice xr L.length yr) := zad (zaf hu4 (zat w3 _)) rfl
      have hu4' : Below w3.heap.size w3 w4 := zae (zan w3 _) hu4
      have B4 := zhd (zae B3.out hu4')
      have HOR4 := zhd (zab HOR3.out hu4')
      have O4 := zhd (O1.out.below B4.out)
      have HC4 : Hid (∀ j u, [Value.slice xr L.length yr][j]? = some u → w4.cell? ((⟨w3.heap.size, 0, none⟩ : Addr).add j) = some u) := zhd (fun j u hj => by
       have : j = 0 := by
        have := (List.getElem?_eq_some_iff.1 hj).1
        simp at this; exact this
       subst this
       simp at hj; subst hj
       rw [zaQ]; exact hc4)
      have hsz : w.heap.size ≤ w4.heap.size := (zae B1.out B4.out).size
      clear hu4 hu4' hc4
      have hp4 : Hid (w4.ownsRow w.heap.size 57 1 pv k rs) := zhd (by have := O4.out.pend; simp only at this; rwa [HTL.out] at this)
      obtain ⟨xp, yp, rfl⟩ := zai hp4.out
      have hby : (k + 1) * 24 ≤ 140737488355328 := by omega
      have hmx : k + 1 ≤ maxLen := by unfold maxLen; omega
      refine wpList_append_own _ rfl _ _ 31 rfl w.heap.size 57 i0 (.slice none 0 0) 1 24 Tryz.underlying31 hi hz0 hz1 hz2 rfl (by decide) _ _ _ rfl hp4.out ⟨w3.heap.size, 0, none⟩ 1 1 [.slice xr L.length yr] rfl rfl HC4.out (by simp [Value.oneCell']) hmx hby hsz ?_
      intro v' w5 hown5 hgrow5 _
      obtain ⟨xv, yv, rfl⟩ := zai hown5
      have HO5 := zhd hown5; have HG5 := zhd hgrow5
      clear hown5 hgrow5
      have hq5 : w5.heap[q]? = some (.cells #[wv, .slice xp k yp, rv] 33 (0, 0)) := by
       rw [HG5.out.block q hl4 (fun e => zar hp4.out hx4 (by decide) e.symm)]; exact hx4
      go_wp2_with fail
      refine ⟨⟨zao hq5, hq5⟩, ?_⟩
      refine zaO (by kernel_rfl) ?_
      intro w6 hu6 ⟨hl6, hx6⟩
      obtain ⟨k0, k1, k2⟩ := zah hx6
      have f1 := zaa hx6 1
      have HU6 := zhd hu6; have HX6 := zhd hx6
      clear hu6 hx6 hq5 k0 k2 hx1 hx3 hx4
      have P6 := zhd (O1.out.push (by decide) (by decide) (by decide) B4.out HOR4.out (pv' := .slice xv (k + 1) yv) (w2 := w6) (by have := zab HO5.out HU6.out; simpa [HTL.out] using this) (zdv HG5.out HG5.out.size HU6.out) B1.out.size)
      simp only [List.drop_succ_cons, List.drop_zero]
      go_wp2_with fail
      go_roundw
      case rel => exact ⟨k + 1, _, _, by omega, by go_num, by rw [HPk.out]; exact P6.out, (zaj (zae (zhQ (zae B1.out B4.out) HG5.out (by intro g e; exact (hp4.out.lt g e).1)) HU6.out) HO.out.base _)⟩
      case measure => simp [intOf]; omega
   · have hkn : k = n2 := by omega
     subst hkn
     have O7 : Hid (OwnMem wr w.heap.size q 33 m wv pv rv rs) := zhd (by
      have := HO'.out
      rw [← HN2.out, List.take_length] at this
      exact this)
     obtain ⟨a1', c1', rfl⟩ := zai O7.out.words
     obtain ⟨a2', c2', rfl⟩ := zai O7.out.pend
     obtain ⟨a3', c3', rfl⟩ := zai O7.out.res
     obtain ⟨k0, k1, k2⟩ := zah O7.out.at_
     go_wp2_with fail
     go_ret
     exact ⟨_, _, _, _, _, rfl, O7.out.move (zat wr _) HBB.out.size (zan wr _), zag HBB.out _⟩
end
section
open Go.RowKit
theorem zcc {w : World} {B e n g c : Nat} {xs : List Value} (h : w.ownsRow B e 1 (.slice (some ⟨g, 0, none⟩) n c) n xs) {k : Nat} {u : Value} (hu : xs[k]? = some u) : w.cell? ⟨g, k, none⟩ = some u ∧ w.frozen? ⟨g, k, none⟩ = false := by
 have hk : k < n * 1 := by
  have := (List.getElem?_eq_some_iff.1 hu).1
  rw [h.1] at this; exact this
 refine ⟨by rw [h.cellAt k hk, hu], ?_⟩
 obtain ⟨cur, hc⟩ := zbx h (g := g) rfl
 exact zaa hc k
set_option maxHeartbeats 2000000 in
theorem zfx (B p : Nat) (m : Mem) (wv pv rv : Value) (rows : List Value) (h a n : Int) (w : World) (ho : OwnMem w B p 187 m wv pv rv rows) (hs : Small m) (ha : 0 ≤ a ∧ a < m.words.length) :
 Calls Tryz.prog 168 #[.pointer (some ⟨p, 0, none⟩), .int .i64 h, .int .i64 a, .int .i64 n] w fun e w' => e = .returned (.tuple #[]) ∧ OwnMem w' B p 187 (zdw m h a n) wv pv rv rows ∧ Below B w w' := by
 obtain ⟨x2, y2, rfl⟩ := zai ho.pend
 obtain ⟨x3, y3, rfl⟩ := zai ho.res
 obtain ⟨g, c, rfl, hc1, hc2⟩ := zb1 ho.words (by omega)
 have hg : B ≤ g := (ho.words.lt g rfl).1
 obtain ⟨ka, hka, hkl⟩ : ∃ k : Nat, a = k ∧ k < m.words.length := ⟨a.toNat, by omega, by omega⟩
 subst hka
 have sw := hs.words; have sr := hs.res
 unfold maxLen at hc2
 obtain ⟨q1, q2⟩ := zcc ho.words (ziw m.words ka hkl)
 obtain ⟨p0, p1, p2⟩ := zah ho.at_
 have H1 := zhd (ho.setWord (by decide) rfl ka n)
 have HB0 : Hid (Below B w (w.setCell ⟨g, ka, none⟩ (.int .i64 n))) := zhd (za2 hg (Below.refl _ _))
 obtain ⟨r0, r1, r2⟩ := zah H1.out.at_
 have HL : Hid ((m.words.set ka n).length = m.words.length) := zhd (by simp)
 clear ho ha
 generalize m.words[ka] = was at *
 generalize hn1 : m.words.length = n1 at *
 generalize hn2 : m.pend.length = n2 at *
 generalize hn3 : m.res.length = n3 at *
 have HN3 := zhd hn3; clear hn1 hn2 hn3
 go_enter Tryz.func168, Tryz.ntmps168
 go_wp2_with fail
 go_loopw [24, 8, 9] (fun i _ _ wr => ∃ k : Nat, k ≤ n3 ∧ i = .int .i64 k ∧ OwnMem wr B p 187 ⟨m.words.set ka n, m.pend, resK h ka k m.res⟩ (.slice (some ⟨g, 0, none⟩) n1 c) (.slice x2 n2 y2) (.slice x3 n3 y3) rows ∧ Below B w wr) (fun i _ _ _ => n3 - (intOf i).toNat)
 case atStart => exact ⟨0, Nat.zero_le _, rfl, H1.out, HB0.out⟩
 case round =>
  obtain ⟨k, hk, rfl, ho, hb⟩ := hrel
  have HO := zhd ho; have HB := zhd hb; clear ho hb
  obtain ⟨t0, t1, t2⟩ := zah HO.out.at_
  by_cases hlt : k < n3
  · have hlt' : k < m.res.length := by rw [HN3.out]; exact hlt
    have hrk := resK_at h ka k m.res hlt'
    have hlen : Hid ((resK h ka k m.res).length = n3) := zhd (by rw [resK_len]; exact HN3.out)
    have ho3 : Hid (wr.ownsRow B 3 1 (.slice x3 n3 y3) n3 (intC (resK h ka k m.res))) := zhd (by have := HO.out.res; simp only at this; rwa [hlen.out] at this)
    obtain ⟨g3, c3, e3, hc3, hm3⟩ := zb1 ho3.out (by omega)
    injection e3 with e4 _ e5
    subst e4 e5
    have hg3 : B ≤ g3 := (ho3.out.lt g3 rfl).1
    unfold maxLen at hm3
    obtain ⟨u1, u2⟩ := zcc ho3.out (k := k) (u := .int .i64 m.res[k]) (by simp [intC, hrk])
    have hsucc := zhd (zld h ka k m.res hlt')
    have hsame := zhd (set_same (resK h ka k m.res) k m.res[k] hrk)
    have hset := fun x => HO.out.setResv (by decide) (g := g3) (n := n3) (c := y3) rfl k x
    have HST := zhd hset; clear hset hrk
    generalize m.res[k] = r at *
    by_cases hk : (k : Int) = h
    · have e : Hid (OwnMem wr B p 187 ⟨m.words.set ka n, m.pend, resK h ka (k + 1) m.res⟩ (.slice (some ⟨g, 0, none⟩) n1 c) (.slice x2 n2 y2) (.slice (some ⟨g3, 0, none⟩) n3 y3) rows) := zhd (by
       rw [hsucc.out, if_neg (by simp [hk]), hsame.out]; exact HO.out)
      have hb : ((k : Int) != h) = false := by simp [hk]
      have HK := zhd hk; clear hk
      go_wp2_with fail
      go_roundw
      case rel => exact ⟨k + 1, by omega, by go_num, e.out, HB.out⟩
      case measure => simp [intOf]; omega
    · have hb : ((k : Int) != h) = true := by simp [hk]
      cases hr : (r == (ka : Int))
      · have e : Hid (OwnMem wr B p 187 ⟨m.words.set ka n, m.pend, resK h ka (k + 1) m.res⟩ (.slice (some ⟨g, 0, none⟩) n1 c) (.slice x2 n2 y2) (.slice (some ⟨g3, 0, none⟩) n3 y3) rows) := zhd (by
         rw [hsucc.out, if_neg (by simp at hr; simp [hr]), hsame.out]; exact HO.out)
        have HK := zhd hk; clear hk
        go_wp2_with fail
        go_roundw
        case rel => exact ⟨k + 1, by omega, by go_num, e.out, HB.out⟩
        case measure => simp [intOf]; omega
      · have e : Hid (OwnMem (wr.setCell ⟨g3, k, none⟩ (.int .i64 (-1))) B p 187 ⟨m.words.set ka n, m.pend, resK h ka (k + 1) m.res⟩ (.slice (some ⟨g, 0, none⟩) n1 c) (.slice x2 n2 y2) (.slice (some ⟨g3, 0, none⟩) n3 y3) rows) := zhd (by
         rw [hsucc.out, if_pos (by simp at hr; simp [hr, hk])]; exact HST.out (-1))
        have HK := zhd hk; clear hk
        go_wp2_with fail
        go_roundw
        case rel => exact ⟨k + 1, by omega, by go_num, e.out, za2 hg3 HB.out⟩
        case measure => simp [intOf]; omega
  · have hkn : k = n3 := by omega
    subst hkn
    have e : Hid (OwnMem wr B p 187 (zdw m h ka n) (.slice (some ⟨g, 0, none⟩) n1 c) (.slice x2 n2 y2) (.slice x3 k y3) rows) := zhd (by
     have := HO.out
     rw [← HN3.out, resK_all] at this
     exact (by rw [← HN3.out]; exact this))
    go_wp2_with fail
    go_end0
    exact ⟨rfl, e.out, HB.out⟩
end
section
open Go.RowKit
theorem zku (l : List (Int × Int)) (k : Nat) : entC (l.eraseIdx k) = (entC l).take (k * 2) ++ (entC l).drop ((k + 1) * 2) := by
 rw [List.eraseIdx_eq_take_drop_succ, zjp, zmx, zmy]
theorem zh2 (b o c : Nat) (ty : TypeId) (w : World) (v0 v1 : Value) (h : w.cell? ⟨b, o, none⟩ = some v0) (g : w.frozen? ⟨b, o, none⟩ = false) (h' : w.cell? ⟨b, o + 1, none⟩ = some v1) (g' : w.frozen? ⟨b, o + 1, none⟩ = false) :
 (Builtin.clear_ #[57] ty #[.slice (some ⟨b, o, none⟩) 1 c]).run Tryz.prog w = .ok (.tuple #[]) ((w.setCell ⟨b, o, none⟩ (.int .i64 0)).setCell ⟨b, o + 1, none⟩ (.int .i64 0)) := by
 obtain ⟨i0, hi, hz0, hz1, hz2⟩ := info_parts zft
 simp [Builtin.clear_, run_underlying Tryz.underlying57, zeroValue, typeInfo, hi, hz0, Builtin.zeroCells, storeCells, Value.cells, zaQ, go_sem, h, g, h', g']
theorem own_part {w : World} {B e s n g c : Nat} {xs : List Value} (h : w.ownsRow B e s (.slice (some ⟨g, 0, none⟩) n c) n xs) : ∃ cur : Array Value, w.heap[g]? = some (.cells cur e (0, 0)) ∧ B ≤ g ∧ n ≤ c ∧ c ≤ maxLen ∧ cur.size = c * s ∧ cur.toList.take (n * s) = xs := by
 rcases h.2 with ⟨h', _⟩ | ⟨g', cap', cur, h', hb, hg, hnc, hcm, hcs, htake⟩
 · simp at h'
 · simp only [Value.slice.injEq, Option.some.injEq, Addr.mk.injEq, and_true, true_and] at h'
   obtain ⟨rfl, rfl⟩ := h'
   exact ⟨cur, hg, hb, hnc, hcm, hcs, htake⟩
def zbe (cur : Array Value) (l : List (Int × Int)) (k : Nat) : Array Value := (cur.toList.take (k * 2) ++ (entC l).drop ((k + 1) * 2) ++ cur.toList.drop (k * 2 + ((entC l).drop ((k + 1) * 2)).length)).toArray
theorem zha {cur : Array Value} {l : List (Int × Int)} {k m c : Nat} (hl : l.length = k + 1 + m) (hcs : cur.size = c * 2) (hc : k + 1 + m ≤ c) : (zbe cur l k).size = c * 2 := by
 unfold zbe
 simp only [List.size_toArray, List.length_append, List.length_take, List.length_drop, zcR, Array.length_toList]
 omega
theorem del_take {cur : Array Value} {l : List (Int × Int)} {k m c : Nat} (hl : l.length = k + 1 + m) (hcs : cur.size = c * 2) (hc : k + 1 + m ≤ c) (htake : cur.toList.take ((k + 1 + m) * 2) = entC l) : (zbe cur l k).toList.take ((k + m) * 2) = entC (l.eraseIdx k) := by
 have h1 : cur.toList.take (k * 2) = (entC l).take (k * 2) := by
  rw [← htake, List.take_take]
  congr 1
  omega
 unfold zbe
 simp only
 rw [List.take_append_of_le_length (by simp only [List.length_append, List.length_take, List.length_drop, zcR, Array.length_toList]; omega)]
 rw [h1, ← zku]
 apply List.take_of_length_le
 rw [zcR, List.length_eraseIdx]
 split <;> omega
theorem zmK {w : World} {B g c k m : Nat} {cur : Array Value} {l : List (Int × Int)} (hg : w.heap[g]? = some (.cells cur 127 (0, 0))) (hB : B ≤ g) (hl : l.length = k + 1 + m) (hcs : cur.size = c * 2) (hc : k + 1 + m ≤ c) (hm : c ≤ maxLen)
 (htake : cur.toList.take ((k + 1 + m) * 2) = entC l) : (w.setRow g (zbe cur l k)).ownsRow B 127 2 (.slice (some ⟨g, 0, none⟩) (k + m) c) (k + m) (entC (l.eraseIdx k)) := by
 refine ⟨?_, .inr ⟨g, c, zbe cur l k, rfl, hB, setRow_heap _ _ _ _ _ _ hg, by omega, hm, zha hl hcs hc, del_take hl hcs hc htake⟩⟩
 rw [zcR, List.length_eraseIdx]
 split <;> omega
theorem zd5 {w : World} {B e s n g c : Nat} {xs : List Value} (h : w.ownsRow B e s (.slice (some ⟨g, 0, none⟩) n c) n xs) (j : Nat) (u : Value) (hj : n * s ≤ j) : (w.setCell ⟨g, j, none⟩ u).ownsRow B e s (.slice (some ⟨g, 0, none⟩) n c) n xs := by
 have := (World.ownsRow.stored h j u).1
 rwa [List.set_eq_of_length_le (by rw [h.1]; exact hj)] at this
set_option maxRecDepth 100000 in
set_option maxHeartbeats 2000000 in
theorem zkB (B g c k m : Nat) (l : List (Int × Int)) (w : World) (hl : l.length = k + 1 + m) (ho : w.ownsRow B 127 2 (.slice (some ⟨g, 0, none⟩) (k + 1 + m) c) (k + 1 + m) (entC l)) (hm : k + 1 + m ≤ 1000) :
 Calls Tryz.prog 169 #[.slice (some ⟨g, 0, none⟩) (k + 1 + m) c, .int .i64 k, .int .i64 (k + 1)] w fun e w' => e = .returned (.slice (some ⟨g, 0, none⟩) (k + m) c) ∧
  w'.ownsRow B 127 2 (.slice (some ⟨g, 0, none⟩) (k + m) c) (k + m) (entC (l.eraseIdx k)) ∧ (∀ b, b < w.heap.size → b ≠ g → w'.heap[b]? = w.heap[b]?) ∧ Below B w w' := by
 obtain ⟨cur, hg, hB, hnc, hcm, hcs, htake⟩ := own_part ho
 obtain ⟨i0, hi, hz0, hz1, hz2⟩ := info_parts zft
 unfold maxLen at hcm
 have HG := zhd hg; have HO := zhd ho; have HT := zhd htake; have HC := zhd hcs; have HL := zhd hl
 clear hg ho htake hcs hl
 by_cases hfull : c = k + 1
 · have hm0 : m = 0 := by omega
   subst hfull hm0
   go_enter Tryz.func169, Tryz.ntmps169
   go_wp2_with fail
   refine zaL (fun _ => True) 6 [true, true, true, true, true, true] (by kernel_rfl) (by kernel_rfl) (by kernel_rfl) (fun _ _ _ _ => trivial) trivial ?a2 ?h2 ?ht2
   case h2 =>
    intro w0 _
    simp only [zbb]
    repeat (go_big_quiet_step (fail))
    refine wpQuiet_nil ?_
    rfl
   case ht2 =>
    change zbO _ _ _ _ _ _ 0 _ _ _
    refine zaO (by kernel_rfl) ?_
    intro w1 hu1 _
    have hg1 := zaf hu1 (show w.drew.heap[g]? = _ from HG.out)
    have HG1 := zhd hg1
    have hrun := run_append_room (P := Tryz.prog) w1 57 57 127 i0 Tryz.underlying57 hi g k (k + 1) cur hg1 ⟨g, 0, none⟩ 0 (k + 1 - (k + 1)) ((entC l).drop ((k + 1) * 2)) (by rw [List.length_drop, zcR, hz1, HL.out]; omega)
     (fun j u hj => by have := (List.getElem?_eq_some_iff.1 hj).1; rw [List.length_drop, zcR, HL.out] at this; omega) (fun u hu => zdb l u (List.mem_of_mem_drop hu)) (by omega) (by rw [hz1, List.length_drop, zcR, HL.out, HC.out]; omega)
    rw [hz1] at hrun
    have R1 := zhd hrun; clear hrun hg1
    have D1 := zhd (zmK (w := w1) HG1.out hB HL.out HC.out hnc (by unfold maxLen; exact hcm) HT.out)
    have D2 := zhd (setRow_heap w1 g cur (zbe cur l k) 127 (0, 0) HG1.out)
    have D3 := zhd (fun b (hb : b ≠ g) => setRow_other w1 g b (zbe cur l k) hb)
    have D4 : Hid (Below B w (w1.setRow g (zbe cur l k))) := zhd (below_setRow ((Below.refl B w).drew.trans (hu1.mono (show B ≤ w.heap.size by have := zao HG.out; omega))) hB _)
    have D5 := zhd (zha HL.out HC.out hnc)
    have hu1' := zhd hu1; clear hu1
    simp only [List.drop_succ_cons, List.drop_zero]
    refine zcx rfl _ _ _ _ rfl _ _ _ _ rfl rfl R1.out ?_
    change wpList _ _ _ _ _ (w1.setRow g (zbe cur l k))
    obtain ⟨w2, hw2⟩ : ∃ w2, w1.setRow g (zbe cur l k) = w2 := ⟨_, rfl⟩
    rw [hw2] at D1 D2 D3 D4
    rw [hw2]
    clear hw2 R1
    have q1 : (zbe cur l k)[k * 2]? = some ((zbe cur l k)[k * 2]'(by rw [D5.out]; omega)) := by simp
    have q2 : (zbe cur l k)[k * 2 + 1]? = some ((zbe cur l k)[k * 2 + 1]'(by rw [D5.out]; omega)) := by simp
    have hcl := fun c' => zh2 g (k * 2) c' 0 w2 _ _ (zad D2.out q1) (zaa D2.out _) (zad D2.out q2) (zaa D2.out _)
    clear q1 q2
    have e1 : k + 1 - k = 1 := by omega
    go_wp2_with fail
    go_ret
    exact ⟨rfl, zd5 (zd5 D1.out _ _ (Nat.le_refl _)) _ _ (by omega), fun b hb hne => by rw [zaD hne, zaD hne, D3.out b hne]; exact hu1'.out.block b hb, za2 hB (za2 hB D4.out)⟩
 · go_enter Tryz.func169, Tryz.ntmps169
   go_wp2_with fail
   refine zaL (fun _ => True) 6 [true, true, true, true, true, true] (by kernel_rfl) (by kernel_rfl) (by kernel_rfl) (fun _ _ _ _ => trivial) trivial ?a' ?h ?ht
   case h =>
    intro w0 _
    simp only [zbb]
    repeat (go_big_quiet_step (fail))
    refine wpQuiet_nil ?_
    rfl
   case ht =>
    change zbO _ _ _ _ _ _ 0 _ _ _
    refine zaO (by kernel_rfl) ?_
    intro w1 hu1 _
    have hg1 := zaf hu1 (show w.drew.heap[g]? = _ from HG.out)
    have HG1 := zhd hg1
    have hrun := run_append_room (P := Tryz.prog) w1 57 57 127 i0 Tryz.underlying57 hi g k c cur hg1 ⟨g, (k + 1) * 2, none⟩ m (c - (k + 1)) ((entC l).drop ((k + 1) * 2)) (by rw [List.length_drop, zcR, hz1, HL.out]; omega)
     (fun j u hj => by
      rw [zaQ]
      rw [List.getElem?_drop] at hj
      refine zad hg1 ?_
      rw [← HT.out, List.getElem?_take] at hj
      split at hj
      · simpa using hj
      · cases hj) (fun u hu => zdb l u (List.mem_of_mem_drop hu)) (by omega) (by rw [hz1, List.length_drop, zcR, HL.out, HC.out]; omega)
    rw [hz1] at hrun
    have R1 := zhd hrun; clear hrun hg1
    have D1 := zhd (zmK (w := w1) HG1.out hB HL.out HC.out hnc (by unfold maxLen; exact hcm) HT.out)
    have D2 := zhd (setRow_heap w1 g cur (zbe cur l k) 127 (0, 0) HG1.out)
    have D3 := zhd (fun b (hb : b ≠ g) => setRow_other w1 g b (zbe cur l k) hb)
    have D4 : Hid (Below B w (w1.setRow g (zbe cur l k))) := zhd (below_setRow ((Below.refl B w).drew.trans (hu1.mono (show B ≤ w.heap.size by have := zao HG.out; omega))) hB _)
    have D5 := zhd (zha HL.out HC.out hnc)
    have hu1' := zhd hu1; clear hu1
    simp only [List.drop_succ_cons, List.drop_zero]
    refine zcx rfl _ _ _ _ rfl _ _ _ _ rfl rfl R1.out ?_
    change wpList _ _ _ _ _ (w1.setRow g (zbe cur l k))
    obtain ⟨w2, hw2⟩ : ∃ w2, w1.setRow g (zbe cur l k) = w2 := ⟨_, rfl⟩
    rw [hw2] at D1 D2 D3 D4
    rw [hw2]
    clear hw2 R1
    have q1 : (zbe cur l k)[(k + m) * 2]? = some ((zbe cur l k)[(k + m) * 2]'(by rw [D5.out]; omega)) := by simp
    have q2 : (zbe cur l k)[(k + m) * 2 + 1]? = some ((zbe cur l k)[(k + m) * 2 + 1]'(by rw [D5.out]; omega)) := by simp
    have hcl := fun c' => zh2 g ((k + m) * 2) c' 0 w2 _ _ (zad D2.out q1) (zaa D2.out _) (zad D2.out q2) (zaa D2.out _)
    clear q1 q2
    have e1 : k + 1 + m - (k + m) = 1 := by omega
    go_wp2_with fail
    go_ret
    exact ⟨rfl, zd5 (zd5 D1.out _ _ (Nat.le_refl _)) _ _ (by omega), fun b hb hne => by rw [zaD hne, zaD hne, D3.out b hne]; exact hu1'.out.block b hb, za2 hB (za2 hB D4.out)⟩
end
section
open Go.RowKit
theorem zlB {w : World} {B e n g c : Nat} {l : List (Int × Int)} (h : w.ownsRow B e 2 (.slice (some ⟨g, 0, none⟩) n c) n (entC l)) {k : Nat} {x : Int × Int} (hx : l[k]? = some x) : w.cell? ⟨g, k * 2, none⟩ = some (.int .i64 x.1) ∧ w.cell? ⟨g, k * 2 + 1, none⟩ = some (.int .i64 x.2) := by
 obtain ⟨e1, e2⟩ := zg7 l k x hx
 have hl := h.1
 have h1 := (List.getElem?_eq_some_iff.1 e1).1
 have h2 := (List.getElem?_eq_some_iff.1 e2).1
 rw [hl] at h1 h2
 exact ⟨by rw [h.cellAt _ h1, e1], by rw [h.cellAt _ h2, e2]⟩
theorem OwnMem.rowAt {w : World} {B p T : Nat} {m : Mem} {wv pv rv : Value} {rows : List Value} (ho : OwnMem w B p T m wv pv rv rows) {h : Int} (h0 : 0 ≤ h) (h1 : h < m.pend.length) :
 ∃ gp cp r, pv = .slice (some ⟨gp, 0, none⟩) m.pend.length cp ∧ m.pend.length ≤ cp ∧ cp ≤ 9223372036854775807 ∧ rows[h.toNat]? = some r ∧ w.cell? ⟨gp, h.toNat, none⟩ = some r ∧ w.frozen? ⟨gp, h.toNat, none⟩ = false ∧ w.ownsRow B 127 2 r (zaJ m h).length (entC (zaJ m h)) := by
 obtain ⟨gp, cp, rfl, hc, hm⟩ := zb1 ho.pend (by omega)
 have hl := ho.len
 have hlt : h.toNat < rows.length := by omega
 have hr : rows[h.toNat]? = some rows[h.toNat] := by simp
 obtain ⟨c1, c2⟩ := zcc ho.pend hr
 unfold maxLen at hm
 exact ⟨gp, cp, rows[h.toNat], rfl, hc, by omega, hr, c1, c2, ho.each h.toNat _ _ hr (zdi h1 h0)⟩
set_option maxHeartbeats 2000000 in
theorem zmG (B p k mm : Nat) (m : Mem) (wv pv rv : Value) (rows : List Value) (h : Int) (x : Int × Int) (w : World) (ho : OwnMem w B p 187 m wv pv rv rows) (hs : Small m) (hB : B ≤ w.heap.size) (hh : hasB m h x.1 = true) (hl : (zaJ m h).length = k + 1 + mm) (hx : (zaJ m h)[k]? = some x) :
 Calls Tryz.prog 123 #[.pointer (some ⟨p, 0, none⟩), .int .i64 h, .int .i64 k] w fun e w' => e = .returned (.tuple #[]) ∧ (∃ rows', OwnMem w' B p 187 (zei m h k) wv pv rv rows') ∧ Below B w w' := by
 obtain ⟨h0, h1, h2, h3, h4⟩ := zcG hh
 obtain ⟨gp, cp, r, rfl, hcp, hcm, hr, hrc, hrf, hro⟩ := ho.rowAt h0 h1
 obtain ⟨gr, cr, rfl, hcr, hmr⟩ := zb1 hro (by omega)
 have hl8 : (zaJ m h).length ≤ 1000 := hs.each _ (List.mem_of_getElem? (zdi h1 h0))
 obtain ⟨q1, q2⟩ := zlB hro hx
 obtain ⟨p0, p1, p2⟩ := zah ho.at_
 have sp := hs.pend
 unfold maxLen at hmr
 have hdx : Hid (zei m h k = ⟨(zdw m h x.1 x.2).words, (zdw m h x.1 x.2).pend.set h.toNat ((zaJ m h).eraseIdx k), (zdw m h x.1 x.2).res⟩) := zhd (by
  unfold zei zeI
  rw [show (zaJ m h).getD k (0, 0) = x by rw [List.getD_eq_getElem?_getD, hx]; rfl])
 have HO := zhd ho; have HRW := zhd hr; have HRO := zhd hro; have HS := zhd hs; have HX := zhd hx
 have HL := zhd hl
 clear ho hr hro hs hh hx
 rw [hl] at hrc hcr hl8 HRW HRO
 clear hl
 obtain ⟨x1, x2⟩ := x
 simp only at *
 generalize hn2 : m.pend.length = n2 at *
 have HN2 := zhd hn2; clear hn2
 go_enter Tryz.func123, Tryz.ntmps123
 go_wp2_with fail
 refine (zfx B p m wv _ rv rows h x1 x2 _ (HO.out.below (zan _ _)) HS.out ⟨h3, h4⟩).mono ?_
 rintro e w1 ⟨rfl, ho1, hb1⟩
 have HB1 : Hid (Below B w w1) := zhd (((Below.refl _ _).alloc hB _).trans hb1)
 have hB1 : B ≤ w1.heap.size := by have := HB1.out.size; omega
 obtain ⟨gp', cp', r', e1, _, _, hr1, hrc1, hrf1, hro1⟩ := ho1.rowAt h0 (by simp only [zdw]; rw [HN2.out]; exact h1)
 injection e1 with e2 _ e3
 injection e2 with e2
 injection e2 with e2
 subst e2 e3
 have e4 : r' = .slice (some ⟨gr, 0, none⟩) (k + 1 + mm) cr := by
  have := HRW.out
  rw [hr1] at this
  injection this
 subst e4
 obtain ⟨p0', p1', p2'⟩ := zah ho1.at_
 have lp := zao ho1.at_
 have lg := (ho1.pend.lt gp rfl).2
 have HO1 := zhd ho1; have HRO1 := zhd hro1
 clear ho1 hro1 hb1 hr1 p0' p2' p0 p1 p2 hrc hrf q1 q2
 have ew : IntKind.i64.wrap ((k : Int) + 1) = (k : Int) + 1 := IntWalk.i64_in _ (by omega)
 go_wp2_with fail
 refine zaL (fun w' => p < w'.heap.size ∧ gp < w'.heap.size ∧ w'.cell? ⟨p, 1, none⟩ = some (.slice (some ⟨gp, 0, none⟩) n2 cp) ∧ w'.cell? ⟨gp, h.toNat, none⟩ = some (.slice (some ⟨gr, 0, none⟩) (k + 1 + mm) cr)) 18 [true, true, true, true, true, true, true, true, true, true, true, true, true, true, true, true, true] (by kernel_rfl) (by kernel_rfl) (by kernel_rfl)
  (fun w1 w2 h hu => ⟨Nat.lt_of_lt_of_le h.1 hu.size, Nat.lt_of_lt_of_le h.2.1 hu.size, by rw [hu.cell (p := ⟨p, 1, none⟩) h.1]; exact h.2.2.1, by rw [hu.cell (p := ⟨gp, _, none⟩) h.2.1]; exact h.2.2.2⟩) ⟨lp, lg, p1', hrc1⟩ ?a' ?h ?ht
 case h =>
  intro w0 ⟨l1, l2, c1, c2⟩
  have x1 := fun x => zal l1 c1 x
  have x2 := fun x => zal l2 c2 x
  clear c1 c2
  simp only [zbb]
  repeat (go_big_quiet_step (fail))
  refine wpQuiet_nil ?_
  rfl
 case ht =>
  change zbO _ _ _ _ _ _ 1 _ _ _
  refine zaz (i := 17) (by kernel_rfl) (by decide) rfl ?_
  intro w2 hu2 ⟨l1, l2, d1, d2⟩
  have HU2 : Hid (Up w1 w2) := zhd (zbk hu2)
  have HRO2 : Hid (w2.ownsRow B 127 2 (.slice (some ⟨gr, 0, none⟩) (k + 1 + mm) cr) (k + 1 + mm) (entC (zaJ m h))) := zhd (by
   have := zab HRO1.out HU2.out
   rw [show zaJ (zdw m h x1 x2) h = zaJ m h from rfl, HL.out] at this
   exact this)
  have HO2 := zhd (HO1.out.below HU2.out)
  clear hu2 ew
  have HD1 := zhd d1; have HD2 := zhd d2
  clear d1 d2
  go_wp2_with fail
  refine (zkB B gr cr k mm (zaJ m h) _ HL.out HRO2.out hl8).mono ?_
  rintro e w3 ⟨rfl, hd, hk3, hb3⟩
  have HD := zhd hd; have HK3 := zhd hk3; have HB3 := zhd hb3
  have n1 : p ≠ gr := fun e => zar HRO2.out HO2.out.at_ (by decide) (by rw [e]; rfl)
  have n2' : gp ≠ gr := fun e => zaC HO2.out.pend HRO2.out (by decide) (g := gp) rfl (by rw [e]; rfl)
  have hs3 := hb3.size
  have l1' : p < w3.heap.size := by
   have := zao (show w3.heap[p]? = _ by rw [HK3.out p l1 n1]; exact HO2.out.at_)
   exact this
  have l2' : gp < w3.heap.size := by
   obtain ⟨cc, hcc⟩ := zbx HO2.out.pend (g := gp) rfl
   have := zao (show w3.heap[gp]? = _ by rw [HK3.out gp l2 n2']; exact hcc)
   exact this
  clear hd hk3 hb3
  go_wp2_with fail
  refine ⟨⟨l1', l2', by rw [World.cell?_of_block (a := ⟨p, 1, none⟩) (HK3.out p l1 n1)]; exact HD1.out, by rw [World.cell?_of_block (a := ⟨gp, h.toNat, none⟩) (HK3.out gp l2 n2')]; exact HD2.out⟩, ?_⟩
  refine zaO (by kernel_rfl) ?_
  intro w4 hu4 ⟨l3, l4, d3, d4⟩
  have HU4 := zhd hu4
  have HF := zhd (HO2.out.setRow (w' := w4) (by decide) (by decide) HRW.out rfl (fun g hg hne => by
   rw [HU4.out.block g (by have := HK3.out g hg hne; rw [Array.getElem?_eq_getElem hg] at this; exact zao this)]; exact HK3.out g hg hne) (r' := .slice (some ⟨gr, 0, none⟩) (k + mm) cr) (l' := (zaJ m h).eraseIdx k) rfl
   (by rw [List.length_eraseIdx, HL.out, if_pos (by omega), show k + 1 + mm - 1 = k + mm by omega]; exact zab HD.out HU4.out) rfl)
  obtain ⟨cc, hcc⟩ := zbx HO2.out.pend (g := gp) rfl
  have hff : w4.frozen? ⟨gp, h.toNat, none⟩ = false := zaa (show w4.heap[gp]? = some (.cells cc _ (0, 0)) by rw [HU4.out.block gp l2', HK3.out gp l2 n2']; exact hcc) _
  have lgb : B ≤ gp := (HO2.out.pend.lt gp rfl).1
  have HBF : Hid (Below B w w4) := zhd ((HB1.out.trans (HU2.out.mono hB1)).trans (HB3.out.trans (HU4.out.mono (by have := HB3.out.size; have := HU2.out.size; omega))))
  clear hu4 hcc
  simp only [List.drop_succ_cons, List.drop_zero]
  go_wp2_with fail
  go_end0
  refine ⟨rfl, ⟨_, by rw [hdx.out]; exact HF.out⟩, za2 lgb HBF.out⟩
end
end Go.Proofs.YtdobddiibgfeaaaGreat
