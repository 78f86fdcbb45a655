/-
  What the walks of this statement lean on (MacRow, MacMath, MacOwn, MacMid, MacClone): shown.
-/
import Derived.Test.YtdobddiibgfeaaaGreatZa
import Derived.Test.YtdobddiibgfeaaaGreatZk
import Derived.Deep.MidRow
import Derived.Deep.Upon
import Derived.Test.YtdobddiibgfeaaaGreatZm
import Derived.Test.YtdobddiibgfeaaaGreatZj
import Derived.Test.YtdobddiibgfeaaaGreatZo
import Derived.Test.YtdobddiibgfeaaaGreatZe
import Derived.Test.YtdobddiibgfeaaaGreatZh
import Derived.Test.YtdobddiibgfeaaaGreatZn
set_option linter.unusedVariables false
set_option linter.unusedSimpArgs false
namespace Go.Proofs.YtdobddiibgfeaaaGreat
section
open Go.RowKit
set_option maxRecDepth 100000
section
variable {α : Type} {f : α → List Value} {k : Nat}
def zaT (f : α → List Value) (l : List α) : List Value := l.flatMap f
theorem zfC {l : List α} (hf : ∀ x ∈ l, (f x).length = k) : (zaT f l).length = l.length * k := by
 induction l with
 | nil => simp [zaT]
 |
  cons x l ih =>
  have := ih fun y hy => hf y (by simp [hy])
  simp only [zaT, List.flatMap_cons, List.length_append, List.length_cons] at this ⊢
  rw [this, hf x (by simp), Nat.succ_mul]; omega
theorem zbW (l l' : List α) : zaT f (l ++ l') = zaT f l ++ zaT f l' := by simp [zaT]
theorem zdM {l : List α} (h : ∀ x ∈ l, ∀ u ∈ f x, u.oneCell' = true) : ∀ u ∈ zaT f l, u.oneCell' = true := by
 intro u hu
 simp only [zaT, List.mem_flatMap] at hu
 obtain ⟨x, hx, hu⟩ := hu
 exact h x hx u hu
theorem zaY {l : List α} (hf : ∀ x ∈ l, (f x).length = k) {i : Nat} {x : α} (hx : l[i]? = some x) {j : Nat} (hj : j < k) : (zaT f l)[i * k + j]? = (f x)[j]? := by
 induction l generalizing i with
 | nil => simp at hx
 |
  cons y l ih =>
  have hy := hf y (by simp)
  have hf' := fun z hz => hf z (by simp only [List.mem_cons]; exact .inr hz)
  cases i with
  |
   zero =>
   simp at hx; subst hx
   simp only [zaT, List.flatMap_cons, Nat.zero_mul, Nat.zero_add]
   rw [List.getElem?_append_left (by omega)]
  |
   succ i =>
   simp only [List.getElem?_cons_succ] at hx
   rw [← ih hf' hx]
   simp only [zaT, List.flatMap_cons]
   rw [List.getElem?_append_right (by rw [Nat.succ_mul]; omega)]
   congr 1
   rw [Nat.succ_mul]; omega
def zjL (xs : List Value) (o : Nat) : List Value → List Value
 | [] => xs
 | v :: r => zjL (xs.set o v) (o + 1) r
theorem zk8 (vs : List Value) : ∀ (xs : List Value) (o j : Nat), o + vs.length ≤ xs.length → (zjL xs o vs)[j]? = if o ≤ j ∧ j < o + vs.length then vs[j - o]? else xs[j]? := by
 induction vs with
 | nil => intro xs o j _; simp only [zjL, List.length_nil, Nat.add_zero]; rw [if_neg (by omega)]
 |
  cons v r ih =>
  intro xs o j h
  simp only [List.length_cons] at h
  simp only [zjL, List.length_cons]
  rw [ih _ _ _ (by simp; omega)]
  by_cases h1 : o = j
  · subst h1
    rw [if_neg (by omega), if_pos (by omega), List.getElem?_set_self (by omega), Nat.sub_self]; rfl
  · by_cases h2 : o + 1 ≤ j ∧ j < o + 1 + r.length
    · rw [if_pos h2, if_pos (by omega), show j - o = (j - (o + 1)) + 1 by omega]; rfl
    · rw [if_neg h2, if_neg (by omega), List.getElem?_set_ne h1]
theorem zhs {l : List α} (hf : ∀ x ∈ l, (f x).length = k) {i : Nat} (hi : i < l.length) {y : α} (hy : (f y).length = k) : zjL (zaT f l) (i * k) (f y) = zaT f (l.set i y) := by
 have hlen := zfC hf
 have hik : i * k + k ≤ l.length * k := by
  rw [← Nat.succ_mul]; exact Nat.mul_le_mul_right k hi
 have hf' : ∀ x ∈ l.set i y, (f x).length = k := by
  intro x hx
  rcases List.mem_or_eq_of_mem_set hx with h | h
  · exact hf x h
  · rw [h]; exact hy
 refine List.ext_getElem? fun j => ?_
 rw [zk8 _ _ _ _ (by rw [hy, hlen]; exact hik), hy]
 by_cases hk : k = 0
 · subst hk
   have e1 : zaT f l = [] := List.eq_nil_of_length_eq_zero (by rw [hlen]; simp)
   have e2 : zaT f (l.set i y) = [] := List.eq_nil_of_length_eq_zero (by rw [zfC hf']; simp)
   rw [e1, e2, if_neg (by omega)]
 · by_cases hj : j < l.length * k
   · have hq : j / k < l.length := (Nat.div_lt_iff_lt_mul (by omega)).2 hj
     have hd := Nat.div_add_mod j k
     have hm := Nat.mod_lt j (Nat.pos_of_ne_zero hk)
     rw [show j = (j / k) * k + j % k by rw [Nat.mul_comm]; omega]
     rw [zaY hf' (x := (l.set i y)[j / k]'(by simp; exact hq)) (by simp [hq]) hm]
     by_cases hqi : j / k = i
     · have : i * k ≤ j ∧ j < i * k + k := by rw [← hqi, Nat.mul_comm]; omega
       subst hqi
       rw [if_pos (by rw [Nat.mul_comm] at this; omega)]
       simp
     · have : ¬ (i * k ≤ (j / k) * k + j % k ∧ (j / k) * k + j % k < i * k + k) := by
        rintro ⟨h1, h2⟩
        apply hqi
        have a1 : i < j / k + 1 := by
         apply Nat.lt_of_mul_lt_mul_right (a := k)
         rw [Nat.succ_mul]; omega
        have a2 : j / k < i + 1 := by
         apply Nat.lt_of_mul_lt_mul_right (a := k)
         rw [Nat.succ_mul]; omega
        omega
       rw [if_neg this, zaY hf (x := l[j / k]) (by simp [hq]) hm]
       have : (l.set i y)[j / k]'(by simp; exact hq) = l[j / k] := by simp [List.getElem_set]; intro h; exact absurd h.symm hqi
       rw [this]
   · have h1 : ¬ (i * k ≤ j ∧ j < i * k + k) := by omega
     rw [if_neg h1, List.getElem?_eq_none (by omega), List.getElem?_eq_none (by rw [zfC hf']; simp; omega)]
theorem zeK {l : List α} (hf : ∀ x ∈ l, (f x).length = k) {i : Nat} {x y : α} (hx : l[i]? = some x) {j : Nat} (hj : j < k) {u : Value} (hy : f y = (f x).set j u) : (zaT f l).set (i * k + j) u = zaT f (l.set i y) := by
 induction l generalizing i with
 | nil => simp at hx
 |
  cons z l ih =>
  have hz := hf z (by simp)
  have hf' := fun z hz => hf z (by simp only [List.mem_cons]; exact .inr hz)
  cases i with
  |
   zero =>
   simp at hx; subst hx
   simp only [zaT, List.flatMap_cons, Nat.zero_mul, Nat.zero_add, List.set_cons_zero]
   rw [List.set_append_left _ _ (by omega), hy]
  |
   succ i =>
   simp only [List.getElem?_cons_succ] at hx
   have := ih hf' hx
   simp only [zaT, List.flatMap_cons, List.set_cons_succ] at this ⊢
   rw [← this, List.set_append_right _ _ (by rw [Nat.succ_mul]; omega)]
   congr 2
   rw [Nat.succ_mul]; omega
end
theorem ze0 {g n cap base e size : Nat} (vs : List Value) : ∀ (w : World) (o : Nat) (xs : List Value), w.ownsRow base e size (.slice (some ⟨g, 0, none⟩) n cap) n xs → (w.setCells g o vs).ownsRow base e size (.slice (some ⟨g, 0, none⟩) n cap) n (zjL xs o vs) := by
 induction vs with
 | nil => intro w o xs h; exact h
 | cons v r ih => intro w o xs h; exact ih _ _ _ (h.stored o v).1
theorem zfk {g : Nat} (vs : List Value) : ∀ (w : World) (o : Nat) (b : Nat), b ≠ g → (w.setCells g o vs).heap[b]? = w.heap[b]? := by
 induction vs with
 | nil => intro w o b _; rfl
 | cons v r ih => intro w o b h; rw [World.setCells, ih _ _ _ h]; exact zaD h
theorem zge (g : Nat) (vs : List Value) : ∀ (w : World) (o : Nat), (w.setCells g o vs).heap.size = w.heap.size := by
 induction vs with
 | nil => intro w o; rfl
 | cons v r ih => intro w o; rw [World.setCells, ih, zaH]
theorem zaW {B b : Nat} (hb : B ≤ b) (vs : List Value) : ∀ {a w : World} (o : Nat), Below B a w → Below B a (w.setCells b o vs) := by
 induction vs with
 | nil => intro a w o h; exact h
 | cons v r ih => intro a w o h; exact ih _ (h.setCell hb v)
theorem zfF {w : World} {base e size n : Nat} {v : Value} {xs cs : List Value} (h : w.ownsRow base e size v n xs) {g c : Nat} (hv : v = .slice (some ⟨g, 0, none⟩) n c) {i : Nat} (hi : i < n) (hcs : cs.length = size) (hx : ∀ j, j < size → xs[i * size + j]? = cs[j]?) : w.rangeAt g (i * size) cs := by
 intro j u hu
 have hj : j < size := by rw [← hcs]; exact (List.getElem?_eq_some_iff.1 hu).1
 subst hv
 have hb : i * size + size ≤ n * size := by
  rw [← Nat.succ_mul]; exact Nat.mul_le_mul_right _ hi
 rw [h.cellAt (i * size + j) (by omega), hx j hj, hu]
theorem zhC {w : World} {base e size n : Nat} {v : Value} {xs : List Value} (h : w.ownsRow base e size v n xs) {g c : Nat} (hv : v = .slice (some ⟨g, 0, none⟩) n c) {i : Nat} (hi : i < n) : w.there g (i * size) size := by
 subst hv
 intro j hj
 have hb : i * size + size ≤ n * size := by
  rw [← Nat.succ_mul]; exact Nat.mul_le_mul_right _ hi
 refine ⟨?_, ?_⟩
 · rw [h.cellAt (i * size + j) (by omega), List.getElem?_eq_getElem (by rw [h.1]; omega)]; rfl
 · obtain ⟨cur, hc⟩ := zbx h (g := g) rfl
   exact zaa hc _
end
section
open Go.RowKit
set_option maxRecDepth 100000
theorem putX_len (h : Ht) (x : Ins) (a b : Int) : (putX h x a b).r.length = h.r.length := by
 unfold putX
 repeat' split
 all_goals first | exact zi6 _ _ _ | rfl
theorem zkZ (h : Ht) (id : Int) (x : Ins) (h32 : h.r.length = 32) : (zdB h id x).1.r.length = 32 := by
 unfold zdB
 repeat' split
 · exact h32
 · exact h32
 · exact zjs h id x h32
 · unfold zek; exact (putX_len h x _ _).trans h32
structure Ln where
 h : Int
 p : Int
 r : Bool
structure Ac where
 h : Int
 d : Int
 g : Int
 w : Bool
 n : Int
structure Cho where
 k : Int
 h : Int
 w : Int
 n : Int
structure Mac where
 words : List Int
 harts : List Ht
 ends : List Int
 mem : Mem
 devs : List St
 lines : List Ln
 trace : List Ac
def zbQ : Mac := ⟨[], [], [], zdD, [], [], []⟩
def zHt : Ht := ⟨List.replicate 32 0, 0, 0, 0, 0, 0, 0, 0⟩
def zLn : Ln := ⟨0, 0, false⟩
def zbB (M : Mac) (i : Int) : Ht := M.harts.getD i.toNat zHt
def zkv (M : Mac) (i : Int) : Int := M.ends.getD i.toNat 0
def zeF (M : Mac) (d : Int) : St := M.devs.getD d.toNat (newS 0)
def zck (M : Mac) (k : Int) : Ln := M.lines.getD k.toNat zLn
def zc9 (M : Mac) (i : Int) : Bool := decide (0 ≤ i) && decide (i < (min M.harts.length M.ends.length : Nat))
def zeu (M : Mac) (pc : Int) : Bool := decide (0 ≤ pc) && (pc.tmod 4 == 0 && decide (pc.tdiv 4 < M.words.length))
def zgz (M : Mac) (pc : Int) : Int := M.words.getD (pc.tdiv 4).toNat 0
def zeD (M : Mac) (i : Int) : Ins := if zeu M (zbB M i).pc then dX (zgz M (zbB M i).pc) else zdt
def zeE (M : Mac) (i : Int) : Bool := zeu M (zbB M i).pc && dE (zgz M (zbB M i).pc) == 0
def zeY (M : Mac) (i x : Int) : Mac := { M with ends := M.ends.set i.toNat x }
def zb5 (M : Mac) (i : Int) (h : Ht) : Mac := { M with harts := M.harts.set i.toNat h }
def memR (M : Mac) (i : Int) (e : Eff) (a : Int) : Int × Mem × Int :=
 if e.k = 1 then ((zgj M.mem i a).1, M.mem, (zgj M.mem i a).2)
 else if e.k = 2 then (0, zee M.mem i a e.n)
 else if e.k = 3 then zbJ M.mem i a
 else if e.k = 4 then (if (zcA M.mem i a e.n).1 then 0 else 1, (zcA M.mem i a e.n).2)
 else zbZ M.mem i a e.o e.n
def zbN (M : Mac) (i : Int) (h : Ht) (e : Eff) (a : Int) : Mac × Int :=
 if (memR M i e a).2.2 = 0 then ({ zb5 M i (if e.k = 2 then h else putH h e.d (memR M i e a).1) with mem := (memR M i e a).2.1 }, 0) else (zbQ, (memR M i e a).2.2)
def zbA (M : Mac) (i : Int) (h : Ht) (e : Eff) (d g : Int) : Mac × Int :=
 if (zaJ M.mem i).length ≠ 0 then (zbQ, 92)
 else if e.k = 2 then ({ zb5 M i h with devs := M.devs.set d.toNat (za7 (zbo (zeF M d) g (wrap32 (wrap32 e.n)))), trace := M.trace ++ [⟨i, d, g, true, wrap32 e.n⟩] }, 0)
 else ({ zb5 M i (putH h e.d (zbl (zeF M d) g)) with devs := M.devs.set d.toNat (za7 (zbI (zeF M d) g)), trace := M.trace ++ [⟨i, d, g, false, zbl (zeF M d) g⟩] }, 0)
def offM (e : Eff) : Int := wrap64 (e.ad - 536870912)
def offD (e : Eff) : Int := wrap64 (e.ad - 268435456)
def wordB (M : Mac) (n : Int) : Bool := decide (0 ≤ n) && (n.tmod 4 == 0 && decide (n.tdiv 4 < M.mem.words.length))
def regB (M : Mac) (k n : Int) : Bool := (k == 1 || k == 2) && (decide (0 ≤ n) && (n.tmod 4 == 0 && (decide (n.tmod 256 < 16) && decide (n.tdiv 256 < M.devs.length))))
def zdh (M : Mac) (i : Int) (h : Ht) (e : Eff) : Mac × Int :=
 if wordB M (offM e) then zbN M i h e ((offM e).tdiv 4)
 else if regB M e.k (offD e) then zbA M i h e ((offD e).tdiv 256) (((offD e).tmod 256).tdiv 4)
 else (zeY M i 3, 0)
def effR (M : Mac) (i : Int) (r : Ht × Eff) : Mac × Int :=
 if r.2.k = 9 then (zeY M i 2, 0)
 else if r.2.k = 7 then (zb5 (zeY M i 1) i r.1, 0)
 else if r.2.k = 6 then (if (zaJ M.mem i).length ≠ 0 then (zbQ, 92) else (zb5 M i r.1, 0))
 else if 1 ≤ r.2.k ∧ r.2.k ≤ 5 then zdh M i r.1 r.2
 else (zb5 M i r.1, 0)
def zdC (M : Mac) (i : Int) : Mac × Int :=
 if zc9 M i = false then (zbQ, 1) else if zkv M i ≠ 0 then (zbQ, 100) else if zeE M i = false then (zeY M i 2, 0) else effR M i (zdB (zbB M i) i (zeD M i))
def zcN (M : Mac) (i k : Int) : Mac × Int :=
 if zc9 M i = false then (zbQ, 1) else if (zc6 M.mem i k).2 = 0 then ({ M with mem := (zc6 M.mem i k).1 }, 0) else (zbQ, (zc6 M.mem i k).2)
def zdL (M : Mac) (k : Int) (b : Bool) : Mac := { M with lines := M.lines.set k.toNat { zck M k with r := b } }
def zdQ (M : Mac) (k : Int) : Mac × Int := if 0 ≤ k ∧ k < M.lines.length then (zdL M k true, 0) else (zbQ, 1)
def mayL (M : Mac) (i : Int) (l : Ln) : Bool := decide (0 ≤ i) && (decide (i < M.harts.length) && (l.h == i && (l.r && zlU (zbB M i).st (zbB M i).le l.p)))
def zf9 (M : Mac) (i best : Int) (k : Nat) : Int :=
 if mayL M i (zck M k) = true ∧ (best < 0 ∨ (zck M best).p < (zck M k).p) then k else best
def zb4 (M : Mac) (i : Int) : Nat → Int
 | 0 => -1
 | k + 1 => zf9 M i (zb4 M i k) k
def zeh (M : Mac) (i : Int) : Int := zb4 M i M.lines.length
def zdA (M : Mac) (i : Int) : Mac × Int :=
 if zc9 M i = false then (zbQ, 1) else if zkv M i ≠ 0 then (zbQ, 100) else if zeh M i < 0 then (zbQ, 101)
 else (zb5 (zdL M (zeh M i) false) i (zgd (zbB M i) (-2147483648 + zeh M i)), 0)
def zdz (M : Mac) (d n : Int) : Mac × Int := if 0 ≤ d ∧ d < M.devs.length then ({ M with devs := M.devs.set d.toNat (za7 (zbp (zeF M d) (wrap32 n))) }, 0) else (zbQ, 1)
def doR (M : Mac) (c : Cho) : Mac × Int :=
 if c.k = 1 then zdC M c.h else if c.k = 2 then zcN M c.h c.w else if c.k = 3 then zdQ M c.w else if c.k = 4 then zdA M c.h else if c.k = 5 then zdz M c.w c.n else (zbQ, 1)
def runR (M : Mac) : List Cho → Mac × Int
 | [] => (M, 0)
 | c :: l => if (doR M c).2 = 0 then ((runR (doR M c).1 l).1, (runR (doR M c).1 l).2 + 1) else runR M l
theorem zi1 (a b : List Cho) : ∀ M, runR M (a ++ b) = ((runR (runR M a).1 b).1, (runR M a).2 + (runR (runR M a).1 b).2) := by
 induction a with
 | nil => intro M; simp [runR]
 |
  cons c a ih =>
  intro M
  simp only [List.cons_append, runR]
  split
  · rw [ih]; simp only; congr 1; omega
  · rw [ih]
structure GoodM (M : Mac) (H N : Nat) : Prop where
 words : M.words.length ≤ 100000
 word : ∀ z ∈ M.words, I64 z
 few : 1 ≤ H ∧ H ≤ 4
 harts : M.harts.length = H
 regs : ∀ h ∈ M.harts, h.r.length = 32
 pcs : ∀ h ∈ M.harts, I64 h.pc ∧ I64 h.ve ∧ I64 h.ep
 ends : M.ends.length = H
 mem : ∃ W, W ≤ 100000 ∧ Good M.mem H W
 devs : M.devs.length ≤ 8
 dev : ∀ s ∈ M.devs, Inv s
 lines : M.lines.length ≤ 8
 trace : M.trace.length ≤ N
section
variable {M : Mac} {H N : Nat}
theorem GoodM.small (g : GoodM M H N) : Small M.mem := by
 obtain ⟨W, hW, gm⟩ := g.mem
 exact gm.small (by have := g.few; omega) hW
theorem zcy {i : Int} (h : zc9 M i = true) : 0 ≤ i ∧ i < M.harts.length ∧ i < M.ends.length := by
 simp [zc9] at h; omega
theorem isHart_of (g : GoodM M H N) (i : Int) : zc9 M i = (decide (0 ≤ i) && decide (i < H)) := by
 simp [zc9, g.harts, g.ends]
theorem zd7 {i : Int} (h0 : 0 ≤ i) (h1 : i < M.harts.length) : zbB M i ∈ M.harts := by
 unfold zbB; rw [List.getD_eq_getElem?_getD, List.getElem?_eq_getElem (by omega)]; exact List.getElem_mem _
theorem GoodM.regsOf (g : GoodM M H N) {i : Int} (h : zc9 M i = true) : (zbB M i).r.length = 32 := g.regs _ (zd7 (zcy h).1 (zcy h).2.1)
theorem zmJ {d : Int} (h0 : 0 ≤ d) (h1 : d < M.devs.length) : zeF M d ∈ M.devs := by
 unfold zeF; rw [List.getD_eq_getElem?_getD, List.getElem?_eq_getElem (by omega)]; exact List.getElem_mem _
end
end
section
open Go.RowKit
set_option maxRecDepth 100000
def hC (h : Ht) : List Value := (hL h).map (Value.int .i64)
def lnC (l : Ln) : List Value := [.int .i64 l.h, .int .i64 l.p, .bool l.r]
def acC (a : Ac) : List Value := [.int .i64 a.h, .int .i64 a.d, .int .i64 a.g, .bool a.w, .int .i64 a.n]
def sC (x : St × Value) : List Value := (stC x.1 x.2).toList
theorem hC_hA (h : Ht) : (hC h).toArray = hA h := rfl
theorem zeC {h : Ht} (h32 : h.r.length = 32) : (hC h).length = 39 := by simp [hC, hL, h32]
theorem zef (x : St × Value) : (sC x).length = 8 := rfl
theorem zgX (x : Ln) : (lnC x).length = 3 := rfl
theorem hC_one (h : Ht) : ∀ u ∈ hC h, u.oneCell' = true := by simp [hC, Value.oneCell']
theorem zgW (l : Ln) : ∀ u ∈ lnC l, u.oneCell' = true := by simp [lnC, Value.oneCell']
theorem zhh (l : Ac) : ∀ u ∈ acC l, u.oneCell' = true := by simp [acC, Value.oneCell']
def QuesAt (w : World) (qs : List Value) (devs : List St) : Prop :=
 qs.length = devs.length ∧ ∀ (i : Nat) (q : Value) (s : St), qs[i]? = some q → devs[i]? = some s → Reads w 1 s.q.length q (qL s)
theorem QuesAt.below {w w' : World} {qs : List Value} {devs : List St} (h : QuesAt w qs devs) (hb : Below w.heap.size w w') : QuesAt w' qs devs := ⟨h.1, fun i q s hq hs => (h.2 i q s hq hs).below hb⟩
theorem zi3 {w : World} {qs : List Value} {devs : List St} (h : QuesAt w qs devs) : ∀ x ∈ devs.zip qs, ∀ u ∈ sC x, u.oneCell' = true := by
 intro x hx u hu
 obtain ⟨i, hi⟩ := List.mem_iff_getElem?.1 hx
 rw [List.getElem?_zip_eq_some] at hi
 obtain ⟨a, c, e⟩ := (h.2 i _ _ hi.2 hi.1).shape
 simp only [sC, stC, List.mem_cons, List.not_mem_nil, or_false, e] at hu
 rcases hu with rfl | rfl | rfl | rfl | rfl | rfl | rfl | rfl <;> rfl
structure Parts (w : World) (B : Nat) (wv hv ev m1 m2 m3 dv lv tv : Value) (qs : List Value) (M : Mac) : Prop where
 words : w.ownsRow B 3 1 wv M.words.length (intC M.words)
 harts : w.ownsRow B 56 39 hv M.harts.length (zaT hC M.harts)
 ends : w.ownsRow B 3 1 ev M.ends.length (intC M.ends)
 mem : IsMem w (.agg #[m1, m2, m3]) M.mem
 devs : w.ownsRow B 75 8 dv M.devs.length (zaT sC (M.devs.zip qs))
 ques : QuesAt w qs M.devs
 lines : w.ownsRow B 64 3 lv M.lines.length (zaT lnC M.lines)
 trace : w.ownsRow B 59 5 tv M.trace.length (zaT acC M.trace)
def IsMac (w : World) (v : Value) (M : Mac) : Prop := ∃ wv hv ev m1 m2 m3 dv lv tv qs, v = .agg #[wv, hv, ev, m1, m2, m3, dv, lv, tv] ∧ Parts w 0 wv hv ev m1 m2 m3 dv lv tv qs M
section
variable {w w' : World} {B : Nat} {wv hv ev m1 m2 m3 dv lv tv : Value} {qs : List Value} {M : Mac}
theorem Parts.below (h : Parts w B wv hv ev m1 m2 m3 dv lv tv qs M) (hb : Below w.heap.size w w') : Parts w' B wv hv ev m1 m2 m3 dv lv tv qs M :=
 ⟨zab h.words hb, zab h.harts hb, zab h.ends hb, h.mem.below hb, zab h.devs hb, h.ques.below hb, zab h.lines hb, zab h.trace hb⟩
theorem Parts.zero (h : Parts w B wv hv ev m1 m2 m3 dv lv tv qs M) : Parts w 0 wv hv ev m1 m2 m3 dv lv tv qs M :=
 ⟨zbq h.words, zbq h.harts, zbq h.ends, h.mem, zbq h.devs, h.ques, zbq h.lines, zbq h.trace⟩
theorem IsMac.below {v : Value} (h : IsMac w v M) (hb : Below w.heap.size w w') : IsMac w' v M := by
 obtain ⟨wv, hv, ev, m1, m2, m3, dv, lv, tv, qs, rfl, h⟩ := h
 exact ⟨wv, hv, ev, m1, m2, m3, dv, lv, tv, qs, rfl, h.below hb⟩
theorem isMac_no (w : World) : IsMac w (.agg #[.slice none 0 0, .slice none 0 0, .slice none 0 0, .slice none 0 0, .slice none 0 0, .slice none 0 0, .slice none 0 0, .slice none 0 0, .slice none 0 0]) zbQ :=
 ⟨_, _, _, _, _, _, _, _, _, [], rfl, World.ownsRow_nil _ _ _ _, World.ownsRow_nil _ _ _ _, World.ownsRow_nil _ _ _ _, zb3 w, World.ownsRow_nil _ _ _ _, ⟨rfl, fun i q s h => by simp at h⟩, World.ownsRow_nil _ _ _ _, World.ownsRow_nil _ _ _ _⟩
structure OwnMac (w : World) (B p : Nat) (wv hv ev m1 m2 m3 dv lv tv : Value) (qs : List Value) (M : Mac) : Prop where
 at_ : w.heap[p]? = some (.cells #[wv, hv, ev, m1, m2, m3, dv, lv, tv] 97 (0, 0))
 base : B ≤ p
 parts : Parts w B wv hv ev m1 m2 m3 dv lv tv qs M
 offQ : ∀ q ∈ qs, ∀ g, q.ownBlock = some g → hv.ownBlock ≠ some g ∧ ev.ownBlock ≠ some g ∧ dv.ownBlock ≠ some g ∧ lv.ownBlock ≠ some g ∧ tv.ownBlock ≠ some g ∧ p ≠ g
def OffE (wv ev m1 m3 : Value) : Prop := ∀ g, ev.ownBlock = some g → wv.ownBlock ≠ some g ∧ m1.ownBlock ≠ some g ∧ m3.ownBlock ≠ some g
theorem OwnMac.below {p : Nat} (h : OwnMac w B p wv hv ev m1 m2 m3 dv lv tv qs M) (hb : Below w.heap.size w w') : OwnMac w' B p wv hv ev m1 m2 m3 dv lv tv qs M :=
 ⟨zaq hb (zao h.at_) h.at_, h.base, h.parts.below hb, h.offQ⟩
theorem OwnMac.isMac {p : Nat} (h : OwnMac w B p wv hv ev m1 m2 m3 dv lv tv qs M) : IsMac w (.agg #[wv, hv, ev, m1, m2, m3, dv, lv, tv]) M := ⟨_, _, _, _, _, _, _, _, _, _, rfl, h.parts.zero⟩
def But (g : Nat) (w w' : World) : Prop := w.heap.size ≤ w'.heap.size ∧ ∀ b, b ≠ g → w'.heap[b]? = w.heap[b]?
theorem zby (w : World) (g j : Nat) (u : Value) : But g w (w.setCell ⟨g, j, none⟩ u) := ⟨by rw [zaH]; exact Nat.le_refl _, fun b hb => zaD hb⟩
theorem zb7 (w : World) (g j : Nat) (us : List Value) : But g w (w.setCells g j us) := ⟨by rw [zge]; exact Nat.le_refl _, fun b hb => zfk us w j b hb⟩
theorem But.trans {a b c : World} {g : Nat} (h : But g a b) (h' : But g b c) : But g a c := ⟨Nat.le_trans h.1 h'.1, fun k hk => (h'.2 k hk).trans (h.2 k hk)⟩
theorem zas {g base e k n : Nat} {v : Value} {xs : List Value} (h : w.ownsRow base e k v n xs) (hk : But g w w') (hne : v.ownBlock ≠ some g) : w'.ownsRow base e k v n xs :=
 za3 h fun b e => hk.2 b (by rintro rfl; exact hne e)
theorem zcY {g k n : Nat} {v : Value} {xs : List Value} (h : Reads w k n v xs) (hk : But g w w') (hne : v.ownBlock ≠ some g) : Reads w' k n v xs := by
 refine ⟨h.1, h.2.1, ?_⟩
 rcases h.2.2 with h | ⟨b, o, c, rfl, hlt, hc, hm, hcell⟩
 · exact .inl h
 · refine .inr ⟨b, o, c, rfl, Nat.lt_of_lt_of_le hlt hk.1, hc, hm, fun j u hj => ?_⟩
   rw [← hcell j u hj]
   simp only [World.cell?, hk.2 b (by rintro rfl; exact hne rfl)]
theorem zdq {g : Nat} {devs : List St} (h : QuesAt w qs devs) (hk : But g w w') (hq : ∀ q ∈ qs, q.ownBlock ≠ some g) : QuesAt w' qs devs :=
 ⟨h.1, fun i q s e hs => zcY (h.2 i q s e hs) hk (hq q (List.mem_of_getElem? e))⟩
theorem zlP {g T : Nat} {cur : Array Value} {m : Mem} (h : IsMem w (.agg #[m1, m2, m3]) m) (hk : But g w w') (hg : w.heap[g]? = some (.cells cur T (0, 0))) (hT : T ≠ 57 ∧ T ≠ 127) (h1 : m1.ownBlock ≠ some g) (h3 : m3.ownBlock ≠ some g) : IsMem w' (.agg #[m1, m2, m3]) m := by
 obtain ⟨a, b, c, rows, e, k1, k2, k3, k4⟩ := h
 injection e with e
 have e1 : m1 = a := by have := congrArg (·[0]?) e; simpa using this
 have e2 : m2 = b := by have := congrArg (·[1]?) e; simpa using this
 have e3 : m3 = c := by have := congrArg (·[2]?) e; simpa using this
 subst e1 e2 e3
 refine ⟨_, _, _, rows, rfl, zas k1 hk h1, zas k2 hk (zar k2 hg hT.1.symm), zas k3 hk h3, k4.1, fun i r l hr hl => zas (k4.2 i r l hr hl) hk (zar (k4.2 i r l hr hl) hg hT.2.symm)⟩
theorem zcu {g T : Nat} {cur : Array Value} {m : Mem} (h : IsMem w (.agg #[m1, m2, m3]) m) (hk : But g w w') (hg : w.heap[g]? = some (.cells cur T (0, 0))) (hT : T ≠ 57 ∧ T ≠ 127) (hi : T ≠ 3) : IsMem w' (.agg #[m1, m2, m3]) m := by
 have h' := h
 obtain ⟨a, b, c, rows, e, k1, k2, k3, k4⟩ := h
 injection e with e
 have e1 : m1 = a := by have := congrArg (·[0]?) e; simpa using this
 have e3 : m3 = c := by have := congrArg (·[2]?) e; simpa using this
 subst e1 e3
 exact zlP h' hk hg hT (zar k1 hg hi.symm) (zar k3 hg hi.symm)
theorem zcb {base e k n : Nat} {v : Value} {xs : List Value} {w : World} (h : w.ownsRow base e k v n xs) (hn : 0 < n) : ∃ g c cur, v = .slice (some ⟨g, 0, none⟩) n c ∧ w.heap[g]? = some (.cells cur e (0, 0)) ∧ base ≤ g := by
 rcases h.2 with ⟨_, h0⟩ | ⟨g, c, cur, hv, hb, hg, _⟩
 · omega
 · exact ⟨g, c, cur, hv, hg, hb⟩
theorem ziU {α β : Type} (l : List α) : ∀ (r : List β) (i : Nat) (a : α) (b : β), (l.zip r).set i (a, b) = (l.set i a).zip (r.set i b) := by
 induction l with
 | nil => intro r i a b; simp
 |
  cons x l ih =>
  intro r i a b
  cases r with
  | nil => simp
  |
   cons y r =>
   cases i with
   | zero => simp
   | succ i => simp [ih]
theorem ques_set {g i : Nat} {devs : List St} {s : St} {q : Value} (h : QuesAt w qs devs) (K : But g w w') (hq : Reads w 1 s.q.length q (qL s)) (hne : q.ownBlock ≠ some g) (ho : ∀ q ∈ qs, q.ownBlock ≠ some g) : QuesAt w' (qs.set i q) (devs.set i s) := by
 have hlen := h.1
 refine ⟨by simpa using hlen, fun j q' s' hq' hs' => ?_⟩
 by_cases hij : i = j
 · subst hij
   have hj : i < qs.length := by simpa using (List.getElem?_eq_some_iff.1 hq').1
   rw [List.getElem?_set_self hj] at hq'
   rw [List.getElem?_set_self (by omega)] at hs'
   cases hq'; cases hs'
   exact zcY hq K hne
 · rw [List.getElem?_set_ne hij] at hq' hs'
   exact zcY (h.2 j q' s' hq' hs') K (ho q' (List.mem_of_getElem? hq'))
variable {p : Nat}
theorem OwnMac.setEnd (h : OwnMac w B p wv hv ev m1 m2 m3 dv lv tv qs M) (hE : OffE wv ev m1 m3) {g n c : Nat} (hev : ev = .slice (some ⟨g, 0, none⟩) n c) {i : Nat} (hi : i < M.ends.length) (x : Int) :
 OwnMac (w.setCell ⟨g, i, none⟩ (.int .i64 x)) B p wv hv ev m1 m2 m3 dv lv tv qs (zeY M i x) := by
 have hb : ev.ownBlock = some g := by rw [hev]; rfl
 obtain ⟨cur, hg⟩ := zbx h.parts.ends hb
 obtain ⟨o1, o2, o3⟩ := hE g hb
 have K := zby w g i (.int .i64 x)
 have hpg : p ≠ g := by rintro rfl; have := h.at_; rw [hg] at this; injection this with e; injection e with _ e; exact absurd e (by decide)
 refine ⟨(K.2 p hpg).trans h.at_, h.base, ⟨zas h.parts.words K o1, zas h.parts.harts K (zar h.parts.harts hg (by decide)), ?_, zlP h.parts.mem K hg (by decide) o2 o3, zas h.parts.devs K (zar h.parts.devs hg (by decide)),
  zdq h.parts.ques K fun q hq e => (h.offQ q hq g e).2.1 hb, zas h.parts.lines K (zar h.parts.lines hg (by decide)), zas h.parts.trace K (zar h.parts.trace hg (by decide))⟩, h.offQ⟩
 have hn : n = M.ends.length := by obtain ⟨a, c', e⟩ := zai h.parts.ends; rw [hev] at e; injection e
 have := h.parts.ends
 rw [hev, hn] at this
 have := (World.ownsRow.stored this i (.int .i64 x)).1
 rw [hev, hn]
 simpa [Go.Proofs.YtdobddiibgfeaaaGreat.zeY, intC, List.map_set] using this
theorem OwnMac.setHart (h : OwnMac w B p wv hv ev m1 m2 m3 dv lv tv qs M) (hr : ∀ x ∈ M.harts, x.r.length = 32) {g n c : Nat} (hhv : hv = .slice (some ⟨g, 0, none⟩) n c) {i : Nat} (hi : i < M.harts.length) {x : Ht} (h32 : x.r.length = 32) :
 OwnMac (w.setCells g (i * 39) (hC x)) B p wv hv ev m1 m2 m3 dv lv tv qs (zb5 M i x) := by
 have hb : hv.ownBlock = some g := by rw [hhv]; rfl
 obtain ⟨cur, hg⟩ := zbx h.parts.harts hb
 have K := zb7 w g (i * 39) (hC x)
 have hpg : p ≠ g := by rintro rfl; have := h.at_; rw [hg] at this; injection this with e; injection e with _ e; exact absurd e (by decide)
 refine ⟨(K.2 p hpg).trans h.at_, h.base, ⟨zas h.parts.words K (zar h.parts.words hg (by decide)), ?_, zas h.parts.ends K (zar h.parts.ends hg (by decide)), zcu h.parts.mem K hg (by decide) (by decide), zas h.parts.devs K (zar h.parts.devs hg (by decide)),
  zdq h.parts.ques K fun q hq e => (h.offQ q hq g e).1 hb, zas h.parts.lines K (zar h.parts.lines hg (by decide)), zas h.parts.trace K (zar h.parts.trace hg (by decide))⟩, h.offQ⟩
 have hn : n = M.harts.length := by obtain ⟨a, c', e⟩ := zai h.parts.harts; rw [hhv] at e; injection e
 have := h.parts.harts
 rw [hhv, hn] at this
 have := ze0 (hC x) w (i * 39) _ this
 rw [hhv, hn]
 rw [zhs (fun y hy => zeC (hr y hy)) hi (zeC h32)] at this
 simpa [Go.Proofs.YtdobddiibgfeaaaGreat.zb5] using this
theorem OwnMac.setLine (h : OwnMac w B p wv hv ev m1 m2 m3 dv lv tv qs M) {g n c : Nat} (hlv : lv = .slice (some ⟨g, 0, none⟩) n c) {i : Nat} (hi : i < M.lines.length) (b : Bool) :
 OwnMac (w.setCell ⟨g, i * 3 + 2, none⟩ (.bool b)) B p wv hv ev m1 m2 m3 dv lv tv qs (zdL M i b) := by
 have hb : lv.ownBlock = some g := by rw [hlv]; rfl
 obtain ⟨cur, hg⟩ := zbx h.parts.lines hb
 have K := zby w g (i * 3 + 2) (.bool b)
 have hpg : p ≠ g := by rintro rfl; have := h.at_; rw [hg] at this; injection this with e; injection e with _ e; exact absurd e (by decide)
 refine ⟨(K.2 p hpg).trans h.at_, h.base, ⟨zas h.parts.words K (zar h.parts.words hg (by decide)), zas h.parts.harts K (zar h.parts.harts hg (by decide)), zas h.parts.ends K (zar h.parts.ends hg (by decide)), zcu h.parts.mem K hg (by decide) (by decide), zas h.parts.devs K (zar h.parts.devs hg (by decide)),
  zdq h.parts.ques K fun q hq e => (h.offQ q hq g e).2.2.2.1 hb, ?_, zas h.parts.trace K (zar h.parts.trace hg (by decide))⟩, h.offQ⟩
 have hn : n = M.lines.length := by obtain ⟨a, c', e⟩ := zai h.parts.lines; rw [hlv] at e; injection e
 have := h.parts.lines
 rw [hlv, hn] at this
 have := (World.ownsRow.stored this (i * 3 + 2) (.bool b)).1
 rw [hlv, hn]
 rw [zeK (fun y _ => zgX y) (x := M.lines[i]) (y := { M.lines[i] with r := b }) (List.getElem?_eq_getElem hi) (by decide) rfl] at this
 have e : zck M (i : Int) = M.lines[i] := by simp [zck, hi]
 simpa [Go.Proofs.YtdobddiibgfeaaaGreat.zdL, e] using this
theorem OwnMac.setMem (h : OwnMac w B p wv hv ev m1 m2 m3 dv lv tv qs M) {a1 a2 a3 : Value} {m : Mem} (hm : IsMem w (.agg #[a1, a2, a3]) m) :
 OwnMac (((w.setCell ⟨p, 3, none⟩ a1).setCell ⟨p, 4, none⟩ a2).setCell ⟨p, 5, none⟩ a3) B p wv hv ev a1 a2 a3 dv lv tv qs { M with mem := m } := by
 have K := ((zby w p 3 a1).trans (zby _ p 4 a2)).trans (zby _ p 5 a3)
 have hg := h.at_
 have h1 := zaG (zaG (zaG hg 3 a1) 4 a2) 5 a3
 exact ⟨h1, h.base, ⟨zas h.parts.words K (zar h.parts.words hg (by decide)), zas h.parts.harts K (zar h.parts.harts hg (by decide)), zas h.parts.ends K (zar h.parts.ends hg (by decide)), zcu hm K hg (by decide) (by decide), zas h.parts.devs K (zar h.parts.devs hg (by decide)),
  zdq h.parts.ques K fun q hq e => (h.offQ q hq p e).2.2.2.2.2 rfl, zas h.parts.lines K (zar h.parts.lines hg (by decide)), zas h.parts.trace K (zar h.parts.trace hg (by decide))⟩, h.offQ⟩
theorem OwnMac.setDev (h : OwnMac w B p wv hv ev m1 m2 m3 dv lv tv qs M) {g n c : Nat} (hdv : dv = .slice (some ⟨g, 0, none⟩) n c) {i : Nat} (hi : i < M.devs.length) {s : St} {q : Value} (hq : Reads w 1 s.q.length q (qL s))
 (ho : ∀ g, q.ownBlock = some g → hv.ownBlock ≠ some g ∧ ev.ownBlock ≠ some g ∧ dv.ownBlock ≠ some g ∧ lv.ownBlock ≠ some g ∧ tv.ownBlock ≠ some g ∧ p ≠ g) :
 OwnMac (w.setCells g (i * 8) (sC (s, q))) B p wv hv ev m1 m2 m3 dv lv tv (qs.set i q) { M with devs := M.devs.set i s } := by
 have hb : dv.ownBlock = some g := by rw [hdv]; rfl
 obtain ⟨cur, hg⟩ := zbx h.parts.devs hb
 have K := zb7 w g (i * 8) (sC (s, q))
 have hpg : p ≠ g := by rintro rfl; have := h.at_; rw [hg] at this; injection this with e; injection e with _ e; exact absurd e (by decide)
 have hlen := h.parts.ques.1
 have ho' : ∀ q' ∈ qs.set i q, ∀ g, q'.ownBlock = some g → hv.ownBlock ≠ some g ∧ ev.ownBlock ≠ some g ∧ dv.ownBlock ≠ some g ∧ lv.ownBlock ≠ some g ∧ tv.ownBlock ≠ some g ∧ p ≠ g := fun q' hq' g' e => by
  rcases List.mem_or_eq_of_mem_set hq' with h1 | h1
  · exact h.offQ q' h1 g' e
  · subst h1; exact ho g' e
 refine ⟨(K.2 p hpg).trans h.at_, h.base, ⟨zas h.parts.words K (zar h.parts.words hg (by decide)), zas h.parts.harts K (zar h.parts.harts hg (by decide)), zas h.parts.ends K (zar h.parts.ends hg (by decide)), zcu h.parts.mem K hg (by decide) (by decide), ?_,
  ?_, zas h.parts.lines K (zar h.parts.lines hg (by decide)), zas h.parts.trace K (zar h.parts.trace hg (by decide))⟩, ho'⟩
 · have hn : n = M.devs.length := by obtain ⟨a, c', e⟩ := zai h.parts.devs; rw [hdv] at e; injection e
   have := h.parts.devs
   rw [hdv, hn] at this
   have := ze0 (sC (s, q)) w (i * 8) _ this
   rw [hdv, hn]
   rw [zhs (fun y _ => zef y) (by simp; omega) (zef _)] at this
   have e : (M.devs.zip qs).set i (s, q) = (M.devs.set i s).zip (qs.set i q) := ziU _ _ _ _ _
   rw [e] at this
   simpa using this
 · exact ques_set h.parts.ques K hq (fun e => (ho g e).2.2.1 hb) fun q' hq' e => (h.offQ q' hq' g e).2.2.1 hb
end
end
section
open Go.RowKit
set_option maxRecDepth 100000
structure Mid (w : World) (B N b : Nat) (wv hv ev m1 m2 m3 dv lv tv : Value) (qs : List Value) (M : Mac) : Prop where
 at_ : w.heap[b]? = some (.cells #[wv, hv, ev, m1, m2, m3, dv, lv, tv] 37 (0, 0))
 words : w.ownsRow B 3 1 wv M.words.length (intC M.words)
 harts : w.ownsRow B 56 39 hv M.harts.length (zaT hC M.harts)
 ends : w.ownsRow B 3 1 ev M.ends.length (intC M.ends)
 devs : w.ownsRow B 75 8 dv M.devs.length (zaT sC (M.devs.zip qs))
 lines : w.ownsRow B 64 3 lv M.lines.length (zaT lnC M.lines)
 trace : w.ownsRow B 59 5 tv M.trace.length (zaT acC M.trace)
 len : qs.length = M.devs.length
 endN : ∀ g, ev.ownBlock = some g → g < N
 offW : ∀ g, ev.ownBlock = some g → wv.ownBlock ≠ some g
 le : N ≤ w.heap.size
section
variable {w w' : World} {B N b : Nat} {wv hv ev m1 m2 m3 dv lv tv : Value} {qs : List Value} {M : Mac}
theorem Mid.below (h : Mid w B N b wv hv ev m1 m2 m3 dv lv tv qs M) (hb : Below w.heap.size w w') : Mid w' B N b wv hv ev m1 m2 m3 dv lv tv qs M :=
 ⟨zaq hb (zao h.at_) h.at_, zab h.words hb, zab h.harts hb, zab h.ends hb, zab h.devs hb, zab h.lines hb, zab h.trace hb, h.len, h.endN, h.offW, Nat.le_trans h.le hb.size⟩
theorem Mid.cells (h : Mid w B N b wv hv ev m1 m2 m3 dv lv tv qs M) (K : But b w w') {a1 a2 a3 : Value} (ha : w'.heap[b]? = some (.cells #[wv, hv, ev, a1, a2, a3, dv, lv, tv] 37 (0, 0))) : Mid w' B N b wv hv ev a1 a2 a3 dv lv tv qs M :=
 ⟨ha, zas h.words K (zar h.words h.at_ (by decide)), zas h.harts K (zar h.harts h.at_ (by decide)), zas h.ends K (zar h.ends h.at_ (by decide)), zas h.devs K (zar h.devs h.at_ (by decide)), zas h.lines K (zar h.lines h.at_ (by decide)), zas h.trace K (zar h.trace h.at_ (by decide)), h.len, h.endN, h.offW, Nat.le_trans h.le K.1⟩
theorem Mid.ents (h : Mid w B N b wv hv ev m1 m2 m3 dv lv tv qs M) {g : Nat} {cur : Array Value} (K : But g w w') (hg : w.heap[g]? = some (.cells cur 57 (0, 0))) : Mid w' B N b wv hv ev m1 m2 m3 dv lv tv qs M :=
 ⟨(K.2 b (by rintro rfl; have := h.at_; rw [hg] at this; injection this with e; injection e with _ e; exact absurd e (by decide))).trans h.at_, zas h.words K (zar h.words hg (by decide)), zas h.harts K (zar h.harts hg (by decide)), zas h.ends K (zar h.ends hg (by decide)), zas h.devs K (zar h.devs hg (by decide)), zas h.lines K (zar h.lines hg (by decide)), zas h.trace K (zar h.trace hg (by decide)), h.len, h.endN, h.offW, Nat.le_trans h.le K.1⟩
theorem Mid.que (h : Mid w B N b wv hv ev m1 m2 m3 dv lv tv qs M) {g n c : Nat} (hdv : dv = .slice (some ⟨g, 0, none⟩) n c) {i : Nat} (hi : i < M.devs.length) (q : Value) :
 Mid (w.setCell ⟨g, i * 8 + 5, none⟩ q) B N b wv hv ev m1 m2 m3 dv lv tv (qs.set i q) M := by
 have hb : dv.ownBlock = some g := by rw [hdv]; rfl
 obtain ⟨cur, hg⟩ := zbx h.devs hb
 have K := zby w g (i * 8 + 5) q
 have hpg : b ≠ g := by rintro rfl; have := h.at_; rw [hg] at this; injection this with e; injection e with _ e; exact absurd e (by decide)
 have hlen := h.len
 refine ⟨(K.2 b hpg).trans h.at_, zas h.words K (zar h.words hg (by decide)), zas h.harts K (zar h.harts hg (by decide)), zas h.ends K (zar h.ends hg (by decide)), ?_, zas h.lines K (zar h.lines hg (by decide)), zas h.trace K (zar h.trace hg (by decide)), by simpa using h.len, h.endN, h.offW, by rw [zaH]; exact h.le⟩
 have hn : n = M.devs.length := by obtain ⟨a, c', e⟩ := zai h.devs; rw [hdv] at e; injection e
 have := h.devs
 rw [hdv, hn] at this
 have := (World.ownsRow.stored this (i * 8 + 5) q).1
 rw [hdv, hn]
 have hz : (M.devs.zip qs)[i]? = some (M.devs[i], qs[i]'(by omega)) := by rw [List.getElem?_zip_eq_some]; exact ⟨List.getElem?_eq_getElem hi, List.getElem?_eq_getElem (by omega)⟩
 rw [zeK (fun y _ => zef y) hz (y := (M.devs[i], q)) (by decide) rfl] at this
 have e : (M.devs.zip qs).set i (M.devs[i], q) = M.devs.zip (qs.set i q) := by
  rw [ziU, List.set_getElem_self]
 rwa [e] at this
def OwnQ (w : World) (N : Nat) (qs : List Value) (devs : List St) : Prop := ∀ (j : Nat) (q : Value) (s : St), qs[j]? = some q → devs[j]? = some s → w.ownsRow N 3 1 q s.q.length (qL s)
theorem OwnQ.below {devs : List St} (h : OwnQ w N qs devs) (hb : Below w.heap.size w w') : OwnQ w' N qs devs := fun j q s h1 h2 => zab (h j q s h1 h2) hb
theorem OwnQ.but {devs : List St} {g T : Nat} {cur : Array Value} (h : OwnQ w N qs devs) (K : But g w w') (hg : w.heap[g]? = some (.cells cur T (0, 0))) (hT : 3 ≠ T) : OwnQ w' N qs devs := fun j q s h1 h2 => zas (h j q s h1 h2) K (zar (h j q s h1 h2) hg hT)
theorem OwnQ.push {devs : List St} (h : OwnQ w N qs devs) {q : Value} {s : St} (hs : devs[qs.length]? = some s) (hq : w.ownsRow N 3 1 q s.q.length (qL s)) : OwnQ w N (qs ++ [q]) devs := by
 intro j q' s' h1 h2
 by_cases hj : j < qs.length
 · rw [List.getElem?_append_left hj] at h1; exact h j q' s' h1 h2
 · rw [List.getElem?_append_right (by omega)] at h1
   have : j - qs.length = 0 := by
    have := (List.getElem?_eq_some_iff.1 h1).1
    simp at this; exact this
   have hj' : j = qs.length := by omega
   subst hj'
   rw [hs] at h2
   simp at h1 h2
   subst h1 h2; exact hq
theorem OwnQ.ques {devs : List St} (h : OwnQ w N qs devs) (hl : qs.length = devs.length) : QuesAt w qs devs := ⟨hl, fun j q s h1 h2 => Reads.own (h j q s h1 h2) (zcs s)⟩
def OwnE (w : World) (N : Nat) (rs : List Value) (pend : List (List (Int × Int))) : Prop := ∀ (j : Nat) (r : Value) (l : List (Int × Int)), rs[j]? = some r → pend[j]? = some l → w.ownsRow N 127 2 r l.length (entC l)
theorem OwnE.below {pend : List (List (Int × Int))} {rs : List Value} (h : OwnE w N rs pend) (hb : Below w.heap.size w w') : OwnE w' N rs pend := fun j q s h1 h2 => zab (h j q s h1 h2) hb
theorem OwnE.but {pend : List (List (Int × Int))} {rs : List Value} {g T : Nat} {cur : Array Value} (h : OwnE w N rs pend) (K : But g w w') (hg : w.heap[g]? = some (.cells cur T (0, 0))) (hT : 127 ≠ T) : OwnE w' N rs pend := fun j q s h1 h2 => zas (h j q s h1 h2) K (zar (h j q s h1 h2) hg hT)
theorem OwnE.push {pend : List (List (Int × Int))} {rs : List Value} (h : OwnE w N rs pend) {q : Value} {s : List (Int × Int)} (hs : pend[rs.length]? = some s) (hq : w.ownsRow N 127 2 q s.length (entC s)) : OwnE w N (rs ++ [q]) pend := by
 intro j q' s' h1 h2
 by_cases hj : j < rs.length
 · rw [List.getElem?_append_left hj] at h1; exact h j q' s' h1 h2
 · rw [List.getElem?_append_right (by omega)] at h1
   have : j - rs.length = 0 := by
    have := (List.getElem?_eq_some_iff.1 h1).1
    simp at this; exact this
   have hj' : j = rs.length := by omega
   subst hj'
   rw [hs] at h2
   simp at h1 h2
   subst h1 h2; exact hq
theorem mem_own {m : Mem} {m1 m2 m3 : Value} {rs : List Value} (h1 : w.ownsRow N 3 1 m1 m.words.length (intC m.words)) (h2 : w.ownsRow N 57 1 m2 m.pend.length rs) (h3 : w.ownsRow N 3 1 m3 m.res.length (intC m.res)) (h4 : OwnE w N rs m.pend) : IsMem w (.agg #[m1, m2, m3]) m :=
 ⟨_, _, _, rs, rfl, zbq h1, zbq h2, zbq h3, by have := h2.1; rwa [Nat.mul_one] at this, fun i r l hr hl => zbq (h4 i r l hr hl)⟩
theorem zgP {base e k n : Nat} {v : Value} {xs : List Value} (h : w.ownsRow base e k v n xs) (hN : ∀ g, ev.ownBlock = some g → g < base) : ∀ g, ev.ownBlock = some g → v.ownBlock ≠ some g := by
 intro g hg e
 have := (h.lt g e).1
 have := hN g hg
 omega
theorem Mid.own {w0 : World} (h : Mid w B N b wv hv ev m1 m2 m3 dv lv tv qs M) (hq : OwnQ w N qs M.devs) {rs : List Value} (h1 : w.ownsRow N 3 1 m1 M.mem.words.length (intC M.mem.words)) (h2 : w.ownsRow N 57 1 m2 M.mem.pend.length rs) (h3 : w.ownsRow N 3 1 m3 M.mem.res.length (intC M.mem.res)) (h4 : OwnE w N rs M.mem.pend)
 (hb : Below w0.heap.size w0 w) (hB : B = w0.heap.size) :
 OwnMac (w.alloc (.cells #[wv, hv, ev, m1, m2, m3, dv, lv, tv] 97)) B w.heap.size wv hv ev m1 m2 m3 dv lv tv qs M ∧ OffE wv ev m1 m3 := by
 have hu := zan w (.cells #[wv, hv, ev, m1, m2, m3, dv, lv, tv] 97)
 refine ⟨⟨zat w _, by rw [hB]; exact hb.size, (Parts.mk h.words h.harts h.ends (mem_own h1 h2 h3 h4) h.devs (hq.ques h.len) h.lines h.trace).below hu, ?_⟩, ?_⟩
 · intro q hqm g hg
   obtain ⟨j, hj⟩ := List.mem_iff_getElem?.1 hqm
   have hjl : j < M.devs.length := by rw [← h.len]; exact (List.getElem?_eq_some_iff.1 hj).1
   have ho := hq j q _ hj (List.getElem?_eq_getElem hjl)
   refine ⟨zaC ho h.harts (by decide) hg, ?_, zaC ho h.devs (by decide) hg, zaC ho h.lines (by decide) hg, zaC ho h.trace (by decide) hg, ?_⟩
   · intro e; exact zgP ho h.endN g e hg
   · have := (ho.lt g hg).2; omega
 · exact fun g hg => ⟨h.offW g hg, zgP h1 h.endN g hg, zgP h3 h.endN g hg⟩
end
end
section
open Go.RowKit
set_option maxRecDepth 100000
theorem zgu : (Tryz.prog.info? 56).map (fun i => (i.zero, i.size, i.bytes)) = some (some (.agg zA), 39, 312) := by kernel_rfl
set_option maxHeartbeats 1000000 in
theorem zgA (v : Value) (n : Nat) (xs : List Value) (w : World) (h : Reads w 39 n v xs) (hb : n * 312 ≤ 140737488355328) :
 Calls Tryz.prog 81 #[v] w fun e w' => ∃ v', e = .returned v' ∧ w'.ownsRow w.heap.size 56 39 v' n xs ∧ Below w.heap.size w w' := by
 obtain ⟨hl, h1, h2⟩ := h
 obtain ⟨i0, hi, hz0, hz1, hz2⟩ := info_parts zgu
 rcases h2 with ⟨rfl, rfl⟩ | ⟨b, o, c, rfl, hlt, hn, hm, hcell⟩
 · have hq := fun w : World => Lib.run_eql_slice_nil (P := Tryz.prog) w 30 56 none 0 0 0 0 Tryz.underlying30
   have hxs : xs = [] := List.eq_nil_of_length_eq_zero (by simpa using hl)
   have HX := zhd hxs; clear hxs hl hb
   go_enter Tryz.func81, Tryz.ntmps81
   go_wp2
   go_ret
   exact ⟨_, rfl, by rw [HX.out]; exact World.ownsRow_nil _ _ _ _, Below.refl _ _⟩
 · have hq := fun w : World => Lib.run_eql_slice_nil (P := Tryz.prog) w 30 56 (some ⟨b, o, none⟩) n c 0 0 Tryz.underlying30
   have hw0 : (w.alloc (.cells #[] 56)).ownsRow w.heap.size 56 39 (.slice (some ⟨w.heap.size, 0, none⟩) 0 0) 0 [] := World.ownsRow_made w #[] 0 (Nat.le_refl _) (by simp) (by simp)
   have hc' : ∀ j u, xs[j]? = some u → (w.alloc (.cells #[] 56)).cell? ((⟨b, o, none⟩ : Addr).add j) = some u := fun j u hj => by
    rw [← hcell j u hj]; rw [zaQ]; exact Below.cell (p := ⟨b, o + j, none⟩) ((Below.refl _ _).alloc (Nat.le_refl _) (.cells #[] 56)) hlt
   have H0 := zhd hw0; have HC := zhd hc'; have HL := zhd hl; have H1 := zhd h1
   clear hw0 hc' hl h1 hcell
   have hnm : 0 + n ≤ maxLen := by omega
   go_enter Tryz.func81, Tryz.ntmps81
   go_wp2_with (at_builtin; refine wpList_append_own _ rfl _ _ 30 rfl w.heap.size 56 i0 (.agg zA) 39 312 Tryz.underlying30 hi hz0 hz1 hz2 rfl (by decide) _ 0 [] rfl H0.out ⟨b, o, none⟩ n c xs rfl HL.out HC.out H1.out hnm (by omega) (by simp) ?_; intro v' w1 hown hgrow _)
   go_ret
   refine ⟨_, rfl, by simpa using hown, ?_⟩
   exact ((Below.refl _ _).alloc (Nat.le_refl _) _).grown hgrow (by simp) (fun k hk => by cases hk; exact Nat.le_refl _)
theorem zfW : (Tryz.prog.info? 75).map (fun i => (i.zero, i.size, i.bytes)) = some (some (.agg #[.int .i64 0, .int .i64 0, .int .i64 0, .int .i64 0, .int .i64 0, .slice none 0 0, .int .i64 0, .bool false]), 8, 80) := by kernel_rfl
set_option maxHeartbeats 1000000 in
theorem ziP (v : Value) (n : Nat) (xs : List Value) (w : World) (h : Reads w 8 n v xs) (hb : n * 80 ≤ 140737488355328) :
 Calls Tryz.prog 82 #[v] w fun e w' => ∃ v', e = .returned v' ∧ w'.ownsRow w.heap.size 75 8 v' n xs ∧ Below w.heap.size w w' := by
 obtain ⟨hl, h1, h2⟩ := h
 obtain ⟨i0, hi, hz0, hz1, hz2⟩ := info_parts zfW
 rcases h2 with ⟨rfl, rfl⟩ | ⟨b, o, c, rfl, hlt, hn, hm, hcell⟩
 · have hq := fun w : World => Lib.run_eql_slice_nil (P := Tryz.prog) w 34 75 none 0 0 0 0 Tryz.underlying34
   have hxs : xs = [] := List.eq_nil_of_length_eq_zero (by simpa using hl)
   have HX := zhd hxs; clear hxs hl hb
   go_enter Tryz.func82, Tryz.ntmps82
   go_wp2
   go_ret
   exact ⟨_, rfl, by rw [HX.out]; exact World.ownsRow_nil _ _ _ _, Below.refl _ _⟩
 · have hq := fun w : World => Lib.run_eql_slice_nil (P := Tryz.prog) w 34 75 (some ⟨b, o, none⟩) n c 0 0 Tryz.underlying34
   have hw0 : (w.alloc (.cells #[] 75)).ownsRow w.heap.size 75 8 (.slice (some ⟨w.heap.size, 0, none⟩) 0 0) 0 [] := World.ownsRow_made w #[] 0 (Nat.le_refl _) (by simp) (by simp)
   have hc' : ∀ j u, xs[j]? = some u → (w.alloc (.cells #[] 75)).cell? ((⟨b, o, none⟩ : Addr).add j) = some u := fun j u hj => by
    rw [← hcell j u hj]; rw [zaQ]; exact Below.cell (p := ⟨b, o + j, none⟩) ((Below.refl _ _).alloc (Nat.le_refl _) (.cells #[] 75)) hlt
   have H0 := zhd hw0; have HC := zhd hc'; have HL := zhd hl; have H1 := zhd h1
   clear hw0 hc' hl h1 hcell
   have hnm : 0 + n ≤ maxLen := by omega
   go_enter Tryz.func82, Tryz.ntmps82
   go_wp2_with (at_builtin; refine wpList_append_own _ rfl _ _ 34 rfl w.heap.size 75 i0 (.agg #[.int .i64 0, .int .i64 0, .int .i64 0, .int .i64 0, .int .i64 0, .slice none 0 0, .int .i64 0, .bool false]) 8 80 Tryz.underlying34 hi hz0 hz1 hz2 rfl (by decide) _ 0 [] rfl H0.out ⟨b, o, none⟩ n c xs rfl HL.out HC.out H1.out hnm (by omega) (by simp) ?_; intro v' w1 hown hgrow _)
   go_ret
   refine ⟨_, rfl, by simpa using hown, ?_⟩
   exact ((Below.refl _ _).alloc (Nat.le_refl _) _).grown hgrow (by simp) (fun k hk => by cases hk; exact Nat.le_refl _)
theorem zkd : (Tryz.prog.info? 64).map (fun i => (i.zero, i.size, i.bytes)) = some (some (.agg #[.int .i64 0, .int .i64 0, .bool false]), 3, 24) := by kernel_rfl
set_option maxHeartbeats 1000000 in
theorem zeS (v : Value) (n : Nat) (xs : List Value) (w : World) (h : Reads w 3 n v xs) (hb : n * 24 ≤ 140737488355328) :
 Calls Tryz.prog 34 #[v] w fun e w' => ∃ v', e = .returned v' ∧ w'.ownsRow w.heap.size 64 3 v' n xs ∧ Below w.heap.size w w' := by
 obtain ⟨hl, h1, h2⟩ := h
 obtain ⟨i0, hi, hz0, hz1, hz2⟩ := info_parts zkd
 rcases h2 with ⟨rfl, rfl⟩ | ⟨b, o, c, rfl, hlt, hn, hm, hcell⟩
 · have hq := fun w : World => Lib.run_eql_slice_nil (P := Tryz.prog) w 25 64 none 0 0 0 0 Tryz.underlying25
   have hxs : xs = [] := List.eq_nil_of_length_eq_zero (by simpa using hl)
   have HX := zhd hxs; clear hxs hl hb
   go_enter Tryz.func34, Tryz.ntmps34
   go_wp2
   go_ret
   exact ⟨_, rfl, by rw [HX.out]; exact World.ownsRow_nil _ _ _ _, Below.refl _ _⟩
 · have hq := fun w : World => Lib.run_eql_slice_nil (P := Tryz.prog) w 25 64 (some ⟨b, o, none⟩) n c 0 0 Tryz.underlying25
   have hw0 : (w.alloc (.cells #[] 64)).ownsRow w.heap.size 64 3 (.slice (some ⟨w.heap.size, 0, none⟩) 0 0) 0 [] := World.ownsRow_made w #[] 0 (Nat.le_refl _) (by simp) (by simp)
   have hc' : ∀ j u, xs[j]? = some u → (w.alloc (.cells #[] 64)).cell? ((⟨b, o, none⟩ : Addr).add j) = some u := fun j u hj => by
    rw [← hcell j u hj]; rw [zaQ]; exact Below.cell (p := ⟨b, o + j, none⟩) ((Below.refl _ _).alloc (Nat.le_refl _) (.cells #[] 64)) hlt
   have H0 := zhd hw0; have HC := zhd hc'; have HL := zhd hl; have H1 := zhd h1
   clear hw0 hc' hl h1 hcell
   have hnm : 0 + n ≤ maxLen := by omega
   go_enter Tryz.func34, Tryz.ntmps34
   go_wp2_with (at_builtin; refine wpList_append_own _ rfl _ _ 25 rfl w.heap.size 64 i0 (.agg #[.int .i64 0, .int .i64 0, .bool false]) 3 24 Tryz.underlying25 hi hz0 hz1 hz2 rfl (by decide) _ 0 [] rfl H0.out ⟨b, o, none⟩ n c xs rfl HL.out HC.out H1.out hnm (by omega) (by simp) ?_; intro v' w1 hown hgrow _)
   go_ret
   refine ⟨_, rfl, by simpa using hown, ?_⟩
   exact ((Below.refl _ _).alloc (Nat.le_refl _) _).grown hgrow (by simp) (fun k hk => by cases hk; exact Nat.le_refl _)
theorem zfX : (Tryz.prog.info? 59).map (fun i => (i.zero, i.size, i.bytes)) = some (some (.agg #[.int .i64 0, .int .i64 0, .int .i64 0, .bool false, .int .i64 0]), 5, 40) := by kernel_rfl
set_option maxHeartbeats 1000000 in
theorem zf6 (v : Value) (n : Nat) (xs : List Value) (w : World) (h : Reads w 5 n v xs) (hb : n * 40 ≤ 140737488355328) :
 Calls Tryz.prog 83 #[v] w fun e w' => ∃ v', e = .returned v' ∧ w'.ownsRow w.heap.size 59 5 v' n xs ∧ Below w.heap.size w w' := by
 obtain ⟨hl, h1, h2⟩ := h
 obtain ⟨i0, hi, hz0, hz1, hz2⟩ := info_parts zfX
 rcases h2 with ⟨rfl, rfl⟩ | ⟨b, o, c, rfl, hlt, hn, hm, hcell⟩
 · have hq := fun w : World => Lib.run_eql_slice_nil (P := Tryz.prog) w 35 59 none 0 0 0 0 Tryz.underlying35
   have hxs : xs = [] := List.eq_nil_of_length_eq_zero (by simpa using hl)
   have HX := zhd hxs; clear hxs hl hb
   go_enter Tryz.func83, Tryz.ntmps83
   go_wp2
   go_ret
   exact ⟨_, rfl, by rw [HX.out]; exact World.ownsRow_nil _ _ _ _, Below.refl _ _⟩
 · have hq := fun w : World => Lib.run_eql_slice_nil (P := Tryz.prog) w 35 59 (some ⟨b, o, none⟩) n c 0 0 Tryz.underlying35
   have hw0 : (w.alloc (.cells #[] 59)).ownsRow w.heap.size 59 5 (.slice (some ⟨w.heap.size, 0, none⟩) 0 0) 0 [] := World.ownsRow_made w #[] 0 (Nat.le_refl _) (by simp) (by simp)
   have hc' : ∀ j u, xs[j]? = some u → (w.alloc (.cells #[] 59)).cell? ((⟨b, o, none⟩ : Addr).add j) = some u := fun j u hj => by
    rw [← hcell j u hj]; rw [zaQ]; exact Below.cell (p := ⟨b, o + j, none⟩) ((Below.refl _ _).alloc (Nat.le_refl _) (.cells #[] 59)) hlt
   have H0 := zhd hw0; have HC := zhd hc'; have HL := zhd hl; have H1 := zhd h1
   clear hw0 hc' hl h1 hcell
   have hnm : 0 + n ≤ maxLen := by omega
   go_enter Tryz.func83, Tryz.ntmps83
   go_wp2_with (at_builtin; refine wpList_append_own _ rfl _ _ 35 rfl w.heap.size 59 i0 (.agg #[.int .i64 0, .int .i64 0, .int .i64 0, .bool false, .int .i64 0]) 5 40 Tryz.underlying35 hi hz0 hz1 hz2 rfl (by decide) _ 0 [] rfl H0.out ⟨b, o, none⟩ n c xs rfl HL.out HC.out H1.out hnm (by omega) (by simp) ?_; intro v' w1 hown hgrow _)
   go_ret
   refine ⟨_, rfl, by simpa using hown, ?_⟩
   exact ((Below.refl _ _).alloc (Nat.le_refl _) _).grown hgrow (by simp) (fun k hk => by cases hk; exact Nat.le_refl _)
theorem zke : (Tryz.prog.info? 57).map (fun i => (i.zero, i.size, i.bytes)) = some (some (.slice none 0 0), 1, 24) := by kernel_rfl
set_option maxHeartbeats 1000000 in
theorem zkF (v : Value) (n : Nat) (xs : List Value) (w : World) (h : Reads w 1 n v xs) (hb : n * 24 ≤ 140737488355328) :
 Calls Tryz.prog 84 #[v] w fun e w' => ∃ v', e = .returned v' ∧ w'.ownsRow w.heap.size 57 1 v' n xs ∧ Below w.heap.size w w' := by
 obtain ⟨hl, h1, h2⟩ := h
 obtain ⟨i0, hi, hz0, hz1, hz2⟩ := info_parts zke
 rcases h2 with ⟨rfl, rfl⟩ | ⟨b, o, c, rfl, hlt, hn, hm, hcell⟩
 · have hq := fun w : World => Lib.run_eql_slice_nil (P := Tryz.prog) w 31 57 none 0 0 0 0 Tryz.underlying31
   have hxs : xs = [] := List.eq_nil_of_length_eq_zero (by simpa using hl)
   have HX := zhd hxs; clear hxs hl hb
   go_enter Tryz.func84, Tryz.ntmps84
   go_wp2
   go_ret
   exact ⟨_, rfl, by rw [HX.out]; exact World.ownsRow_nil _ _ _ _, Below.refl _ _⟩
 · have hq := fun w : World => Lib.run_eql_slice_nil (P := Tryz.prog) w 31 57 (some ⟨b, o, none⟩) n c 0 0 Tryz.underlying31
   have hw0 : (w.alloc (.cells #[] 57)).ownsRow w.heap.size 57 1 (.slice (some ⟨w.heap.size, 0, none⟩) 0 0) 0 [] := World.ownsRow_made w #[] 0 (Nat.le_refl _) (by simp) (by simp)
   have hc' : ∀ j u, xs[j]? = some u → (w.alloc (.cells #[] 57)).cell? ((⟨b, o, none⟩ : Addr).add j) = some u := fun j u hj => by
    rw [← hcell j u hj]; rw [zaQ]; exact Below.cell (p := ⟨b, o + j, none⟩) ((Below.refl _ _).alloc (Nat.le_refl _) (.cells #[] 57)) hlt
   have H0 := zhd hw0; have HC := zhd hc'; have HL := zhd hl; have H1 := zhd h1
   clear hw0 hc' hl h1 hcell
   have hnm : 0 + n ≤ maxLen := by omega
   go_enter Tryz.func84, Tryz.ntmps84
   go_wp2_with (at_builtin; refine wpList_append_own _ rfl _ _ 31 rfl w.heap.size 57 i0 (.slice none 0 0) 1 24 Tryz.underlying31 hi hz0 hz1 hz2 rfl (by decide) _ 0 [] rfl H0.out ⟨b, o, none⟩ n c xs rfl HL.out HC.out H1.out hnm (by omega) (by simp) ?_; intro v' w1 hown hgrow _)
   go_ret
   refine ⟨_, rfl, by simpa using hown, ?_⟩
   exact ((Below.refl _ _).alloc (Nat.le_refl _) _).grown hgrow (by simp) (fun k hk => by cases hk; exact Nat.le_refl _)
end
end Go.Proofs.YtdobddiibgfeaaaGreat
