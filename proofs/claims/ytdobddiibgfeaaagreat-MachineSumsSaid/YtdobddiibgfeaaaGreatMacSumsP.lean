/-
  Harts that add to one word, each at once: plain.
-/
import Derived.Test.YtdobddiibgfeaaaGreatZa
import Derived.Test.YtdobddiibgfeaaaGreatZp
set_option linter.unusedVariables false
set_option linter.unusedSimpArgs false
namespace Go.Proofs.YtdobddiibgfeaaaGreat
section
open Go.RowKit
theorem w32_w32 (a : Int) : wrap32 (wrap32 a) = wrap32 a := by unfold wrap32; omega
theorem w32_add (a b : Int) : wrap32 (wrap32 a + wrap32 b) = wrap32 (a + b) := by unfold wrap32; omega
theorem w32_id {a : Int} (h : -2147483648 ≤ a ∧ a ≤ 2147483647) : wrap32 a = a := by unfold wrap32; omega
def midF (f : Int) : Bool := f != 85 && f != 74
def highF (f : Int) : Bool := f == 82 || f == 72 || f == 90
def amF (f : Int) : Bool := f == 76 || f == 65
def unlikeB (i j : Nat) : Bool :=
 let r := rowT i; let s := rowT j
 r.low != s.low || midF r.form && midF s.form && r.mid != s.mid || highF r.form && highF s.form && r.high != s.high || amF r.form && amF s.form && r.high / 4 != s.high / 4
theorem unlike_all : ∀ i j : Fin 50, 1 ≤ i.val → 1 ≤ j.val → i ≠ j → unlikeB i.val j.val = true := by decide +kernel
theorem unp_mask (u fr mn : Nat) : u / 2 ^ fr % 2 ^ mn * 2 ^ fr = u &&& ((2 ^ mn - 1) * 2 ^ fr) := by
 apply Nat.eq_of_testBit_eq
 intro i
 rw [Nat.testBit_and, Nat.testBit_mul_two_pow, Nat.testBit_mul_two_pow, Nat.testBit_mod_two_pow, Nat.testBit_div_two_pow, Nat.testBit_two_pow_sub_one]
 by_cases h : fr ≤ i
 · rw [show i - fr + fr = i by omega]
   simp only [h, decide_true, Bool.true_and]
   rw [Bool.and_comm]
 · simp [h]
theorem or_S (u : Nat) : u % 32 ||| u / 32 % 128 * 32 = u % 4096 := by
 have h0 := unp_mask u 0 5
 have h1 := unp_mask u 5 7
 have h2 := unp_mask u 0 12
 simp at h0 h1 h2
 rw [h0, h1, h2, ← Nat.and_or_distrib_left]; rfl
theorem or_B (u : Nat) : u / 2048 % 2 * 2048 ||| u / 2 % 16 * 2 ||| u / 32 % 64 * 32 ||| u / 4096 % 2 * 4096 = u / 2 % 4096 * 2 := by
 have h0 := unp_mask u 11 1
 have h1 := unp_mask u 1 4
 have h2 := unp_mask u 5 6
 have h3 := unp_mask u 12 1
 have h4 := unp_mask u 1 12
 simp at h0 h1 h2 h3 h4
 rw [h0, h1, h2, h3, h4, ← Nat.and_or_distrib_left, ← Nat.and_or_distrib_left, ← Nat.and_or_distrib_left]; rfl
theorem or_J (u : Nat) : u / 4096 % 256 * 4096 ||| u / 2048 % 2 * 2048 ||| u / 2 % 1024 * 2 ||| u / 1048576 % 2 * 1048576 = u / 2 % 1048576 * 2 := by
 have h0 := unp_mask u 12 8
 have h1 := unp_mask u 11 1
 have h2 := unp_mask u 1 10
 have h3 := unp_mask u 20 1
 have h4 := unp_mask u 1 20
 simp at h0 h1 h2 h3 h4
 rw [h0, h1, h2, h3, h4, ← Nat.and_or_distrib_left, ← Nat.and_or_distrib_left, ← Nat.and_or_distrib_left]; rfl
theorem bm82 : zbG (numP 82 0) = 0 := by decide
theorem bm73 : zbG (numP 73 0) = 12 := by decide
theorem bm72 : zbG (numP 72 0) = 5 := by decide
theorem bm83 : zbG (numP 83 0) = 12 := by decide
theorem bm66 : zbG (numP 66 0) = 13 := by decide
theorem bm85 : zbG (numP 85 0) = 20 := by decide
theorem bm74 : zbG (numP 74 0) = 21 := by decide
theorem bm70 : zbG (numP 70 0) = 8 := by decide
theorem bm67 : zbG (numP 67 0) = 12 := by decide
theorem bm76 : zbG (numP 76 0) = 2 := by decide
theorem bm65 : zbG (numP 65 0) = 2 := by decide
theorem bm90 : zbG (numP 90 0) = 0 := by decide
theorem dec_enc (x : Ins) (h : zaS x = true) : decI x.op (encN x) = x := by
 obtain ⟨h0, hd, ha, hb, hn1, hn2, hn3⟩ := zaN h
 obtain ⟨hr, hop⟩ := za4 h0
 clear h
 simp only [rowB, hop, Bool.and_eq_true, decide_eq_true_eq, Bool.or_eq_true, beq_iff_eq] at hr
 obtain ⟨⟨hlo, z1, z2, z3, z4⟩, hf⟩ := hr
 unfold decI encN zdX
 unfold shX at hd ha hb hn1 hn2 hn3
 obtain ⟨op, d, a, b, n⟩ := x
 simp only at *
 generalize rowT op = r at *
 obtain ⟨nm, f, lo, mi, hi⟩ := r
 simp only at *
 generalize zbE op = fx at *
 rcases hf with ((((((((((hf | hf) | hf) | hf) | hf) | hf) | hf) | hf) | hf) | hf) | hf) | hf
 all_goals
  subst hf
  simp [zaI] at hd ha hb hn1 hn2 hn3 z1 z2 z3 z4
  try (obtain ⟨_, _, rfl⟩ := hd)
  try (obtain ⟨_, _, rfl⟩ := ha)
  try (obtain ⟨_, _, rfl⟩ := hb)
  try subst z1
  try subst z2
  try subst z4
  simp only [decR, zaI, if_true, if_false, Bool.false_eq_true, Ins.mk.injEq, true_and, and_true, List.foldl, layN, zbn, zaZ, zc7, zbd, bm82, bm73, bm72, bm83, bm66, bm85, bm74, bm70, bm67, bm76, bm65, bm90]
  simp [numP, zbH, zbd, zc7, zav, field_zero]
  try simp (disch := decide) only [zb0, zcO, zav, field_zero, Nat.or_zero, Nat.zero_or]
  try simp only [Int.reduceToNat, Nat.reducePow, Nat.reduceSub, Nat.div_one, Nat.reduceMul, Nat.mul_one]
  try rw [or_S]
  try rw [or_B]
  try rw [or_J]
  try rw [show (hi % 4294967296).toNat % 4 = 0 by omega, Nat.zero_or]
  try omega
  try (repeat' apply And.intro)
  all_goals (try split)
  all_goals (try omega)
theorem keys (x : Ins) (h : zaS x = true) : zac (encN x) 0 7 = (rowT x.op).low.toNat ∧ (midF (rowT x.op).form = true → zac (encN x) 12 3 = (rowT x.op).mid.toNat) ∧
 (highF (rowT x.op).form = true → zac (encN x) 25 7 = (rowT x.op).high.toNat) ∧ (amF (rowT x.op).form = true → zac (encN x) 27 5 = ((rowT x.op).high / 4).toNat) := by
 obtain ⟨h0, hd, ha, hb, hn1, hn2, hn3⟩ := zaN h
 obtain ⟨hr, hop⟩ := za4 h0
 clear h
 simp only [rowB, hop, Bool.and_eq_true, decide_eq_true_eq, Bool.or_eq_true, beq_iff_eq] at hr
 obtain ⟨⟨hlo, z1, z2, z3, z4⟩, hf⟩ := hr
 unfold encN zdX
 unfold shX at hd ha hb hn1 hn2 hn3
 obtain ⟨op, d, a, b, n⟩ := x
 simp only at *
 generalize rowT op = r at *
 obtain ⟨nm, f, lo, mi, hi⟩ := r
 simp only at *
 generalize zbE op = fx at *
 rcases hf with ((((((((((hf | hf) | hf) | hf) | hf) | hf) | hf) | hf) | hf) | hf) | hf) | hf
 all_goals
  subst hf
  simp [zaI] at hd ha hb hn1 hn2 hn3 z1 z2 z3 z4
  try (obtain ⟨_, _, rfl⟩ := hd)
  try (obtain ⟨_, _, rfl⟩ := ha)
  try (obtain ⟨_, _, rfl⟩ := hb)
  try subst z1
  try subst z2
  try subst z4
  simp [midF, highF, amF, numP, layN, zbn, zbd, zav, field_zero]
  try simp (disch := decide) only [zb0, zcO, zav, field_zero, Nat.or_zero, Nat.zero_or]
  try simp only [Int.reduceToNat, Nat.reducePow, Nat.reduceSub, Nat.div_one, Nat.reduceMul, Nat.mul_one]
  try omega
theorem same_op (x y : Ins) (hx : zaS x = true) (hy : zaS y = true) (he : encN x = encN y) : x.op = y.op := by
 obtain ⟨a0, a1, a2, a3⟩ := keys x hx
 obtain ⟨b0, b1, b2, b3⟩ := keys y hy
 rw [he] at a0 a1 a2 a3
 have ox := (zaN hx).1
 have oy := (zaN hy).1
 have fx := (za4 ox).1
 have fy := (za4 oy).1
 by_cases h : x.op = y.op
 · exact h
 exfalso
 have hu := unlike_all ⟨x.op.toNat, by omega⟩ ⟨y.op.toNat, by omega⟩ (by simp; omega) (by simp; omega) (by simp [Fin.ext_iff]; omega)
 simp only [rowB, unlikeB, show ((x.op.toNat : Nat) : Int) = x.op by omega, show ((y.op.toNat : Nat) : Int) = y.op by omega, Bool.and_eq_true, decide_eq_true_eq, Bool.or_eq_true, bne_iff_ne] at fx fy hu
 have gx := fx.1.1
 have gy := fy.1.1
 clear fx fy
 generalize rowT x.op = r at *
 generalize rowT y.op = s at *
 obtain ⟨_, f, lo, mi, hi⟩ := r
 obtain ⟨_, f', lo', mi', hi'⟩ := s
 simp only at *
 generalize encN y = v at *
 rcases hu with ((hu | ⟨⟨u1, u2⟩, hu⟩) | ⟨⟨u1, u2⟩, hu⟩) | ⟨⟨u1, u2⟩, hu⟩
 · rw [a0] at b0; omega
 · rw [a1 u1] at b1; have := b1 u2; omega
 · rw [a2 u1] at b2; have := b2 u2; omega
 · rw [a3 u1] at b3; have := b3 u2; omega
theorem encE_zero {x : Ins} : encE x = 0 ↔ zaS x = true := by unfold encE; split <;> simp_all
theorem hit_right {word op : Nat} (h : zgx word op = true) : zaS (decI op word) = true ∧ encN (decI op word) = word := by
 simp only [zgx, Bool.and_eq_true, beq_iff_eq] at h
 have hr := encE_zero.1 h.1
 refine ⟨hr, ?_⟩
 have := h.2; rw [(zhX hr).1] at this; omega
theorem dec_op (op : Int) (word : Nat) : (decI op word).op = op := rfl
theorem dec_right (x : Ins) (h : zaS x = true) : decX (encN x) = x ∧ decE (encN x) = 0 := by
 have o := (zaN h).1
 have e : ((x.op.toNat : Nat) : Int) = x.op := by omega
 have h1 : zgx (encN x) x.op.toNat = true := by
  simp only [zgx, Bool.and_eq_true, beq_iff_eq]
  rw [e, dec_enc x h]
  exact ⟨(zhX h).2, (zhX h).1⟩
 have := dec_hit (by omega) h1 (fun k hk1 hk2 => by
  cases hh : zgx (encN x) k with
  | false => rfl
  |
   true =>
   exfalso
   obtain ⟨r1, r2⟩ := hit_right hh
   have := same_op _ _ r1 h r2
   rw [dec_op] at this; omega)
 rw [e, dec_enc x h] at this
 exact this
theorem dX_enc (x : Ins) (h : zaS x = true) : dX (encN x : Nat) = x ∧ dE (encN x : Nat) = 0 := by
 have hl : encN x < 4294967296 := zci _
 unfold dX dE
 rw [if_pos (by omega), if_pos (by omega), show ((encN x : Nat) : Int).toNat = encN x by omega]
 exact dec_right x h
end
open Go.RowKit
set_option maxRecDepth 100000
def sumI (t x : Int) : List Ins := [⟨1, 5, 0, 0, 131072⟩, ⟨13, 6, 0, 0, x⟩, ⟨13, 7, 0, 0, t⟩, ⟨49, 8, 5, 6, 0⟩, ⟨13, 7, 7, 0, -1⟩, ⟨6, 0, 7, 0, -8⟩, ⟨43, 0, 0, 0, 0⟩]
theorem sum_right {t x : Int} (ht : 1 ≤ t ∧ t ≤ 20) (hx : -2048 ≤ x ∧ x ≤ 2047) : ∀ i ∈ sumI t x, zaS i = true := by
 have e : ∀ d n : Int, d = 6 ∨ d = 7 → -2048 ≤ n → n ≤ 2047 → zaS ⟨13, d, 0, 0, n⟩ = true := by
  intro d n hd h1 h2
  have : zaS ⟨13, d, 0, 0, n⟩ = (decide (-2048 ≤ n) && (decide (n ≤ 2047) && true)) := by rcases hd with rfl | rfl <;> kernel_rfl
  rw [this]; simp [h1, h2]
 intro i hi
 simp only [sumI, List.mem_cons, List.not_mem_nil, or_false] at hi
 rcases hi with rfl | rfl | rfl | rfl | rfl | rfl | rfl
 · kernel_rfl
 · exact e 6 x (.inl rfl) hx.1 hx.2
 · exact e 7 t (.inr rfl) (by omega) (by omega)
 · kernel_rfl
 · kernel_rfl
 · kernel_rfl
 · kernel_rfl
inductive SumH (t : Nat) (x : Int) (h : Ht) : Int → Nat → Nat → Prop
 | p0 : h.pc = 0 → SumH t x h 0 0 (3 * t + 4)
 | p4 : h.pc = 4 → h.r.getD 5 0 = 536870912 → SumH t x h 0 0 (3 * t + 3)
 | p8 : h.pc = 8 → h.r.getD 5 0 = 536870912 → h.r.getD 6 0 = x → SumH t x h 0 0 (3 * t + 2)
 | p12 (a j : Nat) : h.pc = 12 → h.r.getD 5 0 = 536870912 → h.r.getD 6 0 = x → h.r.getD 7 0 = j → 1 ≤ j → a + j = t → SumH t x h 0 a (3 * j + 1)
 | p16 (a j : Nat) : h.pc = 16 → h.r.getD 5 0 = 536870912 → h.r.getD 6 0 = x → h.r.getD 7 0 = j → 1 ≤ j → a + j = t + 1 → SumH t x h 0 a (3 * j)
 | p20 (a j : Nat) : h.pc = 20 → h.r.getD 5 0 = 536870912 → h.r.getD 6 0 = x → h.r.getD 7 0 = j → a + j = t → SumH t x h 0 a (3 * j + 2)
 | p24 : h.pc = 24 → SumH t x h 0 t 1
 | done : SumH t x h 1 t 0
theorem SumH.le {t : Nat} {x : Int} {h : Ht} {e : Int} {a m : Nat} (k : SumH t x h e a m) : a ≤ t ∧ m ≤ 3 * t + 4 ∧ (m = 0 → a = t ∧ e = 1) ∧ (m ≠ 0 → e = 0) := by
 cases k <;> (refine ⟨?_, ?_, ?_, ?_⟩ <;> first | omega | (intro h; exact absurd h (by omega)) | (intro _; exact ⟨rfl, rfl⟩) | (intro h; exact absurd rfl h) | (intro _; rfl))
structure SumM (k t : Nat) (x : Int) (S : List (Nat × Nat)) (M : Mac) : Prop where
 words : M.words = (sumI t x).map encV
 hl : M.harts.length = k
 el : M.ends.length = k
 sl : S.length = k
 mw : M.mem.words = [x * ((S.map (·.1)).sum : Nat)]
 pend : M.mem.pend = List.replicate k []
 rl : M.mem.res.length = k
 devs : M.devs = []
 lines : M.lines = []
 at_ : ∀ i : Nat, i < k → ∃ s, S[i]? = some s ∧ (zbB M i).r.length = 32 ∧ (zbB M i).r.getD 0 0 = 0 ∧ SumH t x (zbB M i) (zkv M i) s.1 s.2
theorem sum_set (S : List (Nat × Nat)) : ∀ (i : Nat) (s s' : Nat × Nat), S[i]? = some s → ((S.set i s').map (·.1)).sum + s.1 = (S.map (·.1)).sum + s'.1 := by
 induction S with
 | nil => intro i s s' h; simp at h
 |
  cons a S ih =>
  intro i s s' h
  cases i with
  | zero => simp at h; subst h; simp; omega
  |
   succ i =>
   have := ih i s s' (by simpa using h)
   simp only [List.set_cons_succ, List.map_cons, List.sum_cons]; omega
theorem sum_le (t : Nat) (S : List (Nat × Nat)) (h : ∀ s ∈ S, s.1 ≤ t) : (S.map (·.1)).sum ≤ S.length * t := by
 induction S with
 | nil => simp
 |
  cons a S ih =>
  have h1 := h a (List.mem_cons_self ..)
  have h2 := ih fun s hs => h s (List.mem_cons_of_mem _ hs)
  simp only [List.map_cons, List.sum_cons, List.length_cons, Nat.succ_mul]; omega
theorem sum_all (t : Nat) (S : List (Nat × Nat)) (h : ∀ s ∈ S, s.1 = t) : (S.map (·.1)).sum = S.length * t := by
 induction S with
 | nil => simp
 |
  cons a S ih =>
  have h1 := h a (List.mem_cons_self ..)
  have h2 := ih fun s hs => h s (List.mem_cons_of_mem _ hs)
  simp only [List.map_cons, List.sum_cons, List.length_cons, Nat.succ_mul]; omega
section
variable {k t : Nat} {x : Int} {S : List (Nat × Nat)} {M : Mac}
theorem SumM.le (I : SumM k t x S M) : ∀ s ∈ S, s.1 ≤ t ∧ s.2 ≤ 3 * t + 4 := by
 intro s hs
 obtain ⟨i, hi⟩ := List.mem_iff_getElem?.1 hs
 obtain ⟨hl, _⟩ := List.getElem?_eq_some_iff.1 hi
 obtain ⟨s', h1, _, _, h2⟩ := I.at_ i (by rw [← I.sl]; exact hl)
 rw [hi] at h1
 cases h1
 exact ⟨h2.le.1, h2.le.2.1⟩
theorem SumM.upd (I : SumM k t x S M) {i : Nat} (hi : i < k) {M' : Mac} {h' : Ht} {e' : Int} {s' : Nat × Nat} (hw : M'.words = M.words) (hh : M'.harts = M.harts.set i h') (he : M'.ends = M.ends.set i e')
 (hm : M'.mem.words = [x * (((S.set i s').map (·.1)).sum : Nat)]) (hp : M'.mem.pend = M.mem.pend) (hr : M'.mem.res.length = k) (hd : M'.devs = M.devs) (hl : M'.lines = M.lines)
 (h32 : h'.r.length = 32) (h0 : h'.r.getD 0 0 = 0) (hs : SumH t x h' e' s'.1 s'.2) : SumM k t x (S.set i s') M' := by
 refine ⟨hw.trans I.words, by rw [hh, List.length_set]; exact I.hl, by rw [he, List.length_set, I.el], by rw [List.length_set, I.sl], hm, hp.trans I.pend, hr, hd.trans I.devs, hl.trans I.lines, fun j hj => ?_⟩
 by_cases e : i = j
 · subst e
   have h1 : zbB M' (i : Int) = h' := by unfold zbB; rw [hh, Int.toNat_natCast, List.getD_eq_getElem?_getD, List.getElem?_set_self (by rw [I.hl]; exact hi)]; rfl
   have h2 : zkv M' (i : Int) = e' := by unfold zkv; rw [he, Int.toNat_natCast, List.getD_eq_getElem?_getD, List.getElem?_set_self (by rw [I.el]; exact hi)]; rfl
   exact ⟨s', by rw [List.getElem?_set_self (by rw [I.sl]; exact hi)], by rw [h1]; exact h32, by rw [h1]; exact h0, by rw [h1, h2]; exact hs⟩
 · obtain ⟨s, g1, g2, g3, g4⟩ := I.at_ j hj
   have h1 : zbB M' (j : Int) = zbB M j := by unfold zbB; rw [hh, Int.toNat_natCast, List.getD_eq_getElem?_getD, List.getElem?_set_ne e, ← List.getD_eq_getElem?_getD]
   have h2 : zkv M' (j : Int) = zkv M j := by unfold zkv; rw [he, Int.toNat_natCast, List.getD_eq_getElem?_getD, List.getElem?_set_ne e, ← List.getD_eq_getElem?_getD]
   exact ⟨s, by rw [List.getElem?_set_ne e]; exact g1, by rw [h1]; exact g2, by rw [h1]; exact g3, by rw [h1, h2]; exact g4⟩
theorem set_getSelf {α : Type} (l : List α) (i : Nat) (d : α) : l.set i (l.getD i d) = l := by
 apply List.ext_getElem?
 intro j
 by_cases e : i = j
 · subst e
   by_cases h : i < l.length
   · rw [List.getElem?_set_self h, List.getD_eq_getElem?_getD, List.getElem?_eq_getElem h]; rfl
   · rw [List.getElem?_eq_none (by simpa using by omega), List.getElem?_eq_none (by omega)]
 · rw [List.getElem?_set_ne e]
theorem sum_fetch (ht : 1 ≤ t ∧ t ≤ 20) (hx : -2048 ≤ x ∧ x ≤ 2047) (hw : M.words = (sumI t x).map encV) {i : Int} {j : Nat} {y : Ins} (hj : (sumI t x)[j]? = some y) (hp : (zbB M i).pc = 4 * j) :
 zeD M i = y ∧ zeE M i = true := by
 have hj7 : j < 7 := (List.getElem?_eq_some_iff.1 hj).1
 have hr : zaS y = true := sum_right ⟨by omega, by omega⟩ hx y (List.mem_of_getElem? hj)
 have h1 : zeu M (4 * j) = true := by
  unfold zeu
  rw [Int.mul_tdiv_cancel_left _ (by decide), Int.mul_tmod_right, hw]
  simp [sumI]; omega
 have h2 : zgz M (4 * j) = encV y := by
  unfold zgz
  rw [Int.mul_tdiv_cancel_left _ (by decide), hw, Int.toNat_natCast, List.getD_eq_getElem?_getD, List.getElem?_map, hj]; rfl
 have h3 := dX_enc y hr
 rw [← (zhX hr).1] at h3
 unfold zeD zeE
 rw [hp, h1, h2, h3.1, h3.2]
 exact ⟨rfl, rfl⟩
theorem SumM.is (I : SumM k t x S M) {i : Nat} (hi : i < k) : zc9 M (i : Int) = true := by
 simp [zc9, I.hl, I.el]; exact hi
theorem SumM.step (I : SumM k t x S M) (ht : 1 ≤ t ∧ t ≤ 20) (hx : -2048 ≤ x ∧ x ≤ 2047) {i : Nat} (hi : i < k) {j : Nat} {y : Ins} (hj : (sumI t x)[j]? = some y) (hp : (zbB M (i : Int)).pc = 4 * j) (he : zkv M (i : Int) = 0) (ho : y.op ≠ 44 ∧ y.op ≠ 40 ∧ y.op ≠ 41 ∧ y.op ≠ 42) :
 zdC M i = effR M i (zek (zbB M i) y) := by
 have hr : zaS y = true := sum_right ⟨by omega, by omega⟩ hx y (List.mem_of_getElem? hj)
 obtain ⟨f1, f2⟩ := sum_fetch ht hx I.words hj hp
 unfold zdC
 rw [if_neg (by rw [I.is hi]; decide), if_neg (by omega), if_neg (by rw [f2]; decide), f1, stepX_ok hr ho.1 ⟨ho.2.1, ho.2.2⟩]
theorem put_zero {h : Ht} (d : Int) (n : Int) (h0 : h.r.getD 0 0 = 0) : (putH h d n).r.getD 0 0 = 0 := by
 unfold putH
 split
 · rename_i hd
   show (h.r.set d.toNat _).getD 0 0 = 0
   rw [List.getD_eq_getElem?_getD, List.getElem?_set_ne (by omega), ← List.getD_eq_getElem?_getD]; exact h0
 · exact h0
theorem put_same {h : Ht} (h32 : h.r.length = 32) {d : Nat} (hd : 0 < d ∧ d < 32) (n : Int) : (putH h d n).r.getD d 0 = wrap32 n := by
 unfold putH
 rw [if_pos (by omega)]
 show (h.r.set (d : Int).toNat _).getD d 0 = _
 rw [Int.toNat_natCast, List.getD_eq_getElem?_getD, List.getElem?_set_self (by omega)]; rfl
theorem put_other {h : Ht} {d e : Nat} (hd : d ≠ e) (n : Int) : (putH h d n).r.getD e 0 = h.r.getD e 0 := by
 unfold putH
 split
 · show (h.r.set (d : Int).toNat _).getD e 0 = _
   rw [Int.toNat_natCast, List.getD_eq_getElem?_getD, List.getElem?_set_ne hd, ← List.getD_eq_getElem?_getD]
 · rfl
theorem SumM.plain (I : SumM k t x S M) {i : Nat} (hi : i < k) {s : Nat × Nat} (hs : S[i]? = some s) {h' : Ht} {m : Nat} (h32 : h'.r.length = 32) (h0 : h'.r.getD 0 0 = 0) (hh : SumH t x h' (zkv M i) s.1 m) :
 SumM k t x (S.set i (s.1, m)) (zb5 M i h') := by
 refine I.upd hi (e' := zkv M i) rfl (by simp [zb5]) ?_ ?_ rfl I.rl rfl rfl h32 h0 hh
 · have := set_getSelf M.ends i 0
   show M.ends = M.ends.set i (M.ends.getD (i : Int).toNat 0)
   rw [Int.toNat_natCast, this]
 · have e := sum_set S i s (s.1, m) hs
   have : ((S.set i (s.1, m)).map (·.1)).sum = (S.map (·.1)).sum := by simp only at e; omega
   rw [this]; exact I.mw
theorem eff_zero {M : Mac} {i : Int} {h : Ht} : effR M i (h, ⟨0, 0, 0, 0, 0⟩) = (zb5 M i h, 0) := by
 unfold effR
 simp
theorem stepN_addi (h : Ht) (d a n : Int) : zek h ⟨13, d, a, 0, n⟩ = ({ putH h d (wrap32 (wrap32 (h.r.getD a.toNat 0) + wrap32 n)) with pc := wrap32 (h.pc + 4) }, ⟨0, 0, 0, 0, 0⟩) := by
 have e : ∀ u v, zdx 13 u v = wrap32 (wrap32 u + wrap32 v) := fun u v => rfl
 simp [zek, putX, zdy, effX, e]
theorem stepN_lui (h : Ht) : zek h ⟨1, 5, 0, 0, 131072⟩ = ({ putH h 5 536870912 with pc := wrap32 (h.pc + 4) }, ⟨0, 0, 0, 0, 0⟩) := by
 simp [zek, putX, zdy, effX]
theorem stepN_amo (h : Ht) : zek h ⟨49, 8, 5, 6, 0⟩ = ({ h with pc := wrap32 (h.pc + 4) }, ⟨5, 8, h.r.getD 5 0, h.r.getD 6 0, 1⟩) := by
 simp [zek, putX, zdy, effX]
theorem stepN_bne (h : Ht) : zek h ⟨6, 0, 7, 0, -8⟩ = ({ h with pc := if h.r.getD 7 0 = h.r.getD 0 0 then wrap32 (h.pc + 4) else wrap32 (h.pc + -8) }, ⟨0, 0, 0, 0, 0⟩) := by
 by_cases e : h.r.getD 7 0 = h.r.getD 0 0
 · simp only [zek, putX, zdy, effX, zgt]
   simp at e
   simp [e]
 · simp only [zek, putX, zdy, effX, zgt]
   simp at e
   simp [e]
theorem stepN_call (h : Ht) : zek h ⟨43, 0, 0, 0, 0⟩ = ({ h with pc := wrap32 (h.pc + 4) }, ⟨7, 0, 0, 0, 0⟩) := by
 simp [zek, putX, zdy, effX]
theorem put_pc (h : Ht) (d n : Int) : (putH h d n).pc = h.pc := by
 unfold putH; split <;> rfl
theorem sum_bd {x : Int} {n : Nat} (hx : -2048 ≤ x ∧ x ≤ 2047) (hn : n ≤ 80) : -163840 ≤ x * n ∧ x * n ≤ 163840 := by
 have h1 : x * (n : Int) ≤ 2047 * n := Int.mul_le_mul_of_nonneg_right hx.2 (by omega)
 have h2 : -2048 * (n : Int) ≤ x * n := Int.mul_le_mul_of_nonneg_right hx.1 (by omega)
 omega
theorem SumM.add (I : SumM k t x S M) (ht : 1 ≤ t ∧ t ≤ 20) (hk : k ≤ 4) (hx : -2048 ≤ x ∧ x ≤ 2047) {i : Nat} (hi : i < k) {s : Nat × Nat} (hs : S[i]? = some s) {h : Ht} {m : Nat} (h32 : h.r.length = 32) (h0 : h.r.getD 0 0 = 0)
 (hh : ∀ n, SumH t x (putH h 8 n) (zkv M i) (s.1 + 1) m) :
 ∃ M', effR M i (h, ⟨5, 8, 536870912, x, 1⟩) = (M', 0) ∧ SumM k t x (S.set i (s.1 + 1, m)) M' := by
 have hsum := sum_le t S fun s hs => (I.le s hs).1
 rw [I.sl] at hsum
 have hs80 : (S.map (·.1)).sum + 1 ≤ 81 := by
  have : k * t ≤ 4 * 20 := Nat.mul_le_mul hk ht.2
  omega
 have hs2 := sum_set S i s (s.1 + 1, m) hs
 generalize hv : (S.map (·.1)).sum = v at *
 have hv' : ((S.set i (s.1 + 1, m)).map (·.1)).sum = v + 1 := by simp only at hs2; omega
 have hw0 : zbR M.mem 0 = x * v := by unfold zbR; rw [I.mw, hv]; rfl
 have hn : zd0 1 (zbR M.mem 0) x = x * ((v + 1 : Nat) : Int) := by
  have b1 := sum_bd (n := v) hx (by omega)
  have e : x * ((v + 1 : Nat) : Int) = x * v + x := by rw [Int.natCast_add, Int.mul_add]; simp
  show wrap32 (wrap32 (zbR M.mem 0) + wrap32 x) = _
  rw [hw0, w32_add, e]
  exact w32_id ⟨by omega, by omega⟩
 have hE : zdg M.mem i 0 1 = 0 := by
  have h1 : hasB M.mem i 0 = true := by
   simp [hasB, zdu, I.pend, I.rl, I.mw]; exact hi
  have h2 : (zaJ M.mem (i : Int)).length = 0 := by
   unfold zaJ
   rw [I.pend, Int.toNat_natCast, List.getD_eq_getElem?_getD, List.getElem?_replicate, if_pos hi]; rfl
  unfold zdg zca
  rw [if_neg (by decide), if_pos h1, if_pos h2]
 have hM : memR M i ⟨5, 8, 536870912, x, 1⟩ 0 = (zbR M.mem 0, zdw M.mem i 0 (x * ((v + 1 : Nat) : Int)), 0) := by
  show zbZ M.mem i 0 1 x = _
  unfold zbZ
  rw [if_pos hE, hn]
 have ho : offM ⟨5, 8, 536870912, x, 1⟩ = 0 := by show wrap64 (536870912 - 536870912) = 0; exact ziW (a := 0) ⟨by decide, by decide⟩
 have hwb : wordB M 0 = true := by simp [wordB, I.mw]
 have he : effR M i (h, ⟨5, 8, 536870912, x, 1⟩) = ({ zb5 M i (putH h 8 (zbR M.mem 0)) with mem := zdw M.mem i 0 (x * ((v + 1 : Nat) : Int)) }, 0) := by
  unfold effR
  simp only
  rw [if_neg (by decide), if_neg (by decide), if_neg (by decide), if_pos (by decide)]
  unfold zdh
  rw [ho, if_pos hwb]
  unfold zbN
  rw [show ((0 : Int).tdiv 4) = 0 from rfl, hM]
  simp
 refine ⟨_, he, I.upd hi (h' := putH h 8 (zbR M.mem 0)) (e' := zkv M i) rfl (by simp [zb5]) ?_ ?_ rfl ?_ rfl rfl (zcq h32 _ _) (put_zero _ _ h0) (hh _)⟩
 · have := set_getSelf M.ends i 0
   show M.ends = M.ends.set i (M.ends.getD (i : Int).toNat 0)
   rw [Int.toNat_natCast, this]
 · rw [hv']
   show M.mem.words.set _ _ = _
   rw [I.mw]; rfl
 · show (zed _ _ 0 M.mem.res).length = k
   rw [zdY]; exact I.rl
theorem SumM.next (I : SumM k t x S M) (ht : 1 ≤ t ∧ t ≤ 20) (hk : k ≤ 4) (hx : -2048 ≤ x ∧ x ≤ 2047) {i : Nat} (hi : i < k) {s : Nat × Nat} (hs : S[i]? = some s) :
 (s.2 = 0 ∧ (zdC M i).2 ≠ 0) ∨ (s.2 ≠ 0 ∧ (zdC M i).2 = 0 ∧ ∃ a, SumM k t x (S.set i (a, s.2 - 1)) (zdC M i).1) := by
 obtain ⟨s', g1, g2, g3, g4⟩ := I.at_ i hi
 rw [hs] at g1
 cases g1
 have hst : ∀ j y, (sumI t x)[j]? = some y → (zbB M (i : Int)).pc = 4 * (j : Nat) → zkv M (i : Int) = 0 → (y.op ≠ 44 ∧ y.op ≠ 40 ∧ y.op ≠ 41 ∧ y.op ≠ 42) → zdC M i = effR M i (zek (zbB M i) y) := fun j y h1 h2 h3 h4 => I.step ht hx hi h1 h2 h3 h4
 have hpl : ∀ h' : Ht, ∀ m, zdC M i = (zb5 M i h', 0) → s.2 ≠ 0 → m = s.2 - 1 → h'.r.length = 32 → h'.r.getD 0 0 = 0 → SumH t x h' (zkv M i) s.1 m → (s.2 = 0 ∧ (zdC M i).2 ≠ 0) ∨ (s.2 ≠ 0 ∧ (zdC M i).2 = 0 ∧ ∃ a, SumM k t x (S.set i (a, s.2 - 1)) (zdC M i).1) := by
  intro h' m e1 e2 e3 e4 e5 e6
  refine .inr ⟨e2, by rw [e1], s.1, ?_⟩
  rw [e1, ← e3]
  exact I.plain hi hs e4 e5 e6
 have hadd := fun (h : Ht) (m : Nat) h32 h0 hh => I.add ht hk hx hi hs (h := h) (m := m) h32 h0 hh
 have hxw : wrap32 x = x := w32_id ⟨by omega, by omega⟩
 have hend : SumM k t x S M → ∀ h' : Ht, h'.r.length = 32 → h'.r.getD 0 0 = 0 → s.1 = t → SumM k t x (S.set i (s.1, 0)) (zb5 (zeY M i 1) i h') := by
  intro I h' h32 h0 hst
  refine I.upd hi (h' := h') (e' := 1) rfl (by simp [zb5, zeY]) (by simp [zb5, zeY]) ?_ rfl I.rl rfl rfl h32 h0 (by rw [hst]; exact .done)
  have e := sum_set S i s (s.1, 0) hs
  have : ((S.set i (s.1, 0)).map (·.1)).sum = (S.map (·.1)).sum := by simp only at e; omega
  rw [this]; exact I.mw
 generalize hE : zkv M (i : Int) = E at *
 generalize hH : zbB M (i : Int) = h at *
 obtain ⟨sa, sm⟩ := s
 simp only at hst hpl hadd hend g4 ⊢
 cases g4 with
 |
  p0 hp =>
  have e := hst 0 ⟨1, 5, 0, 0, 131072⟩ rfl (by rw [hp]; rfl) rfl ⟨by simp, by simp, by simp, by simp⟩
  rw [stepN_lui, eff_zero, hp] at e
  refine hpl _ (3 * t + 3) e (by omega) (by omega) (zcq g2 5 _) (put_zero 5 _ g3) (.p4 (w32_id (a := 0 + 4) ⟨by decide, by decide⟩) ?_)
  exact (put_same (d := 5) g2 (by decide) _).trans (w32_id (a := 536870912) ⟨by decide, by decide⟩)
 |
  p4 hp h5 =>
  have e := hst 1 ⟨13, 6, 0, 0, x⟩ rfl (by rw [hp]; rfl) rfl ⟨by simp, by simp, by simp, by simp⟩
  rw [stepN_addi, eff_zero, hp, show (0 : Int).toNat = 0 from rfl, g3, w32_add, Int.zero_add] at e
  refine hpl _ (3 * t + 2) e (by omega) (by omega) (zcq g2 6 _) (put_zero 6 _ g3) (.p8 (w32_id (a := 4 + 4) ⟨by decide, by decide⟩) ?_ ?_)
  · exact (put_other (d := 6) (e := 5) (by decide) _).trans h5
  · exact (put_same (d := 6) g2 (by decide) _).trans (by rw [hxw, hxw])
 |
  p8 hp h5 h6 =>
  have e := hst 2 ⟨13, 7, 0, 0, t⟩ rfl (by rw [hp]; rfl) rfl ⟨by simp, by simp, by simp, by simp⟩
  rw [stepN_addi, eff_zero, hp, show (0 : Int).toNat = 0 from rfl, g3, w32_add, Int.zero_add] at e
  refine hpl _ (3 * t + 1) e (by omega) (by omega) (zcq g2 7 _) (put_zero 7 _ g3) (.p12 0 t (w32_id (a := 8 + 4) ⟨by decide, by decide⟩) ?_ ?_ ?_ (by omega) (by omega))
  · exact (put_other (d := 7) (e := 5) (by decide) _).trans h5
  · exact (put_other (d := 7) (e := 6) (by decide) _).trans h6
  · exact (put_same (d := 7) g2 (by decide) _).trans (by rw [w32_w32]; exact w32_id ⟨by omega, by omega⟩)
 |
  p12 a j hp h5 h6 h7 hj haj =>
  have e := hst 3 ⟨49, 8, 5, 6, 0⟩ rfl (by rw [hp]; rfl) rfl ⟨by simp, by simp, by simp, by simp⟩
  rw [stepN_amo, h5, h6, hp] at e
  obtain ⟨M', e1, I'⟩ := hadd { h with pc := wrap32 (12 + 4) } (3 * j) g2 g3 (fun n => by
   refine .p16 _ j ?_ ?_ ?_ ?_ hj (by omega)
   · exact (put_pc { h with pc := wrap32 (12 + 4) } 8 n).trans (w32_id (a := 12 + 4) ⟨by decide, by decide⟩)
   · exact (put_other (h := { h with pc := wrap32 (12 + 4) }) (d := 8) (e := 5) (by decide) _).trans h5
   · exact (put_other (h := { h with pc := wrap32 (12 + 4) }) (d := 8) (e := 6) (by decide) _).trans h6
   · exact (put_other (h := { h with pc := wrap32 (12 + 4) }) (d := 8) (e := 7) (by decide) _).trans h7)
  rw [e1] at e
  refine .inr ⟨by omega, by rw [e], sa + 1, ?_⟩
  rw [e, show 3 * j + 1 - 1 = 3 * j by omega]
  exact I'
 |
  p16 a j hp h5 h6 h7 hj haj =>
  have e := hst 4 ⟨13, 7, 7, 0, -1⟩ rfl (by rw [hp]; rfl) rfl ⟨by simp, by simp, by simp, by simp⟩
  rw [stepN_addi, eff_zero, hp, show (7 : Int).toNat = 7 from rfl, h7, w32_add, show (j : Int) + -1 = ((j - 1 : Nat) : Int) by omega] at e
  refine hpl _ (3 * (j - 1) + 2) e (by omega) (by omega) (zcq g2 7 _) (put_zero 7 _ g3) (.p20 _ (j - 1) (w32_id (a := 16 + 4) ⟨by decide, by decide⟩) ?_ ?_ ?_ (by omega))
  · exact (put_other (d := 7) (e := 5) (by decide) _).trans h5
  · exact (put_other (d := 7) (e := 6) (by decide) _).trans h6
  · exact (put_same (d := 7) g2 (by decide) _).trans (by rw [w32_w32]; exact w32_id ⟨by omega, by omega⟩)
 |
  p20 a j hp h5 h6 h7 haj =>
  have e := hst 5 ⟨6, 0, 7, 0, -8⟩ rfl (by rw [hp]; rfl) rfl ⟨by simp, by simp, by simp, by simp⟩
  rw [stepN_bne, eff_zero, hp, h7, g3] at e
  by_cases hj0 : j = 0
  · subst hj0
    rw [if_pos (by rfl)] at e
    have : sa = t := by omega
    subst this
    exact hpl _ 1 e (by omega) (by omega) g2 g3 (.p24 (w32_id (a := 20 + 4) ⟨by decide, by decide⟩))
  · rw [if_neg (by omega)] at e
    exact hpl _ (3 * j + 1) e (by omega) (by omega) g2 g3 (.p12 _ j (w32_id (a := 20 + -8) ⟨by decide, by decide⟩) h5 h6 h7 (by omega) haj)
 |
  p24 hp =>
  have e := hst 6 ⟨43, 0, 0, 0, 0⟩ rfl (by rw [hp]; rfl) rfl ⟨by simp, by simp, by simp, by simp⟩
  rw [stepN_call, hp] at e
  have e1 : effR M i ({ h with pc := wrap32 (24 + 4) }, ⟨7, 0, 0, 0, 0⟩) = (zb5 (zeY M i 1) i { h with pc := wrap32 (24 + 4) }, 0) := by
   unfold effR; simp
  rw [e1] at e
  refine .inr ⟨by decide, by rw [e], t, ?_⟩
  rw [e]
  exact hend I _ g2 g3 rfl
 |
  done =>
  refine .inl ⟨rfl, ?_⟩
  unfold zdC
  rw [if_neg (by rw [I.is hi]; decide), if_pos (by rw [hE]; decide)]
  decide
theorem SumM.do (I : SumM k t x S M) (ht : 1 ≤ t ∧ t ≤ 20) (hk : k ≤ 4) (hx : -2048 ≤ x ∧ x ≤ 2047) (c : Cho) (hz : (doR M c).2 = 0) : ∃ S', SumM k t x S' (doR M c).1 := by
 unfold doR at hz ⊢
 split
 · rename_i h1; rw [if_pos h1] at hz
   by_cases hi : zc9 M c.h = true
   · obtain ⟨h0, hl, _⟩ := zcy hi
     rw [I.hl] at hl
     obtain ⟨i, hi'⟩ : ∃ i : Nat, c.h = i := ⟨c.h.toNat, by omega⟩
     rw [hi'] at hz hl ⊢
     obtain ⟨s, hs, _⟩ := I.at_ i (by omega)
     rcases I.next ht hk hx (by omega) hs with ⟨_, h⟩ | ⟨_, _, a, h⟩
     · exact absurd hz h
     · exact ⟨_, h⟩
   · unfold zdC at hz
     rw [if_pos (by simpa using hi)] at hz
     exact absurd hz (by decide)
 rename_i h1; rw [if_neg h1] at hz
 split
 · rename_i h2; rw [if_pos h2] at hz
   have : (zcN M c.h c.w).2 ≠ 0 := by
    unfold zcN
    split
    · decide
    · rename_i h3
      have hi : zc9 M c.h = true := by simpa using h3
      obtain ⟨h0, hl, _⟩ := zcy hi
      rw [I.hl] at hl
      have hp : (zaJ M.mem c.h).length = 0 := by
       unfold zaJ
       rw [I.pend, List.getD_eq_getElem?_getD, List.getElem?_replicate, if_pos (by omega)]; rfl
      have : (zc6 M.mem c.h c.w).2 = 1 := by
       unfold zc6
       rw [if_neg]
       rw [hp]
       simp
       try omega
      rw [if_neg (by omega)]
      show (zc6 M.mem c.h c.w).2 ≠ 0
      omega
   exact absurd hz this
 rename_i h2; rw [if_neg h2] at hz
 split
 · rename_i h3; rw [if_pos h3] at hz
   unfold zdQ at hz
   rw [if_neg (by rw [I.lines]; simp)] at hz
   exact absurd hz (by decide)
 rename_i h3; rw [if_neg h3] at hz
 split
 · rename_i h4; rw [if_pos h4] at hz
   have : (zdA M c.h).2 ≠ 0 := by
    unfold zdA
    split
    · decide
    · split
      · decide
      · rw [if_pos (by unfold zeh; rw [I.lines]; exact (by decide : (-1 : Int) < 0))]; decide
   exact absurd hz this
 rename_i h4; rw [if_neg h4] at hz
 split
 · rename_i h5; rw [if_pos h5] at hz
   unfold zdz at hz
   rw [if_neg (by rw [I.devs]; simp)] at hz
   exact absurd hz (by decide)
 · rename_i h5; rw [if_neg h5] at hz; exact absurd hz (by decide)
end
theorem sum_run {k t : Nat} {x : Int} (ht : 1 ≤ t ∧ t ≤ 20) (hk : k ≤ 4) (hx : -2048 ≤ x ∧ x ≤ 2047) (l : List Cho) : ∀ {S : List (Nat × Nat)} {M : Mac}, SumM k t x S M → ∃ S', SumM k t x S' (runR M l).1 := by
 induction l with
 | nil => exact fun I => ⟨_, I⟩
 |
  cons c l ih =>
  intro S M I
  unfold runR
  split
  · rename_i h
    obtain ⟨S', I'⟩ := I.do ht hk hx c h
    exact ih I'
  · exact ih I
theorem sum_new {k t : Nat} {x : Int} {M : Mac} (hw : M.words = (sumI t x).map encV) (hh : M.harts = List.replicate k zHt) (he : M.ends = List.replicate k 0) (hm : M.mem = zct k 1) (hd : M.devs = []) (hl : M.lines = []) :
 SumM k t x (List.replicate k (0, 3 * t + 4)) M := by
 refine ⟨hw, by rw [hh, List.length_replicate], by rw [he, List.length_replicate], List.length_replicate, ?_, by rw [hm]; rfl, by rw [hm]; simp [zct], hd, hl, fun i hi => ⟨(0, 3 * t + 4), by rw [List.getElem?_replicate, if_pos hi], ?_⟩⟩
 · rw [hm]; simp [zct]
 · have h1 : zbB M (i : Int) = zHt := by unfold zbB; rw [hh, Int.toNat_natCast, List.getD_eq_getElem?_getD, List.getElem?_replicate, if_pos hi]; rfl
   have h2 : zkv M (i : Int) = 0 := by unfold zkv; rw [he, Int.toNat_natCast, List.getD_eq_getElem?_getD, List.getElem?_replicate, if_pos hi]; rfl
   rw [h1, h2]
   exact ⟨rfl, rfl, .p0 rfl⟩
def SumB (k i : Nat) (S : List (Nat × Nat)) : Prop := ∀ (h : Nat) (s : Nat × Nat), S[h]? = some s → s.2 ≤ 64 - (i + k - 1 - h) / k
theorem sum_round {k t : Nat} {x : Int} {S : List (Nat × Nat)} {M : Mac} (ht : 1 ≤ t ∧ t ≤ 20) (hk : 1 ≤ k ∧ k ≤ 4) (hx : -2048 ≤ x ∧ x ≤ 2047) {i : Nat} (I : SumM k t x S M) (B : SumB k i S) :
 ((doR M ⟨1, (i % k : Nat), 0, 0⟩).2 = 0 → ∃ S', SumM k t x S' (doR M ⟨1, (i % k : Nat), 0, 0⟩).1 ∧ SumB k (i + 1) S') ∧ ((doR M ⟨1, (i % k : Nat), 0, 0⟩).2 ≠ 0 → SumB k (i + 1) S) := by
 have hik : i % k < k := Nat.mod_lt _ (by omega)
 obtain ⟨s, hs, _⟩ := I.at_ (i % k) hik
 have e : doR M ⟨1, (i % k : Nat), 0, 0⟩ = zdC M (i % k : Nat) := by unfold doR; rw [if_pos rfl]
 have hoth : ∀ h < k, h ≠ i % k → (i + 1 + k - 1 - h) / k = (i + k - 1 - h) / k := by
  intro h hh hne
  rcases (by omega : k = 1 ∨ k = 2 ∨ k = 3 ∨ k = 4) with rfl | rfl | rfl | rfl <;> omega
 have hown : (i + 1 + k - 1 - i % k) / k = (i + k - 1 - i % k) / k + 1 := by
  rcases (by omega : k = 1 ∨ k = 2 ∨ k = 3 ∨ k = 4) with rfl | rfl | rfl | rfl <;> omega
 rw [e]
 rcases I.next ht hk.2 hx hik hs with ⟨h1, h2⟩ | ⟨h1, h2, a, h3⟩
 · refine ⟨fun h => absurd h h2, fun _ h s' hs' => ?_⟩
   have hl : h < k := by rw [← I.sl]; exact (List.getElem?_eq_some_iff.1 hs').1
   by_cases he : h = i % k
   · subst he; rw [hs] at hs'; cases hs'; omega
   · rw [hoth h hl he]; exact B h s' hs'
 · refine ⟨fun _ => ⟨_, h3, fun h s' hs' => ?_⟩, fun h => absurd h2 h⟩
   have hl : h < k := by rw [← h3.sl]; exact (List.getElem?_eq_some_iff.1 hs').1
   by_cases he : i % k = h
   · subst he
     rw [List.getElem?_set_self (by rw [I.sl]; exact hik)] at hs'
     cases hs'
     have := B _ s hs
     rw [hown]
     show s.2 - 1 ≤ _
     omega
   · rw [List.getElem?_set_ne he] at hs'
     rw [hoth h hl (Ne.symm he)]; exact B h s' hs'
theorem sum_begin {k t : Nat} {x : Int} {S : List (Nat × Nat)} {M : Mac} (ht : t ≤ 20) (hk : 1 ≤ k) (I : SumM k t x S M) : SumB k 0 S := by
 intro h s hs
 have hl : h < k := by rw [← I.sl]; exact (List.getElem?_eq_some_iff.1 hs).1
 have := (I.le s (List.mem_of_getElem? hs)).2
 rw [Nat.div_eq_of_lt (by omega)]; omega
theorem sum_end {k t : Nat} {x : Int} {S : List (Nat × Nat)} {M : Mac} (hk : 1 ≤ k ∧ k ≤ 4) (I : SumM k t x S M) (B : SumB k (100 * k) S) : (∀ i : Nat, i < k → zkv M i = 1) ∧ M.mem.words = [(k : Int) * t * x] := by
 have h0 : ∀ (h : Nat) (s : Nat × Nat), S[h]? = some s → s.2 = 0 := by
  intro h s hs
  have hl : h < k := by rw [← I.sl]; exact (List.getElem?_eq_some_iff.1 hs).1
  have b := B h s hs
  have : (100 * k + k - 1 - h) / k = 100 := by
   rcases (by omega : k = 1 ∨ k = 2 ∨ k = 3 ∨ k = 4) with rfl | rfl | rfl | rfl <;> omega
  omega
 have hall : ∀ i : Nat, i < k → ∃ s, S[i]? = some s ∧ s.1 = t ∧ zkv M i = 1 := by
  intro i hi
  obtain ⟨s, hs, _, _, h⟩ := I.at_ i hi
  obtain ⟨h1, h2⟩ := h.le.2.2.1 (h0 i s hs)
  exact ⟨s, hs, h1, h2⟩
 refine ⟨fun i hi => (hall i hi).choose_spec.2.2, ?_⟩
 have hs : (S.map (·.1)).sum = S.length * t := sum_all t S fun s hs => by
  obtain ⟨i, hi⟩ := List.mem_iff_getElem?.1 hs
  obtain ⟨s', h1, h2, _⟩ := hall i (by rw [← I.sl]; exact (List.getElem?_eq_some_iff.1 hi).1)
  rw [hi] at h1; cases h1; exact h2
 rw [I.mw, hs, I.sl, Int.natCast_mul, Int.mul_comm]
end Go.Proofs.YtdobddiibgfeaaaGreat
