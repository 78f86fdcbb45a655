/-
  What the walks of this statement lean on (MacLetsP, MacTurnsP, MacLaw): shown.
-/
import Derived.Test.YtdobddiibgfeaaaGreatZa
import Derived.Test.YtdobddiibgfeaaaGreatYk
import Derived.Test.YtdobddiibgfeaaaGreatZy
set_option linter.unusedVariables false
set_option linter.unusedSimpArgs false
namespace Go.Proofs.YtdobddiibgfeaaaGreat
section
open Go.RowKit
set_option maxRecDepth 100000
theorem firstK_all (M : Mac) (i : Int) : ∀ k : Nat, (zb4 M i k = -1 ∧ ∀ j : Nat, j < k → mayL M i (zck M j) = false) ∨
 ∃ b : Nat, zb4 M i k = b ∧ b < k ∧ mayL M i (zck M b) = true ∧ ∀ j : Nat, j < k → mayL M i (zck M j) = true → (zck M j).p ≤ (zck M b).p := by
 intro k
 induction k with
 | zero => exact .inl ⟨rfl, fun j hj => by omega⟩
 |
  succ k ih =>
  have e : zb4 M i (k + 1) = zf9 M i (zb4 M i k) k := rfl
  rw [e]; unfold zf9
  split
  · rename_i h
    refine .inr ⟨k, rfl, by omega, h.1, fun j hj hm => ?_⟩
    by_cases hjk : j = k
    · subst hjk; exact Int.le_refl _
    · rcases ih with ⟨h1, h2⟩ | ⟨b, h1, h2, h3, h4⟩
      · rw [h2 j (by omega)] at hm; cases hm
      · have := h4 j (by omega) hm
        rcases h.2 with h | h
        · rw [h1] at h; omega
        · rw [h1] at h; omega
  · rename_i h
    rcases ih with ⟨h1, h2⟩ | ⟨b, h1, h2, h3, h4⟩
    · refine .inl ⟨h1, fun j hj => ?_⟩
      by_cases hjk : j = k
      · subst hjk
        cases hm : mayL M i (zck M j)
        · rfl
        · exact absurd ⟨hm, .inl (by rw [h1]; decide)⟩ h
      · exact h2 j (by omega)
    · refine .inr ⟨b, h1, by omega, h3, fun j hj hm => ?_⟩
      by_cases hjk : j = k
      · subst hjk
        have : ¬ (zb4 M i j < 0 ∨ (zck M (zb4 M i j)).p < (zck M j).p) := fun x => h ⟨hm, x⟩
        rw [h1] at this; omega
      · exact h4 j (by omega) hm
def Sta (s : Int) : Prop := s = 0 ∨ s = 8 ∨ s = 128 ∨ s = 136
theorem and136 (x : Int) : Sta (bits .and .i64 x 136) := by
 have e : bits .and .i64 x 136 = (BitVec.ofInt 64 x &&& BitVec.ofInt 64 136).toInt := zcj _
 rw [e]
 have e2 : (BitVec.ofInt 64 x &&& BitVec.ofInt 64 136).toNat = ((BitVec.ofInt 64 x).toNat % 256) &&& 136 := by
  rw [BitVec.toNat_and]
  apply Nat.eq_of_testBit_eq
  intro j
  have : (BitVec.ofInt 64 136).toNat = 136 := by decide
  rw [this, Nat.testBit_and, Nat.testBit_and, show 256 = 2 ^ 8 from rfl, Nat.testBit_mod_two_pow]
  by_cases hj : j < 8
  · simp [hj]
  · have : (136 : Nat).testBit j = false := by
     apply Nat.testBit_lt_two_pow
     exact Nat.lt_of_lt_of_le (by decide : 136 < 2 ^ 8) (Nat.pow_le_pow_right (by decide) (by omega))
    simp [this]
 have h256 : (BitVec.ofInt 64 x).toNat % 256 < 256 := Nat.mod_lt _ (by decide)
 generalize (BitVec.ofInt 64 x).toNat % 256 = n at *
 have key : ((List.range 256).all fun n => decide (n &&& 136 = 0 ∨ n &&& 136 = 8 ∨ n &&& 136 = 128 ∨ n &&& 136 = 136)) = true := by kernel_rfl
 have := List.all_eq_true.1 key n (List.mem_range.2 h256)
 simp only [decide_eq_true_eq] at this
 generalize BitVec.ofInt 64 x &&& BitVec.ofInt 64 136 = b at *
 rw [← e2] at this
 rw [BitVec.toInt_eq_toNat_bmod]
 unfold Sta
 rcases this with h | h | h | h <;> rw [h]
 · exact .inl (by decide)
 · exact .inr (.inl (by decide))
 · exact .inr (.inr (.inl (by decide)))
 · exact .inr (.inr (.inr (by decide)))
theorem sta_trap {s : Int} (h : Sta s) : Sta (zkV s) ∧ (bits .and .i64 (zkV s) 8 != 0) = false := by
 rcases h with rfl | rfl | rfl | rfl
 · exact ⟨.inl (by kernel_rfl), by kernel_rfl⟩
 · exact ⟨.inr (.inr (.inl (by kernel_rfl))), by kernel_rfl⟩
 · exact ⟨.inl (by kernel_rfl), by kernel_rfl⟩
 · exact ⟨.inr (.inr (.inl (by kernel_rfl))), by kernel_rfl⟩
theorem sta_back {s : Int} (h : Sta s) : Sta (backSt s) := by
 rcases h with rfl | rfl | rfl | rfl
 · exact .inr (.inr (.inl (by kernel_rfl)))
 · exact .inr (.inr (.inl (by kernel_rfl)))
 · exact .inr (.inr (.inr (by kernel_rfl)))
 · exact .inr (.inr (.inr (by kernel_rfl)))
theorem sta_bit {s : Int} (h : Sta s) : (bits .and .i64 s 8 != 0) = !((s.tdiv 8).tmod 2 == 0) := by
 rcases h with rfl | rfl | rfl | rfl <;> kernel_rfl
theorem sta_put {h : Ht} (k : Sta h.st) (d n : Int) : Sta (putH h d n).st := by unfold putH; split <;> exact k
theorem sta_ctl {h : Ht} (k : Sta h.st) (id : Int) (x : Ins) : Sta (ctlR h id x).1.st := by
 have go : ∀ off bt, (off = 33 → bt = 136) → Sta (ctlH h x off bt).st := by
  intro off bt hb
  unfold ctlH
  apply sta_put
  show Sta (setC h off _).st
  unfold setC
  split
  · rename_i h33; rw [hb h33]; exact and136 _
  · repeat' split
    all_goals exact k
 unfold ctlR
 repeat' split
 all_goals first | exact go _ _ (by omega) | exact sta_put (h := { h with pc := wrap32 (h.pc + 4) }) k _ _ | exact k
theorem sta_step {h : Ht} (k : Sta h.st) (id : Int) (x : Ins) : Sta (zdB h id x).1.st := by
 unfold zdB
 repeat' split
 · exact k
 · exact sta_back k
 · exact sta_ctl k id x
 · unfold zek
   show Sta (putX h x _ _).st
   unfold putX
   repeat' split
   all_goals first | exact sta_put k _ _ | exact k
def StaM (M : Mac) : Prop := ∀ h ∈ M.harts, Sta h.st
theorem sta_of {M : Mac} (k : StaM M) (i : Int) : Sta (zbB M i).st := by
 unfold zbB
 rw [List.getD_eq_getElem?_getD]
 cases e : M.harts[i.toNat]? with
 | none => exact .inl rfl
 | some h => exact k h (List.mem_of_getElem? e)
theorem sta_set {M : Mac} (k : StaM M) (i : Int) {h : Ht} (hh : Sta h.st) : StaM (zb5 M i h) := by
 intro x hx
 rcases List.mem_or_eq_of_mem_set hx with h1 | h1
 · exact k x h1
 · rw [h1]; exact hh
theorem sta_no : StaM zbQ := fun h hh => by cases hh
theorem sta_memory {M : Mac} (k : StaM M) (i : Int) {h : Ht} (hh : Sta h.st) (e : Eff) (a : Int) : StaM (zbN M i h e a).1 := by
 unfold zbN
 split
 · show StaM { zb5 M i _ with mem := _ }
   refine sta_set k i ?_
   split
   · exact hh
   · exact sta_put hh _ _
 · exact sta_no
theorem sta_register {M : Mac} (k : StaM M) (i : Int) {h : Ht} (hh : Sta h.st) (e : Eff) (d g : Int) : StaM (zbA M i h e d g).1 := by
 unfold zbA
 split
 · exact sta_no
 · split
   · exact sta_set k i hh
   · exact sta_set k i (sta_put hh _ _)
theorem sta_access {M : Mac} (k : StaM M) (i : Int) {h : Ht} (hh : Sta h.st) (e : Eff) : StaM (zdh M i h e).1 := by
 unfold zdh
 split
 · exact sta_memory k i hh e _
 · split
   · exact sta_register k i hh e _ _
   · exact k
theorem sta_eff {M : Mac} (k : StaM M) (i : Int) {r : Ht × Eff} (hh : Sta r.1.st) : StaM (effR M i r).1 := by
 unfold effR
 repeat' split
 all_goals first | exact k | exact sta_no | exact sta_access k i hh _ | exact sta_set (M := M) k i hh | exact sta_set (M := zeY M i 1) k i hh
theorem sta_do {M : Mac} (k : StaM M) (c : Cho) : StaM (doR M c).1 := by
 unfold doR
 split
 · unfold zdC
   repeat' split
   all_goals first | exact sta_no | exact k | exact sta_eff k _ (sta_step (sta_of k _) _ _)
 split
 · unfold zcN
   repeat' split
   all_goals first | exact sta_no | exact k
 split
 · unfold zdQ
   split
   · exact k
   · exact sta_no
 split
 · unfold zdA
   repeat' split
   all_goals first | exact sta_no | exact sta_set (M := zdL M _ _) k _ (sta_trap (sta_of k _)).1
 split
 · unfold zdz
   split
   · exact k
   · exact sta_no
 · exact sta_no
theorem sta_run (l : List Cho) : ∀ {M : Mac}, StaM M → StaM (runR M l).1 := by
 induction l with
 | nil => exact fun k => k
 |
  cons c l ih =>
  intro M k
  unfold runR
  split
  · exact ih (sta_do k c)
  · exact ih k
structure Taken (M M' : Mac) (h : Int) (b : Nat) : Prop where
 lt : b < M.lines.length
 may : mayL M h (zck M b) = true
 best : ∀ j : Nat, j < M.lines.length → (zck M j).r = true → (zck M j).h = h → (zck M j).p ≤ (zck M b).p
 lines : M'.lines = M.lines.set b { zck M b with r := false }
 harts : M'.harts = M.harts.set h.toNat (zgd (zbB M h) (-2147483648 + b))
 none : zeh M' h = -1
theorem take_all {M : Mac} {h : Int} (k : StaM M) (hi : zc9 M h = true) (he : zkv M h = 0) :
 (zeh M h = -1 ∧ (zdA M h).2 = 101) ∨ ∃ b : Nat, zeh M h = b ∧ (zdA M h).2 = 0 ∧ Taken M (zdA M h).1 h b := by
 have hs := zcy hi
 have hh : ¬ zc9 M h = false := by rw [hi]; decide
 rcases firstK_all M h M.lines.length with ⟨h1, _⟩ | ⟨b, h1, h2, h3, h4⟩
 · refine .inl ⟨h1, ?_⟩
   have h1' : zeh M h = -1 := h1
   unfold zdA
   rw [if_neg hh, if_neg (by omega), if_pos (by rw [h1']; decide)]
 · have h1' : zeh M h = b := h1
   have e : zdA M h = (zb5 (zdL M b false) h (zgd (zbB M h) (-2147483648 + b)), 0) := by
    unfold zdA
    rw [if_neg hh, if_neg (by omega), h1', if_neg (by omega)]
   have hm := h3
   unfold mayL at hm
   simp only [Bool.and_eq_true, decide_eq_true_eq, beq_iff_eq] at hm
   obtain ⟨m1, m2, m3, m4, m5⟩ := hm
   unfold zlU at m5
   simp only [Bool.and_eq_true, decide_eq_true_eq] at m5
   rw [e]
   refine .inr ⟨b, h1', rfl, ⟨h2, h3, fun j hj hr hjh => ?_, rfl, rfl, ?_⟩⟩
   · by_cases hp : (zck M b).p < (zck M j).p
     · refine h4 j hj ?_
       unfold mayL zlU
       simp only [Bool.and_eq_true, decide_eq_true_eq, beq_iff_eq]
       exact ⟨m1, m2, hjh, hr, m5.1, by omega⟩
     · omega
   · rcases firstK_all (zb5 (zdL M b false) h (zgd (zbB M h) (-2147483648 + b))) h (zb5 (zdL M b false) h (zgd (zbB M h) (-2147483648 + b))).lines.length with ⟨g1, _⟩ | ⟨c, _, _, g3, _⟩
     · exact g1
     · exfalso
       unfold mayL zlU at g3
       simp only [Bool.and_eq_true, decide_eq_true_eq, beq_iff_eq] at g3
       have g5 := g3.2.2.2.2.1
       have : zbB (zb5 (zdL M b false) h (zgd (zbB M h) (-2147483648 + b))) h = zgd (zbB M h) (-2147483648 + b) := by
        simp only [zbB, zb5, zdL]
        rw [List.getD_eq_getElem?_getD, List.getElem?_set_self (by omega)]; rfl
       rw [this] at g5
       exact absurd g5 (by rw [show (zgd (zbB M h) (-2147483648 + b)).st = zkV (zbB M h).st from rfl, (sta_trap (sta_of k h)).2]; decide)
end
section
open Go.RowKit
set_option maxRecDepth 100000
section
variable {M : Mac} {i j : Int} {x y : Ht}
theorem set_swap (h : i.toNat ≠ j.toNat) : zb5 (zb5 M i x) j y = zb5 (zb5 M j y) i x := by
 unfold zb5
 simp only
 rw [List.set_comm _ _ h]
theorem hart_other (h : i.toNat ≠ j.toNat) : zbB (zb5 M i x) j = zbB M j := by
 unfold zbB zb5
 simp only
 rw [List.getD_eq_getElem?_getD, List.getD_eq_getElem?_getD, List.getElem?_set_ne h]
theorem turn_memory (h : i.toNat ≠ j.toNat) (t : Ht) (e : Eff) (a : Int) : zbN (zb5 M i x) j t e a = (zb5 (zbN M j t e a).1 i x, (zbN M j t e a).2) := by
 unfold zbN
 have e1 : memR (zb5 M i x) j e a = memR M j e a := rfl
 rw [e1]
 split
 · rw [set_swap h]; rfl
 · rfl
theorem turn_register (h : i.toNat ≠ j.toNat) (t : Ht) (e : Eff) (d g : Int) : zbA (zb5 M i x) j t e d g = (zb5 (zbA M j t e d g).1 i x, (zbA M j t e d g).2) := by
 unfold zbA
 have e1 : (zb5 M i x).mem = M.mem := rfl
 rw [e1]
 split
 · rfl
 split
 · rw [set_swap h]; rfl
 · rw [set_swap h]; rfl
theorem turn_access (h : i.toNat ≠ j.toNat) (t : Ht) (e : Eff) : zdh (zb5 M i x) j t e = (zb5 (zdh M j t e).1 i x, (zdh M j t e).2) := by
 unfold zdh
 have e1 : wordB (zb5 M i x) (offM e) = wordB M (offM e) := rfl
 have e2 : regB (zb5 M i x) e.k (offD e) = regB M e.k (offD e) := rfl
 rw [e1, e2]
 split
 · exact turn_memory h _ _ _
 split
 · exact turn_register h _ _ _ _
 · rfl
theorem turn_eff (h : i.toNat ≠ j.toNat) (r : Ht × Eff) : effR (zb5 M i x) j r = (zb5 (effR M j r).1 i x, (effR M j r).2) := by
 unfold effR
 split
 · rfl
 split
 · have e1 : zeY (zb5 M i x) j 1 = zb5 (zeY M j 1) i x := rfl
   rw [e1, set_swap h]
 split
 · have e1 : (zb5 M i x).mem = M.mem := rfl
   rw [e1]
   split
   · rfl
   · rw [set_swap h]
 split
 · exact turn_access h _ _
 · rw [set_swap h]
theorem turn_step (h : i.toNat ≠ j.toNat) : zdC (zb5 M i x) j = (zb5 (zdC M j).1 i x, (zdC M j).2) := by
 unfold zdC
 have e1 : zc9 (zb5 M i x) j = zc9 M j := by simp [zc9, zb5]
 have e2 : zkv (zb5 M i x) j = zkv M j := rfl
 have e3 : zeE (zb5 M i x) j = zeE M j := by
  unfold zeE; rw [hart_other h]; rfl
 have e4 : zeD (zb5 M i x) j = zeD M j := by
  unfold zeD; rw [hart_other h]; rfl
 rw [e1, e2, e3, e4, hart_other h]
 split
 · rfl
 split
 · rfl
 split
 · rfl
 · exact turn_eff h _
theorem alone {M' : Mac} (k : KeptS i M M') (h0 : 0 ≤ i) (h1 : { M' with harts := M.harts } = M) : M' = zb5 M i (zbB M' i) := by
 obtain ⟨a1, a2, a3, a4, a5, a6, a7⟩ := M'
 obtain ⟨b1, b2, b3, b4, b5, b6, b7⟩ := M
 have e := congrArg Mac.words h1; have e3 := congrArg Mac.ends h1; have e4 := congrArg Mac.mem h1; have e5 := congrArg Mac.devs h1; have e6 := congrArg Mac.lines h1; have e7 := congrArg Mac.trace h1
 simp only at e e3 e4 e5 e6 e7
 subst e e3 e4 e5 e6 e7
 have hl := k.hl
 have hh := k.harts
 simp only at hl hh
 unfold zb5 zbB
 simp only
 congr 1
 apply List.ext_getElem?
 intro n
 by_cases hn : n = i.toNat
 · subst hn
   by_cases hlt : i.toNat < a2.length
   · rw [List.getElem?_set_self (by omega), List.getD_eq_getElem?_getD, List.getElem?_eq_getElem hlt]; rfl
   · rw [List.getElem?_eq_none (by omega), List.getElem?_eq_none (by simp; omega)]
 · rw [List.getElem?_set_ne (by omega)]
   exact hh n (by omega)
theorem turns (ha : (zdC M i).2 = 0) (hb : (zdC M j).2 = 0) (hne : i ≠ j) (h1 : { (zdC M i).1 with harts := M.harts } = M) (h2 : { (zdC M j).1 with harts := M.harts } = M) :
 (zdC (zdC M i).1 j).2 = 0 ∧ (zdC (zdC M j).1 i).2 = 0 ∧ (zdC (zdC M i).1 j).1 = (zdC (zdC M j).1 i).1 := by
 obtain ⟨k1, i1, _⟩ := step_kept ha
 obtain ⟨k2, i2, _⟩ := step_kept hb
 have p1 := (zcy i1).1; have p2 := (zcy i2).1
 have q1 := alone k1 p1 h1
 have q2 := alone k2 p2 h2
 have hn : i.toNat ≠ j.toNat := by omega
 generalize zbB (zdC M i).1 i = u at q1
 generalize zbB (zdC M j).1 j = v at q2
 have s1 : zdC (zdC M i).1 j = (zb5 (zdC M j).1 i u, (zdC M j).2) := by rw [q1]; exact turn_step hn
 have s2 : zdC (zdC M j).1 i = (zb5 (zdC M i).1 j v, (zdC M i).2) := by rw [q2]; exact turn_step (Ne.symm hn)
 rw [s1, s2]
 refine ⟨hb, ha, ?_⟩
 simp only
 rw [q1, q2, set_swap hn]
end
end
section
open Go.RowKit
set_option maxRecDepth 100000
theorem sta_start (raw : List (Int × Int × Int × Int)) (h k l : Int) : StaM (zhn raw h k l) := fun x hx => by
 obtain ⟨_, rfl⟩ := List.mem_replicate.1 hx
 exact .inl rfl
theorem IsMac.but9 {w w' : World} {v : Value} {M : Mac} (h : IsMac w v M) {b : Nat} {cs : Array Value} (K : But b w w') (hb : w.heap[b]? = some (.cells cs 37 (0, 0))) (hcs : Nine cs) : IsMac w' v M := by
 obtain ⟨wv, hv, ev, m1, m2, m3, dv, lv, tv, qs, rfl, h⟩ := h
 exact ⟨wv, hv, ev, m1, m2, m3, dv, lv, tv, qs, rfl, zas h.words K (zar h.words hb (by decide)), zas h.harts K (zar h.harts hb (by decide)), zas h.ends K (zar h.ends hb (by decide)), zcu h.mem K hb (by decide) (by decide), zas h.devs K (zar h.devs hb (by decide)),
  ⟨h.ques.1, fun i q s h1 h2 => que_res9 K hb hcs.all (h.ques.2 i q s h1 h2)⟩, zas h.lines K (zar h.lines hb (by decide)), zas h.trace K (zar h.trace hb (by decide))⟩
structure Cells (w : World) (b : Nat) (cs : Array Value) (M : Mac) (wa ha ea qa ra pa da la ta : Option Addr) (wc hc ec qc rc pc dc lc tc : Nat) : Prop where
 eq : cs = #[.slice wa M.words.length wc, .slice ha M.harts.length hc, .slice ea M.ends.length ec, .slice qa M.mem.words.length qc, .slice pa M.mem.pend.length pc, .slice ra M.mem.res.length rc, .slice da M.devs.length dc, .slice la M.lines.length lc, .slice ta M.trace.length tc]
 words : Reads w 1 M.words.length (.slice wa M.words.length wc) (intC M.words)
 harts : w.ownsRow 0 56 39 (.slice ha M.harts.length hc) M.harts.length (zaT hC M.harts)
 ends : Reads w 1 M.ends.length (.slice ea M.ends.length ec) (intC M.ends)
 mem : IsMem w (.agg #[.slice qa M.mem.words.length qc, .slice pa M.mem.pend.length pc, .slice ra M.mem.res.length rc]) M.mem
 lines : Reads w 3 M.lines.length (.slice la M.lines.length lc) (zaT lnC M.lines)
 trace : Reads w 5 M.trace.length (.slice ta M.trace.length tc) (zaT acC M.trace)
theorem MVar.open {w : World} {b : Nat} {cs : Array Value} {M : Mac} (h : MVar w b cs M) : ∃ wa ha ea qa ra pa da la ta wc hc ec qc rc pc dc lc tc, Cells w b cs M wa ha ea qa ra pa da la ta wc hc ec qc rc pc dc lc tc := by
 obtain ⟨wv, hv, ev, m1, m2, m3, dv, lv, tv, qs, e, hp⟩ := h.mac
 obtain ⟨wa, wc, rfl⟩ := zai hp.words
 obtain ⟨ha, hc, rfl⟩ := zai hp.harts
 obtain ⟨ea, ec, rfl⟩ := zai hp.ends
 obtain ⟨da, dc, rfl⟩ := zai hp.devs
 obtain ⟨la, lc, rfl⟩ := zai hp.lines
 obtain ⟨ta, tc, rfl⟩ := zai hp.trace
 obtain ⟨b1, d1, b2, d2, b3, d3, rows, em, _⟩ := hp.mem.parts
 have hm := hp.mem
 injection em with em
 have f1 : m1 = .slice b1 M.mem.words.length d1 := by have := congrArg (·[0]?) em; simpa using this
 have f2 : m2 = .slice b2 M.mem.pend.length d2 := by have := congrArg (·[1]?) em; simpa using this
 have f3 : m3 = .slice b3 M.mem.res.length d3 := by have := congrArg (·[2]?) em; simpa using this
 subst f1 f2 f3
 injection e with e
 exact ⟨_, _, _, _, _, _, _, _, _, _, _, _, _, _, _, _, _, _, e, Reads.own hp.words (by simp [intC, Value.oneCell']), hp.harts, Reads.own hp.ends (by simp [intC, Value.oneCell']), hm, Reads.own hp.lines (zdM fun x _ => zgW x), Reads.own hp.trace (zdM fun x _ => zhh x)⟩
theorem mvar_harts {w : World} {b bm : Nat} {cs cm : Array Value} {P M : Mac} {hv : Value} (h : MVar w b cs P) (hm : MVar w bm cm M) (he : cm[1]? = some hv) : ∃ cs', MVar (w.setCell ⟨b, 1, none⟩ hv) b cs' { P with harts := M.harts } := by
 obtain ⟨wv, hv1, ev, m1, m2, m3, dv, lv, tv, qs, e, hp⟩ := h.mac
 obtain ⟨wv', hv2, ev', m1', m2', m3', dv', lv', tv', qs', e', hp'⟩ := hm.mac
 injection e with e
 injection e' with e'
 subst e e'
 have hv2e : hv2 = hv := by simpa using he
 subst hv2e
 have K := zby w b 1 hv2
 have hi : IsMac w (.agg #[wv, hv2, ev, m1, m2, m3, dv, lv, tv]) { P with harts := M.harts } := ⟨_, _, _, _, _, _, _, _, _, qs, rfl, hp.words, hp'.harts, hp.ends, hp.mem, hp.devs, hp.ques, hp.lines, hp.trace⟩
 obtain ⟨cs', ecs, n'⟩ := zcF hi
 injection ecs with ecs
 refine ⟨#[wv, hv2, ev, m1, m2, m3, dv, lv, tv], zaG h.at_ 1 hv2, by rw [ecs]; exact n', hi.but9 K h.at_ h.nine⟩
theorem MVar.but {w w' : World} {b b' : Nat} {cs cs' : Array Value} {M : Mac} (h : MVar w b cs M) (hne : b ≠ b') (K : But b' w w') (hb : w.heap[b']? = some (.cells cs' 37 (0, 0))) (hcs : Nine cs') : MVar w' b cs M :=
 ⟨(K.2 b hne).trans h.at_, h.nine, h.mac.but9 K hb hcs⟩
end
end Go.Proofs.YtdobddiibgfeaaaGreat
