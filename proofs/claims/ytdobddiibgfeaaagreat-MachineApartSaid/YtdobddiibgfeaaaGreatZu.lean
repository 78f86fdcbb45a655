/-
  What the walks of this statement lean on (MacGood, MacRun, MacScript): shown.
-/
import Derived.Test.YtdobddiibgfeaaaGreatZt
import Derived.Test.YtdobddiibgfeaaaGreatZa
set_option linter.unusedVariables false
set_option linter.unusedSimpArgs false
namespace Go.Proofs.YtdobddiibgfeaaaGreat
section
open Go.RowKit
set_option maxRecDepth 100000
def HtOK (h : Ht) : Prop := h.r.length = 32 ∧ I64 h.pc ∧ I64 h.ve ∧ I64 h.ep
theorem zjv (op : BinOp) (x y : Int) (hop : op = .and ∨ op = .or ∨ op = .andNot ∨ op = .xor) : I64 (bits op .i64 x y) := by
 have h : ∃ b : BitVec 64, bits op .i64 x y = b.toInt := by
  rcases hop with rfl | rfl | rfl | rfl
  · exact ⟨_, zcj _⟩
  · exact ⟨_, zcj _⟩
  · exact ⟨_, zcj _⟩
  · exact ⟨_, zcj _⟩
 obtain ⟨b, hb⟩ := h
 rw [hb]
 have h1 := BitVec.le_toInt b
 have h2 := BitVec.toInt_lt (x := b)
 unfold I64
 simp at h1 h2
 omega
theorem zg2 (x : Int) : I64 (wrap32 x) := by have := zdI x; unfold I64; omega
theorem zjY (h : Ht) (d n : Int) : (putH h d n).pc = h.pc ∧ (putH h d n).ve = h.ve ∧ (putH h d n).ep = h.ep := by
 unfold putH; split <;> exact ⟨rfl, rfl, rfl⟩
theorem zhE {h : Ht} (k : HtOK h) (d n : Int) : HtOK (putH h d n) := by
 obtain ⟨e1, e2, e3⟩ := zjY h d n
 unfold HtOK
 rw [e1, e2, e3]
 exact ⟨zcq k.1 d n, k.2⟩
theorem ok_trap {h : Ht} (k : HtOK h) (c : Int) : HtOK (zgd h c) := ⟨k.1, k.2.2.1, k.2.2.1, k.2.1⟩
theorem ok_back {h : Ht} (k : HtOK h) : HtOK (zga h) := ⟨k.1, k.2.2.2, k.2.2.1, k.2.2.2⟩
theorem zlD : HtOK zHt := ⟨rfl, by unfold I64 zHt; simp, by unfold I64 zHt; simp, by unfold I64 zHt; simp⟩
theorem ok_pc {h : Ht} (k : HtOK h) {p : Int} (hp : I64 p) : HtOK { h with pc := p } := ⟨k.1, hp, k.2.2⟩
theorem zlX (pc : Int) (x : Ins) (a b : Int) : I64 (zdy pc x a b) := by
 unfold zdy
 split
 · exact zg2 _
 · split
   · exact zjv _ _ _ (.inl rfl)
   · exact zg2 _
theorem ok_putX {h : Ht} (k : HtOK h) (x : Ins) (a b : Int) : HtOK (putX h x a b) := by
 unfold putX
 repeat' split
 all_goals first | exact zhE k _ _ | exact k
theorem ok_setC {h : Ht} (k : HtOK h) (off : Nat) {v : Int} (hv : I64 v) : HtOK (setC h off v) := by
 unfold setC
 repeat' split
 all_goals first | exact k | exact ⟨k.1, k.2.1, hv, k.2.2.2⟩ | exact ⟨k.1, k.2.1, k.2.2.1, hv⟩
theorem ok_ctlH {h : Ht} (k : HtOK h) (x : Ins) (off : Nat) (bt : Int) : HtOK (ctlH h x off bt) := by
 unfold ctlH
 exact zhE (ok_pc (ok_setC k off (zjv _ _ _ (.inl rfl))) (zg2 _)) _ _
theorem ok_ctlR {h : Ht} (k : HtOK h) (id : Int) (x : Ins) : HtOK (ctlR h id x).1 := by
 unfold ctlR
 repeat' split
 all_goals first | exact ok_ctlH k _ _ _ | exact zhE (ok_pc k (zg2 _)) _ _ | exact k
theorem ok_step {h : Ht} (k : HtOK h) (id : Int) (x : Ins) : HtOK (zdB h id x).1 := by
 unfold zdB
 repeat' split
 · exact k
 · exact ok_back k
 · exact ok_ctlR k id x
 · exact ok_pc (ok_putX k _ _ _) (zlX _ _ _ _)
section
variable {M : Mac} {H N : Nat}
theorem GoodM.ok (g : GoodM M H N) : ∀ h ∈ M.harts, HtOK h := fun h hm => ⟨g.regs h hm, g.pcs h hm⟩
theorem zbP (g : GoodM M H N) {N' : Nat} (h : N ≤ N') : GoodM M H N' := ⟨g.words, g.word, g.few, g.harts, g.regs, g.pcs, g.ends, g.mem, g.devs, g.dev, g.lines, Nat.le_trans g.trace h⟩
theorem zc5 (g : GoodM M H N) (i : Int) {h : Ht} (k : HtOK h) : GoodM (zb5 M i h) H N := by
 have all : ∀ x ∈ M.harts.set i.toNat h, HtOK x := fun x hx => by
  rcases List.mem_or_eq_of_mem_set hx with hx | hx
  · exact g.ok x hx
  · rw [hx]; exact k
 exact ⟨g.words, g.word, g.few, by simp [zb5, g.harts], fun x hx => (all x hx).1, fun x hx => (all x hx).2, g.ends, g.mem, g.devs, g.dev, g.lines, g.trace⟩
theorem zfw (g : GoodM M H N) (i x : Int) : GoodM (zeY M i x) H N := ⟨g.words, g.word, g.few, g.harts, g.regs, g.pcs, by simp [zeY, g.ends], g.mem, g.devs, g.dev, g.lines, g.trace⟩
theorem zhS (g : GoodM M H N) (k : Int) (b : Bool) : GoodM (zdL M k b) H N := ⟨g.words, g.word, g.few, g.harts, g.regs, g.pcs, g.ends, g.mem, g.devs, g.dev, by simp [zdL]; exact g.lines, g.trace⟩
theorem zjm (g : GoodM M H N) {m : Mem} (hm : ∀ W, W ≤ 100000 → Good M.mem H W → Good m H W) : GoodM { M with mem := m } H N := by
 obtain ⟨W, hW, gm⟩ := g.mem
 exact ⟨g.words, g.word, g.few, g.harts, g.regs, g.pcs, g.ends, ⟨W, hW, hm W hW gm⟩, g.devs, g.dev, g.lines, g.trace⟩
theorem zg5 (g : GoodM M H N) (d : Int) {s : St} (hs : Inv s) : GoodM { M with devs := M.devs.set d.toNat s } H N :=
 ⟨g.words, g.word, g.few, g.harts, g.regs, g.pcs, g.ends, g.mem, by simp; exact g.devs, fun x hx => by
  rcases List.mem_or_eq_of_mem_set hx with hx | hx
  · exact g.dev x hx
  · rw [hx]; exact hs, g.lines, g.trace⟩
theorem zjn (g : GoodM M H N) (a : Ac) : GoodM { M with trace := M.trace ++ [a] } H (N + 1) :=
 ⟨g.words, g.word, g.few, g.harts, g.regs, g.pcs, g.ends, g.mem, g.devs, g.dev, g.lines, by simp; exact g.trace⟩
theorem zmI (g : GoodM M H N) {d : Int} (h0 : 0 ≤ d) (h1 : d < M.devs.length) : Inv (zeF M d) := g.dev _ (zmJ h0 h1)
theorem zmk (g : GoodM M H N) {i : Int} {e : Eff} {a : Int} (h : (memR M i e a).2.2 = 0) : ∀ W, W ≤ 100000 → Good M.mem H W → Good (memR M i e a).2.1 H W := by
 intro W _ gm
 unfold memR at h ⊢
 split at h <;> rename_i h1
 · rw [if_pos h1]; exact gm
 rw [if_neg h1]
 split at h <;> rename_i h2
 · rw [if_pos h2]; exact zkk gm (Prod.ext rfl h)
 rw [if_neg h2]
 split at h <;> rename_i h3
 · rw [if_pos h3]; exact zhR gm (u := (zbJ M.mem i a).1) (Prod.ext rfl (Prod.ext rfl h))
 rw [if_neg h3]
 split at h <;> rename_i h4
 · rw [if_pos h4]; exact zml gm (u := (zcA M.mem i a e.n).1) (Prod.ext rfl (Prod.ext rfl h))
 rw [if_neg h4]
 exact ziI gm (u := (zbZ M.mem i a e.o e.n).1) (Prod.ext rfl (Prod.ext rfl h))
theorem ziE (g : GoodM M H N) (i : Int) {h : Ht} (k : HtOK h) (e : Eff) (a : Int) (h0 : (zbN M i h e a).2 = 0) : GoodM (zbN M i h e a).1 H N := by
 unfold zbN at h0 ⊢
 split at h0 <;> rename_i h1
 · rw [if_pos h1]
   refine zjm (zc5 g i ?_) (zmk g h1)
   split
   · exact k
   · exact zhE k _ _
 · exact absurd h0 h1
theorem zg4 (g : GoodM M H N) (i : Int) {h : Ht} (k : HtOK h) (e : Eff) {d : Int} (r : Int) (hd0 : 0 ≤ d) (hd1 : d < M.devs.length) (h0 : (zbA M i h e d r).2 = 0) : GoodM (zbA M i h e d r).1 H (N + 1) := by
 have hi := zmI g hd0 hd1
 unfold zbA at h0 ⊢
 split at h0 <;> rename_i h1
 · exact absurd h0 (by decide)
 · rw [if_neg h1]
   split
   · exact zjn (zg5 (zc5 g i k) d (zg1 (zl4 hi _ _ (zdI _)))) _
   · exact zjn (zg5 (zc5 g i (zhE k _ _)) d (zg1 (inv_read hi _))) _
theorem ziJ (g : GoodM M H N) (i : Int) {h : Ht} (k : HtOK h) (e : Eff) (h0 : (zdh M i h e).2 = 0) : GoodM (zdh M i h e).1 H (N + 1) := by
 unfold zdh at h0 ⊢
 split at h0 <;> rename_i h1
 · rw [if_pos h1]; exact zbP (ziE g i k e _ h0) (by omega)
 · rw [if_neg h1]
   split at h0 <;> rename_i h2
   · rw [if_pos h2]
     have hb := h2
     simp [regB] at hb
     exact zg4 g i k e _ (Int.tdiv_nonneg hb.2.1 (by omega)) hb.2.2.2.2 h0
   · rw [if_neg h2]; exact zbP (zfw g i 3) (by omega)
theorem good_eff (g : GoodM M H N) (i : Int) {r : Ht × Eff} (k : HtOK r.1) (h0 : (effR M i r).2 = 0) : GoodM (effR M i r).1 H (N + 1) := by
 unfold effR at h0 ⊢
 split at h0 <;> rename_i h1
 · rw [if_pos h1]; exact zbP (zfw g i 2) (by omega)
 rw [if_neg h1]
 split at h0 <;> rename_i h2
 · rw [if_pos h2]; exact zbP (zc5 (zfw g i 1) i k) (by omega)
 rw [if_neg h2]
 split at h0 <;> rename_i h3
 · rw [if_pos h3]
   split at h0 <;> rename_i h4
   · exact absurd h0 (by decide)
   · rw [if_neg h4]; exact zbP (zc5 g i k) (by omega)
 rw [if_neg h3]
 split at h0 <;> rename_i h5
 · rw [if_pos h5]; exact ziJ g i k r.2 h0
 · rw [if_neg h5]; exact zbP (zc5 g i k) (by omega)
theorem zkl (g : GoodM M H N) (i : Int) (h0 : (zdC M i).2 = 0) : GoodM (zdC M i).1 H (N + 1) := by
 unfold zdC at h0 ⊢
 split at h0 <;> rename_i h1
 · exact absurd h0 (by decide)
 rw [if_neg h1]
 split at h0 <;> rename_i h2
 · exact absurd h0 (by decide)
 rw [if_neg h2]
 split at h0 <;> rename_i h3
 · rw [if_pos h3]; exact zbP (zfw g i 2) (by omega)
 · rw [if_neg h3]
   have hh := zcy (by simpa using h1)
   exact good_eff g i (ok_step (g.ok _ (zd7 hh.1 hh.2.1)) _ _) h0
theorem ziH (g : GoodM M H N) (i k : Int) (h0 : (zcN M i k).2 = 0) : GoodM (zcN M i k).1 H (N + 1) := by
 unfold zcN at h0 ⊢
 split at h0 <;> rename_i h1
 · exact absurd h0 (by decide)
 rw [if_neg h1]
 split at h0 <;> rename_i h2
 · rw [if_pos h2]; exact zbP (zjm g fun W _ gm => zkn gm (Prod.ext rfl h2)) (by omega)
 · exact absurd h0 h2
theorem ziD (g : GoodM M H N) (k : Int) (h0 : (zdQ M k).2 = 0) : GoodM (zdQ M k).1 H (N + 1) := by
 unfold zdQ at h0 ⊢
 split at h0 <;> rename_i h1
 · rw [if_pos h1]; exact zbP (zhS g k true) (by omega)
 · exact absurd h0 (by decide)
theorem zkj (g : GoodM M H N) (i : Int) (h0 : (zdA M i).2 = 0) : GoodM (zdA M i).1 H (N + 1) := by
 unfold zdA at h0 ⊢
 split at h0 <;> rename_i h1
 · exact absurd h0 (by decide)
 rw [if_neg h1]
 split at h0 <;> rename_i h2
 · exact absurd h0 (by decide)
 rw [if_neg h2]
 split at h0 <;> rename_i h3
 · exact absurd h0 (by decide)
 · rw [if_neg h3]
   have hh := zcy (by simpa using h1)
   exact zbP (zc5 (zhS g _ false) i (ok_trap (g.ok _ (zd7 hh.1 hh.2.1)) _)) (by omega)
theorem ziF (g : GoodM M H N) (d n : Int) (h0 : (zdz M d n).2 = 0) : GoodM (zdz M d n).1 H (N + 1) := by
 unfold zdz at h0 ⊢
 split at h0 <;> rename_i h1
 · rw [if_pos h1]; exact zbP (zg5 g d (zg1 (zl5 (zmI g h1.1 h1.2) _))) (by omega)
 · exact absurd h0 (by decide)
theorem good_do (g : GoodM M H N) (c : Cho) (h0 : (doR M c).2 = 0) : GoodM (doR M c).1 H (N + 1) := by
 unfold doR at h0 ⊢
 split at h0 <;> rename_i h1
 · rw [if_pos h1]; exact zkl g _ h0
 rw [if_neg h1]
 split at h0 <;> rename_i h2
 · rw [if_pos h2]; exact ziH g _ _ h0
 rw [if_neg h2]
 split at h0 <;> rename_i h3
 · rw [if_pos h3]; exact ziD g _ h0
 rw [if_neg h3]
 split at h0 <;> rename_i h4
 · rw [if_pos h4]; exact zkj g _ h0
 rw [if_neg h4]
 split at h0 <;> rename_i h5
 · rw [if_pos h5]; exact ziF g _ _ h0
 · exact absurd h0 (by decide)
theorem zfv (l : List Cho) : ∀ {M : Mac} {N : Nat}, GoodM M H N → GoodM (runR M l).1 H (N + l.length) := by
 induction l with
 | nil => intro M N g; exact g
 |
  cons c l ih =>
  intro M N g
  simp only [runR, List.length_cons]
  split <;> rename_i h
  · exact zbP (ih (good_do g c h)) (by omega)
  · exact zbP (ih g) (by omega)
end
end
section
open Go.RowKit
set_option maxRecDepth 100000
def choC (c : Cho) : List Value := [.int .i64 c.k, .int .i64 c.h, .int .i64 c.w, .int .i64 c.n]
theorem run_succ (M : Mac) (l : List Cho) (k : Nat) (c : Cho) (hc : l[k]? = some c) : runR M (l.take (k + 1)) = if (doR (runR M (l.take k)).1 c).2 = 0 then ((doR (runR M (l.take k)).1 c).1, (runR M (l.take k)).2 + 1) else runR M (l.take k) := by
 obtain ⟨hk, rfl⟩ := List.getElem?_eq_some_iff.1 hc
 rw [List.take_succ_eq_append_getElem hk, zi1]
 simp only [runR]
 split
 · simp
 · simp
theorem zif (l : List Cho) : ∀ M, 0 ≤ (runR M l).2 ∧ (runR M l).2 ≤ l.length := by
 induction l with
 | nil => intro M; simp [runR]
 |
  cons c l ih =>
  intro M
  simp only [runR, List.length_cons]
  split
  · have := ih (doR M c).1; omega
  · have := ih M; omega
structure MVar (w : World) (b : Nat) (cs : Array Value) (M : Mac) : Prop where
 at_ : w.heap[b]? = some (.cells cs 37 (0, 0))
 nine : Nine cs
 mac : IsMac w (.agg cs) M
section
variable {w w' : World} {b : Nat} {cs : Array Value} {M : Mac}
theorem MVar.below (h : MVar w b cs M) (hb : Below w.heap.size w w') : MVar w' b cs M := ⟨zaf hb h.at_, h.nine, h.mac.below hb⟩
theorem zfr {old : Array Value} (hx : w.heap[b]? = some (.cells old 37 (0, 0))) (ho : Nine old) (hn : Nine cs) (hm : IsMac w (.agg cs) M) : MVar (w.setRow b cs) b cs M :=
 ⟨setRow_heap _ _ _ _ _ _ hx, hn, hm.row9 hx ho.all⟩
theorem zew (w : World) (hn : Nine cs) (hm : IsMac w (.agg cs) M) : MVar ((w.alloc (.cells nil9 37)).setRow w.heap.size cs) w.heap.size cs M :=
 zfr (zat w _) zb2 hn (hm.below (zan w _))
theorem zeq (w : World) (cs : Array Value) : Below w.heap.size w ((w.alloc (.cells nil9 37)).setRow w.heap.size cs) := below_setRow (zan w _) (Nat.le_refl _) _
end
theorem do_lit (v : Value) (M : Mac) (H N : Nat) (w : World) (k h x n : Int) (hm : IsMac w v M) (hg : GoodM M H N) (hN : N ≤ 100000) :
 Calls Tryz.prog 17 #[v, .agg #[.int .i64 k, .int .i64 h, .int .i64 x, .int .i64 n]] w (ze7 w (doR M ⟨k, h, x, n⟩)) := do_any v M H N w ⟨k, h, x, n⟩ hm hg hN
set_option maxHeartbeats 8000000 in
theorem run_mac (v sv : Value) (M : Mac) (l : List Cho) (H N : Nat) (w : World) (hm : IsMac w v M) (hs : ArgS 4 choC w sv l) (hg : GoodM M H N) (hN : N + l.length ≤ 100000) :
 Calls Tryz.prog 22 #[v, sv] w fun e w' => ∃ v', e = .returned (.tuple #[v', .int .i64 (runR M l).2]) ∧ IsMac w' v' (runR M l).1 ∧ Below w.heap.size w w' := by
 obtain ⟨xs, rfl, nx⟩ := zcF hm
 obtain ⟨sa, sc, rfl, hs1, hs2, hs3⟩ := hs
 have HS := zhd hs3
 have HM := zhd hm; have HG := zhd hg
 obtain ⟨len, hlen⟩ : ∃ n, n = l.length := ⟨_, rfl⟩
 have HL := zhd hlen
 rw [← hlen] at hN hs1 ⊢
 unfold maxLen at hs2
 obtain ⟨w1, hw1, hx1, hz1, hb1, _⟩ := zcW w (.cells xs 37) (.cells nil9 37)
 have HX1 := zhd hx1; have HZ1 := zhd hz1; have HB1 := zhd hb1
 clear hx1 hz1 hb1 hs3 hm hg hlen
 go_enter Tryz.func22, Tryz.ntmps22
 go_upto_region 2 with (fail)
 rw [← hw1]; clear hw1
 go_wp2_with (refine wpList_load_row rfl 37 _ rfl w.heap.size rfl 37 xs (0, 0) _ HX1.out Tryz.underlying37 rfl nx.info ?_)
 refine (of_mac _ M H N _ (HM.out.below HB1.out) HG.out (by omega)).mono ?_
 rintro e w2 ⟨p, wv', hv', ev', m1', m2', m3', dv', lv', tv', qs', rfl, hown, _, hb2⟩
 have hi2 := hown.isMac
 obtain ⟨ys, ey, ny⟩ := zcF hi2
 have hcs := hown.at_
 rw [ey] at hi2
 injection ey with ey
 rw [ey] at hcs
 have HCS := zhd hcs
 have HX2 := zhd (zaf hb2 HX1.out); have HZ2 := zhd (zaf hb2 HZ1.out)
 have HB2 := zhd (zae HB1.out hb2)
 obtain ⟨w3, hw3⟩ : ∃ x, x = w2.setRow w.heap.size ys := ⟨_, rfl⟩
 have V3 : Hid (MVar w3 w.heap.size ys M) := zhd (by rw [hw3]; exact zfr HX2.out nx ny hi2)
 have HZ3 : Hid (w3.heap[w.heap.size + 1]? = some (.cells nil9 37 (0, 0))) := zhd (by rw [hw3]; exact zbf (by omega) HZ2.out)
 have HB3 : Hid (Below w.heap.size w w3) := zhd (by rw [hw3]; exact below_setRow HB2.out (Nat.le_refl _) _)
 clear hown hi2 hcs ey hb2 HX1 HZ1 HB1
 go_upto_region 3 with (first | (refine wpList_load_row rfl 37 _ rfl p rfl 97 ys (0, 0) _ HCS.out Tryz.underlying37 rfl ny.info ?_) | (refine wpList_store_row rfl 37 _ _ rfl w.heap.size ys rfl rfl 37 xs HX2.out ny.info (by rw [nx.size, ny.size]) ny.one ?_))
 rw [← hw3]
 clear hw3 HCS HX2 HZ2 HB2
 go_wp2_with fail
 go_loopw [6, 18] (fun n j wr => ∃ k : Nat, ∃ zs, k ≤ len ∧ j = .int .i64 k ∧ n = .int .i64 (runR M (l.take k)).2 ∧ MVar wr w.heap.size zs (runR M (l.take k)).1 ∧ wr.heap[w.heap.size + 1]? = some (.cells nil9 37 (0, 0)) ∧ Below w.heap.size w wr) (fun _ j _ => len - (intOf j).toNat)
 case atStart => exact ⟨0, ys, Nat.zero_le _, rfl, rfl, V3.out, HZ3.out, HB3.out⟩
 case round =>
  obtain ⟨k, zs, hk, rfl, rfl, hv, hz, hb⟩ := hrel
  have V := zhd hv; have HX := zhd hv.at_; have HZ := zhd hz; have HB := zhd hb
  have nz := hv.nine
  clear hv hz hb V3 HZ3 HB3
  by_cases hlt : k < len
  · have hkl : k < l.length := by rw [← HL.out]; exact hlt
    have hne : ¬ l = [] := by rintro rfl; simp at hkl
    obtain ⟨sb, so, hsa, hsl, hsc⟩ := HS.out.resolve_left hne
    subst hsa
    have hck : l[k]? = some l[k] := List.getElem?_eq_getElem hkl
    have q0 := hsc k l[k] hck 0 _ rfl; have q1 := hsc k l[k] hck 1 _ rfl; have q2 := hsc k l[k] hck 2 _ rfl; have q3 := hsc k l[k] hck 3 _ rfl
    have RS := zhd (run_succ M l k l[k] hck)
    have GK := zhd (zfv (l.take k) HG.out)
    have RN := zif (l.take k) M
    have htk : (l.take k).length = k := by simp; omega
    rw [htk] at RN
    have hkg : N + (l.take k).length ≤ 100000 := by rw [htk]; omega
    generalize l[k] = c at *
    obtain ⟨ck, ch, cw, cn⟩ := c
    simp only [Nat.add_zero] at q0 q1 q2 q3
    have p0 : wr.cell? ⟨sb, so + k * 4, none⟩ = some (.int .i64 ck) := (HB.out.cell (p := ⟨sb, _, none⟩) hsl).trans q0
    have p1 : wr.cell? ⟨sb, so + k * 4 + 1, none⟩ = some (.int .i64 ch) := (HB.out.cell (p := ⟨sb, _, none⟩) hsl).trans q1
    have p2 : wr.cell? ⟨sb, so + k * 4 + 2, none⟩ = some (.int .i64 cw) := (HB.out.cell (p := ⟨sb, _, none⟩) hsl).trans q2
    have p3 : wr.cell? ⟨sb, so + k * 4 + 3, none⟩ = some (.int .i64 cn) := (HB.out.cell (p := ⟨sb, _, none⟩) hsl).trans q3
    clear q0 q1 q2 q3 hsc hck htk hne hkl
    generalize runR M (l.take k) = X at *
    obtain ⟨w4, hw4, hc4, hb4, _⟩ := zbY wr (.cells #[.int .i64 ck, .int .i64 ch, .int .i64 cw, .int .i64 cn] 28)
    obtain ⟨t0, t1, t2, t3⟩ := zaE hc4
    have hlc := zao hc4
    have V4 := zhd (V.out.below hb4); have HX4 := zhd V4.out.at_; have HZ4 := zhd (zaf hb4 HZ.out); have HB4 := zhd (zae HB.out hb4)
    clear hc4 hb4
    go_upto_region 6 with (fail)
    rw [← hw4]; clear hw4 p0 p1 p2 p3
    go_wp2_with (refine wpList_load_row rfl 37 _ rfl w.heap.size rfl 37 zs (0, 0) _ HX4.out Tryz.underlying37 rfl nz.info ?_)
    refine (do_lit _ X.1 H (N + (l.take k).length) _ ck ch cw cn V4.out.mac GK.out hkg).mono ?_
    rintro e w5 ⟨v', rfl, hi5, hb5⟩
    obtain ⟨us, rfl, nu⟩ := zcF hi5
    have HI5 := zhd hi5
    have V5 := zhd (V4.out.below hb5); have HZ5 := zhd (zaf hb5 HZ4.out); have HB5 := zhd (zae HB4.out hb5)
    clear hi5 hb5 t0 t1 t2 t3 hlc
    generalize doR X.1 ⟨ck, ch, cw, cn⟩ = r at *
    obtain ⟨M', er⟩ := r
    simp only at HI5 RS ⊢
    go_upto_region 7 with (refine wpList_store_row rfl 37 _ _ rfl w5.heap.size us rfl rfl 37 nil9 (zat w5 _) nu.info (by rw [zb2.size, nu.size]) nu.one ?_)
    obtain ⟨w6, hw6⟩ : ∃ x, x = (w5.alloc (.cells nil9 37)).setRow w5.heap.size us := ⟨_, rfl⟩
    have hB6 : Below w5.heap.size w5 w6 := by rw [hw6]; exact zeq w5 us
    have U6 : Hid (MVar w6 w5.heap.size us M') := zhd (by rw [hw6]; exact zew w5 nu HI5.out)
    have V6 := zhd (V5.out.below hB6); have HZ6 := zhd (zaf hB6 HZ5.out); have HB6 := zhd (zae HB5.out hB6)
    have hlx6 : w.heap.size ≠ w5.heap.size := by have := zao V5.out.at_; omega
    rw [← hw6]
    clear hw6 HI5 V5 HZ5 HB5 hB6
    by_cases h0 : er = 0
    · have hR := RS.out.trans (if_pos h0)
      have d0 : (er == 0) = true := by simp [h0]
      have hq : IntKind.i64.wrap (X.2 + 1) = X.2 + 1 := IntWalk.i64_in _ (by omega)
      have HRR := zhd hR
      have HU := zhd U6.out.at_; have HV := zhd V6.out.at_
      have V7 := zhd (zfr HV.out nz nu U6.out.mac)
      have HZ7 : Hid ((w6.setRow w.heap.size us).heap[w.heap.size + 1]? = some (.cells nil9 37 (0, 0))) := zhd (zbf (by omega) HZ6.out)
      have HB7 : Hid (Below w.heap.size w (w6.setRow w.heap.size us)) := zhd (below_setRow HB6.out (Nat.le_refl _) _)
      clear hR RS h0
      go_wp2_with (first | (refine wpList_load_row rfl 37 _ rfl w5.heap.size rfl 37 us (0, 0) _ HU.out Tryz.underlying37 rfl nu.info ?_) | (refine wpList_store_row rfl 37 _ _ rfl w.heap.size us rfl rfl 37 zs HV.out nu.info (by rw [nz.size, nu.size]) nu.one ?_))
      go_roundw
      case rel => exact ⟨k + 1, us, by omega, by go_num, by rw [HRR.out], by rw [HRR.out]; exact V7.out, HZ7.out, HB7.out⟩
      case measure => simp [intOf]; omega
    · have hR := RS.out.trans (if_neg h0)
      have d0 : (er == 0) = false := by simp [h0]
      have HRR := zhd hR
      clear hR RS h0
      go_wp2_with fail
      go_roundw
      case rel => exact ⟨k + 1, zs, by omega, by go_num, by rw [HRR.out], by rw [HRR.out]; exact V6.out, HZ6.out, HB6.out⟩
      case measure => simp [intOf]; omega
  · have hkn : k = len := by omega
    subst hkn
    have HTL : Hid (l.take k = l) := zhd (by rw [HL.out, List.take_length])
    rw [HTL.out]
    have hI := V.out.mac
    rw [HTL.out] at hI
    have V9 := zhd (zfr HZ.out zb2 nz hI)
    clear hI
    go_wp2_with (first | (refine wpList_load_row rfl 37 _ rfl w.heap.size rfl 37 zs (0, 0) _ HX.out Tryz.underlying37 rfl nz.info ?_) | (refine wpList_store_row rfl 37 _ _ rfl (w.heap.size + 1) zs rfl rfl 37 nil9 HZ.out nz.info (by rw [zb2.size, nz.size]) nz.one ?_))
    exact bodyPost_ret (v := .tuple #[.agg zs, .int .i64 (runR M l).2]) (results_cell_tmp rfl _ _ (w.heap.size + 1) _ zs _ _ rfl V9.out.at_ rfl Tryz.underlying37 rfl nz.info) rfl ⟨_, rfl, V9.out.mac, below_setRow HB.out (by omega) _⟩
end
section
open Go.RowKit
set_option maxRecDepth 100000
theorem zcD (c n r : Int) (w : World) (hc : I64 c) (hn : 0 < n ∧ n ≤ 9223372036854775807) (hr : zax c n = r) :
 Calls Tryz.prog 23 #[.int .i64 c, .int .i64 n] w fun e w' => e = .returned (.int .i64 r) ∧ w = w' := by
 subst hr
 have hn0 : (n == 0) = false := by simp; omega
 have hb := za5 c n hn.1
 by_cases h : c < 0
 · have E := zhd (zi8 c n h)
   go_enter Tryz.func23, Tryz.ntmps23
   go_wp2
   go_ret
   exact ⟨ret1 (rint E.out), rfl⟩
 · have E := zhd (zi7 c n h)
   go_enter Tryz.func23, Tryz.ntmps23
   go_wp2
   go_ret
   exact ⟨ret1 (rint E.out), rfl⟩
def zep (r : Int × Int × Int) : Cho :=
 if zax r.1 12 = 7 ∨ zax r.1 12 = 8 then ⟨2, zax r.2.1 4, zax r.2.2 3, 0⟩ else if zax r.1 12 = 9 then ⟨3, 0, zax r.2.1 3, 0⟩ else if zax r.1 12 = 10 then ⟨4, zax r.2.1 4, 0, 0⟩
 else if zax r.1 12 = 11 then ⟨5, 0, zax r.2.1 3, r.2.2⟩ else ⟨1, zax r.2.1 4, 0, 0⟩
def zcn (raw : List (Int × Int × Int)) : List Cho := (raw.take 120).map zep
theorem infoCh : (Tryz.prog.info? 28).map (fun i => (i.zero, i.size, i.bytes)) = some (some (.agg #[.int .i64 0, .int .i64 0, .int .i64 0, .int .i64 0]), 4, 32) := by kernel_rfl
theorem zd9 (c : Cho) : ∀ u ∈ choC c, u.oneCell' = true := by simp [choC, Value.oneCell']
set_option maxHeartbeats 8000000 in
theorem zjN (v : Value) (raw : List (Int × Int × Int)) (w : World) (hs : ArgS 3 c3 w v raw) (hok : ∀ r ∈ raw, ok3 r) :
 Calls Tryz.prog 16 #[v] w fun e w' => ∃ v', e = .returned v' ∧ w'.ownsRow w.heap.size 28 4 v' (zcn raw).length (zaT choC (zcn raw)) ∧ Below w.heap.size w w' := by
 obtain ⟨sa, sc, rfl, hs1, hs2, hs3⟩ := hs
 obtain ⟨len, hlen⟩ : ∃ n, n = raw.length := ⟨_, rfl⟩
 have HL := zhd hlen
 have HS := zhd hs3; have HOK := zhd hok
 rw [← hlen] at hs1 ⊢
 unfold maxLen at hs2
 obtain ⟨i0, hi, hz0, hz1, hz2⟩ := info_parts infoCh
 clear hs3 hok hlen
 go_enter Tryz.func16, Tryz.ntmps16
 go_wp2_with fail
 go_loopw [3, 4] (fun out j wr => ∃ k : Nat, k ≤ len ∧ k ≤ 120 ∧ j = .int .i64 k ∧ wr.ownsRow w.heap.size 28 4 out k (zaT choC ((raw.take k).map zep)) ∧ Below w.heap.size w wr) (fun _ j _ => len - (intOf j).toNat)
 case atStart => exact ⟨0, Nat.zero_le _, by omega, rfl, World.ownsRow_nil _ _ _ _, Below.refl _ _⟩
 case round =>
  obtain ⟨k, hk, hk2, rfl, ho, hb⟩ := hrel
  obtain ⟨oa, oc, rfl⟩ := zai ho
  have HO := zhd ho; have HB := zhd hb
  clear ho hb
  by_cases hlt : k < len ∧ k < 120
  · obtain ⟨hl1, hl2⟩ := hlt
    have hkl : k < raw.length := by rw [← HL.out]; exact hl1
    have hne : ¬ raw = [] := by rintro rfl; simp at hkl
    obtain ⟨sb, so, hsa, hsl, hsc⟩ := HS.out.resolve_left hne
    subst hsa
    have hck : raw[k]? = some raw[k] := List.getElem?_eq_getElem hkl
    have q0 := hsc k raw[k] hck 0 _ rfl; have q1 := hsc k raw[k] hck 1 _ rfl; have q2 := hsc k raw[k] hck 2 _ rfl
    have okr := HOK.out raw[k] (List.getElem_mem _)
    have HTK := zhd (List.take_succ_eq_append_getElem hkl)
    generalize raw[k] = r at *
    obtain ⟨x, y, z⟩ := r
    obtain ⟨ox, oy, oz⟩ := okr
    simp only [Nat.add_zero] at q0 q1 q2
    have p0 : wr.cell? ⟨sb, so + k * 3, none⟩ = some (.int .i64 x) := (HB.out.cell (p := ⟨sb, _, none⟩) hsl).trans q0
    have p1 : wr.cell? ⟨sb, so + k * 3 + 1, none⟩ = some (.int .i64 y) := (HB.out.cell (p := ⟨sb, _, none⟩) hsl).trans q1
    have p2 : wr.cell? ⟨sb, so + k * 3 + 2, none⟩ = some (.int .i64 z) := (HB.out.cell (p := ⟨sb, _, none⟩) hsl).trans q2
    have hsw : sb < wr.heap.size := Nat.lt_of_lt_of_le hsl HB.out.size
    clear q0 q1 q2 hsc hck hne hkl
    obtain ⟨K, hK⟩ : ∃ K, K = zax x 12 := ⟨_, rfl⟩
    have HK := zhd hK
    clear hK
    go_upto_region 7 with (go_at_call 23; refine (zcD _ _ _ _ (by assumption) (by omega) rfl).mono ?_; rintro e w' ⟨rfl, rfl⟩)
    rw [← HK.out]
    by_cases k7 : K = 7 ∨ K = 8
    · rcases k7 with k7 | k7
      · have d7 : (K == 7) = true := by simp [k7]
        go_upto_region 8 with (go_at_call 23; refine (zcD _ _ _ _ (by assumption) (by omega) rfl).mono ?_; rintro e w' ⟨rfl, rfl⟩)
        obtain ⟨w4, hw4⟩ : ∃ v, v = wr.alloc (.cells #[.int .i64 1, .int .i64 (zax y 4), .int .i64 0, .int .i64 0] 28) := ⟨_, rfl⟩
        have hx4 : w4.heap[wr.heap.size]? = some (.cells #[.int .i64 1, .int .i64 (zax y 4), .int .i64 0, .int .i64 0] 28 (0, 0)) := by rw [hw4]; exact zat wr _
        have hb4 : Below wr.heap.size wr w4 := by rw [hw4]; exact zan wr _
        rw [← hw4]
        clear hw4
        have hsw4 : sb < w4.heap.size := Nat.lt_of_lt_of_le hsw hb4.size
        have g1 := (hb4.cell (p := ⟨sb, _, none⟩) hsw).trans p1
        have g2 := (hb4.cell (p := ⟨sb, _, none⟩) hsw).trans p2
        have s1 := fun v => zal hsw4 g1 v
        have s2 := fun v => zal hsw4 g2 v
        have HX4 := zhd hx4; have HB4 : Hid (Below wr.heap.size wr w4) := zhd hb4
        clear g1 g2 p0 p1 p2 hx4 hb4
        refine zau 13 (by kernel_rfl) (by kernel_rfl) ?_
        simp only [List.take_succ_cons, List.take_zero, List.drop_succ_cons, List.drop_zero]
        repeat (go_big_quiet_step ((go_at_call 23; first | (with_reducible exact zcp (zcD y 4 _ _ oy (by omega) rfl)) | (with_reducible exact zcp (zcD z 3 _ _ oz (by omega) rfl)) | (with_reducible exact zcp (zcD y 3 _ _ oy (by omega) rfl)))))
        refine wpQuiet_nil ?_
        rintro w4b ⟨⟨w4x, hb5⟩, rfl⟩
        have hx5 := zaf hb5 HX4.out
        have hbb : Below wr.heap.size wr w4b := zae HB4.out hb5
        obtain ⟨c0, c1, c2, c3⟩ := zaE hx5
        have f0 := zaa hx5 0; have f1 := zaa hx5 1; have f2 := zaa hx5 2; have f3 := zaa hx5 3
        have hlw := zao hx5
        have HXB := zhd hx5; have HBB := zhd hbb
        clear s1 s2 hx5 hbb hb5 HX4 HB4
        go_upto_region 15 with (fail)
        clear c0 c1 c2 c3 f0 f1 f2 f3
        obtain ⟨w5, hw5⟩ : ∃ v, v = (((w4b.setCell ⟨wr.heap.size, 0, none⟩ (.int .i64 2)).setCell ⟨wr.heap.size, 1, none⟩ (.int .i64 (zax y 4))).setCell ⟨wr.heap.size, 2, none⟩ (.int .i64 (zax z 3))).setCell ⟨wr.heap.size, 3, none⟩ (.int .i64 0) := ⟨_, rfl⟩
        have hx5 : w5.heap[wr.heap.size]? = some (.cells #[.int .i64 2, .int .i64 (zax y 4), .int .i64 (zax z 3), .int .i64 0] 28 (0, 0)) := by rw [hw5]; exact zaG (zaG (zaG (zaG HXB.out 0 _) 1 _) 2 _) 3 _
        have hb5 : Below wr.heap.size wr w5 := by rw [hw5]; exact zaj (zaj (zaj (zaj HBB.out (Nat.le_refl _) _) (Nat.le_refl _) _) (Nat.le_refl _) _) (Nat.le_refl _) _
        have HCE : Hid (zep (x, y, z) = ⟨2, (zax y 4), (zax z 3), 0⟩) := zhd (by unfold zep; simp only [← HK.out]; simp [k7])
        rw [← hw5]
        clear hw5 d7
        obtain ⟨t0, t1, t2, t3⟩ := zaE hx5
        have hl5 := zao hx5
        have HO6 := zhd (zab (zab HO.out hb5) (zan w5 (.cells #[.int .i64 2, .int .i64 (zax y 4), .int .i64 (zax z 3), .int .i64 0] 28)))
        have HC : Hid (∀ j u, (choC ⟨2, (zax y 4), (zax z 3), 0⟩)[j]? = some u → (w5.alloc (.cells #[.int .i64 2, .int .i64 (zax y 4), .int .i64 (zax z 3), .int .i64 0] 28)).cell? ((⟨w5.heap.size, 0, none⟩ : Addr).add j) = some u) := zhd (fun j u hj => by
         rw [zaQ, Nat.zero_add]
         exact zad (zat w5 _) (by simpa [choC] using hj))
        have HB6 : Hid (Below w.heap.size w (w5.alloc (.cells #[.int .i64 2, .int .i64 (zax y 4), .int .i64 (zax z 3), .int .i64 0] 28))) := zhd (zae (zae HB.out hb5) (zan w5 _))
        have hsz : w.heap.size ≤ (w5.alloc (.cells #[.int .i64 2, .int .i64 (zax y 4), .int .i64 (zax z 3), .int .i64 0] 28)).heap.size := HB6.out.size
        have hmx : k + 1 ≤ maxLen := by unfold maxLen; omega
        have hby : (k + 1) * 32 ≤ 140737488355328 := by omega
        clear hx5 hb5 HXB HBB hlw
        go_wp2_with (at_builtin; refine wpList_append_own _ rfl _ _ 47 rfl w.heap.size 28 i0 (.agg #[.int .i64 0, .int .i64 0, .int .i64 0, .int .i64 0]) 4 32 Tryz.underlying47 hi hz0 hz1 hz2 rfl (by decide) _ _ _ rfl HO6.out ⟨w5.heap.size, 0, none⟩ 1 1 (choC ⟨2, (zax y 4), (zax z 3), 0⟩) rfl rfl HC.out (zd9 _) hmx hby hsz ?_; intro v' w7 hown7 hgrow7 _)
        go_roundw
        case rel => exact ⟨k + 1, by omega, by omega, by go_num, by rw [HTK.out, List.map_append, zbW]; simpa [zaT, HCE.out] using hown7, HB6.out.grown hgrow7 hsz (fun g e => (HO6.out.lt g e).1)⟩
        case measure => simp [intOf]; omega
      · have d7 : (K == 7) = false := by simp [k7]
        have d8 : (K == 8) = true := by simp [k7]
        go_upto_region 8 with (go_at_call 23; refine (zcD _ _ _ _ (by assumption) (by omega) rfl).mono ?_; rintro e w' ⟨rfl, rfl⟩)
        obtain ⟨w4, hw4⟩ : ∃ v, v = wr.alloc (.cells #[.int .i64 1, .int .i64 (zax y 4), .int .i64 0, .int .i64 0] 28) := ⟨_, rfl⟩
        have hx4 : w4.heap[wr.heap.size]? = some (.cells #[.int .i64 1, .int .i64 (zax y 4), .int .i64 0, .int .i64 0] 28 (0, 0)) := by rw [hw4]; exact zat wr _
        have hb4 : Below wr.heap.size wr w4 := by rw [hw4]; exact zan wr _
        rw [← hw4]
        clear hw4
        have hsw4 : sb < w4.heap.size := Nat.lt_of_lt_of_le hsw hb4.size
        have g1 := (hb4.cell (p := ⟨sb, _, none⟩) hsw).trans p1
        have g2 := (hb4.cell (p := ⟨sb, _, none⟩) hsw).trans p2
        have s1 := fun v => zal hsw4 g1 v
        have s2 := fun v => zal hsw4 g2 v
        have HX4 := zhd hx4; have HB4 : Hid (Below wr.heap.size wr w4) := zhd hb4
        clear g1 g2 p0 p1 p2 hx4 hb4
        refine zau 13 (by kernel_rfl) (by kernel_rfl) ?_
        simp only [List.take_succ_cons, List.take_zero, List.drop_succ_cons, List.drop_zero]
        repeat (go_big_quiet_step ((go_at_call 23; first | (with_reducible exact zcp (zcD y 4 _ _ oy (by omega) rfl)) | (with_reducible exact zcp (zcD z 3 _ _ oz (by omega) rfl)) | (with_reducible exact zcp (zcD y 3 _ _ oy (by omega) rfl)))))
        refine wpQuiet_nil ?_
        rintro w4b ⟨⟨w4x, hb5⟩, rfl⟩
        have hx5 := zaf hb5 HX4.out
        have hbb : Below wr.heap.size wr w4b := zae HB4.out hb5
        obtain ⟨c0, c1, c2, c3⟩ := zaE hx5
        have f0 := zaa hx5 0; have f1 := zaa hx5 1; have f2 := zaa hx5 2; have f3 := zaa hx5 3
        have hlw := zao hx5
        have HXB := zhd hx5; have HBB := zhd hbb
        clear s1 s2 hx5 hbb hb5 HX4 HB4
        go_upto_region 15 with (fail)
        clear c0 c1 c2 c3 f0 f1 f2 f3
        obtain ⟨w5, hw5⟩ : ∃ v, v = (((w4b.setCell ⟨wr.heap.size, 0, none⟩ (.int .i64 2)).setCell ⟨wr.heap.size, 1, none⟩ (.int .i64 (zax y 4))).setCell ⟨wr.heap.size, 2, none⟩ (.int .i64 (zax z 3))).setCell ⟨wr.heap.size, 3, none⟩ (.int .i64 0) := ⟨_, rfl⟩
        have hx5 : w5.heap[wr.heap.size]? = some (.cells #[.int .i64 2, .int .i64 (zax y 4), .int .i64 (zax z 3), .int .i64 0] 28 (0, 0)) := by rw [hw5]; exact zaG (zaG (zaG (zaG HXB.out 0 _) 1 _) 2 _) 3 _
        have hb5 : Below wr.heap.size wr w5 := by rw [hw5]; exact zaj (zaj (zaj (zaj HBB.out (Nat.le_refl _) _) (Nat.le_refl _) _) (Nat.le_refl _) _) (Nat.le_refl _) _
        have HCE : Hid (zep (x, y, z) = ⟨2, (zax y 4), (zax z 3), 0⟩) := zhd (by unfold zep; simp only [← HK.out]; simp [k7])
        rw [← hw5]
        clear hw5 d7 d8
        obtain ⟨t0, t1, t2, t3⟩ := zaE hx5
        have hl5 := zao hx5
        have HO6 := zhd (zab (zab HO.out hb5) (zan w5 (.cells #[.int .i64 2, .int .i64 (zax y 4), .int .i64 (zax z 3), .int .i64 0] 28)))
        have HC : Hid (∀ j u, (choC ⟨2, (zax y 4), (zax z 3), 0⟩)[j]? = some u → (w5.alloc (.cells #[.int .i64 2, .int .i64 (zax y 4), .int .i64 (zax z 3), .int .i64 0] 28)).cell? ((⟨w5.heap.size, 0, none⟩ : Addr).add j) = some u) := zhd (fun j u hj => by
         rw [zaQ, Nat.zero_add]
         exact zad (zat w5 _) (by simpa [choC] using hj))
        have HB6 : Hid (Below w.heap.size w (w5.alloc (.cells #[.int .i64 2, .int .i64 (zax y 4), .int .i64 (zax z 3), .int .i64 0] 28))) := zhd (zae (zae HB.out hb5) (zan w5 _))
        have hsz : w.heap.size ≤ (w5.alloc (.cells #[.int .i64 2, .int .i64 (zax y 4), .int .i64 (zax z 3), .int .i64 0] 28)).heap.size := HB6.out.size
        have hmx : k + 1 ≤ maxLen := by unfold maxLen; omega
        have hby : (k + 1) * 32 ≤ 140737488355328 := by omega
        clear hx5 hb5 HXB HBB hlw
        go_wp2_with (at_builtin; refine wpList_append_own _ rfl _ _ 47 rfl w.heap.size 28 i0 (.agg #[.int .i64 0, .int .i64 0, .int .i64 0, .int .i64 0]) 4 32 Tryz.underlying47 hi hz0 hz1 hz2 rfl (by decide) _ _ _ rfl HO6.out ⟨w5.heap.size, 0, none⟩ 1 1 (choC ⟨2, (zax y 4), (zax z 3), 0⟩) rfl rfl HC.out (zd9 _) hmx hby hsz ?_; intro v' w7 hown7 hgrow7 _)
        go_roundw
        case rel => exact ⟨k + 1, by omega, by omega, by go_num, by rw [HTK.out, List.map_append, zbW]; simpa [zaT, HCE.out] using hown7, HB6.out.grown hgrow7 hsz (fun g e => (HO6.out.lt g e).1)⟩
        case measure => simp [intOf]; omega
    have n7 : (K == 7) = false := by simp; omega
    have n8 : (K == 8) = false := by simp; omega
    by_cases k9 : K = 9
    · have d9 : (K == 9) = true := by simp [k9]
      go_upto_region 15 with (go_at_call 23; refine (zcD _ _ _ _ (by assumption) (by omega) rfl).mono ?_; rintro e w' ⟨rfl, rfl⟩)
      obtain ⟨w5, hw5⟩ : ∃ v, v = wr.alloc (.cells #[.int .i64 3, .int .i64 0, .int .i64 (zax y 3), .int .i64 0] 28) := ⟨_, rfl⟩
      have hx5 : w5.heap[wr.heap.size]? = some (.cells #[.int .i64 3, .int .i64 0, .int .i64 (zax y 3), .int .i64 0] 28 (0, 0)) := by rw [hw5]; exact zat wr _
      have hb5 : Below wr.heap.size wr w5 := by rw [hw5]; exact zan wr _
      have HCE : Hid (zep (x, y, z) = ⟨3, 0, (zax y 3), 0⟩) := zhd (by unfold zep; simp only [← HK.out]; simp [k9])
      rw [← hw5]
      clear hw5 n7 n8 d9 k7
      obtain ⟨t0, t1, t2, t3⟩ := zaE hx5
      have hl5 := zao hx5
      have HO6 := zhd (zab (zab HO.out hb5) (zan w5 (.cells #[.int .i64 3, .int .i64 0, .int .i64 (zax y 3), .int .i64 0] 28)))
      have HC : Hid (∀ j u, (choC ⟨3, 0, (zax y 3), 0⟩)[j]? = some u → (w5.alloc (.cells #[.int .i64 3, .int .i64 0, .int .i64 (zax y 3), .int .i64 0] 28)).cell? ((⟨w5.heap.size, 0, none⟩ : Addr).add j) = some u) := zhd (fun j u hj => by
       rw [zaQ, Nat.zero_add]
       exact zad (zat w5 _) (by simpa [choC] using hj))
      have HB6 : Hid (Below w.heap.size w (w5.alloc (.cells #[.int .i64 3, .int .i64 0, .int .i64 (zax y 3), .int .i64 0] 28))) := zhd (zae (zae HB.out hb5) (zan w5 _))
      have hsz : w.heap.size ≤ (w5.alloc (.cells #[.int .i64 3, .int .i64 0, .int .i64 (zax y 3), .int .i64 0] 28)).heap.size := HB6.out.size
      have hmx : k + 1 ≤ maxLen := by unfold maxLen; omega
      have hby : (k + 1) * 32 ≤ 140737488355328 := by omega
      clear hx5 hb5 p0 p1 p2
      go_wp2_with (at_builtin; refine wpList_append_own _ rfl _ _ 47 rfl w.heap.size 28 i0 (.agg #[.int .i64 0, .int .i64 0, .int .i64 0, .int .i64 0]) 4 32 Tryz.underlying47 hi hz0 hz1 hz2 rfl (by decide) _ _ _ rfl HO6.out ⟨w5.heap.size, 0, none⟩ 1 1 (choC ⟨3, 0, (zax y 3), 0⟩) rfl rfl HC.out (zd9 _) hmx hby hsz ?_; intro v' w7 hown7 hgrow7 _)
      go_roundw
      case rel => exact ⟨k + 1, by omega, by omega, by go_num, by rw [HTK.out, List.map_append, zbW]; simpa [zaT, HCE.out] using hown7, HB6.out.grown hgrow7 hsz (fun g e => (HO6.out.lt g e).1)⟩
      case measure => simp [intOf]; omega
    have n9 : (K == 9) = false := by simp; omega
    by_cases k10 : K = 10
    · have d10 : (K == 10) = true := by simp [k10]
      go_upto_region 15 with (go_at_call 23; refine (zcD _ _ _ _ (by assumption) (by omega) rfl).mono ?_; rintro e w' ⟨rfl, rfl⟩)
      obtain ⟨w5, hw5⟩ : ∃ v, v = wr.alloc (.cells #[.int .i64 4, .int .i64 (zax y 4), .int .i64 0, .int .i64 0] 28) := ⟨_, rfl⟩
      have hx5 : w5.heap[wr.heap.size]? = some (.cells #[.int .i64 4, .int .i64 (zax y 4), .int .i64 0, .int .i64 0] 28 (0, 0)) := by rw [hw5]; exact zat wr _
      have hb5 : Below wr.heap.size wr w5 := by rw [hw5]; exact zan wr _
      have HCE : Hid (zep (x, y, z) = ⟨4, (zax y 4), 0, 0⟩) := zhd (by unfold zep; simp only [← HK.out]; simp [k10])
      rw [← hw5]
      clear hw5 n7 n8 n9 d10 k7 k9
      obtain ⟨t0, t1, t2, t3⟩ := zaE hx5
      have hl5 := zao hx5
      have HO6 := zhd (zab (zab HO.out hb5) (zan w5 (.cells #[.int .i64 4, .int .i64 (zax y 4), .int .i64 0, .int .i64 0] 28)))
      have HC : Hid (∀ j u, (choC ⟨4, (zax y 4), 0, 0⟩)[j]? = some u → (w5.alloc (.cells #[.int .i64 4, .int .i64 (zax y 4), .int .i64 0, .int .i64 0] 28)).cell? ((⟨w5.heap.size, 0, none⟩ : Addr).add j) = some u) := zhd (fun j u hj => by
       rw [zaQ, Nat.zero_add]
       exact zad (zat w5 _) (by simpa [choC] using hj))
      have HB6 : Hid (Below w.heap.size w (w5.alloc (.cells #[.int .i64 4, .int .i64 (zax y 4), .int .i64 0, .int .i64 0] 28))) := zhd (zae (zae HB.out hb5) (zan w5 _))
      have hsz : w.heap.size ≤ (w5.alloc (.cells #[.int .i64 4, .int .i64 (zax y 4), .int .i64 0, .int .i64 0] 28)).heap.size := HB6.out.size
      have hmx : k + 1 ≤ maxLen := by unfold maxLen; omega
      have hby : (k + 1) * 32 ≤ 140737488355328 := by omega
      clear hx5 hb5 p0 p1 p2
      go_wp2_with (at_builtin; refine wpList_append_own _ rfl _ _ 47 rfl w.heap.size 28 i0 (.agg #[.int .i64 0, .int .i64 0, .int .i64 0, .int .i64 0]) 4 32 Tryz.underlying47 hi hz0 hz1 hz2 rfl (by decide) _ _ _ rfl HO6.out ⟨w5.heap.size, 0, none⟩ 1 1 (choC ⟨4, (zax y 4), 0, 0⟩) rfl rfl HC.out (zd9 _) hmx hby hsz ?_; intro v' w7 hown7 hgrow7 _)
      go_roundw
      case rel => exact ⟨k + 1, by omega, by omega, by go_num, by rw [HTK.out, List.map_append, zbW]; simpa [zaT, HCE.out] using hown7, HB6.out.grown hgrow7 hsz (fun g e => (HO6.out.lt g e).1)⟩
      case measure => simp [intOf]; omega
    have n10 : (K == 10) = false := by simp; omega
    by_cases k11 : K = 11
    · have d11 : (K == 11) = true := by simp [k11]
      go_upto_region 14 with (go_at_call 23; refine (zcD _ _ _ _ (by assumption) (by omega) rfl).mono ?_; rintro e w' ⟨rfl, rfl⟩)
      obtain ⟨w4, hw4⟩ : ∃ v, v = wr.alloc (.cells #[.int .i64 1, .int .i64 (zax y 4), .int .i64 0, .int .i64 0] 28) := ⟨_, rfl⟩
      have hx4 : w4.heap[wr.heap.size]? = some (.cells #[.int .i64 1, .int .i64 (zax y 4), .int .i64 0, .int .i64 0] 28 (0, 0)) := by rw [hw4]; exact zat wr _
      have hb4 : Below wr.heap.size wr w4 := by rw [hw4]; exact zan wr _
      rw [← hw4]
      clear hw4
      have hsw4 : sb < w4.heap.size := Nat.lt_of_lt_of_le hsw hb4.size
      have g1 := (hb4.cell (p := ⟨sb, _, none⟩) hsw).trans p1
      have g2 := (hb4.cell (p := ⟨sb, _, none⟩) hsw).trans p2
      have s1 := fun v => zal hsw4 g1 v
      have s2 := fun v => zal hsw4 g2 v
      have HX4 := zhd hx4; have HB4 : Hid (Below wr.heap.size wr w4) := zhd hb4
      clear g1 g2 p0 p1 p2 hx4 hb4
      refine zau 12 (by kernel_rfl) (by kernel_rfl) ?_
      simp only [List.take_succ_cons, List.take_zero, List.drop_succ_cons, List.drop_zero]
      repeat (go_big_quiet_step ((go_at_call 23; first | (with_reducible exact zcp (zcD y 4 _ _ oy (by omega) rfl)) | (with_reducible exact zcp (zcD z 3 _ _ oz (by omega) rfl)) | (with_reducible exact zcp (zcD y 3 _ _ oy (by omega) rfl)))))
      refine wpQuiet_nil ?_
      rintro w4b ⟨⟨w4x, hb5⟩, rfl⟩
      have hx5 := zaf hb5 HX4.out
      have hbb : Below wr.heap.size wr w4b := zae HB4.out hb5
      obtain ⟨c0, c1, c2, c3⟩ := zaE hx5
      have f0 := zaa hx5 0; have f1 := zaa hx5 1; have f2 := zaa hx5 2; have f3 := zaa hx5 3
      have hlw := zao hx5
      have HXB := zhd hx5; have HBB := zhd hbb
      clear s1 s2 hx5 hbb hb5 HX4 HB4
      go_upto_region 15 with (fail)
      clear c0 c1 c2 c3 f0 f1 f2 f3
      obtain ⟨w5, hw5⟩ : ∃ v, v = (((w4b.setCell ⟨wr.heap.size, 0, none⟩ (.int .i64 5)).setCell ⟨wr.heap.size, 1, none⟩ (.int .i64 0)).setCell ⟨wr.heap.size, 2, none⟩ (.int .i64 (zax y 3))).setCell ⟨wr.heap.size, 3, none⟩ (.int .i64 z) := ⟨_, rfl⟩
      have hx5 : w5.heap[wr.heap.size]? = some (.cells #[.int .i64 5, .int .i64 0, .int .i64 (zax y 3), .int .i64 z] 28 (0, 0)) := by rw [hw5]; exact zaG (zaG (zaG (zaG HXB.out 0 _) 1 _) 2 _) 3 _
      have hb5 : Below wr.heap.size wr w5 := by rw [hw5]; exact zaj (zaj (zaj (zaj HBB.out (Nat.le_refl _) _) (Nat.le_refl _) _) (Nat.le_refl _) _) (Nat.le_refl _) _
      have HCE : Hid (zep (x, y, z) = ⟨5, 0, (zax y 3), z⟩) := zhd (by unfold zep; simp only [← HK.out]; simp [k11])
      rw [← hw5]
      clear hw5 n7 n8 n9 n10 d11 k7 k9 k10
      obtain ⟨t0, t1, t2, t3⟩ := zaE hx5
      have hl5 := zao hx5
      have HO6 := zhd (zab (zab HO.out hb5) (zan w5 (.cells #[.int .i64 5, .int .i64 0, .int .i64 (zax y 3), .int .i64 z] 28)))
      have HC : Hid (∀ j u, (choC ⟨5, 0, (zax y 3), z⟩)[j]? = some u → (w5.alloc (.cells #[.int .i64 5, .int .i64 0, .int .i64 (zax y 3), .int .i64 z] 28)).cell? ((⟨w5.heap.size, 0, none⟩ : Addr).add j) = some u) := zhd (fun j u hj => by
       rw [zaQ, Nat.zero_add]
       exact zad (zat w5 _) (by simpa [choC] using hj))
      have HB6 : Hid (Below w.heap.size w (w5.alloc (.cells #[.int .i64 5, .int .i64 0, .int .i64 (zax y 3), .int .i64 z] 28))) := zhd (zae (zae HB.out hb5) (zan w5 _))
      have hsz : w.heap.size ≤ (w5.alloc (.cells #[.int .i64 5, .int .i64 0, .int .i64 (zax y 3), .int .i64 z] 28)).heap.size := HB6.out.size
      have hmx : k + 1 ≤ maxLen := by unfold maxLen; omega
      have hby : (k + 1) * 32 ≤ 140737488355328 := by omega
      clear hx5 hb5 HXB HBB hlw
      go_wp2_with (at_builtin; refine wpList_append_own _ rfl _ _ 47 rfl w.heap.size 28 i0 (.agg #[.int .i64 0, .int .i64 0, .int .i64 0, .int .i64 0]) 4 32 Tryz.underlying47 hi hz0 hz1 hz2 rfl (by decide) _ _ _ rfl HO6.out ⟨w5.heap.size, 0, none⟩ 1 1 (choC ⟨5, 0, (zax y 3), z⟩) rfl rfl HC.out (zd9 _) hmx hby hsz ?_; intro v' w7 hown7 hgrow7 _)
      go_roundw
      case rel => exact ⟨k + 1, by omega, by omega, by go_num, by rw [HTK.out, List.map_append, zbW]; simpa [zaT, HCE.out] using hown7, HB6.out.grown hgrow7 hsz (fun g e => (HO6.out.lt g e).1)⟩
      case measure => simp [intOf]; omega
    have n11 : (K == 11) = false := by simp; omega
    go_upto_region 15 with (go_at_call 23; refine (zcD _ _ _ _ (by assumption) (by omega) rfl).mono ?_; rintro e w' ⟨rfl, rfl⟩)
    obtain ⟨w5, hw5⟩ : ∃ v, v = wr.alloc (.cells #[.int .i64 1, .int .i64 (zax y 4), .int .i64 0, .int .i64 0] 28) := ⟨_, rfl⟩
    have hx5 : w5.heap[wr.heap.size]? = some (.cells #[.int .i64 1, .int .i64 (zax y 4), .int .i64 0, .int .i64 0] 28 (0, 0)) := by rw [hw5]; exact zat wr _
    have hb5 : Below wr.heap.size wr w5 := by rw [hw5]; exact zan wr _
    have HCE : Hid (zep (x, y, z) = ⟨1, (zax y 4), 0, 0⟩) := zhd (by unfold zep; simp only [← HK.out]; simp [show ¬ (K = 7 ∨ K = 8) from k7, k9, k10, k11])
    rw [← hw5]
    clear hw5 n7 n8 n9 n10 n11
    obtain ⟨t0, t1, t2, t3⟩ := zaE hx5
    have hl5 := zao hx5
    have HO6 := zhd (zab (zab HO.out hb5) (zan w5 (.cells #[.int .i64 1, .int .i64 (zax y 4), .int .i64 0, .int .i64 0] 28)))
    have HC : Hid (∀ j u, (choC ⟨1, (zax y 4), 0, 0⟩)[j]? = some u → (w5.alloc (.cells #[.int .i64 1, .int .i64 (zax y 4), .int .i64 0, .int .i64 0] 28)).cell? ((⟨w5.heap.size, 0, none⟩ : Addr).add j) = some u) := zhd (fun j u hj => by
     rw [zaQ, Nat.zero_add]
     exact zad (zat w5 _) (by simpa [choC] using hj))
    have HB6 : Hid (Below w.heap.size w (w5.alloc (.cells #[.int .i64 1, .int .i64 (zax y 4), .int .i64 0, .int .i64 0] 28))) := zhd (zae (zae HB.out hb5) (zan w5 _))
    have hsz : w.heap.size ≤ (w5.alloc (.cells #[.int .i64 1, .int .i64 (zax y 4), .int .i64 0, .int .i64 0] 28)).heap.size := HB6.out.size
    have hmx : k + 1 ≤ maxLen := by unfold maxLen; omega
    have hby : (k + 1) * 32 ≤ 140737488355328 := by omega
    clear hx5 hb5 p0 p1 p2
    go_wp2_with (at_builtin; refine wpList_append_own _ rfl _ _ 47 rfl w.heap.size 28 i0 (.agg #[.int .i64 0, .int .i64 0, .int .i64 0, .int .i64 0]) 4 32 Tryz.underlying47 hi hz0 hz1 hz2 rfl (by decide) _ _ _ rfl HO6.out ⟨w5.heap.size, 0, none⟩ 1 1 (choC ⟨1, (zax y 4), 0, 0⟩) rfl rfl HC.out (zd9 _) hmx hby hsz ?_; intro v' w7 hown7 hgrow7 _)
    go_roundw
    case rel => exact ⟨k + 1, by omega, by omega, by go_num, by rw [HTK.out, List.map_append, zbW]; simpa [zaT, HCE.out] using hown7, HB6.out.grown hgrow7 hsz (fun g e => (HO6.out.lt g e).1)⟩
    case measure => simp [intOf]; omega
  · have hst : k = (zcn raw).length ∧ (raw.take k).map zep = zcn raw := by
     have hl := HL.out
     unfold zcn
     by_cases h1 : len ≤ 120
     · have : k = len := by omega
       rw [List.take_of_length_le (by omega), List.take_of_length_le (by omega)]
       exact ⟨by simp; omega, rfl⟩
     · have : k = 120 := by omega
       subst this
       exact ⟨by simp; omega, rfl⟩
    have HT := zhd hst; clear hst
    by_cases h1 : k < len
    · have h2 : k = 120 := by omega
      subst h2
      go_wp2_with fail
      go_ret
      exact ⟨_, rfl, by rw [← HT.out.1, ← HT.out.2]; exact HO.out, HB.out⟩
    · go_wp2_with fail
      go_ret
      exact ⟨_, rfl, by rw [← HT.out.1, ← HT.out.2]; exact HO.out, HB.out⟩
end
end Go.Proofs.YtdobddiibgfeaaaGreat
