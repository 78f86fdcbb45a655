/-
  What the walks of this statement lean on (HartDef, HartPut, HartOps, HartMakes, HartLeads, HartTrap, HartCtl, HartCtls): shown.
-/
import Derived.Test.YtdobddiibgfeaaaGreatZa
import Derived.Laws.Rows
import Derived.Laws.Tables
import Derived.Laws.CopyOwn
import Derived.Test.YtdobddiibgfeaaaGreatZb
import Derived.WalkSpells
import Derived.WalkLawsBesides
import Derived.Outline
import Derived.Deep.DeepCutAuto
import Derived.Test.YtdobddiibgfeaaaGreatZf
import Derived.Test.YtdobddiibgfeaaaGreatZc
import Derived.RegionTactic
import Derived.Deep.RegionWith
set_option linter.unusedVariables false
set_option linter.unusedSimpArgs false
namespace Go.Proofs.YtdobddiibgfeaaaGreat
section
open Go.RowKit
structure Ht where
 r : List Int
 pc : Int
 st : Int
 ve : Int
 sc : Int
 ep : Int
 ca : Int
 le : Int
def hL (h : Ht) : List Int := h.r ++ [h.pc, h.st, h.ve, h.sc, h.ep, h.ca, h.le]
def hA (h : Ht) : Array Value := ((hL h).map (Value.int .i64)).toArray
theorem zaw (h : Ht) (h32 : h.r.length = 32) : (hA h).size = 39 := by simp [hA, hL, h32]
theorem zbj (h : Ht) : (hA h).all (·.oneCell') = true := by
 simp only [hA, List.all_toArray, List.all_eq_true]
 intro v hv
 obtain ⟨a, _, rfl⟩ := List.mem_map.1 hv
 rfl
theorem zmi (h : Ht) (j : Nat) : (hA h)[j]? = ((hL h)[j]?).map (Value.int .i64) := by simp [hA]
theorem hA_r (h : Ht) (h32 : h.r.length = 32) (k : Nat) (hk : k < 32) : (hA h)[k]? = some (.int .i64 (h.r.getD k 0)) := by
 rw [zmi, hL, List.getElem?_append_left (by omega), List.getD_eq_getElem?_getD, List.getElem?_eq_getElem (by omega)]; rfl
theorem ziB (h : Ht) (h32 : h.r.length = 32) (k : Nat) : (hA h)[32 + k]? = ([h.pc, h.st, h.ve, h.sc, h.ep, h.ca, h.le][k]?).map (Value.int .i64) := by
 rw [zmi, hL, List.getElem?_append_right (by omega), h32, Nat.add_sub_cancel_left]
theorem zbr (h : Ht) (h32 : h.r.length = 32) : (hA h)[32]? = some (.int .i64 h.pc) ∧ (hA h)[33]? = some (.int .i64 h.st) ∧ (hA h)[34]? = some (.int .i64 h.ve) ∧ (hA h)[35]? = some (.int .i64 h.sc) ∧
 (hA h)[36]? = some (.int .i64 h.ep) ∧ (hA h)[37]? = some (.int .i64 h.ca) ∧ (hA h)[38]? = some (.int .i64 h.le) :=
 ⟨ziB h h32 0, ziB h h32 1, ziB h h32 2, ziB h h32 3, ziB h h32 4, ziB h h32 5, ziB h h32 6⟩
theorem hA_set_r (h : Ht) (h32 : h.r.length = 32) (k : Nat) (hk : k < 32) (v : Int) : (hA h).setIfInBounds k (.int .i64 v) = hA { h with r := h.r.set k v } := by
 simp only [hA, hL, List.setIfInBounds_toArray, List.map_append, List.map_set]
 rw [List.set_append_left _ _ (by simpa using by omega)]
theorem zc4 (h : Ht) (h32 : h.r.length = 32) (k : Nat) (v : Int) : (hA h).setIfInBounds (32 + k) (.int .i64 v) = ((h.r ++ [h.pc, h.st, h.ve, h.sc, h.ep, h.ca, h.le].set k v).map (Value.int .i64)).toArray := by
 simp only [hA, hL, List.setIfInBounds_toArray, List.map_append]
 rw [List.set_append_right _ _ (by simpa using by omega), List.length_map, h32, Nat.add_sub_cancel_left, List.map_set]
theorem zhN (h : Ht) (h32 : h.r.length = 32) (v : Int) : (hA h).setIfInBounds 32 (.int .i64 v) = hA { h with pc := v } := zc4 h h32 0 v
theorem hA_st (h : Ht) (h32 : h.r.length = 32) (v : Int) : (hA h).setIfInBounds 33 (.int .i64 v) = hA { h with st := v } := zc4 h h32 1 v
theorem hA_ve (h : Ht) (h32 : h.r.length = 32) (v : Int) : (hA h).setIfInBounds 34 (.int .i64 v) = hA { h with ve := v } := zc4 h h32 2 v
theorem hA_sc (h : Ht) (h32 : h.r.length = 32) (v : Int) : (hA h).setIfInBounds 35 (.int .i64 v) = hA { h with sc := v } := zc4 h h32 3 v
theorem hA_ep (h : Ht) (h32 : h.r.length = 32) (v : Int) : (hA h).setIfInBounds 36 (.int .i64 v) = hA { h with ep := v } := zc4 h h32 4 v
theorem hA_ca (h : Ht) (h32 : h.r.length = 32) (v : Int) : (hA h).setIfInBounds 37 (.int .i64 v) = hA { h with ca := v } := zc4 h h32 5 v
theorem hA_le (h : Ht) (h32 : h.r.length = 32) (v : Int) : (hA h).setIfInBounds 38 (.int .i64 v) = hA { h with le := v } := zc4 h h32 6 v
def zA : Array Value := #[.int .i64 0, .int .i64 0, .int .i64 0, .int .i64 0, .int .i64 0, .int .i64 0, .int .i64 0, .int .i64 0, .int .i64 0, .int .i64 0, .int .i64 0, .int .i64 0, .int .i64 0, .int .i64 0, .int .i64 0, .int .i64 0, .int .i64 0, .int .i64 0, .int .i64 0, .int .i64 0, .int .i64 0, .int .i64 0, .int .i64 0, .int .i64 0, .int .i64 0, .int .i64 0, .int .i64 0, .int .i64 0, .int .i64 0, .int .i64 0, .int .i64 0, .int .i64 0, .int .i64 0, .int .i64 0, .int .i64 0, .int .i64 0, .int .i64 0, .int .i64 0, .int .i64 0]
theorem zcW (w : World) (o1 o2 : Obj) : ∃ w0 : World, w0 = (w.alloc o1).alloc o2 ∧ w0.heap[w.heap.size]? = some o1 ∧ w0.heap[w.heap.size + 1]? = some o2 ∧ Below w.heap.size w w0 ∧ w.heap.size + 2 ≤ w0.heap.size :=
 ⟨_, rfl, heap_alloc2_old w o1 o2, heap_alloc2_new w o1 o2, ((Below.refl _ _).alloc (Nat.le_refl _) _).alloc (by simp) _, by simp⟩
theorem zbY (w : World) (o1 : Obj) : ∃ w0 : World, w0 = w.alloc o1 ∧ w0.heap[w.heap.size]? = some o1 ∧ Below w.heap.size w w0 ∧ w.heap.size + 1 ≤ w0.heap.size :=
 ⟨_, rfl, heap_alloc_new w o1, (Below.refl _ _).alloc (Nat.le_refl _) _, by simp⟩
theorem zbS {w : World} {b : Nat} {cs : Array Value} {t : TypeId} (h : w.heap[b]? = some (.cells cs t (0, 0))) (j : Nat) (u : Value) (cs' : Array Value) (e : cs.setIfInBounds j u = cs') : (w.setCell ⟨b, j, none⟩ u).heap[b]? = some (.cells cs' t (0, 0)) := by
 rw [← e]; exact zaG h j u
theorem zbf {w : World} {b g : Nat} {cs : Array Value} {x : Option Obj} (h : g ≠ b) (hx : w.heap[g]? = x) : (w.setRow b cs).heap[g]? = x := (setRow_other w b g cs h).trans hx
end
section
open Go.RowKit
def putH (h : Ht) (d n : Int) : Ht := if 0 < d ∧ d < 32 then { h with r := h.r.set d.toNat (wrap32 n) } else h
theorem zcq {h : Ht} (h32 : h.r.length = 32) (d n : Int) : (putH h d n).r.length = 32 := by
 unfold putH; split
 · simpa using h32
 · exact h32
theorem infoH : (Tryz.prog.info? 56).map (·.size) = some 39 := by kernel_rfl
theorem zaU {A : Array Value} (h : A.size = 39) : (Tryz.prog.info? 56).map (·.size) = some A.size := by rw [h]; exact infoH
set_option maxHeartbeats 1000000 in
theorem zcZ (h : Ht) (d n : Int) (w : World) (h32 : h.r.length = 32) :
 Calls Tryz.prog 113 #[.agg (hA h), .int .i64 d, .int .i64 n] w fun e w' => e = .returned (.agg (hA (putH h d n))) ∧ Below w.heap.size w w' := by
 have hs := zhd (zaw h h32)
 have ho := zhd (zbj h)
 have HR := zhd (fun k hk => hA_r h h32 k hk)
 have HSR := zhd (fun k hk v => hA_set_r h h32 k hk v)
 by_cases hd : 0 < d ∧ d < 32
 · obtain ⟨k, rfl, hk1, hk2⟩ : ∃ k : Nat, d = k ∧ 0 < k ∧ k < 32 := ⟨d.toNat, by omega, by omega, by omega⟩
   have HE := zhd (show putH h k n = { h with r := h.r.set k (wrap32 n) } by unfold putH; rw [if_pos hd]; rfl)
   have hs' := zhd (zaw (putH h k n) (zcq h32 k n))
   have ho' := zhd (zbj (putH h k n))
   obtain ⟨w0, hw0, hx, hz, hb0, hs0⟩ := zcW w (.cells (hA h) 56) (.cells zA 56)
   have HXS := zhd (zbS hx k (.int .i64 (wrap32 n)) (hA (putH h k n)) (by rw [HE.out]; exact HSR.out k hk2 _))
   have HZS := zhd (zay (b := w.heap.size) (o := k) (u := .int .i64 (wrap32 n)) (by omega : w.heap.size + 1 ≠ w.heap.size) hz)
   have c0 := zad hx (HR.out k hk2)
   have f0 := zaa hx k
   have HW := zhd hw0
   clear HR hx hz hw0 HSR hd
   generalize hA (putH h k n) = B at *
   generalize hA h = A at *
   go_enter Tryz.func113, Tryz.ntmps113
   go_upto_region 1 with (fail)
   change Code.wp _ _ _ _ ((w.alloc (.cells A 56)).alloc (.cells zA 56))
   rw [← HW.out]
   go_wp2_with (first | (go_at_call 124; refine (zaX _ _).mono ?_; rintro e w' ⟨rfl, rfl⟩) | (refine wpList_load_row rfl 56 _ rfl (w.heap.size) rfl 56 B (0, 0) _ HXS.out Tryz.underlying56 rfl (zaU hs'.out) ?_) | (refine wpList_store_row rfl 56 _ _ rfl (w.heap.size + 1) B rfl rfl 56 zA HZS.out (zaU hs'.out) (by rw [hs'.out]; rfl) ho'.out ?_))
   refine bodyPost_ret (v := .agg B) (results_cell_row rfl _ _ (w.heap.size + 1) 56 B (0, 0) _ rfl (setRow_heap _ _ _ _ _ _ HZS.out) Tryz.underlying56 rfl (zaU hs'.out)) rfl ⟨rfl, below_setRow (by repeat (first | (with_reducible first | exact Below.refl _ _ | refine zaj ?_ ?_ _ | apply zag | refine zae ?_ (by assumption) | apply zak) | omega)) (by omega) _⟩
 · have HE := zhd (show putH h d n = h by unfold putH; rw [if_neg hd])
   obtain ⟨w0, hw0, hx, hz, hb0, hs0⟩ := zcW w (.cells (hA h) 56) (.cells zA 56)
   have HX := zhd hx; have HZ := zhd hz
   have HW := zhd hw0
   clear HR hx hz hw0 HSR
   rw [HE.out]
   generalize hA h = A at *
   by_cases hd1 : 0 < d
   · have hd2 : ¬ d < 32 := fun x => hd ⟨hd1, x⟩
     clear hd
     go_enter Tryz.func113, Tryz.ntmps113
     go_upto_region 1 with (fail)
     change Code.wp _ _ _ _ ((w.alloc (.cells A 56)).alloc (.cells zA 56))
     rw [← HW.out]
     go_wp2_with (first | (refine wpList_load_row rfl 56 _ rfl (w.heap.size) rfl 56 A (0, 0) _ HX.out Tryz.underlying56 rfl (zaU hs.out) ?_) | (refine wpList_store_row rfl 56 _ _ rfl (w.heap.size + 1) A rfl rfl 56 zA HZ.out (zaU hs.out) (by rw [hs.out]; rfl) ho.out ?_))
     refine bodyPost_ret (v := .agg A) (results_cell_row rfl _ _ (w.heap.size + 1) 56 A (0, 0) _ rfl (setRow_heap _ _ _ _ _ _ HZ.out) Tryz.underlying56 rfl (zaU hs.out)) rfl ⟨rfl, below_setRow (by repeat (first | (with_reducible first | exact Below.refl _ _ | refine zaj ?_ ?_ _ | apply zag | refine zae ?_ (by assumption) | apply zak) | omega)) (by omega) _⟩
   · clear hd
     go_enter Tryz.func113, Tryz.ntmps113
     go_upto_region 1 with (fail)
     change Code.wp _ _ _ _ ((w.alloc (.cells A 56)).alloc (.cells zA 56))
     rw [← HW.out]
     go_wp2_with (first | (refine wpList_load_row rfl 56 _ rfl (w.heap.size) rfl 56 A (0, 0) _ HX.out Tryz.underlying56 rfl (zaU hs.out) ?_) | (refine wpList_store_row rfl 56 _ _ rfl (w.heap.size + 1) A rfl rfl 56 zA HZ.out (zaU hs.out) (by rw [hs.out]; rfl) ho.out ?_))
     refine bodyPost_ret (v := .agg A) (results_cell_row rfl _ _ (w.heap.size + 1) 56 A (0, 0) _ rfl (setRow_heap _ _ _ _ _ _ HZ.out) Tryz.underlying56 rfl (zaU hs.out)) rfl ⟨rfl, below_setRow (by repeat (first | (with_reducible first | exact Below.refl _ _ | refine zaj ?_ ?_ _ | apply zag | refine zae ?_ (by assumption) | apply zak) | omega)) (by omega) _⟩
end
section
open Go.RowKit
def zgt (op a b : Int) : Bool :=
 if op = 5 then a == b else if op = 6 then a != b else if op = 7 then decide (a < b) else if op = 8 then decide (b ≤ a) else if op = 9 then decide (word a < word b) else decide (word b ≤ word a)
set_option maxHeartbeats 2000000 in
theorem zl1 (op a b : Int) (w : World) (h : 5 ≤ op ∧ op ≤ 10) :
 Calls Tryz.prog 153 #[.int .i64 op, .int .i64 a, .int .i64 b] w fun e w' => e = .returned (.bool (zgt op a b)) ∧ w = w' := by
 rcases (by omega : op = 5 ∨ op = 6 ∨ op = 7 ∨ op = 8 ∨ op = 9 ∨ op = 10) with rfl | rfl | rfl | rfl | rfl | rfl
 all_goals
  go_enter Tryz.func153, Tryz.ntmps153
  go_wp2
  go_ret
  exact ⟨ret1 (za1 rfl), rfl⟩
def zcf (op a b : Int) : Int := if op = 36 then (if word b = 0 then -1 else word a / word b) else (if word b = 0 then a else word a % word b)
theorem div_q (a b : Int) (h : ¬ word b = 0) : zcf 36 a b = (a % 4294967296).tdiv (b % 4294967296) % 4294967296 := by
 have hx := zdF a
 have hy := zdF b
 have e : zcf 36 a b = word a / word b := by unfold zcf; rw [if_pos rfl, if_neg h]
 have h1 := Int.ediv_le_self (word b) hx.1
 have h2 : 0 ≤ word a / word b := Int.ediv_nonneg hx.1 hy.1
 rw [e, show a % 4294967296 = word a from rfl, show b % 4294967296 = word b from rfl, Int.tdiv_eq_ediv_of_nonneg hx.1]
 omega
theorem div_r (a b : Int) (h : ¬ word b = 0) : zcf 38 a b = wrap64 (a % 4294967296 % (b % 4294967296)) := by
 have hy := zdF b
 have e : zcf 38 a b = word a % word b := by unfold zcf; rw [if_neg (by decide), if_neg h]
 have h1 : 0 ≤ word a % word b := Int.emod_nonneg _ h
 have h2 : word a % word b < word b := Int.emod_lt_of_pos _ (by omega)
 rw [e, show a % 4294967296 = word a from rfl, show b % 4294967296 = word b from rfl]
 unfold wrap64; omega
theorem div_q0 (a b : Int) (h : word b = 0) : zcf 36 a b = -1 := by unfold zcf; rw [if_pos rfl, if_pos h]
theorem div_r0 (a b : Int) (h : word b = 0) : zcf 38 a b = a := by unfold zcf; rw [if_neg (by decide), if_pos h]
set_option maxHeartbeats 2000000 in
theorem ze5 (op a b : Int) (w : World) (h : op = 36 ∨ op = 38) :
 Calls Tryz.prog 157 #[.int .i64 op, .int .i64 a, .int .i64 b] w fun e w' => e = .returned (.int .i64 (zcf op a b)) ∧ w = w' := by
 by_cases h0 : word b = 0
 · have q : (b % 4294967296 == 0) = true := by simpa [word] using h0
   have H0 := zhd h0; clear h0
   rcases h with rfl | rfl
   · go_enter Tryz.func157, Tryz.ntmps157
     go_wp2
     go_ret
     exact ⟨ret1 (rint (div_q0 a b H0.out).symm), rfl⟩
   · go_enter Tryz.func157, Tryz.ntmps157
     go_wp2
     go_ret
     exact ⟨ret1 (rint (div_r0 a b H0.out).symm), rfl⟩
 · have q : (b % 4294967296 == 0) = false := by simpa [word] using h0
   have H0 := zhd h0; clear h0
   rcases h with rfl | rfl
   · go_enter Tryz.func157, Tryz.ntmps157
     go_wp2
     go_ret
     exact ⟨ret1 (rint (div_q a b H0.out).symm), rfl⟩
   · go_enter Tryz.func157, Tryz.ntmps157
     go_wp2
     go_ret
     exact ⟨ret1 (rint (div_r a b H0.out).symm), rfl⟩
def opsL : List Int := [0, 0, 0, 0, 0, 0, 0, 0, 0, 0, 0, 0, 0, 1, 11, 12, 8, 7, 6, 9, 0, 10, 1, 2, 9, 11, 12, 8, 0, 10, 7, 6, 3, 0, 0, 4, 0, 5, 0, 0, 0, 0, 0, 0, 0, 0, 0, 0, 0, 1]
def opsT (op : Int) : Int := opsL.getD op.toNat 0
def opsA : Array Value := (opsL.map (Value.int .i64)).toArray
set_option maxRecDepth 100000 in
set_option maxHeartbeats 4000000 in
theorem zev (w : World) :
 Calls Tryz.prog 159 #[] w fun e w' => e = .returned (.agg opsA) ∧ Below w.heap.size w w' := by
 go_enter Tryz.func159, Tryz.ntmps159
 go_upto_region 1 with (fail)
 apply wp_region_lit
 refine zeX 1 _ _ ⟨#[.pointer (some ⟨w.heap.size, 0, none⟩), .agg opsA], []⟩ (by kernel_rfl) ?_
 simp only [List.drop_succ_cons, List.drop_zero]
 refine wpList_store_row rfl 223 _ _ rfl w.heap.size opsA rfl rfl 223 _ (zat w _) (by kernel_rfl) (by kernel_rfl) (by kernel_rfl) ?_
 go_wp2_with fail
 refine bodyPost_ret (v := .agg opsA) (results_cell_row rfl _ _ w.heap.size 223 opsA (0, 0) _ rfl (setRow_heap _ _ _ _ _ _ (zat w _)) Tryz.underlying223 rfl (by kernel_rfl)) rfl ⟨rfl, below_setRow (by repeat (first | (with_reducible first | exact Below.refl _ _ | refine zaj ?_ ?_ _ | apply zag | refine zae ?_ (by assumption) | apply zak) | omega)) (Nat.le_refl _) _⟩
end
section
open Go.RowKit
def zdx (op a b : Int) : Int :=
 if op = 20 ∨ op = 28 then word a / 2 ^ (b % 32).toNat else if op = 33 then highN a b true else if op = 34 then highN a b false else if op = 36 ∨ op = 38 then zcf op a b else twoN (opsT op) a b
theorem pow_bd' (k : Int) (h : 0 ≤ k ∧ k < 32) : (1 : Int) ≤ 2 ^ k.toNat ∧ (2 : Int) ^ k.toNat ≤ 2147483648 := by
 obtain ⟨j, rfl⟩ := Int.eq_ofNat_of_zero_le h.1
 have h1 : 2 ^ j ≤ 2 ^ 31 := Nat.pow_le_pow_right (by decide) (by omega)
 have h2 : 0 < 2 ^ j := Nat.two_pow_pos j
 have e : (2 : Int) ^ j = ((2 ^ j : Nat) : Int) := by rw [Int.natCast_pow]; rfl
 simp only [Int.toNat_natCast]
 omega
theorem quo_word (a : Int) (k : Nat) : wrap64 (word a / 2 ^ k) = word a / 2 ^ k := by
 have hx := zdF a
 have e : (2 : Int) ^ k = ((2 ^ k : Nat) : Int) := by rw [Int.natCast_pow]; rfl
 have h1 := Int.ediv_le_self (2 ^ k) hx.1
 have h2 : 0 ≤ word a / 2 ^ k := Int.ediv_nonneg hx.1 (by rw [e]; exact Int.natCast_nonneg _)
 unfold wrap64; omega
def zdr (op : Int) : Prop := op = 13 ∨ op = 14 ∨ op = 15 ∨ op = 16 ∨ op = 17 ∨ op = 18 ∨ op = 19 ∨ op = 21 ∨ op = 22 ∨ op = 23 ∨ op = 24 ∨ op = 25 ∨ op = 26 ∨ op = 27 ∨ op = 29 ∨ op = 30 ∨ op = 31 ∨ op = 32 ∨ op = 35 ∨ op = 37
set_option maxHeartbeats 8000000 in
theorem zit (op a b : Int) (w : World) (h : zdr op) :
 Calls Tryz.prog 114 #[.int .i64 op, .int .i64 a, .int .i64 b] w fun e w' => e = .returned (.int .i64 (zdx op a b)) ∧ Below w.heap.size w w' := by
 have E : Hid (zdx op a b = twoN (opsT op) a b) := by
  unfold zdx
  unfold zdr at h
  rw [if_neg (by omega), if_neg (by omega), if_neg (by omega), if_neg (by omega)]
  exact rfl
 have hix : ∀ w : World, (Instr.index 223 (.agg opsA) (.int .i64 op)).run Tryz.prog w = .ok (.int .i64 (opsT op)) w := by
  intro w
  rcases h with rfl | rfl | rfl | rfl | rfl | rfl | rfl | rfl | rfl | rfl | rfl | rfl | rfl | rfl | rfl | rfl | rfl | rfl | rfl | rfl <;> kernel_rfl
 have q1 : (op == 20) = false := by simp; unfold zdr at h; omega
 have q2 : (op == 28) = false := by simp; unfold zdr at h; omega
 have q3 : (op == 33) = false := by simp; unfold zdr at h; omega
 have q4 : (op == 34) = false := by simp; unfold zdr at h; omega
 have q5 : (op == 36) = false := by simp; unfold zdr at h; omega
 have q6 : (op == 38) = false := by simp; unfold zdr at h; omega
 clear h
 go_enter Tryz.func114, Tryz.ntmps114
 go_wp2_with fail
 refine (zev _).mono ?_
 rintro e w1 ⟨rfl, hb1⟩
 go_wp2_with fail
 refine (zkT _ a b _).mono ?_
 rintro e w2 ⟨rfl, rfl⟩
 go_wp2_with fail
 go_ret
 exact ⟨by rw [E.out]; rfl, (by repeat (first | (with_reducible first | exact Below.refl _ _ | refine zaj ?_ ?_ _ | apply zag | refine zae ?_ (by assumption) | apply zak) | omega))⟩
theorem makes_20 (op a b : Int) (w : World) (h : op = 20 ∨ op = 28) :
 Calls Tryz.prog 114 #[.int .i64 op, .int .i64 a, .int .i64 b] w fun e w' => e = .returned (.int .i64 (zdx op a b)) ∧ Below w.heap.size w w' := by
 have E : Hid (zdx op a b = word a / 2 ^ (b % 32).toNat) := by unfold zdx; rw [if_pos h]; exact rfl
 have hb1 : bits .and .i64 b 31 = b % 32 := zmW b
 have hb2 : 0 ≤ b % 32 := by omega
 have hb3 : b % 32 ≤ 31 := by omega
 have hw := zdF a
 have hp := pow_bd' (b % 32) (by omega)
 have HQ := zhd (quo_word a (b % 32).toNat)
 rcases h with rfl | rfl
 all_goals
  go_enter Tryz.func114, Tryz.ntmps114
  go_wp2_with fail
  go_ret
  exact ⟨by rw [E.out, ← HQ.out]; rfl, (by repeat (first | (with_reducible first | exact Below.refl _ _ | refine zaj ?_ ?_ _ | apply zag | refine zae ?_ (by assumption) | apply zak) | omega))⟩
theorem makes_33 (a b : Int) (w : World) :
 Calls Tryz.prog 114 #[.int .i64 33, .int .i64 a, .int .i64 b] w fun e w' => e = .returned (.int .i64 (zdx 33 a b)) ∧ Below w.heap.size w w' := by
 go_enter Tryz.func114, Tryz.ntmps114
 go_wp2_with fail
 refine (zjk a b _ _).mono ?_
 rintro e w1 ⟨rfl, rfl⟩
 go_wp2_with fail
 go_ret
 exact ⟨rfl, (by repeat (first | (with_reducible first | exact Below.refl _ _ | refine zaj ?_ ?_ _ | apply zag | refine zae ?_ (by assumption) | apply zak) | omega))⟩
theorem makes_34 (a b : Int) (w : World) :
 Calls Tryz.prog 114 #[.int .i64 34, .int .i64 a, .int .i64 b] w fun e w' => e = .returned (.int .i64 (zdx 34 a b)) ∧ Below w.heap.size w w' := by
 go_enter Tryz.func114, Tryz.ntmps114
 go_wp2_with fail
 refine (zjk a b _ _).mono ?_
 rintro e w1 ⟨rfl, rfl⟩
 go_wp2_with fail
 go_ret
 exact ⟨rfl, (by repeat (first | (with_reducible first | exact Below.refl _ _ | refine zaj ?_ ?_ _ | apply zag | refine zae ?_ (by assumption) | apply zak) | omega))⟩
theorem makes_36 (op a b : Int) (w : World) (h : op = 36 ∨ op = 38) :
 Calls Tryz.prog 114 #[.int .i64 op, .int .i64 a, .int .i64 b] w fun e w' => e = .returned (.int .i64 (zdx op a b)) ∧ Below w.heap.size w w' := by
 rcases h with rfl | rfl
 · go_enter Tryz.func114, Tryz.ntmps114
   go_wp2_with fail
   refine (ze5 36 a b _ (.inl rfl)).mono ?_
   rintro e w1 ⟨rfl, rfl⟩
   go_wp2_with fail
   go_ret
   exact ⟨rfl, (by repeat (first | (with_reducible first | exact Below.refl _ _ | refine zaj ?_ ?_ _ | apply zag | refine zae ?_ (by assumption) | apply zak) | omega))⟩
 · go_enter Tryz.func114, Tryz.ntmps114
   go_wp2_with fail
   refine (ze5 38 a b _ (.inr rfl)).mono ?_
   rintro e w1 ⟨rfl, rfl⟩
   go_wp2_with fail
   go_ret
   exact ⟨rfl, (by repeat (first | (with_reducible first | exact Below.refl _ _ | refine zaj ?_ ?_ _ | apply zag | refine zae ?_ (by assumption) | apply zak) | omega))⟩
theorem zhF (op a b : Int) (w : World) (h : 13 ≤ op ∧ op ≤ 38) :
 Calls Tryz.prog 114 #[.int .i64 op, .int .i64 a, .int .i64 b] w fun e w' => e = .returned (.int .i64 (zdx op a b)) ∧ Below w.heap.size w w' := by
 by_cases h1 : op = 20 ∨ op = 28
 · exact makes_20 op a b w h1
 by_cases h2 : op = 33
 · subst h2; exact makes_33 a b w
 by_cases h3 : op = 34
 · subst h3; exact makes_34 a b w
 by_cases h4 : op = 36 ∨ op = 38
 · exact makes_36 op a b w h4
 exact zit op a b w (by unfold zdr; omega)
def zcS (op old n : Int) : Int := if op = 41 then bits .or .i64 old n else if op = 42 then bits .andNot .i64 old n else n
theorem ziQ (op old n : Int) (w : World) :
 Calls Tryz.prog 155 #[.int .i64 op, .int .i64 old, .int .i64 n] w fun e w' => e = .returned (.int .i64 (zcS op old n)) ∧ w = w' := by
 by_cases h1 : op = 41
 · subst h1
   go_enter Tryz.func155, Tryz.ntmps155
   go_wp2_with fail
   go_ret
   exact ⟨rfl, rfl⟩
 by_cases h2 : op = 42
 · subst h2
   go_enter Tryz.func155, Tryz.ntmps155
   go_wp2_with fail
   go_ret
   exact ⟨rfl, rfl⟩
 · have E : Hid (zcS op old n = n) := by unfold zcS; rw [if_neg h1, if_neg h2]; exact rfl
   have q1 : (op == 41) = false := by simp [h1]
   have q2 : (op == 42) = false := by simp [h2]
   clear h1 h2
   go_enter Tryz.func155, Tryz.ntmps155
   go_wp2_with fail
   go_ret
   exact ⟨by rw [E.out]; rfl, rfl⟩
end
section
open Go.RowKit
def zdy (pc : Int) (x : Ins) (a b : Int) : Int :=
 if x.op = 3 ∨ (5 ≤ x.op ∧ x.op ≤ 10 ∧ zgt x.op a b = true) then wrap32 (pc + x.n) else if x.op = 4 then bits .and .i64 (wrap32 (a + x.n)) (-2) else wrap32 (pc + 4)
theorem zjf (op a b : Int) (r : Bool) (w : World) (h : 5 ≤ op ∧ op ≤ 10) (hr : zgt op a b = r) :
 Calls Tryz.prog 153 #[.int .i64 op, .int .i64 a, .int .i64 b] w fun e w' => e = .returned (.bool r) ∧ w = w' := by subst hr; exact zl1 op a b w h
set_option maxHeartbeats 4000000 in
theorem zdk (h : Ht) (x : Ins) (a b : Int) (w : World) (h32 : h.r.length = 32) :
 Calls Tryz.prog 110 #[.agg (hA h), insV x, .int .i64 a, .int .i64 b] w fun e w' => e = .returned (.int .i64 (zdy h.pc x a b)) ∧ Below w.heap.size w w' := by
 have g32 := (zbr h h32).1
 obtain ⟨op, d, ra, rb, n⟩ := x
 have HE := zhd (show zdy h.pc ⟨op, d, ra, rb, n⟩ a b = if op = 3 ∨ (5 ≤ op ∧ op ≤ 10 ∧ zgt op a b = true) then wrap32 (h.pc + n) else if op = 4 then bits .and .i64 (wrap32 (a + n)) (-2) else wrap32 (h.pc + 4) from rfl)
 generalize zdy h.pc ⟨op, d, ra, rb, n⟩ a b = res at *
 generalize h.pc = pc at *
 generalize hA h = A at *
 have f1 := zdH (pc + n)
 have f2 := zdH (a + n)
 have f3 := zdH (pc + 4)
 have F1 := zhd f1; have F2 := zhd f2; have F3 := zhd f3
 clear f1 f2 f3
 unfold insV
 by_cases c1 : op = 3
 · subst c1
   have E : Hid (res = wrap32 (pc + n)) := by rw [HE.out, if_pos (.inl rfl)]; exact rfl
   clear HE
   go_enter Tryz.func110, Tryz.ntmps110
   go_wp2_with (go_at_call 124; refine (zaX _ _).mono ?_; rintro e w' ⟨rfl, rfl⟩)
   go_ret
   exact ⟨ret1 (rint (by rw [E.out]; first | exact F1.out | rfl)), (by repeat (first | (with_reducible first | exact Below.refl _ _ | refine zaj ?_ ?_ _ | apply zag | refine zae ?_ (by assumption) | apply zak) | omega))⟩
 have q1 : (op == 3) = false := by simp [c1]
 by_cases c2 : 5 ≤ op ∧ op ≤ 10
 · have C2 := zhd c2
   have q2 : decide (5 ≤ op) = true := by simp; omega
   have q3 : decide (op ≤ 10) = true := by simp; omega
   have q4 : (op == 4) = false := by simp; omega
   cases hj : zgt op a b
   · have E : Hid (res = wrap32 (pc + 4)) := by rw [HE.out, if_neg (by rw [hj]; simp [c1]), if_neg (by omega)]; exact rfl
     have HJ := zhd hj
     clear HE hj c1 c2
     go_enter Tryz.func110, Tryz.ntmps110
     go_wp2_with (first | (go_at_call 124; refine (zaX _ _).mono ?_; rintro e w' ⟨rfl, rfl⟩) | (go_at_call 153; refine (zjf op a b _ _ C2.out HJ.out).mono ?_; rintro e w' ⟨rfl, rfl⟩))
     go_ret
     exact ⟨ret1 (rint (by rw [E.out]; first | exact F3.out | rfl)), (by repeat (first | (with_reducible first | exact Below.refl _ _ | refine zaj ?_ ?_ _ | apply zag | refine zae ?_ (by assumption) | apply zak) | omega))⟩
   · have E : Hid (res = wrap32 (pc + n)) := by rw [HE.out, if_pos (.inr ⟨c2.1, c2.2, hj⟩)]; exact rfl
     have HJ := zhd hj
     clear HE hj c1 c2
     go_enter Tryz.func110, Tryz.ntmps110
     go_wp2_with (first | (go_at_call 124; refine (zaX _ _).mono ?_; rintro e w' ⟨rfl, rfl⟩) | (go_at_call 153; refine (zjf op a b _ _ C2.out HJ.out).mono ?_; rintro e w' ⟨rfl, rfl⟩))
     go_ret
     exact ⟨ret1 (rint (by rw [E.out]; first | exact F1.out | rfl)), (by repeat (first | (with_reducible first | exact Below.refl _ _ | refine zaj ?_ ?_ _ | apply zag | refine zae ?_ (by assumption) | apply zak) | omega))⟩
 have hn : ¬ (5 ≤ op ∧ op ≤ 10 ∧ zgt op a b = true) := fun h => c2 ⟨h.1, h.2.1⟩
 by_cases c3 : op = 4
 · subst c3
   have E : Hid (res = bits .and .i64 (wrap32 (a + n)) (-2)) := by rw [HE.out, if_neg (by simp), if_pos rfl]; exact rfl
   clear HE hn c1 c2
   go_enter Tryz.func110, Tryz.ntmps110
   go_wp2_with (go_at_call 124; refine (zaX _ _).mono ?_; rintro e w' ⟨rfl, rfl⟩)
   go_ret
   exact ⟨ret1 (rint (by rw [E.out, ← F2.out])), (by repeat (first | (with_reducible first | exact Below.refl _ _ | refine zaj ?_ ?_ _ | apply zag | refine zae ?_ (by assumption) | apply zak) | omega))⟩
 · have E : Hid (res = wrap32 (pc + 4)) := by rw [HE.out, if_neg (fun h => h.elim c1 hn), if_neg c3]; exact rfl
   have q4 : (op == 4) = false := by simp [c3]
   by_cases h5 : 5 ≤ op
   · have q2 : decide (5 ≤ op) = true := decide_eq_true h5
     have q3 : decide (op ≤ 10) = false := by simp; omega
     clear HE hn c1 c2 c3
     go_enter Tryz.func110, Tryz.ntmps110
     go_wp2_with (go_at_call 124; refine (zaX _ _).mono ?_; rintro e w' ⟨rfl, rfl⟩)
     go_ret
     exact ⟨ret1 (rint (by rw [E.out]; first | exact F3.out | rfl)), (by repeat (first | (with_reducible first | exact Below.refl _ _ | refine zaj ?_ ?_ _ | apply zag | refine zae ?_ (by assumption) | apply zak) | omega))⟩
   · have q2 : decide (5 ≤ op) = false := decide_eq_false h5
     clear HE hn c1 c2 c3
     go_enter Tryz.func110, Tryz.ntmps110
     go_wp2_with (go_at_call 124; refine (zaX _ _).mono ?_; rintro e w' ⟨rfl, rfl⟩)
     go_ret
     exact ⟨ret1 (rint (by rw [E.out]; first | exact F3.out | rfl)), (by repeat (first | (with_reducible first | exact Below.refl _ _ | refine zaj ?_ ?_ _ | apply zag | refine zae ?_ (by assumption) | apply zak) | omega))⟩
def zlU (st le pr : Int) : Bool := (bits .and .i64 st 8 != 0) && decide (le < pr)
theorem lets_any (h : Ht) (p : Int) (w : World) (h32 : h.r.length = 32) :
 Calls Tryz.prog 59 #[.agg (hA h), .int .i64 p] w fun e w' => e = .returned (.bool (zlU h.st h.le p)) ∧ Below w.heap.size w w' := by
 have g33 := (zbr h h32).2.1
 have g38 := (zbr h h32).2.2.2.2.2.2
 generalize h.st = st at *
 generalize h.le = le at *
 generalize hA h = A at *
 have E := zhd (show zlU st le p = ((bits .and .i64 st 8 != 0) && decide (le < p)) from rfl)
 cases h1 : (bits .and .i64 st 8 != 0) <;> cases h2 : decide (le < p)
 all_goals
  rw [h1, h2] at E
  go_enter Tryz.func59, Tryz.ntmps59
  go_wp2_with fail
  go_ret
  exact ⟨ret1 (za1 E.out.symm), (by repeat (first | (with_reducible first | exact Below.refl _ _ | refine zaj ?_ ?_ _ | apply zag | refine zae ?_ (by assumption) | apply zak) | omega))⟩
structure Eff where
 k : Int
 d : Int
 ad : Int
 n : Int
 o : Int
def effV (e : Eff) : Value := .agg #[.int .i64 e.k, .int .i64 e.d, .int .i64 e.ad, .int .i64 e.n, .int .i64 e.o]
def effX (x : Ins) (a b : Int) : Eff :=
 if x.op = 11 then ⟨1, x.d, wrap32 (a + x.n), 0, 0⟩ else if x.op = 12 then ⟨2, 0, wrap32 (a + x.n), b, 0⟩ else if x.op = 39 then ⟨6, 0, 0, 0, 0⟩ else if x.op = 46 then ⟨3, x.d, a, 0, 0⟩
 else if x.op = 47 then ⟨4, x.d, a, b, 0⟩ else if x.op = 48 then ⟨5, x.d, a, b, 0⟩ else if x.op = 49 then ⟨5, x.d, a, b, 1⟩ else if x.op = 43 then ⟨7, 0, 0, 0, 0⟩ else if x.op = 45 then ⟨8, 0, 0, 0, 0⟩ else ⟨0, 0, 0, 0, 0⟩
def zkz (op : Int) : Prop := op = 11 ∨ op = 12 ∨ op = 39 ∨ op = 46 ∨ op = 47 ∨ op = 43 ∨ op = 45
set_option maxHeartbeats 4000000 in
theorem zkx (op d ra rb n a b : Int) (w : World) (h : zkz op) :
 Calls Tryz.prog 115 #[insV ⟨op, d, ra, rb, n⟩, .int .i64 a, .int .i64 b] w fun e w' => e = .returned (effV (effX ⟨op, d, ra, rb, n⟩ a b)) ∧ Below w.heap.size w w' := by
 have F2 := zhd (zdH (a + n))
 unfold insV
 rcases h with rfl | rfl | rfl | rfl | rfl | rfl | rfl
 all_goals
  go_enter Tryz.func115, Tryz.ntmps115
  go_wp2_with (go_at_call 124; refine (zaX _ _).mono ?_; rintro e w' ⟨rfl, rfl⟩)
  refine bodyPost_ret (by simp [results, Tryz.results115, go_sem]; try rfl) rfl ⟨?_, (by repeat (first | (with_reducible first | exact Below.refl _ _ | refine zaj ?_ ?_ _ | apply zag | refine zae ?_ (by assumption) | apply zak) | omega))⟩
  have f := F2.out
  simp [effX, effV, f]
theorem eff_none (x : Ins) (a b : Int) (h : ¬ zkz x.op) (h1 : x.op ≠ 48) (h2 : x.op ≠ 49) : effX x a b = ⟨0, 0, 0, 0, 0⟩ := by
 simp only [zkz, not_or] at h
 obtain ⟨a1, a2, a3, a4, a5, a6, a7⟩ := h
 simp [effX, a1, a2, a3, a4, a5, a6, a7, h1, h2]
set_option maxHeartbeats 4000000 in
theorem zmA (op d ra rb n a b : Int) (w : World) (h : ¬ zkz op) (h1 : op ≠ 48) (h2 : op ≠ 49) :
 Calls Tryz.prog 115 #[insV ⟨op, d, ra, rb, n⟩, .int .i64 a, .int .i64 b] w fun e w' => e = .returned (effV (effX ⟨op, d, ra, rb, n⟩ a b)) ∧ Below w.heap.size w w' := by
 rw [eff_none ⟨op, d, ra, rb, n⟩ a b h h1 h2]
 simp only [zkz, not_or] at h
 obtain ⟨a1, a2, a3, a4, a5, a6, a7⟩ := h
 have q1 := beq_eq_false_iff_ne.2 a1; have q2 := beq_eq_false_iff_ne.2 a2; have q3 := beq_eq_false_iff_ne.2 a3; have q4 := beq_eq_false_iff_ne.2 a4; have q5 := beq_eq_false_iff_ne.2 a5; have q6 := beq_eq_false_iff_ne.2 a6; have q7 := beq_eq_false_iff_ne.2 a7; have q8 := beq_eq_false_iff_ne.2 h1; have q9 := beq_eq_false_iff_ne.2 h2
 clear a1 a2 a3 a4 a5 a6 a7 h1 h2
 unfold insV
 go_enter Tryz.func115, Tryz.ntmps115
 go_wp2_with (go_at_call 124; refine (zaX _ _).mono ?_; rintro e w' ⟨rfl, rfl⟩)
 refine bodyPost_ret (by simp [results, Tryz.results115, go_sem]; try rfl) rfl ⟨?_, (by repeat (first | (with_reducible first | exact Below.refl _ _ | refine zaj ?_ ?_ _ | apply zag | refine zae ?_ (by assumption) | apply zak) | omega))⟩
 rfl
set_option maxHeartbeats 4000000 in
theorem zky (op d ra rb n a b : Int) (w : World) (h : op = 48 ∨ op = 49) :
 Calls Tryz.prog 115 #[insV ⟨op, d, ra, rb, n⟩, .int .i64 a, .int .i64 b] w fun e w' => e = .returned (effV (effX ⟨op, d, ra, rb, n⟩ a b)) ∧ Below w.heap.size w w' := by
 have hix : ∀ w : World, (Instr.index 223 (.agg opsA) (.int .i64 op)).run Tryz.prog w = .ok (.int .i64 (opsT op)) w := by
  intro w
  rcases h with rfl | rfl <;> kernel_rfl
 have HO := zhd (show opsT op = if op = 48 then 0 else 1 by rcases h with rfl | rfl <;> rfl)
 obtain ⟨w0, hw0, hx, hz, hb0, hs0⟩ := zcW w (.cells #[.int .i64 op, .int .i64 d, .int .i64 ra, .int .i64 rb, .int .i64 n] 72) (.cells #[.int .i64 0, .int .i64 0, .int .i64 0, .int .i64 0, .int .i64 0] 131)
 have x0 := fun x => zal (by omega) (zad hx (j := 0) (u := .int .i64 op) rfl) x
 have x1 := fun x => zal (by omega) (zad hx (j := 1) (u := .int .i64 d) rfl) x
 have HZ := zhd hz
 have HW := zhd hw0
 clear hx hz hw0
 unfold insV
 rcases h with rfl | rfl
 all_goals
  have ho := HO.out
  simp at ho
  rw [ho] at hix
  clear ho
  go_enter Tryz.func115, Tryz.ntmps115
  go_wp2_with (go_at_call 124; refine (zaX _ _).mono ?_; rintro e w' ⟨rfl, rfl⟩)
  rw [← HW.out]
  refine zau 9 (by kernel_rfl) (by kernel_rfl) ?_
  simp only [List.take_succ_cons, List.take_zero, List.drop_succ_cons, List.drop_zero]
  repeat (go_big_quiet_step ((go_at_call 159; exact zcJ (zev _))))
  refine wpQuiet_nil ?_
  rintro w9 ⟨⟨w9x, hb9⟩, rfl⟩
  have hz9 := zaq hb9 (by omega) HZ.out
  have hbw : Below w.heap.size w w9 := (by repeat (first | (with_reducible first | exact Below.refl _ _ | refine zaj ?_ ?_ _ | apply zag | refine zae ?_ (by assumption) | apply zak) | omega))
  first
   | (refine wpList_store_row rfl 131 _ _ rfl (w.heap.size + 1) #[.int .i64 5, .int .i64 d, .int .i64 a, .int .i64 b, .int .i64 0] rfl rfl 131 _ hz9 (by kernel_rfl) rfl (by kernel_rfl) ?_; go_wp2_with fail; exact bodyPost_ret (v := effV (effX ⟨48, d, ra, rb, n⟩ a b)) (results_cell_row rfl _ _ (w.heap.size + 1) 131 #[.int .i64 5, .int .i64 d, .int .i64 a, .int .i64 b, .int .i64 0] (0, 0) _ rfl (setRow_heap _ _ _ _ _ _ hz9) Tryz.underlying131 rfl (by kernel_rfl)) rfl ⟨rfl, below_setRow hbw (by omega) _⟩)
   | (refine wpList_store_row rfl 131 _ _ rfl (w.heap.size + 1) #[.int .i64 5, .int .i64 d, .int .i64 a, .int .i64 b, .int .i64 1] rfl rfl 131 _ hz9 (by kernel_rfl) rfl (by kernel_rfl) ?_; go_wp2_with fail; exact bodyPost_ret (v := effV (effX ⟨49, d, ra, rb, n⟩ a b)) (results_cell_row rfl _ _ (w.heap.size + 1) 131 #[.int .i64 5, .int .i64 d, .int .i64 a, .int .i64 b, .int .i64 1] (0, 0) _ rfl (setRow_heap _ _ _ _ _ _ hz9) Tryz.underlying131 rfl (by kernel_rfl)) rfl ⟨rfl, below_setRow hbw (by omega) _⟩)
theorem zd8 (x : Ins) (a b : Int) (w : World) :
 Calls Tryz.prog 115 #[insV x, .int .i64 a, .int .i64 b] w fun e w' => e = .returned (effV (effX x a b)) ∧ Below w.heap.size w w' := by
 obtain ⟨op, d, ra, rb, n⟩ := x
 by_cases h1 : op = 48 ∨ op = 49
 · exact zky op d ra rb n a b w h1
 by_cases h2 : zkz op
 · exact zkx op d ra rb n a b w h2
 · exact zmA op d ra rb n a b w h2 (fun h => h1 (.inl h)) (fun h => h1 (.inr h))
end
section
open Go.RowKit
def backSt (st : Int) : Int := bits .or .i64 (if (bits .and .i64 st 128 != 0) = true then bits .or .i64 st 8 else bits .andNot .i64 st 8) 128
def zga (h : Ht) : Ht := { h with pc := h.ep, st := backSt h.st }
def zkV (st : Int) : Int := if (bits .and .i64 st 8 != 0) = true then 128 else 0
def zgd (h : Ht) (c : Int) : Ht := { h with pc := h.ve, st := zkV h.st, ep := h.pc, ca := wrap32 c }
set_option maxHeartbeats 4000000 in
theorem zmU (h : Ht) (w : World) (h32 : h.r.length = 32) :
 Calls Tryz.prog 111 #[.agg (hA h)] w fun e w' => e = .returned (.agg (hA (zga h))) ∧ Below w.heap.size w w' := by
 obtain ⟨g32, g33, _, _, g36, _, _⟩ := zbr h h32
 obtain ⟨w0, hw0, hx, hz, hb0, hs0⟩ := zcW w (.cells (hA h) 56) (.cells zA 56)
 have c32 := zad hx g32; have c33 := zad hx g33; have c36 := zad hx g36
 have f32 := zaa hx 32; have f33 := zaa hx 33
 have HW := zhd hw0
 have HE : Hid (zga h = { h with pc := h.ep, st := bits .or .i64 (if (bits .and .i64 h.st 128 != 0) = true then bits .or .i64 h.st 8 else bits .andNot .i64 h.st 8) 128 }) := rfl
 have HS : Hid (∀ v1 v2 v3 : Int, (((w0.setCell ⟨w.heap.size, 32, none⟩ (.int .i64 v1)).setCell ⟨w.heap.size, 33, none⟩ (.int .i64 v2)).setCell ⟨w.heap.size, 33, none⟩ (.int .i64 v3)).heap[w.heap.size]? = some (.cells (hA { h with pc := v1, st := v3 }) 56 (0, 0))) := by
  intro v1 v2 v3
  have s1 := zbS hx 32 (.int .i64 v1) _ (zhN h h32 v1)
  have s2 := zbS s1 33 (.int .i64 v2) _ (hA_st { h with pc := v1 } h32 v2)
  exact zbS s2 33 (.int .i64 v3) _ (hA_st { h with pc := v1, st := v2 } h32 v3)
 clear hx g32 g33 g36 hw0
 cases hq : (bits .and .i64 h.st 128 != 0)
 · have HEE : Hid (zga h = { h with pc := h.ep, st := bits .or .i64 (bits .andNot .i64 h.st 8) 128 }) := by rw [HE.out, hq]; exact rfl
   have HXX := zhd (HS.out h.ep (bits .andNot .i64 h.st 8) (bits .or .i64 (bits .andNot .i64 h.st 8) 128))
   have HZZ : Hid ((((w0.setCell ⟨w.heap.size, 32, none⟩ (.int .i64 h.ep)).setCell ⟨w.heap.size, 33, none⟩ (.int .i64 (bits .andNot .i64 h.st 8))).setCell ⟨w.heap.size, 33, none⟩ (.int .i64 (bits .or .i64 (bits .andNot .i64 h.st 8) 128))).heap[w.heap.size + 1]? = some (.cells zA 56 (0, 0))) := zay (by omega) (zay (by omega) (zay (by omega) hz))
   have HBB : Hid (Below w.heap.size w (((w0.setCell ⟨w.heap.size, 32, none⟩ (.int .i64 h.ep)).setCell ⟨w.heap.size, 33, none⟩ (.int .i64 (bits .andNot .i64 h.st 8))).setCell ⟨w.heap.size, 33, none⟩ (.int .i64 (bits .or .i64 (bits .andNot .i64 h.st 8) 128)))) := zaj (zaj (zaj hb0 (Nat.le_refl _) _) (Nat.le_refl _) _) (Nat.le_refl _) _
   clear hz
   go_enter Tryz.func111, Tryz.ntmps111
   go_upto_region 1 with (fail)
   change Code.wp _ _ _ _ ((w.alloc (.cells (hA h) 56)).alloc (.cells zA 56))
   rw [← HW.out]
   go_upto_region 6 with (fail)
   clear c32 c33 c36 f32 f33 hq
   go_wp2_with (first | (refine wpList_load_row rfl 56 _ rfl (w.heap.size) rfl 56 (hA ({ h with pc := h.ep, st := bits .or .i64 (bits .andNot .i64 h.st 8) 128 })) (0, 0) _ HXX.out Tryz.underlying56 rfl (zaU (zaw ({ h with pc := h.ep, st := bits .or .i64 (bits .andNot .i64 h.st 8) 128 }) h32)) ?_) | (refine wpList_store_row rfl 56 _ _ rfl (w.heap.size + 1) (hA ({ h with pc := h.ep, st := bits .or .i64 (bits .andNot .i64 h.st 8) 128 })) rfl rfl 56 zA HZZ.out (zaU (zaw ({ h with pc := h.ep, st := bits .or .i64 (bits .andNot .i64 h.st 8) 128 }) h32)) (by rw [zaw ({ h with pc := h.ep, st := bits .or .i64 (bits .andNot .i64 h.st 8) 128 }) h32]; rfl) (zbj ({ h with pc := h.ep, st := bits .or .i64 (bits .andNot .i64 h.st 8) 128 })) ?_))
   exact bodyPost_ret (v := .agg (hA ({ h with pc := h.ep, st := bits .or .i64 (bits .andNot .i64 h.st 8) 128 }))) (results_cell_row rfl _ _ (w.heap.size + 1) 56 (hA ({ h with pc := h.ep, st := bits .or .i64 (bits .andNot .i64 h.st 8) 128 })) (0, 0) _ rfl (setRow_heap _ _ _ _ _ _ HZZ.out) Tryz.underlying56 rfl (zaU (zaw ({ h with pc := h.ep, st := bits .or .i64 (bits .andNot .i64 h.st 8) 128 }) h32))) rfl ⟨by rw [HEE.out], below_setRow HBB.out (by omega) _⟩
 · have HEE : Hid (zga h = { h with pc := h.ep, st := bits .or .i64 (bits .or .i64 h.st 8) 128 }) := by rw [HE.out, hq]; exact rfl
   have HXX := zhd (HS.out h.ep (bits .or .i64 h.st 8) (bits .or .i64 (bits .or .i64 h.st 8) 128))
   have HZZ : Hid ((((w0.setCell ⟨w.heap.size, 32, none⟩ (.int .i64 h.ep)).setCell ⟨w.heap.size, 33, none⟩ (.int .i64 (bits .or .i64 h.st 8))).setCell ⟨w.heap.size, 33, none⟩ (.int .i64 (bits .or .i64 (bits .or .i64 h.st 8) 128))).heap[w.heap.size + 1]? = some (.cells zA 56 (0, 0))) := zay (by omega) (zay (by omega) (zay (by omega) hz))
   have HBB : Hid (Below w.heap.size w (((w0.setCell ⟨w.heap.size, 32, none⟩ (.int .i64 h.ep)).setCell ⟨w.heap.size, 33, none⟩ (.int .i64 (bits .or .i64 h.st 8))).setCell ⟨w.heap.size, 33, none⟩ (.int .i64 (bits .or .i64 (bits .or .i64 h.st 8) 128)))) := zaj (zaj (zaj hb0 (Nat.le_refl _) _) (Nat.le_refl _) _) (Nat.le_refl _) _
   clear hz
   go_enter Tryz.func111, Tryz.ntmps111
   go_upto_region 1 with (fail)
   change Code.wp _ _ _ _ ((w.alloc (.cells (hA h) 56)).alloc (.cells zA 56))
   rw [← HW.out]
   go_upto_region 6 with (fail)
   clear c32 c33 c36 f32 f33 hq
   go_wp2_with (first | (refine wpList_load_row rfl 56 _ rfl (w.heap.size) rfl 56 (hA ({ h with pc := h.ep, st := bits .or .i64 (bits .or .i64 h.st 8) 128 })) (0, 0) _ HXX.out Tryz.underlying56 rfl (zaU (zaw ({ h with pc := h.ep, st := bits .or .i64 (bits .or .i64 h.st 8) 128 }) h32)) ?_) | (refine wpList_store_row rfl 56 _ _ rfl (w.heap.size + 1) (hA ({ h with pc := h.ep, st := bits .or .i64 (bits .or .i64 h.st 8) 128 })) rfl rfl 56 zA HZZ.out (zaU (zaw ({ h with pc := h.ep, st := bits .or .i64 (bits .or .i64 h.st 8) 128 }) h32)) (by rw [zaw ({ h with pc := h.ep, st := bits .or .i64 (bits .or .i64 h.st 8) 128 }) h32]; rfl) (zbj ({ h with pc := h.ep, st := bits .or .i64 (bits .or .i64 h.st 8) 128 })) ?_))
   exact bodyPost_ret (v := .agg (hA ({ h with pc := h.ep, st := bits .or .i64 (bits .or .i64 h.st 8) 128 }))) (results_cell_row rfl _ _ (w.heap.size + 1) 56 (hA ({ h with pc := h.ep, st := bits .or .i64 (bits .or .i64 h.st 8) 128 })) (0, 0) _ rfl (setRow_heap _ _ _ _ _ _ HZZ.out) Tryz.underlying56 rfl (zaU (zaw ({ h with pc := h.ep, st := bits .or .i64 (bits .or .i64 h.st 8) 128 }) h32))) rfl ⟨by rw [HEE.out], below_setRow HBB.out (by omega) _⟩
set_option maxHeartbeats 4000000 in
theorem zkU (h : Ht) (c : Int) (w : World) (h32 : h.r.length = 32) :
 Calls Tryz.prog 79 #[.agg (hA h), .int .i64 c] w fun e w' => e = .returned (.agg (hA (zgd h c))) ∧ Below w.heap.size w w' := by
 obtain ⟨g32, g33, g34, _, g36, g37, _⟩ := zbr h h32
 obtain ⟨w0, hw0, hx, hz, hb0, hs0⟩ := zcW w (.cells (hA h) 56) (.cells zA 56)
 have c32 := zad hx g32; have c33 := zad hx g33; have c34 := zad hx g34; have c36 := zad hx g36; have c37 := zad hx g37
 have f32 := zaa hx 32; have f33 := zaa hx 33; have f36 := zaa hx 36; have f37 := zaa hx 37
 have HW := zhd hw0
 have HS : Hid (∀ v1 v2 v3 v4 : Int, ((((w0.setCell ⟨w.heap.size, 36, none⟩ (.int .i64 v1)).setCell ⟨w.heap.size, 37, none⟩ (.int .i64 v2)).setCell ⟨w.heap.size, 32, none⟩ (.int .i64 v3)).setCell ⟨w.heap.size, 33, none⟩ (.int .i64 v4)).heap[w.heap.size]? = some (.cells (hA { h with pc := v3, st := v4, ep := v1, ca := v2 }) 56 (0, 0))) := by
  intro v1 v2 v3 v4
  have s1 := zbS hx 36 (.int .i64 v1) _ (hA_ep h h32 v1)
  have s2 := zbS s1 37 (.int .i64 v2) _ (hA_ca { h with ep := v1 } h32 v2)
  have s3 := zbS s2 32 (.int .i64 v3) _ (zhN { h with ep := v1, ca := v2 } h32 v3)
  exact zbS s3 33 (.int .i64 v4) _ (hA_st { h with ep := v1, ca := v2, pc := v3 } h32 v4)
 clear hx g32 g33 g34 g36 g37 hw0
 cases hq : (bits .and .i64 h.st 8 != 0)
 · have HEE : Hid (zgd h c = { h with pc := h.ve, st := 0, ep := h.pc, ca := wrap32 c }) := by unfold zgd zkV; rw [hq]; exact rfl
   have HXX : Hid ((((((w0.setCell ⟨w.heap.size, 36, none⟩ (.int .i64 h.pc)).setCell ⟨w.heap.size, 37, none⟩ (.int .i64 (wrap32 c))).setCell ⟨w.heap.size, 32, none⟩ (.int .i64 h.ve)).setCell ⟨w.heap.size, 33, none⟩ (.int .i64 0)).drew).heap[w.heap.size]? = some (.cells (hA ({ h with pc := h.ve, st := 0, ep := h.pc, ca := wrap32 c })) 56 (0, 0))) := HS.out h.pc (wrap32 c) h.ve 0
   have HZZ : Hid ((((((w0.setCell ⟨w.heap.size, 36, none⟩ (.int .i64 h.pc)).setCell ⟨w.heap.size, 37, none⟩ (.int .i64 (wrap32 c))).setCell ⟨w.heap.size, 32, none⟩ (.int .i64 h.ve)).setCell ⟨w.heap.size, 33, none⟩ (.int .i64 0)).drew).heap[w.heap.size + 1]? = some (.cells zA 56 (0, 0))) := zay (by omega) (zay (by omega) (zay (by omega) (zay (by omega) hz)))
   have HBB : Hid (Below w.heap.size w (((((w0.setCell ⟨w.heap.size, 36, none⟩ (.int .i64 h.pc)).setCell ⟨w.heap.size, 37, none⟩ (.int .i64 (wrap32 c))).setCell ⟨w.heap.size, 32, none⟩ (.int .i64 h.ve)).setCell ⟨w.heap.size, 33, none⟩ (.int .i64 0)).drew)) := zak (zaj (zaj (zaj (zaj hb0 (Nat.le_refl _) _) (Nat.le_refl _) _) (Nat.le_refl _) _) (Nat.le_refl _) _)
   clear hz
   go_enter Tryz.func79, Tryz.ntmps79
   go_upto_region 1 with (fail)
   change Code.wp _ _ _ _ ((w.alloc (.cells (hA h) 56)).alloc (.cells zA 56))
   rw [← HW.out]
   go_upto_region 4 with (fail)
   go_region_with (go_at_call 124; refine (zaX _ _).mono ?_; rintro e w' ⟨rfl, rfl⟩)
   all_goals
    clear c32 c33 c34 c36 c37 f32 f33 f36 f37 hq
    go_wp2_with (first | (refine wpList_load_row rfl 56 _ rfl (w.heap.size) rfl 56 (hA ({ h with pc := h.ve, st := 0, ep := h.pc, ca := wrap32 c })) (0, 0) _ HXX.out Tryz.underlying56 rfl (zaU (zaw ({ h with pc := h.ve, st := 0, ep := h.pc, ca := wrap32 c }) h32)) ?_) | (refine wpList_store_row rfl 56 _ _ rfl (w.heap.size + 1) (hA ({ h with pc := h.ve, st := 0, ep := h.pc, ca := wrap32 c })) rfl rfl 56 zA HZZ.out (zaU (zaw ({ h with pc := h.ve, st := 0, ep := h.pc, ca := wrap32 c }) h32)) (by rw [zaw ({ h with pc := h.ve, st := 0, ep := h.pc, ca := wrap32 c }) h32]; rfl) (zbj ({ h with pc := h.ve, st := 0, ep := h.pc, ca := wrap32 c })) ?_))
    exact bodyPost_ret (v := .agg (hA ({ h with pc := h.ve, st := 0, ep := h.pc, ca := wrap32 c }))) (results_cell_row rfl _ _ (w.heap.size + 1) 56 (hA ({ h with pc := h.ve, st := 0, ep := h.pc, ca := wrap32 c })) (0, 0) _ rfl (setRow_heap _ _ _ _ _ _ HZZ.out) Tryz.underlying56 rfl (zaU (zaw ({ h with pc := h.ve, st := 0, ep := h.pc, ca := wrap32 c }) h32))) rfl ⟨by rw [HEE.out], below_setRow HBB.out (by omega) _⟩
 · have HEE : Hid (zgd h c = { h with pc := h.ve, st := 128, ep := h.pc, ca := wrap32 c }) := by unfold zgd zkV; rw [hq]; exact rfl
   have HXX : Hid ((((((w0.setCell ⟨w.heap.size, 36, none⟩ (.int .i64 h.pc)).setCell ⟨w.heap.size, 37, none⟩ (.int .i64 (wrap32 c))).setCell ⟨w.heap.size, 32, none⟩ (.int .i64 h.ve)).setCell ⟨w.heap.size, 33, none⟩ (.int .i64 128)).drew).heap[w.heap.size]? = some (.cells (hA ({ h with pc := h.ve, st := 128, ep := h.pc, ca := wrap32 c })) 56 (0, 0))) := HS.out h.pc (wrap32 c) h.ve 128
   have HZZ : Hid ((((((w0.setCell ⟨w.heap.size, 36, none⟩ (.int .i64 h.pc)).setCell ⟨w.heap.size, 37, none⟩ (.int .i64 (wrap32 c))).setCell ⟨w.heap.size, 32, none⟩ (.int .i64 h.ve)).setCell ⟨w.heap.size, 33, none⟩ (.int .i64 128)).drew).heap[w.heap.size + 1]? = some (.cells zA 56 (0, 0))) := zay (by omega) (zay (by omega) (zay (by omega) (zay (by omega) hz)))
   have HBB : Hid (Below w.heap.size w (((((w0.setCell ⟨w.heap.size, 36, none⟩ (.int .i64 h.pc)).setCell ⟨w.heap.size, 37, none⟩ (.int .i64 (wrap32 c))).setCell ⟨w.heap.size, 32, none⟩ (.int .i64 h.ve)).setCell ⟨w.heap.size, 33, none⟩ (.int .i64 128)).drew)) := zak (zaj (zaj (zaj (zaj hb0 (Nat.le_refl _) _) (Nat.le_refl _) _) (Nat.le_refl _) _) (Nat.le_refl _) _)
   clear hz
   go_enter Tryz.func79, Tryz.ntmps79
   go_upto_region 1 with (fail)
   change Code.wp _ _ _ _ ((w.alloc (.cells (hA h) 56)).alloc (.cells zA 56))
   rw [← HW.out]
   go_upto_region 4 with (fail)
   go_region_with (go_at_call 124; refine (zaX _ _).mono ?_; rintro e w' ⟨rfl, rfl⟩)
   all_goals
    clear c32 c33 c34 c36 c37 f32 f33 f36 f37 hq
    go_wp2_with (first | (refine wpList_load_row rfl 56 _ rfl (w.heap.size) rfl 56 (hA ({ h with pc := h.ve, st := 128, ep := h.pc, ca := wrap32 c })) (0, 0) _ HXX.out Tryz.underlying56 rfl (zaU (zaw ({ h with pc := h.ve, st := 128, ep := h.pc, ca := wrap32 c }) h32)) ?_) | (refine wpList_store_row rfl 56 _ _ rfl (w.heap.size + 1) (hA ({ h with pc := h.ve, st := 128, ep := h.pc, ca := wrap32 c })) rfl rfl 56 zA HZZ.out (zaU (zaw ({ h with pc := h.ve, st := 128, ep := h.pc, ca := wrap32 c }) h32)) (by rw [zaw ({ h with pc := h.ve, st := 128, ep := h.pc, ca := wrap32 c }) h32]; rfl) (zbj ({ h with pc := h.ve, st := 128, ep := h.pc, ca := wrap32 c })) ?_))
    exact bodyPost_ret (v := .agg (hA ({ h with pc := h.ve, st := 128, ep := h.pc, ca := wrap32 c }))) (results_cell_row rfl _ _ (w.heap.size + 1) 56 (hA ({ h with pc := h.ve, st := 128, ep := h.pc, ca := wrap32 c })) (0, 0) _ rfl (setRow_heap _ _ _ _ _ _ HZZ.out) Tryz.underlying56 rfl (zaU (zaw ({ h with pc := h.ve, st := 128, ep := h.pc, ca := wrap32 c }) h32))) rfl ⟨by rw [HEE.out], below_setRow HBB.out (by omega) _⟩
end
section
open Go.RowKit
theorem zbg {P : Program} {fn : Func} {p q : Tmp} {ty tz : TypeId} (h : fn.results = #[.cell p ty, .cell q tz]) (tmps : Array Value) (w : World) (g g' : Nat) (t t' : TypeId) (cs cs' : Array Value) (fr fr' : Nat × Nat) (d d' : TypeDesc)
 (hp : tmps.getD p undef = .pointer (some ⟨g, 0, none⟩)) (hq : tmps.getD q undef = .pointer (some ⟨g', 0, none⟩)) (hg : w.heap[g]? = some (.cells cs t fr)) (hg' : w.heap[g']? = some (.cells cs' t' fr'))
 (hu : P.underlying ty = some d) (hd : (match d with | .struct _ | .array _ _ => true | _ => false) = true) (hi : (P.info? ty).map (·.size) = some cs.size)
 (hu' : P.underlying tz = some d') (hd' : (match d' with | .struct _ | .array _ _ => true | _ => false) = true) (hi' : (P.info? tz).map (·.size) = some cs'.size) :
 (results fn tmps).run P w = .ok (.tuple #[.agg cs, .agg cs']) w := by
 have hp' : tmps[p]?.getD undef = .pointer (some ⟨g, 0, none⟩) := by simpa using hp
 have hq' : tmps[q]?.getD undef = .pointer (some ⟨g', 0, none⟩) := by simpa using hq
 simp [results, h, hp', hq', asAddr, run_loadVar_row w g t ty cs fr d hg hu hd hi, run_loadVar_row w g' t' tz cs' fr' d' hg' hu' hd' hi']
def zfj (csr : Int) (off : Nat) (bt : Int) : Prop := csr = 768 ∧ off = 33 ∧ bt = 136 ∨ csr = 773 ∧ off = 34 ∧ bt = -4 ∨ csr = 832 ∧ off = 35 ∧ bt = -1 ∨ csr = 833 ∧ off = 36 ∧ bt = -4 ∨ csr = 834 ∧ off = 37 ∧ bt = -1 ∨ csr = 1984 ∧ off = 38 ∧ bt = -1
set_option maxHeartbeats 2000000 in
theorem ziO (b : Nat) (csr : Int) (off : Nat) (bt : Int) (w : World) (h : zfj csr off bt) :
 Calls Tryz.prog 154 #[.pointer (some ⟨b, 0, none⟩), .int .i64 csr] w fun e w' => e = .returned (.tuple #[.pointer (some ⟨b, off, none⟩), .int .i64 bt]) ∧ w = w' := by
 rcases h with ⟨rfl, rfl, rfl⟩ | ⟨rfl, rfl, rfl⟩ | ⟨rfl, rfl, rfl⟩ | ⟨rfl, rfl, rfl⟩ | ⟨rfl, rfl, rfl⟩ | ⟨rfl, rfl, rfl⟩
 all_goals
  go_enter Tryz.func154, Tryz.ntmps154
  go_wp2_with fail
  go_ret2
  exact ⟨rfl, rfl⟩
def noCtl (csr : Int) : Prop := csr ≠ 768 ∧ csr ≠ 773 ∧ csr ≠ 832 ∧ csr ≠ 833 ∧ csr ≠ 834 ∧ csr ≠ 1984
theorem zgy (b : Nat) (csr : Int) (w : World) (h : noCtl csr) :
 Calls Tryz.prog 154 #[.pointer (some ⟨b, 0, none⟩), .int .i64 csr] w fun e w' => e = .returned (.tuple #[.pointer none, .int .i64 0]) ∧ w = w' := by
 obtain ⟨a1, a2, a3, a4, a5, a6⟩ := h
 have q1 := beq_eq_false_iff_ne.2 a1; have q2 := beq_eq_false_iff_ne.2 a2; have q3 := beq_eq_false_iff_ne.2 a3; have q4 := beq_eq_false_iff_ne.2 a4; have q5 := beq_eq_false_iff_ne.2 a5; have q6 := beq_eq_false_iff_ne.2 a6
 clear a1 a2 a3 a4 a5 a6
 go_enter Tryz.func154, Tryz.ntmps154
 go_wp2_with fail
 go_ret2
 exact ⟨rfl, rfl⟩
def getC (h : Ht) (off : Nat) : Int := if off = 33 then h.st else if off = 34 then h.ve else if off = 35 then h.sc else if off = 36 then h.ep else if off = 37 then h.ca else h.le
def setC (h : Ht) (off : Nat) (v : Int) : Ht := if off = 33 then { h with st := v } else if off = 34 then { h with ve := v } else if off = 35 then { h with sc := v } else if off = 36 then { h with ep := v } else if off = 37 then { h with ca := v } else { h with le := v }
theorem getC_at (h : Ht) (h32 : h.r.length = 32) (csr : Int) (off : Nat) (bt : Int) (hc : zfj csr off bt) : (hA h)[off]? = some (.int .i64 (getC h off)) := by
 obtain ⟨g32, g33, g34, g35, g36, g37, g38⟩ := zbr h h32
 rcases hc with ⟨rfl, rfl, rfl⟩ | ⟨rfl, rfl, rfl⟩ | ⟨rfl, rfl, rfl⟩ | ⟨rfl, rfl, rfl⟩ | ⟨rfl, rfl, rfl⟩ | ⟨rfl, rfl, rfl⟩
 · exact g33
 · exact g34
 · exact g35
 · exact g36
 · exact g37
 · exact g38
theorem setC_at (h : Ht) (h32 : h.r.length = 32) (csr : Int) (off : Nat) (bt : Int) (hc : zfj csr off bt) (v : Int) : (hA h).setIfInBounds off (.int .i64 v) = hA (setC h off v) := by
 rcases hc with ⟨rfl, rfl, rfl⟩ | ⟨rfl, rfl, rfl⟩ | ⟨rfl, rfl, rfl⟩ | ⟨rfl, rfl, rfl⟩ | ⟨rfl, rfl, rfl⟩ | ⟨rfl, rfl, rfl⟩
 · exact hA_st h h32 v
 · exact hA_ve h h32 v
 · exact hA_sc h h32 v
 · exact hA_ep h h32 v
 · exact hA_ca h h32 v
 · exact hA_le h h32 v
theorem zgF {h : Ht} (h32 : h.r.length = 32) (off : Nat) (v : Int) : (setC h off v).r.length = 32 := by
 unfold setC
 repeat' split
 all_goals exact h32
end
section
open Go.RowKit
theorem zcB (w : World) (o1 o2 o3 o4 : Obj) : ∃ w0 : World, w0 = (((w.alloc o1).alloc o2).alloc o3).alloc o4 ∧ w0.heap[w.heap.size]? = some o1 ∧ w0.heap[w.heap.size + 1]? = some o2 ∧ w0.heap[w.heap.size + 2]? = some o3 ∧ w0.heap[w.heap.size + 3]? = some o4 ∧ Below w.heap.size w w0 ∧ w.heap.size + 4 ≤ w0.heap.size := by
 refine ⟨_, rfl, ?_, ?_, ?_, ?_, zag (zag (zag (zag (Below.refl _ _) _) _) _) _, by simp⟩
 · exact zaq (B := (w.alloc o1).heap.size) (zag (zag (zag (Below.refl _ _) _) _) _) (by simp) (zat w o1)
 · exact zaq (B := ((w.alloc o1).alloc o2).heap.size) (zag (zag (Below.refl _ _) _) _) (by simp) (zc0 _ _ _ (by simp))
 · exact zaq (B := (((w.alloc o1).alloc o2).alloc o3).heap.size) (zag (Below.refl _ _) _) (by simp) (zc0 _ _ _ (by simp))
 · exact zc0 _ _ _ (by simp)
def effZ : Array Value := #[.int .i64 0, .int .i64 0, .int .i64 0, .int .i64 0, .int .i64 0]
def ctlN (h : Ht) (x : Ins) : Int := h.r.getD x.a.toNat 0
def ctlH (h : Ht) (x : Ins) (off : Nat) (bt : Int) : Ht :=
 putH { setC h off (bits .and .i64 (zcS x.op (getC h off) (ctlN h x)) bt) with pc := wrap32 (h.pc + 4) } x.d (getC h off)
def ctlI (h : Ht) (id : Int) (x : Ins) : Ht := putH { h with pc := wrap32 (h.pc + 4) } x.d (wrap32 id)
set_option maxHeartbeats 8000000 in
theorem zcl (h : Ht) (id : Int) (x : Ins) (off : Nat) (bt : Int) (w : World) (h32 : h.r.length = 32) (ha : 0 ≤ x.a ∧ x.a < 32) (hc : zfj x.n off bt) :
 Calls Tryz.prog 112 #[.agg (hA h), .int .i64 id, insV x] w fun e w' => e = .returned (.tuple #[.agg (hA (ctlH h x off bt)), effV ⟨0, 0, 0, 0, 0⟩]) ∧ Below w.heap.size w w' := by
 obtain ⟨op, d, a, b, n⟩ := x
 simp only at ha hc
 obtain ⟨k, rfl, hk⟩ : ∃ k : Nat, a = k ∧ k < 32 := ⟨a.toNat, by omega, by omega⟩
 have ho1 : ¬ off = 32 := by unfold zfj at hc; omega
 have ho2 : ¬ 32 = off := by omega
 have ho3 : off < 39 := by unfold zfj at hc; omega
 obtain ⟨w0, hw0, hx, hi, hz, hy, hb0, hs0⟩ := zcB w (.cells (hA h) 56) (.cells #[.int .i64 op, .int .i64 d, .int .i64 k, .int .i64 b, .int .i64 n] 72) (.cells zA 56) (.cells effZ 131)
 have g32 := (zbr h h32).1
 have ck := zad hx (hA_r h h32 k hk)
 have c32 := zad hx g32
 have f32 := zaa hx 32
 have cf := zad hx (getC_at h h32 n off bt hc)
 have ff := zaa hx off
 have i0 := zad hi (j := 0) (u := .int .i64 op) rfl
 have i1 := zad hi (j := 1) (u := .int .i64 d) rfl
 have i2 := zad hi (j := 2) (u := .int .i64 k) rfl
 have i4 := zad hi (j := 4) (u := .int .i64 n) rfl
 have HC := zhd hc
 have HR : Hid (ctlH h ⟨op, d, k, b, n⟩ off bt = putH { setC h off (bits .and .i64 (zcS op (getC h off) (h.r.getD k 0)) bt) with pc := wrap32 (h.pc + 4) } d (getC h off)) := rfl
 have HX : Hid (∀ v p : Int, ((w0.setCell ⟨w.heap.size, off, none⟩ (.int .i64 v)).setCell ⟨w.heap.size, 32, none⟩ (.int .i64 p)).heap[w.heap.size]? = some (.cells (hA { setC h off v with pc := p }) 56 (0, 0))) := by
  intro v p
  have s1 := zbS hx off (.int .i64 v) _ (setC_at h h32 n off bt hc v)
  exact zbS s1 32 (.int .i64 p) _ (zhN (setC h off v) (zgF h32 off v) p)
 have HL := zhd (fun v => zgF h32 off v)
 have F3 := zhd (zdH (h.pc + 4))
 have HW := zhd hw0
 have HZ := zhd hz
 have HY := zhd hy
 rw [HR.out]
 clear hx hi hz hy hw0 g32 hc HR
 generalize h.r.getD k 0 = rn at *
 generalize getC h off = old at *
 unfold insV
 go_enter Tryz.func112, Tryz.ntmps112
 go_upto_region 1 with (fail)
 change Code.wp _ _ _ _ ((((w.alloc (.cells (hA h) 56)).alloc (.cells #[.int .i64 op, .int .i64 d, .int .i64 k, .int .i64 b, .int .i64 n] 72)).alloc (.cells zA 56)).alloc (.cells effZ 131))
 rw [← HW.out]
 go_upto_region 10 with (first | (go_at_call 124; refine (zaX _ _).mono ?_; rintro e w' ⟨rfl, rfl⟩) | (go_at_call 154; refine (ziO _ n off bt _ HC.out).mono ?_; rintro e w' ⟨rfl, rfl⟩) | (go_at_call 155; refine (ziQ _ _ _ _).mono ?_; rintro e w' ⟨rfl, rfl⟩))
 rw [F3.out]
 have hx1 := HX.out (bits .and .i64 (zcS op old rn) bt) (wrap32 (h.pc + 4))
 have hl1 : ({ setC h off (bits .and .i64 (zcS op old rn) bt) with pc := wrap32 (h.pc + 4) } : Ht).r.length = 32 := HL.out _
 obtain ⟨w1, hw1⟩ : ∃ w1 : World, w1 = (w0.setCell ⟨w.heap.size, off, none⟩ (.int .i64 (bits .and .i64 (zcS op old rn) bt))).setCell ⟨w.heap.size, 32, none⟩ (.int .i64 (wrap32 (h.pc + 4))) := ⟨_, rfl⟩
 have hz1 : w1.heap[w.heap.size + 2]? = some (.cells zA 56 (0, 0)) := by rw [hw1]; exact zay (by omega) (zay (by omega) HZ.out)
 have hy1 : w1.heap[w.heap.size + 3]? = some (.cells effZ 131 (0, 0)) := by rw [hw1]; exact zay (by omega) (zay (by omega) HY.out)
 have j1 : w1.cell? ⟨w.heap.size + 1, 1, none⟩ = some (.int .i64 d) := by rw [hw1, zbU (by omega), zbU (by omega)]; exact i1
 have hb1 : Below w.heap.size w w1 := by rw [hw1]; exact zaj (zaj hb0 (Nat.le_refl _) _) (Nat.le_refl _) _
 have hs1 : w.heap.size + 4 ≤ w1.heap.size := by rw [hw1, zaH, zaH]; exact hs0
 rw [← hw1] at hx1 ⊢
 have HX1 := zhd hx1; have HZ1 := zhd hz1; have HY1 := zhd hy1; have HL1 := zhd hl1
 clear hw1 hx1 hz1 hy1 hl1 HX HZ HY HL HW F3 i0 i1 i2 i4 c32 f32 cf ff ck hb0 hs0 HC
 generalize hh2 : ({ setC h off (bits .and .i64 (zcS op old rn) bt) with pc := wrap32 (h.pc + 4) } : Ht) = h2 at *
 have HH2 := zhd hh2; clear hh2
 go_wp2_with (refine wpList_load_row rfl 56 _ rfl (w.heap.size) rfl 56 (hA h2) (0, 0) _ HX1.out Tryz.underlying56 rfl (zaU (zaw h2 HL1.out)) ?_)
 refine (zcZ h2 d old _ HL1.out).mono ?_
 rintro e w5 ⟨rfl, hb5⟩
 have hz5 := zaq hb5 (by omega) HZ1.out
 have hy5 := zaq hb5 (by omega) HY1.out
 have hl5 := zcq HL1.out d old
 have HZ5 := zhd hz5; have HY5 := zhd (zbf (by omega) hy5 : (w5.setRow (w.heap.size + 2) (hA (putH h2 d old))).heap[w.heap.size + 3]? = _); have HL5 := zhd hl5
 clear hz5 hy5 hl5 j1
 generalize hh5 : putH h2 d old = h5 at *
 have HH5 := zhd hh5; clear hh5
 go_wp2_with (first | (refine wpList_store_row rfl 56 _ _ rfl (w.heap.size + 2) (hA h5) rfl rfl 56 zA HZ5.out (zaU (zaw h5 HL5.out)) (by rw [zaw h5 HL5.out]; rfl) (zbj h5) ?_) | (refine wpList_store_row rfl 131 _ _ rfl (w.heap.size + 3) effZ rfl rfl 131 effZ HY5.out (by kernel_rfl) rfl (by kernel_rfl) ?_))
 exact bodyPost_ret (v := .tuple #[.agg (hA h5), .agg effZ]) (zbg rfl _ _ (w.heap.size + 2) (w.heap.size + 3) 56 131 (hA h5) effZ (0, 0) (0, 0) _ _ rfl rfl (zbf (by omega) (setRow_heap _ _ _ _ _ _ HZ5.out)) (setRow_heap _ _ _ _ _ _ HY5.out) Tryz.underlying56 rfl (zaU (zaw h5 HL5.out)) Tryz.underlying131 rfl (by kernel_rfl)) rfl ⟨by rw [HH2.out, HH5.out]; rfl, below_setRow (below_setRow (by repeat (first | (with_reducible first | exact Below.refl _ _ | refine zaj ?_ ?_ _ | apply zag | refine zae ?_ (by assumption) | apply zak) | omega)) (by omega) _) (by omega) _⟩
set_option maxHeartbeats 8000000 in
theorem ziN (h : Ht) (id : Int) (x : Ins) (w : World) (h32 : h.r.length = 32) (ha : 0 ≤ x.a ∧ x.a < 32) (hc : x.n = 3860) :
 Calls Tryz.prog 112 #[.agg (hA h), .int .i64 id, insV x] w fun e w' => e = .returned (.tuple #[.agg (hA (ctlI h id x)), effV ⟨0, 0, 0, 0, 0⟩]) ∧ Below w.heap.size w w' := by
 obtain ⟨op, d, a, b, n⟩ := x
 simp only at ha hc
 obtain ⟨k, rfl, hk⟩ : ∃ k : Nat, a = k ∧ k < 32 := ⟨a.toNat, by omega, by omega⟩
 obtain ⟨w0, hw0, hx, hi, hz, hy, hb0, hs0⟩ := zcB w (.cells (hA h) 56) (.cells #[.int .i64 op, .int .i64 d, .int .i64 k, .int .i64 b, .int .i64 n] 72) (.cells zA 56) (.cells effZ 131)
 have g32 := (zbr h h32).1
 have ck := zad hx (hA_r h h32 k hk)
 have c32 := zad hx g32
 have f32 := zaa hx 32
 have i0 := zad hi (j := 0) (u := .int .i64 op) rfl
 have i1 := zad hi (j := 1) (u := .int .i64 d) rfl
 have i2 := zad hi (j := 2) (u := .int .i64 k) rfl
 have i4 := zad hi (j := 4) (u := .int .i64 n) rfl
 have F3 := zhd (zdH (h.pc + 4))
 have HW := zhd hw0
 have HZ := zhd hz
 have HY := zhd hy
 have HX0 := zhd hx
 clear hx hi hz hy hw0 g32
 subst hc
 have HR : Hid (ctlI h id ⟨op, d, k, b, 3860⟩ = putH { h with pc := wrap32 (h.pc + 4) } d (wrap32 id)) := rfl
 rw [HR.out]
 clear HR
 have hcn : noCtl 3860 := by unfold noCtl; omega
 have HCN := zhd hcn; clear hcn
 unfold insV
 go_enter Tryz.func112, Tryz.ntmps112
 go_upto_region 1 with (fail)
 change Code.wp _ _ _ _ ((((w.alloc (.cells (hA h) 56)).alloc (.cells #[.int .i64 op, .int .i64 d, .int .i64 k, .int .i64 b, .int .i64 3860] 72)).alloc (.cells zA 56)).alloc (.cells effZ 131))
 rw [← HW.out]
 go_upto_region 10 with (first | (go_at_call 124; refine (zaX _ _).mono ?_; rintro e w' ⟨rfl, rfl⟩) | (go_at_call 154; refine (zgy _ 3860 _ HCN.out).mono ?_; rintro e w' ⟨rfl, rfl⟩))
 rw [F3.out]
 have hx1 := zbS HX0.out 32 (.int .i64 (wrap32 (h.pc + 4))) _ (zhN h h32 (wrap32 (h.pc + 4)))
 have hl1 : ({ h with pc := wrap32 (h.pc + 4) } : Ht).r.length = 32 := h32
 obtain ⟨w1, hw1⟩ : ∃ w1 : World, w1 = w0.setCell ⟨w.heap.size, 32, none⟩ (.int .i64 (wrap32 (h.pc + 4))) := ⟨_, rfl⟩
 have hz1 : w1.heap[w.heap.size + 2]? = some (.cells zA 56 (0, 0)) := by rw [hw1]; exact zay (by omega) HZ.out
 have hy1 : w1.heap[w.heap.size + 3]? = some (.cells effZ 131 (0, 0)) := by rw [hw1]; exact zay (by omega) HY.out
 have j1 : w1.cell? ⟨w.heap.size + 1, 1, none⟩ = some (.int .i64 d) := by rw [hw1, zbU (by omega)]; exact i1
 have hb1 : Below w.heap.size w w1 := by rw [hw1]; exact zaj hb0 (Nat.le_refl _) _
 have hs1 : w.heap.size + 4 ≤ w1.heap.size := by rw [hw1, zaH]; exact hs0
 rw [← hw1] at hx1 ⊢
 have HX1 := zhd hx1; have HZ1 := zhd hz1; have HY1 := zhd hy1; have HL1 := zhd hl1
 clear hw1 hx1 hz1 hy1 hl1 HX0 HZ HY HW F3 i0 i1 i2 i4 c32 f32 ck hb0 hs0 HCN
 generalize hh2 : ({ h with pc := wrap32 (h.pc + 4) } : Ht) = h2 at *
 have HH2 := zhd hh2; clear hh2
 go_wp2_with (refine wpList_load_row rfl 56 _ rfl (w.heap.size) rfl 56 (hA h2) (0, 0) _ HX1.out Tryz.underlying56 rfl (zaU (zaw h2 HL1.out)) ?_)
 refine (zcZ h2 d (wrap32 id) _ HL1.out).mono ?_
 rintro e w5 ⟨rfl, hb5⟩
 have hz5 := zaq hb5 (by omega) HZ1.out
 have hy5 := zaq hb5 (by omega) HY1.out
 have hl5 := zcq HL1.out d (wrap32 id)
 have HZ5 := zhd hz5; have HY5 := zhd (zbf (by omega) hy5 : (w5.setRow (w.heap.size + 2) (hA (putH h2 d (wrap32 id)))).heap[w.heap.size + 3]? = _); have HL5 := zhd hl5
 clear hz5 hy5 hl5 j1
 generalize hh5 : putH h2 d (wrap32 id) = h5 at *
 have HH5 := zhd hh5; clear hh5
 go_wp2_with (first | (refine wpList_store_row rfl 56 _ _ rfl (w.heap.size + 2) (hA h5) rfl rfl 56 zA HZ5.out (zaU (zaw h5 HL5.out)) (by rw [zaw h5 HL5.out]; rfl) (zbj h5) ?_) | (refine wpList_store_row rfl 131 _ _ rfl (w.heap.size + 3) effZ rfl rfl 131 effZ HY5.out (by kernel_rfl) rfl (by kernel_rfl) ?_))
 exact bodyPost_ret (v := .tuple #[.agg (hA h5), .agg effZ]) (zbg rfl _ _ (w.heap.size + 2) (w.heap.size + 3) 56 131 (hA h5) effZ (0, 0) (0, 0) _ _ rfl rfl (zbf (by omega) (setRow_heap _ _ _ _ _ _ HZ5.out)) (setRow_heap _ _ _ _ _ _ HY5.out) Tryz.underlying56 rfl (zaU (zaw h5 HL5.out)) Tryz.underlying131 rfl (by kernel_rfl)) rfl ⟨by rw [HH2.out, HH5.out]; rfl, below_setRow (below_setRow (by repeat (first | (with_reducible first | exact Below.refl _ _ | refine zaj ?_ ?_ _ | apply zag | refine zae ?_ (by assumption) | apply zak) | omega)) (by omega) _) (by omega) _⟩
set_option maxHeartbeats 8000000 in
theorem zhY (h : Ht) (id : Int) (x : Ins) (w : World) (h32 : h.r.length = 32) (ha : 0 ≤ x.a ∧ x.a < 32) (hc : noCtl x.n ∧ x.n ≠ 3860) :
 Calls Tryz.prog 112 #[.agg (hA h), .int .i64 id, insV x] w fun e w' => e = .returned (.tuple #[.agg (hA h), effV ⟨9, 0, 0, 0, 0⟩]) ∧ Below w.heap.size w w' := by
 obtain ⟨op, d, a, b, n⟩ := x
 simp only at ha hc
 obtain ⟨k, rfl, hk⟩ : ∃ k : Nat, a = k ∧ k < 32 := ⟨a.toNat, by omega, by omega⟩
 obtain ⟨w0, hw0, hx, hi, hz, hy, hb0, hs0⟩ := zcB w (.cells (hA h) 56) (.cells #[.int .i64 op, .int .i64 d, .int .i64 k, .int .i64 b, .int .i64 n] 72) (.cells zA 56) (.cells effZ 131)
 have g32 := (zbr h h32).1
 have ck := zad hx (hA_r h h32 k hk)
 have c32 := zad hx g32
 have f32 := zaa hx 32
 have i0 := zad hi (j := 0) (u := .int .i64 op) rfl
 have i1 := zad hi (j := 1) (u := .int .i64 d) rfl
 have i2 := zad hi (j := 2) (u := .int .i64 k) rfl
 have i4 := zad hi (j := 4) (u := .int .i64 n) rfl
 have F3 := zhd (zdH (h.pc + 4))
 have HW := zhd hw0
 have HZ := zhd hz
 have HY := zhd hy
 have HX0 := zhd hx
 clear hx hi hz hy hw0 g32
 have q := bne_iff_ne.2 hc.2
 have HCN := zhd hc.1; clear hc
 unfold insV
 go_enter Tryz.func112, Tryz.ntmps112
 go_upto_region 1 with (fail)
 change Code.wp _ _ _ _ ((((w.alloc (.cells (hA h) 56)).alloc (.cells #[.int .i64 op, .int .i64 d, .int .i64 k, .int .i64 b, .int .i64 n] 72)).alloc (.cells zA 56)).alloc (.cells effZ 131))
 rw [← HW.out]
 go_wp2_with (first | (go_at_call 124; refine (zaX _ _).mono ?_; rintro e w' ⟨rfl, rfl⟩) | (go_at_call 154; refine (zgy _ n _ HCN.out).mono ?_; rintro e w' ⟨rfl, rfl⟩) | (refine wpList_load_row rfl 56 _ rfl (w.heap.size) rfl 56 (hA h) (0, 0) _ HX0.out Tryz.underlying56 rfl (zaU (zaw h h32)) ?_) | (refine wpList_store_row rfl 56 _ _ rfl (w.heap.size + 2) (hA h) rfl rfl 56 zA HZ.out (zaU (zaw h h32)) (by rw [zaw h h32]; rfl) (zbj h) ?_) | (refine wpList_store_row rfl 131 _ _ rfl (w.heap.size + 3) #[.int .i64 9, .int .i64 0, .int .i64 0, .int .i64 0, .int .i64 0] rfl rfl 131 effZ (zbf (by omega) HY.out) (by kernel_rfl) rfl (by kernel_rfl) ?_))
 exact bodyPost_ret (v := .tuple #[.agg (hA h), effV ⟨9, 0, 0, 0, 0⟩]) (zbg rfl _ _ (w.heap.size + 2) (w.heap.size + 3) 56 131 (hA h) #[.int .i64 9, .int .i64 0, .int .i64 0, .int .i64 0, .int .i64 0] (0, 0) (0, 0) _ _ rfl rfl (zbf (by omega) (setRow_heap _ _ _ _ _ _ HZ.out)) (setRow_heap _ _ _ _ _ _ (zbf (by omega) HY.out)) Tryz.underlying56 rfl (zaU (zaw h h32)) Tryz.underlying131 rfl (by kernel_rfl)) rfl ⟨rfl, below_setRow (below_setRow hb0 (by omega) _) (by omega) _⟩
end
end Go.Proofs.YtdobddiibgfeaaaGreat
