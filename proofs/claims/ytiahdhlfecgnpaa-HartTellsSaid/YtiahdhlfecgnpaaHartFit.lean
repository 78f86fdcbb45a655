/-
  headstocklaw14: pick, and Fit: of raw numbers a hart.
-/
import Derived.Test.YtiahdhlfecgnpaaHartPut
import Derived.Test.YtiahdhlfecgnpaaPickMath
import Derived.Test.YtiahdhlfecgnpaaOpen
import Derived.Test.YtiahdhlfecgnpaaQuietTail
import Derived.WalkSpells
import Derived.WalkLawsBesides
import Derived.StillTailTactics
namespace Go.Proofs.Ytiahdhlfecgnpaa
open Go.RowKit
theorem pick14 (c n : Int) (w : World) (hc : I64 c) (hn : 0 < n ∧ n ≤ 9223372036854775807) :
    Calls Try.prog 15 #[.int .i64 c, .int .i64 n] w fun e w' => e = .returned (.int .i64 (pickN c n)) ∧ w = w' := by
  have hn0 : (n == 0) = false := by simp; omega
  have hb := pickN_bd c n hn.1
  by_cases h : c < 0
  · have E := Lib.hid (pick_neg c n h)
    go_enter Try.func15, Try.ntmps15
    go_wp2
    go_ret
    exact ⟨by rw [← E.out]; rfl, rfl⟩
  · have E := Lib.hid (pick_pos c n h)
    go_enter Try.func15, Try.ntmps15
    go_wp2
    go_ret
    exact ⟨by rw [← E.out]; rfl, rfl⟩
/-- A table of n numbers. -/
def tA (n : Nat) (f : Nat → Int) : Array Value := ((List.range n).map fun i => Value.int .i64 (f i)).toArray
theorem tA_get (n : Nat) (f : Nat → Int) (i : Nat) (h : i < n) : (tA n f)[i]? = some (.int .i64 (f i)) := by simp [tA, h]
theorem tA_congr {n : Nat} {f g : Nat → Int} (h : ∀ i, i < n → f i = g i) : tA n f = tA n g := by
  unfold tA; congr 1; apply List.map_congr_left; intro i hi; rw [h i (by simpa using hi)]
theorem tA_set (n : Nat) (f : Nat → Int) (k : Nat) (v : Int) : (tA n f).setIfInBounds k (.int .i64 v) = tA n (fun i => if i = k then v else f i) := by
  unfold tA
  rw [List.setIfInBounds_toArray]
  congr 1
  apply List.ext_getElem?
  intro i
  rw [List.getElem?_set]
  by_cases hi : i < n
  · by_cases hk : k = i
    · subst hk; simp [hi]
    · simp [hi, hk, Ne.symm hk]
  · by_cases hk : k = i
    · subst hk; simp [hi]
    · simp [hi, hk]
def z38 : Array Value := #[.int .i64 0, .int .i64 0, .int .i64 0, .int .i64 0, .int .i64 0, .int .i64 0, .int .i64 0, .int .i64 0, .int .i64 0, .int .i64 0, .int .i64 0, .int .i64 0, .int .i64 0, .int .i64 0, .int .i64 0, .int .i64 0, .int .i64 0, .int .i64 0, .int .i64 0, .int .i64 0, .int .i64 0, .int .i64 0, .int .i64 0, .int .i64 0, .int .i64 0, .int .i64 0, .int .i64 0, .int .i64 0, .int .i64 0, .int .i64 0, .int .i64 0, .int .i64 0, .int .i64 0, .int .i64 0, .int .i64 0, .int .i64 0, .int .i64 0, .int .i64 0]
theorem z38_eq : z38 = tA 38 (fun _ => 0) := by kernel_rfl
def fitI (raw : List Int) (i : Nat) : Int := if i < raw.length then wrap32 (raw.getD i 0) else 0
theorem fitI_bd (raw : List Int) (i : Nat) : -2147483648 ≤ fitI raw i ∧ fitI raw i ≤ 2147483647 := by
  unfold fitI wrap32; split <;> omega
def fitT (raw : List Int) (k : Nat) : Array Value := tA 38 (fun i => if i < k then fitI raw i else 0)
theorem fitT_zero (raw : List Int) : fitT raw 0 = z38 := by rw [z38_eq]; exact tA_congr (fun i _ => by simp)
theorem fitT_set (raw : List Int) (k : Nat) (h : k < raw.length) : (fitT raw k).setIfInBounds k (.int .i64 (wrap32 raw[k])) = fitT raw (k + 1) := by
  unfold fitT
  rw [tA_set]
  apply tA_congr
  intro i _
  by_cases e : i = k
  · subst e; simp [fitI, h]
  · simp [e, show i < k + 1 ↔ i < k by omega]
theorem fitT_all (raw : List Int) (k : Nat) (h : raw.length ≤ k ∨ 38 ≤ k) : fitT raw k = tA 38 (fitI raw) := by
  apply tA_congr
  intro i hi
  by_cases hk : i < k
  · simp [hk]
  · simp [hk]; unfold fitI; rw [if_neg (by omega)]
def stT (k : Nat) : Int := if k = 0 then 0 else if k = 1 then 8 else if k = 2 then 128 else 136
def fitRs (raw : List Int) (k : Nat) : List Int := (List.range 32).map fun i => if 1 ≤ i ∧ i < k then fitI raw (6 + i) else 0
theorem fitRs_len (raw : List Int) (k : Nat) : (fitRs raw k).length = 32 := by simp [fitRs]
theorem fitRs_set (raw : List Int) (k : Nat) (h : 1 ≤ k ∧ k < 32) : (fitRs raw k).set k (fitI raw (6 + k)) = fitRs raw (k + 1) := by
  unfold fitRs
  apply List.ext_getElem?
  intro i
  rw [List.getElem?_set]
  by_cases hi : i < 32
  · by_cases hk : k = i
    · subst hk; simp [hi, h]
    · simp [hi, hk, show (1 ≤ i ∧ i < k + 1) ↔ (1 ≤ i ∧ i < k) by omega]
  · by_cases hk : k = i
    · omega
    · simp [hi, hk]
theorem fitRs_one (raw : List Int) : fitRs raw 1 = List.replicate 32 0 := by
  rw [List.eq_replicate_iff]
  refine ⟨fitRs_len _ _, fun b hb => ?_⟩
  unfold fitRs at hb
  obtain ⟨i, _, rfl⟩ := List.mem_map.1 hb
  rw [if_neg (by omega)]
def fitHk (raw : List Int) (k : Nat) : Ht :=
  ⟨fitRs raw k, (fitI raw 0).tdiv 4 * 4, stT (pickN (fitI raw 1) 4).toNat, (fitI raw 2).tdiv 4 * 4, fitI raw 3, (fitI raw 4).tdiv 4 * 4, fitI raw 5, pickN (fitI raw 6) 8⟩
def fitH (raw : List Int) : Ht := fitHk raw 32
def hZ : Ht := ⟨List.replicate 32 0, 0, 0, 0, 0, 0, 0, 0⟩
theorem zA_eq : zA = hA hZ := by kernel_rfl
theorem three_new (w : World) (o1 o2 o3 : Obj) : ∃ w0 : World, w0 = ((w.alloc o1).alloc o2).alloc o3 ∧ w0.heap[w.heap.size]? = some o1 ∧ w0.heap[w.heap.size + 1]? = some o2 ∧ w0.heap[w.heap.size + 2]? = some o3 ∧ Below w.heap.size w w0 ∧ w0.heap.size = w.heap.size + 3 := by
  have b1 : Below (w.heap.size + 1) (w.alloc o1) ((w.alloc o1).alloc o2) := (Below.refl _ _).alloc (by simp) _
  have b2 : Below (w.heap.size + 2) ((w.alloc o1).alloc o2) (((w.alloc o1).alloc o2).alloc o3) := (Below.refl _ _).alloc (by simp) _
  refine ⟨_, rfl, ?_, ?_, ?_, (((Below.refl _ _).alloc (Nat.le_refl _) _).alloc (by simp) _).alloc (by simp; omega) _, by simp⟩
  · exact bel_in b2 (by omega) (bel_in b1 (by omega) (new_in w o1))
  · exact bel_in b2 (by omega) (heap_alloc2_new w o1 o2)
  · have := new_in ((w.alloc o1).alloc o2) o3
    rwa [show ((w.alloc o1).alloc o2).heap.size = w.heap.size + 2 by simp] at this
theorem quad_bd {a : Int} (h : -2147483648 ≤ a ∧ a ≤ 2147483647) : -2147483648 ≤ a.tdiv 4 * 4 ∧ a.tdiv 4 * 4 ≤ 2147483647 := by
  by_cases h0 : 0 ≤ a
  · rw [Int.tdiv_eq_ediv_of_nonneg h0]; omega
  · obtain ⟨b, rfl⟩ : ∃ b, a = -b := ⟨-a, by omega⟩
    rw [Int.neg_tdiv, Int.tdiv_eq_ediv_of_nonneg (by omega)]; omega
set_option maxRecDepth 100000 in
set_option maxHeartbeats 8000000 in
theorem hfit_any (v : Value) (l : List Int) (w : World) (ha : ArgS 1 c1 w v l) (hl : ∀ n ∈ l, I64 n) :
    Calls Try.prog 13 #[v] w fun e w' => e = .returned (.agg (hA (fitH l))) ∧ Below w.heap.size w w' := by
  obtain ⟨va, vc, rfl, hvc, hvm, hcells⟩ := ha
  unfold maxLen at hvm
  obtain ⟨w0, hw0, hx, hy, hz, hb0, hs0⟩ := three_new w (.cells zA 28) (.cells zA 28) (.cells z38 52)
  have HW := Lib.hid hw0; have HX := Lib.hid hx; have HY := Lib.hid hy; have HZ := Lib.hid hz; have HS0 := Lib.hid hs0; have HC := Lib.hid hcells
  have HL := Lib.hid hl
  clear hw0 hx hy hz hs0 hcells hl
  have hll : l.length ≤ 9223372036854775807 := by omega
  clear hvm
  go_enter Try.func13, Try.ntmps13
  go_wp2_with fail
  change Code.wp _ _ _ _ (((w.alloc (.cells zA 28)).alloc (.cells zA 28)).alloc (.cells z38 52))
  rw [← HW.out]
  go_loopw [5] (fun i wr => ∃ k : Nat, k ≤ l.length ∧ k ≤ 38 ∧ i = .int .i64 k ∧ wr.heap[w.heap.size + 2]? = some (.cells (fitT l k) 52 (0, 0)) ∧ wr.heap[w.heap.size + 1]? = some (.cells zA 28 (0, 0)) ∧ wr.heap[w.heap.size]? = some (.cells zA 28 (0, 0)) ∧ Below w.heap.size w wr) (fun i _ => 38 - (intOf i).toNat)
  case atStart => exact ⟨0, Nat.zero_le _, Nat.zero_le _, rfl, by rw [fitT_zero]; exact HZ.out, HY.out, HX.out, hb0⟩
  case round =>
    obtain ⟨k, hk, hk38, rfl, hz, hy, hx, hbw⟩ := hrel
    have HZk := Lib.hid hz; have HYk := Lib.hid hy; have HXk := Lib.hid hx
    have hsz : w.heap.size + 2 < wr.heap.size := lt_in hz
    clear hz hy hx HX HY HZ HS0 HW hb0
    by_cases hlt : k < l.length ∧ k < 38
    · obtain ⟨hlt, hlt38⟩ := hlt
      obtain ⟨b, o, rfl, hblt, hcc⟩ := HC.out.resolve_left (by intro e; rw [e] at hlt; simp at hlt)
      have hjj : l[k]? = some l[k] := by simp [hlt]
      have g1 : wr.cell? ⟨b, o + k, none⟩ = some (.int .i64 l[k]) := by
        rw [hbw.cell (p := ⟨b, o + k, none⟩) hblt]
        have := hcc k _ hjj 0 _ rfl
        simpa using this
      have HST := Lib.hid (set_heap HZk.out k (.int .i64 (wrap32 l[k])) _ (fitT_set l k hlt))
      have cz := cell_in HZk.out (j := k) (tA_get 38 _ k hlt38)
      have fz := frozen_in HZk.out k
      have cz2 := Lib.hid cz
      clear hjj hcc
      generalize l[k] = x at *
      generalize (if k < k then fitI l k else 0) = y at *
      clear cz2
      go_wp2_with (go_at_call 24; refine (wrap_any _ _).mono ?_; rintro e w' ⟨rfl, rfl⟩)
      refine ⟨⟨k + 1, by omega, by omega, by go_num, HST.out, ?_, ?_, ?_⟩, by simp [intOf]; omega⟩
      · exact heap_set_ne (by omega) HYk.out
      · exact heap_set_ne (by omega) HXk.out
      · exact bw_set hbw (by omega) _
    · have HZA : Hid (wr.heap[w.heap.size + 2]? = some (.cells (tA 38 (fitI l)) 52 (0, 0))) := by rw [← fitT_all l k (by omega)]; exact HZk.out
      have cl := fun j (hj : j < 38) => cell_in HZA.out (tA_get 38 (fitI l) j hj)
      have c0 := cl 0 (by omega); have c1 := cl 1 (by omega); have c2 := cl 2 (by omega); have c3 := cl 3 (by omega); have c4 := cl 4 (by omega); have c5 := cl 5 (by omega); have c6 := cl 6 (by omega)
      have z32 := cell_in HYk.out (j := 32) (u := .int .i64 0) rfl
      have z33 := cell_in HYk.out (j := 33) (u := .int .i64 0) rfl
      have z34 := cell_in HYk.out (j := 34) (u := .int .i64 0) rfl
      have z35 := cell_in HYk.out (j := 35) (u := .int .i64 0) rfl
      have z36 := cell_in HYk.out (j := 36) (u := .int .i64 0) rfl
      have z37 := cell_in HYk.out (j := 37) (u := .int .i64 0) rfl
      have z38 := cell_in HYk.out (j := 38) (u := .int .i64 0) rfl
      have y32 := frozen_in HYk.out 32; have y33 := frozen_in HYk.out 33; have y34 := frozen_in HYk.out 34; have y35 := frozen_in HYk.out 35; have y36 := frozen_in HYk.out 36; have y37 := frozen_in HYk.out 37; have y38 := frozen_in HYk.out 38
      have b0 := fitI_bd l 0; have b2 := fitI_bd l 2; have b4 := fitI_bd l 4; have b1 := fitI_bd l 1; have b6 := fitI_bd l 6
      have d0 := quad_bd b0; have d2 := quad_bd b2; have d4 := quad_bd b4
      clear cl
      have hk' : l.length ≤ k ∨ k = 38 := by omega
      clear hlt
      by_cases hlt : k < l.length
      all_goals (first | (have hlt1 : k < l.length := hlt; obtain rfl : k = 38 := (by omega); clear hk' hlt1; go_upto_region 8 with (fail)) | (have hlt' : decide (k < l.length) = false := decide_eq_false hlt; clear hk'; go_upto_region 8 with (fail)))
      all_goals
        obtain ⟨w1, hw1⟩ : ∃ w1 : World, w1 = wr.setCell ⟨w.heap.size + 1, 32, none⟩ (.int .i64 ((fitI l 0).tdiv 4 * 4)) := ⟨_, rfl⟩
        have HZ1 : Hid (w1.heap[w.heap.size + 2]? = some (.cells (tA 38 (fitI l)) 52 (0, 0))) := by rw [hw1]; exact heap_set_ne (by omega) HZA.out
        have HX1 : Hid (w1.heap[w.heap.size]? = some (.cells zA 28 (0, 0))) := by rw [hw1]; exact heap_set_ne (by omega) HXk.out
        have HY1 : Hid (w1.heap[w.heap.size + 1]? = some (.cells (hA { hZ with pc := (fitI l 0).tdiv 4 * 4 }) 28 (0, 0))) := by
          rw [hw1]; exact set_heap HYk.out 32 _ _ (by rw [zA_eq]; exact hA_pc hZ rfl _)
        have hb1 : Below w.heap.size w w1 := by rw [hw1]; exact bw_set hbw (by omega) _
        have hs1 : w.heap.size + 2 < w1.heap.size := lt_in HZ1.out
        clear hbw
        have hs1' : w.heap.size + 1 < w1.heap.size := by omega
        rw [← hw1]
        clear hw1 HZA HXk HYk c0 c1 c2 c3 c4 c5 c6 z32 z33 z34 z35 z36 z37 z38 y32 y33 y34 y35 y36 y37 y38 hsz
        have cl := fun j (hj : j < 38) => cell_in HZ1.out (tA_get 38 (fitI l) j hj)
        have c1 := cl 1 (by omega)
        obtain ⟨p, hp, hp4⟩ : ∃ p : Nat, pickN (fitI l 1) 4 = p ∧ p < 4 := ⟨(pickN (fitI l 1) 4).toNat, by have := pickN_bd (fitI l 1) 4 (by omega); omega, by have := pickN_bd (fitI l 1) 4 (by omega); omega⟩
        have HP := Lib.hid hp
        have hpc : (w1.alloc (.cells #[.int .i64 0, .int .i64 8, .int .i64 128, .int .i64 136] 3)).cell? ⟨w1.heap.size, p, none⟩ = some (.int .i64 (stT p)) := by
          refine cell_in (new_in _ _) ?_
          rcases (by omega : p = 0 ∨ p = 1 ∨ p = 2 ∨ p = 3) with rfl | rfl | rfl | rfl <;> rfl
        have hy33 := cell_in HY1.out (hA_fields { hZ with pc := (fitI l 0).tdiv 4 * 4 } rfl).2.1
        have fy33 := frozen_in HY1.out 33
        have ip0 : (0 : Int) ≤ (p : Int) := by omega
        have ip4 : (p : Int) < 4 := by omega
        clear cl hp hp4
        go_upto_region 9 with (go_at_call 15; refine (pick14 (fitI l 1) 4 _ ⟨by omega, by omega⟩ (by omega)).mono ?_; rw [HP.out]; rintro e w' ⟨rfl, rfl⟩)
        obtain ⟨w1s, hw1s⟩ : ∃ w1s : World, w1s = w1.setCell ⟨w.heap.size + 1, 33, none⟩ (.int .i64 (stT p)) := ⟨_, rfl⟩
        have hz1s : w1s.heap[w.heap.size + 2]? = some (.cells (tA 38 (fitI l)) 52 (0, 0)) := by rw [hw1s]; exact heap_set_ne (by omega) HZ1.out
        have hx1s : w1s.heap[w.heap.size]? = some (.cells zA 28 (0, 0)) := by rw [hw1s]; exact heap_set_ne (by omega) HX1.out
        have hy1s : w1s.heap[w.heap.size + 1]? = some (.cells (hA { hZ with pc := (fitI l 0).tdiv 4 * 4, st := stT p }) 28 (0, 0)) := by
          rw [hw1s]; exact set_heap HY1.out 33 _ _ (hA_st { hZ with pc := (fitI l 0).tdiv 4 * 4 } rfl _)
        have hb1s : Below w.heap.size w w1s := by rw [hw1s]; exact bw_set hb1 (by omega) _
        have hs1s := lt_in hz1s
        rw [← hw1s]
        obtain ⟨w2, hw2⟩ : ∃ w2 : World, w2 = w1s.alloc (.cells #[.int .i64 0, .int .i64 8, .int .i64 128, .int .i64 136] 3) := ⟨_, rfl⟩
        have hba : Below w1s.heap.size w1s w2 := by rw [hw2]; exact (Below.refl _ _).alloc (Nat.le_refl _) _
        have HZ2 := Lib.hid (bel_in hba (by omega) hz1s)
        have HX2 := Lib.hid (bel_in hba (by omega) hx1s)
        have HY2 := Lib.hid (bel_in hba (by omega) hy1s)
        have hb2 : Below w.heap.size w w2 := bw_tr hb1s hba
        have hs2 : w.heap.size + 2 < w2.heap.size := lt_in HZ2.out
        have hs2' : w.heap.size + 1 < w2.heap.size := by omega
        rw [← hw2]
        clear hw2 hba hw1s hz1s hx1s hy1s hb1s hs1s HZ1 HX1 HY1 hb1 hs1 c1 hpc hy33 fy33
        have cl := fun j (hj : j < 38) => cell_in HZ2.out (tA_get 38 (fitI l) j hj)
        have c2 := cl 2 (by omega); have c3 := cl 3 (by omega); have c4 := cl 4 (by omega); have c5 := cl 5 (by omega); have c6 := cl 6 (by omega)
        obtain ⟨_, _, g34, g35, g36, g37, g38⟩ := hA_fields { hZ with pc := (fitI l 0).tdiv 4 * 4, st := stT p } rfl
        have hy34 := cell_in HY2.out g34; have hy35 := cell_in HY2.out g35; have hy36 := cell_in HY2.out g36; have hy37 := cell_in HY2.out g37; have hy38 := cell_in HY2.out g38
        have y34 := frozen_in HY2.out 34; have y35 := frozen_in HY2.out 35; have y36 := frozen_in HY2.out 36; have y37 := frozen_in HY2.out 37; have y38 := frozen_in HY2.out 38
        have HYF : Hid ((((((w2.setCell ⟨w.heap.size + 1, 34, none⟩ (.int .i64 ((fitI l 2).tdiv 4 * 4))).setCell ⟨w.heap.size + 1, 35, none⟩ (.int .i64 (fitI l 3))).setCell ⟨w.heap.size + 1, 36, none⟩ (.int .i64 ((fitI l 4).tdiv 4 * 4))).setCell ⟨w.heap.size + 1, 37, none⟩ (.int .i64 (fitI l 5))).setCell ⟨w.heap.size + 1, 38, none⟩ (.int .i64 (pickN (fitI l 6) 8))).heap[w.heap.size + 1]? = some (.cells (hA (fitHk l 1)) 28 (0, 0))) := by
          have s1 := set_heap HY2.out 34 (.int .i64 ((fitI l 2).tdiv 4 * 4)) _ (hA_ve { hZ with pc := (fitI l 0).tdiv 4 * 4, st := stT p } rfl _)
          have s2 := set_heap s1 35 (.int .i64 (fitI l 3)) _ (hA_sc { hZ with pc := (fitI l 0).tdiv 4 * 4, st := stT p, ve := (fitI l 2).tdiv 4 * 4 } rfl _)
          have s3 := set_heap s2 36 (.int .i64 ((fitI l 4).tdiv 4 * 4)) _ (hA_ep { hZ with pc := (fitI l 0).tdiv 4 * 4, st := stT p, ve := (fitI l 2).tdiv 4 * 4, sc := fitI l 3 } rfl _)
          have s4 := set_heap s3 37 (.int .i64 (fitI l 5)) _ (hA_ca { hZ with pc := (fitI l 0).tdiv 4 * 4, st := stT p, ve := (fitI l 2).tdiv 4 * 4, sc := fitI l 3, ep := (fitI l 4).tdiv 4 * 4 } rfl _)
          have s5 := set_heap s4 38 (.int .i64 (pickN (fitI l 6) 8)) _ (hA_le { hZ with pc := (fitI l 0).tdiv 4 * 4, st := stT p, ve := (fitI l 2).tdiv 4 * 4, sc := fitI l 3, ep := (fitI l 4).tdiv 4 * 4, ca := fitI l 5 } rfl _)
          rw [s5]
          unfold fitHk
          rw [fitRs_one, HP.out]
          rfl
        clear cl g34 g35 g36 g37 g38
        have HP8 := pickN_bd (fitI l 6) 8 (by omega)
        go_upto_region 15 with (go_at_call 15; refine (pick14 (fitI l 6) 8 _ ⟨by omega, by omega⟩ (by omega)).mono ?_; rintro e w' ⟨rfl, rfl⟩)
        obtain ⟨w3, hw3⟩ : ∃ w3 : World, w3 = ((((w2.setCell ⟨w.heap.size + 1, 34, none⟩ (.int .i64 ((fitI l 2).tdiv 4 * 4))).setCell ⟨w.heap.size + 1, 35, none⟩ (.int .i64 (fitI l 3))).setCell ⟨w.heap.size + 1, 36, none⟩ (.int .i64 ((fitI l 4).tdiv 4 * 4))).setCell ⟨w.heap.size + 1, 37, none⟩ (.int .i64 (fitI l 5))).setCell ⟨w.heap.size + 1, 38, none⟩ (.int .i64 (pickN (fitI l 6) 8)) := ⟨_, rfl⟩
        have HZ3 : Hid (w3.heap[w.heap.size + 2]? = some (.cells (tA 38 (fitI l)) 52 (0, 0))) := by rw [hw3]; exact heap_set_ne (by omega) (heap_set_ne (by omega) (heap_set_ne (by omega) (heap_set_ne (by omega) (heap_set_ne (by omega) (HZ2.out)))))
        have HX3 : Hid (w3.heap[w.heap.size]? = some (.cells zA 28 (0, 0))) := by rw [hw3]; exact heap_set_ne (by omega) (heap_set_ne (by omega) (heap_set_ne (by omega) (heap_set_ne (by omega) (heap_set_ne (by omega) (HX2.out)))))
        have HY3 : Hid (w3.heap[w.heap.size + 1]? = some (.cells (hA (fitHk l 1)) 28 (0, 0))) := by rw [hw3]; exact HYF.out
        have hb3 : Below w.heap.size w w3 := by rw [hw3]; exact bw_set (bw_set (bw_set (bw_set (bw_set (hb2) (by omega) _) (by omega) _) (by omega) _) (by omega) _) (by omega) _
        rw [← hw3]
        clear hw3 HZ2 HX2 HY2 HYF hb2 c2 c3 c4 c5 c6 hy34 hy35 hy36 hy37 hy38 y34 y35 y36 y37 y38 hs2 hs2' HP8 d0 d2 d4 b0 b1 b2 b4 b6 HZk HC HL
        go_loopw [6] (fun i wr => ∃ k : Nat, 1 ≤ k ∧ k ≤ 32 ∧ i = .int .i64 k ∧ wr.heap[w.heap.size + 2]? = some (.cells (tA 38 (fitI l)) 52 (0, 0)) ∧ wr.heap[w.heap.size + 1]? = some (.cells (hA (fitHk l k)) 28 (0, 0)) ∧ wr.heap[w.heap.size]? = some (.cells zA 28 (0, 0)) ∧ Below w.heap.size w wr) (fun i _ => 32 - (intOf i).toNat)
        case atStart => exact ⟨1, by omega, by omega, rfl, HZ3.out, HY3.out, HX3.out, hb3⟩
        case round =>
          obtain ⟨k, hk1, hk32, rfl, hz, hy, hx, hbb⟩ := hrel
          have HZk := Lib.hid hz; have HYk := Lib.hid hy; have HXk := Lib.hid hx
          have hsz : w.heap.size + 2 < wr.heap.size := lt_in hz
          have hsz1 : w.heap.size + 1 < wr.heap.size := by omega
          clear hz hy hx HX3 HY3 HZ3 hb3
          by_cases hlt : k < 32
          · have cz := cell_in HZk.out (tA_get 38 (fitI l) (6 + k) (by omega))
            have cy := cell_in HYk.out (hA_r (fitHk l k) (fitRs_len l k) k hlt)
            have fy := frozen_in HYk.out k
            have HST := Lib.hid (set_heap HYk.out k (.int .i64 (fitI l (6 + k))) (hA (fitHk l (k + 1))) (by rw [hA_set_r (fitHk l k) (fitRs_len l k) k hlt]; unfold fitHk; simp only; rw [fitRs_set l k ⟨hk1, hlt⟩]))
            have e1 : (0 : Int) ≤ 6 + (k : Int) := by omega
            have e2 : (6 : Int) + (k : Int) < 38 := by omega
            have e3 : (6 + (k : Int)).toNat = 6 + k := by omega
            have e4 : (0 : Int) ≤ (k : Int) := by omega
            have e5 : (k : Int) < 32 := by omega
            generalize (fitHk l k).r.getD k 0 = y at *
            go_wp2_with fail
            refine ⟨⟨k + 1, by omega, by omega, by go_num, ?_, HST.out, ?_, ?_⟩, by simp [intOf]; omega⟩
            · exact heap_set_ne (by omega) HZk.out
            · exact heap_set_ne (by omega) HXk.out
            · exact bw_set hbb (by omega) _
          · obtain rfl : k = 32 := by omega
            have hfl : (fitH l).r.length = 32 := fitRs_len l 32
            have HYf : Hid (wr.heap[w.heap.size + 1]? = some (.cells (hA (fitH l)) 28 (0, 0))) := HYk
            clear HYk HZk
            generalize hh : fitH l = h at *
            have HH := Lib.hid hh; clear hh
            go_wp2_with (first | (refine wpList_load_row rfl 28 _ rfl (w.heap.size + 1) rfl 28 (hA h) (0, 0) _ HYf.out Try.underlying28 rfl (infoA (hA_size h hfl)) ?_) | (refine wpList_store_row rfl 28 _ _ rfl (w.heap.size) (hA h) rfl rfl 28 zA HXk.out (infoA (hA_size h hfl)) (by rw [hA_size h hfl]; rfl) (hA_one h) ?_))
            exact bodyPost_ret (v := .agg (hA h)) (results_cell_row rfl _ _ (w.heap.size) 28 (hA h) (0, 0) _ rfl (setRow_heap _ _ _ _ _ _ HXk.out) Try.underlying28 rfl (infoA (hA_size h hfl))) rfl ⟨by rw [HH.out], below_setRow hbb (Nat.le_refl _) _⟩
end Go.Proofs.Ytiahdhlfecgnpaa
