/-
  The contracts of code.Writes, code.Name, code.Reads.
-/
import Derived.Test.YtefebnicclbhjaaCodeRight
import Derived.Test.YtefebnicclbhjaaHeap
import Derived.LoopN
import Derived.Deep.QuietTactic
import Derived.BigQuiet
namespace Go.Proofs.Ytefebnicclbhjaa
open Go.RowKit
theorem right_lit' (x : Ins) (r : Bool) (w : World) (hr : rightB x = r) :
    Calls Try.prog 15 #[insV x] w fun e w' => e = .returned (.bool r) ∧ Below w.heap.size w w' := by subst hr; exact right_any x w
def writesN (x : Ins) : Int := if rightB x then x.d else 0
theorem writes_any (x : Ins) (w : World) :
    Calls Try.prog 22 #[insV x] w fun e w' => e = .returned (.int .i64 (writesN x)) ∧ Below w.heap.size w w' := by
  cases hr : rightB x
  all_goals
    have HE : Hid (writesN x = if rightB x then x.d else 0) := rfl
    have HR := Lib.hid hr; clear hr
    rw [HR.out] at HE
    obtain ⟨op, d, a, b, n⟩ := x
    unfold insV
    go_enter Try.func22, Try.ntmps22
    go_wp2_with fail
    refine (right_lit' ⟨op, d, a, b, n⟩ _ _ HR.out).mono ?_
    rintro e w1 ⟨rfl, hb1⟩
    obtain ⟨c1, f1⟩ := bcell hb1
    have z1 : w.heap.size < w1.heap.size := by have := hb1.size; simp at this; omega
    go_wp2_with fail
    go_ret
    exact ⟨by rw [HE.out]; rfl, (by repeat (first | (with_reducible exact Below.refl _ _) | (with_reducible refine bw_set ?_ ?_ _) | (with_reducible apply bw_alloc) | (with_reducible refine bw_tr ?_ (by with_reducible assumption)) | (with_reducible apply bw_drew) | omega))⟩
theorem name_any (op : Int) (w : World) :
    Calls Try.prog 17 #[.int .i64 op] w fun e w' => e = .returned (.string (rowT op).nm) ∧ Below w.heap.size w w' := by
  go_enter Try.func17, Try.ntmps17
  go_wp2_with fail
  refine (rowOf_any _ _).mono ?_
  rintro e w1 ⟨rfl, hb1⟩
  obtain ⟨c1, f1⟩ := bcell hb1
  unfold rwV
  go_wp2_with fail
  go_ret
  exact ⟨rfl, (by repeat (first | (with_reducible exact Below.refl _ _) | (with_reducible refine bw_set ?_ ?_ _) | (with_reducible apply bw_alloc) | (with_reducible refine bw_tr ?_ (by with_reducible assumption)) | (with_reducible apply bw_drew) | omega))⟩
theorem zero_lit (r : Int) (t : Bool) (w : World) (ht : (r == 0) = t) :
    Calls Try.prog 40 #[.int .i64 r] w fun e w' => e = .returned (.bool t) ∧ w = w' := by
  subst ht
  go_enter Try.func40, Try.ntmps40
  go_wp2_with fail
  go_ret
  exact ⟨rfl, rfl⟩
theorem cells2 {w : World} {b : Nat} {t : TypeId} {c0 c1 : Value} (h : w.heap[b]? = some (.cells #[c0, c1] t (0, 0))) :
    w.cell? ⟨b, 0, none⟩ = some c0 ∧ w.cell? ⟨b, 1, none⟩ = some c1 ∧ w.frozen? ⟨b, 0, none⟩ = false ∧ w.frozen? ⟨b, 1, none⟩ = false :=
  ⟨cell_in h rfl, cell_in h rfl, frozen_in h 0, frozen_in h 1⟩
def firstZ (x y : Int) : Int := if (x == 0) = true then 0 else if (y == 0) = true then 1 else -1
set_option maxHeartbeats 1000000 in
theorem index_two (b : Nat) (x y : Int) (w : World) (h : w.heap[b]? = some (.cells #[.int .i64 x, .int .i64 y] 3 (0, 0))) :
    Calls Try.prog 46 #[.slice (some ⟨b, 0, none⟩) 2 2, .func (.func 40) #[] #[]] w fun e w' => e = .returned (.int .i64 (firstZ x y)) ∧ w = w' := by
  obtain ⟨h0, h1, g0, g1⟩ := cells2 h
  clear h
  cases hx : (x == 0) <;> cases hy : (y == 0)
  all_goals
    have HX := Lib.hid hx; have HY := Lib.hid hy
    clear hx hy
    go_enter Try.func46, Try.ntmps46
    go_wp2_with fail
    refine wp_loop_rounds 3 ?_
    rw [rounds_succ]
    go_wp2_with (go_at_call 40; (first | ((with_reducible refine (zero_lit x _ _ HX.out).mono ?_); rintro e w' ⟨rfl, rfl⟩) | ((with_reducible refine (zero_lit y _ _ HY.out).mono ?_); rintro e w' ⟨rfl, rfl⟩)))
    try rw [rounds_succ]
    try go_wp2_with (go_at_call 40; (first | ((with_reducible refine (zero_lit x _ _ HX.out).mono ?_); rintro e w' ⟨rfl, rfl⟩) | ((with_reducible refine (zero_lit y _ _ HY.out).mono ?_); rintro e w' ⟨rfl, rfl⟩)))
    try rw [rounds_succ]
    try go_wp2_with (go_at_call 40; (first | ((with_reducible refine (zero_lit x _ _ HX.out).mono ?_); rintro e w' ⟨rfl, rfl⟩) | ((with_reducible refine (zero_lit y _ _ HY.out).mono ?_); rintro e w' ⟨rfl, rfl⟩)))
    go_ret
    exact ⟨by unfold firstZ; rw [HX.out]; try rw [HY.out]
              rfl, rfl⟩
theorem infoInt : (Try.prog.info? 3).map (fun i => (i.zero, i.size, i.bytes)) = some (some (.int .i64 0), 1, 8) := by kernel_rfl
theorem clear_one (b o : Nat) (ty : TypeId) (w : World) (v0 : Value) (h : w.cell? ⟨b, o, none⟩ = some v0) (g : w.frozen? ⟨b, o, none⟩ = false) :
    (Builtin.clear_ #[33] ty #[.slice (some ⟨b, o, none⟩) 1 1]).run Try.prog w = .ok (.tuple #[]) (w.setCell ⟨b, o, none⟩ (.int .i64 0)) := by
  obtain ⟨i0, hi, hz0, hz1, hz2⟩ := info_parts infoInt
  simp [Builtin.clear_, run_underlying Try.underlying33, zeroValue, typeInfo, hi, hz0, Builtin.zeroCells, storeCells, Value.cells, addr_add, go_sem, h, g]
theorem clear_two (b o : Nat) (ty : TypeId) (w : World) (v0 v1 : Value) (h : w.cell? ⟨b, o, none⟩ = some v0) (g : w.frozen? ⟨b, o, none⟩ = false) (h' : w.cell? ⟨b, o + 1, none⟩ = some v1) (g' : w.frozen? ⟨b, o + 1, none⟩ = false) :
    (Builtin.clear_ #[33] ty #[.slice (some ⟨b, o, none⟩) 2 2]).run Try.prog w = .ok (.tuple #[]) ((w.setCell ⟨b, o, none⟩ (.int .i64 0)).setCell ⟨b, o + 1, none⟩ (.int .i64 0)) := by
  obtain ⟨i0, hi, hz0, hz1, hz2⟩ := info_parts infoInt
  simp [Builtin.clear_, run_underlying Try.underlying33, zeroValue, typeInfo, hi, hz0, Builtin.zeroCells, storeCells, Value.cells, addr_add, go_sem, h, g, h', g']
/-- What is left of two registers when those that are 0 are gone. -/
def leftL (x y : Int) : List Int := if (x == 0) = true then (if (y == 0) = true then [] else [y]) else (if (y == 0) = true then [x] else [x, y])
set_option maxHeartbeats 1000000 in
theorem delete_two (b : Nat) (x y : Int) (w : World) (h : w.heap[b]? = some (.cells #[.int .i64 x, .int .i64 y] 3 (0, 0))) :
    Calls Try.prog 39 #[.slice (some ⟨b, 0, none⟩) 2 2, .func (.func 40) #[] #[]] w fun e w' => ∃ u0 u1, e = .returned (.slice (some ⟨b, 0, none⟩) (leftL x y).length 2) ∧
      w'.heap[b]? = some (.cells #[.int .i64 u0, .int .i64 u1] 3 (0, 0)) ∧ (leftL x y) = [u0, u1].take (leftL x y).length ∧ Below b w w' := by
  have H := Lib.hid h
  obtain ⟨h0, h1, g0, g1⟩ := cells2 h
  clear h
  cases hx : (x == 0)
  · cases hy : (y == 0)
    · have HF := Lib.hid (show firstZ x y = -1 by simp only [firstZ, hx, hy]; rfl)
      have HL := Lib.hid (show leftL x y = [x, y] by simp only [leftL, hx, hy]; rfl)
      have HY := Lib.hid hy
      clear hx hy
      go_enter Try.func39, Try.ntmps39
      go_wp2_with (first | (go_at_call 46; refine (index_two b x y _ H.out).mono ?_; rw [HF.out]; rintro e w' ⟨rfl, rfl⟩) | (go_at_call 40; ((with_reducible refine (zero_lit y _ _ HY.out).mono ?_); rintro e w' ⟨rfl, rfl⟩)))
      go_ret
      exact ⟨x, y, by rw [HL.out]; rfl, H.out, by rw [HL.out]; rfl, Below.refl _ _⟩
    · have HF := Lib.hid (show firstZ x y = 1 by simp only [firstZ, hx, hy]; rfl)
      have HL := Lib.hid (show leftL x y = [x] by simp only [leftL, hx, hy]; rfl)
      have HY := Lib.hid hy
      clear hx hy
      go_enter Try.func39, Try.ntmps39
      go_wp2_with (first | (go_at_call 46; refine (index_two b x y _ H.out).mono ?_; rw [HF.out]; rintro e w' ⟨rfl, rfl⟩) | (go_at_call 40; ((with_reducible refine (zero_lit y _ _ HY.out).mono ?_); rintro e w' ⟨rfl, rfl⟩)))
      have hcl := clear_one b 1 0 w _ h1 g1
      refine wp_loop_rounds 1 ?_
      rw [rounds_succ]
      go_wp2_with fail
      go_ret
      exact ⟨x, 0, by rw [HL.out]; rfl, by have := set_in H.out 1 (.int .i64 0); simpa using this, by rw [HL.out]; rfl, bel_set (Nat.le_refl _) (Below.refl _ _)⟩
  · cases hy : (y == 0)
    · have HF := Lib.hid (show firstZ x y = 0 by simp only [firstZ, hx, hy]; rfl)
      have HL := Lib.hid (show leftL x y = [y] by simp only [leftL, hx, hy]; rfl)
      have HY := Lib.hid hy
      clear hx hy
      go_enter Try.func39, Try.ntmps39
      go_wp2_with (first | (go_at_call 46; refine (index_two b x y _ H.out).mono ?_; rw [HF.out]; rintro e w' ⟨rfl, rfl⟩) | (go_at_call 40; ((with_reducible refine (zero_lit y _ _ HY.out).mono ?_); rintro e w' ⟨rfl, rfl⟩)))
      have hcl := clear_one b 1 0 (w.setCell ⟨b, 0, none⟩ (.int .i64 y)) (.int .i64 y) (by rw [World.cell?_setCell_other _ _ _ _ (by simp)]; exact h1) (by simpa [go_sem] using g1)
      refine wp_loop_rounds 2 ?_
      rw [rounds_succ]
      go_wp2_with (first | (go_at_call 46; refine (index_two b x y _ H.out).mono ?_; rw [HF.out]; rintro e w' ⟨rfl, rfl⟩) | (go_at_call 40; ((with_reducible refine (zero_lit y _ _ HY.out).mono ?_); rintro e w' ⟨rfl, rfl⟩)))
      rw [rounds_succ]
      go_wp2_with fail
      go_ret
      exact ⟨y, 0, by rw [HL.out]; rfl, by have := set_in (set_in H.out 0 (.int .i64 y)) 1 (.int .i64 0); simpa using this, by rw [HL.out]; rfl, bel_set (Nat.le_refl _) (bel_set (Nat.le_refl _) (Below.refl _ _))⟩
    · have HF := Lib.hid (show firstZ x y = 0 by simp only [firstZ, hx, hy]; rfl)
      have HL := Lib.hid (show leftL x y = [] by simp only [leftL, hx, hy]; rfl)
      have HY := Lib.hid hy
      clear hx hy
      go_enter Try.func39, Try.ntmps39
      go_wp2_with (first | (go_at_call 46; refine (index_two b x y _ H.out).mono ?_; rw [HF.out]; rintro e w' ⟨rfl, rfl⟩) | (go_at_call 40; ((with_reducible refine (zero_lit y _ _ HY.out).mono ?_); rintro e w' ⟨rfl, rfl⟩)))
      have hcl := clear_two b 0 0 w _ _ h0 g0 h1 g1
      refine wp_loop_rounds 2 ?_
      rw [rounds_succ]
      go_wp2_with (first | (go_at_call 46; refine (index_two b x y _ H.out).mono ?_; rw [HF.out]; rintro e w' ⟨rfl, rfl⟩) | (go_at_call 40; ((with_reducible refine (zero_lit y _ _ HY.out).mono ?_); rintro e w' ⟨rfl, rfl⟩)))
      rw [rounds_succ]
      go_wp2_with fail
      go_ret
      exact ⟨0, 0, by rw [HL.out]; rfl, by have := set_in (set_in H.out 0 (.int .i64 0)) 1 (.int .i64 0); simpa using this, by rw [HL.out]; rfl, bel_set (Nat.le_refl _) (bel_set (Nat.le_refl _) (Below.refl _ _))⟩
theorem compact_short (b n : Nat) (w : World) (h : n < 2) :
    Calls Try.prog 38 #[.slice (some ⟨b, 0, none⟩) n 2] w fun e w' => e = .returned (.slice (some ⟨b, 0, none⟩) n 2) ∧ w = w' := by
  have hi : (n : Int) < 2 := by omega
  go_enter Try.func38, Try.ntmps38
  go_wp2_with fail
  go_ret
  exact ⟨rfl, rfl⟩
theorem set_one {w : World} {b : Nat} {t : TypeId} {c0 c1 u : Value} (h : w.heap[b]? = some (.cells #[c0, c1] t (0, 0))) : (w.setCell ⟨b, 1, none⟩ u).heap[b]? = some (.cells #[c0, u] t (0, 0)) := by
  have := set_in h 1 u; simpa using this
def CompactPost (b : Nat) (x y : Int) (w : World) (e : Ending) (w' : World) : Prop :=
  ∃ u1, e = .returned (.slice (some ⟨b, 0, none⟩) (if (y == x) = true then 1 else 2) 2) ∧
      w'.heap[b]? = some (.cells #[.int .i64 x, .int .i64 u1] 3 (0, 0)) ∧ ((y == x) = false → u1 = y) ∧ Below b w w'
set_option maxHeartbeats 1000000 in
theorem compact_two (b : Nat) (x y : Int) (w : World) (h : w.heap[b]? = some (.cells #[.int .i64 x, .int .i64 y] 3 (0, 0))) :
    Calls Try.prog 38 #[.slice (some ⟨b, 0, none⟩) 2 2] w (CompactPost b x y w) := by
  have H := Lib.hid h
  obtain ⟨h0, h1, g0, g1⟩ := cells2 h
  clear h
  cases hx : (y == x)
  · go_enter Try.func38, Try.ntmps38
    go_wp2_with fail
    refine wp_loop_rounds 2 ?_
    rw [rounds_succ]
    go_wp2_with fail
    go_quiet (fail)
    go_wp2_with fail
    rw [rounds_succ]
    go_wp2_with fail
    go_ret
    exact ⟨y, by rw [hx]; rfl, H.out, fun _ => rfl, below_drewN (Below.refl _ _) _⟩
  · have hcl := fun q => clear_one b 1 0 (w.drewN q) _ h1 g1
    go_enter Try.func38, Try.ntmps38
    go_wp2_with fail
    refine wp_loop_rounds 2 ?_
    rw [rounds_succ]
    go_wp2_with fail
    go_quiet (fail)
    go_wp2_with fail
    refine wp_loop_rounds 1 ?_
    rw [rounds_succ]
    go_wp2_with fail
    go_ret
    exact ⟨0, by rw [hx]; rfl, set_one H.out, fun h => (by rw [hx] at h; cases h), bel_set (Nat.le_refl _) (below_drewN (Below.refl _ _) _)⟩
/-- The registers that an instruction reads. -/
def readsL (x : Ins) : List Int :=
  if rightB x then (if (x.a == 0) = true then (if (x.b == 0) = true then [] else [x.b]) else (if (x.b == 0) = true then [x.a] else if (x.b == x.a) = true then [x.a] else [x.a, x.b])) else []
theorem readsL_left (x : Ins) (h : rightB x = true) : readsL x = if (leftL x.a x.b).length = 2 ∧ (x.b == x.a) = true then [x.a] else leftL x.a x.b := by
  unfold readsL leftL
  rw [h]
  cases h1 : (x.a == 0) <;> cases h2 : (x.b == 0) <;> cases h3 : (x.b == x.a) <;> simp
theorem reads_two {w : World} {b n : Nat} {u0 u1 : Int} {l : List Int} (h : w.heap[b]? = some (.cells #[.int .i64 u0, .int .i64 u1] 3 (0, 0))) (hn : n ≤ 2) (hl : l = [u0, u1].take n) : Reads w 1 n (.slice (some ⟨b, 0, none⟩) n 2) (l.map (Value.int .i64)) := by
  subst hl
  refine ⟨by simp; omega, ?_, .inr ⟨b, 0, 2, rfl, lt_in h, hn, by decide, fun j u hj => ?_⟩⟩
  · intro u hu
    obtain ⟨q, _, rfl⟩ := List.mem_map.1 hu; rfl
  · rw [show 0 + j = j from Nat.zero_add j]
    refine cell_in h ?_
    rw [List.getElem?_map, List.getElem?_take] at hj
    split at hj
    · match j, hj with
      | 0, hj => simpa using hj
      | 1, hj => simpa using hj
      | j + 2, hj => simp at hj
    · cases hj
theorem left_two (x y : Int) (h : (leftL x y).length = 2) : leftL x y = [x, y] := by
  revert h; unfold leftL; repeat' split
  all_goals simp
theorem left_len (x y : Int) : (leftL x y).length ≤ 2 := by
  unfold leftL; repeat' split
  all_goals simp
set_option maxHeartbeats 2000000 in
theorem reads_any (x : Ins) (w : World) :
    Calls Try.prog 20 #[insV x] w fun e w' => ∃ v, e = .returned v ∧ Reads w' 1 (readsL x).length v ((readsL x).map (Value.int .i64)) ∧ Below w.heap.size w w' := by
  cases hr : rightB x
  case false =>
    have HL := Lib.hid (show readsL x = [] by unfold readsL; rw [hr]; rfl)
    have HR := Lib.hid hr; clear hr
    obtain ⟨op, d, a, b, n⟩ := x
    unfold insV
    go_enter Try.func20, Try.ntmps20
    go_wp2_with fail
    refine (right_lit' ⟨op, d, a, b, n⟩ _ _ HR.out).mono ?_
    rintro e w1 ⟨rfl, hb1⟩
    go_wp2_with fail
    go_ret
    exact ⟨_, rfl, by rw [HL.out]; exact Reads.nil _ _, (by repeat (first | (with_reducible exact Below.refl _ _) | (with_reducible refine bw_set ?_ ?_ _) | (with_reducible apply bw_alloc) | (with_reducible refine bw_tr ?_ (by with_reducible assumption)) | (with_reducible apply bw_drew) | omega))⟩
  case true =>
    have HL := Lib.hid (readsL_left x hr)
    have HR := Lib.hid hr; clear hr
    obtain ⟨op, d, a, b, n⟩ := x
    unfold insV
    simp only at HL
    go_enter Try.func20, Try.ntmps20
    go_wp2_with fail
    refine (right_lit' ⟨op, d, a, b, n⟩ _ _ HR.out).mono ?_
    rintro e w1 ⟨rfl, hb1⟩
    obtain ⟨c1, f1⟩ := bcell hb1
    have z1 : w.heap.size < w1.heap.size := by have := hb1.size; simp at this; omega
    go_wp2_with fail
    refine (delete_two w1.heap.size a b _ (new_at _ _ _ rfl)).mono ?_
    rintro e w2 ⟨u0, u1, rfl, hx2, hl2, hb2⟩
    have HX2 := Lib.hid hx2; have HL2 := Lib.hid hl2
    have hln := left_len a b
    have hb3 : Below w1.heap.size w1 w2 := ((Below.refl _ _).alloc (Nat.le_refl _) _).trans hb2
    clear hx2 hl2 hb2
    generalize hll : leftL a b = l at *
    have HLL := Lib.hid hll
    clear hll
    by_cases h2 : l.length < 2
    · go_wp2_with fail
      refine (compact_short w1.heap.size l.length _ h2).mono ?_
      rintro e w3 ⟨rfl, rfl⟩
      go_wp2_with fail
      go_ret
      refine ⟨_, rfl, ?_, (by repeat (first | (with_reducible exact Below.refl _ _) | (with_reducible refine bw_set ?_ ?_ _) | (with_reducible apply bw_alloc) | (with_reducible refine bw_tr ?_ (by with_reducible assumption)) | (with_reducible apply bw_drew) | omega))⟩
      have e : readsL ⟨op, d, a, b, n⟩ = l := by rw [HL.out, if_neg (by omega)]
      rw [e]
      exact reads_two HX2.out (by omega) HL2.out
    · have hl : l.length = 2 := by omega
      rw [hl]
      have hlu : l = [u0, u1] := by have := HL2.out; rw [hl] at this; simpa using this
      subst hlu
      have hab : [u0, u1] = [a, b] := by
        have h3 := left_two a b (by rw [HLL.out]; rfl)
        rw [HLL.out] at h3; exact h3
      simp only [List.cons.injEq, and_true] at hab
      obtain ⟨rfl, rfl⟩ := hab
      go_wp2_with fail
      refine (compact_two w1.heap.size u0 u1 _ HX2.out).mono ?_
      rintro e w3 ⟨v1, he, hx3, hv, hb4⟩
      have HX3 := Lib.hid hx3; have HV := Lib.hid hv; have HB4 := Lib.hid hb4
      clear hx3 hv hb4
      have hb5 : Below w1.heap.size w1 w3 := hb3.trans HB4.out
      cases hq : (u1 == u0)
      · rw [hq] at he
        simp only [Bool.false_eq_true, if_false] at he
        subst he
        have HQ := Lib.hid hq; clear hq
        go_wp2_with fail
        go_ret
        refine ⟨_, rfl, ?_, (by repeat (first | (with_reducible exact Below.refl _ _) | (with_reducible refine bw_set ?_ ?_ _) | (with_reducible apply bw_alloc) | (with_reducible refine bw_tr ?_ (by with_reducible assumption)) | (with_reducible apply bw_drew) | omega))⟩
        have hv1 := HV.out HQ.out
        subst hv1
        have e : readsL ⟨op, d, u0, v1, n⟩ = [u0, v1] := by rw [HL.out, HQ.out]; rfl
        rw [e]; exact reads_two HX3.out (by simp) rfl
      · rw [hq] at he
        simp only [if_true] at he
        subst he
        have HQ := Lib.hid hq; clear hq
        go_wp2_with fail
        go_ret
        refine ⟨_, rfl, ?_, (by repeat (first | (with_reducible exact Below.refl _ _) | (with_reducible refine bw_set ?_ ?_ _) | (with_reducible apply bw_alloc) | (with_reducible refine bw_tr ?_ (by with_reducible assumption)) | (with_reducible apply bw_drew) | omega))⟩
        have e : readsL ⟨op, d, u0, u1, n⟩ = [u0] := by rw [HL.out, HQ.out]; rfl
        rw [e]; exact reads_two HX3.out (by simp) rfl
end Go.Proofs.Ytefebnicclbhjaa
