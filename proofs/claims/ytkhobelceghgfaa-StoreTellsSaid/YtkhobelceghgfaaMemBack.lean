/-
  slices.Backward at lists of stores, and store.Load.
-/
import Derived.RangeFuncNested
import Derived.RangeFuncBound
import Derived.RangeFuncCalls
import Derived.RangeFuncLeaves
import Derived.Shelf.Abstract
import Derived.Shelf.RegionOpen
import Derived.WalkKit
import Derived.OwnWalkIn
import Derived.TacticsInMore
import Derived.LoopNIn
import Derived.LoopIn
import Derived.Test.YtkhobelceghgfaaMemFlush
namespace Go.Proofs.Ytkhobelceghgfaa
open Go.RowKit Go.Shelf
attribute [local go_sem] Oper.semAt_some
def upto {α : Type} (f : Nat → α) (k : Nat) : List α := (List.range k).map f
theorem upto_succ {α : Type} (f : Nat → α) (k : Nat) : upto f (k + 1) = upto f k ++ [f k] := by simp [upto, List.range_succ]
theorem upto_length {α : Type} (f : Nat → α) (k : Nat) : (upto f k).length = k := by simp [upto]
theorem mem_upto {α : Type} {f : Nat → α} {k : Nat} {x : α} : x ∈ upto f k ↔ ∃ j, j < k ∧ f j = x := by simp [upto]
/-- What comes when a list is gone through from its end. -/
def backF (l : List (Int × Int)) (j : Nat) : Nat × Int × Int := (l.length - 1 - j, l.getD (l.length - 1 - j) (0, 0))
def backE (x : Nat × Int × Int) : Array Value := #[.int .i64 (x.1 : Int), .agg #[.int .i64 x.2.1, .int .i64 x.2.2]]
set_option maxRecDepth 100000 in
set_option maxHeartbeats 2000000 in
theorem back1_in (F : Fence) (n : Nat) (h7 : F.fn 64) (hro : F.round = none) (hn : 1 ≤ n) (z Bs n₀ b off cap : Nat) (l : List (Int × Int)) (hlen : l.length ≤ 1000) (hb : b < n₀) (J Jx : List (Nat × Int × Int) → World → Prop)
    (hY : ∀ pre x W, J pre W → pre.length < l.length → YieldAt F (n - 1) Try.prog z (backE x) W fun e W' =>
      (e = .returned (.bool true) ∧ J (pre ++ [x]) W' ∧ Below n₀ W W') ∨ (e = .returned (.bool false) ∧ Jx (pre ++ [x]) W'))
    (W : World) (hBn : Bs < n₀) (hBs : W.cell? ⟨Bs, 0, none⟩ = some (.slice (some ⟨b, off, none⟩) l.length cap)) (hcap : l.length ≤ cap ∧ cap ≤ 9223372036854775807)
    (hc : ∀ j x, l[j]? = some x → W.cell? ⟨b, off + j * 2, none⟩ = some (.int .i64 x.1) ∧ W.cell? ⟨b, off + j * 2 + 1, none⟩ = some (.int .i64 x.2)) (h0 : J [] W) :
    CallsIn F n Try.prog 64 #[.func (.yield z) #[] #[], .pointer (some ⟨Bs, 0, none⟩)] W fun e W' => (∃ v, e = .returned v) ∧
      ((∃ ys, ys = upto (backF l) l.length ∧ J ys W') ∨ (∃ pre, (∃ k, k ≤ l.length ∧ pre = upto (backF l) k) ∧ Jx pre W')) := by
  have HC := Lib.hid hc; clear hc
  obtain ⟨hcap1, hcap2⟩ := hcap
  have HBS := Lib.hid hBs; have kb := hBs
  clear hBs
  refine callsIn_of_wp Try.func64 rfl h7 ?_ hro
  simp only [Try.ntmps64, List.size_toArray, List.length_cons, List.length_nil, Nat.reduceAdd, Nat.reduceSub, Array.replicate_succ, Array.replicate_zero, List.push_toArray, List.append_toArray, List.nil_append, List.cons_append]
  obtain ⟨ln, hln⟩ : ∃ ln, l.length = ln := ⟨_, rfl⟩
  rw [hln] at kb hcap1 hlen
  have HLN := Lib.hid hln
  clear hln
  gi_wp2
  gi_loopw [3] (fun i wr => ∃ k r : Nat, ln = k + r ∧ i = .int .i64 ((r : Int) - 1) ∧ J (upto (backF l) k) wr ∧ Below n₀ W wr)
    (fun i _ => (intOf i + 1).toNat)
  case atStart => exact ⟨0, ln, by omega, rfl, h0, Below.refl _ _⟩
  case round =>
    obtain ⟨k, r, hkr, hi, hJs, hnx⟩ := hrel
    have HBr := Lib.hid ((hnx.cell (p := ⟨Bs, 0, none⟩) hBn).trans HBS.out)
    cases r with
    | zero =>
      obtain rfl : k = ln := by omega
      subst hi
      gi_wp2
      go_end0
      exact ⟨⟨_, rfl⟩, .inl ⟨_, by rw [HLN.out], hJs⟩⟩
    | succ r =>
      rw [show ((r + 1 : Nat) : Int) - 1 = (r : Int) by omega] at hi
      subst hi
      have hrl : r < l.length := by rw [HLN.out]; omega
      have hx : l[r]? = some (l[r]) := by simp
      obtain ⟨c1, c2⟩ := HC.out r _ hx
      have d1 := (hnx.cell (p := ⟨b, off + r * 2, none⟩) hb).trans c1
      have d2 := (hnx.cell (p := ⟨b, off + r * 2 + 1, none⟩) hb).trans c2
      have hbf : Hid (backF l k = (r, l[r])) := Lib.hid (by unfold backF; rw [show l.length - 1 - k = r by rw [HLN.out]; omega]; simp [hrl])
      generalize l[r] = x at *
      obtain ⟨x1, x2⟩ := x
      obtain ⟨fn, tmps, assign, body, hy, hR⟩ := hY _ (r, x1, x2) wr hJs (by rw [upto_length, HLN.out]; omega)
      simp only [backE] at hy hR
      have kr := HBr.out
      simp only at d1 d2
      have hrln : r < ln := by omega
      have HKR := Lib.hid hkr
      clear c1 c2 hx hkr
      gi_wp2
      refine hR.mono ?_
      rintro e W3 (⟨rfl, hJ3, hk3⟩ | ⟨rfl, hJx3⟩)
      · clear kr d1 d2
        gi_wp2
        go_roundw
        case rel => exact ⟨k + 1, r, by have := HKR.out; omega, by first | rfl | go_num, by rw [upto_succ, hbf.out]; exact hJ3, hnx.trans hk3⟩
        case measure => simp [intOf]
      · clear kr d1 d2
        gi_wp2
        refine bodyPost_ret (results_none rfl _ _ _) rfl ?_
        exact ⟨⟨_, rfl⟩, .inr ⟨_, ⟨k + 1, by rw [HLN.out]; have := HKR.out; omega, rfl⟩, by rw [upto_succ, hbf.out]; exact hJx3⟩⟩
set_option maxRecDepth 100000 in
set_option maxHeartbeats 1000000 in
theorem back1_nil_in (F : Fence) (n : Nat) (h7 : F.fn 64) (hro : F.round = none) (z Bs cap : Nat) (a : Option Addr) (J : List (Nat × Int × Int) → World → Prop) (W : World) (hBs : W.cell? ⟨Bs, 0, none⟩ = some (.slice a 0 cap)) (h0 : J [] W) :
    CallsIn F n Try.prog 64 #[.func (.yield z) #[] #[], .pointer (some ⟨Bs, 0, none⟩)] W fun e W' => (∃ v, e = .returned v) ∧ J [] W' := by
  refine callsIn_of_wp Try.func64 rfl h7 ?_ hro
  simp only [Try.ntmps64, List.size_toArray, List.length_cons, List.length_nil, Nat.reduceAdd, Nat.reduceSub, Array.replicate_succ, Array.replicate_zero, List.push_toArray, List.append_toArray, List.nil_append, List.cons_append]
  gi_wp2
  gi_loopw [3] (fun i wr => i = .int .i64 (-1) ∧ J [] wr) (fun _ _ => 0)
  case atStart => exact ⟨rfl, h0⟩
  case round =>
    obtain ⟨rfl, hJs⟩ := hrel
    gi_wp2
    go_end0
    exact ⟨⟨_, rfl⟩, hJs⟩
set_option maxHeartbeats 1000000 in
theorem back_in (F : Fence) (n : Nat) (h5 : F.fn 40) (hro : F.round = none) (a : Option Addr) (len cap : Nat) (w : World) :
    CallsIn F n Try.prog 40 #[.slice a len cap] w fun e w' => e = .returned (.func (.func 64) #[] #[.pointer (some ⟨w.heap.size, 0, none⟩)]) ∧ w' = w.alloc (.cells #[.slice a len cap] 42) := by
  refine callsIn_of_wp Try.func40 rfl h5 ?_ hro
  simp only [Try.ntmps40, List.size_toArray, List.length_cons, List.length_nil, Nat.reduceAdd, Nat.reduceSub, Array.replicate_succ, Array.replicate_zero, List.push_toArray, List.append_toArray, List.nil_append, List.cons_append]
  gi_wp2
  go_ret
  exact ⟨rfl, rfl⟩
/-- The list behind the iterator's box: all of it from its end, or a part. -/
theorem back_stops (F : Fence) (n : Nat) (h7 : F.fn 64) (hro : F.round = none) (hn : 1 ≤ n) (Bs n₀ cap : Nat) (a : Option Addr) (l : List (Int × Int)) (hlen : l.length ≤ 1000) (w : World) (hBs : Bs < n₀) (hn₀ : n₀ ≤ w.heap.size)
    (hc : w.cell? ⟨Bs, 0, none⟩ = some (.slice a l.length cap)) (hr : Reads w 2 l.length (.slice a l.length cap) (entC l)) (hb : ∀ b, a.map (·.block) = some b → b < n₀) :
    SeqStopsK F n Try.prog 64 #[.pointer (some ⟨Bs, 0, none⟩)] backE (Below n₀) (fun ys => ys = upto (backF l) l.length) (fun pre => ∃ k, k ≤ l.length ∧ pre = upto (backF l) k) l.length w := fun z J Jx W hW _ _ hY h0 => by
  have hc' := (hW.cell (p := ⟨Bs, 0, none⟩) (Nat.lt_of_lt_of_le hBs hn₀)).trans hc
  by_cases h0l : l.length = 0
  · rw [h0l] at hc'
    exact (back1_nil_in F n h7 hro z Bs cap a J W hc' h0).mono fun e W' ⟨he, hj⟩ => ⟨he, .inl ⟨_, rfl, by rw [h0l]; exact hj⟩⟩
  · obtain ⟨b, o, rfl, hlt, e1, e2, e3⟩ := reads_ents hr (by omega)
    exact back1_in F n h7 hro hn z Bs n₀ b o cap l hlen (hb b rfl) J Jx hY W hBs hc' ⟨e1, e2⟩ (fun j x hx => ⟨(hW.cell (p := ⟨b, o + j * 2, none⟩) hlt).trans (e3 j x hx).1, (hW.cell (p := ⟨b, o + j * 2 + 1, none⟩) hlt).trans (e3 j x hx).2⟩) h0
end Go.Proofs.Ytkhobelceghgfaa
