/-
  What the walks of this statement lean on (DevTop, DevNew, DevSame, DevStep, DevNew4): shown.
-/
import Derived.Test.YtdobddiibgfeaaaGreatZi
import Derived.Test.YtdobddiibgfeaaaGreatZh
import Derived.Test.YtdobddiibgfeaaaGreatRows
import Derived.Test.YtdobddiibgfeaaaGreatZb
import Derived.Deep.QuietTactic
import Derived.BigQuiet
import Derived.Test.YtdobddiibgfeaaaGreatZa
set_option linter.unusedVariables false
set_option linter.unusedSimpArgs false
namespace Go.Proofs.YtdobddiibgfeaaaGreat
section
open Go.RowKit
set_option maxRecDepth 100000

set_option maxHeartbeats 2000000 in
theorem zdE (v : Value) (s : St) (reg n : Int) (w : World) (h : IsSt w v s) (hk : s.k = 1 ∨ s.k = 2 ∨ s.k = 3) (hq : s.q.length ≤ 1000) (hreg : 0 ≤ reg ∧ reg < 4) (hs : 0 ≤ s.sent ∧ s.sent ≤ 2147483647) :
 Calls Tryz.prog 165 #[v, .int .i64 reg, .int .i64 n] w fun e w' => ∃ v', e = .returned v' ∧ IsStF w.heap.size w' v' (za7 (zbo s reg (wrap32 n))) ∧ Below w.heap.size w w' := by
 obtain ⟨qv, rfl, hr⟩ := h
 obtain ⟨qa, qc, rfl⟩ := hr.shape
 have bel0 : Below w.heap.size w ((((w.alloc (.cells (stC s (.slice qa s.q.length qc)) 75)).alloc (.cells #[.int .i64 reg] 3)).alloc (.cells #[.int .i64 n] 3)).alloc (.cells #[.int .i64 0, .int .i64 0, .int .i64 0, .int .i64 0, .int .i64 0, .slice none 0 0, .int .i64 0, .bool false] 75)) := by
  refine Below.alloc ?_ (by simp; omega) _
  refine Below.alloc ?_ (by simp; omega) _
  refine Below.alloc ?_ (by simp) _
  exact (Below.refl _ _).alloc (Nat.le_refl _) _
 have hst : IsSt ((((w.alloc (.cells (stC s (.slice qa s.q.length qc)) 75)).alloc (.cells #[.int .i64 reg] 3)).alloc (.cells #[.int .i64 n] 3)).alloc (.cells #[.int .i64 0, .int .i64 0, .int .i64 0, .int .i64 0, .int .i64 0, .slice none 0 0, .int .i64 0, .bool false] 75)) (.agg (stC s (.slice qa s.q.length qc))) s := ⟨_, rfl, hr.below bel0⟩
 have HK := zhd hk; have HST := zhd hst; have B0 := zhd bel0
 clear hk hst hr bel0
 unfold stC at *
 go_enter Tryz.func165, Tryz.ntmps165
 go_wp2_with fail
 refine (zh9 _ _ _ s reg n _ HST.out HK.out hq hreg hs (by go_simp) (by simp) (by go_simp) (by simp)).mono ?_
 rintro e w1 ⟨v', rfl, hv, hb⟩
 have HV := zhd hv; have B1 := zhd hb
 skip
 clear hb
 obtain ⟨qv, hv, hr, hf⟩ := hv
 obtain ⟨qa', qc', rfl⟩ := hr.shape
 clear hr
 have hz : w1.heap[w.heap.size + 1 + 1 + 1]? = some (.cells #[.int .i64 0, .int .i64 0, .int .i64 0, .int .i64 0, .int .i64 0, .slice none 0 0, .int .i64 0, .bool false] 75) := zaq B1.out (by simp) (zc0 _ _ _ (by simp))
 have hlt := zao hz
 obtain ⟨u0, u1, u2, u3, u4, u5, u6, u7, t0, t1, t2, t3, t4, t5, t6, t7⟩ := zba hz
 clear hz
 subst hv
 have hle : w.heap.size ≤ w.heap.size + 1 + 1 + 1 := by omega
 have hll : w.heap.size + 1 + 1 + 1 < w.heap.size + 1 + 1 + 1 + 1 := by omega
 have HV2 : IsStF (w.heap.size + 1 + 1 + 1 + 1) w1 (.agg (stC (za7 (zbo s reg (wrap32 n))) (.slice qa' (za7 (zbo s reg (wrap32 n))).q.length qc'))) (za7 (zbo s reg (wrap32 n))) := by simpa using HV.out
 have bel3 : Below w.heap.size w w1 := B0.out.trans (B1.out.mono (by simp; omega))
 have HV3 := zhd HV2; have B4 := zhd bel3
 clear HV HV2 bel3
 unfold stC
 go_wp2_with fail
 refine bodyPost_ret (v := .agg (stC (za7 (zbo s reg (wrap32 n))) (.slice qa' (za7 (zbo s reg (wrap32 n))).q.length qc'))) (by simp [results, Tryz.results165, go_sem, stC, u0, u1, u2, u3, u4, u5, u6, u7]) rfl ⟨_, rfl, IsStF.mono (B := w.heap.size + 1 + 1 + 1 + 1) (by omega) ?_, ?_⟩
 · iterate 8 apply zdd hll
   exact HV3.out
 · iterate 8 apply za2 hle
   exact B4.out

set_option maxHeartbeats 2000000 in
theorem zdW (v : Value) (s : St) (n : Int) (w : World) (h : IsSt w v s) (hk : s.k = 1 ∨ s.k = 2 ∨ s.k = 3) (hq : s.q.length ≤ 1000)  (hs : -2147483648 ≤ s.r0 ∧ s.r0 ≤ 2147483647) :
 Calls Tryz.prog 80 #[v, .int .i64 n] w fun e w' => ∃ v', e = .returned v' ∧ IsStF w.heap.size w' v' (za7 (zbp s (wrap32 n))) ∧ Below w.heap.size w w' := by
 obtain ⟨qv, rfl, hr⟩ := h
 obtain ⟨qa, qc, rfl⟩ := hr.shape
 have bel0 : Below w.heap.size w (((w.alloc (.cells (stC s (.slice qa s.q.length qc)) 75)).alloc (.cells #[.int .i64 n] 3)).alloc (.cells #[.int .i64 0, .int .i64 0, .int .i64 0, .int .i64 0, .int .i64 0, .slice none 0 0, .int .i64 0, .bool false] 75)) := by
  refine Below.alloc ?_ (by simp; omega) _
  refine Below.alloc ?_ (by simp) _
  exact (Below.refl _ _).alloc (Nat.le_refl _) _
 have hst : IsSt (((w.alloc (.cells (stC s (.slice qa s.q.length qc)) 75)).alloc (.cells #[.int .i64 n] 3)).alloc (.cells #[.int .i64 0, .int .i64 0, .int .i64 0, .int .i64 0, .int .i64 0, .slice none 0 0, .int .i64 0, .bool false] 75)) (.agg (stC s (.slice qa s.q.length qc))) s := ⟨_, rfl, hr.below bel0⟩
 have HK := zhd hk; have HST := zhd hst; have B0 := zhd bel0
 clear hk hst hr bel0
 unfold stC at *
 go_enter Tryz.func80, Tryz.ntmps80
 go_wp2_with fail
 refine (zib _ _ s n _ HST.out HK.out hq hs (by go_simp) (by simp)).mono ?_
 rintro e w1 ⟨v', rfl, hv, hb⟩
 have HV := zhd hv; have B1 := zhd hb
 skip
 clear hb
 obtain ⟨qv, hv, hr, hf⟩ := hv
 obtain ⟨qa', qc', rfl⟩ := hr.shape
 clear hr
 have hz : w1.heap[w.heap.size + 1 + 1]? = some (.cells #[.int .i64 0, .int .i64 0, .int .i64 0, .int .i64 0, .int .i64 0, .slice none 0 0, .int .i64 0, .bool false] 75) := zaq B1.out (by simp) (zc0 _ _ _ (by simp))
 have hlt := zao hz
 obtain ⟨u0, u1, u2, u3, u4, u5, u6, u7, t0, t1, t2, t3, t4, t5, t6, t7⟩ := zba hz
 clear hz
 subst hv
 have hle : w.heap.size ≤ w.heap.size + 1 + 1 := by omega
 have hll : w.heap.size + 1 + 1 < w.heap.size + 1 + 1 + 1 := by omega
 have HV2 : IsStF (w.heap.size + 1 + 1 + 1) w1 (.agg (stC (za7 (zbp s (wrap32 n))) (.slice qa' (za7 (zbp s (wrap32 n))).q.length qc'))) (za7 (zbp s (wrap32 n))) := by simpa using HV.out
 have bel3 : Below w.heap.size w w1 := B0.out.trans (B1.out.mono (by simp; omega))
 have HV3 := zhd HV2; have B4 := zhd bel3
 clear HV HV2 bel3
 unfold stC
 go_wp2_with fail
 refine bodyPost_ret (v := .agg (stC (za7 (zbp s (wrap32 n))) (.slice qa' (za7 (zbp s (wrap32 n))).q.length qc'))) (by simp [results, Tryz.results80, go_sem, stC, u0, u1, u2, u3, u4, u5, u6, u7]) rfl ⟨_, rfl, IsStF.mono (B := w.heap.size + 1 + 1 + 1) (by omega) ?_, ?_⟩
 · iterate 8 apply zdd hll
   exact HV3.out
 · iterate 8 apply za2 hle
   exact B4.out

set_option maxHeartbeats 2000000 in
theorem zem (v : Value) (s : St) (reg : Int) (w : World) (h : IsSt w v s) (hk : s.k = 1 ∨ s.k = 2 ∨ s.k = 3) (hq : s.q.length ≤ 1000) (hreg : 0 ≤ reg ∧ reg < 4)  :
 Calls Tryz.prog 166 #[v, .int .i64 reg] w fun e w' => ∃ v', e = .returned (.tuple #[.int .i64 (zbl s reg), v']) ∧ IsStF w.heap.size w' v' (za7 (zbI s reg)) ∧ Below w.heap.size w w' := by
 obtain ⟨qv, rfl, hr⟩ := h
 obtain ⟨qa, qc, rfl⟩ := hr.shape
 have bel0 : Below w.heap.size w ((((w.alloc (.cells (stC s (.slice qa s.q.length qc)) 75)).alloc (.cells #[.int .i64 reg] 3)).alloc (.cells #[.int .i64 0] 3)).alloc (.cells #[.int .i64 0, .int .i64 0, .int .i64 0, .int .i64 0, .int .i64 0, .slice none 0 0, .int .i64 0, .bool false] 75)) := by
  refine Below.alloc ?_ (by simp; omega) _
  refine Below.alloc ?_ (by simp; omega) _
  refine Below.alloc ?_ (by simp) _
  exact (Below.refl _ _).alloc (Nat.le_refl _) _
 have hst : IsSt ((((w.alloc (.cells (stC s (.slice qa s.q.length qc)) 75)).alloc (.cells #[.int .i64 reg] 3)).alloc (.cells #[.int .i64 0] 3)).alloc (.cells #[.int .i64 0, .int .i64 0, .int .i64 0, .int .i64 0, .int .i64 0, .slice none 0 0, .int .i64 0, .bool false] 75)) (.agg (stC s (.slice qa s.q.length qc))) s := ⟨_, rfl, hr.below bel0⟩
 have HK := zhd hk; have HST := zhd hst; have B0 := zhd bel0
 clear hk hst hr bel0
 unfold stC at *
 go_enter Tryz.func166, Tryz.ntmps166
 go_wp2_with fail
 refine (zia _ _ _ s reg (.int .i64 0) 3 _ HST.out HK.out hq hreg (by go_simp) (by simp) (by exact zaq (B := w.heap.size + 1 + 1 + 1) (((Below.refl _ _).alloc (by simp) _)) (by omega) (zc0 _ _ _ (by simp))) (by simp)).mono ?_
 rintro e w1 ⟨v', rfl, hv, hb, hp⟩
 have HV := zhd hv; have B1 := zhd hb
 have HP := zhd hp; clear hp
 clear hb
 obtain ⟨qv, hv, hr, hf⟩ := hv
 obtain ⟨qa', qc', rfl⟩ := hr.shape
 clear hr
 have hz : w1.heap[w.heap.size + 1 + 1 + 1]? = some (.cells #[.int .i64 0, .int .i64 0, .int .i64 0, .int .i64 0, .int .i64 0, .slice none 0 0, .int .i64 0, .bool false] 75) := (B1.out.block _ (by simp) (by simp)).trans (zc0 _ _ _ (by simp))
 have hlt := zao hz
 obtain ⟨u0, u1, u2, u3, u4, u5, u6, u7, t0, t1, t2, t3, t4, t5, t6, t7⟩ := zba hz
 clear hz
 subst hv
 have hle : w.heap.size ≤ w.heap.size + 1 + 1 + 1 := by omega
 have hll : w.heap.size + 1 + 1 + 1 < w.heap.size + 1 + 1 + 1 + 1 := by omega
 have HV2 : IsStF (w.heap.size + 1 + 1 + 1 + 1) w1 (.agg (stC (za7 (zbI s reg)) (.slice qa' (za7 (zbI s reg)).q.length qc'))) (za7 (zbI s reg)) := by simpa using HV.out
 have bel3 : Below w.heap.size w w1 := ⟨B1.out.os.trans B0.out.os, B1.out.tape.trans B0.out.tape, B1.out.output.trans B0.out.output, Nat.le_trans B0.out.size B1.out.size, fun k hk => (B1.out.block k (by simp; omega) (by simp; omega)).trans (B0.out.block k hk)⟩
 have hpc := zad (j := 0) HP.out rfl
 simp only [List.getElem_toArray, List.getElem_cons_zero] at hpc
 have hltp := zao HP.out
 have HV3 := zhd HV2; have B4 := zhd bel3
 clear HV HV2 bel3
 unfold stC
 go_wp2_with fail
 refine bodyPost_ret (v := .tuple #[.int .i64 (zbl s reg), .agg (stC (za7 (zbI s reg)) (.slice qa' (za7 (zbI s reg)).q.length qc'))]) (by simp [results, Tryz.results166, go_sem, stC, u0, u1, u2, u3, u4, u5, u6, u7, hpc]) rfl ⟨_, rfl, IsStF.mono (B := w.heap.size + 1 + 1 + 1 + 1) (by omega) ?_, ?_⟩
 · iterate 8 apply zdd hll
   exact HV3.out
 · iterate 8 apply za2 hle
   exact B4.out
end
section
open Go.RowKit
set_option maxRecDepth 100000
def newS (k : Int) : St := ⟨k, 0, 0, 0, 0, [], 0, false⟩
set_option maxHeartbeats 1000000 in
theorem new_uart (w : World) :
 Calls Tryz.prog 27 #[.int .i64 1] w fun e w' => ∃ v', e = .returned v' ∧ IsStF w.heap.size w' v' (newS 1) ∧ Below w.heap.size w w' := by
 go_enter Tryz.func27, Tryz.ntmps27
 go_wp2_with fail
 refine (zgS _ (newS 1) _ ⟨_, rfl, Reads.nil _ _⟩ rfl (by decide)).mono ?_
 rintro e w1 ⟨b, rfl, _, hb⟩
 have h0 := zaq (b := w.heap.size) hb (by simp; omega) (zaq (B := w.heap.size + 1) ((Below.refl _ _).alloc (by simp) _) (by omega) (zc0 _ _ _ rfl))
 have h1 := zaq (b := w.heap.size + 1) hb (by simp) (zc0 _ _ _ (by simp))
 have hl0 := zao h0
 have hl1 := zao h1
 obtain ⟨u0, u1, u2, u3, u4, u5, u6, u7, t0, t1, t2, t3, t4, t5, t6, t7⟩ := zba h0
 obtain ⟨v0, v1, v2, v3, v4, v5, v6, v7, _⟩ := zba h1
 have HB := zhd hb
 clear h0 h1 hb
 go_wp2_with fail
 have HV : IsStF (w.heap.size + 1) w1 (.agg (stC (newS 1) (.slice none 0 0))) (newS 1) := ⟨_, rfl, Reads.nil _ _, fun a n c h => by cases h⟩
 have bel : Below w.heap.size w w1 := (((Below.refl _ _).alloc (Nat.le_refl _) _).alloc (by simp) _).trans (HB.out.mono (by simp; omega))
 have hll : w.heap.size < w.heap.size + 1 := by omega
 have hle := Nat.le_refl w.heap.size
 refine bodyPost_ret (v := .agg (stC (newS 1) (.slice none 0 0))) (by simp [results, Tryz.results27, go_sem, stC, newS, u0, u1, u2, u3, u4, u5, u6, u7]) rfl ⟨_, rfl, IsStF.mono (B := w.heap.size + 1) (by omega) ?_, ?_⟩
 · iterate 8 apply zdd hll
   exact HV
 · iterate 8 apply za2 hle
   exact bel
set_option maxHeartbeats 1000000 in
theorem zlF (w : World) :
 Calls Tryz.prog 27 #[.int .i64 2] w fun e w' => ∃ v', e = .returned v' ∧ IsStF w.heap.size w' v' (newS 2) ∧ Below w.heap.size w w' := by
 go_enter Tryz.func27, Tryz.ntmps27
 go_wp2_with fail
 refine (zfq _ (newS 2) _ ⟨_, rfl, Reads.nil _ _⟩ rfl (by decide)).mono ?_
 rintro e w1 ⟨b, rfl, _, hb⟩
 have h0 := zaq (b := w.heap.size) hb (by simp; omega) (zaq (B := w.heap.size + 1) ((Below.refl _ _).alloc (by simp) _) (by omega) (zc0 _ _ _ rfl))
 have h1 := zaq (b := w.heap.size + 1) hb (by simp) (zc0 _ _ _ (by simp))
 have hl0 := zao h0
 have hl1 := zao h1
 obtain ⟨u0, u1, u2, u3, u4, u5, u6, u7, t0, t1, t2, t3, t4, t5, t6, t7⟩ := zba h0
 obtain ⟨v0, v1, v2, v3, v4, v5, v6, v7, _⟩ := zba h1
 have HB := zhd hb
 clear h0 h1 hb
 go_wp2_with fail
 have HV : IsStF (w.heap.size + 1) w1 (.agg (stC (newS 2) (.slice none 0 0))) (newS 2) := ⟨_, rfl, Reads.nil _ _, fun a n c h => by cases h⟩
 have bel : Below w.heap.size w w1 := (((Below.refl _ _).alloc (Nat.le_refl _) _).alloc (by simp) _).trans (HB.out.mono (by simp; omega))
 have hll : w.heap.size < w.heap.size + 1 := by omega
 have hle := Nat.le_refl w.heap.size
 refine bodyPost_ret (v := .agg (stC (newS 2) (.slice none 0 0))) (by simp [results, Tryz.results27, go_sem, stC, newS, u0, u1, u2, u3, u4, u5, u6, u7]) rfl ⟨_, rfl, IsStF.mono (B := w.heap.size + 1) (by omega) ?_, ?_⟩
 · iterate 8 apply zdd hll
   exact HV
 · iterate 8 apply za2 hle
   exact bel
set_option maxHeartbeats 1000000 in
theorem new_gpio (w : World) :
 Calls Tryz.prog 27 #[.int .i64 3] w fun e w' => ∃ v', e = .returned v' ∧ IsStF w.heap.size w' v' (newS 3) ∧ Below w.heap.size w w' := by
 go_enter Tryz.func27, Tryz.ntmps27
 go_wp2_with fail
 refine (zgT _ (newS 3) _ ⟨_, rfl, Reads.nil _ _⟩ rfl (by decide)).mono ?_
 rintro e w1 ⟨b, rfl, _, hb⟩
 have h0 := zaq (b := w.heap.size) hb (by simp; omega) (zaq (B := w.heap.size + 1) ((Below.refl _ _).alloc (by simp) _) (by omega) (zc0 _ _ _ rfl))
 have h1 := zaq (b := w.heap.size + 1) hb (by simp) (zc0 _ _ _ (by simp))
 have hl0 := zao h0
 have hl1 := zao h1
 obtain ⟨u0, u1, u2, u3, u4, u5, u6, u7, t0, t1, t2, t3, t4, t5, t6, t7⟩ := zba h0
 obtain ⟨v0, v1, v2, v3, v4, v5, v6, v7, _⟩ := zba h1
 have HB := zhd hb
 clear h0 h1 hb
 go_wp2_with fail
 have HV : IsStF (w.heap.size + 1) w1 (.agg (stC (newS 3) (.slice none 0 0))) (newS 3) := ⟨_, rfl, Reads.nil _ _, fun a n c h => by cases h⟩
 have bel : Below w.heap.size w w1 := (((Below.refl _ _).alloc (Nat.le_refl _) _).alloc (by simp) _).trans (HB.out.mono (by simp; omega))
 have hll : w.heap.size < w.heap.size + 1 := by omega
 have hle := Nat.le_refl w.heap.size
 refine bodyPost_ret (v := .agg (stC (newS 3) (.slice none 0 0))) (by simp [results, Tryz.results27, go_sem, stC, newS, u0, u1, u2, u3, u4, u5, u6, u7]) rfl ⟨_, rfl, IsStF.mono (B := w.heap.size + 1) (by omega) ?_, ?_⟩
 · iterate 8 apply zdd hll
   exact HV
 · iterate 8 apply za2 hle
   exact bel

theorem zjr (k : Int) (w : World) (hk : 1 ≤ k ∧ k ≤ 3) :
 Calls Tryz.prog 27 #[.int .i64 k] w fun e w' => ∃ v', e = .returned v' ∧ IsStF w.heap.size w' v' (newS k) ∧ Below w.heap.size w w' := by
 have : k = 1 ∨ k = 2 ∨ k = 3 := by omega
 rcases this with rfl | rfl | rfl
 · exact new_uart w
 · exact zlF w
 · exact new_gpio w
end
section
open Go.RowKit
theorem Reads.cells {w : World} {k n : Nat} {v : Value} {xs : List Value} (h : Reads w k n v xs) (hn : 0 < n) :
 ∃ b o c, v = .slice (some ⟨b, o, none⟩) n c ∧ n ≤ c ∧ c ≤ maxLen ∧ ∀ j u, xs[j]? = some u → w.cell? ⟨b, o + j, none⟩ = some u := by
 rcases h.2.2 with ⟨_, h0⟩ | ⟨b, o, c, hv, _, hc, hm, hcell⟩
 · omega
 · exact ⟨b, o, c, hv, hc, hm, hcell⟩
set_option maxHeartbeats 1000000 in
theorem zkA (v v' : Value) (xs ys : List Int) (w : World) (h : Reads w 1 xs.length v (xs.map (Value.int .i64))) (h' : Reads w 1 ys.length v' (ys.map (Value.int .i64))) :
 Calls Tryz.prog 52 #[v, v'] w fun e w' => e = .returned (.bool (decide (xs = ys))) ∧ Below w.heap.size w w' := by
 obtain ⟨a, c, rfl⟩ := h.shape
 obtain ⟨a', c', rfl⟩ := h'.shape
 have HR := zhd h; have HR' := zhd h'; clear h h'
 by_cases hl : xs.length = ys.length
 · have hlb : (((xs.length : Nat) : Int) != ((ys.length : Nat) : Int)) = false := by simp [hl]
   by_cases h0 : xs.length = 0
   · have hx0 : xs = [] := List.eq_nil_of_length_eq_zero h0
     have hy0 : ys = [] := List.eq_nil_of_length_eq_zero (by omega)
     subst hx0 hy0
     simp only [List.length_nil] at *
     go_enter Tryz.func52, Tryz.ntmps52
     go_wp2_with fail
     refine wp_loop_rounds 1 ?_
     rw [rounds_succ]
     go_wp2_with fail
     go_ret
     exact ⟨ret1 (za1 (by simp)), Below.refl _ _⟩
   · obtain ⟨b, o, c0, hv, hc, hm, hcell⟩ := HR.out.cells (by omega)
     obtain ⟨b', o', c0', hv', hc', hm', hcell'⟩ := HR'.out.cells (by omega)
     injection hv with e1 _ e2; injection hv' with e3 _ e4
     subst e1 e2 e3 e4
     have HL := zhd hl
     have HC := zhd hcell; have HC' := zhd hcell'
     clear hcell hcell' hl
     unfold maxLen at hm hm'
     go_enter Tryz.func52, Tryz.ntmps52
     go_wp2_with fail
     go_loopw [13] (fun i wr => ∃ k : Nat, k ≤ xs.length ∧ i = .int .i64 k ∧ xs.take k = ys.take k ∧ Below w.heap.size w wr ∧ (∀ a, wr.cell? a = w.cell? a)) (fun i _ => xs.length - (intOf i).toNat)
     case atStart => exact ⟨0, Nat.zero_le _, rfl, rfl, Below.refl _ _, fun _ => rfl⟩
     case round =>
      obtain ⟨k, hk, rfl, ht, hb, hw⟩ := hrel
      have HT := zhd ht; have HB := zhd hb; have HW := zhd hw; clear ht hb hw
      by_cases hlt : k < xs.length
      · have hlt' : k < ys.length := by rw [← HL.out]; exact hlt
        have g1 : wr.cell? ⟨b, o + k, none⟩ = some (.int .i64 (xs[k])) := by rw [HW.out]; exact HC.out k _ (by simp [hlt])
        have g2 : wr.cell? ⟨b', o' + k, none⟩ = some (.int .i64 (ys[k])) := by rw [HW.out]; exact HC'.out k _ (by simp [hlt'])
        by_cases hx : xs[k] = ys[k]
        · have hxb : (xs[k] != ys[k]) = false := by simp [hx]
          have HX := zhd hx; clear hx
          go_wp2_with fail
          go_quiet (fail)
          go_wp2_with fail
          refine ⟨⟨k + 1, by omega, by go_num, ?_, zaF HB.out _, HW.out⟩, by simp [intOf]; omega⟩
          rw [List.take_succ_eq_append_getElem hlt, List.take_succ_eq_append_getElem hlt', HT.out, HX.out]
        · have hxb : (xs[k] != ys[k]) = true := by simp [hx]
          have hd : decide (xs = ys) = false := decide_eq_false (fun e => hx (by subst e; rfl))
          have HD := zhd hd; clear hx hd
          go_wp2_with fail
          go_quiet (fail)
          go_wp2_with fail
          go_ret
          exact ⟨ret1 (za1 HD.out.symm), zaF HB.out _⟩
      · have hd : decide (xs = ys) = true := decide_eq_true (by
         have e1 := HT.out
         have hkx : k = xs.length := by omega
         rw [hkx, List.take_length, HL.out, List.take_length] at e1
         exact e1)
        have HD := zhd hd; clear hd
        go_wp2_with fail
        go_ret
        exact ⟨ret1 (za1 HD.out.symm), HB.out⟩
 · have hlb : (((xs.length : Nat) : Int) != ((ys.length : Nat) : Int)) = true := by simp; omega
   have hd : decide (xs = ys) = false := decide_eq_false (fun e => hl (by rw [e]))
   rw [hd]
   clear hl hd
   go_enter Tryz.func52, Tryz.ntmps52
   go_wp2_with fail
   go_ret
   exact ⟨ret1 (za1 rfl), Below.refl _ _⟩

theorem zfE (a b c d : Int) (w : World) : (part 3 #[.int .i64 a, .int .i64 b, .int .i64 c, .int .i64 d] 0).run Tryz.prog w = .ok (.int .i64 a) w := by kernel_rfl
theorem zgO (a b c d : Int) (w : World) : (part 3 #[.int .i64 a, .int .i64 b, .int .i64 c, .int .i64 d] 1).run Tryz.prog w = .ok (.int .i64 b) w := by kernel_rfl
theorem zgN (a b c d : Int) (w : World) : (part 3 #[.int .i64 a, .int .i64 b, .int .i64 c, .int .i64 d] 2).run Tryz.prog w = .ok (.int .i64 c) w := by kernel_rfl
theorem zgM (a b c d : Int) (w : World) : (part 3 #[.int .i64 a, .int .i64 b, .int .i64 c, .int .i64 d] 3).run Tryz.prog w = .ok (.int .i64 d) w := by kernel_rfl
theorem eq_int (d : Nat) (a b : Int) (w : World) : (Op.equalIn (d + 1) 3 (.int .i64 a) (.int .i64 b)).run Tryz.prog w = .ok (a == b) w := run_equalIn_int w d 3 .i64 .i64 a b Tryz.underlying3
theorem arr4_eq (w : World) (a0 a1 a2 a3 b0 b1 b2 b3 : Int) : (Op.equalIn 10000 73 (.agg #[.int .i64 a0, .int .i64 a1, .int .i64 a2, .int .i64 a3]) (.agg #[.int .i64 b0, .int .i64 b1, .int .i64 b2, .int .i64 b3])).run Tryz.prog w = .ok (decide (a0 = b0 ∧ a1 = b1 ∧ a2 = b2 ∧ a3 = b3)) w := by
 have e := fun a b w => eq_int 9998 a b w
 rw [show (10000 : Nat) = 9999 + 1 from rfl, Op.equalIn]
 by_cases h0 : a0 = b0
 · by_cases h1 : a1 = b1
   · by_cases h2 : a2 = b2
     · by_cases h3 : a3 = b3
       · simp [run_underlying Tryz.underlying73, Std.Legacy.Range.forIn_eq_forIn_range', Std.Legacy.Range.size, List.range', zfE, zgO, zgN, zgM, e, h0, h1, h2, h3]
       · simp [run_underlying Tryz.underlying73, Std.Legacy.Range.forIn_eq_forIn_range', Std.Legacy.Range.size, List.range', zfE, zgO, zgN, zgM, e, h0, h1, h2, h3]
     · simp [run_underlying Tryz.underlying73, Std.Legacy.Range.forIn_eq_forIn_range', Std.Legacy.Range.size, List.range', zfE, zgO, zgN, zgM, e, h0, h1, h2]
   · simp [run_underlying Tryz.underlying73, Std.Legacy.Range.forIn_eq_forIn_range', Std.Legacy.Range.size, List.range', zfE, zgO, zgN, zgM, e, h0, h1]
 · simp [run_underlying Tryz.underlying73, Std.Legacy.Range.forIn_eq_forIn_range', Std.Legacy.Range.size, List.range', zfE, e, h0]

def zi2 (s t : St) : Bool := decide (s.r0 = t.r0 ∧ s.r1 = t.r1 ∧ s.r2 = t.r2 ∧ s.r3 = t.r3)
def zeJ (s t : St) : Bool := (s.k == t.k) && (zi2 s t && ((s.sent == t.sent) && ((s.ra == t.ra) && decide (s.q = t.q))))
theorem arr4_st (w : World) (s t : St) : (Op.equalIn 10000 73 (.agg #[.int .i64 s.r0, .int .i64 s.r1, .int .i64 s.r2, .int .i64 s.r3]) (.agg #[.int .i64 t.r0, .int .i64 t.r1, .int .i64 t.r2, .int .i64 t.r3])).run Tryz.prog w = .ok (zi2 s t) w := arr4_eq _ _ _ _ _ _ _ _ _
set_option maxHeartbeats 4000000 in
theorem same_any (v v' : Value) (s t : St) (w : World) (h : IsSt w v s) (h' : IsSt w v' t) :
 Calls Tryz.prog 56 #[v, v'] w fun e w' => e = .returned (.bool (zeJ s t)) ∧ Below w.heap.size w w' := by
 obtain ⟨qv, rfl, hr⟩ := h
 obtain ⟨qa, qc, rfl⟩ := hr.shape
 obtain ⟨qv', rfl, hr'⟩ := h'
 obtain ⟨qa', qc', rfl⟩ := hr'.shape
 have bel : Below w.heap.size w ((w.alloc (.cells (stC s (.slice qa s.q.length qc)) 75)).alloc (.cells (stC t (.slice qa' t.q.length qc')) 75)) := ((Below.refl _ _).alloc (Nat.le_refl _) _).alloc (by simp) _
 have HR := zhd (hr.below bel); have HR' := zhd (hr'.below bel); have HBEL := zhd bel; clear hr hr' bel
 have ha := fun w => arr4_st w s t
 unfold stC at *
 cases hk : (s.k == t.k)
 case false =>
  have e : zeJ s t = false := by simp only [zeJ, hk, Bool.false_and]
  rw [e]; clear e
  go_enter Tryz.func56, Tryz.ntmps56
  go_wp2_with fail
  go_ret
  exact ⟨ret1 (za1 rfl), HBEL.out⟩
 case true =>
 cases hg : zi2 s t
 case false =>
  have e : zeJ s t = false := by simp only [zeJ, hk, hg, Bool.false_and, Bool.and_false]
  rw [e]; clear e
  go_enter Tryz.func56, Tryz.ntmps56
  go_wp2_with fail
  go_ret
  exact ⟨ret1 (za1 rfl), HBEL.out⟩
 case true =>
 cases hs : (s.sent == t.sent)
 case false =>
  have e : zeJ s t = false := by simp only [zeJ, hk, hg, hs, Bool.false_and, Bool.and_false]
  rw [e]; clear e
  go_enter Tryz.func56, Tryz.ntmps56
  go_wp2_with fail
  go_ret
  exact ⟨ret1 (za1 rfl), HBEL.out⟩
 case true =>
 cases hra : (s.ra == t.ra)
 case false =>
  have e : zeJ s t = false := by simp only [zeJ, hk, hg, hs, hra, Bool.false_and, Bool.and_false]
  rw [e]; clear e
  go_enter Tryz.func56, Tryz.ntmps56
  go_wp2_with fail
  go_ret
  exact ⟨ret1 (za1 rfl), HBEL.out⟩
 case true =>
  have e : zeJ s t = decide (s.q = t.q) := by simp only [zeJ, hk, hg, hs, hra, Bool.true_and]
  rw [e]; clear e
  go_enter Tryz.func56, Tryz.ntmps56
  go_wp2_with fail
  refine (zkA _ _ s.q t.q _ HR.out HR'.out).mono ?_
  rintro e w1 ⟨rfl, hb⟩
  have HB := zhd hb; clear hb
  go_wp2_with fail
  go_ret
  exact ⟨ret1 (za1 rfl), HBEL.out.trans (HB.out.mono (by simp; omega))⟩
end
section
open Go.RowKit
set_option maxRecDepth 100000

structure Inv (s : St) : Prop where
 k : 1 ≤ s.k ∧ s.k ≤ 3
 q : s.q.length ≤ 16
 sent : 0 ≤ s.sent ∧ s.sent ≤ 2147483647
 r0 : -2147483648 ≤ s.r0 ∧ s.r0 ≤ 2147483647
theorem and_most (x : Int) : bits .and .i64 x 2147483647 = x % 2147483648 := by
 have e : bits .and .i64 x 2147483647 = (BitVec.ofInt 64 x &&& BitVec.ofInt 64 2147483647).toInt := zcj _
 rw [e, BitVec.toInt_eq_toNat_bmod, BitVec.toNat_and, BitVec.toNat_ofInt, BitVec.toNat_ofInt]
 rw [show ((2147483647 : Int) % (2 ^ 64 : Nat)).toNat = 2147483647 from rfl, Nat.and_two_pow_sub_one_eq_mod _ 31]
 unfold Int.bmod; simp only [Nat.reducePow]; omega
theorem inv_new (k : Int) (h : 1 ≤ k ∧ k ≤ 3) : Inv (newS k) := ⟨h, by simp [newS], by simp [newS], by simp [newS]⟩
theorem zg1 {s : St} (h : Inv s) : Inv (za7 s) := ⟨h.k, h.q, h.sent, h.r0⟩
theorem inv_read {s : St} (h : Inv s) (reg : Int) : Inv (zbI s reg) := by
 obtain ⟨hk, hq, hs, h0⟩ := h
 unfold zbI; split
 · exact ⟨hk, by simp; omega, hs, h0⟩
 · exact ⟨hk, hq, hs, h0⟩
theorem zl4 {s : St} (h : Inv s) (reg n : Int) (hn : -2147483648 ≤ n ∧ n ≤ 2147483647) : Inv (zbo s reg n) := by
 obtain ⟨hk, hq, hs, h0⟩ := h
 unfold zbo
 repeat' split
 all_goals first | exact ⟨hk, hq, hs, h0⟩ | exact ⟨hk, hq, hs, hn⟩ | exact ⟨hk, hq, by simp only [and_most]; omega, h0⟩
theorem zl5 {s : St} (h : Inv s) (n : Int) : Inv (zbp s n) := by
 obtain ⟨hk, hq, hs, h0⟩ := h
 unfold zbp
 repeat' split
 all_goals first | exact ⟨hk, hq, hs, h0⟩ | exact ⟨hk, hq, hs, zdI _⟩ | exact ⟨hk, by simp; omega, hs, h0⟩

/-! The calls at any device that may be. -/
theorem k3 {k : Int} (h : 1 ≤ k ∧ k ≤ 3) : k = 1 ∨ k = 2 ∨ k = 3 := by omega
theorem zkO (v : Value) (s : St) (reg n : Int) (w : World) (h : IsSt w v s) (hi : Inv s) (hreg : 0 ≤ reg ∧ reg < 4) :
 Calls Tryz.prog 165 #[v, .int .i64 reg, .int .i64 n] w fun e w' => ∃ v', e = .returned v' ∧ IsStF w.heap.size w' v' (za7 (zbo s reg (wrap32 n))) ∧ Below w.heap.size w w' := by
 have hq := hi.q
 rcases k3 hi.k with hk | hk | hk
 · exact zdE v s reg n w h (.inl hk) (by omega) hreg hi.sent
 · exact zdE v s reg n w h (.inr (.inl hk)) (by omega) hreg hi.sent
 · exact zdE v s reg n w h (.inr (.inr hk)) (by omega) hreg hi.sent
theorem zl7 (v : Value) (s : St) (n : Int) (w : World) (h : IsSt w v s) (hi : Inv s) :
 Calls Tryz.prog 80 #[v, .int .i64 n] w fun e w' => ∃ v', e = .returned v' ∧ IsStF w.heap.size w' v' (za7 (zbp s (wrap32 n))) ∧ Below w.heap.size w w' := by
 have hq := hi.q
 rcases k3 hi.k with hk | hk | hk
 · exact zdW v s n w h (.inl hk) (by omega) hi.r0
 · exact zdW v s n w h (.inr (.inl hk)) (by omega) hi.r0
 · exact zdW v s n w h (.inr (.inr hk)) (by omega) hi.r0
theorem read_any (v : Value) (s : St) (reg : Int) (w : World) (h : IsSt w v s) (hi : Inv s) (hreg : 0 ≤ reg ∧ reg < 4) :
 Calls Tryz.prog 166 #[v, .int .i64 reg] w fun e w' => ∃ v', e = .returned (.tuple #[.int .i64 (zbl s reg), v']) ∧ IsStF w.heap.size w' v' (za7 (zbI s reg)) ∧ Below w.heap.size w w' := by
 have hq := hi.q
 rcases k3 hi.k with hk | hk | hk
 · exact zem v s reg w h (.inl hk) (by omega) hreg
 · exact zem v s reg w h (.inr (.inl hk)) (by omega) hreg
 · exact zem v s reg w h (.inr (.inr hk)) (by omega) hreg
end
section
open Go.RowKit
set_option maxRecDepth 100000
set_option maxHeartbeats 1000000 in
theorem of_other (v : Value) (s : St) (w : World) (h : IsSt w v s) (h1 : ¬ s.k = 1) (h2 : ¬ s.k = 2) (h3 : ¬ s.k = 3) (hq : s.q.length ≤ 1000) :
 Calls Tryz.prog 64 #[v] w fun e w' => e = .returned .nilIface ∧ Below w.heap.size w w' := by
 obtain ⟨qv, rfl, hr⟩ := h
 obtain ⟨qa, qc, rfl⟩ := hr.shape
 have hr' : Reads (w.alloc (.cells (stC s (.slice qa s.q.length qc)) 75)) 1 s.q.length (.slice qa s.q.length qc) (qL s) := hr.below ((Below.refl _ _).alloc (Nat.le_refl _) _)
 have HR := zhd hr'; clear hr hr'
 obtain ⟨k, r0, r1, r2, r3, q, sent, ra⟩ := s
 simp only at h1 h2 h3 hq
 unfold stC at *
 go_enter Tryz.func64, Tryz.ntmps64
 go_wp2_with fail
 refine (zbi _ _ _ _ HR.out (by omega)).mono ?_
 rintro e w1 ⟨v1, rfl, hown, hbel⟩
 obtain ⟨a1, c1, rfl⟩ := zai hown
 have hbl := zaq hbel (by simp) (zat w _)
 have hlt := zao hbl
 obtain ⟨g0, g1, g2, g3, g4, g5, g6, g7, f0, f1, f2, f3, f4, f5, f6, f7⟩ := zba hbl
 have HB := zhd hbel; have HO := zhd hown; have HL := zhd hbl
 clear hbel hown hbl
 go_wp2_with fail
 go_ret
 exact ⟨rfl, (((Below.refl _ _).alloc (Nat.le_refl _) _).trans (HB.out.mono (by simp))).setCell (Nat.le_refl _) _⟩
set_option maxHeartbeats 1000000 in
theorem zlG (k : Int) (h1 : ¬ k = 1) (h2 : ¬ k = 2) (h3 : ¬ k = 3) (w : World) :
 Calls Tryz.prog 27 #[.int .i64 k] w fun e w' => ∃ v', e = .returned v' ∧ IsStF w.heap.size w' v' (newS 0) ∧ Below w.heap.size w w' := by
 go_enter Tryz.func27, Tryz.ntmps27
 go_wp2_with fail
 refine (of_other _ (newS k) _ ⟨_, rfl, Reads.nil _ _⟩ h1 h2 h3 (by simp [newS])).mono ?_
 rintro e w1 ⟨rfl, hb⟩
 have h0 := zaq (b := w.heap.size) hb (by simp; omega) (zaq (B := w.heap.size + 1) ((Below.refl _ _).alloc (by simp) _) (by omega) (zc0 _ _ _ rfl))
 have hl0 := zao h0
 obtain ⟨u0, u1, u2, u3, u4, u5, u6, u7, t0, t1, t2, t3, t4, t5, t6, t7⟩ := zba h0
 have HB := zhd hb
 clear h0 hb
 go_wp2_with fail
 have HV : IsStF (w.heap.size + 1) w1 (.agg (stC (newS 0) (.slice none 0 0))) (newS 0) := ⟨_, rfl, Reads.nil _ _, fun a n c h => by cases h⟩
 have bel : Below w.heap.size w w1 := (((Below.refl _ _).alloc (Nat.le_refl _) _).alloc (by simp) _).trans (HB.out.mono (by simp; omega))
 have hll : w.heap.size < w.heap.size + 1 := by omega
 have hle := Nat.le_refl w.heap.size
 refine bodyPost_ret (v := .agg (stC (newS 0) (.slice none 0 0))) (by simp [results, Tryz.results27, go_sem, stC, newS, u0, u1, u2, u3, u4, u5, u6, u7]) rfl ⟨_, rfl, IsStF.mono (B := w.heap.size + 1) (by omega) ?_, ?_⟩
 · iterate 8 apply zdd hll
   exact HV
 · iterate 8 apply za2 hle
   exact bel
end
end Go.Proofs.YtdobddiibgfeaaaGreat
