/-
  What the walks of this statement lean on (DevWithW, DevWithI, DevWithR): shown.
-/
import Derived.Test.YtdobddiibgfeaaaGreatZa
import Derived.Test.YtdobddiibgfeaaaGreatZh
set_option linter.unusedVariables false
set_option linter.unusedSimpArgs false
namespace Go.Proofs.YtdobddiibgfeaaaGreat
section
open Go.RowKit
set_option maxRecDepth 100000

set_option maxHeartbeats 2000000 in
theorem zh9 (pr pn : Nat) (v : Value) (s : St) (reg n : Int) (w : World) (h : IsSt w v s) (hk : s.k = 1 ∨ s.k = 2 ∨ s.k = 3) (hq : s.q.length ≤ 1000) (hreg : 0 ≤ reg ∧ reg < 4) (hs : 0 ≤ s.sent ∧ s.sent ≤ 2147483647)
 (h1 : w.cell? ⟨pr, 0, none⟩ = some (.int .i64 reg)) (hp : pr < w.heap.size) (h2 : w.cell? ⟨pn, 0, none⟩ = some (.int .i64 n)) (hp2 : pn < w.heap.size) :
 Calls Tryz.prog 125 #[v, .int .i64 reg, .func (.func 191) #[] #[.pointer (some ⟨pr, 0, none⟩), .pointer (some ⟨pn, 0, none⟩)]] w fun e w' => ∃ v', e = .returned v' ∧ IsStF w.heap.size w' v' (za7 (zbo s reg (wrap32 n))) ∧ Below w.heap.size w w' := by
 rcases hk with hk | hk | hk
 all_goals
  obtain ⟨qv, rfl, hr⟩ := h
  obtain ⟨qa, qc, rfl⟩ := hr.shape
  have bel0 : Below w.heap.size w ((w.alloc (.cells (stC s (.slice qa s.q.length qc)) 75)).alloc (.cells #[.int .i64 0, .int .i64 0, .int .i64 0, .int .i64 0, .int .i64 0, .slice none 0 0, .int .i64 0, .bool false] 75)) := ((Below.refl _ _).alloc (Nat.le_refl _) _).alloc (by simp) _
  have hst : IsSt ((w.alloc (.cells (stC s (.slice qa s.q.length qc)) 75)).alloc (.cells #[.int .i64 0, .int .i64 0, .int .i64 0, .int .i64 0, .int .i64 0, .slice none 0 0, .int .i64 0, .bool false] 75)) (.agg (stC s (.slice qa s.q.length qc))) s := ⟨_, rfl, hr.below bel0⟩
  have H2 := zhd h2; have HK := zhd hk; have HST := zhd hst; have B0 := zhd bel0
  clear h2 hk hst hr bel0
  have H1 := zhd h1; clear h1
  unfold stC at *
  go_enter Tryz.func125, Tryz.ntmps125
  go_wp2_with fail
  first | refine (zgS _ s _ HST.out HK.out hq).mono ?_ | refine (zfq _ s _ HST.out HK.out hq).mono ?_ | refine (zgT _ s _ HST.out HK.out hq).mono ?_
  rintro e w1 ⟨b, rfl, hW, hb⟩
  have HW := zhd hW; have B1 := zhd hb
  clear hW hb
  have bel1 : Below w.heap.size w w1 := B0.out.trans (B1.out.mono (by simp; omega))
  have B1' := zhd bel1; clear bel1
  have H1' : w1.cell? ⟨pr, 0, none⟩ = some (.int .i64 reg) := by rw [B1'.out.cell (p := ⟨pr, 0, none⟩) hp]; exact H1.out
  have C1 := zhd H1'; clear H1'
  have H2' : w1.cell? ⟨pn, 0, none⟩ = some (.int .i64 n) := by rw [B1'.out.cell (p := ⟨pn, 0, none⟩) hp2]; exact H2.out
  have C2 := zhd H2'; clear H2'
  go_wp2_with fail
  first | refine (zkP _ b pr pn s reg n _ HW.out HK.out hreg hs C1.out C2.out).mono ?_ | refine (zjF _ b pr pn s reg n _ HW.out HK.out hreg hs C1.out C2.out).mono ?_ | refine (zkQ _ b pr pn s reg n _ HW.out HK.out hreg hs C1.out C2.out).mono ?_
  rintro e w2 ⟨rfl, ha, hb⟩
  have HA := zhd ha; have B2 := zhd hb
  clear ha hb
  go_wp2_with fail
  first | refine (zf4 _ b _ _ HA.out (ziu s reg _ HK.out)).mono ?_ | refine (zeQ _ b _ _ HA.out (ziu s reg _ HK.out)).mono ?_ | refine (zf5 _ b _ _ HA.out (ziu s reg _ HK.out)).mono ?_
  rintro e w3 ⟨v', rfl, hv, hb⟩
  have HV := zhd hv; have B3 := zhd hb
  clear hb
  obtain ⟨qv, hv, hr, hf⟩ := hv
  obtain ⟨qa', qc', rfl⟩ := hr.shape
  clear hr hf
  have hz : w3.heap[w.heap.size + 1]? = some (.cells #[.int .i64 0, .int .i64 0, .int .i64 0, .int .i64 0, .int .i64 0, .slice none 0 0, .int .i64 0, .bool false] 75) := by
   have h0 : ((w.alloc (.cells #[Value.int .i64 s.k, .int .i64 s.r0, .int .i64 s.r1, .int .i64 s.r2, .int .i64 s.r3, .slice qa s.q.length qc, .int .i64 s.sent, .bool s.ra] 75)).alloc (.cells #[.int .i64 0, .int .i64 0, .int .i64 0, .int .i64 0, .int .i64 0, .slice none 0 0, .int .i64 0, .bool false] 75)).heap[w.heap.size + 1]? = some (.cells #[.int .i64 0, .int .i64 0, .int .i64 0, .int .i64 0, .int .i64 0, .slice none 0 0, .int .i64 0, .bool false] 75) := by
    have := zat (w.alloc (.cells #[Value.int .i64 s.k, .int .i64 s.r0, .int .i64 s.r1, .int .i64 s.r2, .int .i64 s.r3, .slice qa s.q.length qc, .int .i64 s.sent, .bool s.ra] 75)) (.cells #[.int .i64 0, .int .i64 0, .int .i64 0, .int .i64 0, .int .i64 0, .slice none 0 0, .int .i64 0, .bool false] 75)
    simpa using this
   have h1 := zaq B1.out (by simp) h0
   have h2 := zaq B2.out (by simp) h1
   exact zaq B3.out (zao h2) h2
  have hlt := zao hz
  obtain ⟨u0, u1, u2, u3, u4, u5, u6, u7, t0, t1, t2, t3, t4, t5, t6, t7⟩ := zba hz
  clear hz
  subst hv
  have hll : w.heap.size + 1 < w.heap.size + 1 + 1 := by omega
  have hle : w.heap.size ≤ w.heap.size + 1 := by omega
  have HV2 : IsStF (w.heap.size + 1 + 1) w3 (.agg (stC (za7 (zbo s reg (wrap32 n))) (.slice qa' (za7 (zbo s reg (wrap32 n))).q.length qc'))) (za7 (zbo s reg (wrap32 n))) := by simpa using HV.out
  have bel3 : Below w.heap.size w w3 := B1'.out.trans ((B2.out.mono (by simp; omega)).trans (B3.out.mono (Nat.le_trans B1'.out.size B2.out.size)))
  have HV3 := zhd HV2; have B4 := zhd bel3
  clear HV HV2 bel3
  unfold stC
  go_wp2_with fail
  refine bodyPost_ret (v := .agg (stC (za7 (zbo s reg (wrap32 n))) (.slice qa' (za7 (zbo s reg (wrap32 n))).q.length qc'))) (by simp [results, Tryz.results125, go_sem, stC, u0, u1, u2, u3, u4, u5, u6, u7]) rfl ⟨_, rfl, IsStF.mono (B := w.heap.size + 1 + 1) (by omega) ?_, ?_⟩
  · iterate 8 apply zdd hll
    exact HV3.out
  · iterate 8 apply za2 hle
    exact B4.out
end
section
open Go.RowKit
set_option maxRecDepth 100000

set_option maxHeartbeats 2000000 in
theorem zib (pn : Nat) (v : Value) (s : St) (n : Int) (w : World) (h : IsSt w v s) (hk : s.k = 1 ∨ s.k = 2 ∨ s.k = 3) (hq : s.q.length ≤ 1000)  (hs : -2147483648 ≤ s.r0 ∧ s.r0 ≤ 2147483647)
 (h2 : w.cell? ⟨pn, 0, none⟩ = some (.int .i64 n)) (hp2 : pn < w.heap.size) :
 Calls Tryz.prog 125 #[v, .int .i64 0, .func (.func 126) #[] #[.pointer (some ⟨pn, 0, none⟩)]] w fun e w' => ∃ v', e = .returned v' ∧ IsStF w.heap.size w' v' (za7 (zbp s (wrap32 n))) ∧ Below w.heap.size w w' := by
 rcases hk with hk | hk | hk
 all_goals
  obtain ⟨qv, rfl, hr⟩ := h
  obtain ⟨qa, qc, rfl⟩ := hr.shape
  have bel0 : Below w.heap.size w ((w.alloc (.cells (stC s (.slice qa s.q.length qc)) 75)).alloc (.cells #[.int .i64 0, .int .i64 0, .int .i64 0, .int .i64 0, .int .i64 0, .slice none 0 0, .int .i64 0, .bool false] 75)) := ((Below.refl _ _).alloc (Nat.le_refl _) _).alloc (by simp) _
  have hst : IsSt ((w.alloc (.cells (stC s (.slice qa s.q.length qc)) 75)).alloc (.cells #[.int .i64 0, .int .i64 0, .int .i64 0, .int .i64 0, .int .i64 0, .slice none 0 0, .int .i64 0, .bool false] 75)) (.agg (stC s (.slice qa s.q.length qc))) s := ⟨_, rfl, hr.below bel0⟩
  have H2 := zhd h2; have HK := zhd hk; have HST := zhd hst; have B0 := zhd bel0
  clear h2 hk hst hr bel0
  unfold stC at *
  go_enter Tryz.func125, Tryz.ntmps125
  go_wp2_with fail
  first | refine (zgS _ s _ HST.out HK.out hq).mono ?_ | refine (zfq _ s _ HST.out HK.out hq).mono ?_ | refine (zgT _ s _ HST.out HK.out hq).mono ?_
  rintro e w1 ⟨b, rfl, hW, hb⟩
  have HW := zhd hW; have B1 := zhd hb
  clear hW hb
  have bel1 : Below w.heap.size w w1 := B0.out.trans (B1.out.mono (by simp; omega))
  have B1' := zhd bel1; clear bel1
  have H2' : w1.cell? ⟨pn, 0, none⟩ = some (.int .i64 n) := by rw [B1'.out.cell (p := ⟨pn, 0, none⟩) hp2]; exact H2.out
  have C2 := zhd H2'; clear H2'
  go_wp2_with fail
  first | refine (zmc _ b pn s n _ HW.out HK.out hs C2.out).mono ?_ | refine (zkg _ b pn s n _ HW.out HK.out hs C2.out).mono ?_ | refine (zmd _ b pn s n _ HW.out HK.out hs C2.out).mono ?_
  rintro e w2 ⟨rfl, ha, hb⟩
  have HA := zhd ha; have B2 := zhd hb
  clear ha hb
  go_wp2_with fail
  first | refine (zf4 _ b _ _ HA.out (ziv s _ HK.out)).mono ?_ | refine (zeQ _ b _ _ HA.out (ziv s _ HK.out)).mono ?_ | refine (zf5 _ b _ _ HA.out (ziv s _ HK.out)).mono ?_
  rintro e w3 ⟨v', rfl, hv, hb⟩
  have HV := zhd hv; have B3 := zhd hb
  clear hb
  obtain ⟨qv, hv, hr, hf⟩ := hv
  obtain ⟨qa', qc', rfl⟩ := hr.shape
  clear hr hf
  have hz : w3.heap[w.heap.size + 1]? = some (.cells #[.int .i64 0, .int .i64 0, .int .i64 0, .int .i64 0, .int .i64 0, .slice none 0 0, .int .i64 0, .bool false] 75) := by
   have h0 : ((w.alloc (.cells #[Value.int .i64 s.k, .int .i64 s.r0, .int .i64 s.r1, .int .i64 s.r2, .int .i64 s.r3, .slice qa s.q.length qc, .int .i64 s.sent, .bool s.ra] 75)).alloc (.cells #[.int .i64 0, .int .i64 0, .int .i64 0, .int .i64 0, .int .i64 0, .slice none 0 0, .int .i64 0, .bool false] 75)).heap[w.heap.size + 1]? = some (.cells #[.int .i64 0, .int .i64 0, .int .i64 0, .int .i64 0, .int .i64 0, .slice none 0 0, .int .i64 0, .bool false] 75) := by
    have := zat (w.alloc (.cells #[Value.int .i64 s.k, .int .i64 s.r0, .int .i64 s.r1, .int .i64 s.r2, .int .i64 s.r3, .slice qa s.q.length qc, .int .i64 s.sent, .bool s.ra] 75)) (.cells #[.int .i64 0, .int .i64 0, .int .i64 0, .int .i64 0, .int .i64 0, .slice none 0 0, .int .i64 0, .bool false] 75)
    simpa using this
   have h1 := zaq B1.out (by simp) h0
   have h2 := zaq B2.out (by simp) h1
   exact zaq B3.out (zao h2) h2
  have hlt := zao hz
  obtain ⟨u0, u1, u2, u3, u4, u5, u6, u7, t0, t1, t2, t3, t4, t5, t6, t7⟩ := zba hz
  clear hz
  subst hv
  have hll : w.heap.size + 1 < w.heap.size + 1 + 1 := by omega
  have hle : w.heap.size ≤ w.heap.size + 1 := by omega
  have HV2 : IsStF (w.heap.size + 1 + 1) w3 (.agg (stC (za7 (zbp s (wrap32 n))) (.slice qa' (za7 (zbp s (wrap32 n))).q.length qc'))) (za7 (zbp s (wrap32 n))) := by simpa using HV.out
  have bel3 : Below w.heap.size w w3 := B1'.out.trans ((B2.out.mono (by simp; omega)).trans (B3.out.mono (Nat.le_trans B1'.out.size B2.out.size)))
  have HV3 := zhd HV2; have B4 := zhd bel3
  clear HV HV2 bel3
  unfold stC
  go_wp2_with fail
  refine bodyPost_ret (v := .agg (stC (za7 (zbp s (wrap32 n))) (.slice qa' (za7 (zbp s (wrap32 n))).q.length qc'))) (by simp [results, Tryz.results125, go_sem, stC, u0, u1, u2, u3, u4, u5, u6, u7]) rfl ⟨_, rfl, IsStF.mono (B := w.heap.size + 1 + 1) (by omega) ?_, ?_⟩
  · iterate 8 apply zdd hll
    exact HV3.out
  · iterate 8 apply za2 hle
    exact B4.out
end
section
open Go.RowKit
set_option maxRecDepth 100000

set_option maxHeartbeats 2000000 in
theorem zia (pr pn : Nat) (v : Value) (s : St) (reg : Int) (u : Value) (T : TypeId) (w : World) (h : IsSt w v s) (hk : s.k = 1 ∨ s.k = 2 ∨ s.k = 3) (hq : s.q.length ≤ 1000) (hreg : 0 ≤ reg ∧ reg < 4) 
 (h1 : w.cell? ⟨pr, 0, none⟩ = some (.int .i64 reg)) (hp : pr < w.heap.size) (h2 : w.heap[pn]? = some (.cells #[u] T (0, 0))) (hp2 : pn < w.heap.size) :
 Calls Tryz.prog 125 #[v, .int .i64 reg, .func (.func 192) #[] #[.pointer (some ⟨pr, 0, none⟩), .pointer (some ⟨pn, 0, none⟩)]] w fun e w' => ∃ v', e = .returned v' ∧ IsStF w.heap.size w' v' (za7 (zbI s reg)) ∧ w.grownBy w' (some pn) ∧ w'.heap[pn]? = some (.cells #[.int .i64 (zbl s reg)] T (0, 0)) := by
 rcases hk with hk | hk | hk
 all_goals
  obtain ⟨qv, rfl, hr⟩ := h
  obtain ⟨qa, qc, rfl⟩ := hr.shape
  have bel0 : Below w.heap.size w ((w.alloc (.cells (stC s (.slice qa s.q.length qc)) 75)).alloc (.cells #[.int .i64 0, .int .i64 0, .int .i64 0, .int .i64 0, .int .i64 0, .slice none 0 0, .int .i64 0, .bool false] 75)) := ((Below.refl _ _).alloc (Nat.le_refl _) _).alloc (by simp) _
  have hst : IsSt ((w.alloc (.cells (stC s (.slice qa s.q.length qc)) 75)).alloc (.cells #[.int .i64 0, .int .i64 0, .int .i64 0, .int .i64 0, .int .i64 0, .slice none 0 0, .int .i64 0, .bool false] 75)) (.agg (stC s (.slice qa s.q.length qc))) s := ⟨_, rfl, hr.below bel0⟩
  have H2 := zhd h2; have HK := zhd hk; have HST := zhd hst; have B0 := zhd bel0
  clear h2 hk hst hr bel0
  have H1 := zhd h1; clear h1
  unfold stC at *
  go_enter Tryz.func125, Tryz.ntmps125
  go_wp2_with fail
  first | refine (zgS _ s _ HST.out HK.out hq).mono ?_ | refine (zfq _ s _ HST.out HK.out hq).mono ?_ | refine (zgT _ s _ HST.out HK.out hq).mono ?_
  rintro e w1 ⟨b, rfl, hW, hb⟩
  have HW := zhd hW; have B1 := zhd hb
  clear hW hb
  have bel1 : Below w.heap.size w w1 := B0.out.trans (B1.out.mono (by simp; omega))
  have B1' := zhd bel1; clear bel1
  have H1' : w1.cell? ⟨pr, 0, none⟩ = some (.int .i64 reg) := by rw [B1'.out.cell (p := ⟨pr, 0, none⟩) hp]; exact H1.out
  have C1 := zhd H1'; clear H1'
  have C2 := zhd (zaq B1'.out hp2 H2.out)
  go_wp2_with fail
  first | refine (zlu _ b pr pn s reg _ _ _ HW.out HK.out hreg C1.out C2.out (by simp; omega)).mono ?_ | refine (zjX _ b pr pn s reg _ _ _ HW.out HK.out hreg C1.out C2.out (by simp; omega)).mono ?_ | refine (zlv _ b pr pn s reg _ _ _ HW.out HK.out hreg C1.out C2.out (by simp; omega)).mono ?_
  rintro e w2 ⟨rfl, w2', hw2, ha', hb'⟩
  have hBb : ((w.alloc (.cells #[Value.int .i64 s.k, .int .i64 s.r0, .int .i64 s.r1, .int .i64 s.r2, .int .i64 s.r3, .slice qa s.q.length qc, .int .i64 s.sent, .bool s.ra] 75)).alloc (.cells #[.int .i64 0, .int .i64 0, .int .i64 0, .int .i64 0, .int .i64 0, .slice none 0 0, .int .i64 0, .bool false] 75)).heap.size ≤ b := by obtain ⟨_, _, h, _⟩ := HW.out; exact h
  have hpn := zaq hb' (by simp; omega) C2.out
  have hpn2 := zaG hpn 0 (.int .i64 (zbl s reg))
  have ha := After.set (o := 0) (u := .int .i64 (zbl s reg)) ha' (by simp; omega : pn < _) hBb
  rw [← hw2] at ha hpn2
  have hg : w.grownBy w2 (some pn) := by
   rw [hw2]; exact zhO (zdv (ziC B1'.out) (by simp; omega) hb')
  have hz2 : ∀ o, w2'.heap[w.heap.size + 1]? = o → w2.heap[w.heap.size + 1]? = o := fun o h => by rw [hw2]; exact zay (by omega) h
  have HPN := zhd hpn2; have HG := zhd hg; have HZ2 := zhd hz2; have HB' := zhd hb'
  clear hw2 ha' hpn hpn2 hg hz2 hb' hBb
  have HA := zhd ha
  clear ha
  go_wp2_with fail
  first | refine (zf4 _ b _ _ HA.out (zl0 s reg HK.out)).mono ?_ | refine (zeQ _ b _ _ HA.out (zl0 s reg HK.out)).mono ?_ | refine (zf5 _ b _ _ HA.out (zl0 s reg HK.out)).mono ?_
  rintro e w3 ⟨v', rfl, hv, hb⟩
  have HV := zhd hv; have B3 := zhd hb
  clear hb
  obtain ⟨qv, hv, hr, hf⟩ := hv
  obtain ⟨qa', qc', rfl⟩ := hr.shape
  clear hr hf
  have hz : w3.heap[w.heap.size + 1]? = some (.cells #[.int .i64 0, .int .i64 0, .int .i64 0, .int .i64 0, .int .i64 0, .slice none 0 0, .int .i64 0, .bool false] 75) := by
   have h0 : ((w.alloc (.cells #[Value.int .i64 s.k, .int .i64 s.r0, .int .i64 s.r1, .int .i64 s.r2, .int .i64 s.r3, .slice qa s.q.length qc, .int .i64 s.sent, .bool s.ra] 75)).alloc (.cells #[.int .i64 0, .int .i64 0, .int .i64 0, .int .i64 0, .int .i64 0, .slice none 0 0, .int .i64 0, .bool false] 75)).heap[w.heap.size + 1]? = some (.cells #[.int .i64 0, .int .i64 0, .int .i64 0, .int .i64 0, .int .i64 0, .slice none 0 0, .int .i64 0, .bool false] 75) := by
    have := zat (w.alloc (.cells #[Value.int .i64 s.k, .int .i64 s.r0, .int .i64 s.r1, .int .i64 s.r2, .int .i64 s.r3, .slice qa s.q.length qc, .int .i64 s.sent, .bool s.ra] 75)) (.cells #[.int .i64 0, .int .i64 0, .int .i64 0, .int .i64 0, .int .i64 0, .slice none 0 0, .int .i64 0, .bool false] 75)
    simpa using this
   have h1 := zaq B1.out (by simp) h0
   have h2 := HZ2.out _ (zaq HB'.out (by simp) h1)
   exact zaq B3.out (zao h2) h2
  have hlt := zao hz
  obtain ⟨u0, u1, u2, u3, u4, u5, u6, u7, t0, t1, t2, t3, t4, t5, t6, t7⟩ := zba hz
  clear hz
  subst hv
  have hll : w.heap.size + 1 < w.heap.size + 1 + 1 := by omega
  have hle : w.heap.size ≤ w.heap.size + 1 := by omega
  have HV2 : IsStF (w.heap.size + 1 + 1) w3 (.agg (stC (za7 (zbI s reg)) (.slice qa' (za7 (zbI s reg)).q.length qc'))) (za7 (zbI s reg)) := by simpa using HV.out
  have bel3 : w.grownBy w3 (some pn) := zdv HG.out HG.out.size B3.out
  have hpn3 := zaq B3.out (zao HPN.out) HPN.out
  have hne : pn ≠ w.heap.size + 1 := by omega
  have HP3 := zhd hpn3; clear hpn3
  have HV3 := zhd HV2; have B4 := zhd bel3
  clear HV HV2 bel3
  unfold stC
  go_wp2_with fail
  refine bodyPost_ret (v := .agg (stC (za7 (zbI s reg)) (.slice qa' (za7 (zbI s reg)).q.length qc'))) (by simp [results, Tryz.results125, go_sem, stC, u0, u1, u2, u3, u4, u5, u6, u7]) rfl ⟨_, rfl, IsStF.mono (B := w.heap.size + 1 + 1) (by omega) ?_, ?_⟩
  · iterate 8 apply zdd hll
    exact HV3.out
  · refine ⟨?_, ?_⟩
    · iterate 8 apply zhP hle
      exact B4.out
    · iterate 8 apply zay hne
      exact HP3.out
end
end Go.Proofs.YtdobddiibgfeaaaGreat
