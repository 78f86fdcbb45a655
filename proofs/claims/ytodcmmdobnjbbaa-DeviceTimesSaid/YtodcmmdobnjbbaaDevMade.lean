/-
  Devices that raw steps make.
-/
import Derived.Test.YtodcmmdobnjbbaaDevStep
import Derived.StillTailTactics
import Derived.Deep.LoopGhost
import Derived.Deep.RegionWith
namespace Go.Proofs.Ytodcmmdobnjbbaa
open Go.RowKit
theorem set8 {w : World} {b : Nat} {t : TypeId} {c0 c1 c2 c3 c4 c5 c6 c7 v0 v1 v2 v3 v4 v5 v6 v7 : Value} (h : w.heap[b]? = some (.cells #[c0, c1, c2, c3, c4, c5, c6, c7] t (0, 0))) :
    ((((((((w.setCell ⟨b, 0, none⟩ v0).setCell ⟨b, 1, none⟩ v1).setCell ⟨b, 2, none⟩ v2).setCell ⟨b, 3, none⟩ v3).setCell ⟨b, 4, none⟩ v4).setCell ⟨b, 5, none⟩ v5).setCell ⟨b, 6, none⟩ v6).setCell ⟨b, 7, none⟩ v7).heap[b]? = some (.cells #[v0, v1, v2, v3, v4, v5, v6, v7] t (0, 0)) :=
  by
  have h0 := set_in h 0 v0
  have h1 := set_in h0 1 v1
  have h2 := set_in h1 2 v2
  have h3 := set_in h2 3 v3
  have h4 := set_in h3 4 v4
  have h5 := set_in h4 5 v5
  have h6 := set_in h5 6 v6
  have h7 := set_in h6 7 v7
  simpa using h7
/-- A slice of triples that came in: what its elements are. -/
def Rows3 (w : World) (a : Option Addr) (len cap : Nat) (raw : List (Int × Int × Int)) : Prop :=
  raw.length = len ∧ (∀ r ∈ raw, I64 r.1 ∧ I64 r.2.1 ∧ I64 r.2.2) ∧ len ≤ cap ∧ cap ≤ maxLen ∧
  (len = 0 ∨ ∃ b o, a = some ⟨b, o, none⟩ ∧ b < w.heap.size ∧ ∀ i r, raw[i]? = some r → w.cell? ⟨b, o + i * 3, none⟩ = some (.int .i64 r.1) ∧ w.cell? ⟨b, o + i * 3 + 1, none⟩ = some (.int .i64 r.2.1) ∧ w.cell? ⟨b, o + i * 3 + 2, none⟩ = some (.int .i64 r.2.2))
theorem Rows3.below {w w' : World} {a : Option Addr} {len cap : Nat} {raw : List (Int × Int × Int)} (h : Rows3 w a len cap raw) (hb : Below w.heap.size w w') : Rows3 w' a len cap raw := by
  obtain ⟨h1, h2, h3, h4, h5⟩ := h
  refine ⟨h1, h2, h3, h4, ?_⟩
  rcases h5 with h5 | ⟨b, o, ha, hlt, hc⟩
  · exact .inl h5
  · refine .inr ⟨b, o, ha, Nat.lt_of_lt_of_le hlt hb.size, fun i r hr => ?_⟩
    obtain ⟨c1, c2, c3⟩ := hc i r hr
    exact ⟨by rw [hb.cell (p := ⟨b, _, none⟩) hlt]; exact c1, by rw [hb.cell (p := ⟨b, _, none⟩) hlt]; exact c2, by rw [hb.cell (p := ⟨b, _, none⟩) hlt]; exact c3⟩
/-- A variable that holds a state. -/
def StAt (F : Nat) (w : World) (b : Nat) (s : St) : Prop := ∃ qv, w.heap[b]? = some (.cells (stC s qv) 27 (0, 0)) ∧ Reads w 1 s.q.length qv (qL s) ∧ FreshV F qv
theorem StAt.below {F B : Nat} {w w' : World} {b : Nat} {s : St} (h : StAt F w b s) (hb : Below B w w') (h1 : b < B) (h2 : w.heap.size ≤ B) : StAt F w' b s := by
  obtain ⟨qv, hh, hr, hf⟩ := h
  exact ⟨qv, bel_in hb h1 hh, hr.below (hb.mono h2), hf⟩
theorem stf_fresh {B : Nat} {w : World} {s : St} {qv : Value} (h : IsStF B w (.agg (stC s qv)) s) : FreshV B qv := by
  obtain ⟨qv', e, _, hf⟩ := h
  have : qv' = qv := by
    have h1 : (stC s qv)[5]? = (stC s qv')[5]? := by injection e with e; rw [e]
    simp [stC] at h1; exact h1.symm
  subst this; exact hf
theorem stf_reads {B : Nat} {w : World} {s : St} {qv : Value} (h : IsStF B w (.agg (stC s qv)) s) : Reads w 1 s.q.length qv (qL s) := by
  obtain ⟨qv', e, hr, _⟩ := h
  have : qv' = qv := by
    have h1 : (stC s qv)[5]? = (stC s qv')[5]? := by injection e with e; rw [e]
    simp [stC] at h1; exact h1.symm
  subst this; exact hr
def steps (s : St) (l : List (Int × Int × Int)) : St := l.foldl stepS s
theorem steps_snoc (s : St) (l : List (Int × Int × Int)) (k : Nat) (h : k < l.length) : steps s (l.take (k + 1)) = stepS (steps s (l.take k)) l[k] := by
  unfold steps; rw [List.take_succ_eq_append_getElem h, List.foldl_append]; rfl
theorem inv_steps {s : St} (h : Inv s) (l : List (Int × Int × Int)) : Inv (steps s l) := by
  unfold steps
  induction l generalizing s with
  | nil => exact h
  | cons r l ih => exact ih (inv_step h r)
def madeS (k : Int) (raw : List (Int × Int × Int)) : St := steps (newS (1 + pickN k 3)) (raw.take 50)
theorem inv_made (k : Int) (raw : List (Int × Int × Int)) : Inv (madeS k raw) := by
  have := pickN_bd k 3 (by omega)
  exact inv_steps (inv_new _ (by omega)) _
set_option maxHeartbeats 2000000 in
theorem made_any (k : Int) (a : Option Addr) (len cap : Nat) (raw : List (Int × Int × Int)) (w : World) (hk : I64 k) (h : Rows3 w a len cap raw) :
    Calls Try.prog 12 #[.int .i64 k, .slice a len cap] w fun e w' => ∃ v', e = .returned v' ∧ IsStF w.heap.size w' v' (madeS k raw) ∧ Below w.heap.size w w' := by
  have H := Lib.hid h
  obtain ⟨hl, hwf, hcap, hm, _⟩ := h
  have p1 := pickN_bd k 3 (by omega)
  unfold maxLen at hm
  have HL := Lib.hid hl; have HWF := Lib.hid hwf
  clear hl hwf
  go_enter Try.func12, Try.ntmps12
  go_wp2_with (go_at_call 13; refine (pick_any _ _ _ (by omega) (by omega)).mono ?_; rintro e w' ⟨rfl, rfl⟩)
  refine (new_any _ _ (by omega)).mono ?_
  rintro e w1 ⟨v', rfl, hv, hb⟩
  have HV := Lib.hid hv
  obtain ⟨qv, hv, hr, hf⟩ := hv
  obtain ⟨qa', qc', rfl⟩ := hr.shape
  have hst : StAt (w.heap.size + 1) (w1.alloc (.cells (stC (newS (1 + pickN k 3)) (.slice qa' (newS (1 + pickN k 3)).q.length qc')) 27)) w1.heap.size (newS (1 + pickN k 3)) := ⟨_, new_in _ _, hr.below ((Below.refl _ _).alloc (Nat.le_refl _) _), by simpa using hf⟩
  have hz0 : (w1.alloc (.cells (stC (newS (1 + pickN k 3)) (.slice qa' (newS (1 + pickN k 3)).q.length qc')) 27)).heap[w.heap.size]? = some (.cells #[.int .i64 0, .int .i64 0, .int .i64 0, .int .i64 0, .int .i64 0, .slice none 0 0, .int .i64 0, .bool false] 27) :=
    bel_in (B := w1.heap.size) ((Below.refl _ _).alloc (Nat.le_refl _) _) (by have := hb.size; simp at this; omega) (bel_in hb (by simp) (new_in _ _))
  have hbel : Below w.heap.size w (w1.alloc (.cells (stC (newS (1 + pickN k 3)) (.slice qa' (newS (1 + pickN k 3)).q.length qc')) 27)) :=
    (((Below.refl _ _).alloc (Nat.le_refl _) _).trans (hb.mono (by simp))).alloc (by have := hb.size; simp at this; omega) _
  have hlt1 : w.heap.size < w1.heap.size := by have := hb.size; simp at this; omega
  have HST := Lib.hid hst; have HZ := Lib.hid hz0; have HBEL := Lib.hid hbel
  clear hr hf hb hst hz0 hbel
  subst hv
  unfold stC at *
  go_wp2_with fail
  go_loopw [6] (fun i wr => ∃ j : Nat, j ≤ len ∧ j ≤ 50 ∧ i = .int .i64 j ∧ StAt (w.heap.size + 1) wr w1.heap.size (steps (newS (1 + pickN k 3)) (raw.take j)) ∧ wr.heap[w.heap.size]? = some (.cells #[.int .i64 0, .int .i64 0, .int .i64 0, .int .i64 0, .int .i64 0, .slice none 0 0, .int .i64 0, .bool false] 27) ∧ Below w.heap.size w wr ∧ w1.heap.size < wr.heap.size) (fun i _ => len - (intOf i).toNat)
  case atStart => exact ⟨0, Nat.zero_le _, Nat.zero_le _, rfl, HST.out, HZ.out, HBEL.out, by simp⟩
  case round =>
    obtain ⟨j, hj, hj50, rfl, hsa, hz, hbb, hlw⟩ := hrel
    have hinv : Inv (steps (newS (1 + pickN k 3)) (raw.take j)) := inv_steps (inv_new _ (by omega)) _
    have HINV := Lib.hid hinv; have HZR := Lib.hid hz; have HBB := Lib.hid hbb; have HSA := Lib.hid hsa
    clear hinv hz hbb
    by_cases hlt : j < len
    · by_cases h50 : j < 50
      · have hjr : j < raw.length := by rw [HL.out]; exact hlt
        have hrow := (H.out.below HBB.out).2.2.2.2
        rcases hrow with h0 | ⟨b, o, rfl, hblt, hc⟩
        · omega
        obtain ⟨g1, g2, g3⟩ := hc j raw[j] (by simp [hjr])
        obtain ⟨hi1, hi2, hi3⟩ := HWF.out raw[j] (List.getElem_mem hjr)
        have hsn := steps_snoc (newS (1 + pickN k 3)) raw j hjr
        obtain ⟨qv, hb1, hr1, hf1⟩ := hsa
        obtain ⟨qa2, qc2, rfl⟩ := hr1.shape
        have hin : IsSt wr (.agg (stC (steps (newS (1 + pickN k 3)) (raw.take j)) (.slice qa2 (steps (newS (1 + pickN k 3)) (raw.take j)).q.length qc2))) (steps (newS (1 + pickN k 3)) (raw.take j)) := ⟨_, rfl, hr1⟩
        have HIN := Lib.hid hin; have HSN := Lib.hid hsn; have HB1 := Lib.hid hb1; have I1 := Lib.hid hi1; have I2 := Lib.hid hi2; have I3 := Lib.hid hi3
        clear hc hin hsn hr1 hi1 hi2 hi3
        generalize steps (newS (1 + pickN k 3)) (raw.take j) = s at *
        generalize hr : raw[j] = r at *
        obtain ⟨x, y, z⟩ := r
        have HRR := Lib.hid hr; clear hr
        obtain ⟨u0, u1, u2, u3, u4, u5, u6, u7, t0, t1, t2, t3, t4, t5, t6, t7⟩ := cells8o hb1 |> cells8
        clear hb1
        go_wp2_with fail
        go_region_with (go_at_call 21; refine (step_any _ s x y z _ (HIN.out.below (Below.refl _ _).drew) HINV.out I1.out I2.out I3.out).mono ?_; rintro e w2 ⟨v2, rfl, hv2, hb2⟩; have HV2 := Lib.hid hv2; have HB2 := Lib.hid hb2; have hlw2 : w1.heap.size < w2.heap.size := Nat.lt_of_lt_of_le hlw hb2.size; obtain ⟨x0, x1, x2, x3, x4, x5, x6, x7, y0, y1, y2, y3, y4, y5, y6, y7⟩ := cells8 (cells8o (bel_in hb2 hlw HB1.out)); clear hb2; obtain ⟨qv3, rfl, hr3, _⟩ := hv2; obtain ⟨qa3, qc3, rfl⟩ := hr3.shape; clear hr3; unfold stC)
        all_goals
          go_wp2_with fail
          have hne : w.heap.size ≠ w1.heap.size := by omega
          have hle : w.heap.size ≤ w1.heap.size := by omega
          have hsz : w.heap.size ≤ wr.heap.size := HBB.out.size
          refine ⟨⟨j + 1, by omega, by omega, by go_num, ?_, ?_, ?_, ?_⟩, by simp [intOf]; omega⟩
          · rw [HSN.out]
            refine ⟨_, set8 (cells8o (bel_in HB2.out hlw HB1.out)), ?_, fun a n c e => Nat.le_trans (show w.heap.size + 1 ≤ wr.heap.size by omega) (stf_fresh HV2.out a n c e)⟩
            apply stf_reads (B := wr.heap.size)
            iterate 8 apply stf_set hlw
            exact HV2.out
          · iterate 8 apply heap_set_ne hne
            exact bel_in HB2.out (by show w.heap.size < wr.heap.size; omega) HZR.out
          · iterate 8 apply bel_set hle
            exact HBB.out.trans (Below.of_drew (HB2.out.mono hsz))
          · simp only [size_set]; exact hlw2
      · have hj5 : j = 50 := by omega
        have e : madeS k raw = steps (newS (1 + pickN k 3)) (raw.take j) := by rw [hj5]; rfl
        have HE := Lib.hid e; have HLW := Lib.hid hlw
        clear e
        obtain ⟨qv, hb1, hr1, hf1⟩ := hsa
        obtain ⟨qa2, qc2, rfl⟩ := hr1.shape
        generalize steps (newS (1 + pickN k 3)) (raw.take j) = s at *
        have HB1 := Lib.hid hb1
        obtain ⟨u0, u1, u2, u3, u4, u5, u6, u7, t0, t1, t2, t3, t4, t5, t6, t7⟩ := cells8 (cells8o hb1)
        obtain ⟨z0, z1, z2, z3, z4, z5, z6, z7, y0, y1, y2, y3, y4, y5, y6, y7⟩ := cells8 HZR.out
        have HF : IsStF (w.heap.size + 1) wr (.agg (stC s (.slice qa2 s.q.length qc2))) s := ⟨_, rfl, hr1, hf1⟩
        have HF1 := Lib.hid HF
        clear hb1 hr1 hf1 HF
        have hle := Nat.le_refl w.heap.size
        have hll : w.heap.size < w.heap.size + 1 := by omega
        go_wp2_with fail
        refine bodyPost_ret (v := .agg (stC s (.slice qa2 s.q.length qc2))) (by simp [results, Try.results12, go_sem, stC, z0, z1, z2, z3, z4, z5, z6, z7]) rfl ⟨_, rfl, ?_, ?_⟩
        · rw [HE.out]
          refine IsStF.mono (B := w.heap.size + 1) (by omega) ?_
          iterate 8 apply stf_set hll
          exact HF1.out
        · iterate 8 apply bel_set hle
          exact HBB.out
    · have hjl : j = len := by omega
      have e : madeS k raw = steps (newS (1 + pickN k 3)) (raw.take j) := by
        unfold madeS; rw [List.take_of_length_le (by rw [HL.out]; omega), List.take_of_length_le (by rw [HL.out]; omega)]
      have HE := Lib.hid e; have HLW := Lib.hid hlw
      clear e
      obtain ⟨qv, hb1, hr1, hf1⟩ := hsa
      obtain ⟨qa2, qc2, rfl⟩ := hr1.shape
      generalize steps (newS (1 + pickN k 3)) (raw.take j) = s at *
      have HB1 := Lib.hid hb1
      obtain ⟨u0, u1, u2, u3, u4, u5, u6, u7, t0, t1, t2, t3, t4, t5, t6, t7⟩ := cells8 (cells8o hb1)
      obtain ⟨z0, z1, z2, z3, z4, z5, z6, z7, y0, y1, y2, y3, y4, y5, y6, y7⟩ := cells8 HZR.out
      have HF : IsStF (w.heap.size + 1) wr (.agg (stC s (.slice qa2 s.q.length qc2))) s := ⟨_, rfl, hr1, hf1⟩
      have HF1 := Lib.hid HF
      clear hb1 hr1 hf1 HF
      have hle := Nat.le_refl w.heap.size
      have hll : w.heap.size < w.heap.size + 1 := by omega
      go_wp2_with fail
      refine bodyPost_ret (v := .agg (stC s (.slice qa2 s.q.length qc2))) (by simp [results, Try.results12, go_sem, stC, z0, z1, z2, z3, z4, z5, z6, z7]) rfl ⟨_, rfl, ?_, ?_⟩
      · rw [HE.out]
        refine IsStF.mono (B := w.heap.size + 1) (by omega) ?_
        iterate 8 apply stf_set hll
        exact HF1.out
      · iterate 8 apply bel_set hle
        exact HBB.out
end Go.Proofs.Ytodcmmdobnjbbaa
