/-
  The contract of (*store.memory).drain.
-/
import Derived.Test.YtkhobelceghgfaaMemDel
namespace Go.Proofs.Ytkhobelceghgfaa
open Go.RowKit
theorem own_cell2 {w : World} {B e n g c : Nat} {l : List (Int × Int)} (h : w.ownsRow B e 2 (.slice (some ⟨g, 0, none⟩) n c) n (entC l)) {k : Nat} {x : Int × Int} (hx : l[k]? = some x) : w.cell? ⟨g, k * 2, none⟩ = some (.int .i64 x.1) ∧ w.cell? ⟨g, k * 2 + 1, none⟩ = some (.int .i64 x.2) := by
  obtain ⟨e1, e2⟩ := entC_at l k x hx
  have hl := h.1
  have h1 := (List.getElem?_eq_some_iff.1 e1).1
  have h2 := (List.getElem?_eq_some_iff.1 e2).1
  rw [hl] at h1 h2
  exact ⟨by rw [h.cellAt _ h1, e1], by rw [h.cellAt _ h2, e2]⟩
/-- A hart's row of a memory of the call's own. -/
theorem OwnMem.rowAt {w : World} {B p T : Nat} {m : Mem} {wv pv rv : Value} {rows : List Value} (ho : OwnMem w B p T m wv pv rv rows) {h : Int} (h0 : 0 ≤ h) (h1 : h < m.pend.length) :
    ∃ gp cp r, pv = .slice (some ⟨gp, 0, none⟩) m.pend.length cp ∧ m.pend.length ≤ cp ∧ cp ≤ 9223372036854775807 ∧ rows[h.toNat]? = some r ∧ w.cell? ⟨gp, h.toNat, none⟩ = some r ∧ w.frozen? ⟨gp, h.toNat, none⟩ = false ∧ w.ownsRow B 44 2 r (pendOf m h).length (entC (pendOf m h)) := by
  obtain ⟨gp, cp, rfl, hc, hm⟩ := own_some ho.pend (by omega)
  have hl := ho.len
  have hlt : h.toNat < rows.length := by omega
  have hr : rows[h.toNat]? = some rows[h.toNat] := by simp
  obtain ⟨c1, c2⟩ := own_cell1 ho.pend hr
  unfold maxLen at hm
  exact ⟨gp, cp, rows[h.toNat], rfl, hc, by omega, hr, c1, c2, ho.each h.toNat _ _ hr (pendOf_at h1 h0)⟩
set_option maxHeartbeats 2000000 in
theorem drain_any (B p k mm : Nat) (m : Mem) (wv pv rv : Value) (rows : List Value) (h : Int) (x : Int × Int) (w : World) (ho : OwnMem w B p 66 m wv pv rv rows) (hs : Small m) (hB : B ≤ w.heap.size) (hh : hasB m h x.1 = true) (hl : (pendOf m h).length = k + 1 + mm) (hx : (pendOf m h)[k]? = some x) :
    Calls Try.prog 39 #[.pointer (some ⟨p, 0, none⟩), .int .i64 h, .int .i64 k] w fun e w' => e = .returned (.tuple #[]) ∧ (∃ rows', OwnMem w' B p 66 (drainX m h k) wv pv rv rows') ∧ Below B w w' := by
  obtain ⟨h0, h1, h2, h3, h4⟩ := hasB_spec hh
  obtain ⟨gp, cp, r, rfl, hcp, hcm, hr, hrc, hrf, hro⟩ := ho.rowAt h0 h1
  obtain ⟨gr, cr, rfl, hcr, hmr⟩ := own_some hro (by omega)
  have hl8 : (pendOf m h).length ≤ 1000 := hs.each _ (List.mem_of_getElem? (pendOf_at h1 h0))
  obtain ⟨q1, q2⟩ := own_cell2 hro hx
  obtain ⟨p0, p1, p2⟩ := three_cells ho.at_
  have sp := hs.pend
  unfold maxLen at hmr
  have hdx : Hid (drainX m h k = ⟨(goesM m h x.1 x.2).words, (goesM m h x.1 x.2).pend.set h.toNat ((pendOf m h).eraseIdx k), (goesM m h x.1 x.2).res⟩) := Lib.hid (by
    unfold drainX setPend
    rw [show (pendOf m h).getD k (0, 0) = x by rw [List.getD_eq_getElem?_getD, hx]; rfl])
  have HO := Lib.hid ho; have HRW := Lib.hid hr; have HRO := Lib.hid hro; have HS := Lib.hid hs; have HX := Lib.hid hx
  have HL := Lib.hid hl
  clear ho hr hro hs hh hx
  rw [hl] at hrc hcr hl8 HRW HRO
  clear hl
  obtain ⟨x1, x2⟩ := x
  simp only at *
  generalize hn2 : m.pend.length = n2 at *
  have HN2 := Lib.hid hn2; clear hn2
  go_enter Try.func39, Try.ntmps39
  go_wp2_with fail
  refine (goes_any B p m wv _ rv rows h x1 x2 _ (HO.out.below (bel_new _ _)) HS.out ⟨h3, h4⟩).mono ?_
  rintro e w1 ⟨rfl, ho1, hb1⟩
  have HB1 : Hid (Below B w w1) := Lib.hid (((Below.refl _ _).alloc hB _).trans hb1)
  have hB1 : B ≤ w1.heap.size := by have := HB1.out.size; omega
  obtain ⟨gp', cp', r', e1, _, _, hr1, hrc1, hrf1, hro1⟩ := ho1.rowAt h0 (by simp only [goesM]; rw [HN2.out]; exact h1)
  injection e1 with e2 _ e3
  injection e2 with e2
  injection e2 with e2
  subst e2 e3
  have e4 : r' = .slice (some ⟨gr, 0, none⟩) (k + 1 + mm) cr := by
    have := HRW.out
    rw [hr1] at this
    injection this
  subst e4
  obtain ⟨p0', p1', p2'⟩ := three_cells ho1.at_
  have lp := lt_in ho1.at_
  have lg := (ho1.pend.lt gp rfl).2
  have HO1 := Lib.hid ho1; have HRO1 := Lib.hid hro1
  clear ho1 hro1 hb1 hr1 p0' p2' p0 p1 p2 hrc hrf q1 q2
  have ew : IntKind.i64.wrap ((k : Int) + 1) = (k : Int) + 1 := IntWalk.i64_in _ (by omega)
  go_wp2_with fail
  refine wp_region_ut (fun w' => p < w'.heap.size ∧ gp < w'.heap.size ∧ w'.cell? ⟨p, 1, none⟩ = some (.slice (some ⟨gp, 0, none⟩) n2 cp) ∧ w'.cell? ⟨gp, h.toNat, none⟩ = some (.slice (some ⟨gr, 0, none⟩) (k + 1 + mm) cr)) 18 [true, true, true, true, true, true, true, true, true, true, true, true, true, true, true, true, true] (by kernel_rfl) (by kernel_rfl) (by kernel_rfl)
    (fun w1 w2 h hu => ⟨Nat.lt_of_lt_of_le h.1 hu.size, Nat.lt_of_lt_of_le h.2.1 hu.size, by rw [hu.cell (p := ⟨p, 1, none⟩) h.1]; exact h.2.2.1, by rw [hu.cell (p := ⟨gp, _, none⟩) h.2.1]; exact h.2.2.2⟩) ⟨lp, lg, p1', hrc1⟩ ?a' ?h ?ht
  case h =>
    intro w0 ⟨l1, l2, c1, c2⟩
    have x1 := fun x => wd_cell l1 c1 x
    have x2 := fun x => wd_cell l2 c2 x
    clear c1 c2
    simp only [pickM]
    repeat (go_big_quiet_step (fail))
    refine wpQuiet_nil ?_
    rfl
  case ht =>
    change headU _ _ _ _ _ _ 1 _ _ _
    refine headU_one (i := 17) (by kernel_rfl) (by decide) rfl ?_
    intro w2 hu2 ⟨l1, l2, d1, d2⟩
    have HU2 : Hid (Up w1 w2) := Lib.hid (bw_undrew hu2)
    have HRO2 : Hid (w2.ownsRow B 44 2 (.slice (some ⟨gr, 0, none⟩) (k + 1 + mm) cr) (k + 1 + mm) (entC (pendOf m h))) := Lib.hid (by
      have := own_below HRO1.out HU2.out
      rw [show pendOf (goesM m h x1 x2) h = pendOf m h from rfl, HL.out] at this
      exact this)
    have HO2 := Lib.hid (HO1.out.below HU2.out)
    clear hu2 ew
    have HD1 := Lib.hid d1; have HD2 := Lib.hid d2
    clear d1 d2
    go_wp2_with fail
    refine (delete_ent B gr cr k mm (pendOf m h) _ HL.out HRO2.out hl8).mono ?_
    rintro e w3 ⟨rfl, hd, hk3, hb3⟩
    have HD := Lib.hid hd; have HK3 := Lib.hid hk3; have HB3 := Lib.hid hb3
    have n1 : p ≠ gr := fun e => own_not HRO2.out HO2.out.at_ (by decide) (by rw [e]; rfl)
    have n2' : gp ≠ gr := fun e => own_apart HO2.out.pend HRO2.out (by decide) (g := gp) rfl (by rw [e]; rfl)
    have hs3 := hb3.size
    have l1' : p < w3.heap.size := by
      have := lt_in (show w3.heap[p]? = _ by rw [HK3.out p l1 n1]; exact HO2.out.at_)
      exact this
    have l2' : gp < w3.heap.size := by
      obtain ⟨cc, hcc⟩ := own_block HO2.out.pend (g := gp) rfl
      have := lt_in (show w3.heap[gp]? = _ by rw [HK3.out gp l2 n2']; exact hcc)
      exact this
    clear hd hk3 hb3
    go_wp2_with fail
    refine ⟨⟨l1', l2', by rw [World.cell?_of_block (a := ⟨p, 1, none⟩) (HK3.out p l1 n1)]; exact HD1.out, by rw [World.cell?_of_block (a := ⟨gp, h.toNat, none⟩) (HK3.out gp l2 n2')]; exact HD2.out⟩, ?_⟩
    refine headU_end (by kernel_rfl) ?_
    intro w4 hu4 ⟨l3, l4, d3, d4⟩
    have HU4 := Lib.hid hu4
    have HF := Lib.hid (HO2.out.setRow (w' := w4) (by decide) (by decide) HRW.out rfl (fun g hg hne => by
      rw [HU4.out.block g (by have := HK3.out g hg hne; rw [Array.getElem?_eq_getElem hg] at this; exact lt_in this)]; exact HK3.out g hg hne) (r' := .slice (some ⟨gr, 0, none⟩) (k + mm) cr) (l' := (pendOf m h).eraseIdx k) rfl
      (by rw [List.length_eraseIdx, HL.out, if_pos (by omega), show k + 1 + mm - 1 = k + mm by omega]; exact own_below HD.out HU4.out) rfl)
    obtain ⟨cc, hcc⟩ := own_block HO2.out.pend (g := gp) rfl
    have hff : w4.frozen? ⟨gp, h.toNat, none⟩ = false := frozen_in (show w4.heap[gp]? = some (.cells cc _ (0, 0)) by rw [HU4.out.block gp l2', HK3.out gp l2 n2']; exact hcc) _
    have lgb : B ≤ gp := (HO2.out.pend.lt gp rfl).1
    have HBF : Hid (Below B w w4) := Lib.hid ((HB1.out.trans (HU2.out.mono hB1)).trans (HB3.out.trans (HU4.out.mono (by have := HB3.out.size; have := HU2.out.size; omega))))
    clear hu4 hcc
    simp only [List.drop_succ_cons, List.drop_zero]
    go_wp2_with fail
    go_end0
    refine ⟨rfl, ⟨_, by rw [hdx.out]; exact HF.out⟩, bel_set lgb HBF.out⟩
end Go.Proofs.Ytkhobelceghgfaa
