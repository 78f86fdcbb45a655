/-
  What the walks of this statement lean on (MacFetch, MacRaise, MacInput, MacFirst, MacTakes, MacDrain): shown.
-/
import Derived.Test.YtdobddiibgfeaaaGreatZq
import Derived.Test.YtdobddiibgfeaaaGreatZa
set_option linter.unusedVariables false
set_option linter.unusedSimpArgs false
namespace Go.Proofs.YtdobddiibgfeaaaGreat
section
open Go.RowKit
set_option maxRecDepth 100000
theorem fetch_no {M : Mac} {i : Int} (h : zeu M (zbB M i).pc = false) : zeD M i = zdt ∧ zeE M i = false := by
 unfold zeD zeE; rw [h]; exact ⟨rfl, rfl⟩
theorem zmq {M : Mac} {i : Int} (h : zeu M (zbB M i).pc = true) : zeD M i = dX (zgz M (zbB M i).pc) ∧ zeE M i = (dE (zgz M (zbB M i).pc) == 0) := by
 unfold zeD zeE; rw [h]; exact ⟨rfl, by simp⟩
theorem hC_pc {h : Ht} (h32 : h.r.length = 32) : (hC h)[32]? = some (.int .i64 h.pc) := by
 have := (zbr h h32).1
 rw [zmi] at this
 rw [hC, List.getElem?_map]; exact this
theorem zjK {x : Int} (h : 0 ≤ x ∧ x ≤ 100000) : IntKind.i64.wrap x = x := IntWalk.i64_in _ (by omega)
set_option maxHeartbeats 8000000 in
theorem zmr (w : World) (B p : Nat) (wv hv ev m1 m2 m3 dv lv tv : Value) (qs : List Value) (M : Mac) (ho : OwnMac w B p wv hv ev m1 m2 m3 dv lv tv qs M) (hr : ∀ x ∈ M.harts, x.r.length = 32) (hw : ∀ z ∈ M.words, I64 z) (hl : M.words.length ≤ 100000) (i : Int) (h0 : 0 ≤ i) (h1 : i < M.harts.length) (hpc : I64 (zbB M i).pc) :
 Calls Tryz.prog 74 #[.pointer (some ⟨p, 0, none⟩), .int .i64 i] w fun e w' => e = .returned (.tuple #[insV (zeD M i), .bool (zeE M i)]) ∧ Below w.heap.size w w' := by
 obtain ⟨k, rfl⟩ : ∃ k : Nat, i = k := ⟨i.toNat, by omega⟩
 have hk : k < M.harts.length := by omega
 obtain ⟨g, c, cur, ehv, hg, hgB, hrg, _⟩ := ho.parts.hart hr hk
 obtain ⟨a1, c1, a2, c2, a3, c3, b1, d1, b2, d2, b3, d3, a5, c5, a6, c6, a7, c7, rfl, rfl, rfl, rfl, rfl, rfl, rfl, rfl, rfl⟩ := ho.shapes
 injection ehv with e1 _ e2
 subst e1 e2
 have hh : zbB M (k : Int) = M.harts[k] := by simp [zbB, hk]
 have h32 := hr M.harts[k] (List.getElem_mem _)
 have kp := hrg 32 _ (hC_pc h32)
 have FN := fun h => @fetch_no M (k : Int) h
 have FY := fun h => @zmq M (k : Int) h
 rw [hh] at FN FY hpc
 obtain ⟨k0, k1, k2, k3, k4, k5, k6, k7, k8⟩ := zam ho.at_
 have hwords := ho.parts.words
 have hplt := zao ho.at_; have hglt := zao hg
 clear k2 k3 k4 k5 k6 k7 k8 hg hgB hrg h32 hh ho h0 h1 hr
 generalize M.harts[k].pc = pc at *
 generalize M.harts.length = n2 at *
 obtain ⟨X, hX⟩ : ∃ X, X = zeD M (k : Int) := ⟨_, rfl⟩
 obtain ⟨Y, hY⟩ : ∃ Y, Y = zeE M (k : Int) := ⟨_, rfl⟩
 rw [← hX, ← hY]
 rw [← hX, ← hY] at FN FY
 clear hX hY
 by_cases p0 : 0 ≤ pc
 · by_cases p1 : pc.tmod 4 = 0
   · by_cases p2 : pc.tdiv 4 < M.words.length
     · have hp : zeu M pc = true := by simp [zeu, p0, p1, p2]
       have FY' := FY hp
       obtain ⟨j, hj⟩ : ∃ j : Nat, pc.tdiv 4 = j := ⟨(pc.tdiv 4).toNat, by have := Int.tdiv_nonneg p0 (show (0 : Int) ≤ 4 by omega); omega⟩
       have hjl : j < M.words.length := by omega
       obtain ⟨g1, c1', cur1, e1, hg1, _, hcell, _⟩ := zbM hwords hjl
       injection e1 with e1 _ e3
       subst e1 e3
       have hz : zgz M pc = M.words[j] := by simp [zgz, hj, hjl]
       rw [hz] at FY'
       have hI := hw M.words[j] (List.getElem_mem _)
       have hq : IntKind.i64.wrap (j : Int) = j := zjK (by omega)
       have hlg1 := zao hg1
       clear hg1
       clear FN FY hwords hz hp hw
       generalize M.words[j] = z at *
       generalize M.words.length = n1 at *
       have HF := zhd FY'
       have hjn : (j : Int) < n1 := by omega
       clear FY'
       go_enter Tryz.func74, Tryz.ntmps74
       go_wp2_with fail
       refine (zkD z _ hI).mono ?_
       rintro e w1 ⟨rfl, hb1⟩
       have hz := zaf hb1 (zat w (.cells #[.int .i64 0, .int .i64 0, .int .i64 0, .int .i64 0, .int .i64 0] 72))
       have hlz := zao hz
       have hbw : Below w.heap.size w w1 := zae (zan w _) hb1
       obtain ⟨HX, HY⟩ := HF.out
       have HX' := zhd HX; have HY' := zhd HY
       clear HF HX HY
       generalize dE z = ee at *
       generalize dX z = xx at *
       obtain ⟨x0, x1, x2, x3, x4⟩ := xx
       unfold insV
       have c0 := zad hz (j := 0) (u := .int .i64 0) rfl; have c1 := zad hz (j := 1) (u := .int .i64 0) rfl; have c2 := zad hz (j := 2) (u := .int .i64 0) rfl; have c3 := zad hz (j := 3) (u := .int .i64 0) rfl; have c4 := zad hz (j := 4) (u := .int .i64 0) rfl
       have f0 := zaa hz 0; have f1 := zaa hz 1; have f2 := zaa hz 2; have f3 := zaa hz 3; have f4 := zaa hz 4
       have HB := zhd hbw
       have hz5 := zaG (zaG (zaG (zaG (zaG hz 0 (.int .i64 x0)) 1 (.int .i64 x1)) 2 (.int .i64 x2)) 3 (.int .i64 x3)) 4 (.int .i64 x4)
       have hz6 := zaf (zan _ (.cells #[.int .i64 x0, .int .i64 x1, .int .i64 x2, .int .i64 x3, .int .i64 x4] 72)) hz5
       have r0 := zad hz6 (j := 0) (u := .int .i64 x0) rfl; have r1 := zad hz6 (j := 1) (u := .int .i64 x1) rfl; have r2 := zad hz6 (j := 2) (u := .int .i64 x2) rfl; have r3 := zad hz6 (j := 3) (u := .int .i64 x3) rfl; have r4 := zad hz6 (j := 4) (u := .int .i64 x4) rfl
       have R0 := zhd r0; have R1 := zhd r1; have R2 := zhd r2; have R3 := zhd r3; have R4 := zhd r4
       clear hz hb1 hbw hz5 hz6 r0 r1 r2 r3 r4
       go_wp2_with fail
       exact bodyPost_ret (v := .tuple #[insV ⟨x0, x1, x2, x3, x4⟩, .bool (ee == 0)]) (by simp [results, Tryz.results74, go_sem, insV, R0.out, R1.out, R2.out, R3.out, R4.out]) rfl ⟨by rw [HX'.out, HY'.out], by have hbw := HB.out; exact (by repeat (first | (with_reducible first | exact Below.refl _ _ | refine zaj ?_ ?_ _ | apply zag | refine zae ?_ (by assumption) | apply zak) | omega))⟩
     · have hp := zhd (FN (by simp [zeu, p0, p1, p2]))
       have p2' : (M.words.length : Int) ≤ pc.tdiv 4 := by omega
       clear FN FY hwords hw p2
       generalize M.words.length = n1 at *
       have hq : IntKind.i64.wrap (pc.tdiv 4) = pc.tdiv 4 := IntWalk.i64_in _ (by rw [Int.tdiv_eq_ediv_of_nonneg p0]; unfold I64 at hpc; omega)
       have hd : decide ((n1 : Int) ≤ pc.tdiv 4) = true := by simpa using p2'
       go_enter Tryz.func74, Tryz.ntmps74
       go_wp2_with fail
       exact bodyPost_ret (v := .tuple #[insV zdt, .bool false]) (by simp [results, Tryz.results74, go_sem, insV, zdt]) rfl ⟨by rw [hp.out.1, hp.out.2], (by repeat (first | (with_reducible first | exact Below.refl _ _ | refine zaj ?_ ?_ _ | apply zag | refine zae ?_ (by assumption) | apply zak) | omega))⟩
   · have hp := zhd (FN (by simp [zeu, p0, p1]))
     have p3 : ¬ pc % 4 = 0 := by rw [← Int.tmod_eq_emod_of_nonneg p0]; exact p1
     have p4 : (pc % 4 != 0) = true := by simpa using p3
     clear p1
     clear FN FY hwords hw
     go_enter Tryz.func74, Tryz.ntmps74
     go_wp2_with fail
     exact bodyPost_ret (v := .tuple #[insV zdt, .bool false]) (by simp [results, Tryz.results74, go_sem, insV, zdt]) rfl ⟨by rw [hp.out.1, hp.out.2], (by repeat (first | (with_reducible first | exact Below.refl _ _ | refine zaj ?_ ?_ _ | apply zag | refine zae ?_ (by assumption) | apply zak) | omega))⟩
 · have hp := zhd (FN (by simp [zeu, p0]))
   have p3 : pc < 0 := by omega
   clear FN FY hwords hw
   go_enter Tryz.func74, Tryz.ntmps74
   go_wp2_with fail
   exact bodyPost_ret (v := .tuple #[insV zdt, .bool false]) (by simp [results, Tryz.results74, go_sem, insV, zdt]) rfl ⟨by rw [hp.out.1, hp.out.2], (by repeat (first | (with_reducible first | exact Below.refl _ _ | refine zaj ?_ ?_ _ | apply zag | refine zae ?_ (by assumption) | apply zak) | omega))⟩
end
section
open Go.RowKit
set_option maxRecDepth 100000
def cV (c : Cho) : Value := .agg #[.int .i64 c.k, .int .i64 c.h, .int .i64 c.w, .int .i64 c.n]
def MPost (B p : Nat) (w : World) (r : Mac × Int) (e : Ending) (w' : World) : Prop :=
 e = .returned (.int .i64 r.2) ∧ Below B w w' ∧ (r.2 = 0 → ∃ wv hv ev m1 m2 m3 dv lv tv qs, OwnMac w' B p wv hv ev m1 m2 m3 dv lv tv qs r.1)
theorem zaE {w : World} {b : Nat} {c0 c1 c2 c3 : Value} {t : TypeId} (h : w.heap[b]? = some (.cells #[c0, c1, c2, c3] t (0, 0))) :
 w.cell? ⟨b, 0, none⟩ = some c0 ∧ w.cell? ⟨b, 1, none⟩ = some c1 ∧ w.cell? ⟨b, 2, none⟩ = some c2 ∧ w.cell? ⟨b, 3, none⟩ = some c3 :=
 ⟨zad h rfl, zad h rfl, zad h rfl, zad h rfl⟩
theorem MPost.fail {B p : Nat} {w w' : World} {e : Int} (hb : Below B w w') (he : e ≠ 0) : MPost B p w (zbQ, e) (.returned (.int .i64 e)) w' := ⟨rfl, hb, fun h => absurd h he⟩
set_option maxHeartbeats 8000000 in
theorem zlw (w : World) (B p : Nat) (wv hv ev m1 m2 m3 dv lv tv : Value) (qs : List Value) (M : Mac) (ho : OwnMac w B p wv hv ev m1 m2 m3 dv lv tv qs M) (hl : M.lines.length ≤ 8) (hB : B ≤ w.heap.size) (c : Cho) :
 Calls Tryz.prog 43 #[.pointer (some ⟨p, 0, none⟩), cV c] w (MPost B p w (zdQ M c.w)) := by
 obtain ⟨ck, ch, cw, cn⟩ := c
 obtain ⟨a1, c1, a2, c2, a3, c3, b1, d1, b2, d2, b3, d3, a5, c5, a6, c6, a7, c7, rfl, rfl, rfl, rfl, rfl, rfl, rfl, rfl, rfl⟩ := ho.shapes
 unfold cV
 simp only
 have HO := zhd ho
 obtain ⟨w1, hw1, hc1, hb1, _⟩ := zbY w (.cells #[.int .i64 ck, .int .i64 ch, .int .i64 cw, .int .i64 cn] 28)
 have HO1 := zhd (ho.below hb1)
 have hlp := zao HO1.out.at_
 have hlc := zao hc1
 have HB1 : Hid (Below w.heap.size w w1) := zhd hb1
 obtain ⟨k0, k1, k2, k3, k4, k5, k6, k7, k8⟩ := zam HO1.out.at_
 obtain ⟨q0, q1, q2, q3⟩ := zaE hc1
 have x7 := fun x => zal hlp k7 x
 have y2 := fun x => zal hlc q2 x
 have HC1 := zhd hc1
 clear k0 k1 k2 k3 k4 k5 k6 k7 k8 q0 q1 q2 q3 hc1 hb1 ho
 by_cases hin : 0 ≤ cw ∧ cw < M.lines.length
 · have e : zdQ M cw = (zdL M cw true, 0) := if_pos hin
   rw [e]; clear e
   obtain ⟨k, rfl⟩ : ∃ k : Nat, cw = k := ⟨cw.toNat, by omega⟩
   have hk : k < M.lines.length := by omega
   obtain ⟨g, c', cur, e2, hgc, hgB⟩ := zcb HO1.out.parts.lines (by omega)
   injection e2 with e2 _ e3
   subst e2 e3
   have HGC := zhd hgc
   clear hgc hin
   have HK : Hid (k < M.lines.length) := zhd hk
   obtain ⟨n6, hn6⟩ : ∃ n, n = M.lines.length := ⟨_, rfl⟩
   have HN6 := zhd hn6
   rw [← hn6] at x7 hk hl
   clear hn6
   have hd0 : decide ((k : Int) < 0) = false := by simp
   go_enter Tryz.func43, Tryz.ntmps43
   go_upto_region 1 with (fail)
   rw [← hw1]
   refine zaB (by kernel_rfl) (by kernel_rfl) ?_
   repeat (go_big_quiet_step (fail))
   refine wpQuiet_nil ?_
   rintro w2 ⟨⟨w2x, hb2⟩, rfl⟩
   clear x7 y2
   have HO2 := zhd (HO1.out.below hb2)
   obtain ⟨k0, k1, k2, k3, k4, k5, k6, k7, k8⟩ := zam HO2.out.at_
   have hlp2 := zao HO2.out.at_
   have hc2 := zaf hb2 HC1.out
   have hg2 := zaf hb2 HGC.out
   obtain ⟨q0, q1, q2, q3⟩ := zaE hc2
   have hlc2 := zao hc2
   rw [← HN6.out] at k7
   have x7 := fun x => zal hlp2 k7 x
   have y2 := fun x => zal hlc2 q2 x
   have HB2 : Hid (Below w1.heap.size w1 w2) := zhd hb2
   have HG2 := zhd hg2
   clear k0 k1 k2 k3 k4 k5 k6 k7 k8 q0 q1 q2 q3 hc2 hg2 hb2
   go_upto_region 3 with (fail)
   refine zau 9 (by kernel_rfl) (by kernel_rfl) ?_
   simp only [List.take_succ_cons, List.take_zero, List.drop_succ_cons, List.drop_zero]
   repeat (go_big_quiet_step (fail))
   refine wpQuiet_nil ?_
   rintro w3 ⟨⟨w3x, hb3⟩, rfl⟩
   have hg3 := zaf hb3 HG2.out
   have HO3 := zhd (HO2.out.below hb3)
   have HB3 : Hid (Below w2.heap.size w2 w3) := zhd hb3
   have hcell : ∃ u, w3.cell? ⟨g, k * 3 + 2, none⟩ = some u := by
    have := HO3.out.parts.lines
    have h0 : k * 3 + 2 < M.lines.length * 3 := by have := HK.out; omega
    exact ⟨_, (this.cellAt (k * 3 + 2) h0).trans (List.getElem?_eq_getElem (by rw [this.1]; exact h0))⟩
   obtain ⟨u, hcell⟩ := hcell
   have hfz := zaa hg3 (k * 3 + 2)
   clear hg3 hb3 x7 y2
   go_wp2_with fail
   go_ret
   refine ⟨rfl, ?_, fun _ => ⟨_, _, _, _, _, _, _, _, _, _, HO3.out.setLine rfl HK.out true⟩⟩
   exact (((HB1.out.mono hB).trans (HB2.out.mono (by have := HB1.out.size; omega))).trans (HB3.out.mono (by have := HB1.out.size; have := HB2.out.size; omega))).setCell hgB _
 · have e : zdQ M cw = (zbQ, 1) := if_neg hin
   rw [e]; clear e
   obtain ⟨n6, hn6⟩ : ∃ n, n = M.lines.length := ⟨_, rfl⟩
   rw [← hn6] at x7 hin hl
   clear hn6
   by_cases h0 : cw < 0
   · have hd0 : decide (cw < 0) = true := by simpa using h0
     go_enter Tryz.func43, Tryz.ntmps43
     go_upto_region 1 with (fail)
     rw [← hw1]
     refine zaB (by kernel_rfl) (by kernel_rfl) ?_
     repeat (go_big_quiet_step (fail))
     refine wpQuiet_nil ?_
     rintro w2 ⟨⟨w2x, hb2⟩, rfl⟩
     clear x7 y2
     go_wp2_with fail
     go_ret
     exact MPost.fail ((HB1.out.mono hB).trans (hb2.mono (by have := HB1.out.size; omega))) (by decide)
   · have hd0 : decide (cw < 0) = false := by simpa using h0
     have hd1 : (n6 : Int) ≤ cw := by omega
     have hd2 : decide ((n6 : Int) ≤ cw) = true := by simpa using hd1
     go_enter Tryz.func43, Tryz.ntmps43
     go_upto_region 1 with (fail)
     rw [← hw1]
     refine zaB (by kernel_rfl) (by kernel_rfl) ?_
     repeat (go_big_quiet_step (fail))
     refine wpQuiet_nil ?_
     rintro w2 ⟨⟨w2x, hb2⟩, rfl⟩
     clear x7 y2
     go_wp2_with fail
     go_ret
     exact MPost.fail ((HB1.out.mono hB).trans (hb2.mono (by have := HB1.out.size; omega))) (by decide)
end
section
open Go.RowKit
set_option maxRecDepth 100000
theorem zfV : (Tryz.prog.info? 75).map (·.size) = some 8 := by kernel_rfl
theorem zeP {w : World} {g o : Nat} {s : St} {q : Value} (hr : w.rangeAt g o (sC (s, q))) : (loadVar 75 ⟨g, o, none⟩).run Tryz.prog w = .ok (.agg (stC s q)) w :=
 run_loadVar_mid (P := Tryz.prog) w g o 75 (sC (s, q)) _ hr Tryz.underlying75 rfl zfV
section
variable {w w' : World} {B p : Nat} {wv hv ev m1 m2 m3 dv lv tv : Value} {qs : List Value} {M : Mac}
theorem Parts.dev (h : Parts w B wv hv ev m1 m2 m3 dv lv tv qs M) {i : Nat} (hi : i < M.devs.length) : ∃ g c cur q, dv = .slice (some ⟨g, 0, none⟩) M.devs.length c ∧ w.heap[g]? = some (.cells cur 75 (0, 0)) ∧ B ≤ g ∧ w.rangeAt g (i * 8) (sC (M.devs[i], q)) ∧ w.there g (i * 8) 8 ∧ IsSt w (.agg (stC M.devs[i] q)) M.devs[i] ∧ q.oneCell' = true := by
 obtain ⟨g, c, cur, e, hg, hb⟩ := zcb h.devs (by omega)
 have hl := h.ques.1
 have hz : (M.devs.zip qs)[i]? = some (M.devs[i], qs[i]'(by omega)) := by rw [List.getElem?_zip_eq_some]; exact ⟨List.getElem?_eq_getElem hi, List.getElem?_eq_getElem (by omega)⟩
 have hr := h.ques.2 i (qs[i]'(by omega)) M.devs[i] (List.getElem?_eq_getElem (by omega)) (List.getElem?_eq_getElem hi)
 obtain ⟨qa, qc, eq⟩ := hr.shape
 exact ⟨g, c, cur, qs[i]'(by omega), e, hg, hb, zfF h.devs e hi (zef _) fun j hj => zaY (fun y _ => zef y) hz hj, zhC h.devs e hi, ⟨_, rfl, hr⟩, by rw [eq]; rfl⟩
theorem zcd {g o n : Nat} {cur : Array Value} {t : TypeId} (h : w.there g o n) (hg : w.heap[g]? = some (.cells cur t (0, 0))) (hg' : w'.heap[g]? = some (.cells cur t (0, 0))) : w'.there g o n := by
 intro j hj
 have := (h j hj).1
 simp only [World.cell?, hg] at this
 exact ⟨by simp only [World.cell?, hg']; exact this, zaa hg' _⟩
theorem zd3 {g o : Nat} {cs : List Value} {cur : Array Value} {t : TypeId} (h : w.rangeAt g o cs) (hg : w.heap[g]? = some (.cells cur t (0, 0))) (hg' : w'.heap[g]? = some (.cells cur t (0, 0))) : w'.rangeAt g o cs := by
 intro j v hv
 have := h j v hv
 simp only [World.cell?, hg] at this
 simp only [World.cell?, hg']; exact this
theorem zeH (s : St) {q : Value} (h : q.oneCell' = true) : (stC s q).all (·.oneCell') = true := by
 simpa [stC, Value.oneCell'] using h
theorem OwnMac.fresh (h : OwnMac w B p wv hv ev m1 m2 m3 dv lv tv qs M) {q : Value} (hf : ∀ g, q.ownBlock = some g → w.heap.size ≤ g) : ∀ g, q.ownBlock = some g → hv.ownBlock ≠ some g ∧ ev.ownBlock ≠ some g ∧ dv.ownBlock ≠ some g ∧ lv.ownBlock ≠ some g ∧ tv.ownBlock ≠ some g ∧ p ≠ g := by
 intro g hg
 have hn := hf g hg
 have hp := zao h.at_
 refine ⟨ze1 h.parts.harts hn, ze1 h.parts.ends hn, ze1 h.parts.devs hn, ze1 h.parts.lines hn, ze1 h.parts.trace hn, by omega⟩
end
set_option maxHeartbeats 8000000 in
theorem zl6 (w : World) (B p : Nat) (wv hv ev m1 m2 m3 dv lv tv : Value) (qs : List Value) (M : Mac) (ho : OwnMac w B p wv hv ev m1 m2 m3 dv lv tv qs M) (hl : M.devs.length ≤ 8) (hd : ∀ s ∈ M.devs, Inv s) (hB : B ≤ w.heap.size) (c : Cho) :
 Calls Tryz.prog 45 #[.pointer (some ⟨p, 0, none⟩), cV c] w (MPost B p w (zdz M c.w c.n)) := by
 obtain ⟨ck, ch, cw, cn⟩ := c
 obtain ⟨a1, c1, a2, c2, a3, c3, b1, d1, b2, d2, b3, d3, a5, c5, a6, c6, a7, c7, rfl, rfl, rfl, rfl, rfl, rfl, rfl, rfl, rfl⟩ := ho.shapes
 unfold cV
 simp only
 have HO := zhd ho
 obtain ⟨w1, hw1, hc1, hb1, _⟩ := zbY w (.cells #[.int .i64 ck, .int .i64 ch, .int .i64 cw, .int .i64 cn] 28)
 have HO1 := zhd (ho.below hb1)
 have hlp := zao HO1.out.at_
 have hlc := zao hc1
 have HB1 : Hid (Below w.heap.size w w1) := zhd hb1
 obtain ⟨k0, k1, k2, k3, k4, k5, k6, k7, k8⟩ := zam HO1.out.at_
 obtain ⟨q0, q1, q2, q3⟩ := zaE hc1
 have x6 := fun x => zal hlp k6 x
 have y2 := fun x => zal hlc q2 x
 have HC1 := zhd hc1
 clear k0 k1 k2 k3 k4 k5 k6 k7 k8 q0 q1 q2 q3 hc1 hb1 ho
 by_cases hin : 0 ≤ cw ∧ cw < M.devs.length
 · obtain ⟨k, rfl⟩ : ∃ k : Nat, cw = k := ⟨cw.toNat, by omega⟩
   have hk : k < M.devs.length := by omega
   have hdv : zeF M (k : Int) = M.devs[k] := by simp [zeF, hk]
   have e : zdz M (k : Int) cn = ({ M with devs := M.devs.set k (za7 (zbp M.devs[k] (wrap32 cn))) }, 0) := by unfold zdz; rw [if_pos hin, hdv]; rfl
   rw [e]; clear e hdv hin
   have hinv := hd M.devs[k] (List.getElem_mem _)
   generalize hD : M.devs[k] = D at *
   have HD := zhd hD
   clear hD
   have HK : Hid (k < M.devs.length) := zhd hk
   obtain ⟨n5, hn5⟩ : ∃ n, n = M.devs.length := ⟨_, rfl⟩
   have HN5 := zhd hn5
   rw [← hn5] at x6 hk hl
   clear hn5 hd
   have hd0 : decide ((k : Int) < 0) = false := by simp
   go_enter Tryz.func45, Tryz.ntmps45
   go_upto_region 1 with (fail)
   rw [← hw1]
   refine zaB (by kernel_rfl) (by kernel_rfl) ?_
   repeat (go_big_quiet_step (fail))
   refine wpQuiet_nil ?_
   rintro w2 ⟨⟨w2x, hb2⟩, rfl⟩
   clear x6 y2
   have HO2 := zhd (HO1.out.below hb2)
   obtain ⟨k0, k1, k2, k3, k4, k5, k6, k7, k8⟩ := zam HO2.out.at_
   have hlp2 := zao HO2.out.at_
   have hc2 := zaf hb2 HC1.out
   obtain ⟨q0, q1, q2, q3⟩ := zaE hc2
   have hlc2 := zao hc2
   obtain ⟨g, c', cur, qv, e2, hgc, hgB, hrg, hth, hst, hq1⟩ := HO2.out.parts.dev HK.out
   injection e2 with e2 _ e3
   subst e2 e3
   rw [HD.out] at hrg hst
   have HB2 : Hid (Below w1.heap.size w1 w2) := zhd hb2
   have HG2 := zhd hgc; have HTH := zhd hth; have HST := zhd hst; have HRG := zhd hrg; have HC2 := zhd hc2
   clear k0 k1 k2 k3 k4 k5 k6 k7 k8 q0 q1 q2 q3 hc2 hgc hb2 hrg hth hst hlp hlc hlp2 hlc2
   go_upto_region 3 with (fail)
   refine zaL (fun w' => Below w2.heap.size w2 w') 19 [true, true, true, true, true, true, true, true, true, true, true, true, true, true, true, true, true, true] (by kernel_rfl) (by kernel_rfl) (by kernel_rfl) (fun a b h hu => zae h hu) (Below.refl _ _) ?a1 ?h1 ?ht1
   case h1 =>
    intro w0 hb0
    obtain ⟨k0, k1, k2, k3, k4, k5, k6, k7, k8⟩ := zam (zaf hb0 HO2.out.at_)
    obtain ⟨q0, q1, q2, q3⟩ := zaE (zaf hb0 HC2.out)
    have hlp := zao (zaf hb0 HO2.out.at_); have hlc := zao (zaf hb0 HC2.out)
    rw [← HN5.out] at k6
    have x6 := fun x => zal hlp k6 x
    have y2 := fun x => zal hlc q2 x
    have y3 := fun x => zal hlc q3 x
    have R0 : Hid (∀ w' : World, (∃ x : Wd w0, w' = x.val) → (loadVar 75 ⟨g, k * 8, none⟩).run Tryz.prog w' = .ok (.agg (stC D qv)) w') := zhd (by
     rintro w' ⟨x, rfl⟩
     have hg0 := zaf hb0 HG2.out
     exact zeP (zdp (zao hg0) (zd3 HRG.out HG2.out hg0) x))
    clear k0 k1 k2 k3 k4 k5 k6 k7 k8 q0 q1 q2 q3 hb0
    simp only [zbb]
    iterate 15 (go_big_quiet_step (fail))
    go_big_quiet_want
    refine zaM 75 _ ⟨g, k * 8, none⟩ (.agg (stC D qv)) rfl rfl R0.out ?_
    simp only [Act.put, List.setIfInBounds_toArray, List.set_cons_succ, List.set_cons_zero]
    go_big_quiet_on
    repeat (go_big_quiet_step (fail))
    refine wpQuiet_nil ?_
    rfl
   case ht1 =>
    change zbO _ _ _ _ _ _ 1 _ _ _
    refine zaz (i := 18) (by kernel_rfl) (by decide) rfl ?_
    intro w3 _ hb3
    have HO3 := zhd (HO2.out.below hb3)
    have HB3 : Hid (Below w2.heap.size w2 w3) := zhd hb3
    have HG3 := zhd (zaf hb3 HG2.out)
    have HST3 := zhd (HST.out.below hb3)
    clear hb3
    go_wp2_with fail
    refine (zl7 _ D cn _ HST3.out hinv).mono ?_
    rintro e w4 ⟨v', rfl, ⟨q', rfl, hr', hf'⟩, hb4⟩
    have ho1 : q'.oneCell' = true := by obtain ⟨qa, qc, e⟩ := hr'.shape; rw [e]; rfl
    have HF4 := zhd (HO3.out.fresh (q := q') (fun g hg => by
     obtain ⟨qa, qc, e⟩ := hr'.shape
     subst e
     cases qa with
     | none => simp [Value.ownBlock] at hg
     | some a => simp [Value.ownBlock] at hg; subst hg; exact hf' a _ _ rfl))
    have HR4 := zhd hr'
    have HB4 : Hid (Below w3.heap.size w3 w4) := zhd hb4
    clear hr' hf' hb4
    go_wp2_with fail
    refine ⟨zae HB3.out HB4.out, ?_⟩
    refine zaO (by kernel_rfl) ?_
    intro w5 hu5 hb5
    have HO5 := zhd (HO2.out.below hb5)
    have HG5 := zhd (zaf hb5 HG2.out)
    have HT5 := zhd (zcd HTH.out HG2.out HG5.out)
    have HR5 := zhd (HR4.out.below hu5)
    have HB5 : Hid (Below w2.heap.size w2 w5) := zhd hb5
    clear hu5 hb5
    simp only [List.drop_succ_cons, List.drop_zero]
    go_wp2_with (refine wpList_store_mid rfl 75 _ _ rfl g (k * 8) (stC (za7 (zbp D (wrap32 cn))) q') rfl rfl HT5.out zfV (zeH _ ho1) ?_)
    go_ret
    refine ⟨rfl, ?_, fun _ => ⟨_, _, _, _, _, _, _, _, _, _, HO5.out.setDev rfl HK.out HR5.out HF4.out⟩⟩
    exact zaW hgB _ _ (((HB1.out.mono hB).trans (HB2.out.mono (by have := HB1.out.size; omega))).trans (HB5.out.mono (by have := HB1.out.size; have := HB2.out.size; omega)))
 · have e : zdz M cw cn = (zbQ, 1) := if_neg hin
   rw [e]; clear e
   obtain ⟨n5, hn5⟩ : ∃ n, n = M.devs.length := ⟨_, rfl⟩
   rw [← hn5] at x6 hin hl
   clear hn5 hd
   by_cases h0 : cw < 0
   · have hd0 : decide (cw < 0) = true := by simpa using h0
     go_enter Tryz.func45, Tryz.ntmps45
     go_upto_region 1 with (fail)
     rw [← hw1]
     refine zaB (by kernel_rfl) (by kernel_rfl) ?_
     repeat (go_big_quiet_step (fail))
     refine wpQuiet_nil ?_
     rintro w2 ⟨⟨w2x, hb2⟩, rfl⟩
     clear x6 y2
     go_wp2_with fail
     go_ret
     exact MPost.fail ((HB1.out.mono hB).trans (hb2.mono (by have := HB1.out.size; omega))) (by decide)
   · have hd0 : decide (cw < 0) = false := by simpa using h0
     have hd1 : (n5 : Int) ≤ cw := by omega
     have hd2 : decide ((n5 : Int) ≤ cw) = true := by simpa using hd1
     go_enter Tryz.func45, Tryz.ntmps45
     go_upto_region 1 with (fail)
     rw [← hw1]
     refine zaB (by kernel_rfl) (by kernel_rfl) ?_
     repeat (go_big_quiet_step (fail))
     refine wpQuiet_nil ?_
     rintro w2 ⟨⟨w2x, hb2⟩, rfl⟩
     clear x6 y2
     go_wp2_with fail
     go_ret
     exact MPost.fail ((HB1.out.mono hB).trans (hb2.mono (by have := HB1.out.size; omega))) (by decide)
end
section
open Go.RowKit
set_option maxRecDepth 100000
theorem zf1 (M : Mac) (i : Int) : ∀ k : Nat, -1 ≤ zb4 M i k ∧ zb4 M i k < k ∧ (zb4 M i k < 0 → zb4 M i k = -1)
 | 0 => by simp [zb4]
 |
  k + 1 => by
  have := zf1 M i k
  simp only [zb4, zf9]
  split
  · omega
  · omega
theorem zdn {M : Mac} {i : Int} {k : Nat} (h : mayL M i (zck M k) = false) : zb4 M i (k + 1) = zb4 M i k := by
 simp only [zb4, zf9]; rw [if_neg (by rw [h]; simp)]
theorem zhU {M : Mac} {i : Int} {k : Nat} (h : mayL M i (zck M k) = true) (hb : zb4 M i k < 0 ∨ (zck M (zb4 M i k)).p < (zck M k).p) : zb4 M i (k + 1) = k := by
 simp only [zb4, zf9]; rw [if_pos ⟨h, hb⟩]
theorem zko {M : Mac} {i : Int} {k : Nat} (hb : ¬ (zb4 M i k < 0 ∨ (zck M (zb4 M i k)).p < (zck M k).p)) : zb4 M i (k + 1) = zb4 M i k := by
 simp only [zb4, zf9]; rw [if_neg (fun h => hb h.2)]
theorem zcT (M : Mac) (i : Int) (l : Ln) : mayL M i l = (decide (0 ≤ i) && (decide (i < M.harts.length) && (l.h == i && (l.r && zlU (zbB M i).st (zbB M i).le l.p)))) := rfl
section
variable {w : World} {B : Nat} {wv hv ev m1 m2 m3 dv lv tv : Value} {qs : List Value} {M : Mac}
theorem Parts.line (h : Parts w B wv hv ev m1 m2 m3 dv lv tv qs M) {i : Nat} (hi : i < M.lines.length) : ∃ g c cur, lv = .slice (some ⟨g, 0, none⟩) M.lines.length c ∧ w.heap[g]? = some (.cells cur 64 (0, 0)) ∧ B ≤ g ∧ ∀ j u, j < 3 → (lnC M.lines[i])[j]? = some u → w.cell? ⟨g, i * 3 + j, none⟩ = some u := by
 obtain ⟨g, c, cur, e, hg, hb⟩ := zcb h.lines (by omega)
 refine ⟨g, c, cur, e, hg, hb, fun j u hj hu => ?_⟩
 exact zfF h.lines e hi (zgX _) (fun j hj => zaY (fun y _ => zgX y) (List.getElem?_eq_getElem hi) hj) j u hu
end
theorem zhG {M : Mac} {k : Nat} (hk : k < M.lines.length) : zck M (k : Int) = M.lines[k] := by simp [zck, hk]
set_option maxHeartbeats 8000000 in
theorem zhV (v : Value) (w : World) (M : Mac) (i : Int) (hm : IsMac w v M) (hr : ∀ x ∈ M.harts, x.r.length = 32) (hl8 : M.lines.length ≤ 8) :
 Calls Tryz.prog 20 #[v, .int .i64 i] w fun e w' => e = .returned (.int .i64 (zeh M i)) ∧ Below w.heap.size w w' := by
 obtain ⟨wv, hv, ev, m1, m2, m3, dv, lv, tv, qs, rfl, hp⟩ := hm
 obtain ⟨a2, c2, rfl⟩ := zai hp.harts
 obtain ⟨a6, c6, rfl⟩ := zai hp.lines
 obtain ⟨a1, c1, rfl⟩ := zai hp.words
 obtain ⟨a3, c3, rfl⟩ := zai hp.ends
 obtain ⟨a5, c5, rfl⟩ := zai hp.devs
 obtain ⟨a7, c7, rfl⟩ := zai hp.trace
 obtain ⟨b1, d1, b2, d2, b3, d3, rows, em, _⟩ := hp.mem.parts
 injection em with em
 have f1 : m1 = .slice b1 M.mem.words.length d1 := by have := congrArg (·[0]?) em; simpa using this
 have f2 : m2 = .slice b2 M.mem.pend.length d2 := by have := congrArg (·[1]?) em; simpa using this
 have f3 : m3 = .slice b3 M.mem.res.length d3 := by have := congrArg (·[2]?) em; simpa using this
 subst f1 f2 f3
 clear em
 have HP := zhd hp
 clear hp
 obtain ⟨n6, hn6⟩ : ∃ n, n = M.lines.length := ⟨_, rfl⟩
 obtain ⟨n2, hn2⟩ : ∃ n, n = M.harts.length := ⟨_, rfl⟩
 rw [← hn6, ← hn2]
 rw [← hn6] at hl8
 have HN6 := zhd hn6; have HN2 := zhd hn2
 clear hn6 hn2
 obtain ⟨w1, hw1, hx1, hb1, _⟩ := zbY w (.cells #[.slice a1 M.words.length c1, .slice a2 n2 c2, .slice a3 M.ends.length c3, .slice b1 M.mem.words.length d1, .slice b2 M.mem.pend.length d2, .slice b3 M.mem.res.length d3, .slice a5 M.devs.length c5, .slice a6 n6 c6, .slice a7 M.trace.length c7] 37)
 have HX1 := zhd hx1; have HB1 : Hid (Below w.heap.size w w1) := zhd hb1
 obtain ⟨k0, k1, k2, k3, k4, k5, k6, k7, k8⟩ := zam hx1
 have hlx := zao hx1
 clear k0 k2 k3 k4 k5 k6 k8 hx1 hb1
 go_enter Tryz.func20, Tryz.ntmps20
 go_upto_region 1 with (fail)
 rw [← hw1]
 clear hw1
 go_wp2_with fail
 clear k1 k7 hlx
 go_loopw [5, 11] (fun best j wr => ∃ k : Nat, k ≤ n6 ∧ j = .int .i64 k ∧ best = .int .i64 (zb4 M i k) ∧ Below w1.heap.size w1 wr) (fun _ j _ => n6 - (intOf j).toNat)
 case atStart => exact ⟨0, Nat.zero_le _, rfl, rfl, Below.refl _ _⟩
 case round =>
  obtain ⟨k, hk, rfl, rfl, hb⟩ := hrel
  have HB := zhd hb
  have HX := zhd (zaf hb HX1.out)
  have hlx := zao HX.out
  have HPR := zhd (HP.out.below (zae HB1.out hb))
  clear hb
  by_cases hlt : k < n6
  · have hkl : k < M.lines.length := by rw [← HN6.out]; exact hlt
    obtain ⟨g, c, cur, e2, hg, hgb, hce⟩ := HPR.out.line hkl
    rw [← HN6.out] at e2
    injection e2 with e2 _ e3
    subst e2 e3
    have hlg := zao hg
    have hlo := zhG hkl
    have q0 := hce 0 _ (by decide) rfl; have q1 := hce 1 _ (by decide) rfl; have q2 := hce 2 _ (by decide) rfl
    simp only [Nat.add_zero] at q0
    have HLO := zhd hlo
    have HG := zhd hg
    clear hg hce hlo
    generalize hL : M.lines[k] = L at *
    clear hL
    have BD := zf1 M i k
    obtain ⟨b, hbb⟩ : ∃ b, b = zb4 M i k := ⟨_, rfl⟩
    have HBE := zhd hbb
    rw [← hbb] at BD ⊢
    clear hbb
    obtain ⟨lh, lp, lr⟩ := L
    simp only at q0 q1 q2
    obtain ⟨w5, hw5, hx5, hb5, hl5⟩ := zbY wr (.cells #[.int .i64 lh, .int .i64 lp, .bool lr] 64)
    have HX5 := zhd hx5; have HB5 : Hid (Below wr.heap.size wr w5) := zhd hb5
    have t0 := zad hx5 (j := 0) (u := .int .i64 lh) rfl; have t1 := zad hx5 (j := 1) (u := .int .i64 lp) rfl; have t2 := zad hx5 (j := 2) (u := .bool lr) rfl
    obtain ⟨k0, k1, k2, k3, k4, k5, k6, k7, k8⟩ := zam (zaf hb5 HX.out)
    obtain ⟨z0, z1, z2, z3, z4, z5, z6, z7, z8⟩ := zam HX.out
    have hlx5 := zao (zaf hb5 HX.out); have hll5 := zao hx5
    have x1 := fun x => zal hlx5 k1 x
    have x7 := fun x => zal hlx5 k7 x
    have y0 := fun x => zal hll5 t0 x
    have y1 := fun x => zal hll5 t1 x
    have y2 := fun x => zal hll5 t2 x
    clear k0 k1 k2 k3 k4 k5 k6 k7 k8 t0 t1 t2 hx5 hb5 z0 z2 z3 z4 z5 z6 z8
    go_upto_region 5 with (fail)
    rw [← hw5]
    clear hw5 q0 q1 q2 z1 z7
    by_cases r0 : 0 ≤ i
    · by_cases r1 : i < n2
      · by_cases r2 : lh = i
        · cases lr
          · have hh := r2
            have HM : Hid (mayL M i (zck M (k : Int)) = false) := zhd (by rw [zcT, HLO.out]; simp)
            have d0 : decide (i < 0) = false := by simpa using r0
            have d1 : decide ((n2 : Int) ≤ i) = false := by simpa using r1
            have d2 : (lh != i) = false := by simp [r2]
            refine zaB (by kernel_rfl) (by kernel_rfl) ?_
            repeat (go_big_quiet_step (fail))
            refine wpQuiet_nil ?_
            rintro w6 ⟨⟨w6x, hb6⟩, rfl⟩
            clear x1 x7 y0 y1 y2
            go_wp2_with fail
            go_roundw
            case rel => exact ⟨k + 1, by omega, by go_num, by rw [HBE.out, zdn HM.out], zae (zae HB.out HB5.out) hb6⟩
            case measure => simp [intOf]; omega
          · obtain ⟨q, hq⟩ : ∃ q, q = zlU (zbB M i).st (zbB M i).le lp := ⟨_, rfl⟩
            obtain ⟨j, rfl⟩ : ∃ j : Nat, i = j := ⟨i.toNat, by omega⟩
            have hj2 : j < M.harts.length := by have := HN2.out; omega
            obtain ⟨g2, cc, cur2, e4, hg2, _, hrg, _⟩ := HPR.out.hart hr hj2
            rw [← HN2.out] at e4
            injection e4 with e4 _ e5
            subst e4 e5
            have hh : zbB M (j : Int) = M.harts[j] := by simp [zbB, hj2]
            have h32 := hr M.harts[j] (List.getElem_mem _)
            rw [hh] at hq
            generalize M.harts[j] = T at *
            have hg25 := zaf HB5.out hg2
            have R0 : Hid (∀ w' : World, (∃ x : Wd w5, w' = x.val) → (loadVar 56 ⟨g2, j * 39, none⟩).run Tryz.prog w' = .ok (.agg (hA T)) w') := zhd (by
             rintro w' ⟨x, rfl⟩
             exact zdT h32 (zdp (zao hg25) (zd3 hrg hg2 hg25) x))
            have HQ := zhd hq; have HH := zhd hh
            clear hq hh hg2 hg25 hrg hr
            have d0 : decide ((j : Int) < 0) = false := by simp
            have d1 : decide ((n2 : Int) ≤ (j : Int)) = false := by simpa using r1
            have d1' : decide (n2 ≤ j) = false := by simp; omega
            have d2 : (lh != (j : Int)) = false := by simp [r2]
            refine zaB (by kernel_rfl) (by kernel_rfl) ?_
            iterate 25 (go_big_quiet_step (fail))
            go_big_quiet_want
            refine zaM 56 _ ⟨g2, j * 39, none⟩ (.agg (hA T)) rfl rfl R0.out ?_
            simp only [Act.put, List.setIfInBounds_toArray, List.set_cons_succ, List.set_cons_zero]
            go_big_quiet_on
            repeat (go_big_quiet_step ((go_at_call 59; exact zcJ (lets_any T lp _ h32))))
            refine wpQuiet_nil ?_
            rintro w6 ⟨⟨w6x, hb6⟩, rfl⟩
            clear x1 x7 y0 y1 y2 R0
            rw [← HQ.out]
            cases q
            · have HM : Hid (mayL M (j : Int) (zck M (k : Int)) = false) := zhd (by rw [zcT, HLO.out, HH.out]; simp [← HQ.out])
              go_wp2_with fail
              go_roundw
              case rel => exact ⟨k + 1, by omega, by go_num, by rw [HBE.out, zdn HM.out], zae (zae HB.out HB5.out) hb6⟩
              case measure => simp [intOf]; omega
            · have HM : Hid (mayL M (j : Int) (zck M (k : Int)) = true) := zhd (by rw [zcT, HLO.out, HH.out]; simp [← HQ.out, r2, HN2.out ▸ r1])
              have HB6 : Hid (Below w5.heap.size w5 w6) := zhd hb6
              have hx6 := zaf hb6 HX5.out
              obtain ⟨k0, k1, k2, k3, k4, k5, k6, k7, k8⟩ := zam (zaf hb6 (zaf HB5.out HX.out))
              have t1 := zad hx6 (j := 1) (u := .int .i64 lp) rfl
              have hlx6 := zao (zaf hb6 (zaf HB5.out HX.out)); have hll6 := zao hx6
              have x7 := fun x => zal hlx6 k7 x
              have y1 := fun x => zal hll6 t1 x
              clear k0 k1 k2 k3 k4 k5 k6 k7 k8 t1 hx6 hb6
              by_cases r3 : b < 0
              · have d3 : decide (b < 0) = true := by simpa using r3
                go_upto_region 6 with (fail)
                refine zaB (by kernel_rfl) (by kernel_rfl) ?_
                repeat (go_big_quiet_step (fail))
                refine wpQuiet_nil ?_
                rintro w7 ⟨⟨w7x, hb7⟩, rfl⟩
                clear x7 y1
                go_wp2_with fail
                go_roundw
                case rel => exact ⟨k + 1, by omega, by go_num, by rw [zhU HM.out (.inl (by rw [← HBE.out]; exact r3))], zae (zae (zae HB.out HB5.out) HB6.out) hb7⟩
                case measure => simp [intOf]; omega
              · have d3 : decide (b < 0) = false := by simpa using r3
                obtain ⟨m, rfl⟩ : ∃ m : Nat, b = m := ⟨b.toNat, by omega⟩
                have hm : m < M.lines.length := by have := HN6.out; omega
                have hmn : m < n6 := by omega
                have hlm := zhG hm
                have hcm : wr.cell? ⟨g, m * 3 + 1, none⟩ = some (.int .i64 M.lines[m].p) := by
                 obtain ⟨g', c', cur', e6, _, _, hce'⟩ := HPR.out.line hm
                 rw [← HN6.out] at e6
                 injection e6 with e6 _ _
                 injection e6 with e6
                 injection e6 with e6
                 subst e6
                 exact hce' 1 _ (by decide) rfl
                generalize M.lines[m] = Lm at *
                have hgm := zaf HB6.out (zaf HB5.out HG.out)
                have hcm6 : w6.cell? ⟨g, m * 3 + 1, none⟩ = some (.int .i64 Lm.p) := by
                 have hg := HG.out
                 simp only [World.cell?, hg] at hcm
                 simp only [World.cell?, hgm]; exact hcm
                have hlg6 := zao hgm
                have y5 := fun x => zal hlg6 hcm6 x
                have HLM := zhd hlm
                clear hcm hgm hcm6 hlm
                go_upto_region 6 with (fail)
                refine zaB (by kernel_rfl) (by kernel_rfl) ?_
                repeat (go_big_quiet_step (fail))
                refine wpQuiet_nil ?_
                rintro w7 ⟨⟨w7x, hb7⟩, rfl⟩
                clear x7 y1 y5
                by_cases r4 : Lm.p < lp
                · have d4 : decide (Lm.p < lp) = true := by simpa using r4
                  go_wp2_with fail
                  go_roundw
                  case rel => exact ⟨k + 1, by omega, by go_num, by rw [zhU HM.out (.inr (by rw [← HBE.out, HLM.out, HLO.out]; exact r4))], zae (zae (zae HB.out HB5.out) HB6.out) hb7⟩
                  case measure => simp [intOf]; omega
                · have d4 : decide (Lm.p < lp) = false := by simpa using r4
                  go_wp2_with fail
                  go_roundw
                  case rel => exact ⟨k + 1, by omega, by go_num, by rw [HBE.out, zko (by rw [← HBE.out, HLM.out, HLO.out]; exact fun h => h.elim (fun h => absurd h (by omega)) r4)], zae (zae (zae HB.out HB5.out) HB6.out) hb7⟩
                  case measure => simp [intOf]; omega
        · have hh := r2
          have HM : Hid (mayL M i (zck M (k : Int)) = false) := zhd (by rw [zcT, HLO.out]; simp [r2])
          have d0 : decide (i < 0) = false := by simpa using r0
          have d1 : decide ((n2 : Int) ≤ i) = false := by simpa using r1
          have d2 : (lh != i) = true := by simpa using r2
          refine zaB (by kernel_rfl) (by kernel_rfl) ?_
          repeat (go_big_quiet_step (fail))
          refine wpQuiet_nil ?_
          rintro w6 ⟨⟨w6x, hb6⟩, rfl⟩
          clear x1 x7 y0 y1 y2
          go_wp2_with fail
          go_roundw
          case rel => exact ⟨k + 1, by omega, by go_num, by rw [HBE.out, zdn HM.out], zae (zae HB.out HB5.out) hb6⟩
          case measure => simp [intOf]; omega
      · have r1' : (n2 : Int) ≤ i := by omega
        have HM : Hid (mayL M i (zck M (k : Int)) = false) := zhd (by rw [zcT, HLO.out]; rw [← HN2.out]; simp [r1])
        have d0 : decide (i < 0) = false := by simpa using r0
        have d1 : decide ((n2 : Int) ≤ i) = true := by simpa using r1'
        refine zaB (by kernel_rfl) (by kernel_rfl) ?_
        repeat (go_big_quiet_step (fail))
        refine wpQuiet_nil ?_
        rintro w6 ⟨⟨w6x, hb6⟩, rfl⟩
        clear x1 x7 y0 y1 y2
        go_wp2_with fail
        go_roundw
        case rel => exact ⟨k + 1, by omega, by go_num, by rw [HBE.out, zdn HM.out], zae (zae HB.out HB5.out) hb6⟩
        case measure => simp [intOf]; omega
    · have r0' : i < 0 := by omega
      have HM : Hid (mayL M i (zck M (k : Int)) = false) := zhd (by rw [zcT, HLO.out]; simp [r0])
      have d0 : decide (i < 0) = true := by simpa using r0'
      refine zaB (by kernel_rfl) (by kernel_rfl) ?_
      repeat (go_big_quiet_step (fail))
      refine wpQuiet_nil ?_
      rintro w6 ⟨⟨w6x, hb6⟩, rfl⟩
      clear x1 x7 y0 y1 y2
      go_wp2_with fail
      go_roundw
      case rel => exact ⟨k + 1, by omega, by go_num, by rw [HBE.out, zdn HM.out], zae (zae HB.out HB5.out) hb6⟩
      case measure => simp [intOf]; omega
  · have hkn : k = n6 := by omega
    subst hkn
    go_wp2_with fail
    go_ret
    exact ⟨by rw [show zeh M i = zb4 M i k by unfold zeh; rw [← HN6.out]]; rfl, zae HB1.out HB.out⟩
end
section
open Go.RowKit
set_option maxRecDepth 100000
theorem GoodM.he {M : Mac} {H N : Nat} (g : GoodM M H N) : M.ends.length = M.harts.length := by rw [g.ends, g.harts]
theorem zcz (w : World) (B p : Nat) (wv hv ev m1 m2 m3 dv lv tv : Value) (qs : List Value) (M : Mac) (ho : OwnMac w B p wv hv ev m1 m2 m3 dv lv tv qs M) (he : M.ends.length = M.harts.length) (i : Int) (b : Bool) (hb : zc9 M i = b) :
 Calls Tryz.prog 73 #[.pointer (some ⟨p, 0, none⟩), .int .i64 i] w fun e w' => e = .returned (.bool b) ∧ Below w.heap.size w w' := by
 subst hb; exact ziz w B p wv hv ev m1 m2 m3 dv lv tv qs M ho he i
theorem zbu {B : Nat} {w w1 w2 : World} (h : Below B w w1) (h' : Below w1.heap.size w1 w2) (hB : B ≤ w.heap.size) : Below B w w2 := h.trans (h'.mono (Nat.le_trans hB h.size))
theorem zmp (v : Value) (w : World) (M : Mac) (i : Int) (hm : IsMac w v M) (hr : ∀ x ∈ M.harts, x.r.length = 32) (hl8 : M.lines.length ≤ 8) (r : Int) (h : zeh M i = r) :
 Calls Tryz.prog 20 #[v, .int .i64 i] w fun e w' => e = .returned (.int .i64 r) ∧ Below w.heap.size w w' := by
 subst h; exact zhV v w M i hm hr hl8
theorem zdc {M : Mac} {k : Nat} (hk : k < M.ends.length) : zkv M (k : Int) = M.ends[k] := by simp [zkv, hk]
theorem zhM {M : Mac} {k : Nat} (hk : k < M.harts.length) : zbB M (k : Int) = M.harts[k] := by simp [zbB, hk]
theorem trap_len (h : Ht) (c : Int) (h32 : h.r.length = 32) : (zgd h c).r.length = 32 := h32
set_option maxHeartbeats 8000000 in
theorem zkW (w : World) (B p : Nat) (wv hv ev m1 m2 m3 dv lv tv : Value) (qs : List Value) (M : Mac) (H N : Nat) (ho : OwnMac w B p wv hv ev m1 m2 m3 dv lv tv qs M) (hg : GoodM M H N) (hB : B ≤ w.heap.size) (c : Cho) :
 Calls Tryz.prog 44 #[.pointer (some ⟨p, 0, none⟩), cV c] w (MPost B p w (zdA M c.h)) := by
 obtain ⟨ck, ch, cw, cn⟩ := c
 obtain ⟨a1, c1, a2, c2, a3, c3, b1, d1, b2, d2, b3, d3, a5, c5, a6, c6, a7, c7, rfl, rfl, rfl, rfl, rfl, rfl, rfl, rfl, rfl⟩ := ho.shapes
 unfold cV
 simp only
 have he := hg.he
 obtain ⟨w1, hw1, hc1, hb1, _⟩ := zbY w (.cells #[.int .i64 ck, .int .i64 ch, .int .i64 cw, .int .i64 cn] 28)
 have HO1 := zhd (ho.below hb1)
 have HB1 : Hid (Below B w w1) := zhd (hb1.mono hB)
 have HC1 := zhd hc1
 obtain ⟨q0, q1, q2, q3⟩ := zaE hc1
 have hlc := zao hc1
 have HG := zhd hg; have HE := zhd he
 clear hc1 hb1 ho q0 q2 q3 hg he
 cases hh : zc9 M ch
 · have e : zdA M ch = (zbQ, 1) := by unfold zdA; rw [if_pos hh]
   rw [e]; clear e
   have HH := zhd hh; clear hh
   go_enter Tryz.func44, Tryz.ntmps44
   go_upto_region 1 with (fail)
   rw [← hw1]; clear hw1
   go_wp2_with fail
   refine (zcz _ _ _ _ _ _ _ _ _ _ _ _ _ M HO1.out HE.out ch false HH.out).mono ?_
   rintro e w2 ⟨rfl, hb2⟩
   have HB2 := zhd (zbu HB1.out hb2 hB)
   clear hb2
   go_wp2_with fail
   go_ret
   exact MPost.fail HB2.out (by decide)
 · obtain ⟨r0, r1, r2⟩ := zcy hh
   obtain ⟨k, rfl⟩ : ∃ k : Nat, ch = k := ⟨ch.toNat, by omega⟩
   have hk : k < M.ends.length := by omega
   have hk2 : k < M.harts.length := by omega
   have HH := zhd hh
   have HK : Hid (k < M.ends.length) := zhd hk
   have HK2 : Hid (k < M.harts.length) := zhd hk2
   obtain ⟨E, hE⟩ : ∃ E, zkv M (k : Int) = E := ⟨_, rfl⟩
   have HEE := zhd hE
   obtain ⟨R, hR⟩ : ∃ R, R = zdA M (k : Int) := ⟨_, rfl⟩
   rw [← hR]
   have HR := zhd hR
   clear hh r0 r1 r2 hk hk2 hE hR
   go_enter Tryz.func44, Tryz.ntmps44
   go_upto_region 1 with (fail)
   rw [← hw1]; clear hw1
   go_wp2_with fail
   refine (zcz _ _ _ _ _ _ _ _ _ _ _ _ _ M HO1.out HE.out k true HH.out).mono ?_
   rintro e w2 ⟨rfl, hb2⟩
   have HB2 := zhd (zbu HB1.out hb2 hB)
   have HO2 := zhd (HO1.out.below hb2)
   have HC2 := zhd (zaf hb2 HC1.out)
   clear hb2 q1 hlc HB1 HO1 HC1
   obtain ⟨g, cc, cur, e2, hgc, hgB, hce, _⟩ := zbM HO2.out.parts.ends HK.out
   injection e2 with e2 _ e3
   subst e2 e3
   rw [← zdc HK.out, HEE.out] at hce
   obtain ⟨q0, q1, q2, q3⟩ := zaE HC2.out
   obtain ⟨k0, k1, k2, k3, k4, k5, k6, k7, k8⟩ := zam HO2.out.at_
   have hlp := zao HO2.out.at_; have hlc := zao HC2.out; have hlg := zao hgc
   obtain ⟨n3, hn3⟩ : ∃ n, n = M.ends.length := ⟨_, rfl⟩
   have hkn : k < n3 := by rw [hn3]; exact HK.out
   rw [← hn3] at k2
   have x2 := fun x => zal hlp k2 x
   have y1 := fun x => zal hlc q1 x
   have z1 := fun x => zal hlg hce x
   clear k0 k1 k2 k3 k4 k5 k6 k7 k8 q0 q1 q2 q3 hgc hgB hce hn3
   go_upto_region 3 with (fail)
   by_cases hE : E = 0
   · have d0 : (E != 0) = false := by simp [hE]
     refine zaB (by kernel_rfl) (by kernel_rfl) ?_
     repeat (go_big_quiet_step (fail))
     refine wpQuiet_nil ?_
     rintro w3 ⟨⟨w3x, hb3⟩, rfl⟩
     have HB3 := zhd (zbu HB2.out hb3 hB)
     have HO3 := zhd (HO2.out.below hb3)
     have HC3 := zhd (zaf hb3 HC2.out)
     clear hb3 x2 y1 z1 hlp hlc hlg HB2 HO2 HC2
     obtain ⟨q0, q1, q2, q3⟩ := zaE HC3.out
     obtain ⟨k0, k1, k2, k3, k4, k5, k6, k7, k8⟩ := zam HO3.out.at_
     have hlp := zao HO3.out.at_; have hlc := zao HC3.out
     have x0 := fun x => zal hlp k0 x
     have x1 := fun x => zal hlp k1 x
     have x2 := fun x => zal hlp k2 x
     have x3 := fun x => zal hlp k3 x
     have x4 := fun x => zal hlp k4 x
     have x5 := fun x => zal hlp k5 x
     have x6 := fun x => zal hlp k6 x
     have x7 := fun x => zal hlp k7 x
     have x8 := fun x => zal hlp k8 x
     have y1 := fun x => zal hlc q1 x
     clear k0 k1 k2 k3 k4 k5 k6 k7 k8 q0 q1 q2 q3
     obtain ⟨f, hf⟩ : ∃ f, zeh M (k : Int) = f := ⟨_, rfl⟩
     have HF := zhd hf
     have hfb := zf1 M (k : Int) M.lines.length
     rw [show zb4 M (k : Int) M.lines.length = zeh M (k : Int) from rfl, hf] at hfb
     clear hf
     go_upto_region 5 with (fail)
     refine zaB (by kernel_rfl) (by kernel_rfl) ?_
     repeat (go_big_quiet_step ((go_at_call 20; refine zcJ (zmp _ _ M _ ?_ HG.out.regs HG.out.lines f HF.out); exact (HO3.out.below (Wd.bel _)).isMac)))
     refine wpQuiet_nil ?_
     rintro w4 ⟨⟨w4x, hb4⟩, rfl⟩
     have HB4 := zhd (zbu HB3.out hb4 hB)
     have HO4 := zhd (HO3.out.below hb4)
     have HC4 := zhd (zaf hb4 HC3.out)
     clear hb4 x0 x1 x2 x3 x4 x5 x6 x7 x8 y1 hlp hlc HB3 HO3 HC3
     by_cases hf0 : f < 0
     · have e : zdA M (k : Int) = (zbQ, 101) := by
        unfold zdA; rw [if_neg (by rw [HH.out]; simp), if_neg (by rw [HEE.out, hE]; simp), if_pos (by rw [HF.out]; exact hf0)]
       have HRR := zhd (HR.out.trans e); clear e
       go_wp2_with fail
       go_ret
       rw [HRR.out]; exact MPost.fail (e := 101) HB4.out (by decide)
     · have e : zdA M (k : Int) = (zb5 (zdL M f false) k (zgd (zbB M k) (-2147483648 + f)), 0) := by
        unfold zdA; rw [if_neg (by rw [HH.out]; simp), if_neg (by rw [HEE.out, hE]; simp), if_neg (by rw [HF.out]; exact hf0), HF.out]
       have hR := HR.out.trans e; clear e
       obtain ⟨m, rfl⟩ : ∃ m : Nat, f = m := ⟨f.toNat, by omega⟩
       have hm : m < M.lines.length := by omega
       have HM : Hid (m < M.lines.length) := zhd hm
       obtain ⟨g6, cc6, cur6, e6, hg6, hgB6⟩ := zcb HO4.out.parts.lines (by omega)
       injection e6 with e6 _ e7
       subst e6 e7
       have hcell : ∃ u, w4.cell? ⟨g6, m * 3 + 2, none⟩ = some u := by
        have := HO4.out.parts.lines
        have h0 : m * 3 + 2 < M.lines.length * 3 := by omega
        exact ⟨_, (this.cellAt (m * 3 + 2) h0).trans (List.getElem?_eq_getElem (by rw [this.1]; exact h0))⟩
       obtain ⟨u, hcell⟩ := hcell
       have hfz := zaa hg6 (m * 3 + 2)
       obtain ⟨k0, k1, k2, k3, k4, k5, k6, k7, k8⟩ := zam HO4.out.at_
       obtain ⟨n6, hn6⟩ : ∃ n, n = M.lines.length := ⟨_, rfl⟩
       have hmn : m < n6 := by rw [hn6]; exact hm
       rw [← hn6] at k7
       have HO5 := zhd (HO4.out.setLine rfl hm false)
       have hc5 : (w4.setCell ⟨g6, m * 3 + 2, none⟩ (.bool false)).heap[w.heap.size]? = some (.cells #[.int .i64 ck, .int .i64 k, .int .i64 cw, .int .i64 cn] 28 (0, 0)) :=
        (zaD (by rintro rfl; have := HC4.out; rw [hg6] at this; injection this with e; injection e with _ e; exact absurd e (by decide))).trans HC4.out
       have HB5 : Hid (Below B w (w4.setCell ⟨g6, m * 3 + 2, none⟩ (.bool false))) := zhd (HB4.out.setCell hgB6 _)
       have HC5 := zhd hc5
       obtain ⟨w5, hw5⟩ : ∃ x, x = w4.setCell ⟨g6, m * 3 + 2, none⟩ (.bool false) := ⟨_, rfl⟩
       have hsz5 : w.heap.size < w5.heap.size := by rw [hw5]; exact zao hc5
       clear hm hg6 hgB6 hc5 hn6 k0 k1 k2 k3 k4 k5 k6 k8 hfb hf0
       go_upto_region 9 with (fail)
       rw [← hw5] at HO5 HB5 HC5 ⊢
       clear hw5 hcell hfz k7 HB4 HO4 HC4
       have hq : IntKind.i64.wrap (-2147483648 + (m : Int)) = -2147483648 + (m : Int) := IntWalk.i64_in _ (by have := HG.out.lines; have := HM.out; omega)
       obtain ⟨g, cc, cur, e8, hgh, hgB, hrg, hth⟩ := HO5.out.parts.hart HG.out.regs HK2.out
       injection e8 with e8 _ e9
       subst e8 e9
       have h32 := HG.out.regs M.harts[k] (List.getElem_mem _)
       have hhk := zhM HK2.out
       rw [hhk] at hR
       simp only [zdL] at hrg
       generalize M.harts[k] = T at *
       have HRR := zhd hR
       clear hR
       have HRG := zhd hrg; have HTH := zhd hth; have HGH := zhd hgh
       obtain ⟨n2, hn2⟩ : ∃ n, n = M.harts.length := ⟨_, rfl⟩
       have hkn2 : k < n2 := by rw [hn2]; exact HK2.out
       have HN2 := zhd hn2
       clear hrg hth hgh hhk hn2
       refine zaL (fun w' => Below w5.heap.size w5 w') 19 [true, true, true, true, true, true, true, true, true, true, true, true, true, true, true, true, true, true] (by kernel_rfl) (by kernel_rfl) (by kernel_rfl) (fun a b h hu => zae h hu) (Below.refl _ _) ?a1 ?h1 ?ht1
       case h1 =>
        intro w0 hb0
        obtain ⟨k0, k1, k2, k3, k4, k5, k6, k7, k8⟩ := zam (zaf hb0 HO5.out.at_)
        obtain ⟨q0, q1, q2, q3⟩ := zaE (zaf hb0 HC5.out)
        have hlp := zao (zaf hb0 HO5.out.at_); have hlc := zao (zaf hb0 HC5.out)
        rw [← HN2.out] at k1
        have x1 := fun x => zal hlp k1 x
        have y1 := fun x => zal hlc q1 x
        have R0 : Hid (∀ w' : World, (∃ x : Wd w0, w' = x.val) → (loadVar 56 ⟨g, k * 39, none⟩).run Tryz.prog w' = .ok (.agg (hA T)) w') := zhd (by
         rintro w' ⟨x, rfl⟩
         have hg0 := zaf hb0 HGH.out
         exact zdT h32 (zdp (zao hg0) (zd3 HRG.out HGH.out hg0) x))
        clear k0 k1 k2 k3 k4 k5 k6 k7 k8 q0 q1 q2 q3 hb0
        simp only [zbb]
        iterate 15 (go_big_quiet_step (fail))
        go_big_quiet_want
        refine zaM 56 _ ⟨g, k * 39, none⟩ (.agg (hA T)) rfl rfl R0.out ?_
        simp only [Act.put, List.setIfInBounds_toArray, List.set_cons_succ, List.set_cons_zero]
        go_big_quiet_on
        repeat (go_big_quiet_step (fail))
        refine wpQuiet_nil ?_
        rfl
       case ht1 =>
        change zbO _ _ _ _ _ _ 1 _ _ _
        refine zaz (i := 18) (by kernel_rfl) (by decide) rfl ?_
        intro w6 _ hb6
        have HB6 : Hid (Below w5.heap.size w5 w6) := zhd hb6
        clear hb6
        go_wp2_with fail
        refine (zkU T _ _ h32).mono ?_
        rintro e w7 ⟨rfl, hb7⟩
        have HB7 := zhd (zae HB6.out hb7)
        clear hb7
        have hT := trap_len T (-2147483648 + (m : Int)) h32
        have hRR := HRR.out
        clear HRR
        generalize zgd T (-2147483648 + (m : Int)) = T' at *
        have HRR := zhd hRR
        clear hRR
        go_wp2_with fail
        refine ⟨HB7.out, ?_⟩
        refine zaO (by kernel_rfl) ?_
        intro w8 _ hb8
        have HO8 := zhd (HO5.out.below hb8)
        have HG8 := zhd (zaf hb8 HGH.out)
        have HT8 := zhd (zcd HTH.out HGH.out HG8.out)
        have HB8 : Hid (Below w5.heap.size w5 w8) := zhd hb8
        have hs := zaw T' hT
        clear hb8
        simp only [List.drop_succ_cons, List.drop_zero]
        go_wp2_with (refine wpList_store_mid rfl 56 _ _ rfl g (k * 39) (hA T') rfl rfl (by rw [hs]; exact HT8.out) (by rw [hs]; exact zdm) (zbj T') ?_)
        go_ret
        rw [HRR.out]
        refine ⟨rfl, ?_, fun _ => ⟨_, _, _, _, _, _, _, _, _, _, HO8.out.setHart HG.out.regs rfl HK2.out hT⟩⟩
        exact zaW hgB _ _ (HB5.out.trans (HB8.out.mono (by omega)))
   · have d0 : (E != 0) = true := by simp [hE]
     have e : zdA M (k : Int) = (zbQ, 100) := by
      unfold zdA; rw [if_neg (by rw [HH.out]; simp), if_pos (by rw [HEE.out]; exact hE)]
     have HRR := zhd (HR.out.trans e); clear e
     refine zaB (by kernel_rfl) (by kernel_rfl) ?_
     repeat (go_big_quiet_step (fail))
     refine wpQuiet_nil ?_
     rintro w3 ⟨⟨w3x, hb3⟩, rfl⟩
     have HB3 := zhd (zbu HB2.out hb3 hB)
     clear hb3 x2 y1 z1
     go_wp2_with fail
     go_ret
     rw [HRR.out]; exact MPost.fail (e := 100) HB3.out (by decide)
end
section
open Go.RowKit
set_option maxRecDepth 100000
theorem zb8 {w : World} {v : Value} {m : Mem} (h : IsMem w v m) : ∃ x1 n1 y1 x2 n2 y2 x3 n3 y3, v = .agg #[.slice x1 n1 y1, .slice x2 n2 y2, .slice x3 n3 y3] := by
 obtain ⟨a, b, c, rows, e, k1, k2, k3, _⟩ := h
 obtain ⟨x1, y1, rfl⟩ := zai k1
 obtain ⟨x2, y2, rfl⟩ := zai k2
 obtain ⟨x3, y3, rfl⟩ := zai k3
 exact ⟨_, _, _, _, _, _, _, _, _, e⟩
set_option maxHeartbeats 8000000 in
theorem zmF (w : World) (B p : Nat) (wv hv ev m1 m2 m3 dv lv tv : Value) (qs : List Value) (M : Mac) (H N : Nat) (ho : OwnMac w B p wv hv ev m1 m2 m3 dv lv tv qs M) (hg : GoodM M H N) (hB : B ≤ w.heap.size) (c : Cho) :
 Calls Tryz.prog 42 #[.pointer (some ⟨p, 0, none⟩), cV c] w (MPost B p w (zcN M c.h c.w)) := by
 obtain ⟨ck, ch, cw, cn⟩ := c
 obtain ⟨a1, c1, a2, c2, a3, c3, b1, d1, b2, d2, b3, d3, a5, c5, a6, c6, a7, c7, rfl, rfl, rfl, rfl, rfl, rfl, rfl, rfl, rfl⟩ := ho.shapes
 unfold cV
 simp only
 have he := hg.he
 obtain ⟨w1, hw1, hc1, hb1, _⟩ := zbY w (.cells #[.int .i64 ck, .int .i64 ch, .int .i64 cw, .int .i64 cn] 28)
 have HO1 := zhd (ho.below hb1)
 have HB1 : Hid (Below B w w1) := zhd (hb1.mono hB)
 have HC1 := zhd hc1
 obtain ⟨q0, q1, q2, q3⟩ := zaE hc1
 have hlc := zao hc1
 have HG := zhd hg; have HE := zhd he
 clear hc1 hb1 ho q0 q2 q3 hg he
 obtain ⟨R, hR⟩ : ∃ R, R = zcN M ch cw := ⟨_, rfl⟩
 rw [← hR]
 have HR := zhd hR
 clear hR
 cases hh : zc9 M ch
 · have HRR := zhd (HR.out.trans (by unfold zcN; rw [if_pos hh] : zcN M ch cw = (zbQ, 1)))
   have HH := zhd hh; clear hh
   go_enter Tryz.func42, Tryz.ntmps42
   go_upto_region 1 with (fail)
   rw [← hw1]; clear hw1
   go_wp2_with fail
   refine (zcz _ _ _ _ _ _ _ _ _ _ _ _ _ M HO1.out HE.out ch false HH.out).mono ?_
   rintro e w2 ⟨rfl, hb2⟩
   have HB2 := zhd (zbu HB1.out hb2 hB)
   clear hb2
   go_wp2_with fail
   go_ret
   rw [HRR.out]; exact MPost.fail (e := 1) HB2.out (by decide)
 · have HH := zhd hh; clear hh
   go_enter Tryz.func42, Tryz.ntmps42
   go_upto_region 1 with (fail)
   rw [← hw1]; clear hw1
   go_wp2_with fail
   refine (zcz _ _ _ _ _ _ _ _ _ _ _ _ _ M HO1.out HE.out ch true HH.out).mono ?_
   rintro e w2 ⟨rfl, hb2⟩
   have HB2 := zhd (zbu HB1.out hb2 hB)
   have HO2 := zhd (HO1.out.below hb2)
   have HC2 := zhd (zaf hb2 HC1.out)
   clear hb2 q1 hlc HB1 HO1 HC1
   go_upto_region 3 with (fail)
   go_cut [5, 6] (fun s5 s6 wx => ∃ nb x1 n1 y1 x2 n2 y2 x3 n3 y3, s5 = .pointer (some ⟨nb, 0, none⟩) ∧ s6 = .int .i64 (zc6 M.mem ch cw).2 ∧ wx.heap[nb]? = some (.cells #[.slice x1 n1 y1, .slice x2 n2 y2, .slice x3 n3 y3] 33 (0, 0)) ∧ IsMem wx (.agg #[.slice x1 n1 y1, .slice x2 n2 y2, .slice x3 n3 y3]) (zc6 M.mem ch cw).1 ∧ Below w2.heap.size w2 wx)
   case first =>
    refine zaV (fun w' => Below w2.heap.size w2 w') [true, true, true, true, true, true, true, true, true] (by kernel_rfl) (by kernel_rfl) (by kernel_rfl) (fun a b h hu => zae h hu) (Below.refl _ _) ?a1 ?h1 ?ht1
    case h1 =>
     intro w0 hb0
     obtain ⟨k0, k1, k2, k3, k4, k5, k6, k7, k8⟩ := zam (zaf hb0 HO2.out.at_)
     obtain ⟨q0, q1, q2, q3⟩ := zaE (zaf hb0 HC2.out)
     have hlp := zao (zaf hb0 HO2.out.at_); have hlc := zao (zaf hb0 HC2.out)
     have x3 := fun x => zal hlp k3 x
     have x4 := fun x => zal hlp k4 x
     have x5 := fun x => zal hlp k5 x
     have y1 := fun x => zal hlc q1 x
     have y2 := fun x => zal hlc q2 x
     clear k0 k1 k2 k3 k4 k5 k6 k7 k8 q0 q1 q2 q3 hb0
     simp only [zbb]
     repeat (go_big_quiet_step (fail))
     refine wpQuiet_nil ?_
     rfl
    case ht1 =>
     change zbh _ _ _ _ _ 7 _ _ _
     refine zeb (i := 9) (k := 13) (by kernel_rfl) rfl rfl ?_ ?_
     · intro w3 _ hb3
       go_wp2_with fail
       refine (zgm _ M.mem ch cw _ ((HO2.out.below hb3).parts.mem) HG.out.small).mono ?_
       rintro e w4 ⟨v', rfl, hm, hb4⟩
       have hB4 := zae hb3 hb4
       obtain ⟨x1, n1, y1, x2, n2, y2, x3, n3, y3, em⟩ := zb8 hm
       subst em
       have HM4 := zhd hm; have HB4 := zhd hB4
       clear hm hb4 hB4 hb3
       have hm2 : M.mem.words.length ≤ 100000 := HG.out.small.words
       clear hm2
       go_wp2_with fail
       refine ⟨HB4.out, ?_⟩
       refine zcV [false, false, false, false, false, false, false, false, false, false, true, true, true] 3 (by kernel_rfl) (by kernel_rfl) (by kernel_rfl) (fun a b h hu => zae h hu) HB4.out ?ra1 ?rh1 ?rt1
       case rh1 =>
        intro w0 _
        simp only [zbb]
        repeat (go_big_quiet_step (fail))
        refine wpQuiet_nil ?_
        rfl
       case rt1 =>
        refine zaA (i := 13) (by kernel_rfl) rfl ?_
        intro w5 hu5 hb5
        have HM5 := zhd (HM4.out.below hu5)
        have hle : w2.heap.size ≤ w5.heap.size := hb5.size
        have HB5 := zhd hb5
        clear hu5 hb5
        go_wp2_with fail
        refine ⟨zae HB5.out (zan w5 _), ?_⟩
        refine zaA (i := 14) (by kernel_rfl) rfl ?_
        intro w6 hu6 hb6
        have hn6 := zaf hu6 (zat w5 (.cells #[.slice none 0 0, .slice none 0 0, .slice none 0 0] 33))
        have HM6 := zhd ((HM5.out.below (zan w5 (.cells #[.slice none 0 0, .slice none 0 0, .slice none 0 0] 33))).below hu6)
        obtain ⟨k0, k1, k2⟩ := zah hn6
        have f0 := zaa hn6 0
        have f1 := zaa hn6 1
        have f2 := zaa hn6 2
        have HN6 := zhd (zaR (x := .slice x1 n1 y1) (y := .slice x2 n2 y2) (z := .slice x3 n3 y3) hn6).1
        have HM7 := zhd (zbt (.slice x1 n1 y1) (.slice x2 n2 y2) (.slice x3 n3 y3) HM6.out hn6)
        have HB6 := zhd (za9 (x := .slice x1 n1 y1) (y := .slice x2 n2 y2) (z := .slice x3 n3 y3) hb6 hle)
        clear hu6 hb6 hn6 HM6
        go_wp2_with fail
        refine ⟨HB6.out, ?_⟩
        refine zaA (i := 15) (by kernel_rfl) rfl ?_
        intro w7 hu7 hb7
        have HN7 := zhd (zaf hu7 HN6.out)
        have HM8 := zhd (HM7.out.below hu7)
        go_wp2_with fail
        refine ⟨hb7, ?_⟩
        refine zbv (by kernel_rfl) ?_
        intro w8 hu8 hb8
        have HN8 := zhd (zaf hu8 HN7.out)
        have HM9 := zhd (HM8.out.below hu8)
        go_wp2_with fail
        go_meet
        case rel => exact ⟨_, _, _, _, _, _, _, _, _, _, rfl, rfl, HN8.out, HM9.out, hb8⟩
     · intro w3 _ hb3
       have hle : w2.heap.size ≤ w3.heap.size := hb3.size
       go_wp2_with fail
       refine ⟨zae hb3 (zan w3 _), ?_⟩
       refine zaA (i := 9) (by kernel_rfl) rfl ?_
       intro w4 hu4 hb4
       have HN4 := zhd (zaf hu4 (zat w3 (.cells #[.slice none 0 0, .slice none 0 0, .slice none 0 0] 33)))
       clear hu4 hb3
       go_wp2_with fail
       refine (zgm _ M.mem ch cw _ ((HO2.out.below hb4).parts.mem) HG.out.small).mono ?_
       rintro e w5 ⟨v', rfl, hm, hb5⟩
       have hB5 := zae hb4 hb5
       obtain ⟨x1, n1, y1, x2, n2, y2, x3, n3, y3, em⟩ := zb8 hm
       subst em
       have HM5 := zhd hm; have HB5 := zhd hB5
       have HN5 := zhd (zaf hb5 HN4.out)
       clear hm hb5 hB5 hb4 HN4
       go_wp2_with fail
       refine ⟨HB5.out, ?_⟩
       refine zcV [false, false, false, false, false, false, false, false, false, false, true, true, true] 2 (by kernel_rfl) (by kernel_rfl) (by kernel_rfl) (fun a b h hu => zae h hu) HB5.out ?ra2 ?rh2 ?rt2
       case rh2 =>
        intro w0 _
        simp only [zbb]
        repeat (go_big_quiet_step (fail))
        refine wpQuiet_nil ?_
        rfl
       case rt2 =>
        refine zaA (i := 14) (by kernel_rfl) rfl ?_
        intro w6 hu6 hb6
        have hn6 := zaf hu6 HN5.out
        have HM6 := zhd (HM5.out.below hu6)
        obtain ⟨k0, k1, k2⟩ := zah hn6
        have f0 := zaa hn6 0
        have f1 := zaa hn6 1
        have f2 := zaa hn6 2
        have HN6 := zhd (zaR (x := .slice x1 n1 y1) (y := .slice x2 n2 y2) (z := .slice x3 n3 y3) hn6).1
        have HM7 := zhd (zbt (.slice x1 n1 y1) (.slice x2 n2 y2) (.slice x3 n3 y3) HM6.out hn6)
        have HB6 := zhd (za9 (x := .slice x1 n1 y1) (y := .slice x2 n2 y2) (z := .slice x3 n3 y3) hb6 hle)
        clear hu6 hb6 hn6 HM6
        go_wp2_with fail
        refine ⟨HB6.out, ?_⟩
        refine zaA (i := 15) (by kernel_rfl) rfl ?_
        intro w7 hu7 hb7
        have HN7 := zhd (zaf hu7 HN6.out)
        have HM8 := zhd (HM7.out.below hu7)
        go_wp2_with fail
        refine ⟨hb7, ?_⟩
        refine zbv (by kernel_rfl) ?_
        intro w8 hu8 hb8
        have HN8 := zhd (zaf hu8 HN7.out)
        have HM9 := zhd (HM8.out.below hu8)
        go_wp2_with fail
        go_meet
        case rel => exact ⟨_, _, _, _, _, _, _, _, _, _, rfl, rfl, HN8.out, HM9.out, hb8⟩
   case rest =>
    obtain ⟨nb, x1, n1, y1, x2, n2, y2, x3, n3, y3, rfl, rfl, hn, hm, hb⟩ := hcut
    have HOc := zhd (HO2.out.below hb)
    have HBc := zhd (zbu HB2.out hb hB)
    have HN := zhd hn; have HM := zhd hm
    obtain ⟨k0, k1, k2⟩ := zah hn
    have hln := zao hn
    obtain ⟨q0, q1, q2, q3, q4, q5, q6, q7, q8⟩ := zam HOc.out.at_
    have f3 := zaa HOc.out.at_ 3; have f4 := zaa HOc.out.at_ 4; have f5 := zaa HOc.out.at_ 5
    have hpb := HOc.out.base
    obtain ⟨E, hE⟩ : ∃ E, E = (zc6 M.mem ch cw).2 := ⟨_, rfl⟩
    rw [← hE]
    have HE2 := zhd hE
    clear hE hn hm hb HO2 HC2 HB2
    by_cases h0 : E = 0
    · have HRR := zhd (HR.out.trans (by unfold zcN; rw [if_neg (by rw [HH.out]; simp), if_pos (by rw [← HE2.out]; exact h0)] : zcN M ch cw = ({ M with mem := (zc6 M.mem ch cw).1 }, 0)))
      have d0 : (E == 0) = true := by simp [h0]
      subst h0
      go_wp2_with fail
      go_ret
      rw [HRR.out]
      exact ⟨rfl, ((HBc.out.setCell hpb _).setCell hpb _).setCell hpb _, fun _ => ⟨_, _, _, _, _, _, _, _, _, _, HOc.out.setMem HM.out⟩⟩
    · have HRR := zhd (HR.out.trans (by unfold zcN; rw [if_neg (by rw [HH.out]; simp), if_neg (by rw [← HE2.out]; exact h0), ← HE2.out] : zcN M ch cw = (zbQ, E)))
      have d0 : (E == 0) = false := by simp [h0]
      go_wp2_with fail
      go_ret
      rw [HRR.out]; exact MPost.fail (e := E) HBc.out h0
end
end Go.Proofs.YtdobddiibgfeaaaGreat
