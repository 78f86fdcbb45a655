/-
  LabelTells: items may be, are placed, and assembled as the document says. No condition.
-/
import Derived.Test.YtfepdieeiplbnaaRef03EW
import Derived.Test.YtfepdieeiplbnaaLabelIdle
import Derived.Test.YtfepdieeiplbnaaInts
namespace Go.Proofs.Ytfepdieeiplbnaa
open Go.RowKit
set_option linter.unusedSimpArgs false
theorem ok_names {l : List Itm} (h : ∀ x ∈ l, ok_item x) : NamesOK l :=
  ⟨fun i hi => by rw [it_at hi]; exact (h _ (List.getElem_mem hi)).2.2.1, fun i hi => by rw [it_at hi]; exact (h _ (List.getElem_mem hi)).2.2.2⟩
theorem names_set {l : List Itm} (h : NamesOK l) (p : Nat) {x : Itm} (h1 : x.name.size ≤ maxLen) (h2 : I64 x.n) : NamesOK (l.set p x) := by
  have e : ∀ i, i < (l.set p x).length → it (l.set p x) i = x ∨ it (l.set p x) i = it l i := fun i hi => by
    have hi' : i < l.length := by simpa using hi
    rw [it_at hi, it_at hi', List.getElem_set]
    split
    · exact .inl rfl
    · exact .inr rfl
  refine ⟨fun i hi => ?_, fun i hi => ?_⟩
  all_goals
    have hi' : i < l.length := by simpa using hi
    rcases e i hi with e | e
    · rw [e]; assumption
    · rw [e]
      first | exact h.name i hi' | exact h.num i hi'
theorem own_setk {w : World} {base e k n g cap : Nat} {xs : List Value} (h : w.ownsRow base e k (.slice (some ⟨g, 0, none⟩) n cap) n xs) (j : Nat) (u : Value) : (w.setCell ⟨g, j, none⟩ u).ownsRow base e k (.slice (some ⟨g, 0, none⟩) n cap) n (xs.set j u) := by
  refine ⟨by rw [List.length_set]; exact h.1, ?_⟩
  rcases h.2 with ⟨h0, _⟩ | ⟨g', cap', cur, hv, hb, hg, h1, h2, h3, h4⟩
  · cases h0
  · injection hv with e1 _ e2
    injection e1 with e1
    injection e1 with e1
    subst e1 e2
    refine .inr ⟨g, cap, _, rfl, hb, set_in hg j u, h1, h2, by simpa using h3, ?_⟩
    rw [← h4, Array.toList_setIfInBounds, List.take_set]
theorem flatI_set8 (l : List Itm) (k : Nat) (hk : k < l.length) (x : Itm) :
    ((((((((flatI l).set (k * 8) (.int .i64 x.kind)).set (k * 8 + 1) (.int .i64 x.i.op)).set (k * 8 + 2) (.int .i64 x.i.d)).set (k * 8 + 3) (.int .i64 x.i.a)).set (k * 8 + 4) (.int .i64 x.i.b)).set (k * 8 + 5) (.int .i64 x.i.n)).set (k * 8 + 6) (.string x.name)).set (k * 8 + 7) (.int .i64 x.n) = flatI (l.set k x) := by
  induction l generalizing k with
  | nil => simp at hk
  | cons y ys ih =>
    cases k with
    | zero => simp [flatI_cons, itC]
    | succ k =>
      have e : ∀ j u (t : List Value), (itC y ++ t).set ((k + 1) * 8 + j) u = itC y ++ t.set (k * 8 + j) u := fun j u t => by
        rw [List.set_append_right _ _ (by simp [itC]; omega)]
        congr 2
        simp [itC]; omega
      have e0 := fun u t => e 0 u t
      simp only [Nat.add_zero] at e0
      simp only [flatI_cons, List.set_cons_succ, e0, e]
      rw [ih k (by simpa using hk)]
theorem args_take {w : World} {a : Option Addr} {n c : Nat} {l : List Itm} (h : ArgS 8 itC w (.slice a n c) l) (hk : 20 ≤ l.length) : ArgS 8 itC w (.slice a 20 c) (l.take 20) := by
  obtain ⟨a', c', hv, h1, h2, h3⟩ := h
  injection hv with e1 e2 e3
  subst e1 e2 e3
  refine ⟨a, c, by simp; omega, by simp; omega, h2, ?_⟩
  rcases h3 with h3 | ⟨b, o, ha, hlt, hc⟩
  · subst h3; simp at hk
  · refine .inr ⟨b, o, ha, hlt, fun i r hi j u hj => hc i r ?_ j u hj⟩
    rw [List.getElem?_take] at hi
    split at hi
    · exact hi
    · cases hi
theorem ints_one (zs : List Int) : ∀ u ∈ intsC zs, u.oneCell' = true := by
  intro u hu
  obtain ⟨z, _, rfl⟩ := List.mem_map.1 hu
  rfl
theorem ownZ_of_cells {w : World} {base B n : Nat} {l : List Itm} {L : Nat → Bool} (h : w.heap[B]? = some (.cells (cellsZ (pl l L) (n + 1)) 3 (0, 0))) (hb : base ≤ B) (hn : n + 1 ≤ maxLen) : w.ownsRow base 3 1 (.slice (some ⟨B, 0, none⟩) (n + 1) (n + 1)) (n + 1) (intsC (plL l L n)) := by
  have e : (cellsZ (pl l L) (n + 1)).toList = intsC (plL l L n) := by simp [cellsZ, intsC, plL]
  have hlen : (intsC (plL l L n)).length = n + 1 := by simp [intsC, plL]
  exact ⟨by rw [hlen, Nat.mul_one], .inr ⟨B, n + 1, _, rfl, hb, h, Nat.le_refl _, hn, by rw [← Array.length_toList, e, hlen, Nat.mul_one], by rw [e]; exact List.take_of_length_le (by rw [hlen]; omega)⟩⟩
noncomputable def placesZ (l : List Itm) : List Int := if errOf l = 0 then plL l (longF l) l.length else []
noncomputable def wordsZ (l : List Itm) : List Int := if errOf l = 0 then wordsOf l else []
theorem tellPlaces (w : World) (l : List Itm) (v : Value) (HL : ArgS 8 itC w v l) (HO : NamesOK l) (e0 : Int) (zs : List Int) (h0 : errOf l = e0) (hz : placesZ l = zs) :
    Calls Try.prog 14 #[v] w fun e w' => ∃ v', e = .returned (.tuple #[v', .int .i64 e0]) ∧ Reads w' 1 zs.length v' (zs.map (Value.int .i64)) ∧ Below w.heap.size w w' := by
  subst h0 hz
  unfold placesZ
  by_cases he : errOf l = 0
  · rw [if_pos he]
    refine (places_yes w l v HL HO he).mono ?_
    rintro e w' ⟨A, rfl, hA, hAw, hb⟩
    have := ownZ_of_cells hA hAw (by have := (err_parts he).1; unfold maxLen; omega)
    exact ⟨_, by rw [he], by rw [plL_len]; exact Reads.own this (ints_one _), hb⟩
  · rw [if_neg he]
    refine (places_no w l v HL HO _ rfl he).mono ?_
    rintro e w' ⟨rfl, hb⟩
    exact ⟨_, rfl, Reads.nil _ _, hb⟩
theorem tellPlacesR (w : World) (l : List Itm) (v : Value) (HL : ArgS 8 itC w v l) (HO : NamesOK l) (e0 : Int) (zs : List Int) (h0 : errOf l = e0) (hz : placesZ l = zs) :
    Calls Try.prog 15 #[v] w fun e w' => ∃ v', e = .returned (.tuple #[v', .int .i64 e0]) ∧ Reads w' 1 zs.length v' (zs.map (Value.int .i64)) ∧ Below w.heap.size w w' := by
  subst h0 hz
  unfold placesZ
  by_cases he : errOf l = 0
  · rw [if_pos he]
    refine (r3_Places_yes w l v HL HO he).mono ?_
    rintro e w' ⟨g, c, rfl, hA, hb⟩
    exact ⟨_, by rw [he], by rw [plL_len]; exact Reads.own hA (ints_one _), hb⟩
  · rw [if_neg he]
    refine (r3_Places_no w l v HL HO _ rfl he).mono ?_
    rintro e w' ⟨rfl, hb⟩
    exact ⟨_, rfl, Reads.nil _ _, hb⟩
theorem tellWords (w : World) (l : List Itm) (v : Value) (HL : ArgS 8 itC w v l) (HO : NamesOK l) (e0 : Int) (zs : List Int) (h0 : errOf l = e0) (hz : wordsZ l = zs) :
    Calls Try.prog 16 #[v] w fun e w' => ∃ v', e = .returned (.tuple #[v', .int .i64 e0]) ∧ Reads w' 1 zs.length v' (zs.map (Value.int .i64)) ∧ Below w.heap.size w w' := by
  subst h0 hz
  unfold wordsZ
  by_cases he : errOf l = 0
  · rw [if_pos he]
    refine (assemble_yes w l v HL HO he).mono ?_
    rintro e w' ⟨v', rfl, hA, hb⟩
    exact ⟨_, by rw [he], Reads.own hA (ints_one _), hb⟩
  · rw [if_neg he]
    refine (assemble_no w l v HL HO _ rfl he).mono ?_
    rintro e w' ⟨rfl, hb⟩
    exact ⟨_, rfl, Reads.nil _ _, hb⟩
theorem tellWordsR (w : World) (l : List Itm) (v : Value) (HL : ArgS 8 itC w v l) (HO : NamesOK l) (e0 : Int) (zs : List Int) (h0 : errOf l = e0) (hz : wordsZ l = zs) :
    Calls Try.prog 17 #[v] w fun e w' => ∃ v', e = .returned (.tuple #[v', .int .i64 e0]) ∧ Reads w' 1 zs.length v' (zs.map (Value.int .i64)) ∧ Below w.heap.size w w' := by
  subst h0 hz
  unfold wordsZ
  by_cases he : errOf l = 0
  · rw [if_pos he]
    refine (r3_Assemble_yes w l v HL HO he).mono ?_
    rintro e w' ⟨v', rfl, hA, hb⟩
    exact ⟨_, by rw [he], Reads.own hA (ints_one _), hb⟩
  · rw [if_neg he]
    refine (r3_Assemble_no w l v HL HO _ rfl he).mono ?_
    rintro e w' ⟨rfl, hb⟩
    exact ⟨_, rfl, Reads.nil _ _, hb⟩
theorem ints_same (v v' : Value) (zs : List Int) (w : World) (h : Reads w 1 zs.length v (zs.map (Value.int .i64))) (h' : Reads w 1 zs.length v' (zs.map (Value.int .i64))) :
    Calls Try.prog 18 #[v, v'] w fun e w' => e = .returned (.bool true) ∧ Below w.heap.size w w' := by
  refine (ints_law03 v v' zs zs w h h').mono ?_
  rintro e w' ⟨rfl, hb⟩
  exact ⟨by simp, hb⟩
theorem tellNum (d n : Int) (w : World) (hn : I64 n) :
    Calls Try.prog 21 #[.int .i64 d, .int .i64 n] w fun e w' => ∃ a c, e = .returned (.slice a (labL d n).length c) ∧ InsAt w' (.slice a (labL d n).length c) (labL d n) ∧ Below w.heap.size w w' := by
  refine (label_number d n w hn).mono ?_
  rintro e w' ⟨hb, h | ⟨_, B, h, h2, _⟩⟩
  · exact ⟨none, 0, by rw [h.2, h.1]; rfl, by rw [h.1]; exact .inl ⟨rfl, rfl⟩, hb⟩
  · exact ⟨_, _, h, .inr ⟨B, rfl, h2⟩, hb⟩
theorem insAt_up {w w' : World} {v : Value} {xs : List Ins} (h : InsAt w v xs) (hb : Below w.heap.size w w') : InsAt w' v xs := by
  rcases h with h | ⟨B, h, h2⟩
  · exact .inl h
  · exact .inr ⟨B, h, bel_in hb (lt_in h2) h2⟩
theorem insAt_some {w : World} {a : Option Addr} {n c : Nat} {xs : List Ins} (h : InsAt w (.slice a n c) xs) (hp : 0 < xs.length) : ∃ B, a = some ⟨B, 0, none⟩ ∧ c = xs.length ∧ w.heap[B]? = some (.cells (insC xs) 24 (0, 0)) := by
  rcases h with ⟨h, _⟩ | ⟨B, h, h2⟩
  · subst h; simp at hp
  · injection h with e1 e2 e3
    exact ⟨B, e1, e3, h2⟩
set_option maxRecDepth 100000 in
set_option maxHeartbeats 16000000 in
theorem walkLabelTells (v : Value) (l : List Itm) (v2 : Value) (raw : List Itm) (which : Int) (x : Itm) (s : ByteArray) (d n : Int) (w : World)
    (HL : ArgS 8 itC w v l) (HOl : ∀ y ∈ l, ok_item y) (HR : ArgS 8 itC w v2 raw) (HO : ∀ y ∈ raw, ok_item y) (hw : I64 which) (hx : ok_item x) (hs : s.size ≤ maxLen) (hd : I64 d) (hn : I64 n) :
    Calls Try.prog 3 #[v, v2, .int .i64 which, .agg (cells_item x).toArray, .string s, .int .i64 d, .int .i64 n] w fun e w' => e = .returned (.bool true) ∧ Below w.heap.size w w' := by
  obtain ⟨gd, hgd⟩ : ∃ l, fitL raw = l := ⟨_, rfl⟩
  have HF := hgd ▸ fitted raw
  have FT := Lib.hid (fun w' hb => fit_law w' raw v2 (HR.below hb) HO gd hgd)
  have AW := Lib.hid (fun w => awake03 w)
  have HFF := Lib.hid HF
  have hlen := HF.len
  have hpos : 0 < gd.length := by rw [← hgd]; exact fit_pos raw
  have HNL := Lib.hid (ok_names HOl)
  have HLL := Lib.hid HL
  obtain ⟨a, c, rfl⟩ : ∃ a c, v = .slice a l.length c := by obtain ⟨a, c, hv, _⟩ := HL; exact ⟨a, c, hv⟩
  obtain ⟨a2, c2, rfl⟩ : ∃ a c, v2 = .slice a raw.length c := by obtain ⟨a, c, hv, _⟩ := HR; exact ⟨a, c, hv⟩
  obtain ⟨hx1, hx2, hx3, hx4⟩ := hx
  obtain ⟨kd, ⟨op, d', ia, ib, nn⟩, nm, N⟩ := x
  have HSZ := Lib.hid hs; have HDD := Lib.hid hd; have HNN := Lib.hid hn; have HX3 := Lib.hid hx3; have HX4 := Lib.hid hx4
  obtain ⟨p, hp⟩ : ∃ p, pickN which gd.length = p := ⟨_, rfl⟩
  have PK := Lib.hid (fun w => pick03 which gd.length w hw (by omega) p hp)
  have hpb := pickN_bd which gd.length (by omega)
  rw [hp] at hpb
  unfold cells_item itC
  simp only at hx3 hx4 ⊢
  clear HL HR HOl HO hw hx1 hx2 hx3 hx4 hs hd hn hgd HF hp
  go_enter Try.func3, Try.ntmps3
  go_wp2_with fail
  with_reducible refine (AW.out _).mono ?_
  rintro e w1 ⟨rfl, hb1⟩
  have hbx := bel_new w (.cells #[.int .i64 kd, .int .i64 op, .int .i64 d', .int .i64 ia, .int .i64 ib, .int .i64 nn, .string nm, .int .i64 N] 26)
  have HXB := Lib.hid (bel_in hb1 (lt_in (new_in w _)) (new_in w (.cells #[.int .i64 kd, .int .i64 op, .int .i64 d', .int .i64 ia, .int .i64 ib, .int .i64 nn, .string nm, .int .i64 N] 26)))
  have HB1 := Lib.hid (bw_tr hbx hb1)
  clear hbx hb1
  go_wp2_with fail
  with_reducible refine (FT.out _ HB1.out).mono ?_
  rintro e w2 ⟨a3, c3, rfl, ha3, _, hb2⟩
  have HXB2 := Lib.hid (bel_in hb2 (lt_in HXB.out) HXB.out)
  have HB2 := Lib.hid (bw_tr HB1.out hb2)
  have HG2 := Lib.hid ha3
  obtain ⟨bg, og, rfl, hbg, hig⟩ := itemsAt_args ha3 hpos
  have HIG := Lib.hid hig
  clear hb2 ha3 hig
  go_upto_region 4 with (at_builtin; refine app_first rfl _ _ rfl w2.heap.size gd gd.length rfl rfl bg og c3 HIG.out rfl (by omega) (Nat.le_refl _) ?_; intro g3 c4 w3 hown3 hb3; have HO3 := Lib.hid hown3; have HB3 := Lib.hid hb3; clear hown3 hb3)
  obtain ⟨q, cq, hq, q0, q1, q2, q3⟩ := own_some0 hpos HO3.out
  injection hq with hq1 _ hq2
  subst hq1 hq2
  obtain ⟨pn, rfl⟩ : ∃ m : Nat, p = m := ⟨p.toNat, by omega⟩
  have HX4' := Lib.hid (bel_in HB3.out (lt_in HXB2.out) HXB2.out)
  have hlx := lt_in HX4'.out
  have y0 := wd_cell hlx (show w3.cell? ⟨w.heap.size, 0, none⟩ = _ from cell_in HX4'.out rfl)
  have y1 := wd_cell hlx (show w3.cell? ⟨w.heap.size, 1, none⟩ = _ from cell_in HX4'.out rfl)
  have y2 := wd_cell hlx (show w3.cell? ⟨w.heap.size, 2, none⟩ = _ from cell_in HX4'.out rfl)
  have y3 := wd_cell hlx (show w3.cell? ⟨w.heap.size, 3, none⟩ = _ from cell_in HX4'.out rfl)
  have y4 := wd_cell hlx (show w3.cell? ⟨w.heap.size, 4, none⟩ = _ from cell_in HX4'.out rfl)
  have y5 := wd_cell hlx (show w3.cell? ⟨w.heap.size, 5, none⟩ = _ from cell_in HX4'.out rfl)
  have y6 := wd_cell hlx (show w3.cell? ⟨w.heap.size, 6, none⟩ = _ from cell_in HX4'.out rfl)
  have y7 := wd_cell hlx (show w3.cell? ⟨w.heap.size, 7, none⟩ = _ from cell_in HX4'.out rfl)
  refine wp_region_below_tail 7 (by kernel_rfl) (by kernel_rfl) ?_
  simp only [List.take_succ_cons, List.take_zero, List.drop_succ_cons, List.drop_zero]
  repeat (go_big_quiet_step ((go_at_call 13; with_reducible exact quiet_s (PK.out _))))
  refine wpQuiet_nil ?_
  rintro w4 ⟨⟨w4x, hb4⟩, rfl⟩
  clear y0 y1 y2 y3 y4 y5 y6 y7
  have HO4 := Lib.hid (own_below HO3.out hb4)
  have HB4 := Lib.hid (bw_tr HB3.out hb4)
  clear hb4
  have hpn : pn < gd.length := by omega
  have hcl : ∀ j u, (itC (it gd pn))[j]? = some u → w4.cell? ⟨q, pn * 8 + j, none⟩ = some u := fun j u hj => by
    have := HO4.out.cells (g := q) rfl _ u (flatI_get gd pn hpn j u hj)
    rwa [addr_add, Nat.zero_add] at this
  have z0 : w4.cell? ⟨q, pn * 8, none⟩ = some (.int .i64 (it gd pn).kind) := hcl 0 _ rfl
  have z1 := hcl 1 _ rfl
  have z2 := hcl 2 _ rfl
  have z3 := hcl 3 _ rfl
  have z4 := hcl 4 _ rfl
  have z5 := hcl 5 _ rfl
  have z6 := hcl 6 _ rfl
  have z7 := hcl 7 _ rfl
  have hfz : ∀ j, w4.frozen? ⟨q, j, none⟩ = false := fun j => by
    obtain ⟨cur, hc⟩ := own_block HO4.out rfl
    exact frozen_in hc _
  have f0 := hfz (pn * 8)
  have f1 := hfz (pn * 8 + 1)
  have f2 := hfz (pn * 8 + 2)
  have f3 := hfz (pn * 8 + 3)
  have f4 := hfz (pn * 8 + 4)
  have f5 := hfz (pn * 8 + 5)
  have f6 := hfz (pn * 8 + 6)
  have f7 := hfz (pn * 8 + 7)
  have HO5 := Lib.hid (own_setk (own_setk (own_setk (own_setk (own_setk (own_setk (own_setk (own_setk HO4.out (pn * 8) (.int .i64 kd)) (pn * 8 + 1) (.int .i64 op)) (pn * 8 + 2) (.int .i64 d')) (pn * 8 + 3) (.int .i64 ia)) (pn * 8 + 4) (.int .i64 ib)) (pn * 8 + 5) (.int .i64 nn)) (pn * 8 + 6) (.string nm)) (pn * 8 + 7) (.int .i64 N))
  have e8 := flatI_set8 gd pn hpn ⟨kd, ⟨op, d', ia, ib, nn⟩, nm, N⟩
  simp only at e8
  rw [e8] at HO5
  have HNB := Lib.hid (names_set HFF.out.nms pn (x := ⟨kd, ⟨op, d', ia, ib, nn⟩, nm, N⟩) HX3.out HX4.out)
  clear hcl hfz e8
  go_upto_if 45 with (fail)
  have hb5 : Below w2.heap.size w2 ((((((((w4.setCell ⟨q, pn * 8, none⟩ (.int .i64 kd)).setCell ⟨q, pn * 8 + 1, none⟩ (.int .i64 op)).setCell ⟨q, pn * 8 + 2, none⟩ (.int .i64 d')).setCell ⟨q, pn * 8 + 3, none⟩ (.int .i64 ia)).setCell ⟨q, pn * 8 + 4, none⟩ (.int .i64 ib)).setCell ⟨q, pn * 8 + 5, none⟩ (.int .i64 nn)).setCell ⟨q, pn * 8 + 6, none⟩ (.string nm)).setCell ⟨q, pn * 8 + 7, none⟩ (.int .i64 N)) := Below.setCell (Below.setCell (Below.setCell (Below.setCell (Below.setCell (Below.setCell (Below.setCell (Below.setCell HB4.out q0 _) q0 _) q0 _) q0 _) q0 _) q0 _) q0 _) q0 _
  have HB5 := Lib.hid hb5
  clear hb5
  clear z0 z1 z2 z3 z4 z5 z6 z7 f0 f1 f2 f3 f4 f5 f6 f7
  have HB6 := Lib.hid (bw_tr HB2.out HB5.out)
  have HL6 := Lib.hid (HLL.out.below HB6.out)
  have HG6 := Lib.hid (HG2.out.below HB5.out)
  have HX6 := Lib.hid (bel_in HB5.out (lt_in HXB2.out) HXB2.out)
  have HY6 := Lib.hid (args_own (l := gd.set pn ⟨kd, ⟨op, d', ia, ib, nn⟩, nm, N⟩) (by rw [List.length_set]; exact HO5.out))
  obtain ⟨W, hW⟩ : ∃ W, ((((((((w4.setCell ⟨q, pn * 8, none⟩ (.int .i64 kd)).setCell ⟨q, pn * 8 + 1, none⟩ (.int .i64 op)).setCell ⟨q, pn * 8 + 2, none⟩ (.int .i64 d')).setCell ⟨q, pn * 8 + 3, none⟩ (.int .i64 ia)).setCell ⟨q, pn * 8 + 4, none⟩ (.int .i64 ib)).setCell ⟨q, pn * 8 + 5, none⟩ (.int .i64 nn)).setCell ⟨q, pn * 8 + 6, none⟩ (.string nm)).setCell ⟨q, pn * 8 + 7, none⟩ (.int .i64 N)) = W := ⟨_, rfl⟩
  rw [hW] at HB5 HB6 HL6 HG6 HX6 HY6 ⊢
  clear hW HO5 HO4 HB4 HO3 HB3 HIG HXB HXB2 HX4' HLL HG2 hbg
  go_cut [0] (fun s0 wx => W = wx ∧ ∃ ay yl cy, s0 = .slice ay yl.length cy ∧ ArgS 8 itC W (.slice ay yl.length cy) yl ∧ NamesOK yl)
  case first =>
    by_cases h20 : 20 < l.length
    · have HT := Lib.hid (args_take HL6.out (by omega))
      have hcap := (items_len HL6.out).2
      have HTN := Lib.hid (names_take HNL.out 20)
      have h20i : (20 : Int) < l.length := by omega
      go_wp2_with fail
      go_meet
      case rel => exact ⟨rfl, _, l.take 20, _, by rw [List.length_take, Nat.min_eq_left (by omega)], by rw [List.length_take, Nat.min_eq_left (by omega)]; exact HT.out, HTN.out⟩
    · have h20i : ¬ (20 : Int) < l.length := by omega
      go_wp2_with fail
      go_meet
      case rel => exact ⟨rfl, _, l, _, rfl, HL6.out, HNL.out⟩
  case rest =>
    obtain ⟨rfl, ay, yl, cy, rfl, hay, hny⟩ := hcut
    have HAY := Lib.hid hay; have HNY := Lib.hid hny
    clear hay hny
    go_wp2_with fail
    obtain ⟨B, hB⟩ : ∃ B, W.heap.size = B := ⟨_, rfl⟩
    have hxV := new_in W (.cells #[.slice ay yl.length cy, .slice (some ⟨bg, og, none⟩) gd.length c3, .slice (some ⟨q, 0, none⟩) gd.length c4] 22)
    have hbV := bel_new W (.cells #[.slice ay yl.length cy, .slice (some ⟨bg, og, none⟩) gd.length c3, .slice (some ⟨q, 0, none⟩) gd.length c4] 22)
    obtain ⟨V, hV⟩ : ∃ V, W.alloc (.cells #[.slice ay yl.length cy, .slice (some ⟨bg, og, none⟩) gd.length c3, .slice (some ⟨q, 0, none⟩) gd.length c4] 22) = V := ⟨_, rfl⟩
    rw [hV] at hxV hbV ⊢
    rw [hB] at hxV
    try rw [hB]
    clear hV
    have HV := Lib.hid (bw_tr HB6.out hbV)
    have HXV := Lib.hid hxV
    have HIT : Hid (∀ j, j < 3 → ∃ a c y, V.cell? ⟨B, j, none⟩ = some (.slice a y.length c) ∧ ArgS 8 itC V (.slice a y.length c) y ∧ NamesOK y) := Lib.hid (fun j hj => by
      rcases (by omega : j = 0 ∨ j = 1 ∨ j = 2) with rfl | rfl | rfl
      · exact ⟨ay, cy, yl, cell_in hxV rfl, HAY.out.below hbV, HNY.out⟩
      · exact ⟨_, c3, gd, cell_in hxV rfl, HG6.out.below hbV, HFF.out.nms⟩
      · refine ⟨some ⟨q, 0, none⟩, c4, gd.set pn ⟨kd, ⟨op, d', ia, ib, nn⟩, nm, N⟩, ?_, ?_, HNB.out⟩
        · rw [List.length_set]; exact cell_in hxV rfl
        · have := HY6.out.below hbV
          rw [List.length_set]; exact this)
    have HX7 := Lib.hid (bel_in hbV (lt_in HX6.out) HX6.out)
    have hBV : B < V.heap.size := lt_in hxV
    clear hxV hbV hB
    go_loopw [53] (fun i wr => ∃ j : Nat, j ≤ 3 ∧ i = .int .i64 j ∧ Below V.heap.size V wr) (fun i _ => 3 - (intOf i).toNat)
    case atStart => exact ⟨0, by omega, rfl, Below.refl _ _⟩
    case round =>
      obtain ⟨j, hj, rfl, hb⟩ := hrel
      have HB := Lib.hid hb; clear hb
      have hszr := HB.out.size
      by_cases hlt : j < 3
      case pos =>
        obtain ⟨az, cz, y, hz0, hz1, hz2⟩ := HIT.out j hlt
        have k0 : wr.cell? ⟨B, j, none⟩ = some (.slice az y.length cz) := (HB.out.cell (p := ⟨B, j, none⟩) hBV).trans hz0
        have HAZ := Lib.hid (hz1.below HB.out)
        have HNZ := Lib.hid hz2
        clear hz0 hz1 hz2
        obtain ⟨e0, he0⟩ : ∃ e0, errOf y = e0 := ⟨_, rfl⟩
        obtain ⟨zp, hzp⟩ : ∃ z, placesZ y = z := ⟨_, rfl⟩
        obtain ⟨zw, hzw⟩ : ∃ z, wordsZ y = z := ⟨_, rfl⟩
        obtain ⟨z1, hz1⟩ : ∃ z, findZ y s = z := ⟨_, rfl⟩
        obtain ⟨z2, hz2⟩ : ∃ z, findZ y ⟨#[97]⟩ = z := ⟨_, rfl⟩
        have PL := Lib.hid (fun w' hb => tellPlaces w' y _ (HAZ.out.below hb) HNZ.out e0 zp he0 hzp)
        have PR := Lib.hid (fun w' hb => tellPlacesR w' y _ (HAZ.out.below hb) HNZ.out e0 zp he0 hzp)
        have WL := Lib.hid (fun w' hb => tellWords w' y _ (HAZ.out.below hb) HNZ.out e0 zw he0 hzw)
        have WR := Lib.hid (fun w' hb => tellWordsR w' y _ (HAZ.out.below hb) HNZ.out e0 zw he0 hzw)
        have F1 := Lib.hid (fun w' hb => find_any w' y _ s (HAZ.out.below hb) HNZ.out HSZ.out z1 hz1)
        have F2 := Lib.hid (fun w' hb => r3_Find w' y _ s (HAZ.out.below hb) HNZ.out z1 hz1)
        have F3 := Lib.hid (fun w' hb => find_any w' y _ ⟨#[97]⟩ (HAZ.out.below hb) HNZ.out (by decide) z2 hz2)
        have F4 := Lib.hid (fun w' hb => r3_Find w' y _ ⟨#[97]⟩ (HAZ.out.below hb) HNZ.out z2 hz2)
        have q0 : (e0 != e0) = false := by simp
        have q1 : (z1 != z1) = false := by simp
        have q2 : (z2 != z2) = false := by simp
        clear he0 hzp hzw hz1 hz2
        go_wp2_with (first | (go_at_call 14; ((with_reducible refine (PL.out _ (Below.refl _ _)).mono ?_); rintro e u1 ⟨v1, rfl, r1, b1⟩)) | (go_at_call 15; ((with_reducible refine (PR.out _ b1).mono ?_); rintro e u2 ⟨v2, rfl, r2, b2'⟩; have b2 := bw_tr b1 b2'; have r1b := r1.below b2'; clear r1 b2')) | (go_at_call 16; ((with_reducible refine (WL.out _ b2).mono ?_); rintro e u3 ⟨v3, rfl, r3, b3'⟩; have b3 := bw_tr b2 b3'; have r1c := r1b.below b3'; have r2c := r2.below b3'; clear r1b r2 b3')) | (go_at_call 17; ((with_reducible refine (WR.out _ b3).mono ?_); rintro e u4 ⟨v4, rfl, r4, b4'⟩; have b4 := bw_tr b3 b4'; have r1d := r1c.below b4'; have r2d := r2c.below b4'; have r3d := r3.below b4'; clear r1c r2c r3 b4')) | (go_at_call 18; ((with_reducible refine (ints_same v1 v2 zp _ r1d r2d).mono ?_); rintro e u5 ⟨rfl, b5'⟩; have b5 := bw_tr b4 b5'; have r3e := r3d.below b5'; have r4e := r4.below b5'; clear r1d r2d r3d r4 b5')) | (go_at_call 18; ((with_reducible refine (ints_same v3 v4 zw _ r3e r4e).mono ?_); rintro e u6 ⟨rfl, b6'⟩; have b6 := bw_tr b5 b6'; clear r3e r4e b6')) | (go_at_call 19; ((with_reducible refine (F1.out _ b6).mono ?_); rintro e u7 ⟨rfl, b7'⟩; have b7 := bw_tr b6 b7'; clear b7')) | (go_at_call 20; ((with_reducible refine (F2.out _ b7).mono ?_); rintro e u8 ⟨rfl, b8'⟩; have b8 := bw_tr b7 b8'; clear b8')) | (go_at_call 19; ((with_reducible refine (F3.out _ b8).mono ?_); rintro e u9 ⟨rfl, b9'⟩; have b9 := bw_tr b8 b9'; clear b9')) | (go_at_call 20; ((with_reducible refine (F4.out _ b9).mono ?_); rintro e uA ⟨rfl, bA'⟩; have bA := bw_tr b9 bA'; clear bA')))
        exact ⟨⟨j + 1, by omega, by go_num, bw_tr HB.out bA⟩, by simp [intOf]; omega⟩
      case neg =>
        obtain rfl : j = 3 := by omega
        clear hlt HIT
        obtain ⟨wy, hwy⟩ : ∃ x, x = wr := ⟨_, rfl⟩
        subst hwy
        have HXY := Lib.hid (bel_in HB.out (lt_in HX7.out) HX7.out)
        have TN := Lib.hid (fun w => tellNum d n w HNN.out)
        have TR := Lib.hid (fun w => r3_number_at d n w HNN.out)
        obtain ⟨xs, hxs⟩ : ∃ xs, labL d n = xs := ⟨_, rfl⟩
        have hxl := labL_len d n
        rw [hxs] at TN TR hxl
        clear hxs
        obtain ⟨rb, hrb⟩ : ∃ r, itemB ⟨kd, ⟨op, d', ia, ib, nn⟩, nm, N⟩ = r := ⟨_, rfl⟩
        have R1 := Lib.hid (fun w => right_item ⟨kd, ⟨op, d', ia, ib, nn⟩, nm, N⟩ rb w HX3.out HX4.out hrb)
        have R2 := Lib.hid (fun w => r3_right ⟨kd, ⟨op, d', ia, ib, nn⟩, nm, N⟩ rb w HX3.out hrb)
        unfold itV at R1 R2
        clear hrb
        go_wp2_with (first | (go_at_call 21; ((with_reducible refine (TN.out _).mono ?_); rintro e u1 ⟨a1, c1, rfl, i1, b1⟩; have I1 := Lib.hid i1; have HU1 := Lib.hid b1; clear i1 b1)) | (go_at_call 22; ((with_reducible refine (TR.out _).mono ?_); rintro e u2 ⟨a5, c5, rfl, i2, b2⟩; have I2 := Lib.hid i2; have HU2 := Lib.hid (bw_tr HU1.out b2); have I1' := Lib.hid (insAt_up I1.out b2); clear i2 b2)))
        have HXU := Lib.hid (bel_in HU2.out (lt_in HXY.out) HXY.out)
        have hlu := lt_in HXU.out
        have y0 := wd_cell hlu (show u2.cell? ⟨w.heap.size, 0, none⟩ = _ from cell_in HXU.out rfl)
        have y1 := wd_cell hlu (show u2.cell? ⟨w.heap.size, 1, none⟩ = _ from cell_in HXU.out rfl)
        have y2 := wd_cell hlu (show u2.cell? ⟨w.heap.size, 2, none⟩ = _ from cell_in HXU.out rfl)
        have y3 := wd_cell hlu (show u2.cell? ⟨w.heap.size, 3, none⟩ = _ from cell_in HXU.out rfl)
        have y4 := wd_cell hlu (show u2.cell? ⟨w.heap.size, 4, none⟩ = _ from cell_in HXU.out rfl)
        have y5 := wd_cell hlu (show u2.cell? ⟨w.heap.size, 5, none⟩ = _ from cell_in HXU.out rfl)
        have y6 := wd_cell hlu (show u2.cell? ⟨w.heap.size, 6, none⟩ = _ from cell_in HXU.out rfl)
        have y7 := wd_cell hlu (show u2.cell? ⟨w.heap.size, 7, none⟩ = _ from cell_in HXU.out rfl)
        have qm : (((xs.length : Nat) : Int) != ((xs.length : Nat) : Int)) = false := by simp
        have qr : (rb != rb) = false := by cases rb <;> rfl
        refine wp_region_below (by kernel_rfl) (by kernel_rfl) ?_
        repeat (go_big_quiet_step ((first | (go_at_call 23; with_reducible exact quiet_b (R1.out _)) | (go_at_call 24; with_reducible exact quiet_b (R2.out _)))))
        refine wpQuiet_nil ?_
        rintro u3 ⟨⟨u3x, hb3⟩, rfl⟩
        clear y0 y1 y2 y3 y4 y5 y6 y7
        have HU3 := Lib.hid (bw_tr HV.out (bw_tr HB.out (bw_tr HU2.out hb3)))
        have J1 := Lib.hid (insAt_up I1'.out hb3)
        have J2 := Lib.hid (insAt_up I2.out hb3)
        clear hb3
        go_wp2_with fail
        go_loopw [30] (fun i wr => ∃ k : Nat, k ≤ xs.length ∧ i = .int .i64 k ∧ Below u3.heap.size u3 wr) (fun i _ => xs.length - (intOf i).toNat)
        case atStart => exact ⟨0, Nat.zero_le _, rfl, Below.refl _ _⟩
        case round =>
          obtain ⟨k, hk, rfl, hb⟩ := hrel
          obtain ⟨wz, hwz⟩ : ∃ x, x = wr := ⟨_, rfl⟩
          subst hwz
          have HBZ := Lib.hid hb; clear hb
          by_cases hkl : k < xs.length
          case neg =>
            obtain rfl : k = xs.length := by omega
            go_wp2_with fail
            go_ret
            exact ⟨rfl, bw_tr HU3.out HBZ.out⟩
          case pos =>
            obtain ⟨A1, rfl, rfl, hA1⟩ := insAt_some (insAt_up J1.out HBZ.out) (by omega)
            obtain ⟨A2, rfl, rfl, hA2⟩ := insAt_some (insAt_up J2.out HBZ.out) (by omega)
            obtain ⟨x, hx⟩ : ∃ x, xs[k] = x := ⟨_, rfl⟩
            have g := insC_get xs k hkl
            rw [hx] at g
            have l1 := lt_in hA1
            have l2 := lt_in hA2
            have y0 := wd_cell l1 (show wz.cell? ⟨A1, k * 5, none⟩ = some (.int .i64 x.op) from cell_in hA1 (g 0 _ rfl))
            have y1 := wd_cell l1 (show wz.cell? ⟨A1, k * 5 + 1, none⟩ = some (.int .i64 x.d) from cell_in hA1 (g 1 _ rfl))
            have y2 := wd_cell l1 (show wz.cell? ⟨A1, k * 5 + 2, none⟩ = some (.int .i64 x.a) from cell_in hA1 (g 2 _ rfl))
            have y3 := wd_cell l1 (show wz.cell? ⟨A1, k * 5 + 3, none⟩ = some (.int .i64 x.b) from cell_in hA1 (g 3 _ rfl))
            have y4 := wd_cell l1 (show wz.cell? ⟨A1, k * 5 + 4, none⟩ = some (.int .i64 x.n) from cell_in hA1 (g 4 _ rfl))
            have y5 := wd_cell l2 (show wz.cell? ⟨A2, k * 5, none⟩ = some (.int .i64 x.op) from cell_in hA2 (g 0 _ rfl))
            have y6 := wd_cell l2 (show wz.cell? ⟨A2, k * 5 + 1, none⟩ = some (.int .i64 x.d) from cell_in hA2 (g 1 _ rfl))
            have y7 := wd_cell l2 (show wz.cell? ⟨A2, k * 5 + 2, none⟩ = some (.int .i64 x.a) from cell_in hA2 (g 2 _ rfl))
            have y8 := wd_cell l2 (show wz.cell? ⟨A2, k * 5 + 3, none⟩ = some (.int .i64 x.b) from cell_in hA2 (g 3 _ rfl))
            have y9 := wd_cell l2 (show wz.cell? ⟨A2, k * 5 + 4, none⟩ = some (.int .i64 x.n) from cell_in hA2 (g 4 _ rfl))
            have q9 := eqI true x x (by simp)
            clear g hx hA1 hA2
            go_wp2_with fail
            refine wp_region_below (by kernel_rfl) (by kernel_rfl) ?_
            repeat (go_big_quiet_step (fail))
            refine wpQuiet_nil ?_
            rintro w7 ⟨⟨w7x, hb7⟩, rfl⟩
            clear y0 y1 y2 y3 y4 y5 y6 y7 y8 y9 q9
            go_wp2_with fail
            exact ⟨⟨k + 1, by omega, by go_num, bw_tr HBZ.out hb7⟩, by simp [intOf]; omega⟩
end Go.Proofs.Ytfepdieeiplbnaa
