/-
  The contracts of headstockref03.Places, Find, instrs. The contract of headstockref03.Assemble.
-/
import Derived.Test.YtfepdieeiplbnaaRef03AL
import Derived.Test.YtfepdieeiplbnaaLabelLeads
namespace Go.Proofs.Ytfepdieeiplbnaa
open Go.RowKit
set_option linter.unusedSimpArgs false
theorem r3_laid_no (w : World) (l : List Itm) (v : Value) (HL : ArgS 8 itC w v l) (HO : NamesOK l) (e0 : Int) (he : errOf l = e0) (h0 : e0 ≠ 0) :
    Calls Try.prog 33 #[v] w fun e w' => e = .returned (.tuple #[.slice none 0 0, .slice none 0 0, .int .i64 e0]) ∧ Below w.heap.size w w' := by
  refine (r3_laid w l v HL HO).mono ?_
  rintro e w' ⟨hb, h | h⟩
  · rw [← he]; exact ⟨h.2, hb⟩
  · exact absurd (he.symm.trans h.1) h0
theorem r3_laid_yes (w : World) (l : List Itm) (v : Value) (HL : ArgS 8 itC w v l) (HO : NamesOK l) (he : errOf l = 0) :
    Calls Try.prog 33 #[v] w fun e w' => ∃ g c g' c', e = .returned (.tuple #[.slice (some ⟨g, 0, none⟩) (l.length + 1) c, .slice g' l.length c', .int .i64 0]) ∧ w'.ownsRow w.heap.size 3 1 (.slice (some ⟨g, 0, none⟩) (l.length + 1) c) (l.length + 1) (intsC (plL l (longF l) l.length)) ∧ w'.ownsRow w.heap.size 4 1 (.slice g' l.length c') l.length (boolsC (longF l) l.length) ∧ Below w.heap.size w w' := by
  refine (r3_laid w l v HL HO).mono ?_
  rintro e w' ⟨hb, h | ⟨_, vp, vl, h, hp, hl⟩⟩
  · exact absurd he h.1
  · obtain ⟨g, c, rfl, _⟩ := own_some hp
    obtain ⟨g', c', rfl⟩ := own_shape hl
    exact ⟨g, c, g', c', h, hp, hl, hb⟩
theorem r3_Places_no (w : World) (l : List Itm) (v : Value) (HL : ArgS 8 itC w v l) (HO : NamesOK l) (e0 : Int) (he : errOf l = e0) (h0 : e0 ≠ 0) :
    Calls Try.prog 15 #[v] w fun e w' => e = .returned (.tuple #[.slice none 0 0, .int .i64 e0]) ∧ Below w.heap.size w w' := by
  have hC := Lib.hid (r3_laid_no w l v HL HO e0 he h0)
  clear HL HO he h0
  go_enter Try.func15, Try.ntmps15
  go_wp2_with (go_at_call 33; ((with_reducible refine hC.out.mono ?_); rintro e w1 ⟨rfl, hb1⟩))
  go_ret2
  exact ⟨rfl, hb1⟩
theorem r3_Places_yes (w : World) (l : List Itm) (v : Value) (HL : ArgS 8 itC w v l) (HO : NamesOK l) (he : errOf l = 0) :
    Calls Try.prog 15 #[v] w fun e w' => ∃ g c, e = .returned (.tuple #[.slice (some ⟨g, 0, none⟩) (l.length + 1) c, .int .i64 0]) ∧ w'.ownsRow w.heap.size 3 1 (.slice (some ⟨g, 0, none⟩) (l.length + 1) c) (l.length + 1) (intsC (plL l (longF l) l.length)) ∧ Below w.heap.size w w' := by
  have hC := Lib.hid (r3_laid_yes w l v HL HO he)
  clear HL HO he
  go_enter Try.func15, Try.ntmps15
  go_wp2_with (go_at_call 33; ((with_reducible refine hC.out.mono ?_); rintro e w1 ⟨g, c, g', c', rfl, hp1, hl1, hb1⟩; have HP1 := Lib.hid hp1; have HB1 := Lib.hid hb1; clear hp1 hl1 hb1))
  go_ret2
  exact ⟨g, c, rfl, HP1.out, HB1.out⟩
theorem r3_Find (w : World) (l : List Itm) (v : Value) (s : ByteArray) (HL : ArgS 8 itC w v l) (HO : NamesOK l) (z : Int) (hz : findZ l s = z) :
    Calls Try.prog 20 #[v, .string s] w fun e w' => e = .returned (.int .i64 z) ∧ Below w.heap.size w w' := by
  obtain ⟨q, hq⟩ : ∃ q, fsI l s = q := ⟨_, rfl⟩
  have HLB := Lib.hid (fun w' hb => r3_label w w' l v s HL hb q hq)
  by_cases he : errOf l = 0
  case neg =>
    have hC := Lib.hid (r3_Places_no w l v HL HO _ rfl he)
    have E : Hid ((-1 : Int) = z) := Lib.hid (by rw [← hz]; unfold findZ; rw [if_neg he])
    obtain ⟨e0, h0⟩ : ∃ e0, errOf l = e0 := ⟨_, rfl⟩
    rw [h0] at hC he
    have hq0 : (e0 != 0) = true := by simpa using he
    clear HL HO he h0 hz hq
    go_enter Try.func20, Try.ntmps20
    go_wp2_with (first | (go_at_call 15; ((with_reducible refine hC.out.mono ?_); rintro e w1 ⟨rfl, hb1⟩)) | (go_at_call 35; ((with_reducible refine (HLB.out _ hb1).mono ?_); rintro e w2 ⟨rfl, rfl⟩)))
    go_ret
    exact ⟨iret E.out, hb1⟩
  case pos =>
    have hC := Lib.hid (r3_Places_yes w l v HL HO he)
    have hkn := (err_parts he).2.2.1
    have HFZ : Hid (z = match fs l l.length s with | some k => pl l (longF l) k | none => -1) := Lib.hid (by
      unfold knownB at hkn
      rw [Bool.and_eq_true] at hkn
      rw [← hz]; unfold findZ; rw [if_pos he, fs_ok hkn.1]; rfl)
    unfold fsI at hq
    cases hm : fs l l.length s with
    | none =>
      rw [hm] at hq
      simp only at hq
      subst hq
      have E : Hid ((-1 : Int) = z) := Lib.hid (by rw [HFZ.out, hm])
      clear HL HO he hz hkn hm
      go_enter Try.func20, Try.ntmps20
      go_wp2_with (first | (go_at_call 15; ((with_reducible refine hC.out.mono ?_); rintro e w1 ⟨g, c, rfl, hp1, hb1⟩)) | (go_at_call 35; ((with_reducible refine (HLB.out _ hb1).mono ?_); rintro e w2 ⟨rfl, rfl⟩)))
      go_ret
      exact ⟨iret E.out, hb1⟩
    | some k =>
      rw [hm] at hq
      simp only at hq
      subst hq
      have hk := (fs_some hm).1
      have hl := (err_parts he).1
      have E : Hid (pl l (longF l) k = z) := Lib.hid (by rw [HFZ.out, hm])
      clear HL HO he hz hkn hm
      go_enter Try.func20, Try.ntmps20
      go_wp2_with (first | (go_at_call 15; ((with_reducible refine hC.out.mono ?_); rintro e w1 ⟨g, c, rfl, hp1, hb1⟩; have k0 : w1.cell? ⟨g, k, none⟩ = some (.int .i64 z) := (own_cell hp1 (plL_get l _ (show k ≤ l.length by omega))).trans (by rw [E.out]); clear hp1)) | (go_at_call 35; ((with_reducible refine (HLB.out _ hb1).mono ?_); rintro e w2 ⟨rfl, rfl⟩)))
      go_ret
      exact ⟨rfl, hb1⟩
def insK (x : Ins) : List Value := [.int .i64 x.op, .int .i64 x.d, .int .i64 x.a, .int .i64 x.b, .int .i64 x.n]
theorem flatN_get (xs : List Ins) (k : Nat) (hk : k < xs.length) (j : Nat) (u : Value) (hj : (insK xs[k])[j]? = some u) : (flatN xs)[k * 5 + j]? = some u := by
  have h := insC_get xs k hk j u hj
  unfold insC at h
  rw [List.getElem?_toArray] at h
  exact h
theorem flatN_len (xs : List Ins) : (flatN xs).length = xs.length * 5 := by
  induction xs with
  | nil => rfl
  | cons x xs ih =>
    have e : flatN (x :: xs) = insK x ++ flatN xs := List.flatMap_cons
    rw [e, List.length_append, ih, List.length_cons]
    simp [insK]; omega
theorem ownN_at {w : World} {v : Value} {xs : List Ins} (hl : xs.length ≤ 2) (h : InsAt w v xs) : w.ownsRow 0 24 5 v xs.length (flatN xs) := by
  rcases h with ⟨rfl, rfl⟩ | ⟨B, rfl, hB⟩
  · exact World.ownsRow_nil _ _ _ _
  · have e : (insC xs).toList = flatN xs := by unfold insC flatN; simp
    refine ⟨flatN_len xs, .inr ⟨B, xs.length, insC xs, rfl, Nat.zero_le _, hB, Nat.le_refl _, by unfold maxLen; omega, ?_, ?_⟩⟩
    · rw [← Array.length_toList, e, flatN_len]
    · rw [e]; exact List.take_of_length_le (by rw [flatN_len]; omega)
/-- The instructions of an item, at a place, whose label is so far away. -/
def insX (x : Itm) (g : Bool) (far : Int) : List Ins :=
  if x.kind = 1 then [x.i]
  else if x.kind = 3 then (if g then [⟨oppN x.i.op, x.i.d, x.i.a, x.i.b, 8⟩, ⟨3, 0, 0, 0, far - 4⟩] else [⟨x.i.op, x.i.d, x.i.a, x.i.b, far⟩])
  else if x.kind = 4 then labL x.i.d x.n
  else if x.kind = 5 then List.replicate x.n.toNat ⟨13, 0, 0, 0, 0⟩
  else []
theorem insX_of (l : List Itm) (L : Nat → Bool) (i : Nat) (f : Int) (h : (it l i).kind = 3 → f = dst l L i) : insOf l L i = insX (it l i) (L i) f := by
  unfold insOf insX
  by_cases h3 : (it l i).kind = 3
  · rw [h h3]
  · rw [if_neg h3, if_neg h3]
theorem r3_number_at (d n : Int) (w : World) (hn : I64 n) :
    Calls Try.prog 22 #[.int .i64 d, .int .i64 n] w fun e w' => ∃ a c, e = .returned (.slice a (labL d n).length c) ∧ InsAt w' (.slice a (labL d n).length c) (labL d n) ∧ Below w.heap.size w w' := by
  refine (r3_number d n w hn).mono ?_
  rintro e w' ⟨hb, h | ⟨_, B, h, h2, _⟩⟩
  · exact ⟨none, 0, by rw [h.2, h.1]; rfl, by rw [h.1]; exact .inl ⟨rfl, rfl⟩, hb⟩
  · exact ⟨_, _, h, .inr ⟨B, rfl, h2⟩, hb⟩
set_option maxRecDepth 100000 in
set_option maxHeartbeats 8000000 in
theorem r3_instrs (x : Itm) (g : Bool) (far : Int) (w : World) (hx : itemB x = true) (hg : g = true → growK x = true) (hf : -1000000000 ≤ far ∧ far ≤ 1000000000) :
    Calls Try.prog 36 #[itV x, .bool g, .int .i64 far] w fun e w' => ∃ a c, e = .returned (.slice a (insX x g far).length c) ∧ w'.ownsRow 0 24 5 (.slice a (insX x g far).length c) (insX x g far).length (flatN (insX x g far)) ∧ Below w.heap.size w w' := by
  have hk := item_kinds hx
  have HX := Lib.hid hx; have HG := Lib.hid hg
  obtain ⟨k, ⟨op, d, ia, ib, nn⟩, s, N⟩ := x
  obtain ⟨xs, hxs⟩ : ∃ xs, insX ⟨k, ⟨op, d, ia, ib, nn⟩, s, N⟩ g far = xs := ⟨_, rfl⟩
  rw [hxs]
  have HXS := Lib.hid hxs
  clear hxs hx hg
  unfold itV
  unfold insX at HXS
  simp only at hk HXS ⊢
  rcases hk with rfl | rfl | rfl | rfl | rfl
  · have E : Hid (xs = [⟨op, d, ia, ib, nn⟩]) := Lib.hid (by rw [← HXS.out]; rfl)
    go_enter Try.func36, Try.ntmps36
    go_wp2_with fail
    go_ret
    rw [E.out]
    exact ⟨_, _, rfl, ownN_at (by simp) (ins_one _ _ _ _ _ _ _ (by simp)), (by repeat (first | (with_reducible exact Below.refl _ _) | (with_reducible refine bw_set ?_ ?_ _) | (with_reducible apply bw_alloc) | (with_reducible refine bw_tr ?_ (by with_reducible assumption)) | (with_reducible apply bw_drew) | omega))⟩
  · have E : Hid (xs = []) := Lib.hid (by rw [← HXS.out]; rfl)
    go_enter Try.func36, Try.ntmps36
    go_wp2_with fail
    go_ret
    rw [E.out]
    exact ⟨_, _, rfl, ownN_at (by decide) (.inl ⟨rfl, rfl⟩), (by repeat (first | (with_reducible exact Below.refl _ _) | (with_reducible refine bw_set ?_ ?_ _) | (with_reducible apply bw_alloc) | (with_reducible refine bw_tr ?_ (by with_reducible assumption)) | (with_reducible apply bw_drew) | omega))⟩
  · cases g
    · have E : Hid (xs = [⟨op, d, ia, ib, far⟩]) := Lib.hid (by rw [← HXS.out]; rfl)
      go_enter Try.func36, Try.ntmps36
      go_wp2_with fail
      go_ret
      rw [E.out]
      exact ⟨_, _, rfl, ownN_at (by simp) (ins_one _ _ _ _ _ _ _ (by simp)), (by repeat (first | (with_reducible exact Below.refl _ _) | (with_reducible refine bw_set ?_ ?_ _) | (with_reducible apply bw_alloc) | (with_reducible refine bw_tr ?_ (by with_reducible assumption)) | (with_reducible apply bw_drew) | omega))⟩
    · have E : Hid (xs = [⟨oppN op, d, ia, ib, 8⟩, ⟨3, 0, 0, 0, far - 4⟩]) := Lib.hid (by rw [← HXS.out]; rfl)
      have hop : 5 ≤ op ∧ op ≤ 10 := by
        have h1 := (to_parts HX.out rfl).2.2.1
        have h2 := ((growK_iff _).1 (HG.out rfl)).2
        rcases h1 with h1 | h1
        · exact br_bd h1
        · exact absurd h1 h2
      have OPP := Lib.hid (fun w => ref_opposite op w hop)
      have sf : IntKind.i64.wrap (far - 4) = far - 4 := IntWalk.i64_in _ (by omega)
      clear hop
      go_enter Try.func36, Try.ntmps36
      go_wp2_with (go_at_call 27; ((with_reducible refine (OPP.out _).mono ?_); rintro e w1 ⟨rfl, rfl⟩))
      go_ret
      rw [E.out]
      exact ⟨_, _, rfl, ownN_at (by simp) (ins_two _ _ _ _ _ _ _ _ _ _ _ _ (by simp)), (by repeat (first | (with_reducible exact Below.refl _ _) | (with_reducible refine bw_set ?_ ?_ _) | (with_reducible apply bw_alloc) | (with_reducible refine bw_tr ?_ (by with_reducible assumption)) | (with_reducible apply bw_drew) | omega))⟩
  · have E : Hid (xs = labL d N) := Lib.hid (by rw [← HXS.out]; rfl)
    have hN : I64 N := by
      have := HX.out
      rw [itemB_4, numB_ref] at this
      simp at this
      constructor <;> omega
    have HN := Lib.hid hN
    clear hN
    go_enter Try.func36, Try.ntmps36
    go_wp2_with (go_at_call 22; ((with_reducible refine (r3_number_at d N _ HN.out).mono ?_); rintro e w1 ⟨a1, c1, rfl, hp2, hb1⟩; have HP2 := Lib.hid hp2; clear hp2))
    go_ret
    rw [E.out]
    exact ⟨_, _, rfl, ownN_at (labL_len d N) HP2.out, (by repeat (first | (with_reducible exact Below.refl _ _) | (with_reducible refine bw_set ?_ ?_ _) | (with_reducible apply bw_alloc) | (with_reducible refine bw_tr ?_ (by with_reducible assumption)) | (with_reducible apply bw_drew) | omega))⟩
  · have hNb := itemB_nops HX.out rfl
    simp only at hNb
    obtain ⟨n, rfl⟩ : ∃ n : Nat, N = n := ⟨N.toNat, by omega⟩
    have hn : n ≤ 4096 := by omega
    have E : Hid (xs = List.replicate n ⟨13, 0, 0, 0, 0⟩) := Lib.hid (by rw [← HXS.out]; rfl)
    clear hNb
    go_enter Try.func36, Try.ntmps36
    go_wp2_with fail
    obtain ⟨W, hW⟩ : ∃ W, (w.alloc (.cells #[.int .i64 5, .int .i64 op, .int .i64 d, .int .i64 ia, .int .i64 ib, .int .i64 nn, .string s, .int .i64 n] 26)).alloc (.cells #[.int .i64 op, .int .i64 d, .int .i64 ia, .int .i64 ib, .int .i64 nn] 24) = W := ⟨_, rfl⟩
    have hbW : Below w.heap.size w W := by rw [← hW]; exact (by repeat (first | (with_reducible exact Below.refl _ _) | (with_reducible refine bw_set ?_ ?_ _) | (with_reducible apply bw_alloc) | (with_reducible refine bw_tr ?_ (by with_reducible assumption)) | (with_reducible apply bw_drew) | omega))
    have hxW : W.cell? ⟨w.heap.size, 7, none⟩ = some (.int .i64 n) := by rw [← hW]; exact cell_in (bel_in (bel_new _ _) (lt_in (new_in w _)) (new_in w _)) rfl
    have hlW : w.heap.size < W.heap.size := by rw [← hW]; simp; omega
    rw [hW]
    have HBW := Lib.hid hbW; have HXW := Lib.hid hxW
    clear hW hbW hxW
    go_loopw [8, 9] (fun o i wr => ∃ k : Nat, k ≤ n ∧ i = .int .i64 k ∧ wr.ownsRow W.heap.size 24 5 o k (flatN (List.replicate k ⟨13, 0, 0, 0, 0⟩)) ∧ Below W.heap.size W wr) (fun _ i _ => n - (intOf i).toNat)
    case atStart => exact ⟨0, Nat.zero_le _, rfl, World.ownsRow_nil _ _ _ _, Below.refl _ _⟩
    case round =>
      obtain ⟨k, hk, rfl, hr, hb⟩ := hrel
      have HR := Lib.hid hr; have HB := Lib.hid hb
      clear hr hb
      have c7 : wr.cell? ⟨w.heap.size, 7, none⟩ = some (.int .i64 n) := (HB.out.cell (p := ⟨w.heap.size, 7, none⟩) hlW).trans HXW.out
      have hsz := HB.out.size
      obtain ⟨ao, co, rfl⟩ := own_shape HR.out
      by_cases hlt : k < n
      case pos =>
        go_wp2_with (at_builtin; refine app_ins rfl _ _ rfl W.heap.size _ (List.replicate k ⟨13, 0, 0, 0, 0⟩) ⟨13, 0, 0, 0, 0⟩ k (by simp) rfl (HR.out.alloc _) wr.heap.size (new_in wr _) rfl (by omega) (by simp; omega) ?_; intro g7 c7x w7 hown7 hgrow7; have HO7 := Lib.hid hown7; have HG7 := Lib.hid hgrow7; clear hown7 hgrow7)
        refine ⟨⟨k + 1, by omega, by go_num, ?_, ?_⟩, by simp [intOf]; omega⟩
        · rw [List.replicate_succ']; exact HO7.out
        · exact grown_bel (bw_tr HB.out (bel_new wr _)) HG7.out (fun g e => (HR.out.lt g e).1)
      case neg =>
        obtain rfl : k = n := by omega
        go_wp2_with fail
        go_ret
        rw [E.out, List.length_replicate]
        exact ⟨_, _, rfl, own_base HR.out (Nat.zero_le _), bw_tr HBW.out HB.out⟩
end Go.Proofs.Ytfepdieeiplbnaa
namespace Go.Proofs.Ytfepdieeiplbnaa
open Go.RowKit
set_option linter.unusedSimpArgs false
theorem r3_Assemble_no (w : World) (l : List Itm) (v : Value) (HL : ArgS 8 itC w v l) (HO : NamesOK l) (e0 : Int) (he : errOf l = e0) (h0 : e0 ≠ 0) :
    Calls Try.prog 17 #[v] w fun e w' => e = .returned (.tuple #[.slice none 0 0, .int .i64 e0]) ∧ Below w.heap.size w w' := by
  have hC := Lib.hid (r3_laid_no w l v HL HO e0 he h0)
  have hq : (e0 != 0) = true := by simpa using h0
  clear HL HO he h0
  go_enter Try.func17, Try.ntmps17
  go_wp2_with (go_at_call 33; ((with_reducible refine hC.out.mono ?_); rintro e w1 ⟨rfl, hb1⟩))
  go_ret2
  exact ⟨rfl, hb1⟩
set_option maxRecDepth 100000 in
set_option maxHeartbeats 8000000 in
theorem r3_Assemble_yes (w : World) (l : List Itm) (v : Value) (HL : ArgS 8 itC w v l) (HO : NamesOK l) (he : errOf l = 0) :
    Calls Try.prog 17 #[v] w fun e w' => ∃ v', e = .returned (.tuple #[v', .int .i64 0]) ∧ w'.ownsRow w.heap.size 3 1 v' (wordsOf l).length (intsC (wordsOf l)) ∧ Below w.heap.size w w' := by
  have hC := Lib.hid (r3_laid_yes w l v HL HO he)
  obtain ⟨e1, e2, e3, e4⟩ := err_parts he
  have HK : Hid (ItsOK l) := Lib.hid ⟨e1, HO.name, HO.num⟩
  have HA := Lib.hid e2; have HE := Lib.hid he; have HKN := Lib.hid e3
  obtain ⟨a, c, rfl⟩ : ∃ a c, v = .slice a l.length c := by obtain ⟨a, c, hv, _⟩ := HL; exact ⟨a, c, hv⟩
  have H1 := Lib.hid HL
  clear HL HO he e2 e3 e4
  go_enter Try.func17, Try.ntmps17
  go_wp2_with (go_at_call 33; ((with_reducible refine hC.out.mono ?_); rintro e w1 ⟨gp, cp, gl, cl, rfl, hp1, hl1, hb1⟩; have HP1 := Lib.hid hp1; have HL1 := Lib.hid hl1; have HB1 := Lib.hid hb1; clear hp1 hl1 hb1; have hsz1 := HB1.out.size))
  go_loopw [7, 8] (fun o i wr => ∃ k : Nat, k ≤ l.length ∧ i = .int .i64 k ∧ wr.ownsRow w1.heap.size 3 1 o (wordsTo l (longF l) k).length (intsC (wordsTo l (longF l) k)) ∧ Below w1.heap.size w1 wr) (fun _ i _ => l.length - (intOf i).toNat)
  case atStart => exact ⟨0, Nat.zero_le _, rfl, World.ownsRow_nil _ _ _ _, Below.refl _ _⟩
  case round =>
    obtain ⟨k, hk, rfl, hr, hb⟩ := hrel
    obtain ⟨wx, hwx⟩ : ∃ x, x = wr := ⟨_, rfl⟩
    subst hwx
    have HR := Lib.hid hr; have HB := Lib.hid hb
    clear hr hb
    obtain ⟨ao, co, rfl⟩ := own_shape HR.out
    by_cases hlt : k < l.length
    case neg =>
      obtain rfl : k = l.length := by omega
      have HWO : Hid (wordsTo l (longF l) l.length = wordsOf l) := Lib.hid rfl
      go_wp2_with fail
      go_ret2
      exact ⟨_, rfl, own_base HR.out hsz1, bw_tr HB1.out HB.out⟩
    case pos =>
    have hszx := HB.out.size
    have HPx := Lib.hid (own_below HP1.out HB.out)
    have HLx := Lib.hid (own_below HL1.out HB.out)
    obtain ⟨g3, c3g, hgl, l0, l1, l2, l3⟩ := own_some0 (by omega) HLx.out
    injection hgl with hgl1 _ hgl2
    subst hgl1 hgl2
    have k1 : wx.cell? ⟨g3, k, none⟩ = some (.bool (longF l k)) := own_cell HLx.out (boolsC_get _ hlt)
    have k2 : wx.cell? ⟨gp, k, none⟩ = some (.int .i64 (pl l (longF l) k)) := own_cell HPx.out (plL_get l _ (by omega))
    have hgp : gp < wx.heap.size := (HPx.out.lt gp rfl).2
    obtain ⟨b, o, rfl, hb0, hcells⟩ := items_at H1.out k hlt
    obtain ⟨c0, c1, c2, c3, c4, c5, c6, c7⟩ := eight_cells (fun j u hj => (HB.out.cell (p := ⟨b, o + k * 8 + j, none⟩) (show b < w1.heap.size by omega)).trans ((HB1.out.cell (p := ⟨b, o + k * 8 + j, none⟩) hb0).trans (hcells j u hj)))
    clear hcells
    have hbx : b < wx.heap.size := by omega
    obtain ⟨fv, hfv⟩ : ∃ f, (if (it l k).kind = 3 then dst l (longF l) k else 0) = f := ⟨_, rfl⟩
    have HFV := Lib.hid hfv
    have HIX : Hid (insOf l (longF l) k = insX (it l k) (longF l k) fv) := Lib.hid (insX_of l (longF l) k fv (fun h => by rw [← hfv, if_pos h]))
    have hfb : -1000000000 ≤ fv ∧ fv ≤ 1000000000 := by
      have := dst_bd HA.out (longF l) k hlt e1
      rw [← hfv]
      split <;> omega
    clear hfv
    have HIN := Lib.hid (fun w => r3_instrs (it l k) (longF l k) fv w (HA.out k hlt) (fun h => long_to h) hfb)
    unfold itV at HIN
    rw [← HIX.out] at HIN
    have hwl := wordsTo_len HE.out (k + 1) (by omega)
    rw [wordsTo_succ, List.length_append, List.length_map] at hwl
    have HWL := Lib.hid (wordsTo_succ l (longF l) k)
    obtain ⟨ws, hws⟩ : ∃ ws, wordsTo l (longF l) k = ws := ⟨_, rfl⟩
    obtain ⟨xs, hxs⟩ : ∃ xs, insOf l (longF l) k = xs := ⟨_, rfl⟩
    rw [hws] at HR HWL hwl ⊢
    rw [hxs] at HIN HWL hwl
    clear hws hxs HIX
    go_upto_if 34 with (fail)
    go_cut [9] (fun s9 wy => s9 = .int .i64 fv ∧ Below wx.heap.size wx wy)
    case first =>
      by_cases h3 : (it l k).kind = 3
      case neg =>
        have q3 : ((it l k).kind == 3) = false := by simpa using h3
        have F0 : Hid (0 = fv) := Lib.hid (by rw [← HFV.out, if_neg h3])
        go_wp2_with fail
        go_meet
        case rel => exact ⟨congrArg _ F0.out, Below.refl _ _⟩
      case pos =>
        have F0 : Hid (dst l (longF l) k = fv) := Lib.hid (by rw [← HFV.out, if_pos h3])
        obtain ⟨t, ht, hft, hlt'⟩ := fsI_lab HKN.out k hlt h3
        have q3 : ((it l k).kind == 3) = true := by simpa using h3
        have k3 : wx.cell? ⟨gp, t, none⟩ = some (.int .i64 (pl l (longF l) t)) := own_cell HPx.out (plL_get l _ (by omega))
        obtain ⟨pt, hpt⟩ : ∃ x, pl l (longF l) t = x := ⟨_, rfl⟩
        obtain ⟨pk, hpk⟩ : ∃ x, pl l (longF l) k = x := ⟨_, rfl⟩
        have hdd : pt - pk = fv := by rw [← F0.out]; unfold dst; rw [hlt', hpt, hpk]
        rw [hpt] at k3
        rw [hpk] at k2
        obtain ⟨nm, hnm⟩ : ∃ x, (it l k).name = x := ⟨_, rfl⟩
        rw [hnm] at c6 hft
        have sw : IntKind.i64.wrap (pt - pk) = fv := by rw [hdd]; exact IntWalk.i64_in _ (by omega)
        have HCA := Lib.hid (fun x : Wd wx => quiet_s (x := x) (r3_label w x.val l (.slice (some ⟨b, o, none⟩) l.length c) nm H1.out (bw_tr (bw_tr HB1.out HB.out) x.bel) t hft))
        clear h3 hpt hpk hdd hft hlt' hnm
        go_wp2_with fail
        have y0 := wd_cell hbx c6
        have y1 := wd_cell hgp k2
        have y2 := wd_cell hgp k3
        clear c0 c1 c2 c3 c4 c5 c6 c7 k1 k2 k3
        refine wp_region_below (by kernel_rfl) (by kernel_rfl) ?_
        repeat (go_big_quiet_step ((go_at_call 35; with_reducible exact HCA.out _)))
        refine wpQuiet_nil ?_
        rintro w7 ⟨⟨w7x, hb7⟩, rfl⟩
        clear y0 y1 y2 sw
        go_wp2_with fail
        go_meet
        case rel => exact ⟨rfl, hb7⟩
    case rest =>
      obtain ⟨rfl, hby⟩ := hcut
      have HBY := Lib.hid hby
      clear hby
      have hszc := HBY.out.size
      have y0 := wd_cell (show b < wc.heap.size by omega) ((HBY.out.cell (p := ⟨b, _, none⟩) hbx).trans c0)
      have y1 := wd_cell (show b < wc.heap.size by omega) ((HBY.out.cell (p := ⟨b, _, none⟩) hbx).trans c1)
      have y2 := wd_cell (show b < wc.heap.size by omega) ((HBY.out.cell (p := ⟨b, _, none⟩) hbx).trans c2)
      have y3 := wd_cell (show b < wc.heap.size by omega) ((HBY.out.cell (p := ⟨b, _, none⟩) hbx).trans c3)
      have y4 := wd_cell (show b < wc.heap.size by omega) ((HBY.out.cell (p := ⟨b, _, none⟩) hbx).trans c4)
      have y5 := wd_cell (show b < wc.heap.size by omega) ((HBY.out.cell (p := ⟨b, _, none⟩) hbx).trans c5)
      have y6 := wd_cell (show b < wc.heap.size by omega) ((HBY.out.cell (p := ⟨b, _, none⟩) hbx).trans c6)
      have y7 := wd_cell (show b < wc.heap.size by omega) ((HBY.out.cell (p := ⟨b, _, none⟩) hbx).trans c7)
      have y8 := wd_cell (show g3 < wc.heap.size by omega) ((HBY.out.cell (p := ⟨g3, _, none⟩) l1).trans k1)
      clear c0 c1 c2 c3 c4 c5 c6 c7 k1 k2
      have HRc := Lib.hid (own_below HR.out HBY.out)
      go_wp2_with fail
      refine wp_region_below_tail 9 (by kernel_rfl) (by kernel_rfl) ?_
      simp only [List.take_succ_cons, List.take_zero, List.drop_succ_cons, List.drop_zero]
      repeat (go_big_quiet_step (fail))
      refine wpQuiet_nil ?_
      rintro w8 ⟨⟨w8x, hb8⟩, rfl⟩
      clear y0 y1 y2 y3 y4 y5 y6 y7 y8
      have HR8 := Lib.hid (own_below HRc.out hb8)
      have HB8 := Lib.hid (bw_tr HB.out (bw_tr HBY.out hb8))
      clear hb8
      go_wp2_with (go_at_call 36; ((with_reducible refine (HIN.out _).mono ?_); rintro e w9 ⟨a9, c9, rfl, ha9, hb9⟩; have HX9 := Lib.hid ha9; have HR9 := Lib.hid (own_below HR8.out hb9); have HB9 := Lib.hid (bw_tr HB8.out hb9); clear ha9 hb9))
      go_loopw [7, 11] (fun o i wr => ∃ j : Nat, j ≤ xs.length ∧ i = .int .i64 j ∧ wr.ownsRow w1.heap.size 3 1 o (ws ++ (xs.take j).map encV).length (intsC (ws ++ (xs.take j).map encV)) ∧ wr.ownsRow 0 24 5 (.slice a9 xs.length c9) xs.length (flatN xs) ∧ Below w1.heap.size w1 wr) (fun _ i _ => xs.length - (intOf i).toNat)
      case atStart => exact ⟨0, Nat.zero_le _, rfl, by simpa using HR9.out, HX9.out, HB9.out⟩
      case round =>
        obtain ⟨j, hj, rfl, hr2, hx2, hb2⟩ := hrel
        obtain ⟨wz, hwz⟩ : ∃ x, x = wr := ⟨_, rfl⟩
        subst hwz
        have HR2 := Lib.hid hr2; have HX2 := Lib.hid hx2; have HB2 := Lib.hid hb2
        clear hr2 hx2 hb2 HR8 HR9 HX9 HB8 HB9 HRc
        by_cases hltj : j < xs.length
        case neg =>
          obtain rfl : j = xs.length := by omega
          have HFIN : Hid (wz.ownsRow w1.heap.size 3 1 _ (wordsTo l (longF l) (k + 1)).length (intsC (wordsTo l (longF l) (k + 1)))) := Lib.hid (by
            have := HR2.out
            rw [List.take_length, ← HWL.out] at this
            exact this)
          go_wp2_with fail
          exact ⟨⟨k + 1, by omega, by go_num, HFIN.out, HB2.out⟩, by simp [intOf]; omega⟩
        case pos =>
          obtain ⟨x, hx⟩ : ∃ x, xs[j] = x := ⟨_, rfl⟩
          obtain ⟨B, cB, hB, _, hBl, hB2, hB3⟩ := own_some0 (by omega) HX2.out
          injection hB with hB1 _ hB4
          subst hB1 hB4
          have g := fun t u ht => (HX2.out.cells (g := B) rfl _ u (flatN_get xs j hltj t u ht))
          rw [hx] at g
          simp only [addr_add, Nat.zero_add] at g
          have g0 : wz.cell? ⟨B, j * 5, none⟩ = some (.int .i64 x.op) := g 0 _ rfl
          have g1 : wz.cell? ⟨B, j * 5 + 1, none⟩ = some (.int .i64 x.d) := g 1 _ rfl
          have g2 : wz.cell? ⟨B, j * 5 + 2, none⟩ = some (.int .i64 x.a) := g 2 _ rfl
          have g3' : wz.cell? ⟨B, j * 5 + 3, none⟩ = some (.int .i64 x.b) := g 3 _ rfl
          have g4 : wz.cell? ⟨B, j * 5 + 4, none⟩ = some (.int .i64 x.n) := g 4 _ rfl
          have HENC := Lib.hid (fun w => refEncode_any x w)
          unfold insV at HENC
          have HZS : Hid (ws ++ (xs.take (j + 1)).map encV = (ws ++ (xs.take j).map encV) ++ [encV x]) := Lib.hid (by
            rw [List.take_succ_eq_append_getElem hltj, List.map_append, ← List.append_assoc]
            rw [hx]; rfl)
          have hzl : (ws ++ (xs.take j).map encV).length ≤ 1000000 := by simp [List.length_take]; omega
          clear g hx
          obtain ⟨zs, hzs⟩ : ∃ zs, ws ++ (xs.take j).map encV = zs := ⟨_, rfl⟩
          rw [hzs] at HR2 HZS hzl
          clear hzs
          obtain ⟨az, cz, rfl⟩ := own_shape HR2.out
          go_wp2_with (first | (go_at_call 37; ((with_reducible refine (HENC.out _).mono ?_); rintro e w4 ⟨rfl, hb4⟩; have HR4 := Lib.hid (own_below HR2.out hb4); have HX4 := Lib.hid (own_below HX2.out hb4); have HB4 := Lib.hid (bw_tr HB2.out hb4); clear hb4 g0 g1 g2 g3' g4)) | (at_builtin; refine app_int rfl _ _ rfl w1.heap.size _ zs (encV x) zs.length rfl rfl (HR4.out.alloc _) w4.heap.size (new_in w4 _) rfl hzl (by (have := HB4.out.size; simp; omega)) ?_; intro g7 c7x w7 hown7 hgrow7; have HO7 := Lib.hid hown7; have HG7 := Lib.hid hgrow7; clear hown7 hgrow7))
          have HX7 := Lib.hid ((HX4.out.alloc (.cells #[.int .i64 (encV x)] 3)).kept HG7.out (.inr (fun e => own_apart HX4.out HR4.out (by decide) rfl e.symm)))
          have HB7 := Lib.hid (grown_bel (bw_tr HB4.out (bel_new w4 _)) HG7.out (fun g e => (HR4.out.lt g e).1))
          refine ⟨⟨j + 1, by omega, by go_num, ?_, HX7.out, HB7.out⟩, by simp [intOf]; omega⟩
          rw [HZS.out, List.length_append]
          exact HO7.out
end Go.Proofs.Ytfepdieeiplbnaa
