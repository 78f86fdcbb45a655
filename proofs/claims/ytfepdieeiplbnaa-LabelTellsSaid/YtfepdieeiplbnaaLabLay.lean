/-
  The contract of label.lay (printed by gen_lablay.py).
-/
import Derived.Test.YtfepdieeiplbnaaLabC
import Derived.Test.YtfepdieeiplbnaaLabRight
import Derived.Test.YtfepdieeiplbnaaQuietU
import Derived.Deep.LoopGhost
import Derived.Laws.OwnMore
namespace Go.Proofs.Ytfepdieeiplbnaa
open Go.RowKit
set_option linter.unusedSimpArgs false
theorem three_ready {P : Program} {ops : Array Oper} {md : Region.Mode} {C : World → Prop} {Q : Exit → Act → World → Prop} {f i k j : Nat} {oi ok oj : Oper} {listed : Array Bool} {a : Act} {w : World} (hr : Region.ready md ops listed = [i, k, j]) (hoi : ops[i]? = some oi) (hok : ops[k]? = some ok) (hoj : ops[j]? = some oj)
    (h1 : ∀ w1, Up w w1 → C w1 → wpList P ops (QN fun a' w' => C w' ∧ wpAnyU P md ops C Q f (listed.setIfInBounds i true) a' w') [oi] a w1)
    (h2 : ∀ w1, Up w w1 → C w1 → wpList P ops (QN fun a' w' => C w' ∧ wpAnyU P md ops C Q f (listed.setIfInBounds k true) a' w') [ok] a w1)
    (h3 : ∀ w1, Up w w1 → C w1 → wpList P ops (QN fun a' w' => C w' ∧ wpAnyU P md ops C Q f (listed.setIfInBounds j true) a' w') [oj] a w1) : wpAnyU P md ops C Q (f + 1) listed a w := by
  intro w1 hu hc
  refine ⟨fun h => (by rw [hr] at h; cases h), fun x hx => ?_⟩
  rw [hr] at hx
  have hx' : x = i ∨ x = k ∨ x = j := by simpa using hx
  rcases hx' with rfl | rfl | rfl
  · exact anyU_step hoi (h1 w1 hu hc)
  · exact anyU_step hok (h2 w1 hu hc)
  · exact anyU_step hoj (h3 w1 hu hc)
theorem info_int : (Try.prog.info? 3).map (fun i => (i.zero, i.size, i.bytes)) = some (some (.int .i64 0), 1, 8) := by kernel_rfl
theorem info_bool : (Try.prog.info? 4).map (fun i => (i.zero, i.size, i.bytes)) = some (some (.bool false), 1, 1) := by kernel_rfl
theorem own_whole {w : World} {base e g n : Nat} {xs : List Value} (h : w.ownsRow base e 1 (.slice (some ⟨g, 0, none⟩) n n) n xs) : w.heap[g]? = some (.cells xs.toArray e (0, 0)) := by
  obtain ⟨h1, h | ⟨g', cap, cur, hv, _, hb, _, _, hs, ht⟩⟩ := h
  · cases h.1
  · injection hv with e1 _ e2
    injection e1 with e1
    injection e1 with e1
    subst e1 e2
    rw [hb, ← ht, List.take_of_length_le (by simp; omega)]
theorem made_list (z : Value) (n : Nat) : (madeCells #[z] (n * 1)).toList = List.replicate n z := by
  apply List.ext_getElem
  · simp [madeCells]
  · intro i h1 h2
    simp [madeCells, Nat.mod_one]
theorem grown_up0 {w w' : World} (h : w.grownBy w' none) : Below w.heap.size w w' := ⟨h.os, h.tape, h.output, h.size, fun k hk => h.block k hk (by simp)⟩
theorem make_Z (n : Nat) (w : World) (hn : n ≤ 40000) : ∃ w', (Instr.makeSlice 31 (.int .i64 ((n : Int) + 1)) (.int .i64 ((n : Int) + 1))).run Try.prog w = .ok (.slice (some ⟨w.heap.size, 0, none⟩) (n + 1) (n + 1)) w' ∧
    w'.heap[w.heap.size]? = some (.cells (cellsZ (fun _ => 0) (n + 1)) 3 (0, 0)) ∧ Below w.heap.size w w' := by
  obtain ⟨i0, hi, hz0, hz1, hz2⟩ := info_parts info_int
  obtain ⟨w', h1, h2, h3⟩ := run_make_full (P := Try.prog) w w.heap.size 31 3 i0 (.int .i64 0) 1 Try.underlying31 hi hz0 hz1 .i64 .i64 (n + 1) (by rw [hz2]; omega) (by unfold maxLen; omega) (Nat.le_refl _)
  rw [show (Value.int .i64 0 : Value).cells = #[Value.int .i64 0] from rfl, made_list] at h2
  refine ⟨w', by rw [← h1]; rfl, ?_, grown_up0 h3⟩
  rw [own_whole h2]
  simp [cellsZ, List.map_const']
theorem make_L (n : Nat) (w : World) (hn : n ≤ 40000) : ∃ w', (Instr.makeSlice 58 (.int .i64 (n : Int)) (.int .i64 (n : Int))).run Try.prog w = .ok (.slice (some ⟨w.heap.size, 0, none⟩) n n) w' ∧
    w'.heap[w.heap.size]? = some (.cells (cellsL (fun _ => false) n) 4 (0, 0)) ∧ Below w.heap.size w w' := by
  obtain ⟨i0, hi, hz0, hz1, hz2⟩ := info_parts info_bool
  obtain ⟨w', h1, h2, h3⟩ := run_make_full (P := Try.prog) w w.heap.size 58 4 i0 (.bool false) 1 Try.underlying58 hi hz0 hz1 .i64 .i64 n (by rw [hz2]; omega) (by unfold maxLen; omega) (Nat.le_refl _)
  rw [show (Value.bool false : Value).cells = #[Value.bool false] from rfl, made_list] at h2
  refine ⟨w', h1, ?_, grown_up0 h3⟩
  rw [own_whole h2]
  simp [cellsL, List.map_const']
theorem lay_new {w : World} {base n P A G M : Nat} (hP : w.heap[P]? = some (.cells #[.slice (some ⟨A, 0, none⟩) (n + 1) (n + 1), .slice (some ⟨G, 0, none⟩) n n, .map (some M)] 61 (0, 0)))
    (hA : w.heap[A]? = some (.cells (cellsZ (fun _ => 0) (n + 1)) 3 (0, 0))) (hG : w.heap[G]? = some (.cells (cellsL (fun _ => false) n) 4 (0, 0))) (hM : Knows w M 0 (fun _ => none)) (bP : base ≤ P) (bA : base ≤ A) (bG : base ≤ G) (bM : base ≤ M) :
    LaySt base n P A G M (fun _ => 0) (fun _ => false) 0 (fun _ => none) w := ⟨hP, hA, hG, hM, bP, bA, bG, bM⟩
/-- What lay tells. -/
def LayPost (l : List Itm) (w : World) (e : Ending) (w' : World) : Prop :=
  Below w.heap.size w w' ∧ ((errOf l ≠ 0 ∧ e = .returned (.tuple #[.pointer none, .int .i64 (errOf l)])) ∨
    (errOf l = 0 ∧ ∃ P A G M, e = .returned (.tuple #[.pointer (some ⟨P, 0, none⟩), .int .i64 0]) ∧ LaySt w.heap.size l.length P A G M (pl l (longF l)) (longF l) l.length (mp l l.length) w'))
/-- The names and numbers of items, as Go has them. -/
structure NamesOK (l : List Itm) : Prop where
  name : ∀ i, i < l.length → (it l i).name.size ≤ maxLen
  num : ∀ i, i < l.length → I64 (it l i).n
theorem err_len {l : List Itm} (h : 40000 < l.length) : errOf l = 2 := by unfold errOf; rw [if_pos h]
theorem err_arg {l : List Itm} (h : ¬ 40000 < l.length) (k : Nat) (hk : k < l.length) (hb : itemB (it l k) = false) : errOf l = 1 := by
  unfold errOf; rw [if_neg h, if_pos (fun hh => by rw [hh k hk] at hb; cases hb)]
theorem err_target {l : List Itm} (h : ¬ 40000 < l.length) (ha : allB l) (hb : knownB l = false) : errOf l = 30 := by
  unfold errOf; rw [if_neg h, if_neg (fun hh => hh ha), if_pos hb]
theorem err_words {l : List Itm} (h : ¬ 40000 < l.length) (ha : allB l) (hb : knownB l = true) (hw : 262144 < pl l (longF l) l.length) : errOf l = 2 := by
  unfold errOf; rw [if_neg h, if_neg (fun hh => hh ha), if_neg (by rw [hb]; simp), if_pos hw]
theorem err_ok {l : List Itm} (h : ¬ 40000 < l.length) (ha : allB l) (hb : knownB l = true) (hw : ¬ 262144 < pl l (longF l) l.length) : errOf l = 0 := by
  unfold errOf; rw [if_neg h, if_neg (fun hh => hh ha), if_neg (by rw [hb]; simp), if_neg hw]
set_option maxRecDepth 100000 in
set_option maxHeartbeats 8000000 in
theorem lab_lay (w : World) (l : List Itm) (v : Value) (HL : ArgS 8 itC w v l) (HO : NamesOK l) :
    Calls Try.prog 32 #[v] w (LayPost l w) := by
  obtain ⟨a, c, rfl⟩ : ∃ a c, v = .slice a l.length c := by obtain ⟨a, c, hv, _⟩ := HL; exact ⟨a, c, hv⟩
  have hcap := (items_len HL).2
  have hmx : l.length ≤ maxLen := by omega
  unfold maxLen at hmx
  clear hcap
  have H1 := Lib.hid HL; have H2 := Lib.hid HO
  clear HL HO
  by_cases hlen : 40000 < l.length
  case pos =>
    have HE := Lib.hid (err_len hlen)
    go_enter Try.func32, Try.ntmps32
    go_wp2_with fail
    go_ret2
    unfold LayPost
    rw [HE.out]
    exact ⟨(by repeat (first | (with_reducible exact Below.refl _ _) | (with_reducible refine bw_set ?_ ?_ _) | (with_reducible apply bw_alloc) | (with_reducible refine bw_tr ?_ (by with_reducible assumption)) | (with_reducible apply bw_drew) | omega)), .inl ⟨by decide, rfl⟩⟩
  case neg =>
  have HLN := Lib.hid hlen
  have hl4 : l.length ≤ 40000 := by omega
  clear hlen
  go_enter Try.func32, Try.ntmps32
  go_wp2_with fail
  go_loopw [12] (fun i wr => ∃ k : Nat, k ≤ l.length ∧ i = .int .i64 k ∧ (∀ j, j < k → itemB (it l j) = true) ∧ Below w.heap.size w wr) (fun i _ => l.length - (intOf i).toNat)
  case atStart => exact ⟨0, Nat.zero_le _, rfl, fun j hj => absurd hj (by omega), Below.refl _ _⟩
  case round =>
    obtain ⟨k, hk, rfl, ha, hb⟩ := hrel
    have HA := Lib.hid ha; have HB := Lib.hid hb
    clear ha hb
    by_cases hlt : k < l.length
    case pos =>
      obtain ⟨b, o, rfl, hb0, hcells⟩ := items_at H1.out k hlt
      obtain ⟨c0, c1, c2, c3, c4, c5, c6, c7⟩ := eight_cells (fun j u hj => (HB.out.cell (p := ⟨b, o + k * 8 + j, none⟩) hb0).trans (hcells j u hj))
      clear hcells
      have hsz := HB.out.size
      cases hr : itemB (it l k)
      case false =>
        have HC := Lib.hid (fun w => right_item (it l k) _ w (H2.out.name k hlt) (H2.out.num k hlt) hr)
        have HR := Lib.hid hr
        unfold itV at HC
        clear hr
        go_wp2_with (go_at_call 23; ((with_reducible refine (HC.out _).mono ?_); rintro e w1 ⟨rfl, hb1⟩))
        have HE := Lib.hid (err_arg HLN.out k hlt HR.out)
        go_ret2
        unfold LayPost
        rw [HE.out]
        exact ⟨bw_tr (c := w1) HB.out ((by repeat (first | (with_reducible exact Below.refl _ _) | (with_reducible refine bw_set ?_ ?_ _) | (with_reducible apply bw_alloc) | (with_reducible refine bw_tr ?_ (by with_reducible assumption)) | (with_reducible apply bw_drew) | omega))), .inl ⟨by decide, rfl⟩⟩
      case true =>
        have HC := Lib.hid (fun w => right_item (it l k) _ w (H2.out.name k hlt) (H2.out.num k hlt) hr)
        have HR := Lib.hid hr
        unfold itV at HC
        clear hr
        go_wp2_with (go_at_call 23; ((with_reducible refine (HC.out _).mono ?_); rintro e w1 ⟨rfl, hb1⟩))
        refine ⟨⟨k + 1, by omega, by go_num, ?_, bw_tr (c := w1) HB.out ((by repeat (first | (with_reducible exact Below.refl _ _) | (with_reducible refine bw_set ?_ ?_ _) | (with_reducible apply bw_alloc) | (with_reducible refine bw_tr ?_ (by with_reducible assumption)) | (with_reducible apply bw_drew) | omega)))⟩, by simp [intOf]; omega⟩
        intro j hj
        by_cases e : j = k
        · subst e; exact HR.out
        · exact HA.out j (by omega)
    case neg =>
    obtain rfl : k = l.length := by omega
    have HAB : Hid (allB l) := HA
    have HOK : Hid (ItsOK l) := Lib.hid ⟨hl4, H2.out.name, H2.out.num⟩
    have hmm := @run_makeMap Try.prog
    go_upto_region 9 with (fail)
    obtain ⟨w1, hw1⟩ : ∃ x, wr = x := ⟨_, rfl⟩
    subst hw1
    go_cut [6] (fun s6 wx => ∃ P A G M, s6 = .pointer (some ⟨P, 0, none⟩) ∧ LaySt w.heap.size l.length P A G M (fun _ => 0) (fun _ => false) 0 (fun _ => none) wx ∧ Below w.heap.size w wx)
    case first =>
      refine wp_region_up (fun _ => True) [true, true, true, false, true, true] (by kernel_rfl) (by kernel_rfl) (by kernel_rfl) (fun _ _ _ _ => trivial) trivial ?a' ?h ?ht
      case h =>
        intro w0 _
        simp only [pickM]
        have s1 : IntKind.i64.wrap ((l.length : Int) + 1) = l.length + 1 := IntWalk.i64_in _ (by omega)
        repeat (go_big_quiet_step (fail))
        refine wpQuiet_nil ?_
        rfl
      case ht =>
        change wpAnyU _ _ _ _ _ 6 _ _ _
        have B_0 : Hid (Below w.heap.size w (World.drew wr)) := Lib.hid (bw_drew HB.out)
        refine three_ready (i := 3) (k := 6) (j := 7) (by kernel_rfl) rfl rfl rfl ?_ ?_ ?_
        · intro u1 hu1 _
          have Bu1 := Lib.hid (bw_tr B_0.out hu1)
          have sz1 : w.heap.size ≤ u1.heap.size := Bu1.out.size
          obtain ⟨v1, hr1, hx1, hg1⟩ := make_Z l.length u1 hl4
          have B1 := Lib.hid (bw_tr Bu1.out hg1)
          have KA1 := Lib.hid hx1
          clear hu1 hx1 hg1 
          go_wp2_with fail
          clear hr1
          refine ⟨trivial, ?_⟩
          refine anyU_two (i := 6) (k := 7) (by kernel_rfl) rfl rfl ?_ ?_
          · intro u2 hu2 _
            have Bu2 := Lib.hid (bw_tr B1.out hu2)
            have KA1u2 := Lib.hid (bel_in hu2 (lt_in KA1.out) KA1.out)
            have sz2 : w.heap.size ≤ u2.heap.size := Bu2.out.size
            obtain ⟨v2, hr2, hx2, hg2⟩ := make_L l.length u2 hl4
            have B2 := Lib.hid (bw_tr Bu2.out hg2)
            have KA1u2v := Lib.hid (bel_in hg2 (lt_in KA1u2.out) KA1u2.out)
            have KG2 := Lib.hid hx2
            clear hu2 hx2 hg2 
            go_wp2_with fail
            clear hr2
            refine ⟨trivial, ?_⟩
            refine anyU_one (i := 7) (by kernel_rfl) rfl ?_
            · intro u3 hu3 _
              have Bu3 := Lib.hid (bw_tr B2.out hu3)
              have KA1u2vu3 := Lib.hid (bel_in hu3 (lt_in KA1u2v.out) KA1u2v.out)
              have KG2u3 := Lib.hid (bel_in hu3 (lt_in KG2.out) KG2.out)
              have sz3 : w.heap.size ≤ u3.heap.size := Bu3.out.size
              obtain ⟨v3, hr3, hx3, hg3⟩ : ∃ v, (Instr.makeMap 59 none).run Try.prog u3 = .ok (.map (some u3.heap.size)) v ∧ Knows v u3.heap.size 0 (fun _ => none) ∧ Below u3.heap.size u3 v := ⟨_, run_makeMap _ _, Knows.made _, (Below.refl _ _).alloc (Nat.le_refl _) _⟩
              have B3 := Lib.hid (bw_tr Bu3.out hg3)
              have KA1u2vu3v := Lib.hid (bel_in hg3 (lt_in KA1u2vu3.out) KA1u2vu3.out)
              have KG2u3v := Lib.hid (bel_in hg3 (lt_in KG2u3.out) KG2u3.out)
              have KM3 := Lib.hid hx3
              clear hu3 hx3 hg3 
              clear hmm
              go_wp2_with fail
              clear hr3
              refine ⟨trivial, ?_⟩
              refine anyU_one (i := 8) (by kernel_rfl) rfl ?_
              intro x8 hu8 _
              go_wp2_with fail
              refine ⟨trivial, ?_⟩
              refine anyU_one (i := 9) (by kernel_rfl) rfl ?_
              intro x9 hu9 _
              go_wp2_with fail
              refine ⟨trivial, ?_⟩
              refine anyU_one (i := 10) (by kernel_rfl) rfl ?_
              intro x10 hu10 _
              go_wp2_with fail
              refine ⟨trivial, ?_⟩
              refine anyU_nil (by kernel_rfl) ?_
              intro x11 hu11 _
              have U1 := up_tr hu8 hu9
              have U2 := up_tr hu10 hu11
              have HP := bel_in U2 (lt_in (new_in x9 _)) (new_in x9 _)
              have U3 := up_tr U1 (up_tr ((Below.refl x9.heap.size x9).alloc (Nat.le_refl _) _) U2)
              have FIN := lay_new HP (bel_in U3 (lt_in KA1u2vu3v.out) KA1u2vu3v.out) (bel_in U3 (lt_in KG2u3v.out) KG2u3v.out) (KM3.out.below U3 KM3.out.lt) (show w.heap.size ≤ x9.heap.size from Nat.le_trans B3.out.size U1.size) (by omega) (by omega) (by omega)
              have FB := bw_tr B3.out U3
              have FINH := Lib.hid FIN; have FBH := Lib.hid FB
              clear hu8 hu9 hu10 hu11 U1 U2 U3 HP FIN FB
              go_wp2_with fail
              go_meet
              exact ⟨_, _, _, _, rfl, FINH.out, FBH.out⟩
          · intro u2 hu2 _
            have Bu2 := Lib.hid (bw_tr B1.out hu2)
            have KA1u2 := Lib.hid (bel_in hu2 (lt_in KA1.out) KA1.out)
            have sz2 : w.heap.size ≤ u2.heap.size := Bu2.out.size
            obtain ⟨v2, hr2, hx2, hg2⟩ : ∃ v, (Instr.makeMap 59 none).run Try.prog u2 = .ok (.map (some u2.heap.size)) v ∧ Knows v u2.heap.size 0 (fun _ => none) ∧ Below u2.heap.size u2 v := ⟨_, run_makeMap _ _, Knows.made _, (Below.refl _ _).alloc (Nat.le_refl _) _⟩
            have B2 := Lib.hid (bw_tr Bu2.out hg2)
            have KA1u2v := Lib.hid (bel_in hg2 (lt_in KA1u2.out) KA1u2.out)
            have KM2 := Lib.hid hx2
            clear hu2 hx2 hg2 
            clear hmm
            go_wp2_with fail
            clear hr2
            refine ⟨trivial, ?_⟩
            refine anyU_one (i := 6) (by kernel_rfl) rfl ?_
            · intro u3 hu3 _
              have Bu3 := Lib.hid (bw_tr B2.out hu3)
              have KA1u2vu3 := Lib.hid (bel_in hu3 (lt_in KA1u2v.out) KA1u2v.out)
              have KM2u3 := Lib.hid (KM2.out.below hu3 KM2.out.lt)
              have sz3 : w.heap.size ≤ u3.heap.size := Bu3.out.size
              obtain ⟨v3, hr3, hx3, hg3⟩ := make_L l.length u3 hl4
              have B3 := Lib.hid (bw_tr Bu3.out hg3)
              have KA1u2vu3v := Lib.hid (bel_in hg3 (lt_in KA1u2vu3.out) KA1u2vu3.out)
              have KM2u3v := Lib.hid (KM2u3.out.below hg3 KM2u3.out.lt)
              have KG3 := Lib.hid hx3
              clear hu3 hx3 hg3 
              go_wp2_with fail
              clear hr3
              refine ⟨trivial, ?_⟩
              refine anyU_one (i := 8) (by kernel_rfl) rfl ?_
              intro x8 hu8 _
              go_wp2_with fail
              refine ⟨trivial, ?_⟩
              refine anyU_one (i := 9) (by kernel_rfl) rfl ?_
              intro x9 hu9 _
              go_wp2_with fail
              refine ⟨trivial, ?_⟩
              refine anyU_one (i := 10) (by kernel_rfl) rfl ?_
              intro x10 hu10 _
              go_wp2_with fail
              refine ⟨trivial, ?_⟩
              refine anyU_nil (by kernel_rfl) ?_
              intro x11 hu11 _
              have U1 := up_tr hu8 hu9
              have U2 := up_tr hu10 hu11
              have HP := bel_in U2 (lt_in (new_in x9 _)) (new_in x9 _)
              have U3 := up_tr U1 (up_tr ((Below.refl x9.heap.size x9).alloc (Nat.le_refl _) _) U2)
              have FIN := lay_new HP (bel_in U3 (lt_in KA1u2vu3v.out) KA1u2vu3v.out) (bel_in U3 (lt_in KG3.out) KG3.out) (KM2u3v.out.below U3 KM2u3v.out.lt) (show w.heap.size ≤ x9.heap.size from Nat.le_trans B3.out.size U1.size) (by omega) (by omega) (by omega)
              have FB := bw_tr B3.out U3
              have FINH := Lib.hid FIN; have FBH := Lib.hid FB
              clear hu8 hu9 hu10 hu11 U1 U2 U3 HP FIN FB
              go_wp2_with fail
              go_meet
              exact ⟨_, _, _, _, rfl, FINH.out, FBH.out⟩
        · intro u1 hu1 _
          have Bu1 := Lib.hid (bw_tr B_0.out hu1)
          have sz1 : w.heap.size ≤ u1.heap.size := Bu1.out.size
          obtain ⟨v1, hr1, hx1, hg1⟩ := make_L l.length u1 hl4
          have B1 := Lib.hid (bw_tr Bu1.out hg1)
          have KG1 := Lib.hid hx1
          clear hu1 hx1 hg1 
          go_wp2_with fail
          clear hr1
          refine ⟨trivial, ?_⟩
          refine anyU_two (i := 3) (k := 7) (by kernel_rfl) rfl rfl ?_ ?_
          · intro u2 hu2 _
            have Bu2 := Lib.hid (bw_tr B1.out hu2)
            have KG1u2 := Lib.hid (bel_in hu2 (lt_in KG1.out) KG1.out)
            have sz2 : w.heap.size ≤ u2.heap.size := Bu2.out.size
            obtain ⟨v2, hr2, hx2, hg2⟩ := make_Z l.length u2 hl4
            have B2 := Lib.hid (bw_tr Bu2.out hg2)
            have KG1u2v := Lib.hid (bel_in hg2 (lt_in KG1u2.out) KG1u2.out)
            have KA2 := Lib.hid hx2
            clear hu2 hx2 hg2 
            go_wp2_with fail
            clear hr2
            refine ⟨trivial, ?_⟩
            refine anyU_one (i := 7) (by kernel_rfl) rfl ?_
            · intro u3 hu3 _
              have Bu3 := Lib.hid (bw_tr B2.out hu3)
              have KG1u2vu3 := Lib.hid (bel_in hu3 (lt_in KG1u2v.out) KG1u2v.out)
              have KA2u3 := Lib.hid (bel_in hu3 (lt_in KA2.out) KA2.out)
              have sz3 : w.heap.size ≤ u3.heap.size := Bu3.out.size
              obtain ⟨v3, hr3, hx3, hg3⟩ : ∃ v, (Instr.makeMap 59 none).run Try.prog u3 = .ok (.map (some u3.heap.size)) v ∧ Knows v u3.heap.size 0 (fun _ => none) ∧ Below u3.heap.size u3 v := ⟨_, run_makeMap _ _, Knows.made _, (Below.refl _ _).alloc (Nat.le_refl _) _⟩
              have B3 := Lib.hid (bw_tr Bu3.out hg3)
              have KG1u2vu3v := Lib.hid (bel_in hg3 (lt_in KG1u2vu3.out) KG1u2vu3.out)
              have KA2u3v := Lib.hid (bel_in hg3 (lt_in KA2u3.out) KA2u3.out)
              have KM3 := Lib.hid hx3
              clear hu3 hx3 hg3 
              clear hmm
              go_wp2_with fail
              clear hr3
              refine ⟨trivial, ?_⟩
              refine anyU_one (i := 8) (by kernel_rfl) rfl ?_
              intro x8 hu8 _
              go_wp2_with fail
              refine ⟨trivial, ?_⟩
              refine anyU_one (i := 9) (by kernel_rfl) rfl ?_
              intro x9 hu9 _
              go_wp2_with fail
              refine ⟨trivial, ?_⟩
              refine anyU_one (i := 10) (by kernel_rfl) rfl ?_
              intro x10 hu10 _
              go_wp2_with fail
              refine ⟨trivial, ?_⟩
              refine anyU_nil (by kernel_rfl) ?_
              intro x11 hu11 _
              have U1 := up_tr hu8 hu9
              have U2 := up_tr hu10 hu11
              have HP := bel_in U2 (lt_in (new_in x9 _)) (new_in x9 _)
              have U3 := up_tr U1 (up_tr ((Below.refl x9.heap.size x9).alloc (Nat.le_refl _) _) U2)
              have FIN := lay_new HP (bel_in U3 (lt_in KA2u3v.out) KA2u3v.out) (bel_in U3 (lt_in KG1u2vu3v.out) KG1u2vu3v.out) (KM3.out.below U3 KM3.out.lt) (show w.heap.size ≤ x9.heap.size from Nat.le_trans B3.out.size U1.size) (by omega) (by omega) (by omega)
              have FB := bw_tr B3.out U3
              have FINH := Lib.hid FIN; have FBH := Lib.hid FB
              clear hu8 hu9 hu10 hu11 U1 U2 U3 HP FIN FB
              go_wp2_with fail
              go_meet
              exact ⟨_, _, _, _, rfl, FINH.out, FBH.out⟩
          · intro u2 hu2 _
            have Bu2 := Lib.hid (bw_tr B1.out hu2)
            have KG1u2 := Lib.hid (bel_in hu2 (lt_in KG1.out) KG1.out)
            have sz2 : w.heap.size ≤ u2.heap.size := Bu2.out.size
            obtain ⟨v2, hr2, hx2, hg2⟩ : ∃ v, (Instr.makeMap 59 none).run Try.prog u2 = .ok (.map (some u2.heap.size)) v ∧ Knows v u2.heap.size 0 (fun _ => none) ∧ Below u2.heap.size u2 v := ⟨_, run_makeMap _ _, Knows.made _, (Below.refl _ _).alloc (Nat.le_refl _) _⟩
            have B2 := Lib.hid (bw_tr Bu2.out hg2)
            have KG1u2v := Lib.hid (bel_in hg2 (lt_in KG1u2.out) KG1u2.out)
            have KM2 := Lib.hid hx2
            clear hu2 hx2 hg2 
            clear hmm
            go_wp2_with fail
            clear hr2
            refine ⟨trivial, ?_⟩
            refine anyU_one (i := 3) (by kernel_rfl) rfl ?_
            · intro u3 hu3 _
              have Bu3 := Lib.hid (bw_tr B2.out hu3)
              have KG1u2vu3 := Lib.hid (bel_in hu3 (lt_in KG1u2v.out) KG1u2v.out)
              have KM2u3 := Lib.hid (KM2.out.below hu3 KM2.out.lt)
              have sz3 : w.heap.size ≤ u3.heap.size := Bu3.out.size
              obtain ⟨v3, hr3, hx3, hg3⟩ := make_Z l.length u3 hl4
              have B3 := Lib.hid (bw_tr Bu3.out hg3)
              have KG1u2vu3v := Lib.hid (bel_in hg3 (lt_in KG1u2vu3.out) KG1u2vu3.out)
              have KM2u3v := Lib.hid (KM2u3.out.below hg3 KM2u3.out.lt)
              have KA3 := Lib.hid hx3
              clear hu3 hx3 hg3 
              go_wp2_with fail
              clear hr3
              refine ⟨trivial, ?_⟩
              refine anyU_one (i := 8) (by kernel_rfl) rfl ?_
              intro x8 hu8 _
              go_wp2_with fail
              refine ⟨trivial, ?_⟩
              refine anyU_one (i := 9) (by kernel_rfl) rfl ?_
              intro x9 hu9 _
              go_wp2_with fail
              refine ⟨trivial, ?_⟩
              refine anyU_one (i := 10) (by kernel_rfl) rfl ?_
              intro x10 hu10 _
              go_wp2_with fail
              refine ⟨trivial, ?_⟩
              refine anyU_nil (by kernel_rfl) ?_
              intro x11 hu11 _
              have U1 := up_tr hu8 hu9
              have U2 := up_tr hu10 hu11
              have HP := bel_in U2 (lt_in (new_in x9 _)) (new_in x9 _)
              have U3 := up_tr U1 (up_tr ((Below.refl x9.heap.size x9).alloc (Nat.le_refl _) _) U2)
              have FIN := lay_new HP (bel_in U3 (lt_in KA3.out) KA3.out) (bel_in U3 (lt_in KG1u2vu3v.out) KG1u2vu3v.out) (KM2u3v.out.below U3 KM2u3v.out.lt) (show w.heap.size ≤ x9.heap.size from Nat.le_trans B3.out.size U1.size) (by omega) (by omega) (by omega)
              have FB := bw_tr B3.out U3
              have FINH := Lib.hid FIN; have FBH := Lib.hid FB
              clear hu8 hu9 hu10 hu11 U1 U2 U3 HP FIN FB
              go_wp2_with fail
              go_meet
              exact ⟨_, _, _, _, rfl, FINH.out, FBH.out⟩
        · intro u1 hu1 _
          have Bu1 := Lib.hid (bw_tr B_0.out hu1)
          have sz1 : w.heap.size ≤ u1.heap.size := Bu1.out.size
          obtain ⟨v1, hr1, hx1, hg1⟩ : ∃ v, (Instr.makeMap 59 none).run Try.prog u1 = .ok (.map (some u1.heap.size)) v ∧ Knows v u1.heap.size 0 (fun _ => none) ∧ Below u1.heap.size u1 v := ⟨_, run_makeMap _ _, Knows.made _, (Below.refl _ _).alloc (Nat.le_refl _) _⟩
          have B1 := Lib.hid (bw_tr Bu1.out hg1)
          have KM1 := Lib.hid hx1
          clear hu1 hx1 hg1 
          clear hmm
          go_wp2_with fail
          clear hr1
          refine ⟨trivial, ?_⟩
          refine anyU_two (i := 3) (k := 6) (by kernel_rfl) rfl rfl ?_ ?_
          · intro u2 hu2 _
            have Bu2 := Lib.hid (bw_tr B1.out hu2)
            have KM1u2 := Lib.hid (KM1.out.below hu2 KM1.out.lt)
            have sz2 : w.heap.size ≤ u2.heap.size := Bu2.out.size
            obtain ⟨v2, hr2, hx2, hg2⟩ := make_Z l.length u2 hl4
            have B2 := Lib.hid (bw_tr Bu2.out hg2)
            have KM1u2v := Lib.hid (KM1u2.out.below hg2 KM1u2.out.lt)
            have KA2 := Lib.hid hx2
            clear hu2 hx2 hg2 
            go_wp2_with fail
            clear hr2
            refine ⟨trivial, ?_⟩
            refine anyU_one (i := 6) (by kernel_rfl) rfl ?_
            · intro u3 hu3 _
              have Bu3 := Lib.hid (bw_tr B2.out hu3)
              have KM1u2vu3 := Lib.hid (KM1u2v.out.below hu3 KM1u2v.out.lt)
              have KA2u3 := Lib.hid (bel_in hu3 (lt_in KA2.out) KA2.out)
              have sz3 : w.heap.size ≤ u3.heap.size := Bu3.out.size
              obtain ⟨v3, hr3, hx3, hg3⟩ := make_L l.length u3 hl4
              have B3 := Lib.hid (bw_tr Bu3.out hg3)
              have KM1u2vu3v := Lib.hid (KM1u2vu3.out.below hg3 KM1u2vu3.out.lt)
              have KA2u3v := Lib.hid (bel_in hg3 (lt_in KA2u3.out) KA2u3.out)
              have KG3 := Lib.hid hx3
              clear hu3 hx3 hg3 
              go_wp2_with fail
              clear hr3
              refine ⟨trivial, ?_⟩
              refine anyU_one (i := 8) (by kernel_rfl) rfl ?_
              intro x8 hu8 _
              go_wp2_with fail
              refine ⟨trivial, ?_⟩
              refine anyU_one (i := 9) (by kernel_rfl) rfl ?_
              intro x9 hu9 _
              go_wp2_with fail
              refine ⟨trivial, ?_⟩
              refine anyU_one (i := 10) (by kernel_rfl) rfl ?_
              intro x10 hu10 _
              go_wp2_with fail
              refine ⟨trivial, ?_⟩
              refine anyU_nil (by kernel_rfl) ?_
              intro x11 hu11 _
              have U1 := up_tr hu8 hu9
              have U2 := up_tr hu10 hu11
              have HP := bel_in U2 (lt_in (new_in x9 _)) (new_in x9 _)
              have U3 := up_tr U1 (up_tr ((Below.refl x9.heap.size x9).alloc (Nat.le_refl _) _) U2)
              have FIN := lay_new HP (bel_in U3 (lt_in KA2u3v.out) KA2u3v.out) (bel_in U3 (lt_in KG3.out) KG3.out) (KM1u2vu3v.out.below U3 KM1u2vu3v.out.lt) (show w.heap.size ≤ x9.heap.size from Nat.le_trans B3.out.size U1.size) (by omega) (by omega) (by omega)
              have FB := bw_tr B3.out U3
              have FINH := Lib.hid FIN; have FBH := Lib.hid FB
              clear hu8 hu9 hu10 hu11 U1 U2 U3 HP FIN FB
              go_wp2_with fail
              go_meet
              exact ⟨_, _, _, _, rfl, FINH.out, FBH.out⟩
          · intro u2 hu2 _
            have Bu2 := Lib.hid (bw_tr B1.out hu2)
            have KM1u2 := Lib.hid (KM1.out.below hu2 KM1.out.lt)
            have sz2 : w.heap.size ≤ u2.heap.size := Bu2.out.size
            obtain ⟨v2, hr2, hx2, hg2⟩ := make_L l.length u2 hl4
            have B2 := Lib.hid (bw_tr Bu2.out hg2)
            have KM1u2v := Lib.hid (KM1u2.out.below hg2 KM1u2.out.lt)
            have KG2 := Lib.hid hx2
            clear hu2 hx2 hg2 
            go_wp2_with fail
            clear hr2
            refine ⟨trivial, ?_⟩
            refine anyU_one (i := 3) (by kernel_rfl) rfl ?_
            · intro u3 hu3 _
              have Bu3 := Lib.hid (bw_tr B2.out hu3)
              have KM1u2vu3 := Lib.hid (KM1u2v.out.below hu3 KM1u2v.out.lt)
              have KG2u3 := Lib.hid (bel_in hu3 (lt_in KG2.out) KG2.out)
              have sz3 : w.heap.size ≤ u3.heap.size := Bu3.out.size
              obtain ⟨v3, hr3, hx3, hg3⟩ := make_Z l.length u3 hl4
              have B3 := Lib.hid (bw_tr Bu3.out hg3)
              have KM1u2vu3v := Lib.hid (KM1u2vu3.out.below hg3 KM1u2vu3.out.lt)
              have KG2u3v := Lib.hid (bel_in hg3 (lt_in KG2u3.out) KG2u3.out)
              have KA3 := Lib.hid hx3
              clear hu3 hx3 hg3 
              go_wp2_with fail
              clear hr3
              refine ⟨trivial, ?_⟩
              refine anyU_one (i := 8) (by kernel_rfl) rfl ?_
              intro x8 hu8 _
              go_wp2_with fail
              refine ⟨trivial, ?_⟩
              refine anyU_one (i := 9) (by kernel_rfl) rfl ?_
              intro x9 hu9 _
              go_wp2_with fail
              refine ⟨trivial, ?_⟩
              refine anyU_one (i := 10) (by kernel_rfl) rfl ?_
              intro x10 hu10 _
              go_wp2_with fail
              refine ⟨trivial, ?_⟩
              refine anyU_nil (by kernel_rfl) ?_
              intro x11 hu11 _
              have U1 := up_tr hu8 hu9
              have U2 := up_tr hu10 hu11
              have HP := bel_in U2 (lt_in (new_in x9 _)) (new_in x9 _)
              have U3 := up_tr U1 (up_tr ((Below.refl x9.heap.size x9).alloc (Nat.le_refl _) _) U2)
              have FIN := lay_new HP (bel_in U3 (lt_in KA3.out) KA3.out) (bel_in U3 (lt_in KG2u3v.out) KG2u3v.out) (KM1u2vu3v.out.below U3 KM1u2vu3v.out.lt) (show w.heap.size ≤ x9.heap.size from Nat.le_trans B3.out.size U1.size) (by omega) (by omega) (by omega)
              have FB := bw_tr B3.out U3
              have FINH := Lib.hid FIN; have FBH := Lib.hid FB
              clear hu8 hu9 hu10 hu11 U1 U2 U3 HP FIN FB
              go_wp2_with fail
              go_meet
              exact ⟨_, _, _, _, rfl, FINH.out, FBH.out⟩
    case rest =>
      obtain ⟨P, A, G, M, rfl, hs, hb⟩ := hcut
      have HS := Lib.hid hs; have HB := Lib.hid hb; clear hs hb
      have HK := Lib.hid (fun w' h1 h2 => lab_known w w' l _ H1.out HOK.out h1 rfl h2 (P := P) (A := A) (G := G) (M := M) (f := fun _ => 0) (L := fun _ => false))
      cases hkn : knownB l
      case false =>
        have HKN := Lib.hid hkn
        have HE := Lib.hid (err_target HLN.out HAB.out hkn)
        rw [hkn] at HK
        clear hkn hmm
        go_wp2_with (go_at_call 52; ((with_reducible refine (HK.out _ HB.out HS.out).mono ?_); rintro e w1 ⟨rfl, hs1, hb1⟩))
        go_ret2
        unfold LayPost
        rw [HE.out]
        exact ⟨hb1, .inl ⟨by decide, rfl⟩⟩
      case true =>
      have HKN := Lib.hid hkn
      rw [hkn] at HK
      clear hkn hmm
      go_wp2_with (go_at_call 52; ((with_reducible refine (HK.out _ HB.out HS.out).mono ?_); rintro e w1 ⟨rfl, hs1, hb1⟩; have HS1 := Lib.hid hs1; have HB1 := Lib.hid hb1; clear hs1 hb1))
      have HRK := Lib.hid (fun (f : Nat → Int) (L : Nat → Bool) w' h1 h2 h3 => lab_reckon w w' l _ H1.out HOK.out HAB.out h1 rfl h2 h3 (P := P) (A := A) (G := G) (M := M) (f := f) (L := L) (m := l.length) (km := mp l l.length))
      go_wp2_with (go_at_call 53; ((with_reducible refine (HRK.out _ _ _ HB1.out HS1.out rfl).mono ?_); rintro e w2 ⟨rfl, hs2, hb2⟩; have HS2 := Lib.hid hs2; have HB2 := Lib.hid hb2; clear hs2 hb2))
      have HGR := Lib.hid (fun (L : Nat → Bool) w' h1 h2 => lab_grow w w' l _ H1.out HOK.out HAB.out h1 rfl h2 (P := P) (A := A) (G := G) (M := M) (L := L) (m := l.length))
      go_loopg [] (shortN (itL l 0) l.length) (fun k wr => ∃ j, shortN (itL l j) l.length = k ∧ LaySt w.heap.size l.length P A G M (pl l (itL l j)) (itL l j) l.length (mp l l.length) wr ∧ Below w.heap.size w wr)
      case atStart => exact ⟨0, rfl, HS2.out, HB2.out⟩
      case round =>
        obtain ⟨j, hj, hs, hb⟩ := hrel
        have HJ := Lib.hid hj; have HS := Lib.hid hs; have HB := Lib.hid hb; clear hj hs hb
        have HG := HGR.out _ _ HB.out HS.out
        cases hg : grownB l (itL l j) l.length
        case true =>
          have HLT := Lib.hid (grow_lt hg)
          rw [hg] at HG
          have HGC := Lib.hid HG; clear HG hg
          go_wp2_with (first | (go_at_call 54; ((with_reducible refine HGC.out.mono ?_); rintro e w3 ⟨rfl, hs3, hb3⟩; have HS3 := Lib.hid hs3; have HB3 := Lib.hid hb3; clear hs3 hb3)) | (go_at_call 53; ((with_reducible refine (HRK.out _ _ _ HB3.out HS3.out rfl).mono ?_); rintro e w4 ⟨rfl, hs4, hb4⟩; have HS4 := Lib.hid hs4; have HB4 := Lib.hid hb4; clear hs4 hb4)))
          go_roundg (shortN (itL l (j + 1)) l.length)
          case measure => rw [← HJ.out]; exact HLT.out
          case rel => exact ⟨j + 1, rfl, HS4.out, HB4.out⟩
        case false =>
          have HEQ := Lib.hid (growF_same hg)
          rw [hg, HEQ.out] at HG
          have HGC := Lib.hid HG; clear HG hg
          have HLF := Lib.hid (long_of HEQ.out)
          obtain ⟨z, hz⟩ : ∃ z, pl l (itL l j) l.length = z := ⟨_, rfl⟩
          have HZ := Lib.hid hz; clear hz
          cases hd : decide (262144 < z)
          case true =>
            have HE := Lib.hid (err_words HLN.out HAB.out HKN.out (by rw [HLF.out, HZ.out]; simpa using hd))
            go_wp2_with (go_at_call 54; ((with_reducible refine HGC.out.mono ?_); rintro e w3 ⟨rfl, hs3, hb3⟩; have HS3 := Lib.hid hs3; have HB3 := Lib.hid hb3; clear hs3 hb3; have k0 : w3.cell? ⟨P, 0, none⟩ = some (.slice (some ⟨A, 0, none⟩) (l.length + 1) (l.length + 1)) := cell_in HS3.out.hP rfl; have k1 : w3.cell? ⟨A, l.length, none⟩ = some (.int .i64 z) := (cell_in HS3.out.hA (cellsZ_get _ (Nat.lt_succ_self _))).trans (by rw [HZ.out])))
            go_ret2
            unfold LayPost
            rw [HE.out]
            exact ⟨HB3.out, .inl ⟨by decide, rfl⟩⟩
          case false =>
            have HE := Lib.hid (err_ok HLN.out HAB.out HKN.out (by rw [HLF.out, HZ.out]; simpa using hd))
            go_wp2_with (go_at_call 54; ((with_reducible refine HGC.out.mono ?_); rintro e w3 ⟨rfl, hs3, hb3⟩; have HS3 := Lib.hid hs3; have HB3 := Lib.hid hb3; clear hs3 hb3; have k0 : w3.cell? ⟨P, 0, none⟩ = some (.slice (some ⟨A, 0, none⟩) (l.length + 1) (l.length + 1)) := cell_in HS3.out.hP rfl; have k1 : w3.cell? ⟨A, l.length, none⟩ = some (.int .i64 z) := (cell_in HS3.out.hA (cellsZ_get _ (Nat.lt_succ_self _))).trans (by rw [HZ.out])))
            go_ret2
            unfold LayPost
            rw [HE.out, HLF.out]
            exact ⟨HB3.out, .inr ⟨rfl, P, A, G, M, rfl, HS3.out⟩⟩
end Go.Proofs.Ytfepdieeiplbnaa
