/-
  The contract of headstocklaw03.Fit (printed by gen_fit03.py).
-/
import Derived.Test.YtfepdieeiplbnaaFit03A
import Derived.Test.YtfepdieeiplbnaaItem
import Derived.Test.YtfepdieeiplbnaaQuietTail
import Derived.Test.YtfepdieeiplbnaaQuietU
import Derived.Test.YtfepdieeiplbnaaLabE
namespace Go.Proofs.Ytfepdieeiplbnaa
open Go.RowKit
set_option linter.unusedSimpArgs false
theorem fit_lit (x y : Ins) (w : World) (h : ok_instr x) (hy : fitX x = y) :
    Calls Try.prog 25 #[.agg #[.int .i64 x.op, .int .i64 x.d, .int .i64 x.a, .int .i64 x.b, .int .i64 x.n]] w fun e w' => e = .returned (.agg #[.int .i64 y.op, .int .i64 y.d, .int .i64 y.a, .int .i64 y.b, .int .i64 y.n]) ∧ Below w.heap.size w w' := by
  subst hy; exact fit_any x w h
theorem names_apart {w w' : World} {base base' n n' : Nat} {v v' : Value} {l : List Itm} {ns : List ByteArray} (h1 : w.ownsRow base 26 8 v n (flatI l)) (h2 : w.ownsRow base' 9 1 v' n' (flatS ns)) (hg : w.grownBy w' v.ownBlock) : w'.ownsRow base' 9 1 v' n' (flatS ns) :=
  own_kept h2 (fun g hgg => hg.block g (h2.lt g hgg).2 (Ne.symm (own_apart h2 h1 (by decide) hgg)))
theorem items_apart {w w' : World} {base base' n n' : Nat} {v v' : Value} {l : List Itm} {ns : List ByteArray} (h1 : w.ownsRow base 26 8 v n (flatI l)) (h2 : w.ownsRow base' 9 1 v' n' (flatS ns)) (hg : w.grownBy w' v'.ownBlock) : w'.ownsRow base 26 8 v n (flatI l) :=
  own_kept h1 (fun g hgg => hg.block g (h1.lt g hgg).2 (Ne.symm (own_apart h1 h2 (by decide) hgg)))
theorem name_cell {w : World} {base n : Nat} {v : Value} {ns : List ByteArray} (h : w.ownsRow base 9 1 v n (flatS ns)) (q : Nat) (hq : q < ns.length) (hn : n = ns.length) : ∃ g c, v = .slice (some ⟨g, 0, none⟩) n c ∧ w.cell? ⟨g, q, none⟩ = some (.string ns[q]) := by
  obtain ⟨g, c, hv, _, _, hc⟩ := row_cells h (by omega)
  exact ⟨g, c, hv, hc q _ (by simp [flatS, hq])⟩
theorem lab_size40 {s : ByteArray} (h : labelB s = true) : s.size ≤ 40 := by
  unfold labelB at h
  simp only [Bool.and_eq_true, decide_eq_true_eq] at h
  exact h.2.2
theorem new_in2 (w : World) (o : Obj) (b : Nat) (h : b = w.heap.size) : (w.alloc o).heap[b]? = some o := new_at w o b h
theorem mem_take_succ {ns : List ByteArray} {z : ByteArray} {q : Nat} (hq : q < ns.length) : decide (z ∈ ns.take (q + 1)) = (decide (z ∈ ns.take q) || decide (ns[q] = z)) := by
  rw [List.take_succ_eq_append_getElem hq, Bool.eq_iff_iff]
  simp only [List.mem_append, List.mem_singleton, decide_eq_true_eq, Bool.or_eq_true]
  exact ⟨fun h => h.imp id Eq.symm, fun h => h.imp id Eq.symm⟩
theorem items_cells {w : World} {base n : Nat} {v : Value} {l : List Itm} (h : w.ownsRow base 26 8 v n (flatI l)) (k : Nat) (hk : k < l.length) (hn : n = l.length) : ∃ g c, v = .slice (some ⟨g, 0, none⟩) n c ∧ base ≤ g ∧ g < w.heap.size ∧ w.cell? ⟨g, k * 8, none⟩ = some (.int .i64 (it l k).kind) ∧ w.cell? ⟨g, k * 8 + 6, none⟩ = some (.string (it l k).name) := by
  rcases h.2 with ⟨_, h0⟩ | ⟨g, cap, cur, rfl, hb, hg, hnc, hcm, hs, ht⟩
  · omega
  · have hc : ∀ j u, (itC (it l k))[j]? = some u → w.cell? ⟨g, k * 8 + j, none⟩ = some u := fun j u hj => by
      have h1 := flatI_get l k hk j u hj
      have hlt : k * 8 + j < n * 8 := by
        have := (List.getElem?_eq_some_iff.1 h1).1
        rw [flatI_len] at this; omega
      have h2 := World.ownsRow.cellAt (w := w) (base := base) (e := 26) (size := 8) (g := g) (n := n) (cap := cap) (xs := flatI l) h (j := k * 8 + j) hlt
      rw [h2, h1]
    exact ⟨g, cap, rfl, hb, lt_in hg, hc 0 _ rfl, hc 6 _ rfl⟩
/-- The rows at a round's head. -/
structure FitAt (w : World) (s : FS) (v3 v4 : Value) (wr : World) : Prop where
  its : wr.ownsRow w.heap.size 26 8 v3 s.1.length (flatI s.1)
  nms : wr.ownsRow w.heap.size 9 1 v4 s.2.length (flatS s.2)
  bel : Below w.heap.size w wr
theorem FitAt.up {w : World} {s : FS} {v3 v4 : Value} {wr w' : World} (h : FitAt w s v3 v4 wr) (hb : Below wr.heap.size wr w') : FitAt w s v3 v4 w' := ⟨own_below h.its hb, own_below h.nms hb, bw_tr h.bel hb⟩
theorem FitAt.item {w : World} {s : FS} {v3 v4 v3' : Value} {wr w' : World} (h : FitAt w s v3 v4 wr) (y : Itm) (ho : w'.ownsRow w.heap.size 26 8 v3' (s.1.length + 1) (flatI (s.1 ++ [y]))) (hg : wr.grownBy w' v3.ownBlock) : FitAt w (s.1 ++ [y], s.2) v3' v4 w' :=
  ⟨by simpa using ho, names_apart h.its h.nms hg, grown_bel h.bel hg (fun g e => (h.its.lt g e).1)⟩
theorem FitAt.name {w : World} {s : FS} {v3 v4 v4' : Value} {wr w' : World} (h : FitAt w s v3 v4 wr) (y : ByteArray) (ho : w'.ownsRow w.heap.size 9 1 v4' (s.2.length + 1) (flatS (s.2 ++ [y]))) (hg : wr.grownBy w' v4.ownBlock) : FitAt w (s.1, s.2 ++ [y]) v3 v4' w' :=
  ⟨items_apart h.its h.nms hg, by simpa using ho, grown_bel h.bel hg (fun g e => (h.nms.lt g e).1)⟩
theorem FitAt.ren {w : World} {s : FS} {v4 : Value} {wr : World} {g n c : Nat} {L : List Itm} (h : FitAt w (L, s.2) (.slice (some ⟨g, 0, none⟩) n c) v4 wr) (hn : n = L.length) (k : Nat) (hk : k < L.length) (nm : ByteArray) :
    FitAt w (L.set k ⟨(it L k).kind, (it L k).i, nm, (it L k).n⟩, s.2) (.slice (some ⟨g, 0, none⟩) n c) v4 (wr.setCell ⟨g, k * 8 + 6, none⟩ (.string nm)) := by
  have h1 := h.its
  subst hn
  obtain ⟨h2, h3⟩ := World.ownsRow.stored h1 (k * 8 + 6) (.string nm)
  rw [flatI_set L k hk nm] at h2
  refine ⟨?_, names_apart h1 h.nms h3, grown_bel h.bel h3 (fun g' e => by injection e with e; subst e; exact (h1.lt g rfl).1)⟩
  simpa using h2
set_option maxRecDepth 100000 in
set_option maxHeartbeats 16000000 in
theorem fit03_any (w : World) (raw : List Itm) (v : Value) (HL : ArgS 8 itC w v raw) (HO : ∀ x ∈ raw, ok_item x) :
    Calls Try.prog 12 #[v] w fun e w' => ∃ v', e = .returned v' ∧ w'.ownsRow w.heap.size 26 8 v' (fitL raw).length (flatI (fitL raw)) ∧ Below w.heap.size w w' := by
  obtain ⟨a, c, rfl⟩ : ∃ a c, v = .slice a raw.length c := by obtain ⟨a, c, hv, _⟩ := HL; exact ⟨a, c, hv⟩
  have hmx : raw.length ≤ maxLen := by have := (items_len HL).2; omega
  unfold maxLen at hmx
  have H1 := Lib.hid HL; have H2 := Lib.hid HO
  clear HL HO
  go_enter Try.func12, Try.ntmps12
  go_wp2_with fail
  go_loopw [3, 4, 5] (fun v3 v4 i wr => ∃ k : Nat, k ≤ raw.length ∧ k ≤ 16 ∧ i = .int .i64 k ∧ FitAt w (fitR raw k) v3 v4 wr) (fun _ _ i _ => raw.length - (intOf i).toNat)
  case atStart => exact ⟨0, by omega, by omega, rfl, World.ownsRow_nil _ _ _ _, World.ownsRow_nil _ _ _ _, Below.refl _ _⟩
  case round =>
    obtain ⟨k, hk, hk16, rfl, hf⟩ := hrel
    obtain ⟨a3, c3, rfl⟩ := own_shape hf.its
    obtain ⟨a4, c4, rfl⟩ := own_shape hf.nms
    have HF := Lib.hid hf; clear hf
    have hln := fitR_len raw k
    by_cases hend : k < raw.length ∧ k < 16
    case neg =>
      have HMIN : Hid (fitR raw (min raw.length 16) = fitR raw k) := Lib.hid (by
        by_cases h : k < raw.length
        · rw [show min raw.length 16 = k by omega]
        · rw [show min raw.length 16 = k by omega])
      obtain ⟨⟨l, ns⟩, hs⟩ : ∃ s, fitR raw k = s := ⟨_, rfl⟩
      have HT : Hid (fit3 raw = fitE (l, ns)) := Lib.hid (by unfold fit3; rw [HMIN.out, hs])
      rw [hs] at HF hln ⊢
      clear hs
      simp only at hln ⊢
      have hll : l.length ≤ 100000 := by omega
      have hnl : ns.length ≤ 100000 := by omega
      have hways : (decide (k < raw.length) = false) ∨ (decide (k < raw.length) = true ∧ k = 16) := by
        by_cases h : k < raw.length
        · right; exact ⟨decide_eq_true h, by omega⟩
        · left; exact decide_eq_false h
      clear hend
      have hways2 : (¬ k < raw.length) ∨ (k < raw.length ∧ ¬ k < 16) := by
        rcases hways with h | ⟨h, h2⟩
        · left; simpa using h
        · right; exact ⟨by simpa using h, by omega⟩
      clear hways
      obtain ⟨z, hz⟩ : ∃ z, (((ns.length : Nat) : Int) == 0) = z := ⟨_, rfl⟩
      have HZ := Lib.hid hz
      rcases hways2 with hw1 | ⟨hw1, hw2⟩
      all_goals
        go_upto_if 139 with (fail)
        go_cut [3, 4] (fun u3 u4 wx => FitAt w (fit3 raw) u3 u4 wx)
        case first =>
          cases z with
          | true =>
            have hns : ns = [] := by simpa using HZ.out
            subst hns
            have HT2 : Hid (fit3 raw = (l ++ [⟨2, noI, endS, 0⟩], [endS])) := Lib.hid (by rw [HT.out]; rfl)
            clear hnl HT HZ
            simp only [List.length_nil] at HF hln ⊢
            go_wp2_with (first | (at_builtin; refine app_name rfl (.tmp 140) (.tmp 141) rfl w.heap.size _ [] endS 0 rfl rfl (HF.out.up ((by repeat (first | (with_reducible exact Below.refl _ _) | (with_reducible refine bw_set ?_ ?_ _) | (with_reducible apply bw_alloc) | (with_reducible refine bw_tr ?_ (by with_reducible assumption)) | (with_reducible apply bw_drew) | omega)))).nms wr.heap.size (new_in _ _) rfl (by omega) (by (have := HF.out.bel.size; simp; omega)) ?_; intro g7 c7x w7 hown7 hgrow7; have HF7 := Lib.hid ((HF.out.up (w' := World.alloc wr _) ((by repeat (first | (with_reducible exact Below.refl _ _) | (with_reducible refine bw_set ?_ ?_ _) | (with_reducible apply bw_alloc) | (with_reducible refine bw_tr ?_ (by with_reducible assumption)) | (with_reducible apply bw_drew) | omega)))).name endS hown7 hgrow7); clear hown7 hgrow7) | (at_builtin; refine app_item rfl (.tmp 143) (.tmp 145) rfl w.heap.size _ l ⟨2, noI, endS, 0⟩ l.length rfl rfl (HF7.out.up ((by repeat (first | (with_reducible exact Below.refl _ _) | (with_reducible refine bw_set ?_ ?_ _) | (with_reducible apply bw_alloc) | (with_reducible refine bw_tr ?_ (by with_reducible assumption)) | (with_reducible apply bw_drew) | omega)))).its w7.heap.size (new_in _ _) rfl hll (by (have := HF7.out.bel.size; simp; omega)) ?_; intro g8 c8x w8 hown8 hgrow8; have HF8 := Lib.hid ((HF7.out.up (w' := World.alloc w7 _) ((by repeat (first | (with_reducible exact Below.refl _ _) | (with_reducible refine bw_set ?_ ?_ _) | (with_reducible apply bw_alloc) | (with_reducible refine bw_tr ?_ (by with_reducible assumption)) | (with_reducible apply bw_drew) | omega)))).item ⟨2, noI, endS, 0⟩ hown8 hgrow8); clear hown8 hgrow8))
            go_meet
            case rel => rw [HT2.out]; exact HF8.out
          | false =>
            have HT2 : Hid (fit3 raw = (l, ns)) := Lib.hid (by rw [HT.out]; unfold fitE; rw [if_neg (fun h => by have h' : ns = [] := h; have := HZ.out; rw [h'] at this; simp at this)])
            go_wp2_with fail
            go_meet
            case rel => rw [HT2.out]; exact HF.out
        case rest =>
          have hf := hcut
          clear hcut
          obtain ⟨a3x, c3x, rfl⟩ := own_shape hf.its
          obtain ⟨a4x, c4x, rfl⟩ := own_shape hf.nms
          have hl3 := fit3_len raw
          have hne := (fit3_ok raw).2
          have HL3 : Hid (fitL raw = renTo (fit3 raw) (fit3 raw).1.length) := Lib.hid rfl
          have HLL := Lib.hid (fitL_len raw)
          have HSM : Hid (∀ i, i < (fit3 raw).1.length → (it (fit3 raw).1 i).kind = 3 → (it (fit3 raw).1 i).name.size ≤ 40) := Lib.hid (fun i hi h3 => lab_size40 (to_parts' ((fit3_ok raw).1.good i hi).1 h3).2.2.2.2)
          obtain ⟨⟨l3, n3⟩, hs3⟩ : ∃ s, fit3 raw = s := ⟨_, rfl⟩
          rw [hs3] at hf hl3 hne HL3 HLL HSM ⊢
          clear hs3
          simp only at hl3 hne HL3 HLL HSM ⊢
          have hn3 : 0 < n3.length := List.length_pos_iff.2 hne
          have HF0 : Hid (FitAt w (renTo (l3, n3) 0, n3) (.slice a3x l3.length c3x) (.slice a4x n3.length c4x) wc) := Lib.hid (by
            have e : renTo (l3, n3) 0 = l3 := by
              apply List.ext_getElem
              · simp [renTo]
              · intro i h1 h2
                simp [renTo]
                rw [it_at h2]
            rw [e]; exact hf)
          clear hf hne
          go_wp2_with fail
          go_loopw [12] (fun i wr => ∃ k : Nat, k ≤ l3.length ∧ i = .int .i64 k ∧ FitAt w (renTo (l3, n3) k, n3) (.slice a3x l3.length c3x) (.slice a4x n3.length c4x) wr) (fun i _ => l3.length - (intOf i).toNat)
          case atStart => exact ⟨0, Nat.zero_le _, rfl, HF0.out⟩
          case round =>
            obtain ⟨k3, hk3, rfl, hf⟩ := hrel
            have HF := Lib.hid hf
            clear hf
            by_cases hlt : k3 < l3.length
            case neg =>
              obtain rfl : k3 = l3.length := by omega
              go_wp2_with fail
              go_ret
              refine ⟨_, rfl, ?_, HF.out.bel⟩
              rw [HL3.out]
              exact HF.out.its
            case pos =>
              have hrl : (renTo (l3, n3) k3).length = l3.length := renTo_len _ _
              obtain ⟨g, cc, hv, hgb, hglt, m0, m6⟩ := items_cells HF.out.its k3 (by rw [hrl]; exact hlt) rfl
              rw [renTo_at (l3, n3) k3 k3 hlt, if_neg (Nat.lt_irrefl k3)] at m0 m6
              injection hv with hv e8 e9
              subst hv
              clear e8 e9
              have its' := HF.out.its
              simp only at its'
              rw [hrl] at its'
              have hfz : wr.frozen? ⟨g, k3 * 8 + 6, none⟩ = false := World.ownsRow.frozenAt its' _
              clear its'
              simp only at m0 m6
              by_cases h3 : (it l3 k3).kind = 3
              case neg =>
                have HRN := Lib.hid (renTo_no (s := (l3, n3)) h3)
                obtain ⟨kq, hkq⟩ : ∃ kq, (it l3 k3).kind = kq := ⟨_, rfl⟩
                rw [hkq] at m0 h3
                have hk3n : (kq == 3) = false := by simpa using h3
                clear hkq h3 hrl
                go_wp2_with fail
                exact ⟨⟨k3 + 1, by omega, by go_num, by rw [HRN.out]; exact HF.out⟩, by simp [intOf]; omega⟩
              case pos =>
                have HRY := Lib.hid (renTo_yes (s := (l3, n3)) hlt h3)
                rw [h3] at m0
                obtain ⟨nm, hnm⟩ : ∃ nm, (it l3 k3).name = nm := ⟨_, rfl⟩
                rw [hnm] at m6 HRY
                obtain ⟨q, hq⟩ : ∃ q, (nm.size + k3) % n3.length = q := ⟨_, rfl⟩
                have hqlt : q < n3.length := by rw [← hq]; exact Nat.mod_lt _ hn3
                obtain ⟨g4, cc4, hv4, m4⟩ := name_cell HF.out.nms q hqlt rfl
                injection hv4 with hv4 e8 e9
                subst hv4
                clear e8 e9
                simp only at HRY
                rw [hq, List.getD_eq_getElem?_getD, List.getElem?_eq_getElem hqlt, Option.getD_some] at HRY
                have hsm : nm.size ≤ 40 := by rw [← hnm]; exact HSM.out k3 hlt h3
                have hqq : ((nm.size : Int) + k3) % (n3.length : Int) = (q : Int) := by rw [← hq, Int.natCast_emod, Int.natCast_add]
                have HRL := Lib.hid hrl
                clear hnm hq h3 hrl
                go_wp2_with fail
                refine ⟨⟨k3 + 1, by omega, by go_num, ?_⟩, by simp [intOf]; omega⟩
                rw [HRY.out]
                exact FitAt.ren (s := (l3, n3)) HF.out HRL.out.symm k3 (by rw [HRL.out]; exact hlt) _
    case pos =>
    obtain ⟨hlt, hlt16⟩ := hend
    obtain ⟨b, o, rfl, hb0, hcells⟩ := items_at H1.out k hlt
    obtain ⟨c0, c1, c2, c3', c4', c5, c6, c7⟩ := eight_cells (fun j u hj => (HF.out.bel.cell (p := ⟨b, o + k * 8 + j, none⟩) hb0).trans (hcells j u hj))
    clear hcells
    have hok : ok_item (it raw k) := H2.out _ (by rw [it_at hlt]; exact List.getElem_mem hlt)
    have HSC : Hid (fitR raw (k + 1) = fitS (fitR raw k) (it raw k)) := Lib.hid rfl
    obtain ⟨x, hx⟩ : ∃ x, it raw k = x := ⟨_, rfl⟩
    rw [hx] at c0 c1 c2 c3' c4' c5 c6 c7 hok HSC
    clear hx
    obtain ⟨⟨l, ns⟩, hs⟩ : ∃ s, fitR raw k = s := ⟨_, rfl⟩
    rw [hs] at HF HSC hln ⊢
    clear hs
    simp only at hln ⊢
    have hsz := HF.out.bel.size
    obtain ⟨kd, ⟨op, d, ia, ib, nn⟩, s, N⟩ := x
    simp only at c0 c1 c2 c3' c4' c5 c6 c7
    obtain ⟨ok0, ⟨ok1, ok2, ok3, ok4, ok5⟩, _, ok7⟩ := hok
    simp only at ok0 ok1 ok2 ok3 ok4 ok5 ok7
    have hpb := pickN_bd kd 5 (by omega)
    obtain ⟨p, hp⟩ : ∃ p, pickN kd 5 = p := ⟨_, rfl⟩
    have P1 := Lib.hid (fun w => pick03 kd 5 w ok0 (by omega) p hp)
    have HP := Lib.hid hp
    rw [hp] at hpb
    have hbx := bel_new wr (.cells #[.int .i64 kd, .int .i64 op, .int .i64 d, .int .i64 ia, .int .i64 ib, .int .i64 nn, .string s, .int .i64 N] 26)
    have HF1 := Lib.hid (HF.out.up hbx)
    have HX := Lib.hid (new_in wr (.cells #[.int .i64 kd, .int .i64 op, .int .i64 d, .int .i64 ia, .int .i64 ib, .int .i64 nn, .string s, .int .i64 N] 26))
    have HBX := Lib.hid hbx
    have OK1 := Lib.hid ok1; have OK2 := Lib.hid ok2; have OK3 := Lib.hid ok3; have OK4 := Lib.hid ok4; have OK5 := Lib.hid ok5; have OK7 := Lib.hid ok7
    clear hp ok0 ok1 ok2 ok3 ok4 ok5 ok7 hbx
    have hp5 : p = 0 ∨ p = 1 ∨ p = 2 ∨ p = 3 ∨ p = 4 := by omega
    clear hpb
    have hll : l.length ≤ 100000 := by omega
    have hnl : ns.length ≤ 100000 := by omega
    rcases hp5 with rfl | rfl | rfl | rfl | rfl
    · have hy : ∃ y, fitX ⟨op, d, ia, ib, nn⟩ = y := ⟨_, rfl⟩
      obtain ⟨y, hy⟩ := hy
      have FX := Lib.hid (fun w => fit_lit ⟨op, d, ia, ib, nn⟩ y w ⟨OK1.out, OK2.out, OK3.out, OK4.out, OK5.out⟩ hy)
      have HNX : Hid (fitR raw (k + 1) = (l ++ [⟨1, y, ⟨#[]⟩, 0⟩], ns)) := Lib.hid (by rw [HSC.out]; unfold fitS; simp only [HP.out]; rw [if_pos trivial, hy])
      clear hy
      go_wp2_with (first | (go_at_call 13; ((with_reducible refine (P1.out _).mono ?_); rintro e w' ⟨rfl, rfl⟩)) | (go_at_call 25; ((with_reducible refine (FX.out _).mono ?_); rintro e w1 ⟨rfl, hb1⟩; have HF2 := Lib.hid (HF1.out.up hb1))) | (at_builtin; refine app_item rfl (.tmp 50) (.tmp 55) rfl w.heap.size _ l ⟨1, y, ⟨#[]⟩, 0⟩ l.length rfl rfl (HF2.out.up ((by repeat (first | (with_reducible exact Below.refl _ _) | (with_reducible refine bw_set ?_ ?_ _) | (with_reducible apply bw_alloc) | (with_reducible refine bw_tr ?_ (by with_reducible assumption)) | (with_reducible apply bw_drew) | omega)))).its w1.heap.size (new_in _ _) rfl hll (by (have := HF2.out.bel.size; simp; omega)) ?_; intro g7 c7x w7 hown7 hgrow7; have HF7 := Lib.hid ((HF2.out.up (w' := World.alloc w1 _) ((by repeat (first | (with_reducible exact Below.refl _ _) | (with_reducible refine bw_set ?_ ?_ _) | (with_reducible apply bw_alloc) | (with_reducible refine bw_tr ?_ (by with_reducible assumption)) | (with_reducible apply bw_drew) | omega)))).item ⟨1, y, ⟨#[]⟩, 0⟩ hown7 hgrow7); clear hown7 hgrow7))
      refine ⟨⟨k + 1, by omega, by omega, by go_num, by rw [HNX.out]; exact HF7.out⟩, by simp [intOf]; omega⟩
    · obtain ⟨z, hz⟩ : ∃ z, nameN N = z := ⟨_, rfl⟩
      have NM := Lib.hid (fun w => name_any N w OK7.out z hz)
      have HNY : Hid (z ∈ ns → fitR raw (k + 1) = (l, ns)) := Lib.hid (fun hm => by rw [HSC.out]; unfold fitS; simp only [HP.out]; rw [if_neg (by omega), if_pos trivial, hz, if_pos hm])
      have HNN : Hid (z ∉ ns → fitR raw (k + 1) = (l ++ [⟨2, noI, z, 0⟩], ns ++ [z])) := Lib.hid (fun hm => by rw [HSC.out]; unfold fitS; simp only [HP.out]; rw [if_neg (by omega), if_pos trivial, hz, if_neg hm])
      clear hz
      go_wp2_with (first | (go_at_call 13; ((with_reducible refine (P1.out _).mono ?_); rintro e w' ⟨rfl, rfl⟩)) | (go_at_call 31; ((with_reducible refine (NM.out _).mono ?_); rintro e w1 ⟨rfl, hb1⟩; have HF2 := Lib.hid (HF1.out.up hb1); clear hb1 c0 c1 c2 c3' c4' c5 c6 c7)))
      go_loop [8, 9] (fun h j => ∃ q : Nat, q ≤ ns.length ∧ j = .int .i64 q ∧ h = .bool (decide (z ∈ ns.take q))) (fun _ j => ns.length - (intOf j).toNat)
      case atStart => exact ⟨0, Nat.zero_le _, rfl, by simp⟩
      case round =>
        obtain ⟨q, hq, rfl, rfl⟩ := hrel
        by_cases hqlt : q < ns.length
        case pos =>
          obtain ⟨g4, cc4, hv4, m4⟩ := name_cell HF2.out.nms q hqlt rfl
          injection hv4 with hv4 e8 e9
          subst hv4
          clear e8 e9
          have HMS := Lib.hid (mem_take_succ (z := z) hqlt)
          obtain ⟨nq, hnq⟩ : ∃ nq, ns[q] = nq := ⟨_, rfl⟩
          rw [hnq] at m4 HMS
          clear hnq
          obtain ⟨bd, hbd⟩ : ∃ b, decide (z ∈ ns.take q) = b := ⟨_, rfl⟩
          obtain ⟨be, hbe⟩ : ∃ b, decide (nq = z) = b := ⟨_, rfl⟩
          rw [hbd, hbe] at HMS
          rw [hbd]
          have heq : (nq.toList == z.toList) = be := by rw [str_beq, hbe]
          clear hbd hbe
          cases bd <;> cases be
          all_goals
            go_wp2_with fail
            exact ⟨⟨q + 1, by omega, by go_num, congrArg Value.bool (by rw [HMS.out]; rfl)⟩, by simp [intOf]; omega⟩
        case neg =>
          obtain rfl : q = ns.length := by omega
          obtain ⟨bd, hbd⟩ : ∃ b, decide (z ∈ ns.take ns.length) = b := ⟨_, rfl⟩
          rw [hbd]
          have HBD : Hid (decide (z ∈ ns) = bd) := Lib.hid (by rw [← hbd, List.take_length])
          clear hbd
          cases bd
          case true =>
            have HNX := Lib.hid (HNY.out (by simpa using HBD.out))
            go_wp2_with fail
            exact ⟨⟨k + 1, by omega, by omega, by go_num, by rw [HNX.out]; exact HF2.out⟩, by simp [intOf]; omega⟩
          case false =>
            have HNX := Lib.hid (HNN.out (by simpa using HBD.out))
            go_wp2_with (first | (at_builtin; refine app_name rfl (.tmp 79) (.tmp 81) rfl w.heap.size _ ns z ns.length rfl rfl (HF2.out.up ((by repeat (first | (with_reducible exact Below.refl _ _) | (with_reducible refine bw_set ?_ ?_ _) | (with_reducible apply bw_alloc) | (with_reducible refine bw_tr ?_ (by with_reducible assumption)) | (with_reducible apply bw_drew) | omega)))).nms w1.heap.size (new_in _ _) rfl hnl (by (have := HF2.out.bel.size; simp; omega)) ?_; intro g6 c6x w6 hown6 hgrow6; have HF6 := Lib.hid ((HF2.out.up (w' := World.alloc w1 _) ((by repeat (first | (with_reducible exact Below.refl _ _) | (with_reducible refine bw_set ?_ ?_ _) | (with_reducible apply bw_alloc) | (with_reducible refine bw_tr ?_ (by with_reducible assumption)) | (with_reducible apply bw_drew) | omega)))).name z hown6 hgrow6); clear hown6 hgrow6) | (at_builtin; refine app_item rfl (.tmp 83) (.tmp 86) rfl w.heap.size _ l ⟨2, noI, z, 0⟩ l.length rfl rfl (HF6.out.up ((by repeat (first | (with_reducible exact Below.refl _ _) | (with_reducible refine bw_set ?_ ?_ _) | (with_reducible apply bw_alloc) | (with_reducible refine bw_tr ?_ (by with_reducible assumption)) | (with_reducible apply bw_drew) | omega)))).its w6.heap.size (new_in _ _) rfl hll (by (have := HF6.out.bel.size; simp; omega)) ?_; intro g7 c7x w7 hown7 hgrow7; have HF7 := Lib.hid ((HF6.out.up (w' := World.alloc w6 _) ((by repeat (first | (with_reducible exact Below.refl _ _) | (with_reducible refine bw_set ?_ ?_ _) | (with_reducible apply bw_alloc) | (with_reducible refine bw_tr ?_ (by with_reducible assumption)) | (with_reducible apply bw_drew) | omega)))).item ⟨2, noI, z, 0⟩ hown7 hgrow7); clear hown7 hgrow7))
            refine ⟨⟨k + 1, by omega, by omega, by go_num, by rw [HNX.out]; exact HF7.out⟩, by simp [intOf]; omega⟩
    · have hb6 := pickN_bd op 6 (by omega)
      obtain ⟨z, hz⟩ : ∃ z, nameN N = z := ⟨_, rfl⟩
      obtain ⟨p6, hp6⟩ : ∃ q, pickN op 6 = q := ⟨_, rfl⟩
      obtain ⟨pa, hpa⟩ : ∃ q, pickN ia 32 = q := ⟨_, rfl⟩
      obtain ⟨pb, hpb⟩ : ∃ q, pickN ib 32 = q := ⟨_, rfl⟩
      obtain ⟨pd, hpd⟩ : ∃ q, pickN d 4 = q := ⟨_, rfl⟩
      have NM := Lib.hid (fun w => name_any N w OK7.out z hz)
      have PO := Lib.hid (fun w => pick03 op 6 w OK1.out (by omega) p6 hp6)
      have PA := Lib.hid (fun w => pick03 ia 32 w OK3.out (by omega) pa hpa)
      have PB := Lib.hid (fun w => pick03 ib 32 w OK4.out (by omega) pb hpb)
      have PD := Lib.hid (fun w => pick03 d 4 w OK2.out (by omega) pd hpd)
      rw [hp6] at hb6
      have HNX0 : Hid (fitR raw (k + 1) = (l ++ [⟨3, toIns ⟨kd, ⟨op, d, ia, ib, nn⟩, s, N⟩, z, 0⟩], ns)) := Lib.hid (by rw [HSC.out]; unfold fitS; simp only [HP.out]; rw [if_neg (by omega), if_neg (by omega), if_pos trivial, hz])
      have HTI : Hid (toIns ⟨kd, ⟨op, d, ia, ib, nn⟩, s, N⟩ = if pd = 0 then ⟨3, pa, 0, 0, 0⟩ else ⟨5 + p6, 0, pa, pb, 0⟩) := Lib.hid (by unfold toIns; simp only [hp6, hpa, hpb, hpd])
      clear hz hp6 hpa hpb hpd
      go_wp2_with (go_at_call 13; ((with_reducible refine (P1.out _).mono ?_); rintro e w' ⟨rfl, rfl⟩))
      generalize wr.alloc (.cells #[.int .i64 kd, .int .i64 op, .int .i64 d, .int .i64 ia, .int .i64 ib, .int .i64 nn, .string s, .int .i64 N] 26) = W at *
      clear c0 c1 c2 c3' c4' c5 c6 c7
      refine wp_region_up (fun w' => Below W.heap.size W w') [true, true, true, true, true, true, true, true, true, true, true, true, true, true] (by kernel_rfl) (by kernel_rfl) (by kernel_rfl) (fun _ _ h hu => bw_tr h hu) (Below.refl _ _) ?ra ?rh ?rt
      case rh =>
        intro u0 h0
        have y1 := up_cell h0 (lt_in HX.out) (cell_in HX.out (j := 1) (u := .int .i64 op) rfl)
        have y3 := up_cell h0 (lt_in HX.out) (cell_in HX.out (j := 3) (u := .int .i64 ia) rfl)
        have y4 := up_cell h0 (lt_in HX.out) (cell_in HX.out (j := 4) (u := .int .i64 ib) rfl)
        have sw : IntKind.i64.wrap (5 + p6) = 5 + p6 := IntWalk.i64_in _ (by omega)
        clear h0
        simp only [pickM]
        repeat (go_big_quiet_step ((first | (go_at_call 13; with_reducible exact quiet_s (PO.out _)) | (go_at_call 13; with_reducible exact quiet_s (PA.out _)) | (go_at_call 13; with_reducible exact quiet_s (PB.out _)))))
        refine wpQuiet_nil ?_
        rfl
      case rt =>
        change wpAnyU _ _ _ _ _ 2 _ _ _
        refine anyU_one (i := 14) (by kernel_rfl) rfl ?_
        intro u9 hu9 hc9
        have hn9 := new_in u9 (.cells #[.int .i64 0, .int .i64 0, .int .i64 0, .int .i64 0, .int .i64 0] 24)
        obtain ⟨n1, hn1⟩ : ∃ n1, u9.heap.size = n1 := ⟨_, rfl⟩
        have hn1W : W.heap.size ≤ n1 := by rw [← hn1]; exact hc9.size
        clear hu9
        go_wp2_with fail
        rw [hn1] at hn9
        refine ⟨(by repeat (first | (with_reducible exact Below.refl _ _) | (with_reducible refine bw_set ?_ ?_ _) | (with_reducible apply bw_alloc) | (with_reducible refine bw_tr ?_ (by with_reducible assumption)) | (with_reducible apply bw_drew) | omega)), ?_⟩
        refine anyU_one (i := 15) (by kernel_rfl) rfl ?_
        intro u10 hu10 hc10
        have hn10 := bel_in hu10 (lt_in hn9) hn9
        have HN10 := Lib.hid hn10
        clear hu10 hn9 hc9 hn1
        obtain ⟨⟨m0, m1, m2, m3, m4⟩, e0, e1, e2, e3, e4⟩ := five_cells hn10
        have hlt10 := lt_in hn10
        clear hn10
        go_wp2_with fail
        refine ⟨(by repeat (first | (with_reducible exact Below.refl _ _) | (with_reducible refine bw_set ?_ ?_ _) | (with_reducible apply bw_alloc) | (with_reducible refine bw_tr ?_ (by with_reducible assumption)) | (with_reducible apply bw_drew) | omega)), ?_⟩
        have hn10 := set5 (.int .i64 (5 + p6)) (.int .i64 0) (.int .i64 pa) (.int .i64 pb) (.int .i64 0) HN10.out
        refine anyU_nil (by kernel_rfl) ?_
        intro u12 hu12 hc12
        have HN := Lib.hid (bel_in hu12 (lt_in hn10) hn10)
        have hltn := lt_in HN.out
        clear hu12 hn10 hc10 HN10 m0 m1 m2 m3 m4 e0 e1 e2 e3 e4 hlt10
        have HC12 := Lib.hid hc12
        have HX12 := Lib.hid (bel_in hc12 (lt_in HX.out) HX.out)
        have x2 : u12.cell? ⟨wr.heap.size, 2, none⟩ = some (.int .i64 d) := cell_in HX12.out rfl
        have x3 : u12.cell? ⟨wr.heap.size, 3, none⟩ = some (.int .i64 ia) := cell_in HX12.out rfl
        have hltx := lt_in HX12.out
        by_cases hpd0 : pd = 0
        case pos =>
          have HNX : Hid (fitR raw (k + 1) = (l ++ [⟨3, ⟨3, pa, 0, 0, 0⟩, z, 0⟩], ns)) := Lib.hid (by rw [HNX0.out, HTI.out, if_pos hpd0])
          subst hpd0
          obtain ⟨⟨m0, m1, m2, m3, m4⟩, e0, e1, e2, e3, e4⟩ := five_cells HN.out
          go_wp2_with (first | (go_at_call 13; ((with_reducible refine (PD.out _).mono ?_); rintro e w' ⟨rfl, rfl⟩)) | (go_at_call 13; ((with_reducible refine (PA.out _).mono ?_); rintro e w' ⟨rfl, rfl⟩)))
          have HNZ := set5 (.int .i64 3) (.int .i64 pa) (.int .i64 0) (.int .i64 0) (.int .i64 0) HN.out
          have HBZ : Below W.heap.size W (((((u12.setCell ⟨n1, 0, none⟩ (.int .i64 3)).setCell ⟨n1, 1, none⟩ (.int .i64 pa)).setCell ⟨n1, 2, none⟩ (.int .i64 0)).setCell ⟨n1, 3, none⟩ (.int .i64 0)).setCell ⟨n1, 4, none⟩ (.int .i64 0)) := (by repeat (first | (with_reducible exact Below.refl _ _) | (with_reducible refine bw_set ?_ ?_ _) | (with_reducible apply bw_alloc) | (with_reducible refine bw_tr ?_ (by with_reducible assumption)) | (with_reducible apply bw_drew) | omega))
          have HNZ' := Lib.hid HNZ; have HBZ' := Lib.hid HBZ; have HXZ' := Lib.hid (bel_in HBZ (lt_in HX.out) HX.out); have HFZ := Lib.hid (HF1.out.up HBZ)
          clear HNZ HBZ x2 x3
          generalize (((((u12.setCell ⟨n1, 0, none⟩ (.int .i64 3)).setCell ⟨n1, 1, none⟩ (.int .i64 pa)).setCell ⟨n1, 2, none⟩ (.int .i64 0)).setCell ⟨n1, 3, none⟩ (.int .i64 0)).setCell ⟨n1, 4, none⟩ (.int .i64 0)) = Wz at *
          refine wp_region_ut (fun w' => Below Wz.heap.size Wz w') 7 [true, true, true, true, true, true] (by kernel_rfl) (by kernel_rfl) (by kernel_rfl) (fun _ _ h hu => bw_tr h hu) (Below.refl _ _) ?ra28a ?rh28a ?rt28a
          case rh28a =>
            intro u0 h0
            have n0x := up_cell h0 (lt_in HNZ'.out) (cell_in HNZ'.out (j := 0) (u := .int .i64 (3)) rfl)
            have n1x := up_cell h0 (lt_in HNZ'.out) (cell_in HNZ'.out (j := 1) (u := .int .i64 (pa)) rfl)
            have n2x := up_cell h0 (lt_in HNZ'.out) (cell_in HNZ'.out (j := 2) (u := .int .i64 (0)) rfl)
            have n3x := up_cell h0 (lt_in HNZ'.out) (cell_in HNZ'.out (j := 3) (u := .int .i64 (0)) rfl)
            have n4x := up_cell h0 (lt_in HNZ'.out) (cell_in HNZ'.out (j := 4) (u := .int .i64 (0)) rfl)
            have y7 := up_cell h0 (lt_in HXZ'.out) (cell_in HXZ'.out (j := 7) (u := .int .i64 N) rfl)
            clear h0
            simp only [pickM]
            repeat (go_big_quiet_step ((go_at_call 31; with_reducible exact quiet_b (NM.out _))))
            refine wpQuiet_nil ?_
            rfl
          case rt28a =>
            change headU _ _ _ _ _ _ 1 _ _ _
            refine headU_one (i := 6) (by kernel_rfl) (by decide) rfl ?_
            intro u6 hu6 hcu6
            have HFu := Lib.hid (HFZ.out.up hcu6)
            clear hu6
            go_wp2_with fail
            refine ⟨bw_alloc hcu6 _, ?_⟩
            clear hcu6
            refine headU_end (by kernel_rfl) ?_
            intro u7 hu7 hcu7
            have HBK := Lib.hid (bel_in hu7 (lt_in (new_in u6 (.cells (itC ⟨3, ⟨3, pa, 0, 0, 0⟩, z, 0⟩).toArray 26))) (new_in u6 (.cells (itC ⟨3, ⟨3, pa, 0, 0, 0⟩, z, 0⟩).toArray 26)))
            have HFv := Lib.hid (HFu.out.up (bw_tr (bel_new u6 (.cells (itC ⟨3, ⟨3, pa, 0, 0, 0⟩, z, 0⟩).toArray 26)) hu7))
            clear hu7 hcu7
            simp only [List.drop_succ_cons, List.drop_zero]
            go_wp2_with (at_builtin; refine app_item rfl (.tmp 114) (.tmp 120) rfl w.heap.size _ l ⟨3, ⟨3, pa, 0, 0, 0⟩, z, 0⟩ l.length rfl rfl HFv.out.its u6.heap.size HBK.out rfl hll HFv.out.bel.size ?_; intro g7 c7x w7 hown7 hgrow7; have HF7 := Lib.hid (HFv.out.item ⟨3, ⟨3, pa, 0, 0, 0⟩, z, 0⟩ hown7 hgrow7); clear hown7 hgrow7)
            refine ⟨⟨k + 1, by omega, by omega, by go_num, by rw [HNX.out]; exact HF7.out⟩, by simp [intOf]; omega⟩
        case neg =>
          have HNX : Hid (fitR raw (k + 1) = (l ++ [⟨3, ⟨5 + p6, 0, pa, pb, 0⟩, z, 0⟩], ns)) := Lib.hid (by rw [HNX0.out, HTI.out, if_neg hpd0])
          have hpdb : (pd == 0) = false := by simpa using hpd0
          clear hpd0
          go_wp2_with (go_at_call 13; ((with_reducible refine (PD.out _).mono ?_); rintro e w' ⟨rfl, rfl⟩))
          have HNZ := HN.out
          have HBZ := HC12.out
          have HNZ' := Lib.hid HNZ; have HBZ' := Lib.hid HBZ; have HXZ' := Lib.hid (bel_in HBZ (lt_in HX.out) HX.out); have HFZ := Lib.hid (HF1.out.up HBZ)
          clear HNZ HBZ x2 x3
          generalize u12 = Wz at *
          refine wp_region_ut (fun w' => Below Wz.heap.size Wz w') 7 [true, true, true, true, true, true] (by kernel_rfl) (by kernel_rfl) (by kernel_rfl) (fun _ _ h hu => bw_tr h hu) (Below.refl _ _) ?ra28b ?rh28b ?rt28b
          case rh28b =>
            intro u0 h0
            have n0x := up_cell h0 (lt_in HNZ'.out) (cell_in HNZ'.out (j := 0) (u := .int .i64 (5 + p6)) rfl)
            have n1x := up_cell h0 (lt_in HNZ'.out) (cell_in HNZ'.out (j := 1) (u := .int .i64 (0)) rfl)
            have n2x := up_cell h0 (lt_in HNZ'.out) (cell_in HNZ'.out (j := 2) (u := .int .i64 (pa)) rfl)
            have n3x := up_cell h0 (lt_in HNZ'.out) (cell_in HNZ'.out (j := 3) (u := .int .i64 (pb)) rfl)
            have n4x := up_cell h0 (lt_in HNZ'.out) (cell_in HNZ'.out (j := 4) (u := .int .i64 (0)) rfl)
            have y7 := up_cell h0 (lt_in HXZ'.out) (cell_in HXZ'.out (j := 7) (u := .int .i64 N) rfl)
            clear h0
            simp only [pickM]
            repeat (go_big_quiet_step ((go_at_call 31; with_reducible exact quiet_b (NM.out _))))
            refine wpQuiet_nil ?_
            rfl
          case rt28b =>
            change headU _ _ _ _ _ _ 1 _ _ _
            refine headU_one (i := 6) (by kernel_rfl) (by decide) rfl ?_
            intro u6 hu6 hcu6
            have HFu := Lib.hid (HFZ.out.up hcu6)
            clear hu6
            go_wp2_with fail
            refine ⟨bw_alloc hcu6 _, ?_⟩
            clear hcu6
            refine headU_end (by kernel_rfl) ?_
            intro u7 hu7 hcu7
            have HBK := Lib.hid (bel_in hu7 (lt_in (new_in u6 (.cells (itC ⟨3, ⟨5 + p6, 0, pa, pb, 0⟩, z, 0⟩).toArray 26))) (new_in u6 (.cells (itC ⟨3, ⟨5 + p6, 0, pa, pb, 0⟩, z, 0⟩).toArray 26)))
            have HFv := Lib.hid (HFu.out.up (bw_tr (bel_new u6 (.cells (itC ⟨3, ⟨5 + p6, 0, pa, pb, 0⟩, z, 0⟩).toArray 26)) hu7))
            clear hu7 hcu7
            simp only [List.drop_succ_cons, List.drop_zero]
            go_wp2_with (at_builtin; refine app_item rfl (.tmp 114) (.tmp 120) rfl w.heap.size _ l ⟨3, ⟨5 + p6, 0, pa, pb, 0⟩, z, 0⟩ l.length rfl rfl HFv.out.its u6.heap.size HBK.out rfl hll HFv.out.bel.size ?_; intro g7 c7x w7 hown7 hgrow7; have HF7 := Lib.hid (HFv.out.item ⟨3, ⟨5 + p6, 0, pa, pb, 0⟩, z, 0⟩ hown7 hgrow7); clear hown7 hgrow7)
            refine ⟨⟨k + 1, by omega, by omega, by go_num, by rw [HNX.out]; exact HF7.out⟩, by simp [intOf]; omega⟩
    · have hb31 := pickN_bd d 31 (by omega)
      obtain ⟨pd, hpd⟩ : ∃ q, pickN d 31 = q := ⟨_, rfl⟩
      obtain ⟨m, hm⟩ : ∃ q, wrap32 N = q := ⟨_, rfl⟩
      have PD := Lib.hid (fun w => pick03 d 31 w OK2.out (by omega) pd hpd)
      have PW := Lib.hid (fun w => wrap_lit N m w hm)
      rw [hpd] at hb31
      have HNX : Hid (fitR raw (k + 1) = (l ++ [⟨4, ⟨0, 1 + pd, 0, 0, 0⟩, ⟨#[]⟩, m⟩], ns)) := Lib.hid (by rw [HSC.out]; unfold fitS; simp only [HP.out]; rw [if_neg (by omega), if_neg (by omega), if_neg (by omega), if_pos trivial, hpd, hm])
      clear hpd hm
      go_wp2_with (go_at_call 13; ((with_reducible refine (P1.out _).mono ?_); rintro e w' ⟨rfl, rfl⟩))
      generalize wr.alloc (.cells #[.int .i64 kd, .int .i64 op, .int .i64 d, .int .i64 ia, .int .i64 ib, .int .i64 nn, .string s, .int .i64 N] 26) = W at *
      clear c0 c1 c2 c3' c4' c5 c6 c7
      refine wp_region_ut (fun w' => Below W.heap.size W w') 12 [true, true, true, true, true, true, true, true, true, true, true] (by kernel_rfl) (by kernel_rfl) (by kernel_rfl) (fun _ _ h hu => bw_tr h hu) (Below.refl _ _) ?ra30 ?rh30 ?rt30
      case rh30 =>
        intro u0 h0
        have y2 := up_cell h0 (lt_in HX.out) (cell_in HX.out (j := 2) (u := .int .i64 d) rfl)
        have y7 := up_cell h0 (lt_in HX.out) (cell_in HX.out (j := 7) (u := .int .i64 N) rfl)
        have sw : IntKind.i64.wrap (1 + pd) = 1 + pd := IntWalk.i64_in _ (by omega)
        clear h0
        simp only [pickM]
        repeat (go_big_quiet_step ((first | (go_at_call 13; with_reducible exact quiet_s (PD.out _)) | (go_at_call 28; with_reducible exact quiet_s (PW.out _)))))
        refine wpQuiet_nil ?_
        rfl
      case rt30 =>
        change headU _ _ _ _ _ _ 1 _ _ _
        refine headU_one (i := 11) (by kernel_rfl) (by decide) rfl ?_
        intro u6 hu6 hcu6
        have HFu := Lib.hid (HF1.out.up hcu6)
        clear hu6
        go_wp2_with fail
        refine ⟨bw_alloc hcu6 _, ?_⟩
        clear hcu6
        refine headU_end (by kernel_rfl) ?_
        intro u7 hu7 hcu7
        have HBK := Lib.hid (bel_in hu7 (lt_in (new_in u6 (.cells (itC ⟨4, ⟨0, 1 + pd, 0, 0, 0⟩, ⟨#[]⟩, m⟩).toArray 26))) (new_in u6 (.cells (itC ⟨4, ⟨0, 1 + pd, 0, 0, 0⟩, ⟨#[]⟩, m⟩).toArray 26)))
        have HFv := Lib.hid (HFu.out.up (bw_tr (bel_new u6 (.cells (itC ⟨4, ⟨0, 1 + pd, 0, 0, 0⟩, ⟨#[]⟩, m⟩).toArray 26)) hu7))
        clear hu7 hcu7
        simp only [List.drop_succ_cons, List.drop_zero]
        go_wp2_with (at_builtin; refine app_item rfl (.tmp 124) (.tmp 135) rfl w.heap.size _ l ⟨4, ⟨0, 1 + pd, 0, 0, 0⟩, ⟨#[]⟩, m⟩ l.length rfl rfl HFv.out.its u6.heap.size HBK.out rfl hll HFv.out.bel.size ?_; intro g7 c7x w7 hown7 hgrow7; have HF7 := Lib.hid (HFv.out.item ⟨4, ⟨0, 1 + pd, 0, 0, 0⟩, ⟨#[]⟩, m⟩ hown7 hgrow7); clear hown7 hgrow7)
        refine ⟨⟨k + 1, by omega, by omega, by go_num, by rw [HNX.out]; exact HF7.out⟩, by simp [intOf]; omega⟩
    · have hb240 := pickN_bd N 240 (by omega)
      obtain ⟨p4, hp4⟩ : ∃ q, pickN N 40 = q := ⟨_, rfl⟩
      obtain ⟨pd, hpd⟩ : ∃ q, pickN d 3 = q := ⟨_, rfl⟩
      obtain ⟨p2, hp2⟩ : ∃ q, pickN N 240 = q := ⟨_, rfl⟩
      have P4 := Lib.hid (fun w => pick03 N 40 w OK7.out (by omega) p4 hp4)
      have PD := Lib.hid (fun w => pick03 d 3 w OK2.out (by omega) pd hpd)
      have P2 := Lib.hid (fun w => pick03 N 240 w OK7.out (by omega) p2 hp2)
      rw [hp2] at hb240
      have HNX0 : Hid (fitR raw (k + 1) = (l ++ [⟨5, noI, ⟨#[]⟩, fitNop ⟨kd, ⟨op, d, ia, ib, nn⟩, s, N⟩⟩], ns)) := Lib.hid (by rw [HSC.out]; unfold fitS; simp only [HP.out]; rw [if_neg (by omega), if_neg (by omega), if_neg (by omega), if_neg (by omega)])
      have HTI : Hid (fitNop ⟨kd, ⟨op, d, ia, ib, nn⟩, s, N⟩ = if pd = 0 then 900 + p2 else p4) := Lib.hid (by unfold fitNop; simp only [hp2, hp4, hpd])
      clear hp4 hpd hp2
      by_cases hpd0 : pd = 0
      case pos =>
        have HNX : Hid (fitR raw (k + 1) = (l ++ [⟨5, noI, ⟨#[]⟩, 900 + p2⟩], ns)) := Lib.hid (by rw [HNX0.out, HTI.out, if_pos hpd0])
        subst hpd0
        go_wp2_with (first | (go_at_call 13; ((with_reducible refine (P1.out _).mono ?_); rintro e w' ⟨rfl, rfl⟩)) | (go_at_call 13; ((with_reducible refine (P4.out _).mono ?_); rintro e w' ⟨rfl, rfl⟩)) | (go_at_call 13; ((with_reducible refine (PD.out _).mono ?_); rintro e w' ⟨rfl, rfl⟩)) | (go_at_call 13; ((with_reducible refine (P2.out _).mono ?_); rintro e w' ⟨rfl, rfl⟩)) | (at_builtin; refine app_item rfl (.tmp 43) (.tmp 46) rfl w.heap.size _ l ⟨5, noI, ⟨#[]⟩, 900 + p2⟩ l.length rfl rfl (HF1.out.up ((by repeat (first | (with_reducible exact Below.refl _ _) | (with_reducible refine bw_set ?_ ?_ _) | (with_reducible apply bw_alloc) | (with_reducible refine bw_tr ?_ (by with_reducible assumption)) | (with_reducible apply bw_drew) | omega)))).its (wr.heap.size + 1) (new_in2 _ _ _ (by simp)) rfl hll (by (have := HF1.out.bel.size; simp; omega)) ?_; intro g7 c7x w7 hown7 hgrow7; have HF7 := Lib.hid ((HF1.out.up (w' := World.alloc (wr.alloc (.cells #[.int .i64 kd, .int .i64 op, .int .i64 d, .int .i64 ia, .int .i64 ib, .int .i64 nn, .string s, .int .i64 N] 26)) _) ((by repeat (first | (with_reducible exact Below.refl _ _) | (with_reducible refine bw_set ?_ ?_ _) | (with_reducible apply bw_alloc) | (with_reducible refine bw_tr ?_ (by with_reducible assumption)) | (with_reducible apply bw_drew) | omega)))).item ⟨5, noI, ⟨#[]⟩, 900 + p2⟩ hown7 hgrow7); clear hown7 hgrow7))
        refine ⟨⟨k + 1, by omega, by omega, by go_num, by rw [HNX.out]; exact HF7.out⟩, by simp [intOf]; omega⟩
      case neg =>
        have HNX : Hid (fitR raw (k + 1) = (l ++ [⟨5, noI, ⟨#[]⟩, p4⟩], ns)) := Lib.hid (by rw [HNX0.out, HTI.out, if_neg hpd0])
        have hpdb : (pd == 0) = false := by simpa using hpd0
        clear hpd0
        go_wp2_with (first | (go_at_call 13; ((with_reducible refine (P1.out _).mono ?_); rintro e w' ⟨rfl, rfl⟩)) | (go_at_call 13; ((with_reducible refine (P4.out _).mono ?_); rintro e w' ⟨rfl, rfl⟩)) | (go_at_call 13; ((with_reducible refine (PD.out _).mono ?_); rintro e w' ⟨rfl, rfl⟩)) | (at_builtin; refine app_item rfl (.tmp 43) (.tmp 46) rfl w.heap.size _ l ⟨5, noI, ⟨#[]⟩, p4⟩ l.length rfl rfl (HF1.out.up ((by repeat (first | (with_reducible exact Below.refl _ _) | (with_reducible refine bw_set ?_ ?_ _) | (with_reducible apply bw_alloc) | (with_reducible refine bw_tr ?_ (by with_reducible assumption)) | (with_reducible apply bw_drew) | omega)))).its (wr.heap.size + 1) (new_in2 _ _ _ (by simp)) rfl hll (by (have := HF1.out.bel.size; simp; omega)) ?_; intro g7 c7x w7 hown7 hgrow7; have HF7 := Lib.hid ((HF1.out.up (w' := World.alloc (wr.alloc (.cells #[.int .i64 kd, .int .i64 op, .int .i64 d, .int .i64 ia, .int .i64 ib, .int .i64 nn, .string s, .int .i64 N] 26)) _) ((by repeat (first | (with_reducible exact Below.refl _ _) | (with_reducible refine bw_set ?_ ?_ _) | (with_reducible apply bw_alloc) | (with_reducible refine bw_tr ?_ (by with_reducible assumption)) | (with_reducible apply bw_drew) | omega)))).item ⟨5, noI, ⟨#[]⟩, p4⟩ hown7 hgrow7); clear hown7 hgrow7))
        refine ⟨⟨k + 1, by omega, by omega, by go_num, by rw [HNX.out]; exact HF7.out⟩, by simp [intOf]; omega⟩
end Go.Proofs.Ytfepdieeiplbnaa
