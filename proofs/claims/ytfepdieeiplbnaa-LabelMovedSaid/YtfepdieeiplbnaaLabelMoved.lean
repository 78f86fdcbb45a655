/-
  LabelMoved: with other instructions ahead all words are the same, and all places are so much further on. No condition.
-/
import Derived.Test.YtfepdieeiplbnaaMovedA
namespace Go.Proofs.Ytfepdieeiplbnaa
open Go.RowKit
set_option linter.unusedSimpArgs false
set_option maxRecDepth 100000 in
set_option maxHeartbeats 16000000 in
theorem walkLabelMoved (v : Value) (raw : List Itm) (v2 : Value) (ah : List Ins) (w : World) (HL : ArgS 8 itC w v raw) (HO : ∀ x ∈ raw, ok_item x) (HL2 : ArgS 5 cells_instr w v2 ah) (HO2 : ∀ x ∈ ah, ok_instr x) :
    Calls Try.prog 6 #[v, v2] w fun e w' => e = .returned (.bool true) ∧ Below w.heap.size w w' := by
  obtain ⟨a2x, c2x, rfl⟩ : ∃ a c, v2 = .slice a ah.length c := by obtain ⟨a, c, hv, _⟩ := HL2; exact ⟨a, c, hv⟩
  have hah : ah.length ≤ maxLen := by obtain ⟨_, _, hv, h1, h2, _⟩ := HL2; omega
  unfold maxLen at hah
  obtain ⟨l, hl⟩ : ∃ l, fitL raw = l := ⟨_, rfl⟩
  have HF := hl ▸ fitted raw
  have hpos : 0 < l.length := by rw [← hl]; exact fit_pos raw
  have hplb : pl l (longF l) l.length ≤ 80000 := by
    have := fitL_pl raw (longF (fitL raw)) _ (Nat.le_refl _)
    have h2 := HF.len
    rw [hl] at this; omega
  have FT := Lib.hid (fun w' hb => fit_law w' raw v (HL.below hb) HO l hl)
  have AW := Lib.hid (fun w => awake03 w)
  have HFF := Lib.hid HF
  have H2 := Lib.hid HL2; have HO2' := Lib.hid HO2; have HPLB := Lib.hid hplb
  have hlen := HF.len
  clear HL HO hl HF HL2 HO2 hplb
  go_enter Try.func6, Try.ntmps6
  go_wp2_with fail
  with_reducible refine (AW.out _).mono ?_
  rintro e w1 ⟨rfl, hb1⟩
  go_wp2_with fail
  with_reducible refine (FT.out _ hb1).mono ?_
  rintro e w2 ⟨a4, c4, rfl, ha2, _, hb2⟩
  have HA2 := Lib.hid ha2
  have B2 := Lib.hid (bw_tr hb1 hb2)
  clear ha2 hb1 hb2
  go_wp2_with fail
  go_loopw [7, 8] (fun v7 i wr => ∃ k : Nat, k ≤ ah.length ∧ k ≤ 10 ∧ i = .int .i64 k ∧ wr.ownsRow w2.heap.size 26 8 v7 (preL ah k).length (flatI (preL ah k)) ∧ Below w2.heap.size w2 wr) (fun _ i _ => ah.length - (intOf i).toNat)
  case atStart => exact ⟨0, by omega, by omega, rfl, World.ownsRow_nil _ _ _ _, Below.refl _ _⟩
  case round =>
    obtain ⟨k, hk, hk10, rfl, ho, hb⟩ := hrel
    obtain ⟨a7, c7, rfl⟩ := own_shape ho
    rw [preL_len] at ho ⊢
    have HO := Lib.hid ho; have HB := Lib.hid hb
    clear ho hb
    by_cases hend : k < ah.length ∧ k < 10
    case pos =>
      obtain ⟨hlt, hlt10⟩ := hend
      have hx0 : ah[k]? = some (ah.getD k noI) := by simp [hlt]
      obtain ⟨b, o, ha, hb0, hc⟩ : ∃ b o, a2x = some ⟨b, o, none⟩ ∧ b < w.heap.size ∧ ∀ j u, (cells_instr (ah.getD k noI))[j]? = some u → w.cell? ⟨b, o + k * 5 + j, none⟩ = some u := by
        obtain ⟨a', c', hv, _, _, h3⟩ := H2.out
        injection hv with e1 e2 e3
        subst e1 e3
        rcases h3 with h3 | ⟨b, o, ha, hlt', hc⟩
        · rw [h3] at hlt; simp at hlt
        · exact ⟨b, o, ha, hlt', fun j u hj => hc k _ hx0 j u hj⟩
      subst ha
      have hok : ok_instr (ah.getD k noI) := HO2'.out _ (List.mem_of_getElem? hx0)
      have HNX : Hid (preL ah (k + 1) = preL ah k ++ [⟨1, fitX (ah.getD k noI), ⟨#[]⟩, 0⟩]) := Lib.hid rfl
      obtain ⟨x, hx⟩ : ∃ x, ah.getD k noI = x := ⟨_, rfl⟩
      rw [hx] at hc hok HNX
      obtain ⟨y, hy⟩ : ∃ y, fitX x = y := ⟨_, rfl⟩
      rw [hy] at HNX
      have FX := Lib.hid (fun w => fit_lit x y w hok hy)
      clear hx hx0 hy hok
      have up : ∀ j u, (cells_instr x)[j]? = some u → wr.cell? ⟨b, o + k * 5 + j, none⟩ = some u := fun j u hj => ((bw_tr B2.out HB.out).cell (p := ⟨b, o + k * 5 + j, none⟩) hb0).trans (hc j u hj)
      have g0 := up 0 _ rfl
      have g1 := up 1 _ rfl
      have g2 := up 2 _ rfl
      have g3 := up 3 _ rfl
      have g4 := up 4 _ rfl
      simp only [Nat.add_zero] at g0
      clear hc up
      have hsz := HB.out.size
      have hll : k ≤ 100000 := by omega
      go_wp2_with (first | (go_at_call 25; ((with_reducible refine (FX.out _).mono ?_); rintro e w5 ⟨rfl, hb5⟩; have HO5 := Lib.hid (own_below HO.out hb5); have HB5 := Lib.hid (bw_tr HB.out hb5); have hs5 : w2.heap.size ≤ w5.heap.size := (bw_tr HB.out hb5).size; clear hb5)) | (at_builtin; refine app_item rfl (.tmp 33) (.tmp 40) rfl w2.heap.size _ (preL ah k) ⟨1, y, ⟨#[]⟩, 0⟩ k (preL_len _ _) rfl (HO5.out.alloc _) w5.heap.size (new_in _ _) rfl hll (by (simp; omega)) ?_; intro g7 c7x w7 hown7 hgrow7; have HO7 := Lib.hid hown7; have HB7 := Lib.hid (grown_bel (bw_alloc HB5.out _) hgrow7 (fun g e => (HO5.out.lt g e).1)); clear hown7 hgrow7))
      exact ⟨⟨k + 1, by omega, by omega, by go_num, by rw [preL_len, HNX.out]; exact HO7.out, HB7.out⟩, by simp [intOf]; omega⟩
    case neg =>
      have hways2 : (¬ k < ah.length) ∨ (k < ah.length ∧ ¬ k < 10) := by omega
      clear hend
      have HPA := Lib.hid (preL_ahead ah k)
      obtain ⟨b4, o4, ha4, hlt4, hit4⟩ := itemsAt_args HA2.out hpos
      subst ha4
      have HIT := Lib.hid hit4
      clear hit4
      have hll : k + l.length ≤ 100000 := by omega
      have hsz := HB.out.size
      have HERR : Hid (errOf (preL ah k ++ l) = 0) := Lib.hid (moved_ok HPA.out (by rw [preL_len]; omega) hlen HFF.out.all HFF.out.known HPLB.out)
      have HNM : Hid (NamesOK (preL ah k ++ l)) := Lib.hid (namesOK_all (all_ahead HPA.out HFF.out.all))
      obtain ⟨ps, hps, hwd⟩ := words_ahead HPA.out HFF.out.known
      have HLL : Hid ((preL ah k ++ l).length = k + l.length) := Lib.hid (by rw [List.length_append, preL_len])
      have HPL : Hid (∀ i, i ≤ l.length → pl (preL ah k ++ l) (longF (preL ah k ++ l)) (k + i) = 4 * k + pl l (longF l) i) := Lib.hid (fun i hi => by
        have := pl_ahead HPA.out HFF.out.known i hi
        rw [preL_len] at this; exact this)
      rw [preL_len] at hps
      have HPS := Lib.hid hps; have HWD := Lib.hid hwd
      clear hps hwd
      have AL := Lib.hid (fun w' v' h => assemble_yes w' l v' h HFF.out.nms HFF.out.err)
      have AM := Lib.hid (fun w' v' h => assemble_yes w' (preL ah k ++ l) v' h HNM.out HERR.out)
      have PL := Lib.hid (fun w' v' h => places_yes w' l v' h HFF.out.nms HFF.out.err)
      have PM := Lib.hid (fun w' v' h => places_yes w' (preL ah k ++ l) v' h HNM.out HERR.out)
      rw [HLL.out] at PM
      rw [HWD.out] at AM
      obtain ⟨ws, hws⟩ : ∃ ws, wordsOf l = ws := ⟨_, rfl⟩
      rw [hws] at AL AM
      have HW4 : Hid (ws.length ≤ 65536) := Lib.hid (by rw [← hws]; exact wordsTo_len HFF.out.err _ (Nat.le_refl _))
      have hwl := HW4.out
      have HLP : Hid ((ps ++ ws).length = k + ws.length) := Lib.hid (by rw [List.length_append, HPS.out])
      rw [HLP.out] at AM
      clear hws
      rcases hways2 with hw1 | ⟨hw1, hw2⟩
      all_goals
        go_wp2_with (at_builtin; refine app_items rfl (.tmp 44) (.tmp 45) rfl w2.heap.size _ (preL ah k) l k l.length (preL_len _ _) rfl rfl HO.out b4 o4 c4 (HIT.out.below HB.out hlt4) rfl hll hsz ?_; intro g7 c7x w7 hown7 hgrow7; have HO7 := Lib.hid hown7; have HB7 := Lib.hid (grown_bel HB.out hgrow7 (fun g e => (HO.out.lt g e).1)); clear hown7 hgrow7)
        with_reducible refine (AL.out _ _ (HA2.out.below HB7.out)).mono ?_
        rintro e w8 ⟨vw, rfl, how, hb8⟩
        obtain ⟨aw, cw, rfl⟩ := own_shape how
        have HOW := Lib.hid how; have HO8 := Lib.hid (own_below HO7.out hb8); have HB8 := Lib.hid (bw_tr HB7.out hb8)
        clear how hb8
        have HA8 : Hid (ArgS 8 itC w8 (.slice g7 (k + l.length) c7x) (preL ah k ++ l)) := Lib.hid (by
          have h := HO8.out
          rw [← HLL.out] at h ⊢
          exact args_own h)
        go_wp2_with fail
        with_reducible refine (AM.out _ _ HA8.out).mono ?_
        rintro e w9 ⟨vm, rfl, hom, hb9⟩
        obtain ⟨am, cm, rfl⟩ := own_shape hom
        have HOM := Lib.hid hom; have HOW9 := Lib.hid (own_below HOW.out hb9); have HB9 := Lib.hid (bw_tr HB8.out hb9); have HA9 := Lib.hid (HA8.out.below hb9)
        clear hom hb9
        go_wp2_with fail
        with_reducible refine (PL.out _ _ (HA2.out.below HB9.out)).mono ?_
        rintro e w10 ⟨A, rfl, hA, _, hb10⟩
        have HPA10 := Lib.hid hA; have HOM10 := Lib.hid (own_below HOM.out hb10); have HOW10 := Lib.hid (own_below HOW9.out hb10); have HB10 := Lib.hid (bw_tr HB9.out hb10); have HA10 := Lib.hid (HA9.out.below hb10)
        clear hA hb10
        go_wp2_with fail
        with_reducible refine (PM.out _ _ HA10.out).mono ?_
        rintro e w11 ⟨M, rfl, hM, _, hb11⟩
        have HPM11 := Lib.hid hM; have HPA11 := Lib.hid (bel_in hb11 (lt_in HPA10.out) HPA10.out); have HOM11 := Lib.hid (own_below HOM10.out hb11); have HOW11 := Lib.hid (own_below HOW10.out hb11); have HB11 := Lib.hid (bw_tr HB10.out hb11)
        clear hM hb11
        have q1 : (((k + ws.length : Nat) : Int) != (ws.length : Int) + k) = false := by simp; omega
        have q2 : (((k + l.length + 1 : Nat) : Int) != ((l.length + 1 : Nat) : Int) + k) = false := by simp; omega
        go_wp2_with fail
        go_loopw [18] (fun i wr => ∃ j : Nat, j ≤ ws.length ∧ i = .int .i64 j ∧ Below w11.heap.size w11 wr) (fun i _ => ws.length - (intOf i).toNat)
        case atStart => exact ⟨0, by omega, rfl, Below.refl _ _⟩
        case round =>
          obtain ⟨j, hj, rfl, hb⟩ := hrel
          have HBR := Lib.hid hb
          clear hb
          by_cases hjl : j < ws.length
          case pos =>
            obtain ⟨g1, cc1, hv1, hg1, _, hc1⟩ := row_cells HOW11.out (by omega)
            obtain ⟨g2, cc2, hv2, hg2, _, hc2⟩ := row_cells HOM11.out (by omega)
            injection hv1 with hv1 e1 e2
            injection hv2 with hv2 e3 e4
            subst hv1 hv2
            clear e1 e2 e3 e4
            obtain ⟨x, hx⟩ : ∃ x, ws[j] = x := ⟨_, rfl⟩
            have m1 : wr.cell? ⟨g1, j, none⟩ = some (.int .i64 x) := (HBR.out.cell (p := ⟨g1, j, none⟩) hg1).trans (hc1 j _ (by simp [intsC, hjl, hx]))
            have m2 : wr.cell? ⟨g2, j + k, none⟩ = some (.int .i64 x) := (HBR.out.cell (p := ⟨g2, j + k, none⟩) hg2).trans (hc2 (j + k) _ (by
              unfold intsC
              rw [List.getElem?_map, List.getElem?_append_right (by rw [HPS.out]; omega), HPS.out, Nat.add_sub_cancel, List.getElem?_eq_getElem hjl, hx]; rfl))
            have hsr := HBR.out.size
            clear hc1 hc2 hx
            go_wp2_with fail
            have y1 := wd_cell (show g1 < wr.heap.size by omega) m1
            have y2 := wd_cell (show g2 < wr.heap.size by omega) m2
            have s1 : IntKind.i64.wrap ((j : Int) + k) = j + k := IntWalk.i64_in _ (by omega)
            have n1 : ((j : Int) + k).toNat = j + k := by omega
            have hI : (0 : Int) ≤ (j : Int) + k := by omega
            have hx1 : (x != x) = false := by simp
            refine wp_region_below (by kernel_rfl) (by kernel_rfl) ?_
            repeat (go_big_quiet_step (fail))
            refine wpQuiet_nil ?_
            rintro w12 ⟨⟨w12x, hb12⟩, rfl⟩
            have HB12 := Lib.hid hb12
            clear y1 y2 s1 n1 hI hx1 hb12 m1 m2
            go_wp2_with fail
            exact ⟨⟨j + 1, by omega, by go_num, bw_tr HBR.out HB12.out⟩, by simp [intOf]; omega⟩
          case neg =>
            have HBR2 := Lib.hid HBR.out
            go_wp2_with fail
            obtain ⟨w13, hw13⟩ : ∃ x, wr = x := ⟨_, rfl⟩
            subst hw13
            have HPA13 := Lib.hid (bel_in HBR2.out (lt_in HPA11.out) HPA11.out); have HPM13 := Lib.hid (bel_in HBR2.out (lt_in HPM11.out) HPM11.out); have HB13 := Lib.hid (bw_tr HB11.out HBR2.out)
            clear HBR HBR2
            obtain ⟨wo, hwo⟩ : ∃ x, wr = x := ⟨_, rfl⟩
            rw [hwo] at HPA13 HPM13 HB13 ⊢
            clear hwo
            go_loopw [19] (fun i wr => ∃ t : Nat, t ≤ l.length + 1 ∧ i = .int .i64 t ∧ Below wo.heap.size wo wr) (fun i _ => l.length + 1 - (intOf i).toNat)
            case atStart => exact ⟨0, by omega, rfl, Below.refl _ _⟩
            case round =>
              obtain ⟨t, ht, rfl, hb⟩ := hrel
              have HBR := Lib.hid hb
              clear hb
              by_cases htl : t < l.length + 1
              case pos =>
                obtain ⟨x, hx⟩ : ∃ x, pl l (longF l) t = x := ⟨_, rfl⟩
                have hxb := pl_bd HFF.out.all (longF l) t (by omega)
                have hx2 := HPL.out t (by omega)
                rw [hx] at hxb hx2
                have m1 : wr.cell? ⟨A, t, none⟩ = some (.int .i64 x) := (HBR.out.cell (p := ⟨A, t, none⟩) (lt_in HPA13.out)).trans ((cell_in HPA13.out (cellsZ_get _ htl)).trans (by rw [hx]))
                have m2 : wr.cell? ⟨M, t + k, none⟩ = some (.int .i64 (4 * k + x)) := (HBR.out.cell (p := ⟨M, t + k, none⟩) (lt_in HPM13.out)).trans ((cell_in HPM13.out (cellsZ_get _ (by omega))).trans (by rw [Nat.add_comm t k, hx2]))
                have hsr := HBR.out.size
                have l1 := lt_in HPA13.out
                have l2 := lt_in HPM13.out
                clear hx hx2
                go_wp2_with fail
                have y1 := wd_cell (show A < wr.heap.size by omega) m1
                have y2 := wd_cell (show M < wr.heap.size by omega) m2
                have s1 : IntKind.i64.wrap ((t : Int) + k) = t + k := IntWalk.i64_in _ (by omega)
                have s2 : IntKind.i64.wrap (4 * (k : Int)) = 4 * k := IntWalk.i64_in _ (by omega)
                have s3 : IntKind.i64.wrap (x + 4 * (k : Int)) = x + 4 * k := IntWalk.i64_in _ (by omega)
                have n1 : ((t : Int) + k).toNat = t + k := by omega
                have hI : (0 : Int) ≤ (t : Int) + k := by omega
                have hx1 : (4 * (k : Int) + x != x + 4 * k) = false := by simp; omega
                refine wp_region_below (by kernel_rfl) (by kernel_rfl) ?_
                repeat (go_big_quiet_step (fail))
                refine wpQuiet_nil ?_
                rintro w14 ⟨⟨w14x, hb14⟩, rfl⟩
                have HB14 := Lib.hid hb14
                clear y1 y2 s1 s2 s3 n1 hI hx1 hb14 m1 m2 l1 l2
                go_wp2_with fail
                exact ⟨⟨t + 1, by omega, by go_num, bw_tr HBR.out HB14.out⟩, by simp [intOf]; omega⟩
              case neg =>
                go_wp2_with fail
                go_ret
                exact ⟨rfl, bw_tr B2.out (bw_tr HB13.out HBR.out)⟩
end Go.Proofs.Ytfepdieeiplbnaa
