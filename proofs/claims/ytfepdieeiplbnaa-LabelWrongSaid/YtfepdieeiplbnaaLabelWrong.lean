/-
  LabelWrong: what may not be, put into items that may, is told. No condition. (Printed by gen_wrong.py.)
-/
import Derived.Test.YtfepdieeiplbnaaLabelIdle
namespace Go.Proofs.Ytfepdieeiplbnaa
open Go.RowKit
set_option linter.unusedSimpArgs false
def badT : List Itm := [noItm, ⟨1, ⟨22, 32, 0, 0, 0⟩, ⟨#[]⟩, 0⟩, ⟨2, noI, ⟨#[97, 32, 98]⟩, 0⟩, ⟨5, noI, ⟨#[]⟩, -1⟩, ⟨4, noI, ⟨#[]⟩, 4⟩, ⟨3, ⟨5, 0, 0, 0, 8⟩, ⟨#[97]⟩, 0⟩, ⟨3, ⟨6, 0, 0, 0, 0⟩, ⟨#[110, 111, 119, 104, 101, 114, 101]⟩, 0⟩, ⟨2, noI, ⟨#[109, 97, 105, 110]⟩, 0⟩]
theorem bad_no (i : Nat) (h : i < 6) : itemB (it badT i) = false := by
  have : ∀ i : Fin 6, itemB (it badT i.val) = false := by decide +kernel
  exact this ⟨i, h⟩
theorem bad_nm (i : Nat) (h : i < 8) : (it badT i).name.size ≤ 40 ∧ -1 ≤ (it badT i).n ∧ (it badT i).n ≤ 4 := by
  have : ∀ i : Fin 8, (it badT i.val).name.size ≤ 40 ∧ -1 ≤ (it badT i.val).n ∧ (it badT i.val).n ≤ 4 := by decide +kernel
  exact this ⟨i, h⟩
theorem ins_idx {l : List Itm} {k : Nat} {x : Itm} (hk : k ≤ l.length) {j : Nat} (hj : j < (insAt l k x).length) : j = k ∨ ∃ i, i < l.length ∧ sg k i = j := by
  rw [insAt_len l k _ hk] at hj
  rcases Nat.lt_trichotomy j k with e | e | e
  · exact .inr ⟨j, by omega, by simp [sg, e]⟩
  · exact .inl e
  · exact .inr ⟨j - 1, by omega, by unfold sg; rw [if_neg (by omega)]; omega⟩
theorem names_ins {l : List Itm} {k : Nat} {x : Itm} (hk : k ≤ l.length) (h : NamesOK l) (h1 : x.name.size ≤ maxLen) (h2 : I64 x.n) : NamesOK (insAt l k x) := by
  refine ⟨fun j hj => ?_, fun j hj => ?_⟩
  · rcases ins_idx hk hj with rfl | ⟨i, hi, rfl⟩
    · rw [insAt_at hk]; exact h1
    · rw [insAt_sg hk]; exact h.name i hi
  · rcases ins_idx hk hj with rfl | ⟨i, hi, rfl⟩
    · rw [insAt_at hk]; exact h2
    · rw [insAt_sg hk]; exact h.num i hi
theorem names_snoc {l : List Itm} {x : Itm} (h : NamesOK l) (h1 : x.name.size ≤ maxLen) (h2 : I64 x.n) : NamesOK (l ++ [x]) := by
  have e : ∀ i, i < (l ++ [x]).length → i < l.length ∨ i = l.length := fun i hi => by simp at hi; omega
  refine ⟨fun j hj => ?_, fun j hj => ?_⟩
  · rcases e j hj with hj | rfl
    · rw [it_left hj]; exact h.name j hj
    · rw [it_last]; exact h1
  · rcases e j hj with hj | rfl
    · rw [it_left hj]; exact h.num j hj
    · rw [it_last]; exact h2
theorem wrong_arg {l : List Itm} {k : Nat} {x : Itm} (hk : k ≤ l.length) (hl : l.length ≤ 17) (h : itemB x = false) : errOf (insAt l k x) = 1 :=
  err_arg (by rw [insAt_len l k _ hk]; omega) k (by rw [insAt_len l k _ hk]; omega) (by rw [insAt_at hk]; exact h)
theorem all_ins {l : List Itm} {k : Nat} {x : Itm} (hk : k ≤ l.length) (ha : allB l) (hx : itemB x = true) : allB (insAt l k x) := by
  intro j hj
  rcases ins_idx hk hj with rfl | ⟨i, hi, rfl⟩
  · rw [insAt_at hk]; exact hx
  · rw [insAt_sg hk]; exact ha i hi
theorem wrong_to {l : List Itm} {k : Nat} (hk : k ≤ l.length) (hl : l.length ≤ 17) (ha : allB l) (hn : ∀ i, i < l.length → (it l i).kind = 2 → (it l i).name ≠ (it badT 6).name) : errOf (insAt l k (it badT 6)) = 30 := by
  refine err_target (by rw [insAt_len l k _ hk]; omega) (all_ins hk ha (by decide +kernel)) ?_
  cases hkn : knownB (insAt l k (it badT 6))
  · rfl
  · exfalso
    unfold knownB at hkn
    rw [Bool.and_eq_true] at hkn
    have hk3 : (it (insAt l k (it badT 6)) k).kind = 3 := by rw [insAt_at hk]; rfl
    obtain ⟨t, ht⟩ := nmL_at hkn.2 k (by rw [insAt_len l k _ hk]; omega) hk3
    rw [insAt_at hk] at ht
    obtain ⟨a, b, c⟩ := mp_some ht
    rcases ins_idx hk a with rfl | ⟨i, hi, rfl⟩
    · rw [hk3] at b; cases b
    · rw [insAt_sg hk] at b c; exact hn i hi b c
theorem wrong_twice {l : List Itm} {k : Nat} (hk : k ≤ l.length) (hl : l.length ≤ 17) (ha : allB l) : errOf (insAt l k (it badT 7) ++ [it badT 7]) = 30 := by
  have hx : itemB (it badT 7) = true := by decide +kernel
  have hlen := insAt_len l k (it badT 7) hk
  refine err_target (by simp; omega) ?_ ?_
  · intro j hj
    by_cases e : j < (insAt l k (it badT 7)).length
    · rw [it_left e]; exact all_ins hk ha hx j e
    · obtain rfl : j = (insAt l k (it badT 7)).length := by simp at hj; omega
      rw [it_last]; exact hx
  · cases hkn : knownB (insAt l k (it badT 7) ++ [it badT 7])
    · rfl
    · exfalso
      unfold knownB at hkn
      rw [Bool.and_eq_true] at hkn
      have h1 : it (insAt l k (it badT 7) ++ [it badT 7]) k = it badT 7 := by rw [it_left (by omega), insAt_at hk]
      have h2 : it (insAt l k (it badT 7) ++ [it badT 7]) (insAt l k (it badT 7)).length = it badT 7 := it_last _ _
      exact okL_one hkn.1 k (insAt l k (it badT 7)).length (by simp) (by omega) (by rw [h1]; rfl) (by rw [h2]; rfl) (by rw [h1, h2])
set_option maxRecDepth 100000 in
set_option maxHeartbeats 16000000 in
theorem walkLabelWrong (v : Value) (raw : List Itm) (wh wt : Int) (w : World) (HL : ArgS 8 itC w v raw) (HO : ∀ x ∈ raw, ok_item x) (hwh : I64 wh) (hwt : I64 wt) :
    Calls Try.prog 5 #[v, .int .i64 wh, .int .i64 wt] w fun e w' => e = .returned (.bool true) ∧ Below w.heap.size w w' := by
  obtain ⟨l, hl⟩ : ∃ l, fitL raw = l := ⟨_, rfl⟩
  have HF := hl ▸ fitted raw
  have hpos : 0 < l.length := by rw [← hl]; exact fit_pos raw
  have hfn : ∀ i, i < l.length → (it l i).kind = 2 → (it l i).name ≠ (it badT 6).name := by
    rw [← hl]
    intro i hi h2 he
    have hn := fitL_names raw i hi h2
    rw [he] at hn
    have : (it badT 6).name ∉ endS :: nameT := by decide +kernel
    exact this hn
  have FT := Lib.hid (fun w' hb => fit_law w' raw v (HL.below hb) HO l hl)
  have AW := Lib.hid (fun w => awake03 w)
  have hlen := HF.len
  have hpb := pickN_bd wh (l.length + 1) (by omega)
  obtain ⟨k, hk⟩ : ∃ k : Nat, pickN wh (l.length + 1) = k := ⟨(pickN wh (l.length + 1)).toNat, by omega⟩
  have PK := Lib.hid (fun w => pick03 wh (l.length + 1) w hwh (by omega) k hk)
  rw [hk] at hpb
  have hkl : k ≤ l.length := by omega
  have hpi := pickN_bd wt 8 (by omega)
  obtain ⟨q, hq⟩ : ∃ q : Nat, pickN wt 8 = q := ⟨(pickN wt 8).toNat, by omega⟩
  have PQ := Lib.hid (fun w => pick03 wt 8 w hwt (by omega) q hq)
  rw [hq] at hpi
  have hq8 : q < 8 := by omega
  clear hk hpb hq hpi hwh hwt
  have HFF := Lib.hid HF; have HFN := Lib.hid hfn
  obtain ⟨y, hy⟩ : ∃ y, it badT q = y := ⟨_, rfl⟩
  have HY := Lib.hid hy
  have hyn := bad_nm q hq8
  rw [hy] at hyn
  have HNM : Hid (NamesOK (insAt l k y)) := Lib.hid (names_ins hkl HF.nms (Nat.le_trans hyn.1 (by decide)) (by have := hyn.2; constructor <;> omega))
  have HNM2 : Hid (NamesOK (insAt l k y ++ [y])) := Lib.hid (names_snoc HNM.out (Nat.le_trans hyn.1 (by decide)) (by have := hyn.2; constructor <;> omega))
  have HLEN : Hid ((insAt l k y).length = l.length + 1) := Lib.hid (insAt_len _ _ _ hkl)
  clear HL HO hl HF hfn hy hyn
  go_enter Try.func5, Try.ntmps5
  go_wp2_with fail
  with_reducible refine (AW.out _).mono ?_
  rintro e w1 ⟨rfl, hb1⟩
  go_wp2_with fail
  with_reducible refine (FT.out _ hb1).mono ?_
  rintro e w2 ⟨a4, c4, rfl, ha2, _, hb2⟩
  have HA2 := Lib.hid ha2
  have B2 := Lib.hid (bw_tr hb1 hb2)
  obtain ⟨b4, o4, ha4, hlt4, hit4⟩ := itemsAt_args ha2 hpos
  have hlc := (items_len ha2).2
  subst ha4
  have HIT2 := Lib.hid hit4
  have hcm := hlc.2
  have hnc := hlc.1
  unfold maxLen at hcm
  clear ha2 hb1 hb2 hit4 hlc
  go_upto_region 4 with (fail)
  obtain ⟨W, hW⟩ : ∃ W, w2.alloc (.cells (itemsA badT) 26) = W := ⟨_, rfl⟩
  have hxb : W.heap[w2.heap.size]? = some (.cells (itemsA badT) 26 (0, 0)) := by rw [← hW]; exact new_in w2 _
  have hbW : Below w2.heap.size w2 W := by rw [← hW]; exact bel_new w2 _
  rw [show (#[Value.int .i64 0, .int .i64 0, .int .i64 0, .int .i64 0, .int .i64 0, .int .i64 0, .string ⟨#[]⟩, .int .i64 0, .int .i64 1, .int .i64 22, .int .i64 32, .int .i64 0, .int .i64 0, .int .i64 0, .string ⟨#[]⟩, .int .i64 0, .int .i64 2, .int .i64 0, .int .i64 0, .int .i64 0, .int .i64 0, .int .i64 0, .string ⟨#[97, 32, 98]⟩, .int .i64 0, .int .i64 5, .int .i64 0, .int .i64 0, .int .i64 0, .int .i64 0, .int .i64 0, .string ⟨#[]⟩, .int .i64 (-1), .int .i64 4, .int .i64 0, .int .i64 0, .int .i64 0, .int .i64 0, .int .i64 0, .string ⟨#[]⟩, .int .i64 4, .int .i64 3, .int .i64 5, .int .i64 0, .int .i64 0, .int .i64 0, .int .i64 8, .string ⟨#[97]⟩, .int .i64 0, .int .i64 3, .int .i64 6, .int .i64 0, .int .i64 0, .int .i64 0, .int .i64 0, .string ⟨#[110, 111, 119, 104, 101, 114, 101]⟩, .int .i64 0, .int .i64 2, .int .i64 0, .int .i64 0, .int .i64 0, .int .i64 0, .int .i64 0, .string ⟨#[109, 97, 105, 110]⟩, .int .i64 0] : Array Value) = itemsA badT by rfl, hW]
  clear hW
  have HIT := Lib.hid (HIT2.out.below hbW hlt4)
  have HXB := Lib.hid hxb
  have HAW := Lib.hid (HA2.out.below hbW)
  have BW := Lib.hid (bw_tr B2.out hbW)
  have hltW : b4 < W.heap.size := Nat.lt_of_lt_of_le hlt4 hbW.size
  have hltB := lt_in hxb
  obtain ⟨bb, hbb⟩ : ∃ bb, w2.heap.size = bb := ⟨_, rfl⟩
  rw [hbb] at HXB hltB ⊢
  clear hxb hbW hbb hlt4 HIT2
  go_wp2_with (first | (go_at_call 13; ((with_reducible refine (PK.out _).mono ?_); rintro e w' ⟨rfl, rfl⟩)) | (go_at_call 13; ((with_reducible refine (PQ.out _).mono ?_); rintro e w' ⟨rfl, rfl⟩)))
  go_upto_region 6 with (fail)
  go_cut [12] (fun s8 wx => ∃ g c, s8 = .slice g (l.length + 1) c ∧ wx.ownsRow W.heap.size 26 8 (.slice g (l.length + 1) c) (l.length + 1) (flatI (insAt l k y)) ∧ Below W.heap.size W wx)
  case first =>
    have HN1 : Hid (k + 1 + (l.length - k) = l.length + 1) := Lib.hid (by omega)
    have hk1 : k ≤ 100000 := by omega
    have hk2 : k + 1 + (l.length - k) ≤ 100000 := by omega
    have HTK : Hid ((l.take k).length = k) := Lib.hid (by simp; omega)
    have HDK : Hid ((l.drop k).length = l.length - k) := Lib.hid (by simp)
    have HBC : Hid (∀ t u, (itC y)[t]? = some u → W.cell? ⟨bb, q * 8 + t, none⟩ = some u) := Lib.hid (fun t u ht => cell_in HXB.out (items_get badT q (by have : badT.length = 8 := rfl; omega) t u (by rw [HY.out]; exact ht)))
    by_cases hkc : k = c4
    case pos =>
      have hkn : k = l.length := by omega
      subst hkc
      have HDR : Hid (∀ u, Below W.heap.size W u → ItemsAt u b4 o4 (l.drop k)) := Lib.hid (fun u hu => ItemsAt.nil (by rw [hkn]; simp))
      have HKN := Lib.hid hkn
      have HD0 : Hid ((l.drop k).length = 0) := Lib.hid (by simp; omega)
      have HN0 : Hid (k + 1 + 0 = l.length + 1) := Lib.hid (by omega)
      have hk20 : k + 1 + 0 ≤ 100000 := by omega
      clear hkn
      refine wp_region_up (fun w' => Below W.heap.size W w') [true, true, true, false, true, true, true, true, false, false, true, true, true] (by kernel_rfl) (by kernel_rfl) (by kernel_rfl) (fun _ _ h hu => bw_tr h hu) (Below.refl _ _) ?rapos ?rhpos ?rtpos
      case rhpos =>
        intro w0 h0
        have z0 := up_cell h0 hltB (HBC.out 0 _ rfl)
        have z1 := up_cell h0 hltB (HBC.out 1 _ rfl)
        have z2 := up_cell h0 hltB (HBC.out 2 _ rfl)
        have z3 := up_cell h0 hltB (HBC.out 3 _ rfl)
        have z4 := up_cell h0 hltB (HBC.out 4 _ rfl)
        have z5 := up_cell h0 hltB (HBC.out 5 _ rfl)
        have z6 := up_cell h0 hltB (HBC.out 6 _ rfl)
        have z7 := up_cell h0 hltB (HBC.out 7 _ rfl)
        simp only [Nat.add_zero] at z0
        clear h0
        simp only [pickM]
        repeat (go_big_quiet_step (fail))
        refine wpQuiet_nil ?_
        rfl
      case rtpos =>
        change wpAnyU _ _ _ _ _ 5 _ _ _
        refine anyU_two (i := 3) (k := 8) (by kernel_rfl) rfl rfl ?_ ?_
        · intro u1 hu1 hc1
          have BL0 := Lib.hid hc1
          clear hu1 hc1
          refine app_first rfl (.const (.slice none 0 0)) (.tmp 45) rfl W.heap.size (l.take k) k HTK.out rfl b4 o4 _ ((HIT.out.below BL0.out hltW).take k) rfl hk1 BL0.out.size ?_
          intro g1 c1 w1x hown1 hb1x
          have OW1 := Lib.hid hown1; have BL1 := Lib.hid (bw_tr BL0.out hb1x)
          clear hown1 hb1x
          go_wp2_with fail
          refine ⟨BL1.out, ?_⟩
          refine anyU_one (i := 8) (by kernel_rfl) rfl ?_
          intro u2 hu2 _
          have OW2 := Lib.hid (own_below OW1.out (bw_tr hu2 (bel_new u2 (.cells #[.int .i64 y.kind, .int .i64 y.i.op, .int .i64 y.i.d, .int .i64 y.i.a, .int .i64 y.i.b, .int .i64 y.i.n, .string y.name, .int .i64 y.n] 26)))); have BL2 := Lib.hid (bw_tr BL1.out (bw_tr hu2 (bel_new u2 (.cells #[.int .i64 y.kind, .int .i64 y.i.op, .int .i64 y.i.d, .int .i64 y.i.a, .int .i64 y.i.b, .int .i64 y.i.n, .string y.name, .int .i64 y.n] 26)))); have LB2 := Lib.hid (new_in u2 (.cells #[.int .i64 y.kind, .int .i64 y.i.op, .int .i64 y.i.d, .int .i64 y.i.a, .int .i64 y.i.b, .int .i64 y.i.n, .string y.name, .int .i64 y.n] 26))
          clear hu2
          go_wp2_with fail
          refine ⟨BL2.out, ?_⟩
          refine anyU_one (i := 9) (by kernel_rfl) rfl ?_
          intro u3 hu3 _
          have OW3 := Lib.hid (own_below OW2.out hu3); have BL3 := Lib.hid (bw_tr BL2.out hu3); have LB3 := Lib.hid (bel_in hu3 (lt_in LB2.out) LB2.out)
          clear hu3
          refine app_item rfl (.tmp 46) (.tmp 51) rfl W.heap.size _ (l.take k) y k HTK.out rfl OW3.out u2.heap.size LB3.out rfl hk1 BL3.out.size ?_
          intro g6 c6 w6 hown6 hgrow6
          have OW6 := Lib.hid hown6; have BL6 := Lib.hid (grown_bel BL3.out hgrow6 (fun g e => (OW3.out.lt g e).1))
          clear hown6 hgrow6
          go_wp2_with fail
          refine ⟨BL6.out, ?_⟩
          refine anyU_one (i := 13) (by kernel_rfl) rfl ?_
          intro u4 hu4 _
          have OW7 := Lib.hid (own_below OW6.out hu4); have BL7 := Lib.hid (bw_tr BL6.out hu4)
          clear hu4
          refine app_items rfl (.tmp 52) (.tmp 55) rfl W.heap.size _ (l.take k ++ [y]) (l.drop k) (k + 1) 0 (by simp; omega) HD0.out rfl OW7.out b4 o4 _ (HDR.out u4 BL7.out) rfl hk20 BL7.out.size ?_
          intro g8 c8 w8 hown8 hgrow8
          have OW8 := Lib.hid hown8; have BL8 := Lib.hid (grown_bel BL7.out hgrow8 (fun g e => (OW7.out.lt g e).1))
          clear hown8 hgrow8
          go_wp2_with fail
          refine ⟨BL8.out, ?_⟩
          refine anyU_one (i := 14) (by kernel_rfl) rfl ?_
          intro u5 hu5 _
          have OW9 := Lib.hid (own_below OW8.out hu5); have BL9 := Lib.hid (bw_tr BL8.out hu5)
          clear hu5
          go_wp2_with fail
          refine ⟨BL9.out, ?_⟩
          refine anyU_nil (by kernel_rfl) ?_
          intro u6 hu6 _
          have OW10 := Lib.hid (own_below OW9.out hu6); have BL10 := Lib.hid (bw_tr BL9.out hu6)
          clear hu6
          go_wp2_with fail
          go_meet
          case rel => exact ⟨g8, c8, congrArg (fun n => Value.slice g8 n c8) HN0.out, by have h := OW10.out; rw [HN0.out] at h; exact h, BL10.out⟩
        · intro u1 hu1 hc1
          have BL1 := Lib.hid (bw_tr hc1 (bel_new u1 (.cells #[.int .i64 y.kind, .int .i64 y.i.op, .int .i64 y.i.d, .int .i64 y.i.a, .int .i64 y.i.b, .int .i64 y.i.n, .string y.name, .int .i64 y.n] 26))); have LB1 := Lib.hid (new_in u1 (.cells #[.int .i64 y.kind, .int .i64 y.i.op, .int .i64 y.i.d, .int .i64 y.i.a, .int .i64 y.i.b, .int .i64 y.i.n, .string y.name, .int .i64 y.n] 26))
          clear hu1 hc1
          go_wp2_with fail
          refine ⟨BL1.out, ?_⟩
          refine anyU_one (i := 3) (by kernel_rfl) rfl ?_
          intro u2 hu2 _
          have BL0 := Lib.hid (bw_tr BL1.out hu2); have LB0 := Lib.hid (bel_in hu2 (lt_in LB1.out) LB1.out)
          clear hu2
          refine app_first rfl (.const (.slice none 0 0)) (.tmp 45) rfl W.heap.size (l.take k) k HTK.out rfl b4 o4 _ ((HIT.out.below BL0.out hltW).take k) rfl hk1 BL0.out.size ?_
          intro g1 c1 w1x hown1 hb1x
          have OW2 := Lib.hid hown1; have BL2 := Lib.hid (bw_tr BL0.out hb1x); have LB2 := Lib.hid (bel_in hb1x (lt_in LB0.out) LB0.out)
          clear hown1 hb1x
          go_wp2_with fail
          refine ⟨BL2.out, ?_⟩
          refine anyU_one (i := 9) (by kernel_rfl) rfl ?_
          intro u3 hu3 _
          have OW3 := Lib.hid (own_below OW2.out hu3); have BL3 := Lib.hid (bw_tr BL2.out hu3); have LB3 := Lib.hid (bel_in hu3 (lt_in LB2.out) LB2.out)
          clear hu3
          refine app_item rfl (.tmp 46) (.tmp 51) rfl W.heap.size _ (l.take k) y k HTK.out rfl OW3.out u1.heap.size LB3.out rfl hk1 BL3.out.size ?_
          intro g6 c6 w6 hown6 hgrow6
          have OW6 := Lib.hid hown6; have BL6 := Lib.hid (grown_bel BL3.out hgrow6 (fun g e => (OW3.out.lt g e).1))
          clear hown6 hgrow6
          go_wp2_with fail
          refine ⟨BL6.out, ?_⟩
          refine anyU_one (i := 13) (by kernel_rfl) rfl ?_
          intro u4 hu4 _
          have OW7 := Lib.hid (own_below OW6.out hu4); have BL7 := Lib.hid (bw_tr BL6.out hu4)
          clear hu4
          refine app_items rfl (.tmp 52) (.tmp 55) rfl W.heap.size _ (l.take k ++ [y]) (l.drop k) (k + 1) 0 (by simp; omega) HD0.out rfl OW7.out b4 o4 _ (HDR.out u4 BL7.out) rfl hk20 BL7.out.size ?_
          intro g8 c8 w8 hown8 hgrow8
          have OW8 := Lib.hid hown8; have BL8 := Lib.hid (grown_bel BL7.out hgrow8 (fun g e => (OW7.out.lt g e).1))
          clear hown8 hgrow8
          go_wp2_with fail
          refine ⟨BL8.out, ?_⟩
          refine anyU_one (i := 14) (by kernel_rfl) rfl ?_
          intro u5 hu5 _
          have OW9 := Lib.hid (own_below OW8.out hu5); have BL9 := Lib.hid (bw_tr BL8.out hu5)
          clear hu5
          go_wp2_with fail
          refine ⟨BL9.out, ?_⟩
          refine anyU_nil (by kernel_rfl) ?_
          intro u6 hu6 _
          have OW10 := Lib.hid (own_below OW9.out hu6); have BL10 := Lib.hid (bw_tr BL9.out hu6)
          clear hu6
          go_wp2_with fail
          go_meet
          case rel => exact ⟨g8, c8, congrArg (fun n => Value.slice g8 n c8) HN0.out, by have h := OW10.out; rw [HN0.out] at h; exact h, BL10.out⟩
    case neg =>
      have HDR : Hid (∀ u, Below W.heap.size W u → ItemsAt u b4 (o4 + k * 8) (l.drop k)) := Lib.hid (fun u hu => (HIT.out.below hu hltW).drop k)
      have hkc2 : k < c4 := by omega
      refine wp_region_up (fun w' => Below W.heap.size W w') [true, true, true, false, true, true, true, true, false, false, true, true, true] (by kernel_rfl) (by kernel_rfl) (by kernel_rfl) (fun _ _ h hu => bw_tr h hu) (Below.refl _ _) ?raneg ?rhneg ?rtneg
      case rhneg =>
        intro w0 h0
        have z0 := up_cell h0 hltB (HBC.out 0 _ rfl)
        have z1 := up_cell h0 hltB (HBC.out 1 _ rfl)
        have z2 := up_cell h0 hltB (HBC.out 2 _ rfl)
        have z3 := up_cell h0 hltB (HBC.out 3 _ rfl)
        have z4 := up_cell h0 hltB (HBC.out 4 _ rfl)
        have z5 := up_cell h0 hltB (HBC.out 5 _ rfl)
        have z6 := up_cell h0 hltB (HBC.out 6 _ rfl)
        have z7 := up_cell h0 hltB (HBC.out 7 _ rfl)
        simp only [Nat.add_zero] at z0
        clear h0
        simp only [pickM]
        repeat (go_big_quiet_step (fail))
        refine wpQuiet_nil ?_
        rfl
      case rtneg =>
        change wpAnyU _ _ _ _ _ 5 _ _ _
        refine anyU_two (i := 3) (k := 8) (by kernel_rfl) rfl rfl ?_ ?_
        · intro u1 hu1 hc1
          have BL0 := Lib.hid hc1
          clear hu1 hc1
          refine app_first rfl (.const (.slice none 0 0)) (.tmp 45) rfl W.heap.size (l.take k) k HTK.out rfl b4 o4 _ ((HIT.out.below BL0.out hltW).take k) rfl hk1 BL0.out.size ?_
          intro g1 c1 w1x hown1 hb1x
          have OW1 := Lib.hid hown1; have BL1 := Lib.hid (bw_tr BL0.out hb1x)
          clear hown1 hb1x
          go_wp2_with fail
          refine ⟨BL1.out, ?_⟩
          refine anyU_one (i := 8) (by kernel_rfl) rfl ?_
          intro u2 hu2 _
          have OW2 := Lib.hid (own_below OW1.out (bw_tr hu2 (bel_new u2 (.cells #[.int .i64 y.kind, .int .i64 y.i.op, .int .i64 y.i.d, .int .i64 y.i.a, .int .i64 y.i.b, .int .i64 y.i.n, .string y.name, .int .i64 y.n] 26)))); have BL2 := Lib.hid (bw_tr BL1.out (bw_tr hu2 (bel_new u2 (.cells #[.int .i64 y.kind, .int .i64 y.i.op, .int .i64 y.i.d, .int .i64 y.i.a, .int .i64 y.i.b, .int .i64 y.i.n, .string y.name, .int .i64 y.n] 26)))); have LB2 := Lib.hid (new_in u2 (.cells #[.int .i64 y.kind, .int .i64 y.i.op, .int .i64 y.i.d, .int .i64 y.i.a, .int .i64 y.i.b, .int .i64 y.i.n, .string y.name, .int .i64 y.n] 26))
          clear hu2
          go_wp2_with fail
          refine ⟨BL2.out, ?_⟩
          refine anyU_one (i := 9) (by kernel_rfl) rfl ?_
          intro u3 hu3 _
          have OW3 := Lib.hid (own_below OW2.out hu3); have BL3 := Lib.hid (bw_tr BL2.out hu3); have LB3 := Lib.hid (bel_in hu3 (lt_in LB2.out) LB2.out)
          clear hu3
          refine app_item rfl (.tmp 46) (.tmp 51) rfl W.heap.size _ (l.take k) y k HTK.out rfl OW3.out u2.heap.size LB3.out rfl hk1 BL3.out.size ?_
          intro g6 c6 w6 hown6 hgrow6
          have OW6 := Lib.hid hown6; have BL6 := Lib.hid (grown_bel BL3.out hgrow6 (fun g e => (OW3.out.lt g e).1))
          clear hown6 hgrow6
          go_wp2_with fail
          refine ⟨BL6.out, ?_⟩
          refine anyU_one (i := 13) (by kernel_rfl) rfl ?_
          intro u4 hu4 _
          have OW7 := Lib.hid (own_below OW6.out hu4); have BL7 := Lib.hid (bw_tr BL6.out hu4)
          clear hu4
          refine app_items rfl (.tmp 52) (.tmp 55) rfl W.heap.size _ (l.take k ++ [y]) (l.drop k) (k + 1) (l.length - k) (by simp; omega) HDK.out rfl OW7.out b4 (o4 + k * 8) _ (HDR.out u4 BL7.out) rfl hk2 BL7.out.size ?_
          intro g8 c8 w8 hown8 hgrow8
          have OW8 := Lib.hid hown8; have BL8 := Lib.hid (grown_bel BL7.out hgrow8 (fun g e => (OW7.out.lt g e).1))
          clear hown8 hgrow8
          go_wp2_with fail
          refine ⟨BL8.out, ?_⟩
          refine anyU_one (i := 14) (by kernel_rfl) rfl ?_
          intro u5 hu5 _
          have OW9 := Lib.hid (own_below OW8.out hu5); have BL9 := Lib.hid (bw_tr BL8.out hu5)
          clear hu5
          go_wp2_with fail
          refine ⟨BL9.out, ?_⟩
          refine anyU_nil (by kernel_rfl) ?_
          intro u6 hu6 _
          have OW10 := Lib.hid (own_below OW9.out hu6); have BL10 := Lib.hid (bw_tr BL9.out hu6)
          clear hu6
          go_wp2_with fail
          go_meet
          case rel => exact ⟨g8, c8, congrArg (fun n => Value.slice g8 n c8) HN1.out, by have h := OW10.out; rw [HN1.out] at h; exact h, BL10.out⟩
        · intro u1 hu1 hc1
          have BL1 := Lib.hid (bw_tr hc1 (bel_new u1 (.cells #[.int .i64 y.kind, .int .i64 y.i.op, .int .i64 y.i.d, .int .i64 y.i.a, .int .i64 y.i.b, .int .i64 y.i.n, .string y.name, .int .i64 y.n] 26))); have LB1 := Lib.hid (new_in u1 (.cells #[.int .i64 y.kind, .int .i64 y.i.op, .int .i64 y.i.d, .int .i64 y.i.a, .int .i64 y.i.b, .int .i64 y.i.n, .string y.name, .int .i64 y.n] 26))
          clear hu1 hc1
          go_wp2_with fail
          refine ⟨BL1.out, ?_⟩
          refine anyU_one (i := 3) (by kernel_rfl) rfl ?_
          intro u2 hu2 _
          have BL0 := Lib.hid (bw_tr BL1.out hu2); have LB0 := Lib.hid (bel_in hu2 (lt_in LB1.out) LB1.out)
          clear hu2
          refine app_first rfl (.const (.slice none 0 0)) (.tmp 45) rfl W.heap.size (l.take k) k HTK.out rfl b4 o4 _ ((HIT.out.below BL0.out hltW).take k) rfl hk1 BL0.out.size ?_
          intro g1 c1 w1x hown1 hb1x
          have OW2 := Lib.hid hown1; have BL2 := Lib.hid (bw_tr BL0.out hb1x); have LB2 := Lib.hid (bel_in hb1x (lt_in LB0.out) LB0.out)
          clear hown1 hb1x
          go_wp2_with fail
          refine ⟨BL2.out, ?_⟩
          refine anyU_one (i := 9) (by kernel_rfl) rfl ?_
          intro u3 hu3 _
          have OW3 := Lib.hid (own_below OW2.out hu3); have BL3 := Lib.hid (bw_tr BL2.out hu3); have LB3 := Lib.hid (bel_in hu3 (lt_in LB2.out) LB2.out)
          clear hu3
          refine app_item rfl (.tmp 46) (.tmp 51) rfl W.heap.size _ (l.take k) y k HTK.out rfl OW3.out u1.heap.size LB3.out rfl hk1 BL3.out.size ?_
          intro g6 c6 w6 hown6 hgrow6
          have OW6 := Lib.hid hown6; have BL6 := Lib.hid (grown_bel BL3.out hgrow6 (fun g e => (OW3.out.lt g e).1))
          clear hown6 hgrow6
          go_wp2_with fail
          refine ⟨BL6.out, ?_⟩
          refine anyU_one (i := 13) (by kernel_rfl) rfl ?_
          intro u4 hu4 _
          have OW7 := Lib.hid (own_below OW6.out hu4); have BL7 := Lib.hid (bw_tr BL6.out hu4)
          clear hu4
          refine app_items rfl (.tmp 52) (.tmp 55) rfl W.heap.size _ (l.take k ++ [y]) (l.drop k) (k + 1) (l.length - k) (by simp; omega) HDK.out rfl OW7.out b4 (o4 + k * 8) _ (HDR.out u4 BL7.out) rfl hk2 BL7.out.size ?_
          intro g8 c8 w8 hown8 hgrow8
          have OW8 := Lib.hid hown8; have BL8 := Lib.hid (grown_bel BL7.out hgrow8 (fun g e => (OW7.out.lt g e).1))
          clear hown8 hgrow8
          go_wp2_with fail
          refine ⟨BL8.out, ?_⟩
          refine anyU_one (i := 14) (by kernel_rfl) rfl ?_
          intro u5 hu5 _
          have OW9 := Lib.hid (own_below OW8.out hu5); have BL9 := Lib.hid (bw_tr BL8.out hu5)
          clear hu5
          go_wp2_with fail
          refine ⟨BL9.out, ?_⟩
          refine anyU_nil (by kernel_rfl) ?_
          intro u6 hu6 _
          have OW10 := Lib.hid (own_below OW9.out hu6); have BL10 := Lib.hid (bw_tr BL9.out hu6)
          clear hu6
          go_wp2_with fail
          go_meet
          case rel => exact ⟨g8, c8, congrArg (fun n => Value.slice g8 n c8) HN1.out, by have h := OW10.out; rw [HN1.out] at h; exact h, BL10.out⟩
  case rest =>
    obtain ⟨g8, c8, rfl, ho8, hb8⟩ := hcut
    have HO8 := Lib.hid ho8; have HB8 := Lib.hid hb8
    clear ho8 hb8
    have HA8 : Hid (ArgS 8 itC wc (.slice g8 (l.length + 1) c8) (insAt l k y)) := Lib.hid (by
      have h := HO8.out
      rw [← HLEN.out] at h ⊢
      exact args_own h)
    have h3w : (q < 6) ∨ q = 6 ∨ q = 7 := by omega
    rcases h3w with hq6 | rfl | rfl
    · have HE : Hid (errOf (insAt l k y) = 1) := Lib.hid (wrong_arg hkl hlen (by rw [← HY.out]; exact bad_no q hq6))
      have HFD : Hid (findZ (insAt l k y) ⟨#[109, 97, 105, 110]⟩ = -1) := Lib.hid (by unfold findZ; rw [if_neg (by rw [HE.out]; decide)])
      have AM := Lib.hid (fun w' h => assemble_no w' (insAt l k y) (.slice g8 (l.length + 1) c8) h HNM.out 1 HE.out (by decide))
      have PM := Lib.hid (fun w' h => places_no w' (insAt l k y) (.slice g8 (l.length + 1) c8) h HNM.out 1 HE.out (by decide))
      have FM := Lib.hid (fun w' h => find_any w' (insAt l k y) (.slice g8 (l.length + 1) c8) ⟨#[109, 97, 105, 110]⟩ h HNM.out (by decide) (-1) HFD.out)
      have hqa : ((q : Int) == 6) = false := by simp; omega
      have hqb : ((q : Int) == 7) = false := by simp; omega
      clear hq6
      go_wp2_with fail
      with_reducible refine (AM.out _ HA8.out).mono ?_
      rintro e w10 ⟨rfl, hb10⟩
      have HA10 := Lib.hid (HA8.out.below hb10)
      have HB10 := Lib.hid (bw_tr HB8.out hb10)
      clear hb10
      go_wp2_with fail
      with_reducible refine (PM.out _ HA10.out).mono ?_
      rintro e w11 ⟨rfl, hb11⟩
      have HA11 := Lib.hid (HA10.out.below hb11)
      have HB11 := Lib.hid (bw_tr HB10.out hb11)
      clear hb11
      go_wp2_with fail
      with_reducible refine (FM.out _ HA11.out).mono ?_
      rintro e w12 ⟨rfl, hb12⟩
      go_wp2_with fail
      go_ret
      exact ⟨rfl, bw_tr BW.out (bw_tr HB11.out hb12)⟩
    · have HE : Hid (errOf (insAt l k y) = 30) := Lib.hid (by rw [← HY.out]; exact wrong_to hkl hlen HFF.out.all HFN.out)
      have HFD : Hid (findZ (insAt l k y) ⟨#[109, 97, 105, 110]⟩ = -1) := Lib.hid (by unfold findZ; rw [if_neg (by rw [HE.out]; decide)])
      have AM := Lib.hid (fun w' h => assemble_no w' (insAt l k y) (.slice g8 (l.length + 1) c8) h HNM.out 30 HE.out (by decide))
      have PM := Lib.hid (fun w' h => places_no w' (insAt l k y) (.slice g8 (l.length + 1) c8) h HNM.out 30 HE.out (by decide))
      have FM := Lib.hid (fun w' h => find_any w' (insAt l k y) (.slice g8 (l.length + 1) c8) ⟨#[109, 97, 105, 110]⟩ h HNM.out (by decide) (-1) HFD.out)
      go_wp2_with fail
      with_reducible refine (AM.out _ HA8.out).mono ?_
      rintro e w10 ⟨rfl, hb10⟩
      have HA10 := Lib.hid (HA8.out.below hb10)
      have HB10 := Lib.hid (bw_tr HB8.out hb10)
      clear hb10
      go_wp2_with fail
      with_reducible refine (PM.out _ HA10.out).mono ?_
      rintro e w11 ⟨rfl, hb11⟩
      have HA11 := Lib.hid (HA10.out.below hb11)
      have HB11 := Lib.hid (bw_tr HB10.out hb11)
      clear hb11
      go_wp2_with fail
      with_reducible refine (FM.out _ HA11.out).mono ?_
      rintro e w12 ⟨rfl, hb12⟩
      go_wp2_with fail
      go_ret
      exact ⟨rfl, bw_tr BW.out (bw_tr HB11.out hb12)⟩
    · have HE : Hid (errOf (insAt l k y ++ [y]) = 30) := Lib.hid (by rw [← HY.out]; exact wrong_twice hkl hlen HFF.out.all)
      have HFD : Hid (findZ (insAt l k y ++ [y]) ⟨#[109, 97, 105, 110]⟩ = -1) := Lib.hid (by unfold findZ; rw [if_neg (by rw [HE.out]; decide)])
      have AM := Lib.hid (fun w' v' h => assemble_no w' (insAt l k y ++ [y]) v' h HNM2.out 30 HE.out (by decide))
      have PM := Lib.hid (fun w' v' h => places_no w' (insAt l k y ++ [y]) v' h HNM2.out 30 HE.out (by decide))
      have FM := Lib.hid (fun w' v' h => find_any w' (insAt l k y ++ [y]) v' ⟨#[109, 97, 105, 110]⟩ h HNM2.out (by decide) (-1) HFD.out)
      have hbc : ∀ t u, (itC y)[t]? = some u → wc.cell? ⟨bb, 56 + t, none⟩ = some u := fun t u ht => (HB8.out.cell (p := ⟨bb, 56 + t, none⟩) hltB).trans (cell_in HXB.out (items_get badT 7 (by decide) t u (by rw [HY.out]; exact ht)))
      have z0 := hbc 0 _ rfl
      have z1 := hbc 1 _ rfl
      have z2 := hbc 2 _ rfl
      have z3 := hbc 3 _ rfl
      have z4 := hbc 4 _ rfl
      have z5 := hbc 5 _ rfl
      have z6 := hbc 6 _ rfl
      have z7 := hbc 7 _ rfl
      simp only [Nat.reduceAdd] at z0 z1 z2 z3 z4 z5 z6 z7
      clear hbc
      have hlB : bb < wc.heap.size := Nat.lt_of_lt_of_le hltB HB8.out.size
      have hl1 : l.length + 1 ≤ 100000 := by omega
      go_wp2_with (at_builtin; refine app_item rfl (.tmp 61) (.tmp 66) rfl W.heap.size _ (insAt l k y) y (l.length + 1) HLEN.out rfl (HO8.out.alloc _) wc.heap.size (new_in _ _) rfl hl1 (by (have := HB8.out.size; simp; omega)) ?_; intro g9 c9 w9 hown9 hgrow9; have HO9 := Lib.hid hown9; have HB9 := Lib.hid (grown_bel (bw_alloc HB8.out _) hgrow9 (fun g e => (HO8.out.lt g e).1)); clear hown9 hgrow9)
      have HA9 : Hid (ArgS 8 itC w9 (.slice g9 (l.length + 1 + 1) c9) (insAt l k y ++ [y])) := Lib.hid (by
        have h := HO9.out
        have hl2 : (insAt l k y ++ [y]).length = l.length + 1 + 1 := by rw [List.length_append, HLEN.out]; rfl
        rw [← hl2] at h ⊢
        exact args_own h)
      with_reducible refine (AM.out _ _ HA9.out).mono ?_
      rintro e w10 ⟨rfl, hb10⟩
      have HA10 := Lib.hid (HA9.out.below hb10)
      have HB10 := Lib.hid (bw_tr HB9.out hb10)
      clear hb10
      go_wp2_with fail
      with_reducible refine (PM.out _ _ HA10.out).mono ?_
      rintro e w11 ⟨rfl, hb11⟩
      have HA11 := Lib.hid (HA10.out.below hb11)
      have HB11 := Lib.hid (bw_tr HB10.out hb11)
      clear hb11
      go_wp2_with fail
      with_reducible refine (FM.out _ _ HA11.out).mono ?_
      rintro e w12 ⟨rfl, hb12⟩
      go_wp2_with fail
      go_ret
      exact ⟨rfl, bw_tr BW.out (bw_tr HB11.out hb12)⟩
end Go.Proofs.Ytfepdieeiplbnaa
