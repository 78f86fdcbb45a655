/-
  LabelIdle: a label to which nothing leads changes no word; it is found where it stands. No condition. (Printed by gen_idle.py.)
-/
import Derived.Test.YtfepdieeiplbnaaMovedA
import Derived.Test.YtfepdieeiplbnaaLabLay
namespace Go.Proofs.Ytfepdieeiplbnaa
open Go.RowKit
set_option linter.unusedSimpArgs false
section
variable {w : World} {ops : Array Oper} {rest : List Oper} {o : Oper} {a : Act} {Q : Exit → Act → World → Prop}
/-- Items appended to nothing. -/
theorem app_first (hgd : o.guard = none) (s x : Operand) (ho : o.op = .call { callee := .builtin .append, args := #[s, x], argTypes := #[22, 22] })
    (base : Nat) (y : List Itm) (m : Nat) (hm : y.length = m) (hs : a.eval s = .slice none 0 0) (B O c : Nat) (hB : ItemsAt w B O y) (hx : a.eval x = .slice (some ⟨B, O, none⟩) m c)
    (hl : m ≤ 100000) (hbase : base ≤ w.heap.size)
    (h : ∀ g c w', w'.ownsRow base 26 8 (.slice g m c) m (flatI y) → Below w.heap.size w w' → wpList Try.prog ops Q rest (a.put o.dst (.slice g m c)) w') : wpList Try.prog ops Q (o :: rest) a w := by
  refine app_items hgd s x ho base (.slice none 0 0) [] y 0 m rfl hm hs (World.ownsRow_nil _ _ _ _) B O c hB hx (by omega) hbase ?_
  intro g c w' hown hg
  rw [Nat.zero_add] at hown ⊢
  exact h g c w' hown (grown_up0 hg)
end
theorem ItemsAt.take {w : World} {b o : Nat} {l : List Itm} (h : ItemsAt w b o l) (k : Nat) : ItemsAt w b o (l.take k) := by
  intro i hi t u ht
  have h1 : i < k := by have := List.length_take_le k l; omega
  have h2 : i < l.length := by have := List.length_take_le' k l; omega
  refine h i h2 t u ?_
  rw [it_at hi, List.getElem_take] at ht
  rw [it_at h2]; exact ht
theorem ItemsAt.drop {w : World} {b o : Nat} {l : List Itm} (h : ItemsAt w b o l) (k : Nat) : ItemsAt w b (o + k * 8) (l.drop k) := by
  intro i hi t u ht
  have h2 : k + i < l.length := by simp at hi; omega
  rw [it_at hi, List.getElem_drop] at ht
  have := h (k + i) h2 t u (by rw [it_at h2]; exact ht)
  rw [show o + k * 8 + i * 8 + t = o + (k + i) * 8 + t by omega]; exact this
theorem ItemsAt.nil {w : World} {b o : Nat} {l : List Itm} (h : l = []) : ItemsAt w b o l := by
  subst h
  intro i hi
  simp at hi
def idleS : ByteArray := ⟨#[105, 100, 108, 101, 33]⟩
theorem idle_free (raw : List Itm) : ∀ i, i < (fitL raw).length → (it (fitL raw) i).kind = 2 → (it (fitL raw) i).name ≠ idleS := by
  intro i hi h2
  have hn := fitL_names raw i hi h2
  intro he
  rw [he] at hn
  have : idleS ∉ endS :: nameT := by decide +kernel
  exact this hn
theorem find_idle {l : List Itm} (he : errOf l = 0) (hn : ∀ i, i < l.length → (it l i).kind = 2 → (it l i).name ≠ idleS) : findZ l idleS = -1 := by
  unfold findZ
  rw [if_pos he]
  cases h : labI l idleS with
  | none => rfl
  | some j =>
    obtain ⟨a, b, c⟩ := mp_some h
    exact absurd c (hn j a b)
set_option maxRecDepth 100000 in
set_option maxHeartbeats 16000000 in
theorem walkLabelIdle (v : Value) (raw : List Itm) (at_ : Int) (w : World) (HL : ArgS 8 itC w v raw) (HO : ∀ x ∈ raw, ok_item x) (hat : I64 at_) :
    Calls Try.prog 7 #[v, .int .i64 at_] w fun e w' => e = .returned (.bool true) ∧ Below w.heap.size w w' := by
  obtain ⟨l, hl⟩ : ∃ l, fitL raw = l := ⟨_, rfl⟩
  have HF := hl ▸ fitted raw
  have hpos : 0 < l.length := by rw [← hl]; exact fit_pos raw
  have hfree := idle_free raw
  have hplb : pl l (longF l) l.length ≤ 80000 := by
    have := fitL_pl raw (longF (fitL raw)) _ (Nat.le_refl _)
    have h2 := HF.len
    rw [hl] at this; omega
  rw [hl] at hfree
  have FT := Lib.hid (fun w' hb => fit_law w' raw v (HL.below hb) HO l hl)
  have AW := Lib.hid (fun w => awake03 w)
  have hlen := HF.len
  have hpb := pickN_bd at_ (l.length + 1) (by omega)
  obtain ⟨k, hk⟩ : ∃ k : Nat, pickN at_ (l.length + 1) = k := ⟨(pickN at_ (l.length + 1)).toNat, by omega⟩
  have PK := Lib.hid (fun w => pick03 at_ (l.length + 1) w hat (by omega) k hk)
  rw [hk] at hpb
  have hkl : k ≤ l.length := by omega
  clear hk hpb hat
  have HFF := Lib.hid HF; have HFR := Lib.hid hfree
  have HEM := Lib.hid (emb_idle hkl HF.known hfree)
  have HLEN : Hid ((insAt l k (labX idleS)).length = l.length + 1) := Lib.hid (insAt_len _ _ _ hkl)
  have HPL : Hid (∀ i, k ≤ i → i ≤ l.length → pl (insAt l k (labX idleS)) (longF (insAt l k (labX idleS))) (i + 1) = pl l (longF l) i) := Lib.hid (fun i h1 h2 => (pl_idle (nm := idleS) hkl l.length HEM.out.long_ (fun _ => long_to)).2 i h1 h2)
  have HPK : Hid (pl (insAt l k (labX idleS)) (longF (insAt l k (labX idleS))) k = pl l (longF l) k) := Lib.hid ((pl_idle (nm := idleS) hkl l.length HEM.out.long_ (fun _ => long_to)).1 k (Nat.le_refl _) hkl)
  have HALL : Hid (allB (insAt l k (labX idleS))) := Lib.hid (all_idle hkl HF.all (by decide +kernel))
  have HERR : Hid (errOf (insAt l k (labX idleS)) = 0) := Lib.hid (err_ok (by rw [HLEN.out]; omega) HALL.out (known_idle hkl HF.known hfree) (by rw [HLEN.out, HPL.out l.length hkl (Nat.le_refl _)]; omega))
  have HNM : Hid (NamesOK (insAt l k (labX idleS))) := Lib.hid (namesOK_all HALL.out)
  have HWD : Hid (wordsOf (insAt l k (labX idleS)) = wordsOf l) := Lib.hid (by unfold wordsOf wordsTo; rw [HLEN.out, insTo_idle hkl HEM.out])
  have HFM : Hid (findZ (insAt l k (labX idleS)) idleS = pl l (longF l) k) := Lib.hid (by unfold findZ; rw [if_pos HERR.out, labI_self hkl hfree]; exact HPK.out)
  have HFL : Hid (findZ l idleS = -1) := Lib.hid (find_idle HF.err hfree)
  have HEND : Hid (pl l (longF l) l.length = 4 * (wordsOf l).length) := Lib.hid (by
    have := insTo_len HF.all (longF l) (fun _ => long_to) l.length (Nat.le_refl _)
    unfold wordsOf wordsTo; rw [List.length_map]; exact this.symm)
  clear HL HO hl HF hplb hfree
  go_enter Try.func7, Try.ntmps7
  go_wp2_with fail
  with_reducible refine (AW.out _).mono ?_
  rintro e w1 ⟨rfl, hb1⟩
  go_wp2_with fail
  with_reducible refine (FT.out _ hb1).mono ?_
  rintro e w2 ⟨a4, c4, rfl, ha2, _, hb2⟩
  have HA2 := Lib.hid ha2
  have B2 := Lib.hid (bw_tr hb1 hb2)
  obtain ⟨b4, o4, ha4, hlt4, hit4⟩ := itemsAt_args ha2 hpos
  have hlc := (items_len ha2).2
  subst ha4
  have HIT := Lib.hid hit4
  have hcm := hlc.2
  have hnc := hlc.1
  unfold maxLen at hcm
  clear ha2 hb1 hb2 hit4 hlc
  go_wp2_with (go_at_call 13; ((with_reducible refine (PK.out _).mono ?_); rintro e w' ⟨rfl, rfl⟩))
  go_upto_region 4 with (fail)
  go_cut [8] (fun s8 wx => ∃ g c, s8 = .slice g (l.length + 1) c ∧ wx.ownsRow w2.heap.size 26 8 (.slice g (l.length + 1) c) (l.length + 1) (flatI (insAt l k (labX idleS))) ∧ Below w2.heap.size w2 wx)
  case first =>
    have HN1 : Hid (k + 1 + (l.length - k) = l.length + 1) := Lib.hid (by omega)
    have hk1 : k ≤ 100000 := by omega
    have hk2 : k + 1 + (l.length - k) ≤ 100000 := by omega
    have HTK : Hid ((l.take k).length = k) := Lib.hid (by simp; omega)
    have HDK : Hid ((l.drop k).length = l.length - k) := Lib.hid (by simp)
    by_cases hkc : k = c4
    case pos =>
      have hkn : k = l.length := by omega
      subst hkc
      have HDR : Hid (∀ u, Below w2.heap.size w2 u → ItemsAt u b4 o4 (l.drop k)) := Lib.hid (fun u hu => ItemsAt.nil (by rw [hkn]; simp))
      have HKN := Lib.hid hkn
      have HD0 : Hid ((l.drop k).length = 0) := Lib.hid (by simp; omega)
      have HN0 : Hid (k + 1 + 0 = l.length + 1) := Lib.hid (by omega)
      have hk20 : k + 1 + 0 ≤ 100000 := by omega
      clear hkn

      refine wp_region_up (fun _ => True) [true, true, true, false, true, false, false, true, true, true] (by kernel_rfl) (by kernel_rfl) (by kernel_rfl) (fun _ _ _ _ => trivial) trivial ?rapos ?rhpos ?rtpos
      case rhpos =>
        intro w0 _
        simp only [pickM]
        repeat (go_big_quiet_step (fail))
        refine wpQuiet_nil ?_
        rfl
      case rtpos =>
        change wpAnyU _ _ _ _ _ 5 _ _ _
        refine anyU_two (i := 3) (k := 5) (by kernel_rfl) rfl rfl ?_ ?_
        · intro u1 hu1 _
          have BL0 := Lib.hid (bw_undrew hu1)
          clear hu1
          refine app_first rfl (.const (.slice none 0 0)) (.tmp 27) rfl w2.heap.size (l.take k) k HTK.out rfl b4 o4 _ ((HIT.out.below BL0.out hlt4).take k) rfl hk1 BL0.out.size ?_
          intro g1 c1 w1x hown1 hb1x
          have OW1 := Lib.hid hown1; have BL1 := Lib.hid (bw_tr BL0.out hb1x)
          clear hown1 hb1x
          go_wp2_with fail
          refine ⟨trivial, ?_⟩
          refine anyU_one (i := 5) (by kernel_rfl) rfl ?_
          intro u2 hu2 _
          have OW2 := Lib.hid (own_below OW1.out (bw_tr hu2 (bel_new u2 (.cells #[.int .i64 2, .int .i64 0, .int .i64 0, .int .i64 0, .int .i64 0, .int .i64 0, .string ⟨#[105, 100, 108, 101, 33]⟩, .int .i64 0] 26)))); have BL2 := Lib.hid (bw_tr BL1.out (bw_tr hu2 (bel_new u2 (.cells #[.int .i64 2, .int .i64 0, .int .i64 0, .int .i64 0, .int .i64 0, .int .i64 0, .string ⟨#[105, 100, 108, 101, 33]⟩, .int .i64 0] 26)))); have LB2 := Lib.hid (new_in u2 (.cells #[.int .i64 2, .int .i64 0, .int .i64 0, .int .i64 0, .int .i64 0, .int .i64 0, .string ⟨#[105, 100, 108, 101, 33]⟩, .int .i64 0] 26))
          clear hu2
          go_wp2_with fail
          refine ⟨trivial, ?_⟩
          refine anyU_one (i := 6) (by kernel_rfl) rfl ?_
          intro u3 hu3 _
          have OW3 := Lib.hid (own_below OW2.out hu3); have BL3 := Lib.hid (bw_tr BL2.out hu3); have LB3 := Lib.hid (bel_in hu3 (lt_in LB2.out) LB2.out)
          clear hu3
          refine app_item rfl (.tmp 28) (.tmp 30) rfl w2.heap.size _ (l.take k) (labX idleS) k HTK.out rfl OW3.out u2.heap.size LB3.out rfl hk1 BL3.out.size ?_
          intro g6 c6 w6 hown6 hgrow6
          have OW6 := Lib.hid hown6; have BL6 := Lib.hid (grown_bel BL3.out hgrow6 (fun g e => (OW3.out.lt g e).1))
          clear hown6 hgrow6
          go_wp2_with fail
          refine ⟨trivial, ?_⟩
          refine anyU_one (i := 10) (by kernel_rfl) rfl ?_
          intro u4 hu4 _
          have OW7 := Lib.hid (own_below OW6.out hu4); have BL7 := Lib.hid (bw_tr BL6.out hu4)
          clear hu4
          refine app_items rfl (.tmp 31) (.tmp 34) rfl w2.heap.size _ (l.take k ++ [labX idleS]) (l.drop k) (k + 1) 0 (by simp; omega) HD0.out rfl OW7.out b4 o4 _ (HDR.out u4 BL7.out) rfl hk20 BL7.out.size ?_
          intro g8 c8 w8 hown8 hgrow8
          have OW8 := Lib.hid hown8; have BL8 := Lib.hid (grown_bel BL7.out hgrow8 (fun g e => (OW7.out.lt g e).1))
          clear hown8 hgrow8
          go_wp2_with fail
          refine ⟨trivial, ?_⟩
          refine anyU_one (i := 11) (by kernel_rfl) rfl ?_
          intro u5 hu5 _
          have OW9 := Lib.hid (own_below OW8.out hu5); have BL9 := Lib.hid (bw_tr BL8.out hu5)
          clear hu5
          go_wp2_with fail
          refine ⟨trivial, ?_⟩
          refine anyU_nil (by kernel_rfl) ?_
          intro u6 hu6 _
          have OW10 := Lib.hid (own_below OW9.out hu6); have BL10 := Lib.hid (bw_tr BL9.out hu6)
          clear hu6
          go_wp2_with fail
          go_meet
          case rel => exact ⟨g8, c8, congrArg (fun n => Value.slice g8 n c8) HN0.out, by have h := OW10.out; rw [HN0.out] at h; exact h, BL10.out⟩
        · intro u1 hu1 _
          have BL1 := Lib.hid (bw_tr (bw_undrew hu1) (bel_new u1 (.cells #[.int .i64 2, .int .i64 0, .int .i64 0, .int .i64 0, .int .i64 0, .int .i64 0, .string ⟨#[105, 100, 108, 101, 33]⟩, .int .i64 0] 26))); have LB1 := Lib.hid (new_in u1 (.cells #[.int .i64 2, .int .i64 0, .int .i64 0, .int .i64 0, .int .i64 0, .int .i64 0, .string ⟨#[105, 100, 108, 101, 33]⟩, .int .i64 0] 26))
          clear hu1
          go_wp2_with fail
          refine ⟨trivial, ?_⟩
          refine anyU_one (i := 3) (by kernel_rfl) rfl ?_
          intro u2 hu2 _
          have BL0 := Lib.hid (bw_tr BL1.out hu2); have LB0 := Lib.hid (bel_in hu2 (lt_in LB1.out) LB1.out)
          clear hu2
          refine app_first rfl (.const (.slice none 0 0)) (.tmp 27) rfl w2.heap.size (l.take k) k HTK.out rfl b4 o4 _ ((HIT.out.below BL0.out hlt4).take k) rfl hk1 BL0.out.size ?_
          intro g1 c1 w1x hown1 hb1x
          have OW2 := Lib.hid hown1; have BL2 := Lib.hid (bw_tr BL0.out hb1x); have LB2 := Lib.hid (bel_in hb1x (lt_in LB0.out) LB0.out)
          clear hown1 hb1x
          go_wp2_with fail
          refine ⟨trivial, ?_⟩
          refine anyU_one (i := 6) (by kernel_rfl) rfl ?_
          intro u3 hu3 _
          have OW3 := Lib.hid (own_below OW2.out hu3); have BL3 := Lib.hid (bw_tr BL2.out hu3); have LB3 := Lib.hid (bel_in hu3 (lt_in LB2.out) LB2.out)
          clear hu3
          refine app_item rfl (.tmp 28) (.tmp 30) rfl w2.heap.size _ (l.take k) (labX idleS) k HTK.out rfl OW3.out u1.heap.size LB3.out rfl hk1 BL3.out.size ?_
          intro g6 c6 w6 hown6 hgrow6
          have OW6 := Lib.hid hown6; have BL6 := Lib.hid (grown_bel BL3.out hgrow6 (fun g e => (OW3.out.lt g e).1))
          clear hown6 hgrow6
          go_wp2_with fail
          refine ⟨trivial, ?_⟩
          refine anyU_one (i := 10) (by kernel_rfl) rfl ?_
          intro u4 hu4 _
          have OW7 := Lib.hid (own_below OW6.out hu4); have BL7 := Lib.hid (bw_tr BL6.out hu4)
          clear hu4
          refine app_items rfl (.tmp 31) (.tmp 34) rfl w2.heap.size _ (l.take k ++ [labX idleS]) (l.drop k) (k + 1) 0 (by simp; omega) HD0.out rfl OW7.out b4 o4 _ (HDR.out u4 BL7.out) rfl hk20 BL7.out.size ?_
          intro g8 c8 w8 hown8 hgrow8
          have OW8 := Lib.hid hown8; have BL8 := Lib.hid (grown_bel BL7.out hgrow8 (fun g e => (OW7.out.lt g e).1))
          clear hown8 hgrow8
          go_wp2_with fail
          refine ⟨trivial, ?_⟩
          refine anyU_one (i := 11) (by kernel_rfl) rfl ?_
          intro u5 hu5 _
          have OW9 := Lib.hid (own_below OW8.out hu5); have BL9 := Lib.hid (bw_tr BL8.out hu5)
          clear hu5
          go_wp2_with fail
          refine ⟨trivial, ?_⟩
          refine anyU_nil (by kernel_rfl) ?_
          intro u6 hu6 _
          have OW10 := Lib.hid (own_below OW9.out hu6); have BL10 := Lib.hid (bw_tr BL9.out hu6)
          clear hu6
          go_wp2_with fail
          go_meet
          case rel => exact ⟨g8, c8, congrArg (fun n => Value.slice g8 n c8) HN0.out, by have h := OW10.out; rw [HN0.out] at h; exact h, BL10.out⟩
    case neg =>
      have HDR : Hid (∀ u, Below w2.heap.size w2 u → ItemsAt u b4 (o4 + k * 8) (l.drop k)) := Lib.hid (fun u hu => (HIT.out.below hu hlt4).drop k)
      have hkc2 : k < c4 := by omega
      refine wp_region_up (fun _ => True) [true, true, true, false, true, false, false, true, true, true] (by kernel_rfl) (by kernel_rfl) (by kernel_rfl) (fun _ _ _ _ => trivial) trivial ?raneg ?rhneg ?rtneg
      case rhneg =>
        intro w0 _
        simp only [pickM]
        repeat (go_big_quiet_step (fail))
        refine wpQuiet_nil ?_
        rfl
      case rtneg =>
        change wpAnyU _ _ _ _ _ 5 _ _ _
        refine anyU_two (i := 3) (k := 5) (by kernel_rfl) rfl rfl ?_ ?_
        · intro u1 hu1 _
          have BL0 := Lib.hid (bw_undrew hu1)
          clear hu1
          refine app_first rfl (.const (.slice none 0 0)) (.tmp 27) rfl w2.heap.size (l.take k) k HTK.out rfl b4 o4 _ ((HIT.out.below BL0.out hlt4).take k) rfl hk1 BL0.out.size ?_
          intro g1 c1 w1x hown1 hb1x
          have OW1 := Lib.hid hown1; have BL1 := Lib.hid (bw_tr BL0.out hb1x)
          clear hown1 hb1x
          go_wp2_with fail
          refine ⟨trivial, ?_⟩
          refine anyU_one (i := 5) (by kernel_rfl) rfl ?_
          intro u2 hu2 _
          have OW2 := Lib.hid (own_below OW1.out (bw_tr hu2 (bel_new u2 (.cells #[.int .i64 2, .int .i64 0, .int .i64 0, .int .i64 0, .int .i64 0, .int .i64 0, .string ⟨#[105, 100, 108, 101, 33]⟩, .int .i64 0] 26)))); have BL2 := Lib.hid (bw_tr BL1.out (bw_tr hu2 (bel_new u2 (.cells #[.int .i64 2, .int .i64 0, .int .i64 0, .int .i64 0, .int .i64 0, .int .i64 0, .string ⟨#[105, 100, 108, 101, 33]⟩, .int .i64 0] 26)))); have LB2 := Lib.hid (new_in u2 (.cells #[.int .i64 2, .int .i64 0, .int .i64 0, .int .i64 0, .int .i64 0, .int .i64 0, .string ⟨#[105, 100, 108, 101, 33]⟩, .int .i64 0] 26))
          clear hu2
          go_wp2_with fail
          refine ⟨trivial, ?_⟩
          refine anyU_one (i := 6) (by kernel_rfl) rfl ?_
          intro u3 hu3 _
          have OW3 := Lib.hid (own_below OW2.out hu3); have BL3 := Lib.hid (bw_tr BL2.out hu3); have LB3 := Lib.hid (bel_in hu3 (lt_in LB2.out) LB2.out)
          clear hu3
          refine app_item rfl (.tmp 28) (.tmp 30) rfl w2.heap.size _ (l.take k) (labX idleS) k HTK.out rfl OW3.out u2.heap.size LB3.out rfl hk1 BL3.out.size ?_
          intro g6 c6 w6 hown6 hgrow6
          have OW6 := Lib.hid hown6; have BL6 := Lib.hid (grown_bel BL3.out hgrow6 (fun g e => (OW3.out.lt g e).1))
          clear hown6 hgrow6
          go_wp2_with fail
          refine ⟨trivial, ?_⟩
          refine anyU_one (i := 10) (by kernel_rfl) rfl ?_
          intro u4 hu4 _
          have OW7 := Lib.hid (own_below OW6.out hu4); have BL7 := Lib.hid (bw_tr BL6.out hu4)
          clear hu4
          refine app_items rfl (.tmp 31) (.tmp 34) rfl w2.heap.size _ (l.take k ++ [labX idleS]) (l.drop k) (k + 1) (l.length - k) (by simp; omega) HDK.out rfl OW7.out b4 (o4 + k * 8) _ (HDR.out u4 BL7.out) rfl hk2 BL7.out.size ?_
          intro g8 c8 w8 hown8 hgrow8
          have OW8 := Lib.hid hown8; have BL8 := Lib.hid (grown_bel BL7.out hgrow8 (fun g e => (OW7.out.lt g e).1))
          clear hown8 hgrow8
          go_wp2_with fail
          refine ⟨trivial, ?_⟩
          refine anyU_one (i := 11) (by kernel_rfl) rfl ?_
          intro u5 hu5 _
          have OW9 := Lib.hid (own_below OW8.out hu5); have BL9 := Lib.hid (bw_tr BL8.out hu5)
          clear hu5
          go_wp2_with fail
          refine ⟨trivial, ?_⟩
          refine anyU_nil (by kernel_rfl) ?_
          intro u6 hu6 _
          have OW10 := Lib.hid (own_below OW9.out hu6); have BL10 := Lib.hid (bw_tr BL9.out hu6)
          clear hu6
          go_wp2_with fail
          go_meet
          case rel => exact ⟨g8, c8, congrArg (fun n => Value.slice g8 n c8) HN1.out, by have h := OW10.out; rw [HN1.out] at h; exact h, BL10.out⟩
        · intro u1 hu1 _
          have BL1 := Lib.hid (bw_tr (bw_undrew hu1) (bel_new u1 (.cells #[.int .i64 2, .int .i64 0, .int .i64 0, .int .i64 0, .int .i64 0, .int .i64 0, .string ⟨#[105, 100, 108, 101, 33]⟩, .int .i64 0] 26))); have LB1 := Lib.hid (new_in u1 (.cells #[.int .i64 2, .int .i64 0, .int .i64 0, .int .i64 0, .int .i64 0, .int .i64 0, .string ⟨#[105, 100, 108, 101, 33]⟩, .int .i64 0] 26))
          clear hu1
          go_wp2_with fail
          refine ⟨trivial, ?_⟩
          refine anyU_one (i := 3) (by kernel_rfl) rfl ?_
          intro u2 hu2 _
          have BL0 := Lib.hid (bw_tr BL1.out hu2); have LB0 := Lib.hid (bel_in hu2 (lt_in LB1.out) LB1.out)
          clear hu2
          refine app_first rfl (.const (.slice none 0 0)) (.tmp 27) rfl w2.heap.size (l.take k) k HTK.out rfl b4 o4 _ ((HIT.out.below BL0.out hlt4).take k) rfl hk1 BL0.out.size ?_
          intro g1 c1 w1x hown1 hb1x
          have OW2 := Lib.hid hown1; have BL2 := Lib.hid (bw_tr BL0.out hb1x); have LB2 := Lib.hid (bel_in hb1x (lt_in LB0.out) LB0.out)
          clear hown1 hb1x
          go_wp2_with fail
          refine ⟨trivial, ?_⟩
          refine anyU_one (i := 6) (by kernel_rfl) rfl ?_
          intro u3 hu3 _
          have OW3 := Lib.hid (own_below OW2.out hu3); have BL3 := Lib.hid (bw_tr BL2.out hu3); have LB3 := Lib.hid (bel_in hu3 (lt_in LB2.out) LB2.out)
          clear hu3
          refine app_item rfl (.tmp 28) (.tmp 30) rfl w2.heap.size _ (l.take k) (labX idleS) k HTK.out rfl OW3.out u1.heap.size LB3.out rfl hk1 BL3.out.size ?_
          intro g6 c6 w6 hown6 hgrow6
          have OW6 := Lib.hid hown6; have BL6 := Lib.hid (grown_bel BL3.out hgrow6 (fun g e => (OW3.out.lt g e).1))
          clear hown6 hgrow6
          go_wp2_with fail
          refine ⟨trivial, ?_⟩
          refine anyU_one (i := 10) (by kernel_rfl) rfl ?_
          intro u4 hu4 _
          have OW7 := Lib.hid (own_below OW6.out hu4); have BL7 := Lib.hid (bw_tr BL6.out hu4)
          clear hu4
          refine app_items rfl (.tmp 31) (.tmp 34) rfl w2.heap.size _ (l.take k ++ [labX idleS]) (l.drop k) (k + 1) (l.length - k) (by simp; omega) HDK.out rfl OW7.out b4 (o4 + k * 8) _ (HDR.out u4 BL7.out) rfl hk2 BL7.out.size ?_
          intro g8 c8 w8 hown8 hgrow8
          have OW8 := Lib.hid hown8; have BL8 := Lib.hid (grown_bel BL7.out hgrow8 (fun g e => (OW7.out.lt g e).1))
          clear hown8 hgrow8
          go_wp2_with fail
          refine ⟨trivial, ?_⟩
          refine anyU_one (i := 11) (by kernel_rfl) rfl ?_
          intro u5 hu5 _
          have OW9 := Lib.hid (own_below OW8.out hu5); have BL9 := Lib.hid (bw_tr BL8.out hu5)
          clear hu5
          go_wp2_with fail
          refine ⟨trivial, ?_⟩
          refine anyU_nil (by kernel_rfl) ?_
          intro u6 hu6 _
          have OW10 := Lib.hid (own_below OW9.out hu6); have BL10 := Lib.hid (bw_tr BL9.out hu6)
          clear hu6
          go_wp2_with fail
          go_meet
          case rel => exact ⟨g8, c8, congrArg (fun n => Value.slice g8 n c8) HN1.out, by have h := OW10.out; rw [HN1.out] at h; exact h, BL10.out⟩
  case rest =>
    obtain ⟨g8, c8, rfl, ho8, hb8⟩ := hcut
    have HO8 := Lib.hid ho8; have HB8 := Lib.hid hb8
    clear ho8 hb8
    have AL := Lib.hid (fun w' v' h => assemble_yes w' l v' h HFF.out.nms HFF.out.err)
    have AM := Lib.hid (fun w' v' h => assemble_yes w' (insAt l k (labX idleS)) v' h HNM.out HERR.out)
    have PL := Lib.hid (fun w' v' h => places_yes w' l v' h HFF.out.nms HFF.out.err)
    have FM := Lib.hid (fun w' v' h z hz => find_any w' (insAt l k (labX idleS)) v' ⟨#[105, 100, 108, 101, 33]⟩ h HNM.out (by decide) z hz)
    have FL := Lib.hid (fun w' v' h z hz => find_any w' l v' ⟨#[105, 100, 108, 101, 33]⟩ h HFF.out.nms (by decide) z hz)
    rw [HWD.out] at AM
    obtain ⟨ws, hws⟩ : ∃ ws, wordsOf l = ws := ⟨_, rfl⟩
    rw [hws] at AL AM HEND
    have HW4 : Hid (ws.length ≤ 65536) := Lib.hid (by rw [← hws]; exact wordsTo_len HFF.out.err _ (Nat.le_refl _))
    have hwl := HW4.out
    clear hws
    have HA8 : Hid (ArgS 8 itC wc (.slice g8 (l.length + 1) c8) (insAt l k (labX idleS))) := Lib.hid (by
      have h := HO8.out
      rw [← HLEN.out] at h ⊢
      exact args_own h)
    go_wp2_with fail
    with_reducible refine (AL.out _ _ (HA2.out.below HB8.out)).mono ?_
    rintro e w9 ⟨vw, rfl, how, hb9⟩
    obtain ⟨aw, cw, rfl⟩ := own_shape how
    have HOW := Lib.hid how; have HA9 := Lib.hid (HA8.out.below hb9); have HB9 := Lib.hid (bw_tr HB8.out hb9)
    clear how hb9
    go_wp2_with fail
    with_reducible refine (AM.out _ _ HA9.out).mono ?_
    rintro e w10 ⟨vm, rfl, hom, hb10⟩
    obtain ⟨am, cm, rfl⟩ := own_shape hom
    have HOM := Lib.hid hom; have HOW10 := Lib.hid (own_below HOW.out hb10); have HA10 := Lib.hid (HA9.out.below hb10); have HB10 := Lib.hid (bw_tr HB9.out hb10)
    clear hom hb10
    go_wp2_with fail
    with_reducible refine (PL.out _ _ (HA2.out.below HB10.out)).mono ?_
    rintro e w11 ⟨A, rfl, hA, _, hb11⟩
    have HP11 := Lib.hid hA; have HOM11 := Lib.hid (own_below HOM.out hb11); have HOW11 := Lib.hid (own_below HOW10.out hb11); have HA11 := Lib.hid (HA10.out.below hb11); have HB11 := Lib.hid (bw_tr HB10.out hb11)
    clear hA hb11
    have q1 : (((ws.length : Nat) : Int) != ((ws.length : Nat) : Int)) = false := by simp
    go_wp2_with fail
    go_loopw [15] (fun i wr => ∃ j : Nat, j ≤ ws.length ∧ i = .int .i64 j ∧ Below w11.heap.size w11 wr) (fun i _ => ws.length - (intOf i).toNat)
    case atStart => exact ⟨0, by omega, rfl, Below.refl _ _⟩
    case round =>
      obtain ⟨j, hj, rfl, hb⟩ := hrel
      have HBR := Lib.hid hb
      clear hb
      by_cases hjl : j < ws.length
      case pos =>
        obtain ⟨g1, cc1, hv1, hg1, _, hc1⟩ := row_cells HOW11.out (by omega)
        obtain ⟨g2, cc2, hv2, hg2, _, hc2⟩ := row_cells HOM11.out (by omega)
        injection hv1 with hv1 e1 e2
        injection hv2 with hv2 e3 e4
        subst hv1 hv2
        clear e1 e2 e3 e4
        obtain ⟨x, hx⟩ : ∃ x, ws[j] = x := ⟨_, rfl⟩
        have m1 : wr.cell? ⟨g1, j, none⟩ = some (.int .i64 x) := (HBR.out.cell (p := ⟨g1, j, none⟩) hg1).trans (hc1 j _ (by simp [intsC, hjl, hx]))
        have m2 : wr.cell? ⟨g2, j, none⟩ = some (.int .i64 x) := (HBR.out.cell (p := ⟨g2, j, none⟩) hg2).trans (hc2 j _ (by simp [intsC, hjl, hx]))
        have hsr := HBR.out.size
        clear hc1 hc2 hx
        go_wp2_with fail
        have y1 := wd_cell (show g1 < wr.heap.size by omega) m1
        have y2 := wd_cell (show g2 < wr.heap.size by omega) m2
        have hx1 : (x != x) = false := by simp
        refine wp_region_below (by kernel_rfl) (by kernel_rfl) ?_
        repeat (go_big_quiet_step (fail))
        refine wpQuiet_nil ?_
        rintro w12 ⟨⟨w12x, hb12⟩, rfl⟩
        have HB12 := Lib.hid hb12
        clear y1 y2 hx1 hb12 m1 m2
        go_wp2_with fail
        exact ⟨⟨j + 1, by omega, by go_num, bw_tr HBR.out HB12.out⟩, by simp [intOf]; omega⟩
      case neg =>
        have HAR := Lib.hid (HA11.out.below HBR.out)
        have HLR := Lib.hid (HA2.out.below (bw_tr HB11.out HBR.out))
        have e0f : k < l.length + 1 → wr.cell? ⟨A, k, none⟩ = some (.int .i64 (pl l (longF l) k)) := fun h => (HBR.out.cell (p := ⟨A, k, none⟩) (lt_in HP11.out)).trans (cell_in HP11.out (cellsZ_get _ h))
        have e0 := e0f (by omega)
        clear e0f
        have hpk := pl_bd HFF.out.all (longF l) k hkl
        by_cases hkk : k < l.length
        case pos =>
          have FM1 := Lib.hid (fun w' v' h => FM.out w' v' h (pl l (longF l) k) HFM.out)
          have FL1 := Lib.hid (fun w' v' h => FL.out w' v' h (-1) HFL.out)
          obtain ⟨z, hz⟩ : ∃ z, pl l (longF l) k = z := ⟨_, rfl⟩
          rw [hz] at FM1 e0
          clear hz hpk
          go_wp2_with fail
          with_reducible refine (FM1.out _ _ HAR.out).mono ?_
          rintro e w15 ⟨rfl, hb15⟩
          have HL15 := Lib.hid (HLR.out.below hb15)
          have HB15 := Lib.hid (bw_tr HBR.out hb15)
          clear hb15
          have hzz : (z == z) = true := by simp
          go_wp2_with fail
          with_reducible refine (FL1.out _ _ HL15.out).mono ?_
          rintro e w16 ⟨rfl, hb16⟩
          go_wp2_with fail
          go_ret
          exact ⟨rfl, bw_tr B2.out (bw_tr HB11.out (bw_tr HB15.out hb16))⟩
        case neg =>
          obtain rfl : k = l.length := by omega
          have FM1 := Lib.hid (fun w' v' h => FM.out w' v' h (4 * (ws.length : Int)) (HFM.out.trans HEND.out))
          have FL1 := Lib.hid (fun w' v' h => FL.out w' v' h (-1) HFL.out)
          clear e0 hpk
          go_wp2_with fail
          with_reducible refine (FM1.out _ _ HAR.out).mono ?_
          rintro e w15 ⟨rfl, hb15⟩
          have HL15 := Lib.hid (HLR.out.below hb15)
          have HB15 := Lib.hid (bw_tr HBR.out hb15)
          clear hb15
          have hzz : (4 * (ws.length : Int) == 4 * (ws.length : Int)) = true := by simp
          go_wp2_with fail
          with_reducible refine (FL1.out _ _ HL15.out).mono ?_
          rintro e w16 ⟨rfl, hb16⟩
          go_wp2_with fail
          go_ret
          exact ⟨rfl, bw_tr B2.out (bw_tr HB11.out (bw_tr HB15.out hb16))⟩
end Go.Proofs.Ytfepdieeiplbnaa
