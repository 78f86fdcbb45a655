/-
  The walk of the law DeviceOrder.
-/
import Derived.Test.YtodcmmdobnjbbaaLaws10
namespace Go.Proofs.Ytodcmmdobnjbbaa
open Go.RowKit
theorem and_one (x : Int) : bits .and .i64 x 1 = x % 2 := by
  have e : bits .and .i64 x 1 = (BitVec.ofInt 64 x &&& BitVec.ofInt 64 1).toInt := wrap_i64_nat _
  rw [e, BitVec.toInt_eq_toNat_bmod, BitVec.toNat_and, BitVec.toNat_ofInt, BitVec.toNat_ofInt]
  rw [show ((1 : Int) % (2 ^ 64 : Nat)).toNat = 1 from rfl, Nat.and_one_is_mod]
  unfold Int.bmod; simp only [Nat.reducePow]; omega
theorem odd_eq (c : Int) : (bits .and .i64 (wrap32 c) 1 != 0) = (bits .and .i64 c 1 == 1) := by
  rw [and_one, and_one, Bool.eq_iff_iff]
  simp; unfold wrap32; omega
def byteN (x : Int) : Int := bits .and .i64 (wrap32 x) 255
theorem and_255 (x : Int) : bits .and .i64 x 255 = x % 256 := by
  have e : bits .and .i64 x 255 = (BitVec.ofInt 64 x &&& BitVec.ofInt 64 255).toInt := wrap_i64_nat _
  rw [e, BitVec.toInt_eq_toNat_bmod, BitVec.toNat_and, BitVec.toNat_ofInt, BitVec.toNat_ofInt]
  rw [show ((255 : Int) % (2 ^ 64 : Nat)).toNat = 255 from rfl, Nat.and_two_pow_sub_one_eq_mod _ 8]
  unfold Int.bmod; simp only [Nat.reducePow]; omega
theorem byte_eq (x : Int) : byteN x = bits .and .i64 x 255 := by
  unfold byteN; rw [and_255, and_255]; unfold wrap32; omega
/-- A uart: its queue. -/
def uaS (C : Int) (q : List Int) : St := ⟨1, 0, 0, C, 0, q, 0, decide (0 < q.length) && (bits .and .i64 C 1 != 0)⟩
theorem ua_inv (C : Int) (q : List Int) (h : q.length ≤ 16) : Inv (uaS C q) := ⟨by simp [uaS], by simpa [uaS] using h, by simp [uaS], by simp [uaS]⟩
theorem ua_first (c : Int) : doneS (writeS (newS 1) 2 (wrap32 c)) = uaS (wrap32 c) [] := by simp [doneS, writeS, newS, raisesS, uaS]
def quK (l : List Int) (j : Nat) : List Int := ((l.take j).take 16).map byteN
theorem quK_len (l : List Int) (j : Nat) : (quK l j).length ≤ 16 := by simp [quK]; omega
theorem ua_input (C : Int) (l : List Int) (j : Nat) (h : j < l.length) : doneS (inputS (uaS C (quK l j)) (wrap32 l[j])) = uaS C (quK l (j + 1)) := by
  have hl : (quK l j).length = min 16 j := by simp [quK]; omega
  have hs : quK l (j + 1) = if j < 16 then quK l j ++ [byteN l[j]] else quK l j := by
    unfold quK
    split
    · rw [List.take_take, List.take_take, show min 16 (j + 1) = j + 1 by omega, show min 16 j = j by omega, List.take_succ_eq_append_getElem h, List.map_append]; rfl
    · rw [List.take_take, List.take_take, show min 16 (j + 1) = 16 by omega, show min 16 j = 16 by omega]
  rw [hs]
  generalize quK l j = q at *
  by_cases hj : j < 16
  · have h1 : q.length < 16 := by omega
    simp [doneS, inputS, uaS, raisesS, en, h1, hj, byteN]
  · have h1 : ¬ q.length < 16 := by omega
    simp [doneS, inputS, uaS, raisesS, en, h1, hj]
theorem ua_raises (c : Int) (l : List Int) (j : Nat) (h : j < l.length) : (uaS (wrap32 c) (quK l (j + 1))).ra = (bits .and .i64 c 1 == 1) := by
  have hl : 0 < (quK l (j + 1)).length := by simp [quK]; omega
  simp only [uaS, hl, decide_true, Bool.true_and, odd_eq]
theorem ua_read (C : Int) (q : List Int) : doneS (readS (uaS C q) 0) = uaS C q.tail := by simp [doneS, readS, uaS, raisesS, en]
theorem ua_look (C : Int) (q : List Int) : doneS (readS (uaS C q) 1) = uaS C q := by simp [doneS, readS, uaS, raisesS, en]
theorem ua_tells (C : Int) (q : List Int) : readN (uaS C q) 0 = q.headD (-1) := by simp [readN, uaS]
def quA (l : List Int) : List Int := (l.take 16).map byteN
theorem quK_all (l : List Int) : quK l l.length = quA l := by simp [quK, quA]
theorem quA_head (l : List Int) (j : Nat) (h : j < l.length) (h16 : j < 16) : ((quA l).drop j).headD (-1) = bits .and .i64 l[j] 255 := by
  rw [List.headD_eq_head?_getD, List.head?_drop]
  simp [quA, h16, h, byte_eq]
theorem quA_tail (l : List Int) (j : Nat) : ((quA l).drop j).tail = (quA l).drop (j + 1) := by simp
theorem quA_end (l : List Int) (j : Nat) (h : j = l.length ∨ j = 16) : (quA l).drop j = [] := by
  apply List.drop_of_length_le
  simp [quA]; omega
theorem args_take {w : World} {a : Option Addr} {l : List Int} {c n : Nat} (h : ArgS 1 c1 w (.slice a l.length c) l) (hn : n ≤ l.length) : ArgS 1 c1 w (.slice a n c) (l.take n) := by
  obtain ⟨a', c', hv, h1, h2, h3⟩ := h
  injection hv with e1 _ e2
  subst e1 e2
  refine ⟨a, c, by simp; omega, by simp; omega, h2, ?_⟩
  rcases h3 with rfl | ⟨b, o, ha, hlt, hc⟩
  · left; simp
  · refine .inr ⟨b, o, ha, hlt, fun i r hr => hc i r ?_⟩
    rw [List.getElem?_take] at hr
    split at hr
    · exact hr
    · cases hr
set_option maxHeartbeats 8000000 in
theorem walkDeviceOrder (v : Value) (l : List Int) (ctl : Int) (w : World) (hv : ArgS 1 c1 w v l) (_ : ∀ r ∈ l, I64 r) (_ : I64 ctl) :
    Calls Try.prog 4 #[v, .int .i64 ctl] w fun e w' => e = .returned (.bool true) ∧ Below w.heap.size w w' := by
  have H := Lib.hid hv
  obtain ⟨a, cap, rfl, hlen⟩ := hv.len
  have hcap : l.length ≤ cap := by obtain ⟨_, _, hv', h1, _⟩ := hv; injection hv' with _ _ e; omega
  clear hv
  have hcut : ∃ l' : List Int, l'.length ≤ 30 ∧ ArgS 1 c1 w (.slice a l'.length cap) l' ∧ (30 < l.length ∧ l'.length = 30 ∨ ¬ 30 < l.length ∧ l'.length = l.length) := by
    by_cases h : 30 < l.length
    · refine ⟨l.take 30, by simp; omega, ?_, .inl ⟨h, by simp; omega⟩⟩
      have := args_take H.out (n := 30) (by omega)
      rwa [show (l.take 30).length = 30 by simp; omega]
    · exact ⟨l, by omega, H.out, .inr ⟨h, rfl⟩⟩
  obtain ⟨m, hm30, hma, hmc⟩ := hcut
  have HMA := Lib.hid hma; clear hma
  go_enter Try.func4, Try.ntmps4
  go_wp2_with fail
  refine (awake_any _).mono ?_
  rintro e w1 ⟨rfl, hb1⟩
  have s1 := hb1.size
  go_wp2_with fail
  refine (new_any 1 _ (by decide)).mono ?_
  rintro e w2 ⟨v2, rfl, hv2, hb2⟩
  have HV2 := Lib.hid hv2; clear hv2
  go_wp2_with fail
  refine (write_any _ _ 2 ctl _ HV2.out.st (inv_new 1 (by decide)) (by decide)).mono ?_
  rw [ua_first ctl]
  rintro e w4 ⟨v4, rfl, hv4, hb4⟩
  have s2 := hb2.size
  have s4 := hb4.size
  have HV4 := Lib.hid hv4.st
  obtain ⟨qv, hv, hr, hf⟩ := hv4
  obtain ⟨qa4, qc4, rfl⟩ := hr.shape
  clear hr hf
  subst hv
  have HSV := Lib.hid (sv_new HV4.out)
  unfold stC at HSV ⊢
  have hb14 : Below w.heap.size w w4 := bw_tr (bw_tr hb1 hb2) hb4
  rcases hmc with ⟨hl30, hml⟩ | ⟨hl30, hml⟩
  all_goals
    have HML := Lib.hid hml; clear hml
    first | (have hdb : decide ((30 : Int) < (l.length : Int)) = true := by simp; omega) | (have hdb : decide ((30 : Int) < (l.length : Int)) = false := by simp; omega)
    go_wp2_with fail
    first | rw [show Value.slice a 30 cap = Value.slice a m.length cap by rw [HML.out]] | rw [show Value.slice a l.length cap = Value.slice a m.length cap by rw [HML.out]]
    go_loopw [7] (fun i wr => ∃ j : Nat, j ≤ m.length ∧ i = .int .i64 j ∧ SV wr w4.heap.size (uaS (wrap32 ctl) (quK m j)) ∧ Below w4.heap.size w4 wr) (fun i _ => m.length - (intOf i).toNat)
    case atStart => exact ⟨0, Nat.zero_le _, rfl, HSV.out, (by repeat (first | (with_reducible exact Below.refl _ _) | (with_reducible refine bw_set ?_ ?_ _) | (with_reducible apply bw_alloc) | (with_reducible refine bw_tr ?_ (by with_reducible assumption)) | (with_reducible apply bw_drew) | omega))⟩
    case round =>
      obtain ⟨j, hj, rfl, hsv, hbb⟩ := hrel
      have HSV_hsv := Lib.hid hsv
      obtain ⟨qa_hsv, qc_hsv, hx_hsv, hst_hsv⟩ := hsv.shape
      have HST_hsv := Lib.hid hst_hsv; have HX_hsv := Lib.hid hx_hsv
      have lt_hsv : w4.heap.size < wr.heap.size := lt_in hx_hsv
      obtain ⟨u0_hsv, u1_hsv, u2_hsv, u3_hsv, u4_hsv, u5_hsv, u6_hsv, u7_hsv, t0_hsv, t1_hsv, t2_hsv, t3_hsv, t4_hsv, t5_hsv, t6_hsv, t7_hsv⟩ := cells8o hx_hsv |> cells8
      clear hx_hsv hst_hsv hsv
      have HARG := Lib.hid ((HMA.out.below hb14).below hbb)
      by_cases hlt : j < m.length
      · obtain ⟨b, o, c, ev, hblt, hl64, hc⟩ := HARG.out.one (by intro e; rw [e] at hlt; simp at hlt)
        injection ev with e1 _ e2
        subst e1 e2
        have hjj : m[j]? = some m[j] := by simp [hlt]
        have g1 := hc j m[j] hjj
        clear hc hjj
        have HIN := Lib.hid (ua_inv (wrap32 ctl) (quK m j) (quK_len m j))
        have HZI := Lib.hid (ua_input (wrap32 ctl) m j hlt)
        have HZB := Lib.hid (ua_raises ctl m j hlt)
        generalize m[j] = x at *
        generalize hz : uaS (wrap32 ctl) (quK m (j + 1)) = z at *
        have HZ := Lib.hid hz; clear hz
        have lt0 := lt_hsv
        go_wp2_with fail
        go_region_with (go_at_call 19; refine (input_any _ (uaS (wrap32 ctl) (quK m j)) x _ (HST_hsv.out.below (Below.refl _ _).drew) HIN.out).mono ?_; rw [HZI.out]; rintro e w6 ⟨v6, rfl, hv6, hb6⟩; have HV6 := Lib.hid hv6; have HB6 := Lib.hid (show Below wr.heap.size wr w6 from Below.of_drew hb6); have lt6 := Nat.lt_of_lt_of_le lt_hsv hb6.size; obtain ⟨x0, x1, x2, x3, x4, x5, x6, x7, y0, y1, y2, y3, y4, y5, y6, y7⟩ := cells8 (cells8o (bel_in hb6 lt_hsv HX_hsv.out)); clear hb6; obtain ⟨qv, hv, hr, hf⟩ := hv6; obtain ⟨qa6, qc6, rfl⟩ := hr.shape; clear hr hf; subst hv; unfold stC)
        all_goals
          have hb6 := HB6.out
          go_wp2_with fail
          have hsv_W6 := sv_setS (F := wr.heap.size) HSV_hsv.out lt_hsv HB6.out HV6.out
          obtain ⟨hx_W6, hst_W6⟩ := svq_setS (F := wr.heap.size) HSV_hsv.out lt_hsv HB6.out HV6.out
          have hb_W6 : Below w4.heap.size w4 (setS w6 w4.heap.size z (.slice qa6 (z).q.length qc6)) := bw_setS (by repeat (first | (with_reducible exact Below.refl _ _) | (with_reducible refine bw_set ?_ ?_ _) | (with_reducible apply bw_alloc) | (with_reducible refine bw_tr ?_ (by with_reducible assumption)) | (with_reducible apply bw_drew) | omega)) (by omega) _ _
          change Calls _ _ _ (setS w6 w4.heap.size z (.slice qa6 (z).q.length qc6)) _
          generalize setS w6 w4.heap.size z (.slice qa6 (z).q.length qc6) = W6 at *
          have HSV_W6 := Lib.hid hsv_W6
          have HST_W6 := Lib.hid hst_W6; have HX_W6 := Lib.hid hx_W6
          have lt_W6 : w4.heap.size < W6.heap.size := lt_in hx_W6
          obtain ⟨u0_W6, u1_W6, u2_W6, u3_W6, u4_W6, u5_W6, u6_W6, u7_W6, t0_W6, t1_W6, t2_W6, t3_W6, t4_W6, t5_W6, t6_W6, t7_W6⟩ := cells8o hx_W6 |> cells8
          clear hx_W6 hst_W6 hsv_W6
          have HSU_W6 := HST_W6
          unfold stC at HSU_W6
          refine (raises_lit _ z _ _ _ HZB.out HSU_W6.out (by repeat (first | (with_reducible exact Below.refl _ _) | (with_reducible refine bw_set ?_ ?_ _) | (with_reducible apply bw_alloc) | (with_reducible refine bw_tr ?_ (by with_reducible assumption)) | (with_reducible apply bw_drew) | omega))).mono ?_
          rintro e w9 ⟨rfl, hb9⟩
          go_wp2_with fail
          refine ⟨⟨j + 1, by omega, by go_num, ?_, ?_⟩, by simp [intOf]; omega⟩
          · rw [HZ.out]
            exact HSV_W6.out.below (by repeat (first | (with_reducible exact Below.refl _ _) | (with_reducible refine bw_set ?_ ?_ _) | (with_reducible apply bw_alloc) | (with_reducible refine bw_tr ?_ (by with_reducible assumption)) | (with_reducible apply bw_drew) | omega))
          · exact (by repeat (first | (with_reducible exact Below.refl _ _) | (with_reducible refine bw_set ?_ ?_ _) | (with_reducible apply bw_alloc) | (with_reducible refine bw_tr ?_ (by with_reducible assumption)) | (with_reducible apply bw_drew) | omega))
      · obtain ⟨wo, rfl⟩ : ∃ wo : World, wo = wr := ⟨_, rfl⟩
        obtain rfl : j = m.length := by omega
        have hsv2 := HSV_hsv.out
        rw [quK_all] at hsv2
        have HS0 := Lib.hid hsv2; clear hsv2
        go_wp2_with fail
        go_loopw [8] (fun i wr => ∃ j : Nat, j ≤ m.length ∧ j ≤ 16 ∧ i = .int .i64 j ∧ SV wr w4.heap.size (uaS (wrap32 ctl) ((quA m).drop j)) ∧ Below w4.heap.size w4 wr) (fun i _ => m.length - (intOf i).toNat)
        case atStart => exact ⟨0, Nat.zero_le _, Nat.zero_le _, rfl, HS0.out, hbb⟩
        case round =>
          obtain ⟨j, hj, hj16, rfl, hsv, hbb2⟩ := hrel
          clear u0_hsv u1_hsv u2_hsv u3_hsv u4_hsv u5_hsv u6_hsv u7_hsv t0_hsv t1_hsv t2_hsv t3_hsv t4_hsv t5_hsv t6_hsv t7_hsv
          have HARG := Lib.hid ((HMA.out.below hb14).below hbb2)
          by_cases hlt : j < m.length
          · by_cases h16 : j < 16
            · have HSV_hsv := Lib.hid hsv
              obtain ⟨qa_hsv, qc_hsv, hx_hsv, hst_hsv⟩ := hsv.shape
              have HST_hsv := Lib.hid hst_hsv; have HX_hsv := Lib.hid hx_hsv
              have lt_hsv : w4.heap.size < wr.heap.size := lt_in hx_hsv
              obtain ⟨u0_hsv, u1_hsv, u2_hsv, u3_hsv, u4_hsv, u5_hsv, u6_hsv, u7_hsv, t0_hsv, t1_hsv, t2_hsv, t3_hsv, t4_hsv, t5_hsv, t6_hsv, t7_hsv⟩ := cells8o hx_hsv |> cells8
              clear hx_hsv hst_hsv hsv
              obtain ⟨b, o, c, ev, hblt, hl64, hc⟩ := HMA.out.one_at (bw_tr hb14 hbb2) (by intro e; rw [e] at hlt; simp at hlt)
              injection ev with e1 _ e2
              subst e1 e2
              have hbne : ¬ b = w4.heap.size := by omega
              have hblr : b < wr.heap.size := by omega
              have hjj : m[j]? = some m[j] := by simp [hlt]
              have g1 := hc j m[j] hjj
              clear hc hjj
              have HIN := Lib.hid (ua_inv (wrap32 ctl) ((quA m).drop j) (by simp [quA]; omega))
              have HT0 := Lib.hid ((ua_tells (wrap32 ctl) ((quA m).drop j)).trans (quA_head m j hlt h16))
              have HR0 := Lib.hid (ua_read (wrap32 ctl) ((quA m).drop j))
              have HR0' := HR0.out
              rw [quA_tail] at HR0'
              have HR0 := Lib.hid HR0'; clear HR0'
              generalize m[j] = x at *
              generalize uaS (wrap32 ctl) ((quA m).drop j) = s at *
              generalize hz : uaS (wrap32 ctl) ((quA m).drop (j + 1)) = z at *
              have HZ := Lib.hid hz; clear hz
              go_wp2_with fail
              refine (read_any _ s 0 _ HST_hsv.out HIN.out (by decide)).mono ?_
              rw [HR0.out, HT0.out]
              rintro e w6 ⟨v6, rfl, hv6, hb6⟩
              have HV6 := Lib.hid hv6; have HB6 := Lib.hid hb6
              obtain ⟨c6, f6⟩ := bcell hb6
              have s6 := hb6.size
              try simp at s6
              obtain ⟨qv, hv, hr, hf⟩ := hv6
              obtain ⟨qa6, qc6, rfl⟩ := hr.shape
              clear hr hf
              subst hv
              unfold stC
              have lt6 : w4.heap.size < w6.heap.size := by omega
              have hbl6 : b < w6.heap.size := by omega
              go_wp2_with fail
              refine ⟨⟨j + 1, by omega, by omega, by go_num, ?_, ?_⟩, by simp [intOf]; omega⟩
              · rw [HZ.out]
                exact sv_set (F := wr.heap.size) HSV_hsv.out lt_hsv HB6.out HV6.out
              · exact (by repeat (first | (with_reducible exact Below.refl _ _) | (with_reducible refine bw_set ?_ ?_ _) | (with_reducible apply bw_alloc) | (with_reducible refine bw_tr ?_ (by with_reducible assumption)) | (with_reducible apply bw_drew) | omega))
            · rw [quA_end m j (by omega)] at hsv
              have HSV_hsv := Lib.hid hsv
              obtain ⟨qa_hsv, qc_hsv, hx_hsv, hst_hsv⟩ := hsv.shape
              have HST_hsv := Lib.hid hst_hsv; have HX_hsv := Lib.hid hx_hsv
              have lt_hsv : w4.heap.size < wr.heap.size := lt_in hx_hsv
              obtain ⟨u0_hsv, u1_hsv, u2_hsv, u3_hsv, u4_hsv, u5_hsv, u6_hsv, u7_hsv, t0_hsv, t1_hsv, t2_hsv, t3_hsv, t4_hsv, t5_hsv, t6_hsv, t7_hsv⟩ := cells8o hx_hsv |> cells8
              clear hx_hsv hst_hsv hsv
              have HIN := Lib.hid (ua_inv (wrap32 ctl) [] (by simp))
              have HR0 := Lib.hid (ua_read (wrap32 ctl) [])
              have HR1 := Lib.hid (ua_look (wrap32 ctl) [])
              have HT0 := Lib.hid (ua_tells (wrap32 ctl) [])
              have HT1 := Lib.hid (show readN (uaS (wrap32 ctl) []) 1 = 2 by simp [readN, uaS])
              have HZB := Lib.hid (show (uaS (wrap32 ctl) []).ra = false by simp [uaS])
              have HR0' := HR0.out
              simp only [List.tail_nil] at HR0'
              have HR0 := Lib.hid HR0'; clear HR0'
              have HT0' := HT0.out
              simp only [List.headD_nil] at HT0'
              have HT0 := Lib.hid HT0'; clear HT0'
              generalize uaS (wrap32 ctl) [] = z at *
              go_wp2_with fail
              refine (read_any _ z 0 _ HST_hsv.out HIN.out (by decide)).mono ?_
              rw [HR0.out, HT0.out]
              rintro e w6 ⟨v6, rfl, hv6, hb6⟩
              have HV6 := Lib.hid hv6; have HB6 := Lib.hid hb6
              obtain ⟨c6, f6⟩ := bcell hb6
              have s6 := hb6.size
              try simp at s6
              obtain ⟨qv, hv, hr, hf⟩ := hv6
              obtain ⟨qa6, qc6, rfl⟩ := hr.shape
              clear hr hf
              subst hv
              unfold stC
              have lt6 : w4.heap.size < w6.heap.size := by omega
              go_wp2_with fail
              have hsv_W6 := sv_setS (F := wr.heap.size) HSV_hsv.out lt_hsv HB6.out HV6.out
              obtain ⟨hx_W6, hst_W6⟩ := svq_setS (F := wr.heap.size) HSV_hsv.out lt_hsv HB6.out HV6.out
              have hb_W6 : Below w4.heap.size w4 (setS w6 w4.heap.size z (.slice qa6 (z).q.length qc6)) := bw_setS (by repeat (first | (with_reducible exact Below.refl _ _) | (with_reducible refine bw_set ?_ ?_ _) | (with_reducible apply bw_alloc) | (with_reducible refine bw_tr ?_ (by with_reducible assumption)) | (with_reducible apply bw_drew) | omega)) (by omega) _ _
              change Calls _ _ _ (setS w6 w4.heap.size z (.slice qa6 (z).q.length qc6)) _
              generalize setS w6 w4.heap.size z (.slice qa6 (z).q.length qc6) = W6 at *
              have HSV_W6 := Lib.hid hsv_W6
              have HST_W6 := Lib.hid hst_W6; have HX_W6 := Lib.hid hx_W6
              have lt_W6 : w4.heap.size < W6.heap.size := lt_in hx_W6
              obtain ⟨u0_W6, u1_W6, u2_W6, u3_W6, u4_W6, u5_W6, u6_W6, u7_W6, t0_W6, t1_W6, t2_W6, t3_W6, t4_W6, t5_W6, t6_W6, t7_W6⟩ := cells8o hx_W6 |> cells8
              clear hx_W6 hst_W6 hsv_W6
              have HSU_W6 := HST_W6
              unfold stC at HSU_W6
              refine (read_any _ z 1 _ HST_W6.out HIN.out (by decide)).mono ?_
              rw [HR1.out, HT1.out]
              rintro e w7 ⟨v7, rfl, hv7, hb7⟩
              have HV7 := Lib.hid hv7; have HB7 := Lib.hid hb7
              obtain ⟨c7, f7⟩ := bcell hb7
              have s7 := hb7.size
              try simp at s7
              obtain ⟨qv, hv, hr, hf⟩ := hv7
              obtain ⟨qa7, qc7, rfl⟩ := hr.shape
              clear hr hf
              subst hv
              unfold stC
              have lt7 : w4.heap.size < w7.heap.size := by omega
              go_wp2_with fail
              have hsv_W7 := sv_setS (F := W6.heap.size) HSV_W6.out lt_W6 HB7.out HV7.out
              obtain ⟨hx_W7, hst_W7⟩ := svq_setS (F := W6.heap.size) HSV_W6.out lt_W6 HB7.out HV7.out
              have hb_W7 : Below w4.heap.size w4 (setS w7 w4.heap.size z (.slice qa7 (z).q.length qc7)) := bw_setS (by repeat (first | (with_reducible exact Below.refl _ _) | (with_reducible refine bw_set ?_ ?_ _) | (with_reducible apply bw_alloc) | (with_reducible refine bw_tr ?_ (by with_reducible assumption)) | (with_reducible apply bw_drew) | omega)) (by omega) _ _
              change Calls _ _ _ (setS w7 w4.heap.size z (.slice qa7 (z).q.length qc7)) _
              generalize setS w7 w4.heap.size z (.slice qa7 (z).q.length qc7) = W7 at *
              have HSV_W7 := Lib.hid hsv_W7
              have HST_W7 := Lib.hid hst_W7; have HX_W7 := Lib.hid hx_W7
              have lt_W7 : w4.heap.size < W7.heap.size := lt_in hx_W7
              obtain ⟨u0_W7, u1_W7, u2_W7, u3_W7, u4_W7, u5_W7, u6_W7, u7_W7, t0_W7, t1_W7, t2_W7, t3_W7, t4_W7, t5_W7, t6_W7, t7_W7⟩ := cells8o hx_W7 |> cells8
              clear hx_W7 hst_W7 hsv_W7
              have HSU_W7 := HST_W7
              unfold stC at HSU_W7
              refine (raises_lit _ z false _ _ HZB.out HSU_W7.out (by repeat (first | (with_reducible exact Below.refl _ _) | (with_reducible refine bw_set ?_ ?_ _) | (with_reducible apply bw_alloc) | (with_reducible refine bw_tr ?_ (by with_reducible assumption)) | (with_reducible apply bw_drew) | omega))).mono ?_
              rintro e w9 ⟨rfl, hb9⟩
              go_wp2_with fail
              go_ret
              exact ⟨ret1 (rbool (by simp)), (by repeat (first | (with_reducible exact Below.refl _ _) | (with_reducible refine bw_set ?_ ?_ _) | (with_reducible apply bw_alloc) | (with_reducible refine bw_tr ?_ (by with_reducible assumption)) | (with_reducible apply bw_drew) | omega))⟩
          · rw [quA_end m j (by omega)] at hsv
            have HSV_hsv := Lib.hid hsv
            obtain ⟨qa_hsv, qc_hsv, hx_hsv, hst_hsv⟩ := hsv.shape
            have HST_hsv := Lib.hid hst_hsv; have HX_hsv := Lib.hid hx_hsv
            have lt_hsv : w4.heap.size < wr.heap.size := lt_in hx_hsv
            obtain ⟨u0_hsv, u1_hsv, u2_hsv, u3_hsv, u4_hsv, u5_hsv, u6_hsv, u7_hsv, t0_hsv, t1_hsv, t2_hsv, t3_hsv, t4_hsv, t5_hsv, t6_hsv, t7_hsv⟩ := cells8o hx_hsv |> cells8
            clear hx_hsv hst_hsv hsv
            have HIN := Lib.hid (ua_inv (wrap32 ctl) [] (by simp))
            have HR0 := Lib.hid (ua_read (wrap32 ctl) [])
            have HR1 := Lib.hid (ua_look (wrap32 ctl) [])
            have HT0 := Lib.hid (ua_tells (wrap32 ctl) [])
            have HT1 := Lib.hid (show readN (uaS (wrap32 ctl) []) 1 = 2 by simp [readN, uaS])
            have HZB := Lib.hid (show (uaS (wrap32 ctl) []).ra = false by simp [uaS])
            have HR0' := HR0.out
            simp only [List.tail_nil] at HR0'
            have HR0 := Lib.hid HR0'; clear HR0'
            have HT0' := HT0.out
            simp only [List.headD_nil] at HT0'
            have HT0 := Lib.hid HT0'; clear HT0'
            generalize uaS (wrap32 ctl) [] = z at *
            go_wp2_with fail
            refine (read_any _ z 0 _ HST_hsv.out HIN.out (by decide)).mono ?_
            rw [HR0.out, HT0.out]
            rintro e w6 ⟨v6, rfl, hv6, hb6⟩
            have HV6 := Lib.hid hv6; have HB6 := Lib.hid hb6
            obtain ⟨c6, f6⟩ := bcell hb6
            have s6 := hb6.size
            try simp at s6
            obtain ⟨qv, hv, hr, hf⟩ := hv6
            obtain ⟨qa6, qc6, rfl⟩ := hr.shape
            clear hr hf
            subst hv
            unfold stC
            have lt6 : w4.heap.size < w6.heap.size := by omega
            go_wp2_with fail
            have hsv_W6 := sv_setS (F := wr.heap.size) HSV_hsv.out lt_hsv HB6.out HV6.out
            obtain ⟨hx_W6, hst_W6⟩ := svq_setS (F := wr.heap.size) HSV_hsv.out lt_hsv HB6.out HV6.out
            have hb_W6 : Below w4.heap.size w4 (setS w6 w4.heap.size z (.slice qa6 (z).q.length qc6)) := bw_setS (by repeat (first | (with_reducible exact Below.refl _ _) | (with_reducible refine bw_set ?_ ?_ _) | (with_reducible apply bw_alloc) | (with_reducible refine bw_tr ?_ (by with_reducible assumption)) | (with_reducible apply bw_drew) | omega)) (by omega) _ _
            change Calls _ _ _ (setS w6 w4.heap.size z (.slice qa6 (z).q.length qc6)) _
            generalize setS w6 w4.heap.size z (.slice qa6 (z).q.length qc6) = W6 at *
            have HSV_W6 := Lib.hid hsv_W6
            have HST_W6 := Lib.hid hst_W6; have HX_W6 := Lib.hid hx_W6
            have lt_W6 : w4.heap.size < W6.heap.size := lt_in hx_W6
            obtain ⟨u0_W6, u1_W6, u2_W6, u3_W6, u4_W6, u5_W6, u6_W6, u7_W6, t0_W6, t1_W6, t2_W6, t3_W6, t4_W6, t5_W6, t6_W6, t7_W6⟩ := cells8o hx_W6 |> cells8
            clear hx_W6 hst_W6 hsv_W6
            have HSU_W6 := HST_W6
            unfold stC at HSU_W6
            refine (read_any _ z 1 _ HST_W6.out HIN.out (by decide)).mono ?_
            rw [HR1.out, HT1.out]
            rintro e w7 ⟨v7, rfl, hv7, hb7⟩
            have HV7 := Lib.hid hv7; have HB7 := Lib.hid hb7
            obtain ⟨c7, f7⟩ := bcell hb7
            have s7 := hb7.size
            try simp at s7
            obtain ⟨qv, hv, hr, hf⟩ := hv7
            obtain ⟨qa7, qc7, rfl⟩ := hr.shape
            clear hr hf
            subst hv
            unfold stC
            have lt7 : w4.heap.size < w7.heap.size := by omega
            go_wp2_with fail
            have hsv_W7 := sv_setS (F := W6.heap.size) HSV_W6.out lt_W6 HB7.out HV7.out
            obtain ⟨hx_W7, hst_W7⟩ := svq_setS (F := W6.heap.size) HSV_W6.out lt_W6 HB7.out HV7.out
            have hb_W7 : Below w4.heap.size w4 (setS w7 w4.heap.size z (.slice qa7 (z).q.length qc7)) := bw_setS (by repeat (first | (with_reducible exact Below.refl _ _) | (with_reducible refine bw_set ?_ ?_ _) | (with_reducible apply bw_alloc) | (with_reducible refine bw_tr ?_ (by with_reducible assumption)) | (with_reducible apply bw_drew) | omega)) (by omega) _ _
            change Calls _ _ _ (setS w7 w4.heap.size z (.slice qa7 (z).q.length qc7)) _
            generalize setS w7 w4.heap.size z (.slice qa7 (z).q.length qc7) = W7 at *
            have HSV_W7 := Lib.hid hsv_W7
            have HST_W7 := Lib.hid hst_W7; have HX_W7 := Lib.hid hx_W7
            have lt_W7 : w4.heap.size < W7.heap.size := lt_in hx_W7
            obtain ⟨u0_W7, u1_W7, u2_W7, u3_W7, u4_W7, u5_W7, u6_W7, u7_W7, t0_W7, t1_W7, t2_W7, t3_W7, t4_W7, t5_W7, t6_W7, t7_W7⟩ := cells8o hx_W7 |> cells8
            clear hx_W7 hst_W7 hsv_W7
            have HSU_W7 := HST_W7
            unfold stC at HSU_W7
            refine (raises_lit _ z false _ _ HZB.out HSU_W7.out (by repeat (first | (with_reducible exact Below.refl _ _) | (with_reducible refine bw_set ?_ ?_ _) | (with_reducible apply bw_alloc) | (with_reducible refine bw_tr ?_ (by with_reducible assumption)) | (with_reducible apply bw_drew) | omega))).mono ?_
            rintro e w9 ⟨rfl, hb9⟩
            go_wp2_with fail
            go_ret
            exact ⟨ret1 (rbool (by simp)), (by repeat (first | (with_reducible exact Below.refl _ _) | (with_reducible refine bw_set ?_ ?_ _) | (with_reducible apply bw_alloc) | (with_reducible refine bw_tr ?_ (by with_reducible assumption)) | (with_reducible apply bw_drew) | omega))⟩
end Go.Proofs.Ytodcmmdobnjbbaa
