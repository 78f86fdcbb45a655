/-
  'CodeTells': instructions may be, are encoded, decoded and told apart as the document says.
-/
import Derived.Test.YtefebnicclbhjaaFit02
import Derived.Test.YtefebnicclbhjaaAwake02
import Derived.Test.YtefebnicclbhjaaCodeFlip
import Derived.Test.YtefebnicclbhjaaInsEq
import Derived.Test.YtefebnicclbhjaaCodeReads
import Derived.Test.YtefebnicclbhjaaRef2Dec
import Derived.Test.YtefebnicclbhjaaRef2Reads
import Derived.Test.YtefebnicclbhjaaInts
import Derived.Test.YtefebnicclbhjaaQuietV
namespace Go.Proofs.Ytefebnicclbhjaa
open Go.RowKit
theorem right_g (op d a b n : Int) (r : Bool) (w : World) (hr : rightB ⟨op, d, a, b, n⟩ = r) :
    Calls Try.prog 15 #[.agg #[.int .i64 op, .int .i64 d, .int .i64 a, .int .i64 b, .int .i64 n]] w fun e w' => e = .returned (.bool r) ∧ Below w.heap.size w w' := right_at ⟨op, d, a, b, n⟩ r w hr
theorem writes_g (op d a b n r : Int) (w : World) (hr : writesN ⟨op, d, a, b, n⟩ = r) :
    Calls Try.prog 22 #[.agg #[.int .i64 op, .int .i64 d, .int .i64 a, .int .i64 b, .int .i64 n]] w fun e w' => e = .returned (.int .i64 r) ∧ Below w.heap.size w w' := by subst hr; exact writes_any _ w
theorem refWrites_g (op d a b n r : Int) (w : World) (hr : writesN ⟨op, d, a, b, n⟩ = r) :
    Calls Try.prog 23 #[.agg #[.int .i64 op, .int .i64 d, .int .i64 a, .int .i64 b, .int .i64 n]] w fun e w' => e = .returned (.int .i64 r) ∧ Below w.heap.size w w' := by subst hr; exact refWrites_any _ w
theorem name_g (op : Int) (s : ByteArray) (w : World) (hr : (rowT op).nm = s) :
    Calls Try.prog 17 #[.int .i64 op] w fun e w' => e = .returned (.string s) ∧ Below w.heap.size w w' := by subst hr; exact name_any _ w
theorem refName_g (op : Int) (s : ByteArray) (w : World) (hr : (rowT op).nm = s) :
    Calls Try.prog 18 #[.int .i64 op] w fun e w' => e = .returned (.string s) ∧ Below w.heap.size w w' := by subst hr; exact refName_any _ w
theorem enc_g (op d a b n v e0 : Int) (w : World) (h1 : encV ⟨op, d, a, b, n⟩ = v) (h2 : encE ⟨op, d, a, b, n⟩ = e0) :
    Calls Try.prog 13 #[.agg #[.int .i64 op, .int .i64 d, .int .i64 a, .int .i64 b, .int .i64 n]] w fun e w' => e = .returned (.tuple #[.int .i64 v, .int .i64 e0]) ∧ Below w.heap.size w w' := by subst h1 h2; exact encode_any _ w
theorem refEnc_g (op d a b n v e0 : Int) (w : World) (h1 : encV ⟨op, d, a, b, n⟩ = v) (h2 : encE ⟨op, d, a, b, n⟩ = e0) :
    Calls Try.prog 14 #[.agg #[.int .i64 op, .int .i64 d, .int .i64 a, .int .i64 b, .int .i64 n]] w fun e w' => e = .returned (.tuple #[.int .i64 v, .int .i64 e0]) ∧ Below w.heap.size w w' := by subst h1 h2; exact refEncode_any _ w
theorem reads_g (op d a b n : Int) (l : List Int) (w : World) (hl : readsL ⟨op, d, a, b, n⟩ = l) :
    Calls Try.prog 20 #[.agg #[.int .i64 op, .int .i64 d, .int .i64 a, .int .i64 b, .int .i64 n]] w fun e w' => ∃ v, e = .returned v ∧ Reads w' 1 l.length v (l.map (Value.int .i64)) ∧ Below w.heap.size w w' := by subst hl; exact reads_any _ w
theorem refReads_g (op d a b n : Int) (l : List Int) (w : World) (hl : readsL ⟨op, d, a, b, n⟩ = l) :
    Calls Try.prog 21 #[.agg #[.int .i64 op, .int .i64 d, .int .i64 a, .int .i64 b, .int .i64 n]] w fun e w' => ∃ v, e = .returned v ∧ Reads w' 1 l.length v (l.map (Value.int .i64)) ∧ Below w.heap.size w w' := by subst hl; exact refReads_any _ w
theorem refDecode_any (z : Int) (w : World) :
    Calls Try.prog 26 #[.int .i64 z] w fun e w' => e = .returned (.tuple #[insV (dX z), .int .i64 (dE z)]) ∧ Below w.heap.size w w' := by
  unfold dX dE
  by_cases hz : 0 ≤ z ∧ z < 4294967296
  · rw [if_pos hz, if_pos hz]
    have := refDecode_near z.toNat w (by omega)
    rw [show ((z.toNat : Nat) : Int) = z by omega] at this
    exact this
  · rw [if_neg hz, if_neg hz]
    exact refDecode_far z w (by omega)
theorem i64_xor (a b : Int) : I64 (bits .xor .i64 a b) := by
  have e : bits .xor .i64 a b = IntKind.i64.wrap (((BitVec.ofInt 64 a) ^^^ (BitVec.ofInt 64 b)).toNat : Int) := rfl
  rw [e, IntWalk.i64_left]
  generalize (((BitVec.ofInt 64 a) ^^^ (BitVec.ofInt 64 b)).toNat : Int) = x
  unfold wrap64 I64
  omega
theorem pick02_g (c n r : Int) (w : World) (hc : I64 c) (hn : 0 < n ∧ n ≤ 9223372036854775807) (hr : pickN c n = r) :
    Calls Try.prog 24 #[.int .i64 c, .int .i64 n] w fun e w' => e = .returned (.int .i64 r) ∧ w = w' := by subst hr; exact pick02 c n w hc hn
theorem upI {w w' : World} {b : Nat} {o : Obj} (hu : Below w.heap.size w w') (h : w.heap[b]? = some o) : w'.heap[b]? = some o := bel_in hu (lt_in h) h
theorem new_b (w : World) (o : Obj) : Below w.heap.size w (w.alloc o) := (Below.refl _ _).alloc (Nat.le_refl _) _
theorem dec_g (z : Int) (op d a b n e0 : Int) (w : World) (h : I64 z) (h1 : dX z = ⟨op, d, a, b, n⟩) (h2 : dE z = e0) :
    Calls Try.prog 25 #[.int .i64 z] w fun e w' => e = .returned (.tuple #[.agg #[.int .i64 op, .int .i64 d, .int .i64 a, .int .i64 b, .int .i64 n], .int .i64 e0]) ∧ Below w.heap.size w w' := by
  have := decode_any z w h
  rw [h1, h2] at this; exact this
theorem refDec_g (z : Int) (op d a b n e0 : Int) (w : World) (h1 : dX z = ⟨op, d, a, b, n⟩) (h2 : dE z = e0) :
    Calls Try.prog 26 #[.int .i64 z] w fun e w' => e = .returned (.tuple #[.agg #[.int .i64 op, .int .i64 d, .int .i64 a, .int .i64 b, .int .i64 n], .int .i64 e0]) ∧ Below w.heap.size w w' := by
  have := refDecode_any z w
  rw [h1, h2] at this; exact this
abbrev insA (x : Ins) : Array Value := #[.int .i64 x.op, .int .i64 x.d, .int .i64 x.a, .int .i64 x.b, .int .i64 x.n]
set_option maxHeartbeats 16000000 in
set_option maxRecDepth 100000 in
theorem code_tells (x : Ins) (word bit : Int) (w : World) (h : ok_instr x) (hw : I64 word) (hb : I64 bit) :
    Calls Try.prog 3 #[insV x, .int .i64 word, .int .i64 bit] w fun e w' => e = .returned (.bool true) ∧ Below w.heap.size w w' := by
  have hr := fit_right x
  obtain ⟨e1, e2⟩ := enc_right hr
  have hle := encN_lt (fitX x)
  have hp32 := pickN_bd bit 32 (by omega)
  have hp64 := pickN_bd bit 64 (by omega)
  have hpw := pickN_bd word 4294967296 (by omega)
  obtain ⟨op, d, a, b, n⟩ := x
  have H := Lib.hid h; have HB := Lib.hid hb; have HW := Lib.hid hw
  clear h hb hw
  unfold insV
  go_enter Try.func3, Try.ntmps3
  go_wp2_with fail
  refine (awake02 _).mono ?_
  rintro e w1 ⟨rfl, hb1⟩
  obtain ⟨c1, f1⟩ := bcell hb1
  have s1 := hb1.size
  try simp at s1
  have l1x0 : w.heap.size < w1.heap.size := by omega
  go_wp2_with fail
  refine (fit_any ⟨op, d, a, b, n⟩ _ H.out).mono ?_
  rintro e w2 ⟨rfl, hb2⟩
  obtain ⟨c2, f2⟩ := bcell hb2
  have s2 := hb2.size
  try simp at s2
  have l2x0 : w.heap.size < w2.heap.size := by omega
  generalize fitX ⟨op, d, a, b, n⟩ = y at *
  have E1 := Lib.hid e1; have E2 := Lib.hid e2
  clear hr e1 e2 H
  obtain ⟨yop, yd, ya, yb, yn⟩ := y
  unfold insV
  go_wp2_with fail
  go_loopw [30] (fun i wr => ∃ k : Nat, k ≤ 2 ∧ i = .int .i64 k ∧ wr.heap[w2.heap.size]? = some (.cells #[.int .i64 yop, .int .i64 yd, .int .i64 ya, .int .i64 yb, .int .i64 yn] 23 (0, 0)) ∧
    wr.heap[w2.heap.size + 1]? = some (.cells #[.int .i64 op, .int .i64 d, .int .i64 a, .int .i64 b, .int .i64 n, .int .i64 yop, .int .i64 yd, .int .i64 ya, .int .i64 yb, .int .i64 yn] 23 (0, 0)) ∧ Below w.heap.size w wr) (fun i _ => 2 - (intOf i).toNat)
  case atStart => exact ⟨0, by omega, rfl, bel_in (B := (w2.alloc (.cells #[.int .i64 yop, .int .i64 yd, .int .i64 ya, .int .i64 yb, .int .i64 yn] 23)).heap.size) ((Below.refl _ _).alloc (Nat.le_refl _) _) (by simp) (new_in _ _), new_at _ _ _ (by simp), (by repeat (first | (with_reducible exact Below.refl _ _) | (with_reducible refine bw_set ?_ ?_ _) | (with_reducible apply bw_alloc) | (with_reducible refine bw_tr ?_ (by with_reducible assumption)) | (with_reducible apply bw_drew) | omega))⟩
  case round =>
    obtain ⟨k, hk, rfl, hy, hs, hbb⟩ := hrel
    have HY := Lib.hid hy; have HS := Lib.hid hs; have BB := Lib.hid hbb
    clear hy hs hbb
    by_cases hlt : k < 2
    · as_aux_lemma =>
      obtain ⟨z, c0, c1, c2, c3, c4⟩ : ∃ z : Ins, wr.cell? ⟨w2.heap.size + 1, k * 5, none⟩ = some (.int .i64 z.op) ∧ wr.cell? ⟨w2.heap.size + 1, k * 5 + 1, none⟩ = some (.int .i64 z.d) ∧ wr.cell? ⟨w2.heap.size + 1, k * 5 + 2, none⟩ = some (.int .i64 z.a) ∧ wr.cell? ⟨w2.heap.size + 1, k * 5 + 3, none⟩ = some (.int .i64 z.b) ∧ wr.cell? ⟨w2.heap.size + 1, k * 5 + 4, none⟩ = some (.int .i64 z.n) := by
        match k, hlt with
        | 0, _ => exact ⟨⟨op, d, a, b, n⟩, cell_in HS.out rfl, cell_in HS.out rfl, cell_in HS.out rfl, cell_in HS.out rfl, cell_in HS.out rfl⟩
        | 1, _ => exact ⟨⟨yop, yd, ya, yb, yn⟩, cell_in HS.out rfl, cell_in HS.out rfl, cell_in HS.out rfl, cell_in HS.out rfl, cell_in HS.out rfl⟩
      obtain ⟨zop, zd, za, zb, zn⟩ := z
      simp only at c0 c1 c2 c3 c4
      obtain ⟨v, hv⟩ : ∃ v, encV ⟨zop, zd, za, zb, zn⟩ = v := ⟨_, rfl⟩; obtain ⟨e0, he⟩ : ∃ e0, encE ⟨zop, zd, za, zb, zn⟩ = e0 := ⟨_, rfl⟩
      obtain ⟨l, hl⟩ : ∃ l, readsL ⟨zop, zd, za, zb, zn⟩ = l := ⟨_, rfl⟩; obtain ⟨wr0, hwr⟩ : ∃ r, writesN ⟨zop, zd, za, zb, zn⟩ = r := ⟨_, rfl⟩
      obtain ⟨nm, hnm⟩ : ∃ s, (rowT zop).nm = s := ⟨_, rfl⟩
      have EV := Lib.hid hv; have EE := Lib.hid he; have EL := Lib.hid hl; have EW := Lib.hid hwr; have EN := Lib.hid hnm
      clear hv he hl hwr hnm
      go_upto_region 6 with fail
      have hz := new_in wr (.cells #[.int .i64 zop, .int .i64 zd, .int .i64 za, .int .i64 zb, .int .i64 zn] 23)
      obtain ⟨W, hW⟩ : ∃ W, wr.alloc (.cells #[.int .i64 zop, .int .i64 zd, .int .i64 za, .int .i64 zb, .int .i64 zn] 23) = W := ⟨_, rfl⟩
      have hU : Below wr.heap.size wr W := by rw [← hW]; exact new_b _ _
      rw [hW] at hz
      rw [hW]
      have HZ := Lib.hid hz; have U := Lib.hid hU
      clear hz hU hW c0 c1 c2 c3 c4
      have k0 : W.cell? ⟨wr.heap.size, 0, none⟩ = some (.int .i64 zop) := cell_in (j := 0) HZ.out rfl
      have k1 : W.cell? ⟨wr.heap.size, 1, none⟩ = some (.int .i64 zd) := cell_in (j := 1) HZ.out rfl
      have k2 : W.cell? ⟨wr.heap.size, 2, none⟩ = some (.int .i64 za) := cell_in (j := 2) HZ.out rfl
      have k3 : W.cell? ⟨wr.heap.size, 3, none⟩ = some (.int .i64 zb) := cell_in (j := 3) HZ.out rfl
      have k4 : W.cell? ⟨wr.heap.size, 4, none⟩ = some (.int .i64 zn) := cell_in (j := 4) HZ.out rfl
      have lz := lt_in HZ.out
      go_wp2_with fail
      refine (enc_g zop zd za zb zn v e0 _ EV.out EE.out).mono ?_
      rintro e w3 ⟨rfl, hb3⟩
      have HZ3 := Lib.hid (upI hb3 HZ.out); have U3 := Lib.hid (bw_tr U.out hb3)
      clear hb3 k0 k1 k2 k3 k4 lz HZ U
      have k0 : w3.cell? ⟨wr.heap.size, 0, none⟩ = some (.int .i64 zop) := cell_in (j := 0) HZ3.out rfl
      have k1 : w3.cell? ⟨wr.heap.size, 1, none⟩ = some (.int .i64 zd) := cell_in (j := 1) HZ3.out rfl
      have k2 : w3.cell? ⟨wr.heap.size, 2, none⟩ = some (.int .i64 za) := cell_in (j := 2) HZ3.out rfl
      have k3 : w3.cell? ⟨wr.heap.size, 3, none⟩ = some (.int .i64 zb) := cell_in (j := 3) HZ3.out rfl
      have k4 : w3.cell? ⟨wr.heap.size, 4, none⟩ = some (.int .i64 zn) := cell_in (j := 4) HZ3.out rfl
      have lz := lt_in HZ3.out
      go_wp2_with fail
      refine (refEnc_g zop zd za zb zn v e0 _ EV.out EE.out).mono ?_
      rintro e w4 ⟨rfl, hb4⟩
      have HZ4 := Lib.hid (upI hb4 HZ3.out); have U4 := Lib.hid (bw_tr U3.out hb4)
      clear hb4 k0 k1 k2 k3 k4 lz HZ3 U3
      have q1 : (v != v) = false := by simp
      have q2 : (e0 != e0) = false := by simp
      have q3 : (nm.toList != nm.toList) = false := by simp
      have q4 : (nm.toList == nm.toList) = true := by simp
      have q5 : (wr0 != wr0) = false := by simp
      obtain ⟨rr, hrb⟩ : ∃ r, rightB ⟨zop, zd, za, zb, zn⟩ = r := ⟨_, rfl⟩
      have q6 : (rr != rr) = false := by cases rr <;> rfl
      have ER := Lib.hid hrb; clear hrb
      go_wp2_with fail
      refine wp_region_up (fun w' => w'.heap[wr.heap.size]? = some (.cells #[.int .i64 zop, .int .i64 zd, .int .i64 za, .int .i64 zb, .int .i64 zn] 23 (0, 0))) [true, true, true, true, true, true, true, true, true, true, true, true, true, true, true, true, true, true, true, true, true, true, true, true, true, true, false, true] (by kernel_rfl) (by kernel_rfl) (by kernel_rfl) (fun _ _ h hu => upI hu h) HZ4.out ?ra ?rh ?rt
      case rh =>
        intro w0 h0
        have x0 := fun x => wd_cell (v := .int .i64 zop) (o := 0) (lt_in h0) (cell_in (j := 0) h0 rfl) x
        have x1 := fun x => wd_cell (v := .int .i64 zd) (o := 1) (lt_in h0) (cell_in (j := 1) h0 rfl) x
        have x2 := fun x => wd_cell (v := .int .i64 za) (o := 2) (lt_in h0) (cell_in (j := 2) h0 rfl) x
        have x3 := fun x => wd_cell (v := .int .i64 zb) (o := 3) (lt_in h0) (cell_in (j := 3) h0 rfl) x
        have x4 := fun x => wd_cell (v := .int .i64 zn) (o := 4) (lt_in h0) (cell_in (j := 4) h0 rfl) x
        clear h0
        simp only [pickM]
        repeat (go_big_quiet_step ((first | (go_at_call 15; with_reducible exact quiet_b (right_g _ _ _ _ _ _ _ ER.out)) | (go_at_call 16; with_reducible exact quiet_b (refRight_g _ _ _ _ _ _ _ ER.out)) | (go_at_call 17; with_reducible exact quiet_b (name_g _ _ _ EN.out)) | (go_at_call 18; with_reducible exact quiet_b (refName_g _ _ _ EN.out)))))
        refine wpQuiet_nil ?_
        rfl
      case rt =>
        change wpAnyU _ _ _ _ _ 12 _ _ _
        refine anyU_one (i := 26) (by kernel_rfl) rfl ?_
        intro w5 hu5 hc5
        have hu5 := bw_undrew hu5
        have U5 := Lib.hid (bw_tr U4.out hu5); have HZ5 := Lib.hid hc5
        clear hu5 hc5
        go_wp2_with fail
        refine (reads_g zop zd za zb zn l _ EL.out).mono ?_
        rintro e w6 ⟨v1, rfl, hr1, hb6⟩
        have U6 := Lib.hid (bw_tr U5.out hb6); have HZ6 := Lib.hid (upI hb6 HZ5.out); have R1 := Lib.hid hr1
        clear hr1 hb6
        go_wp2_with fail
        refine ⟨HZ6.out, ?_⟩
        refine anyU_one (i := 28) (by kernel_rfl) rfl ?_
        intro w7 hu7 hc7
        have U7 := Lib.hid (bw_tr U6.out hu7); have HZ7 := Lib.hid hc7; have R17 := Lib.hid (R1.out.below hu7)
        clear hu7 hc7
        go_wp2_with fail
        refine (refReads_g zop zd za zb zn l _ EL.out).mono ?_
        rintro e w8 ⟨v2, rfl, hr2, hb8⟩
        have U8 := Lib.hid (bw_tr U7.out hb8); have HZ8 := Lib.hid (upI hb8 HZ7.out); have R18 := Lib.hid (R17.out.below hb8); have R2 := Lib.hid hr2
        clear hr2 hb8
        go_wp2_with fail
        refine ⟨HZ8.out, ?_⟩
        refine anyU_one (i := 29) (by kernel_rfl) rfl ?_
        intro w9 hu9 hc9
        have U9 := Lib.hid (bw_tr U8.out hu9); have HZ9 := Lib.hid hc9; have R19 := Lib.hid (R18.out.below hu9); have R29 := Lib.hid (R2.out.below hu9)
        clear hu9 hc9
        go_wp2_with fail
        refine (ints_law02 v1 v2 l l _ R19.out R29.out).mono ?_
        rintro e w10 ⟨rfl, hb10⟩
        have U10 := Lib.hid (bw_tr U9.out hb10); have HZ10 := Lib.hid (upI hb10 HZ9.out)
        clear hb10
        rw [show decide (l = l) = true by simp]
        go_wp2_with fail
        refine ⟨HZ10.out, ?_⟩
        refine anyU_pures [false, false, false, false, false, false, false, false, false, false, false, false, false, false, false, false, false, false, false, false, false, false, false, false, false, false, false, false, false, false, true, true, true, true, true, true, true, true, true] 0 (by kernel_rfl) (by kernel_rfl) (by kernel_rfl) (fun _ _ h hu => upI hu h) HZ10.out ?ra2 ?rh2 ?rt2
        case rh2 =>
          intro w0 h0
          have x0 := fun x => wd_cell (v := .int .i64 zop) (o := 0) (lt_in h0) (cell_in (j := 0) h0 rfl) x
          have x1 := fun x => wd_cell (v := .int .i64 zd) (o := 1) (lt_in h0) (cell_in (j := 1) h0 rfl) x
          have x2 := fun x => wd_cell (v := .int .i64 za) (o := 2) (lt_in h0) (cell_in (j := 2) h0 rfl) x
          have x3 := fun x => wd_cell (v := .int .i64 zb) (o := 3) (lt_in h0) (cell_in (j := 3) h0 rfl) x
          have x4 := fun x => wd_cell (v := .int .i64 zn) (o := 4) (lt_in h0) (cell_in (j := 4) h0 rfl) x
          clear h0
          simp only [pickM]
          repeat (go_big_quiet_step ((first | (go_at_call 22; with_reducible exact quiet_b (writes_g _ _ _ _ _ _ _ EW.out)) | (go_at_call 23; with_reducible exact quiet_b (refWrites_g _ _ _ _ _ _ _ EW.out)))))
          refine wpQuiet_nil ?_
          rfl
        case rt2 =>
          refine anyU_nil (by kernel_rfl) ?_
          intro w11 hu11 _
          have U11 := Lib.hid (bw_tr U10.out hu11)
          clear hu11
          go_wp2_with fail
          exact ⟨⟨k + 1, by omega, by go_num, upI U11.out HY.out, upI U11.out HS.out, bw_tr BB.out U11.out⟩, by simp [intOf]; omega⟩
    · have hk2 : k = 2 := by omega
      subst hk2
      obtain ⟨u0, u1, u2, u3, u4⟩ : wr.cell? ⟨w2.heap.size, 0, none⟩ = some (.int .i64 yop) ∧ wr.cell? ⟨w2.heap.size, 1, none⟩ = some (.int .i64 yd) ∧ wr.cell? ⟨w2.heap.size, 2, none⟩ = some (.int .i64 ya) ∧ wr.cell? ⟨w2.heap.size, 3, none⟩ = some (.int .i64 yb) ∧ wr.cell? ⟨w2.heap.size, 4, none⟩ = some (.int .i64 yn) := ⟨cell_in HY.out rfl, cell_in HY.out rfl, cell_in HY.out rfl, cell_in HY.out rfl, cell_in HY.out rfl⟩
      have ly := lt_in HY.out
      obtain ⟨en, hen⟩ : ∃ en : Nat, encN ⟨yop, yd, ya, yb, yn⟩ = en := ⟨_, rfl⟩
      rw [hen] at hle E1
      clear hen
      go_wp2_with fail
      refine (refEnc_g yop yd ya yb yn (en : Int) 0 _ E1.out E2.out).mono ?_
      rintro e w3 ⟨rfl, hb3⟩
      have B3 := Lib.hid (bw_tr BB.out hb3)
      clear hb3 u0 u1 u2 u3 u4 ly HY HS
      obtain ⟨p32, hq32⟩ : ∃ p, pickN bit 32 = p := ⟨_, rfl⟩; obtain ⟨p64, hq64⟩ : ∃ p, pickN bit 64 = p := ⟨_, rfl⟩; obtain ⟨pw, hqw⟩ : ∃ p, pickN word 4294967296 = p := ⟨_, rfl⟩
      rw [hq32] at hp32; rw [hq64] at hp64; rw [hqw] at hpw
      have D32 := Lib.hid hq32; have D64 := Lib.hid hq64; have DW := Lib.hid hqw
      clear hq32 hq64 hqw
      go_wp2_with fail
      refine wp_region_up (fun _ => True) [true, true, true, true, true, true, true, true, true, true, true, true, true, true, false, false, true] (by kernel_rfl) (by kernel_rfl) (by kernel_rfl) (fun _ _ h _ => h) trivial ?sa ?sh ?st
      case sh =>
        intro w0 _
        simp only [pickM]
        repeat (go_big_quiet_step ((first | (go_at_call 24; with_reducible exact quiet_s (pick02_g word 4294967296 _ _ HW.out (by omega) DW.out)) | (go_at_call 24; with_reducible exact quiet_s (pick02_g bit 32 _ _ HB.out (by omega) D32.out)) | (go_at_call 24; with_reducible exact quiet_s (pick02_g bit 64 _ _ HB.out (by omega) D64.out)))))
        refine wpQuiet_nil ?_
        rfl
      case st =>
        change wpAnyU _ _ _ _ _ 2 _ _ _
        refine anyU_one (i := 14) (by kernel_rfl) rfl ?_
        intro w4 hu4 _
        have B4 := Lib.hid (bw_tr B3.out (bw_undrew hu4))
        clear hu4
        have I1 := Lib.hid (i64_xor (en : Int) (wrap64 (2 ^ p32.toNat))); have I2 := Lib.hid (i64_xor (en : Int) (wrap64 (2 ^ p64.toNat)))
        generalize bits .xor .i64 (en : Int) (wrap64 (2 ^ p32.toNat)) = f1 at *
        generalize bits .xor .i64 (en : Int) (wrap64 (2 ^ p64.toNat)) = f2 at *
        go_wp2_with fail
        refine ⟨trivial, ?_⟩
        refine anyU_one (i := 15) (by kernel_rfl) rfl ?_
        intro w5 hu5 _
        have HS5 := Lib.hid (upI hu5 (new_in w4 (.cells #[.int .i64 word, .int .i64 pw, .int .i64 en, .int .i64 f1, .int .i64 f2] 3)))
        have B5 := Lib.hid (bw_tr B4.out (bw_tr (new_b w4 (.cells #[.int .i64 word, .int .i64 pw, .int .i64 en, .int .i64 f1, .int .i64 f2] 3)) hu5))
        clear hu5
        go_wp2_with fail
        refine ⟨trivial, ?_⟩
        refine anyU_nil (by kernel_rfl) ?_
        intro w6 hu6 _
        have HS6 := Lib.hid (upI hu6 HS5.out); have B6 := Lib.hid (bw_tr B5.out hu6)
        clear hu6 HS5 B5 B4 B3
        go_wp2_with fail
        go_loopw [105] (fun i wr => ∃ k : Nat, k ≤ 5 ∧ i = .int .i64 k ∧ wr.heap[w4.heap.size]? = some (.cells #[.int .i64 word, .int .i64 pw, .int .i64 en, .int .i64 f1, .int .i64 f2] 3 (0, 0)) ∧ Below w.heap.size w wr) (fun i _ => 5 - (intOf i).toNat)
        case atStart => exact ⟨0, by omega, rfl, HS6.out, B6.out⟩
        case round =>
          obtain ⟨k, hk, rfl, hs, hbb⟩ := hrel
          have HS := Lib.hid hs; have BB := Lib.hid hbb
          clear hs hbb
          by_cases hlt5 : k < 5
          · as_aux_lemma =>
            obtain ⟨z, hz, hc⟩ : ∃ z : Int, Hid (I64 z) ∧ wr.cell? ⟨w4.heap.size, k, none⟩ = some (.int .i64 z) := by
              match k, hlt5 with
              | 0, _ => exact ⟨word, Lib.hid HW.out, cell_in HS.out rfl⟩
              | 1, _ => exact ⟨pw, Lib.hid ⟨by omega, by omega⟩, cell_in HS.out rfl⟩
              | 2, _ => exact ⟨en, Lib.hid ⟨by omega, by omega⟩, cell_in HS.out rfl⟩
              | 3, _ => exact ⟨f1, Lib.hid I1.out, cell_in HS.out rfl⟩
              | 4, _ => exact ⟨f2, Lib.hid I2.out, cell_in HS.out rfl⟩
            obtain ⟨⟨zop, zd, za, zb, zn⟩, hx⟩ : ∃ x, dX z = x := ⟨_, rfl⟩; obtain ⟨e0, he⟩ : ∃ e0, dE z = e0 := ⟨_, rfl⟩
            have DX := Lib.hid hx; have DE := Lib.hid he
            have q := fun w => eqI true ⟨zop, zd, za, zb, zn⟩ ⟨zop, zd, za, zb, zn⟩ (by simp) w
            simp only at q
            have q2 : (e0 != e0) = false := by simp
            clear hx he
            go_wp2_with fail
            refine (dec_g z zop zd za zb zn e0 _ hz.out DX.out DE.out).mono ?_
            rintro e w7 ⟨rfl, hb7⟩
            have U7 := Lib.hid hb7
            clear hb7 hc
            go_upto_region 16 with fail
            have hz7 := new_in w7 (.cells #[.int .i64 zop, .int .i64 zd, .int .i64 za, .int .i64 zb, .int .i64 zn] 23)
            obtain ⟨W, hW⟩ : ∃ W, w7.alloc (.cells #[.int .i64 zop, .int .i64 zd, .int .i64 za, .int .i64 zb, .int .i64 zn] 23) = W := ⟨_, rfl⟩
            have hU : Below wr.heap.size wr W := by rw [← hW]; exact bw_tr U7.out (new_b _ _)
            rw [hW] at hz7
            rw [hW]
            have HZ := Lib.hid hz7; have U8 := Lib.hid hU
            clear hz7 hU hW
            go_wp2_with fail
            refine (refDec_g z zop zd za zb zn e0 _ DX.out DE.out).mono ?_
            rintro e w9 ⟨rfl, hb9⟩
            have U9 := Lib.hid (bw_tr U8.out hb9); have HZ9 := Lib.hid (upI hb9 HZ.out)
            clear hb9
            go_upto_region 17 with fail
            have hz10 := new_in w9 (.cells #[.int .i64 zop, .int .i64 zd, .int .i64 za, .int .i64 zb, .int .i64 zn] 23)
            have hz11 := upI (new_b w9 (.cells #[.int .i64 zop, .int .i64 zd, .int .i64 za, .int .i64 zb, .int .i64 zn] 23)) HZ9.out
            obtain ⟨W2, hW⟩ : ∃ W, w9.alloc (.cells #[.int .i64 zop, .int .i64 zd, .int .i64 za, .int .i64 zb, .int .i64 zn] 23) = W := ⟨_, rfl⟩
            have hU : Below wr.heap.size wr W2 := by rw [← hW]; exact bw_tr U9.out (new_b _ _)
            rw [hW] at hz10 hz11
            rw [hW]
            have HZ10 := Lib.hid hz10; have HZ11 := Lib.hid hz11; have U10 := Lib.hid hU
            clear hz10 hz11 hU hW
            have m0 : W2.cell? ⟨w9.heap.size, 0, none⟩ = some (.int .i64 zop) := cell_in (j := 0) HZ10.out rfl
            have m1 : W2.cell? ⟨w9.heap.size, 1, none⟩ = some (.int .i64 zd) := cell_in (j := 1) HZ10.out rfl
            have m2 : W2.cell? ⟨w9.heap.size, 2, none⟩ = some (.int .i64 za) := cell_in (j := 2) HZ10.out rfl
            have m3 : W2.cell? ⟨w9.heap.size, 3, none⟩ = some (.int .i64 zb) := cell_in (j := 3) HZ10.out rfl
            have m4 : W2.cell? ⟨w9.heap.size, 4, none⟩ = some (.int .i64 zn) := cell_in (j := 4) HZ10.out rfl
            have n0 : W2.cell? ⟨w7.heap.size, 0, none⟩ = some (.int .i64 zop) := cell_in (j := 0) HZ11.out rfl
            have n1 : W2.cell? ⟨w7.heap.size, 1, none⟩ = some (.int .i64 zd) := cell_in (j := 1) HZ11.out rfl
            have n2 : W2.cell? ⟨w7.heap.size, 2, none⟩ = some (.int .i64 za) := cell_in (j := 2) HZ11.out rfl
            have n3 : W2.cell? ⟨w7.heap.size, 3, none⟩ = some (.int .i64 zb) := cell_in (j := 3) HZ11.out rfl
            have n4 : W2.cell? ⟨w7.heap.size, 4, none⟩ = some (.int .i64 zn) := cell_in (j := 4) HZ11.out rfl
            have l10 := lt_in HZ10.out; have l11 := lt_in HZ11.out
            go_wp2_with fail
            exact ⟨⟨k + 1, by omega, by go_num, upI U10.out HS.out, bw_tr BB.out U10.out⟩, by simp [intOf]; omega⟩
          · have hk5 : k = 5 := by omega
            subst hk5
            go_wp2_with fail
            go_ret
            exact ⟨iretb rfl, BB.out⟩
end Go.Proofs.Ytefebnicclbhjaa
