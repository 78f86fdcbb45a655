/-
  What the walks of this statement lean on (CodeLay, CodeNum, CodeEnc, CodeBack, CodeBits, CodeFind, CodePlain): shown.
-/
import Derived.Test.YtdobddiibgfeaaaGreatZc
import Derived.Test.YtdobddiibgfeaaaGreatZa
set_option linter.unusedVariables false
set_option linter.unusedSimpArgs false
namespace Go.Proofs.YtdobddiibgfeaaaGreat
section
open Go.RowKit
theorem zjQ {k : IntKind} {a b : Int} (h : a = b) : Ending.returned (.int k a) = .returned (.int k b) := by rw [h]
theorem zf2 (word : Nat) (fr mn : Nat) (w : World) (hf : fr < 32) (hm : mn < 32) (hw : word < 4294967296) :
 Calls Tryz.prog 150 #[.int .i64 word, .int .i64 fr, .int .i64 mn] w fun e w' => e = .returned (.int .i64 (zac word fr mn : Nat)) ∧ Below w.heap.size w w' := by
 have E := zhd (zjo word fr mn hm hw)
 go_enter Tryz.func150, Tryz.ntmps150
 go_wp2_with fail
 go_quiet (fail)
 go_wp2_with fail
 go_ret
 exact ⟨zjQ (by simpa using E.out), zaF (Below.refl _ _) _⟩
def zbE (op : Int) : Int := if op = 44 then 2 else if op = 45 then 5 else 0
theorem zmo (op : Int) (w : World) :
 Calls Tryz.prog 184 #[.int .i64 op] w fun e w' => e = .returned (.int .i64 (zbE op)) ∧ w = w' := by
 by_cases h1 : op = 44
 · subst h1
   go_enter Tryz.func184, Tryz.ntmps184
   go_wp2_with fail
   go_ret
   exact ⟨rfl, rfl⟩
 · by_cases h2 : op = 45
   · subst h2
     go_enter Tryz.func184, Tryz.ntmps184
     go_wp2_with fail
     go_ret
     exact ⟨rfl, rfl⟩
   · have E : Hid (zbE op = 0) := by unfold zbE; rw [if_neg h1, if_neg h2]; exact rfl
     have q1 : (op == 44) = false := by simp [h1]
     have q2 : (op == 45) = false := by simp [h2]
     clear h1 h2
     go_enter Tryz.func184, Tryz.ntmps184
     go_wp2_with fail
     go_ret
     exact ⟨zjQ E.out.symm, rfl⟩
set_option maxHeartbeats 1000000 in
theorem lay_any (v : Value) (l : List Pc) (w : World) (h : Reads w 4 l.length v (l.flatMap pcC)) (hok : ∀ p ∈ l, okP p) :
 Calls Tryz.prog 185 #[v] w fun e w' => e = .returned (.int .i64 (layN l : Nat)) ∧ Below w.heap.size w w' := by
 have HR := zhd h
 obtain ⟨a, c, rfl⟩ := h.shape
 clear h
 have HOK := zhd hok; clear hok
 go_enter Tryz.func185, Tryz.ntmps185
 go_wp2_with fail
 go_loopw [3, 8] (fun x i wr => ∃ j : Nat, j ≤ l.length ∧ i = .int .i64 j ∧ x = .int .u32 ((layN (l.take j) : Nat) : Int) ∧ Below w.heap.size w wr) (fun _ i _ => l.length - (intOf i).toNat)
 case atStart => exact ⟨0, Nat.zero_le _, rfl, rfl, (by repeat (first | (with_reducible first | exact Below.refl _ _ | refine zaj ?_ ?_ _ | apply zag | refine zae ?_ (by assumption) | apply zak) | omega))⟩
 case round =>
  obtain ⟨j, hj, rfl, rfl, hbb⟩ := hrel
  have hy := zci (l.take j)
  by_cases hlt : j < l.length
  · obtain ⟨b, o, c', ev, hblt, hn, hm, hc⟩ : ∃ b o c', Value.slice a l.length c = .slice (some ⟨b, o, none⟩) l.length c' ∧ b < w.heap.size ∧ l.length ≤ c' ∧ c' ≤ maxLen ∧ ∀ j u, (l.flatMap pcC)[j]? = some u → w.cell? ⟨b, o + j, none⟩ = some u := by
     rcases HR.out.2.2 with ⟨_, h0⟩ | h
     · omega
     · exact h
    injection ev with e1 _ e2
    subst e1 e2
    unfold maxLen at hm
    have g : wr.cell? ⟨b, o + j * 4, none⟩ = some (.int .i64 l[j].n) ∧ wr.cell? ⟨b, o + j * 4 + 1, none⟩ = some (.int .i64 l[j].fr) ∧ wr.cell? ⟨b, o + j * 4 + 2, none⟩ = some (.int .i64 l[j].mn) ∧ wr.cell? ⟨b, o + j * 4 + 3, none⟩ = some (.int .i64 l[j].at') := by
     refine ⟨?_, ?_, ?_, ?_⟩
     · rw [hbb.cell (p := ⟨b, _, none⟩) hblt]; exact hc (j * 4) _ (by have := zda hlt 0 (by omega); simpa [pcC] using this)
     · rw [hbb.cell (p := ⟨b, _, none⟩) hblt, show o + j * 4 + 1 = o + (j * 4 + 1) by omega]; exact hc (j * 4 + 1) _ (by have := zda hlt 1 (by omega); simpa [pcC] using this)
     · rw [hbb.cell (p := ⟨b, _, none⟩) hblt, show o + j * 4 + 2 = o + (j * 4 + 2) by omega]; exact hc (j * 4 + 2) _ (by have := zda hlt 2 (by omega); simpa [pcC] using this)
     · rw [hbb.cell (p := ⟨b, _, none⟩) hblt, show o + j * 4 + 3 = o + (j * 4 + 3) by omega]; exact hc (j * 4 + 3) _ (by have := zda hlt 3 (by omega); simpa [pcC] using this)
    obtain ⟨g0, g1, g2, g3⟩ := g
    have hp := HOK.out l[j] (List.getElem_mem hlt)
    have HP := zhd (piece_eq l[j] hp (layN (l.take j)) hy)
    have HS := zhd (zlY l j hlt)
    obtain ⟨k0, k1, k2, k3, k4, k5⟩ := hp
    clear hc
    generalize l[j] = p at *
    generalize layN (l.take j) = y at *
    obtain ⟨pn, pf, pm, pa⟩ := p
    simp only at g0 g1 g2 g3 k0 k1 k2 k3 k4 k5
    have hyi : (0 : Int) ≤ (y : Int) := by omega
    have hyj : (y : Int) < 4294967296 := by omega
    go_wp2_with fail
    go_quiet (fail)
    go_wp2_with fail
    refine ⟨⟨j + 1, by omega, by go_num, by rw [HS.out, ← HP.out], zaF (by repeat (first | (with_reducible first | exact Below.refl _ _ | refine zaj ?_ ?_ _ | apply zag | refine zae ?_ (by assumption) | apply zak) | omega)) _⟩, by simp [intOf]; omega⟩
  · have e : l.take j = l := List.take_of_length_le (by omega)
    rw [e] at *
    have hy2 := zci l
    have hyj : ((layN l : Nat) : Int) < 4294967296 := by omega
    have hyi : (0 : Int) ≤ ((layN l : Nat) : Int) := by omega
    go_wp2_with fail
    go_ret
    exact ⟨rfl, hbb⟩
end
section
open Go.RowKit
def numP (f n : Int) : List Pc :=
 if f = 73 then [⟨n, 0, 12, 20⟩] else if f = 67 then [⟨n, 0, 12, 20⟩] else if f = 72 then [⟨n, 0, 5, 20⟩] else if f = 83 then [⟨n, 0, 5, 7⟩, ⟨n, 5, 7, 25⟩]
 else if f = 66 then [⟨n, 11, 1, 7⟩, ⟨n, 1, 4, 8⟩, ⟨n, 5, 6, 25⟩, ⟨n, 12, 1, 31⟩] else if f = 85 then [⟨n, 0, 20, 12⟩]
 else if f = 74 then [⟨n, 12, 8, 12⟩, ⟨n, 11, 1, 20⟩, ⟨n, 1, 10, 21⟩, ⟨n, 20, 1, 31⟩] else if f = 70 then [⟨n, 0, 8, 20⟩]
 else if f = 76 then [⟨n, 0, 2, 25⟩] else if f = 65 then [⟨n, 0, 2, 25⟩] else []
def zlE (f : Int) : Prop := f = 73 ∨ f = 67 ∨ f = 72 ∨ f = 83 ∨ f = 66 ∨ f = 85 ∨ f = 74 ∨ f = 70 ∨ f = 76 ∨ f = 65
theorem num_ok (f n : Int) : ∀ p ∈ numP f n, okP p := by
 unfold numP okP
 repeat' split
 all_goals simp
theorem zil (f n : Int) : (numP f n).length ≤ 4 := by
 unfold numP
 repeat' split
 all_goals simp
theorem num_max (f n : Int) : (numP f n).length ≤ maxLen := by have := zil f n; unfold maxLen; omega
theorem zlC (l : List Pc) : ∀ u ∈ l.flatMap pcC, u.oneCell' = true := by
 intro u hu
 obtain ⟨p, _, hu⟩ := List.mem_flatMap.1 hu
 simp only [pcC, List.mem_cons, List.not_mem_nil, or_false] at hu
 rcases hu with rfl | rfl | rfl | rfl <;> rfl
set_option maxHeartbeats 2000000 in
theorem zgq (f n : Int) (w : World) :
 Calls Tryz.prog 183 #[.int .i32 f, .int .i64 n] w fun e w' => ∃ v, e = .returned v ∧ Reads w' 4 (numP f n).length v ((numP f n).flatMap pcC) ∧ Below w.heap.size w w' := by
 by_cases h : zlE f
 · rcases h with rfl | rfl | rfl | rfl | rfl | rfl | rfl | rfl | rfl | rfl
   all_goals
    go_enter Tryz.func183, Tryz.ntmps183
    go_wp2_with fail
    go_ret
    exact ⟨_, rfl, zgn (w := w.alloc _) (b := w.heap.size) (zat w _) (by rfl) (zlC _) (num_max _ n) (Below.refl _ _), (by repeat (first | (with_reducible first | exact Below.refl _ _ | refine zaj ?_ ?_ _ | apply zag | refine zae ?_ (by assumption) | apply zak) | omega))⟩
 · simp only [zlE, not_or] at h
   obtain ⟨h1, h2, h3, h4, h5, h6, h7, h8, h9, h10⟩ := h
   have e : numP f n = [] := by simp [numP, h1, h2, h3, h4, h5, h6, h7, h8, h9, h10]
   rw [e]; clear e
   have q1 := beq_eq_false_iff_ne.2 h1; have q2 := beq_eq_false_iff_ne.2 h2; have q3 := beq_eq_false_iff_ne.2 h3; have q4 := beq_eq_false_iff_ne.2 h4; have q5 := beq_eq_false_iff_ne.2 h5; have q6 := beq_eq_false_iff_ne.2 h6; have q7 := beq_eq_false_iff_ne.2 h7; have q8 := beq_eq_false_iff_ne.2 h8; have q9 := beq_eq_false_iff_ne.2 h9; have q10 := beq_eq_false_iff_ne.2 h10
   clear h1 h2 h3 h4 h5 h6 h7 h8 h9 h10
   go_enter Tryz.func183, Tryz.ntmps183
   go_wp2_with fail
   go_ret
   exact ⟨_, rfl, Reads.nil _ _, (by repeat (first | (with_reducible first | exact Below.refl _ _ | refine zaj ?_ ?_ _ | apply zag | refine zae ?_ (by assumption) | apply zak) | omega))⟩
end
section
open Go.RowKit
def zdX (x : Ins) : List Pc := [⟨(rowT x.op).low, 0, 7, 0⟩, ⟨(rowT x.op).mid, 0, 3, 12⟩, ⟨(rowT x.op).high, 0, 7, 25⟩, ⟨x.d, 0, 5, 7⟩, ⟨x.a, 0, 5, 15⟩, ⟨x.b + zbE x.op, 0, 5, 20⟩]
def encN (x : Ins) : Nat := layN (zdX x ++ numP (rowT x.op).form x.n)
def encV (x : Ins) : Int := if zaS x then (encN x : Nat) else 0
def encE (x : Ins) : Int := if zaS x then 0 else 1
theorem zht (x : Ins) (r : Bool) (w : World) (hr : zaS x = r) :
 Calls Tryz.prog 109 #[insV x] w fun e w' => e = .returned (.bool r) ∧ Below w.heap.size w w' := by subst hr; exact zhu x w
theorem may_bd {n : Int} {is : Bool} (h : mayB n is = true) : 0 ≤ n ∧ n < 32 := by
 simp only [mayB, Bool.and_eq_true, decide_eq_true_eq] at h; exact ⟨h.1, h.2.1⟩
theorem right_b {x : Ins} (h : zaS x = true) : 0 ≤ x.b ∧ x.b < 32 := by
 simp only [zaS, Bool.and_eq_true] at h
 exact may_bd h.2.2.2.1
theorem head_ok (x : Ins) : ∀ p ∈ zdX x ++ numP (rowT x.op).form x.n, okP p := by
 intro p hp
 rcases List.mem_append.1 hp with hp | hp
 · simp only [zdX, List.mem_cons, List.not_mem_nil, or_false] at hp
   rcases hp with rfl | rfl | rfl | rfl | rfl | rfl <;> simp [okP]
 · exact num_ok _ _ p hp
theorem infoPc : (Tryz.prog.info? 236).map (fun i => (i.zero, i.size, i.bytes)) = some (some (.agg #[.int .i64 0, .int .i64 0, .int .i64 0, .int .i64 0]), 4, 32) := by kernel_rfl
set_option maxHeartbeats 4000000 in
theorem zkw (x : Ins) (w : World) :
 Calls Tryz.prog 151 #[insV x] w fun e w' => e = .returned (.tuple #[.int .i64 (encV x), .int .i64 (encE x)]) ∧ Below w.heap.size w w' := by
 cases hr : zaS x
 case false =>
  have E1 : encV x = 0 := by unfold encV; rw [hr]; rfl
  have E2 : encE x = 1 := by unfold encE; rw [hr]; rfl
  rw [E1, E2]; clear E1 E2
  have HR := zhd hr; clear hr
  obtain ⟨op, d, a, b, n⟩ := x
  unfold insV
  go_enter Tryz.func151, Tryz.ntmps151
  go_wp2_with fail
  refine (zht ⟨op, d, a, b, n⟩ false _ HR.out).mono ?_
  rintro e w1 ⟨rfl, hb1⟩
  go_wp2_with fail
  go_ret2
  exact ⟨rfl, (by repeat (first | (with_reducible first | exact Below.refl _ _ | refine zaj ?_ ?_ _ | apply zag | refine zae ?_ (by assumption) | apply zak) | omega))⟩
 case true =>
  have E1 : encV x = (encN x : Nat) := by unfold encV; rw [hr]; rfl
  have E2 : encE x = 0 := by unfold encE; rw [hr]; rfl
  rw [E1, E2]; clear E1 E2
  have hb := right_b hr
  have HR := zhd hr; clear hr
  have HOK := zhd (head_ok x)
  have HN := zhd (show encN x = layN (zdX x ++ numP (rowT x.op).form x.n) from rfl)
  obtain ⟨op, d, a, b, n⟩ := x
  have hfx : 0 ≤ zbE op ∧ zbE op ≤ 5 := by
   unfold zbE; repeat' split
   all_goals omega
  unfold insV
  unfold zdX at HN HOK
  simp only at HN HOK hb
  generalize hrw : rowT op = r at *
  have HRW := zhd hrw; clear hrw
  have hfi : IntKind.i64.wrap (b + zbE op) = b + zbE op := IntWalk.i64_in _ (by omega)
  go_enter Tryz.func151, Tryz.ntmps151
  go_wp2_with fail
  refine (zht ⟨op, d, a, b, n⟩ true _ HR.out).mono ?_
  rintro e w1 ⟨rfl, hb1⟩
  obtain ⟨c1, f1⟩ := za8 hb1
  have z1 : w.heap.size < w1.heap.size := by have := hb1.size; simp at this; omega
  go_wp2_with fail
  refine (zb6 op _).mono ?_
  rw [HRW.out]
  rintro e w2 ⟨rfl, hb2⟩
  obtain ⟨c2, f2⟩ := za8 hb2
  have z2 : w1.heap.size ≤ w2.heap.size := hb2.size
  have z3 : w.heap.size < w2.heap.size := by omega
  have z4 : w.heap.size ≤ w2.heap.size := by omega
  unfold rwV
  go_wp2_with fail
  go_region_held3 (fun w' => SBel (w2.alloc (.cells #[.string r.nm, .int .i32 r.form, .int .i64 r.low, .int .i64 r.mid, .int .i64 r.high] 211)) w') (first | with_reducible assumption | exact zk9 _ | exact sbel_tr (by with_reducible assumption) (by with_reducible assumption) | exact zjO (by with_reducible assumption) _) ((go_at_call 184; refine (zmo _ _).mono ?_; rintro e w' ⟨rfl, rfl⟩))
  go_wp2_with fail
  refine (zgq _ _ _).mono ?_
  rintro e w3 ⟨v3, rfl, hr3, hb3⟩
  have hd : Reads w3 4 6 (.slice (some ⟨w2.heap.size + 1, 0, none⟩) 6 6) (([⟨r.low, 0, 7, 0⟩, ⟨r.mid, 0, 3, 12⟩, ⟨r.high, 0, 7, 25⟩, ⟨d, 0, 5, 7⟩, ⟨a, 0, 5, 15⟩, ⟨b + zbE op, 0, 5, 20⟩] : List Pc).flatMap pcC) :=
   zgn (zc0 _ _ _ (by simp)) (by rfl) (zlC _) (by unfold maxLen; omega) (zbk hb3)
  obtain ⟨i0, hi, hz0, hz1, hz2⟩ := info_parts infoPc
  have hnl := zil r.form n
  obtain ⟨v4, w4, hrun, hr4, hb4⟩ := ziT (ty := 233) Tryz.underlying233 Tryz.underlying233 hi hz0 hz1 hd ⟨_, _, rfl⟩ hr3 (by omega) (by omega)
  rw [← List.flatMap_append] at hr4
  have HR4 := zhd hr4
  have HRUN := zhd hrun
  clear hd hr3 hr4 hi hz0 hz1 hz2 hnl hrun
  go_wp2_with (at_builtin; (refine zcx rfl _ _ _ _ rfl _ _ _ _ rfl rfl HRUN.out ?_))
  refine (lay_any v4 ([⟨r.low, 0, 7, 0⟩, ⟨r.mid, 0, 3, 12⟩, ⟨r.high, 0, 7, 25⟩, ⟨d, 0, 5, 7⟩, ⟨a, 0, 5, 15⟩, ⟨b + zbE op, 0, 5, 20⟩] ++ numP r.form n) _ (by rw [List.length_append]; exact HR4.out) HOK.out).mono ?_
  rintro e w5 ⟨rfl, hb5⟩
  go_wp2_with fail
  go_ret2
  exact ⟨by rw [HN.out]; rfl, (by repeat (first | (with_reducible first | exact Below.refl _ _ | refine zaj ?_ ?_ _ | apply zag | refine zae ?_ (by assumption) | apply zak) | omega))⟩
end
section
open Go.RowKit
theorem field_q (word : Nat) (fr mn : Nat) (w : World) (hf : fr < 32) (hm : mn < 32) (hw : word < 4294967296) :
 Calls Tryz.prog 150 #[.int .i64 word, .int .i64 fr, .int .i64 mn] w fun e w' => e = .returned (.int .i64 (zac word fr mn : Nat)) ∧ ∃ q, w' = w.drewN q := by
 have E := zhd (zjo word fr mn hm hw)
 go_enter Tryz.func150, Tryz.ntmps150
 go_wp2_with fail
 go_quiet (fail)
 go_wp2_with fail
 go_ret
 exact ⟨zjQ (by simpa using E.out), _, rfl⟩
def zc7 (word : Nat) (p : Pc) : Nat := zac word p.at'.toNat p.mn.toNat * 2 ^ p.fr.toNat
def zaZ (word : Nat) (l : List Pc) : Nat := l.foldl (fun y p => y ||| zc7 word p) 0
def zbG (l : List Pc) : Int := l.foldl (fun m p => max m (p.fr + p.mn)) 0
def okQ (p : Pc) : Prop := okP p ∧ p.fr + p.mn ≤ 31
theorem zcK (f n : Int) : ∀ p ∈ numP f n, okQ p := by
 unfold numP okQ okP
 repeat' split
 all_goals simp
theorem zmT (word : Nat) (l : List Pc) (k : Nat) (h : k < l.length) : zaZ word (l.take (k + 1)) = zaZ word (l.take k) ||| zc7 word l[k] := by
 unfold zaZ; rw [List.take_succ_eq_append_getElem h, List.foldl_append]; rfl
theorem max_snoc (l : List Pc) (k : Nat) (h : k < l.length) : zbG (l.take (k + 1)) = max (zbG (l.take k)) (l[k].fr + l[k].mn) := by
 unfold zbG; rw [List.take_succ_eq_append_getElem h, List.foldl_append]; rfl
theorem zeG (word : Nat) (p : Pc) (h : okQ p) : zc7 word p < 4294967296 := by
 obtain ⟨⟨a, b, c, d, e, f⟩, g⟩ := h
 have h1 := zb9 word p.at'.toNat p.mn.toNat
 have h2 : 2 ^ p.mn.toNat * 2 ^ p.fr.toNat ≤ 2147483648 := by
  rw [← Nat.pow_add]; exact zfo _ (by omega)
 have h3 : 0 < 2 ^ p.fr.toNat := Nat.two_pow_pos _
 have := Nat.mul_lt_mul_of_pos_right h1 h3
 unfold zc7; omega
theorem ziS (word : Nat) (l : List Pc) (hl : ∀ p ∈ l, okQ p) : ∀ y, y < 4294967296 → l.foldl (fun y p => y ||| zc7 word p) y < 4294967296 := by
 induction l with
 | nil => intro y h; exact h
 | cons p l ih => intro y h; exact ih (fun q hq => hl q (by simp [hq])) _ (or_lt h (zeG word p (hl p (by simp))))
theorem zbw (word : Nat) (l : List Pc) (hl : ∀ p ∈ l, okQ p) : zaZ word l < 4294967296 := ziS word l hl 0 (by decide)
theorem max_bd (l : List Pc) (hl : ∀ p ∈ l, okQ p) (m : Int) (hm : 0 ≤ m ∧ m ≤ 31) : 0 ≤ l.foldl (fun m p => max m (p.fr + p.mn)) m ∧ l.foldl (fun m p => max m (p.fr + p.mn)) m ≤ 31 := by
 induction l generalizing m with
 | nil => exact hm
 |
  cons p l ih =>
  have := hl p (by simp)
  obtain ⟨⟨a, b, c, d, e, f⟩, g⟩ := this
  refine ih (fun q hq => hl q (by simp [hq])) _ ?_
  show 0 ≤ max m (p.fr + p.mn) ∧ max m (p.fr + p.mn) ≤ 31
  omega
theorem zjI (word : Nat) (p : Pc) (h : okQ p) : wrap64 (((zac word p.at'.toNat p.mn.toNat : Nat) : Int) * 2 ^ p.fr.toNat) = ((zc7 word p : Nat) : Int) := by
 have := zeG word p h
 rw [zdR, ← Int.natCast_mul]
 unfold zc7 at *
 unfold wrap64; omega
set_option maxHeartbeats 2000000 in
theorem zcg (f : Int) (word : Nat) (w : World) (hw : word < 4294967296) :
 Calls Tryz.prog 149 #[.int .i32 f, .int .i64 word] w fun e w' => e = .returned (.tuple #[.int .i64 (zaZ word (numP f 0) : Nat), .int .i64 (zbG (numP f 0))]) ∧ Below w.heap.size w w' := by
 go_enter Tryz.func149, Tryz.ntmps149
 go_wp2_with fail
 refine (zgq f 0 _).mono ?_
 rintro e w1 ⟨v1, rfl, hr1, hb1⟩
 have HOK := zhd (zcK f 0)
 have hlen := zil f 0
 generalize hl : numP f 0 = l at *
 have HL := zhd hl; clear hl
 have HR := zhd hr1
 obtain ⟨a, c, rfl⟩ := hr1.shape
 clear hr1
 go_wp2_with fail
 go_loopw [4, 5, 11] (fun x m i wr => ∃ j : Nat, j ≤ l.length ∧ i = .int .i64 j ∧ x = .int .i64 ((zaZ word (l.take j) : Nat) : Int) ∧ m = .int .i64 (zbG (l.take j)) ∧ Below w1.heap.size w1 wr) (fun _ _ i _ => l.length - (intOf i).toNat)
 case atStart => exact ⟨0, Nat.zero_le _, rfl, rfl, rfl, (by repeat (first | (with_reducible first | exact Below.refl _ _ | refine zaj ?_ ?_ _ | apply zag | refine zae ?_ (by assumption) | apply zak) | omega))⟩
 case round =>
  obtain ⟨j, hj, rfl, rfl, rfl, hbb⟩ := hrel
  by_cases hlt : j < l.length
  · obtain ⟨b, o, c', ev, hblt, hn, hm, hc⟩ : ∃ b o c', Value.slice a l.length c = .slice (some ⟨b, o, none⟩) l.length c' ∧ b < w1.heap.size ∧ l.length ≤ c' ∧ c' ≤ maxLen ∧ ∀ j u, (l.flatMap pcC)[j]? = some u → w1.cell? ⟨b, o + j, none⟩ = some u := by
     rcases HR.out.2.2 with ⟨_, h0⟩ | h
     · omega
     · exact h
    injection ev with e1 _ e2
    subst e1 e2
    unfold maxLen at hm
    have g : wr.cell? ⟨b, o + j * 4, none⟩ = some (.int .i64 l[j].n) ∧ wr.cell? ⟨b, o + j * 4 + 1, none⟩ = some (.int .i64 l[j].fr) ∧ wr.cell? ⟨b, o + j * 4 + 2, none⟩ = some (.int .i64 l[j].mn) ∧ wr.cell? ⟨b, o + j * 4 + 3, none⟩ = some (.int .i64 l[j].at') := by
     refine ⟨?_, ?_, ?_, ?_⟩
     · rw [hbb.cell (p := ⟨b, _, none⟩) hblt]; exact hc (j * 4) _ (by have := zda hlt 0 (by omega); simpa [pcC] using this)
     · rw [hbb.cell (p := ⟨b, _, none⟩) hblt, show o + j * 4 + 1 = o + (j * 4 + 1) by omega]; exact hc (j * 4 + 1) _ (by have := zda hlt 1 (by omega); simpa [pcC] using this)
     · rw [hbb.cell (p := ⟨b, _, none⟩) hblt, show o + j * 4 + 2 = o + (j * 4 + 2) by omega]; exact hc (j * 4 + 2) _ (by have := zda hlt 2 (by omega); simpa [pcC] using this)
     · rw [hbb.cell (p := ⟨b, _, none⟩) hblt, show o + j * 4 + 3 = o + (j * 4 + 3) by omega]; exact hc (j * 4 + 3) _ (by have := zda hlt 3 (by omega); simpa [pcC] using this)
    obtain ⟨g0, g1, g2, g3⟩ := g
    have hp := HOK.out l[j] (List.getElem_mem hlt)
    have hq := zjI word l[j] hp
    have hql := zeG word l[j] hp
    have HS := zhd (zmT word l j hlt)
    have HM := zhd (max_snoc l j hlt)
    have hy := zbw word (l.take j) (fun p hp => HOK.out p (List.mem_of_mem_take hp))
    have hmx := max_bd (l.take j) (fun p hp => HOK.out p (List.mem_of_mem_take hp)) 0 (by omega)
    have hmx' : 0 ≤ zbG (l.take j) ∧ zbG (l.take j) ≤ 31 := hmx
    have HO := zhd (or_i64 (zaZ word (l.take j)) (zc7 word l[j]) hy hql)
    clear hmx
    obtain ⟨⟨k0, k1, k2, k3, k4, k5⟩, k6⟩ := hp
    clear hc
    generalize l[j] = p at *
    generalize zaZ word (l.take j) = y at *
    generalize zbG (l.take j) = mx at *
    obtain ⟨pn, pf, pm, pa⟩ := p
    simp only at g0 g1 g2 g3 k0 k1 k2 k3 k4 k5 k6 hq hql
    obtain ⟨pf, rfl⟩ : ∃ m : Nat, pf = m := ⟨pf.toNat, by omega⟩
    obtain ⟨pm, rfl⟩ : ∃ m : Nat, pm = m := ⟨pm.toNat, by omega⟩
    obtain ⟨pa, rfl⟩ : ∃ m : Nat, pa = m := ⟨pa.toNat, by omega⟩
    simp only [Int.toNat_natCast] at hq
    go_wp2_with fail
    go_quiet ((go_at_call 150; exact Calls.quiet_of (field_q word pa pm _ (by omega) (by omega) hw)))
    go_wp2_with fail
    refine ⟨⟨j + 1, by omega, by go_num, by rw [HS.out, ← HO.out], by rw [HM.out]; split <;> (congr 1; omega), zaF (by repeat (first | (with_reducible first | exact Below.refl _ _ | refine zaj ?_ ?_ _ | apply zag | refine zae ?_ (by assumption) | apply zak) | omega)) _⟩, by simp [intOf]; omega⟩
  · have e : l.take j = l := List.take_of_length_le (by omega)
    rw [e] at *
    go_wp2_with fail
    go_ret2
    exact ⟨by rw [HL.out]; rfl, (by repeat (first | (with_reducible first | exact Below.refl _ _ | refine zaj ?_ ?_ _ | apply zag | refine zae ?_ (by assumption) | apply zak) | omega))⟩
end
section
open Go.RowKit
theorem zbd (x y g k : Nat) : zac (x ||| y) g k = zac x g k ||| zac y g k := by
 unfold zac
 rw [← Nat.shiftRight_eq_div_pow, ← Nat.shiftRight_eq_div_pow, ← Nat.shiftRight_eq_div_pow, Nat.shiftRight_or_distrib, Nat.or_mod_two_pow]
theorem zb0 (n fr mn at' : Int) (g k : Nat) (h0 : 0 ≤ mn ∧ 0 ≤ at' ∧ at' + mn ≤ 32) (h : at' + mn ≤ g ∨ (g : Int) + k ≤ at') : zac (zeg ⟨n, fr, mn, at'⟩) g k = 0 := by
 unfold zac zeg
 simp only
 obtain ⟨m, rfl⟩ := Int.eq_ofNat_of_zero_le h0.1
 obtain ⟨a, rfl⟩ := Int.eq_ofNat_of_zero_le h0.2.1
 simp only [Int.toNat_natCast]
 generalize hv : (n % 4294967296).toNat / 2 ^ fr.toNat % 2 ^ m = v
 have hv1 : v < 2 ^ m := by rw [← hv]; exact Nat.mod_lt _ (Nat.two_pow_pos _)
 have e32 : (4294967296 : Nat) = 2 ^ 32 := rfl
 have hlt : v * 2 ^ a < 2 ^ (m + a) := by rw [Nat.pow_add]; exact Nat.mul_lt_mul_of_pos_right hv1 (Nat.two_pow_pos _)
 have hle : 2 ^ (m + a) ≤ 2 ^ 32 := Nat.pow_le_pow_right (by decide) (by omega)
 rw [Nat.mod_eq_of_lt (a := v * 2 ^ a) (by omega)]
 rcases h with h | h
 · have : 2 ^ (m + a) ≤ 2 ^ g := Nat.pow_le_pow_right (by decide) (by omega)
   rw [Nat.div_eq_of_lt (by omega), Nat.zero_mod]
 · obtain ⟨c, rfl⟩ : ∃ c, a = g + (k + c) := ⟨a - g - k, by omega⟩
   rw [Nat.pow_add, Nat.mul_comm (2 ^ g), ← Nat.mul_assoc, Nat.mul_div_cancel _ (Nat.two_pow_pos _), Nat.pow_add, Nat.mul_comm (2 ^ k), ← Nat.mul_assoc, Nat.mul_mod_left]
theorem zcO (n fr mn at' : Int) (g k : Nat) (h0 : 0 ≤ mn ∧ 0 ≤ at' ∧ at' + mn ≤ 32) (h : at' ≤ g ∧ (g : Int) + k ≤ at' + mn) : zac (zeg ⟨n, fr, mn, at'⟩) g k = (n % 4294967296).toNat / 2 ^ fr.toNat / 2 ^ (g - at'.toNat) % 2 ^ k := by
 unfold zac zeg
 simp only
 obtain ⟨m, rfl⟩ := Int.eq_ofNat_of_zero_le h0.1
 obtain ⟨a, rfl⟩ := Int.eq_ofNat_of_zero_le h0.2.1
 simp only [Int.toNat_natCast] at h ⊢
 generalize (n % 4294967296).toNat / 2 ^ fr.toNat = u
 obtain ⟨c, rfl⟩ : ∃ c, g = a + c := ⟨g - a, by omega⟩
 obtain ⟨e, rfl⟩ : ∃ e, m = c + (k + e) := ⟨m - c - k, by omega⟩
 have hv1 : u % 2 ^ (c + (k + e)) < 2 ^ (c + (k + e)) := Nat.mod_lt _ (Nat.two_pow_pos _)
 have hlt : u % 2 ^ (c + (k + e)) * 2 ^ a < 2 ^ (c + (k + e) + a) := by rw [Nat.pow_add _ _ a]; exact Nat.mul_lt_mul_of_pos_right hv1 (Nat.two_pow_pos _)
 have hle : 2 ^ (c + (k + e) + a) ≤ 2 ^ 32 := Nat.pow_le_pow_right (by decide) (by omega)
 rw [Nat.mod_eq_of_lt (a := _ * 2 ^ a) (by omega), Nat.pow_add 2 a c, ← Nat.div_div_eq_div_mul, Nat.mul_div_cancel _ (Nat.two_pow_pos _), Nat.add_sub_cancel_left]
 rw [Nat.pow_add 2 c, Nat.mod_mul_right_div_self, Nat.pow_add 2 k, Nat.mod_mul_right_mod]
end
section
open Go.RowKit
def zbH (least : Int) (n : Nat) (many : Int) : Int := if least < 0 ∧ (n : Int) / 2 ^ (many - 1).toNat ≠ 0 then n - 2 ^ many.toNat else n
def decR (f : Int) (op : Int) (word : Nat) : Ins :=
 ⟨op, if (zaI f).d then (zac word 7 5 : Nat) else 0, if (zaI f).a then (zac word 15 5 : Nat) else 0, if (zaI f).b then (zac word 20 5 : Nat) else 0,
  zbH (zaI f).least (zaZ word (numP f 0)) (zbG (numP f 0))⟩
def decI (op : Int) (word : Nat) : Ins := decR (rowT op).form op word
def zgx (word : Nat) (op : Nat) : Bool := encE (decI op word) == 0 && encV (decI op word) == word
def zdt : Ins := ⟨0, 0, 0, 0, 0⟩
def zeR (word : Nat) : Option Nat := (List.range' 1 49).find? (zgx word)
def decX (word : Nat) : Ins := match zeR word with | some op => decI op word | none => zdt
def decE (word : Nat) : Int := match zeR word with | some _ => 0 | none => 20
theorem dec_hit {word op : Nat} (h1 : 1 ≤ op ∧ op ≤ 49) (h : zgx word op = true) (hno : ∀ o, 1 ≤ o → o < op → zgx word o = false) : decX word = decI op word ∧ decE word = 0 := by
 have : zeR word = some op := by
  unfold zeR
  rw [List.find?_eq_some_iff_append]
  refine ⟨h, List.range' 1 (op - 1), List.range' (op + 1) (49 - op), ?_, ?_⟩
  · rw [show List.range' 1 49 = List.range' 1 (op - 1) ++ List.range' op (50 - op) by
     have := @List.range'_append 1 (op - 1) (50 - op) 1
     rw [show 1 + 1 * (op - 1) = op by omega, show op - 1 + (50 - op) = 49 by omega] at this; exact this.symm]
    rw [show 50 - op = (49 - op) + 1 by omega, List.range'_succ]
  · intro o ho
    rw [List.mem_range'_1] at ho
    rw [hno o (by omega) (by omega)]; rfl
 unfold decX decE; rw [this]; exact ⟨rfl, rfl⟩
theorem dec_none {word : Nat} (hno : ∀ o, 1 ≤ o → o < 50 → zgx word o = false) : decX word = zdt ∧ decE word = 20 := by
 have : zeR word = none := by
  unfold zeR
  rw [List.find?_eq_none]
  intro o ho
  rw [List.mem_range'_1] at ho
  rw [hno o (by omega) (by omega)]; simp
 unfold decX decE; rw [this]; exact ⟨rfl, rfl⟩
end
section
open Go.RowKit
set_option linter.unusedSimpArgs false
def rowB (k : Nat) : Bool :=
 let r := rowT k
 decide (0 ≤ r.low ∧ r.low < 128 ∧ 0 ≤ r.mid ∧ r.mid < 8 ∧ 0 ≤ r.high ∧ r.high < 128) &&
 decide ((r.form = 85 ∨ r.form = 74 → r.mid = 0) ∧ (r.form = 85 ∨ r.form = 74 ∨ r.form = 73 ∨ r.form = 83 ∨ r.form = 66 ∨ r.form = 70 ∨ r.form = 67 → r.high = 0) ∧ (r.form = 76 ∨ r.form = 65 → r.high % 4 = 0) ∧ (r.form ≠ 90 → zbE k = 0)) &&
 (r.form == 82 || r.form == 73 || r.form == 72 || r.form == 83 || r.form == 66 || r.form == 85 || r.form == 74 || r.form == 70 || r.form == 67 || r.form == 76 || r.form == 65 || r.form == 90)
theorem row_all : ∀ k : Fin 50, 1 ≤ k.val → rowB k.val = true := by decide +kernel
theorem za4 {op : Int} (h : 1 ≤ op ∧ op ≤ 49) : rowB op.toNat = true ∧ ((op.toNat : Nat) : Int) = op := ⟨row_all ⟨op.toNat, by omega⟩ (by simp; omega), by omega⟩
theorem zav (fr mn at' : Int) : zeg ⟨0, fr, mn, at'⟩ = 0 := by simp [zeg]
theorem field_zero (g k : Nat) : zac 0 g k = 0 := by simp [zac]
theorem zaN {x : Ins} (h : zaS x = true) :
 (1 ≤ x.op ∧ x.op ≤ 49) ∧ (0 ≤ x.d ∧ x.d < 32 ∧ ((shX x).d = false → x.d = 0)) ∧ (0 ≤ x.a ∧ x.a < 32 ∧ ((shX x).a = false → x.a = 0)) ∧ (0 ≤ x.b ∧ x.b < 32 ∧ ((shX x).b = false → x.b = 0)) ∧
 (shX x).least ≤ x.n ∧ x.n ≤ (shX x).most ∧ ((shX x).step = 2 → x.n % 2 = 0) := by
 simp only [zaS, isOp, mayB, Bool.and_eq_true, Bool.or_eq_true, decide_eq_true_eq] at h
 obtain ⟨h0, ⟨h1, h2, h3⟩, ⟨h4, h5, h6⟩, ⟨h7, h8, h9⟩, h10, h11, h12⟩ := h
 refine ⟨h0, ⟨h1, h2, fun e => ?_⟩, ⟨h4, h5, fun e => ?_⟩, ⟨h7, h8, fun e => ?_⟩, h10, h11, fun e => ?_⟩
 · simpa [e] using h3
 · simpa [e] using h6
 · simpa [e] using h9
 · simp only [modB, e, if_true, beq_iff_eq] at h12
   exact Int.emod_eq_zero_of_dvd (Int.dvd_of_tmod_eq_zero h12)
theorem zhX {x : Ins} (h : zaS x = true) : encV x = (encN x : Nat) ∧ encE x = 0 := by unfold encV encE; rw [h]; exact ⟨rfl, rfl⟩
theorem zhW {x : Ins} (h : zaS x = false) : encV x = 0 ∧ encE x = 1 := by unfold encV encE; rw [h]; exact ⟨rfl, rfl⟩
end
end Go.Proofs.YtdobddiibgfeaaaGreat
