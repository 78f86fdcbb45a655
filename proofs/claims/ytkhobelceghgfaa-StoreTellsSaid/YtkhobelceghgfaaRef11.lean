/-
  The contracts of headstockref11's hart, there, Load.
-/
import Derived.Test.YtkhobelceghgfaaMemCell
namespace Go.Proofs.Ytkhobelceghgfaa
open Go.RowKit
set_option maxHeartbeats 1000000 in
theorem rhart_any (v : Value) (m : Mem) (h : Int) (r : Bool) (w : World) (hm : IsMem w v m) (hr : hartB m h = r) :
    Calls Try.prog 55 #[v, .int .i64 h] w fun e w' => e = .returned (.bool r) ∧ Below w.heap.size w w' := by
  obtain ⟨a1, c1, a2, c2, a3, c3, rows, rfl, _, _, _, _⟩ := hm.parts
  subst hr
  unfold hartB
  generalize m.words.length = n1
  generalize m.pend.length = n2
  generalize m.res.length = n3
  by_cases h0 : 0 ≤ h
  · have hd : decide (0 ≤ h) = true := decide_eq_true h0
    rw [hd]
    cases h1 : decide (h < (n2 : Int)) <;> cases h2 : decide (h < (n3 : Int))
    all_goals
      go_enter Try.func55, Try.ntmps55
      go_wp2_with fail
      go_ret
      exact ⟨ret1 (rbool rfl), bel_new _ _⟩
  · have hd : decide (0 ≤ h) = false := decide_eq_false h0
    rw [hd]
    go_enter Try.func55, Try.ntmps55
    go_wp2_with fail
    go_ret
    exact ⟨ret1 (rbool rfl), bel_new _ _⟩
set_option maxHeartbeats 1000000 in
theorem rthere_any (v : Value) (m : Mem) (h a : Int) (r : Bool) (w : World) (hm : IsMem w v m) (hr : hasB m h a = r) :
    Calls Try.prog 52 #[v, .int .i64 h, .int .i64 a] w fun e w' => e = .returned (.bool r) ∧ Below w.heap.size w w' := by
  subst hr
  have HM := Lib.hid hm
  obtain ⟨a1, c1, a2, c2, a3, c3, rows, rfl, _, _, _, _⟩ := hm.parts
  clear hm
  unfold hasB
  cases hh : hartB m h
  · have HH := Lib.hid hh; clear hh
    generalize m.words.length = n1 at *
    generalize m.pend.length = n2 at *
    generalize m.res.length = n3 at *
    go_enter Try.func52, Try.ntmps52
    go_wp2_with (go_at_call 55; ((with_reducible refine (rhart_any _ m h false _ (HM.out.below (bel_new _ _)) HH.out).mono ?_); rintro e w1 ⟨rfl, hb⟩))
    go_ret
    exact ⟨ret1 (rbool rfl), bw_tr (bel_new _ _) hb⟩
  · have HH := Lib.hid hh; clear hh
    generalize m.words.length = n1 at *
    generalize m.pend.length = n2 at *
    generalize m.res.length = n3 at *
    by_cases h0 : 0 ≤ a
    · have hd : decide (0 ≤ a) = true := decide_eq_true h0
      rw [hd]
      cases hd2 : decide (a < (n1 : Int))
      all_goals
        go_enter Try.func52, Try.ntmps52
        go_wp2_with (go_at_call 55; ((with_reducible refine (rhart_any _ m h true _ (HM.out.below (bel_new _ _)) HH.out).mono ?_); rintro e w1 ⟨rfl, hb⟩; obtain ⟨c1, f1⟩ := bcell hb))
        go_ret
        exact ⟨ret1 (rbool rfl), bw_tr (bel_new _ _) hb⟩
    · have hd : decide (0 ≤ a) = false := decide_eq_false h0
      rw [hd]
      go_enter Try.func52, Try.ntmps52
      go_wp2_with (go_at_call 55; ((with_reducible refine (rhart_any _ m h true _ (HM.out.below (bel_new _ _)) HH.out).mono ?_); rintro e w1 ⟨rfl, hb⟩))
      go_ret
      exact ⟨ret1 (rbool rfl), bw_tr (bel_new _ _) hb⟩
/-- Where a word lies. -/
theorem IsMem.word {w : World} {a1 a2 a3 : Option Addr} {n1 n2 n3 c1 c2 c3 : Nat} {m : Mem} (hm : IsMem w (.agg #[.slice a1 n1 c1, .slice a2 n2 c2, .slice a3 n3 c3]) m) {a : Int} (h0 : 0 ≤ a) (h1 : a < m.words.length) :
    ∃ b o, a1 = some ⟨b, o, none⟩ ∧ n1 = m.words.length ∧ n1 ≤ c1 ∧ c1 ≤ 9223372036854775807 ∧ CellAt w b (o + a.toNat) (.int .i64 (wordOf m a)) := by
  obtain ⟨a1', c1', a2', c2', a3', c3', rows, e, r1, r2, r3, r4⟩ := hm.parts
  injection e with e
  have e2 : (.slice a1' m.words.length c1' : Value) = .slice a1 n1 c1 := by
    have := congrArg (fun x => x[0]?) e
    simpa using this.symm
  rw [e2] at r1
  obtain ⟨b, o, c, e3, hlt, hc, hmx, hcell⟩ := r1.some (by omega)
  injection e3 with e4 e5 e6
  subst e4 e5 e6
  unfold maxLen at hmx
  refine ⟨b, o, rfl, rfl, hc, by omega, hlt, hcell _ _ ?_⟩
  rw [intC_at _ _ (by omega : a.toNat < m.words.length)]
  unfold wordOf
  simp [List.getD, List.getElem?_eq_getElem (by omega : a.toNat < m.words.length)]
/-- Where a reservation lies. -/
theorem IsMem.resv {w : World} {a1 a2 a3 : Option Addr} {n1 n2 n3 c1 c2 c3 : Nat} {m : Mem} (hm : IsMem w (.agg #[.slice a1 n1 c1, .slice a2 n2 c2, .slice a3 n3 c3]) m) {a : Int} (h0 : 0 ≤ a) (h1 : a < m.res.length) :
    ∃ b o, a3 = some ⟨b, o, none⟩ ∧ n3 = m.res.length ∧ n3 ≤ c3 ∧ c3 ≤ 9223372036854775807 ∧ CellAt w b (o + a.toNat) (.int .i64 (resOf m a)) := by
  obtain ⟨a1', c1', a2', c2', a3', c3', rows, e, r1, r2, r3, r4⟩ := hm.parts
  injection e with e
  have e2 : (.slice a3' m.res.length c3' : Value) = .slice a3 n3 c3 := by
    have := congrArg (fun x => x[2]?) e
    simpa using this.symm
  rw [e2] at r3
  obtain ⟨b, o, c, e3, hlt, hc, hmx, hcell⟩ := r3.some (by omega)
  injection e3 with e4 e5 e6
  subst e4 e5 e6
  unfold maxLen at hmx
  refine ⟨b, o, rfl, rfl, hc, by omega, hlt, hcell _ _ ?_⟩
  rw [intC_at _ _ (by omega : a.toNat < m.res.length)]
  unfold resOf
  simp [List.getD, List.getElem?_eq_getElem (by omega : a.toNat < m.res.length)]
theorem lastN_take (l : List (Int × Int)) (a d : Int) {i : Nat} {x : Int × Int} (hx : l[i]? = some x) : lastN (l.take (i + 1)) a d = if x.1 = a then x.2 else lastN (l.take i) a d := by
  obtain ⟨hi, rfl⟩ := List.getElem?_eq_some_iff.1 hx
  rw [List.take_succ_eq_append_getElem hi, lastN_app]
  rfl
set_option maxHeartbeats 4000000 in
theorem rload_any (v : Value) (m : Mem) (h a : Int) (r : Int × Int) (w : World) (hm : IsMem w v m) (hs : Small m) (hr : loadR m h a = r) :
    Calls Try.prog 26 #[v, .int .i64 h, .int .i64 a] w fun e w' => e = .returned (.tuple #[.int .i64 r.1, .int .i64 r.2]) ∧ Below w.heap.size w w' := by
  subst hr
  unfold loadR
  have HM := Lib.hid hm
  cases hh : hasB m h a
  · have HH := Lib.hid hh; clear hh
    obtain ⟨a1, c1, a2, c2, a3, c3, rows, rfl, _, _, _, _⟩ := hm.parts
    clear hm
    generalize m.words.length = n1 at *
    generalize m.pend.length = n2 at *
    generalize m.res.length = n3 at *
    go_enter Try.func26, Try.ntmps26
    go_wp2_with (go_at_call 52; ((with_reducible refine (rthere_any _ m h a false _ (HM.out.below (bel_new _ _)) HH.out).mono ?_); rintro e w1 ⟨rfl, hb⟩))
    go_ret2
    exact ⟨rfl, bw_tr (bel_new _ _) hb⟩
  · have HH := Lib.hid hh
    obtain ⟨q1, q2, q3, q4, q5⟩ := hasB_spec hh
    obtain ⟨a1, c1, a2, c2, a3, c3, rows, rfl, _, _, _, _⟩ := hm.parts
    obtain ⟨b, o, ra, rc, rfl, e9, q6, q7, q8, q9, q10⟩ := hm.row q2 q1
    obtain ⟨wb, wo, rfl, e8, q11, q12, hw1, hw2⟩ := hm.word q4 q5
    have hl8 : (pendOf m h).length ≤ 1000 := by
      have := pendOf_at q2 q1
      exact hs.each _ (List.mem_of_getElem? this)
    clear e9 e8 hh hm hs
    have LD : Hid (loadN m h a = lastN (pendOf m h) a (wordOf m a)) := Lib.hid rfl
    generalize loadN m h a = res at *
    generalize pendOf m h = L at *
    obtain ⟨n, hn⟩ : ∃ n, L.length = n := ⟨_, rfl⟩
    rw [hn] at q9 q10 hl8
    have HN := Lib.hid hn; clear hn
    have HR := Lib.hid q10; clear q10
    generalize wordOf m a = wd at *
    generalize m.words.length = n1 at *
    generalize m.pend.length = n2 at *
    generalize m.res.length = n3 at *
    go_enter Try.func26, Try.ntmps26
    go_wp2_with fail
    refine (rthere_any _ m h a true _ (HM.out.below (bel_new _ _)) HH.out).mono ?_
    rintro e w1 ⟨rfl, hb⟩
    have hb' := Lib.hid (bw_tr (bel_new _ _) hb)
    have hbx := up_in hb (new_in w _)
    obtain ⟨⟨k0, k1, k2⟩, _⟩ := six hbx
    have hlt1 := lt_in hbx
    have hrow := CellAt.up ⟨q8, q9⟩ hb'.out
    have hwd := CellAt.up ⟨hw1, hw2⟩ hb'.out
    have HRD := Lib.hid (HR.out.below hb'.out)
    have B1 := hb'
    clear hb hbx HR HM q9 hw1 hw2 hb'
    obtain ⟨t1, v1⟩ := hrow; obtain ⟨t2, v2⟩ := hwd
    go_wp2_with fail
    go_loopw [9, 10] (fun s i wr => ∃ j : Nat, j ≤ n ∧ s = .int .i64 (lastN (L.take j) a wd) ∧ i = .int .i64 j ∧ wr = w1) (fun _ i _ => n - (intOf i).toNat)
    case atStart => exact ⟨0, Nat.zero_le _, rfl, rfl, rfl⟩
    case round =>
      obtain ⟨j, hj, rfl, rfl, rfl⟩ := hrel
      by_cases hlt : j < n
      · obtain ⟨⟨x1, x2⟩, hx⟩ : ∃ x, L[j]? = some x := ⟨_, List.getElem?_eq_getElem (by rw [HN.out]; exact hlt)⟩
        have HS := Lib.hid (lastN_take L a wd hx)
        obtain ⟨xb, xo, rfl, hxc, hxm, ⟨tx1, cx1⟩, ⟨tx2, cx2⟩⟩ := entry_cells HRD.out hx (by omega)
        simp only at cx1 cx2
        clear hx
        cases hq : (x1 == a)
        · have HS2 : Hid (lastN (L.take (j + 1)) a wd = lastN (L.take j) a wd) := Lib.hid (by rw [HS.out, if_neg (by simpa using hq)])
          clear HS
          generalize lastN (L.take j) a wd = lj at *
          go_wp2_with fail
          exact ⟨⟨j + 1, by omega, by rw [HS2.out], by go_num, by trivial⟩, by simp [intOf]; omega⟩
        · have HS2 : Hid (lastN (L.take (j + 1)) a wd = x2) := Lib.hid (by rw [HS.out, if_pos (by simpa using hq)])
          clear HS
          generalize lastN (L.take j) a wd = lj at *
          go_wp2_with fail
          exact ⟨⟨j + 1, by omega, by rw [HS2.out], by go_num, by trivial⟩, by simp [intOf]; omega⟩
      · have hjn : j = n := by omega
        subst hjn
        have HE : Hid (lastN (L.take j) a wd = res) := Lib.hid (by rw [LD.out, ← HN.out, List.take_length])
        rw [HE.out]
        go_wp2_with fail
        go_ret2
        exact ⟨rfl, B1.out⟩
end Go.Proofs.Ytkhobelceghgfaa
