/-
  The contracts of slices.IndexFunc and ContainsFunc at lists of stores, with the closure of store.Drain.
-/
import Derived.Test.YtkhobelceghgfaaMemStore3
namespace Go.Proofs.Ytkhobelceghgfaa
open Go.RowKit
theorem clo_any (x1 x2 a : Int) (q : Nat) (r : Bool) (w : World) (hq : w.cell? ⟨q, 0, none⟩ = some (.int .i64 a)) (hlt : q < w.heap.size) (hr : (x1 == a) = r) :
    Calls Try.prog 37 #[.agg #[.int .i64 x1, .int .i64 x2], .pointer (some ⟨q, 0, none⟩)] w fun e w' => e = .returned (.bool r) ∧ Below w.heap.size w w' := by
  go_enter Try.func37, Try.ntmps37
  go_wp2_with fail
  go_ret
  exact ⟨ret1 (rbool (by first | rfl | exact hr)), bel_new _ _⟩
def anyAt (l : List (Int × Int)) (a : Int) : Bool := l.any fun x => decide (x.1 = a)
theorem anyAt_snoc (l : List (Int × Int)) (x : Int × Int) (a : Int) : anyAt (l ++ [x]) a = (anyAt l a || decide (x.1 = a)) := by simp [anyAt]
theorem anyAt_take {l : List (Int × Int)} {a : Int} {j k : Nat} {x : Int × Int} (hj : j < k) (hx : l[j]? = some x) (h : x.1 = a) : anyAt (l.take k) a = true := by
  unfold anyAt
  rw [List.any_eq_true]
  refine ⟨x, ?_, by simp [h]⟩
  apply List.mem_of_getElem? (i := j)
  rw [List.getElem?_take, if_pos hj, hx]
def IdxPost (w : World) (r : Bool) (e : Ending) (w' : World) : Prop := (∃ n : Int, e = .returned (.int .i64 n) ∧ decide (0 ≤ n) = r) ∧ Below w.heap.size w w'
set_option maxHeartbeats 1000000 in
theorem index_ent (b o k c q : Nat) (l : List (Int × Int)) (a : Int) (w : World) (hk : k ≤ l.length) (hkc : k ≤ c) (hcm : c ≤ 9223372036854775807) (hlt : b < w.heap.size) (hc : ∀ j x, l[j]? = some x → w.cell? ⟨b, o + j * 2, none⟩ = some (.int .i64 x.1) ∧ w.cell? ⟨b, o + j * 2 + 1, none⟩ = some (.int .i64 x.2))
    (hq : w.cell? ⟨q, 0, none⟩ = some (.int .i64 a)) (hql : q < w.heap.size) (hb : k ≤ 1000) :
    Calls Try.prog 60 #[.slice (some ⟨b, o, none⟩) k c, .func (.func 37) #[] #[.pointer (some ⟨q, 0, none⟩)]] w (IdxPost w (anyAt (l.take k) a)) := by
  have HC := Lib.hid hc; have HQ := Lib.hid hq; clear hc hq
  unfold IdxPost
  go_enter Try.func60, Try.ntmps60
  go_wp2_with fail
  go_loopw [8, 5] (fun i _ wr => ∃ j : Nat, j ≤ k ∧ i = .int .i64 j ∧ anyAt (l.take j) a = false ∧ Below w.heap.size w wr) (fun i _ _ => k - (intOf i).toNat)
  case atStart => exact ⟨0, Nat.zero_le _, rfl, rfl, Below.refl _ _⟩
  case round =>
    obtain ⟨j, hj, rfl, ha, hbb⟩ := hrel
    have HA := Lib.hid ha; have HB := Lib.hid hbb; clear ha hbb
    have HQr := Lib.hid ((HB.out.cell (p := ⟨q, 0, none⟩) hql).trans HQ.out)
    have hqr : q < wr.heap.size := Nat.lt_of_lt_of_le hql HB.out.size
    by_cases hjk : j < k
    · have hjl : j < l.length := by omega
      obtain ⟨h1, h2⟩ := HC.out j l[j] (by simp)
      have g1 := (HB.out.cell (p := ⟨b, o + j * 2, none⟩) hlt).trans h1
      have g2 := (HB.out.cell (p := ⟨b, o + j * 2 + 1, none⟩) hlt).trans h2
      have HX : Hid (l[j]? = some l[j]) := Lib.hid (by simp)
      have HS : Hid (anyAt (l.take (j + 1)) a = (anyAt (l.take j) a || decide (l[j].1 = a))) := Lib.hid (by rw [List.take_succ_eq_append_getElem hjl, anyAt_snoc])
      clear h1 h2
      generalize l[j] = x at *
      obtain ⟨x1, x2⟩ := x
      simp only at *
      cases hx : (x1 == a)
      · have HN : Hid (anyAt (l.take (j + 1)) a = false) := Lib.hid (by rw [HS.out, HA.out]; simp at hx; simp [hx])
        have HE := Lib.hid hx; clear hx
        go_wp2_with (go_at_call 37; ((with_reducible refine (clo_any x1 x2 a q false _ HQr.out hqr HE.out).mono ?_); rintro e w1 ⟨rfl, hb1⟩))
        go_roundw
        case rel => exact ⟨j + 1, by omega, by go_num, HN.out, bw_tr HB.out hb1⟩
        case measure => simp [intOf]; omega
      · have HT : Hid (anyAt (l.take k) a = true) := Lib.hid (anyAt_take hjk HX.out (by simpa using hx))
        have HE := Lib.hid hx; clear hx
        go_wp2_with (go_at_call 37; ((with_reducible refine (clo_any x1 x2 a q true _ HQr.out hqr HE.out).mono ?_); rintro e w1 ⟨rfl, hb1⟩))
        go_ret
        exact ⟨⟨_, rfl, by rw [HT.out]; simp⟩, bw_tr HB.out hb1⟩
    · have hjn : j = k := by omega
      subst hjn
      go_wp2_with fail
      go_ret
      exact ⟨⟨_, rfl, by rw [HA.out]; rfl⟩, HB.out⟩
theorem contains_ent (b o k c q : Nat) (l : List (Int × Int)) (a : Int) (r : Bool) (w : World) (hr : anyAt (l.take k) a = r) (hk : k ≤ l.length) (hkc : k ≤ c) (hcm : c ≤ 9223372036854775807) (hlt : b < w.heap.size) (hc : ∀ j x, l[j]? = some x → w.cell? ⟨b, o + j * 2, none⟩ = some (.int .i64 x.1) ∧ w.cell? ⟨b, o + j * 2 + 1, none⟩ = some (.int .i64 x.2))
    (hq : w.cell? ⟨q, 0, none⟩ = some (.int .i64 a)) (hql : q < w.heap.size) (hb : k ≤ 1000) :
    Calls Try.prog 36 #[.slice (some ⟨b, o, none⟩) k c, .func (.func 37) #[] #[.pointer (some ⟨q, 0, none⟩)]] w fun e w' => e = .returned (.bool r) ∧ Below w.heap.size w w' := by
  subst hr
  have HI := Lib.hid (index_ent b o k c q l a w hk hkc hcm hlt hc hq hql hb)
  clear hc hq
  go_enter Try.func36, Try.ntmps36
  go_wp2_with (go_at_call 60; ((with_reducible refine (HI.out).mono ?_); rintro e w1 ⟨⟨n, rfl, hn⟩, hb1⟩; have HNN := Lib.hid hn; clear hn))
  go_ret
  exact ⟨ret1 (rbool (by first | exact HNN.out | rfl)), hb1⟩
end Go.Proofs.Ytkhobelceghgfaa
