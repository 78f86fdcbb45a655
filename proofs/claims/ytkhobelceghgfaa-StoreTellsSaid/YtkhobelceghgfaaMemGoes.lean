/-
  The contract of (*store.memory).goes.
-/
import Derived.Test.YtkhobelceghgfaaMemOf
namespace Go.Proofs.Ytkhobelceghgfaa
open Go.RowKit
theorem own_cell1 {w : World} {B e n g c : Nat} {xs : List Value} (h : w.ownsRow B e 1 (.slice (some ⟨g, 0, none⟩) n c) n xs) {k : Nat} {u : Value} (hu : xs[k]? = some u) : w.cell? ⟨g, k, none⟩ = some u ∧ w.frozen? ⟨g, k, none⟩ = false := by
  have hk : k < n * 1 := by
    have := (List.getElem?_eq_some_iff.1 hu).1
    rw [h.1] at this; exact this
  refine ⟨by rw [h.cellAt k hk, hu], ?_⟩
  obtain ⟨cur, hc⟩ := own_block h (g := g) rfl
  exact frozen_in hc k
set_option maxHeartbeats 2000000 in
theorem goes_any (B p : Nat) (m : Mem) (wv pv rv : Value) (rows : List Value) (h a n : Int) (w : World) (ho : OwnMem w B p 66 m wv pv rv rows) (hs : Small m) (ha : 0 ≤ a ∧ a < m.words.length) :
    Calls Try.prog 48 #[.pointer (some ⟨p, 0, none⟩), .int .i64 h, .int .i64 a, .int .i64 n] w fun e w' => e = .returned (.tuple #[]) ∧ OwnMem w' B p 66 (goesM m h a n) wv pv rv rows ∧ Below B w w' := by
  obtain ⟨x2, y2, rfl⟩ := own_shape ho.pend
  obtain ⟨x3, y3, rfl⟩ := own_shape ho.res
  obtain ⟨g, c, rfl, hc1, hc2⟩ := own_some ho.words (by omega)
  have hg : B ≤ g := (ho.words.lt g rfl).1
  obtain ⟨ka, hka, hkl⟩ : ∃ k : Nat, a = k ∧ k < m.words.length := ⟨a.toNat, by omega, by omega⟩
  subst hka
  have sw := hs.words; have sr := hs.res
  unfold maxLen at hc2
  obtain ⟨q1, q2⟩ := own_cell1 ho.words (intC_at m.words ka hkl)
  obtain ⟨p0, p1, p2⟩ := three_cells ho.at_
  have H1 := Lib.hid (ho.setWord (by decide) rfl ka n)
  have HB0 : Hid (Below B w (w.setCell ⟨g, ka, none⟩ (.int .i64 n))) := Lib.hid (bel_set hg (Below.refl _ _))
  obtain ⟨r0, r1, r2⟩ := three_cells H1.out.at_
  have HL : Hid ((m.words.set ka n).length = m.words.length) := Lib.hid (by simp)
  clear ho ha
  generalize m.words[ka] = was at *
  generalize hn1 : m.words.length = n1 at *
  generalize hn2 : m.pend.length = n2 at *
  generalize hn3 : m.res.length = n3 at *
  have HN3 := Lib.hid hn3; clear hn1 hn2 hn3
  go_enter Try.func48, Try.ntmps48
  go_wp2_with fail
  go_loopw [24, 8, 9] (fun i _ _ wr => ∃ k : Nat, k ≤ n3 ∧ i = .int .i64 k ∧ OwnMem wr B p 66 ⟨m.words.set ka n, m.pend, resK h ka k m.res⟩ (.slice (some ⟨g, 0, none⟩) n1 c) (.slice x2 n2 y2) (.slice x3 n3 y3) rows ∧ Below B w wr) (fun i _ _ _ => n3 - (intOf i).toNat)
  case atStart => exact ⟨0, Nat.zero_le _, rfl, H1.out, HB0.out⟩
  case round =>
    obtain ⟨k, hk, rfl, ho, hb⟩ := hrel
    have HO := Lib.hid ho; have HB := Lib.hid hb; clear ho hb
    obtain ⟨t0, t1, t2⟩ := three_cells HO.out.at_
    by_cases hlt : k < n3
    · have hlt' : k < m.res.length := by rw [HN3.out]; exact hlt
      have hrk := resK_at h ka k m.res hlt'
      have hlen : Hid ((resK h ka k m.res).length = n3) := Lib.hid (by rw [resK_len]; exact HN3.out)
      have ho3 : Hid (wr.ownsRow B 3 1 (.slice x3 n3 y3) n3 (intC (resK h ka k m.res))) := Lib.hid (by have := HO.out.res; simp only at this; rwa [hlen.out] at this)
      obtain ⟨g3, c3, e3, hc3, hm3⟩ := own_some ho3.out (by omega)
      injection e3 with e4 _ e5
      subst e4 e5
      have hg3 : B ≤ g3 := (ho3.out.lt g3 rfl).1
      unfold maxLen at hm3
      obtain ⟨u1, u2⟩ := own_cell1 ho3.out (k := k) (u := .int .i64 m.res[k]) (by simp [intC, hrk])
      have hsucc := Lib.hid (resK_succ h ka k m.res hlt')
      have hsame := Lib.hid (set_same (resK h ka k m.res) k m.res[k] hrk)
      have hset := fun x => HO.out.setResv (by decide) (g := g3) (n := n3) (c := y3) rfl k x
      have HST := Lib.hid hset; clear hset hrk
      generalize m.res[k] = r at *
      by_cases hk : (k : Int) = h
      · have e : Hid (OwnMem wr B p 66 ⟨m.words.set ka n, m.pend, resK h ka (k + 1) m.res⟩ (.slice (some ⟨g, 0, none⟩) n1 c) (.slice x2 n2 y2) (.slice (some ⟨g3, 0, none⟩) n3 y3) rows) := Lib.hid (by
          rw [hsucc.out, if_neg (by simp [hk]), hsame.out]; exact HO.out)
        have hb : ((k : Int) != h) = false := by simp [hk]
        have HK := Lib.hid hk; clear hk
        go_wp2_with fail
        go_roundw
        case rel => exact ⟨k + 1, by omega, by go_num, e.out, HB.out⟩
        case measure => simp [intOf]; omega
      · have hb : ((k : Int) != h) = true := by simp [hk]
        cases hr : (r == (ka : Int))
        · have e : Hid (OwnMem wr B p 66 ⟨m.words.set ka n, m.pend, resK h ka (k + 1) m.res⟩ (.slice (some ⟨g, 0, none⟩) n1 c) (.slice x2 n2 y2) (.slice (some ⟨g3, 0, none⟩) n3 y3) rows) := Lib.hid (by
            rw [hsucc.out, if_neg (by simp at hr; simp [hr]), hsame.out]; exact HO.out)
          have HK := Lib.hid hk; clear hk
          go_wp2_with fail
          go_roundw
          case rel => exact ⟨k + 1, by omega, by go_num, e.out, HB.out⟩
          case measure => simp [intOf]; omega
        · have e : Hid (OwnMem (wr.setCell ⟨g3, k, none⟩ (.int .i64 (-1))) B p 66 ⟨m.words.set ka n, m.pend, resK h ka (k + 1) m.res⟩ (.slice (some ⟨g, 0, none⟩) n1 c) (.slice x2 n2 y2) (.slice (some ⟨g3, 0, none⟩) n3 y3) rows) := Lib.hid (by
            rw [hsucc.out, if_pos (by simp at hr; simp [hr, hk])]; exact HST.out (-1))
          have HK := Lib.hid hk; clear hk
          go_wp2_with fail
          go_roundw
          case rel => exact ⟨k + 1, by omega, by go_num, e.out, bel_set hg3 HB.out⟩
          case measure => simp [intOf]; omega
    · have hkn : k = n3 := by omega
      subst hkn
      have e : Hid (OwnMem wr B p 66 (goesM m h ka n) (.slice (some ⟨g, 0, none⟩) n1 c) (.slice x2 n2 y2) (.slice x3 k y3) rows) := Lib.hid (by
        have := HO.out
        rw [← HN3.out, resK_all] at this
        exact (by rw [← HN3.out]; exact this))
      go_wp2_with fail
      go_end0
      exact ⟨rfl, e.out, HB.out⟩
end Go.Proofs.Ytkhobelceghgfaa
