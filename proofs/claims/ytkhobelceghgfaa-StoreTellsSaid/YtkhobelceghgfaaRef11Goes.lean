/-
  The contract of headstockref11.goes.
-/
import Derived.Test.YtkhobelceghgfaaRef11Own
namespace Go.Proofs.Ytkhobelceghgfaa
open Go.RowKit
theorem OwnMem.low {w : World} {B B' p T : Nat} {m : Mem} {wv pv rv : Value} {rows : List Value} (h : OwnMem w B p T m wv pv rv rows) (hb : B' ≤ B) : OwnMem w B' p T m wv pv rv rows where
  at_ := h.at_
  base := Nat.le_trans hb h.base
  words := own_base h.words hb
  pend := own_base h.pend hb
  res := own_base h.res hb
  len := h.len
  each := fun i v l hv hl => own_base (h.each i v l hv hl) hb
  apart := h.apart
  rowsApart := h.rowsApart
/-- What calls of headstockref11 that give a memory alone give: one of their own. -/
def OwnRet (w : World) (m : Mem) (e : Ending) (w' : World) : Prop := ∃ q a1 b1 a2 b2 a3 b3 rows, e = .returned (.agg #[.slice a1 m.words.length b1, .slice a2 m.pend.length b2, .slice a3 m.res.length b3]) ∧ OwnMem w' w.heap.size q 27 m (.slice a1 m.words.length b1) (.slice a2 m.pend.length b2) (.slice a3 m.res.length b3) rows ∧ Below w.heap.size w w'
theorem rown_ret (v : Value) (m : Mem) (w : World) (hm : IsMem w v m) (hs : Small m) : Calls Try.prog 53 #[v] w (OwnRet w m) :=
  (rown_any v m w hm hs).mono fun e w' h => by
    obtain ⟨q, wv, pv, rv, rows, rfl, ho, hb⟩ := h
    obtain ⟨a1, b1, rfl⟩ := own_shape ho.words
    obtain ⟨a2, b2, rfl⟩ := own_shape ho.pend
    obtain ⟨a3, b3, rfl⟩ := own_shape ho.res
    exact ⟨q, a1, b1, a2, b2, a3, b3, rows, rfl, ho, hb⟩
abbrev zM3 : Obj := .cells #[.slice none 0 0, .slice none 0 0, .slice none 0 0] 27 (0, 0)
theorem cell_other {w : World} {B e k n g j b T : Nat} {u v : Value} {xs : List Value} {cs : Array Value} (ho : w.ownsRow B e k v n xs) (hg : v.ownBlock = some g) (hb : w.heap[b]? = some (.cells cs T (0, 0))) (hne : e ≠ T) : (w.setCell ⟨g, j, none⟩ u).heap[b]? = some (.cells cs T (0, 0)) :=
  (heap_set (fun e' => own_not ho hb hne (by rw [hg, e']))).trans hb
set_option maxHeartbeats 4000000 in
theorem rgoes_any (v : Value) (m : Mem) (h a n : Int) (w : World) (hm : IsMem w v m) (hs : Small m) (ha : 0 ≤ a ∧ a < m.words.length) :
    Calls Try.prog 56 #[v, .int .i64 h, .int .i64 a, .int .i64 n] w (OwnRet w (goesM m h a n)) := by
  have HM := Lib.hid hm; have HS := Lib.hid hs
  have sw := hs.words; have sr := hs.res; have sp := hs.pend
  obtain ⟨a1, c1, a2, c2, a3, c3, rows0, rfl, _, _, _, _⟩ := hm.parts
  clear hm hs
  obtain ⟨ka, hka, hkl⟩ : ∃ k : Nat, a = k ∧ k < m.words.length := ⟨a.toNat, by omega, by omega⟩
  subst hka
  have HX : Hid (∃ x, m.words[ka]? = some x) := Lib.hid ⟨_, List.getElem?_eq_getElem hkl⟩
  clear ha
  unfold OwnRet
  have HG : Hid ((goesM m h ka n).words.length = m.words.length ∧ (goesM m h ka n).pend.length = m.pend.length ∧ (goesM m h ka n).res.length = m.res.length) := Lib.hid ⟨by simp [goesM], rfl, by simp [goesM, goRes_len]⟩
  rw [HG.out.1, HG.out.2.1, HG.out.2.2]
  obtain ⟨n1, hn1⟩ : ∃ n, m.words.length = n := ⟨_, rfl⟩
  obtain ⟨n2, hn2⟩ : ∃ n, m.pend.length = n := ⟨_, rfl⟩
  obtain ⟨n3, hn3⟩ : ∃ n, m.res.length = n := ⟨_, rfl⟩
  have HN1 := Lib.hid hn1; have HN2 := Lib.hid hn2; have HN3 := Lib.hid hn3
  rw [hn1, hn2, hn3] at HM ⊢
  rw [hn1] at sw; rw [hn3] at sr; rw [hn2] at sp
  clear hn1 hn2 hn3 HG
  go_enter Try.func56, Try.ntmps56
  go_wp2_with fail
  have B0 := Lib.hid (bw_tr (bel_new w (.cells #[.slice a1 n1 c1, .slice a2 n2 c2, .slice a3 n3 c3] 27)) (bel_new (w.alloc (.cells #[.slice a1 n1 c1, .slice a2 n2 c2, .slice a3 n3 c3] 27)) (.cells #[.slice none 0 0, .slice none 0 0, .slice none 0 0] 27)))
  have R0 : Hid (((w.alloc (.cells #[.slice a1 n1 c1, .slice a2 n2 c2, .slice a3 n3 c3] 27)).alloc (.cells #[.slice none 0 0, .slice none 0 0, .slice none 0 0] 27)).heap[w.heap.size + 1]? = some zM3) := Lib.hid (by
    have := new_in (w.alloc (.cells #[.slice a1 n1 c1, .slice a2 n2 c2, .slice a3 n3 c3] 27)) (.cells #[.slice none 0 0, .slice none 0 0, .slice none 0 0] 27)
    rwa [World.size_alloc] at this)
  refine (rown_ret _ m _ (HM.out.below B0.out) HS.out).mono ?_
  rintro e w1 ⟨q0, x1, y1, x2, y2, x3, y3, rows, rfl, ho, hb⟩
  rw [HN1.out, HN2.out, HN3.out] at ho ⊢
  have R1 := Lib.hid (up_in hb R0.out); have B1 := Lib.hid (bw_tr B0.out hb)
  have O1 := Lib.hid (ho.low B0.out.size)
  clear ho hb R0 B0 HM HS
  go_upto_region 2 with fail
  have hO := O1.out.move (new_in w1 (.cells #[.slice x1 n1 y1, .slice x2 n2 y2, .slice x3 n3 y3] 27)) B1.out.size (bel_new w1 _)
  have hR := up_in (bel_new w1 (.cells #[.slice x1 n1 y1, .slice x2 n2 y2, .slice x3 n3 y3] 27)) R1.out
  have hB := bw_tr B1.out (bel_new w1 (.cells #[.slice x1 n1 y1, .slice x2 n2 y2, .slice x3 n3 y3] 27))
  obtain ⟨W2, hW⟩ : ∃ W, w1.alloc (.cells #[.slice x1 n1 y1, .slice x2 n2 y2, .slice x3 n3 y3] 27) = W := ⟨_, rfl⟩
  rw [hW] at hO hR hB ⊢
  have hqr : w.heap.size + 1 < w1.heap.size := lt_in R1.out
  obtain ⟨q, hq⟩ : ∃ q, w1.heap.size = q := ⟨_, rfl⟩
  rw [hq] at hO hqr ⊢
  clear hW hq O1 R1 B1
  have hwo := hO.words
  rw [HN1.out] at hwo
  obtain ⟨x, hx⟩ := HX.out
  obtain ⟨g, c, e1, hc1, hc2⟩ := own_some hwo (by have := HN1.out; omega)
  injection e1 with e1 e2 e3
  subst e1 e3
  clear e2
  have hg : w.heap.size ≤ g := (hwo.lt g rfl).1
  unfold maxLen at hc2
  have hka : ka < n1 := by have := HN1.out; have := (List.getElem?_eq_some_iff.1 hx).1; omega
  obtain ⟨q1, q2⟩ := own_cell1 (k := ka) (u := .int .i64 x) hwo (by unfold intC; rw [List.getElem?_map, hx]; rfl)
  obtain ⟨⟨p0, p1, p2⟩, _⟩ := six hO.at_
  have tq := lt_in hO.at_
  have H1 := Lib.hid (hO.setWord (by decide) rfl ka n)
  have R3 : Hid ((W2.setCell ⟨g, ka, none⟩ (.int .i64 n)).heap[w.heap.size + 1]? = some zM3) := Lib.hid (cell_other hwo rfl hR (by decide))
  have B3 : Hid (Below w.heap.size w (W2.setCell ⟨g, ka, none⟩ (.int .i64 n))) := Lib.hid (bw_set hB hg _)
  clear hO hR hB hwo hx HX
  go_upto_region 3 with fail
  obtain ⟨W3, hW⟩ : ∃ W, W2.setCell ⟨g, ka, none⟩ (.int .i64 n) = W := ⟨_, rfl⟩
  rw [hW] at H1 R3 B3 ⊢
  clear hW q1 q2 p0 p1 p2 tq
  go_wp2_with fail
  go_loopw [10] (fun i wr => ∃ k : Nat, k ≤ n3 ∧ i = .int .i64 k ∧ OwnMem wr w.heap.size q 27 ⟨m.words.set ka n, m.pend, resK h ka k m.res⟩ (.slice (some ⟨g, 0, none⟩) n1 y1) (.slice x2 n2 y2) (.slice x3 n3 y3) rows ∧ Below w.heap.size w wr ∧ wr.heap[w.heap.size + 1]? = some zM3) (fun i _ => n3 - (intOf i).toNat)
  case atStart => exact ⟨0, Nat.zero_le _, rfl, H1.out, B3.out, R3.out⟩
  case round =>
    obtain ⟨k, hk, rfl, ho, hb, hr⟩ := hrel
    have HO := Lib.hid ho; have HB := Lib.hid hb; have HR := Lib.hid hr; clear ho hb hr
    obtain ⟨⟨t0, t1, t2⟩, _⟩ := six HO.out.at_
    have tq := lt_in HO.out.at_
    by_cases hlt : k < n3
    · have hlt' : k < m.res.length := by rw [HN3.out]; exact hlt
      have hrk := resK_at h ka k m.res hlt'
      have hlen : Hid ((resK h ka k m.res).length = n3) := Lib.hid (by rw [resK_len]; exact HN3.out)
      have ho3 : Hid (wr.ownsRow w.heap.size 3 1 (.slice x3 n3 y3) n3 (intC (resK h ka k m.res))) := Lib.hid (by have := HO.out.res; simp only at this; rwa [hlen.out] at this)
      obtain ⟨g3, c3, e3, hc3, hm3⟩ := own_some ho3.out (by omega)
      injection e3 with e4 e6 e5
      subst e4 e5
      clear e6
      have hg3 : w.heap.size ≤ g3 := (ho3.out.lt g3 rfl).1
      unfold maxLen at hm3
      obtain ⟨u1, u2⟩ := own_cell1 ho3.out (k := k) (u := .int .i64 m.res[k]) (by simp [intC, hrk])
      have hsucc := Lib.hid (resK_succ h ka k m.res hlt')
      have hsame := Lib.hid (set_same (resK h ka k m.res) k m.res[k] hrk)
      have hset := fun x => HO.out.setResv (by decide) (g := g3) (n := n3) (c := y3) rfl k x
      have HST := Lib.hid hset; clear hset hrk
      have HOT : Hid ((wr.setCell ⟨g3, k, none⟩ (.int .i64 (-1))).heap[w.heap.size + 1]? = some zM3) := Lib.hid (cell_other ho3.out rfl HR.out (by decide))
      generalize m.res[k] = r at *
      by_cases hk : (k : Int) = h
      · have e : Hid (OwnMem wr w.heap.size q 27 ⟨m.words.set ka n, m.pend, resK h ka (k + 1) m.res⟩ (.slice (some ⟨g, 0, none⟩) n1 y1) (.slice x2 n2 y2) (.slice (some ⟨g3, 0, none⟩) n3 y3) rows) := Lib.hid (by
          rw [hsucc.out, if_neg (by simp [hk]), hsame.out]; exact HO.out)
        have hb : ((k : Int) != h) = false := by simp [hk]
        have HK := Lib.hid hk; clear hk
        go_wp2_with fail
        go_roundw
        case rel => exact ⟨k + 1, by omega, by go_num, e.out, HB.out, HR.out⟩
        case measure => simp [intOf]; omega
      · have hb : ((k : Int) != h) = true := by simp [hk]
        cases hr : (r == (ka : Int))
        · have e : Hid (OwnMem wr w.heap.size q 27 ⟨m.words.set ka n, m.pend, resK h ka (k + 1) m.res⟩ (.slice (some ⟨g, 0, none⟩) n1 y1) (.slice x2 n2 y2) (.slice (some ⟨g3, 0, none⟩) n3 y3) rows) := Lib.hid (by
            rw [hsucc.out, if_neg (by simp at hr; simp [hr]), hsame.out]; exact HO.out)
          have HK := Lib.hid hk; clear hk
          go_wp2_with fail
          go_roundw
          case rel => exact ⟨k + 1, by omega, by go_num, e.out, HB.out, HR.out⟩
          case measure => simp [intOf]; omega
        · have e : Hid (OwnMem (wr.setCell ⟨g3, k, none⟩ (.int .i64 (-1))) w.heap.size q 27 ⟨m.words.set ka n, m.pend, resK h ka (k + 1) m.res⟩ (.slice (some ⟨g, 0, none⟩) n1 y1) (.slice x2 n2 y2) (.slice (some ⟨g3, 0, none⟩) n3 y3) rows) := Lib.hid (by
            rw [hsucc.out, if_pos (by simp at hr; simp [hr, hk])]; exact HST.out (-1))
          have HK := Lib.hid hk; clear hk
          go_wp2_with fail
          go_roundw
          case rel => exact ⟨k + 1, by omega, by go_num, e.out, bw_set HB.out hg3 _, HOT.out⟩
          case measure => simp [intOf]; omega
    · have hkn : k = n3 := by omega
      subst hkn
      have e : Hid (OwnMem wr w.heap.size q 27 (goesM m h ka n) (.slice (some ⟨g, 0, none⟩) n1 y1) (.slice x2 n2 y2) (.slice x3 k y3) rows) := Lib.hid (by
        have := HO.out
        rw [← HN3.out, resK_all] at this
        exact (by rw [← HN3.out]; exact this))
      obtain ⟨⟨e20, e21, e22⟩, f20, f21, f22⟩ := six HR.out
      have t2' := lt_in HR.out
      go_wp2_with fail
      have s3 := set3_spec (x := .slice (some ⟨g, 0, none⟩) n1 y1) (y := .slice x2 n2 y2) (z := .slice x3 k y3) HR.out
      obtain ⟨k0, k1, k2⟩ := three_cells s3.1
      have OE := Lib.hid (e.out.set3 (.slice (some ⟨g, 0, none⟩) n1 y1) (.slice x2 n2 y2) (.slice x3 k y3) HR.out (by omega))
      have BE := Lib.hid (bel_set3 (x := .slice (some ⟨g, 0, none⟩) n1 y1) (y := .slice x2 n2 y2) (z := .slice x3 k y3) HB.out (by omega : w.heap.size ≤ w.heap.size + 1))
      exact bodyPost_ret (v := .agg #[.slice (some ⟨g, 0, none⟩) n1 y1, .slice x2 n2 y2, .slice x3 k y3]) (by simp [results, Try.results56, go_sem, k0, k1, k2]) rfl ⟨_, _, _, _, _, _, _, _, rfl, OE.out, BE.out⟩
end Go.Proofs.Ytkhobelceghgfaa
