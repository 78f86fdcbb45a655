/-
  The contract of store.Same.
-/
import Derived.Test.YtkhobelceghgfaaMemEqual
namespace Go.Proofs.Ytkhobelceghgfaa
open Go.RowKit
theorem same_clo (v v' : Value) (xs ys : List (Int × Int)) (r : Bool) (w : World) (h : Reads w 2 xs.length v (entC xs)) (h' : Reads w 2 ys.length v' (entC ys)) (hr : decide (xs = ys) = r) :
    Calls Try.prog 44 #[v, v'] w fun e w' => e = .returned (.bool r) ∧ Below w.heap.size w w' := by
  subst hr
  have HE := Lib.hid (equal_ent v v' xs ys w h h'); clear h h'
  go_enter Try.func44, Try.ntmps44
  go_wp2_with (go_at_call 45; ((with_reducible refine (HE.out).mono ?_); rintro e w1 ⟨rfl, hb⟩))
  go_ret
  exact ⟨rfl, hb⟩
theorem own_ones {w : World} {rows : List Value} {pend : List (List (Int × Int))} (h : RowsAt w rows pend) : ∀ u ∈ rows, u.oneCell' = true := fun u hu => by
  obtain ⟨i, hi, rfl⟩ := List.mem_iff_getElem.1 hu
  have hi' : i < pend.length := by rw [← h.1]; exact hi
  exact own_one (h.2 i rows[i] pend[i] (by simp) (by simp [hi']))
set_option maxHeartbeats 2000000 in
theorem equalF_any (a a' : Option Addr) (c c' : Nat) (rows rows' : List Value) (xs ys : List (List (Int × Int))) (w : World) (h : Reads w 1 xs.length (.slice a xs.length c) rows) (h' : Reads w 1 ys.length (.slice a' ys.length c') rows') (hr : RowsAt w rows xs) (hr' : RowsAt w rows' ys) :
    Calls Try.prog 43 #[.slice a xs.length c, .slice a' ys.length c', .func (.func 44) #[] #[]] w fun e w' => e = .returned (.bool (decide (xs = ys))) ∧ Below w.heap.size w w' := by
  have HR := Lib.hid h; have HR' := Lib.hid h'; have HA := Lib.hid hr; have HA' := Lib.hid hr'; clear h h' hr hr'
  by_cases hl : xs.length = ys.length
  · have hlb : (((xs.length : Nat) : Int) != ((ys.length : Nat) : Int)) = false := by simp [hl]
    by_cases h0 : xs.length = 0
    · have hx0 : xs = [] := List.eq_nil_of_length_eq_zero h0
      have hy0 : ys = [] := List.eq_nil_of_length_eq_zero (by omega)
      subst hx0 hy0
      simp only [List.length_nil] at *
      go_enter Try.func43, Try.ntmps43
      go_wp2_with fail
      refine wp_loop_rounds 1 ?_
      rw [rounds_succ]
      go_wp2_with fail
      go_ret
      exact ⟨ret1 (rbool (by simp)), Below.refl _ _⟩
    · obtain ⟨b, o, c0, hv, hlt0, hc, hm, hcell⟩ := HR.out.some (by omega)
      obtain ⟨b', o', c0', hv', hlt0', hc', hm', hcell'⟩ := HR'.out.some (by omega)
      injection hv with e1 e1n e2; injection hv' with e3 e3n e4
      subst e1 e2 e3 e4
      clear e1n e3n
      obtain ⟨ln, hln⟩ : ∃ ln, xs.length = ln := ⟨_, rfl⟩
      have hln' : ys.length = ln := by omega
      have HLX := Lib.hid hln; have HLY := Lib.hid hln'
      have HC := Lib.hid hcell; have HC' := Lib.hid hcell'
      clear hcell hcell' hl hlb
      rw [hln] at hc h0 ⊢
      rw [hln'] at hc' ⊢
      clear hln hln'
      unfold maxLen at hm hm'
      go_enter Try.func43, Try.ntmps43
      go_wp2_with fail
      go_loopw [17] (fun i wr => ∃ k : Nat, k ≤ ln ∧ i = .int .i64 k ∧ xs.take k = ys.take k ∧ Below w.heap.size w wr) (fun i _ => ln - (intOf i).toNat)
      case atStart => exact ⟨0, Nat.zero_le _, rfl, rfl, Below.refl _ _⟩
      case round =>
        obtain ⟨k, hk, rfl, ht, hb⟩ := hrel
        have HT := Lib.hid ht; have HB := Lib.hid hb; clear ht hb
        by_cases hlt : k < ln
        · have hltx : k < xs.length := by rw [HLX.out]; exact hlt
          have hlty : k < ys.length := by rw [HLY.out]; exact hlt
          have hrx : k < rows.length := by rw [HA.out.1]; exact hltx
          have hry : k < rows'.length := by rw [HA'.out.1]; exact hlty
          have g1 : wr.cell? ⟨b, o + k, none⟩ = some rows[k] := (HB.out.cell (p := ⟨b, o + k, none⟩) hlt0).trans (HC.out k _ (by simp [hrx]))
          have g2 : wr.cell? ⟨b', o' + k, none⟩ = some rows'[k] := (HB.out.cell (p := ⟨b', o' + k, none⟩) hlt0').trans (HC'.out k _ (by simp [hry]))
          have HX := Lib.hid (Reads.own (own_below (HA.out.2 k rows[k] xs[k] (by simp) (by simp)) HB.out) (entC_one _))
          have HY := Lib.hid (Reads.own (own_below (HA'.out.2 k rows'[k] ys[k] (by simp) (by simp)) HB.out) (entC_one _))
          obtain ⟨p1, p2, s1⟩ := HX.out.shape
          obtain ⟨p3, p4, s2⟩ := HY.out.shape
          rw [s1] at g1 HX
          rw [s2] at g2 HY
          clear s1 s2
          by_cases hx : xs[k] = ys[k]
          · have HXX := Lib.hid hx; clear hx
            have HD : Hid (decide (xs[k] = ys[k]) = true) := Lib.hid (decide_eq_true HXX.out)
            have HTX := Lib.hid (List.take_succ_eq_append_getElem hltx); have HTY := Lib.hid (List.take_succ_eq_append_getElem hlty)
            generalize xs[k] = xk at *
            generalize ys[k] = yk at *
            go_wp2_with (go_at_call 44; ((with_reducible refine (same_clo _ _ xk yk true _ HX.out HY.out HD.out).mono ?_); rintro e w1 ⟨rfl, hb1⟩))
            go_roundw
            case rel => exact ⟨k + 1, by omega, by go_num, by rw [HTX.out, HTY.out, HT.out, HXX.out], bw_tr HB.out hb1⟩
            case measure => simp [intOf]; omega
          · have hd : Hid (decide (xs = ys) = false) := Lib.hid (decide_eq_false (fun e => hx (by subst e; rfl)))
            have HD : Hid (decide (xs[k] = ys[k]) = false) := Lib.hid (decide_eq_false hx)
            clear hx
            generalize xs[k] = xk at *
            generalize ys[k] = yk at *
            go_wp2_with (go_at_call 44; ((with_reducible refine (same_clo _ _ xk yk false _ HX.out HY.out HD.out).mono ?_); rintro e w1 ⟨rfl, hb1⟩))
            go_ret
            exact ⟨ret1 (rbool hd.out.symm), bw_tr HB.out hb1⟩
        · have hd : Hid (decide (xs = ys) = true) := Lib.hid (decide_eq_true (by
            have e1 := HT.out
            have hkx : k = ln := by omega
            rw [hkx, ← HLX.out, List.take_length, HLX.out, ← HLY.out, List.take_length] at e1
            exact e1))
          go_wp2_with fail
          go_ret
          exact ⟨ret1 (rbool hd.out.symm), HB.out⟩
  · have hlb : (((xs.length : Nat) : Int) != ((ys.length : Nat) : Int)) = true := by simp; omega
    have hd : decide (xs = ys) = false := decide_eq_false (fun e => hl (by rw [e]))
    rw [hd]
    clear hl hd
    go_enter Try.func43, Try.ntmps43
    go_wp2_with fail
    go_ret
    exact ⟨ret1 (rbool rfl), Below.refl _ _⟩
theorem mem_eq (a b : Mem) : decide (a = b) = (decide (a.words = b.words) && (decide (a.res = b.res) && decide (a.pend = b.pend))) := by
  obtain ⟨x, y, z⟩ := a
  obtain ⟨x', y', z'⟩ := b
  rw [Bool.eq_iff_iff]
  simp
  intro _
  exact and_comm
theorem equal_lit (v v' : Value) (xs ys : List Int) (r : Bool) (w0 w : World) (h : Reads w0 1 xs.length v (intC xs)) (h' : Reads w0 1 ys.length v' (intC ys)) (hb : Below w0.heap.size w0 w) (hr : decide (xs = ys) = r) :
    Calls Try.prog 42 #[v, v'] w fun e w' => e = .returned (.bool r) ∧ Below w.heap.size w w' := by subst hr; exact equal_int v v' xs ys w (h.below hb) (h'.below hb)
set_option maxHeartbeats 4000000 in
theorem same_mem (v v' : Value) (a b : Mem) (w : World) (h : IsMem w v a) (h' : IsMem w v' b) :
    Calls Try.prog 19 #[v, v'] w fun e w' => e = .returned (.bool (decide (a = b))) ∧ Below w.heap.size w w' := by
  obtain ⟨a1, c1, a2, c2, a3, c3, rows, rfl, r1, r2, r3, r4⟩ := h.parts
  obtain ⟨b1, d1, b2, d2, b3, d3, rows', rfl, s1, s2, s3, s4⟩ := h'.parts
  have R1 := Lib.hid r1; have R2 := Lib.hid r2; have R3 := Lib.hid r3; have R4 := Lib.hid r4; have S1 := Lib.hid s1; have S2 := Lib.hid s2; have S3 := Lib.hid s3; have S4 := Lib.hid s4
  clear h h' r1 r2 r3 r4 s1 s2 s3 s4
  rw [mem_eq]
  cases e1 : decide (a.words = b.words)
  · have E1 := Lib.hid e1; clear e1
    go_enter Try.func19, Try.ntmps19
    go_wp2_with (go_at_call 42; ((with_reducible refine (equal_lit _ _ a.words b.words false w _ R1.out S1.out (by repeat (first | (with_reducible exact Below.refl _ _) | (with_reducible refine bw_set ?_ ?_ _) | (with_reducible apply bw_alloc) | (with_reducible refine bw_tr ?_ (by with_reducible assumption)) | (with_reducible apply bw_drew) | omega)) E1.out).mono ?_); rintro e w1 ⟨rfl, hb1⟩))
    go_ret
    exact ⟨ret1 (rbool rfl), (by repeat (first | (with_reducible exact Below.refl _ _) | (with_reducible refine bw_set ?_ ?_ _) | (with_reducible apply bw_alloc) | (with_reducible refine bw_tr ?_ (by with_reducible assumption)) | (with_reducible apply bw_drew) | omega))⟩
  · have E1 := Lib.hid e1; clear e1
    cases e2 : decide (a.res = b.res)
    · have E2 := Lib.hid e2; clear e2
      go_enter Try.func19, Try.ntmps19
      go_wp2_with fail
      refine (equal_lit _ _ a.words b.words true w _ R1.out S1.out (by repeat (first | (with_reducible exact Below.refl _ _) | (with_reducible refine bw_set ?_ ?_ _) | (with_reducible apply bw_alloc) | (with_reducible refine bw_tr ?_ (by with_reducible assumption)) | (with_reducible apply bw_drew) | omega)) E1.out).mono ?_
      rintro e w1 ⟨rfl, hb1⟩
      obtain ⟨k1, f1⟩ := bcell hb1
      go_wp2_with fail
      refine (equal_lit _ _ a.res b.res false w _ R3.out S3.out (by repeat (first | (with_reducible exact Below.refl _ _) | (with_reducible refine bw_set ?_ ?_ _) | (with_reducible apply bw_alloc) | (with_reducible refine bw_tr ?_ (by with_reducible assumption)) | (with_reducible apply bw_drew) | omega)) E2.out).mono ?_
      rintro e w2 ⟨rfl, hb2⟩
      go_wp2_with fail
      go_ret
      exact ⟨ret1 (rbool rfl), (by repeat (first | (with_reducible exact Below.refl _ _) | (with_reducible refine bw_set ?_ ?_ _) | (with_reducible apply bw_alloc) | (with_reducible refine bw_tr ?_ (by with_reducible assumption)) | (with_reducible apply bw_drew) | omega))⟩
    · have E2 := Lib.hid e2; clear e2
      go_enter Try.func19, Try.ntmps19
      go_wp2_with fail
      refine (equal_lit _ _ a.words b.words true w _ R1.out S1.out (by repeat (first | (with_reducible exact Below.refl _ _) | (with_reducible refine bw_set ?_ ?_ _) | (with_reducible apply bw_alloc) | (with_reducible refine bw_tr ?_ (by with_reducible assumption)) | (with_reducible apply bw_drew) | omega)) E1.out).mono ?_
      rintro e w1 ⟨rfl, hb1⟩
      obtain ⟨k1, f1⟩ := bcell hb1
      have z1 : w.heap.size < w1.heap.size := by have := hb1.size; simp at this; omega
      have z1' : w.heap.size + 1 < w1.heap.size := by have := hb1.size; simp at this; omega
      go_wp2_with fail
      refine (equal_lit _ _ a.res b.res true w _ R3.out S3.out (by repeat (first | (with_reducible exact Below.refl _ _) | (with_reducible refine bw_set ?_ ?_ _) | (with_reducible apply bw_alloc) | (with_reducible refine bw_tr ?_ (by with_reducible assumption)) | (with_reducible apply bw_drew) | omega)) E2.out).mono ?_
      rintro e w2 ⟨rfl, hb2⟩
      obtain ⟨k2, f2⟩ := bcell hb2
      have HB2 : Hid (Below w.heap.size w w2) := Lib.hid (by repeat (first | (with_reducible exact Below.refl _ _) | (with_reducible refine bw_set ?_ ?_ _) | (with_reducible apply bw_alloc) | (with_reducible refine bw_tr ?_ (by with_reducible assumption)) | (with_reducible apply bw_drew) | omega))
      go_wp2_with fail
      refine (equalF_any _ _ _ _ rows rows' a.pend b.pend _ (R2.out.below HB2.out) (S2.out.below HB2.out) (R4.out.below HB2.out) (S4.out.below HB2.out)).mono ?_
      rintro e w3 ⟨rfl, hb3⟩
      go_wp2_with fail
      go_ret
      exact ⟨ret1 (rbool (by simp)), bw_tr HB2.out hb3⟩
end Go.Proofs.Ytkhobelceghgfaa
