/-
  'CodeMoves': registers that an instruction reads and writes are told by other ones, if these stand in their places.
-/
import Derived.Test.YtefebnicclbhjaaFit02
import Derived.Test.YtefebnicclbhjaaAwake02
import Derived.Test.YtefebnicclbhjaaMovesMath
import Derived.Test.YtefebnicclbhjaaInsEq
import Derived.Test.YtefebnicclbhjaaQuietB
import Derived.RegionTactic
import Derived.ChangeAlike
import Derived.Deep.QuietTactic
import Derived.BigQuiet
namespace Go.Proofs.Ytefebnicclbhjaa
open Go.RowKit
theorem Reads.cells' {w : World} {k n : Nat} {v : Value} {xs : List Value} (h : Reads w k n v xs) (hn : 0 < n) :
    ∃ b o c, v = .slice (some ⟨b, o, none⟩) n c ∧ b < w.heap.size ∧ n ≤ c ∧ c ≤ maxLen ∧ ∀ j u, xs[j]? = some u → w.cell? ⟨b, o + j, none⟩ = some u := by
  rcases h.2.2 with ⟨_, h0⟩ | h
  · omega
  · exact h
theorem right_g (op d a b n : Int) (r : Bool) (w : World) (hr : rightB ⟨op, d, a, b, n⟩ = r) :
    Calls Try.prog 15 #[.agg #[.int .i64 op, .int .i64 d, .int .i64 a, .int .i64 b, .int .i64 n]] w fun e w' => e = .returned (.bool r) ∧ Below w.heap.size w w' := right_at ⟨op, d, a, b, n⟩ r w hr
theorem writes_g (op d a b n r : Int) (w : World) (hr : writesN ⟨op, d, a, b, n⟩ = r) :
    Calls Try.prog 22 #[.agg #[.int .i64 op, .int .i64 d, .int .i64 a, .int .i64 b, .int .i64 n]] w fun e w' => e = .returned (.int .i64 r) ∧ Below w.heap.size w w' := by subst hr; exact writes_any ⟨op, d, a, b, n⟩ w
set_option maxHeartbeats 8000000 in
set_option maxRecDepth 100000 in
theorem code_moves (x : Ins) (one two : Int) (w : World) (h : ok_instr x) (h1 : I64 one) (h2 : I64 two) :
    Calls Try.prog 10 #[insV x, .int .i64 one, .int .i64 two] w fun e w' => e = .returned (.bool true) ∧ Below w.heap.size w w' := by
  have hr := fit_right x
  have p1 := pickN_bd one 31 (by omega)
  have p2 := pickN_bd two 31 (by omega)
  obtain ⟨op, d, a, b, n⟩ := x
  have H := Lib.hid h; have H1 := Lib.hid h1; have H2 := Lib.hid h2
  have HR := Lib.hid hr
  clear h h1 h2 hr
  unfold insV
  go_enter Try.func10, Try.ntmps10
  go_wp2_with fail
  refine (awake02 _).mono ?_
  rintro e w1 ⟨rfl, hb1⟩
  obtain ⟨c1, f1⟩ := bcell hb1
  have s1 := hb1.size
  try simp at s1
  have l1x0 : w.heap.size < w1.heap.size := by omega
  go_wp2_with fail
  refine (fit_any ⟨op, d, a, b, n⟩ _ H.out).mono ?_
  rintro e w2 ⟨rfl, hb2⟩
  obtain ⟨c2, f2⟩ := bcell hb2
  have s2 := hb2.size
  try simp at s2
  have l2x0 : w.heap.size < w2.heap.size := by omega
  generalize fitX ⟨op, d, a, b, n⟩ = y at *
  obtain ⟨xop, xd, xa, xb, xn⟩ := y
  unfold insV
  go_wp2_with (go_at_call 24; (first | ((with_reducible refine (pick02 one 31 _ H1.out (by omega)).mono ?_); rintro e w' ⟨rfl, rfl⟩) | ((with_reducible refine (pick02 two 31 _ H2.out (by omega)).mono ?_); rintro e w' ⟨rfl, rfl⟩)))
  obtain ⟨ra, hra, q1⟩ : ∃ r, r = 1 + pickN one 31 ∧ (1 ≤ r ∧ r < 32) := ⟨_, rfl, by omega⟩
  obtain ⟨rb, hrb, q2⟩ : ∃ r, r = 1 + pickN two 31 ∧ (1 ≤ r ∧ r < 32) := ⟨_, rfl, by omega⟩
  rw [← hra, ← hrb]
  clear hra hrb p1 p2
  go_loopw [12] (fun i wr => ∃ k : Nat, k ≤ 3 ∧ i = .int .i64 k ∧ wr.heap[w2.heap.size + 1]? = some (.cells (turnL ra rb xd xa xb k) 3 (0, 0)) ∧ wr.heap[w2.heap.size]? = some (.cells #[.int .i64 xop, .int .i64 xd, .int .i64 xa, .int .i64 xb, .int .i64 xn] 23 (0, 0)) ∧ Below w.heap.size w wr) (fun i _ => 3 - (intOf i).toNat)
  case atStart => exact ⟨0, by omega, rfl, new_at _ _ _ (by simp), bel_in (B := (w2.alloc (.cells #[.int .i64 xop, .int .i64 xd, .int .i64 xa, .int .i64 xb, .int .i64 xn] 23)).heap.size) ((Below.refl _ _).alloc (Nat.le_refl _) _) (by simp) (new_in _ _), (by repeat (first | (with_reducible exact Below.refl _ _) | (with_reducible refine bw_set ?_ ?_ _) | (with_reducible apply bw_alloc) | (with_reducible refine bw_tr ?_ (by with_reducible assumption)) | (with_reducible apply bw_drew) | omega))⟩
  case round =>
    obtain ⟨k, hk, rfl, hx, hy, hbb⟩ := hrel
    have ltx := lt_in hx
    have lty := lt_in hy
    by_cases hlt : k < 3
    · as_aux_lemma =>
      have HX := Lib.hid hx; have HY := Lib.hid hy
      have k0 : wr.cell? ⟨w2.heap.size + 1, k, none⟩ = some (.int .i64 (turnZ xd xa xb k)) := cell_in hx (turn_at _ _ _ _ _ k hlt)
      have g0 := frozen_in hx k
      have HS := Lib.hid (turn_set ra rb xd xa xb k hlt)
      have HN := Lib.hid (turn_same ra rb xd xa xb k hlt)
      clear hx hy
      generalize turnZ xd xa xb k = z at *
      cases hq : (z == ra)
      · cases hq2 : (z == rb)
        · have e := sw_n hq hq2
          have HX2 : Hid (wr.heap[w2.heap.size + 1]? = some (.cells (turnL ra rb xd xa xb (k + 1)) 3 (0, 0))) := by rw [← HN.out e]; exact HX.out
          clear e
          go_wp2_with fail
          exact ⟨⟨k + 1, by omega, by go_num, HX2.out, HY.out, hbb⟩, by simp [intOf]; omega⟩
        · have e := sw_b hq hq2
          have HX2 : Hid ((wr.setCell ⟨w2.heap.size + 1, k, none⟩ (.int .i64 ra)).heap[w2.heap.size + 1]? = some (.cells (turnL ra rb xd xa xb (k + 1)) 3 (0, 0))) := by
            have := set_in HX.out k (.int .i64 (sw ra rb z))
            rw [HS.out, e] at this; exact this
          have HY2 : Hid ((wr.setCell ⟨w2.heap.size + 1, k, none⟩ (.int .i64 ra)).heap[w2.heap.size]? = some (.cells #[.int .i64 xop, .int .i64 xd, .int .i64 xa, .int .i64 xb, .int .i64 xn] 23 (0, 0))) := heap_set_ne (by omega) HY.out
          clear e
          go_wp2_with fail
          exact ⟨⟨k + 1, by omega, by go_num, HX2.out, HY2.out, (by repeat (first | (with_reducible exact Below.refl _ _) | (with_reducible refine bw_set ?_ ?_ _) | (with_reducible apply bw_alloc) | (with_reducible refine bw_tr ?_ (by with_reducible assumption)) | (with_reducible apply bw_drew) | omega))⟩, by simp [intOf]; omega⟩
      · have e := sw_a (b := rb) hq
        have HX2 : Hid ((wr.setCell ⟨w2.heap.size + 1, k, none⟩ (.int .i64 rb)).heap[w2.heap.size + 1]? = some (.cells (turnL ra rb xd xa xb (k + 1)) 3 (0, 0))) := by
          have := set_in HX.out k (.int .i64 (sw ra rb z))
          rw [HS.out, e] at this; exact this
        have HY2 : Hid ((wr.setCell ⟨w2.heap.size + 1, k, none⟩ (.int .i64 rb)).heap[w2.heap.size]? = some (.cells #[.int .i64 xop, .int .i64 xd, .int .i64 xa, .int .i64 xb, .int .i64 xn] 23 (0, 0))) := heap_set_ne (by omega) HY.out
        clear e
        go_wp2_with fail
        exact ⟨⟨k + 1, by omega, by go_num, HX2.out, HY2.out, (by repeat (first | (with_reducible exact Below.refl _ _) | (with_reducible refine bw_set ?_ ?_ _) | (with_reducible apply bw_alloc) | (with_reducible refine bw_tr ?_ (by with_reducible assumption)) | (with_reducible apply bw_drew) | omega))⟩, by simp [intOf]; omega⟩
    · have hk3 : k = 3 := by omega
      subst hk3
      have t0 : wr.cell? ⟨w2.heap.size + 1, 0, none⟩ = some (.int .i64 (sw ra rb xd)) := cell_in hx rfl
      have t1 : wr.cell? ⟨w2.heap.size + 1, 1, none⟩ = some (.int .i64 (sw ra rb xa)) := cell_in hx rfl
      have t2 : wr.cell? ⟨w2.heap.size + 1, 2, none⟩ = some (.int .i64 (sw ra rb xb)) := cell_in hx rfl
      have y0 : wr.cell? ⟨w2.heap.size, 0, none⟩ = some (.int .i64 xop) := cell_in hy rfl
      have y1 : wr.cell? ⟨w2.heap.size, 1, none⟩ = some (.int .i64 xd) := cell_in hy rfl
      have y2 : wr.cell? ⟨w2.heap.size, 2, none⟩ = some (.int .i64 xa) := cell_in hy rfl
      have y3 : wr.cell? ⟨w2.heap.size, 3, none⟩ = some (.int .i64 xb) := cell_in hy rfl
      have y4 : wr.cell? ⟨w2.heap.size, 4, none⟩ = some (.int .i64 xn) := cell_in hy rfl
      clear hx hy
      go_wp2_with fail
      go_region
      as_aux_lemma =>
      have lq : w2.heap.size < ((wr.alloc (.cells #[.int .i64 xop, .int .i64 (sw ra rb xd), .int .i64 (sw ra rb xa), .int .i64 (sw ra rb xb), .int .i64 xn] 23)).drew).heap.size := by simp; omega
      have HRY := Lib.hid (sw_right q1 q2 HR.out)
      have HWY := Lib.hid (sw_writes q1 q2 HR.out)
      have HRD := Lib.hid (sw_reads q1 q2 HR.out)
      have hlen := reads_len ⟨xop, xd, xa, xb, xn⟩
      unfold swX at HRY HWY HRD
      simp only at HRY HWY HRD
      go_wp2_with fail
      refine (reads_any ⟨xop, xd, xa, xb, xn⟩ _).mono ?_
      rintro e w4 ⟨v4, rfl, hr4, hb4⟩
      generalize readsL ⟨xop, xd, xa, xb, xn⟩ = L at *
      obtain ⟨qa4, qc4, rfl⟩ := hr4.shape
      have HR4 := Lib.hid hr4; clear hr4
      obtain ⟨c4, f4⟩ := bcell hb4
      have s4 := hb4.size
      simp at s4
      have l4 : wr.heap.size < w4.heap.size := by omega
      go_wp2_with fail
      refine (reads_any ⟨xop, sw ra rb xd, sw ra rb xa, sw ra rb xb, xn⟩ _).mono ?_
      rw [HRD.out]
      rintro e w5 ⟨v5, rfl, hr5, hb5⟩
      rw [List.length_map] at hr5
      obtain ⟨qa5, qc5, rfl⟩ := hr5.shape
      have HR5 := Lib.hid hr5; clear hr5
      obtain ⟨c5, f5⟩ := bcell hb5
      have s5 := hb5.size
      have l5 : wr.heap.size < w5.heap.size := by omega
      have k0 : w5.cell? ⟨wr.heap.size, 0, none⟩ = some (.int .i64 xop) := by rw [c5 _ _ l4, c4 _ _ (by simp)]; exact cell_in (new_in wr _) rfl
      have k1 : w5.cell? ⟨wr.heap.size, 1, none⟩ = some (.int .i64 (sw ra rb xd)) := by rw [c5 _ _ l4, c4 _ _ (by simp)]; exact cell_in (new_in wr _) rfl
      have k2 : w5.cell? ⟨wr.heap.size, 2, none⟩ = some (.int .i64 (sw ra rb xa)) := by rw [c5 _ _ l4, c4 _ _ (by simp)]; exact cell_in (new_in wr _) rfl
      have k3 : w5.cell? ⟨wr.heap.size, 3, none⟩ = some (.int .i64 (sw ra rb xb)) := by rw [c5 _ _ l4, c4 _ _ (by simp)]; exact cell_in (new_in wr _) rfl
      have k4 : w5.cell? ⟨wr.heap.size, 4, none⟩ = some (.int .i64 xn) := by rw [c5 _ _ l4, c4 _ _ (by simp)]; exact cell_in (new_in wr _) rfl
      have hbw : Below w.heap.size w w5 := (by repeat (first | (with_reducible exact Below.refl _ _) | (with_reducible refine bw_set ?_ ?_ _) | (with_reducible apply bw_alloc) | (with_reducible refine bw_tr ?_ (by with_reducible assumption)) | (with_reducible apply bw_drew) | omega))
      clear c1 f1 c2 f2 c4 f4 c5 f5 hb1 hb2 hb4 hbb lq t0 t1 t2 y0 y1 y2 y3 y4 s1 s2 s4 s5 ltx lty l4 hlt hk HR HRD H H1 H2
      have x0 := fun x => wd_cell l5 k0 x
      have x1 := fun x => wd_cell l5 k1 x
      have x2 := fun x => wd_cell l5 k2 x
      have x3 := fun x => wd_cell l5 k3 x
      have x4 := fun x => wd_cell l5 k4 x
      clear k0 k1 k2 k3 k4
      go_wp2_with fail
      refine wp_region_below (by kernel_rfl) (by kernel_rfl) ?_
      repeat (go_big_quiet_step ((first | (go_at_call 15; with_reducible exact quiet_b (right_g xop (sw ra rb xd) (sw ra rb xa) (sw ra rb xb) xn true _ HRY.out)) | (go_at_call 22; with_reducible exact quiet_b (writes_g xop (sw ra rb xd) (sw ra rb xa) (sw ra rb xb) xn _ _ HWY.out)))))
      refine wpQuiet_nil ?_
      rintro w7 ⟨⟨w7x, hb7⟩, rfl⟩
      try dsimp only
      have R4 := Lib.hid ((HR4.out.below hb5).below hb7)
      have R5 := Lib.hid (HR5.out.below hb7)
      have hb8 : Below w.heap.size w w7 := (by repeat (first | (with_reducible exact Below.refl _ _) | (with_reducible refine bw_set ?_ ?_ _) | (with_reducible apply bw_alloc) | (with_reducible refine bw_tr ?_ (by with_reducible assumption)) | (with_reducible apply bw_drew) | omega))
      clear HR4 HR5 hb5 hb7 x0 x1 x2 x3 x4 HRY HWY hbw l5
      as_aux_lemma =>
      go_wp2_with fail
      go_loopw [16] (fun i wr => ∃ k : Nat, k ≤ L.length ∧ i = .int .i64 k ∧ Below w7.heap.size w7 wr) (fun i _ => L.length - (intOf i).toNat)
      case atStart => exact ⟨0, by omega, rfl, Below.refl _ _⟩
      case round =>
        rename_i wq
        obtain ⟨k, hk, rfl, hbq⟩ := hrel
        by_cases hlt : k < L.length
        · as_aux_lemma =>
          obtain ⟨b4, o4, c4', ev4, hlt4, hn4, hm4, hc4⟩ := (R4.out.below hbq).cells' (by omega)
          obtain ⟨b5, o5, c5', ev5, hlt5, hn5, hm5, hc5⟩ := (R5.out.below hbq).cells' (by omega)
          injection ev4 with e1 _ e2
          subst e1 e2
          injection ev5 with e1 _ e2
          subst e1 e2
          unfold maxLen at hm4 hm5
          have g1 := hc4 k (.int .i64 L[k]) (by simp [hlt])
          have g2 := hc5 k (.int .i64 (sw ra rb L[k])) (by simp [hlt])
          clear hc4 hc5
          generalize L[k] = z at *
          cases hq : (z == ra)
          · have hq' : (z != ra) = true := by simp at hq ⊢; exact hq
            cases hq2 : (z == rb)
            · have hq2' : (z != rb) = true := by simp at hq2 ⊢; exact hq2
              rw [sw_n hq hq2] at g2
              as_aux_lemma =>
              go_wp2_with fail
              go_quiet (fail)
              go_wp2_with fail
              exact ⟨⟨k + 1, by omega, by go_num, below_drewN (by repeat (first | (with_reducible exact Below.refl _ _) | (with_reducible refine bw_set ?_ ?_ _) | (with_reducible apply bw_alloc) | (with_reducible refine bw_tr ?_ (by with_reducible assumption)) | (with_reducible apply bw_drew) | omega)) _⟩, by simp [intOf]; omega⟩
            · have hq2' : (z != rb) = false := by simp at hq2 ⊢; exact hq2
              rw [sw_b hq hq2] at g2
              as_aux_lemma =>
              go_wp2_with fail
              go_quiet (fail)
              go_wp2_with fail
              exact ⟨⟨k + 1, by omega, by go_num, below_drewN (by repeat (first | (with_reducible exact Below.refl _ _) | (with_reducible refine bw_set ?_ ?_ _) | (with_reducible apply bw_alloc) | (with_reducible refine bw_tr ?_ (by with_reducible assumption)) | (with_reducible apply bw_drew) | omega)) _⟩, by simp [intOf]; omega⟩
          · have hq' : (z != ra) = false := by simp at hq ⊢; exact hq
            rw [sw_a hq] at g2
            have hq3 : (z == rb) = (ra == rb) := by simp at hq; rw [hq]
            cases hq2 : (ra == rb)
            · rw [hq2] at hq3
              as_aux_lemma =>
              go_wp2_with fail
              go_quiet (fail)
              go_wp2_with fail
              exact ⟨⟨k + 1, by omega, by go_num, below_drewN (by repeat (first | (with_reducible exact Below.refl _ _) | (with_reducible refine bw_set ?_ ?_ _) | (with_reducible apply bw_alloc) | (with_reducible refine bw_tr ?_ (by with_reducible assumption)) | (with_reducible apply bw_drew) | omega)) _⟩, by simp [intOf]; omega⟩
            · rw [hq2] at hq3
              have hq4 : (rb != ra) = false := by simp at hq2 ⊢; exact hq2.symm
              as_aux_lemma =>
              go_wp2_with fail
              go_quiet (fail)
              go_wp2_with fail
              exact ⟨⟨k + 1, by omega, by go_num, below_drewN (by repeat (first | (with_reducible exact Below.refl _ _) | (with_reducible refine bw_set ?_ ?_ _) | (with_reducible apply bw_alloc) | (with_reducible refine bw_tr ?_ (by with_reducible assumption)) | (with_reducible apply bw_drew) | omega)) _⟩, by simp [intOf]; omega⟩
        · go_wp2_with fail
          go_ret
          exact ⟨rfl, (by repeat (first | (with_reducible exact Below.refl _ _) | (with_reducible refine bw_set ?_ ?_ _) | (with_reducible apply bw_alloc) | (with_reducible refine bw_tr ?_ (by with_reducible assumption)) | (with_reducible apply bw_drew) | omega))⟩
end Go.Proofs.Ytefebnicclbhjaa
