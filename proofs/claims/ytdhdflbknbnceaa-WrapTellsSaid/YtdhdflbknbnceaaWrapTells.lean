/-
  The walk of the law WrapTells: at each operator and each pair of numbers the program's answer is the document's.
-/
import Derived.Test.YtdhdflbknbnceaaWrapLaws
import Derived.Test.YtdhdflbknbnceaaWrapRef
namespace Go.Proofs.Ytdhdflbknbnceaa
open Go.RowKit
abbrev I64 (a : Int) : Prop := -9223372036854775808 ≤ a ∧ a ≤ 9223372036854775807
theorem cell_at {w : World} {b : Nat} {cs : Array Value} {t : TypeId} (h : w.heap[b]? = some (.cells cs t (0, 0))) {j : Nat} {u : Value} (hj : cs[j]? = some u) : w.cell? ⟨b, j, none⟩ = some u := by
  rw [cell_of_row w b j cs t (0, 0) h, hj]
theorem pick2 (x y : Int) (j : Nat) (hj : j < 2) (hx : I64 x) (hy : I64 y) : ∃ z, I64 z ∧ #[Value.int .i64 x, .int .i64 y][j]? = some (.int .i64 z) := by
  have : j = 0 ∨ j = 1 := by omega
  rcases this with rfl | rfl
  · exact ⟨x, hx, rfl⟩
  · exact ⟨y, hy, rfl⟩
theorem pick7 (x y : Int) (j : Nat) (hj : j < 7) (hx : I64 x) (hy : I64 y) : ∃ z, I64 z ∧ #[Value.int .i64 x, .int .i64 y, .int .i64 0, .int .i64 1, .int .i64 (-1), .int .i64 (-2147483648), .int .i64 4294967295][j]? = some (.int .i64 z) := by
  have : j = 0 ∨ j = 1 ∨ j = 2 ∨ j = 3 ∨ j = 4 ∨ j = 5 ∨ j = 6 := by omega
  rcases this with rfl | rfl | rfl | rfl | rfl | rfl | rfl
  · exact ⟨x, hx, rfl⟩
  · exact ⟨y, hy, rfl⟩
  · exact ⟨0, by decide, rfl⟩
  · exact ⟨1, by decide, rfl⟩
  · exact ⟨-1, by decide, rfl⟩
  · exact ⟨-2147483648, by decide, rfl⟩
  · exact ⟨4294967295, by decide, rfl⟩
def Cnt (n : Nat) (i : Value) : Prop := ∃ k : Nat, k ≤ n ∧ i = .int .i64 k
set_option maxHeartbeats 4000000 in
set_option maxRecDepth 100000 in
theorem walkWrapTells (a b c : Int) (ha0 : (Lit.int .i64 a).wf = true) (hb0 : (Lit.int .i64 b).wf = true) (hc0 : (Lit.int .i64 c).wf = true) (w : World) :
    Calls Try.prog 3 #[.int .i64 a, .int .i64 b, .int .i64 c] w fun e w' => e = .returned (.bool true) ∧ Below w.heap.size w w' := by
  have ha := i64_of_wf ha0
  have hb := i64_of_wf hb0
  have hc := i64_of_wf hc0
  clear ha0 hb0 hc0
  have p1 := pickN_bd a 19 (by omega)
  go_enter Try.func3, Try.ntmps3
  go_wp2_with fail
  refine (awake_any _).mono ?_
  rintro e w1 ⟨rfl, hb1⟩
  have hsz := hb1.size
  have HB1 := Lib.hid hb1; clear hb1
  go_wp2_with (go_at_call 12; refine (pick_any _ _ _ (by omega) (by omega)).mono ?_; rintro e w' ⟨rfl, rfl⟩)
  go_loopw [30] (fun i wr => ∃ j : Nat, j ≤ 2 ∧ i = .int .i64 j ∧ wr.heap[w1.heap.size]? = some (.cells #[.int .i64 a, .int .i64 (pickN a 19)] 3 (0, 0)) ∧ Below w.heap.size w wr) (fun i _ => 2 - (intOf i).toNat)
  case atStart => exact ⟨0, by omega, rfl, heap_alloc_new _ _, HB1.out.alloc hsz _⟩
  case round =>
    obtain ⟨j, hj, rfl, hh, hbel⟩ := hrel
    have HH := Lib.hid hh; have HBEL := Lib.hid hbel
    have hsz2 := hbel.size
    clear hh hbel
    by_cases hlt : j < 2
    · obtain ⟨x, hx, hxc⟩ := pick2 a (pickN a 19) j hlt ha (by constructor <;> omega)
      have g := cell_at HH.out hxc
      clear hxc
      go_wp2_with fail
      go_loop [38] (fun i => Cnt 7 i) (fun i => 7 - (intOf i).toNat)
      case atStart => exact ⟨0, by omega, rfl⟩
      case round =>
        obtain ⟨k, hk, rfl⟩ := hrel
        by_cases hk7 : k < 7
        · obtain ⟨y, hy, hyc⟩ := pick7 c b k hk7 hc hb
          have g2 : (wr.alloc (.cells #[.int .i64 c, .int .i64 b, .int .i64 0, .int .i64 1, .int .i64 (-1), .int .i64 (-2147483648), .int .i64 4294967295] 3)).cell? ⟨wr.heap.size, k, none⟩ = some (.int .i64 y) := cell_at (heap_alloc_new _ _) hyc
          clear hyc
          go_wp2_with (first | (go_at_call 13; refine (two_any _ _ _ _).mono ?_; rintro e w' ⟨rfl, rfl⟩) | (go_at_call 14; refine (rtwo_any _ _ _ _ hb hy).mono ?_; rintro e w' ⟨rfl, rfl⟩) | (go_at_call 15; refine (high_any _ _ _ _).mono ?_; rintro e w' ⟨rfl, rfl⟩) | (go_at_call 16; refine (rhigh_any _ _ _ _ hb hy).mono ?_; rintro e w' ⟨rfl, rfl⟩))
          have hd : decide ((j : Int) < 2) = true := by rw [decide_eq_true_eq]; omega
          rw [hd]
          refine ⟨⟨trivial, ?_⟩, ?_⟩
          · repeat apply Exists.intro
            refine And.intro ?_ ?_
            rotate_left
            · rfl
            · exact ⟨k + 1, by omega, by go_num⟩
          · simp [intOf]; omega
        · go_wp2_with (first | (go_at_call 17; refine (one_any _ _ _).mono ?_; rintro e w' ⟨rfl, rfl⟩) | (go_at_call 18; refine (rone_any _ _ _ hb).mono ?_; rintro e w' ⟨rfl, rfl⟩))
          refine (sign_any _ _).mono ?_
          rintro e w2 ⟨rfl, hb2⟩
          have HB2 := Lib.hid hb2; clear hb2
          go_wp2_with fail
          refine (rsign_any _ _).mono ?_
          rintro e w3 ⟨rfl, hb3⟩
          have HB3 := Lib.hid hb3; clear hb3
          go_wp2_with (go_at_call 21; refine (level_any _ _).mono ?_; rintro e w' ⟨rfl, rfl⟩)
          refine (rlevel_any _ _).mono ?_
          rintro e w4 ⟨rfl, hb4⟩
          have HB4 := Lib.hid hb4; clear hb4
          go_wp2_with fail
          have h2 := HB2.out.size
          have h3 := HB3.out.size
          simp at h2
          have hw : Below wr.heap.size wr w4 := (((Below.refl _ _).alloc (Nat.le_refl _) _).trans (HB2.out.mono (by simp))).trans ((HB3.out.mono (by omega)).trans (HB4.out.mono (by omega)))
          have hlw : w1.heap.size < wr.heap.size := by
            by_cases hh : w1.heap.size < wr.heap.size
            · exact hh
            · have := HH.out; rw [Array.getElem?_eq_none (by omega)] at this; cases this
          exact ⟨⟨j + 1, by omega, by go_num, by rw [hw.block _ hlw]; exact HH.out, HBEL.out.trans (hw.mono hsz2)⟩, by simp [intOf]; omega⟩
    · go_wp2_with (first | (go_at_call 23; refine (wrap_any _ _).mono ?_; rintro e w' ⟨rfl, rfl⟩) | (go_at_call 24; refine (rwrap_any _ _ hb).mono ?_; rintro e w' ⟨rfl, rfl⟩) | (go_at_call 25; refine (word_any _ _).mono ?_; rintro e w' ⟨rfl, rfl⟩) | (go_at_call 26; refine (rword_any _ _ hb).mono ?_; rintro e w' ⟨rfl, rfl⟩))
      go_ret
      exact ⟨ret1 (rbool rfl), HBEL.out⟩
end Go.Proofs.Ytdhdflbknbnceaa
