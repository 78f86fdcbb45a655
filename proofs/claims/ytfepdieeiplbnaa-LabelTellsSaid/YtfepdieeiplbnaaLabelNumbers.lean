/-
  LabelNumbers: what brings a number to a register does. No condition.
-/
import Derived.Test.YtfepdieeiplbnaaAwake03
import Derived.Test.YtfepdieeiplbnaaFit03B
import Derived.Test.YtfepdieeiplbnaaWrapWalks
import Derived.Test.YtfepdieeiplbnaaWrapMath2
namespace Go.Proofs.Ytfepdieeiplbnaa
open Go.RowKit
set_option linter.unusedSimpArgs false
theorem pick03 (c n : Int) (w : World) (hc : I64 c) (hn : 0 < n ∧ n ≤ 9223372036854775807) (z : Int) (hz : pickN c n = z) :
    Calls Try.prog 13 #[.int .i64 c, .int .i64 n] w fun e w' => e = .returned (.int .i64 z) ∧ w = w' := by
  subst hz
  have hn0 : (n == 0) = false := by simp; omega
  have hb := pickN_bd c n hn.1
  by_cases h : c < 0
  · have E := Lib.hid (pick_neg c n h)
    go_enter Try.func13, Try.ntmps13
    go_wp2
    go_ret
    exact ⟨by rw [← E.out]; rfl, rfl⟩
  · have E := Lib.hid (pick_pos c n h)
    go_enter Try.func13, Try.ntmps13
    go_wp2
    go_ret
    exact ⟨by rw [← E.out]; rfl, rfl⟩
theorem wrap_lit (a z : Int) (w : World) (hz : wrap32 a = z) : Calls Try.prog 28 #[.int .i64 a] w fun e w' => e = .returned (.int .i64 z) ∧ w = w' := by
  subst hz; exact wrap_any a w
theorem two_lit (op a b z : Int) (w : World) (hz : twoN op a b = z) : Calls Try.prog 29 #[.int .i64 op, .int .i64 a, .int .i64 b] w fun e w' => ∃ q, e = .returned (.tuple #[.int .i64 z, .bool q]) ∧ w = w' := by
  subst hz; exact (two_any op a b w).mono fun _ _ h => ⟨_, h.1, h.2⟩
theorem number_lit (d n : Int) (l : List Ins) (hl : labL d n = l) (w : World) (hn : I64 n) :
    Calls Try.prog 21 #[.int .i64 d, .int .i64 n] w fun e w' => ∃ a, e = .returned (.slice a l.length l.length) ∧ InsAt w' (.slice a l.length l.length) l ∧ Below w.heap.size w w' := by
  subst hl; exact number_at d n w hn
theorem hi_bd (m : Int) : 0 ≤ hiN m ∧ hiN m ≤ 1048575 := by unfold hiN; omega
theorem hi_two (m : Int) (h : -2147483648 ≤ m ∧ m ≤ 2147483647) : twoN 1 (twoN 9 (hiN m) 12) (loN m) = m := by
  rw [up_times _ 12 (by omega), two3, two1, show (2 : Int) ^ (12 : Int).toNat = 4096 from rfl, w32_add_l]
  unfold hiN loN wrap32; omega
theorem lab_far {r v : Int} (h : 2147483648 ≤ v) : labL r v = [] := by
  unfold labL
  rw [if_neg (fun h2 => by have := w32_bd v; omega)]
theorem lab_out {r v : Int} (h : r < 1 ∨ 32 ≤ r) : labL r v = [] := by
  unfold labL
  rw [if_neg (by omega)]
theorem lab_one {r m : Int} (hr : 1 ≤ r ∧ r < 32) (hm : wrap32 m = m) (h : -2048 ≤ m ∧ m ≤ 2047) : labL r m = [⟨13, r, 0, 0, m⟩] := by
  unfold labL; rw [if_pos ⟨hr.1, hr.2, hm⟩, if_pos h]
theorem lab_two {r m : Int} (hr : 1 ≤ r ∧ r < 32) (hm : wrap32 m = m) (h : ¬ (-2048 ≤ m ∧ m ≤ 2047)) : labL r m = [⟨1, r, 0, 0, hiN m⟩, ⟨13, r, r, 0, loN m⟩] := by
  unfold labL; rw [if_pos ⟨hr.1, hr.2, hm⟩, if_neg h]
theorem ins_block {w : World} {v : Value} {xs : List Ins} (h : InsAt w v xs) (hx : xs ≠ []) : ∃ B, v = .slice (some ⟨B, 0, none⟩) xs.length xs.length ∧ w.heap[B]? = some (.cells (insC xs) 24 (0, 0)) := by
  rcases h with ⟨h, _⟩ | h
  · exact absurd h hx
  · exact h
set_option maxRecDepth 100000 in
set_option maxHeartbeats 8000000 in
theorem walkLabelNumbers (d n : Int) (w : World) (hd : I64 d) (hn : I64 n) :
    Calls Try.prog 10 #[.int .i64 d, .int .i64 n] w fun e w' => e = .returned (.bool true) ∧ Below w.heap.size w w' := by
  have hp := pickN_bd d 31 (by omega)
  have hp2 := pickN_bd d 99 (by omega)
  have hp3 := pickN_bd n 1099511627776 (by omega)
  obtain ⟨p, hpp⟩ : ∃ p, pickN d 31 = p := ⟨_, rfl⟩
  obtain ⟨p2, hpp2⟩ : ∃ p, pickN d 99 = p := ⟨_, rfl⟩
  obtain ⟨p3, hpp3⟩ : ∃ p, pickN n 1099511627776 = p := ⟨_, rfl⟩
  obtain ⟨m, hm⟩ : ∃ m, wrap32 n = m := ⟨_, rfl⟩
  have hmb := w32_bd n
  have hmm := w32_w32 n
  rw [hpp] at hp; rw [hpp2] at hp2; rw [hpp3] at hp3; rw [hm] at hmb hmm
  have P1 := Lib.hid (fun w => pick03 d 31 w hd (by omega) p hpp)
  have P2 := Lib.hid (fun w => pick03 d 99 w hd (by omega) p2 hpp2)
  have P3 := Lib.hid (fun w => pick03 n 1099511627776 w hn (by omega) p3 hpp3)
  have PW := Lib.hid (fun w => wrap_lit n m w hm)
  have N2 := Lib.hid (fun w => number_lit 0 m [] (lab_out (by omega)) w (by constructor <;> omega))
  have N3 := Lib.hid (fun w => number_lit (32 + p2) m [] (lab_out (by omega)) w (by constructor <;> omega))
  have N4 := Lib.hid (fun w => number_lit (1 + p) (wrap64 (2147483648 + p3)) [] (by rw [w64_id (by omega)]; exact lab_far (by omega)) w (w64_bd _))
  simp only [List.length_nil] at N2 N3 N4
  have HM := Lib.hid hmm
  clear hpp hpp2 hpp3 hm hmm hd hn hp3
  have AW := Lib.hid (fun w => awake03 w)
  have HI : Hid (I64 m) := Lib.hid (by constructor <;> omega)
  obtain ⟨r, hr⟩ : ∃ r, 1 + p = r := ⟨_, rfl⟩
  have hrb : 1 ≤ r ∧ r < 32 := by omega
  have HMB := Lib.hid hmb
  clear hmb
  by_cases hs : -2048 ≤ m ∧ m ≤ 2047
  case pos =>
    have N1 := Lib.hid (fun w => number_lit (1 + p) m [⟨13, 1 + p, 0, 0, m⟩] (lab_one (by omega) HM.out hs) w HI.out)
    have HR := Lib.hid (fun w => right_lit ⟨13, 1 + p, 0, 0, m⟩ true w (right_mk _ (shI 13 (by omega)) (by omega) ⟨by omega, by omega, .inl rfl⟩ ⟨by omega, by omega, .inl rfl⟩ ⟨by omega, by omega, .inr rfl⟩ hs rfl))
    unfold insV at HR
    simp only at HR
    simp only [show ([⟨13, 1 + p, 0, 0, m⟩] : List Ins).length = 1 from rfl] at N1
    clear hr hrb
    go_enter Try.func10, Try.ntmps10
    go_wp2_with (first | (go_at_call 11; ((with_reducible refine (AW.out _).mono ?_); rintro e w1 ⟨rfl, hb1⟩)) | (go_at_call 13; ((with_reducible refine (P1.out _).mono ?_); rintro e w' ⟨rfl, rfl⟩)) | (go_at_call 28; ((with_reducible refine (PW.out _).mono ?_); rintro e w' ⟨rfl, rfl⟩)) | (go_at_call 21; ((with_reducible refine (N1.out _).mono ?_); rintro e w2 ⟨a2, rfl, hi2, hb2⟩; obtain ⟨B, hv, hB⟩ := ins_block hi2 (by simp); injection hv with hv e8 e9; subst hv; clear e8 e9; have HB2 := Lib.hid hB; clear hB hi2)))
    have hB := HB2.out
    have k0 : w2.cell? ⟨B, 0, none⟩ = some (.int .i64 13) := cell_in hB rfl
    have k1 : w2.cell? ⟨B, 1, none⟩ = some (.int .i64 (1 + p)) := cell_in hB rfl
    have k2 : w2.cell? ⟨B, 2, none⟩ = some (.int .i64 0) := cell_in hB rfl
    have k3 : w2.cell? ⟨B, 3, none⟩ = some (.int .i64 0) := cell_in hB rfl
    have k4 : w2.cell? ⟨B, 4, none⟩ = some (.int .i64 m) := cell_in hB rfl
    have t0 : (0 == 1 + p) = false := by simp; omega
    have B2 := Lib.hid (bw_tr hb1 hb2)
    clear hB hb1 hb2
    refine wp_loop_rounds 2 ?_
    rw [rounds_succ]
    go_wp2_with (go_at_call 30; ((with_reducible refine (HR.out _).mono ?_); rintro e w3 ⟨rfl, hb3⟩))
    rw [rounds_succ]
    obtain ⟨s1, s2⟩ := hs
    go_wp2_with (first | (go_at_call 13; ((with_reducible refine (P2.out _).mono ?_); rintro e w' ⟨rfl, rfl⟩)) | (go_at_call 13; ((with_reducible refine (P3.out _).mono ?_); rintro e w' ⟨rfl, rfl⟩)) | (go_at_call 21; ((with_reducible refine (N2.out _).mono ?_); rintro e w4 ⟨a4, rfl, _, hb4⟩)) | (go_at_call 21; ((with_reducible refine (N3.out _).mono ?_); rintro e w5 ⟨a5, rfl, _, hb5⟩)) | (go_at_call 21; ((with_reducible refine (N4.out _).mono ?_); rintro e w6 ⟨a6, rfl, _, hb6⟩)))
    go_ret
    exact ⟨rfl, bw_tr B2.out (bw_tr hb3 (bw_tr hb4 (bw_tr hb5 hb6)))⟩
  case neg =>
    have N1 := Lib.hid (fun w => number_lit (1 + p) m [⟨1, 1 + p, 0, 0, hiN m⟩, ⟨13, 1 + p, 1 + p, 0, loN m⟩] (lab_two (by omega) HM.out hs) w HI.out)
    have hib := hi_bd m
    have lob := lo_bd m
    have HR := Lib.hid (fun w => right_lit ⟨1, 1 + p, 0, 0, hiN m⟩ true w (right_mk _ (shU 1 (by omega)) (by omega) ⟨by omega, by omega, .inl rfl⟩ ⟨by omega, by omega, .inr rfl⟩ ⟨by omega, by omega, .inr rfl⟩ hib rfl))
    have HR2 := Lib.hid (fun w => right_lit ⟨13, 1 + p, 1 + p, 0, loN m⟩ true w (right_mk _ (shI 13 (by omega)) (by omega) ⟨by omega, by omega, .inl rfl⟩ ⟨by omega, by omega, .inl rfl⟩ ⟨by omega, by omega, .inr rfl⟩ lob rfl))
    have T1 := Lib.hid (fun w => two_lit 9 (hiN m) 12 (twoN 9 (hiN m) 12) w rfl)
    have T2 := Lib.hid (fun w => two_lit 1 (twoN 9 (hiN m) 12) (loN m) m w (hi_two m HMB.out))
    have HS2 : Hid (¬ (-2048 ≤ m ∧ m ≤ 2047)) := Lib.hid hs
    unfold insV at HR HR2
    simp only at HR HR2
    simp only [show ([⟨1, 1 + p, 0, 0, hiN m⟩, ⟨13, 1 + p, 1 + p, 0, loN m⟩] : List Ins).length = 2 from rfl] at N1
    clear hr hrb hib lob hs
    generalize hiN m = hi at *
    generalize loN m = lo at *
    generalize twoN 9 hi 12 = tw at *
    go_enter Try.func10, Try.ntmps10
    go_wp2_with (first | (go_at_call 11; ((with_reducible refine (AW.out _).mono ?_); rintro e w1 ⟨rfl, hb1⟩)) | (go_at_call 13; ((with_reducible refine (P1.out _).mono ?_); rintro e w' ⟨rfl, rfl⟩)) | (go_at_call 28; ((with_reducible refine (PW.out _).mono ?_); rintro e w' ⟨rfl, rfl⟩)) | (go_at_call 21; ((with_reducible refine (N1.out _).mono ?_); rintro e w2 ⟨a2, rfl, hi2, hb2⟩; obtain ⟨B, hv, hB⟩ := ins_block hi2 (by simp); injection hv with hv e8 e9; subst hv; clear e8 e9; have HB2 := Lib.hid hB; clear hB hi2)))
    have hB := HB2.out
    have k0 : w2.cell? ⟨B, 0, none⟩ = some (.int .i64 1) := cell_in hB rfl
    have k1 : w2.cell? ⟨B, 1, none⟩ = some (.int .i64 (1 + p)) := cell_in hB rfl
    have k2 : w2.cell? ⟨B, 2, none⟩ = some (.int .i64 0) := cell_in hB rfl
    have k3 : w2.cell? ⟨B, 3, none⟩ = some (.int .i64 0) := cell_in hB rfl
    have k4 : w2.cell? ⟨B, 4, none⟩ = some (.int .i64 hi) := cell_in hB rfl
    have B2 := Lib.hid (bw_tr hb1 hb2)
    have hlt := lt_in hB
    clear hB hb1 hb2
    refine wp_loop_rounds 3 ?_
    rw [rounds_succ]
    go_wp2_with (first | (go_at_call 29; ((with_reducible refine (T1.out _).mono ?_); rintro e w' ⟨q1, rfl, rfl⟩)) | (go_at_call 30; ((with_reducible refine (HR.out _).mono ?_); rintro e w3 ⟨rfl, hb3⟩)))
    have hB := bel_in hb3 hlt HB2.out
    clear k0 k1 k2 k3 k4
    have k0 : w3.cell? ⟨B, 5, none⟩ = some (.int .i64 13) := cell_in hB rfl
    have k1 : w3.cell? ⟨B, 5 + 1, none⟩ = some (.int .i64 (1 + p)) := cell_in hB rfl
    have k2 : w3.cell? ⟨B, 5 + 2, none⟩ = some (.int .i64 (1 + p)) := cell_in hB rfl
    have k3 : w3.cell? ⟨B, 5 + 3, none⟩ = some (.int .i64 0) := cell_in hB rfl
    have k4 : w3.cell? ⟨B, 5 + 4, none⟩ = some (.int .i64 lo) := cell_in hB rfl
    simp only [Nat.reduceAdd] at k1 k2 k3 k4
    clear hB
    rw [rounds_succ]
    go_wp2_with (first | (go_at_call 29; ((with_reducible refine (T2.out _).mono ?_); rintro e w' ⟨q2, rfl, rfl⟩)) | (go_at_call 30; ((with_reducible refine (HR2.out _).mono ?_); rintro e w7 ⟨rfl, hb7⟩)))
    rw [rounds_succ]
    have s12 : (decide (-2048 ≤ m) = true ∧ decide (m ≤ 2047) = false) ∨ decide (-2048 ≤ m) = false := by
      by_cases h1 : -2048 ≤ m
      · left; exact ⟨decide_eq_true h1, decide_eq_false (fun h2 => HS2.out ⟨h1, h2⟩)⟩
      · right; exact decide_eq_false h1
    rcases s12 with ⟨s1, s2⟩ | s1
    all_goals
      go_wp2_with (first | (go_at_call 13; ((with_reducible refine (P2.out _).mono ?_); rintro e w' ⟨rfl, rfl⟩)) | (go_at_call 13; ((with_reducible refine (P3.out _).mono ?_); rintro e w' ⟨rfl, rfl⟩)) | (go_at_call 21; ((with_reducible refine (N2.out _).mono ?_); rintro e w4 ⟨a4, rfl, _, hb4⟩)) | (go_at_call 21; ((with_reducible refine (N3.out _).mono ?_); rintro e w5 ⟨a5, rfl, _, hb5⟩)) | (go_at_call 21; ((with_reducible refine (N4.out _).mono ?_); rintro e w6 ⟨a6, rfl, _, hb6⟩)))
      go_ret
      exact ⟨rfl, bw_tr B2.out (bw_tr hb3 (bw_tr hb7 (bw_tr hb4 (bw_tr hb5 hb6))))⟩
end Go.Proofs.Ytfepdieeiplbnaa
