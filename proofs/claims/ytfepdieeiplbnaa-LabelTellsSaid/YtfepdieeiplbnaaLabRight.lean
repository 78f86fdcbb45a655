/-
  The contract of label.Right: any item (printed by gen_labright.py).
-/
import Derived.Test.YtfepdieeiplbnaaLabB
import Derived.Test.YtfepdieeiplbnaaQuietTail
import Derived.Deep.DeepCutAuto
import Derived.WalkSpells
namespace Go.Proofs.Ytfepdieeiplbnaa
open Go.RowKit
set_option linter.unusedSimpArgs false
theorem is_label_lit (s : ByteArray) (r : Bool) (w : World) (hs : s.size ≤ maxLen) (hr : labelB s = r) :
    Calls Try.prog 38 #[.string s] w fun e w' => e = .returned (.bool r) ∧ Below w.heap.size w w' := by subst hr; exact is_label s w hs
theorem is_branch_lit (op : Int) (r : Bool) (w : World) (hr : isBr op = r) :
    Calls Try.prog 39 #[.int .i64 op] w fun e w' => e = .returned (.bool r) ∧ w = w' := by subst hr; exact is_branch op w
theorem code_right (op d a b n : Int) (r : Bool) (w : World) (hr : rightB ⟨op, d, a, b, n⟩ = r) :
    Calls Try.prog 30 #[.agg #[.int .i64 op, .int .i64 d, .int .i64 a, .int .i64 b, .int .i64 n]] w fun e w' => e = .returned (.bool r) ∧ Below w.heap.size w w' := right_lit ⟨op, d, a, b, n⟩ r w hr
/-- Number, asked only whether it tells anything. -/
theorem number_no (d n : Int) (w : World) (hn : I64 n) (hr : numB d n = false) :
    Calls Try.prog 21 #[.int .i64 d, .int .i64 n] w fun e w' => e = .returned (.slice none 0 0) ∧ Below w.heap.size w w' := by
  refine (label_number d n w hn).mono ?_
  rintro e w' ⟨hb, h | ⟨h, _⟩⟩
  · exact ⟨h.2, hb⟩
  · exact absurd ((labL_nil d n).2 hr) h
theorem number_yes (d n : Int) (w : World) (hn : I64 n) (hr : numB d n = true) :
    Calls Try.prog 21 #[.int .i64 d, .int .i64 n] w fun e w' => ∃ B k, e = .returned (.slice (some ⟨B, 0, none⟩) k k) ∧ Below w.heap.size w w' := by
  refine (label_number d n w hn).mono ?_
  rintro e w' ⟨hb, h | ⟨_, B, h, _⟩⟩
  · rw [(labL_nil d n).1 h.1] at hr; cases hr
  · exact ⟨B, _, h, hb⟩

theorem itemB_1 (op d a b n N : Int) (s : ByteArray) : itemB ⟨1, ⟨op, d, a, b, n⟩, s, N⟩ = (decide ((⟨1, ⟨op, d, a, b, n⟩, s, N⟩ : Itm) = ⟨1, ⟨op, d, a, b, n⟩, ⟨#[]⟩, 0⟩) && rightB ⟨op, d, a, b, n⟩) := by
  unfold itemB
  simp [toB, nopB]
theorem itemB_2 (op d a b n N : Int) (s : ByteArray) : itemB ⟨2, ⟨op, d, a, b, n⟩, s, N⟩ = (decide ((⟨2, ⟨op, d, a, b, n⟩, s, N⟩ : Itm) = ⟨2, noI, s, 0⟩) && labelB s) := by
  unfold itemB
  simp [toB, nopB]
theorem itemB_3 (op d a b n N : Int) (s : ByteArray) : itemB ⟨3, ⟨op, d, a, b, n⟩, s, N⟩ = (decide ((⟨3, ⟨op, d, a, b, n⟩, s, N⟩ : Itm) = ⟨3, ⟨op, d, a, b, n⟩, s, 0⟩) && (rightB ⟨op, d, a, b, n⟩ && (decide (n = 0) && ((isBr op || decide (op = 3)) && labelB s)))) := by
  unfold itemB
  simp [toB, nopB]
theorem itemB_4 (op d a b n N : Int) (s : ByteArray) : itemB ⟨4, ⟨op, d, a, b, n⟩, s, N⟩ = (decide ((⟨4, ⟨op, d, a, b, n⟩, s, N⟩ : Itm) = ⟨4, ⟨0, d, 0, 0, 0⟩, ⟨#[]⟩, N⟩) && numB d N) := by
  unfold itemB
  simp [toB, nopB]
theorem itemB_5 (op d a b n N : Int) (s : ByteArray) : itemB ⟨5, ⟨op, d, a, b, n⟩, s, N⟩ = (decide ((⟨5, ⟨op, d, a, b, n⟩, s, N⟩ : Itm) = ⟨5, noI, ⟨#[]⟩, N⟩) && (decide (0 ≤ N) && decide (N ≤ 4096))) := by
  unfold itemB
  simp [toB, nopB]
set_option maxRecDepth 100000 in
set_option maxHeartbeats 4000000 in
theorem right_k1 (op d a b n N : Int) (s : ByteArray) (w : World) (hs : s.size ≤ maxLen) (hN : I64 N) (res : Bool) (hres : itemB ⟨1, ⟨op, d, a, b, n⟩, s, N⟩ = res) :
    Calls Try.prog 23 #[itV ⟨1, ⟨op, d, a, b, n⟩, s, N⟩] w fun e w' => e = .returned (.bool res) ∧ Below w.heap.size w w' := by
  have HR := Lib.hid hres; clear hres
  have HS := Lib.hid hs; have HN := Lib.hid hN; clear hs hN
  have hq := fun z => eqT z ⟨1, ⟨op, d, a, b, n⟩, s, N⟩ ⟨1, ⟨op, d, a, b, n⟩, ⟨#[]⟩, 0⟩
  unfold itV

  cases h0 : decide ((⟨1, ⟨op, d, a, b, n⟩, s, N⟩ : Itm) = ⟨1, ⟨op, d, a, b, n⟩, ⟨#[]⟩, 0⟩)
  · have q := hq _ h0; simp only [noI] at q
    have E : Hid (false = res) := Lib.hid (Eq.trans (by rw [itemB_1, h0]; rfl) HR.out)
    clear hq h0
    go_enter Try.func23, Try.ntmps23
    go_wp2_with (fail)
    go_ret
    exact ⟨ret1b E.out, (by repeat (first | (with_reducible exact Below.refl _ _) | (with_reducible refine bw_set ?_ ?_ _) | (with_reducible apply bw_alloc) | (with_reducible refine bw_tr ?_ (by with_reducible assumption)) | (with_reducible apply bw_drew) | omega))⟩
  · cases h1 : rightB ⟨op, d, a, b, n⟩
    · have HR1 := Lib.hid h1
      have q := hq _ h0; simp only [noI] at q
      have E : Hid (false = res) := Lib.hid (Eq.trans (by rw [itemB_1, h0, h1]; rfl) HR.out)
      clear hq h0 h1
      go_enter Try.func23, Try.ntmps23
      go_wp2_with (first | (go_at_call 30; ((with_reducible refine (code_right op d a b n _ _ HR1.out).mono ?_); rintro e w1 ⟨rfl, hb1⟩; obtain ⟨c1, f1⟩ := bcell hb1; have z1 : w.heap.size + 1 < w1.heap.size := by (have := hb1.size; simp at this; omega))))
      go_ret
      exact ⟨ret1b E.out, (by repeat (first | (with_reducible exact Below.refl _ _) | (with_reducible refine bw_set ?_ ?_ _) | (with_reducible apply bw_alloc) | (with_reducible refine bw_tr ?_ (by with_reducible assumption)) | (with_reducible apply bw_drew) | omega))⟩
    · have HR1 := Lib.hid h1
      have q := hq _ h0; simp only [noI] at q
      have E : Hid (true = res) := Lib.hid (Eq.trans (by rw [itemB_1, h0, h1]; rfl) HR.out)
      clear hq h0 h1
      go_enter Try.func23, Try.ntmps23
      go_wp2_with (first | (go_at_call 30; ((with_reducible refine (code_right op d a b n _ _ HR1.out).mono ?_); rintro e w1 ⟨rfl, hb1⟩; obtain ⟨c1, f1⟩ := bcell hb1; have z1 : w.heap.size + 1 < w1.heap.size := by (have := hb1.size; simp at this; omega))))
      go_ret
      exact ⟨ret1b E.out, (by repeat (first | (with_reducible exact Below.refl _ _) | (with_reducible refine bw_set ?_ ?_ _) | (with_reducible apply bw_alloc) | (with_reducible refine bw_tr ?_ (by with_reducible assumption)) | (with_reducible apply bw_drew) | omega))⟩
set_option maxRecDepth 100000 in
set_option maxHeartbeats 4000000 in
theorem right_k2 (op d a b n N : Int) (s : ByteArray) (w : World) (hs : s.size ≤ maxLen) (hN : I64 N) (res : Bool) (hres : itemB ⟨2, ⟨op, d, a, b, n⟩, s, N⟩ = res) :
    Calls Try.prog 23 #[itV ⟨2, ⟨op, d, a, b, n⟩, s, N⟩] w fun e w' => e = .returned (.bool res) ∧ Below w.heap.size w w' := by
  have HR := Lib.hid hres; clear hres
  have HS := Lib.hid hs; have HN := Lib.hid hN; clear hs hN
  have hq := fun z => eqT z ⟨2, ⟨op, d, a, b, n⟩, s, N⟩ ⟨2, noI, s, 0⟩
  unfold itV

  cases h0 : decide ((⟨2, ⟨op, d, a, b, n⟩, s, N⟩ : Itm) = ⟨2, noI, s, 0⟩)
  · have q := hq _ h0; simp only [noI] at q
    have E : Hid (false = res) := Lib.hid (Eq.trans (by rw [itemB_2, h0]; rfl) HR.out)
    clear hq h0
    go_enter Try.func23, Try.ntmps23
    go_wp2_with (fail)
    go_ret
    exact ⟨ret1b E.out, (by repeat (first | (with_reducible exact Below.refl _ _) | (with_reducible refine bw_set ?_ ?_ _) | (with_reducible apply bw_alloc) | (with_reducible refine bw_tr ?_ (by with_reducible assumption)) | (with_reducible apply bw_drew) | omega))⟩
  · cases h5 : labelB s
    · have HL1 := Lib.hid h5
      have q := hq _ h0; simp only [noI] at q
      have E : Hid (false = res) := Lib.hid (Eq.trans (by rw [itemB_2, h0, h5]; rfl) HR.out)
      clear hq h0 h5
      go_enter Try.func23, Try.ntmps23
      go_wp2_with (first | (go_at_call 38; ((with_reducible refine (is_label_lit s _ _ HS.out HL1.out).mono ?_); rintro e w3 ⟨rfl, hb3⟩)))
      go_ret
      exact ⟨ret1b E.out, (by repeat (first | (with_reducible exact Below.refl _ _) | (with_reducible refine bw_set ?_ ?_ _) | (with_reducible apply bw_alloc) | (with_reducible refine bw_tr ?_ (by with_reducible assumption)) | (with_reducible apply bw_drew) | omega))⟩
    · have HL1 := Lib.hid h5
      have q := hq _ h0; simp only [noI] at q
      have E : Hid (true = res) := Lib.hid (Eq.trans (by rw [itemB_2, h0, h5]; rfl) HR.out)
      clear hq h0 h5
      go_enter Try.func23, Try.ntmps23
      go_wp2_with (first | (go_at_call 38; ((with_reducible refine (is_label_lit s _ _ HS.out HL1.out).mono ?_); rintro e w3 ⟨rfl, hb3⟩)))
      go_ret
      exact ⟨ret1b E.out, (by repeat (first | (with_reducible exact Below.refl _ _) | (with_reducible refine bw_set ?_ ?_ _) | (with_reducible apply bw_alloc) | (with_reducible refine bw_tr ?_ (by with_reducible assumption)) | (with_reducible apply bw_drew) | omega))⟩
set_option maxRecDepth 100000 in
set_option maxHeartbeats 4000000 in
theorem right_k3 (op d a b n N : Int) (s : ByteArray) (w : World) (hs : s.size ≤ maxLen) (hN : I64 N) (res : Bool) (hres : itemB ⟨3, ⟨op, d, a, b, n⟩, s, N⟩ = res) :
    Calls Try.prog 23 #[itV ⟨3, ⟨op, d, a, b, n⟩, s, N⟩] w fun e w' => e = .returned (.bool res) ∧ Below w.heap.size w w' := by
  have HR := Lib.hid hres; clear hres
  have HS := Lib.hid hs; have HN := Lib.hid hN; clear hs hN
  have hq := fun z => eqT z ⟨3, ⟨op, d, a, b, n⟩, s, N⟩ ⟨3, ⟨op, d, a, b, n⟩, s, 0⟩
  unfold itV

  cases h0 : decide ((⟨3, ⟨op, d, a, b, n⟩, s, N⟩ : Itm) = ⟨3, ⟨op, d, a, b, n⟩, s, 0⟩)
  · have q := hq _ h0; simp only [noI] at q
    have E : Hid (false = res) := Lib.hid (Eq.trans (by rw [itemB_3, h0]; rfl) HR.out)
    clear hq h0
    go_enter Try.func23, Try.ntmps23
    go_upto_region 10 with (fail)
    go_region
    all_goals
      go_wp2_with (fail)
      go_ret
      exact ⟨ret1b E.out, (by repeat (first | (with_reducible exact Below.refl _ _) | (with_reducible refine bw_set ?_ ?_ _) | (with_reducible apply bw_alloc) | (with_reducible refine bw_tr ?_ (by with_reducible assumption)) | (with_reducible apply bw_drew) | omega))⟩
  · cases h1 : rightB ⟨op, d, a, b, n⟩
    · have HR1 := Lib.hid h1
      have q := hq _ h0; simp only [noI] at q
      have E : Hid (false = res) := Lib.hid (Eq.trans (by rw [itemB_3, h0, h1]; rfl) HR.out)
      clear hq h0 h1
      go_enter Try.func23, Try.ntmps23
      go_upto_region 10 with (fail)
      go_region
      all_goals
        go_wp2_with (first | (go_at_call 30; ((with_reducible refine (code_right op d a b n _ _ HR1.out).mono ?_); rintro e w1 ⟨rfl, hb1⟩; obtain ⟨c1, f1⟩ := bcell hb1; have z1 : w.heap.size + 1 < w1.heap.size := by (have := hb1.size; simp at this; omega))))
        go_ret
        exact ⟨ret1b E.out, (by repeat (first | (with_reducible exact Below.refl _ _) | (with_reducible refine bw_set ?_ ?_ _) | (with_reducible apply bw_alloc) | (with_reducible refine bw_tr ?_ (by with_reducible assumption)) | (with_reducible apply bw_drew) | omega))⟩
    · have HR1 := Lib.hid h1
      cases h2 : decide (n = 0)
      · have n0 : (n == 0) = false := by simpa using h2
        have q := hq _ h0; simp only [noI] at q
        have E : Hid (false = res) := Lib.hid (Eq.trans (by rw [itemB_3, h0, h1, h2]; rfl) HR.out)
        clear hq h0 h1 h2
        go_enter Try.func23, Try.ntmps23
        go_upto_region 10 with (fail)
        go_region
        all_goals
          go_wp2_with (first | (go_at_call 30; ((with_reducible refine (code_right op d a b n _ _ HR1.out).mono ?_); rintro e w1 ⟨rfl, hb1⟩; obtain ⟨c1, f1⟩ := bcell hb1; have z1 : w.heap.size + 1 < w1.heap.size := by (have := hb1.size; simp at this; omega))))
          go_ret
          exact ⟨ret1b E.out, (by repeat (first | (with_reducible exact Below.refl _ _) | (with_reducible refine bw_set ?_ ?_ _) | (with_reducible apply bw_alloc) | (with_reducible refine bw_tr ?_ (by with_reducible assumption)) | (with_reducible apply bw_drew) | omega))⟩
      · have n0 : (n == 0) = true := by simpa using h2
        cases h3 : isBr op
        · have HB1 := Lib.hid h3
          cases h4 : decide (op = 3)
          · have o3 : (op == 3) = false := by simpa using h4
            have q := hq _ h0; simp only [noI] at q
            have E : Hid (false = res) := Lib.hid (Eq.trans (by rw [itemB_3, h0, h1, h2, h3, h4]; rfl) HR.out)
            clear hq h0 h1 h2 h3 h4
            go_enter Try.func23, Try.ntmps23
            go_upto_region 10 with (fail)
            go_region
            all_goals
              go_wp2_with (first | (go_at_call 30; ((with_reducible refine (code_right op d a b n _ _ HR1.out).mono ?_); rintro e w1 ⟨rfl, hb1⟩; obtain ⟨c1, f1⟩ := bcell hb1; have z1 : w.heap.size + 1 < w1.heap.size := by (have := hb1.size; simp at this; omega))) | (go_at_call 39; ((with_reducible refine (is_branch_lit op _ _ HB1.out).mono ?_); rintro e w2 ⟨rfl, rfl⟩)))
              go_ret
              exact ⟨ret1b E.out, (by repeat (first | (with_reducible exact Below.refl _ _) | (with_reducible refine bw_set ?_ ?_ _) | (with_reducible apply bw_alloc) | (with_reducible refine bw_tr ?_ (by with_reducible assumption)) | (with_reducible apply bw_drew) | omega))⟩
          · have o3 : (op == 3) = true := by simpa using h4
            cases h5 : labelB s
            · have HL1 := Lib.hid h5
              have q := hq _ h0; simp only [noI] at q
              have E : Hid (false = res) := Lib.hid (Eq.trans (by rw [itemB_3, h0, h1, h2, h3, h4, h5]; rfl) HR.out)
              clear hq h0 h1 h2 h3 h4 h5
              go_enter Try.func23, Try.ntmps23
              go_upto_region 10 with (fail)
              go_region
              all_goals
                go_wp2_with (first | (go_at_call 30; ((with_reducible refine (code_right op d a b n _ _ HR1.out).mono ?_); rintro e w1 ⟨rfl, hb1⟩; obtain ⟨c1, f1⟩ := bcell hb1; have z1 : w.heap.size + 1 < w1.heap.size := by (have := hb1.size; simp at this; omega))) | (go_at_call 39; ((with_reducible refine (is_branch_lit op _ _ HB1.out).mono ?_); rintro e w2 ⟨rfl, rfl⟩)) | (go_at_call 38; ((with_reducible refine (is_label_lit s _ _ HS.out HL1.out).mono ?_); rintro e w3 ⟨rfl, hb3⟩)))
                go_ret
                exact ⟨ret1b E.out, (by repeat (first | (with_reducible exact Below.refl _ _) | (with_reducible refine bw_set ?_ ?_ _) | (with_reducible apply bw_alloc) | (with_reducible refine bw_tr ?_ (by with_reducible assumption)) | (with_reducible apply bw_drew) | omega))⟩
            · have HL1 := Lib.hid h5
              have q := hq _ h0; simp only [noI] at q
              have E : Hid (true = res) := Lib.hid (Eq.trans (by rw [itemB_3, h0, h1, h2, h3, h4, h5]; rfl) HR.out)
              clear hq h0 h1 h2 h3 h4 h5
              go_enter Try.func23, Try.ntmps23
              go_upto_region 10 with (fail)
              go_region
              all_goals
                go_wp2_with (first | (go_at_call 30; ((with_reducible refine (code_right op d a b n _ _ HR1.out).mono ?_); rintro e w1 ⟨rfl, hb1⟩; obtain ⟨c1, f1⟩ := bcell hb1; have z1 : w.heap.size + 1 < w1.heap.size := by (have := hb1.size; simp at this; omega))) | (go_at_call 39; ((with_reducible refine (is_branch_lit op _ _ HB1.out).mono ?_); rintro e w2 ⟨rfl, rfl⟩)) | (go_at_call 38; ((with_reducible refine (is_label_lit s _ _ HS.out HL1.out).mono ?_); rintro e w3 ⟨rfl, hb3⟩)))
                go_ret
                exact ⟨ret1b E.out, (by repeat (first | (with_reducible exact Below.refl _ _) | (with_reducible refine bw_set ?_ ?_ _) | (with_reducible apply bw_alloc) | (with_reducible refine bw_tr ?_ (by with_reducible assumption)) | (with_reducible apply bw_drew) | omega))⟩
        · have HB1 := Lib.hid h3
          cases h5 : labelB s
          · have HL1 := Lib.hid h5
            have q := hq _ h0; simp only [noI] at q
            have E : Hid (false = res) := Lib.hid (Eq.trans (by rw [itemB_3, h0, h1, h2, h3, h5]; rfl) HR.out)
            clear hq h0 h1 h2 h3 h5
            go_enter Try.func23, Try.ntmps23
            go_upto_region 10 with (fail)
            go_region
            all_goals
              go_wp2_with (first | (go_at_call 30; ((with_reducible refine (code_right op d a b n _ _ HR1.out).mono ?_); rintro e w1 ⟨rfl, hb1⟩; obtain ⟨c1, f1⟩ := bcell hb1; have z1 : w.heap.size + 1 < w1.heap.size := by (have := hb1.size; simp at this; omega))) | (go_at_call 39; ((with_reducible refine (is_branch_lit op _ _ HB1.out).mono ?_); rintro e w2 ⟨rfl, rfl⟩)) | (go_at_call 38; ((with_reducible refine (is_label_lit s _ _ HS.out HL1.out).mono ?_); rintro e w3 ⟨rfl, hb3⟩)))
              go_ret
              exact ⟨ret1b E.out, (by repeat (first | (with_reducible exact Below.refl _ _) | (with_reducible refine bw_set ?_ ?_ _) | (with_reducible apply bw_alloc) | (with_reducible refine bw_tr ?_ (by with_reducible assumption)) | (with_reducible apply bw_drew) | omega))⟩
          · have HL1 := Lib.hid h5
            have q := hq _ h0; simp only [noI] at q
            have E : Hid (true = res) := Lib.hid (Eq.trans (by rw [itemB_3, h0, h1, h2, h3, h5]; rfl) HR.out)
            clear hq h0 h1 h2 h3 h5
            go_enter Try.func23, Try.ntmps23
            go_upto_region 10 with (fail)
            go_region
            all_goals
              go_wp2_with (first | (go_at_call 30; ((with_reducible refine (code_right op d a b n _ _ HR1.out).mono ?_); rintro e w1 ⟨rfl, hb1⟩; obtain ⟨c1, f1⟩ := bcell hb1; have z1 : w.heap.size + 1 < w1.heap.size := by (have := hb1.size; simp at this; omega))) | (go_at_call 39; ((with_reducible refine (is_branch_lit op _ _ HB1.out).mono ?_); rintro e w2 ⟨rfl, rfl⟩)) | (go_at_call 38; ((with_reducible refine (is_label_lit s _ _ HS.out HL1.out).mono ?_); rintro e w3 ⟨rfl, hb3⟩)))
              go_ret
              exact ⟨ret1b E.out, (by repeat (first | (with_reducible exact Below.refl _ _) | (with_reducible refine bw_set ?_ ?_ _) | (with_reducible apply bw_alloc) | (with_reducible refine bw_tr ?_ (by with_reducible assumption)) | (with_reducible apply bw_drew) | omega))⟩
set_option maxRecDepth 100000 in
set_option maxHeartbeats 4000000 in
theorem right_k4 (op d a b n N : Int) (s : ByteArray) (w : World) (hs : s.size ≤ maxLen) (hN : I64 N) (res : Bool) (hres : itemB ⟨4, ⟨op, d, a, b, n⟩, s, N⟩ = res) :
    Calls Try.prog 23 #[itV ⟨4, ⟨op, d, a, b, n⟩, s, N⟩] w fun e w' => e = .returned (.bool res) ∧ Below w.heap.size w w' := by
  have HR := Lib.hid hres; clear hres
  have HS := Lib.hid hs; have HN := Lib.hid hN; clear hs hN
  have hq := fun z => eqT z ⟨4, ⟨op, d, a, b, n⟩, s, N⟩ ⟨4, ⟨0, d, 0, 0, 0⟩, ⟨#[]⟩, N⟩
  unfold itV

  cases h0 : decide ((⟨4, ⟨op, d, a, b, n⟩, s, N⟩ : Itm) = ⟨4, ⟨0, d, 0, 0, 0⟩, ⟨#[]⟩, N⟩)
  · have q := hq _ h0; simp only [noI] at q
    have E : Hid (false = res) := Lib.hid (Eq.trans (by rw [itemB_4, h0]; rfl) HR.out)
    clear hq h0
    go_enter Try.func23, Try.ntmps23
    go_upto_region 13 with (fail)
    go_region
    all_goals
      go_wp2_with (fail)
      go_ret
      exact ⟨ret1b E.out, (by repeat (first | (with_reducible exact Below.refl _ _) | (with_reducible refine bw_set ?_ ?_ _) | (with_reducible apply bw_alloc) | (with_reducible refine bw_tr ?_ (by with_reducible assumption)) | (with_reducible apply bw_drew) | omega))⟩
  · cases h6 : numB d N
    · have HV1 := Lib.hid h6
      have q := hq _ h0; simp only [noI] at q
      have E : Hid (false = res) := Lib.hid (Eq.trans (by rw [itemB_4, h0, h6]; rfl) HR.out)
      clear hq h0 h6
      go_enter Try.func23, Try.ntmps23
      go_upto_region 13 with (fail)
      go_region
      all_goals
        go_wp2_with (first | (go_at_call 21; ((with_reducible refine (number_no d N _ HN.out HV1.out).mono ?_); rintro e w4 ⟨rfl, hb4⟩)))
        go_ret
        exact ⟨ret1b E.out, (by repeat (first | (with_reducible exact Below.refl _ _) | (with_reducible refine bw_set ?_ ?_ _) | (with_reducible apply bw_alloc) | (with_reducible refine bw_tr ?_ (by with_reducible assumption)) | (with_reducible apply bw_drew) | omega))⟩
    · have HV1 := Lib.hid h6
      have q := hq _ h0; simp only [noI] at q
      have E : Hid (true = res) := Lib.hid (Eq.trans (by rw [itemB_4, h0, h6]; rfl) HR.out)
      clear hq h0 h6
      go_enter Try.func23, Try.ntmps23
      go_upto_region 13 with (fail)
      go_region
      all_goals
        go_wp2_with (first | (go_at_call 21; ((with_reducible refine (number_yes d N _ HN.out HV1.out).mono ?_); rintro e w4 ⟨B4, k4, rfl, hb4⟩)))
        go_ret
        exact ⟨ret1b E.out, (by repeat (first | (with_reducible exact Below.refl _ _) | (with_reducible refine bw_set ?_ ?_ _) | (with_reducible apply bw_alloc) | (with_reducible refine bw_tr ?_ (by with_reducible assumption)) | (with_reducible apply bw_drew) | omega))⟩
set_option maxRecDepth 100000 in
set_option maxHeartbeats 4000000 in
theorem right_k5 (op d a b n N : Int) (s : ByteArray) (w : World) (hs : s.size ≤ maxLen) (hN : I64 N) (res : Bool) (hres : itemB ⟨5, ⟨op, d, a, b, n⟩, s, N⟩ = res) :
    Calls Try.prog 23 #[itV ⟨5, ⟨op, d, a, b, n⟩, s, N⟩] w fun e w' => e = .returned (.bool res) ∧ Below w.heap.size w w' := by
  have HR := Lib.hid hres; clear hres
  have HS := Lib.hid hs; have HN := Lib.hid hN; clear hs hN
  have hq := fun z => eqT z ⟨5, ⟨op, d, a, b, n⟩, s, N⟩ ⟨5, noI, ⟨#[]⟩, N⟩
  unfold itV

  cases h0 : decide ((⟨5, ⟨op, d, a, b, n⟩, s, N⟩ : Itm) = ⟨5, noI, ⟨#[]⟩, N⟩)
  · have q := hq _ h0; simp only [noI] at q
    have E : Hid (false = res) := Lib.hid (Eq.trans (by rw [itemB_5, h0]; rfl) HR.out)
    clear hq h0
    go_enter Try.func23, Try.ntmps23
    go_wp2_with (fail)
    go_ret
    exact ⟨ret1b E.out, (by repeat (first | (with_reducible exact Below.refl _ _) | (with_reducible refine bw_set ?_ ?_ _) | (with_reducible apply bw_alloc) | (with_reducible refine bw_tr ?_ (by with_reducible assumption)) | (with_reducible apply bw_drew) | omega))⟩
  · cases h7 : decide (0 ≤ N)
    · have q := hq _ h0; simp only [noI] at q
      have E : Hid (false = res) := Lib.hid (Eq.trans (by rw [itemB_5, h0, h7]; rfl) HR.out)
      clear hq h0
      go_enter Try.func23, Try.ntmps23
      go_wp2_with (fail)
      go_ret
      exact ⟨ret1b E.out, (by repeat (first | (with_reducible exact Below.refl _ _) | (with_reducible refine bw_set ?_ ?_ _) | (with_reducible apply bw_alloc) | (with_reducible refine bw_tr ?_ (by with_reducible assumption)) | (with_reducible apply bw_drew) | omega))⟩
    · cases h8 : decide (N ≤ 4096)
      · have q := hq _ h0; simp only [noI] at q
        have E : Hid (false = res) := Lib.hid (Eq.trans (by rw [itemB_5, h0, h7, h8]; rfl) HR.out)
        clear hq h0
        go_enter Try.func23, Try.ntmps23
        go_wp2_with (fail)
        go_ret
        exact ⟨ret1b E.out, (by repeat (first | (with_reducible exact Below.refl _ _) | (with_reducible refine bw_set ?_ ?_ _) | (with_reducible apply bw_alloc) | (with_reducible refine bw_tr ?_ (by with_reducible assumption)) | (with_reducible apply bw_drew) | omega))⟩
      · have q := hq _ h0; simp only [noI] at q
        have E : Hid (true = res) := Lib.hid (Eq.trans (by rw [itemB_5, h0, h7, h8]; rfl) HR.out)
        clear hq h0
        go_enter Try.func23, Try.ntmps23
        go_wp2_with (fail)
        go_ret
        exact ⟨ret1b E.out, (by repeat (first | (with_reducible exact Below.refl _ _) | (with_reducible refine bw_set ?_ ?_ _) | (with_reducible apply bw_alloc) | (with_reducible refine bw_tr ?_ (by with_reducible assumption)) | (with_reducible apply bw_drew) | omega))⟩
set_option maxHeartbeats 4000000 in
theorem right_item (x : Itm) (r : Bool) (w : World) (hs : x.name.size ≤ maxLen) (hN : I64 x.n) (hr : itemB x = r) :
    Calls Try.prog 23 #[itV x] w fun e w' => e = .returned (.bool r) ∧ Below w.heap.size w w' := by
  obtain ⟨k, ⟨op, d, a, b, n⟩, s, N⟩ := x
  by_cases h1 : k = 1
  · subst h1; exact right_k1 op d a b n N s w hs hN r hr
  by_cases h2 : k = 2
  · subst h2; exact right_k2 op d a b n N s w hs hN r hr
  by_cases h3 : k = 3
  · subst h3; exact right_k3 op d a b n N s w hs hN r hr
  by_cases h4 : k = 4
  · subst h4; exact right_k4 op d a b n N s w hs hN r hr
  by_cases h5 : k = 5
  · subst h5; exact right_k5 op d a b n N s w hs hN r hr
  have E : Hid (false = r) := Lib.hid (by rw [← hr]; unfold itemB; simp only; rw [if_neg h1, if_neg h2, if_neg h3, if_neg h4, if_neg h5])
  have q1 : (k == 1) = false := by simpa using h1
  have q2 : (k == 2) = false := by simpa using h2
  have q3 : (k == 3) = false := by simpa using h3
  have q4 : (k == 4) = false := by simpa using h4
  have q5 : (k == 5) = false := by simpa using h5
  clear h1 h2 h3 h4 h5 hr hs
  unfold itV
  go_enter Try.func23, Try.ntmps23
  go_wp2_with fail
  go_ret
  exact ⟨ret1b E.out, (by repeat (first | (with_reducible exact Below.refl _ _) | (with_reducible refine bw_set ?_ ?_ _) | (with_reducible apply bw_alloc) | (with_reducible refine bw_tr ?_ (by with_reducible assumption)) | (with_reducible apply bw_drew) | omega))⟩
end Go.Proofs.Ytfepdieeiplbnaa
