/-
  The contracts of headstockref02.Reads, Writes.
-/
import Derived.Test.YtefebnicclbhjaaRef2Enc
import Derived.Test.YtefebnicclbhjaaCodeReads
import Derived.Laws.AppendOwn
namespace Go.Proofs.Ytefebnicclbhjaa
open Go.RowKit
theorem refWrites_any (x : Ins) (w : World) :
    Calls Try.prog 23 #[insV x] w fun e w' => e = .returned (.int .i64 (writesN x)) ∧ Below w.heap.size w w' := by
  cases hr : rightB x
  all_goals
    have HE : Hid (writesN x = if rightB x then x.d else 0) := rfl
    have HR := Lib.hid hr; clear hr
    rw [HR.out] at HE
    obtain ⟨op, d, a, b, n⟩ := x
    unfold insV
    go_enter Try.func23, Try.ntmps23
    go_wp2_with fail
    refine (refRight_g _ _ _ _ _ _ _ HR.out).mono ?_
    rintro e w1 ⟨rfl, hb1⟩
    obtain ⟨c1, f1⟩ := bcell hb1
    have s1 := hb1.size
    try simp at s1
    have l1x0 : w.heap.size < w1.heap.size := by omega
    go_wp2_with fail
    go_ret
    exact ⟨by rw [HE.out]; rfl, (by repeat (first | (with_reducible exact Below.refl _ _) | (with_reducible refine bw_set ?_ ?_ _) | (with_reducible apply bw_alloc) | (with_reducible refine bw_tr ?_ (by with_reducible assumption)) | (with_reducible apply bw_drew) | omega))⟩
theorem one_new_cell (w : World) (v : Value) (t : TypeId) : ∀ j u, [v][j]? = some u → (w.alloc (.cells #[v] t)).cell? ((⟨w.heap.size, 0, none⟩ : Addr).add j) = some u := by
  intro j u hj
  match j, hj with
  | 0, hj => rw [addr_add]; simp at hj; subst hj; exact cell_in (new_in w _) rfl
  | j + 1, hj => simp at hj
theorem reads_of_own {w : World} {B n : Nat} {v : Value} {l : List Int} (h : w.ownsRow B 3 1 v n (l.map (Value.int .i64))) (hn : n = l.length) : Reads w 1 l.length v (l.map (Value.int .i64)) := by
  subst hn
  exact Reads.own h (fun u hu => by obtain ⟨q, _, rfl⟩ := List.mem_map.1 hu; rfl)
set_option maxHeartbeats 4000000 in
theorem refReads_any (x : Ins) (w : World) :
    Calls Try.prog 21 #[insV x] w fun e w' => ∃ v, e = .returned v ∧ Reads w' 1 (readsL x).length v ((readsL x).map (Value.int .i64)) ∧ Below w.heap.size w w' := by
  obtain ⟨i0, hi, hz0, hz1, hz2⟩ := info_parts infoInt
  cases hr : rightB x
  case false =>
    have HL := Lib.hid (show readsL x = [] by unfold readsL; rw [hr]; rfl)
    have HR := Lib.hid hr; clear hr
    obtain ⟨op, d, a, b, n⟩ := x
    unfold insV
    go_enter Try.func21, Try.ntmps21
    go_wp2_with fail
    refine (refRight_g _ _ _ _ _ false _ HR.out).mono ?_
    rintro e w1 ⟨rfl, hb1⟩
    go_wp2_with fail
    go_ret
    exact ⟨_, rfl, by rw [HL.out]; exact Reads.nil _ _, (by repeat (first | (with_reducible exact Below.refl _ _) | (with_reducible refine bw_set ?_ ?_ _) | (with_reducible apply bw_alloc) | (with_reducible refine bw_tr ?_ (by with_reducible assumption)) | (with_reducible apply bw_drew) | omega))⟩
  case true =>
    have ha := (right_parts hr).2.2.1
    have hb := (right_parts hr).2.2.2.1
    have HL := Lib.hid (show readsL x = (if (x.a == 0) = true then (if (x.b == 0) = true then [] else [x.b]) else (if (x.b == 0) = true then [x.a] else if (x.b == x.a) = true then [x.a] else [x.a, x.b])) by unfold readsL; rw [hr]; rfl)
    have HR := Lib.hid hr; clear hr
    obtain ⟨op, d, a, b, n⟩ := x
    simp only at ha hb HL
    obtain ⟨a0, a1, _⟩ := ha
    obtain ⟨b0, b1, _⟩ := hb
    unfold insV
    have hnil : ∀ w : World, w.ownsRow w.heap.size 3 1 (.slice none 0 0) 0 [] := fun w => World.ownsRow_nil _ _ _ _
    have HN := Lib.hid hnil; clear hnil
    by_cases ha : a = 0
    · subst ha
      by_cases hb : b = 0
      · subst hb
        go_enter Try.func21, Try.ntmps21
        go_wp2_with fail
        refine (refRight_g _ _ _ _ _ true _ HR.out).mono ?_
        rintro e w1 ⟨rfl, hb1⟩
        obtain ⟨c1, f1⟩ := bcell hb1
        have s1 := hb1.size
        try simp at s1
        have l1x0 : w.heap.size < w1.heap.size := by omega
        go_wp2_with fail
        go_ret
        exact ⟨_, rfl, by rw [HL.out]; exact Reads.nil _ _, (by repeat (first | (with_reducible exact Below.refl _ _) | (with_reducible refine bw_set ?_ ?_ _) | (with_reducible apply bw_alloc) | (with_reducible refine bw_tr ?_ (by with_reducible assumption)) | (with_reducible apply bw_drew) | omega))⟩
      · have hlt : 0 < b := by omega
        have hbn : (b != 0) = true := by simp [hb]
        have HE := Lib.hid (show readsL ⟨op, d, 0, b, n⟩ = [b] by rw [HL.out]; simp [hb])
        clear HL hb
        go_enter Try.func21, Try.ntmps21
        go_wp2_with fail
        refine (refRight_g _ _ _ _ _ true _ HR.out).mono ?_
        rintro e w1 ⟨rfl, hb1⟩
        obtain ⟨c1, f1⟩ := bcell hb1
        have s1 := hb1.size
        try simp at s1
        have l1x0 : w.heap.size < w1.heap.size := by omega
        have HN2 := Lib.hid (one_new_cell w1 (.int .i64 b) 3)
        go_wp2_with (at_builtin; refine wpList_append_own _ rfl _ _ 33 rfl w1.heap.size 3 i0 (.int .i64 0) 1 8 Try.underlying33 hi hz0 hz1 hz2 rfl (by decide) _ 0 [] rfl ((HN.out w1).alloc _) ⟨w1.heap.size, 0, none⟩ 1 1 [.int .i64 b] rfl rfl HN2.out (by simp [Value.oneCell']) (by unfold maxLen; omega) (by omega) (by simp) ?_; intro v' w2 hown hgrow _)
        have hb2 : Below w1.heap.size w1 w2 := ((Below.refl _ _).alloc (Nat.le_refl _) _).grown hgrow (by simp) (fun k hk => by cases hk)
        go_ret
        exact ⟨_, rfl, by rw [HE.out]; exact reads_of_own (l := [b]) (by simpa using hown) rfl, (by repeat (first | (with_reducible exact Below.refl _ _) | (with_reducible refine bw_set ?_ ?_ _) | (with_reducible apply bw_alloc) | (with_reducible refine bw_tr ?_ (by with_reducible assumption)) | (with_reducible apply bw_drew) | omega))⟩
    · have hlt : 0 < a := by omega
      by_cases hb : b = 0 ∨ b = a
      · have HE := Lib.hid (show readsL ⟨op, d, a, b, n⟩ = [a] by rw [HL.out]; rcases hb with hb | hb <;> simp [ha, hb])
        clear HL
        have hsp : (decide (0 < b) = false) ∨ (decide (0 < b) = true ∧ (b != a) = false) := by
          by_cases h : 0 < b
          · right; exact ⟨by simpa using h, by simp; omega⟩
          · left; simpa using h
        clear hb ha
        rcases hsp with hs1 | ⟨hs1, hs2⟩
        all_goals
          go_enter Try.func21, Try.ntmps21
          go_wp2_with fail
          refine (refRight_g _ _ _ _ _ true _ HR.out).mono ?_
          rintro e w1 ⟨rfl, hb1⟩
          obtain ⟨c1, f1⟩ := bcell hb1
          have s1 := hb1.size
          try simp at s1
          have l1x0 : w.heap.size < w1.heap.size := by omega
          have HN2 := Lib.hid (one_new_cell w1 (.int .i64 a) 3)
          go_wp2_with (at_builtin; refine wpList_append_own _ rfl _ _ 33 rfl w1.heap.size 3 i0 (.int .i64 0) 1 8 Try.underlying33 hi hz0 hz1 hz2 rfl (by decide) _ 0 [] rfl ((HN.out w1).alloc _) ⟨w1.heap.size, 0, none⟩ 1 1 [.int .i64 a] rfl rfl HN2.out (by simp [Value.oneCell']) (by unfold maxLen; omega) (by omega) (by simp) ?_; intro v' w2 hown hgrow _; have hb2 : Below w1.heap.size w1 w2 := ((Below.refl _ _).alloc (Nat.le_refl _) _).grown hgrow (by simp) (fun k hk => by cases hk); obtain ⟨c2, f2⟩ := bcell hb2; have HO := Lib.hid hown; clear hown hgrow)
          go_ret
          exact ⟨_, rfl, by rw [HE.out]; exact reads_of_own (l := [a]) (by simpa using HO.out) rfl, (by repeat (first | (with_reducible exact Below.refl _ _) | (with_reducible refine bw_set ?_ ?_ _) | (with_reducible apply bw_alloc) | (with_reducible refine bw_tr ?_ (by with_reducible assumption)) | (with_reducible apply bw_drew) | omega))⟩
      · have hs1 : decide (0 < b) = true := by simp; omega
        have hs2 : (b != a) = true := by simp; omega
        have HE := Lib.hid (show readsL ⟨op, d, a, b, n⟩ = [a, b] by rw [HL.out]; simp at hb; simp [ha, hb])
        clear HL hb ha
        go_enter Try.func21, Try.ntmps21
        go_wp2_with fail
        refine (refRight_g _ _ _ _ _ true _ HR.out).mono ?_
        rintro e w1 ⟨rfl, hb1⟩
        obtain ⟨c1, f1⟩ := bcell hb1
        have s1 := hb1.size
        try simp at s1
        have l1x0 : w.heap.size < w1.heap.size := by omega
        have HN2 := Lib.hid (one_new_cell w1 (.int .i64 a) 3)
        go_wp2_with (first | (at_builtin; refine wpList_append_own _ rfl _ _ 33 rfl w1.heap.size 3 i0 (.int .i64 0) 1 8 Try.underlying33 hi hz0 hz1 hz2 rfl (by decide) _ 0 [] rfl ((HN.out w1).alloc _) ⟨w1.heap.size, 0, none⟩ 1 1 [.int .i64 a] rfl rfl HN2.out (by simp [Value.oneCell']) (by unfold maxLen; omega) (by omega) (by simp) ?_; intro v' w2 hown hgrow _; have hb2 : Below w1.heap.size w1 w2 := ((Below.refl _ _).alloc (Nat.le_refl _) _).grown hgrow (by simp) (fun k hk => by cases hk); obtain ⟨c2, f2⟩ := bcell hb2; have s2 := hb2.size; simp only [Nat.zero_add, List.nil_append] at hown; obtain ⟨qa, qc, rfl⟩ := own_shape hown; have HO := Lib.hid hown; have HN3 := Lib.hid (one_new_cell w2 (.int .i64 b) 3); clear hown hgrow) | (at_builtin; refine wpList_append_own _ rfl _ _ 33 rfl w1.heap.size 3 i0 (.int .i64 0) 1 8 Try.underlying33 hi hz0 hz1 hz2 rfl (by decide) _ 1 _ rfl (HO.out.alloc _) ⟨w2.heap.size, 0, none⟩ 1 1 [.int .i64 b] rfl rfl HN3.out (by simp [Value.oneCell']) (by unfold maxLen; omega) (by omega) (by simp; omega) ?_; intro v' w3 hown3 hgrow _))
        have hb3 : Below w1.heap.size w1 w3 := (hb2.alloc hb2.size _).grown hgrow (by simp; omega) (fun k hk => (HO.out.lt k hk).1)
        go_ret
        exact ⟨_, rfl, by rw [HE.out]; exact reads_of_own (l := [a, b]) (by simpa using hown3) rfl, (by repeat (first | (with_reducible exact Below.refl _ _) | (with_reducible refine bw_set ?_ ?_ _) | (with_reducible apply bw_alloc) | (with_reducible refine bw_tr ?_ (by with_reducible assumption)) | (with_reducible apply bw_drew) | omega))⟩
end Go.Proofs.Ytefebnicclbhjaa
