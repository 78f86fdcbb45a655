/-
  The contracts of headstockref03.Label, Number, label, size. The contract of headstockref03.Right: any item (printed by gen_ref03right.py). The contract of headstockref03.places; ints and instructions appended to rows of the call's own. The contract of headstockref03.laid.
-/
import Derived.Test.YtfepdieeiplbnaaLabC
import Derived.LoopN
import Derived.Test.YtfepdieeiplbnaaRef2A
import Derived.Test.YtfepdieeiplbnaaFit03A
import Derived.Test.YtfepdieeiplbnaaQuietU
namespace Go.Proofs.Ytfepdieeiplbnaa
open Go.RowKit
set_option linter.unusedSimpArgs false
set_option maxHeartbeats 4000000 in
theorem r3_isLabel (s : ByteArray) (w : World) (hs : s.size ≤ maxLen) :
    Calls Try.prog 41 #[.string s] w fun e w' => e = .returned (.bool (labelB s)) ∧ w = w' := by
  obtain ⟨res, hres⟩ : ∃ r, labelB s = r := ⟨_, rfl⟩
  rw [hres]
  have HRES := Lib.hid hres; clear hres
  have hsz : s.data.size = s.size := rfl
  unfold maxLen at hs
  go_enter Try.func41, Try.ntmps41
  go_wp2_with fail
  go_loopw [3] (fun i wr => ∃ j : Nat, j ≤ s.size ∧ i = .int .i64 j ∧ (∀ k, (hk : k < s.data.size) → k < j → goodB s.data[k] = true) ∧ w = wr) (fun i _ => s.size - (intOf i).toNat)
  case atStart => exact ⟨0, by omega, rfl, fun k _ h => absurd h (by omega), rfl⟩
  case round =>
    obtain ⟨j, hj, rfl, hg, rfl⟩ := hrel
    have HG := Lib.hid hg
    clear hg
    by_cases hlt : j < s.size
    · have hlt' : j < s.data.size := hlt
      obtain ⟨b, hb⟩ : ∃ b, s.data[j] = b := ⟨_, rfl⟩
      have hbs : s[j]'hlt = b := hb
      cases hgd : goodB b
      · have HBAD := Lib.hid (label_bad j hlt' (by rw [hb]; exact hgd))
        have hor : (decide (((s[j]'hlt).toNat : Int) < 33) = true) ∨ (decide (((s[j]'hlt).toNat : Int) < 33) = false ∧ decide (126 < ((s[j]'hlt).toNat : Int)) = true) := by
          rw [hbs]; unfold goodB at hgd
          simp at hgd ⊢
          omega
        clear hgd hb hbs
        rcases hor with h1 | ⟨h1, h2⟩
        · go_wp2_with fail
          go_ret
          exact ⟨ret1b (HBAD.out.symm.trans HRES.out), rfl⟩
        · go_wp2_with fail
          go_ret
          exact ⟨ret1b (HBAD.out.symm.trans HRES.out), rfl⟩
      · have h1 : decide (((s[j]'hlt).toNat : Int) < 33) = false := by rw [hbs]; unfold goodB at hgd; simp at hgd ⊢; omega
        have h2 : decide (126 < ((s[j]'hlt).toNat : Int)) = false := by rw [hbs]; unfold goodB at hgd; simp at hgd ⊢; omega
        have HNX : Hid (∀ k, (hk : k < s.data.size) → k < j + 1 → goodB s.data[k] = true) := Lib.hid (fun k hk h => by
          by_cases e : k = j
          · subst e; rw [hb]; exact hgd
          · exact HG.out k hk (by omega))
        clear hgd hb hbs
        go_wp2_with fail
        exact ⟨⟨j + 1, by omega, by go_num, HNX.out, trivial⟩, by simp [intOf]; omega⟩
    · obtain rfl : j = s.size := by omega
      have HL := Lib.hid ((label_good (fun k hk => HG.out k hk hk)).symm.trans HRES.out)
      have he0 : s.data.toList.isEmpty = !decide (1 ≤ s.size) := by
        rw [← hsz]
        cases h : s.data.toList with
        | nil => have : s.data.size = 0 := by rw [← Array.length_toList, h]; rfl
                 rw [this]; rfl
        | cons a t => have : s.data.size = t.length + 1 := by rw [← Array.length_toList, h]; rfl
                      rw [this]; simp
      have hd' : decide ((s.size : Int) ≤ 40) = decide (s.size ≤ 40) := decide_eq_decide.2 (by omega)
      have he' : decide ((1 : Int) ≤ (s.size : Int)) = decide (1 ≤ s.size) := decide_eq_decide.2 (by omega)
      rw [he0] at HL
      cases he : decide (1 ≤ s.size) <;> cases hd : decide (s.size ≤ 40)
      all_goals
        rw [he, hd] at HL
        rw [he] at he'
        rw [hd] at hd'
        clear he hd HG hlt he0
        go_wp2_with fail
        go_ret
        exact ⟨ret1b HL.out, rfl⟩
set_option maxHeartbeats 4000000 in
theorem r3_number (d n : Int) (w : World) (hn : I64 n) : Calls Try.prog 22 #[.int .i64 d, .int .i64 n] w (LabPost d n w) := by
  by_cases h1 : 1 ≤ d ∧ d < 32 ∧ wrap32 n = n
  · obtain ⟨a1, a2, a3⟩ := h1
    have b1 : -2147483648 ≤ n ∧ n ≤ 2147483647 := by rw [← a3]; exact w32_bd n
    by_cases h2 : -2048 ≤ n ∧ n ≤ 2047
    · have E : Hid (labL d n = [⟨13, d, 0, 0, n⟩]) := Lib.hid (by unfold labL; rw [if_pos ⟨a1, a2, a3⟩, if_pos h2])
      obtain ⟨c1, c2⟩ := h2
      clear a3 hn
      go_enter Try.func22, Try.ntmps22
      go_wp2_with fail
      go_ret
      refine ⟨(by repeat (first | (with_reducible exact Below.refl _ _) | (with_reducible refine bw_set ?_ ?_ _) | (with_reducible apply bw_alloc) | (with_reducible refine bw_tr ?_ (by with_reducible assumption)) | (with_reducible apply bw_drew) | omega)), .inr ⟨by rw [E.out]; simp, w.heap.size, ?_, ?_, Nat.le_refl _⟩⟩
      · rw [E.out]; rfl
      · rw [E.out]; exact new_in w _
    · have E : Hid (labL d n = [⟨1, d, 0, 0, hiN n⟩, ⟨13, d, d, 0, loN n⟩]) := Lib.hid (by unfold labL; rw [if_pos ⟨a1, a2, a3⟩, if_neg h2])
      clear a3 hn
      obtain ⟨m, hm⟩ : ∃ m, (n + 4294967296) % 4096 = m := ⟨_, rfl⟩
      have s0 : IntKind.i64.wrap (n + 4294967296) = n + 4294967296 := IntWalk.i64_in _ (by omega)
      have s1 : (n + 4294967296).tmod 4096 = m := by rw [Int.tmod_eq_emod_of_nonneg (by omega)]; exact hm
      have mb : 0 ≤ m ∧ m < 4096 := by omega
      obtain ⟨M, hM⟩ : ∃ M, (if 2047 < m then m - 4096 else m) = M := ⟨_, rfl⟩
      have HM : Hid (M = loN n) := Lib.hid (by unfold loN; split at hM <;> omega)
      have HH : Hid ((n - M + 8589934592).tdiv 4096 = (n - M + 8589934592) / 4096 ∧ ((n - M + 8589934592) / 4096).tmod 1048576 = hiN n) := Lib.hid (by
        have : M = loN n := HM.out
        have := lo_bd n
        refine ⟨Int.tdiv_eq_ediv_of_nonneg (by omega), ?_⟩
        rw [Int.tmod_eq_emod_of_nonneg (by omega)]
        unfold hiN
        rw [← HM.out]
        have : 4096 ∣ n - M := by rw [HM.out]; unfold loN; omega
        omega)
      obtain ⟨hh1, hh2⟩ := HH.out
      have s2 : IntKind.i64.wrap (n - M) = n - M := IntWalk.i64_in _ (by split at hM <;> omega)
      have s3 : IntKind.i64.wrap (n - M + 8589934592) = n - M + 8589934592 := IntWalk.i64_in _ (by split at hM <;> omega)
      obtain ⟨hz, hhz⟩ : ∃ z, (n - M + 8589934592) / 4096 = z := ⟨_, rfl⟩
      rw [hhz] at hh1 hh2
      have H5 : Hid (wrap64 hz = hz) := Lib.hid (by unfold wrap64; split at hM <;> omega)
      clear hm hhz HH
      by_cases h5 : 2047 < m
      · have s4 : IntKind.i64.wrap (m - 4096) = M := by rw [if_pos h5] at hM; rw [← hM]; exact IntWalk.i64_in _ (by omega)
        clear hM
        by_cases h3 : -2048 ≤ n
        · have h4 : ¬ n ≤ 2047 := by omega
          clear h2
          go_enter Try.func22, Try.ntmps22
          go_wp2_with fail
          go_ret
          refine ⟨(by repeat (first | (with_reducible exact Below.refl _ _) | (with_reducible refine bw_set ?_ ?_ _) | (with_reducible apply bw_alloc) | (with_reducible refine bw_tr ?_ (by with_reducible assumption)) | (with_reducible apply bw_drew) | omega)), .inr ⟨by rw [E.out]; simp, w.heap.size, ?_, ?_, Nat.le_refl _⟩⟩
          · rw [E.out]; rfl
          · rw [E.out, ← HM.out, ← hh2, H5.out]; exact new_in w _
        · clear h2
          go_enter Try.func22, Try.ntmps22
          go_wp2_with fail
          go_ret
          refine ⟨(by repeat (first | (with_reducible exact Below.refl _ _) | (with_reducible refine bw_set ?_ ?_ _) | (with_reducible apply bw_alloc) | (with_reducible refine bw_tr ?_ (by with_reducible assumption)) | (with_reducible apply bw_drew) | omega)), .inr ⟨by rw [E.out]; simp, w.heap.size, ?_, ?_, Nat.le_refl _⟩⟩
          · rw [E.out]; rfl
          · rw [E.out, ← HM.out, ← hh2, H5.out]; exact new_in w _
      · obtain rfl : m = M := by rw [if_neg h5] at hM; exact hM
        clear hM
        by_cases h3 : -2048 ≤ n
        · have h4 : ¬ n ≤ 2047 := by omega
          clear h2
          go_enter Try.func22, Try.ntmps22
          go_wp2_with fail
          go_ret
          refine ⟨(by repeat (first | (with_reducible exact Below.refl _ _) | (with_reducible refine bw_set ?_ ?_ _) | (with_reducible apply bw_alloc) | (with_reducible refine bw_tr ?_ (by with_reducible assumption)) | (with_reducible apply bw_drew) | omega)), .inr ⟨by rw [E.out]; simp, w.heap.size, ?_, ?_, Nat.le_refl _⟩⟩
          · rw [E.out]; rfl
          · rw [E.out, ← HM.out, ← hh2, H5.out]; exact new_in w _
        · clear h2
          go_enter Try.func22, Try.ntmps22
          go_wp2_with fail
          go_ret
          refine ⟨(by repeat (first | (with_reducible exact Below.refl _ _) | (with_reducible refine bw_set ?_ ?_ _) | (with_reducible apply bw_alloc) | (with_reducible refine bw_tr ?_ (by with_reducible assumption)) | (with_reducible apply bw_drew) | omega)), .inr ⟨by rw [E.out]; simp, w.heap.size, ?_, ?_, Nat.le_refl _⟩⟩
          · rw [E.out]; rfl
          · rw [E.out, ← HM.out, ← hh2, H5.out]; exact new_in w _
  · have E : labL d n = [] := by unfold labL; rw [if_neg h1]
    have HE := Lib.hid E; clear E
    by_cases k1 : d < 1
    · clear h1
      go_enter Try.func22, Try.ntmps22
      go_wp2_with fail
      go_ret
      exact ⟨(by repeat (first | (with_reducible exact Below.refl _ _) | (with_reducible refine bw_set ?_ ?_ _) | (with_reducible apply bw_alloc) | (with_reducible refine bw_tr ?_ (by with_reducible assumption)) | (with_reducible apply bw_drew) | omega)), .inl ⟨HE.out, rfl⟩⟩
    by_cases k2 : 31 < d
    · clear h1
      go_enter Try.func22, Try.ntmps22
      go_wp2_with fail
      go_ret
      exact ⟨(by repeat (first | (with_reducible exact Below.refl _ _) | (with_reducible refine bw_set ?_ ?_ _) | (with_reducible apply bw_alloc) | (with_reducible refine bw_tr ?_ (by with_reducible assumption)) | (with_reducible apply bw_drew) | omega)), .inl ⟨HE.out, rfl⟩⟩
    have k3 : ¬ wrap32 n = n := fun h => h1 ⟨by omega, by omega, h⟩
    have k4 : n < -2147483648 ∨ 2147483648 ≤ n := by unfold wrap32 at k3; omega
    clear h1 k3 hn
    by_cases k5 : n < -2147483648
    · clear k4
      go_enter Try.func22, Try.ntmps22
      go_wp2_with fail
      go_ret
      exact ⟨(by repeat (first | (with_reducible exact Below.refl _ _) | (with_reducible refine bw_set ?_ ?_ _) | (with_reducible apply bw_alloc) | (with_reducible refine bw_tr ?_ (by with_reducible assumption)) | (with_reducible apply bw_drew) | omega)), .inl ⟨HE.out, rfl⟩⟩
    · have k6 : 2147483648 ≤ n := by omega
      clear k4
      go_enter Try.func22, Try.ntmps22
      go_wp2_with fail
      go_ret
      exact ⟨(by repeat (first | (with_reducible exact Below.refl _ _) | (with_reducible refine bw_set ?_ ?_ _) | (with_reducible apply bw_alloc) | (with_reducible refine bw_tr ?_ (by with_reducible assumption)) | (with_reducible apply bw_drew) | omega)), .inl ⟨HE.out, rfl⟩⟩
theorem r3_number_len (d n : Int) (w : World) (hn : I64 n) :
    Calls Try.prog 22 #[.int .i64 d, .int .i64 n] w fun e w' => ∃ a c, e = .returned (.slice a (labL d n).length c) ∧ Below w.heap.size w w' := by
  refine (r3_number d n w hn).mono ?_
  rintro e w' ⟨hb, h | ⟨_, B, h, _⟩⟩
  · exact ⟨none, 0, by rw [h.2, h.1]; rfl, hb⟩
  · exact ⟨_, _, h, hb⟩
set_option maxHeartbeats 4000000 in
theorem r3_size (x : Itm) (g : Bool) (w : World) (hN : I64 x.n) (z : Int) (hz : sizeZ x g = z) :
    Calls Try.prog 70 #[itV x, .bool g] w fun e w' => e = .returned (.int .i64 z) ∧ Below w.heap.size w w' := by
  obtain ⟨k, ⟨op, d, a, b, nn⟩, s, N⟩ := x
  have HZ := Lib.hid hz; clear hz
  unfold itV
  unfold sizeZ at HZ
  simp only at HZ hN ⊢
  by_cases h2 : k = 2
  · subst h2
    have E : Hid (0 = z) := Lib.hid (by rw [← HZ.out]; rfl)
    go_enter Try.func70, Try.ntmps70
    go_wp2_with fail
    go_ret
    exact ⟨iret E.out, (by repeat (first | (with_reducible exact Below.refl _ _) | (with_reducible refine bw_set ?_ ?_ _) | (with_reducible apply bw_alloc) | (with_reducible refine bw_tr ?_ (by with_reducible assumption)) | (with_reducible apply bw_drew) | omega))⟩
  have q2 : (k == 2) = false := by simpa using h2
  by_cases h5 : k = 5
  · subst h5
    have E : Hid (N = z) := Lib.hid (by rw [← HZ.out]; rfl)
    clear h2
    go_enter Try.func70, Try.ntmps70
    go_wp2_with fail
    go_ret
    exact ⟨iret E.out, (by repeat (first | (with_reducible exact Below.refl _ _) | (with_reducible refine bw_set ?_ ?_ _) | (with_reducible apply bw_alloc) | (with_reducible refine bw_tr ?_ (by with_reducible assumption)) | (with_reducible apply bw_drew) | omega))⟩
  have q5 : (k == 5) = false := by simpa using h5
  by_cases h4 : k = 4
  · subst h4
    have E : Hid (((labL d N).length : Int) = z) := Lib.hid (by rw [← HZ.out]; rfl)
    have HN := Lib.hid hN
    clear h2 h5
    go_enter Try.func70, Try.ntmps70
    go_wp2_with (go_at_call 22; ((with_reducible refine (r3_number_len d N _ HN.out).mono ?_); rintro e w1 ⟨a1, c1, rfl, hb1⟩))
    go_ret
    exact ⟨iret E.out, (by repeat (first | (with_reducible exact Below.refl _ _) | (with_reducible refine bw_set ?_ ?_ _) | (with_reducible apply bw_alloc) | (with_reducible refine bw_tr ?_ (by with_reducible assumption)) | (with_reducible apply bw_drew) | omega))⟩
  have q4 : (k == 4) = false := by simpa using h4
  have E : Hid ((if g then 2 else 1 : Int) = z) := Lib.hid (by rw [← HZ.out, if_neg h2, if_neg h5, if_neg h4])
  clear h2 h4 h5
  cases hLi : g
  all_goals
    rw [hLi] at E
    clear hLi
    go_enter Try.func70, Try.ntmps70
    go_wp2_with fail
    go_ret
    exact ⟨iret (by rw [← E.out]; rfl), (by repeat (first | (with_reducible exact Below.refl _ _) | (with_reducible refine bw_set ?_ ?_ _) | (with_reducible apply bw_alloc) | (with_reducible refine bw_tr ?_ (by with_reducible assumption)) | (with_reducible apply bw_drew) | omega))⟩
/-- The label's item, the first one of that name among the first k. -/
def fs (l : List Itm) : Nat → ByteArray → Option Nat
  | 0, _ => none
  | k + 1, s => match fs l k s with | some i => some i | none => if (it l k).kind = 2 ∧ (it l k).name = s then some k else none
theorem fs_stay {l : List Itm} {s : ByteArray} {i k n : Nat} (h : fs l k s = some i) (hk : k ≤ n) : fs l n s = some i := by
  induction n with
  | zero => rw [show k = 0 by omega] at h; cases h
  | succ n ih =>
    by_cases e : k = n + 1
    · rw [← e]; exact h
    · simp only [fs]; rw [ih (by omega)]
theorem fs_mp_none (l : List Itm) (s : ByteArray) (k : Nat) : fs l k s = none ↔ mp l k s = none := by
  induction k with
  | zero => simp [fs, mp]
  | succ k ih =>
    cases h : fs l k s with
    | some i =>
      have : mp l k s ≠ none := fun e => by rw [ih.2 e] at h; cases h
      simp only [fs, h, mp]
      split <;> simp [this]
    | none =>
      have := ih.1 h
      simp only [fs, h, mp]
      split <;> simp [this]
theorem fs_some {l : List Itm} {k j : Nat} {s : ByteArray} (h : fs l k s = some j) : j < k ∧ (it l j).kind = 2 ∧ (it l j).name = s := by
  induction k with
  | zero => cases h
  | succ k ih =>
    simp only [fs] at h
    cases hm : fs l k s with
    | some i =>
      rw [hm] at h
      injection h with h; subst h
      obtain ⟨a, b⟩ := ih hm
      exact ⟨by omega, b⟩
    | none =>
      rw [hm] at h
      simp only at h
      split at h
      · rename_i hc
        injection h with h; subst h
        exact ⟨by omega, hc⟩
      · cases h
theorem fs_ok {l : List Itm} {k : Nat} (h : okL l k = true) (s : ByteArray) : fs l k s = mp l k s := by
  cases hm : fs l k s with
  | none => exact ((fs_mp_none l s k).1 hm).symm
  | some j =>
    obtain ⟨a, b, c⟩ := fs_some hm
    rw [← c, labI_at h j a b]
/-- What headstockref03.label tells. -/
def fsI (l : List Itm) (s : ByteArray) : Int := match fs l l.length s with | some i => i | none => -1
theorem fsI_bd (l : List Itm) (s : ByteArray) : -1 ≤ fsI l s ∧ fsI l s < l.length := by
  unfold fsI
  cases h : fs l l.length s with
  | none => simp only; omega
  | some j => have := (fs_some h).1; simp only; omega
set_option maxHeartbeats 4000000 in
theorem r3_label (w0 w : World) (l : List Itm) (v : Value) (s : ByteArray) (HL : ArgS 8 itC w0 v l) (hb : Below w0.heap.size w0 w) (z : Int) (hz : fsI l s = z) :
    Calls Try.prog 35 #[v, .string s] w fun e w' => e = .returned (.int .i64 z) ∧ w = w' := by
  obtain ⟨a, c, rfl⟩ : ∃ a c, v = .slice a l.length c := by obtain ⟨a, c, hv, _⟩ := HL; exact ⟨a, c, hv⟩
  have hlen := (items_len HL).2
  have hlen : l.length ≤ 9223372036854775807 := by unfold maxLen at hlen; omega
  have H1 := Lib.hid HL; have HB := Lib.hid hb; have HZ := Lib.hid hz
  clear HL hb hz
  go_enter Try.func35, Try.ntmps35
  go_wp2_with fail
  go_loopw [5] (fun i wr => ∃ k : Nat, k ≤ l.length ∧ i = .int .i64 k ∧ fs l k s = none ∧ w = wr) (fun i _ => l.length - (intOf i).toNat)
  case atStart => exact ⟨0, Nat.zero_le _, rfl, rfl, rfl⟩
  case round =>
    obtain ⟨k, hk, rfl, hf, rfl⟩ := hrel
    have HF := Lib.hid hf; clear hf
    by_cases hlt : k < l.length
    · obtain ⟨b, o, rfl, hb0, hcells⟩ := items_at H1.out k hlt
      obtain ⟨c0, c1, c2, c3, c4, c5, c6, c7⟩ := eight_cells (fun j u hj => (HB.out.cell (p := ⟨b, o + k * 8 + j, none⟩) hb0).trans (hcells j u hj))
      clear hcells c1 c2 c3 c4 c5 c7
      have hsz := HB.out.size
      obtain ⟨kd, hkd⟩ : ∃ x, (it l k).kind = x := ⟨_, rfl⟩
      obtain ⟨t, ht⟩ : ∃ x, (it l k).name = x := ⟨_, rfl⟩
      rw [hkd] at c0
      rw [ht] at c6
      by_cases h2 : kd = 2
      · subst h2
        by_cases h3 : t = s
        · subst h3
          have HNX : Hid ((k : Int) = z) := Lib.hid (by
            have : fs l (k + 1) t = some k := by simp only [fs]; rw [HF.out]; simp only; rw [if_pos ⟨hkd, ht⟩]
            rw [← HZ.out]; unfold fsI; rw [fs_stay this (by omega)])
          clear hkd ht
          have q : (t.toList == t.toList) = true := by simp
          go_wp2_with fail
          go_ret
          exact ⟨iret HNX.out, rfl⟩
        · have HNX : Hid (fs l (k + 1) s = none) := Lib.hid (by simp only [fs]; rw [HF.out]; simp only; rw [if_neg (fun h => h3 (ht.symm.trans h.2))])
          have q : (t.toList == s.toList) = false := by rw [str_beq]; simpa using h3
          clear hkd ht h3
          go_wp2_with fail
          exact ⟨⟨k + 1, by omega, by go_num, HNX.out, trivial⟩, by simp [intOf]; omega⟩
      · have HNX : Hid (fs l (k + 1) s = none) := Lib.hid (by simp only [fs]; rw [HF.out]; simp only; rw [if_neg (fun h => h2 (hkd.symm.trans h.1))])
        have q : (kd == 2) = false := by simpa using h2
        clear hkd ht h2
        go_wp2_with fail
        exact ⟨⟨k + 1, by omega, by go_num, HNX.out, trivial⟩, by simp [intOf]; omega⟩
    · obtain rfl : k = l.length := by omega
      have HNX : Hid (-1 = z) := Lib.hid (by rw [← HZ.out]; unfold fsI; rw [HF.out])
      go_wp2_with fail
      go_ret
      exact ⟨iret HNX.out, rfl⟩
end Go.Proofs.Ytfepdieeiplbnaa
namespace Go.Proofs.Ytfepdieeiplbnaa
open Go.RowKit
set_option linter.unusedSimpArgs false
theorem r3_isLabel_lit (s : ByteArray) (r : Bool) (w : World) (hs : s.size ≤ maxLen) (hr : labelB s = r) :
    Calls Try.prog 41 #[.string s] w fun e w' => e = .returned (.bool r) ∧ w = w' := by subst hr; exact r3_isLabel s w hs
theorem isEmpty_s (s : ByteArray) : s.toList.isEmpty = decide (s = ⟨#[]⟩) := by
  rw [ByteArray.toList_eq, Bool.eq_iff_iff, decide_eq_true_iff]
  obtain ⟨⟨l⟩⟩ := s
  cases l <;> simp
theorem numB_ref (d n : Int) : numB d n = (decide (1 ≤ d) && (decide (d ≤ 31) && (decide (-2147483648 ≤ n) && decide (n < 2147483648)))) := by
  unfold numB
  rw [Bool.eq_iff_iff]
  simp only [Bool.and_eq_true, decide_eq_true_iff]
  unfold wrap32
  omega
theorem itmD (a b c d : Bool) (h : a = b) (h' : c = d) : (a && c) = (b && d) := by rw [h, h']
theorem rB_1 (i : Ins) (s : ByteArray) (N : Int) : itemB ⟨1, i, s, N⟩ = (rightB i && (decide (s = ⟨#[]⟩) && (N == 0))) := by
  unfold itemB
  simp only [if_true, Itm.mk.injEq, true_and]
  rw [Bool.eq_iff_iff]; simp
  exact ⟨fun ⟨⟨a, b⟩, c⟩ => ⟨c, a, b⟩, fun ⟨c, a, b⟩ => ⟨⟨a, b⟩, c⟩⟩
theorem rB_2 (i : Ins) (s : ByteArray) (N : Int) : itemB ⟨2, i, s, N⟩ = (decide (i = noI) && ((N == 0) && labelB s)) := by
  unfold itemB
  rw [Bool.eq_iff_iff]; simp
  exact and_assoc
theorem rB_3 (i : Ins) (s : ByteArray) (N : Int) : itemB ⟨3, i, s, N⟩ = (rightB i && ((i.n == 0) && (((i.op == 3) || (decide (5 ≤ i.op) && decide (i.op ≤ 10))) && ((N == 0) && labelB s)))) := by
  unfold itemB toB isBr
  rw [Bool.eq_iff_iff]; simp
  exact ⟨fun ⟨a, b, c, d, e⟩ => ⟨b, c, d.symm, a, e⟩, fun ⟨b, c, d, a, e⟩ => ⟨a, b, c, d.symm, e⟩⟩
theorem rB_4 (i : Ins) (s : ByteArray) (N : Int) : itemB ⟨4, i, s, N⟩ = (decide (i = ⟨0, i.d, 0, 0, 0⟩) && (decide (1 ≤ i.d) && (decide (i.d ≤ 31) && (decide (s = ⟨#[]⟩) && (decide (-2147483648 ≤ N) && decide (N < 2147483648)))))) := by
  unfold itemB
  rw [numB_ref, Bool.eq_iff_iff]; simp
  exact ⟨fun ⟨⟨a, b⟩, c, d, e, f⟩ => ⟨a, c, d, b, e, f⟩, fun ⟨a, c, d, b, e, f⟩ => ⟨⟨a, b⟩, c, d, e, f⟩⟩
theorem rB_5 (i : Ins) (s : ByteArray) (N : Int) : itemB ⟨5, i, s, N⟩ = (decide (i = noI) && (decide (s = ⟨#[]⟩) && (decide (0 ≤ N) && decide (N ≤ 4096)))) := by
  unfold itemB nopB
  rw [Bool.eq_iff_iff]; simp
  exact ⟨fun ⟨⟨a, b⟩, c⟩ => ⟨a, b, c⟩, fun ⟨a, b, c⟩ => ⟨⟨a, b⟩, c⟩⟩

set_option maxRecDepth 100000 in
set_option maxHeartbeats 8000000 in
theorem r3_right1 (op d a b n N : Int) (s : ByteArray) (w : World) (hs : s.size ≤ maxLen) (res : Bool) (hres : itemB ⟨1, ⟨op, d, a, b, n⟩, s, N⟩ = res) :
    Calls Try.prog 24 #[itV ⟨1, ⟨op, d, a, b, n⟩, s, N⟩] w fun e w' => e = .returned (.bool res) ∧ Below w.heap.size w w' := by
  have HR := Lib.hid hres; clear hres
  have HS := Lib.hid hs; clear hs
  rw [rB_1] at HR
  try simp only at HR
  obtain ⟨b0, h0⟩ : ∃ z, decide ((⟨op, d, a, b, n⟩ : Ins) = noI) = z := ⟨_, rfl⟩
  have q0 := eqI b0 ⟨op, d, a, b, n⟩ noI h0
  unfold noI at q0
  try simp only at q0
  unfold itV
  cases h1 : rightB ⟨op, d, a, b, n⟩
  · have HR1 := Lib.hid h1
    simp only [h1, Bool.true_and, Bool.false_and, Bool.and_true, Bool.and_false, Bool.true_or, Bool.false_or] at HR
    clear h0 h1
    go_enter Try.func24, Try.ntmps24
    go_wp2_with (first | (go_at_call 40; ((with_reducible refine (refRight_g op d a b n _ _ HR1.out).mono ?_); rintro e w1 ⟨rfl, hb1⟩; obtain ⟨c1, f1⟩ := bcell hb1; have z1 : w.heap.size < w1.heap.size := by (have := hb1.size; simp at this; omega))))
    go_ret
    exact ⟨ret1b HR.out, (by repeat (first | (with_reducible exact Below.refl _ _) | (with_reducible refine bw_set ?_ ?_ _) | (with_reducible apply bw_alloc) | (with_reducible refine bw_tr ?_ (by with_reducible assumption)) | (with_reducible apply bw_drew) | omega))⟩
  · cases h2 : decide (s = ⟨#[]⟩)
    · have HR1 := Lib.hid h1
      have hS := (isEmpty_s s).trans h2
      simp only [h1, h2, Bool.true_and, Bool.false_and, Bool.and_true, Bool.and_false, Bool.true_or, Bool.false_or] at HR
      clear h0 h1 h2
      go_enter Try.func24, Try.ntmps24
      go_wp2_with (first | (go_at_call 40; ((with_reducible refine (refRight_g op d a b n _ _ HR1.out).mono ?_); rintro e w1 ⟨rfl, hb1⟩; obtain ⟨c1, f1⟩ := bcell hb1; have z1 : w.heap.size < w1.heap.size := by (have := hb1.size; simp at this; omega))))
      go_ret
      exact ⟨ret1b HR.out, (by repeat (first | (with_reducible exact Below.refl _ _) | (with_reducible refine bw_set ?_ ?_ _) | (with_reducible apply bw_alloc) | (with_reducible refine bw_tr ?_ (by with_reducible assumption)) | (with_reducible apply bw_drew) | omega))⟩
    · cases h3 : (N == 0)
      · have HR1 := Lib.hid h1
        have hS := (isEmpty_s s).trans h2
        simp only [h1, h2, h3, Bool.true_and, Bool.false_and, Bool.and_true, Bool.and_false, Bool.true_or, Bool.false_or] at HR
        clear h0 h1 h2
        go_enter Try.func24, Try.ntmps24
        go_wp2_with (first | (go_at_call 40; ((with_reducible refine (refRight_g op d a b n _ _ HR1.out).mono ?_); rintro e w1 ⟨rfl, hb1⟩; obtain ⟨c1, f1⟩ := bcell hb1; have z1 : w.heap.size < w1.heap.size := by (have := hb1.size; simp at this; omega))))
        go_ret
        exact ⟨ret1b HR.out, (by repeat (first | (with_reducible exact Below.refl _ _) | (with_reducible refine bw_set ?_ ?_ _) | (with_reducible apply bw_alloc) | (with_reducible refine bw_tr ?_ (by with_reducible assumption)) | (with_reducible apply bw_drew) | omega))⟩
      · have HR1 := Lib.hid h1
        have hS := (isEmpty_s s).trans h2
        simp only [h1, h2, h3, Bool.true_and, Bool.false_and, Bool.and_true, Bool.and_false, Bool.true_or, Bool.false_or] at HR
        clear h0 h1 h2
        go_enter Try.func24, Try.ntmps24
        go_wp2_with (first | (go_at_call 40; ((with_reducible refine (refRight_g op d a b n _ _ HR1.out).mono ?_); rintro e w1 ⟨rfl, hb1⟩; obtain ⟨c1, f1⟩ := bcell hb1; have z1 : w.heap.size < w1.heap.size := by (have := hb1.size; simp at this; omega))))
        go_ret
        exact ⟨ret1b HR.out, (by repeat (first | (with_reducible exact Below.refl _ _) | (with_reducible refine bw_set ?_ ?_ _) | (with_reducible apply bw_alloc) | (with_reducible refine bw_tr ?_ (by with_reducible assumption)) | (with_reducible apply bw_drew) | omega))⟩
set_option maxRecDepth 100000 in
set_option maxHeartbeats 8000000 in
theorem r3_right2 (op d a b n N : Int) (s : ByteArray) (w : World) (hs : s.size ≤ maxLen) (res : Bool) (hres : itemB ⟨2, ⟨op, d, a, b, n⟩, s, N⟩ = res) :
    Calls Try.prog 24 #[itV ⟨2, ⟨op, d, a, b, n⟩, s, N⟩] w fun e w' => e = .returned (.bool res) ∧ Below w.heap.size w w' := by
  have HR := Lib.hid hres; clear hres
  have HS := Lib.hid hs; clear hs
  rw [rB_2] at HR
  try simp only at HR
  obtain ⟨b0, h0⟩ : ∃ z, decide ((⟨op, d, a, b, n⟩ : Ins) = noI) = z := ⟨_, rfl⟩
  have q0 := eqI b0 ⟨op, d, a, b, n⟩ noI h0
  unfold noI at q0
  try simp only at q0
  unfold itV
  cases b0
  · simp only [h0, Bool.true_and, Bool.false_and, Bool.and_true, Bool.and_false, Bool.true_or, Bool.false_or] at HR
    clear h0
    go_enter Try.func24, Try.ntmps24
    go_wp2_with (fail)
    go_ret
    exact ⟨ret1b HR.out, (by repeat (first | (with_reducible exact Below.refl _ _) | (with_reducible refine bw_set ?_ ?_ _) | (with_reducible apply bw_alloc) | (with_reducible refine bw_tr ?_ (by with_reducible assumption)) | (with_reducible apply bw_drew) | omega))⟩
  · cases h3 : (N == 0)
    · simp only [h3, h0, Bool.true_and, Bool.false_and, Bool.and_true, Bool.and_false, Bool.true_or, Bool.false_or] at HR
      clear h0
      go_enter Try.func24, Try.ntmps24
      go_wp2_with (fail)
      go_ret
      exact ⟨ret1b HR.out, (by repeat (first | (with_reducible exact Below.refl _ _) | (with_reducible refine bw_set ?_ ?_ _) | (with_reducible apply bw_alloc) | (with_reducible refine bw_tr ?_ (by with_reducible assumption)) | (with_reducible apply bw_drew) | omega))⟩
    · cases h5 : labelB s
      · have HL1 := Lib.hid h5
        simp only [h3, h5, h0, Bool.true_and, Bool.false_and, Bool.and_true, Bool.and_false, Bool.true_or, Bool.false_or] at HR
        clear h0 h5
        go_enter Try.func24, Try.ntmps24
        go_wp2_with (first | (go_at_call 41; ((with_reducible refine (r3_isLabel_lit s _ _ HS.out HL1.out).mono ?_); rintro e w3 ⟨rfl, rfl⟩)))
        go_ret
        exact ⟨ret1b HR.out, (by repeat (first | (with_reducible exact Below.refl _ _) | (with_reducible refine bw_set ?_ ?_ _) | (with_reducible apply bw_alloc) | (with_reducible refine bw_tr ?_ (by with_reducible assumption)) | (with_reducible apply bw_drew) | omega))⟩
      · have HL1 := Lib.hid h5
        simp only [h3, h5, h0, Bool.true_and, Bool.false_and, Bool.and_true, Bool.and_false, Bool.true_or, Bool.false_or] at HR
        clear h0 h5
        go_enter Try.func24, Try.ntmps24
        go_wp2_with (first | (go_at_call 41; ((with_reducible refine (r3_isLabel_lit s _ _ HS.out HL1.out).mono ?_); rintro e w3 ⟨rfl, rfl⟩)))
        go_ret
        exact ⟨ret1b HR.out, (by repeat (first | (with_reducible exact Below.refl _ _) | (with_reducible refine bw_set ?_ ?_ _) | (with_reducible apply bw_alloc) | (with_reducible refine bw_tr ?_ (by with_reducible assumption)) | (with_reducible apply bw_drew) | omega))⟩
set_option maxRecDepth 100000 in
set_option maxHeartbeats 8000000 in
theorem r3_right3 (op d a b n N : Int) (s : ByteArray) (w : World) (hs : s.size ≤ maxLen) (res : Bool) (hres : itemB ⟨3, ⟨op, d, a, b, n⟩, s, N⟩ = res) :
    Calls Try.prog 24 #[itV ⟨3, ⟨op, d, a, b, n⟩, s, N⟩] w fun e w' => e = .returned (.bool res) ∧ Below w.heap.size w w' := by
  have HR := Lib.hid hres; clear hres
  have HS := Lib.hid hs; clear hs
  rw [rB_3] at HR
  try simp only at HR
  obtain ⟨b0, h0⟩ : ∃ z, decide ((⟨op, d, a, b, n⟩ : Ins) = noI) = z := ⟨_, rfl⟩
  have q0 := eqI b0 ⟨op, d, a, b, n⟩ noI h0
  unfold noI at q0
  try simp only at q0
  unfold itV
  cases h1 : rightB ⟨op, d, a, b, n⟩
  · have HR1 := Lib.hid h1
    simp only [h1, Bool.true_and, Bool.false_and, Bool.and_true, Bool.and_false, Bool.true_or, Bool.false_or] at HR
    clear h0 h1
    go_enter Try.func24, Try.ntmps24
    go_wp2_with (first | (go_at_call 40; ((with_reducible refine (refRight_g op d a b n _ _ HR1.out).mono ?_); rintro e w1 ⟨rfl, hb1⟩; obtain ⟨c1, f1⟩ := bcell hb1; have z1 : w.heap.size < w1.heap.size := by (have := hb1.size; simp at this; omega))))
    go_ret
    exact ⟨ret1b HR.out, (by repeat (first | (with_reducible exact Below.refl _ _) | (with_reducible refine bw_set ?_ ?_ _) | (with_reducible apply bw_alloc) | (with_reducible refine bw_tr ?_ (by with_reducible assumption)) | (with_reducible apply bw_drew) | omega))⟩
  · cases h4 : (n == 0)
    · have HR1 := Lib.hid h1
      simp only [h1, h4, Bool.true_and, Bool.false_and, Bool.and_true, Bool.and_false, Bool.true_or, Bool.false_or] at HR
      clear h0 h1
      go_enter Try.func24, Try.ntmps24
      go_wp2_with (first | (go_at_call 40; ((with_reducible refine (refRight_g op d a b n _ _ HR1.out).mono ?_); rintro e w1 ⟨rfl, hb1⟩; obtain ⟨c1, f1⟩ := bcell hb1; have z1 : w.heap.size < w1.heap.size := by (have := hb1.size; simp at this; omega))))
      go_ret
      exact ⟨ret1b HR.out, (by repeat (first | (with_reducible exact Below.refl _ _) | (with_reducible refine bw_set ?_ ?_ _) | (with_reducible apply bw_alloc) | (with_reducible refine bw_tr ?_ (by with_reducible assumption)) | (with_reducible apply bw_drew) | omega))⟩
    · cases h6 : (op == 3)
      · cases h7 : decide (5 ≤ op)
        · have HR1 := Lib.hid h1
          simp only [h1, h4, h6, h7, Bool.true_and, Bool.false_and, Bool.and_true, Bool.and_false, Bool.true_or, Bool.false_or] at HR
          clear h0 h1
          go_enter Try.func24, Try.ntmps24
          go_wp2_with (first | (go_at_call 40; ((with_reducible refine (refRight_g op d a b n _ _ HR1.out).mono ?_); rintro e w1 ⟨rfl, hb1⟩; obtain ⟨c1, f1⟩ := bcell hb1; have z1 : w.heap.size < w1.heap.size := by (have := hb1.size; simp at this; omega))))
          go_ret
          exact ⟨ret1b HR.out, (by repeat (first | (with_reducible exact Below.refl _ _) | (with_reducible refine bw_set ?_ ?_ _) | (with_reducible apply bw_alloc) | (with_reducible refine bw_tr ?_ (by with_reducible assumption)) | (with_reducible apply bw_drew) | omega))⟩
        · cases h8 : decide (op ≤ 10)
          · have HR1 := Lib.hid h1
            simp only [h1, h4, h6, h7, h8, Bool.true_and, Bool.false_and, Bool.and_true, Bool.and_false, Bool.true_or, Bool.false_or] at HR
            clear h0 h1
            go_enter Try.func24, Try.ntmps24
            go_wp2_with (first | (go_at_call 40; ((with_reducible refine (refRight_g op d a b n _ _ HR1.out).mono ?_); rintro e w1 ⟨rfl, hb1⟩; obtain ⟨c1, f1⟩ := bcell hb1; have z1 : w.heap.size < w1.heap.size := by (have := hb1.size; simp at this; omega))))
            go_ret
            exact ⟨ret1b HR.out, (by repeat (first | (with_reducible exact Below.refl _ _) | (with_reducible refine bw_set ?_ ?_ _) | (with_reducible apply bw_alloc) | (with_reducible refine bw_tr ?_ (by with_reducible assumption)) | (with_reducible apply bw_drew) | omega))⟩
          · cases h3 : (N == 0)
            · have HR1 := Lib.hid h1
              simp only [h1, h4, h6, h7, h8, h3, Bool.true_and, Bool.false_and, Bool.and_true, Bool.and_false, Bool.true_or, Bool.false_or] at HR
              clear h0 h1
              go_enter Try.func24, Try.ntmps24
              go_wp2_with (first | (go_at_call 40; ((with_reducible refine (refRight_g op d a b n _ _ HR1.out).mono ?_); rintro e w1 ⟨rfl, hb1⟩; obtain ⟨c1, f1⟩ := bcell hb1; have z1 : w.heap.size < w1.heap.size := by (have := hb1.size; simp at this; omega))))
              go_ret
              exact ⟨ret1b HR.out, (by repeat (first | (with_reducible exact Below.refl _ _) | (with_reducible refine bw_set ?_ ?_ _) | (with_reducible apply bw_alloc) | (with_reducible refine bw_tr ?_ (by with_reducible assumption)) | (with_reducible apply bw_drew) | omega))⟩
            · cases h5 : labelB s
              · have HR1 := Lib.hid h1
                have HL1 := Lib.hid h5
                simp only [h1, h4, h6, h7, h8, h3, h5, Bool.true_and, Bool.false_and, Bool.and_true, Bool.and_false, Bool.true_or, Bool.false_or] at HR
                clear h0 h1 h5
                go_enter Try.func24, Try.ntmps24
                go_wp2_with (first | (go_at_call 40; ((with_reducible refine (refRight_g op d a b n _ _ HR1.out).mono ?_); rintro e w1 ⟨rfl, hb1⟩; obtain ⟨c1, f1⟩ := bcell hb1; have z1 : w.heap.size < w1.heap.size := by (have := hb1.size; simp at this; omega))) | (go_at_call 41; ((with_reducible refine (r3_isLabel_lit s _ _ HS.out HL1.out).mono ?_); rintro e w3 ⟨rfl, rfl⟩)))
                go_ret
                exact ⟨ret1b HR.out, (by repeat (first | (with_reducible exact Below.refl _ _) | (with_reducible refine bw_set ?_ ?_ _) | (with_reducible apply bw_alloc) | (with_reducible refine bw_tr ?_ (by with_reducible assumption)) | (with_reducible apply bw_drew) | omega))⟩
              · have HR1 := Lib.hid h1
                have HL1 := Lib.hid h5
                simp only [h1, h4, h6, h7, h8, h3, h5, Bool.true_and, Bool.false_and, Bool.and_true, Bool.and_false, Bool.true_or, Bool.false_or] at HR
                clear h0 h1 h5
                go_enter Try.func24, Try.ntmps24
                go_wp2_with (first | (go_at_call 40; ((with_reducible refine (refRight_g op d a b n _ _ HR1.out).mono ?_); rintro e w1 ⟨rfl, hb1⟩; obtain ⟨c1, f1⟩ := bcell hb1; have z1 : w.heap.size < w1.heap.size := by (have := hb1.size; simp at this; omega))) | (go_at_call 41; ((with_reducible refine (r3_isLabel_lit s _ _ HS.out HL1.out).mono ?_); rintro e w3 ⟨rfl, rfl⟩)))
                go_ret
                exact ⟨ret1b HR.out, (by repeat (first | (with_reducible exact Below.refl _ _) | (with_reducible refine bw_set ?_ ?_ _) | (with_reducible apply bw_alloc) | (with_reducible refine bw_tr ?_ (by with_reducible assumption)) | (with_reducible apply bw_drew) | omega))⟩
      · cases h3 : (N == 0)
        · have HR1 := Lib.hid h1
          simp only [h1, h4, h6, h3, Bool.true_and, Bool.false_and, Bool.and_true, Bool.and_false, Bool.true_or, Bool.false_or] at HR
          clear h0 h1
          go_enter Try.func24, Try.ntmps24
          go_wp2_with (first | (go_at_call 40; ((with_reducible refine (refRight_g op d a b n _ _ HR1.out).mono ?_); rintro e w1 ⟨rfl, hb1⟩; obtain ⟨c1, f1⟩ := bcell hb1; have z1 : w.heap.size < w1.heap.size := by (have := hb1.size; simp at this; omega))))
          go_ret
          exact ⟨ret1b HR.out, (by repeat (first | (with_reducible exact Below.refl _ _) | (with_reducible refine bw_set ?_ ?_ _) | (with_reducible apply bw_alloc) | (with_reducible refine bw_tr ?_ (by with_reducible assumption)) | (with_reducible apply bw_drew) | omega))⟩
        · cases h5 : labelB s
          · have HR1 := Lib.hid h1
            have HL1 := Lib.hid h5
            simp only [h1, h4, h6, h3, h5, Bool.true_and, Bool.false_and, Bool.and_true, Bool.and_false, Bool.true_or, Bool.false_or] at HR
            clear h0 h1 h5
            go_enter Try.func24, Try.ntmps24
            go_wp2_with (first | (go_at_call 40; ((with_reducible refine (refRight_g op d a b n _ _ HR1.out).mono ?_); rintro e w1 ⟨rfl, hb1⟩; obtain ⟨c1, f1⟩ := bcell hb1; have z1 : w.heap.size < w1.heap.size := by (have := hb1.size; simp at this; omega))) | (go_at_call 41; ((with_reducible refine (r3_isLabel_lit s _ _ HS.out HL1.out).mono ?_); rintro e w3 ⟨rfl, rfl⟩)))
            go_ret
            exact ⟨ret1b HR.out, (by repeat (first | (with_reducible exact Below.refl _ _) | (with_reducible refine bw_set ?_ ?_ _) | (with_reducible apply bw_alloc) | (with_reducible refine bw_tr ?_ (by with_reducible assumption)) | (with_reducible apply bw_drew) | omega))⟩
          · have HR1 := Lib.hid h1
            have HL1 := Lib.hid h5
            simp only [h1, h4, h6, h3, h5, Bool.true_and, Bool.false_and, Bool.and_true, Bool.and_false, Bool.true_or, Bool.false_or] at HR
            clear h0 h1 h5
            go_enter Try.func24, Try.ntmps24
            go_wp2_with (first | (go_at_call 40; ((with_reducible refine (refRight_g op d a b n _ _ HR1.out).mono ?_); rintro e w1 ⟨rfl, hb1⟩; obtain ⟨c1, f1⟩ := bcell hb1; have z1 : w.heap.size < w1.heap.size := by (have := hb1.size; simp at this; omega))) | (go_at_call 41; ((with_reducible refine (r3_isLabel_lit s _ _ HS.out HL1.out).mono ?_); rintro e w3 ⟨rfl, rfl⟩)))
            go_ret
            exact ⟨ret1b HR.out, (by repeat (first | (with_reducible exact Below.refl _ _) | (with_reducible refine bw_set ?_ ?_ _) | (with_reducible apply bw_alloc) | (with_reducible refine bw_tr ?_ (by with_reducible assumption)) | (with_reducible apply bw_drew) | omega))⟩
set_option maxRecDepth 100000 in
set_option maxHeartbeats 8000000 in
theorem r3_right4 (op d a b n N : Int) (s : ByteArray) (w : World) (hs : s.size ≤ maxLen) (res : Bool) (hres : itemB ⟨4, ⟨op, d, a, b, n⟩, s, N⟩ = res) :
    Calls Try.prog 24 #[itV ⟨4, ⟨op, d, a, b, n⟩, s, N⟩] w fun e w' => e = .returned (.bool res) ∧ Below w.heap.size w w' := by
  have HR := Lib.hid hres; clear hres
  have HS := Lib.hid hs; clear hs
  rw [rB_4] at HR
  try simp only at HR
  obtain ⟨b0, h0⟩ : ∃ z, decide ((⟨op, d, a, b, n⟩ : Ins) = noI) = z := ⟨_, rfl⟩
  have q0 := eqI b0 ⟨op, d, a, b, n⟩ noI h0
  unfold noI at q0
  try simp only at q0
  unfold itV
  cases hf : decide ((⟨op, d, a, b, n⟩ : Ins) = ⟨0, d, 0, 0, 0⟩)
  · have q9 := eqI _ ⟨op, d, a, b, n⟩ ⟨0, d, 0, 0, 0⟩ hf
    try simp only at q9
    simp only [hf, Bool.true_and, Bool.false_and, Bool.and_true, Bool.and_false, Bool.true_or, Bool.false_or] at HR
    clear h0 hf
    go_enter Try.func24, Try.ntmps24
    go_wp2_with (fail)
    go_ret
    exact ⟨ret1b HR.out, (by repeat (first | (with_reducible exact Below.refl _ _) | (with_reducible refine bw_set ?_ ?_ _) | (with_reducible apply bw_alloc) | (with_reducible refine bw_tr ?_ (by with_reducible assumption)) | (with_reducible apply bw_drew) | omega))⟩
  · cases h9 : decide (1 ≤ d)
    · have q9 := eqI _ ⟨op, d, a, b, n⟩ ⟨0, d, 0, 0, 0⟩ hf
      try simp only at q9
      simp only [hf, h9, Bool.true_and, Bool.false_and, Bool.and_true, Bool.and_false, Bool.true_or, Bool.false_or] at HR
      clear h0 hf
      go_enter Try.func24, Try.ntmps24
      go_wp2_with (fail)
      go_ret
      exact ⟨ret1b HR.out, (by repeat (first | (with_reducible exact Below.refl _ _) | (with_reducible refine bw_set ?_ ?_ _) | (with_reducible apply bw_alloc) | (with_reducible refine bw_tr ?_ (by with_reducible assumption)) | (with_reducible apply bw_drew) | omega))⟩
    · cases ha : decide (d ≤ 31)
      · have q9 := eqI _ ⟨op, d, a, b, n⟩ ⟨0, d, 0, 0, 0⟩ hf
        try simp only at q9
        simp only [hf, h9, ha, Bool.true_and, Bool.false_and, Bool.and_true, Bool.and_false, Bool.true_or, Bool.false_or] at HR
        clear h0 hf
        go_enter Try.func24, Try.ntmps24
        go_wp2_with (fail)
        go_ret
        exact ⟨ret1b HR.out, (by repeat (first | (with_reducible exact Below.refl _ _) | (with_reducible refine bw_set ?_ ?_ _) | (with_reducible apply bw_alloc) | (with_reducible refine bw_tr ?_ (by with_reducible assumption)) | (with_reducible apply bw_drew) | omega))⟩
      · cases h2 : decide (s = ⟨#[]⟩)
        · have q9 := eqI _ ⟨op, d, a, b, n⟩ ⟨0, d, 0, 0, 0⟩ hf
          try simp only at q9
          have hS := (isEmpty_s s).trans h2
          simp only [hf, h9, ha, h2, Bool.true_and, Bool.false_and, Bool.and_true, Bool.and_false, Bool.true_or, Bool.false_or] at HR
          clear h0 hf h2
          go_enter Try.func24, Try.ntmps24
          go_wp2_with (fail)
          go_ret
          exact ⟨ret1b HR.out, (by repeat (first | (with_reducible exact Below.refl _ _) | (with_reducible refine bw_set ?_ ?_ _) | (with_reducible apply bw_alloc) | (with_reducible refine bw_tr ?_ (by with_reducible assumption)) | (with_reducible apply bw_drew) | omega))⟩
        · cases hb : decide (-2147483648 ≤ N)
          · have q9 := eqI _ ⟨op, d, a, b, n⟩ ⟨0, d, 0, 0, 0⟩ hf
            try simp only at q9
            have hS := (isEmpty_s s).trans h2
            simp only [hf, h9, ha, h2, hb, Bool.true_and, Bool.false_and, Bool.and_true, Bool.and_false, Bool.true_or, Bool.false_or] at HR
            clear h0 hf h2
            go_enter Try.func24, Try.ntmps24
            go_wp2_with (fail)
            go_ret
            exact ⟨ret1b HR.out, (by repeat (first | (with_reducible exact Below.refl _ _) | (with_reducible refine bw_set ?_ ?_ _) | (with_reducible apply bw_alloc) | (with_reducible refine bw_tr ?_ (by with_reducible assumption)) | (with_reducible apply bw_drew) | omega))⟩
          · cases hc : decide (N < 2147483648)
            · have q9 := eqI _ ⟨op, d, a, b, n⟩ ⟨0, d, 0, 0, 0⟩ hf
              try simp only at q9
              have hS := (isEmpty_s s).trans h2
              simp only [hf, h9, ha, h2, hb, hc, Bool.true_and, Bool.false_and, Bool.and_true, Bool.and_false, Bool.true_or, Bool.false_or] at HR
              clear h0 hf h2
              go_enter Try.func24, Try.ntmps24
              go_wp2_with (fail)
              go_ret
              exact ⟨ret1b HR.out, (by repeat (first | (with_reducible exact Below.refl _ _) | (with_reducible refine bw_set ?_ ?_ _) | (with_reducible apply bw_alloc) | (with_reducible refine bw_tr ?_ (by with_reducible assumption)) | (with_reducible apply bw_drew) | omega))⟩
            · have q9 := eqI _ ⟨op, d, a, b, n⟩ ⟨0, d, 0, 0, 0⟩ hf
              try simp only at q9
              have hS := (isEmpty_s s).trans h2
              simp only [hf, h9, ha, h2, hb, hc, Bool.true_and, Bool.false_and, Bool.and_true, Bool.and_false, Bool.true_or, Bool.false_or] at HR
              clear h0 hf h2
              go_enter Try.func24, Try.ntmps24
              go_wp2_with (fail)
              go_ret
              exact ⟨ret1b HR.out, (by repeat (first | (with_reducible exact Below.refl _ _) | (with_reducible refine bw_set ?_ ?_ _) | (with_reducible apply bw_alloc) | (with_reducible refine bw_tr ?_ (by with_reducible assumption)) | (with_reducible apply bw_drew) | omega))⟩
set_option maxRecDepth 100000 in
set_option maxHeartbeats 8000000 in
theorem r3_right5 (op d a b n N : Int) (s : ByteArray) (w : World) (hs : s.size ≤ maxLen) (res : Bool) (hres : itemB ⟨5, ⟨op, d, a, b, n⟩, s, N⟩ = res) :
    Calls Try.prog 24 #[itV ⟨5, ⟨op, d, a, b, n⟩, s, N⟩] w fun e w' => e = .returned (.bool res) ∧ Below w.heap.size w w' := by
  have HR := Lib.hid hres; clear hres
  have HS := Lib.hid hs; clear hs
  rw [rB_5] at HR
  try simp only at HR
  obtain ⟨b0, h0⟩ : ∃ z, decide ((⟨op, d, a, b, n⟩ : Ins) = noI) = z := ⟨_, rfl⟩
  have q0 := eqI b0 ⟨op, d, a, b, n⟩ noI h0
  unfold noI at q0
  try simp only at q0
  unfold itV
  cases b0
  · simp only [h0, Bool.true_and, Bool.false_and, Bool.and_true, Bool.and_false, Bool.true_or, Bool.false_or] at HR
    clear h0
    go_enter Try.func24, Try.ntmps24
    go_wp2_with (fail)
    go_ret
    exact ⟨ret1b HR.out, (by repeat (first | (with_reducible exact Below.refl _ _) | (with_reducible refine bw_set ?_ ?_ _) | (with_reducible apply bw_alloc) | (with_reducible refine bw_tr ?_ (by with_reducible assumption)) | (with_reducible apply bw_drew) | omega))⟩
  · cases h2 : decide (s = ⟨#[]⟩)
    · have hS := (isEmpty_s s).trans h2
      simp only [h2, h0, Bool.true_and, Bool.false_and, Bool.and_true, Bool.and_false, Bool.true_or, Bool.false_or] at HR
      clear h0 h2
      go_enter Try.func24, Try.ntmps24
      go_wp2_with (fail)
      go_ret
      exact ⟨ret1b HR.out, (by repeat (first | (with_reducible exact Below.refl _ _) | (with_reducible refine bw_set ?_ ?_ _) | (with_reducible apply bw_alloc) | (with_reducible refine bw_tr ?_ (by with_reducible assumption)) | (with_reducible apply bw_drew) | omega))⟩
    · cases hd : decide (0 ≤ N)
      · have hS := (isEmpty_s s).trans h2
        simp only [h2, hd, h0, Bool.true_and, Bool.false_and, Bool.and_true, Bool.and_false, Bool.true_or, Bool.false_or] at HR
        clear h0 h2
        go_enter Try.func24, Try.ntmps24
        go_wp2_with (fail)
        go_ret
        exact ⟨ret1b HR.out, (by repeat (first | (with_reducible exact Below.refl _ _) | (with_reducible refine bw_set ?_ ?_ _) | (with_reducible apply bw_alloc) | (with_reducible refine bw_tr ?_ (by with_reducible assumption)) | (with_reducible apply bw_drew) | omega))⟩
      · cases he : decide (N ≤ 4096)
        · have hS := (isEmpty_s s).trans h2
          simp only [h2, hd, he, h0, Bool.true_and, Bool.false_and, Bool.and_true, Bool.and_false, Bool.true_or, Bool.false_or] at HR
          clear h0 h2
          go_enter Try.func24, Try.ntmps24
          go_wp2_with (fail)
          go_ret
          exact ⟨ret1b HR.out, (by repeat (first | (with_reducible exact Below.refl _ _) | (with_reducible refine bw_set ?_ ?_ _) | (with_reducible apply bw_alloc) | (with_reducible refine bw_tr ?_ (by with_reducible assumption)) | (with_reducible apply bw_drew) | omega))⟩
        · have hS := (isEmpty_s s).trans h2
          simp only [h2, hd, he, h0, Bool.true_and, Bool.false_and, Bool.and_true, Bool.and_false, Bool.true_or, Bool.false_or] at HR
          clear h0 h2
          go_enter Try.func24, Try.ntmps24
          go_wp2_with (fail)
          go_ret
          exact ⟨ret1b HR.out, (by repeat (first | (with_reducible exact Below.refl _ _) | (with_reducible refine bw_set ?_ ?_ _) | (with_reducible apply bw_alloc) | (with_reducible refine bw_tr ?_ (by with_reducible assumption)) | (with_reducible apply bw_drew) | omega))⟩
set_option maxHeartbeats 4000000 in
theorem r3_right (x : Itm) (r : Bool) (w : World) (hs : x.name.size ≤ maxLen) (hr : itemB x = r) :
    Calls Try.prog 24 #[itV x] w fun e w' => e = .returned (.bool r) ∧ Below w.heap.size w w' := by
  obtain ⟨k, ⟨op, d, a, b, n⟩, s, N⟩ := x
  by_cases h1 : k = 1
  · subst h1; exact r3_right1 op d a b n N s w hs r hr
  by_cases h2 : k = 2
  · subst h2; exact r3_right2 op d a b n N s w hs r hr
  by_cases h3 : k = 3
  · subst h3; exact r3_right3 op d a b n N s w hs r hr
  by_cases h4 : k = 4
  · subst h4; exact r3_right4 op d a b n N s w hs r hr
  by_cases h5 : k = 5
  · subst h5; exact r3_right5 op d a b n N s w hs r hr
  have E : Hid (false = r) := Lib.hid (by rw [← hr]; unfold itemB; simp only; rw [if_neg h1, if_neg h2, if_neg h3, if_neg h4, if_neg h5])
  obtain ⟨b0, h0⟩ : ∃ z, decide ((⟨op, d, a, b, n⟩ : Ins) = noI) = z := ⟨_, rfl⟩
  have q0 := eqI b0 ⟨op, d, a, b, n⟩ noI h0
  unfold noI at q0
  try simp only at q0
  have q1 : (k == 1) = false := by simpa using h1
  have q2 : (k == 2) = false := by simpa using h2
  have q3 : (k == 3) = false := by simpa using h3
  have q4 : (k == 4) = false := by simpa using h4
  have q5 : (k == 5) = false := by simpa using h5
  clear h1 h2 h3 h4 h5 hr hs h0
  unfold itV
  go_enter Try.func24, Try.ntmps24
  go_wp2_with fail
  go_ret
  exact ⟨ret1b E.out, (by repeat (first | (with_reducible exact Below.refl _ _) | (with_reducible refine bw_set ?_ ?_ _) | (with_reducible apply bw_alloc) | (with_reducible refine bw_tr ?_ (by with_reducible assumption)) | (with_reducible apply bw_drew) | omega))⟩
end Go.Proofs.Ytfepdieeiplbnaa
namespace Go.Proofs.Ytfepdieeiplbnaa
open Go.RowKit
set_option linter.unusedSimpArgs false
def flatN (l : List Ins) : List Value := l.flatMap fun x => [Value.int .i64 x.op, .int .i64 x.d, .int .i64 x.a, .int .i64 x.b, .int .i64 x.n]
theorem flatN_snoc (l : List Ins) (x : Ins) : flatN l ++ [Value.int .i64 x.op, .int .i64 x.d, .int .i64 x.a, .int .i64 x.b, .int .i64 x.n] = flatN (l ++ [x]) := by simp [flatN]
theorem info_ins : (Try.prog.info? 24).map (fun i => (i.zero, i.size, i.bytes)) = some (some (.agg #[.int .i64 0, .int .i64 0, .int .i64 0, .int .i64 0, .int .i64 0]), 5, 40) := by kernel_rfl
theorem one5 (x : Ins) : ∀ u ∈ [Value.int .i64 x.op, .int .i64 x.d, .int .i64 x.a, .int .i64 x.b, .int .i64 x.n], u.oneCell' = true := by
  intro u hu
  simp at hu
  rcases hu with rfl | rfl | rfl | rfl | rfl <;> rfl
section
variable {w : World} {ops : Array Oper} {rest : List Oper} {o : Oper} {a : Act} {Q : Exit → Act → World → Prop}
theorem app_ins (hgd : o.guard = none) (s x : Operand) (ho : o.op = .call { callee := .builtin .append, args := #[s, x], argTypes := #[37, 37] })
    (base : Nat) (v : Value) (l : List Ins) (y : Ins) (n : Nat) (hn : l.length = n) (hs : a.eval s = v) (hown : w.ownsRow base 24 5 v n (flatN l)) (B : Nat) (hB : w.heap[B]? = some (.cells #[.int .i64 y.op, .int .i64 y.d, .int .i64 y.a, .int .i64 y.b, .int .i64 y.n] 24 (0, 0))) (hx : a.eval x = .slice (some ⟨B, 0, none⟩) 1 1)
    (hl : n ≤ 100000) (hbase : base ≤ w.heap.size)
    (h : ∀ g c w', w'.ownsRow base 24 5 (.slice g (n + 1) c) (n + 1) (flatN (l ++ [y])) → w.grownBy w' v.ownBlock → wpList Try.prog ops Q rest (a.put o.dst (.slice g (n + 1) c)) w') : wpList Try.prog ops Q (o :: rest) a w := by
  obtain ⟨i0, hi, hz0, hz1, hz2⟩ := info_parts info_ins
  refine wpList_append_own w hgd s x 37 ho base 24 i0 _ 5 40 Try.underlying37 hi hz0 hz1 hz2 rfl (by decide) v n (flatN l) hs hown ⟨B, 0, none⟩ 1 1 [Value.int .i64 y.op, .int .i64 y.d, .int .i64 y.a, .int .i64 y.b, .int .i64 y.n] hx rfl (fun j u hj => by
    rw [addr_add, Nat.zero_add]; exact cell_in hB (by simpa using hj)) (one5 y) (by unfold maxLen; omega) (by omega) hbase ?_
  intro v' w' hown' hg _
  obtain ⟨g, c, rfl⟩ := own_shape hown'
  refine h g c w' ?_ hg
  rw [← flatN_snoc]; exact hown'
theorem app_int (hgd : o.guard = none) (s x : Operand) (ho : o.op = .call { callee := .builtin .append, args := #[s, x], argTypes := #[31, 31] })
    (base : Nat) (v : Value) (l : List Int) (y : Int) (n : Nat) (hn : l.length = n) (hs : a.eval s = v) (hown : w.ownsRow base 3 1 v n (intsC l)) (B : Nat) (hB : w.heap[B]? = some (.cells #[.int .i64 y] 3 (0, 0))) (hx : a.eval x = .slice (some ⟨B, 0, none⟩) 1 1)
    (hl : n ≤ 1000000) (hbase : base ≤ w.heap.size)
    (h : ∀ g c w', w'.ownsRow base 3 1 (.slice g (n + 1) c) (n + 1) (intsC (l ++ [y])) → w.grownBy w' v.ownBlock → wpList Try.prog ops Q rest (a.put o.dst (.slice g (n + 1) c)) w') : wpList Try.prog ops Q (o :: rest) a w := by
  obtain ⟨i0, hi, hz0, hz1, hz2⟩ := info_parts info_int
  refine wpList_append_own w hgd s x 31 ho base 3 i0 _ 1 8 Try.underlying31 hi hz0 hz1 hz2 rfl (by decide) v n (intsC l) hs hown ⟨B, 0, none⟩ 1 1 [.int .i64 y] hx rfl (fun j u hj => by
    have : j = 0 := by have := (List.getElem?_eq_some_iff.1 hj).1; simp at this; exact this
    subst this
    simp at hj; subst hj
    rw [addr_add]; exact cell_in hB rfl) (by simp [Value.oneCell']) (by unfold maxLen; omega) (by omega) hbase ?_
  intro v' w' hown' hg _
  obtain ⟨g, c, rfl⟩ := own_shape hown'
  refine h g c w' ?_ hg
  have e : intsC (l ++ [y]) = intsC l ++ [.int .i64 y] := by simp [intsC]
  rw [e]; exact hown'
end
def plL (l : List Itm) (L : Nat → Bool) (n : Nat) : List Int := (List.range (n + 1)).map (pl l L)
theorem plL_len (l : List Itm) (L : Nat → Bool) (n : Nat) : (plL l L n).length = n + 1 := by simp [plL]
theorem plL_succ (l : List Itm) (L : Nat → Bool) (n : Nat) : plL l L (n + 1) = plL l L n ++ [pl l L (n + 1)] := by
  unfold plL
  rw [List.range_succ, List.map_append]
  rfl
theorem plL_get (l : List Itm) (L : Nat → Bool) {n j : Nat} (h : j ≤ n) : (intsC (plL l L n))[j]? = some (.int .i64 (pl l L j)) := by
  unfold intsC plL
  simp [show j < n + 1 by omega]
theorem own_cell {w : World} {base e g n cap : Nat} {xs : List Value} (h : w.ownsRow base e 1 (.slice (some ⟨g, 0, none⟩) n cap) n xs) {j : Nat} {u : Value} (hj : xs[j]? = some u) : w.cell? ⟨g, j, none⟩ = some u := by
  have := h.cells (g := g) rfl j u hj
  rwa [addr_add, Nat.zero_add] at this
theorem own_some {w : World} {base e k n : Nat} {v : Value} {xs : List Value} (h : w.ownsRow base e k v (n + 1) xs) : ∃ g cap, v = .slice (some ⟨g, 0, none⟩) (n + 1) cap ∧ base ≤ g ∧ g < w.heap.size ∧ n + 1 ≤ cap ∧ cap ≤ maxLen := by
  rcases h.2 with ⟨_, h0⟩ | ⟨g, cap, cur, rfl, hb, hg, h1, h2, _⟩
  · omega
  · exact ⟨g, cap, rfl, hb, lt_in hg, h1, h2⟩
/-- A slice of bools that is read: which items are long. -/
def LongAt (w : World) (v : Value) (n : Nat) (L : Nat → Bool) : Prop :=
  ∃ a c, v = .slice a n c ∧ n ≤ c ∧ c ≤ maxLen ∧ (n = 0 ∨ ∃ B, a = some ⟨B, 0, none⟩ ∧ B < w.heap.size ∧ ∀ j, j < n → w.cell? ⟨B, j, none⟩ = some (.bool (L j)))
set_option maxRecDepth 100000 in
set_option maxHeartbeats 8000000 in
theorem r3_places {L : Nat → Bool} (w0 w : World) (l : List Itm) (v vl : Value) (HL : ArgS 8 itC w0 v l) (HO : ItsOK l) (HA : allB l) (HB0 : Below w0.heap.size w0 w) (HG : LongAt w vl l.length L) :
    Calls Try.prog 55 #[v, vl] w fun e w' => ∃ v', e = .returned v' ∧ w'.ownsRow w.heap.size 3 1 v' (l.length + 1) (intsC (plL l L l.length)) ∧ Below w.heap.size w w' := by
  obtain ⟨a, c, rfl⟩ : ∃ a c, v = .slice a l.length c := by obtain ⟨a, c, hv, _⟩ := HL; exact ⟨a, c, hv⟩
  obtain ⟨aG, cG, rfl, g1, g2, g3⟩ := HG
  have hlen := HO.len
  have H1 := Lib.hid HL; have H2 := Lib.hid HO; have H3 := Lib.hid HA; have H4 := Lib.hid HB0; have H5 := Lib.hid g3
  have hsz0 := HB0.size
  clear HL HO HA g3 HB0
  go_enter Try.func55, Try.ntmps55
  go_wp2_with fail
  have hr0 : (w.alloc (.cells #[.int .i64 0] 3)).ownsRow w.heap.size 3 1 (.slice (some ⟨w.heap.size, 0, none⟩) 1 1) 1 (intsC (plL l L 0)) := ⟨rfl, .inr ⟨w.heap.size, 1, _, rfl, Nat.le_refl _, new_in w _, Nat.le_refl _, by decide, rfl, rfl⟩⟩
  have HR0 := Lib.hid hr0
  clear hr0
  go_loopw [5, 6] (fun o i wr => ∃ k : Nat, k ≤ l.length ∧ i = .int .i64 k ∧ wr.ownsRow w.heap.size 3 1 o (k + 1) (intsC (plL l L k)) ∧ Below w.heap.size w wr) (fun _ i _ => l.length - (intOf i).toNat)
  case atStart => exact ⟨0, Nat.zero_le _, rfl, HR0.out, bel_new _ _⟩
  case round =>
    obtain ⟨k, hk, rfl, hr, hb⟩ := hrel
    have HS := Lib.hid hr; have HB := Lib.hid hb
    clear hr hb
    obtain ⟨g, cap, rfl, hg0, hg1, hg2, hg3⟩ := own_some HS.out
    by_cases hlt : k < l.length
    case pos =>
      obtain ⟨G, rfl, g3, g4⟩ : ∃ G, aG = some ⟨G, 0, none⟩ ∧ G < w.heap.size ∧ ∀ j, j < l.length → w.cell? ⟨G, j, none⟩ = some (.bool (L j)) := by
        rcases H5.out with h | h
        · omega
        · exact h
      have hsz := HB.out.size
      have k0 : wr.cell? ⟨g, k, none⟩ = some (.int .i64 (pl l L k)) := own_cell HS.out (plL_get l L (Nat.le_refl k))
      have k1 : wr.cell? ⟨G, k, none⟩ = some (.bool (L k)) := (HB.out.cell (p := ⟨G, k, none⟩) g3).trans (g4 k hlt)
      clear g4
      obtain ⟨b, o, rfl, hb0, hcells⟩ := items_at H1.out k hlt
      obtain ⟨c0, c1, c2, c3, c4, c5, c6, c7⟩ := eight_cells (fun j u hj => (HB.out.cell (p := ⟨b, o + k * 8 + j, none⟩) (show b < w.heap.size by omega)).trans ((H4.out.cell (p := ⟨b, o + k * 8 + j, none⟩) hb0).trans (hcells j u hj)))
      clear hcells
      have hbw : b < wr.heap.size := by omega
      have hGw : G < wr.heap.size := by omega
      obtain ⟨z, hz⟩ : ∃ z, sizeZ (it l k) (L k) = z := ⟨_, rfl⟩
      have hzb := size_bd (H3.out k hlt) (L k)
      have hpb := pl_bd H3.out L k (by omega)
      rw [hz] at hzb
      have HC := Lib.hid (fun w => r3_size (it l k) (L k) w (H2.out.num k hlt) z hz)
      unfold itV at HC
      obtain ⟨p, hp⟩ : ∃ p, pl l L k = p := ⟨_, rfl⟩
      have HPL := Lib.hid (show p + 4 * z = pl l L (k + 1) by rw [← hp, ← hz]; rfl)
      rw [hp] at hpb k0
      obtain ⟨Lk, hLk⟩ : ∃ b, L k = b := ⟨_, rfl⟩
      rw [hLk] at k1 HC
      have s2 : IntKind.i64.wrap (4 * z) = 4 * z := IntWalk.i64_in _ (by omega)
      have s3 : IntKind.i64.wrap (p + 4 * z) = p + 4 * z := IntWalk.i64_in _ (by omega)
      obtain ⟨x, hx⟩ : ∃ x, it l k = x := ⟨_, rfl⟩
      rw [hx] at c0 c1 c2 c3 c4 c5 c6 c7 HC
      clear hx hz hp hLk
      have hll : k + 1 ≤ 1000000 := by omega
      go_upto_region 5 with (fail)
      refine wp_region_ut (fun w' => Below wr.heap.size wr w') 17 [true, true, true, true, true, true, true, true, true, true, true, true, true, true, true, true] (by kernel_rfl) (by kernel_rfl) (by kernel_rfl) (fun _ _ h hu => bw_tr h hu) (Below.refl _ _) ?ra ?rh ?rt
      case rh =>
        intro u0 h0
        have y0 := up_cell h0 hg1 k0
        have y1 := up_cell h0 hGw k1
        have x0 := up_cell h0 hbw c0
        have x1 := up_cell h0 hbw c1
        have x2 := up_cell h0 hbw c2
        have x3 := up_cell h0 hbw c3
        have x4 := up_cell h0 hbw c4
        have x5 := up_cell h0 hbw c5
        have x6 := up_cell h0 hbw c6
        have x7 := up_cell h0 hbw c7
        clear h0
        simp only [pickM]
        repeat (go_big_quiet_step ((go_at_call 70; with_reducible exact quiet_b (HC.out _))))
        refine wpQuiet_nil ?_
        rfl
      case rt =>
        change headU _ _ _ _ _ _ 1 _ _ _
        refine headU_one (i := 16) (by kernel_rfl) (by decide) rfl ?_
        intro u6 hu6 hcu6
        have HFu := Lib.hid (own_below HS.out hcu6)
        clear hu6
        go_wp2_with fail
        refine ⟨bw_alloc hcu6 _, ?_⟩
        have HCU := Lib.hid hcu6
        clear hcu6
        refine headU_end (by kernel_rfl) ?_
        intro u7 hu7 hcu7
        have HBK := Lib.hid (bel_in hu7 (lt_in (new_in u6 (.cells #[.int .i64 (p + 4 * z)] 3))) (new_in u6 (.cells #[.int .i64 (p + 4 * z)] 3)))
        have HFv := Lib.hid (own_below HFu.out (bw_tr (bel_new u6 (.cells #[.int .i64 (p + 4 * z)] 3)) hu7))
        have HCV := Lib.hid (bw_tr HB.out hcu7)
        clear hu7 hcu7
        simp only [List.drop_succ_cons, List.drop_zero]
        go_wp2_with (at_builtin; refine app_int rfl (.tmp 14) (.tmp 30) rfl w.heap.size _ (plL l L k) (p + 4 * z) (k + 1) (plL_len l L k) rfl HFv.out u6.heap.size HBK.out rfl hll HCV.out.size ?_; intro g7 c7x w7 hown7 hgrow7; have HO7 := Lib.hid hown7; have HG7 := Lib.hid hgrow7; clear hown7 hgrow7)
        refine ⟨⟨k + 1, by omega, by go_num, ?_, ?_⟩, by simp [intOf]; omega⟩
        · rw [plL_succ, ← HPL.out]; exact HO7.out
        · exact grown_bel HCV.out HG7.out (fun g e => (HFv.out.lt g e).1)
    case neg =>
      obtain rfl : k = l.length := by omega
      go_wp2_with fail
      go_ret
      exact ⟨_, rfl, HS.out, HB.out⟩
end Go.Proofs.Ytfepdieeiplbnaa
namespace Go.Proofs.Ytfepdieeiplbnaa
open Go.RowKit
set_option linter.unusedSimpArgs false
def boolsC (L : Nat → Bool) (n : Nat) : List Value := (List.range n).map fun j => Value.bool (L j)
theorem boolsC_len (L : Nat → Bool) (n : Nat) : (boolsC L n).length = n := by simp [boolsC]
theorem boolsC_get (L : Nat → Bool) {n j : Nat} (h : j < n) : (boolsC L n)[j]? = some (.bool (L j)) := by simp [boolsC, h]
theorem boolsC_arr (L : Nat → Bool) (n : Nat) : cellsL L n = (boolsC L n).toArray := rfl
theorem boolsC_set (L : Nat → Bool) {n j : Nat} (v : Bool) : (boolsC L n).set j (.bool v) = boolsC (fun i => if i = j then v else L i) n := by
  have h := cellsL_set L (n := n) (j := j) v
  simp only [boolsC_arr, List.setIfInBounds_toArray] at h
  exact List.toArray_inj h
theorem own_of_cells {w : World} {base B n : Nat} {L : Nat → Bool} (h : w.heap[B]? = some (.cells (cellsL L n) 4 (0, 0))) (hb : base ≤ B) (hn : n ≤ maxLen) : w.ownsRow base 4 1 (.slice (some ⟨B, 0, none⟩) n n) n (boolsC L n) :=
  ⟨by rw [boolsC_len, Nat.mul_one], .inr ⟨B, n, _, rfl, hb, h, Nat.le_refl _, hn, by simp [cellsL], by rw [boolsC_arr]; exact List.take_of_length_le (by rw [boolsC_len]; omega)⟩⟩
theorem own_some0 {w : World} {base e k n : Nat} {v : Value} {xs : List Value} (hn : 0 < n) (h : w.ownsRow base e k v n xs) : ∃ g cap, v = .slice (some ⟨g, 0, none⟩) n cap ∧ base ≤ g ∧ g < w.heap.size ∧ n ≤ cap ∧ cap ≤ maxLen := by
  rcases h.2 with ⟨_, h0⟩ | ⟨g, cap, cur, rfl, hb, hg, h1, h2, _⟩
  · omega
  · exact ⟨g, cap, rfl, hb, lt_in hg, h1, h2⟩
theorem own_frozen {w : World} {base e k n g cap : Nat} {xs : List Value} (h : w.ownsRow base e k (.slice (some ⟨g, 0, none⟩) n cap) n xs) (j : Nat) : w.frozen? ⟨g, j, none⟩ = false := by
  obtain ⟨cur, hc⟩ := own_block h rfl
  exact frozen_in hc _
theorem own_set {w : World} {base e n g cap : Nat} {xs : List Value} (h : w.ownsRow base e 1 (.slice (some ⟨g, 0, none⟩) n cap) n xs) (j : Nat) (u : Value) : (w.setCell ⟨g, j, none⟩ u).ownsRow base e 1 (.slice (some ⟨g, 0, none⟩) n cap) n (xs.set j u) := by
  refine ⟨by rw [List.length_set]; exact h.1, ?_⟩
  rcases h.2 with ⟨h0, _⟩ | ⟨g', cap', cur, hv, hb, hg, h1, h2, h3, h4⟩
  · cases h0
  · injection hv with e1 _ e2
    injection e1 with e1
    injection e1 with e1
    subst e1 e2
    refine .inr ⟨g, cap, _, rfl, hb, set_in hg j u, h1, h2, by simpa using h3, ?_⟩
    rw [← h4, Array.toList_setIfInBounds, List.take_set]
theorem long_own {w : World} {base n : Nat} {L : Nat → Bool} {v : Value} (h : w.ownsRow base 4 1 v n (boolsC L n)) : LongAt w v n L := by
  rcases h.2 with ⟨rfl, h0⟩ | ⟨g, cap, cur, rfl, hb, hg, h1, h2, h3, h4⟩
  · exact ⟨none, 0, by rw [h0], by omega, by unfold maxLen; omega, .inl h0⟩
  · exact ⟨_, cap, rfl, h1, h2, .inr ⟨g, rfl, lt_in hg, fun j hj => own_cell h (boolsC_get L hj)⟩⟩
section
variable {w : World} {ops : Array Oper} {rest : List Oper} {o : Oper} {a : Act} {Q : Exit → Act → World → Prop}
/-- Bools appended to nothing. -/
theorem app_bools (hgd : o.guard = none) (s x : Operand) (ho : o.op = .call { callee := .builtin .append, args := #[s, x], argTypes := #[58, 58] })
    (L : Nat → Bool) (n : Nat) (hs : a.eval s = .slice none 0 0) (B c : Nat) (hB : ∀ j, j < n → w.cell? ⟨B, j, none⟩ = some (.bool (L j))) (hx : a.eval x = .slice (some ⟨B, 0, none⟩) n c)
    (hl : n ≤ 100000)
    (h : ∀ g c w', w'.ownsRow w.heap.size 4 1 (.slice g n c) n (boolsC L n) → Below w.heap.size w w' → wpList Try.prog ops Q rest (a.put o.dst (.slice g n c)) w') : wpList Try.prog ops Q (o :: rest) a w := by
  obtain ⟨i0, hi, hz0, hz1, hz2⟩ := info_parts info_bool
  refine wpList_append_own w hgd s x 58 ho w.heap.size 4 i0 _ 1 1 Try.underlying58 hi hz0 hz1 hz2 rfl (by decide) (.slice none 0 0) 0 [] hs (World.ownsRow_nil _ _ _ _) ⟨B, 0, none⟩ n c (boolsC L n) hx (by rw [boolsC_len, Nat.mul_one]) (fun j u hj => by
    have hjn : j < n := by have := (List.getElem?_eq_some_iff.1 hj).1; rwa [boolsC_len] at this
    rw [boolsC_get L hjn] at hj
    obtain rfl := Option.some.inj hj
    rw [addr_add, Nat.zero_add]; exact hB j hjn) (fun u hu => by
      obtain ⟨j, _, rfl⟩ := List.mem_map.1 hu
      rfl) (by unfold maxLen; omega) (by omega) (Nat.le_refl _) ?_
  intro v' w' hown' hg _
  rw [Nat.zero_add, List.nil_append] at hown'
  obtain ⟨g, c, rfl⟩ := own_shape hown'
  exact h g c w' hown' (grown_up0 hg)
end
theorem fs_le {l : List Itm} {s : ByteArray} (i n : Nat) (hi : i < n) (h2 : (it l i).kind = 2) (hn : (it l i).name = s) : ∃ t, t ≤ i ∧ fs l n s = some t := by
  have : ∃ t, t ≤ i ∧ fs l (i + 1) s = some t := by
    cases h : fs l i s with
    | some t => exact ⟨t, by have := (fs_some h).1; omega, by simp only [fs, h]⟩
    | none => exact ⟨i, Nat.le_refl _, by simp only [fs, h]; rw [if_pos ⟨h2, hn⟩]⟩
  obtain ⟨t, h1, h⟩ := this
  exact ⟨t, h1, fs_stay h (by omega)⟩
/-- An item that the second loop lets pass. -/
def okR (l : List Itm) (j : Nat) : Prop := ((it l j).kind = 2 → ¬ fsI l (it l j).name < j) ∧ ((it l j).kind = 3 → ¬ fsI l (it l j).name < 0)
theorem known_of {l : List Itm} (h : ∀ j, j < l.length → okR l j) : knownB l = true := by
  unfold knownB
  rw [Bool.and_eq_true]
  constructor
  · refine okL_of (fun i j hj hij hi2 hj2 hn => ?_)
    obtain ⟨t, ht, hf⟩ := fs_le i l.length (by omega) hi2 hn
    refine (h j hj).1 hj2 ?_
    unfold fsI; rw [hf]; simp only; omega
  · refine nmL_of (fun j hj h3 => ?_)
    cases hm : labI l (it l j).name with
    | some i => exact ⟨i, rfl⟩
    | none =>
      refine absurd ?_ ((h j hj).2 h3)
      unfold fsI; rw [(fs_mp_none _ _ _).2 hm]; simp only; omega
theorem known_ok {l : List Itm} (h : knownB l = true) (j : Nat) (hj : j < l.length) : okR l j := by
  unfold knownB at h
  rw [Bool.and_eq_true] at h
  constructor
  · intro h2
    unfold fsI; rw [fs_ok h.1, labI_at h.1 j hj h2]; simp
  · intro h3
    obtain ⟨i, hi⟩ := nmL_at h.2 j hj h3
    unfold fsI; rw [fs_ok h.1]; unfold labI at hi; rw [hi]; simp only; omega
theorem known_no {l : List Itm} (j : Nat) (hj : j < l.length) (h : ¬ okR l j) : knownB l = false := by
  cases hk : knownB l with
  | false => rfl
  | true => exact absurd (known_ok hk j hj) h
theorem fsI_lab {l : List Itm} (h : knownB l = true) (j : Nat) (hj : j < l.length) (h3 : (it l j).kind = 3) : ∃ t : Nat, t < l.length ∧ fsI l (it l j).name = t ∧ (labI l (it l j).name).getD 0 = t := by
  unfold knownB at h
  rw [Bool.and_eq_true] at h
  obtain ⟨i, hi⟩ := nmL_at h.2 j hj h3
  have hl := (mp_some hi).1
  refine ⟨i, hl, ?_, by rw [hi]; rfl⟩
  unfold fsI; rw [fs_ok h.1]; unfold labI at hi; rw [hi]
/-- What laid tells. -/
def LaidPost (l : List Itm) (w : World) (e : Ending) (w' : World) : Prop :=
  Below w.heap.size w w' ∧ ((errOf l ≠ 0 ∧ e = .returned (.tuple #[.slice none 0 0, .slice none 0 0, .int .i64 (errOf l)])) ∨
    (errOf l = 0 ∧ ∃ vp vl, e = .returned (.tuple #[vp, vl, .int .i64 0]) ∧ w'.ownsRow w.heap.size 3 1 vp (l.length + 1) (intsC (plL l (longF l) l.length)) ∧ w'.ownsRow w.heap.size 4 1 vl l.length (boolsC (longF l) l.length)))
set_option maxRecDepth 100000 in
set_option maxHeartbeats 8000000 in
theorem r3_laid (w : World) (l : List Itm) (v : Value) (HL : ArgS 8 itC w v l) (HO : NamesOK l) :
    Calls Try.prog 33 #[v] w (LaidPost l w) := by
  obtain ⟨a, c, rfl⟩ : ∃ a c, v = .slice a l.length c := by obtain ⟨a, c, hv, _⟩ := HL; exact ⟨a, c, hv⟩
  have hcap := (items_len HL).2
  have hmx : l.length ≤ maxLen := by omega
  unfold maxLen at hmx
  clear hcap
  have H1 := Lib.hid HL; have H2 := Lib.hid HO
  clear HL HO
  by_cases hlen : 40000 < l.length
  case pos =>
    have HE := Lib.hid (err_len hlen)
    go_enter Try.func33, Try.ntmps33
    go_wp2_with fail
    go_ret3
    unfold LaidPost
    rw [HE.out]
    exact ⟨(by repeat (first | (with_reducible exact Below.refl _ _) | (with_reducible refine bw_set ?_ ?_ _) | (with_reducible apply bw_alloc) | (with_reducible refine bw_tr ?_ (by with_reducible assumption)) | (with_reducible apply bw_drew) | omega)), .inl ⟨by decide, rfl⟩⟩
  case neg =>
  have HLN := Lib.hid hlen
  have hl4 : l.length ≤ 40000 := by omega
  clear hlen
  go_enter Try.func33, Try.ntmps33
  go_wp2_with fail
  go_loopw [5] (fun i wr => ∃ k : Nat, k ≤ l.length ∧ i = .int .i64 k ∧ (∀ j, j < k → itemB (it l j) = true) ∧ Below w.heap.size w wr) (fun i _ => l.length - (intOf i).toNat)
  case atStart => exact ⟨0, Nat.zero_le _, rfl, fun j hj => absurd hj (by omega), Below.refl _ _⟩
  case round =>
    obtain ⟨k, hk, rfl, ha, hb⟩ := hrel
    have HA := Lib.hid ha; have HB := Lib.hid hb
    clear ha hb
    by_cases hlt : k < l.length
    case pos =>
      obtain ⟨b, o, rfl, hb0, hcells⟩ := items_at H1.out k hlt
      obtain ⟨c0, c1, c2, c3, c4, c5, c6, c7⟩ := eight_cells (fun j u hj => (HB.out.cell (p := ⟨b, o + k * 8 + j, none⟩) hb0).trans (hcells j u hj))
      clear hcells
      have hsz := HB.out.size
      cases hr : itemB (it l k)
      case false =>
        have HC := Lib.hid (fun w => r3_right (it l k) _ w (H2.out.name k hlt) hr)
        have HR := Lib.hid hr
        unfold itV at HC
        clear hr
        go_wp2_with (go_at_call 24; ((with_reducible refine (HC.out _).mono ?_); rintro e w1 ⟨rfl, hb1⟩))
        have HE := Lib.hid (err_arg HLN.out k hlt HR.out)
        go_ret3
        unfold LaidPost
        rw [HE.out]
        exact ⟨bw_tr (c := w1) HB.out ((by repeat (first | (with_reducible exact Below.refl _ _) | (with_reducible refine bw_set ?_ ?_ _) | (with_reducible apply bw_alloc) | (with_reducible refine bw_tr ?_ (by with_reducible assumption)) | (with_reducible apply bw_drew) | omega))), .inl ⟨by decide, rfl⟩⟩
      case true =>
        have HC := Lib.hid (fun w => r3_right (it l k) _ w (H2.out.name k hlt) hr)
        have HR := Lib.hid hr
        unfold itV at HC
        clear hr
        go_wp2_with (go_at_call 24; ((with_reducible refine (HC.out _).mono ?_); rintro e w1 ⟨rfl, hb1⟩))
        refine ⟨⟨k + 1, by omega, by go_num, ?_, bw_tr (c := w1) HB.out ((by repeat (first | (with_reducible exact Below.refl _ _) | (with_reducible refine bw_set ?_ ?_ _) | (with_reducible apply bw_alloc) | (with_reducible refine bw_tr ?_ (by with_reducible assumption)) | (with_reducible apply bw_drew) | omega)))⟩, by simp [intOf]; omega⟩
        intro j hj
        by_cases e : j = k
        · subst e; exact HR.out
        · exact HA.out j (by omega)
    case neg =>
    obtain rfl : k = l.length := by omega
    have HAB : Hid (allB l) := HA
    have HOK : Hid (ItsOK l) := Lib.hid ⟨hl4, H2.out.name, H2.out.num⟩
    clear HA hlt hk
    go_wp2_with fail
    obtain ⟨w1, hw1⟩ : ∃ x, wr = x := ⟨_, rfl⟩
    subst hw1
    have HB00 := HB
    clear HB
    go_loopw [7] (fun i wx => ∃ k : Nat, k ≤ l.length ∧ i = .int .i64 k ∧ (∀ j, j < k → okR l j) ∧ wr = wx) (fun i _ => l.length - (intOf i).toNat)
    case atStart => exact ⟨0, Nat.zero_le _, rfl, fun j hj => absurd hj (by omega), rfl⟩
    case round =>
    obtain ⟨k, hk, rfl, ha, rfl⟩ := hrel
    have HA := Lib.hid ha
    have HB := HB00
    clear ha
    by_cases hlt : k < l.length
    case pos =>
      obtain ⟨b, o, rfl, hb0, hcells⟩ := items_at H1.out k hlt
      obtain ⟨c0, c1, c2, c3, c4, c5, c6, c7⟩ := eight_cells (fun j u hj => (HB.out.cell (p := ⟨b, o + k * 8 + j, none⟩) hb0).trans (hcells j u hj))
      clear hcells c1 c2 c3 c4 c5 c7
      have hsz := HB.out.size
      obtain ⟨kd, hkd⟩ : ∃ x, (it l k).kind = x := ⟨_, rfl⟩
      obtain ⟨t, ht⟩ : ∃ x, (it l k).name = x := ⟨_, rfl⟩
      obtain ⟨z, hz⟩ : ∃ z, fsI l t = z := ⟨_, rfl⟩
      have HC := Lib.hid (r3_label w wr l (.slice (some ⟨b, o, none⟩) l.length c) t H1.out HB.out z hz)
      have HD : Hid (okR l k ↔ ((kd = 2 → ¬ z < k) ∧ (kd = 3 → ¬ z < 0))) := Lib.hid (by unfold okR; rw [hkd, ht, hz])
      rw [hkd] at c0
      rw [ht] at c6
      clear hkd ht hz
      have HGO : Hid (okR l k → ∀ j, j < k + 1 → okR l j) := Lib.hid (fun h j hj => by
        by_cases e : j = k
        · subst e; exact h
        · exact HA.out j (by omega))
      have HEE : Hid (¬ okR l k → errOf l = 30) := Lib.hid (fun h => err_target HLN.out HAB.out (known_no k hlt h))
      by_cases h2 : kd = 2
      · subst h2
        cases hd : decide (z < (k : Int))
        case true =>
          have HE := Lib.hid (HEE.out (fun h => (HD.out.1 h).1 rfl (of_decide_eq_true hd)))
          go_wp2_with (go_at_call 35; ((with_reducible refine HC.out.mono ?_); rintro e w1 ⟨rfl, rfl⟩))
          go_ret3
          unfold LaidPost
          rw [HE.out]
          exact ⟨HB.out, .inl ⟨by decide, rfl⟩⟩
        case false =>
          have HNX := Lib.hid (HGO.out (HD.out.2 ⟨fun _ => of_decide_eq_false hd, fun h => absurd h (by decide)⟩))
          go_wp2_with (go_at_call 35; ((with_reducible refine HC.out.mono ?_); rintro e w1 ⟨rfl, rfl⟩))
          exact ⟨⟨k + 1, by omega, by go_num, HNX.out, trivial⟩, by simp [intOf]; omega⟩
      by_cases h3 : kd = 3
      · subst h3
        cases hd : decide (z < 0)
        case true =>
          have HE := Lib.hid (HEE.out (fun h => (HD.out.1 h).2 rfl (of_decide_eq_true hd)))
          clear h2
          go_wp2_with (go_at_call 35; ((with_reducible refine HC.out.mono ?_); rintro e w1 ⟨rfl, rfl⟩))
          go_ret3
          unfold LaidPost
          rw [HE.out]
          exact ⟨HB.out, .inl ⟨by decide, rfl⟩⟩
        case false =>
          have HNX := Lib.hid (HGO.out (HD.out.2 ⟨fun h => absurd h (by decide), fun _ => of_decide_eq_false hd⟩))
          clear h2
          go_wp2_with (go_at_call 35; ((with_reducible refine HC.out.mono ?_); rintro e w1 ⟨rfl, rfl⟩))
          exact ⟨⟨k + 1, by omega, by go_num, HNX.out, trivial⟩, by simp [intOf]; omega⟩
      have HNX := Lib.hid (HGO.out (HD.out.2 ⟨fun h => absurd h h2, fun h => absurd h h3⟩))
      have q2 : (kd == 2) = false := by simpa using h2
      have q3 : (kd == 3) = false := by simpa using h3
      clear h2 h3
      go_wp2_with (go_at_call 35; ((with_reducible refine HC.out.mono ?_); rintro e w1 ⟨rfl, rfl⟩))
      exact ⟨⟨k + 1, by omega, by go_num, HNX.out, trivial⟩, by simp [intOf]; omega⟩
    case neg =>
    obtain rfl : k = l.length := by omega
    have HKN := Lib.hid (known_of HA.out)
    clear HA hlt hk
    obtain ⟨v1, hr1, hx1, hg1⟩ := make_L l.length wr hl4
    have HX1 := Lib.hid (own_of_cells (L := itL l 0) (base := w.heap.size) hx1 HB.out.size (by unfold maxLen; omega))
    have HB1 := Lib.hid (bw_tr HB.out hg1)
    have hvs : wr.heap.size ≤ v1.heap.size := hg1.size
    clear hx1 hg1
    have HPL := Lib.hid (fun (L : Nat → Bool) w' vl h1 h2 => r3_places (L := L) w w' l (.slice a l.length c) vl H1.out HOK.out HAB.out h1 h2)
    go_wp2_with (go_at_call 55; ((with_reducible refine (HPL.out _ _ _ HB1.out (long_own HX1.out)).mono ?_); rintro e w2 ⟨vp, rfl, hp2, hb2⟩; have HP2 := Lib.hid (own_base hp2 HB1.out.size); have HX2 := Lib.hid (own_below HX1.out hb2); have HB2 := Lib.hid (bw_tr HB1.out hb2); clear hp2 hb2))
    clear hr1 HX1
    go_loopg [9, 10, 11] (shortN (itL l 0) l.length + 1) (fun k s9 s10 s11 wx => ∃ m b, s11 = .bool b ∧ (b = true → shortN (itL l m) l.length + 1 = k ∧ ∃ B c, s9 = .slice (some ⟨B, 0, none⟩) l.length c) ∧ (b = false → growF l (itL l m) = itL l m) ∧ wx.ownsRow w.heap.size 4 1 s9 l.length (boolsC (itL l m) l.length) ∧ wx.ownsRow w.heap.size 3 1 s10 (l.length + 1) (intsC (plL l (itL l m) l.length)) ∧ Below w.heap.size w wx)
    case atStart => exact ⟨0, true, rfl, fun _ => ⟨rfl, _, _, rfl⟩, fun h => absurd h (by decide), HX2.out, HP2.out, HB2.out⟩
    case round =>
    obtain ⟨m, b, rfl, hm1, hm0, hrl, hrp, hb⟩ := hrel
    obtain ⟨wx, hwx⟩ : ∃ x, x = wr := ⟨_, rfl⟩
    subst hwx
    have HRL := Lib.hid hrl; have HRP := Lib.hid hrp; have HBX := Lib.hid hb
    clear hrl hrp hb HP2 HX2 HB2
    obtain ⟨gp, cp, rfl, p0, p1, p2, p3⟩ := own_some HRP.out
    cases b
    case false =>
      have HLF := Lib.hid (long_of (hm0 rfl))
      clear hm0 hm1
      obtain ⟨z, hz⟩ : ∃ z, pl l (itL l m) l.length = z := ⟨_, rfl⟩
      have k1 : wx.cell? ⟨gp, l.length, none⟩ = some (.int .i64 z) := by rw [← hz]; exact own_cell HRP.out (plL_get l _ (Nat.le_refl _))
      have HZ := Lib.hid hz; clear hz
      cases hd : decide (262144 < z)
      case true =>
        have HE := Lib.hid (err_words HLN.out HAB.out HKN.out (by rw [HLF.out, HZ.out]; simpa using hd))
        go_wp2_with fail
        go_ret3
        unfold LaidPost
        rw [HE.out]
        exact ⟨HBX.out, .inl ⟨by decide, rfl⟩⟩
      case false =>
        have HE := Lib.hid (err_ok HLN.out HAB.out HKN.out (by rw [HLF.out, HZ.out]; simpa using hd))
        go_wp2_with fail
        go_ret3
        unfold LaidPost
        rw [HE.out, HLF.out]
        exact ⟨HBX.out, .inr ⟨rfl, _, _, rfl, HRP.out, HRL.out⟩⟩
    case true =>
    obtain ⟨hkm, gl, cl, rfl⟩ := hm1 rfl
    have HKM := Lib.hid hkm
    clear hm0 hm1 hkm
    have hcl : l.length ≤ cl ∧ cl ≤ maxLen := by
      rcases HRL.out.2 with ⟨h, _⟩ | ⟨_, _, _, h, _, _, h1, h2, _⟩
      · cases h
      · injection h with _ _ h; subst h; exact ⟨h1, h2⟩
    have HCL : Hid (∀ j, j < l.length → wx.cell? ⟨gl, j, none⟩ = some (.bool (itL l m j))) := Lib.hid (fun j hj => own_cell HRL.out (boolsC_get _ hj))
    go_wp2_with (at_builtin; refine app_bools rfl _ _ rfl (itL l m) l.length rfl gl cl HCL.out rfl (by omega) ?_; intro g3 c3 w3 hown3 hb3; have HN3 := Lib.hid hown3; have HB3 := Lib.hid hb3; clear hown3 hb3)
    clear HCL
    go_loopw [11, 13] (fun s11 i wi => ∃ j : Nat, j ≤ l.length ∧ i = .int .i64 j ∧ s11 = .bool (grownB l (itL l m) j) ∧ wi.ownsRow wx.heap.size 4 1 (.slice g3 l.length c3) l.length (boolsC (growTo l (itL l m) j) l.length) ∧ Below wx.heap.size wx wi) (fun _ i _ => l.length - (intOf i).toNat)
    case atStart => exact ⟨0, Nat.zero_le _, rfl, rfl, by rw [growTo_zero]; exact HN3.out, HB3.out⟩
    case round =>
    obtain ⟨k', hk, rfl, rfl, hrn, hbi⟩ := hrel
    obtain ⟨wi, hwi⟩ : ∃ x, x = wr := ⟨_, rfl⟩
    subst hwi
    have HRN := Lib.hid hrn; have HBI := Lib.hid hbi
    clear hrn hbi
    obtain ⟨gr, hgr⟩ : ∃ g, grownB l (itL l m) k' = g := ⟨_, rfl⟩
    rw [hgr]
    have HGR := Lib.hid hgr; clear hgr
    by_cases hlt : k' < l.length
    case pos =>
      obtain ⟨gn, cn, hgn, n0, n1, n2, n3⟩ := own_some0 (by omega) HRN.out
      injection hgn with hgn1 _ hgn2
      subst hgn1 hgn2
      have hszi := HBI.out.size
      have hszx := HBX.out.size
      have HRLi := Lib.hid (own_below HRL.out HBI.out)
      have HRPi := Lib.hid (own_below HRP.out HBI.out)
      have k1 : wi.cell? ⟨gl, k', none⟩ = some (.bool (itL l m k')) := own_cell HRLi.out (boolsC_get _ hlt)
      have k2 : wi.cell? ⟨gp, k', none⟩ = some (.int .i64 (pl l (itL l m) k')) := own_cell HRPi.out (plL_get l _ (by omega))
      obtain ⟨b, o, rfl, hb0, hcells⟩ := items_at H1.out k' hlt
      obtain ⟨c0, c1, c2, c3', c4, c5, c6, c7⟩ := eight_cells (fun j u hj => (HBI.out.cell (p := ⟨b, o + k' * 8 + j, none⟩) (show b < wx.heap.size by omega)).trans ((HBX.out.cell (p := ⟨b, o + k' * 8 + j, none⟩) hb0).trans (hcells j u hj)))
      clear hcells c2 c3' c4 c5 c7
      obtain ⟨kd, hkd⟩ : ∃ x, (it l k').kind = x := ⟨_, rfl⟩
      obtain ⟨op, hop⟩ : ∃ x, (it l k').i.op = x := ⟨_, rfl⟩
      obtain ⟨Lk, hLk⟩ : ∃ x, itL l m k' = x := ⟨_, rfl⟩
      rw [hkd] at c0
      rw [hop] at c1
      rw [hLk] at k1
      have HNEED : Hid (needs l (itL l m) k' = ((decide (kd = 3) && !decide (op = 3)) && (!Lk && farB (dst l (itL l m) k')))) := Lib.hid (by unfold needs growK; rw [hkd, hop, hLk])
      have HNO : Hid (needs l (itL l m) k' = false → grownB l (itL l m) (k' + 1) = gr ∧ wi.ownsRow wx.heap.size 4 1 (.slice (some ⟨gn, 0, none⟩) l.length c3) l.length (boolsC (growTo l (itL l m) (k' + 1)) l.length)) := Lib.hid (fun h => ⟨by rw [grownB_no h]; exact HGR.out, by rw [growTo_no h]; exact HRN.out⟩)
      by_cases h3 : kd = 3
      case neg =>
        have q3 : (kd != 3) = true := by simpa using h3
        have HNN := Lib.hid (HNO.out (by rw [HNEED.out]; simp [h3]))
        clear h3 hkd hop hLk
        go_wp2_with fail
        exact ⟨⟨k' + 1, by omega, by go_num, congrArg Value.bool HNN.out.1.symm, HNN.out.2, HBI.out⟩, by simp [intOf]; omega⟩
      case pos =>
      subst h3
      by_cases h4 : op = 3
      case pos =>
        subst h4
        have HNN := Lib.hid (HNO.out (by rw [HNEED.out]; simp))
        clear hkd hop hLk
        go_wp2_with fail
        exact ⟨⟨k' + 1, by omega, by go_num, congrArg Value.bool HNN.out.1.symm, HNN.out.2, HBI.out⟩, by simp [intOf]; omega⟩
      case neg =>
      have q4 : (op == 3) = false := by simpa using h4
      cases Lk
      case true =>
        have HNN := Lib.hid (HNO.out (by rw [HNEED.out]; simp))
        clear hkd hop hLk h4
        go_wp2_with fail
        exact ⟨⟨k' + 1, by omega, by go_num, congrArg Value.bool HNN.out.1.symm, HNN.out.2, HBI.out⟩, by simp [intOf]; omega⟩
      case false =>
      obtain ⟨t, ht, hft, hlt'⟩ := fsI_lab HKN.out k' hlt hkd
      have k3 : wi.cell? ⟨gp, t, none⟩ = some (.int .i64 (pl l (itL l m) t)) := own_cell HRPi.out (plL_get l _ (by omega))
      have bt := pl_bd HAB.out (itL l m) t (by omega)
      have bk := pl_bd HAB.out (itL l m) k' (by omega)
      obtain ⟨pt, hpt⟩ : ∃ x, pl l (itL l m) t = x := ⟨_, rfl⟩
      obtain ⟨pk, hpk⟩ : ∃ x, pl l (itL l m) k' = x := ⟨_, rfl⟩
      obtain ⟨dd, hdd⟩ : ∃ x, pt - pk = x := ⟨_, rfl⟩
      have HD : Hid (needs l (itL l m) k' = farB dd) := Lib.hid (by rw [HNEED.out]; unfold dst; rw [hlt', hpt, hpk, hdd]; simp [h4])
      rw [hpt] at k3 bt
      rw [hpk] at k2 bk
      obtain ⟨nm, hnm⟩ : ∃ x, (it l k').name = x := ⟨_, rfl⟩
      rw [hnm] at c6 hft
      have sw : IntKind.i64.wrap (pt - pk) = dd := by rw [hdd]; exact IntWalk.i64_in _ (by omega)
      have HCA := Lib.hid (fun x : Wd wi => quiet_s (x := x) (r3_label w x.val l (.slice (some ⟨b, o, none⟩) l.length c) nm H1.out (bw_tr (bw_tr HBX.out HBI.out) x.bel) t hft))
      have hbi : b < wi.heap.size := by omega
      have hgp : gp < wi.heap.size := by omega
      clear hkd hop hLk h4 hpt hpk hdd hft hlt' hnm
      go_wp2_with fail
      have y0 := wd_cell hbi c6
      have y1 := wd_cell hgp k2
      have y2 := wd_cell hgp k3
      clear c0 c1 c6 k1 k2 k3
      refine wp_region_below (by kernel_rfl) (by kernel_rfl) ?_
      repeat (go_big_quiet_step ((go_at_call 35; with_reducible exact HCA.out _)))
      refine wpQuiet_nil ?_
      rintro w7 ⟨⟨w7x, hb7⟩, rfl⟩
      clear y0 y1 y2 sw
      have HB7 := Lib.hid (bw_tr HBI.out hb7)
      have HRN7 := Lib.hid (own_below HRN.out hb7)
      clear hb7
      cases hf : farB dd
      case false =>
        have h1 : decide (dd < -4096) = false := by unfold farB at hf; simp at hf ⊢; omega
        have h2 : decide (4094 < dd) = false := by unfold farB at hf; simp at hf ⊢; omega
        have HNN := Lib.hid (HD.out.trans hf)
        clear hf
        go_wp2_with fail
        exact ⟨⟨k' + 1, by omega, by go_num, congrArg Value.bool (by rw [grownB_no HNN.out]; exact HGR.out.symm), by rw [growTo_no HNN.out]; exact HRN7.out, HB7.out⟩, by simp [intOf]; omega⟩
      case true =>
        have HNN := Lib.hid (HD.out.trans hf)
        have hor : decide (dd < -4096) = true ∨ (decide (dd < -4096) = false ∧ decide (4094 < dd) = true) := by unfold farB at hf; simp at hf ⊢; omega
        have f7 : w7.frozen? ⟨gn, k', none⟩ = false := own_frozen HRN7.out _
        have q7 : w7.cell? ⟨gn, k', none⟩ = some (.bool (growTo l (itL l m) k' k')) := own_cell HRN7.out (boolsC_get _ hlt)
        have FIN : Hid ((w7.setCell ⟨gn, k', none⟩ (.bool true)).ownsRow wx.heap.size 4 1 (.slice (some ⟨gn, 0, none⟩) l.length c3) l.length (boolsC (growTo l (itL l m) (k' + 1)) l.length)) := Lib.hid (by
          rw [growTo_yes HNN.out, ← boolsC_set]; exact own_set HRN7.out k' _)
        have FIB : Hid (Below wx.heap.size wx (w7.setCell ⟨gn, k', none⟩ (.bool true))) := Lib.hid (Below.setCell HB7.out n0 _)
        have FIG : Hid (Value.bool true = Value.bool (grownB l (itL l m) (k' + 1))) := Lib.hid (congrArg Value.bool (grownB_yes HNN.out).symm)
        have hg7 : gn < w7.heap.size := (HRN7.out.lt gn rfl).2
        clear hf
        rcases hor with h1 | ⟨h1, h2⟩
        · go_wp2_with fail
          exact ⟨⟨k' + 1, by omega, by go_num, FIG.out, FIN.out, FIB.out⟩, by simp [intOf]; omega⟩
        · go_wp2_with fail
          exact ⟨⟨k' + 1, by omega, by go_num, FIG.out, FIN.out, FIB.out⟩, by simp [intOf]; omega⟩
    case neg =>
    obtain rfl : k' = l.length := by omega
    have HRM : Hid (wi.ownsRow wx.heap.size 4 1 (.slice g3 l.length c3) l.length (boolsC (itL l (m + 1)) l.length)) := Lib.hid (by
      have := HRN.out
      rwa [growTo_all] at this)
    have HBW := Lib.hid (bw_tr HBX.out HBI.out)
    have hszx := HBX.out.size
    go_wp2_with (go_at_call 55; ((with_reducible refine (HPL.out _ _ _ HBW.out (long_own HRM.out)).mono ?_); rintro e w5 ⟨vp5, rfl, hp5, hb5⟩; have HP5 := Lib.hid (own_base hp5 HBW.out.size); have HX5 := Lib.hid (own_base (own_below HRM.out hb5) hszx); have HB5 := Lib.hid (bw_tr HBW.out hb5); clear hp5 hb5))
    go_roundg (if gr = true then shortN (itL l (m + 1)) l.length + 1 else 0)
    case measure =>
      rw [← HKM.out]
      split
      · rename_i h
        have := grow_lt (HGR.out.trans h)
        have e : itL l (m + 1) = growF l (itL l m) := rfl
        rw [e]; omega
      · omega
    case rel =>
      refine ⟨m + 1, gr, rfl, fun h => ⟨by rw [if_pos h], ?_⟩, fun h => ?_, HX5.out, HP5.out, HB5.out⟩
      · have hp : 0 < l.length := by
          obtain ⟨i, hi, _⟩ := grown_some (HGR.out.trans h)
          omega
        obtain ⟨gq, cq, hq, _⟩ := own_some0 hp HX5.out
        exact ⟨gq, cq, hq⟩
      · have e := growF_same (HGR.out.trans h)
        have e2 : itL l (m + 1) = itL l m := e
        rw [e2]; exact e
end Go.Proofs.Ytfepdieeiplbnaa
