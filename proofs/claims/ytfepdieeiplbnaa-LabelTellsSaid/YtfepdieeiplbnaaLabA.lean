/-
  The contract of label.Number: any register, any number. The contracts of label.isBranch, opposite. The contract of label.isLabel.
-/
import Derived.Test.YtfepdieeiplbnaaCodeRight
import Derived.Test.YtfepdieeiplbnaaWrapMath
import Derived.Test.YtfepdieeiplbnaaPickMath
import Derived.Test.YtfepdieeiplbnaaHeap
import Derived.Test.YtfepdieeiplbnaaBw
import Derived.Outline
import Derived.Laws.IdiomStrings
import Derived.LoopN
namespace Go.Proofs.Ytfepdieeiplbnaa
open Go.RowKit
set_option linter.unusedSimpArgs false
def loN (m : Int) : Int := (m + 2048) % 4096 - 2048
def hiN (m : Int) : Int := (m - loN m) % 4294967296 / 4096
theorem lo_bd (m : Int) : -2048 ≤ loN m ∧ loN m ≤ 2047 := by unfold loN; omega
theorem lo_shift (m : Int) : wrap64 (m * 4503599627370496) / 4503599627370496 = loN m := by unfold wrap64 loN; omega
/-- The instructions that bring a number to a register. -/
def labL (d n : Int) : List Ins :=
  if 1 ≤ d ∧ d < 32 ∧ wrap32 n = n then (if -2048 ≤ n ∧ n ≤ 2047 then [⟨13, d, 0, 0, n⟩] else [⟨1, d, 0, 0, hiN n⟩, ⟨13, d, d, 0, loN n⟩]) else []
def insC (l : List Ins) : Array Value := (l.flatMap fun x => [Value.int .i64 x.op, .int .i64 x.d, .int .i64 x.a, .int .i64 x.b, .int .i64 x.n]).toArray
/-- What it gives: nothing, or a new slice. -/
def LabPost (d n : Int) (w : World) (e : Ending) (w' : World) : Prop :=
  Below w.heap.size w w' ∧ ((labL d n = [] ∧ e = .returned (.slice none 0 0)) ∨ (labL d n ≠ [] ∧ ∃ B : Nat, e = .returned (.slice (some ⟨B, 0, none⟩) (labL d n).length (labL d n).length) ∧ w'.heap[B]? = some (.cells (insC (labL d n)) 24 (0, 0)) ∧ w.heap.size ≤ B))
set_option maxHeartbeats 4000000 in
theorem label_number (d n : Int) (w : World) (hn : I64 n) : Calls Try.prog 21 #[.int .i64 d, .int .i64 n] w (LabPost d n w) := by
  by_cases h1 : 1 ≤ d ∧ d < 32 ∧ wrap32 n = n
  · obtain ⟨a1, a2, a3⟩ := h1
    have b1 : -2147483648 ≤ n ∧ n ≤ 2147483647 := by rw [← a3]; exact w32_bd n
    by_cases h2 : -2048 ≤ n ∧ n ≤ 2047
    · have E : Hid (labL d n = [⟨13, d, 0, 0, n⟩]) := Lib.hid (by unfold labL; rw [if_pos ⟨a1, a2, a3⟩, if_pos h2])
      obtain ⟨c1, c2⟩ := h2
      go_enter Try.func21, Try.ntmps21
      go_wp2_with fail
      go_ret
      refine ⟨(by repeat (first | (with_reducible exact Below.refl _ _) | (with_reducible refine bw_set ?_ ?_ _) | (with_reducible apply bw_alloc) | (with_reducible refine bw_tr ?_ (by with_reducible assumption)) | (with_reducible apply bw_drew) | omega)), .inr ⟨by rw [E.out]; simp, w.heap.size, ?_, ?_, Nat.le_refl _⟩⟩
      · rw [E.out]; rfl
      · rw [E.out]; exact new_in w _
    · have E : Hid (labL d n = [⟨1, d, 0, 0, hiN n⟩, ⟨13, d, d, 0, loN n⟩]) := Lib.hid (by unfold labL; rw [if_pos ⟨a1, a2, a3⟩, if_neg h2])
      have lb := lo_bd n
      have L1 := Lib.hid (lo_shift n)
      have L2 : Hid (wrap64 (n - loN n) = n - loN n) := Lib.hid (by unfold wrap64; omega)
      by_cases h3 : -2048 ≤ n
      · have h4 : ¬ n ≤ 2047 := by omega
        clear h2
        go_enter Try.func21, Try.ntmps21
        go_wp2_with fail
        go_ret
        rw [L1.out, L2.out]
        refine ⟨(by repeat (first | (with_reducible exact Below.refl _ _) | (with_reducible refine bw_set ?_ ?_ _) | (with_reducible apply bw_alloc) | (with_reducible refine bw_tr ?_ (by with_reducible assumption)) | (with_reducible apply bw_drew) | omega)), .inr ⟨by rw [E.out]; simp, w.heap.size, ?_, ?_, Nat.le_refl _⟩⟩
        · rw [E.out]; rfl
        · rw [E.out]; exact new_in w _
      · clear h2
        go_enter Try.func21, Try.ntmps21
        go_wp2_with fail
        go_ret
        rw [L1.out, L2.out]
        refine ⟨(by repeat (first | (with_reducible exact Below.refl _ _) | (with_reducible refine bw_set ?_ ?_ _) | (with_reducible apply bw_alloc) | (with_reducible refine bw_tr ?_ (by with_reducible assumption)) | (with_reducible apply bw_drew) | omega)), .inr ⟨by rw [E.out]; simp, w.heap.size, ?_, ?_, Nat.le_refl _⟩⟩
        · rw [E.out]; rfl
        · rw [E.out]; exact new_in w _
  · have E : labL d n = [] := by unfold labL; rw [if_neg h1]
    have HE := Lib.hid E; clear E
    by_cases k1 : d < 1
    · go_enter Try.func21, Try.ntmps21
      go_wp2_with fail
      go_ret
      exact ⟨(by repeat (first | (with_reducible exact Below.refl _ _) | (with_reducible refine bw_set ?_ ?_ _) | (with_reducible apply bw_alloc) | (with_reducible refine bw_tr ?_ (by with_reducible assumption)) | (with_reducible apply bw_drew) | omega)), .inl ⟨HE.out, rfl⟩⟩
    by_cases k2 : 32 ≤ d
    · go_enter Try.func21, Try.ntmps21
      go_wp2_with fail
      go_ret
      exact ⟨(by repeat (first | (with_reducible exact Below.refl _ _) | (with_reducible refine bw_set ?_ ?_ _) | (with_reducible apply bw_alloc) | (with_reducible refine bw_tr ?_ (by with_reducible assumption)) | (with_reducible apply bw_drew) | omega)), .inl ⟨HE.out, rfl⟩⟩
    have k3 : ¬ wrap32 n = n := fun h => h1 ⟨by omega, by omega, h⟩
    have q : (n != wrap64 (wrap32 n)) = true := by
      rw [show wrap64 (wrap32 n) = wrap32 n from by have := w32_bd n; unfold wrap64; omega]
      exact bne_iff_ne.2 (fun h => k3 h.symm)
    clear h1 k3
    go_enter Try.func21, Try.ntmps21
    go_wp2_with fail
    go_ret
    exact ⟨(by repeat (first | (with_reducible exact Below.refl _ _) | (with_reducible refine bw_set ?_ ?_ _) | (with_reducible apply bw_alloc) | (with_reducible refine bw_tr ?_ (by with_reducible assumption)) | (with_reducible apply bw_drew) | omega)), .inl ⟨HE.out, rfl⟩⟩
end Go.Proofs.Ytfepdieeiplbnaa
namespace Go.Proofs.Ytfepdieeiplbnaa
open Go.RowKit
def isBr (op : Int) : Bool := decide (5 ≤ op) && decide (op ≤ 10)
theorem is_branch (op : Int) (w : World) :
    Calls Try.prog 39 #[.int .i64 op] w fun e w' => e = .returned (.bool (isBr op)) ∧ w = w' := by
  have E : Hid (isBr op = (decide (5 ≤ op) && decide (op ≤ 10))) := Lib.hid rfl
  cases h1 : decide (5 ≤ op) <;> cases h2 : decide (op ≤ 10)
  all_goals
    rw [h1, h2] at E
    go_enter Try.func39, Try.ntmps39
    go_wp2_with fail
    go_ret
    exact ⟨by rw [E.out]; rfl, rfl⟩
def oppN (op : Int) : Int := if op % 2 = 1 then op + 1 else op - 1
theorem opposite_any (op : Int) (w : World) (h : 5 ≤ op ∧ op ≤ 10) :
    Calls Try.prog 71 #[.int .i64 op] w fun e w' => e = .returned (.int .i64 (oppN op)) ∧ w = w' := by
  rcases (by omega : op = 5 ∨ op = 6 ∨ op = 7 ∨ op = 8 ∨ op = 9 ∨ op = 10) with rfl | rfl | rfl | rfl | rfl | rfl
  all_goals
    go_enter Try.func71, Try.ntmps71
    go_wp2_with fail
    go_ret
    exact ⟨by kernel_rfl, rfl⟩
end Go.Proofs.Ytfepdieeiplbnaa
namespace Go.Proofs.Ytfepdieeiplbnaa
open Go.RowKit
def goodB (b : UInt8) : Bool := decide (32 < b.toNat) && decide (b.toNat ≤ 126)
def labelB (s : ByteArray) : Bool := s.data.toList.all goodB && (!s.data.toList.isEmpty && decide (s.size ≤ 40))
theorem label_bad {s : ByteArray} (j : Nat) (hj : j < s.data.size) (h : goodB s.data[j] = false) : labelB s = false := by
  unfold labelB
  have : s.data.toList.all goodB = false := by
    rw [List.all_eq_false]
    exact ⟨s.data[j], by simp, by simp [h]⟩
  rw [this]; rfl
theorem label_good {s : ByteArray} (h : ∀ j, (hj : j < s.data.size) → goodB s.data[j] = true) : labelB s = (!s.data.toList.isEmpty && decide (s.size ≤ 40)) := by
  unfold labelB
  have : s.data.toList.all goodB = true := by
    rw [List.all_eq_true]
    intro x hx
    obtain ⟨j, hj, rfl⟩ := List.getElem_of_mem hx
    simpa using h j (by simpa using hj)
  rw [this, Bool.true_and]
set_option maxHeartbeats 4000000 in
theorem is_label (s : ByteArray) (w : World) (hs : s.size ≤ maxLen) :
    Calls Try.prog 38 #[.string s] w fun e w' => e = .returned (.bool (labelB s)) ∧ Below w.heap.size w w' := by
  have hcv := fun w s => run_bytes_of_string (P := Try.prog) w 9 93 5 s Try.underlying9 Try.underlying93 Try.underlying5
  obtain ⟨res, hres⟩ : ∃ r, labelB s = r := ⟨_, rfl⟩
  rw [hres]
  have HRES := Lib.hid hres; clear hres
  go_enter Try.func38, Try.ntmps38
  go_wp2_with fail
  obtain ⟨C, hC⟩ : ∃ C, bytesRow s (grownCap w s.size 0 5) = C := ⟨_, rfl⟩
  have hrow : ∀ (j : Nat) (hj : j < s.data.size), C[j]? = some (.int .u8 (s.data[j].toNat : Int)) := fun j hj => by rw [← hC]; exact bytesRow_at s _ j hj
  rw [hC]
  have HROW := Lib.hid hrow; clear hrow hC hcv
  have hsz : s.data.size = s.size := rfl
  unfold maxLen at hs
  go_loopw [8] (fun i wr => ∃ j : Nat, j ≤ s.size ∧ i = .int .i64 j ∧ (∀ k, (hk : k < s.data.size) → k < j → goodB s.data[k] = true) ∧ (∃ fr, wr.heap[w.heap.size]? = some (.cells C 5 fr)) ∧ Below w.heap.size w wr) (fun i _ => s.size - (intOf i).toNat)
  case atStart => exact ⟨0, by omega, rfl, fun k _ h => absurd h (by omega), ⟨_, new_in w.drew _⟩, (bw_drew (Below.refl _ _)).alloc (Nat.le_refl _) _⟩
  case round =>
    obtain ⟨j, hj, rfl, hg, ⟨fr, hx⟩, hbb⟩ := hrel
    have HG := Lib.hid hg; have HX := Lib.hid hx
    clear hg hx
    by_cases hlt : j < s.size
    · have hlt' : j < s.data.size := hlt
      obtain ⟨b, hb⟩ : ∃ b, s.data[j] = b := ⟨_, rfl⟩
      have c0 : wr.cell? ⟨w.heap.size, j, none⟩ = some (.int .u8 (b.toNat : Int)) := by rw [← hb, cell_of_row wr _ j _ _ _ HX.out]; exact HROW.out j hlt'
      cases hgd : goodB b
      · have HBAD := Lib.hid (label_bad j hlt' (by rw [hb]; exact hgd))
        have hor : (decide ((b.toNat : Int) ≤ 32) = true) ∨ (decide ((b.toNat : Int) ≤ 32) = false ∧ decide (126 < (b.toNat : Int)) = true) := by
          unfold goodB at hgd
          simp at hgd ⊢
          omega
        clear hgd hb
        rcases hor with h1 | ⟨h1, h2⟩
        · go_wp2_with fail
          go_ret
          exact ⟨ret1b (HBAD.out.symm.trans HRES.out), (by repeat (first | (with_reducible exact Below.refl _ _) | (with_reducible refine bw_set ?_ ?_ _) | (with_reducible apply bw_alloc) | (with_reducible refine bw_tr ?_ (by with_reducible assumption)) | (with_reducible apply bw_drew) | omega))⟩
        · go_wp2_with fail
          go_ret
          exact ⟨ret1b (HBAD.out.symm.trans HRES.out), (by repeat (first | (with_reducible exact Below.refl _ _) | (with_reducible refine bw_set ?_ ?_ _) | (with_reducible apply bw_alloc) | (with_reducible refine bw_tr ?_ (by with_reducible assumption)) | (with_reducible apply bw_drew) | omega))⟩
      · have h1 : decide ((b.toNat : Int) ≤ 32) = false := by unfold goodB at hgd; simp at hgd ⊢; omega
        have h2 : decide (126 < (b.toNat : Int)) = false := by unfold goodB at hgd; simp at hgd ⊢; omega
        have HNX : Hid (∀ k, (hk : k < s.data.size) → k < j + 1 → goodB s.data[k] = true) := Lib.hid (fun k hk h => by
          by_cases e : k = j
          · subst e; rw [hb]; exact hgd
          · exact HG.out k hk (by omega))
        clear hgd hb
        go_wp2_with fail
        exact ⟨⟨j + 1, by omega, by go_num, HNX.out, ⟨fr, HX.out⟩, hbb⟩, by simp [intOf]; omega⟩
    · obtain rfl : j = s.size := by omega
      have HL := Lib.hid ((label_good (fun k hk => HG.out k hk hk)).symm.trans HRES.out)
      cases he : s.data.toList.isEmpty <;> cases hd : decide (s.size ≤ 40)
      all_goals
        rw [he, hd] at HL
        have he' : s.toList.isEmpty = s.data.toList.isEmpty := by rw [ByteArray.toList_eq]
        rw [he] at he'
        have hd' : decide ((s.size : Int) ≤ 40) = decide (s.size ≤ 40) := decide_eq_decide.2 (by omega)
        rw [hd] at hd'
        clear he hd HROW HG hlt
        go_wp2_with fail
        go_ret
        exact ⟨ret1b HL.out, (by repeat (first | (with_reducible exact Below.refl _ _) | (with_reducible refine bw_set ?_ ?_ _) | (with_reducible apply bw_alloc) | (with_reducible refine bw_tr ?_ (by with_reducible assumption)) | (with_reducible apply bw_drew) | omega))⟩
end Go.Proofs.Ytfepdieeiplbnaa
