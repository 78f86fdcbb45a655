/-
  The contract of label.isLabel.
-/
import Derived.Test.YtfepdieeiplbnaaLabSmall
import Derived.Laws.IdiomStrings
import Derived.LoopN
namespace Go.Proofs.Ytfepdieeiplbnaa
open Go.RowKit
def goodB (b : UInt8) : Bool := decide (32 < b.toNat) && decide (b.toNat ≤ 126)
def labelB (s : ByteArray) : Bool := s.data.toList.all goodB && (!s.data.toList.isEmpty && decide (s.size ≤ 40))
theorem label_bad {s : ByteArray} (j : Nat) (hj : j < s.data.size) (h : goodB s.data[j] = false) : labelB s = false := by
  unfold labelB
  have : s.data.toList.all goodB = false := by
    rw [List.all_eq_false]
    exact ⟨s.data[j], by simp, by simp [h]⟩
  rw [this]; rfl
theorem label_good {s : ByteArray} (h : ∀ j, (hj : j < s.data.size) → goodB s.data[j] = true) : labelB s = (!s.data.toList.isEmpty && decide (s.size ≤ 40)) := by
  unfold labelB
  have : s.data.toList.all goodB = true := by
    rw [List.all_eq_true]
    intro x hx
    obtain ⟨j, hj, rfl⟩ := List.getElem_of_mem hx
    simpa using h j (by simpa using hj)
  rw [this, Bool.true_and]
set_option maxHeartbeats 4000000 in
theorem is_label (s : ByteArray) (w : World) (hs : s.size ≤ maxLen) :
    Calls Try.prog 38 #[.string s] w fun e w' => e = .returned (.bool (labelB s)) ∧ Below w.heap.size w w' := by
  have hcv := fun w s => run_bytes_of_string (P := Try.prog) w 9 93 5 s Try.underlying9 Try.underlying93 Try.underlying5
  obtain ⟨res, hres⟩ : ∃ r, labelB s = r := ⟨_, rfl⟩
  rw [hres]
  have HRES := Lib.hid hres; clear hres
  go_enter Try.func38, Try.ntmps38
  go_wp2_with fail
  obtain ⟨C, hC⟩ : ∃ C, bytesRow s (grownCap w s.size 0 5) = C := ⟨_, rfl⟩
  have hrow : ∀ (j : Nat) (hj : j < s.data.size), C[j]? = some (.int .u8 (s.data[j].toNat : Int)) := fun j hj => by rw [← hC]; exact bytesRow_at s _ j hj
  rw [hC]
  have HROW := Lib.hid hrow; clear hrow hC hcv
  have hsz : s.data.size = s.size := rfl
  unfold maxLen at hs
  go_loopw [8] (fun i wr => ∃ j : Nat, j ≤ s.size ∧ i = .int .i64 j ∧ (∀ k, (hk : k < s.data.size) → k < j → goodB s.data[k] = true) ∧ (∃ fr, wr.heap[w.heap.size]? = some (.cells C 5 fr)) ∧ Below w.heap.size w wr) (fun i _ => s.size - (intOf i).toNat)
  case atStart => exact ⟨0, by omega, rfl, fun k _ h => absurd h (by omega), ⟨_, new_in w.drew _⟩, (bw_drew (Below.refl _ _)).alloc (Nat.le_refl _) _⟩
  case round =>
    obtain ⟨j, hj, rfl, hg, ⟨fr, hx⟩, hbb⟩ := hrel
    have HG := Lib.hid hg; have HX := Lib.hid hx
    clear hg hx
    by_cases hlt : j < s.size
    · have hlt' : j < s.data.size := hlt
      obtain ⟨b, hb⟩ : ∃ b, s.data[j] = b := ⟨_, rfl⟩
      have c0 : wr.cell? ⟨w.heap.size, j, none⟩ = some (.int .u8 (b.toNat : Int)) := by rw [← hb, cell_of_row wr _ j _ _ _ HX.out]; exact HROW.out j hlt'
      cases hgd : goodB b
      · have HBAD := Lib.hid (label_bad j hlt' (by rw [hb]; exact hgd))
        have hor : (decide ((b.toNat : Int) ≤ 32) = true) ∨ (decide ((b.toNat : Int) ≤ 32) = false ∧ decide (126 < (b.toNat : Int)) = true) := by
          unfold goodB at hgd
          simp at hgd ⊢
          omega
        clear hgd hb
        rcases hor with h1 | ⟨h1, h2⟩
        · go_wp2_with fail
          go_ret
          exact ⟨ret1b (HBAD.out.symm.trans HRES.out), (by repeat (first | (with_reducible exact Below.refl _ _) | (with_reducible refine bw_set ?_ ?_ _) | (with_reducible apply bw_alloc) | (with_reducible refine bw_tr ?_ (by with_reducible assumption)) | (with_reducible apply bw_drew) | omega))⟩
        · go_wp2_with fail
          go_ret
          exact ⟨ret1b (HBAD.out.symm.trans HRES.out), (by repeat (first | (with_reducible exact Below.refl _ _) | (with_reducible refine bw_set ?_ ?_ _) | (with_reducible apply bw_alloc) | (with_reducible refine bw_tr ?_ (by with_reducible assumption)) | (with_reducible apply bw_drew) | omega))⟩
      · have h1 : decide ((b.toNat : Int) ≤ 32) = false := by unfold goodB at hgd; simp at hgd ⊢; omega
        have h2 : decide (126 < (b.toNat : Int)) = false := by unfold goodB at hgd; simp at hgd ⊢; omega
        have HNX : Hid (∀ k, (hk : k < s.data.size) → k < j + 1 → goodB s.data[k] = true) := Lib.hid (fun k hk h => by
          by_cases e : k = j
          · subst e; rw [hb]; exact hgd
          · exact HG.out k hk (by omega))
        clear hgd hb
        go_wp2_with fail
        exact ⟨⟨j + 1, by omega, by go_num, HNX.out, ⟨fr, HX.out⟩, hbb⟩, by simp [intOf]; omega⟩
    · obtain rfl : j = s.size := by omega
      have HL := Lib.hid ((label_good (fun k hk => HG.out k hk hk)).symm.trans HRES.out)
      cases he : s.data.toList.isEmpty <;> cases hd : decide (s.size ≤ 40)
      all_goals
        rw [he, hd] at HL
        have he' : s.toList.isEmpty = s.data.toList.isEmpty := by rw [ByteArray.toList_eq]
        rw [he] at he'
        have hd' : decide ((s.size : Int) ≤ 40) = decide (s.size ≤ 40) := decide_eq_decide.2 (by omega)
        rw [hd] at hd'
        clear he hd HROW HG hlt
        go_wp2_with fail
        go_ret
        exact ⟨ret1b HL.out, (by repeat (first | (with_reducible exact Below.refl _ _) | (with_reducible refine bw_set ?_ ?_ _) | (with_reducible apply bw_alloc) | (with_reducible refine bw_tr ?_ (by with_reducible assumption)) | (with_reducible apply bw_drew) | omega))⟩
end Go.Proofs.Ytfepdieeiplbnaa
