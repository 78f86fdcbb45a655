/-
  The contract of headstocklaw02.awake.
-/
import Derived.Test.YtefebnicclbhjaaCodeDec
import Derived.Test.YtefebnicclbhjaaCodeReads
import Derived.Test.YtefebnicclbhjaaCodePlain
import Derived.WalkSpells
import Derived.WalkLawsBesides
namespace Go.Proofs.Ytefebnicclbhjaa
open Go.RowKit
theorem aw1 : encV ⟨13, 1, 2, 0, -1⟩ = 4293984403 ∧ encE ⟨13, 1, 2, 0, -1⟩ = 0 := by decide +kernel
theorem aw2 : encV ⟨5, 0, 0, 0, -4⟩ = 4261416675 ∧ encE ⟨5, 0, 0, 0, -4⟩ = 0 := by decide +kernel
theorem aw3 : decX 8388719 = ⟨3, 0, 0, 0, 8⟩ := by kernel_rfl
theorem aw4 : decE 8388719 = 0 := by kernel_rfl
theorem aw5 : decX 0 = noIns := by kernel_rfl
theorem aw6 : decE 0 = 20 := by kernel_rfl
theorem aw7 : rightB ⟨3, 0, 0, 0, 8⟩ = true := by decide +kernel
theorem aw8 : (rowT 47).nm = ⟨#[115, 99, 46, 119]⟩ := by kernel_rfl
set_option maxHeartbeats 4000000 in
theorem awake02 (w : World) :
    Calls Try.prog 11 #[] w fun e w' => e = .returned (.bool true) ∧ Below w.heap.size w w' := by
  go_enter Try.func11, Try.ntmps11
  go_wp2_with fail
  refine (encode_any ⟨13, 1, 2, 0, -1⟩ _).mono ?_
  rw [aw1.1, aw1.2]
  rintro e w1 ⟨rfl, hb1⟩
  go_wp2_with fail
  refine (encode_any ⟨5, 0, 0, 0, -4⟩ _).mono ?_
  rw [aw2.1, aw2.2]
  rintro e w2 ⟨rfl, hb2⟩
  go_wp2_with fail
  refine (decode_near 8388719 _ (by decide)).mono ?_
  rw [aw3, aw4]
  rintro e w3 ⟨rfl, hb3⟩
  unfold insV
  go_wp2_with fail
  refine (decode_near 0 _ (by decide)).mono ?_
  rw [aw5, aw6]
  rintro e w4 ⟨rfl, hb4⟩
  obtain ⟨c4, f4⟩ := bcell hb4
  have z4 : w3.heap.size < w4.heap.size := by have := hb4.size; simp at this; omega
  unfold insV
  go_wp2_with fail
  refine (reads_any ⟨22, 0, 3, 4, 0⟩ _).mono ?_
  rintro e w5 ⟨v5, rfl, hr5, hb5⟩
  rw [show (readsL ⟨22, 0, 3, 4, 0⟩) = [3, 4] by decide +kernel] at hr5
  obtain ⟨qa5, qc5, rfl⟩ := hr5.shape
  obtain ⟨c5, f5⟩ := bcell hb5
  have z5 : w3.heap.size < w5.heap.size := by have := hb5.size; simp at this; omega
  go_wp2_with fail
  refine (name_any 47 _).mono ?_
  rw [aw8]
  rintro e w6 ⟨rfl, hb6⟩
  obtain ⟨c6, f6⟩ := bcell hb6
  have z6 : w3.heap.size < w6.heap.size := by have := hb6.size; omega
  go_wp2_with fail
  refine (writes_any ⟨3, 0, 0, 0, 8⟩ _).mono ?_
  rw [show writesN ⟨3, 0, 0, 0, 8⟩ = 0 by decide +kernel]
  rintro e w7 ⟨rfl, hb7⟩
  obtain ⟨c7, f7⟩ := bcell hb7
  have z7 : w3.heap.size < w7.heap.size := by have := hb7.size; omega
  go_wp2_with fail
  refine (right_any ⟨3, 0, 0, 0, 8⟩ _).mono ?_
  rw [aw7]
  rintro e w8 ⟨rfl, hb8⟩
  go_wp2_with fail
  go_ret
  exact ⟨rfl, (by repeat (first | (with_reducible exact Below.refl _ _) | (with_reducible refine bw_set ?_ ?_ _) | (with_reducible apply bw_alloc) | (with_reducible refine bw_tr ?_ (by with_reducible assumption)) | (with_reducible apply bw_drew) | omega))⟩
end Go.Proofs.Ytefebnicclbhjaa
