/-
  The contracts of label.Places and label.Find.
-/
import Derived.Test.YtfepdieeiplbnaaLabLay
namespace Go.Proofs.Ytfepdieeiplbnaa
open Go.RowKit
set_option linter.unusedSimpArgs false
theorem lay_no (w : World) (l : List Itm) (v : Value) (HL : ArgS 8 itC w v l) (HO : NamesOK l) (e0 : Int) (he : errOf l = e0) (h0 : e0 ≠ 0) :
    Calls Try.prog 32 #[v] w fun e w' => e = .returned (.tuple #[.pointer none, .int .i64 e0]) ∧ Below w.heap.size w w' := by
  refine (lab_lay w l v HL HO).mono ?_
  rintro e w' ⟨hb, h | h⟩
  · rw [← he]; exact ⟨h.2, hb⟩
  · exact absurd (he.symm.trans h.1) h0
theorem lay_yes (w : World) (l : List Itm) (v : Value) (HL : ArgS 8 itC w v l) (HO : NamesOK l) (he : errOf l = 0) :
    Calls Try.prog 32 #[v] w fun e w' => ∃ P A G M, e = .returned (.tuple #[.pointer (some ⟨P, 0, none⟩), .int .i64 0]) ∧ LaySt w.heap.size l.length P A G M (pl l (longF l)) (longF l) l.length (mp l l.length) w' ∧ Below w.heap.size w w' := by
  refine (lab_lay w l v HL HO).mono ?_
  rintro e w' ⟨hb, h | ⟨_, P, A, G, M, h, hs⟩⟩
  · exact absurd he h.1
  · exact ⟨P, A, G, M, h, hs, hb⟩
theorem places_no (w : World) (l : List Itm) (v : Value) (HL : ArgS 8 itC w v l) (HO : NamesOK l) (e0 : Int) (he : errOf l = e0) (h0 : e0 ≠ 0) :
    Calls Try.prog 14 #[v] w fun e w' => e = .returned (.tuple #[.slice none 0 0, .int .i64 e0]) ∧ Below w.heap.size w w' := by
  have hC := Lib.hid (lay_no w l v HL HO e0 he h0)
  have hq : (e0 != 0) = true := by simpa using h0
  clear HL HO he h0
  go_enter Try.func14, Try.ntmps14
  go_wp2_with (go_at_call 32; ((with_reducible refine hC.out.mono ?_); rintro e w1 ⟨rfl, hb1⟩))
  go_ret2
  exact ⟨rfl, hb1⟩
theorem places_yes (w : World) (l : List Itm) (v : Value) (HL : ArgS 8 itC w v l) (HO : NamesOK l) (he : errOf l = 0) :
    Calls Try.prog 14 #[v] w fun e w' => ∃ A, e = .returned (.tuple #[.slice (some ⟨A, 0, none⟩) (l.length + 1) (l.length + 1), .int .i64 0]) ∧ w'.heap[A]? = some (.cells (cellsZ (pl l (longF l)) (l.length + 1)) 3 (0, 0)) ∧ w.heap.size ≤ A ∧ Below w.heap.size w w' := by
  have hC := Lib.hid (lay_yes w l v HL HO he)
  clear HL HO he
  go_enter Try.func14, Try.ntmps14
  go_wp2_with (go_at_call 32; ((with_reducible refine hC.out.mono ?_); rintro e w1 ⟨P, A, G, M, rfl, hs1, hb1⟩; have HS1 := Lib.hid hs1; have HB1 := Lib.hid hb1; clear hs1 hb1; have k0 : w1.cell? ⟨P, 0, none⟩ = some (.slice (some ⟨A, 0, none⟩) (l.length + 1) (l.length + 1)) := cell_in HS1.out.hP rfl))
  go_ret2
  exact ⟨A, rfl, HS1.out.hA, HS1.out.bA, HB1.out⟩
/-- Where a label is. -/
noncomputable def findZ (l : List Itm) (s : ByteArray) : Int := if errOf l = 0 then (match labI l s with | some k => pl l (longF l) k | none => -1) else -1
theorem find_any (w : World) (l : List Itm) (v : Value) (s : ByteArray) (HL : ArgS 8 itC w v l) (HO : NamesOK l) (hs : s.size ≤ maxLen) (z : Int) (hz : findZ l s = z) :
    Calls Try.prog 19 #[v, .string s] w fun e w' => e = .returned (.int .i64 z) ∧ Below w.heap.size w w' := by
  by_cases he : errOf l = 0
  case neg =>
    have hC := Lib.hid (lay_no w l v HL HO _ rfl he)
    have E : Hid ((-1 : Int) = z) := Lib.hid (by rw [← hz]; unfold findZ; rw [if_neg he])
    obtain ⟨e0, h0⟩ : ∃ e0, errOf l = e0 := ⟨_, rfl⟩
    rw [h0] at hC he
    have hq : (e0 != 0) = true := by simpa using he
    clear HL HO he h0 hz
    go_enter Try.func19, Try.ntmps19
    go_wp2_with (go_at_call 32; ((with_reducible refine hC.out.mono ?_); rintro e w1 ⟨rfl, hb1⟩))
    go_ret
    exact ⟨iret E.out, hb1⟩
  case pos =>
    have hC := Lib.hid (lay_yes w l v HL HO he)
    have hlen : Hid (l.length ≤ 40000) := Lib.hid (by
      by_cases h : 40000 < l.length
      · rw [err_len h] at he; cases he
      · omega)
    have HN := Lib.hid hs
    have HZ : Hid ((match labI l s with | some k => pl l (longF l) k | none => -1) = z) := Lib.hid (by rw [← hz]; unfold findZ; rw [if_pos he])
    clear HL HO he hs hz
    unfold labI at HZ
    cases hm : mp l l.length s with
    | none =>
      have E : Hid ((-1 : Int) = z) := Lib.hid (by rw [← HZ.out, hm])
      have HM := Lib.hid hm
      clear hm
      go_enter Try.func19, Try.ntmps19
      go_wp2_with (go_at_call 32; ((with_reducible refine hC.out.mono ?_); rintro e w1 ⟨P, A, G, M, rfl, hs1, hb1⟩; have HS1 := Lib.hid hs1; have HB1 := Lib.hid hb1; clear hs1 hb1; have k2 : w1.cell? ⟨P, 2, none⟩ = some (.map (some M)) := cell_in HS1.out.hP rfl; have k3 := HS1.out.hM.look_ok s HN.out; rw [HM.out] at k3; simp only [Option.getD_none, Option.isSome_none] at k3))
      go_ret
      exact ⟨iret E.out, HB1.out⟩
    | some k =>
      have E : Hid (pl l (longF l) k = z) := Lib.hid (by rw [← HZ.out, hm])
      have HM := Lib.hid hm
      have hk := (mp_some hm).1
      have hl := hlen.out
      clear hm
      go_enter Try.func19, Try.ntmps19
      go_wp2_with (go_at_call 32; ((with_reducible refine hC.out.mono ?_); rintro e w1 ⟨P, A, G, M, rfl, hs1, hb1⟩; have HS1 := Lib.hid hs1; have HB1 := Lib.hid hb1; clear hs1 hb1; have k0 : w1.cell? ⟨P, 0, none⟩ = some (.slice (some ⟨A, 0, none⟩) (l.length + 1) (l.length + 1)) := cell_in HS1.out.hP rfl; have k1 : w1.cell? ⟨A, k, none⟩ = some (.int .i64 z) := (cell_in HS1.out.hA (cellsZ_get _ (by omega))).trans (by rw [E.out]); have k2 : w1.cell? ⟨P, 2, none⟩ = some (.map (some M)) := cell_in HS1.out.hP rfl; have k3 := HS1.out.hM.look_ok s HN.out; rw [HM.out] at k3; simp only [Option.getD_some, Option.isSome_some] at k3))
      go_ret
      exact ⟨rfl, HB1.out⟩
end Go.Proofs.Ytfepdieeiplbnaa
