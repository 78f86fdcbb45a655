/-
  The contract of label.Number: any register, any number.
-/
import Derived.Test.YtfepdieeiplbnaaCodeRight
import Derived.Test.YtfepdieeiplbnaaWrapMath
import Derived.Test.YtfepdieeiplbnaaPickMath
import Derived.Test.YtfepdieeiplbnaaHeap
import Derived.Test.YtfepdieeiplbnaaBw
import Derived.Outline
namespace Go.Proofs.Ytfepdieeiplbnaa
open Go.RowKit
set_option linter.unusedSimpArgs false
def loN (m : Int) : Int := (m + 2048) % 4096 - 2048
def hiN (m : Int) : Int := (m - loN m) % 4294967296 / 4096
theorem lo_bd (m : Int) : -2048 ≤ loN m ∧ loN m ≤ 2047 := by unfold loN; omega
theorem lo_shift (m : Int) : wrap64 (m * 4503599627370496) / 4503599627370496 = loN m := by unfold wrap64 loN; omega
/-- The instructions that bring a number to a register. -/
def labL (d n : Int) : List Ins :=
  if 1 ≤ d ∧ d < 32 ∧ wrap32 n = n then (if -2048 ≤ n ∧ n ≤ 2047 then [⟨13, d, 0, 0, n⟩] else [⟨1, d, 0, 0, hiN n⟩, ⟨13, d, d, 0, loN n⟩]) else []
def insC (l : List Ins) : Array Value := (l.flatMap fun x => [Value.int .i64 x.op, .int .i64 x.d, .int .i64 x.a, .int .i64 x.b, .int .i64 x.n]).toArray
/-- What it gives: nothing, or a new slice. -/
def LabPost (d n : Int) (w : World) (e : Ending) (w' : World) : Prop :=
  Below w.heap.size w w' ∧ ((labL d n = [] ∧ e = .returned (.slice none 0 0)) ∨ (labL d n ≠ [] ∧ ∃ B : Nat, e = .returned (.slice (some ⟨B, 0, none⟩) (labL d n).length (labL d n).length) ∧ w'.heap[B]? = some (.cells (insC (labL d n)) 24 (0, 0)) ∧ w.heap.size ≤ B))
set_option maxHeartbeats 4000000 in
theorem label_number (d n : Int) (w : World) (hn : I64 n) : Calls Try.prog 21 #[.int .i64 d, .int .i64 n] w (LabPost d n w) := by
  by_cases h1 : 1 ≤ d ∧ d < 32 ∧ wrap32 n = n
  · obtain ⟨a1, a2, a3⟩ := h1
    have b1 : -2147483648 ≤ n ∧ n ≤ 2147483647 := by rw [← a3]; exact w32_bd n
    by_cases h2 : -2048 ≤ n ∧ n ≤ 2047
    · have E : Hid (labL d n = [⟨13, d, 0, 0, n⟩]) := Lib.hid (by unfold labL; rw [if_pos ⟨a1, a2, a3⟩, if_pos h2])
      obtain ⟨c1, c2⟩ := h2
      go_enter Try.func21, Try.ntmps21
      go_wp2_with fail
      go_ret
      refine ⟨(by repeat (first | (with_reducible exact Below.refl _ _) | (with_reducible refine bw_set ?_ ?_ _) | (with_reducible apply bw_alloc) | (with_reducible refine bw_tr ?_ (by with_reducible assumption)) | (with_reducible apply bw_drew) | omega)), .inr ⟨by rw [E.out]; simp, w.heap.size, ?_, ?_, Nat.le_refl _⟩⟩
      · rw [E.out]; rfl
      · rw [E.out]; exact new_in w _
    · have E : Hid (labL d n = [⟨1, d, 0, 0, hiN n⟩, ⟨13, d, d, 0, loN n⟩]) := Lib.hid (by unfold labL; rw [if_pos ⟨a1, a2, a3⟩, if_neg h2])
      have lb := lo_bd n
      have L1 := Lib.hid (lo_shift n)
      have L2 : Hid (wrap64 (n - loN n) = n - loN n) := Lib.hid (by unfold wrap64; omega)
      by_cases h3 : -2048 ≤ n
      · have h4 : ¬ n ≤ 2047 := by omega
        clear h2
        go_enter Try.func21, Try.ntmps21
        go_wp2_with fail
        go_ret
        rw [L1.out, L2.out]
        refine ⟨(by repeat (first | (with_reducible exact Below.refl _ _) | (with_reducible refine bw_set ?_ ?_ _) | (with_reducible apply bw_alloc) | (with_reducible refine bw_tr ?_ (by with_reducible assumption)) | (with_reducible apply bw_drew) | omega)), .inr ⟨by rw [E.out]; simp, w.heap.size, ?_, ?_, Nat.le_refl _⟩⟩
        · rw [E.out]; rfl
        · rw [E.out]; exact new_in w _
      · clear h2
        go_enter Try.func21, Try.ntmps21
        go_wp2_with fail
        go_ret
        rw [L1.out, L2.out]
        refine ⟨(by repeat (first | (with_reducible exact Below.refl _ _) | (with_reducible refine bw_set ?_ ?_ _) | (with_reducible apply bw_alloc) | (with_reducible refine bw_tr ?_ (by with_reducible assumption)) | (with_reducible apply bw_drew) | omega)), .inr ⟨by rw [E.out]; simp, w.heap.size, ?_, ?_, Nat.le_refl _⟩⟩
        · rw [E.out]; rfl
        · rw [E.out]; exact new_in w _
  · have E : labL d n = [] := by unfold labL; rw [if_neg h1]
    have HE := Lib.hid E; clear E
    by_cases k1 : d < 1
    · go_enter Try.func21, Try.ntmps21
      go_wp2_with fail
      go_ret
      exact ⟨(by repeat (first | (with_reducible exact Below.refl _ _) | (with_reducible refine bw_set ?_ ?_ _) | (with_reducible apply bw_alloc) | (with_reducible refine bw_tr ?_ (by with_reducible assumption)) | (with_reducible apply bw_drew) | omega)), .inl ⟨HE.out, rfl⟩⟩
    by_cases k2 : 32 ≤ d
    · go_enter Try.func21, Try.ntmps21
      go_wp2_with fail
      go_ret
      exact ⟨(by repeat (first | (with_reducible exact Below.refl _ _) | (with_reducible refine bw_set ?_ ?_ _) | (with_reducible apply bw_alloc) | (with_reducible refine bw_tr ?_ (by with_reducible assumption)) | (with_reducible apply bw_drew) | omega)), .inl ⟨HE.out, rfl⟩⟩
    have k3 : ¬ wrap32 n = n := fun h => h1 ⟨by omega, by omega, h⟩
    have q : (n != wrap64 (wrap32 n)) = true := by
      rw [show wrap64 (wrap32 n) = wrap32 n from by have := w32_bd n; unfold wrap64; omega]
      exact bne_iff_ne.2 (fun h => k3 h.symm)
    clear h1 k3
    go_enter Try.func21, Try.ntmps21
    go_wp2_with fail
    go_ret
    exact ⟨(by repeat (first | (with_reducible exact Below.refl _ _) | (with_reducible refine bw_set ?_ ?_ _) | (with_reducible apply bw_alloc) | (with_reducible refine bw_tr ?_ (by with_reducible assumption)) | (with_reducible apply bw_drew) | omega)), .inl ⟨HE.out, rfl⟩⟩
end Go.Proofs.Ytfepdieeiplbnaa
