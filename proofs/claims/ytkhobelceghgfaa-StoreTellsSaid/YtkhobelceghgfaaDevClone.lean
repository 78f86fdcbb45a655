/-
  The contract of slices.Clone at []int.
-/
import Derived.Test.YtkhobelceghgfaaRows
import Derived.Test.YtkhobelceghgfaaHeap
namespace Go.Proofs.Ytkhobelceghgfaa
open Go.RowKit

theorem info_int : (Try.prog.info? 3).map (fun i => (i.zero, i.size, i.bytes)) = some (some (.int .i64 0), 1, 8) := by kernel_rfl
set_option maxHeartbeats 1000000 in
theorem clone_int (v : Value) (n : Nat) (xs : List Value) (w : World) (h : Reads w 1 n v xs) (hb : n * 8 ≤ 140737488355328) :
    Calls Try.prog 61 #[v] w fun e w' => ∃ v', e = .returned v' ∧ w'.ownsRow w.heap.size 3 1 v' n xs ∧ Below w.heap.size w w' := by
  obtain ⟨hl, h1, h2⟩ := h
  obtain ⟨i0, hi, hz0, hz1, hz2⟩ := info_parts info_int
  rcases h2 with ⟨rfl, rfl⟩ | ⟨b, o, c, rfl, hlt, hn, hm, hcell⟩
  · have hq := fun w : World => Lib.run_eql_slice_nil (P := Try.prog) w 24 3 none 0 0 0 0 Try.underlying24
    have hxs : xs = [] := List.eq_nil_of_length_eq_zero (by simpa using hl)
    have HX := Lib.hid hxs; clear hxs hl hb
    go_enter Try.func61, Try.ntmps61
    go_wp2
    go_ret
    exact ⟨_, rfl, by rw [HX.out]; exact World.ownsRow_nil _ _ _ _, Below.refl _ _⟩
  · have hq := fun w : World => Lib.run_eql_slice_nil (P := Try.prog) w 24 3 (some ⟨b, o, none⟩) n c 0 0 Try.underlying24
    have hw0 : (w.alloc (.cells #[] 3)).ownsRow w.heap.size 3 1 (.slice (some ⟨w.heap.size, 0, none⟩) 0 0) 0 [] := World.ownsRow_made w #[] 0 (Nat.le_refl _) (by simp) (by simp)
    have hc' : ∀ j u, xs[j]? = some u → (w.alloc (.cells #[] 3)).cell? ((⟨b, o, none⟩ : Addr).add j) = some u := fun j u hj => by
      rw [← hcell j u hj]; rw [addr_add]; exact Below.cell (p := ⟨b, o + j, none⟩) ((Below.refl _ _).alloc (Nat.le_refl _) (.cells #[] 3)) hlt
    have H0 := Lib.hid hw0; have HC := Lib.hid hc'; have HL := Lib.hid hl; have H1 := Lib.hid h1
    clear hw0 hc' hl h1 hcell
    have hnm : 0 + n ≤ maxLen := by omega
    go_enter Try.func61, Try.ntmps61
    go_wp2_with (at_builtin; refine wpList_append_own _ rfl _ _ 24 rfl w.heap.size 3 i0 (.int .i64 0) 1 8 Try.underlying24 hi hz0 hz1 hz2 rfl (by decide) _ 0 [] rfl H0.out ⟨b, o, none⟩ n c xs rfl HL.out HC.out H1.out hnm (by omega) (by simp) ?_; intro v' w1 hown hgrow _)
    go_ret
    refine ⟨_, rfl, by simpa using hown, ?_⟩
    exact ((Below.refl _ _).alloc (Nat.le_refl _) _).grown hgrow (by simp) (fun k hk => by cases hk; exact Nat.le_refl _)
end Go.Proofs.Ytkhobelceghgfaa
