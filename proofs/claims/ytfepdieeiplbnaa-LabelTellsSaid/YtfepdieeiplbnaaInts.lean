/-
  The contracts of the packages' 'are two lists of numbers the same?' (printed by gen_ints.py).
-/
import Derived.Test.YtfepdieeiplbnaaHeap
import Derived.Test.YtfepdieeiplbnaaBw
import Derived.Test.YtfepdieeiplbnaaRows
import Derived.WalkKit
import Derived.Deep.QuietTactic
import Derived.BigQuiet
namespace Go.Proofs.Ytfepdieeiplbnaa
open Go.RowKit
theorem iretb {a b : Bool} (h : a = b) : Ending.returned (.bool a) = .returned (.bool b) := by rw [h]
set_option maxHeartbeats 1000000 in
theorem ints_law03 (v v' : Value) (xs ys : List Int) (w : World) (h : Reads w 1 xs.length v (xs.map (Value.int .i64))) (h' : Reads w 1 ys.length v' (ys.map (Value.int .i64))) :
    Calls Try.prog 18 #[v, v'] w fun e w' => e = .returned (.bool (decide (xs = ys))) ∧ Below w.heap.size w w' := by
  obtain ⟨a, c, rfl⟩ := h.shape
  obtain ⟨a', c', rfl⟩ := h'.shape
  have HR := Lib.hid h; have HR' := Lib.hid h'; clear h h'
  by_cases hl : xs.length = ys.length
  · have hlb : (((xs.length : Nat) : Int) != ((ys.length : Nat) : Int)) = false := by simp [hl]
    by_cases h0 : xs.length = 0
    · have hx0 : xs = [] := List.eq_nil_of_length_eq_zero h0
      have hy0 : ys = [] := List.eq_nil_of_length_eq_zero (by omega)
      subst hx0 hy0
      simp only [List.length_nil] at *
      go_enter Try.func18, Try.ntmps18
      go_wp2_with fail
      refine wp_loop_rounds 1 ?_
      rw [rounds_succ]
      go_wp2_with fail
      go_ret
      exact ⟨iretb (by simp), Below.refl _ _⟩
    · obtain ⟨b, o, c0, hv, _, hc, hm, hcell⟩ := HR.out.2.2.resolve_left (fun h => h0 h.2)
      obtain ⟨b', o', c0', hv', _, hc', hm', hcell'⟩ := HR'.out.2.2.resolve_left (fun h => h0 (by omega))
      injection hv with e1 _ e2; injection hv' with e3 _ e4
      subst e1 e2 e3 e4
      have HL := Lib.hid hl
      have HC := Lib.hid hcell; have HC' := Lib.hid hcell'
      clear hcell hcell' hl
      unfold maxLen at hm hm'
      go_enter Try.func18, Try.ntmps18
      go_wp2_with fail
      go_loopw [5] (fun i wr => ∃ k : Nat, k ≤ xs.length ∧ i = .int .i64 k ∧ xs.take k = ys.take k ∧ Below w.heap.size w wr ∧ (∀ a, wr.cell? a = w.cell? a)) (fun i _ => xs.length - (intOf i).toNat)
      case atStart => exact ⟨0, Nat.zero_le _, rfl, rfl, Below.refl _ _, fun _ => rfl⟩
      case round =>
        obtain ⟨k, hk, rfl, ht, hb, hw⟩ := hrel
        have HT := Lib.hid ht; have HB := Lib.hid hb; have HW := Lib.hid hw; clear ht hb hw
        by_cases hlt : k < xs.length
        · have hlt' : k < ys.length := by rw [← HL.out]; exact hlt
          have g1 : wr.cell? ⟨b, o + k, none⟩ = some (.int .i64 (xs[k])) := by rw [HW.out]; exact HC.out k _ (by simp [hlt])
          have g2 : wr.cell? ⟨b', o' + k, none⟩ = some (.int .i64 (ys[k])) := by rw [HW.out]; exact HC'.out k _ (by simp [hlt'])
          by_cases hx : xs[k] = ys[k]
          · have hxb : (xs[k] != ys[k]) = false := by simp [hx]
            have HX := Lib.hid hx; clear hx
            go_wp2_with fail
            go_quiet (fail)
            go_wp2_with fail
            refine ⟨⟨k + 1, by omega, by go_num, ?_, below_drewN HB.out _, HW.out⟩, by simp [intOf]; omega⟩
            rw [List.take_succ_eq_append_getElem hlt, List.take_succ_eq_append_getElem hlt', HT.out, HX.out]
          · have hxb : (xs[k] != ys[k]) = true := by simp [hx]
            have hd : decide (xs = ys) = false := decide_eq_false (fun e => hx (by subst e; rfl))
            have HD := Lib.hid hd; clear hx hd
            go_wp2_with fail
            go_quiet (fail)
            go_wp2_with fail
            go_ret
            exact ⟨iretb HD.out.symm, below_drewN HB.out _⟩
        · have hd : decide (xs = ys) = true := decide_eq_true (by
            have e1 := HT.out
            have hkx : k = xs.length := by omega
            rw [hkx, List.take_length, HL.out, List.take_length] at e1
            exact e1)
          have HD := Lib.hid hd; clear hd
          go_wp2_with fail
          go_ret
          exact ⟨iretb HD.out.symm, HB.out⟩
  · have hlb : (((xs.length : Nat) : Int) != ((ys.length : Nat) : Int)) = true := by simp; omega
    have HD : Hid (decide (xs = ys) = false) := Lib.hid (decide_eq_false (fun e => hl (by rw [e])))
    clear hl
    go_enter Try.func18, Try.ntmps18
    go_wp2_with fail
    go_ret
    exact ⟨iretb HD.out.symm, Below.refl _ _⟩
end Go.Proofs.Ytfepdieeiplbnaa
