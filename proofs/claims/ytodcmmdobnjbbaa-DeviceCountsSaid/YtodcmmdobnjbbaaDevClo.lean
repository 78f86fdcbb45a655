/-
  The contracts of the closures of Write, Read and Input.
-/
import Derived.Test.YtodcmmdobnjbbaaDevDone2
import Derived.Test.YtodcmmdobnjbbaaDevWrite
import Derived.Test.YtodcmmdobnjbbaaDevRead
import Derived.Test.YtodcmmdobnjbbaaDevInput
import Derived.StillTailTactics
namespace Go.Proofs.Ytodcmmdobnjbbaa
open Go.RowKit
theorem Works.drew {B : Nat} {T : TypeId} {w : World} {b : Nat} {s : St} (h : Works B T w b s) : Works B T w.drew b s := h
theorem Below.of_drew {B : Nat} {w w' : World} (h : Below B w.drew w') : Below B w w' := ⟨h.os, h.tape, h.output, h.size, h.block⟩

set_option maxHeartbeats 1000000 in
theorem wclo_uart (B b pr pn : Nat) (s : St) (reg n : Int) (w : World) (h : Works B 61 w b s) (hk : s.k = 1) (hreg : 0 ≤ reg ∧ reg < 4) (hs : 0 ≤ s.sent ∧ s.sent ≤ 2147483647)
    (h1 : w.cell? ⟨pr, 0, none⟩ = some (.int .i64 reg)) (h2 : w.cell? ⟨pn, 0, none⟩ = some (.int .i64 n)) :
    Calls Try.prog 23 #[.iface 57 (.pointer (some ⟨b, 0, none⟩)), .pointer (some ⟨pr, 0, none⟩), .pointer (some ⟨pn, 0, none⟩)] w fun e w' => e = .returned (.tuple #[]) ∧ After B 61 w' b (writeS s reg (wrap32 n)) ∧ Below B w w' := by
  have m1 := meth_write_uart
  have m2 := nila_write_uart
  have HH := Lib.hid h; have HK := Lib.hid hk; clear h hk
  go_enter Try.func23, Try.ntmps23
  go_wp2_with fail
  go_still_tail 7, (by kernel_rfl)
  still_call ((wrap_any n _).mono fun _ _ hh => ⟨hh.1, hh.2.symm⟩)
  repeat still_step
  refine wpStill_nil ?_
  change wpList _ _ _ _ _ w.drew
  go_wp2_with fail
  refine (write_uart B b s reg _ _ (Works.drew HH.out) HK.out hreg hs).mono ?_
  rintro e w1 ⟨rfl, ha, hb⟩
  have HA := Lib.hid ha; have HBB := Lib.hid hb; clear ha hb
  go_wp2_with fail
  go_end0
  exact ⟨rfl, HA.out, Below.of_drew HBB.out⟩
set_option maxHeartbeats 1000000 in
theorem iclo_uart (B b pn : Nat) (s : St) (n : Int) (w : World) (h : Works B 61 w b s) (hk : s.k = 1) (hr0 : -2147483648 ≤ s.r0 ∧ s.r0 ≤ 2147483647)
    (h2 : w.cell? ⟨pn, 0, none⟩ = some (.int .i64 n)) :
    Calls Try.prog 27 #[.iface 57 (.pointer (some ⟨b, 0, none⟩)), .pointer (some ⟨pn, 0, none⟩)] w fun e w' => e = .returned (.tuple #[]) ∧ After B 61 w' b (inputS s (wrap32 n)) ∧ Below B w w' := by
  have m1 := meth_input_uart
  have m2 := nila_input_uart
  have HH := Lib.hid h; have HK := Lib.hid hk; clear h hk
  go_enter Try.func27, Try.ntmps27
  go_wp2_with fail
  go_still_tail 6, (by kernel_rfl)
  still_call ((wrap_any n _).mono fun _ _ hh => ⟨hh.1, hh.2.symm⟩)
  repeat still_step
  refine wpStill_nil ?_
  change wpList _ _ _ _ _ w.drew
  go_wp2_with fail
  refine (input_uart B b s _ _ (Works.drew HH.out) HK.out (w32_bd n) hr0).mono ?_
  rintro e w1 ⟨rfl, ha, hb⟩
  have HA := Lib.hid ha; have HBB := Lib.hid hb; clear ha hb
  go_wp2_with fail
  go_end0
  exact ⟨rfl, HA.out, Below.of_drew HBB.out⟩
set_option maxHeartbeats 1000000 in
theorem rclo_uart (B b pr pn : Nat) (s : St) (reg : Int) (u : Value) (T : TypeId) (w : World) (h : Works B 61 w b s) (hk : s.k = 1) (hreg : 0 ≤ reg ∧ reg < 4)
    (h1 : w.cell? ⟨pr, 0, none⟩ = some (.int .i64 reg)) (h2 : w.heap[pn]? = some (.cells #[u] T (0, 0))) (hpn : pn < B) :
    Calls Try.prog 24 #[.iface 57 (.pointer (some ⟨b, 0, none⟩)), .pointer (some ⟨pr, 0, none⟩), .pointer (some ⟨pn, 0, none⟩)] w fun e w' => e = .returned (.tuple #[]) ∧ ∃ w1, w' = w1.setCell ⟨pn, 0, none⟩ (.int .i64 (readN s reg)) ∧ After B 61 w1 b (readS s reg) ∧ Below B w w1 := by
  have m1 := meth_read_uart
  have HH := Lib.hid h; have HK := Lib.hid hk; have H2 := Lib.hid h2; clear h hk h2
  go_enter Try.func24, Try.ntmps24
  go_wp2_with fail
  refine (read_uart B b s reg _ HH.out HK.out hreg).mono ?_
  rintro e w1 ⟨rfl, ha, hb⟩
  have h3 := bel_in hb hpn H2.out
  have g0 := cell_in (j := 0) h3 rfl
  have f0 := frozen_in h3 0
  simp only [List.getElem_toArray, List.getElem_cons_zero] at g0
  have HA := Lib.hid ha; have HBB := Lib.hid hb; clear ha hb h3
  go_wp2_with fail
  go_end0
  exact ⟨rfl, _, rfl, HA.out, HBB.out⟩

set_option maxHeartbeats 1000000 in
theorem wclo_timer (B b pr pn : Nat) (s : St) (reg n : Int) (w : World) (h : Works B 63 w b s) (hk : s.k = 2) (hreg : 0 ≤ reg ∧ reg < 4) (hs : 0 ≤ s.sent ∧ s.sent ≤ 2147483647)
    (h1 : w.cell? ⟨pr, 0, none⟩ = some (.int .i64 reg)) (h2 : w.cell? ⟨pn, 0, none⟩ = some (.int .i64 n)) :
    Calls Try.prog 23 #[.iface 62 (.pointer (some ⟨b, 0, none⟩)), .pointer (some ⟨pr, 0, none⟩), .pointer (some ⟨pn, 0, none⟩)] w fun e w' => e = .returned (.tuple #[]) ∧ After B 63 w' b (writeS s reg (wrap32 n)) ∧ Below B w w' := by
  have m1 := meth_write_timer
  have m2 := nila_write_timer
  have HH := Lib.hid h; have HK := Lib.hid hk; clear h hk
  go_enter Try.func23, Try.ntmps23
  go_wp2_with fail
  go_still_tail 7, (by kernel_rfl)
  still_call ((wrap_any n _).mono fun _ _ hh => ⟨hh.1, hh.2.symm⟩)
  repeat still_step
  refine wpStill_nil ?_
  change wpList _ _ _ _ _ w.drew
  go_wp2_with fail
  refine (write_timer B b s reg _ _ (Works.drew HH.out) HK.out hreg hs).mono ?_
  rintro e w1 ⟨rfl, ha, hb⟩
  have HA := Lib.hid ha; have HBB := Lib.hid hb; clear ha hb
  go_wp2_with fail
  go_end0
  exact ⟨rfl, HA.out, Below.of_drew HBB.out⟩
set_option maxHeartbeats 1000000 in
theorem iclo_timer (B b pn : Nat) (s : St) (n : Int) (w : World) (h : Works B 63 w b s) (hk : s.k = 2) (hr0 : -2147483648 ≤ s.r0 ∧ s.r0 ≤ 2147483647)
    (h2 : w.cell? ⟨pn, 0, none⟩ = some (.int .i64 n)) :
    Calls Try.prog 27 #[.iface 62 (.pointer (some ⟨b, 0, none⟩)), .pointer (some ⟨pn, 0, none⟩)] w fun e w' => e = .returned (.tuple #[]) ∧ After B 63 w' b (inputS s (wrap32 n)) ∧ Below B w w' := by
  have m1 := meth_input_timer
  have m2 := nila_input_timer
  have HH := Lib.hid h; have HK := Lib.hid hk; clear h hk
  go_enter Try.func27, Try.ntmps27
  go_wp2_with fail
  go_still_tail 6, (by kernel_rfl)
  still_call ((wrap_any n _).mono fun _ _ hh => ⟨hh.1, hh.2.symm⟩)
  repeat still_step
  refine wpStill_nil ?_
  change wpList _ _ _ _ _ w.drew
  go_wp2_with fail
  refine (input_timer B b s _ _ (Works.drew HH.out) HK.out (w32_bd n) hr0).mono ?_
  rintro e w1 ⟨rfl, ha, hb⟩
  have HA := Lib.hid ha; have HBB := Lib.hid hb; clear ha hb
  go_wp2_with fail
  go_end0
  exact ⟨rfl, HA.out, Below.of_drew HBB.out⟩
set_option maxHeartbeats 1000000 in
theorem rclo_timer (B b pr pn : Nat) (s : St) (reg : Int) (u : Value) (T : TypeId) (w : World) (h : Works B 63 w b s) (hk : s.k = 2) (hreg : 0 ≤ reg ∧ reg < 4)
    (h1 : w.cell? ⟨pr, 0, none⟩ = some (.int .i64 reg)) (h2 : w.heap[pn]? = some (.cells #[u] T (0, 0))) (hpn : pn < B) :
    Calls Try.prog 24 #[.iface 62 (.pointer (some ⟨b, 0, none⟩)), .pointer (some ⟨pr, 0, none⟩), .pointer (some ⟨pn, 0, none⟩)] w fun e w' => e = .returned (.tuple #[]) ∧ ∃ w1, w' = w1.setCell ⟨pn, 0, none⟩ (.int .i64 (readN s reg)) ∧ After B 63 w1 b (readS s reg) ∧ Below B w w1 := by
  have m1 := meth_read_timer
  have HH := Lib.hid h; have HK := Lib.hid hk; have H2 := Lib.hid h2; clear h hk h2
  go_enter Try.func24, Try.ntmps24
  go_wp2_with fail
  refine (read_timer B b s reg _ HH.out HK.out hreg).mono ?_
  rintro e w1 ⟨rfl, ha, hb⟩
  have h3 := bel_in hb hpn H2.out
  have g0 := cell_in (j := 0) h3 rfl
  have f0 := frozen_in h3 0
  simp only [List.getElem_toArray, List.getElem_cons_zero] at g0
  have HA := Lib.hid ha; have HBB := Lib.hid hb; clear ha hb h3
  go_wp2_with fail
  go_end0
  exact ⟨rfl, _, rfl, HA.out, HBB.out⟩

set_option maxHeartbeats 1000000 in
theorem wclo_gpio (B b pr pn : Nat) (s : St) (reg n : Int) (w : World) (h : Works B 65 w b s) (hk : s.k = 3) (hreg : 0 ≤ reg ∧ reg < 4) (hs : 0 ≤ s.sent ∧ s.sent ≤ 2147483647)
    (h1 : w.cell? ⟨pr, 0, none⟩ = some (.int .i64 reg)) (h2 : w.cell? ⟨pn, 0, none⟩ = some (.int .i64 n)) :
    Calls Try.prog 23 #[.iface 64 (.pointer (some ⟨b, 0, none⟩)), .pointer (some ⟨pr, 0, none⟩), .pointer (some ⟨pn, 0, none⟩)] w fun e w' => e = .returned (.tuple #[]) ∧ After B 65 w' b (writeS s reg (wrap32 n)) ∧ Below B w w' := by
  have m1 := meth_write_gpio
  have m2 := nila_write_gpio
  have HH := Lib.hid h; have HK := Lib.hid hk; clear h hk
  go_enter Try.func23, Try.ntmps23
  go_wp2_with fail
  go_still_tail 7, (by kernel_rfl)
  still_call ((wrap_any n _).mono fun _ _ hh => ⟨hh.1, hh.2.symm⟩)
  repeat still_step
  refine wpStill_nil ?_
  change wpList _ _ _ _ _ w.drew
  go_wp2_with fail
  refine (write_gpio B b s reg _ _ (Works.drew HH.out) HK.out hreg hs).mono ?_
  rintro e w1 ⟨rfl, ha, hb⟩
  have HA := Lib.hid ha; have HBB := Lib.hid hb; clear ha hb
  go_wp2_with fail
  go_end0
  exact ⟨rfl, HA.out, Below.of_drew HBB.out⟩
set_option maxHeartbeats 1000000 in
theorem iclo_gpio (B b pn : Nat) (s : St) (n : Int) (w : World) (h : Works B 65 w b s) (hk : s.k = 3) (hr0 : -2147483648 ≤ s.r0 ∧ s.r0 ≤ 2147483647)
    (h2 : w.cell? ⟨pn, 0, none⟩ = some (.int .i64 n)) :
    Calls Try.prog 27 #[.iface 64 (.pointer (some ⟨b, 0, none⟩)), .pointer (some ⟨pn, 0, none⟩)] w fun e w' => e = .returned (.tuple #[]) ∧ After B 65 w' b (inputS s (wrap32 n)) ∧ Below B w w' := by
  have m1 := meth_input_gpio
  have m2 := nila_input_gpio
  have HH := Lib.hid h; have HK := Lib.hid hk; clear h hk
  go_enter Try.func27, Try.ntmps27
  go_wp2_with fail
  go_still_tail 6, (by kernel_rfl)
  still_call ((wrap_any n _).mono fun _ _ hh => ⟨hh.1, hh.2.symm⟩)
  repeat still_step
  refine wpStill_nil ?_
  change wpList _ _ _ _ _ w.drew
  go_wp2_with fail
  refine (input_gpio B b s _ _ (Works.drew HH.out) HK.out (w32_bd n) hr0).mono ?_
  rintro e w1 ⟨rfl, ha, hb⟩
  have HA := Lib.hid ha; have HBB := Lib.hid hb; clear ha hb
  go_wp2_with fail
  go_end0
  exact ⟨rfl, HA.out, Below.of_drew HBB.out⟩
set_option maxHeartbeats 1000000 in
theorem rclo_gpio (B b pr pn : Nat) (s : St) (reg : Int) (u : Value) (T : TypeId) (w : World) (h : Works B 65 w b s) (hk : s.k = 3) (hreg : 0 ≤ reg ∧ reg < 4)
    (h1 : w.cell? ⟨pr, 0, none⟩ = some (.int .i64 reg)) (h2 : w.heap[pn]? = some (.cells #[u] T (0, 0))) (hpn : pn < B) :
    Calls Try.prog 24 #[.iface 64 (.pointer (some ⟨b, 0, none⟩)), .pointer (some ⟨pr, 0, none⟩), .pointer (some ⟨pn, 0, none⟩)] w fun e w' => e = .returned (.tuple #[]) ∧ ∃ w1, w' = w1.setCell ⟨pn, 0, none⟩ (.int .i64 (readN s reg)) ∧ After B 65 w1 b (readS s reg) ∧ Below B w w1 := by
  have m1 := meth_read_gpio
  have HH := Lib.hid h; have HK := Lib.hid hk; have H2 := Lib.hid h2; clear h hk h2
  go_enter Try.func24, Try.ntmps24
  go_wp2_with fail
  refine (read_gpio B b s reg _ HH.out HK.out hreg).mono ?_
  rintro e w1 ⟨rfl, ha, hb⟩
  have h3 := bel_in hb hpn H2.out
  have g0 := cell_in (j := 0) h3 rfl
  have f0 := frozen_in h3 0
  simp only [List.getElem_toArray, List.getElem_cons_zero] at g0
  have HA := Lib.hid ha; have HBB := Lib.hid hb; clear ha hb h3
  go_wp2_with fail
  go_end0
  exact ⟨rfl, _, rfl, HA.out, HBB.out⟩
end Go.Proofs.Ytodcmmdobnjbbaa
