/-
  The contracts of slices.Repeat (at one number, up to four times) and store.New.
-/
import Derived.Test.YtkhobelceghgfaaMemLoad
import Derived.Laws.CopyOwn
import Derived.Laws.OwnMore
import Derived.Deep.DeepCutAuto
namespace Go.Proofs.Ytkhobelceghgfaa
open Go.RowKit
set_option maxHeartbeats 2000000 in
theorem mul64_small (k : Int) (w : World) (hk : k = 1 ∨ k = 2 ∨ k = 3 ∨ k = 4) : Calls Try.prog 69 #[.int .u64 1, .int .u64 k] w fun e w' => e = .returned (.tuple #[.int .u64 0, .int .u64 k]) ∧ w = w' := by
  rcases hk with rfl | rfl | rfl | rfl
  all_goals
    go_enter Try.func69, Try.ntmps69
    go_wp2
    go_ret2
    exact ⟨ret2 (by kernel_rfl) (by kernel_rfl), rfl⟩
set_option maxHeartbeats 2000000 in
theorem mul_small (k : Int) (w : World) (hk : k = 1 ∨ k = 2 ∨ k = 3 ∨ k = 4) : Calls Try.prog 59 #[.int .u64 1, .int .u64 k] w fun e w' => e = .returned (.tuple #[.int .u64 0, .int .u64 k]) ∧ w = w' := by
  have HK := Lib.hid hk; clear hk
  go_enter Try.func59, Try.ntmps59
  go_wp2_with (go_at_call 69; ((with_reducible refine (mul64_small k _ HK.out).mono ?_); rintro e w' ⟨rfl, rfl⟩))
  go_ret2
  exact ⟨rfl, rfl⟩
theorem info_int1 : (Try.prog.info? 3).map (·.size) = some 1 := by kernel_rfl
set_option maxHeartbeats 4000000 in
theorem repeat_1 (b : Nat) (w : World) (hb : w.heap[b]? = some (.cells #[.int .i64 (-1)] 3 (0, 0))) :
    Calls Try.prog 33 #[.slice (some ⟨b, 0, none⟩) 1 1, .int .i64 1] w fun e w' => ∃ g, e = .returned (.slice (some ⟨g, 0, none⟩) 1 1) ∧ w'.heap[g]? = some (.cells #[.int .i64 (-1)] 3 (0, 0)) ∧ w.heap.size ≤ g ∧ Below w.heap.size w w' := by
  have HB := Lib.hid hb; clear hb
  have hmk : ∀ w, (Instr.makeSlice 24 (.int .i64 1) (.int .i64 1)).run Try.prog w = .ok (.slice (some ⟨w.heap.size, 0, none⟩) 1 1) (w.alloc (.cells #[.int .i64 0] 3)) := fun _ => by kernel_rfl
  have hsrc : ∀ (j : Nat) (v : Value), ([.int .i64 (-1)] : List Value)[j]? = some v → (w.alloc (.cells #[.int .i64 0] 3)).cell? ((⟨b, 0, none⟩ : Addr).add j) = some v := fun j v hj => by
    have : j = 0 := by have := (List.getElem?_eq_some_iff.1 hj).1; simp at this; exact this
    subst this; simp at hj; subst hj; rw [addr_add]; exact cell_in (up_in (bel_new w _) HB.out) rfl
  have HS := Lib.hid hsrc; clear hsrc
  have ho1 : ∀ v ∈ ([.int .i64 (-1)] : List Value), v.oneCell' = true := by simp [Value.oneCell']
  have HO1 := Lib.hid ho1; clear ho1
  go_enter Try.func33, Try.ntmps33
  go_wp2_with (first | (go_at_call 59; ((with_reducible refine (mul_small 1 _ (by decide)).mono ?_); rintro e w' ⟨rfl, rfl⟩)) | (refine wpList_copy_splice rfl (.tmp 31) (.tmp 32) 24 24 rfl 3 Try.underlying24 info_int1 _ _ 1 1 1 1 rfl rfl w.heap.size 0 [.int .i64 0] 3 (new_in w _) [.int .i64 (-1)] rfl (fun _ => ⟨rfl, ⟨b, 0, none⟩, rfl, HS.out⟩) (by decide) HO1.out w.heap.size w (bel_new w _) (Nat.le_refl _) ?_; intro w1 hg1 hb1; have HGx := Lib.hid hg1.out; have HBx := Lib.hid hb1; clear hg1 hb1))
  have HG1 : Hid (w1.heap[w.heap.size]? = some (.cells #[.int .i64 (-1)] 3 (0, 0))) := Lib.hid HGx.out
  have HB1 := HBx
  refine wp_loop_rounds 1 ?_
  rw [rounds_succ]
  go_wp2_with fail
  go_ret
  exact ⟨w.heap.size, rfl, HG1.out, Nat.le_refl _, HB1.out⟩
set_option maxHeartbeats 4000000 in
theorem repeat_2 (b : Nat) (w : World) (hb : w.heap[b]? = some (.cells #[.int .i64 (-1)] 3 (0, 0))) :
    Calls Try.prog 33 #[.slice (some ⟨b, 0, none⟩) 1 1, .int .i64 2] w fun e w' => ∃ g, e = .returned (.slice (some ⟨g, 0, none⟩) 2 2) ∧ w'.heap[g]? = some (.cells #[.int .i64 (-1), .int .i64 (-1)] 3 (0, 0)) ∧ w.heap.size ≤ g ∧ Below w.heap.size w w' := by
  have HB := Lib.hid hb; clear hb
  have hmk : ∀ w, (Instr.makeSlice 24 (.int .i64 2) (.int .i64 2)).run Try.prog w = .ok (.slice (some ⟨w.heap.size, 0, none⟩) 2 2) (w.alloc (.cells #[.int .i64 0, .int .i64 0] 3)) := fun _ => by kernel_rfl
  have hsrc : ∀ (j : Nat) (v : Value), ([.int .i64 (-1)] : List Value)[j]? = some v → (w.alloc (.cells #[.int .i64 0, .int .i64 0] 3)).cell? ((⟨b, 0, none⟩ : Addr).add j) = some v := fun j v hj => by
    have : j = 0 := by have := (List.getElem?_eq_some_iff.1 hj).1; simp at this; exact this
    subst this; simp at hj; subst hj; rw [addr_add]; exact cell_in (up_in (bel_new w _) HB.out) rfl
  have HS := Lib.hid hsrc; clear hsrc
  have ho1 : ∀ v ∈ ([.int .i64 (-1)] : List Value), v.oneCell' = true := by simp [Value.oneCell']
  have HO1 := Lib.hid ho1; clear ho1
  go_enter Try.func33, Try.ntmps33
  go_wp2_with (first | (go_at_call 59; ((with_reducible refine (mul_small 2 _ (by decide)).mono ?_); rintro e w' ⟨rfl, rfl⟩)) | (refine wpList_copy_splice rfl (.tmp 31) (.tmp 32) 24 24 rfl 3 Try.underlying24 info_int1 _ _ 2 2 1 1 rfl rfl w.heap.size 0 [.int .i64 0, .int .i64 0] 3 (new_in w _) [.int .i64 (-1)] rfl (fun _ => ⟨rfl, ⟨b, 0, none⟩, rfl, HS.out⟩) (by decide) HO1.out w.heap.size w (bel_new w _) (Nat.le_refl _) ?_; intro w1 hg1 hb1; have HGx := Lib.hid hg1.out; have HBx := Lib.hid hb1; clear hg1 hb1))
  have HG1 : Hid (w1.heap[w.heap.size]? = some (.cells #[.int .i64 (-1), .int .i64 0] 3 (0, 0))) := Lib.hid HGx.out
  have HB1 := HBx
  refine wp_loop_rounds 2 ?_
  rw [rounds_succ]
  go_wp2_with fail
  refine wp_region_up (fun _ => True) [true, true, true, true, true, true, true] (by kernel_rfl) (by kernel_rfl) (by kernel_rfl) (fun _ _ _ _ => trivial) trivial ?a0 ?h0 ?ht0
  case h0 =>
    intro w0 _
    simp only [pickM]
    repeat (go_big_quiet_step (fail))
    refine wpQuiet_nil ?_
    rfl
  change wpAnyU _ _ _ _ _ 3 _ _ _
  refine anyU_one (i := 7) (by kernel_rfl) rfl ?_
  intro wa0 hua0 _
  have HGa0 := Lib.hid (up_in (bw_undrew hua0) HG1.out); have HBa0 := Lib.hid (bw_tr HB1.out (bw_undrew hua0)); clear hua0
  refine wpList_copy_splice rfl (.tmp 41) (.tmp 44) 24 24 rfl 3 Try.underlying24 info_int1 _ _ 1 1 1 2 rfl rfl w.heap.size 1 [.int .i64 (-1), .int .i64 0] 3 HGa0.out [.int .i64 (-1)] (by decide) (fun _ => ⟨rfl, ⟨w.heap.size, 0, none⟩, rfl, fun j v hj => by
    have hj' : j < 1 := by have := (List.getElem?_eq_some_iff.1 hj).1; simpa using this
    rw [addr_add]; refine cell_in HGa0.out ?_
    obtain rfl : j = 0 := by omega
    all_goals (simp at hj; subst hj; rfl)
    ⟩) (by decide) (by simp [Value.oneCell']) w.heap.size w HBa0.out (Nat.le_refl _) ?_
  intro w2 hg2 hb2
  have HG2 : Hid (w2.heap[w.heap.size]? = some (.cells #[.int .i64 (-1), .int .i64 (-1)] 3 (0, 0))) := Lib.hid hg2.out
  have HB2 := Lib.hid hb2; clear hg2 hb2
  refine ⟨trivial, ?_⟩
  refine anyU_one (i := 8) (by kernel_rfl) rfl ?_
  intro wb0 hub0 _
  go_wp2_with fail
  refine ⟨trivial, ?_⟩
  refine anyU_one (i := 9) (by kernel_rfl) rfl ?_
  intro wc0 huc0 _
  go_wp2_with fail
  refine ⟨trivial, ?_⟩
  refine anyU_nil (by kernel_rfl) ?_
  intro wd0 hud0 _
  have HU0 : Hid (Up w2 wd0) := Lib.hid (up_tr (up_tr hub0 huc0) hud0)
  have HGd0 := Lib.hid (up_in HU0.out HG2.out); have HBd0 := Lib.hid (bw_tr HB2.out HU0.out)
  clear hub0 huc0 hud0
  obtain ⟨w3, hw3⟩ : ∃ x, x = wd0 := ⟨_, rfl⟩
  have HG3 := HGd0; have HB3 := HBd0
  go_wp2_with fail
  rw [rounds_succ]
  go_wp2_with fail
  go_ret
  exact ⟨w.heap.size, rfl, HG3.out, Nat.le_refl _, HB3.out⟩
set_option maxHeartbeats 4000000 in
theorem repeat_3 (b : Nat) (w : World) (hb : w.heap[b]? = some (.cells #[.int .i64 (-1)] 3 (0, 0))) :
    Calls Try.prog 33 #[.slice (some ⟨b, 0, none⟩) 1 1, .int .i64 3] w fun e w' => ∃ g, e = .returned (.slice (some ⟨g, 0, none⟩) 3 3) ∧ w'.heap[g]? = some (.cells #[.int .i64 (-1), .int .i64 (-1), .int .i64 (-1)] 3 (0, 0)) ∧ w.heap.size ≤ g ∧ Below w.heap.size w w' := by
  have HB := Lib.hid hb; clear hb
  have hmk : ∀ w, (Instr.makeSlice 24 (.int .i64 3) (.int .i64 3)).run Try.prog w = .ok (.slice (some ⟨w.heap.size, 0, none⟩) 3 3) (w.alloc (.cells #[.int .i64 0, .int .i64 0, .int .i64 0] 3)) := fun _ => by kernel_rfl
  have hsrc : ∀ (j : Nat) (v : Value), ([.int .i64 (-1)] : List Value)[j]? = some v → (w.alloc (.cells #[.int .i64 0, .int .i64 0, .int .i64 0] 3)).cell? ((⟨b, 0, none⟩ : Addr).add j) = some v := fun j v hj => by
    have : j = 0 := by have := (List.getElem?_eq_some_iff.1 hj).1; simp at this; exact this
    subst this; simp at hj; subst hj; rw [addr_add]; exact cell_in (up_in (bel_new w _) HB.out) rfl
  have HS := Lib.hid hsrc; clear hsrc
  have ho1 : ∀ v ∈ ([.int .i64 (-1)] : List Value), v.oneCell' = true := by simp [Value.oneCell']
  have HO1 := Lib.hid ho1; clear ho1
  go_enter Try.func33, Try.ntmps33
  go_wp2_with (first | (go_at_call 59; ((with_reducible refine (mul_small 3 _ (by decide)).mono ?_); rintro e w' ⟨rfl, rfl⟩)) | (refine wpList_copy_splice rfl (.tmp 31) (.tmp 32) 24 24 rfl 3 Try.underlying24 info_int1 _ _ 3 3 1 1 rfl rfl w.heap.size 0 [.int .i64 0, .int .i64 0, .int .i64 0] 3 (new_in w _) [.int .i64 (-1)] rfl (fun _ => ⟨rfl, ⟨b, 0, none⟩, rfl, HS.out⟩) (by decide) HO1.out w.heap.size w (bel_new w _) (Nat.le_refl _) ?_; intro w1 hg1 hb1; have HGx := Lib.hid hg1.out; have HBx := Lib.hid hb1; clear hg1 hb1))
  have HG1 : Hid (w1.heap[w.heap.size]? = some (.cells #[.int .i64 (-1), .int .i64 0, .int .i64 0] 3 (0, 0))) := Lib.hid HGx.out
  have HB1 := HBx
  refine wp_loop_rounds 3 ?_
  rw [rounds_succ]
  go_wp2_with fail
  refine wp_region_up (fun _ => True) [true, true, true, true, true, true, true] (by kernel_rfl) (by kernel_rfl) (by kernel_rfl) (fun _ _ _ _ => trivial) trivial ?a0 ?h0 ?ht0
  case h0 =>
    intro w0 _
    simp only [pickM]
    repeat (go_big_quiet_step (fail))
    refine wpQuiet_nil ?_
    rfl
  change wpAnyU _ _ _ _ _ 3 _ _ _
  refine anyU_one (i := 7) (by kernel_rfl) rfl ?_
  intro wa0 hua0 _
  have HGa0 := Lib.hid (up_in (bw_undrew hua0) HG1.out); have HBa0 := Lib.hid (bw_tr HB1.out (bw_undrew hua0)); clear hua0
  refine wpList_copy_splice rfl (.tmp 41) (.tmp 44) 24 24 rfl 3 Try.underlying24 info_int1 _ _ 2 2 1 3 rfl rfl w.heap.size 1 [.int .i64 (-1), .int .i64 0, .int .i64 0] 3 HGa0.out [.int .i64 (-1)] (by decide) (fun _ => ⟨rfl, ⟨w.heap.size, 0, none⟩, rfl, fun j v hj => by
    have hj' : j < 1 := by have := (List.getElem?_eq_some_iff.1 hj).1; simpa using this
    rw [addr_add]; refine cell_in HGa0.out ?_
    obtain rfl : j = 0 := by omega
    all_goals (simp at hj; subst hj; rfl)
    ⟩) (by decide) (by simp [Value.oneCell']) w.heap.size w HBa0.out (Nat.le_refl _) ?_
  intro w2 hg2 hb2
  have HG2 : Hid (w2.heap[w.heap.size]? = some (.cells #[.int .i64 (-1), .int .i64 (-1), .int .i64 0] 3 (0, 0))) := Lib.hid hg2.out
  have HB2 := Lib.hid hb2; clear hg2 hb2
  refine ⟨trivial, ?_⟩
  refine anyU_one (i := 8) (by kernel_rfl) rfl ?_
  intro wb0 hub0 _
  go_wp2_with fail
  refine ⟨trivial, ?_⟩
  refine anyU_one (i := 9) (by kernel_rfl) rfl ?_
  intro wc0 huc0 _
  go_wp2_with fail
  refine ⟨trivial, ?_⟩
  refine anyU_nil (by kernel_rfl) ?_
  intro wd0 hud0 _
  have HU0 : Hid (Up w2 wd0) := Lib.hid (up_tr (up_tr hub0 huc0) hud0)
  have HGd0 := Lib.hid (up_in HU0.out HG2.out); have HBd0 := Lib.hid (bw_tr HB2.out HU0.out)
  clear hub0 huc0 hud0
  obtain ⟨w3, hw3⟩ : ∃ x, x = wd0 := ⟨_, rfl⟩
  have HG3 := HGd0; have HB3 := HBd0
  go_wp2_with fail
  rw [rounds_succ]
  go_wp2_with fail
  refine wp_region_up (fun _ => True) [true, true, true, true, true, true, true] (by kernel_rfl) (by kernel_rfl) (by kernel_rfl) (fun _ _ _ _ => trivial) trivial ?a1 ?h1 ?ht1
  case h1 =>
    intro w0 _
    simp only [pickM]
    repeat (go_big_quiet_step (fail))
    refine wpQuiet_nil ?_
    rfl
  change wpAnyU _ _ _ _ _ 3 _ _ _
  refine anyU_one (i := 7) (by kernel_rfl) rfl ?_
  intro wa1 hua1 _
  have HGa1 := Lib.hid (up_in (bw_undrew hua1) HG3.out); have HBa1 := Lib.hid (bw_tr HB3.out (bw_undrew hua1)); clear hua1
  refine wpList_copy_splice rfl (.tmp 41) (.tmp 44) 24 24 rfl 3 Try.underlying24 info_int1 _ _ 1 1 2 3 rfl rfl w.heap.size 2 [.int .i64 (-1), .int .i64 (-1), .int .i64 0] 3 HGa1.out [.int .i64 (-1)] (by decide) (fun _ => ⟨rfl, ⟨w.heap.size, 0, none⟩, rfl, fun j v hj => by
    have hj' : j < 1 := by have := (List.getElem?_eq_some_iff.1 hj).1; simpa using this
    rw [addr_add]; refine cell_in HGa1.out ?_
    obtain rfl : j = 0 := by omega
    all_goals (simp at hj; subst hj; rfl)
    ⟩) (by decide) (by simp [Value.oneCell']) w.heap.size w HBa1.out (Nat.le_refl _) ?_
  intro w4 hg4 hb4
  have HG4 : Hid (w4.heap[w.heap.size]? = some (.cells #[.int .i64 (-1), .int .i64 (-1), .int .i64 (-1)] 3 (0, 0))) := Lib.hid hg4.out
  have HB4 := Lib.hid hb4; clear hg4 hb4
  refine ⟨trivial, ?_⟩
  refine anyU_one (i := 8) (by kernel_rfl) rfl ?_
  intro wb1 hub1 _
  go_wp2_with fail
  refine ⟨trivial, ?_⟩
  refine anyU_one (i := 9) (by kernel_rfl) rfl ?_
  intro wc1 huc1 _
  go_wp2_with fail
  refine ⟨trivial, ?_⟩
  refine anyU_nil (by kernel_rfl) ?_
  intro wd1 hud1 _
  have HU1 : Hid (Up w4 wd1) := Lib.hid (up_tr (up_tr hub1 huc1) hud1)
  have HGd1 := Lib.hid (up_in HU1.out HG4.out); have HBd1 := Lib.hid (bw_tr HB4.out HU1.out)
  clear hub1 huc1 hud1
  obtain ⟨w5, hw5⟩ : ∃ x, x = wd1 := ⟨_, rfl⟩
  have HG5 := HGd1; have HB5 := HBd1
  go_wp2_with fail
  rw [rounds_succ]
  go_wp2_with fail
  go_ret
  exact ⟨w.heap.size, rfl, HG5.out, Nat.le_refl _, HB5.out⟩
set_option maxHeartbeats 4000000 in
theorem repeat_4 (b : Nat) (w : World) (hb : w.heap[b]? = some (.cells #[.int .i64 (-1)] 3 (0, 0))) :
    Calls Try.prog 33 #[.slice (some ⟨b, 0, none⟩) 1 1, .int .i64 4] w fun e w' => ∃ g, e = .returned (.slice (some ⟨g, 0, none⟩) 4 4) ∧ w'.heap[g]? = some (.cells #[.int .i64 (-1), .int .i64 (-1), .int .i64 (-1), .int .i64 (-1)] 3 (0, 0)) ∧ w.heap.size ≤ g ∧ Below w.heap.size w w' := by
  have HB := Lib.hid hb; clear hb
  have hmk : ∀ w, (Instr.makeSlice 24 (.int .i64 4) (.int .i64 4)).run Try.prog w = .ok (.slice (some ⟨w.heap.size, 0, none⟩) 4 4) (w.alloc (.cells #[.int .i64 0, .int .i64 0, .int .i64 0, .int .i64 0] 3)) := fun _ => by kernel_rfl
  have hsrc : ∀ (j : Nat) (v : Value), ([.int .i64 (-1)] : List Value)[j]? = some v → (w.alloc (.cells #[.int .i64 0, .int .i64 0, .int .i64 0, .int .i64 0] 3)).cell? ((⟨b, 0, none⟩ : Addr).add j) = some v := fun j v hj => by
    have : j = 0 := by have := (List.getElem?_eq_some_iff.1 hj).1; simp at this; exact this
    subst this; simp at hj; subst hj; rw [addr_add]; exact cell_in (up_in (bel_new w _) HB.out) rfl
  have HS := Lib.hid hsrc; clear hsrc
  have ho1 : ∀ v ∈ ([.int .i64 (-1)] : List Value), v.oneCell' = true := by simp [Value.oneCell']
  have HO1 := Lib.hid ho1; clear ho1
  go_enter Try.func33, Try.ntmps33
  go_wp2_with (first | (go_at_call 59; ((with_reducible refine (mul_small 4 _ (by decide)).mono ?_); rintro e w' ⟨rfl, rfl⟩)) | (refine wpList_copy_splice rfl (.tmp 31) (.tmp 32) 24 24 rfl 3 Try.underlying24 info_int1 _ _ 4 4 1 1 rfl rfl w.heap.size 0 [.int .i64 0, .int .i64 0, .int .i64 0, .int .i64 0] 3 (new_in w _) [.int .i64 (-1)] rfl (fun _ => ⟨rfl, ⟨b, 0, none⟩, rfl, HS.out⟩) (by decide) HO1.out w.heap.size w (bel_new w _) (Nat.le_refl _) ?_; intro w1 hg1 hb1; have HGx := Lib.hid hg1.out; have HBx := Lib.hid hb1; clear hg1 hb1))
  have HG1 : Hid (w1.heap[w.heap.size]? = some (.cells #[.int .i64 (-1), .int .i64 0, .int .i64 0, .int .i64 0] 3 (0, 0))) := Lib.hid HGx.out
  have HB1 := HBx
  refine wp_loop_rounds 3 ?_
  rw [rounds_succ]
  go_wp2_with fail
  refine wp_region_up (fun _ => True) [true, true, true, true, true, true, true] (by kernel_rfl) (by kernel_rfl) (by kernel_rfl) (fun _ _ _ _ => trivial) trivial ?a0 ?h0 ?ht0
  case h0 =>
    intro w0 _
    simp only [pickM]
    repeat (go_big_quiet_step (fail))
    refine wpQuiet_nil ?_
    rfl
  change wpAnyU _ _ _ _ _ 3 _ _ _
  refine anyU_one (i := 7) (by kernel_rfl) rfl ?_
  intro wa0 hua0 _
  have HGa0 := Lib.hid (up_in (bw_undrew hua0) HG1.out); have HBa0 := Lib.hid (bw_tr HB1.out (bw_undrew hua0)); clear hua0
  refine wpList_copy_splice rfl (.tmp 41) (.tmp 44) 24 24 rfl 3 Try.underlying24 info_int1 _ _ 3 3 1 4 rfl rfl w.heap.size 1 [.int .i64 (-1), .int .i64 0, .int .i64 0, .int .i64 0] 3 HGa0.out [.int .i64 (-1)] (by decide) (fun _ => ⟨rfl, ⟨w.heap.size, 0, none⟩, rfl, fun j v hj => by
    have hj' : j < 1 := by have := (List.getElem?_eq_some_iff.1 hj).1; simpa using this
    rw [addr_add]; refine cell_in HGa0.out ?_
    obtain rfl : j = 0 := by omega
    all_goals (simp at hj; subst hj; rfl)
    ⟩) (by decide) (by simp [Value.oneCell']) w.heap.size w HBa0.out (Nat.le_refl _) ?_
  intro w2 hg2 hb2
  have HG2 : Hid (w2.heap[w.heap.size]? = some (.cells #[.int .i64 (-1), .int .i64 (-1), .int .i64 0, .int .i64 0] 3 (0, 0))) := Lib.hid hg2.out
  have HB2 := Lib.hid hb2; clear hg2 hb2
  refine ⟨trivial, ?_⟩
  refine anyU_one (i := 8) (by kernel_rfl) rfl ?_
  intro wb0 hub0 _
  go_wp2_with fail
  refine ⟨trivial, ?_⟩
  refine anyU_one (i := 9) (by kernel_rfl) rfl ?_
  intro wc0 huc0 _
  go_wp2_with fail
  refine ⟨trivial, ?_⟩
  refine anyU_nil (by kernel_rfl) ?_
  intro wd0 hud0 _
  have HU0 : Hid (Up w2 wd0) := Lib.hid (up_tr (up_tr hub0 huc0) hud0)
  have HGd0 := Lib.hid (up_in HU0.out HG2.out); have HBd0 := Lib.hid (bw_tr HB2.out HU0.out)
  clear hub0 huc0 hud0
  obtain ⟨w3, hw3⟩ : ∃ x, x = wd0 := ⟨_, rfl⟩
  have HG3 := HGd0; have HB3 := HBd0
  go_wp2_with fail
  rw [rounds_succ]
  go_wp2_with fail
  refine wp_region_up (fun _ => True) [true, true, true, true, true, true, true] (by kernel_rfl) (by kernel_rfl) (by kernel_rfl) (fun _ _ _ _ => trivial) trivial ?a1 ?h1 ?ht1
  case h1 =>
    intro w0 _
    simp only [pickM]
    repeat (go_big_quiet_step (fail))
    refine wpQuiet_nil ?_
    rfl
  change wpAnyU _ _ _ _ _ 3 _ _ _
  refine anyU_one (i := 7) (by kernel_rfl) rfl ?_
  intro wa1 hua1 _
  have HGa1 := Lib.hid (up_in (bw_undrew hua1) HG3.out); have HBa1 := Lib.hid (bw_tr HB3.out (bw_undrew hua1)); clear hua1
  refine wpList_copy_splice rfl (.tmp 41) (.tmp 44) 24 24 rfl 3 Try.underlying24 info_int1 _ _ 2 2 2 4 rfl rfl w.heap.size 2 [.int .i64 (-1), .int .i64 (-1), .int .i64 0, .int .i64 0] 3 HGa1.out [.int .i64 (-1), .int .i64 (-1)] (by decide) (fun _ => ⟨rfl, ⟨w.heap.size, 0, none⟩, rfl, fun j v hj => by
    have hj' : j < 2 := by have := (List.getElem?_eq_some_iff.1 hj).1; simpa using this
    rw [addr_add]; refine cell_in HGa1.out ?_
    rcases (by omega : j = 0 ∨ j = 1) with rfl | rfl
    all_goals (simp at hj; subst hj; rfl)
    ⟩) (by decide) (by simp [Value.oneCell']) w.heap.size w HBa1.out (Nat.le_refl _) ?_
  intro w4 hg4 hb4
  have HG4 : Hid (w4.heap[w.heap.size]? = some (.cells #[.int .i64 (-1), .int .i64 (-1), .int .i64 (-1), .int .i64 (-1)] 3 (0, 0))) := Lib.hid hg4.out
  have HB4 := Lib.hid hb4; clear hg4 hb4
  refine ⟨trivial, ?_⟩
  refine anyU_one (i := 8) (by kernel_rfl) rfl ?_
  intro wb1 hub1 _
  go_wp2_with fail
  refine ⟨trivial, ?_⟩
  refine anyU_one (i := 9) (by kernel_rfl) rfl ?_
  intro wc1 huc1 _
  go_wp2_with fail
  refine ⟨trivial, ?_⟩
  refine anyU_nil (by kernel_rfl) ?_
  intro wd1 hud1 _
  have HU1 : Hid (Up w4 wd1) := Lib.hid (up_tr (up_tr hub1 huc1) hud1)
  have HGd1 := Lib.hid (up_in HU1.out HG4.out); have HBd1 := Lib.hid (bw_tr HB4.out HU1.out)
  clear hub1 huc1 hud1
  obtain ⟨w5, hw5⟩ : ∃ x, x = wd1 := ⟨_, rfl⟩
  have HG5 := HGd1; have HB5 := HBd1
  go_wp2_with fail
  rw [rounds_succ]
  go_wp2_with fail
  go_ret
  exact ⟨w.heap.size, rfl, HG5.out, Nat.le_refl _, HB5.out⟩
-- END REPEAT
theorem repeat_any (k b : Nat) (w : World) (hk : 1 ≤ k ∧ k ≤ 4) (hb : w.heap[b]? = some (.cells #[.int .i64 (-1)] 3 (0, 0))) :
    Calls Try.prog 33 #[.slice (some ⟨b, 0, none⟩) 1 1, .int .i64 (k : Int)] w fun e w' => ∃ g, e = .returned (.slice (some ⟨g, 0, none⟩) k k) ∧ w'.heap[g]? = some (.cells (intC (List.replicate k (-1))).toArray 3 (0, 0)) ∧ w.heap.size ≤ g ∧ Below w.heap.size w w' := by
  rcases (by omega : k = 1 ∨ k = 2 ∨ k = 3 ∨ k = 4) with rfl | rfl | rfl | rfl
  · exact repeat_1 b w hb
  · exact repeat_2 b w hb
  · exact repeat_3 b w hb
  · exact repeat_4 b w hb
/-- A block that is one row. -/
theorem own_whole {w : World} {g e k n B : Nat} {xs : List Value} (h : w.heap[g]? = some (.cells xs.toArray e (0, 0))) (hB : B ≤ g) (hn : xs.length = n * k) (hm : n ≤ maxLen) : w.ownsRow B e k (.slice (some ⟨g, 0, none⟩) n n) n xs :=
  ⟨hn, .inr ⟨g, n, xs.toArray, rfl, hB, h, Nat.le_refl _, hm, by simpa using hn, by simp [← hn]⟩⟩
theorem info_ints : (Try.prog.info? 3).map (fun i => (i.zero, i.size, i.bytes)) = some (some (.int .i64 0), 1, 8) := by kernel_rfl
theorem made_one (z : Value) (n : Nat) : (madeCells #[z] (n * 1)).toList = List.replicate n z := by
  apply List.ext_getElem?
  intro i
  simp [madeCells, List.getElem?_replicate]
  try (split <;> simp_all [Nat.mod_one])
theorem below_grown {a w w' : World} (h : Below a.heap.size a w) (hg : w.grownBy w' none) : Below a.heap.size a w' := h.grown hg h.size (fun k hk => by cases hk)
theorem grown_up {w w' : World} (hg : w.grownBy w' none) : Below w.heap.size w w' := ⟨hg.os, hg.tape, hg.output, hg.size, fun k hk => hg.block k hk (by simp)⟩
theorem rows_nil {w : World} {h n : Nat} {B : Nat} {a : World} (_ : Below B a w) : ∀ (i : Nat) (r : Value) (l : List (Int × Int)), (List.replicate h (Value.slice none 0 0))[i]? = some r → (newMem h n).pend[i]? = some l → w.ownsRow 0 44 2 r l.length (entC l) := by
  intro i r l hr hl
  simp [newMem, List.getElem?_replicate] at hr hl
  obtain ⟨_, rfl⟩ := hr
  obtain ⟨_, rfl⟩ := hl
  exact World.ownsRow_nil _ _ _ _
theorem three_ready {P : Program} {ops : Array Oper} {md : Region.Mode} {C : World → Prop} {Q : Exit → Act → World → Prop} {f i k j : Nat} {oi ok oj : Oper} {listed : Array Bool} {a : Act} {w : World} (hr : Region.ready md ops listed = [i, k, j]) (hoi : ops[i]? = some oi) (hok : ops[k]? = some ok) (hoj : ops[j]? = some oj)
    (h1 : ∀ w1, Up w w1 → C w1 → wpList P ops (QN fun a' w' => C w' ∧ wpAnyU P md ops C Q f (listed.setIfInBounds i true) a' w') [oi] a w1)
    (h2 : ∀ w1, Up w w1 → C w1 → wpList P ops (QN fun a' w' => C w' ∧ wpAnyU P md ops C Q f (listed.setIfInBounds k true) a' w') [ok] a w1)
    (h3 : ∀ w1, Up w w1 → C w1 → wpList P ops (QN fun a' w' => C w' ∧ wpAnyU P md ops C Q f (listed.setIfInBounds j true) a' w') [oj] a w1) : wpAnyU P md ops C Q (f + 1) listed a w := by
  intro w1 hu hc
  refine ⟨fun h => (by rw [hr] at h; cases h), fun x hx => ?_⟩
  rw [hr] at hx
  have hx' : x = i ∨ x = k ∨ x = j := by simpa using hx
  rcases hx' with rfl | rfl | rfl
  · exact anyU_step hoi (h1 w1 hu hc)
  · exact anyU_step hok (h2 w1 hu hc)
  · exact anyU_step hoj (h3 w1 hu hc)
def newR (h n : Int) : Mem × Int := if 1 ≤ h ∧ h ≤ 4 ∧ 0 ≤ n ∧ n ≤ 4096 then (newMem h.toNat n.toNat, 0) else (noMem, 1)
set_option maxHeartbeats 2000000 in
theorem new_no (h n : Int) (w : World) (hh : ¬ (1 ≤ h ∧ h ≤ 4 ∧ 0 ≤ n ∧ n ≤ 4096)) :
    Calls Try.prog 11 #[.int .i64 h, .int .i64 n] w (MemRet w w.heap.size (noMem, 1)) := by
  unfold MemRet
  have e : (h < 1) ∨ (1 ≤ h ∧ 4 < h) ∨ (1 ≤ h ∧ h ≤ 4 ∧ n < 0) ∨ (1 ≤ h ∧ h ≤ 4 ∧ 0 ≤ n ∧ 4096 < n) := by omega
  clear hh
  rcases e with e | ⟨e, e2⟩ | ⟨e, e2, e3⟩ | ⟨e, e2, e3, e4⟩
  all_goals
    go_enter Try.func11, Try.ntmps11
    go_wp2
    exact bodyPost_ret (v := .tuple #[.agg #[.slice none 0 0, .slice none 0 0, .slice none 0 0], .int .i64 1]) (by simp [results, Try.results11, go_sem]) rfl ⟨_, rfl, isMem_no _, (by repeat (first | (with_reducible exact Below.refl _ _) | (with_reducible refine bw_set ?_ ?_ _) | (with_reducible apply bw_alloc) | (with_reducible refine bw_tr ?_ (by with_reducible assumption)) | (with_reducible apply bw_drew) | omega))⟩
set_option maxHeartbeats 8000000 in
theorem new_yes (h n : Nat) (w : World) (hh : 1 ≤ h ∧ h ≤ 4) (hn : n ≤ 4096) :
    Calls Try.prog 11 #[.int .i64 (h : Int), .int .i64 (n : Int)] w (MemRet w w.heap.size (newMem h n, 0)) := by
  unfold MemRet
  obtain ⟨hh1, hh2⟩ := hh
  obtain ⟨i0, hi, hz0, hz1, hz2⟩ := info_parts info_ints
  obtain ⟨i1, hi', hy0, hy1, hy2⟩ := info_parts info_ents
  go_enter Try.func11, Try.ntmps11
  go_upto_region 3 with (fail)
  go_cut [4, 5] (fun s4 s5 wx => ∃ wv pv rv, s4 = .pointer (some ⟨w.heap.size, 0, none⟩) ∧ s5 = .int .i64 0 ∧ IsMem wx (.agg #[wv, pv, rv]) (newMem h n) ∧ wx.heap[w.heap.size]? = some (.cells #[wv, pv, rv] 27 (0, 0)) ∧ Below w.heap.size w wx)
  case first =>
    refine wp_region_up (fun _ => True) [true, false, true, false, false, true] (by kernel_rfl) (by kernel_rfl) (by kernel_rfl) (fun _ _ _ _ => trivial) trivial ?a' ?h ?ht
    case h =>
      intro w0 _
      simp only [pickM]
      repeat (go_big_quiet_step (fail))
      refine wpQuiet_nil ?_
      rfl
    case ht =>
      change wpAnyU _ _ _ _ _ 7 _ _ _
      have HB0 : Hid (Below w.heap.size w (w.alloc zM).drew) := Lib.hid (bw_drew (bel_new _ _))
      have HQ0 : Hid ((w.alloc zM).drew.heap[w.heap.size]? = some (.cells #[.slice none 0 0, .slice none 0 0, .slice none 0 0] 27 (0, 0))) := Lib.hid (new_in w zM)
      refine three_ready (i := 1) (k := 3) (j := 4) (by kernel_rfl) rfl rfl rfl ?_ ?_ ?_
      · intro w1 hu1 _
        have B_1 := Lib.hid (bw_tr HB0.out hu1)
        clear HB0
        have Q_1 := Lib.hid (up_in hu1 HQ0.out)
        clear HQ0
        have hsz1 : w.heap.size ≤ w1.heap.size := B_1.out.size
        obtain ⟨v1, hmk1, ho1, hg1⟩ := run_make_full (P := Try.prog) w1 w.heap.size 24 3 i0 (.int .i64 0) 1 Try.underlying24 hi hz0 hz1 .i64 .i64 n (by rw [hz2]; omega) (by unfold maxLen; omega) hsz1
        rw [show (Value.int .i64 0 : Value).cells = #[Value.int .i64 0] from rfl, made_one] at ho1
        have B_1b := Lib.hid (bw_tr B_1.out (grown_up hg1))
        clear B_1
        have Q_1b := Lib.hid (up_in (grown_up hg1) Q_1.out)
        clear Q_1
        have HO1 := Lib.hid ho1
        clear ho1 hg1
        go_wp2_with fail
        clear hmk1
        refine ⟨trivial, ?_⟩
        refine anyU_two (i := 3) (k := 4) (by kernel_rfl) rfl rfl ?_ ?_
        · intro w2 hu2 _
          have B_2 := Lib.hid (bw_tr B_1b.out hu2)
          clear B_1b
          have Q_2 := Lib.hid (up_in hu2 Q_1b.out)
          clear Q_1b
          have W_2 := Lib.hid (own_below HO1.out hu2)
          clear HO1
          have hsz2 : w.heap.size ≤ w2.heap.size := B_2.out.size
          obtain ⟨v2, hmk2, ho2, hg2⟩ := run_make_full (P := Try.prog) w2 w.heap.size 25 42 i1 (.slice none 0 0) 1 Try.underlying25 hi' hy0 hy1 .i64 .i64 h (by rw [hy2]; omega) (by unfold maxLen; omega) hsz2
          rw [show (Value.slice none 0 0 : Value).cells = #[Value.slice none 0 0] from rfl, made_one] at ho2
          have B_2b := Lib.hid (bw_tr B_2.out (grown_up hg2))
          clear B_2
          have Q_2b := Lib.hid (up_in (grown_up hg2) Q_2.out)
          clear Q_2
          have W_2b := Lib.hid (own_below W_2.out (grown_up hg2))
          clear W_2
          have HO3 := Lib.hid ho2
          clear ho2 hg2
          go_wp2_with fail
          clear hmk2
          refine ⟨trivial, ?_⟩
          refine anyU_one (i := 4) (by kernel_rfl) rfl ?_
          intro w3 hu3 _
          have B_3 := Lib.hid (bw_tr B_2b.out hu3)
          clear B_2b
          have Q_3 := Lib.hid (up_in hu3 Q_2b.out)
          clear Q_2b
          have W_3 := Lib.hid (own_below W_2b.out hu3)
          clear W_2b
          have P_3 := Lib.hid (own_below HO3.out hu3)
          clear HO3
          go_wp2_with fail
          have B_3b := Lib.hid (bw_tr B_3.out (bel_new w3 (.cells #[.int .i64 (-1)] 3)))
          clear B_3
          have Q_3b := Lib.hid (up_in (bel_new w3 (.cells #[.int .i64 (-1)] 3)) Q_3.out)
          clear Q_3
          have W_3b := Lib.hid (own_below W_3.out (bel_new w3 (.cells #[.int .i64 (-1)] 3)))
          clear W_3
          have P_3b := Lib.hid (own_below P_3.out (bel_new w3 (.cells #[.int .i64 (-1)] 3)))
          clear P_3
          have HS := Lib.hid (new_in w3 (.cells #[.int .i64 (-1)] 3))
          refine ⟨trivial, ?_⟩
          refine anyU_one (i := 6) (by kernel_rfl) rfl ?_
          intro w4 hu4 _
          have B_4 := Lib.hid (bw_tr B_3b.out hu4)
          clear B_3b
          have Q_4 := Lib.hid (up_in hu4 Q_3b.out)
          clear Q_3b
          have W_4 := Lib.hid (own_below W_3b.out hu4)
          clear W_3b
          have P_4 := Lib.hid (own_below P_3b.out hu4)
          clear P_3b
          have S_4 := Lib.hid (up_in hu4 HS.out)
          clear HS
          have hsz4 : w.heap.size ≤ w4.heap.size := B_4.out.size
          go_wp2_with fail
          refine (repeat_any h _ _ ⟨hh1, hh2⟩ S_4.out).mono ?_
          rintro e v4 ⟨gR, rfl, hR, hlR, hb4⟩
          have HR : Hid (v4.ownsRow w.heap.size 3 1 (.slice (some ⟨gR, 0, none⟩) h h) h (intC (List.replicate h (-1)))) := Lib.hid (own_whole hR (by omega) (by simp [intC]) (by unfold maxLen; omega))
          have B_4b := Lib.hid (bw_tr B_4.out hb4)
          clear B_4
          have Q_4b := Lib.hid (up_in hb4 Q_4.out)
          clear Q_4
          have W_4b := Lib.hid (own_below W_4.out hb4)
          clear W_4
          have P_4b := Lib.hid (own_below P_4.out hb4)
          clear P_4
          have S_4b := Lib.hid (up_in hb4 S_4.out)
          clear S_4
          clear hR hb4
          go_wp2_with fail
          refine ⟨trivial, ?_⟩
          refine anyU_one (i := 7) (by kernel_rfl) rfl ?_
          intro w5 hu5 _
          have B_5 := Lib.hid (bw_tr B_4b.out hu5)
          clear B_4b
          have Q_5 := Lib.hid (up_in hu5 Q_4b.out)
          clear Q_4b
          have W_5 := Lib.hid (own_below W_4b.out hu5)
          clear W_4b
          have P_5 := Lib.hid (own_below P_4b.out hu5)
          clear P_4b
          have R_5 := Lib.hid (own_below HR.out hu5)
          clear HR
          go_wp2_with fail
          refine ⟨trivial, ?_⟩
          refine anyU_one (i := 8) (by kernel_rfl) rfl ?_
          intro w6 hu6 _
          have B_6 := Lib.hid (bw_tr B_5.out hu6)
          clear B_5
          have Q_6 := Lib.hid (up_in hu6 Q_5.out)
          clear Q_5
          have W_6 := Lib.hid (own_below W_5.out hu6)
          clear W_5
          have P_6 := Lib.hid (own_below P_5.out hu6)
          clear P_5
          have R_6 := Lib.hid (own_below R_5.out hu6)
          clear R_5
          obtain ⟨⟨q0, q1, q2⟩, g0, g1, g2⟩ := six Q_6.out
          go_wp2_with fail
          have ZW := Lib.hid (own_set3 (.slice (some ⟨w1.heap.size, 0, none⟩) n n) (.slice (some ⟨w2.heap.size, 0, none⟩) h h) (.slice (some ⟨gR, 0, none⟩) h h) W_6.out Q_6.out (by decide))
          have ZP := Lib.hid (own_set3 (.slice (some ⟨w1.heap.size, 0, none⟩) n n) (.slice (some ⟨w2.heap.size, 0, none⟩) h h) (.slice (some ⟨gR, 0, none⟩) h h) P_6.out Q_6.out (by decide))
          have ZR := Lib.hid (own_set3 (.slice (some ⟨w1.heap.size, 0, none⟩) n n) (.slice (some ⟨w2.heap.size, 0, none⟩) h h) (.slice (some ⟨gR, 0, none⟩) h h) R_6.out Q_6.out (by decide))
          have ZB := Lib.hid (bel_set3 (x := .slice (some ⟨w1.heap.size, 0, none⟩) n n) (y := .slice (some ⟨w2.heap.size, 0, none⟩) h h) (z := .slice (some ⟨gR, 0, none⟩) h h) B_6.out (Nat.le_refl w.heap.size))
          have ZQ := Lib.hid (set3_spec (x := .slice (some ⟨w1.heap.size, 0, none⟩) n n) (y := .slice (some ⟨w2.heap.size, 0, none⟩) h h) (z := .slice (some ⟨gR, 0, none⟩) h h) Q_6.out).1
          clear q0 q1 q2 g0 g1 g2
          refine ⟨trivial, ?_⟩
          refine anyU_one (i := 9) (by kernel_rfl) rfl ?_
          intro w7 hu7 _
          have B_7 := Lib.hid (bw_tr ZB.out hu7)
          clear ZB
          have Q_7 := Lib.hid (up_in hu7 ZQ.out)
          clear ZQ
          have W_7 := Lib.hid (own_below ZW.out hu7)
          clear ZW
          have P_7 := Lib.hid (own_below ZP.out hu7)
          clear ZP
          have R_7 := Lib.hid (own_below ZR.out hu7)
          clear ZR
          go_wp2_with fail
          refine ⟨trivial, ?_⟩
          refine anyU_nil (by kernel_rfl) ?_
          intro w8 hu8 _
          have B_8 := Lib.hid (bw_tr B_7.out hu8)
          clear B_7
          have Q_8 := Lib.hid (up_in hu8 Q_7.out)
          clear Q_7
          have W_8 := Lib.hid (own_below W_7.out hu8)
          clear W_7
          have P_8 := Lib.hid (own_below P_7.out hu8)
          clear P_7
          have R_8 := Lib.hid (own_below R_7.out hu8)
          clear R_7
          go_wp2_with fail
          go_meet
          case rel => exact ⟨_, _, _, rfl, rfl, ⟨_, _, _, List.replicate h (.slice none 0 0), rfl, by simpa [newMem, intC] using own_zero W_8.out, by simpa [newMem] using own_zero P_8.out, by simpa [newMem, intC] using own_zero R_8.out, by simp [newMem], rows_nil B_8.out⟩, Q_8.out, B_8.out⟩
        · intro w2 hu2 _
          have B_2 := Lib.hid (bw_tr B_1b.out hu2)
          clear B_1b
          have Q_2 := Lib.hid (up_in hu2 Q_1b.out)
          clear Q_1b
          have W_2 := Lib.hid (own_below HO1.out hu2)
          clear HO1
          go_wp2_with fail
          have B_2b := Lib.hid (bw_tr B_2.out (bel_new w2 (.cells #[.int .i64 (-1)] 3)))
          clear B_2
          have Q_2b := Lib.hid (up_in (bel_new w2 (.cells #[.int .i64 (-1)] 3)) Q_2.out)
          clear Q_2
          have W_2b := Lib.hid (own_below W_2.out (bel_new w2 (.cells #[.int .i64 (-1)] 3)))
          clear W_2
          have HS := Lib.hid (new_in w2 (.cells #[.int .i64 (-1)] 3))
          refine ⟨trivial, ?_⟩
          refine anyU_two (i := 3) (k := 6) (by kernel_rfl) rfl rfl ?_ ?_
          · intro w3 hu3 _
            have B_3 := Lib.hid (bw_tr B_2b.out hu3)
            clear B_2b
            have Q_3 := Lib.hid (up_in hu3 Q_2b.out)
            clear Q_2b
            have W_3 := Lib.hid (own_below W_2b.out hu3)
            clear W_2b
            have S_3 := Lib.hid (up_in hu3 HS.out)
            clear HS
            have hsz3 : w.heap.size ≤ w3.heap.size := B_3.out.size
            obtain ⟨v3, hmk3, ho3, hg3⟩ := run_make_full (P := Try.prog) w3 w.heap.size 25 42 i1 (.slice none 0 0) 1 Try.underlying25 hi' hy0 hy1 .i64 .i64 h (by rw [hy2]; omega) (by unfold maxLen; omega) hsz3
            rw [show (Value.slice none 0 0 : Value).cells = #[Value.slice none 0 0] from rfl, made_one] at ho3
            have B_3b := Lib.hid (bw_tr B_3.out (grown_up hg3))
            clear B_3
            have Q_3b := Lib.hid (up_in (grown_up hg3) Q_3.out)
            clear Q_3
            have W_3b := Lib.hid (own_below W_3.out (grown_up hg3))
            clear W_3
            have S_3b := Lib.hid (up_in (grown_up hg3) S_3.out)
            clear S_3
            have HO3 := Lib.hid ho3
            clear ho3 hg3
            go_wp2_with fail
            clear hmk3
            refine ⟨trivial, ?_⟩
            refine anyU_one (i := 6) (by kernel_rfl) rfl ?_
            intro w4 hu4 _
            have B_4 := Lib.hid (bw_tr B_3b.out hu4)
            clear B_3b
            have Q_4 := Lib.hid (up_in hu4 Q_3b.out)
            clear Q_3b
            have W_4 := Lib.hid (own_below W_3b.out hu4)
            clear W_3b
            have S_4 := Lib.hid (up_in hu4 S_3b.out)
            clear S_3b
            have P_4 := Lib.hid (own_below HO3.out hu4)
            clear HO3
            have hsz4 : w.heap.size ≤ w4.heap.size := B_4.out.size
            go_wp2_with fail
            refine (repeat_any h _ _ ⟨hh1, hh2⟩ S_4.out).mono ?_
            rintro e v4 ⟨gR, rfl, hR, hlR, hb4⟩
            have HR : Hid (v4.ownsRow w.heap.size 3 1 (.slice (some ⟨gR, 0, none⟩) h h) h (intC (List.replicate h (-1)))) := Lib.hid (own_whole hR (by omega) (by simp [intC]) (by unfold maxLen; omega))
            have B_4b := Lib.hid (bw_tr B_4.out hb4)
            clear B_4
            have Q_4b := Lib.hid (up_in hb4 Q_4.out)
            clear Q_4
            have W_4b := Lib.hid (own_below W_4.out hb4)
            clear W_4
            have S_4b := Lib.hid (up_in hb4 S_4.out)
            clear S_4
            have P_4b := Lib.hid (own_below P_4.out hb4)
            clear P_4
            clear hR hb4
            go_wp2_with fail
            refine ⟨trivial, ?_⟩
            refine anyU_one (i := 7) (by kernel_rfl) rfl ?_
            intro w5 hu5 _
            have B_5 := Lib.hid (bw_tr B_4b.out hu5)
            clear B_4b
            have Q_5 := Lib.hid (up_in hu5 Q_4b.out)
            clear Q_4b
            have W_5 := Lib.hid (own_below W_4b.out hu5)
            clear W_4b
            have P_5 := Lib.hid (own_below P_4b.out hu5)
            clear P_4b
            have R_5 := Lib.hid (own_below HR.out hu5)
            clear HR
            go_wp2_with fail
            refine ⟨trivial, ?_⟩
            refine anyU_one (i := 8) (by kernel_rfl) rfl ?_
            intro w6 hu6 _
            have B_6 := Lib.hid (bw_tr B_5.out hu6)
            clear B_5
            have Q_6 := Lib.hid (up_in hu6 Q_5.out)
            clear Q_5
            have W_6 := Lib.hid (own_below W_5.out hu6)
            clear W_5
            have P_6 := Lib.hid (own_below P_5.out hu6)
            clear P_5
            have R_6 := Lib.hid (own_below R_5.out hu6)
            clear R_5
            obtain ⟨⟨q0, q1, q2⟩, g0, g1, g2⟩ := six Q_6.out
            go_wp2_with fail
            have ZW := Lib.hid (own_set3 (.slice (some ⟨w1.heap.size, 0, none⟩) n n) (.slice (some ⟨w3.heap.size, 0, none⟩) h h) (.slice (some ⟨gR, 0, none⟩) h h) W_6.out Q_6.out (by decide))
            have ZP := Lib.hid (own_set3 (.slice (some ⟨w1.heap.size, 0, none⟩) n n) (.slice (some ⟨w3.heap.size, 0, none⟩) h h) (.slice (some ⟨gR, 0, none⟩) h h) P_6.out Q_6.out (by decide))
            have ZR := Lib.hid (own_set3 (.slice (some ⟨w1.heap.size, 0, none⟩) n n) (.slice (some ⟨w3.heap.size, 0, none⟩) h h) (.slice (some ⟨gR, 0, none⟩) h h) R_6.out Q_6.out (by decide))
            have ZB := Lib.hid (bel_set3 (x := .slice (some ⟨w1.heap.size, 0, none⟩) n n) (y := .slice (some ⟨w3.heap.size, 0, none⟩) h h) (z := .slice (some ⟨gR, 0, none⟩) h h) B_6.out (Nat.le_refl w.heap.size))
            have ZQ := Lib.hid (set3_spec (x := .slice (some ⟨w1.heap.size, 0, none⟩) n n) (y := .slice (some ⟨w3.heap.size, 0, none⟩) h h) (z := .slice (some ⟨gR, 0, none⟩) h h) Q_6.out).1
            clear q0 q1 q2 g0 g1 g2
            refine ⟨trivial, ?_⟩
            refine anyU_one (i := 9) (by kernel_rfl) rfl ?_
            intro w7 hu7 _
            have B_7 := Lib.hid (bw_tr ZB.out hu7)
            clear ZB
            have Q_7 := Lib.hid (up_in hu7 ZQ.out)
            clear ZQ
            have W_7 := Lib.hid (own_below ZW.out hu7)
            clear ZW
            have P_7 := Lib.hid (own_below ZP.out hu7)
            clear ZP
            have R_7 := Lib.hid (own_below ZR.out hu7)
            clear ZR
            go_wp2_with fail
            refine ⟨trivial, ?_⟩
            refine anyU_nil (by kernel_rfl) ?_
            intro w8 hu8 _
            have B_8 := Lib.hid (bw_tr B_7.out hu8)
            clear B_7
            have Q_8 := Lib.hid (up_in hu8 Q_7.out)
            clear Q_7
            have W_8 := Lib.hid (own_below W_7.out hu8)
            clear W_7
            have P_8 := Lib.hid (own_below P_7.out hu8)
            clear P_7
            have R_8 := Lib.hid (own_below R_7.out hu8)
            clear R_7
            go_wp2_with fail
            go_meet
            case rel => exact ⟨_, _, _, rfl, rfl, ⟨_, _, _, List.replicate h (.slice none 0 0), rfl, by simpa [newMem, intC] using own_zero W_8.out, by simpa [newMem] using own_zero P_8.out, by simpa [newMem, intC] using own_zero R_8.out, by simp [newMem], rows_nil B_8.out⟩, Q_8.out, B_8.out⟩
          · intro w3 hu3 _
            have B_3 := Lib.hid (bw_tr B_2b.out hu3)
            clear B_2b
            have Q_3 := Lib.hid (up_in hu3 Q_2b.out)
            clear Q_2b
            have W_3 := Lib.hid (own_below W_2b.out hu3)
            clear W_2b
            have S_3 := Lib.hid (up_in hu3 HS.out)
            clear HS
            have hsz3 : w.heap.size ≤ w3.heap.size := B_3.out.size
            go_wp2_with fail
            refine (repeat_any h _ _ ⟨hh1, hh2⟩ S_3.out).mono ?_
            rintro e v3 ⟨gR, rfl, hR, hlR, hb3⟩
            have HR : Hid (v3.ownsRow w.heap.size 3 1 (.slice (some ⟨gR, 0, none⟩) h h) h (intC (List.replicate h (-1)))) := Lib.hid (own_whole hR (by omega) (by simp [intC]) (by unfold maxLen; omega))
            have B_3b := Lib.hid (bw_tr B_3.out hb3)
            clear B_3
            have Q_3b := Lib.hid (up_in hb3 Q_3.out)
            clear Q_3
            have W_3b := Lib.hid (own_below W_3.out hb3)
            clear W_3
            have S_3b := Lib.hid (up_in hb3 S_3.out)
            clear S_3
            clear hR hb3
            go_wp2_with fail
            refine ⟨trivial, ?_⟩
            refine anyU_one (i := 3) (by kernel_rfl) rfl ?_
            intro w4 hu4 _
            have B_4 := Lib.hid (bw_tr B_3b.out hu4)
            clear B_3b
            have Q_4 := Lib.hid (up_in hu4 Q_3b.out)
            clear Q_3b
            have W_4 := Lib.hid (own_below W_3b.out hu4)
            clear W_3b
            have R_4 := Lib.hid (own_below HR.out hu4)
            clear HR
            have hsz4 : w.heap.size ≤ w4.heap.size := B_4.out.size
            obtain ⟨v4, hmk4, ho4, hg4⟩ := run_make_full (P := Try.prog) w4 w.heap.size 25 42 i1 (.slice none 0 0) 1 Try.underlying25 hi' hy0 hy1 .i64 .i64 h (by rw [hy2]; omega) (by unfold maxLen; omega) hsz4
            rw [show (Value.slice none 0 0 : Value).cells = #[Value.slice none 0 0] from rfl, made_one] at ho4
            have B_4b := Lib.hid (bw_tr B_4.out (grown_up hg4))
            clear B_4
            have Q_4b := Lib.hid (up_in (grown_up hg4) Q_4.out)
            clear Q_4
            have W_4b := Lib.hid (own_below W_4.out (grown_up hg4))
            clear W_4
            have R_4b := Lib.hid (own_below R_4.out (grown_up hg4))
            clear R_4
            have HO3 := Lib.hid ho4
            clear ho4 hg4
            go_wp2_with fail
            clear hmk4
            refine ⟨trivial, ?_⟩
            refine anyU_one (i := 7) (by kernel_rfl) rfl ?_
            intro w5 hu5 _
            have B_5 := Lib.hid (bw_tr B_4b.out hu5)
            clear B_4b
            have Q_5 := Lib.hid (up_in hu5 Q_4b.out)
            clear Q_4b
            have W_5 := Lib.hid (own_below W_4b.out hu5)
            clear W_4b
            have R_5 := Lib.hid (own_below R_4b.out hu5)
            clear R_4b
            have P_5 := Lib.hid (own_below HO3.out hu5)
            clear HO3
            go_wp2_with fail
            refine ⟨trivial, ?_⟩
            refine anyU_one (i := 8) (by kernel_rfl) rfl ?_
            intro w6 hu6 _
            have B_6 := Lib.hid (bw_tr B_5.out hu6)
            clear B_5
            have Q_6 := Lib.hid (up_in hu6 Q_5.out)
            clear Q_5
            have W_6 := Lib.hid (own_below W_5.out hu6)
            clear W_5
            have R_6 := Lib.hid (own_below R_5.out hu6)
            clear R_5
            have P_6 := Lib.hid (own_below P_5.out hu6)
            clear P_5
            obtain ⟨⟨q0, q1, q2⟩, g0, g1, g2⟩ := six Q_6.out
            go_wp2_with fail
            have ZW := Lib.hid (own_set3 (.slice (some ⟨w1.heap.size, 0, none⟩) n n) (.slice (some ⟨w4.heap.size, 0, none⟩) h h) (.slice (some ⟨gR, 0, none⟩) h h) W_6.out Q_6.out (by decide))
            have ZP := Lib.hid (own_set3 (.slice (some ⟨w1.heap.size, 0, none⟩) n n) (.slice (some ⟨w4.heap.size, 0, none⟩) h h) (.slice (some ⟨gR, 0, none⟩) h h) P_6.out Q_6.out (by decide))
            have ZR := Lib.hid (own_set3 (.slice (some ⟨w1.heap.size, 0, none⟩) n n) (.slice (some ⟨w4.heap.size, 0, none⟩) h h) (.slice (some ⟨gR, 0, none⟩) h h) R_6.out Q_6.out (by decide))
            have ZB := Lib.hid (bel_set3 (x := .slice (some ⟨w1.heap.size, 0, none⟩) n n) (y := .slice (some ⟨w4.heap.size, 0, none⟩) h h) (z := .slice (some ⟨gR, 0, none⟩) h h) B_6.out (Nat.le_refl w.heap.size))
            have ZQ := Lib.hid (set3_spec (x := .slice (some ⟨w1.heap.size, 0, none⟩) n n) (y := .slice (some ⟨w4.heap.size, 0, none⟩) h h) (z := .slice (some ⟨gR, 0, none⟩) h h) Q_6.out).1
            clear q0 q1 q2 g0 g1 g2
            refine ⟨trivial, ?_⟩
            refine anyU_one (i := 9) (by kernel_rfl) rfl ?_
            intro w7 hu7 _
            have B_7 := Lib.hid (bw_tr ZB.out hu7)
            clear ZB
            have Q_7 := Lib.hid (up_in hu7 ZQ.out)
            clear ZQ
            have W_7 := Lib.hid (own_below ZW.out hu7)
            clear ZW
            have R_7 := Lib.hid (own_below ZR.out hu7)
            clear ZR
            have P_7 := Lib.hid (own_below ZP.out hu7)
            clear ZP
            go_wp2_with fail
            refine ⟨trivial, ?_⟩
            refine anyU_nil (by kernel_rfl) ?_
            intro w8 hu8 _
            have B_8 := Lib.hid (bw_tr B_7.out hu8)
            clear B_7
            have Q_8 := Lib.hid (up_in hu8 Q_7.out)
            clear Q_7
            have W_8 := Lib.hid (own_below W_7.out hu8)
            clear W_7
            have R_8 := Lib.hid (own_below R_7.out hu8)
            clear R_7
            have P_8 := Lib.hid (own_below P_7.out hu8)
            clear P_7
            go_wp2_with fail
            go_meet
            case rel => exact ⟨_, _, _, rfl, rfl, ⟨_, _, _, List.replicate h (.slice none 0 0), rfl, by simpa [newMem, intC] using own_zero W_8.out, by simpa [newMem] using own_zero P_8.out, by simpa [newMem, intC] using own_zero R_8.out, by simp [newMem], rows_nil B_8.out⟩, Q_8.out, B_8.out⟩
      · intro w1 hu1 _
        have B_1 := Lib.hid (bw_tr HB0.out hu1)
        clear HB0
        have Q_1 := Lib.hid (up_in hu1 HQ0.out)
        clear HQ0
        have hsz1 : w.heap.size ≤ w1.heap.size := B_1.out.size
        obtain ⟨v1, hmk1, ho1, hg1⟩ := run_make_full (P := Try.prog) w1 w.heap.size 25 42 i1 (.slice none 0 0) 1 Try.underlying25 hi' hy0 hy1 .i64 .i64 h (by rw [hy2]; omega) (by unfold maxLen; omega) hsz1
        rw [show (Value.slice none 0 0 : Value).cells = #[Value.slice none 0 0] from rfl, made_one] at ho1
        have B_1b := Lib.hid (bw_tr B_1.out (grown_up hg1))
        clear B_1
        have Q_1b := Lib.hid (up_in (grown_up hg1) Q_1.out)
        clear Q_1
        have HO3 := Lib.hid ho1
        clear ho1 hg1
        go_wp2_with fail
        clear hmk1
        refine ⟨trivial, ?_⟩
        refine anyU_two (i := 1) (k := 4) (by kernel_rfl) rfl rfl ?_ ?_
        · intro w2 hu2 _
          have B_2 := Lib.hid (bw_tr B_1b.out hu2)
          clear B_1b
          have Q_2 := Lib.hid (up_in hu2 Q_1b.out)
          clear Q_1b
          have P_2 := Lib.hid (own_below HO3.out hu2)
          clear HO3
          have hsz2 : w.heap.size ≤ w2.heap.size := B_2.out.size
          obtain ⟨v2, hmk2, ho2, hg2⟩ := run_make_full (P := Try.prog) w2 w.heap.size 24 3 i0 (.int .i64 0) 1 Try.underlying24 hi hz0 hz1 .i64 .i64 n (by rw [hz2]; omega) (by unfold maxLen; omega) hsz2
          rw [show (Value.int .i64 0 : Value).cells = #[Value.int .i64 0] from rfl, made_one] at ho2
          have B_2b := Lib.hid (bw_tr B_2.out (grown_up hg2))
          clear B_2
          have Q_2b := Lib.hid (up_in (grown_up hg2) Q_2.out)
          clear Q_2
          have P_2b := Lib.hid (own_below P_2.out (grown_up hg2))
          clear P_2
          have HO1 := Lib.hid ho2
          clear ho2 hg2
          go_wp2_with fail
          clear hmk2
          refine ⟨trivial, ?_⟩
          refine anyU_one (i := 4) (by kernel_rfl) rfl ?_
          intro w3 hu3 _
          have B_3 := Lib.hid (bw_tr B_2b.out hu3)
          clear B_2b
          have Q_3 := Lib.hid (up_in hu3 Q_2b.out)
          clear Q_2b
          have P_3 := Lib.hid (own_below P_2b.out hu3)
          clear P_2b
          have W_3 := Lib.hid (own_below HO1.out hu3)
          clear HO1
          go_wp2_with fail
          have B_3b := Lib.hid (bw_tr B_3.out (bel_new w3 (.cells #[.int .i64 (-1)] 3)))
          clear B_3
          have Q_3b := Lib.hid (up_in (bel_new w3 (.cells #[.int .i64 (-1)] 3)) Q_3.out)
          clear Q_3
          have P_3b := Lib.hid (own_below P_3.out (bel_new w3 (.cells #[.int .i64 (-1)] 3)))
          clear P_3
          have W_3b := Lib.hid (own_below W_3.out (bel_new w3 (.cells #[.int .i64 (-1)] 3)))
          clear W_3
          have HS := Lib.hid (new_in w3 (.cells #[.int .i64 (-1)] 3))
          refine ⟨trivial, ?_⟩
          refine anyU_one (i := 6) (by kernel_rfl) rfl ?_
          intro w4 hu4 _
          have B_4 := Lib.hid (bw_tr B_3b.out hu4)
          clear B_3b
          have Q_4 := Lib.hid (up_in hu4 Q_3b.out)
          clear Q_3b
          have P_4 := Lib.hid (own_below P_3b.out hu4)
          clear P_3b
          have W_4 := Lib.hid (own_below W_3b.out hu4)
          clear W_3b
          have S_4 := Lib.hid (up_in hu4 HS.out)
          clear HS
          have hsz4 : w.heap.size ≤ w4.heap.size := B_4.out.size
          go_wp2_with fail
          refine (repeat_any h _ _ ⟨hh1, hh2⟩ S_4.out).mono ?_
          rintro e v4 ⟨gR, rfl, hR, hlR, hb4⟩
          have HR : Hid (v4.ownsRow w.heap.size 3 1 (.slice (some ⟨gR, 0, none⟩) h h) h (intC (List.replicate h (-1)))) := Lib.hid (own_whole hR (by omega) (by simp [intC]) (by unfold maxLen; omega))
          have B_4b := Lib.hid (bw_tr B_4.out hb4)
          clear B_4
          have Q_4b := Lib.hid (up_in hb4 Q_4.out)
          clear Q_4
          have P_4b := Lib.hid (own_below P_4.out hb4)
          clear P_4
          have W_4b := Lib.hid (own_below W_4.out hb4)
          clear W_4
          have S_4b := Lib.hid (up_in hb4 S_4.out)
          clear S_4
          clear hR hb4
          go_wp2_with fail
          refine ⟨trivial, ?_⟩
          refine anyU_one (i := 7) (by kernel_rfl) rfl ?_
          intro w5 hu5 _
          have B_5 := Lib.hid (bw_tr B_4b.out hu5)
          clear B_4b
          have Q_5 := Lib.hid (up_in hu5 Q_4b.out)
          clear Q_4b
          have P_5 := Lib.hid (own_below P_4b.out hu5)
          clear P_4b
          have W_5 := Lib.hid (own_below W_4b.out hu5)
          clear W_4b
          have R_5 := Lib.hid (own_below HR.out hu5)
          clear HR
          go_wp2_with fail
          refine ⟨trivial, ?_⟩
          refine anyU_one (i := 8) (by kernel_rfl) rfl ?_
          intro w6 hu6 _
          have B_6 := Lib.hid (bw_tr B_5.out hu6)
          clear B_5
          have Q_6 := Lib.hid (up_in hu6 Q_5.out)
          clear Q_5
          have P_6 := Lib.hid (own_below P_5.out hu6)
          clear P_5
          have W_6 := Lib.hid (own_below W_5.out hu6)
          clear W_5
          have R_6 := Lib.hid (own_below R_5.out hu6)
          clear R_5
          obtain ⟨⟨q0, q1, q2⟩, g0, g1, g2⟩ := six Q_6.out
          go_wp2_with fail
          have ZW := Lib.hid (own_set3 (.slice (some ⟨w2.heap.size, 0, none⟩) n n) (.slice (some ⟨w1.heap.size, 0, none⟩) h h) (.slice (some ⟨gR, 0, none⟩) h h) W_6.out Q_6.out (by decide))
          have ZP := Lib.hid (own_set3 (.slice (some ⟨w2.heap.size, 0, none⟩) n n) (.slice (some ⟨w1.heap.size, 0, none⟩) h h) (.slice (some ⟨gR, 0, none⟩) h h) P_6.out Q_6.out (by decide))
          have ZR := Lib.hid (own_set3 (.slice (some ⟨w2.heap.size, 0, none⟩) n n) (.slice (some ⟨w1.heap.size, 0, none⟩) h h) (.slice (some ⟨gR, 0, none⟩) h h) R_6.out Q_6.out (by decide))
          have ZB := Lib.hid (bel_set3 (x := .slice (some ⟨w2.heap.size, 0, none⟩) n n) (y := .slice (some ⟨w1.heap.size, 0, none⟩) h h) (z := .slice (some ⟨gR, 0, none⟩) h h) B_6.out (Nat.le_refl w.heap.size))
          have ZQ := Lib.hid (set3_spec (x := .slice (some ⟨w2.heap.size, 0, none⟩) n n) (y := .slice (some ⟨w1.heap.size, 0, none⟩) h h) (z := .slice (some ⟨gR, 0, none⟩) h h) Q_6.out).1
          clear q0 q1 q2 g0 g1 g2
          refine ⟨trivial, ?_⟩
          refine anyU_one (i := 9) (by kernel_rfl) rfl ?_
          intro w7 hu7 _
          have B_7 := Lib.hid (bw_tr ZB.out hu7)
          clear ZB
          have Q_7 := Lib.hid (up_in hu7 ZQ.out)
          clear ZQ
          have P_7 := Lib.hid (own_below ZP.out hu7)
          clear ZP
          have W_7 := Lib.hid (own_below ZW.out hu7)
          clear ZW
          have R_7 := Lib.hid (own_below ZR.out hu7)
          clear ZR
          go_wp2_with fail
          refine ⟨trivial, ?_⟩
          refine anyU_nil (by kernel_rfl) ?_
          intro w8 hu8 _
          have B_8 := Lib.hid (bw_tr B_7.out hu8)
          clear B_7
          have Q_8 := Lib.hid (up_in hu8 Q_7.out)
          clear Q_7
          have P_8 := Lib.hid (own_below P_7.out hu8)
          clear P_7
          have W_8 := Lib.hid (own_below W_7.out hu8)
          clear W_7
          have R_8 := Lib.hid (own_below R_7.out hu8)
          clear R_7
          go_wp2_with fail
          go_meet
          case rel => exact ⟨_, _, _, rfl, rfl, ⟨_, _, _, List.replicate h (.slice none 0 0), rfl, by simpa [newMem, intC] using own_zero W_8.out, by simpa [newMem] using own_zero P_8.out, by simpa [newMem, intC] using own_zero R_8.out, by simp [newMem], rows_nil B_8.out⟩, Q_8.out, B_8.out⟩
        · intro w2 hu2 _
          have B_2 := Lib.hid (bw_tr B_1b.out hu2)
          clear B_1b
          have Q_2 := Lib.hid (up_in hu2 Q_1b.out)
          clear Q_1b
          have P_2 := Lib.hid (own_below HO3.out hu2)
          clear HO3
          go_wp2_with fail
          have B_2b := Lib.hid (bw_tr B_2.out (bel_new w2 (.cells #[.int .i64 (-1)] 3)))
          clear B_2
          have Q_2b := Lib.hid (up_in (bel_new w2 (.cells #[.int .i64 (-1)] 3)) Q_2.out)
          clear Q_2
          have P_2b := Lib.hid (own_below P_2.out (bel_new w2 (.cells #[.int .i64 (-1)] 3)))
          clear P_2
          have HS := Lib.hid (new_in w2 (.cells #[.int .i64 (-1)] 3))
          refine ⟨trivial, ?_⟩
          refine anyU_two (i := 1) (k := 6) (by kernel_rfl) rfl rfl ?_ ?_
          · intro w3 hu3 _
            have B_3 := Lib.hid (bw_tr B_2b.out hu3)
            clear B_2b
            have Q_3 := Lib.hid (up_in hu3 Q_2b.out)
            clear Q_2b
            have P_3 := Lib.hid (own_below P_2b.out hu3)
            clear P_2b
            have S_3 := Lib.hid (up_in hu3 HS.out)
            clear HS
            have hsz3 : w.heap.size ≤ w3.heap.size := B_3.out.size
            obtain ⟨v3, hmk3, ho3, hg3⟩ := run_make_full (P := Try.prog) w3 w.heap.size 24 3 i0 (.int .i64 0) 1 Try.underlying24 hi hz0 hz1 .i64 .i64 n (by rw [hz2]; omega) (by unfold maxLen; omega) hsz3
            rw [show (Value.int .i64 0 : Value).cells = #[Value.int .i64 0] from rfl, made_one] at ho3
            have B_3b := Lib.hid (bw_tr B_3.out (grown_up hg3))
            clear B_3
            have Q_3b := Lib.hid (up_in (grown_up hg3) Q_3.out)
            clear Q_3
            have P_3b := Lib.hid (own_below P_3.out (grown_up hg3))
            clear P_3
            have S_3b := Lib.hid (up_in (grown_up hg3) S_3.out)
            clear S_3
            have HO1 := Lib.hid ho3
            clear ho3 hg3
            go_wp2_with fail
            clear hmk3
            refine ⟨trivial, ?_⟩
            refine anyU_one (i := 6) (by kernel_rfl) rfl ?_
            intro w4 hu4 _
            have B_4 := Lib.hid (bw_tr B_3b.out hu4)
            clear B_3b
            have Q_4 := Lib.hid (up_in hu4 Q_3b.out)
            clear Q_3b
            have P_4 := Lib.hid (own_below P_3b.out hu4)
            clear P_3b
            have S_4 := Lib.hid (up_in hu4 S_3b.out)
            clear S_3b
            have W_4 := Lib.hid (own_below HO1.out hu4)
            clear HO1
            have hsz4 : w.heap.size ≤ w4.heap.size := B_4.out.size
            go_wp2_with fail
            refine (repeat_any h _ _ ⟨hh1, hh2⟩ S_4.out).mono ?_
            rintro e v4 ⟨gR, rfl, hR, hlR, hb4⟩
            have HR : Hid (v4.ownsRow w.heap.size 3 1 (.slice (some ⟨gR, 0, none⟩) h h) h (intC (List.replicate h (-1)))) := Lib.hid (own_whole hR (by omega) (by simp [intC]) (by unfold maxLen; omega))
            have B_4b := Lib.hid (bw_tr B_4.out hb4)
            clear B_4
            have Q_4b := Lib.hid (up_in hb4 Q_4.out)
            clear Q_4
            have P_4b := Lib.hid (own_below P_4.out hb4)
            clear P_4
            have S_4b := Lib.hid (up_in hb4 S_4.out)
            clear S_4
            have W_4b := Lib.hid (own_below W_4.out hb4)
            clear W_4
            clear hR hb4
            go_wp2_with fail
            refine ⟨trivial, ?_⟩
            refine anyU_one (i := 7) (by kernel_rfl) rfl ?_
            intro w5 hu5 _
            have B_5 := Lib.hid (bw_tr B_4b.out hu5)
            clear B_4b
            have Q_5 := Lib.hid (up_in hu5 Q_4b.out)
            clear Q_4b
            have P_5 := Lib.hid (own_below P_4b.out hu5)
            clear P_4b
            have W_5 := Lib.hid (own_below W_4b.out hu5)
            clear W_4b
            have R_5 := Lib.hid (own_below HR.out hu5)
            clear HR
            go_wp2_with fail
            refine ⟨trivial, ?_⟩
            refine anyU_one (i := 8) (by kernel_rfl) rfl ?_
            intro w6 hu6 _
            have B_6 := Lib.hid (bw_tr B_5.out hu6)
            clear B_5
            have Q_6 := Lib.hid (up_in hu6 Q_5.out)
            clear Q_5
            have P_6 := Lib.hid (own_below P_5.out hu6)
            clear P_5
            have W_6 := Lib.hid (own_below W_5.out hu6)
            clear W_5
            have R_6 := Lib.hid (own_below R_5.out hu6)
            clear R_5
            obtain ⟨⟨q0, q1, q2⟩, g0, g1, g2⟩ := six Q_6.out
            go_wp2_with fail
            have ZW := Lib.hid (own_set3 (.slice (some ⟨w3.heap.size, 0, none⟩) n n) (.slice (some ⟨w1.heap.size, 0, none⟩) h h) (.slice (some ⟨gR, 0, none⟩) h h) W_6.out Q_6.out (by decide))
            have ZP := Lib.hid (own_set3 (.slice (some ⟨w3.heap.size, 0, none⟩) n n) (.slice (some ⟨w1.heap.size, 0, none⟩) h h) (.slice (some ⟨gR, 0, none⟩) h h) P_6.out Q_6.out (by decide))
            have ZR := Lib.hid (own_set3 (.slice (some ⟨w3.heap.size, 0, none⟩) n n) (.slice (some ⟨w1.heap.size, 0, none⟩) h h) (.slice (some ⟨gR, 0, none⟩) h h) R_6.out Q_6.out (by decide))
            have ZB := Lib.hid (bel_set3 (x := .slice (some ⟨w3.heap.size, 0, none⟩) n n) (y := .slice (some ⟨w1.heap.size, 0, none⟩) h h) (z := .slice (some ⟨gR, 0, none⟩) h h) B_6.out (Nat.le_refl w.heap.size))
            have ZQ := Lib.hid (set3_spec (x := .slice (some ⟨w3.heap.size, 0, none⟩) n n) (y := .slice (some ⟨w1.heap.size, 0, none⟩) h h) (z := .slice (some ⟨gR, 0, none⟩) h h) Q_6.out).1
            clear q0 q1 q2 g0 g1 g2
            refine ⟨trivial, ?_⟩
            refine anyU_one (i := 9) (by kernel_rfl) rfl ?_
            intro w7 hu7 _
            have B_7 := Lib.hid (bw_tr ZB.out hu7)
            clear ZB
            have Q_7 := Lib.hid (up_in hu7 ZQ.out)
            clear ZQ
            have P_7 := Lib.hid (own_below ZP.out hu7)
            clear ZP
            have W_7 := Lib.hid (own_below ZW.out hu7)
            clear ZW
            have R_7 := Lib.hid (own_below ZR.out hu7)
            clear ZR
            go_wp2_with fail
            refine ⟨trivial, ?_⟩
            refine anyU_nil (by kernel_rfl) ?_
            intro w8 hu8 _
            have B_8 := Lib.hid (bw_tr B_7.out hu8)
            clear B_7
            have Q_8 := Lib.hid (up_in hu8 Q_7.out)
            clear Q_7
            have P_8 := Lib.hid (own_below P_7.out hu8)
            clear P_7
            have W_8 := Lib.hid (own_below W_7.out hu8)
            clear W_7
            have R_8 := Lib.hid (own_below R_7.out hu8)
            clear R_7
            go_wp2_with fail
            go_meet
            case rel => exact ⟨_, _, _, rfl, rfl, ⟨_, _, _, List.replicate h (.slice none 0 0), rfl, by simpa [newMem, intC] using own_zero W_8.out, by simpa [newMem] using own_zero P_8.out, by simpa [newMem, intC] using own_zero R_8.out, by simp [newMem], rows_nil B_8.out⟩, Q_8.out, B_8.out⟩
          · intro w3 hu3 _
            have B_3 := Lib.hid (bw_tr B_2b.out hu3)
            clear B_2b
            have Q_3 := Lib.hid (up_in hu3 Q_2b.out)
            clear Q_2b
            have P_3 := Lib.hid (own_below P_2b.out hu3)
            clear P_2b
            have S_3 := Lib.hid (up_in hu3 HS.out)
            clear HS
            have hsz3 : w.heap.size ≤ w3.heap.size := B_3.out.size
            go_wp2_with fail
            refine (repeat_any h _ _ ⟨hh1, hh2⟩ S_3.out).mono ?_
            rintro e v3 ⟨gR, rfl, hR, hlR, hb3⟩
            have HR : Hid (v3.ownsRow w.heap.size 3 1 (.slice (some ⟨gR, 0, none⟩) h h) h (intC (List.replicate h (-1)))) := Lib.hid (own_whole hR (by omega) (by simp [intC]) (by unfold maxLen; omega))
            have B_3b := Lib.hid (bw_tr B_3.out hb3)
            clear B_3
            have Q_3b := Lib.hid (up_in hb3 Q_3.out)
            clear Q_3
            have P_3b := Lib.hid (own_below P_3.out hb3)
            clear P_3
            have S_3b := Lib.hid (up_in hb3 S_3.out)
            clear S_3
            clear hR hb3
            go_wp2_with fail
            refine ⟨trivial, ?_⟩
            refine anyU_one (i := 1) (by kernel_rfl) rfl ?_
            intro w4 hu4 _
            have B_4 := Lib.hid (bw_tr B_3b.out hu4)
            clear B_3b
            have Q_4 := Lib.hid (up_in hu4 Q_3b.out)
            clear Q_3b
            have P_4 := Lib.hid (own_below P_3b.out hu4)
            clear P_3b
            have R_4 := Lib.hid (own_below HR.out hu4)
            clear HR
            have hsz4 : w.heap.size ≤ w4.heap.size := B_4.out.size
            obtain ⟨v4, hmk4, ho4, hg4⟩ := run_make_full (P := Try.prog) w4 w.heap.size 24 3 i0 (.int .i64 0) 1 Try.underlying24 hi hz0 hz1 .i64 .i64 n (by rw [hz2]; omega) (by unfold maxLen; omega) hsz4
            rw [show (Value.int .i64 0 : Value).cells = #[Value.int .i64 0] from rfl, made_one] at ho4
            have B_4b := Lib.hid (bw_tr B_4.out (grown_up hg4))
            clear B_4
            have Q_4b := Lib.hid (up_in (grown_up hg4) Q_4.out)
            clear Q_4
            have P_4b := Lib.hid (own_below P_4.out (grown_up hg4))
            clear P_4
            have R_4b := Lib.hid (own_below R_4.out (grown_up hg4))
            clear R_4
            have HO1 := Lib.hid ho4
            clear ho4 hg4
            go_wp2_with fail
            clear hmk4
            refine ⟨trivial, ?_⟩
            refine anyU_one (i := 7) (by kernel_rfl) rfl ?_
            intro w5 hu5 _
            have B_5 := Lib.hid (bw_tr B_4b.out hu5)
            clear B_4b
            have Q_5 := Lib.hid (up_in hu5 Q_4b.out)
            clear Q_4b
            have P_5 := Lib.hid (own_below P_4b.out hu5)
            clear P_4b
            have R_5 := Lib.hid (own_below R_4b.out hu5)
            clear R_4b
            have W_5 := Lib.hid (own_below HO1.out hu5)
            clear HO1
            go_wp2_with fail
            refine ⟨trivial, ?_⟩
            refine anyU_one (i := 8) (by kernel_rfl) rfl ?_
            intro w6 hu6 _
            have B_6 := Lib.hid (bw_tr B_5.out hu6)
            clear B_5
            have Q_6 := Lib.hid (up_in hu6 Q_5.out)
            clear Q_5
            have P_6 := Lib.hid (own_below P_5.out hu6)
            clear P_5
            have R_6 := Lib.hid (own_below R_5.out hu6)
            clear R_5
            have W_6 := Lib.hid (own_below W_5.out hu6)
            clear W_5
            obtain ⟨⟨q0, q1, q2⟩, g0, g1, g2⟩ := six Q_6.out
            go_wp2_with fail
            have ZW := Lib.hid (own_set3 (.slice (some ⟨w4.heap.size, 0, none⟩) n n) (.slice (some ⟨w1.heap.size, 0, none⟩) h h) (.slice (some ⟨gR, 0, none⟩) h h) W_6.out Q_6.out (by decide))
            have ZP := Lib.hid (own_set3 (.slice (some ⟨w4.heap.size, 0, none⟩) n n) (.slice (some ⟨w1.heap.size, 0, none⟩) h h) (.slice (some ⟨gR, 0, none⟩) h h) P_6.out Q_6.out (by decide))
            have ZR := Lib.hid (own_set3 (.slice (some ⟨w4.heap.size, 0, none⟩) n n) (.slice (some ⟨w1.heap.size, 0, none⟩) h h) (.slice (some ⟨gR, 0, none⟩) h h) R_6.out Q_6.out (by decide))
            have ZB := Lib.hid (bel_set3 (x := .slice (some ⟨w4.heap.size, 0, none⟩) n n) (y := .slice (some ⟨w1.heap.size, 0, none⟩) h h) (z := .slice (some ⟨gR, 0, none⟩) h h) B_6.out (Nat.le_refl w.heap.size))
            have ZQ := Lib.hid (set3_spec (x := .slice (some ⟨w4.heap.size, 0, none⟩) n n) (y := .slice (some ⟨w1.heap.size, 0, none⟩) h h) (z := .slice (some ⟨gR, 0, none⟩) h h) Q_6.out).1
            clear q0 q1 q2 g0 g1 g2
            refine ⟨trivial, ?_⟩
            refine anyU_one (i := 9) (by kernel_rfl) rfl ?_
            intro w7 hu7 _
            have B_7 := Lib.hid (bw_tr ZB.out hu7)
            clear ZB
            have Q_7 := Lib.hid (up_in hu7 ZQ.out)
            clear ZQ
            have P_7 := Lib.hid (own_below ZP.out hu7)
            clear ZP
            have R_7 := Lib.hid (own_below ZR.out hu7)
            clear ZR
            have W_7 := Lib.hid (own_below ZW.out hu7)
            clear ZW
            go_wp2_with fail
            refine ⟨trivial, ?_⟩
            refine anyU_nil (by kernel_rfl) ?_
            intro w8 hu8 _
            have B_8 := Lib.hid (bw_tr B_7.out hu8)
            clear B_7
            have Q_8 := Lib.hid (up_in hu8 Q_7.out)
            clear Q_7
            have P_8 := Lib.hid (own_below P_7.out hu8)
            clear P_7
            have R_8 := Lib.hid (own_below R_7.out hu8)
            clear R_7
            have W_8 := Lib.hid (own_below W_7.out hu8)
            clear W_7
            go_wp2_with fail
            go_meet
            case rel => exact ⟨_, _, _, rfl, rfl, ⟨_, _, _, List.replicate h (.slice none 0 0), rfl, by simpa [newMem, intC] using own_zero W_8.out, by simpa [newMem] using own_zero P_8.out, by simpa [newMem, intC] using own_zero R_8.out, by simp [newMem], rows_nil B_8.out⟩, Q_8.out, B_8.out⟩
      · intro w1 hu1 _
        have B_1 := Lib.hid (bw_tr HB0.out hu1)
        clear HB0
        have Q_1 := Lib.hid (up_in hu1 HQ0.out)
        clear HQ0
        go_wp2_with fail
        have B_1b := Lib.hid (bw_tr B_1.out (bel_new w1 (.cells #[.int .i64 (-1)] 3)))
        clear B_1
        have Q_1b := Lib.hid (up_in (bel_new w1 (.cells #[.int .i64 (-1)] 3)) Q_1.out)
        clear Q_1
        have HS := Lib.hid (new_in w1 (.cells #[.int .i64 (-1)] 3))
        refine ⟨trivial, ?_⟩
        refine three_ready (i := 1) (k := 3) (j := 6) (by kernel_rfl) rfl rfl rfl ?_ ?_ ?_
        · intro w2 hu2 _
          have B_2 := Lib.hid (bw_tr B_1b.out hu2)
          clear B_1b
          have Q_2 := Lib.hid (up_in hu2 Q_1b.out)
          clear Q_1b
          have S_2 := Lib.hid (up_in hu2 HS.out)
          clear HS
          have hsz2 : w.heap.size ≤ w2.heap.size := B_2.out.size
          obtain ⟨v2, hmk2, ho2, hg2⟩ := run_make_full (P := Try.prog) w2 w.heap.size 24 3 i0 (.int .i64 0) 1 Try.underlying24 hi hz0 hz1 .i64 .i64 n (by rw [hz2]; omega) (by unfold maxLen; omega) hsz2
          rw [show (Value.int .i64 0 : Value).cells = #[Value.int .i64 0] from rfl, made_one] at ho2
          have B_2b := Lib.hid (bw_tr B_2.out (grown_up hg2))
          clear B_2
          have Q_2b := Lib.hid (up_in (grown_up hg2) Q_2.out)
          clear Q_2
          have S_2b := Lib.hid (up_in (grown_up hg2) S_2.out)
          clear S_2
          have HO1 := Lib.hid ho2
          clear ho2 hg2
          go_wp2_with fail
          clear hmk2
          refine ⟨trivial, ?_⟩
          refine anyU_two (i := 3) (k := 6) (by kernel_rfl) rfl rfl ?_ ?_
          · intro w3 hu3 _
            have B_3 := Lib.hid (bw_tr B_2b.out hu3)
            clear B_2b
            have Q_3 := Lib.hid (up_in hu3 Q_2b.out)
            clear Q_2b
            have S_3 := Lib.hid (up_in hu3 S_2b.out)
            clear S_2b
            have W_3 := Lib.hid (own_below HO1.out hu3)
            clear HO1
            have hsz3 : w.heap.size ≤ w3.heap.size := B_3.out.size
            obtain ⟨v3, hmk3, ho3, hg3⟩ := run_make_full (P := Try.prog) w3 w.heap.size 25 42 i1 (.slice none 0 0) 1 Try.underlying25 hi' hy0 hy1 .i64 .i64 h (by rw [hy2]; omega) (by unfold maxLen; omega) hsz3
            rw [show (Value.slice none 0 0 : Value).cells = #[Value.slice none 0 0] from rfl, made_one] at ho3
            have B_3b := Lib.hid (bw_tr B_3.out (grown_up hg3))
            clear B_3
            have Q_3b := Lib.hid (up_in (grown_up hg3) Q_3.out)
            clear Q_3
            have S_3b := Lib.hid (up_in (grown_up hg3) S_3.out)
            clear S_3
            have W_3b := Lib.hid (own_below W_3.out (grown_up hg3))
            clear W_3
            have HO3 := Lib.hid ho3
            clear ho3 hg3
            go_wp2_with fail
            clear hmk3
            refine ⟨trivial, ?_⟩
            refine anyU_one (i := 6) (by kernel_rfl) rfl ?_
            intro w4 hu4 _
            have B_4 := Lib.hid (bw_tr B_3b.out hu4)
            clear B_3b
            have Q_4 := Lib.hid (up_in hu4 Q_3b.out)
            clear Q_3b
            have S_4 := Lib.hid (up_in hu4 S_3b.out)
            clear S_3b
            have W_4 := Lib.hid (own_below W_3b.out hu4)
            clear W_3b
            have P_4 := Lib.hid (own_below HO3.out hu4)
            clear HO3
            have hsz4 : w.heap.size ≤ w4.heap.size := B_4.out.size
            go_wp2_with fail
            refine (repeat_any h _ _ ⟨hh1, hh2⟩ S_4.out).mono ?_
            rintro e v4 ⟨gR, rfl, hR, hlR, hb4⟩
            have HR : Hid (v4.ownsRow w.heap.size 3 1 (.slice (some ⟨gR, 0, none⟩) h h) h (intC (List.replicate h (-1)))) := Lib.hid (own_whole hR (by omega) (by simp [intC]) (by unfold maxLen; omega))
            have B_4b := Lib.hid (bw_tr B_4.out hb4)
            clear B_4
            have Q_4b := Lib.hid (up_in hb4 Q_4.out)
            clear Q_4
            have S_4b := Lib.hid (up_in hb4 S_4.out)
            clear S_4
            have W_4b := Lib.hid (own_below W_4.out hb4)
            clear W_4
            have P_4b := Lib.hid (own_below P_4.out hb4)
            clear P_4
            clear hR hb4
            go_wp2_with fail
            refine ⟨trivial, ?_⟩
            refine anyU_one (i := 7) (by kernel_rfl) rfl ?_
            intro w5 hu5 _
            have B_5 := Lib.hid (bw_tr B_4b.out hu5)
            clear B_4b
            have Q_5 := Lib.hid (up_in hu5 Q_4b.out)
            clear Q_4b
            have W_5 := Lib.hid (own_below W_4b.out hu5)
            clear W_4b
            have P_5 := Lib.hid (own_below P_4b.out hu5)
            clear P_4b
            have R_5 := Lib.hid (own_below HR.out hu5)
            clear HR
            go_wp2_with fail
            refine ⟨trivial, ?_⟩
            refine anyU_one (i := 8) (by kernel_rfl) rfl ?_
            intro w6 hu6 _
            have B_6 := Lib.hid (bw_tr B_5.out hu6)
            clear B_5
            have Q_6 := Lib.hid (up_in hu6 Q_5.out)
            clear Q_5
            have W_6 := Lib.hid (own_below W_5.out hu6)
            clear W_5
            have P_6 := Lib.hid (own_below P_5.out hu6)
            clear P_5
            have R_6 := Lib.hid (own_below R_5.out hu6)
            clear R_5
            obtain ⟨⟨q0, q1, q2⟩, g0, g1, g2⟩ := six Q_6.out
            go_wp2_with fail
            have ZW := Lib.hid (own_set3 (.slice (some ⟨w2.heap.size, 0, none⟩) n n) (.slice (some ⟨w3.heap.size, 0, none⟩) h h) (.slice (some ⟨gR, 0, none⟩) h h) W_6.out Q_6.out (by decide))
            have ZP := Lib.hid (own_set3 (.slice (some ⟨w2.heap.size, 0, none⟩) n n) (.slice (some ⟨w3.heap.size, 0, none⟩) h h) (.slice (some ⟨gR, 0, none⟩) h h) P_6.out Q_6.out (by decide))
            have ZR := Lib.hid (own_set3 (.slice (some ⟨w2.heap.size, 0, none⟩) n n) (.slice (some ⟨w3.heap.size, 0, none⟩) h h) (.slice (some ⟨gR, 0, none⟩) h h) R_6.out Q_6.out (by decide))
            have ZB := Lib.hid (bel_set3 (x := .slice (some ⟨w2.heap.size, 0, none⟩) n n) (y := .slice (some ⟨w3.heap.size, 0, none⟩) h h) (z := .slice (some ⟨gR, 0, none⟩) h h) B_6.out (Nat.le_refl w.heap.size))
            have ZQ := Lib.hid (set3_spec (x := .slice (some ⟨w2.heap.size, 0, none⟩) n n) (y := .slice (some ⟨w3.heap.size, 0, none⟩) h h) (z := .slice (some ⟨gR, 0, none⟩) h h) Q_6.out).1
            clear q0 q1 q2 g0 g1 g2
            refine ⟨trivial, ?_⟩
            refine anyU_one (i := 9) (by kernel_rfl) rfl ?_
            intro w7 hu7 _
            have B_7 := Lib.hid (bw_tr ZB.out hu7)
            clear ZB
            have Q_7 := Lib.hid (up_in hu7 ZQ.out)
            clear ZQ
            have W_7 := Lib.hid (own_below ZW.out hu7)
            clear ZW
            have P_7 := Lib.hid (own_below ZP.out hu7)
            clear ZP
            have R_7 := Lib.hid (own_below ZR.out hu7)
            clear ZR
            go_wp2_with fail
            refine ⟨trivial, ?_⟩
            refine anyU_nil (by kernel_rfl) ?_
            intro w8 hu8 _
            have B_8 := Lib.hid (bw_tr B_7.out hu8)
            clear B_7
            have Q_8 := Lib.hid (up_in hu8 Q_7.out)
            clear Q_7
            have W_8 := Lib.hid (own_below W_7.out hu8)
            clear W_7
            have P_8 := Lib.hid (own_below P_7.out hu8)
            clear P_7
            have R_8 := Lib.hid (own_below R_7.out hu8)
            clear R_7
            go_wp2_with fail
            go_meet
            case rel => exact ⟨_, _, _, rfl, rfl, ⟨_, _, _, List.replicate h (.slice none 0 0), rfl, by simpa [newMem, intC] using own_zero W_8.out, by simpa [newMem] using own_zero P_8.out, by simpa [newMem, intC] using own_zero R_8.out, by simp [newMem], rows_nil B_8.out⟩, Q_8.out, B_8.out⟩
          · intro w3 hu3 _
            have B_3 := Lib.hid (bw_tr B_2b.out hu3)
            clear B_2b
            have Q_3 := Lib.hid (up_in hu3 Q_2b.out)
            clear Q_2b
            have S_3 := Lib.hid (up_in hu3 S_2b.out)
            clear S_2b
            have W_3 := Lib.hid (own_below HO1.out hu3)
            clear HO1
            have hsz3 : w.heap.size ≤ w3.heap.size := B_3.out.size
            go_wp2_with fail
            refine (repeat_any h _ _ ⟨hh1, hh2⟩ S_3.out).mono ?_
            rintro e v3 ⟨gR, rfl, hR, hlR, hb3⟩
            have HR : Hid (v3.ownsRow w.heap.size 3 1 (.slice (some ⟨gR, 0, none⟩) h h) h (intC (List.replicate h (-1)))) := Lib.hid (own_whole hR (by omega) (by simp [intC]) (by unfold maxLen; omega))
            have B_3b := Lib.hid (bw_tr B_3.out hb3)
            clear B_3
            have Q_3b := Lib.hid (up_in hb3 Q_3.out)
            clear Q_3
            have S_3b := Lib.hid (up_in hb3 S_3.out)
            clear S_3
            have W_3b := Lib.hid (own_below W_3.out hb3)
            clear W_3
            clear hR hb3
            go_wp2_with fail
            refine ⟨trivial, ?_⟩
            refine anyU_one (i := 3) (by kernel_rfl) rfl ?_
            intro w4 hu4 _
            have B_4 := Lib.hid (bw_tr B_3b.out hu4)
            clear B_3b
            have Q_4 := Lib.hid (up_in hu4 Q_3b.out)
            clear Q_3b
            have W_4 := Lib.hid (own_below W_3b.out hu4)
            clear W_3b
            have R_4 := Lib.hid (own_below HR.out hu4)
            clear HR
            have hsz4 : w.heap.size ≤ w4.heap.size := B_4.out.size
            obtain ⟨v4, hmk4, ho4, hg4⟩ := run_make_full (P := Try.prog) w4 w.heap.size 25 42 i1 (.slice none 0 0) 1 Try.underlying25 hi' hy0 hy1 .i64 .i64 h (by rw [hy2]; omega) (by unfold maxLen; omega) hsz4
            rw [show (Value.slice none 0 0 : Value).cells = #[Value.slice none 0 0] from rfl, made_one] at ho4
            have B_4b := Lib.hid (bw_tr B_4.out (grown_up hg4))
            clear B_4
            have Q_4b := Lib.hid (up_in (grown_up hg4) Q_4.out)
            clear Q_4
            have W_4b := Lib.hid (own_below W_4.out (grown_up hg4))
            clear W_4
            have R_4b := Lib.hid (own_below R_4.out (grown_up hg4))
            clear R_4
            have HO3 := Lib.hid ho4
            clear ho4 hg4
            go_wp2_with fail
            clear hmk4
            refine ⟨trivial, ?_⟩
            refine anyU_one (i := 7) (by kernel_rfl) rfl ?_
            intro w5 hu5 _
            have B_5 := Lib.hid (bw_tr B_4b.out hu5)
            clear B_4b
            have Q_5 := Lib.hid (up_in hu5 Q_4b.out)
            clear Q_4b
            have W_5 := Lib.hid (own_below W_4b.out hu5)
            clear W_4b
            have R_5 := Lib.hid (own_below R_4b.out hu5)
            clear R_4b
            have P_5 := Lib.hid (own_below HO3.out hu5)
            clear HO3
            go_wp2_with fail
            refine ⟨trivial, ?_⟩
            refine anyU_one (i := 8) (by kernel_rfl) rfl ?_
            intro w6 hu6 _
            have B_6 := Lib.hid (bw_tr B_5.out hu6)
            clear B_5
            have Q_6 := Lib.hid (up_in hu6 Q_5.out)
            clear Q_5
            have W_6 := Lib.hid (own_below W_5.out hu6)
            clear W_5
            have R_6 := Lib.hid (own_below R_5.out hu6)
            clear R_5
            have P_6 := Lib.hid (own_below P_5.out hu6)
            clear P_5
            obtain ⟨⟨q0, q1, q2⟩, g0, g1, g2⟩ := six Q_6.out
            go_wp2_with fail
            have ZW := Lib.hid (own_set3 (.slice (some ⟨w2.heap.size, 0, none⟩) n n) (.slice (some ⟨w4.heap.size, 0, none⟩) h h) (.slice (some ⟨gR, 0, none⟩) h h) W_6.out Q_6.out (by decide))
            have ZP := Lib.hid (own_set3 (.slice (some ⟨w2.heap.size, 0, none⟩) n n) (.slice (some ⟨w4.heap.size, 0, none⟩) h h) (.slice (some ⟨gR, 0, none⟩) h h) P_6.out Q_6.out (by decide))
            have ZR := Lib.hid (own_set3 (.slice (some ⟨w2.heap.size, 0, none⟩) n n) (.slice (some ⟨w4.heap.size, 0, none⟩) h h) (.slice (some ⟨gR, 0, none⟩) h h) R_6.out Q_6.out (by decide))
            have ZB := Lib.hid (bel_set3 (x := .slice (some ⟨w2.heap.size, 0, none⟩) n n) (y := .slice (some ⟨w4.heap.size, 0, none⟩) h h) (z := .slice (some ⟨gR, 0, none⟩) h h) B_6.out (Nat.le_refl w.heap.size))
            have ZQ := Lib.hid (set3_spec (x := .slice (some ⟨w2.heap.size, 0, none⟩) n n) (y := .slice (some ⟨w4.heap.size, 0, none⟩) h h) (z := .slice (some ⟨gR, 0, none⟩) h h) Q_6.out).1
            clear q0 q1 q2 g0 g1 g2
            refine ⟨trivial, ?_⟩
            refine anyU_one (i := 9) (by kernel_rfl) rfl ?_
            intro w7 hu7 _
            have B_7 := Lib.hid (bw_tr ZB.out hu7)
            clear ZB
            have Q_7 := Lib.hid (up_in hu7 ZQ.out)
            clear ZQ
            have W_7 := Lib.hid (own_below ZW.out hu7)
            clear ZW
            have R_7 := Lib.hid (own_below ZR.out hu7)
            clear ZR
            have P_7 := Lib.hid (own_below ZP.out hu7)
            clear ZP
            go_wp2_with fail
            refine ⟨trivial, ?_⟩
            refine anyU_nil (by kernel_rfl) ?_
            intro w8 hu8 _
            have B_8 := Lib.hid (bw_tr B_7.out hu8)
            clear B_7
            have Q_8 := Lib.hid (up_in hu8 Q_7.out)
            clear Q_7
            have W_8 := Lib.hid (own_below W_7.out hu8)
            clear W_7
            have R_8 := Lib.hid (own_below R_7.out hu8)
            clear R_7
            have P_8 := Lib.hid (own_below P_7.out hu8)
            clear P_7
            go_wp2_with fail
            go_meet
            case rel => exact ⟨_, _, _, rfl, rfl, ⟨_, _, _, List.replicate h (.slice none 0 0), rfl, by simpa [newMem, intC] using own_zero W_8.out, by simpa [newMem] using own_zero P_8.out, by simpa [newMem, intC] using own_zero R_8.out, by simp [newMem], rows_nil B_8.out⟩, Q_8.out, B_8.out⟩
        · intro w2 hu2 _
          have B_2 := Lib.hid (bw_tr B_1b.out hu2)
          clear B_1b
          have Q_2 := Lib.hid (up_in hu2 Q_1b.out)
          clear Q_1b
          have S_2 := Lib.hid (up_in hu2 HS.out)
          clear HS
          have hsz2 : w.heap.size ≤ w2.heap.size := B_2.out.size
          obtain ⟨v2, hmk2, ho2, hg2⟩ := run_make_full (P := Try.prog) w2 w.heap.size 25 42 i1 (.slice none 0 0) 1 Try.underlying25 hi' hy0 hy1 .i64 .i64 h (by rw [hy2]; omega) (by unfold maxLen; omega) hsz2
          rw [show (Value.slice none 0 0 : Value).cells = #[Value.slice none 0 0] from rfl, made_one] at ho2
          have B_2b := Lib.hid (bw_tr B_2.out (grown_up hg2))
          clear B_2
          have Q_2b := Lib.hid (up_in (grown_up hg2) Q_2.out)
          clear Q_2
          have S_2b := Lib.hid (up_in (grown_up hg2) S_2.out)
          clear S_2
          have HO3 := Lib.hid ho2
          clear ho2 hg2
          go_wp2_with fail
          clear hmk2
          refine ⟨trivial, ?_⟩
          refine anyU_two (i := 1) (k := 6) (by kernel_rfl) rfl rfl ?_ ?_
          · intro w3 hu3 _
            have B_3 := Lib.hid (bw_tr B_2b.out hu3)
            clear B_2b
            have Q_3 := Lib.hid (up_in hu3 Q_2b.out)
            clear Q_2b
            have S_3 := Lib.hid (up_in hu3 S_2b.out)
            clear S_2b
            have P_3 := Lib.hid (own_below HO3.out hu3)
            clear HO3
            have hsz3 : w.heap.size ≤ w3.heap.size := B_3.out.size
            obtain ⟨v3, hmk3, ho3, hg3⟩ := run_make_full (P := Try.prog) w3 w.heap.size 24 3 i0 (.int .i64 0) 1 Try.underlying24 hi hz0 hz1 .i64 .i64 n (by rw [hz2]; omega) (by unfold maxLen; omega) hsz3
            rw [show (Value.int .i64 0 : Value).cells = #[Value.int .i64 0] from rfl, made_one] at ho3
            have B_3b := Lib.hid (bw_tr B_3.out (grown_up hg3))
            clear B_3
            have Q_3b := Lib.hid (up_in (grown_up hg3) Q_3.out)
            clear Q_3
            have S_3b := Lib.hid (up_in (grown_up hg3) S_3.out)
            clear S_3
            have P_3b := Lib.hid (own_below P_3.out (grown_up hg3))
            clear P_3
            have HO1 := Lib.hid ho3
            clear ho3 hg3
            go_wp2_with fail
            clear hmk3
            refine ⟨trivial, ?_⟩
            refine anyU_one (i := 6) (by kernel_rfl) rfl ?_
            intro w4 hu4 _
            have B_4 := Lib.hid (bw_tr B_3b.out hu4)
            clear B_3b
            have Q_4 := Lib.hid (up_in hu4 Q_3b.out)
            clear Q_3b
            have S_4 := Lib.hid (up_in hu4 S_3b.out)
            clear S_3b
            have P_4 := Lib.hid (own_below P_3b.out hu4)
            clear P_3b
            have W_4 := Lib.hid (own_below HO1.out hu4)
            clear HO1
            have hsz4 : w.heap.size ≤ w4.heap.size := B_4.out.size
            go_wp2_with fail
            refine (repeat_any h _ _ ⟨hh1, hh2⟩ S_4.out).mono ?_
            rintro e v4 ⟨gR, rfl, hR, hlR, hb4⟩
            have HR : Hid (v4.ownsRow w.heap.size 3 1 (.slice (some ⟨gR, 0, none⟩) h h) h (intC (List.replicate h (-1)))) := Lib.hid (own_whole hR (by omega) (by simp [intC]) (by unfold maxLen; omega))
            have B_4b := Lib.hid (bw_tr B_4.out hb4)
            clear B_4
            have Q_4b := Lib.hid (up_in hb4 Q_4.out)
            clear Q_4
            have S_4b := Lib.hid (up_in hb4 S_4.out)
            clear S_4
            have P_4b := Lib.hid (own_below P_4.out hb4)
            clear P_4
            have W_4b := Lib.hid (own_below W_4.out hb4)
            clear W_4
            clear hR hb4
            go_wp2_with fail
            refine ⟨trivial, ?_⟩
            refine anyU_one (i := 7) (by kernel_rfl) rfl ?_
            intro w5 hu5 _
            have B_5 := Lib.hid (bw_tr B_4b.out hu5)
            clear B_4b
            have Q_5 := Lib.hid (up_in hu5 Q_4b.out)
            clear Q_4b
            have P_5 := Lib.hid (own_below P_4b.out hu5)
            clear P_4b
            have W_5 := Lib.hid (own_below W_4b.out hu5)
            clear W_4b
            have R_5 := Lib.hid (own_below HR.out hu5)
            clear HR
            go_wp2_with fail
            refine ⟨trivial, ?_⟩
            refine anyU_one (i := 8) (by kernel_rfl) rfl ?_
            intro w6 hu6 _
            have B_6 := Lib.hid (bw_tr B_5.out hu6)
            clear B_5
            have Q_6 := Lib.hid (up_in hu6 Q_5.out)
            clear Q_5
            have P_6 := Lib.hid (own_below P_5.out hu6)
            clear P_5
            have W_6 := Lib.hid (own_below W_5.out hu6)
            clear W_5
            have R_6 := Lib.hid (own_below R_5.out hu6)
            clear R_5
            obtain ⟨⟨q0, q1, q2⟩, g0, g1, g2⟩ := six Q_6.out
            go_wp2_with fail
            have ZW := Lib.hid (own_set3 (.slice (some ⟨w3.heap.size, 0, none⟩) n n) (.slice (some ⟨w2.heap.size, 0, none⟩) h h) (.slice (some ⟨gR, 0, none⟩) h h) W_6.out Q_6.out (by decide))
            have ZP := Lib.hid (own_set3 (.slice (some ⟨w3.heap.size, 0, none⟩) n n) (.slice (some ⟨w2.heap.size, 0, none⟩) h h) (.slice (some ⟨gR, 0, none⟩) h h) P_6.out Q_6.out (by decide))
            have ZR := Lib.hid (own_set3 (.slice (some ⟨w3.heap.size, 0, none⟩) n n) (.slice (some ⟨w2.heap.size, 0, none⟩) h h) (.slice (some ⟨gR, 0, none⟩) h h) R_6.out Q_6.out (by decide))
            have ZB := Lib.hid (bel_set3 (x := .slice (some ⟨w3.heap.size, 0, none⟩) n n) (y := .slice (some ⟨w2.heap.size, 0, none⟩) h h) (z := .slice (some ⟨gR, 0, none⟩) h h) B_6.out (Nat.le_refl w.heap.size))
            have ZQ := Lib.hid (set3_spec (x := .slice (some ⟨w3.heap.size, 0, none⟩) n n) (y := .slice (some ⟨w2.heap.size, 0, none⟩) h h) (z := .slice (some ⟨gR, 0, none⟩) h h) Q_6.out).1
            clear q0 q1 q2 g0 g1 g2
            refine ⟨trivial, ?_⟩
            refine anyU_one (i := 9) (by kernel_rfl) rfl ?_
            intro w7 hu7 _
            have B_7 := Lib.hid (bw_tr ZB.out hu7)
            clear ZB
            have Q_7 := Lib.hid (up_in hu7 ZQ.out)
            clear ZQ
            have P_7 := Lib.hid (own_below ZP.out hu7)
            clear ZP
            have W_7 := Lib.hid (own_below ZW.out hu7)
            clear ZW
            have R_7 := Lib.hid (own_below ZR.out hu7)
            clear ZR
            go_wp2_with fail
            refine ⟨trivial, ?_⟩
            refine anyU_nil (by kernel_rfl) ?_
            intro w8 hu8 _
            have B_8 := Lib.hid (bw_tr B_7.out hu8)
            clear B_7
            have Q_8 := Lib.hid (up_in hu8 Q_7.out)
            clear Q_7
            have P_8 := Lib.hid (own_below P_7.out hu8)
            clear P_7
            have W_8 := Lib.hid (own_below W_7.out hu8)
            clear W_7
            have R_8 := Lib.hid (own_below R_7.out hu8)
            clear R_7
            go_wp2_with fail
            go_meet
            case rel => exact ⟨_, _, _, rfl, rfl, ⟨_, _, _, List.replicate h (.slice none 0 0), rfl, by simpa [newMem, intC] using own_zero W_8.out, by simpa [newMem] using own_zero P_8.out, by simpa [newMem, intC] using own_zero R_8.out, by simp [newMem], rows_nil B_8.out⟩, Q_8.out, B_8.out⟩
          · intro w3 hu3 _
            have B_3 := Lib.hid (bw_tr B_2b.out hu3)
            clear B_2b
            have Q_3 := Lib.hid (up_in hu3 Q_2b.out)
            clear Q_2b
            have S_3 := Lib.hid (up_in hu3 S_2b.out)
            clear S_2b
            have P_3 := Lib.hid (own_below HO3.out hu3)
            clear HO3
            have hsz3 : w.heap.size ≤ w3.heap.size := B_3.out.size
            go_wp2_with fail
            refine (repeat_any h _ _ ⟨hh1, hh2⟩ S_3.out).mono ?_
            rintro e v3 ⟨gR, rfl, hR, hlR, hb3⟩
            have HR : Hid (v3.ownsRow w.heap.size 3 1 (.slice (some ⟨gR, 0, none⟩) h h) h (intC (List.replicate h (-1)))) := Lib.hid (own_whole hR (by omega) (by simp [intC]) (by unfold maxLen; omega))
            have B_3b := Lib.hid (bw_tr B_3.out hb3)
            clear B_3
            have Q_3b := Lib.hid (up_in hb3 Q_3.out)
            clear Q_3
            have S_3b := Lib.hid (up_in hb3 S_3.out)
            clear S_3
            have P_3b := Lib.hid (own_below P_3.out hb3)
            clear P_3
            clear hR hb3
            go_wp2_with fail
            refine ⟨trivial, ?_⟩
            refine anyU_one (i := 1) (by kernel_rfl) rfl ?_
            intro w4 hu4 _
            have B_4 := Lib.hid (bw_tr B_3b.out hu4)
            clear B_3b
            have Q_4 := Lib.hid (up_in hu4 Q_3b.out)
            clear Q_3b
            have P_4 := Lib.hid (own_below P_3b.out hu4)
            clear P_3b
            have R_4 := Lib.hid (own_below HR.out hu4)
            clear HR
            have hsz4 : w.heap.size ≤ w4.heap.size := B_4.out.size
            obtain ⟨v4, hmk4, ho4, hg4⟩ := run_make_full (P := Try.prog) w4 w.heap.size 24 3 i0 (.int .i64 0) 1 Try.underlying24 hi hz0 hz1 .i64 .i64 n (by rw [hz2]; omega) (by unfold maxLen; omega) hsz4
            rw [show (Value.int .i64 0 : Value).cells = #[Value.int .i64 0] from rfl, made_one] at ho4
            have B_4b := Lib.hid (bw_tr B_4.out (grown_up hg4))
            clear B_4
            have Q_4b := Lib.hid (up_in (grown_up hg4) Q_4.out)
            clear Q_4
            have P_4b := Lib.hid (own_below P_4.out (grown_up hg4))
            clear P_4
            have R_4b := Lib.hid (own_below R_4.out (grown_up hg4))
            clear R_4
            have HO1 := Lib.hid ho4
            clear ho4 hg4
            go_wp2_with fail
            clear hmk4
            refine ⟨trivial, ?_⟩
            refine anyU_one (i := 7) (by kernel_rfl) rfl ?_
            intro w5 hu5 _
            have B_5 := Lib.hid (bw_tr B_4b.out hu5)
            clear B_4b
            have Q_5 := Lib.hid (up_in hu5 Q_4b.out)
            clear Q_4b
            have P_5 := Lib.hid (own_below P_4b.out hu5)
            clear P_4b
            have R_5 := Lib.hid (own_below R_4b.out hu5)
            clear R_4b
            have W_5 := Lib.hid (own_below HO1.out hu5)
            clear HO1
            go_wp2_with fail
            refine ⟨trivial, ?_⟩
            refine anyU_one (i := 8) (by kernel_rfl) rfl ?_
            intro w6 hu6 _
            have B_6 := Lib.hid (bw_tr B_5.out hu6)
            clear B_5
            have Q_6 := Lib.hid (up_in hu6 Q_5.out)
            clear Q_5
            have P_6 := Lib.hid (own_below P_5.out hu6)
            clear P_5
            have R_6 := Lib.hid (own_below R_5.out hu6)
            clear R_5
            have W_6 := Lib.hid (own_below W_5.out hu6)
            clear W_5
            obtain ⟨⟨q0, q1, q2⟩, g0, g1, g2⟩ := six Q_6.out
            go_wp2_with fail
            have ZW := Lib.hid (own_set3 (.slice (some ⟨w4.heap.size, 0, none⟩) n n) (.slice (some ⟨w2.heap.size, 0, none⟩) h h) (.slice (some ⟨gR, 0, none⟩) h h) W_6.out Q_6.out (by decide))
            have ZP := Lib.hid (own_set3 (.slice (some ⟨w4.heap.size, 0, none⟩) n n) (.slice (some ⟨w2.heap.size, 0, none⟩) h h) (.slice (some ⟨gR, 0, none⟩) h h) P_6.out Q_6.out (by decide))
            have ZR := Lib.hid (own_set3 (.slice (some ⟨w4.heap.size, 0, none⟩) n n) (.slice (some ⟨w2.heap.size, 0, none⟩) h h) (.slice (some ⟨gR, 0, none⟩) h h) R_6.out Q_6.out (by decide))
            have ZB := Lib.hid (bel_set3 (x := .slice (some ⟨w4.heap.size, 0, none⟩) n n) (y := .slice (some ⟨w2.heap.size, 0, none⟩) h h) (z := .slice (some ⟨gR, 0, none⟩) h h) B_6.out (Nat.le_refl w.heap.size))
            have ZQ := Lib.hid (set3_spec (x := .slice (some ⟨w4.heap.size, 0, none⟩) n n) (y := .slice (some ⟨w2.heap.size, 0, none⟩) h h) (z := .slice (some ⟨gR, 0, none⟩) h h) Q_6.out).1
            clear q0 q1 q2 g0 g1 g2
            refine ⟨trivial, ?_⟩
            refine anyU_one (i := 9) (by kernel_rfl) rfl ?_
            intro w7 hu7 _
            have B_7 := Lib.hid (bw_tr ZB.out hu7)
            clear ZB
            have Q_7 := Lib.hid (up_in hu7 ZQ.out)
            clear ZQ
            have P_7 := Lib.hid (own_below ZP.out hu7)
            clear ZP
            have R_7 := Lib.hid (own_below ZR.out hu7)
            clear ZR
            have W_7 := Lib.hid (own_below ZW.out hu7)
            clear ZW
            go_wp2_with fail
            refine ⟨trivial, ?_⟩
            refine anyU_nil (by kernel_rfl) ?_
            intro w8 hu8 _
            have B_8 := Lib.hid (bw_tr B_7.out hu8)
            clear B_7
            have Q_8 := Lib.hid (up_in hu8 Q_7.out)
            clear Q_7
            have P_8 := Lib.hid (own_below P_7.out hu8)
            clear P_7
            have R_8 := Lib.hid (own_below R_7.out hu8)
            clear R_7
            have W_8 := Lib.hid (own_below W_7.out hu8)
            clear W_7
            go_wp2_with fail
            go_meet
            case rel => exact ⟨_, _, _, rfl, rfl, ⟨_, _, _, List.replicate h (.slice none 0 0), rfl, by simpa [newMem, intC] using own_zero W_8.out, by simpa [newMem] using own_zero P_8.out, by simpa [newMem, intC] using own_zero R_8.out, by simp [newMem], rows_nil B_8.out⟩, Q_8.out, B_8.out⟩
        · intro w2 hu2 _
          have B_2 := Lib.hid (bw_tr B_1b.out hu2)
          clear B_1b
          have Q_2 := Lib.hid (up_in hu2 Q_1b.out)
          clear Q_1b
          have S_2 := Lib.hid (up_in hu2 HS.out)
          clear HS
          have hsz2 : w.heap.size ≤ w2.heap.size := B_2.out.size
          go_wp2_with fail
          refine (repeat_any h _ _ ⟨hh1, hh2⟩ S_2.out).mono ?_
          rintro e v2 ⟨gR, rfl, hR, hlR, hb2⟩
          have HR : Hid (v2.ownsRow w.heap.size 3 1 (.slice (some ⟨gR, 0, none⟩) h h) h (intC (List.replicate h (-1)))) := Lib.hid (own_whole hR (by omega) (by simp [intC]) (by unfold maxLen; omega))
          have B_2b := Lib.hid (bw_tr B_2.out hb2)
          clear B_2
          have Q_2b := Lib.hid (up_in hb2 Q_2.out)
          clear Q_2
          have S_2b := Lib.hid (up_in hb2 S_2.out)
          clear S_2
          clear hR hb2
          go_wp2_with fail
          refine ⟨trivial, ?_⟩
          refine anyU_two (i := 1) (k := 3) (by kernel_rfl) rfl rfl ?_ ?_
          · intro w3 hu3 _
            have B_3 := Lib.hid (bw_tr B_2b.out hu3)
            clear B_2b
            have Q_3 := Lib.hid (up_in hu3 Q_2b.out)
            clear Q_2b
            have R_3 := Lib.hid (own_below HR.out hu3)
            clear HR
            have hsz3 : w.heap.size ≤ w3.heap.size := B_3.out.size
            obtain ⟨v3, hmk3, ho3, hg3⟩ := run_make_full (P := Try.prog) w3 w.heap.size 24 3 i0 (.int .i64 0) 1 Try.underlying24 hi hz0 hz1 .i64 .i64 n (by rw [hz2]; omega) (by unfold maxLen; omega) hsz3
            rw [show (Value.int .i64 0 : Value).cells = #[Value.int .i64 0] from rfl, made_one] at ho3
            have B_3b := Lib.hid (bw_tr B_3.out (grown_up hg3))
            clear B_3
            have Q_3b := Lib.hid (up_in (grown_up hg3) Q_3.out)
            clear Q_3
            have R_3b := Lib.hid (own_below R_3.out (grown_up hg3))
            clear R_3
            have HO1 := Lib.hid ho3
            clear ho3 hg3
            go_wp2_with fail
            clear hmk3
            refine ⟨trivial, ?_⟩
            refine anyU_one (i := 3) (by kernel_rfl) rfl ?_
            intro w4 hu4 _
            have B_4 := Lib.hid (bw_tr B_3b.out hu4)
            clear B_3b
            have Q_4 := Lib.hid (up_in hu4 Q_3b.out)
            clear Q_3b
            have R_4 := Lib.hid (own_below R_3b.out hu4)
            clear R_3b
            have W_4 := Lib.hid (own_below HO1.out hu4)
            clear HO1
            have hsz4 : w.heap.size ≤ w4.heap.size := B_4.out.size
            obtain ⟨v4, hmk4, ho4, hg4⟩ := run_make_full (P := Try.prog) w4 w.heap.size 25 42 i1 (.slice none 0 0) 1 Try.underlying25 hi' hy0 hy1 .i64 .i64 h (by rw [hy2]; omega) (by unfold maxLen; omega) hsz4
            rw [show (Value.slice none 0 0 : Value).cells = #[Value.slice none 0 0] from rfl, made_one] at ho4
            have B_4b := Lib.hid (bw_tr B_4.out (grown_up hg4))
            clear B_4
            have Q_4b := Lib.hid (up_in (grown_up hg4) Q_4.out)
            clear Q_4
            have R_4b := Lib.hid (own_below R_4.out (grown_up hg4))
            clear R_4
            have W_4b := Lib.hid (own_below W_4.out (grown_up hg4))
            clear W_4
            have HO3 := Lib.hid ho4
            clear ho4 hg4
            go_wp2_with fail
            clear hmk4
            refine ⟨trivial, ?_⟩
            refine anyU_one (i := 7) (by kernel_rfl) rfl ?_
            intro w5 hu5 _
            have B_5 := Lib.hid (bw_tr B_4b.out hu5)
            clear B_4b
            have Q_5 := Lib.hid (up_in hu5 Q_4b.out)
            clear Q_4b
            have R_5 := Lib.hid (own_below R_4b.out hu5)
            clear R_4b
            have W_5 := Lib.hid (own_below W_4b.out hu5)
            clear W_4b
            have P_5 := Lib.hid (own_below HO3.out hu5)
            clear HO3
            go_wp2_with fail
            refine ⟨trivial, ?_⟩
            refine anyU_one (i := 8) (by kernel_rfl) rfl ?_
            intro w6 hu6 _
            have B_6 := Lib.hid (bw_tr B_5.out hu6)
            clear B_5
            have Q_6 := Lib.hid (up_in hu6 Q_5.out)
            clear Q_5
            have R_6 := Lib.hid (own_below R_5.out hu6)
            clear R_5
            have W_6 := Lib.hid (own_below W_5.out hu6)
            clear W_5
            have P_6 := Lib.hid (own_below P_5.out hu6)
            clear P_5
            obtain ⟨⟨q0, q1, q2⟩, g0, g1, g2⟩ := six Q_6.out
            go_wp2_with fail
            have ZW := Lib.hid (own_set3 (.slice (some ⟨w3.heap.size, 0, none⟩) n n) (.slice (some ⟨w4.heap.size, 0, none⟩) h h) (.slice (some ⟨gR, 0, none⟩) h h) W_6.out Q_6.out (by decide))
            have ZP := Lib.hid (own_set3 (.slice (some ⟨w3.heap.size, 0, none⟩) n n) (.slice (some ⟨w4.heap.size, 0, none⟩) h h) (.slice (some ⟨gR, 0, none⟩) h h) P_6.out Q_6.out (by decide))
            have ZR := Lib.hid (own_set3 (.slice (some ⟨w3.heap.size, 0, none⟩) n n) (.slice (some ⟨w4.heap.size, 0, none⟩) h h) (.slice (some ⟨gR, 0, none⟩) h h) R_6.out Q_6.out (by decide))
            have ZB := Lib.hid (bel_set3 (x := .slice (some ⟨w3.heap.size, 0, none⟩) n n) (y := .slice (some ⟨w4.heap.size, 0, none⟩) h h) (z := .slice (some ⟨gR, 0, none⟩) h h) B_6.out (Nat.le_refl w.heap.size))
            have ZQ := Lib.hid (set3_spec (x := .slice (some ⟨w3.heap.size, 0, none⟩) n n) (y := .slice (some ⟨w4.heap.size, 0, none⟩) h h) (z := .slice (some ⟨gR, 0, none⟩) h h) Q_6.out).1
            clear q0 q1 q2 g0 g1 g2
            refine ⟨trivial, ?_⟩
            refine anyU_one (i := 9) (by kernel_rfl) rfl ?_
            intro w7 hu7 _
            have B_7 := Lib.hid (bw_tr ZB.out hu7)
            clear ZB
            have Q_7 := Lib.hid (up_in hu7 ZQ.out)
            clear ZQ
            have R_7 := Lib.hid (own_below ZR.out hu7)
            clear ZR
            have W_7 := Lib.hid (own_below ZW.out hu7)
            clear ZW
            have P_7 := Lib.hid (own_below ZP.out hu7)
            clear ZP
            go_wp2_with fail
            refine ⟨trivial, ?_⟩
            refine anyU_nil (by kernel_rfl) ?_
            intro w8 hu8 _
            have B_8 := Lib.hid (bw_tr B_7.out hu8)
            clear B_7
            have Q_8 := Lib.hid (up_in hu8 Q_7.out)
            clear Q_7
            have R_8 := Lib.hid (own_below R_7.out hu8)
            clear R_7
            have W_8 := Lib.hid (own_below W_7.out hu8)
            clear W_7
            have P_8 := Lib.hid (own_below P_7.out hu8)
            clear P_7
            go_wp2_with fail
            go_meet
            case rel => exact ⟨_, _, _, rfl, rfl, ⟨_, _, _, List.replicate h (.slice none 0 0), rfl, by simpa [newMem, intC] using own_zero W_8.out, by simpa [newMem] using own_zero P_8.out, by simpa [newMem, intC] using own_zero R_8.out, by simp [newMem], rows_nil B_8.out⟩, Q_8.out, B_8.out⟩
          · intro w3 hu3 _
            have B_3 := Lib.hid (bw_tr B_2b.out hu3)
            clear B_2b
            have Q_3 := Lib.hid (up_in hu3 Q_2b.out)
            clear Q_2b
            have R_3 := Lib.hid (own_below HR.out hu3)
            clear HR
            have hsz3 : w.heap.size ≤ w3.heap.size := B_3.out.size
            obtain ⟨v3, hmk3, ho3, hg3⟩ := run_make_full (P := Try.prog) w3 w.heap.size 25 42 i1 (.slice none 0 0) 1 Try.underlying25 hi' hy0 hy1 .i64 .i64 h (by rw [hy2]; omega) (by unfold maxLen; omega) hsz3
            rw [show (Value.slice none 0 0 : Value).cells = #[Value.slice none 0 0] from rfl, made_one] at ho3
            have B_3b := Lib.hid (bw_tr B_3.out (grown_up hg3))
            clear B_3
            have Q_3b := Lib.hid (up_in (grown_up hg3) Q_3.out)
            clear Q_3
            have R_3b := Lib.hid (own_below R_3.out (grown_up hg3))
            clear R_3
            have HO3 := Lib.hid ho3
            clear ho3 hg3
            go_wp2_with fail
            clear hmk3
            refine ⟨trivial, ?_⟩
            refine anyU_one (i := 1) (by kernel_rfl) rfl ?_
            intro w4 hu4 _
            have B_4 := Lib.hid (bw_tr B_3b.out hu4)
            clear B_3b
            have Q_4 := Lib.hid (up_in hu4 Q_3b.out)
            clear Q_3b
            have R_4 := Lib.hid (own_below R_3b.out hu4)
            clear R_3b
            have P_4 := Lib.hid (own_below HO3.out hu4)
            clear HO3
            have hsz4 : w.heap.size ≤ w4.heap.size := B_4.out.size
            obtain ⟨v4, hmk4, ho4, hg4⟩ := run_make_full (P := Try.prog) w4 w.heap.size 24 3 i0 (.int .i64 0) 1 Try.underlying24 hi hz0 hz1 .i64 .i64 n (by rw [hz2]; omega) (by unfold maxLen; omega) hsz4
            rw [show (Value.int .i64 0 : Value).cells = #[Value.int .i64 0] from rfl, made_one] at ho4
            have B_4b := Lib.hid (bw_tr B_4.out (grown_up hg4))
            clear B_4
            have Q_4b := Lib.hid (up_in (grown_up hg4) Q_4.out)
            clear Q_4
            have R_4b := Lib.hid (own_below R_4.out (grown_up hg4))
            clear R_4
            have P_4b := Lib.hid (own_below P_4.out (grown_up hg4))
            clear P_4
            have HO1 := Lib.hid ho4
            clear ho4 hg4
            go_wp2_with fail
            clear hmk4
            refine ⟨trivial, ?_⟩
            refine anyU_one (i := 7) (by kernel_rfl) rfl ?_
            intro w5 hu5 _
            have B_5 := Lib.hid (bw_tr B_4b.out hu5)
            clear B_4b
            have Q_5 := Lib.hid (up_in hu5 Q_4b.out)
            clear Q_4b
            have R_5 := Lib.hid (own_below R_4b.out hu5)
            clear R_4b
            have P_5 := Lib.hid (own_below P_4b.out hu5)
            clear P_4b
            have W_5 := Lib.hid (own_below HO1.out hu5)
            clear HO1
            go_wp2_with fail
            refine ⟨trivial, ?_⟩
            refine anyU_one (i := 8) (by kernel_rfl) rfl ?_
            intro w6 hu6 _
            have B_6 := Lib.hid (bw_tr B_5.out hu6)
            clear B_5
            have Q_6 := Lib.hid (up_in hu6 Q_5.out)
            clear Q_5
            have R_6 := Lib.hid (own_below R_5.out hu6)
            clear R_5
            have P_6 := Lib.hid (own_below P_5.out hu6)
            clear P_5
            have W_6 := Lib.hid (own_below W_5.out hu6)
            clear W_5
            obtain ⟨⟨q0, q1, q2⟩, g0, g1, g2⟩ := six Q_6.out
            go_wp2_with fail
            have ZW := Lib.hid (own_set3 (.slice (some ⟨w4.heap.size, 0, none⟩) n n) (.slice (some ⟨w3.heap.size, 0, none⟩) h h) (.slice (some ⟨gR, 0, none⟩) h h) W_6.out Q_6.out (by decide))
            have ZP := Lib.hid (own_set3 (.slice (some ⟨w4.heap.size, 0, none⟩) n n) (.slice (some ⟨w3.heap.size, 0, none⟩) h h) (.slice (some ⟨gR, 0, none⟩) h h) P_6.out Q_6.out (by decide))
            have ZR := Lib.hid (own_set3 (.slice (some ⟨w4.heap.size, 0, none⟩) n n) (.slice (some ⟨w3.heap.size, 0, none⟩) h h) (.slice (some ⟨gR, 0, none⟩) h h) R_6.out Q_6.out (by decide))
            have ZB := Lib.hid (bel_set3 (x := .slice (some ⟨w4.heap.size, 0, none⟩) n n) (y := .slice (some ⟨w3.heap.size, 0, none⟩) h h) (z := .slice (some ⟨gR, 0, none⟩) h h) B_6.out (Nat.le_refl w.heap.size))
            have ZQ := Lib.hid (set3_spec (x := .slice (some ⟨w4.heap.size, 0, none⟩) n n) (y := .slice (some ⟨w3.heap.size, 0, none⟩) h h) (z := .slice (some ⟨gR, 0, none⟩) h h) Q_6.out).1
            clear q0 q1 q2 g0 g1 g2
            refine ⟨trivial, ?_⟩
            refine anyU_one (i := 9) (by kernel_rfl) rfl ?_
            intro w7 hu7 _
            have B_7 := Lib.hid (bw_tr ZB.out hu7)
            clear ZB
            have Q_7 := Lib.hid (up_in hu7 ZQ.out)
            clear ZQ
            have R_7 := Lib.hid (own_below ZR.out hu7)
            clear ZR
            have P_7 := Lib.hid (own_below ZP.out hu7)
            clear ZP
            have W_7 := Lib.hid (own_below ZW.out hu7)
            clear ZW
            go_wp2_with fail
            refine ⟨trivial, ?_⟩
            refine anyU_nil (by kernel_rfl) ?_
            intro w8 hu8 _
            have B_8 := Lib.hid (bw_tr B_7.out hu8)
            clear B_7
            have Q_8 := Lib.hid (up_in hu8 Q_7.out)
            clear Q_7
            have R_8 := Lib.hid (own_below R_7.out hu8)
            clear R_7
            have P_8 := Lib.hid (own_below P_7.out hu8)
            clear P_7
            have W_8 := Lib.hid (own_below W_7.out hu8)
            clear W_7
            go_wp2_with fail
            go_meet
            case rel => exact ⟨_, _, _, rfl, rfl, ⟨_, _, _, List.replicate h (.slice none 0 0), rfl, by simpa [newMem, intC] using own_zero W_8.out, by simpa [newMem] using own_zero P_8.out, by simpa [newMem, intC] using own_zero R_8.out, by simp [newMem], rows_nil B_8.out⟩, Q_8.out, B_8.out⟩
  case rest =>
    obtain ⟨wv, pv, rv, rfl, rfl, hm, hq, hb⟩ := hcut
    have HM := Lib.hid hm; have HB := Lib.hid hb
    obtain ⟨a1, c1, a2, c2, a3, c3, rows, e, _, _, _, _⟩ := hm.parts
    injection e with e
    have e1 : wv = .slice a1 (newMem h n).words.length c1 := by have := congrArg (fun x => x[0]?) e; simpa using this
    have e2 : pv = .slice a2 (newMem h n).pend.length c2 := by have := congrArg (fun x => x[1]?) e; simpa using this
    have e3 : rv = .slice a3 (newMem h n).res.length c3 := by have := congrArg (fun x => x[2]?) e; simpa using this
    subst e1 e2 e3
    generalize (newMem h n).words.length = d1 at *
    generalize (newMem h n).pend.length = d2 at *
    generalize (newMem h n).res.length = d3 at *
    obtain ⟨s0, s1, s2⟩ := three_cells hq
    clear hm hq hb e
    go_wp2_with fail
    exact bodyPost_ret (v := .tuple #[.agg #[.slice a1 d1 c1, .slice a2 d2 c2, .slice a3 d3 c3], .int .i64 0]) (by simp [results, Try.results11, go_sem, s0, s1, s2]) rfl ⟨_, rfl, HM.out, HB.out⟩
theorem new_any (h n : Int) (w : World) : Calls Try.prog 11 #[.int .i64 h, .int .i64 n] w (MemRet w w.heap.size (newR h n)) := by
  unfold newR
  by_cases hh : 1 ≤ h ∧ h ≤ 4 ∧ 0 ≤ n ∧ n ≤ 4096
  · rw [if_pos hh]
    obtain ⟨hk, rfl⟩ : ∃ k : Nat, h = k := ⟨h.toNat, by omega⟩
    obtain ⟨nk, rfl⟩ : ∃ k : Nat, n = k := ⟨n.toNat, by omega⟩
    simp only [Int.toNat_natCast]
    exact new_yes _ _ w (by omega) (by omega)
  · rw [if_neg hh]; exact new_no h n w hh
end Go.Proofs.Ytkhobelceghgfaa
