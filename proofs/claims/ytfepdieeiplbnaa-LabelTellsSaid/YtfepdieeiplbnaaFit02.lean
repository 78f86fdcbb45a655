/-
  headstocklaw02: pick, and Fit: of a raw instruction a right one.
-/
import Derived.Test.YtfepdieeiplbnaaCodeRight
import Derived.Test.YtfepdieeiplbnaaRef2Row
import Derived.Test.YtfepdieeiplbnaaInstr
import Derived.Test.YtfepdieeiplbnaaPickMath
import Derived.WalkSpells
import Derived.WalkLawsBesides
namespace Go.Proofs.Ytfepdieeiplbnaa
open Go.RowKit
theorem pick02 (c n : Int) (w : World) (hc : I64 c) (hn : 0 < n ∧ n ≤ 9223372036854775807) :
    Calls Try.prog 42 #[.int .i64 c, .int .i64 n] w fun e w' => e = .returned (.int .i64 (pickN c n)) ∧ w = w' := by
  have hn0 : (n == 0) = false := by simp; omega
  have hb := pickN_bd c n hn.1
  by_cases h : c < 0
  · have E := Lib.hid (pick_neg c n h)
    go_enter Try.func42, Try.ntmps42
    go_wp2
    go_ret
    exact ⟨by rw [← E.out]; rfl, rfl⟩
  · have E := Lib.hid (pick_pos c n h)
    go_enter Try.func42, Try.ntmps42
    go_wp2
    go_ret
    exact ⟨by rw [← E.out]; rfl, rfl⟩
def fitF (f : Int) (op : Int) (x : Ins) : Ins :=
  ⟨op, if (shapeT f).d then pickN x.d 32 else 0, if (shapeT f).a then pickN x.a 32 else 0, if (shapeT f).b then pickN x.b 32 else 0,
    if f = 73 then pickN x.n 4096 - 2048 else if f = 83 then pickN x.n 4096 - 2048 else if f = 72 then pickN x.n 32 else if f = 66 then 2 * pickN x.n 4096 - 4096 else if f = 85 then pickN x.n 1048576
    else if f = 74 then 2 * pickN x.n 1048576 - 1048576 else if f = 70 then pickN x.n 256 else if f = 67 then pickN x.n 4096 else if f = 76 then pickN x.n 4 else if f = 65 then pickN x.n 4 else 0⟩
def fitX (x : Ins) : Ins := fitF (rowT (1 + pickN x.op 49)).form (1 + pickN x.op 49) x
def form12 (f : Int) : Prop := f = 82 ∨ f = 73 ∨ f = 72 ∨ f = 83 ∨ f = 66 ∨ f = 85 ∨ f = 74 ∨ f = 70 ∨ f = 67 ∨ f = 76 ∨ f = 65 ∨ f = 90
theorem form_mem (op : Int) (h : 1 ≤ op ∧ op ≤ 49) : form12 (rowT op).form := by
  obtain ⟨k, rfl, hk⟩ : ∃ k : Nat, op = k ∧ 1 ≤ k ∧ k ≤ 49 := ⟨op.toNat, by omega, by omega, by omega⟩
  have : ∀ k : Fin 50, 1 ≤ k.val → ((rowT (k.val : Int)).form = 82 ∨ (rowT (k.val : Int)).form = 73 ∨ (rowT (k.val : Int)).form = 72 ∨ (rowT (k.val : Int)).form = 83 ∨ (rowT (k.val : Int)).form = 66 ∨ (rowT (k.val : Int)).form = 85 ∨ (rowT (k.val : Int)).form = 74 ∨ (rowT (k.val : Int)).form = 70 ∨ (rowT (k.val : Int)).form = 67 ∨ (rowT (k.val : Int)).form = 76 ∨ (rowT (k.val : Int)).form = 65 ∨ (rowT (k.val : Int)).form = 90) := by decide +kernel
  exact this ⟨k, by omega⟩ hk.1
theorem may_pick (c : Int) (b : Bool) : mayB (if b then pickN c 32 else 0) b = true := by
  have := pickN_bd c 32 (by omega)
  cases b
  · rfl
  · simp [mayB]; omega
theorem fit_right (x : Ins) : rightB (fitX x) = true := by
  have hp := pickN_bd x.op 49 (by omega)
  have hf := form_mem (1 + pickN x.op 49) (by omega)
  have e : (fitX x).op = 1 + pickN x.op 49 := rfl
  have hsh : shX (fitX x) = shapeT (rowT (1 + pickN x.op 49)).form := rfl
  unfold rightB
  rw [hsh, e, isOp_yes (by omega)]
  unfold fitX
  generalize (rowT (1 + pickN x.op 49)).form = f at *
  generalize 1 + pickN x.op 49 = op at *
  have h1 := may_pick x.d (shapeT f).d
  have h2 := may_pick x.a (shapeT f).a
  have h3 := may_pick x.b (shapeT f).b
  simp only [fitF, h1, h2, h3, Bool.true_and]
  have p1 := pickN_bd x.n 4096 (by omega)
  have p2 := pickN_bd x.n 32 (by omega)
  have p3 := pickN_bd x.n 1048576 (by omega)
  have p4 := pickN_bd x.n 256 (by omega)
  have p5 := pickN_bd x.n 4 (by omega)
  rcases hf with rfl | rfl | rfl | rfl | rfl | rfl | rfl | rfl | rfl | rfl | rfl | rfl
  all_goals
    simp [shapeT, modB]
    try omega
  · refine ⟨by omega, by omega, ?_⟩
    rw [show 2 * pickN x.n 4096 - 4096 = 2 * (pickN x.n 4096 - 2048) by omega]
    exact Int.mul_tmod_right 2 _
  · refine ⟨by omega, by omega, ?_⟩
    rw [show 2 * pickN x.n 1048576 - 1048576 = 2 * (pickN x.n 1048576 - 524288) by omega]
    exact Int.mul_tmod_right 2 _
theorem field_form (nm : ByteArray) (f lo mi hi : Int) (w : World) : (Instr.field 76 (.agg #[.string nm, .int .u8 f, .int .i64 lo, .int .i64 mi, .int .i64 hi]) 1).run Try.prog w = .ok (.int .u8 f) w := by kernel_rfl
set_option maxRecDepth 100000 in
set_option maxHeartbeats 20000000 in
theorem fit_any (x : Ins) (w : World) (h : ok_instr x) :
    Calls Try.prog 25 #[insV x] w fun e w' => e = .returned (insV (fitX x)) ∧ Below w.heap.size w w' := by
  obtain ⟨op, d, a, b, n⟩ := x
  obtain ⟨h0, h1, h2, h3, h4⟩ := h
  simp only at h0 h1 h2 h3 h4
  have H0 := Lib.hid h0; have H1 := Lib.hid h1; have H2 := Lib.hid h2; have H3 := Lib.hid h3; have H4 := Lib.hid h4
  clear h0 h1 h2 h3 h4
  have hp := pickN_bd op 49 (by omega)
  have hf := form_mem (1 + pickN op 49) (by omega)
  have HX : Hid (fitX ⟨op, d, a, b, n⟩ = fitF (rowT (1 + pickN op 49)).form (1 + pickN op 49) ⟨op, d, a, b, n⟩) := rfl
  generalize hrw : rowT (1 + pickN op 49) = r at *
  have HRW := Lib.hid hrw; clear hrw
  obtain ⟨nm, f, lo, mi, hi⟩ := r
  simp only at hf HX
  have p0 := pickN_bd d 32 (by omega)
  have p1 := pickN_bd a 32 (by omega)
  have p2 := pickN_bd b 32 (by omega)
  have p3 := pickN_bd n 4096 (by omega)
  have p4 := pickN_bd n 32 (by omega)
  have p5 := pickN_bd n 1048576 (by omega)
  have p6 := pickN_bd n 256 (by omega)
  have p7 := pickN_bd n 4 (by omega)
  unfold insV
  rcases hf with rfl | rfl | rfl | rfl | rfl | rfl | rfl | rfl | rfl | rfl | rfl | rfl
  all_goals
    go_enter Try.func25, Try.ntmps25
    go_wp2_with (go_at_call 42; ((with_reducible refine (pick02 op 49 _ H0.out (by omega)).mono ?_); rintro e w' ⟨rfl, rfl⟩))
    refine (refRow_any _ _).mono ?_
    rw [HRW.out]
    rintro e w1 ⟨rfl, hb1⟩
    obtain ⟨c1, f1⟩ := bcell hb1
    have z1 : w.heap.size + 1 + 1 < w1.heap.size := by have := hb1.size; simp at this; omega
    have z2 : w.heap.size + 1 < w1.heap.size := by omega
    have z3 : w.heap.size < w1.heap.size := by omega
    unfold rfV
    have hfld := fun f => field_form nm f lo mi hi w1
    go_wp2_with (go_at_call 42; (first | ((with_reducible refine (pick02 d 32 _ H1.out (by omega)).mono ?_); rintro e w' ⟨rfl, rfl⟩) | ((with_reducible refine (pick02 a 32 _ H2.out (by omega)).mono ?_); rintro e w' ⟨rfl, rfl⟩) | ((with_reducible refine (pick02 b 32 _ H3.out (by omega)).mono ?_); rintro e w' ⟨rfl, rfl⟩) | ((with_reducible refine (pick02 n _ _ H4.out (by omega)).mono ?_); rintro e w' ⟨rfl, rfl⟩)))
    refine bodyPost_ret (v := insV (fitF _ (1 + pickN op 49) ⟨op, d, a, b, n⟩)) ?_ rfl ⟨by rw [HX.out]; rfl, (by repeat (first | (with_reducible exact Below.refl _ _) | (with_reducible refine bw_set ?_ ?_ _) | (with_reducible apply bw_alloc) | (with_reducible refine bw_tr ?_ (by with_reducible assumption)) | (with_reducible apply bw_drew) | omega))⟩
    simp [results, Try.results25, go_sem, c1]
    rfl
end Go.Proofs.Ytfepdieeiplbnaa
