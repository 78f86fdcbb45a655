/-
  The contract of code.Encode.
-/
import Derived.Test.YtfepdieeiplbnaaCodeRight
import Derived.Test.YtfepdieeiplbnaaCodeNum
import Derived.Test.YtfepdieeiplbnaaAppend
namespace Go.Proofs.Ytfepdieeiplbnaa
open Go.RowKit
/-- The pieces of an instruction's word. -/
def headP (x : Ins) : List Pc := [⟨(rowT x.op).low, 0, 7, 0⟩, ⟨(rowT x.op).mid, 0, 3, 12⟩, ⟨(rowT x.op).high, 0, 7, 25⟩, ⟨x.d, 0, 5, 7⟩, ⟨x.a, 0, 5, 15⟩, ⟨x.b + fixedN x.op, 0, 5, 20⟩]
def encN (x : Ins) : Nat := layN (headP x ++ numP (rowT x.op).form x.n)
def encV (x : Ins) : Int := if rightB x then (encN x : Nat) else 0
def encE (x : Ins) : Int := if rightB x then 0 else 1
theorem right_lit (x : Ins) (r : Bool) (w : World) (hr : rightB x = r) :
    Calls Try.prog 30 #[insV x] w fun e w' => e = .returned (.bool r) ∧ Below w.heap.size w w' := by subst hr; exact right_any x w
theorem may_bd {n : Int} {is : Bool} (h : mayB n is = true) : 0 ≤ n ∧ n < 32 := by
  simp only [mayB, Bool.and_eq_true, decide_eq_true_eq] at h; exact ⟨h.1, h.2.1⟩
theorem right_b {x : Ins} (h : rightB x = true) : 0 ≤ x.b ∧ x.b < 32 := by
  simp only [rightB, Bool.and_eq_true] at h
  exact may_bd h.2.2.2.1
theorem head_ok (x : Ins) : ∀ p ∈ headP x ++ numP (rowT x.op).form x.n, okP p := by
  intro p hp
  rcases List.mem_append.1 hp with hp | hp
  · simp only [headP, List.mem_cons, List.not_mem_nil, or_false] at hp
    rcases hp with rfl | rfl | rfl | rfl | rfl | rfl <;> simp [okP]
  · exact num_ok _ _ p hp
theorem infoPc : (Try.prog.info? 100).map (fun i => (i.zero, i.size, i.bytes)) = some (some (.agg #[.int .i64 0, .int .i64 0, .int .i64 0, .int .i64 0]), 4, 32) := by kernel_rfl
set_option maxHeartbeats 4000000 in
theorem encode_any (x : Ins) (w : World) :
    Calls Try.prog 48 #[insV x] w fun e w' => e = .returned (.tuple #[.int .i64 (encV x), .int .i64 (encE x)]) ∧ Below w.heap.size w w' := by
  cases hr : rightB x
  case false =>
    have E1 : encV x = 0 := by unfold encV; rw [hr]; rfl
    have E2 : encE x = 1 := by unfold encE; rw [hr]; rfl
    rw [E1, E2]; clear E1 E2
    have HR := Lib.hid hr; clear hr
    obtain ⟨op, d, a, b, n⟩ := x
    unfold insV
    go_enter Try.func48, Try.ntmps48
    go_wp2_with fail
    refine (right_lit ⟨op, d, a, b, n⟩ false _ HR.out).mono ?_
    rintro e w1 ⟨rfl, hb1⟩
    go_wp2_with fail
    go_ret2
    exact ⟨rfl, (by repeat (first | (with_reducible exact Below.refl _ _) | (with_reducible refine bw_set ?_ ?_ _) | (with_reducible apply bw_alloc) | (with_reducible refine bw_tr ?_ (by with_reducible assumption)) | (with_reducible apply bw_drew) | omega))⟩
  case true =>
    have E1 : encV x = (encN x : Nat) := by unfold encV; rw [hr]; rfl
    have E2 : encE x = 0 := by unfold encE; rw [hr]; rfl
    rw [E1, E2]; clear E1 E2
    have hb := right_b hr
    have HR := Lib.hid hr; clear hr
    have HOK := Lib.hid (head_ok x)
    have HN := Lib.hid (show encN x = layN (headP x ++ numP (rowT x.op).form x.n) from rfl)
    obtain ⟨op, d, a, b, n⟩ := x
    have hfx : 0 ≤ fixedN op ∧ fixedN op ≤ 5 := by unfold fixedN; repeat' split
                                                   all_goals omega
    unfold insV
    unfold headP at HN HOK
    simp only at HN HOK hb
    generalize hrw : rowT op = r at *
    have HRW := Lib.hid hrw; clear hrw
    have hfi : IntKind.i64.wrap (b + fixedN op) = b + fixedN op := IntWalk.i64_in _ (by omega)
    go_enter Try.func48, Try.ntmps48
    go_wp2_with fail
    refine (right_lit ⟨op, d, a, b, n⟩ true _ HR.out).mono ?_
    rintro e w1 ⟨rfl, hb1⟩
    obtain ⟨c1, f1⟩ := bcell hb1
    have z1 : w.heap.size < w1.heap.size := by have := hb1.size; simp at this; omega
    go_wp2_with fail
    refine (rowOf_any op _).mono ?_
    rw [HRW.out]
    rintro e w2 ⟨rfl, hb2⟩
    obtain ⟨c2, f2⟩ := bcell hb2
    have z2 : w1.heap.size ≤ w2.heap.size := hb2.size
    have z3 : w.heap.size < w2.heap.size := by omega
    have z4 : w.heap.size ≤ w2.heap.size := by omega
    unfold rwV
    go_wp2_with fail
    go_region_held3 (fun w' => SBel (w2.alloc (.cells #[.string r.nm, .int .i32 r.form, .int .i64 r.low, .int .i64 r.mid, .int .i64 r.high] 79)) w') (first | with_reducible assumption | exact sbel_drew _ | exact sbel_tr (by with_reducible assumption) (by with_reducible assumption) | exact sbel_alloc (by with_reducible assumption) _) ((go_at_call 65; refine (fixed_any _ _).mono ?_; rintro e w' ⟨rfl, rfl⟩))
    go_wp2_with fail
    refine (number_any _ _ _).mono ?_
    rintro e w3 ⟨v3, rfl, hr3, hb3⟩
    have hd : Reads w3 4 6 (.slice (some ⟨w2.heap.size + 1, 0, none⟩) 6 6) (([⟨r.low, 0, 7, 0⟩, ⟨r.mid, 0, 3, 12⟩, ⟨r.high, 0, 7, 25⟩, ⟨d, 0, 5, 7⟩, ⟨a, 0, 5, 15⟩, ⟨b + fixedN op, 0, 5, 20⟩] : List Pc).flatMap pcC) :=
      reads_list (new_at _ _ _ (by simp)) (by rfl) (one_pcs _) (by unfold maxLen; omega) (bw_undrew hb3)
    obtain ⟨i0, hi, hz0, hz1, hz2⟩ := info_parts infoPc
    have hnl := num_len r.form n
    obtain ⟨v4, w4, hrun, hr4, hb4⟩ := append_full (ty := 97) Try.underlying97 Try.underlying97 hi hz0 hz1 hd ⟨_, _, rfl⟩ hr3 (by omega) (by omega)
    rw [← List.flatMap_append] at hr4
    have HR4 := Lib.hid hr4
    have HRUN := Lib.hid hrun
    clear hd hr3 hr4 hi hz0 hz1 hz2 hnl hrun
    go_wp2_with (at_builtin; (refine wpList_append_run rfl _ _ _ _ rfl _ _ _ _ rfl rfl HRUN.out ?_))
    refine (lay_any v4 ([⟨r.low, 0, 7, 0⟩, ⟨r.mid, 0, 3, 12⟩, ⟨r.high, 0, 7, 25⟩, ⟨d, 0, 5, 7⟩, ⟨a, 0, 5, 15⟩, ⟨b + fixedN op, 0, 5, 20⟩] ++ numP r.form n) _ (by rw [List.length_append]; exact HR4.out) HOK.out).mono ?_
    rintro e w5 ⟨rfl, hb5⟩
    go_wp2_with fail
    go_ret2
    exact ⟨by rw [HN.out]; rfl, (by repeat (first | (with_reducible exact Below.refl _ _) | (with_reducible refine bw_set ?_ ?_ _) | (with_reducible apply bw_alloc) | (with_reducible refine bw_tr ?_ (by with_reducible assumption)) | (with_reducible apply bw_drew) | omega))⟩
end Go.Proofs.Ytfepdieeiplbnaa
