/-
  The contracts of code.Right, code.Writes, code.Name.
-/
import Derived.Test.YtfepdieeiplbnaaCodeRow
namespace Go.Proofs.Ytfepdieeiplbnaa
open Go.RowKit
structure Ins where
  op : Int
  d : Int
  a : Int
  b : Int
  n : Int
def insV (x : Ins) : Value := .agg #[.int .i64 x.op, .int .i64 x.d, .int .i64 x.a, .int .i64 x.b, .int .i64 x.n]
def shX (x : Ins) : Sh := shapeT (rowT x.op).form
def modB (n s : Int) : Bool := if s = 2 then n.tmod 2 == 0 else true
def rightB (x : Ins) : Bool :=
  isOp x.op && (mayB x.d (shX x).d && (mayB x.a (shX x).a && (mayB x.b (shX x).b && (decide ((shX x).least ≤ x.n) && (decide (x.n ≤ (shX x).most) && modB x.n (shX x).step)))))
theorem step_two (f : Int) : (shapeT f).step = 0 ∨ (shapeT f).step = 2 := by
  unfold shapeT
  repeat' split
  all_goals simp
theorem may_lit (n : Int) (is r : Bool) (w : World) (hr : mayB n is = r) :
    Calls Try.prog 51 #[.int .i64 n, .bool is] w fun e w' => e = .returned (.bool r) ∧ w = w' := by subst hr; exact may_any n is w
set_option maxHeartbeats 4000000 in
theorem right_any (x : Ins) (w : World) :
    Calls Try.prog 30 #[insV x] w fun e w' => e = .returned (.bool (rightB x)) ∧ Below w.heap.size w w' := by
  obtain ⟨op, d, a, b, n⟩ := x
  have hst := step_two (rowT op).form
  have HE : Hid (rightB ⟨op, d, a, b, n⟩ = (isOp op && (mayB d (shapeT (rowT op).form).d && (mayB a (shapeT (rowT op).form).a && (mayB b (shapeT (rowT op).form).b && (decide ((shapeT (rowT op).form).least ≤ n) && (decide (n ≤ (shapeT (rowT op).form).most) && modB n (shapeT (rowT op).form).step))))))) := rfl
  generalize hsh : shapeT (rowT op).form = s at *
  obtain ⟨sd, sa, sb, sl, sm, ss⟩ := s
  have HS := Lib.hid hsh; clear hsh
  simp only at hst HE
  unfold insV
  cases h0 : (isOp op)
  case false =>
    have H0 := Lib.hid h0
    have H1 : Hid (mayB d sd = mayB d sd) := rfl
    have H2 : Hid (mayB a sa = mayB a sa) := rfl
    have H3 : Hid (mayB b sb = mayB b sb) := rfl
    go_enter Try.func30, Try.ntmps30
    go_wp2_with fail
    refine (rowOf_any op _).mono ?_
    rintro e w1 ⟨rfl, hb1⟩
    obtain ⟨c1, f1⟩ := bcell hb1
    have z1 : w.heap.size < w1.heap.size := by have := hb1.size; simp at this; omega
    unfold rwV
    go_wp2_with fail
    refine (shapeOf_any _ _).mono ?_
    rw [HS.out]
    rintro e w2 ⟨rfl, hb2⟩
    obtain ⟨c2, f2⟩ := bcell hb2
    have z2 : w1.heap.size < w2.heap.size := by have := hb2.size; simp at this; omega
    have z3 : w.heap.size < w2.heap.size := by omega
    have z4 : w.heap.size ≤ w1.heap.size := by omega
    have z5 : w.heap.size ≤ w2.heap.size := by omega
    have z6 : w1.heap.size ≤ w2.heap.size := by omega
    unfold shV
    go_wp2_with (go_at_call 51; (first | ((with_reducible refine (may_lit d sd _ _ H1.out).mono ?_); rintro e w' ⟨rfl, rfl⟩) | ((with_reducible refine (may_lit a sa _ _ H2.out).mono ?_); rintro e w' ⟨rfl, rfl⟩) | ((with_reducible refine (may_lit b sb _ _ H3.out).mono ?_); rintro e w' ⟨rfl, rfl⟩)))
    go_ret
    exact ⟨ret1b (by rw [HE.out, H0.out]; rfl), (by repeat (first | (with_reducible exact Below.refl _ _) | (with_reducible refine bw_set ?_ ?_ _) | (with_reducible apply bw_alloc) | (with_reducible refine bw_tr ?_ (by with_reducible assumption)) | (with_reducible apply bw_drew) | omega))⟩
  case true =>
    cases h1 : (mayB d sd)
    case false =>
      have H0 := Lib.hid h0
      have H1 := Lib.hid h1
      clear h1
      have H2 : Hid (mayB a sa = mayB a sa) := rfl
      have H3 : Hid (mayB b sb = mayB b sb) := rfl
      go_enter Try.func30, Try.ntmps30
      go_wp2_with fail
      refine (rowOf_any op _).mono ?_
      rintro e w1 ⟨rfl, hb1⟩
      obtain ⟨c1, f1⟩ := bcell hb1
      have z1 : w.heap.size < w1.heap.size := by have := hb1.size; simp at this; omega
      unfold rwV
      go_wp2_with fail
      refine (shapeOf_any _ _).mono ?_
      rw [HS.out]
      rintro e w2 ⟨rfl, hb2⟩
      obtain ⟨c2, f2⟩ := bcell hb2
      have z2 : w1.heap.size < w2.heap.size := by have := hb2.size; simp at this; omega
      have z3 : w.heap.size < w2.heap.size := by omega
      have z4 : w.heap.size ≤ w1.heap.size := by omega
      have z5 : w.heap.size ≤ w2.heap.size := by omega
      have z6 : w1.heap.size ≤ w2.heap.size := by omega
      unfold shV
      go_wp2_with (go_at_call 51; (first | ((with_reducible refine (may_lit d sd _ _ H1.out).mono ?_); rintro e w' ⟨rfl, rfl⟩) | ((with_reducible refine (may_lit a sa _ _ H2.out).mono ?_); rintro e w' ⟨rfl, rfl⟩) | ((with_reducible refine (may_lit b sb _ _ H3.out).mono ?_); rintro e w' ⟨rfl, rfl⟩)))
      go_ret
      exact ⟨ret1b (by rw [HE.out, H0.out, H1.out]; rfl), (by repeat (first | (with_reducible exact Below.refl _ _) | (with_reducible refine bw_set ?_ ?_ _) | (with_reducible apply bw_alloc) | (with_reducible refine bw_tr ?_ (by with_reducible assumption)) | (with_reducible apply bw_drew) | omega))⟩
    case true =>
      cases h2 : (mayB a sa)
      case false =>
        have H0 := Lib.hid h0
        have H1 := Lib.hid h1
        have H2 := Lib.hid h2
        clear h1
        clear h2
        have H3 : Hid (mayB b sb = mayB b sb) := rfl
        go_enter Try.func30, Try.ntmps30
        go_wp2_with fail
        refine (rowOf_any op _).mono ?_
        rintro e w1 ⟨rfl, hb1⟩
        obtain ⟨c1, f1⟩ := bcell hb1
        have z1 : w.heap.size < w1.heap.size := by have := hb1.size; simp at this; omega
        unfold rwV
        go_wp2_with fail
        refine (shapeOf_any _ _).mono ?_
        rw [HS.out]
        rintro e w2 ⟨rfl, hb2⟩
        obtain ⟨c2, f2⟩ := bcell hb2
        have z2 : w1.heap.size < w2.heap.size := by have := hb2.size; simp at this; omega
        have z3 : w.heap.size < w2.heap.size := by omega
        have z4 : w.heap.size ≤ w1.heap.size := by omega
        have z5 : w.heap.size ≤ w2.heap.size := by omega
        have z6 : w1.heap.size ≤ w2.heap.size := by omega
        unfold shV
        go_wp2_with (go_at_call 51; (first | ((with_reducible refine (may_lit d sd _ _ H1.out).mono ?_); rintro e w' ⟨rfl, rfl⟩) | ((with_reducible refine (may_lit a sa _ _ H2.out).mono ?_); rintro e w' ⟨rfl, rfl⟩) | ((with_reducible refine (may_lit b sb _ _ H3.out).mono ?_); rintro e w' ⟨rfl, rfl⟩)))
        go_ret
        exact ⟨ret1b (by rw [HE.out, H0.out, H1.out, H2.out]; rfl), (by repeat (first | (with_reducible exact Below.refl _ _) | (with_reducible refine bw_set ?_ ?_ _) | (with_reducible apply bw_alloc) | (with_reducible refine bw_tr ?_ (by with_reducible assumption)) | (with_reducible apply bw_drew) | omega))⟩
      case true =>
        cases h3 : (mayB b sb)
        case false =>
          have H0 := Lib.hid h0
          have H1 := Lib.hid h1
          have H2 := Lib.hid h2
          have H3 := Lib.hid h3
          clear h1
          clear h2
          clear h3
          go_enter Try.func30, Try.ntmps30
          go_wp2_with fail
          refine (rowOf_any op _).mono ?_
          rintro e w1 ⟨rfl, hb1⟩
          obtain ⟨c1, f1⟩ := bcell hb1
          have z1 : w.heap.size < w1.heap.size := by have := hb1.size; simp at this; omega
          unfold rwV
          go_wp2_with fail
          refine (shapeOf_any _ _).mono ?_
          rw [HS.out]
          rintro e w2 ⟨rfl, hb2⟩
          obtain ⟨c2, f2⟩ := bcell hb2
          have z2 : w1.heap.size < w2.heap.size := by have := hb2.size; simp at this; omega
          have z3 : w.heap.size < w2.heap.size := by omega
          have z4 : w.heap.size ≤ w1.heap.size := by omega
          have z5 : w.heap.size ≤ w2.heap.size := by omega
          have z6 : w1.heap.size ≤ w2.heap.size := by omega
          unfold shV
          go_wp2_with (go_at_call 51; (first | ((with_reducible refine (may_lit d sd _ _ H1.out).mono ?_); rintro e w' ⟨rfl, rfl⟩) | ((with_reducible refine (may_lit a sa _ _ H2.out).mono ?_); rintro e w' ⟨rfl, rfl⟩) | ((with_reducible refine (may_lit b sb _ _ H3.out).mono ?_); rintro e w' ⟨rfl, rfl⟩)))
          go_ret
          exact ⟨ret1b (by rw [HE.out, H0.out, H1.out, H2.out, H3.out]; rfl), (by repeat (first | (with_reducible exact Below.refl _ _) | (with_reducible refine bw_set ?_ ?_ _) | (with_reducible apply bw_alloc) | (with_reducible refine bw_tr ?_ (by with_reducible assumption)) | (with_reducible apply bw_drew) | omega))⟩
        case true =>
          cases h4 : (decide (sl ≤ n))
          case false =>
            have H0 := Lib.hid h0
            have H1 := Lib.hid h1
            have H2 := Lib.hid h2
            have H3 := Lib.hid h3
            have H4 := Lib.hid h4
            clear h1
            clear h2
            clear h3
            go_enter Try.func30, Try.ntmps30
            go_wp2_with fail
            refine (rowOf_any op _).mono ?_
            rintro e w1 ⟨rfl, hb1⟩
            obtain ⟨c1, f1⟩ := bcell hb1
            have z1 : w.heap.size < w1.heap.size := by have := hb1.size; simp at this; omega
            unfold rwV
            go_wp2_with fail
            refine (shapeOf_any _ _).mono ?_
            rw [HS.out]
            rintro e w2 ⟨rfl, hb2⟩
            obtain ⟨c2, f2⟩ := bcell hb2
            have z2 : w1.heap.size < w2.heap.size := by have := hb2.size; simp at this; omega
            have z3 : w.heap.size < w2.heap.size := by omega
            have z4 : w.heap.size ≤ w1.heap.size := by omega
            have z5 : w.heap.size ≤ w2.heap.size := by omega
            have z6 : w1.heap.size ≤ w2.heap.size := by omega
            unfold shV
            go_wp2_with (go_at_call 51; (first | ((with_reducible refine (may_lit d sd _ _ H1.out).mono ?_); rintro e w' ⟨rfl, rfl⟩) | ((with_reducible refine (may_lit a sa _ _ H2.out).mono ?_); rintro e w' ⟨rfl, rfl⟩) | ((with_reducible refine (may_lit b sb _ _ H3.out).mono ?_); rintro e w' ⟨rfl, rfl⟩)))
            go_ret
            exact ⟨ret1b (by rw [HE.out, H0.out, H1.out, H2.out, H3.out, H4.out]; rfl), (by repeat (first | (with_reducible exact Below.refl _ _) | (with_reducible refine bw_set ?_ ?_ _) | (with_reducible apply bw_alloc) | (with_reducible refine bw_tr ?_ (by with_reducible assumption)) | (with_reducible apply bw_drew) | omega))⟩
          case true =>
            cases h5 : (decide (n ≤ sm))
            case false =>
              have H0 := Lib.hid h0
              have H1 := Lib.hid h1
              have H2 := Lib.hid h2
              have H3 := Lib.hid h3
              have H4 := Lib.hid h4
              have H5 := Lib.hid h5
              clear h1
              clear h2
              clear h3
              go_enter Try.func30, Try.ntmps30
              go_wp2_with fail
              refine (rowOf_any op _).mono ?_
              rintro e w1 ⟨rfl, hb1⟩
              obtain ⟨c1, f1⟩ := bcell hb1
              have z1 : w.heap.size < w1.heap.size := by have := hb1.size; simp at this; omega
              unfold rwV
              go_wp2_with fail
              refine (shapeOf_any _ _).mono ?_
              rw [HS.out]
              rintro e w2 ⟨rfl, hb2⟩
              obtain ⟨c2, f2⟩ := bcell hb2
              have z2 : w1.heap.size < w2.heap.size := by have := hb2.size; simp at this; omega
              have z3 : w.heap.size < w2.heap.size := by omega
              have z4 : w.heap.size ≤ w1.heap.size := by omega
              have z5 : w.heap.size ≤ w2.heap.size := by omega
              have z6 : w1.heap.size ≤ w2.heap.size := by omega
              unfold shV
              go_wp2_with (go_at_call 51; (first | ((with_reducible refine (may_lit d sd _ _ H1.out).mono ?_); rintro e w' ⟨rfl, rfl⟩) | ((with_reducible refine (may_lit a sa _ _ H2.out).mono ?_); rintro e w' ⟨rfl, rfl⟩) | ((with_reducible refine (may_lit b sb _ _ H3.out).mono ?_); rintro e w' ⟨rfl, rfl⟩)))
              go_ret
              exact ⟨ret1b (by rw [HE.out, H0.out, H1.out, H2.out, H3.out, H4.out, H5.out]; rfl), (by repeat (first | (with_reducible exact Below.refl _ _) | (with_reducible refine bw_set ?_ ?_ _) | (with_reducible apply bw_alloc) | (with_reducible refine bw_tr ?_ (by with_reducible assumption)) | (with_reducible apply bw_drew) | omega))⟩
            case true =>
              rcases hst with rfl | rfl
              · have H6 : Hid (modB n 0 = true) := rfl
                have H0 := Lib.hid h0
                have H1 := Lib.hid h1
                have H2 := Lib.hid h2
                have H3 := Lib.hid h3
                have H4 := Lib.hid h4
                have H5 := Lib.hid h5
                clear h1
                clear h2
                clear h3
                go_enter Try.func30, Try.ntmps30
                go_wp2_with fail
                refine (rowOf_any op _).mono ?_
                rintro e w1 ⟨rfl, hb1⟩
                obtain ⟨c1, f1⟩ := bcell hb1
                have z1 : w.heap.size < w1.heap.size := by have := hb1.size; simp at this; omega
                unfold rwV
                go_wp2_with fail
                refine (shapeOf_any _ _).mono ?_
                rw [HS.out]
                rintro e w2 ⟨rfl, hb2⟩
                obtain ⟨c2, f2⟩ := bcell hb2
                have z2 : w1.heap.size < w2.heap.size := by have := hb2.size; simp at this; omega
                have z3 : w.heap.size < w2.heap.size := by omega
                have z4 : w.heap.size ≤ w1.heap.size := by omega
                have z5 : w.heap.size ≤ w2.heap.size := by omega
                have z6 : w1.heap.size ≤ w2.heap.size := by omega
                unfold shV
                go_wp2_with (go_at_call 51; (first | ((with_reducible refine (may_lit d sd _ _ H1.out).mono ?_); rintro e w' ⟨rfl, rfl⟩) | ((with_reducible refine (may_lit a sa _ _ H2.out).mono ?_); rintro e w' ⟨rfl, rfl⟩) | ((with_reducible refine (may_lit b sb _ _ H3.out).mono ?_); rintro e w' ⟨rfl, rfl⟩)))
                go_ret
                exact ⟨ret1b (by rw [HE.out, H0.out, H1.out, H2.out, H3.out, H4.out, H5.out, H6.out]; rfl), (by repeat (first | (with_reducible exact Below.refl _ _) | (with_reducible refine bw_set ?_ ?_ _) | (with_reducible apply bw_alloc) | (with_reducible refine bw_tr ?_ (by with_reducible assumption)) | (with_reducible apply bw_drew) | omega))⟩
              · cases h6 : (n.tmod 2 == 0)
                case false =>
                  have H6 : Hid (modB n 2 = false) := by unfold modB; rw [if_pos rfl]; exact h6
                  have H0 := Lib.hid h0
                  have H1 := Lib.hid h1
                  have H2 := Lib.hid h2
                  have H3 := Lib.hid h3
                  have H4 := Lib.hid h4
                  have H5 := Lib.hid h5
                  clear h1
                  clear h2
                  clear h3
                  go_enter Try.func30, Try.ntmps30
                  go_wp2_with fail
                  refine (rowOf_any op _).mono ?_
                  rintro e w1 ⟨rfl, hb1⟩
                  obtain ⟨c1, f1⟩ := bcell hb1
                  have z1 : w.heap.size < w1.heap.size := by have := hb1.size; simp at this; omega
                  unfold rwV
                  go_wp2_with fail
                  refine (shapeOf_any _ _).mono ?_
                  rw [HS.out]
                  rintro e w2 ⟨rfl, hb2⟩
                  obtain ⟨c2, f2⟩ := bcell hb2
                  have z2 : w1.heap.size < w2.heap.size := by have := hb2.size; simp at this; omega
                  have z3 : w.heap.size < w2.heap.size := by omega
                  have z4 : w.heap.size ≤ w1.heap.size := by omega
                  have z5 : w.heap.size ≤ w2.heap.size := by omega
                  have z6 : w1.heap.size ≤ w2.heap.size := by omega
                  unfold shV
                  go_wp2_with (go_at_call 51; (first | ((with_reducible refine (may_lit d sd _ _ H1.out).mono ?_); rintro e w' ⟨rfl, rfl⟩) | ((with_reducible refine (may_lit a sa _ _ H2.out).mono ?_); rintro e w' ⟨rfl, rfl⟩) | ((with_reducible refine (may_lit b sb _ _ H3.out).mono ?_); rintro e w' ⟨rfl, rfl⟩)))
                  go_ret
                  exact ⟨ret1b (by rw [HE.out, H0.out, H1.out, H2.out, H3.out, H4.out, H5.out, H6.out]; rfl), (by repeat (first | (with_reducible exact Below.refl _ _) | (with_reducible refine bw_set ?_ ?_ _) | (with_reducible apply bw_alloc) | (with_reducible refine bw_tr ?_ (by with_reducible assumption)) | (with_reducible apply bw_drew) | omega))⟩
                case true =>
                  have H6 : Hid (modB n 2 = true) := by unfold modB; rw [if_pos rfl]; exact h6
                  have H0 := Lib.hid h0
                  have H1 := Lib.hid h1
                  have H2 := Lib.hid h2
                  have H3 := Lib.hid h3
                  have H4 := Lib.hid h4
                  have H5 := Lib.hid h5
                  clear h1
                  clear h2
                  clear h3
                  go_enter Try.func30, Try.ntmps30
                  go_wp2_with fail
                  refine (rowOf_any op _).mono ?_
                  rintro e w1 ⟨rfl, hb1⟩
                  obtain ⟨c1, f1⟩ := bcell hb1
                  have z1 : w.heap.size < w1.heap.size := by have := hb1.size; simp at this; omega
                  unfold rwV
                  go_wp2_with fail
                  refine (shapeOf_any _ _).mono ?_
                  rw [HS.out]
                  rintro e w2 ⟨rfl, hb2⟩
                  obtain ⟨c2, f2⟩ := bcell hb2
                  have z2 : w1.heap.size < w2.heap.size := by have := hb2.size; simp at this; omega
                  have z3 : w.heap.size < w2.heap.size := by omega
                  have z4 : w.heap.size ≤ w1.heap.size := by omega
                  have z5 : w.heap.size ≤ w2.heap.size := by omega
                  have z6 : w1.heap.size ≤ w2.heap.size := by omega
                  unfold shV
                  go_wp2_with (go_at_call 51; (first | ((with_reducible refine (may_lit d sd _ _ H1.out).mono ?_); rintro e w' ⟨rfl, rfl⟩) | ((with_reducible refine (may_lit a sa _ _ H2.out).mono ?_); rintro e w' ⟨rfl, rfl⟩) | ((with_reducible refine (may_lit b sb _ _ H3.out).mono ?_); rintro e w' ⟨rfl, rfl⟩)))
                  go_ret
                  exact ⟨ret1b (by rw [HE.out, H0.out, H1.out, H2.out, H3.out, H4.out, H5.out, H6.out]; rfl), (by repeat (first | (with_reducible exact Below.refl _ _) | (with_reducible refine bw_set ?_ ?_ _) | (with_reducible apply bw_alloc) | (with_reducible refine bw_tr ?_ (by with_reducible assumption)) | (with_reducible apply bw_drew) | omega))⟩
end Go.Proofs.Ytfepdieeiplbnaa
