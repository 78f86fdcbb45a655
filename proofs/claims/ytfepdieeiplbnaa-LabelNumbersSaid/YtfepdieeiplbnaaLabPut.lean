/-
  The contract of writer.put.
-/
import Derived.Test.YtfepdieeiplbnaaLabLay
import Derived.Test.YtfepdieeiplbnaaOwn3
namespace Go.Proofs.Ytfepdieeiplbnaa
open Go.RowKit
set_option linter.unusedSimpArgs false
def intsC (l : List Int) : List Value := l.map (Value.int .i64)
/-- The writer at q: its places at P, its words so far. -/
structure WSt (base q P : Nat) (ws : List Int) (wv : Value) (w : World) : Prop where
  hW : w.heap[q]? = some (.cells #[.pointer (some ⟨P, 0, none⟩), wv] 66 (0, 0))
  hR : w.ownsRow base 3 1 wv ws.length (intsC ws)
  bW : base ≤ q
theorem bel_new (w : World) (o : Obj) : Below w.heap.size w (w.alloc o) := (Below.refl _ _).alloc (Nat.le_refl _) _
theorem WSt.up {base q P : Nat} {ws : List Int} {wv : Value} {w w' : World} (h : WSt base q P ws wv w) (hb : Below w.heap.size w w') : WSt base q P ws wv w' :=
  ⟨bel_in hb (lt_in h.hW) h.hW, own_below h.hR hb, h.bW⟩
/-- Instructions that are handed to put: nothing, or a block of their own. -/
def InsAt (w : World) (v : Value) (xs : List Ins) : Prop :=
  (xs = [] ∧ v = .slice none 0 0) ∨ ∃ B, v = .slice (some ⟨B, 0, none⟩) xs.length xs.length ∧ w.heap[B]? = some (.cells (insC xs) 24 (0, 0))
theorem insC_get (xs : List Ins) (k : Nat) (hk : k < xs.length) (j : Nat) (u : Value) (hj : [Value.int .i64 xs[k].op, .int .i64 xs[k].d, .int .i64 xs[k].a, .int .i64 xs[k].b, .int .i64 xs[k].n][j]? = some u) : (insC xs)[k * 5 + j]? = some u := by
  unfold insC
  rw [List.getElem?_toArray]
  induction xs generalizing k with
  | nil => simp at hk
  | cons x xs ih =>
    have hj5 : j < 5 := by have := (List.getElem?_eq_some_iff.1 hj).1; simpa using this
    rw [List.flatMap_cons]
    cases k with
    | zero => rw [List.getElem?_append_left (by simp; omega)]; simpa using hj
    | succ k =>
      rw [List.getElem?_append_right (by simp; omega)]
      have := ih k (by simpa using hk) (by simpa using hj)
      rw [← this]
      congr 1
      simp; omega
theorem WSt.setV {base q P : Nat} {ws' : List Int} {wv wv' : Value} {w' : World} (h : w'.heap[q]? = some (.cells #[.pointer (some ⟨P, 0, none⟩), wv] 66 (0, 0))) (hr : w'.ownsRow base 3 1 wv' ws'.length (intsC ws')) (hb : base ≤ q) :
    WSt base q P ws' wv' (w'.setCell ⟨q, 1, none⟩ wv') := by
  refine ⟨by have := set_in h 1 wv'; simpa using this, own_kept hr (fun g hg => Below.heap_setCell w' _ _ g ?_), hb⟩
  intro e
  exact own_not hr h (by decide) (by rw [hg, e])
set_option maxRecDepth 100000 in
set_option maxHeartbeats 8000000 in
theorem lab_put (w0 w : World) {q P : Nat} {ws : List Int} {wv v : Value} (xs : List Ins) (HW : WSt w0.heap.size q P ws wv w) (HB : Below w0.heap.size w0 w) (HX : InsAt w v xs) (hsz : ws.length + xs.length ≤ 1000000) :
    Calls Try.prog 56 #[.pointer (some ⟨q, 0, none⟩), v] w fun e w' => e = .returned (.tuple #[]) ∧ ∃ wv', WSt w0.heap.size q P (ws ++ xs.map encV) wv' w' ∧ Below w0.heap.size w0 w' := by
  obtain ⟨j0, hj, hy0, hy1, hy2⟩ := info_parts info_int
  rcases HX with ⟨rfl, rfl⟩ | ⟨B, rfl, hB⟩
  · have H1 := Lib.hid HW; have H2 := Lib.hid HB
    clear HW HB
    go_enter Try.func56, Try.ntmps56
    go_wp2_with fail
    refine wp_loop_rounds 1 ?_
    rw [rounds_succ]
    go_wp2_with fail
    go_end0
    exact ⟨rfl, wv, by simpa using H1.out, H2.out⟩
  · have H1 := Lib.hid HW; have H2 := Lib.hid HB; have H3 := Lib.hid hB
    clear HW HB hB
    go_enter Try.func56, Try.ntmps56
    go_wp2_with fail
    go_loopw [10] (fun i wr => ∃ k : Nat, ∃ wv', k ≤ xs.length ∧ i = .int .i64 k ∧ WSt w0.heap.size q P (ws ++ (xs.take k).map encV) wv' wr ∧ wr.heap[B]? = some (.cells (insC xs) 24 (0, 0)) ∧ Below w0.heap.size w0 wr) (fun i _ => xs.length - (intOf i).toNat)
    case atStart => exact ⟨0, wv, Nat.zero_le _, rfl, by simpa using H1.out, H3.out, H2.out⟩
    case round =>
      obtain ⟨k, wv', hk, rfl, hw, hB, hb⟩ := hrel
      have HS := Lib.hid hw; have HX := Lib.hid hB; have HBB := Lib.hid hb
      clear hw hB hb
      by_cases hlt : k < xs.length
      case neg =>
        obtain rfl : k = xs.length := by omega
        go_wp2_with fail
        go_end0
        exact ⟨rfl, wv', by have := HS.out; rwa [List.take_length] at this, HBB.out⟩
      case pos =>
        obtain ⟨x, hx⟩ : ∃ x, xs[k] = x := ⟨_, rfl⟩
        have g := insC_get xs k hlt
        rw [hx] at g
        have g0 : wr.cell? ⟨B, k * 5, none⟩ = some (.int .i64 x.op) := cell_in HX.out (g 0 _ rfl)
        have g1 : wr.cell? ⟨B, k * 5 + 1, none⟩ = some (.int .i64 x.d) := cell_in HX.out (g 1 _ rfl)
        have g2 : wr.cell? ⟨B, k * 5 + 2, none⟩ = some (.int .i64 x.a) := cell_in HX.out (g 2 _ rfl)
        have g3 : wr.cell? ⟨B, k * 5 + 3, none⟩ = some (.int .i64 x.b) := cell_in HX.out (g 3 _ rfl)
        have g4 : wr.cell? ⟨B, k * 5 + 4, none⟩ = some (.int .i64 x.n) := cell_in HX.out (g 4 _ rfl)
        have HXS := Lib.hid hx
        clear g hx
        have HENC := Lib.hid (fun w => encode_any x w)
        unfold insV at HENC
        have hlq := lt_in HS.out.hW
        have hlB := lt_in HX.out
        have hLN : Hid ((ws ++ (xs.take k).map encV).length + 1 ≤ 1000000) := Lib.hid (by simp [List.length_take]; omega)
        have hlen1 : (ws ++ (xs.take k).map encV).length + 1 ≤ 1000000 := hLN.out
        obtain ⟨zs, hzs⟩ : ∃ zs, ws ++ (xs.take k).map encV = zs := ⟨_, rfl⟩
        have HZS : Hid (ws ++ (xs.take (k + 1)).map encV = zs ++ [encV x]) := Lib.hid (by
          rw [← hzs, List.take_succ_eq_append_getElem hlt, List.map_append, ← List.append_assoc]
          rw [HXS.out]; rfl)
        rw [hzs] at HS hlen1
        have hmx : zs.length + 1 ≤ maxLen := by unfold maxLen; omega
        have hby : (zs.length + 1) * 8 ≤ 140737488355328 := by omega
        clear hLN
        clear hzs
        go_wp2_with (first | (go_at_call 48; ((with_reducible refine (HENC.out _).mono ?_); rintro e w1 ⟨rfl, hb1⟩; have HB1 : Hid (Below wr.heap.size wr w1) := Lib.hid ((by repeat (first | (with_reducible exact Below.refl _ _) | (with_reducible refine bw_set ?_ ?_ _) | (with_reducible apply bw_alloc) | (with_reducible refine bw_tr ?_ (by with_reducible assumption)) | (with_reducible apply bw_drew) | omega))); clear hb1 g0 g1 g2 g3 g4; have HS1 := Lib.hid (HS.out.up HB1.out); have HX1 := Lib.hid (bel_in HB1.out hlB HX.out); have m1 : w1.cell? ⟨q, 1, none⟩ = some wv' := cell_in HS1.out.hW rfl; have f1 : w1.frozen? ⟨q, 1, none⟩ = false := frozen_in HS1.out.hW _; have hq1 := lt_in HS1.out.hW)) | (at_builtin; refine wpList_append_own _ rfl _ _ 31 rfl w0.heap.size 3 j0 (.int .i64 0) 1 8 Try.underlying31 hj hy0 hy1 hy2 rfl (by decide) _ _ _ rfl (HS1.out.hR.alloc _) ⟨w1.heap.size, 0, none⟩ 1 1 [.int .i64 (encV x)] rfl rfl (one_new w1 _) (by simp [Value.oneCell']) hmx hby (by have := HB1.out.size; have := HBB.out.size; simp; omega) ?_; intro v' w2 hown hgrow _; obtain ⟨xv, yv, rfl⟩ := own_shape hown; have hq2 := (hgrow.block q (by simp; omega) (fun e => own_not HS1.out.hR HS1.out.hW (by decide) e.symm)).trans (bel_in (bel_new w1 (.cells #[.int .i64 (encV x)] 3)) hq1 HS1.out.hW); have HQ2 := Lib.hid hq2; have HX2 := Lib.hid ((hgrow.block B (by simp; have := lt_in HX1.out; omega) (fun e => own_not HS1.out.hR HX1.out (by decide) e.symm)).trans (bel_in (bel_new w1 (.cells #[.int .i64 (encV x)] 3)) (lt_in HX1.out) HX1.out)); have HO2 := Lib.hid hown; have HB2 := Lib.hid (grown_bel (bw_tr HBB.out (bw_tr HB1.out (bel_new w1 (.cells #[.int .i64 (encV x)] 3)))) hgrow (fun g e => (HS1.out.hR.lt g e).1)); clear hown hgrow hq2; have m2 : w2.cell? ⟨q, 1, none⟩ = some wv' := cell_in HQ2.out rfl; have f2 : w2.frozen? ⟨q, 1, none⟩ = false := frozen_in HQ2.out _; have hlq2 := lt_in HQ2.out))
        refine ⟨⟨k + 1, .slice xv (zs.length + 1) yv, by omega, by go_num, ?_, ?_, ?_⟩, by simp [intOf]; omega⟩
        · rw [HZS.out]
          refine WSt.setV HQ2.out ?_ HS.out.bW
          have := HO2.out
          simpa [intsC] using this
        · exact heap_set_ne (fun e => by
            have h1 := HX2.out; have h2 := HQ2.out
            rw [e, h2] at h1
            injection h1 with h1; injection h1 with _ h1; exact absurd h1 (by decide)) HX2.out
        · exact Below.setCell HB2.out HS.out.bW _
end Go.Proofs.Ytfepdieeiplbnaa
