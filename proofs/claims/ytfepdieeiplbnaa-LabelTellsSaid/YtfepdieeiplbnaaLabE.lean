/-
  Rows of the call's own: small laws. No program in sight. The contracts of label.Places and label.Find. The contract of writer.put. The contract of writer.lead. The contracts of writer.item and label.Assemble.
-/
import Derived.Test.YtfepdieeiplbnaaHeap
import Derived.Test.YtfepdieeiplbnaaBw
import Derived.Laws.AppendOwn
import Derived.Test.YtfepdieeiplbnaaLabLay
namespace Go.Proofs.Ytfepdieeiplbnaa
open Go.RowKit
theorem own_kept {w w' : World} {base e k n : Nat} {v : Value} {xs : List Value} (h : w.ownsRow base e k v n xs) (hg : ∀ g, v.ownBlock = some g → w'.heap[g]? = w.heap[g]?) : w'.ownsRow base e k v n xs := by
  refine ⟨h.1, ?_⟩
  rcases h.2 with h | ⟨g, cap, cur, rfl, hb, hgg, rest⟩
  · exact .inl h
  · exact .inr ⟨g, cap, cur, rfl, hb, by rw [hg g rfl]; exact hgg, rest⟩
theorem own_below {w w' : World} {base e k n : Nat} {v : Value} {xs : List Value} (h : w.ownsRow base e k v n xs) (hb : Below w.heap.size w w') : w'.ownsRow base e k v n xs :=
  own_kept h fun g hg => hb.block g (h.lt g hg).2
/-- The block of a row of the call's own. -/
theorem own_block {w : World} {base e k n : Nat} {v : Value} {xs : List Value} (h : w.ownsRow base e k v n xs) {g : Nat} (hg : v.ownBlock = some g) : ∃ cur, w.heap[g]? = some (.cells cur e (0, 0)) := by
  rcases h.2 with ⟨rfl, _⟩ | ⟨g', cap, cur, rfl, _, hgg, _⟩
  · simp [Value.ownBlock] at hg
  · simp [Value.ownBlock] at hg
    subst hg
    exact ⟨cur, hgg⟩
/-- Rows of unlike elements lie apart. -/
theorem own_apart {w : World} {base base' e e' k k' n n' : Nat} {v v' : Value} {xs xs' : List Value} (h : w.ownsRow base e k v n xs) (h' : w.ownsRow base' e' k' v' n' xs') (hne : e ≠ e') {g : Nat} (hg : v.ownBlock = some g) : v'.ownBlock ≠ some g := by
  intro hg'
  obtain ⟨c, hc⟩ := own_block h hg
  obtain ⟨c', hc'⟩ := own_block h' hg'
  rw [hc] at hc'
  injection hc' with e1
  injection e1 with _ e2
  exact hne e2
theorem own_not {w : World} {base e e' k n b : Nat} {v : Value} {xs : List Value} {cs : Array Value} (h : w.ownsRow base e k v n xs) (hb : w.heap[b]? = some (.cells cs e' (0, 0))) (hne : e ≠ e') : v.ownBlock ≠ some b := by
  intro hg
  obtain ⟨c, hc⟩ := own_block h hg
  rw [hb] at hc
  injection hc with e1
  injection e1 with _ e2
  exact hne e2.symm
theorem own_one {w : World} {base e k n : Nat} {v : Value} {xs : List Value} (h : w.ownsRow base e k v n xs) : v.oneCell' = true := by
  obtain ⟨a, c, rfl⟩ := own_shape h
  rfl
theorem one_new {e : Nat} (w : World) (u : Value) : ∀ j v, [u][j]? = some v → (w.alloc (.cells #[u] e)).cell? ((⟨w.heap.size, 0, none⟩ : Addr).add j) = some v := fun j v hj => by
  have : j = 0 := by
    have := (List.getElem?_eq_some_iff.1 hj).1
    simp at this; exact this
  subst this
  simp at hj; subst hj
  rw [addr_add]; exact cell_in (new_in w _) rfl
theorem grown_bel {a w w' : World} {row : Option Nat} (h : Below a.heap.size a w) (hg : w.grownBy w' row) (hr : ∀ g, row = some g → a.heap.size ≤ g) : Below a.heap.size a w' := h.grown hg h.size (fun k hk => hr k hk)
end Go.Proofs.Ytfepdieeiplbnaa
namespace Go.Proofs.Ytfepdieeiplbnaa
open Go.RowKit
set_option linter.unusedSimpArgs false
theorem lay_no (w : World) (l : List Itm) (v : Value) (HL : ArgS 8 itC w v l) (HO : NamesOK l) (e0 : Int) (he : errOf l = e0) (h0 : e0 ≠ 0) :
    Calls Try.prog 32 #[v] w fun e w' => e = .returned (.tuple #[.pointer none, .int .i64 e0]) ∧ Below w.heap.size w w' := by
  refine (lab_lay w l v HL HO).mono ?_
  rintro e w' ⟨hb, h | h⟩
  · rw [← he]; exact ⟨h.2, hb⟩
  · exact absurd (he.symm.trans h.1) h0
theorem lay_yes (w : World) (l : List Itm) (v : Value) (HL : ArgS 8 itC w v l) (HO : NamesOK l) (he : errOf l = 0) :
    Calls Try.prog 32 #[v] w fun e w' => ∃ P A G M, e = .returned (.tuple #[.pointer (some ⟨P, 0, none⟩), .int .i64 0]) ∧ LaySt w.heap.size l.length P A G M (pl l (longF l)) (longF l) l.length (mp l l.length) w' ∧ Below w.heap.size w w' := by
  refine (lab_lay w l v HL HO).mono ?_
  rintro e w' ⟨hb, h | ⟨_, P, A, G, M, h, hs⟩⟩
  · exact absurd he h.1
  · exact ⟨P, A, G, M, h, hs, hb⟩
theorem places_no (w : World) (l : List Itm) (v : Value) (HL : ArgS 8 itC w v l) (HO : NamesOK l) (e0 : Int) (he : errOf l = e0) (h0 : e0 ≠ 0) :
    Calls Try.prog 14 #[v] w fun e w' => e = .returned (.tuple #[.slice none 0 0, .int .i64 e0]) ∧ Below w.heap.size w w' := by
  have hC := Lib.hid (lay_no w l v HL HO e0 he h0)
  have hq : (e0 != 0) = true := by simpa using h0
  clear HL HO he h0
  go_enter Try.func14, Try.ntmps14
  go_wp2_with (go_at_call 32; ((with_reducible refine hC.out.mono ?_); rintro e w1 ⟨rfl, hb1⟩))
  go_ret2
  exact ⟨rfl, hb1⟩
theorem places_yes (w : World) (l : List Itm) (v : Value) (HL : ArgS 8 itC w v l) (HO : NamesOK l) (he : errOf l = 0) :
    Calls Try.prog 14 #[v] w fun e w' => ∃ A, e = .returned (.tuple #[.slice (some ⟨A, 0, none⟩) (l.length + 1) (l.length + 1), .int .i64 0]) ∧ w'.heap[A]? = some (.cells (cellsZ (pl l (longF l)) (l.length + 1)) 3 (0, 0)) ∧ w.heap.size ≤ A ∧ Below w.heap.size w w' := by
  have hC := Lib.hid (lay_yes w l v HL HO he)
  clear HL HO he
  go_enter Try.func14, Try.ntmps14
  go_wp2_with (go_at_call 32; ((with_reducible refine hC.out.mono ?_); rintro e w1 ⟨P, A, G, M, rfl, hs1, hb1⟩; have HS1 := Lib.hid hs1; have HB1 := Lib.hid hb1; clear hs1 hb1; have k0 : w1.cell? ⟨P, 0, none⟩ = some (.slice (some ⟨A, 0, none⟩) (l.length + 1) (l.length + 1)) := cell_in HS1.out.hP rfl))
  go_ret2
  exact ⟨A, rfl, HS1.out.hA, HS1.out.bA, HB1.out⟩
/-- Where a label is. -/
noncomputable def findZ (l : List Itm) (s : ByteArray) : Int := if errOf l = 0 then (match labI l s with | some k => pl l (longF l) k | none => -1) else -1
theorem find_any (w : World) (l : List Itm) (v : Value) (s : ByteArray) (HL : ArgS 8 itC w v l) (HO : NamesOK l) (hs : s.size ≤ maxLen) (z : Int) (hz : findZ l s = z) :
    Calls Try.prog 19 #[v, .string s] w fun e w' => e = .returned (.int .i64 z) ∧ Below w.heap.size w w' := by
  by_cases he : errOf l = 0
  case neg =>
    have hC := Lib.hid (lay_no w l v HL HO _ rfl he)
    have E : Hid ((-1 : Int) = z) := Lib.hid (by rw [← hz]; unfold findZ; rw [if_neg he])
    obtain ⟨e0, h0⟩ : ∃ e0, errOf l = e0 := ⟨_, rfl⟩
    rw [h0] at hC he
    have hq : (e0 != 0) = true := by simpa using he
    clear HL HO he h0 hz
    go_enter Try.func19, Try.ntmps19
    go_wp2_with (go_at_call 32; ((with_reducible refine hC.out.mono ?_); rintro e w1 ⟨rfl, hb1⟩))
    go_ret
    exact ⟨iret E.out, hb1⟩
  case pos =>
    have hC := Lib.hid (lay_yes w l v HL HO he)
    have hlen : Hid (l.length ≤ 40000) := Lib.hid (by
      by_cases h : 40000 < l.length
      · rw [err_len h] at he; cases he
      · omega)
    have HN := Lib.hid hs
    have HZ : Hid ((match labI l s with | some k => pl l (longF l) k | none => -1) = z) := Lib.hid (by rw [← hz]; unfold findZ; rw [if_pos he])
    clear HL HO he hs hz
    unfold labI at HZ
    cases hm : mp l l.length s with
    | none =>
      have E : Hid ((-1 : Int) = z) := Lib.hid (by rw [← HZ.out, hm])
      have HM := Lib.hid hm
      clear hm
      go_enter Try.func19, Try.ntmps19
      go_wp2_with (go_at_call 32; ((with_reducible refine hC.out.mono ?_); rintro e w1 ⟨P, A, G, M, rfl, hs1, hb1⟩; have HS1 := Lib.hid hs1; have HB1 := Lib.hid hb1; clear hs1 hb1; have k2 : w1.cell? ⟨P, 2, none⟩ = some (.map (some M)) := cell_in HS1.out.hP rfl; have k3 := HS1.out.hM.look_ok s HN.out; rw [HM.out] at k3; simp only [Option.getD_none, Option.isSome_none] at k3))
      go_ret
      exact ⟨iret E.out, HB1.out⟩
    | some k =>
      have E : Hid (pl l (longF l) k = z) := Lib.hid (by rw [← HZ.out, hm])
      have HM := Lib.hid hm
      have hk := (mp_some hm).1
      have hl := hlen.out
      clear hm
      go_enter Try.func19, Try.ntmps19
      go_wp2_with (go_at_call 32; ((with_reducible refine hC.out.mono ?_); rintro e w1 ⟨P, A, G, M, rfl, hs1, hb1⟩; have HS1 := Lib.hid hs1; have HB1 := Lib.hid hb1; clear hs1 hb1; have k0 : w1.cell? ⟨P, 0, none⟩ = some (.slice (some ⟨A, 0, none⟩) (l.length + 1) (l.length + 1)) := cell_in HS1.out.hP rfl; have k1 : w1.cell? ⟨A, k, none⟩ = some (.int .i64 z) := (cell_in HS1.out.hA (cellsZ_get _ (by omega))).trans (by rw [E.out]); have k2 : w1.cell? ⟨P, 2, none⟩ = some (.map (some M)) := cell_in HS1.out.hP rfl; have k3 := HS1.out.hM.look_ok s HN.out; rw [HM.out] at k3; simp only [Option.getD_some, Option.isSome_some] at k3))
      go_ret
      exact ⟨rfl, HB1.out⟩
end Go.Proofs.Ytfepdieeiplbnaa
namespace Go.Proofs.Ytfepdieeiplbnaa
open Go.RowKit
set_option linter.unusedSimpArgs false
def intsC (l : List Int) : List Value := l.map (Value.int .i64)
/-- The writer at q: its places at P, its words so far. -/
structure WSt (base q P : Nat) (ws : List Int) (wv : Value) (w : World) : Prop where
  hW : w.heap[q]? = some (.cells #[.pointer (some ⟨P, 0, none⟩), wv] 66 (0, 0))
  hR : w.ownsRow base 3 1 wv ws.length (intsC ws)
  bW : base ≤ q
theorem bel_new (w : World) (o : Obj) : Below w.heap.size w (w.alloc o) := (Below.refl _ _).alloc (Nat.le_refl _) _
theorem WSt.up {base q P : Nat} {ws : List Int} {wv : Value} {w w' : World} (h : WSt base q P ws wv w) (hb : Below w.heap.size w w') : WSt base q P ws wv w' :=
  ⟨bel_in hb (lt_in h.hW) h.hW, own_below h.hR hb, h.bW⟩
/-- Instructions that are handed to put: nothing, or a block of their own. -/
def InsAt (w : World) (v : Value) (xs : List Ins) : Prop :=
  (xs = [] ∧ v = .slice none 0 0) ∨ ∃ B, v = .slice (some ⟨B, 0, none⟩) xs.length xs.length ∧ w.heap[B]? = some (.cells (insC xs) 24 (0, 0))
theorem insC_get (xs : List Ins) (k : Nat) (hk : k < xs.length) (j : Nat) (u : Value) (hj : [Value.int .i64 xs[k].op, .int .i64 xs[k].d, .int .i64 xs[k].a, .int .i64 xs[k].b, .int .i64 xs[k].n][j]? = some u) : (insC xs)[k * 5 + j]? = some u := by
  unfold insC
  rw [List.getElem?_toArray]
  induction xs generalizing k with
  | nil => simp at hk
  | cons x xs ih =>
    have hj5 : j < 5 := by have := (List.getElem?_eq_some_iff.1 hj).1; simpa using this
    rw [List.flatMap_cons]
    cases k with
    | zero => rw [List.getElem?_append_left (by simp; omega)]; simpa using hj
    | succ k =>
      rw [List.getElem?_append_right (by simp; omega)]
      have := ih k (by simpa using hk) (by simpa using hj)
      rw [← this]
      congr 1
      simp; omega
theorem WSt.setV {base q P : Nat} {ws' : List Int} {wv wv' : Value} {w' : World} (h : w'.heap[q]? = some (.cells #[.pointer (some ⟨P, 0, none⟩), wv] 66 (0, 0))) (hr : w'.ownsRow base 3 1 wv' ws'.length (intsC ws')) (hb : base ≤ q) :
    WSt base q P ws' wv' (w'.setCell ⟨q, 1, none⟩ wv') := by
  refine ⟨by have := set_in h 1 wv'; simpa using this, own_kept hr (fun g hg => Below.heap_setCell w' _ _ g ?_), hb⟩
  intro e
  exact own_not hr h (by decide) (by rw [hg, e])
set_option maxRecDepth 100000 in
set_option maxHeartbeats 8000000 in
theorem lab_put (w0 w : World) {q P : Nat} {ws : List Int} {wv v : Value} (xs : List Ins) (HW : WSt w0.heap.size q P ws wv w) (HB : Below w0.heap.size w0 w) (HX : InsAt w v xs) (hsz : ws.length + xs.length ≤ 1000000) :
    Calls Try.prog 56 #[.pointer (some ⟨q, 0, none⟩), v] w fun e w' => e = .returned (.tuple #[]) ∧ ∃ wv', WSt w0.heap.size q P (ws ++ xs.map encV) wv' w' ∧ Below w0.heap.size w0 w' := by
  obtain ⟨j0, hj, hy0, hy1, hy2⟩ := info_parts info_int
  rcases HX with ⟨rfl, rfl⟩ | ⟨B, rfl, hB⟩
  · have H1 := Lib.hid HW; have H2 := Lib.hid HB
    clear HW HB
    go_enter Try.func56, Try.ntmps56
    go_wp2_with fail
    refine wp_loop_rounds 1 ?_
    rw [rounds_succ]
    go_wp2_with fail
    go_end0
    exact ⟨rfl, wv, by simpa using H1.out, H2.out⟩
  · have H1 := Lib.hid HW; have H2 := Lib.hid HB; have H3 := Lib.hid hB
    clear HW HB hB
    go_enter Try.func56, Try.ntmps56
    go_wp2_with fail
    go_loopw [10] (fun i wr => ∃ k : Nat, ∃ wv', k ≤ xs.length ∧ i = .int .i64 k ∧ WSt w0.heap.size q P (ws ++ (xs.take k).map encV) wv' wr ∧ wr.heap[B]? = some (.cells (insC xs) 24 (0, 0)) ∧ Below w0.heap.size w0 wr) (fun i _ => xs.length - (intOf i).toNat)
    case atStart => exact ⟨0, wv, Nat.zero_le _, rfl, by simpa using H1.out, H3.out, H2.out⟩
    case round =>
      obtain ⟨k, wv', hk, rfl, hw, hB, hb⟩ := hrel
      have HS := Lib.hid hw; have HX := Lib.hid hB; have HBB := Lib.hid hb
      clear hw hB hb
      by_cases hlt : k < xs.length
      case neg =>
        obtain rfl : k = xs.length := by omega
        go_wp2_with fail
        go_end0
        exact ⟨rfl, wv', by have := HS.out; rwa [List.take_length] at this, HBB.out⟩
      case pos =>
        obtain ⟨x, hx⟩ : ∃ x, xs[k] = x := ⟨_, rfl⟩
        have g := insC_get xs k hlt
        rw [hx] at g
        have g0 : wr.cell? ⟨B, k * 5, none⟩ = some (.int .i64 x.op) := cell_in HX.out (g 0 _ rfl)
        have g1 : wr.cell? ⟨B, k * 5 + 1, none⟩ = some (.int .i64 x.d) := cell_in HX.out (g 1 _ rfl)
        have g2 : wr.cell? ⟨B, k * 5 + 2, none⟩ = some (.int .i64 x.a) := cell_in HX.out (g 2 _ rfl)
        have g3 : wr.cell? ⟨B, k * 5 + 3, none⟩ = some (.int .i64 x.b) := cell_in HX.out (g 3 _ rfl)
        have g4 : wr.cell? ⟨B, k * 5 + 4, none⟩ = some (.int .i64 x.n) := cell_in HX.out (g 4 _ rfl)
        have HXS := Lib.hid hx
        clear g hx
        have HENC := Lib.hid (fun w => encode_any x w)
        unfold insV at HENC
        have hlq := lt_in HS.out.hW
        have hlB := lt_in HX.out
        have hLN : Hid ((ws ++ (xs.take k).map encV).length + 1 ≤ 1000000) := Lib.hid (by simp [List.length_take]; omega)
        have hlen1 : (ws ++ (xs.take k).map encV).length + 1 ≤ 1000000 := hLN.out
        obtain ⟨zs, hzs⟩ : ∃ zs, ws ++ (xs.take k).map encV = zs := ⟨_, rfl⟩
        have HZS : Hid (ws ++ (xs.take (k + 1)).map encV = zs ++ [encV x]) := Lib.hid (by
          rw [← hzs, List.take_succ_eq_append_getElem hlt, List.map_append, ← List.append_assoc]
          rw [HXS.out]; rfl)
        rw [hzs] at HS hlen1
        have hmx : zs.length + 1 ≤ maxLen := by unfold maxLen; omega
        have hby : (zs.length + 1) * 8 ≤ 140737488355328 := by omega
        clear hLN
        clear hzs
        go_wp2_with (first | (go_at_call 48; ((with_reducible refine (HENC.out _).mono ?_); rintro e w1 ⟨rfl, hb1⟩; have HB1 : Hid (Below wr.heap.size wr w1) := Lib.hid ((by repeat (first | (with_reducible exact Below.refl _ _) | (with_reducible refine bw_set ?_ ?_ _) | (with_reducible apply bw_alloc) | (with_reducible refine bw_tr ?_ (by with_reducible assumption)) | (with_reducible apply bw_drew) | omega))); clear hb1 g0 g1 g2 g3 g4; have HS1 := Lib.hid (HS.out.up HB1.out); have HX1 := Lib.hid (bel_in HB1.out hlB HX.out); have m1 : w1.cell? ⟨q, 1, none⟩ = some wv' := cell_in HS1.out.hW rfl; have f1 : w1.frozen? ⟨q, 1, none⟩ = false := frozen_in HS1.out.hW _; have hq1 := lt_in HS1.out.hW)) | (at_builtin; refine wpList_append_own _ rfl _ _ 31 rfl w0.heap.size 3 j0 (.int .i64 0) 1 8 Try.underlying31 hj hy0 hy1 hy2 rfl (by decide) _ _ _ rfl (HS1.out.hR.alloc _) ⟨w1.heap.size, 0, none⟩ 1 1 [.int .i64 (encV x)] rfl rfl (one_new w1 _) (by simp [Value.oneCell']) hmx hby (by have := HB1.out.size; have := HBB.out.size; simp; omega) ?_; intro v' w2 hown hgrow _; obtain ⟨xv, yv, rfl⟩ := own_shape hown; have hq2 := (hgrow.block q (by simp; omega) (fun e => own_not HS1.out.hR HS1.out.hW (by decide) e.symm)).trans (bel_in (bel_new w1 (.cells #[.int .i64 (encV x)] 3)) hq1 HS1.out.hW); have HQ2 := Lib.hid hq2; have HX2 := Lib.hid ((hgrow.block B (by simp; have := lt_in HX1.out; omega) (fun e => own_not HS1.out.hR HX1.out (by decide) e.symm)).trans (bel_in (bel_new w1 (.cells #[.int .i64 (encV x)] 3)) (lt_in HX1.out) HX1.out)); have HO2 := Lib.hid hown; have HB2 := Lib.hid (grown_bel (bw_tr HBB.out (bw_tr HB1.out (bel_new w1 (.cells #[.int .i64 (encV x)] 3)))) hgrow (fun g e => (HS1.out.hR.lt g e).1)); clear hown hgrow hq2; have m2 : w2.cell? ⟨q, 1, none⟩ = some wv' := cell_in HQ2.out rfl; have f2 : w2.frozen? ⟨q, 1, none⟩ = false := frozen_in HQ2.out _; have hlq2 := lt_in HQ2.out))
        refine ⟨⟨k + 1, .slice xv (zs.length + 1) yv, by omega, by go_num, ?_, ?_, ?_⟩, by simp [intOf]; omega⟩
        · rw [HZS.out]
          refine WSt.setV HQ2.out ?_ HS.out.bW
          have := HO2.out
          simpa [intsC] using this
        · exact heap_set_ne (fun e => by
            have h1 := HX2.out; have h2 := HQ2.out
            rw [e, h2] at h1
            injection h1 with h1; injection h1 with _ h1; exact absurd h1 (by decide)) HX2.out
        · exact Below.setCell HB2.out HS.out.bW _
end Go.Proofs.Ytfepdieeiplbnaa
namespace Go.Proofs.Ytfepdieeiplbnaa
open Go.RowKit
set_option linter.unusedSimpArgs false
theorem up_cell {W w0 : World} {b o : Nat} {v : Value} (h : Below W.heap.size W w0) (hlt : b < W.heap.size) (hc : W.cell? ⟨b, o, none⟩ = some v) (x : Wd w0) : x.val.cell? ⟨b, o, none⟩ = some v :=
  wd_cell (Nat.lt_of_lt_of_le hlt h.size) ((h.cell (p := ⟨b, o, none⟩) hlt).trans hc) x
theorem to_parts {x : Itm} (h : itemB x = true) (hk : x.kind = 3) : rightB x.i = true ∧ x.i.n = 0 ∧ (isBr x.i.op = true ∨ x.i.op = 3) ∧ x.n = 0 ∧ labelB x.name = true := by
  unfold itemB at h
  rw [if_neg (by omega), if_neg (by omega), if_pos hk] at h
  simp only [Bool.and_eq_true, toB, decide_eq_true_eq, Bool.or_eq_true] at h
  obtain ⟨h1, h2, h3, h4, h5⟩ := h
  refine ⟨h2, h3, h4, ?_, h5⟩
  rw [h1]
theorem br_bd {op : Int} (h : isBr op = true) : 5 ≤ op ∧ op ≤ 10 := by simpa [isBr] using h
theorem dst_bd {l : List Itm} (h : allB l) (L : Nat → Bool) (i : Nat) (hi : i < l.length) (hl : l.length ≤ 40000) : -655360000 ≤ dst l L i ∧ dst l L i ≤ 655360000 := by
  unfold dst
  have h1 := pl_bd h L i (by omega)
  have hj : ((labI l (it l i).name).getD 0) ≤ l.length := by
    cases e : labI l (it l i).name with
    | none => simp
    | some j => have := (mp_some e).1; simp; omega
  have h2 := pl_bd h L _ hj
  omega
theorem insOf_short {l : List Itm} {L : Nat → Bool} {i : Nat} (hk : (it l i).kind = 3) (hL : L i = false) : insOf l L i = [⟨(it l i).i.op, (it l i).i.d, (it l i).i.a, (it l i).i.b, dst l L i⟩] := by
  unfold insOf; rw [if_neg (by omega), if_pos hk, hL]; rfl
theorem insOf_long {l : List Itm} {L : Nat → Bool} {i : Nat} (hk : (it l i).kind = 3) (hL : L i = true) : insOf l L i = [⟨oppN (it l i).i.op, (it l i).i.d, (it l i).i.a, (it l i).i.b, 8⟩, ⟨3, 0, 0, 0, dst l L i - 4⟩] := by
  unfold insOf; rw [if_neg (by omega), if_pos hk, hL]; rfl
theorem ins_one (w : World) (op d a b n : Int) (B : Nat) (hB : B = w.heap.size) : InsAt (w.alloc (.cells #[.int .i64 op, .int .i64 d, .int .i64 a, .int .i64 b, .int .i64 n] 24)) (.slice (some ⟨B, 0, none⟩) 1 1) [⟨op, d, a, b, n⟩] := by subst hB; exact .inr ⟨_, rfl, new_in w _⟩
theorem ins_two (w : World) (op d a b n op' d' a' b' n' : Int) (B : Nat) (hB : B = w.heap.size) : InsAt (w.alloc (.cells #[.int .i64 op, .int .i64 d, .int .i64 a, .int .i64 b, .int .i64 n, .int .i64 op', .int .i64 d', .int .i64 a', .int .i64 b', .int .i64 n'] 24)) (.slice (some ⟨B, 0, none⟩) 2 2) [⟨op, d, a, b, n⟩, ⟨op', d', a', b', n'⟩] := by subst hB; exact .inr ⟨_, rfl, new_in w _⟩
theorem set5 {w : World} {q T : Nat} {a0 a1 a2 a3 a4 : Value} (x0 x1 x2 x3 x4 : Value) (h : w.heap[q]? = some (.cells #[a0, a1, a2, a3, a4] T (0, 0))) :
    (((((w.setCell ⟨q, 0, none⟩ x0).setCell ⟨q, 1, none⟩ x1).setCell ⟨q, 2, none⟩ x2).setCell ⟨q, 3, none⟩ x3).setCell ⟨q, 4, none⟩ x4).heap[q]? = some (.cells #[x0, x1, x2, x3, x4] T (0, 0)) := by
  have := set_in (set_in (set_in (set_in (set_in h 0 x0) 1 x1) 2 x2) 3 x3) 4 x4
  simpa using this
theorem five_cells {w : World} {q T : Nat} {a0 a1 a2 a3 a4 : Value} (h : w.heap[q]? = some (.cells #[a0, a1, a2, a3, a4] T (0, 0))) :
    (w.cell? ⟨q, 0, none⟩ = some a0 ∧ w.cell? ⟨q, 1, none⟩ = some a1 ∧ w.cell? ⟨q, 2, none⟩ = some a2 ∧ w.cell? ⟨q, 3, none⟩ = some a3 ∧ w.cell? ⟨q, 4, none⟩ = some a4) ∧
    (w.frozen? ⟨q, 0, none⟩ = false ∧ w.frozen? ⟨q, 1, none⟩ = false ∧ w.frozen? ⟨q, 2, none⟩ = false ∧ w.frozen? ⟨q, 3, none⟩ = false ∧ w.frozen? ⟨q, 4, none⟩ = false) :=
  ⟨⟨cell_in h rfl, cell_in h rfl, cell_in h rfl, cell_in h rfl, cell_in h rfl⟩, frozen_in h _, frozen_in h _, frozen_in h _, frozen_in h _, frozen_in h _⟩
set_option maxRecDepth 100000 in
set_option maxHeartbeats 8000000 in
theorem lab_lead (w0 w : World) {base m q P A G M : Nat} {ws : List Int} {wv : Value} {L : Nat → Bool} (l : List Itm) (i : Nat) (hi : i < l.length) (HO : ItsOK l) (HA : allB l) (hk : (it l i).kind = 3) (hL : L i = true → growK (it l i) = true)
    (HLS : LaySt base l.length P A G M (pl l L) L m (mp l l.length) w0) (HW : WSt w0.heap.size q P ws wv w) (HB : Below w0.heap.size w0 w) (hsz : ws.length + 2 ≤ 1000000) :
    Calls Try.prog 57 #[.pointer (some ⟨q, 0, none⟩), .int .i64 i, itV (it l i)] w fun e w' => e = .returned (.tuple #[]) ∧ ∃ wv', WSt w0.heap.size q P (ws ++ (insOf l L i).map encV) wv' w' ∧ Below w0.heap.size w0 w' := by
  obtain ⟨t1, t2, t3, t4, t5⟩ := to_parts (HA i hi) hk
  have zb := dst_bd HA L i hi HO.len
  have hnm := HO.name i hi
  have hln := HO.len
  have HLw := Lib.hid (HLS.up HB)
  have HDB : Hid (∀ j, j < l.length + 1 → 0 ≤ pl l L j ∧ pl l L j ≤ 100000000000) := Lib.hid (fun j hj => by have := pl_bd HA L j (by omega); omega)
  have HSH := Lib.hid (@insOf_short l L i hk)
  have HLO := Lib.hid (@insOf_long l L i hk)
  have HDZ : Hid (pl l L ((mp l l.length (it l i).name).getD 0) - pl l L i = dst l L i) := Lib.hid rfl
  obtain ⟨x, hx⟩ : ∃ x, it l i = x := ⟨_, rfl⟩
  rw [hx] at t2 t3 t4 hnm HSH HLO HDZ hL hk ⊢
  obtain ⟨kd, ⟨op, d, ia, ib, nn⟩, s, N⟩ := x
  obtain ⟨z, hz⟩ : ∃ z, dst l L i = z := ⟨_, rfl⟩
  rw [hz] at zb HSH HLO HDZ
  simp only at t2 t3 t4 hnm HSH HLO HDZ hk
  subst t2 t4 hk
  have hop : L i = true → 5 ≤ op ∧ op ≤ 10 := fun h => by
    have := ((growK_iff _).1 (hL h)).2
    rcases t3 with t | t
    · exact br_bd t
    · exact absurd t this
  obtain ⟨g, hg⟩ : ∃ g, L i = g := ⟨_, rfl⟩
  have HGI := Lib.hid hg
  have HOP := Lib.hid (hg ▸ hop)
  have HWW := Lib.hid HW; have HBB := Lib.hid HB
  clear t1 t3 t5 HO HA hL HLS HW HB hx hz hop hg
  unfold itV
  have hbx := bel_new w (.cells #[.int .i64 3, .int .i64 op, .int .i64 d, .int .i64 ia, .int .i64 ib, .int .i64 0, .string s, .int .i64 0] 26)
  have hnx := new_in w (.cells #[.int .i64 3, .int .i64 op, .int .i64 d, .int .i64 ia, .int .i64 ib, .int .i64 0, .string s, .int .i64 0] 26)
  go_enter Try.func57, Try.ntmps57
  go_wp2_with fail
  generalize w.alloc (.cells #[.int .i64 3, .int .i64 op, .int .i64 d, .int .i64 ia, .int .i64 ib, .int .i64 0, .string s, .int .i64 0] 26) = W at *
  have HbW := Lib.hid hbx; have HxW := Lib.hid hnx
  have HLW := Lib.hid (HLw.out.up hbx)
  have HW1 := Lib.hid (HWW.out.up hbx)
  have HB1 := Lib.hid (bw_tr HBB.out hbx)
  clear hbx hnx
  have HDIST : Hid (∀ w', Below W.heap.size W w' → Calls Try.prog 69 #[.pointer (some ⟨P, 0, none⟩), .int .i64 i, .agg #[.int .i64 3, .int .i64 op, .int .i64 d, .int .i64 ia, .int .i64 ib, .int .i64 0, .string s, .int .i64 0]] w' fun e w'' => e = .returned (.int .i64 z) ∧ Below w'.heap.size w' w'') := Lib.hid (fun w' hw' => by
    have := lab_distance (HLW.out.up hw') i hi ⟨3, ⟨op, d, ia, ib, 0⟩, s, 0⟩ hnm (lab_lt l l.length s) HDB.out
    rw [← HDZ.out]; exact this)
  clear HDB HDZ
  refine wp_region_up (fun w' => Below W.heap.size W w') [true, true, true, true, true, true, true, true, true] (by kernel_rfl) (by kernel_rfl) (by kernel_rfl) (fun _ _ h hu => bw_tr h hu) (Below.refl _ _) ?ra ?rh ?rt
  case rh =>
    intro u0 h0
    have y0 := up_cell h0 (lt_in HxW.out) (cell_in HxW.out (j := 0) (u := .int .i64 3) rfl)
    have y1 := up_cell h0 (lt_in HxW.out) (cell_in HxW.out (j := 1) (u := .int .i64 op) rfl)
    have y2 := up_cell h0 (lt_in HxW.out) (cell_in HxW.out (j := 2) (u := .int .i64 d) rfl)
    have y3 := up_cell h0 (lt_in HxW.out) (cell_in HxW.out (j := 3) (u := .int .i64 ia) rfl)
    have y4 := up_cell h0 (lt_in HxW.out) (cell_in HxW.out (j := 4) (u := .int .i64 ib) rfl)
    have y5 := up_cell h0 (lt_in HxW.out) (cell_in HxW.out (j := 5) (u := .int .i64 0) rfl)
    have y6 := up_cell h0 (lt_in HxW.out) (cell_in HxW.out (j := 6) (u := .string s) rfl)
    have y7 := up_cell h0 (lt_in HxW.out) (cell_in HxW.out (j := 7) (u := .int .i64 0) rfl)
    have y8 := up_cell h0 (lt_in HW1.out.hW) (cell_in HW1.out.hW (j := 0) (u := .pointer (some ⟨P, 0, none⟩)) rfl)
    have HC := Lib.hid (fun x : Wd u0 => quiet_b (x := x) (HDIST.out x.val (bw_tr h0 x.bel)))
    clear h0
    simp only [pickM]
    repeat (go_big_quiet_step ((go_at_call 69; with_reducible exact HC.out _)))
    refine wpQuiet_nil ?_
    rfl
  case rt =>
    change wpAnyU _ _ _ _ _ 3 _ _ _
    refine anyU_one (i := 9) (by kernel_rfl) rfl ?_
    intro u9 hu9 hc9
    have hn9 := new_in u9 (.cells #[.int .i64 0, .int .i64 0, .int .i64 0, .int .i64 0, .int .i64 0] 24)
    obtain ⟨n1, hn1⟩ : ∃ n1, u9.heap.size = n1 := ⟨_, rfl⟩
    have hn1W : W.heap.size ≤ n1 := by rw [← hn1]; exact hc9.size
    clear hu9
    go_wp2_with fail
    rw [hn1] at hn9
    refine ⟨(by repeat (first | (with_reducible exact Below.refl _ _) | (with_reducible refine bw_set ?_ ?_ _) | (with_reducible apply bw_alloc) | (with_reducible refine bw_tr ?_ (by with_reducible assumption)) | (with_reducible apply bw_drew) | omega)), ?_⟩
    refine anyU_one (i := 10) (by kernel_rfl) rfl ?_
    intro u10 hu10 hc10
    have hn10 := bel_in hu10 (lt_in hn9) hn9
    have HN10 := Lib.hid hn10
    clear hu10 hn9 hc9 hn1
    obtain ⟨⟨m0, m1, m2, m3, m4⟩, e0, e1, e2, e3, e4⟩ := five_cells hn10
    have hlt10 := lt_in hn10
    clear hn10
    go_wp2_with fail
    refine ⟨(by repeat (first | (with_reducible exact Below.refl _ _) | (with_reducible refine bw_set ?_ ?_ _) | (with_reducible apply bw_alloc) | (with_reducible refine bw_tr ?_ (by with_reducible assumption)) | (with_reducible apply bw_drew) | omega)), ?_⟩
    have hn10 := set5 (.int .i64 op) (.int .i64 d) (.int .i64 ia) (.int .i64 ib) (.int .i64 0) HN10.out
    refine anyU_one (i := 11) (by kernel_rfl) rfl ?_
    intro u11 hu11 hc11
    have hn11 := bel_in hu11 (lt_in hn10) hn10
    clear hu11 hn10 hc10 HN10 m0 m1 m2 m3 m4 e0 e1 e2 e3 e4 hlt10
    go_wp2_with fail
    refine ⟨hc11, ?_⟩
    refine anyU_nil (by kernel_rfl) ?_
    intro u12 hu12 hc12
    have HN := Lib.hid (bel_in hu12 (lt_in hn11) hn11)
    have hltn := lt_in HN.out
    clear hu12 hn11 hc11
    have HL12 := Lib.hid (HLW.out.up hc12)
    have HW12 := Lib.hid (HW1.out.up hc12)
    obtain ⟨⟨m0, m1, m2, m3, m4⟩, e0, e1, e2, e3, e4⟩ := five_cells HN.out
    have p0 : u12.cell? ⟨q, 0, none⟩ = some (.pointer (some ⟨P, 0, none⟩)) := cell_in HW12.out.hW rfl
    have p1 : u12.cell? ⟨P, 1, none⟩ = some (.slice (some ⟨G, 0, none⟩) l.length l.length) := cell_in HL12.out.hP rfl
    have p2 : u12.cell? ⟨G, i, none⟩ = some (.bool g) := (cell_in HL12.out.hG (cellsL_get _ hi)).trans (by rw [HGI.out])
    cases g
    case false =>
      have HE := Lib.hid (HSH.out HGI.out)
      go_wp2_with fail
      have HPUT := Lib.hid (fun (w' : World) (v : Value) h1 h2 h3 => lab_put w0 w' (q := q) (P := P) (ws := ws) (wv := wv) (v := v) [⟨op, d, ia, ib, z⟩] h1 h2 h3 (by simp; omega))
      with_reducible refine (HPUT.out _ _ ?h1w ?h1b (ins_one _ _ _ _ _ _ _ (by simp only [size_set]))).mono ?_
      case h1w => exact HW1.out.up ((by repeat (first | (with_reducible exact Below.refl _ _) | (with_reducible refine bw_set ?_ ?_ _) | (with_reducible apply bw_alloc) | (with_reducible refine bw_tr ?_ (by with_reducible assumption)) | (with_reducible apply bw_drew) | omega)))
      case h1b => exact bw_tr HB1.out ((by repeat (first | (with_reducible exact Below.refl _ _) | (with_reducible refine bw_set ?_ ?_ _) | (with_reducible apply bw_alloc) | (with_reducible refine bw_tr ?_ (by with_reducible assumption)) | (with_reducible apply bw_drew) | omega)))
      rintro e w3 ⟨rfl, wv', hw', hb'⟩
      go_wp2_with fail
      exact bodyPost_ret (v := .tuple #[]) (by simp [results, Try.results57, go_sem]) rfl ⟨rfl, wv', by rw [HE.out]; exact hw', hb'⟩
    case true =>
      have HE := Lib.hid (HLO.out HGI.out)
      have hop := HOP.out rfl
      go_wp2_with (go_at_call 71; ((with_reducible refine (opposite_any op _ hop).mono ?_); rintro e w1 ⟨rfl, rfl⟩))
      have HPUT := Lib.hid (fun (w' : World) (v : Value) h1 h2 h3 => lab_put w0 w' (q := q) (P := P) (ws := ws) (wv := wv) (v := v) [⟨oppN op, d, ia, ib, 8⟩, ⟨3, 0, 0, 0, z - 4⟩] h1 h2 h3 (by simp; omega))
      with_reducible refine (HPUT.out _ _ ?h2w ?h2b (ins_two _ _ _ _ _ _ _ _ _ _ _ _ (by simp only [size_set]))).mono ?_
      case h2w => exact HW1.out.up ((by repeat (first | (with_reducible exact Below.refl _ _) | (with_reducible refine bw_set ?_ ?_ _) | (with_reducible apply bw_alloc) | (with_reducible refine bw_tr ?_ (by with_reducible assumption)) | (with_reducible apply bw_drew) | omega)))
      case h2b => exact bw_tr HB1.out ((by repeat (first | (with_reducible exact Below.refl _ _) | (with_reducible refine bw_set ?_ ?_ _) | (with_reducible apply bw_alloc) | (with_reducible refine bw_tr ?_ (by with_reducible assumption)) | (with_reducible apply bw_drew) | omega)))
      rintro e w3 ⟨rfl, wv', hw', hb'⟩
      go_wp2_with fail
      go_end0
      exact ⟨rfl, wv', by rw [HE.out]; exact hw', hb'⟩
end Go.Proofs.Ytfepdieeiplbnaa
namespace Go.Proofs.Ytfepdieeiplbnaa
open Go.RowKit
set_option linter.unusedSimpArgs false
theorem number_at (d n : Int) (w : World) (hn : I64 n) :
    Calls Try.prog 21 #[.int .i64 d, .int .i64 n] w fun e w' => ∃ a, e = .returned (.slice a (labL d n).length (labL d n).length) ∧ InsAt w' (.slice a (labL d n).length (labL d n).length) (labL d n) ∧ Below w.heap.size w w' := by
  refine (label_number d n w hn).mono ?_
  rintro e w' ⟨hb, ⟨h1, h2⟩ | ⟨_, B, h, hB, _⟩⟩
  · rw [h1]; exact ⟨none, h2, .inl ⟨rfl, rfl⟩, hb⟩
  · exact ⟨_, h, .inr ⟨B, rfl, hB⟩, hb⟩
theorem item_kinds {x : Itm} (h : itemB x = true) : x.kind = 1 ∨ x.kind = 2 ∨ x.kind = 3 ∨ x.kind = 4 ∨ x.kind = 5 := by
  unfold itemB at h
  by_cases h1 : x.kind = 1
  · exact .inl h1
  by_cases h2 : x.kind = 2
  · exact .inr (.inl h2)
  by_cases h3 : x.kind = 3
  · exact .inr (.inr (.inl h3))
  by_cases h4 : x.kind = 4
  · exact .inr (.inr (.inr (.inl h4)))
  by_cases h5 : x.kind = 5
  · exact .inr (.inr (.inr (.inr h5)))
  rw [if_neg h1, if_neg h2, if_neg h3, if_neg h4, if_neg h5] at h
  cases h
theorem insOf_1 {l : List Itm} (L : Nat → Bool) {i : Nat} (h : (it l i).kind = 1) : insOf l L i = [(it l i).i] := by unfold insOf; rw [if_pos h]
theorem insOf_2 {l : List Itm} (L : Nat → Bool) {i : Nat} (h : (it l i).kind = 2) : insOf l L i = [] := by
  unfold insOf; rw [if_neg (by omega), if_neg (by omega), if_neg (by omega), if_neg (by omega)]
theorem insOf_4 {l : List Itm} (L : Nat → Bool) {i : Nat} (h : (it l i).kind = 4) : insOf l L i = labL (it l i).i.d (it l i).n := by
  unfold insOf; rw [if_neg (by omega), if_neg (by omega), if_pos h]
theorem insOf_5 {l : List Itm} (L : Nat → Bool) {i : Nat} (h : (it l i).kind = 5) : insOf l L i = List.replicate (it l i).n.toNat ⟨13, 0, 0, 0, 0⟩ := by
  unfold insOf; rw [if_neg (by omega), if_neg (by omega), if_neg (by omega), if_pos h]
def ItemPost (w0 : World) (q P : Nat) (ws : List Int) (e : Ending) (w' : World) : Prop := e = .returned (.tuple #[]) ∧ ∃ wv', WSt w0.heap.size q P ws wv' w' ∧ Below w0.heap.size w0 w'
set_option maxRecDepth 100000 in
set_option maxHeartbeats 8000000 in
theorem lab_item (w0 w : World) {base m q P A G M : Nat} {ws : List Int} {wv : Value} {L : Nat → Bool} (l : List Itm) (i : Nat) (hi : i < l.length) (HO : ItsOK l) (HA : allB l) (hL : L i = true → growK (it l i) = true)
    (HLS : LaySt base l.length P A G M (pl l L) L m (mp l l.length) w0) (HW : WSt w0.heap.size q P ws wv w) (HB : Below w0.heap.size w0 w) (hsz : ws.length + 5000 ≤ 1000000) :
    Calls Try.prog 34 #[.pointer (some ⟨q, 0, none⟩), .int .i64 i, itV (it l i)] w (ItemPost w0 q P (ws ++ (insOf l L i).map encV)) := by
  have hN := HO.num i hi
  have HLEAD := fun hk w1 hw hb => lab_lead (L := L) w0 w1 (wv := wv) (q := q) l i hi HO HA hk hL HLS hw hb (by omega : ws.length + 2 ≤ 1000000)
  have h1 := insOf_1 (l := l) L (i := i); have h2 := insOf_2 (l := l) L (i := i); have h4 := insOf_4 (l := l) L (i := i); have h5 := insOf_5 (l := l) L (i := i)
  have hnop := itemB_nops (HA i hi)
  have hk := item_kinds (HA i hi)
  obtain ⟨ins, hins⟩ : ∃ z, insOf l L i = z := ⟨_, rfl⟩
  rw [hins] at HLEAD h1 h2 h4 h5 ⊢
  have HWW := Lib.hid HW; have HBB := Lib.hid HB
  clear hL HLS HW HB HA HO hi hins
  obtain ⟨x, hx⟩ : ∃ x, it l i = x := ⟨_, rfl⟩
  rw [hx] at hN HLEAD h1 h2 h4 h5 hnop hk ⊢
  clear hx
  obtain ⟨kd, ⟨op, d, ia, ib, nn⟩, s, N⟩ := x
  simp only at hN HLEAD h1 h2 h4 h5 hnop hk
  unfold itV at HLEAD ⊢
  simp only at HLEAD ⊢
  rcases hk with rfl | rfl | rfl | rfl | rfl
  · have HE := Lib.hid (h1 rfl)
    clear HLEAD h1 h2 h4 h5 hnop hN
    go_enter Try.func34, Try.ntmps34
    go_wp2_with fail
    have HPUT := Lib.hid (fun (w' : World) (v : Value) h1 h2 h3 => lab_put w0 w' (q := q) (P := P) (ws := ws) (wv := wv) (v := v) [⟨op, d, ia, ib, nn⟩] h1 h2 h3 (by simp; omega))
    with_reducible refine (HPUT.out _ _ ?h1w ?h1b (ins_one _ _ _ _ _ _ _ (by simp))).mono ?_
    case h1w => exact HWW.out.up ((by repeat (first | (with_reducible exact Below.refl _ _) | (with_reducible refine bw_set ?_ ?_ _) | (with_reducible apply bw_alloc) | (with_reducible refine bw_tr ?_ (by with_reducible assumption)) | (with_reducible apply bw_drew) | omega)))
    case h1b => exact bw_tr HBB.out ((by repeat (first | (with_reducible exact Below.refl _ _) | (with_reducible refine bw_set ?_ ?_ _) | (with_reducible apply bw_alloc) | (with_reducible refine bw_tr ?_ (by with_reducible assumption)) | (with_reducible apply bw_drew) | omega)))
    rintro e w3 ⟨rfl, wv', hw', hb'⟩
    go_wp2_with fail
    go_end0
    exact ⟨rfl, wv', by rw [HE.out]; exact hw', hb'⟩
  · have HE := Lib.hid (h2 rfl)
    clear HLEAD h1 h2 h4 h5 hnop hN
    go_enter Try.func34, Try.ntmps34
    go_wp2_with fail
    go_end0
    exact ⟨rfl, wv, by rw [HE.out]; simpa using HWW.out.up ((by repeat (first | (with_reducible exact Below.refl _ _) | (with_reducible refine bw_set ?_ ?_ _) | (with_reducible apply bw_alloc) | (with_reducible refine bw_tr ?_ (by with_reducible assumption)) | (with_reducible apply bw_drew) | omega))), bw_tr HBB.out ((by repeat (first | (with_reducible exact Below.refl _ _) | (with_reducible refine bw_set ?_ ?_ _) | (with_reducible apply bw_alloc) | (with_reducible refine bw_tr ?_ (by with_reducible assumption)) | (with_reducible apply bw_drew) | omega)))⟩
  · have HLD := Lib.hid (HLEAD rfl)
    clear HLEAD h1 h2 h4 h5 hnop hN
    go_enter Try.func34, Try.ntmps34
    go_wp2_with fail
    with_reducible refine (HLD.out _ ?h3w ?h3b).mono ?_
    case h3w => exact HWW.out.up ((by repeat (first | (with_reducible exact Below.refl _ _) | (with_reducible refine bw_set ?_ ?_ _) | (with_reducible apply bw_alloc) | (with_reducible refine bw_tr ?_ (by with_reducible assumption)) | (with_reducible apply bw_drew) | omega)))
    case h3b => exact bw_tr HBB.out ((by repeat (first | (with_reducible exact Below.refl _ _) | (with_reducible refine bw_set ?_ ?_ _) | (with_reducible apply bw_alloc) | (with_reducible refine bw_tr ?_ (by with_reducible assumption)) | (with_reducible apply bw_drew) | omega)))
    rintro e w3 ⟨rfl, wv', hw', hb'⟩
    go_wp2_with fail
    go_end0
    exact ⟨rfl, wv', hw', hb'⟩
  · have HE := Lib.hid (h4 rfl)
    have HNN := Lib.hid hN
    have hll := labL_len d N
    clear HLEAD h1 h2 h4 h5 hnop hN
    go_enter Try.func34, Try.ntmps34
    go_wp2_with (go_at_call 21; ((with_reducible refine (number_at d N _ HNN.out).mono ?_); rintro e w1 ⟨a1, rfl, hi1, hb1⟩; have HI1 := Lib.hid hi1; clear hi1))
    have HPUT := Lib.hid (fun (w' : World) (v : Value) h1 h2 h3 => lab_put w0 w' (q := q) (P := P) (ws := ws) (wv := wv) (v := v) (labL d N) h1 h2 h3 (by omega))
    with_reducible refine (HPUT.out _ _ ?h4w ?h4b HI1.out).mono ?_
    case h4w => exact HWW.out.up ((by repeat (first | (with_reducible exact Below.refl _ _) | (with_reducible refine bw_set ?_ ?_ _) | (with_reducible apply bw_alloc) | (with_reducible refine bw_tr ?_ (by with_reducible assumption)) | (with_reducible apply bw_drew) | omega)))
    case h4b => exact bw_tr HBB.out ((by repeat (first | (with_reducible exact Below.refl _ _) | (with_reducible refine bw_set ?_ ?_ _) | (with_reducible apply bw_alloc) | (with_reducible refine bw_tr ?_ (by with_reducible assumption)) | (with_reducible apply bw_drew) | omega)))
    rintro e w3 ⟨rfl, wv', hw', hb'⟩
    go_wp2_with fail
    go_end0
    exact ⟨rfl, wv', by rw [HE.out]; exact hw', hb'⟩
  · have HE := Lib.hid (h5 rfl)
    obtain ⟨n0, n1⟩ := hnop rfl
    clear HLEAD h1 h2 h4 h5 hnop hN
    obtain ⟨K, rfl⟩ : ∃ K : Nat, N = K := ⟨N.toNat, by omega⟩
    have hbw := bel_new w (.cells #[.int .i64 5, .int .i64 op, .int .i64 d, .int .i64 ia, .int .i64 ib, .int .i64 nn, .string s, .int .i64 (K : Int)] 26)
    have HB0 := Lib.hid (bw_tr HBB.out hbw)
    have HW0 := Lib.hid (HWW.out.up hbw)
    clear hbw
    go_enter Try.func34, Try.ntmps34
    go_wp2_with fail
    go_loopw [35] (fun j wr => ∃ k : Nat, ∃ wv', k ≤ K ∧ j = .int .i64 k ∧ WSt w0.heap.size q P (ws ++ (List.replicate k (⟨13, 0, 0, 0, 0⟩ : Ins)).map encV) wv' wr ∧ Below w0.heap.size w0 wr) (fun j _ => K - (intOf j).toNat)
    case atStart => exact ⟨0, wv, Nat.zero_le _, rfl, by simpa using HW0.out, HB0.out⟩
    case round =>
      obtain ⟨k, wv', hk, rfl, hw, hb⟩ := hrel
      have HS := Lib.hid hw; have HBR := Lib.hid hb
      clear hw hb
      by_cases hlt : k < K
      case neg =>
        obtain rfl : k = K := by omega
        go_wp2_with fail
        go_end0
        exact ⟨rfl, wv', by rw [HE.out, show ((k : Int)).toNat = k by omega]; exact HS.out, HBR.out⟩
      case pos =>
        have hlen : (ws ++ (List.replicate k (⟨13, 0, 0, 0, 0⟩ : Ins)).map encV).length + 1 ≤ 1000000 := by simp; omega
        have HPUT := Lib.hid (fun (w' : World) (v : Value) h1 h2 h3 => lab_put w0 w' (q := q) (P := P) (ws := ws ++ (List.replicate k (⟨13, 0, 0, 0, 0⟩ : Ins)).map encV) (wv := wv') (v := v) [⟨13, 0, 0, 0, 0⟩] h1 h2 h3 hlen)
        clear hlen
        go_wp2_with fail
        with_reducible refine (HPUT.out _ _ ?h5w ?h5b (ins_one _ _ _ _ _ _ _ (by simp))).mono ?_
        case h5w => exact HS.out.up ((by repeat (first | (with_reducible exact Below.refl _ _) | (with_reducible refine bw_set ?_ ?_ _) | (with_reducible apply bw_alloc) | (with_reducible refine bw_tr ?_ (by with_reducible assumption)) | (with_reducible apply bw_drew) | omega)))
        case h5b => exact bw_tr HBR.out ((by repeat (first | (with_reducible exact Below.refl _ _) | (with_reducible refine bw_set ?_ ?_ _) | (with_reducible apply bw_alloc) | (with_reducible refine bw_tr ?_ (by with_reducible assumption)) | (with_reducible apply bw_drew) | omega)))
        rintro e w3 ⟨rfl, wv3, hw', hb'⟩
        have HW3 := Lib.hid hw'; have HB3 := Lib.hid hb'
        clear hw' hb'
        go_wp2_with fail
        refine ⟨⟨k + 1, wv3, by omega, by go_num, ?_, HB3.out⟩, by simp [intOf]; omega⟩
        have := HW3.out
        rwa [List.append_assoc, ← List.map_append, ← List.replicate_succ'] at this
/-- The words of items. -/
noncomputable def wordsOf (l : List Itm) : List Int := wordsTo l (longF l) l.length
theorem wordsTo_succ (l : List Itm) (L : Nat → Bool) (k : Nat) : wordsTo l L (k + 1) = wordsTo l L k ++ (insOf l L k).map encV := by simp [wordsTo, insTo]
theorem err_parts {l : List Itm} (h : errOf l = 0) : l.length ≤ 40000 ∧ allB l ∧ knownB l = true ∧ pl l (longF l) l.length ≤ 262144 := by
  unfold errOf at h
  split at h
  · cases h
  split at h
  · cases h
  split at h
  · cases h
  split at h
  · cases h
  · rename_i h1 h2 h3 h4
    exact ⟨by omega, Classical.not_not.1 h2, by simpa using h3, by omega⟩
theorem wordsTo_len {l : List Itm} (h : errOf l = 0) (k : Nat) (hk : k ≤ l.length) : (wordsTo l (longF l) k).length ≤ 65536 := by
  obtain ⟨_, h2, _, h4⟩ := err_parts h
  have h5 := insTo_len h2 (longF l) (fun i => long_to) k hk
  have h6 := pl_le h2 (longF l) k l.length hk (Nat.le_refl _)
  unfold wordsTo; rw [List.length_map]; omega
theorem assemble_no (w : World) (l : List Itm) (v : Value) (HL : ArgS 8 itC w v l) (HO : NamesOK l) (e0 : Int) (he : errOf l = e0) (h0 : e0 ≠ 0) :
    Calls Try.prog 16 #[v] w fun e w' => e = .returned (.tuple #[.slice none 0 0, .int .i64 e0]) ∧ Below w.heap.size w w' := by
  have hC := Lib.hid (lay_no w l v HL HO e0 he h0)
  have hq : (e0 != 0) = true := by simpa using h0
  clear HL HO he h0
  go_enter Try.func16, Try.ntmps16
  go_wp2_with (go_at_call 32; ((with_reducible refine hC.out.mono ?_); rintro e w1 ⟨rfl, hb1⟩))
  go_ret2
  exact ⟨rfl, hb1⟩
set_option maxRecDepth 100000 in
set_option maxHeartbeats 8000000 in
theorem assemble_yes (w : World) (l : List Itm) (v : Value) (HL : ArgS 8 itC w v l) (HO : NamesOK l) (he : errOf l = 0) :
    Calls Try.prog 16 #[v] w fun e w' => ∃ v', e = .returned (.tuple #[v', .int .i64 0]) ∧ w'.ownsRow w.heap.size 3 1 v' (wordsOf l).length (intsC (wordsOf l)) ∧ Below w.heap.size w w' := by
  have hC := Lib.hid (lay_yes w l v HL HO he)
  obtain ⟨e1, e2, e3, e4⟩ := err_parts he
  have HK : Hid (ItsOK l) := Lib.hid ⟨e1, HO.name, HO.num⟩
  have HA := Lib.hid e2; have HE := Lib.hid he
  obtain ⟨a, c, rfl⟩ : ∃ a c, v = .slice a l.length c := by obtain ⟨a, c, hv, _⟩ := HL; exact ⟨a, c, hv⟩
  have H1 := Lib.hid HL
  clear HL HO he e2 e3 e4
  go_enter Try.func16, Try.ntmps16
  go_wp2_with (go_at_call 32; ((with_reducible refine hC.out.mono ?_); rintro e w1 ⟨P, A, G, M, rfl, hs1, hb1⟩; have HS1 := Lib.hid hs1; have HB1 := Lib.hid hb1; clear hs1 hb1; have hsz1 := HB1.out.size))
  have hw0 : WSt w1.heap.size w1.heap.size P [] (.slice none 0 0) (w1.alloc (.cells #[.pointer (some ⟨P, 0, none⟩), .slice none 0 0] 66)) := ⟨new_in w1 _, World.ownsRow_nil _ _ _ _, Nat.le_refl _⟩
  have HW0 := Lib.hid hw0
  clear hw0
  go_loopw [22] (fun i wr => ∃ k : Nat, ∃ wv, k ≤ l.length ∧ i = .int .i64 k ∧ WSt w1.heap.size w1.heap.size P (wordsTo l (longF l) k) wv wr ∧ Below w1.heap.size w1 wr) (fun i _ => l.length - (intOf i).toNat)
  case atStart => exact ⟨0, _, Nat.zero_le _, rfl, HW0.out, bel_new _ _⟩
  case round =>
    obtain ⟨k, wv, hk, rfl, hw, hb⟩ := hrel
    have HS := Lib.hid hw; have HB := Lib.hid hb
    clear hw hb
    by_cases hlt : k < l.length
    case pos =>
      obtain ⟨b, o, rfl, hb0, hcells⟩ := items_at H1.out k hlt
      obtain ⟨c0, c1, c2, c3, c4, c5, c6, c7⟩ := eight_cells (fun j u hj => (HB.out.cell (p := ⟨b, o + k * 8 + j, none⟩) (show b < w1.heap.size by omega)).trans ((HB1.out.cell (p := ⟨b, o + k * 8 + j, none⟩) hb0).trans (hcells j u hj)))
      clear hcells
      have hsz := HB.out.size
      have hwl := wordsTo_len HE.out k (by omega)
      have HIT := Lib.hid (fun (w' : World) hw hb => lab_item (L := longF l) w1 w' (q := w1.heap.size) (wv := wv) (ws := wordsTo l (longF l) k) l k hlt HK.out HA.out long_to HS1.out hw hb (by omega))
      unfold itV ItemPost at HIT
      clear hwl
      go_wp2_with fail
      with_reducible refine (HIT.out _ ?hw ?hb).mono ?_
      case hw => exact HS.out.up ((by repeat (first | (with_reducible exact Below.refl _ _) | (with_reducible refine bw_set ?_ ?_ _) | (with_reducible apply bw_alloc) | (with_reducible refine bw_tr ?_ (by with_reducible assumption)) | (with_reducible apply bw_drew) | omega)))
      case hb => exact bw_tr HB.out ((by repeat (first | (with_reducible exact Below.refl _ _) | (with_reducible refine bw_set ?_ ?_ _) | (with_reducible apply bw_alloc) | (with_reducible refine bw_tr ?_ (by with_reducible assumption)) | (with_reducible apply bw_drew) | omega)))
      rintro e w3 ⟨rfl, wv3, hw3, hb3⟩
      have HW3 := Lib.hid hw3; have HB3 := Lib.hid hb3
      clear hw3 hb3
      go_wp2_with fail
      exact ⟨⟨k + 1, wv3, by omega, by go_num, by rw [wordsTo_succ]; exact HW3.out, HB3.out⟩, by simp [intOf]; omega⟩
    case neg =>
      obtain rfl : k = l.length := by omega
      obtain ⟨ax, cx, rfl⟩ := own_shape HS.out.hR
      have m1 : wr.cell? ⟨w1.heap.size, 1, none⟩ = some (.slice ax (wordsTo l (longF l) l.length).length cx) := cell_in HS.out.hW rfl
      have HWO : Hid (wordsTo l (longF l) l.length = wordsOf l) := Lib.hid rfl
      go_wp2_with fail
      go_ret2
      exact ⟨_, rfl, own_base HS.out.hR (by omega), bw_tr HB1.out HB.out⟩
end Go.Proofs.Ytfepdieeiplbnaa
