/-
  The contracts of writer.item and label.Assemble.
-/
import Derived.Test.YtfepdieeiplbnaaLabLead
import Derived.Test.YtfepdieeiplbnaaLabFind
namespace Go.Proofs.Ytfepdieeiplbnaa
open Go.RowKit
set_option linter.unusedSimpArgs false
theorem number_at (d n : Int) (w : World) (hn : I64 n) :
    Calls Try.prog 21 #[.int .i64 d, .int .i64 n] w fun e w' => ∃ a, e = .returned (.slice a (labL d n).length (labL d n).length) ∧ InsAt w' (.slice a (labL d n).length (labL d n).length) (labL d n) ∧ Below w.heap.size w w' := by
  refine (label_number d n w hn).mono ?_
  rintro e w' ⟨hb, ⟨h1, h2⟩ | ⟨_, B, h, hB, _⟩⟩
  · rw [h1]; exact ⟨none, h2, .inl ⟨rfl, rfl⟩, hb⟩
  · exact ⟨_, h, .inr ⟨B, rfl, hB⟩, hb⟩
theorem item_kinds {x : Itm} (h : itemB x = true) : x.kind = 1 ∨ x.kind = 2 ∨ x.kind = 3 ∨ x.kind = 4 ∨ x.kind = 5 := by
  unfold itemB at h
  by_cases h1 : x.kind = 1
  · exact .inl h1
  by_cases h2 : x.kind = 2
  · exact .inr (.inl h2)
  by_cases h3 : x.kind = 3
  · exact .inr (.inr (.inl h3))
  by_cases h4 : x.kind = 4
  · exact .inr (.inr (.inr (.inl h4)))
  by_cases h5 : x.kind = 5
  · exact .inr (.inr (.inr (.inr h5)))
  rw [if_neg h1, if_neg h2, if_neg h3, if_neg h4, if_neg h5] at h
  cases h
theorem insOf_1 {l : List Itm} (L : Nat → Bool) {i : Nat} (h : (it l i).kind = 1) : insOf l L i = [(it l i).i] := by unfold insOf; rw [if_pos h]
theorem insOf_2 {l : List Itm} (L : Nat → Bool) {i : Nat} (h : (it l i).kind = 2) : insOf l L i = [] := by
  unfold insOf; rw [if_neg (by omega), if_neg (by omega), if_neg (by omega), if_neg (by omega)]
theorem insOf_4 {l : List Itm} (L : Nat → Bool) {i : Nat} (h : (it l i).kind = 4) : insOf l L i = labL (it l i).i.d (it l i).n := by
  unfold insOf; rw [if_neg (by omega), if_neg (by omega), if_pos h]
theorem insOf_5 {l : List Itm} (L : Nat → Bool) {i : Nat} (h : (it l i).kind = 5) : insOf l L i = List.replicate (it l i).n.toNat ⟨13, 0, 0, 0, 0⟩ := by
  unfold insOf; rw [if_neg (by omega), if_neg (by omega), if_neg (by omega), if_pos h]
def ItemPost (w0 : World) (q P : Nat) (ws : List Int) (e : Ending) (w' : World) : Prop := e = .returned (.tuple #[]) ∧ ∃ wv', WSt w0.heap.size q P ws wv' w' ∧ Below w0.heap.size w0 w'
set_option maxRecDepth 100000 in
set_option maxHeartbeats 8000000 in
theorem lab_item (w0 w : World) {base m q P A G M : Nat} {ws : List Int} {wv : Value} {L : Nat → Bool} (l : List Itm) (i : Nat) (hi : i < l.length) (HO : ItsOK l) (HA : allB l) (hL : L i = true → growK (it l i) = true)
    (HLS : LaySt base l.length P A G M (pl l L) L m (mp l l.length) w0) (HW : WSt w0.heap.size q P ws wv w) (HB : Below w0.heap.size w0 w) (hsz : ws.length + 5000 ≤ 1000000) :
    Calls Try.prog 34 #[.pointer (some ⟨q, 0, none⟩), .int .i64 i, itV (it l i)] w (ItemPost w0 q P (ws ++ (insOf l L i).map encV)) := by
  have hN := HO.num i hi
  have HLEAD := fun hk w1 hw hb => lab_lead (L := L) w0 w1 (wv := wv) (q := q) l i hi HO HA hk hL HLS hw hb (by omega : ws.length + 2 ≤ 1000000)
  have h1 := insOf_1 (l := l) L (i := i); have h2 := insOf_2 (l := l) L (i := i); have h4 := insOf_4 (l := l) L (i := i); have h5 := insOf_5 (l := l) L (i := i)
  have hnop := itemB_nops (HA i hi)
  have hk := item_kinds (HA i hi)
  obtain ⟨ins, hins⟩ : ∃ z, insOf l L i = z := ⟨_, rfl⟩
  rw [hins] at HLEAD h1 h2 h4 h5 ⊢
  have HWW := Lib.hid HW; have HBB := Lib.hid HB
  clear hL HLS HW HB HA HO hi hins
  obtain ⟨x, hx⟩ : ∃ x, it l i = x := ⟨_, rfl⟩
  rw [hx] at hN HLEAD h1 h2 h4 h5 hnop hk ⊢
  clear hx
  obtain ⟨kd, ⟨op, d, ia, ib, nn⟩, s, N⟩ := x
  simp only at hN HLEAD h1 h2 h4 h5 hnop hk
  unfold itV at HLEAD ⊢
  simp only at HLEAD ⊢
  rcases hk with rfl | rfl | rfl | rfl | rfl
  · have HE := Lib.hid (h1 rfl)
    clear HLEAD h1 h2 h4 h5 hnop hN
    go_enter Try.func34, Try.ntmps34
    go_wp2_with fail
    have HPUT := Lib.hid (fun (w' : World) (v : Value) h1 h2 h3 => lab_put w0 w' (q := q) (P := P) (ws := ws) (wv := wv) (v := v) [⟨op, d, ia, ib, nn⟩] h1 h2 h3 (by simp; omega))
    with_reducible refine (HPUT.out _ _ ?h1w ?h1b (ins_one _ _ _ _ _ _ _ (by simp))).mono ?_
    case h1w => exact HWW.out.up ((by repeat (first | (with_reducible exact Below.refl _ _) | (with_reducible refine bw_set ?_ ?_ _) | (with_reducible apply bw_alloc) | (with_reducible refine bw_tr ?_ (by with_reducible assumption)) | (with_reducible apply bw_drew) | omega)))
    case h1b => exact bw_tr HBB.out ((by repeat (first | (with_reducible exact Below.refl _ _) | (with_reducible refine bw_set ?_ ?_ _) | (with_reducible apply bw_alloc) | (with_reducible refine bw_tr ?_ (by with_reducible assumption)) | (with_reducible apply bw_drew) | omega)))
    rintro e w3 ⟨rfl, wv', hw', hb'⟩
    go_wp2_with fail
    go_end0
    exact ⟨rfl, wv', by rw [HE.out]; exact hw', hb'⟩
  · have HE := Lib.hid (h2 rfl)
    clear HLEAD h1 h2 h4 h5 hnop hN
    go_enter Try.func34, Try.ntmps34
    go_wp2_with fail
    go_end0
    exact ⟨rfl, wv, by rw [HE.out]; simpa using HWW.out.up ((by repeat (first | (with_reducible exact Below.refl _ _) | (with_reducible refine bw_set ?_ ?_ _) | (with_reducible apply bw_alloc) | (with_reducible refine bw_tr ?_ (by with_reducible assumption)) | (with_reducible apply bw_drew) | omega))), bw_tr HBB.out ((by repeat (first | (with_reducible exact Below.refl _ _) | (with_reducible refine bw_set ?_ ?_ _) | (with_reducible apply bw_alloc) | (with_reducible refine bw_tr ?_ (by with_reducible assumption)) | (with_reducible apply bw_drew) | omega)))⟩
  · have HLD := Lib.hid (HLEAD rfl)
    clear HLEAD h1 h2 h4 h5 hnop hN
    go_enter Try.func34, Try.ntmps34
    go_wp2_with fail
    with_reducible refine (HLD.out _ ?h3w ?h3b).mono ?_
    case h3w => exact HWW.out.up ((by repeat (first | (with_reducible exact Below.refl _ _) | (with_reducible refine bw_set ?_ ?_ _) | (with_reducible apply bw_alloc) | (with_reducible refine bw_tr ?_ (by with_reducible assumption)) | (with_reducible apply bw_drew) | omega)))
    case h3b => exact bw_tr HBB.out ((by repeat (first | (with_reducible exact Below.refl _ _) | (with_reducible refine bw_set ?_ ?_ _) | (with_reducible apply bw_alloc) | (with_reducible refine bw_tr ?_ (by with_reducible assumption)) | (with_reducible apply bw_drew) | omega)))
    rintro e w3 ⟨rfl, wv', hw', hb'⟩
    go_wp2_with fail
    go_end0
    exact ⟨rfl, wv', hw', hb'⟩
  · have HE := Lib.hid (h4 rfl)
    have HNN := Lib.hid hN
    have hll := labL_len d N
    clear HLEAD h1 h2 h4 h5 hnop hN
    go_enter Try.func34, Try.ntmps34
    go_wp2_with (go_at_call 21; ((with_reducible refine (number_at d N _ HNN.out).mono ?_); rintro e w1 ⟨a1, rfl, hi1, hb1⟩; have HI1 := Lib.hid hi1; clear hi1))
    have HPUT := Lib.hid (fun (w' : World) (v : Value) h1 h2 h3 => lab_put w0 w' (q := q) (P := P) (ws := ws) (wv := wv) (v := v) (labL d N) h1 h2 h3 (by omega))
    with_reducible refine (HPUT.out _ _ ?h4w ?h4b HI1.out).mono ?_
    case h4w => exact HWW.out.up ((by repeat (first | (with_reducible exact Below.refl _ _) | (with_reducible refine bw_set ?_ ?_ _) | (with_reducible apply bw_alloc) | (with_reducible refine bw_tr ?_ (by with_reducible assumption)) | (with_reducible apply bw_drew) | omega)))
    case h4b => exact bw_tr HBB.out ((by repeat (first | (with_reducible exact Below.refl _ _) | (with_reducible refine bw_set ?_ ?_ _) | (with_reducible apply bw_alloc) | (with_reducible refine bw_tr ?_ (by with_reducible assumption)) | (with_reducible apply bw_drew) | omega)))
    rintro e w3 ⟨rfl, wv', hw', hb'⟩
    go_wp2_with fail
    go_end0
    exact ⟨rfl, wv', by rw [HE.out]; exact hw', hb'⟩
  · have HE := Lib.hid (h5 rfl)
    obtain ⟨n0, n1⟩ := hnop rfl
    clear HLEAD h1 h2 h4 h5 hnop hN
    obtain ⟨K, rfl⟩ : ∃ K : Nat, N = K := ⟨N.toNat, by omega⟩
    have hbw := bel_new w (.cells #[.int .i64 5, .int .i64 op, .int .i64 d, .int .i64 ia, .int .i64 ib, .int .i64 nn, .string s, .int .i64 (K : Int)] 26)
    have HB0 := Lib.hid (bw_tr HBB.out hbw)
    have HW0 := Lib.hid (HWW.out.up hbw)
    clear hbw
    go_enter Try.func34, Try.ntmps34
    go_wp2_with fail
    go_loopw [35] (fun j wr => ∃ k : Nat, ∃ wv', k ≤ K ∧ j = .int .i64 k ∧ WSt w0.heap.size q P (ws ++ (List.replicate k (⟨13, 0, 0, 0, 0⟩ : Ins)).map encV) wv' wr ∧ Below w0.heap.size w0 wr) (fun j _ => K - (intOf j).toNat)
    case atStart => exact ⟨0, wv, Nat.zero_le _, rfl, by simpa using HW0.out, HB0.out⟩
    case round =>
      obtain ⟨k, wv', hk, rfl, hw, hb⟩ := hrel
      have HS := Lib.hid hw; have HBR := Lib.hid hb
      clear hw hb
      by_cases hlt : k < K
      case neg =>
        obtain rfl : k = K := by omega
        go_wp2_with fail
        go_end0
        exact ⟨rfl, wv', by rw [HE.out, show ((k : Int)).toNat = k by omega]; exact HS.out, HBR.out⟩
      case pos =>
        have hlen : (ws ++ (List.replicate k (⟨13, 0, 0, 0, 0⟩ : Ins)).map encV).length + 1 ≤ 1000000 := by simp; omega
        have HPUT := Lib.hid (fun (w' : World) (v : Value) h1 h2 h3 => lab_put w0 w' (q := q) (P := P) (ws := ws ++ (List.replicate k (⟨13, 0, 0, 0, 0⟩ : Ins)).map encV) (wv := wv') (v := v) [⟨13, 0, 0, 0, 0⟩] h1 h2 h3 hlen)
        clear hlen
        go_wp2_with fail
        with_reducible refine (HPUT.out _ _ ?h5w ?h5b (ins_one _ _ _ _ _ _ _ (by simp))).mono ?_
        case h5w => exact HS.out.up ((by repeat (first | (with_reducible exact Below.refl _ _) | (with_reducible refine bw_set ?_ ?_ _) | (with_reducible apply bw_alloc) | (with_reducible refine bw_tr ?_ (by with_reducible assumption)) | (with_reducible apply bw_drew) | omega)))
        case h5b => exact bw_tr HBR.out ((by repeat (first | (with_reducible exact Below.refl _ _) | (with_reducible refine bw_set ?_ ?_ _) | (with_reducible apply bw_alloc) | (with_reducible refine bw_tr ?_ (by with_reducible assumption)) | (with_reducible apply bw_drew) | omega)))
        rintro e w3 ⟨rfl, wv3, hw', hb'⟩
        have HW3 := Lib.hid hw'; have HB3 := Lib.hid hb'
        clear hw' hb'
        go_wp2_with fail
        refine ⟨⟨k + 1, wv3, by omega, by go_num, ?_, HB3.out⟩, by simp [intOf]; omega⟩
        have := HW3.out
        rwa [List.append_assoc, ← List.map_append, ← List.replicate_succ'] at this
/-- The words of items. -/
noncomputable def wordsOf (l : List Itm) : List Int := wordsTo l (longF l) l.length
theorem wordsTo_succ (l : List Itm) (L : Nat → Bool) (k : Nat) : wordsTo l L (k + 1) = wordsTo l L k ++ (insOf l L k).map encV := by simp [wordsTo, insTo]
theorem err_parts {l : List Itm} (h : errOf l = 0) : l.length ≤ 40000 ∧ allB l ∧ knownB l = true ∧ pl l (longF l) l.length ≤ 262144 := by
  unfold errOf at h
  split at h
  · cases h
  split at h
  · cases h
  split at h
  · cases h
  split at h
  · cases h
  · rename_i h1 h2 h3 h4
    exact ⟨by omega, Classical.not_not.1 h2, by simpa using h3, by omega⟩
theorem wordsTo_len {l : List Itm} (h : errOf l = 0) (k : Nat) (hk : k ≤ l.length) : (wordsTo l (longF l) k).length ≤ 65536 := by
  obtain ⟨_, h2, _, h4⟩ := err_parts h
  have h5 := insTo_len h2 (longF l) (fun i => long_to) k hk
  have h6 := pl_le h2 (longF l) k l.length hk (Nat.le_refl _)
  unfold wordsTo; rw [List.length_map]; omega
theorem assemble_no (w : World) (l : List Itm) (v : Value) (HL : ArgS 8 itC w v l) (HO : NamesOK l) (e0 : Int) (he : errOf l = e0) (h0 : e0 ≠ 0) :
    Calls Try.prog 16 #[v] w fun e w' => e = .returned (.tuple #[.slice none 0 0, .int .i64 e0]) ∧ Below w.heap.size w w' := by
  have hC := Lib.hid (lay_no w l v HL HO e0 he h0)
  have hq : (e0 != 0) = true := by simpa using h0
  clear HL HO he h0
  go_enter Try.func16, Try.ntmps16
  go_wp2_with (go_at_call 32; ((with_reducible refine hC.out.mono ?_); rintro e w1 ⟨rfl, hb1⟩))
  go_ret2
  exact ⟨rfl, hb1⟩
set_option maxRecDepth 100000 in
set_option maxHeartbeats 8000000 in
theorem assemble_yes (w : World) (l : List Itm) (v : Value) (HL : ArgS 8 itC w v l) (HO : NamesOK l) (he : errOf l = 0) :
    Calls Try.prog 16 #[v] w fun e w' => ∃ v', e = .returned (.tuple #[v', .int .i64 0]) ∧ w'.ownsRow w.heap.size 3 1 v' (wordsOf l).length (intsC (wordsOf l)) ∧ Below w.heap.size w w' := by
  have hC := Lib.hid (lay_yes w l v HL HO he)
  obtain ⟨e1, e2, e3, e4⟩ := err_parts he
  have HK : Hid (ItsOK l) := Lib.hid ⟨e1, HO.name, HO.num⟩
  have HA := Lib.hid e2; have HE := Lib.hid he
  obtain ⟨a, c, rfl⟩ : ∃ a c, v = .slice a l.length c := by obtain ⟨a, c, hv, _⟩ := HL; exact ⟨a, c, hv⟩
  have H1 := Lib.hid HL
  clear HL HO he e2 e3 e4
  go_enter Try.func16, Try.ntmps16
  go_wp2_with (go_at_call 32; ((with_reducible refine hC.out.mono ?_); rintro e w1 ⟨P, A, G, M, rfl, hs1, hb1⟩; have HS1 := Lib.hid hs1; have HB1 := Lib.hid hb1; clear hs1 hb1; have hsz1 := HB1.out.size))
  have hw0 : WSt w1.heap.size w1.heap.size P [] (.slice none 0 0) (w1.alloc (.cells #[.pointer (some ⟨P, 0, none⟩), .slice none 0 0] 66)) := ⟨new_in w1 _, World.ownsRow_nil _ _ _ _, Nat.le_refl _⟩
  have HW0 := Lib.hid hw0
  clear hw0
  go_loopw [22] (fun i wr => ∃ k : Nat, ∃ wv, k ≤ l.length ∧ i = .int .i64 k ∧ WSt w1.heap.size w1.heap.size P (wordsTo l (longF l) k) wv wr ∧ Below w1.heap.size w1 wr) (fun i _ => l.length - (intOf i).toNat)
  case atStart => exact ⟨0, _, Nat.zero_le _, rfl, HW0.out, bel_new _ _⟩
  case round =>
    obtain ⟨k, wv, hk, rfl, hw, hb⟩ := hrel
    have HS := Lib.hid hw; have HB := Lib.hid hb
    clear hw hb
    by_cases hlt : k < l.length
    case pos =>
      obtain ⟨b, o, rfl, hb0, hcells⟩ := items_at H1.out k hlt
      obtain ⟨c0, c1, c2, c3, c4, c5, c6, c7⟩ := eight_cells (fun j u hj => (HB.out.cell (p := ⟨b, o + k * 8 + j, none⟩) (show b < w1.heap.size by omega)).trans ((HB1.out.cell (p := ⟨b, o + k * 8 + j, none⟩) hb0).trans (hcells j u hj)))
      clear hcells
      have hsz := HB.out.size
      have hwl := wordsTo_len HE.out k (by omega)
      have HIT := Lib.hid (fun (w' : World) hw hb => lab_item (L := longF l) w1 w' (q := w1.heap.size) (wv := wv) (ws := wordsTo l (longF l) k) l k hlt HK.out HA.out long_to HS1.out hw hb (by omega))
      unfold itV ItemPost at HIT
      clear hwl
      go_wp2_with fail
      with_reducible refine (HIT.out _ ?hw ?hb).mono ?_
      case hw => exact HS.out.up ((by repeat (first | (with_reducible exact Below.refl _ _) | (with_reducible refine bw_set ?_ ?_ _) | (with_reducible apply bw_alloc) | (with_reducible refine bw_tr ?_ (by with_reducible assumption)) | (with_reducible apply bw_drew) | omega)))
      case hb => exact bw_tr HB.out ((by repeat (first | (with_reducible exact Below.refl _ _) | (with_reducible refine bw_set ?_ ?_ _) | (with_reducible apply bw_alloc) | (with_reducible refine bw_tr ?_ (by with_reducible assumption)) | (with_reducible apply bw_drew) | omega)))
      rintro e w3 ⟨rfl, wv3, hw3, hb3⟩
      have HW3 := Lib.hid hw3; have HB3 := Lib.hid hb3
      clear hw3 hb3
      go_wp2_with fail
      exact ⟨⟨k + 1, wv3, by omega, by go_num, by rw [wordsTo_succ]; exact HW3.out, HB3.out⟩, by simp [intOf]; omega⟩
    case neg =>
      obtain rfl : k = l.length := by omega
      obtain ⟨ax, cx, rfl⟩ := own_shape HS.out.hR
      have m1 : wr.cell? ⟨w1.heap.size, 1, none⟩ = some (.slice ax (wordsTo l (longF l) l.length).length cx) := cell_in HS.out.hW rfl
      have HWO : Hid (wordsTo l (longF l) l.length = wordsOf l) := Lib.hid rfl
      go_wp2_with fail
      go_ret2
      exact ⟨_, rfl, own_base HS.out.hR (by omega), bw_tr HB1.out HB.out⟩
end Go.Proofs.Ytfepdieeiplbnaa
