/-
  What the walks of this statement lean on (MacCode): shown.
-/
import Derived.Test.YtdobddiibgfeaaaGreatZa
import Derived.Test.YtdobddiibgfeaaaGreatZv
import Derived.Test.YtdobddiibgfeaaaGreatZu
import Derived.Test.YtdobddiibgfeaaaGreatZf
import Derived.Test.YtdobddiibgfeaaaGreatZg
import Derived.Deep.CutBlock
set_option linter.unusedVariables false
set_option linter.unusedSimpArgs false
namespace Go.Proofs.YtdobddiibgfeaaaGreat
section
open Go.RowKit
set_option maxRecDepth 100000
def insC (x : Ins) : List Value := [.int .i64 x.op, .int .i64 x.d, .int .i64 x.a, .int .i64 x.b, .int .i64 x.n]
theorem zjh (c : Ins) : ∀ u ∈ insC c, u.oneCell' = true := by simp [insC, Value.oneCell']
theorem zji (c : Ins) : (insC c).length = 5 := rfl
def ziR : List Ins := [⟨1, 5, 0, 0, 131072⟩, ⟨1, 6, 0, 0, 65536⟩, ⟨41, 7, 0, 0, 3860⟩, ⟨13, 9, 0, 0, 32⟩, ⟨40, 0, 9, 0, 773⟩]
def allV (d a w r n j : Int) (x : Ins) : List Ins :=
 [⟨
  13, d, a, 0, n⟩, ⟨11, d, 5, 0, w⟩, ⟨12, 0, 5, a, w⟩, ⟨12, 0, 5, d, w⟩, ⟨11, d, 6, 0, r⟩, ⟨12, 0, 6, a, r⟩, ⟨39, 0, 0, 0, 255⟩, ⟨46, d, 5, 0, 0⟩, ⟨47, d, 5, a, 0⟩, ⟨49, d, 5, a, 0⟩, ⟨48, d, 5, a, 0⟩,
  ⟨6, 0, d, a, j⟩, ⟨40, d, a, 0, 768⟩, ⟨40, d, a, 0, 1984⟩, ⟨44, 0, 0, 0, 0⟩, ⟨45, 0, 0, 0, 0⟩, ⟨22, d, d, a, 0⟩, ⟨39, 0, 0, 0, 255⟩, ⟨43, 0, 0, 0, 0⟩, x]
def oneI (r : Int × Int × Int × Int) : Ins :=
 (allV (7 + zax r.2.1 6) (7 + zax r.2.2.1 6) (4 * zax r.2.2.2 5) (4 * zax r.2.2.2 5 + 256 * zax r.2.2.1 3) (zax r.2.2.2 20 - 5) (8 - 4 * zax r.2.2.2 6) (fitX ⟨r.2.2.2, 7 + zax r.2.1 6, 7 + zax r.2.2.1 6, r.2.1, r.2.2.1⟩)).getD (zax r.1 20).toNat zdt
def zdU (raw : List (Int × Int × Int × Int)) : List Ins := ziR ++ (raw.take 30).map oneI
def zkE (raw : List (Int × Int × Int × Int)) : List Ins := zdU raw ++ [⟨3, 0, 0, 0, -4 * (((zdU raw).length : Int) - 5)⟩]
def zcM (l : List Ins) : List Int := (l.filter zaS).map encV
def zgk (raw : List (Int × Int × Int × Int)) : List Int := zcM (zkE raw)
theorem zfR (raw : List (Int × Int × Int × Int)) : (zdU raw).length = 5 + min 30 raw.length := by simp [zdU, ziR]; omega
theorem zjE (l : List Ins) : (zcM l).length ≤ l.length := by unfold zcM; rw [List.length_map]; exact List.length_filter_le _ _
theorem zhl (l : List Ins) : ∀ z ∈ zcM l, 0 ≤ z ∧ z < 4294967296 := by
 intro z hz
 obtain ⟨x, hx, rfl⟩ := List.mem_map.1 hz
 have hr := (List.mem_filter.1 hx).2
 unfold encV
 rw [if_pos hr]
 have : encN x < 4294967296 := zci _
 omega
theorem zjD (l : List Ins) (x : Ins) : zcM (l ++ [x]) = if zaS x = true then zcM l ++ [encV x] else zcM l := by
 unfold zcM
 rw [List.filter_append]
 cases h : zaS x <;> simp [h]
theorem infoIn : (Tryz.prog.info? 72).map (fun i => (i.zero, i.size, i.bytes)) = some (some (.agg #[.int .i64 0, .int .i64 0, .int .i64 0, .int .i64 0, .int .i64 0]), 5, 40) := by kernel_rfl
theorem infoIm : (Tryz.prog.info? 43).map (·.size) = some 3 := by kernel_rfl
theorem zbK (c n r : Int) (w : World) (hc : I64 c) (hn : 0 < n ∧ n ≤ 9223372036854775807) (hr : Hid (zax c n = r)) :
 Calls Tryz.prog 23 #[.int .i64 c, .int .i64 n] w fun e w' => e = .returned (.int .i64 r) ∧ w = w' := zcD c n r w hc hn hr.out
theorem fit_lit (op d a b n : Int) (y : Ins) (w : World) (h : zgR ⟨op, d, a, b, n⟩) (hy : Hid (fitX ⟨op, d, a, b, n⟩ = y)) :
 Calls Tryz.prog 35 #[.agg #[.int .i64 op, .int .i64 d, .int .i64 a, .int .i64 b, .int .i64 n]] w fun e w' => e = .returned (.agg #[.int .i64 y.op, .int .i64 y.d, .int .i64 y.a, .int .i64 y.b, .int .i64 y.n]) ∧ Below w.heap.size w w' := by
 rw [← hy.out]; exact fit_any ⟨op, d, a, b, n⟩ w h
theorem ziK (op d a b n v e : Int) (w : World) (hv : Hid (encV ⟨op, d, a, b, n⟩ = v)) (he : Hid (encE ⟨op, d, a, b, n⟩ = e)) :
 Calls Tryz.prog 25 #[.agg #[.int .i64 op, .int .i64 d, .int .i64 a, .int .i64 b, .int .i64 n]] w fun x w' => x = .returned (.tuple #[.int .i64 v, .int .i64 e]) ∧ Below w.heap.size w w' := by
 rw [← hv.out, ← he.out]; exact zgL ⟨op, d, a, b, n⟩ w
theorem zmX (d a w r n j : Int) (y : Ins) {W : World} {b : Nat} (h : W.heap[b]? = some (.cells (zaT insC (allV d a w r n j y)).toArray 72 (0, 0))) (k : Nat) (x : Ins) (hx : (allV d a w r n j y)[k]? = some x) :
 ∀ (i : Nat) (u : Value), (insC x)[i]? = some u → W.cell? ⟨b, k * 5 + i, none⟩ = some u := by
 intro i u hi
 have hi5 : i < 5 := by have := (List.getElem?_eq_some_iff.1 hi).1; simpa [insC] using this
 exact zad h (by rw [List.getElem?_toArray, zaY (fun y _ => zji y) hx hi5]; exact hi)
set_option maxHeartbeats 16000000 in
theorem code_any (v : Value) (raw : List (Int × Int × Int × Int)) (w : World) (hs : ArgS 4 c4 w v raw) (hok : ∀ r ∈ raw, ok4 r) :
 Calls Tryz.prog 12 #[v] w fun e w' => ∃ v', e = .returned v' ∧ IsImg w' v' (zgk raw) 4 ∧ Below w.heap.size w w' := by
 obtain ⟨sa, sc, rfl, hs1, hs2, hs3⟩ := hs
 obtain ⟨len, hlen⟩ : ∃ n, n = raw.length := ⟨_, rfl⟩
 have HL := zhd hlen
 have HS := zhd hs3; have HOK := zhd hok
 rw [← hlen] at hs1 ⊢
 unfold maxLen at hs2
 obtain ⟨i0, hi, hz0, hz1, hz2⟩ := info_parts infoIn
 clear hs3 hok hlen
 obtain ⟨w1, hw1, hx1, hz1', hb1, _⟩ := zcW w (.cells #[.slice none 0 0, .int .i64 0, .slice none 0 0] 43) (.cells (zaT insC ziR).toArray 72)
 have HX1 := zhd hx1; have HB1 := zhd hb1
 have HO1 : Hid (w1.ownsRow w.heap.size 72 5 (.slice (some ⟨w.heap.size + 1, 0, none⟩) 5 5) 5 (zaT insC ziR)) := zhd (zdj hz1' (by omega) rfl (by decide))
 rw [show (zaT insC ziR).toArray = #[.int .i64 1, .int .i64 5, .int .i64 0, .int .i64 0, .int .i64 131072, .int .i64 1, .int .i64 6, .int .i64 0, .int .i64 0, .int .i64 65536, .int .i64 41, .int .i64 7, .int .i64 0, .int .i64 0, .int .i64 3860, .int .i64 13, .int .i64 9, .int .i64 0, .int .i64 0, .int .i64 32, .int .i64 40, .int .i64 0, .int .i64 9, .int .i64 0, .int .i64 773] from rfl] at hw1
 clear hx1 hz1' hb1
 go_enter Tryz.func12, Tryz.ntmps12
 go_upto_region 2 with (fail)
 rw [← hw1]
 clear hw1
 go_upto_block 0 with fail
 go_cut [3] (fun lv wx => ∃ (la : Option Addr) (lc : Nat), lv = .slice la (zdU raw).length lc ∧ wx.ownsRow w.heap.size 72 5 (.slice la (zdU raw).length lc) (zdU raw).length (zaT insC (zdU raw)) ∧ wx.heap[w.heap.size]? = some (.cells #[.slice none 0 0, .int .i64 0, .slice none 0 0] 43 (0, 0)) ∧ Below w.heap.size w wx)
 case first =>
  go_wp2_with fail
  go_loopw [3, 4] (fun lv j wr => ∃ (k : Nat) (la : Option Addr) (lc : Nat), k ≤ len ∧ k ≤ 30 ∧ j = .int .i64 k ∧ lv = .slice la (5 + k) lc ∧ wr.ownsRow w.heap.size 72 5 (.slice la (5 + k) lc) (5 + k) (zaT insC (ziR ++ (raw.take k).map oneI)) ∧ wr.heap[w.heap.size]? = some (.cells #[.slice none 0 0, .int .i64 0, .slice none 0 0] 43 (0, 0)) ∧ Below w.heap.size w wr) (fun _ j _ => len - (intOf j).toNat)
  case atStart => exact ⟨0, _, _, Nat.zero_le _, by omega, rfl, rfl, HO1.out, HX1.out, HB1.out⟩
  case round =>
   obtain ⟨k, la, lc, hk, hk30, rfl, rfl, ho, hx, hb⟩ := hrel
   have HO := zhd ho; have HX := zhd hx; have HB := zhd hb
   clear ho hx hb HO1 HX1 HB1
   by_cases hlt : k < len ∧ k < 30
   · obtain ⟨hl1, hl2⟩ := hlt
     have hkl : k < raw.length := by rw [← HL.out]; exact hl1
     have hne : ¬ raw = [] := by rintro rfl; simp at hkl
     obtain ⟨sb, so, hsa, hsl, hsc⟩ := HS.out.resolve_left hne
     subst hsa
     have hck : raw[k]? = some raw[k] := List.getElem?_eq_getElem hkl
     have q0 := hsc k raw[k] hck 0 _ rfl; have q1 := hsc k raw[k] hck 1 _ rfl; have q2 := hsc k raw[k] hck 2 _ rfl; have q3 := hsc k raw[k] hck 3 _ rfl
     have okr := HOK.out raw[k] (List.getElem_mem _)
     have HTK := zhd (List.take_succ_eq_append_getElem hkl)
     generalize raw[k] = r at *
     obtain ⟨x, y, z, t⟩ := r
     obtain ⟨ox, oy, oz, ot⟩ := okr
     simp only [Nat.add_zero] at q0 q1 q2 q3
     have p0 : wr.cell? ⟨sb, so + k * 4, none⟩ = some (.int .i64 x) := (HB.out.cell (p := ⟨sb, _, none⟩) hsl).trans q0
     have p1 : wr.cell? ⟨sb, so + k * 4 + 1, none⟩ = some (.int .i64 y) := (HB.out.cell (p := ⟨sb, _, none⟩) hsl).trans q1
     have p2 : wr.cell? ⟨sb, so + k * 4 + 2, none⟩ = some (.int .i64 z) := (HB.out.cell (p := ⟨sb, _, none⟩) hsl).trans q2
     have p3 : wr.cell? ⟨sb, so + k * 4 + 3, none⟩ = some (.int .i64 t) := (HB.out.cell (p := ⟨sb, _, none⟩) hsl).trans q3
     have hsw : sb < wr.heap.size := Nat.lt_of_lt_of_le hsl HB.out.size
     clear q0 q1 q2 q3 hsc hck hne hkl
     have HONE : Hid (oneI (x, y, z, t) = (allV (7 + zax y 6) (7 + zax z 6) (4 * zax t 5) (4 * zax t 5 + 256 * zax z 3) (zax t 20 - 5) (8 - 4 * zax t 6) (fitX ⟨t, 7 + zax y 6, 7 + zax z 6, y, z⟩)).getD (zax x 20).toNat zdt) := zhd rfl
     have bD := za5 y 6 (by omega); have bA := za5 z 6 (by omega); have bW := za5 t 5 (by omega); have bR := za5 z 3 (by omega); have bP := za5 t 20 (by omega); have bJ := za5 t 6 (by omega); have bK := za5 x 20 (by omega)
     obtain ⟨D, hD⟩ : ∃ v, zax y 6 = v := ⟨_, rfl⟩
     obtain ⟨A, hA⟩ : ∃ v, zax z 6 = v := ⟨_, rfl⟩
     obtain ⟨W5, hW5⟩ : ∃ v, zax t 5 = v := ⟨_, rfl⟩
     obtain ⟨A3, hA3⟩ : ∃ v, zax z 3 = v := ⟨_, rfl⟩
     obtain ⟨P20, hP20⟩ : ∃ v, zax t 20 = v := ⟨_, rfl⟩
     obtain ⟨P6, hP6⟩ : ∃ v, zax t 6 = v := ⟨_, rfl⟩
     obtain ⟨KK, hKK⟩ : ∃ v, zax x 20 = v := ⟨_, rfl⟩
     rw [hD] at bD; rw [hA] at bA; rw [hW5] at bW; rw [hA3] at bR; rw [hP20] at bP; rw [hP6] at bJ; rw [hKK] at bK
     obtain ⟨Y, hY⟩ : ∃ v, fitX ⟨t, 7 + D, 7 + A, y, z⟩ = v := ⟨_, rfl⟩
     have HONE2 : Hid (oneI (x, y, z, t) = (allV (7 + D) (7 + A) (4 * W5) (4 * W5 + 256 * A3) (P20 - 5) (8 - 4 * P6) Y).getD KK.toNat zdt) := zhd (by rw [HONE.out, hD, hA, hW5, hA3, hP20, hP6, hKK, hY])
     have HD := zhd hD; have HA := zhd hA; have HW5 := zhd hW5; have HA3 := zhd hA3; have HP20 := zhd hP20; have HP6 := zhd hP6; have HKK := zhd hKK; have HY := zhd hY
     clear HONE hD hA hW5 hA3 hP20 hP6 hKK hY
     have e1 : IntKind.i64.wrap (7 + D) = 7 + D := IntWalk.i64_in _ (by omega)
     have e2 : IntKind.i64.wrap (7 + A) = 7 + A := IntWalk.i64_in _ (by omega)
     have e3 : IntKind.i64.wrap (4 * W5) = 4 * W5 := IntWalk.i64_in _ (by omega)
     have e4 : IntKind.i64.wrap (256 * A3) = 256 * A3 := IntWalk.i64_in _ (by omega)
     have e5 : IntKind.i64.wrap (4 * W5 + 256 * A3) = 4 * W5 + 256 * A3 := IntWalk.i64_in _ (by omega)
     have e6 : IntKind.i64.wrap (P20 - 5) = P20 - 5 := IntWalk.i64_in _ (by omega)
     have e7 : IntKind.i64.wrap (4 * P6) = 4 * P6 := IntWalk.i64_in _ (by omega)
     have e8 : IntKind.i64.wrap (8 - 4 * P6) = 8 - 4 * P6 := IntWalk.i64_in _ (by omega)
     go_upto_region 8 with (go_at_call 23; first | ((with_reducible refine (zbK y 6 D _ oy (by omega) HD).mono ?_); rintro e w' ⟨rfl, rfl⟩) | ((with_reducible refine (zbK z 6 A _ oz (by omega) HA).mono ?_); rintro e w' ⟨rfl, rfl⟩) | ((with_reducible refine (zbK t 5 W5 _ ot (by omega) HW5).mono ?_); rintro e w' ⟨rfl, rfl⟩))
     have s1 := fun v => zal hsw p1 v
     have s2 := fun v => zal hsw p2 v
     have s3 := fun v => zal hsw p3 v
     have hP0 := zhd p0; have hP1 := zhd p1; have hP2 := zhd p2; have hP3 := zhd p3
     have ofit : zgR ⟨t, 7 + D, 7 + A, y, z⟩ := ⟨ot, (show I64 (7 + D) by unfold I64; omega), (show I64 (7 + A) by unfold I64; omega), oy, oz⟩
     have OFIT := zhd ofit
     clear p0 p1 p2 p3 ofit
     have HB0 := zhd (Below.refl wr.heap.size wr)
     refine zaB (by kernel_rfl) (by kernel_rfl) ?_
     repeat (go_big_quiet_step ((go_at_call 23; first | (with_reducible exact zcp (zbK t 5 W5 _ ot (by omega) HW5)) | (with_reducible exact zcp (zbK z 3 A3 _ oz (by omega) HA3)))))
     refine wpQuiet_nil ?_
     rintro w4 ⟨⟨w4x, hb4⟩, rfl⟩
     have HO4 := zhd (zab HO.out hb4); have HX4 := zhd (zaf hb4 HX.out); have HB4 := zhd (zae HB.out hb4)
     have hsw4 := Nat.lt_of_lt_of_le hsw hb4.size
     have P0 := zhd ((hb4.cell (p := ⟨sb, _, none⟩) hsw).trans hP0.out); have P1 := zhd ((hb4.cell (p := ⟨sb, _, none⟩) hsw).trans hP1.out); have P2 := zhd ((hb4.cell (p := ⟨sb, _, none⟩) hsw).trans hP2.out); have P3 := zhd ((hb4.cell (p := ⟨sb, _, none⟩) hsw).trans hP3.out)
     clear s1 s2 s3 hb4 HO HX HB hP0 hP1 hP2 hP3 HB0
     have s1 := fun v => zal hsw4 P1.out v
     have s2 := fun v => zal hsw4 P2.out v
     have s3 := fun v => zal hsw4 P3.out v
     go_upto_region 9 with (fail)
     try simp only [List.append_eq, List.cons_append, List.nil_append]
     refine zau 81 (by kernel_rfl) (by kernel_rfl) ?_
     simp only [List.take_succ_cons, List.take_zero, List.drop_succ_cons, List.drop_zero]
     repeat (go_big_quiet_step (first | ((go_at_call 23; first | (with_reducible exact zcp (zbK t 20 P20 _ ot (by omega) HP20)) | (with_reducible exact zcp (zbK t 6 P6 _ ot (by omega) HP6)))) | ((go_at_call 35; with_reducible exact zcJ (fit_lit t (7 + D) (7 + A) y z Y _ OFIT.out HY)))))
     refine wpQuiet_nil ?_
     rintro w5 ⟨⟨w5x, hb5⟩, rfl⟩
     have HO5 := zhd (zab HO4.out hb5); have HX5 := zhd (zaf hb5 HX4.out); have HB5 := zhd (zae HB4.out hb5)
     have Q0 := zhd ((hb5.cell (p := ⟨sb, _, none⟩) hsw4).trans P0.out)
     have hsw5 := Nat.lt_of_lt_of_le hsw4 hb5.size
     clear s1 s2 s3 hb5 HO4 HX4 HB4 P0 P1 P2 P3 e1 e2 e3 e4 e5 e6 e7 e8
     go_upto_region 10 with (fail)
     change Code.wp _ _ _ _ (w5.alloc (.cells (zaT insC (allV (7 + D) (7 + A) (4 * W5) (4 * W5 + 256 * A3) (P20 - 5) (8 - 4 * P6) Y)).toArray 72))
     obtain ⟨w6, hw6, hx6, hb6, _⟩ := zbY w5 (.cells (zaT insC (allV (7 + D) (7 + A) (4 * W5) (4 * W5 + 256 * A3) (P20 - 5) (8 - 4 * P6) Y)).toArray 72)
     rw [← hw6]; clear hw6
     have HO6 := zhd (zab HO5.out hb6); have HX6 := zhd (zaf hb6 HX5.out); have HB6 := zhd (zae HB5.out hb6)
     have p0 := (hb6.cell (p := ⟨sb, _, none⟩) hsw5).trans Q0.out
     obtain ⟨kn, rfl⟩ : ∃ m : Nat, KK = m := ⟨KK.toNat, by omega⟩
     have hkn : kn < 20 := by omega
     have hsel : (allV (7 + D) (7 + A) (4 * W5) (4 * W5 + 256 * A3) (P20 - 5) (8 - 4 * P6) Y)[kn]? = some (oneI (x, y, z, t)) := by
      rw [HONE2.out, Int.toNat_natCast, List.getD_eq_getElem?_getD, List.getElem?_eq_getElem (by exact hkn)]; rfl
     have hcells := zmX _ _ _ _ _ _ _ hx6 kn _ hsel
     have HXA := zhd hx6
     clear hx6 hsel HONE2 HO5 HX5 HB5 Q0
     generalize w5.heap.size = nb at *
     obtain ⟨X, hX⟩ : ∃ v, v = oneI (x, y, z, t) := ⟨_, rfl⟩
     rw [← hX] at hcells
     have HXE := zhd hX
     clear hX
     obtain ⟨op, d, a, b, nn⟩ := X
     have c0 := hcells 0 _ rfl; have c1 := hcells 1 _ rfl; have c2 := hcells 2 _ rfl; have c3 := hcells 3 _ rfl; have c4 := hcells 4 _ rfl
     simp only [Nat.add_zero] at c0 c1 c2 c3 c4
     clear hcells HXA
     have HO7 := zhd (zab HO6.out (zan w6 (.cells (insC ⟨op, d, a, b, nn⟩).toArray 72)))
     have HC : Hid (∀ j u, (insC ⟨op, d, a, b, nn⟩)[j]? = some u → (w6.alloc (.cells (insC ⟨op, d, a, b, nn⟩).toArray 72)).cell? ((⟨w6.heap.size, 0, none⟩ : Addr).add j) = some u) := zhd (fun j u hj => by
      rw [zaQ, Nat.zero_add]
      exact zad (zat w6 _) (by simpa [insC] using hj))
     have HB7 := zhd (zae HB6.out (zan w6 (.cells (insC ⟨op, d, a, b, nn⟩).toArray 72)))
     have HX7 := zhd (zaf (zan w6 (.cells (insC ⟨op, d, a, b, nn⟩).toArray 72)) HX6.out)
     have hsz : w.heap.size ≤ (w6.alloc (.cells (insC ⟨op, d, a, b, nn⟩).toArray 72)).heap.size := HB7.out.size
     have hmx : 5 + k + 1 ≤ maxLen := by unfold maxLen; omega
     have hby : (5 + k + 1) * 40 ≤ 140737488355328 := by omega
     have hob := zar HO7.out HX7.out (by decide)
     clear HO6 HX6 HB6
     go_wp2_with (first | (go_at_call 23; ((with_reducible refine (zbK x 20 kn _ ox (by omega) HKK).mono ?_); rintro e w' ⟨rfl, rfl⟩)) | (at_builtin; refine wpList_append_own _ rfl _ _ 86 rfl w.heap.size 72 i0 (.agg #[.int .i64 0, .int .i64 0, .int .i64 0, .int .i64 0, .int .i64 0]) 5 40 Tryz.underlying86 hi hz0 hz1 hz2 rfl (by decide) _ _ _ rfl HO7.out ⟨w6.heap.size, 0, none⟩ 1 1 (insC ⟨op, d, a, b, nn⟩) rfl rfl HC.out (zjh _) hmx hby hsz ?_; intro v' w8 hown8 hgrow8 _; obtain ⟨xt, yt, rfl⟩ := zai hown8; have HO8 := zhd hown8; have HG8 := zhd hgrow8; clear hown8 hgrow8))
     go_roundw
     case rel => exact ⟨k + 1, xt, yt, by omega, by omega, by go_num, rfl, by rw [HTK.out, List.map_append, ← List.append_assoc, zbW, Nat.add_assoc 5 k 1 |>.symm]; simpa [zaT, ← HXE.out] using HO8.out, (HG8.out.block w.heap.size (zao HX7.out) (fun e => hob e.symm)).trans HX7.out, HB7.out.grown HG8.out hsz (fun g e => (HO7.out.lt g e).1)⟩
     case measure => simp [intOf]; omega
   · have hst : k = min 30 len := by omega
     have HLI : Hid (zdU raw = ziR ++ (raw.take k).map oneI) := zhd (by
      unfold zdU
      congr 2
      rw [hst, ← List.take_take, show raw.take len = raw from by rw [HL.out, List.take_length]])
     rw [← HLI.out] at HO
     have HLL : Hid ((zdU raw).length = 5 + k) := zhd (by rw [zfR, hst, HL.out])
     rw [← HLL.out] at HO
     clear HLI HOK HS hst
     by_cases h1 : k < len
     · have h2 : k = 30 := by omega
       subst h2
       go_wp2_with fail
       go_meet
       case rel => exact ⟨la, lc, by rw [HLL.out], HO.out, HX.out, HB.out⟩
     · go_wp2_with fail
       go_meet
       case rel => exact ⟨la, lc, by rw [HLL.out], HO.out, HX.out, HB.out⟩
 case rest =>
 as_aux_lemma =>
  obtain ⟨la, lc, rfl, ho, hx, hb⟩ := hcut
  have HO := zhd ho; have HX := zhd hx; have HB := zhd hb
  have HCI : Hid (zkE raw = zdU raw ++ [⟨3, 0, 0, 0, -4 * (((zdU raw).length : Int) - 5)⟩]) := zhd rfl
  have hll : 5 ≤ (zdU raw).length ∧ (zdU raw).length ≤ 35 := by rw [zfR]; omega
  obtain ⟨L, hL⟩ : ∃ v, v = zdU raw := ⟨_, rfl⟩
  obtain ⟨CI, hCI⟩ : ∃ v, v = zkE raw := ⟨_, rfl⟩
  have HCW : Hid (zgk raw = zcM CI) := zhd (by rw [hCI]; rfl)
  rw [← hL] at HO hll
  rw [← hCI, ← hL] at HCI
  rw [← hL]
  obtain ⟨n, hn⟩ : ∃ v, v = L.length := ⟨_, rfl⟩
  have HN := zhd hn
  rw [← hn] at HO HCI hll ⊢
  clear ho hx hb hL hCI hn HO1 HX1 HB1 HS HOK
  have e1 : IntKind.i64.wrap ((n : Int) - 5) = (n : Int) - 5 := IntWalk.i64_in _ (by omega)
  have e2 : IntKind.i64.wrap (-4 * ((n : Int) - 5)) = -4 * ((n : Int) - 5) := IntWalk.i64_in _ (by omega)
  obtain ⟨N4, hN4⟩ : ∃ v, v = -4 * ((n : Int) - 5) := ⟨_, rfl⟩
  rw [← hN4] at e2 HCI
  have HN4 := zhd hN4
  have e2' : IntKind.i64.wrap (-4 * ((n : Int) - 5)) = N4 := by rw [hN4]; exact IntWalk.i64_in _ (by omega)
  clear hN4 e2
  obtain ⟨w5, hw5⟩ : ∃ x, x = wc := ⟨_, rfl⟩
  rw [← hw5] at HO HX HB ⊢
  clear hw5
  have HO6 := zhd (zab HO.out (zan w5 (.cells (insC ⟨3, 0, 0, 0, N4⟩).toArray 72)))
  have HC : Hid (∀ j u, (insC ⟨3, 0, 0, 0, N4⟩)[j]? = some u → (w5.alloc (.cells (insC ⟨3, 0, 0, 0, N4⟩).toArray 72)).cell? ((⟨w5.heap.size, 0, none⟩ : Addr).add j) = some u) := zhd (fun j u hj => by
   rw [zaQ, Nat.zero_add]
   exact zad (zat w5 _) (by simpa [insC] using hj))
  have HB6 := zhd (zae HB.out (zan w5 (.cells (insC ⟨3, 0, 0, 0, N4⟩).toArray 72)))
  have HX6 := zhd (zaf (zan w5 (.cells (insC ⟨3, 0, 0, 0, N4⟩).toArray 72)) HX.out)
  have hsz : w.heap.size ≤ (w5.alloc (.cells (insC ⟨3, 0, 0, 0, N4⟩).toArray 72)).heap.size := HB6.out.size
  have hmx : n + 1 ≤ maxLen := by unfold maxLen; omega
  have hby : (n + 1) * 40 ≤ 140737488355328 := by omega
  have hobx := zar HO6.out HX6.out (by decide)
  go_upto_region 12 with (at_builtin; refine wpList_append_own _ rfl _ _ 86 rfl w.heap.size 72 i0 (.agg #[.int .i64 0, .int .i64 0, .int .i64 0, .int .i64 0, .int .i64 0]) 5 40 Tryz.underlying86 hi hz0 hz1 hz2 rfl (by decide) _ _ _ rfl HO6.out ⟨w5.heap.size, 0, none⟩ 1 1 (insC ⟨3, 0, 0, 0, N4⟩) rfl rfl HC.out (zjh _) hmx hby hsz ?_; intro v' w7 hown7 hgrow7 _; have HO7 := zhd hown7; have HG7 := zhd hgrow7; clear hown7 hgrow7)
  have HX7 := zhd ((HG7.out.block w.heap.size (zao HX6.out) (fun e => hobx e.symm)).trans HX6.out)
  have HB7 : Hid (Below w.heap.size w w7) := zhd (HB6.out.grown HG7.out hsz (fun g e => (HO6.out.lt g e).1))
  obtain ⟨g, gc, cur, hgv, hgx, hgB⟩ := zcb HO7.out (by omega)
  subst hgv
  have HO7' : Hid (w7.ownsRow w.heap.size 72 5 (.slice (some ⟨g, 0, none⟩) (n + 1) gc) (n + 1) (zaT insC CI)) := zhd (by have := HO7.out; rw [HCI.out, zbW]; simpa [zaT] using this)
  have hcl : CI.length = n + 1 := by rw [HCI.out, List.length_append, ← HN.out]; rfl
  have HCL := zhd hcl
  clear hgx hgB hcl HO7 HG7 HX6 HO6 HC HB6 HO HX HB hobx hsz hmx hby e1 e2' HCI HN
  obtain ⟨w8, hw8, hx8, hb8, _⟩ := zbY w7 (.cells #[.slice none 0 0, .int .i64 0, .slice none 0 0] 43)
  have HM8 := zhd hx8; have HO8 := zhd (zab HO7'.out hb8); have HX8 := zhd (zaf hb8 HX7.out); have HB8 := zhd (zae HB7.out hb8)
  have hm7 : w.heap.size < w7.heap.size := zao HX7.out
  clear hx8 hb8 HO7' HX7 HB7
  obtain ⟨i1, hi1, hz10, hz11, hz12⟩ := info_parts zeA
  go_upto_region 13 with (fail)
  rw [← hw8]; clear hw8
  generalize w7.heap.size = bm at *
  go_wp2_with fail
  go_loopw [11] (fun i wr => ∃ (j : Nat) (wa : Option Addr) (wn wc' : Nat), j ≤ n + 1 ∧ wn ≤ j ∧ i = .int .i64 j ∧ (zcM (CI.take j)).length = wn ∧ wr.ownsRow w.heap.size 3 1 (.slice wa wn wc') wn (intC (zcM (CI.take j))) ∧ wr.heap[bm]? = some (.cells #[.slice wa wn wc', .int .i64 0, .slice none 0 0] 43 (0, 0)) ∧ wr.ownsRow w.heap.size 72 5 (.slice (some ⟨g, 0, none⟩) (n + 1) gc) (n + 1) (zaT insC CI) ∧ wr.heap[w.heap.size]? = some (.cells #[.slice none 0 0, .int .i64 0, .slice none 0 0] 43 (0, 0)) ∧ Below w.heap.size w wr) (fun i _ => n + 1 - (intOf i).toNat)
  case atStart => exact ⟨0, none, 0, 0, Nat.zero_le _, Nat.le_refl _, rfl, rfl, World.ownsRow_nil _ _ _ _, HM8.out, HO8.out, HX8.out, HB8.out⟩
  case round =>
   obtain ⟨j, wa, wn, wc', hj, hwn, rfl, hwl, hown, hm, ho, hx, hb⟩ := hrel
   have HOW := zhd hown; have HM := zhd hm; have HO := zhd ho; have HX := zhd hx; have HB := zhd hb; have HWL := zhd hwl
   clear hown hm ho hx hb hwl HM8 HO8 HX8 HB8
   by_cases hlt : j < n + 1
   · have hjl : j < CI.length := by rw [HCL.out]; exact hlt
     have hck : CI[j]? = some CI[j] := List.getElem?_eq_getElem hjl
     have hcell : ∀ i u, i < 5 → (insC CI[j])[i]? = some u → wr.cell? ⟨g, j * 5 + i, none⟩ = some u := fun i u h5 hu =>
      (HO.out.cellAt (j * 5 + i) (by omega)).trans ((zaY (fun y _ => zji y) hck h5).trans hu)
     have HTK := zhd (List.take_succ_eq_append_getElem hjl)
     have HSN := zhd (zjD (CI.take j) CI[j])
     generalize CI[j] = X at *
     obtain ⟨op, d, a, b, nn⟩ := X
     have c0 := hcell 0 _ (by decide) rfl; have c1 := hcell 1 _ (by decide) rfl; have c2 := hcell 2 _ (by decide) rfl; have c3 := hcell 3 _ (by decide) rfl; have c4 := hcell 4 _ (by decide) rfl
     simp only [Nat.add_zero] at c0 c1 c2 c3 c4
     clear hcell hck hjl
     obtain ⟨V, hV⟩ : ∃ v, encV ⟨op, d, a, b, nn⟩ = v := ⟨_, rfl⟩
     obtain ⟨E, hE⟩ : ∃ v, encE ⟨op, d, a, b, nn⟩ = v := ⟨_, rfl⟩
     have HV := zhd hV; have HE := zhd hE
     have HRB : Hid (zaS ⟨op, d, a, b, nn⟩ = (E == 0)) := zhd (by rw [← hE]; cases h : zaS ⟨op, d, a, b, nn⟩ <;> simp [encE, h])
     clear hV hE
     go_upto_region 17 with ((go_at_call 25; (with_reducible refine (ziK op d a b nn V E _ HV HE).mono ?_); rintro e w9 ⟨rfl, hb9⟩))
     have HOW9 := zhd (zab HOW.out hb9); have HM9 := zhd (zaf hb9 HM.out); have HO9 := zhd (zab HO.out hb9); have HX9 := zhd (zaf hb9 HX.out); have HB9 := zhd (zae HB.out hb9)
     clear hb9 c0 c1 c2 c3 c4 HOW HM HO HX HB
     cases hE0 : (E == 0)
     · have HS2 : Hid (zcM (CI.take (j + 1)) = zcM (CI.take j)) := zhd (by rw [HTK.out, HSN.out, HRB.out, hE0]; rfl)
       clear HSN HTK HRB
       go_wp2_with fail
       go_roundw
       case rel => exact ⟨j + 1, wa, wn, wc', by omega, by omega, by go_num, by rw [HS2.out]; exact HWL.out, by rw [HS2.out]; exact HOW9.out, HM9.out, HO9.out, HX9.out, HB9.out⟩
       case measure => simp [intOf]; omega
     · have HS2 : Hid (zcM (CI.take (j + 1)) = zcM (CI.take j) ++ [V]) := zhd (by rw [HTK.out, HSN.out, HRB.out, hE0, if_pos rfl, HV.out])
       clear HSN HTK HRB
       obtain ⟨w10, hw10, hx10, hb10, _⟩ := zbY w9 (.cells #[.int .i64 V] 3)
       have HOW10 := zhd (zab HOW9.out hb10); have HM10 := zhd (zaf hb10 HM9.out); have HO10 := zhd (zab HO9.out hb10); have HX10 := zhd (zaf hb10 HX9.out); have HB10 := zhd (zae HB9.out hb10)
       have HC : Hid (∀ j u, (intC [V])[j]? = some u → w10.cell? ((⟨w9.heap.size, 0, none⟩ : Addr).add j) = some u) := zhd (fun j u hj => by
        rw [zaQ, Nat.zero_add]
        exact zad hx10 (by simpa [intC] using hj))
       have hsz : w.heap.size ≤ w10.heap.size := HB10.out.size
       have hmx : wn + 1 ≤ maxLen := by unfold maxLen; omega
       have hby : (wn + 1) * 8 ≤ 140737488355328 := by omega
       obtain ⟨c0, c1, c2⟩ := zah HM9.out
       have hob := zar HOW10.out HM10.out (by decide); have hoo := zar HOW10.out HX10.out (by decide)
       have hlm := zao HM9.out
       clear hx10 hb10 HOW9 HO9 HX9 HB9
       go_wp2_with (first | (rw [← hw10]; at_builtin; refine wpList_append_own _ rfl _ _ 24 rfl w.heap.size 3 i1 (.int .i64 0) 1 8 Tryz.underlying24 hi1 hz10 hz11 hz12 rfl (by decide) _ _ _ rfl HOW10.out ⟨w9.heap.size, 0, none⟩ 1 1 (intC [V]) rfl rfl HC.out (by simp [intC, Value.oneCell']) hmx hby hsz ?_; intro v' w11 hown11 hgrow11 _; obtain ⟨xt, yt, rfl⟩ := zai hown11; have HOW11 := zhd hown11; have HG11 := zhd hgrow11; have hm11 := (hgrow11.block bm (zao HM10.out) (fun e => hob e.symm)).trans HM10.out; have HM11 := zhd hm11; obtain ⟨d0, d1, d2⟩ := zah hm11; have f0 := zaa hm11 0; clear hown11 hgrow11 hm11))
       go_roundw
       case rel =>
        have K := zby w11 bm 0 (.slice xt (wn + 1) yt)
        have ho11 := zbc HO10.out HG11.out (fun g' e => zaC HOW10.out HO10.out (by decide) e)
        have hx11 := (HG11.out.block w.heap.size (zao HX10.out) (fun e => hoo e.symm)).trans HX10.out
        have hb11 : Below w.heap.size w w11 := HB10.out.grown HG11.out hsz (fun g' e => (HOW10.out.lt g' e).1)
        refine ⟨j + 1, xt, wn + 1, yt, by omega, by omega, by go_num, by rw [HS2.out]; simp [HWL.out], ?_, zaG HM11.out 0 _, zas ho11 K (zar ho11 HM11.out (by decide)), (zaD (by omega)).trans hx11, zaj hb11 (by omega) _⟩
        rw [HS2.out]
        exact zas (by simpa [intC] using HOW11.out) K (zar HOW11.out HM11.out (by decide))
       case measure => simp [intOf]; omega
   · have hjn : j = n + 1 := by omega
     subst hjn
     have HF : Hid (zcM (CI.take (n + 1)) = zgk raw) := zhd (by rw [HCW.out, ← HCL.out, List.take_length])
     have hbne : bm ≠ w.heap.size := by omega
     have hbw : w.heap.size ≤ bm := by omega
     obtain ⟨w9, hw9⟩ : ∃ x, x = wr.setCell ⟨bm, 1, none⟩ (.int .i64 4) := ⟨_, rfl⟩
     have HM9 : Hid (w9.heap[bm]? = some (.cells #[.slice wa wn wc', .int .i64 4, .slice none 0 0] 43 (0, 0))) := zhd (by rw [hw9]; exact zaG HM.out 1 _)
     have HX9 : Hid (w9.heap[w.heap.size]? = some (.cells #[.slice none 0 0, .int .i64 0, .slice none 0 0] 43 (0, 0))) := zhd (by rw [hw9]; exact (zaD (Ne.symm hbne)).trans HX.out)
     have HOW9 : Hid (w9.ownsRow w.heap.size 3 1 (.slice wa wn wc') wn (intC (zgk raw))) := zhd (by rw [hw9, ← HF.out]; exact zas HOW.out (zby wr bm 1 _) (zar HOW.out HM.out (by decide)))
     have HB9 : Hid (Below w.heap.size w w9) := zhd (by rw [hw9]; exact zaj HB.out hbw _)
     obtain ⟨c0, c1, c2⟩ := zah HM.out
     have f1 := zaa HM.out 1
     go_upto_region 20 with (fail)
     rw [← hw9]; clear hw9 c0 c1 c2 f1
     have HOWA : Hid ((w9.setRow w.heap.size #[.slice wa wn wc', .int .i64 4, .slice none 0 0]).ownsRow w.heap.size 3 1 (.slice wa wn wc') wn (intC (zgk raw))) := zhd (zas HOW9.out (zf8 w9 w.heap.size _) (zar HOW9.out HX9.out (by decide)))
     have HZ9 : Hid ((w9.setRow w.heap.size #[.slice wa wn wc', .int .i64 4, .slice none 0 0]).heap[w.heap.size]? = some (.cells #[.slice wa wn wc', .int .i64 4, .slice none 0 0] 43 (0, 0))) := zhd (setRow_heap _ _ _ _ _ _ HX9.out)
     obtain ⟨r0, r1, r2⟩ := zah HZ9.out
     have R0 := zhd r0; have R1 := zhd r1; have R2 := zhd r2
     clear r0 r1 r2 HZ9
     go_wp2_with (first | (refine wpList_load_row rfl 43 _ rfl bm rfl 43 #[.slice wa wn wc', .int .i64 4, .slice none 0 0] (0, 0) _ HM9.out Tryz.underlying43 rfl infoIm ?_) | (refine wpList_store_row rfl 43 _ _ rfl w.heap.size #[.slice wa wn wc', .int .i64 4, .slice none 0 0] rfl rfl 43 #[.slice none 0 0, .int .i64 0, .slice none 0 0] HX9.out infoIm rfl (by simp [Value.oneCell']) ?_))
     exact bodyPost_ret (v := .agg #[.slice wa wn wc', .int .i64 4, .slice none 0 0]) (by simp [results, Tryz.results12, go_sem, R0.out, R1.out, R2.out]) rfl ⟨_, rfl, ⟨⟨wa, wc', by rw [← HF.out, HWL.out]; rfl, by rw [← HF.out, HWL.out]; have := Reads.own HOWA.out (by simp [intC, Value.oneCell']); rwa [← HF.out] at this⟩, zhl _, by rw [← HF.out, HWL.out]; omega, by decide⟩, below_setRow HB9.out (Nat.le_refl _) _⟩
end
end Go.Proofs.YtdobddiibgfeaaaGreat
