/-
  The contract of chapter 15's counted: an image whose code adds to one word.
-/
import Derived.Test.YtdobddiibgfeaaaGreatZa
import Derived.Test.YtdobddiibgfeaaaGreatZx
import Derived.Test.YtdobddiibgfeaaaGreatMacSumsP
set_option linter.unusedVariables false
set_option linter.unusedSimpArgs false
namespace Go.Proofs.YtdobddiibgfeaaaGreat
open Go.RowKit
set_option maxRecDepth 100000
set_option maxHeartbeats 16000000 in
theorem counted_any (t x : Int) (w : World) :
 Calls Tryz.prog 24 #[.int .i64 t, .int .i64 x] w fun e w' => ∃ v', e = .returned v' ∧ IsImg w' v' (zcM (sumI t x)) 1 ∧ Below w.heap.size w w' := by
 obtain ⟨w1, hw1, hx1, hz1', hb1, _⟩ := zcW w (.cells #[.slice none 0 0, .int .i64 0, .slice none 0 0] 43) (.cells (zaT insC (sumI t x)).toArray 72)
 have HO1 : Hid (w1.ownsRow w.heap.size 72 5 (.slice (some ⟨w.heap.size + 1, 0, none⟩) 7 7) 7 (zaT insC (sumI t x))) := zhd (zdj hz1' (by omega) rfl (by decide))
 rw [show (zaT insC (sumI t x)).toArray = #[.int .i64 1, .int .i64 5, .int .i64 0, .int .i64 0, .int .i64 131072, .int .i64 13, .int .i64 6, .int .i64 0, .int .i64 0, .int .i64 x, .int .i64 13, .int .i64 7, .int .i64 0, .int .i64 0, .int .i64 t, .int .i64 49, .int .i64 8, .int .i64 5, .int .i64 6, .int .i64 0, .int .i64 13, .int .i64 7, .int .i64 7, .int .i64 0, .int .i64 (-1), .int .i64 6, .int .i64 0, .int .i64 7, .int .i64 0, .int .i64 (-8), .int .i64 43, .int .i64 0, .int .i64 0, .int .i64 0, .int .i64 0] from rfl] at hw1
 have hm7 : w.heap.size < w1.heap.size := zao hx1
 have HCL : Hid ((sumI t x).length = 7) := zhd rfl
 obtain ⟨w8, hw8, hx8, hb8, _⟩ := zbY w1 (.cells #[.slice none 0 0, .int .i64 0, .slice none 0 0] 43)
 have HM8 := zhd hx8; have HO8 := zhd (zab HO1.out hb8); have HX8 := zhd (zaf hb8 hx1); have HB8 := zhd (zae hb1 hb8)
 clear hx8 hb8 HO1 hx1 hb1 hz1'
 obtain ⟨i1, hi1, hz10, hz11, hz12⟩ := info_parts zeA
 go_enter Tryz.func24, Tryz.ntmps24
 go_upto_region 2 with (fail)
 rw [← hw1]
 clear hw1
 go_upto_region 3 with (fail)
 rw [← hw8]; clear hw8
 generalize w1.heap.size = bm at *
 go_wp2_with fail
 go_loopw [7] (fun i wr => ∃ (j : Nat) (wa : Option Addr) (wn wc' : Nat), j ≤ 7 ∧ wn ≤ j ∧ i = .int .i64 j ∧ (zcM ((sumI t x).take j)).length = wn ∧ wr.ownsRow w.heap.size 3 1 (.slice wa wn wc') wn (intC (zcM ((sumI t x).take j))) ∧ wr.heap[bm]? = some (.cells #[.slice wa wn wc', .int .i64 0, .slice none 0 0] 43 (0, 0)) ∧ wr.ownsRow w.heap.size 72 5 (.slice (some ⟨w.heap.size + 1, 0, none⟩) 7 7) 7 (zaT insC (sumI t x)) ∧ wr.heap[w.heap.size]? = some (.cells #[.slice none 0 0, .int .i64 0, .slice none 0 0] 43 (0, 0)) ∧ Below w.heap.size w wr) (fun i _ => 7 - (intOf i).toNat)
 case atStart => exact ⟨0, none, 0, 0, Nat.zero_le _, Nat.le_refl _, rfl, rfl, World.ownsRow_nil _ _ _ _, HM8.out, HO8.out, HX8.out, HB8.out⟩
 case round =>
  obtain ⟨j, wa, wn, wc', hj, hwn, rfl, hwl, hown, hm, ho, hx, hb⟩ := hrel
  have HOW := zhd hown; have HM := zhd hm; have HO := zhd ho; have HX := zhd hx; have HB := zhd hb; have HWL := zhd hwl
  clear hown hm ho hx hb hwl HM8 HO8 HX8 HB8
  by_cases hlt : j < 7
  · have hjl : j < (sumI t x).length := by rw [HCL.out]; exact hlt
    have hck : (sumI t x)[j]? = some (sumI t x)[j] := List.getElem?_eq_getElem hjl
    have hcell : ∀ i u, i < 5 → (insC (sumI t x)[j])[i]? = some u → wr.cell? ⟨w.heap.size + 1, j * 5 + i, none⟩ = some u := fun i u h5 hu =>
     (HO.out.cellAt (j * 5 + i) (by omega)).trans ((zaY (fun y _ => zji y) hck h5).trans hu)
    have HTK := zhd (List.take_succ_eq_append_getElem hjl)
    have HSN := zhd (zjD ((sumI t x).take j) (sumI t x)[j])
    generalize (sumI t x)[j] = X at *
    obtain ⟨op, d, a, b, nn⟩ := X
    have c0 := hcell 0 _ (by decide) rfl; have c1 := hcell 1 _ (by decide) rfl; have c2 := hcell 2 _ (by decide) rfl; have c3 := hcell 3 _ (by decide) rfl; have c4 := hcell 4 _ (by decide) rfl
    simp only [Nat.add_zero] at c0 c1 c2 c3 c4
    clear hcell hck hjl
    obtain ⟨V, hV⟩ : ∃ v, encV ⟨op, d, a, b, nn⟩ = v := ⟨_, rfl⟩
    obtain ⟨E, hE⟩ : ∃ v, encE ⟨op, d, a, b, nn⟩ = v := ⟨_, rfl⟩
    have HV := zhd hV; have HE := zhd hE
    have HRB : Hid (zaS ⟨op, d, a, b, nn⟩ = (E == 0)) := zhd (by rw [← hE]; cases h : zaS ⟨op, d, a, b, nn⟩ <;> simp [encE, h])
    clear hV hE
    go_upto_region 7 with ((go_at_call 25; (with_reducible refine (ziK op d a b nn V E _ HV HE).mono ?_); rintro e w9 ⟨rfl, hb9⟩))
    have HOW9 := zhd (zab HOW.out hb9); have HM9 := zhd (zaf hb9 HM.out); have HO9 := zhd (zab HO.out hb9); have HX9 := zhd (zaf hb9 HX.out); have HB9 := zhd (zae HB.out hb9)
    clear hb9 c0 c1 c2 c3 c4 HOW HM HO HX HB
    cases hE0 : (E == 0)
    · have HS2 : Hid (zcM ((sumI t x).take (j + 1)) = zcM ((sumI t x).take j)) := zhd (by rw [HTK.out, HSN.out, HRB.out, hE0]; rfl)
      clear HSN HTK HRB
      go_wp2_with fail
      go_roundw
      case rel => exact ⟨j + 1, wa, wn, wc', by omega, by omega, by go_num, by rw [HS2.out]; exact HWL.out, by rw [HS2.out]; exact HOW9.out, HM9.out, HO9.out, HX9.out, HB9.out⟩
      case measure => simp [intOf]; omega
    · have HS2 : Hid (zcM ((sumI t x).take (j + 1)) = zcM ((sumI t x).take j) ++ [V]) := zhd (by rw [HTK.out, HSN.out, HRB.out, hE0, if_pos rfl, HV.out])
      clear HSN HTK HRB
      obtain ⟨w10, hw10, hx10, hb10, _⟩ := zbY w9 (.cells #[.int .i64 V] 3)
      have HOW10 := zhd (zab HOW9.out hb10); have HM10 := zhd (zaf hb10 HM9.out); have HO10 := zhd (zab HO9.out hb10); have HX10 := zhd (zaf hb10 HX9.out); have HB10 := zhd (zae HB9.out hb10)
      have HC : Hid (∀ j u, (intC [V])[j]? = some u → w10.cell? ((⟨w9.heap.size, 0, none⟩ : Addr).add j) = some u) := zhd (fun j u hj => by
       rw [zaQ, Nat.zero_add]
       exact zad hx10 (by simpa [intC] using hj))
      have hsz : w.heap.size ≤ w10.heap.size := HB10.out.size
      have hmx : wn + 1 ≤ maxLen := by unfold maxLen; omega
      have hby : (wn + 1) * 8 ≤ 140737488355328 := by omega
      obtain ⟨c0, c1, c2⟩ := zah HM9.out
      have hob := zar HOW10.out HM10.out (by decide); have hoo := zar HOW10.out HX10.out (by decide)
      have hlm := zao HM9.out
      clear hx10 hb10 HOW9 HO9 HX9 HB9
      go_wp2_with (first | (rw [← hw10]; at_builtin; refine wpList_append_own _ rfl _ _ 24 rfl w.heap.size 3 i1 (.int .i64 0) 1 8 Tryz.underlying24 hi1 hz10 hz11 hz12 rfl (by decide) _ _ _ rfl HOW10.out ⟨w9.heap.size, 0, none⟩ 1 1 (intC [V]) rfl rfl HC.out (by simp [intC, Value.oneCell']) hmx hby hsz ?_; intro v' w11 hown11 hgrow11 _; obtain ⟨xt, yt, rfl⟩ := zai hown11; have HOW11 := zhd hown11; have HG11 := zhd hgrow11; have hm11 := (hgrow11.block bm (zao HM10.out) (fun e => hob e.symm)).trans HM10.out; have HM11 := zhd hm11; obtain ⟨d0, d1, d2⟩ := zah hm11; have f0 := zaa hm11 0; clear hown11 hgrow11 hm11))
      go_roundw
      case rel =>
       have K := zby w11 bm 0 (.slice xt (wn + 1) yt)
       have ho11 := zbc HO10.out HG11.out (fun g' e => zaC HOW10.out HO10.out (by decide) e)
       have hx11 := (HG11.out.block w.heap.size (zao HX10.out) (fun e => hoo e.symm)).trans HX10.out
       have hb11 : Below w.heap.size w w11 := HB10.out.grown HG11.out hsz (fun g' e => (HOW10.out.lt g' e).1)
       refine ⟨j + 1, xt, wn + 1, yt, by omega, by omega, by go_num, by rw [HS2.out]; simp [HWL.out], ?_, zaG HM11.out 0 _, zas ho11 K (zar ho11 HM11.out (by decide)), (zaD (by omega)).trans hx11, zaj hb11 (by omega) _⟩
       rw [HS2.out]
       exact zas (by simpa [intC] using HOW11.out) K (zar HOW11.out HM11.out (by decide))
      case measure => simp [intOf]; omega
  · have hjn : j = 7 := by omega
    subst hjn
    have HF : Hid (zcM ((sumI t x).take 7) = zcM (sumI t x)) := zhd (by rw [← HCL.out, List.take_length])
    have hbne : bm ≠ w.heap.size := by omega
    have hbw : w.heap.size ≤ bm := by omega
    obtain ⟨w9, hw9⟩ : ∃ x, x = wr.setCell ⟨bm, 1, none⟩ (.int .i64 1) := ⟨_, rfl⟩
    have HM9 : Hid (w9.heap[bm]? = some (.cells #[.slice wa wn wc', .int .i64 1, .slice none 0 0] 43 (0, 0))) := zhd (by rw [hw9]; exact zaG HM.out 1 _)
    have HX9 : Hid (w9.heap[w.heap.size]? = some (.cells #[.slice none 0 0, .int .i64 0, .slice none 0 0] 43 (0, 0))) := zhd (by rw [hw9]; exact (zaD (Ne.symm hbne)).trans HX.out)
    have HOW9 : Hid (w9.ownsRow w.heap.size 3 1 (.slice wa wn wc') wn (intC (zcM (sumI t x)))) := zhd (by rw [hw9, ← HF.out]; exact zas HOW.out (zby wr bm 1 _) (zar HOW.out HM.out (by decide)))
    have HB9 : Hid (Below w.heap.size w w9) := zhd (by rw [hw9]; exact zaj HB.out hbw _)
    obtain ⟨c0, c1, c2⟩ := zah HM.out
    have f1 := zaa HM.out 1
    go_upto_region 10 with (fail)
    rw [← hw9]; clear hw9 c0 c1 c2 f1
    have HOWA : Hid ((w9.setRow w.heap.size #[.slice wa wn wc', .int .i64 1, .slice none 0 0]).ownsRow w.heap.size 3 1 (.slice wa wn wc') wn (intC (zcM (sumI t x)))) := zhd (zas HOW9.out (zf8 w9 w.heap.size _) (zar HOW9.out HX9.out (by decide)))
    have HZ9 : Hid ((w9.setRow w.heap.size #[.slice wa wn wc', .int .i64 1, .slice none 0 0]).heap[w.heap.size]? = some (.cells #[.slice wa wn wc', .int .i64 1, .slice none 0 0] 43 (0, 0))) := zhd (setRow_heap _ _ _ _ _ _ HX9.out)
    obtain ⟨r0, r1, r2⟩ := zah HZ9.out
    have R0 := zhd r0; have R1 := zhd r1; have R2 := zhd r2
    clear r0 r1 r2 HZ9
    go_wp2_with (first | (refine wpList_load_row rfl 43 _ rfl bm rfl 43 #[.slice wa wn wc', .int .i64 1, .slice none 0 0] (0, 0) _ HM9.out Tryz.underlying43 rfl infoIm ?_) | (refine wpList_store_row rfl 43 _ _ rfl w.heap.size #[.slice wa wn wc', .int .i64 1, .slice none 0 0] rfl rfl 43 #[.slice none 0 0, .int .i64 0, .slice none 0 0] HX9.out infoIm rfl (by simp [Value.oneCell']) ?_))
    exact bodyPost_ret (v := .agg #[.slice wa wn wc', .int .i64 1, .slice none 0 0]) (by simp [results, Tryz.results24, go_sem, R0.out, R1.out, R2.out]) rfl ⟨_, rfl, ⟨⟨wa, wc', by rw [← HF.out, HWL.out]; rfl, by rw [← HF.out, HWL.out]; have := Reads.own HOWA.out (by simp [intC, Value.oneCell']); rwa [← HF.out] at this⟩, zhl _, by rw [← HF.out, HWL.out]; omega, by decide⟩, below_setRow HB9.out (Nat.le_refl _) _⟩
end Go.Proofs.YtdobddiibgfeaaaGreat
