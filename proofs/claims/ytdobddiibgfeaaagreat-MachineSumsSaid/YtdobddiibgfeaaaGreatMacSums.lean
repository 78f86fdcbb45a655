/-
  MachineSums: whatever harts add to one word, each at once: the word is the sum.
-/
import Derived.Test.YtdobddiibgfeaaaGreatZa
import Derived.Test.YtdobddiibgfeaaaGreatYy
import Derived.Test.YtdobddiibgfeaaaGreatMacCounted
import Derived.Test.YtdobddiibgfeaaaGreatMacSumsP
set_option linter.unusedVariables false
set_option linter.unusedSimpArgs false
namespace Go.Proofs.YtdobddiibgfeaaaGreat
open Go.RowKit
set_option maxRecDepth 100000
theorem mv_end {w : World} {b n c : Nat} {cs : Array Value} {M : Mac} {a : Option Addr} (h : MVar w b cs M) (hc : cs[2]? = some (.slice a n c)) {i : Nat} (hi : i < M.ends.length) : ∃ g cur, a = some ⟨g, 0, none⟩ ∧ w.heap[g]? = some (.cells cur 3 (0, 0)) ∧ w.cell? ⟨g, i, none⟩ = some (.int .i64 M.ends[i]) := by
 obtain ⟨wv, hv, ev, m1, m2, m3, dv, lv, tv, qs, e, hp⟩ := h.mac
 obtain ⟨g, c', cur, e1, hg, _, hrg, _⟩ := zbM hp.ends hi
 injection e with e
 subst e
 simp only [List.getElem?_toArray, List.getElem?_cons_succ, List.getElem?_cons_zero, Option.some.injEq] at hc
 rw [hc] at e1
 injection e1 with e1 _ _
 exact ⟨g, cur, e1, hg, hrg⟩
theorem mv_open {w : World} {b : Nat} {cs : Array Value} {M : Mac} (h : MVar w b cs M) (hw : 0 < M.mem.words.length) : ∃ ea ec g qc cur, cs[2]? = some (.slice ea M.ends.length ec) ∧ cs[3]? = some (.slice (some ⟨g, 0, none⟩) M.mem.words.length qc) ∧ w.heap[g]? = some (.cells cur 3 (0, 0)) ∧ w.cell? ⟨g, 0, none⟩ = some (.int .i64 M.mem.words[0]) := by
 obtain ⟨wv, hv, ev, m1, m2, m3, dv, lv, tv, qs, e, hp⟩ := h.mac
 obtain ⟨ea, ec, rfl⟩ := zai hp.ends
 obtain ⟨b1, b2, b3, rows, em, k1, _⟩ := hp.mem
 injection em with em
 have f1 : m1 = b1 := by have := congrArg (·[0]?) em; simpa using this
 subst f1
 obtain ⟨g, c', cur, e1, hg, _, hrg, _⟩ := zbM k1 hw
 injection e with e
 subst e e1
 exact ⟨ea, ec, g, c', cur, rfl, rfl, hg, hrg⟩
theorem words_all {l : List Ins} (h : ∀ i ∈ l, zaS i = true) : zcM l = l.map encV := by
 unfold zcM; rw [List.filter_eq_self.2 h]
theorem reads_nil {w : World} {k : Nat} : Reads w k 0 (.slice none 0 0) [] := Reads.own (World.ownsRow_nil w 0 0 k) (by simp)
def swOK (f0 f1 f2 f3 f4 f5 f6 f7 : Bool) : Bool := (!f2 || f1) && ((!f3 || (f0 && f2)) && ((!f4 || f3) && ((!f5 || f4) && ((!f6 || f4) && (!f7 || f5)))))
def boolsL : Nat → List (List Bool)
 | 0 => [[]]
 | n + 1 => (boolsL n).flatMap fun l => [false :: l, true :: l]
def swB : List Bool → Bool
 | [f0, f1, f2, f3, f4, f5, f6, f7] => swOK f0 f1 f2 f3 f4 f5 f6 f7
 | _ => false
def swL : List (List Bool) := (boolsL 8).filter swB
def swCo (fl : List Bool) (i : Nat) : Bool :=
 match i with
 | 2 => fl.getD 1 false
 | 3 => fl.getD 0 false && fl.getD 2 false
 | 4 => fl.getD 3 false
 | 5 => fl.getD 4 false
 | 6 => fl.getD 4 false
 | 7 => fl.getD 5 false
 | _ => true
theorem sw_mem {fl : List Bool} (h : fl ∈ swL) : ∃ f0 f1 f2 f3 f4 f5 f6 f7, fl = [f0, f1, f2, f3, f4, f5, f6, f7] ∧ swOK f0 f1 f2 f3 f4 f5 f6 f7 = true := by
 have h2 := (List.mem_filter.1 h).2
 unfold swB at h2
 split at h2
 · exact ⟨_, _, _, _, _, _, _, _, rfl, h2⟩
 · cases h2
structure SwDep (f0 f1 f2 f3 f4 f5 f6 f7 : Bool) : Prop where
 d0 : f0 = false → f7 = false
 d2 : f2 = false → f7 = false
 d3 : f3 = false → f7 = false ∧ f4 = false ∧ f5 = false ∧ f6 = false
 d7 : f5 = true → f3 = true
theorem sw_dep {f0 f1 f2 f3 f4 f5 f6 f7 : Bool} (h : swOK f0 f1 f2 f3 f4 f5 f6 f7 = true) : SwDep f0 f1 f2 f3 f4 f5 f6 f7 := by
 unfold swOK at h
 revert h
 cases f0 <;> cases f2 <;> cases f3 <;> cases f4 <;> cases f5 <;> cases f7 <;> simp <;> (try intros) <;> (constructor <;> simp_all)
structure RunI (w w5 : World) (bm : Nat) (c4 : Array Value) (R : Mac) (rn : Int) (va : Option Addr) (vc l : Nat) (sl : List Cho) (fl : List Bool) (cs : Array Value) (u38 u39 u40 u41 u37 u42 : Value) (w' : World) : Prop where
 bel : fl.getD 7 false = false → Below w5.heap.size w5 w'
 belw : Below w.heap.size w w'
 f0 : fl.getD 0 false = true → u38 = .agg c4
 f1 : fl.getD 1 false = true → u39 = .slice va l vc
 f2 : fl.getD 2 false = true → fl.getD 3 false = false → ∃ sa sc, u40 = .slice sa sl.length sc ∧ ArgS 4 choC w' (.slice sa sl.length sc) sl
 f3 : fl.getD 3 false = true → u41 = .tuple #[.agg cs, .int .i64 rn] ∧ Nine cs ∧ (fl.getD 7 false = false → IsMac w' (.agg cs) R)
 f4 : fl.getD 4 false = true → u37 = .tuple #[.agg cs, .int .i64 rn]
 f5 : fl.getD 5 false = true → u42 = .agg cs
 f7 : fl.getD 7 false = true → MVar w' bm cs R
section
variable {w w5 w' w1 : World} {bm : Nat} {c4 : Array Value} {R M0 : Mac} {rn : Int} {va : Option Addr} {vc l : Nat} {sl : List Cho} {fl : List Bool} {cs : Array Value} {u38 u39 u40 u41 u37 u42 : Value} {f0 f1 f2 f3 f4 f5 f6 f7 : Bool}
theorem RunI.start (hv : MVar w5 bm c4 M0) (hb : Below w.heap.size w w5) : RunI w w5 bm c4 R rn va vc l sl [false, false, false, false, false, false, false, false] nil9 u38 u39 u40 u41 u37 u42 w5.drew :=
 ⟨fun _ => zak (Below.refl _ _), zae hb (zak (Below.refl _ _)), fun h => absurd h (by decide), fun h => absurd h (by decide), fun h => absurd h (by decide), fun h => absurd h (by decide), fun h => absurd h (by decide), fun h => absurd h (by decide), fun h => absurd h (by decide)⟩
theorem RunI.up (h : RunI w w5 bm c4 R rn va vc l sl fl cs u38 u39 u40 u41 u37 u42 w') (hu : Up w' w1) : RunI w w5 bm c4 R rn va vc l sl fl cs u38 u39 u40 u41 u37 u42 w1 :=
 ⟨fun x => zae (h.bel x) hu, zae h.belw hu, h.f0, h.f1, fun x y => by obtain ⟨sa, sc, e, hs⟩ := h.f2 x y; exact ⟨sa, sc, e, hs.below hu⟩, fun x => ⟨(h.f3 x).1, (h.f3 x).2.1, fun y => ((h.f3 x).2.2 y).below hu⟩, h.f4, h.f5, fun x => (h.f7 x).below hu⟩
theorem RunI.nine (h : RunI w w5 bm c4 R rn va vc l sl [f0, f1, f2, f3, f4, f5, f6, f7] cs u38 u39 u40 u41 u37 u42 w') (x : f3 = true) : Nine cs := (h.f3 x).2.1
theorem RunI.put0 (h : RunI w w5 bm c4 R rn va vc l sl [false, f1, f2, f3, f4, f5, f6, f7] cs u38 u39 u40 u41 u37 u42 w') : RunI w w5 bm c4 R rn va vc l sl [true, f1, f2, f3, f4, f5, f6, f7] cs (.agg c4) u39 u40 u41 u37 u42 w' := ⟨h.bel, h.belw, fun _ => rfl, h.f1, h.f2, h.f3, h.f4, h.f5, h.f7⟩
theorem RunI.put1 (h : RunI w w5 bm c4 R rn va vc l sl [f0, false, f2, f3, f4, f5, f6, f7] cs u38 u39 u40 u41 u37 u42 w') : RunI w w5 bm c4 R rn va vc l sl [f0, true, f2, f3, f4, f5, f6, f7] cs u38 (.slice va l vc) u40 u41 u37 u42 w' := ⟨h.bel, h.belw, h.f0, fun _ => rfl, h.f2, h.f3, h.f4, h.f5, h.f7⟩
theorem RunI.put2 (h : RunI w w5 bm c4 R rn va vc l sl [f0, f1, false, f3, f4, f5, f6, f7] cs u38 u39 u40 u41 u37 u42 w') {sa : Option Addr} {sc : Nat} (hs : ArgS 4 choC w' (.slice sa sl.length sc) sl) : RunI w w5 bm c4 R rn va vc l sl [f0, f1, true, f3, f4, f5, f6, f7] cs u38 u39 (.slice sa sl.length sc) u41 u37 u42 w' := ⟨h.bel, h.belw, h.f0, h.f1, fun _ _ => ⟨_, _, rfl, hs⟩, h.f3, h.f4, h.f5, h.f7⟩
theorem RunI.put3 (h : RunI w w5 bm c4 R rn va vc l sl [f0, f1, f2, false, f4, f5, f6, f7] cs u38 u39 u40 u41 u37 u42 w') (hd : f7 = false ∧ f4 = false ∧ f5 = false ∧ f6 = false) {c8 : Array Value} (n8 : Nine c8) (m8 : IsMac w' (.agg c8) R) : RunI w w5 bm c4 R rn va vc l sl [f0, f1, f2, true, f4, f5, f6, f7] c8 u38 u39 u40 (.tuple #[.agg c8, .int .i64 rn]) u37 u42 w' := by
 obtain ⟨rfl, rfl, rfl, rfl⟩ := hd
 exact ⟨h.bel, h.belw, h.f0, h.f1, fun _ y => absurd y (by simp), fun _ => ⟨rfl, n8, fun _ => m8⟩, fun x => absurd x (by simp), fun x => absurd x (by simp), fun x => absurd x (by simp)⟩
theorem RunI.put4 (h : RunI w w5 bm c4 R rn va vc l sl [f0, f1, f2, f3, false, f5, f6, f7] cs u38 u39 u40 u41 u37 u42 w') : RunI w w5 bm c4 R rn va vc l sl [f0, f1, f2, f3, true, f5, f6, f7] cs u38 u39 u40 u41 (.tuple #[.agg cs, .int .i64 rn]) u42 w' := ⟨h.bel, h.belw, h.f0, h.f1, h.f2, h.f3, fun _ => rfl, h.f5, h.f7⟩
theorem RunI.put5 (h : RunI w w5 bm c4 R rn va vc l sl [f0, f1, f2, f3, f4, false, f6, f7] cs u38 u39 u40 u41 u37 u42 w') : RunI w w5 bm c4 R rn va vc l sl [f0, f1, f2, f3, f4, true, f6, f7] cs u38 u39 u40 u41 u37 (.agg cs) w' := ⟨h.bel, h.belw, h.f0, h.f1, h.f2, h.f3, h.f4, fun _ => rfl, h.f7⟩
theorem RunI.put6 (h : RunI w w5 bm c4 R rn va vc l sl [f0, f1, f2, f3, f4, f5, false, f7] cs u38 u39 u40 u41 u37 u42 w') : RunI w w5 bm c4 R rn va vc l sl [f0, f1, f2, f3, f4, f5, true, f7] cs u38 u39 u40 u41 u37 u42 w' := ⟨h.bel, h.belw, h.f0, h.f1, h.f2, h.f3, h.f4, h.f5, h.f7⟩
theorem RunI.put7 (h : RunI w w5 bm c4 R rn va vc l sl [f0, f1, f2, f3, f4, f5, f6, false] cs u38 u39 u40 u41 u37 u42 w') (h3 : f3 = true) (hbm : w.heap.size ≤ bm) (hv : MVar w' bm c4 M0) : RunI w w5 bm c4 R rn va vc l sl [f0, f1, f2, f3, f4, f5, f6, true] cs u38 u39 u40 u41 u37 u42 (w'.setRow bm cs) := by
 subst h3
 exact ⟨fun x => absurd x (by simp), below_setRow h.belw hbm _, h.f0, h.f1, fun _ y => absurd y (by simp), fun x => ⟨(h.f3 x).1, (h.f3 x).2.1, fun y => absurd y (by simp)⟩, h.f4, h.f5, fun _ => zfr hv.at_ hv.nine (h.f3 rfl).2.1 ((h.f3 rfl).2.2 rfl)⟩
theorem RunI.done (h : RunI w w5 bm c4 R rn va vc l sl fl cs u38 u39 u40 u41 u37 u42 w') (ha : fl.all id = true) (hm : fl ∈ swL) : MVar w' bm cs R ∧ Below w.heap.size w w' := by
 obtain ⟨f0, f1, f2, f3, f4, f5, f6, f7, rfl, _⟩ := sw_mem hm
 simp only [List.all_cons, List.all_nil, id_eq, Bool.and_true, Bool.and_eq_true] at ha
 exact ⟨h.f7 ha.2.2.2.2.2.2.2, h.belw⟩
end
set_option maxHeartbeats 16000000 in
theorem walkSums (a1 b1 c1 : Int) (v3 : Value) (l3 : List (Int × Int × Int)) (w : World) (i1 : I64 a1) (i2 : I64 b1) (i3 : I64 c1) (g3 : ArgS 3 c3 w v3 l3) (u3 : ∀ r ∈ l3, ok3 r) :
 Calls Tryz.prog 8 #[.int .i64 a1, .int .i64 b1, .int .i64 c1, v3] w fun e w' => e = .returned (.bool true) ∧ Below w.heap.size w w' := by
 have G3 := zhd g3; have U3 := zhd u3
 obtain ⟨va, vc, rfl, _, _, _⟩ := g3
 clear u3
 have hH := zgv a1
 have bT := za5 b1 20 (by decide); have bX := za5 c1 4096 (by decide)
 have hH4 := ziA a1
 obtain ⟨H, hHe⟩ : ∃ x, x = zc3 a1 := ⟨_, rfl⟩
 obtain ⟨P, hP⟩ : ∃ x, zax a1 4 = x := ⟨_, rfl⟩
 obtain ⟨Q, hQ⟩ : ∃ x, zax b1 20 = x := ⟨_, rfl⟩
 obtain ⟨R, hR⟩ : ∃ x, zax c1 4096 = x := ⟨_, rfl⟩
 rw [← hHe] at hH hH4
 rw [hP] at hH4; rw [hQ] at bT; rw [hR] at bX
 have HP := zhd hP; have HQ := zhd hQ; have HR := zhd hR
 clear hP hQ hR hHe
 obtain ⟨t, ht⟩ : ∃ t : Nat, (t : Int) = 1 + Q := ⟨(1 + Q).toNat, by omega⟩
 obtain ⟨x, hx⟩ : ∃ x, x = R - 2048 := ⟨_, rfl⟩
 have ht1 : 1 ≤ t ∧ t ≤ 20 := by omega
 have hx1 : -2048 ≤ x ∧ x ≤ 2047 := by omega
 have e1 : IntKind.i64.wrap (1 + P) = (H : Int) := by rw [← hH4]; exact IntWalk.i64_in _ (by omega)
 have e2 : IntKind.i64.wrap (1 + Q) = (t : Int) := by rw [← ht]; exact IntWalk.i64_in _ (by omega)
 have e3 : IntKind.i64.wrap (R - 2048) = x := by rw [← hx]; exact IntWalk.i64_in _ (by omega)
 clear hH4 ht hx
 go_enter Tryz.func8, Tryz.ntmps8
 go_upto_region 2 with (go_at_call 10; ((with_reducible refine (awake15 _).mono ?_); rintro e w2 ⟨rfl, hb2⟩; have B2 := zhd hb2; clear hb2))
 go_upto_region 5 with (go_at_call 23; first | ((with_reducible refine (zbK a1 4 P _ i1 (by omega) HP).mono ?_); rintro e w' ⟨rfl, rfl⟩) | ((with_reducible refine (zbK b1 20 Q _ i2 (by omega) HQ).mono ?_); rintro e w' ⟨rfl, rfl⟩) | ((with_reducible refine (zbK c1 4096 R _ i3 (by omega) HR).mono ?_); rintro e w' ⟨rfl, rfl⟩))
 have HM0 : Hid (∀ w' v', IsImg w' v' (zcM (sumI t x)) 1 → Calls Tryz.prog 11 #[.int .i64 (H : Int), v', .slice none 0 0, .slice none 0 0] w' fun e w'' => ∃ cs, e = .returned (.tuple #[.agg cs, .int .i64 0]) ∧ Nine cs ∧ Hid (IsMac w'' (.agg cs) (zdS H (zcM (sumI t x)) 1 [] [])) ∧ Hid (Below w'.heap.size w' w'')) := zhd (fun w' v' hi =>
  new_tup (zlH H _ _ _ (zcM (sumI t x)) 1 [] [] w' hi reads_nil reads_nil hH (by decide) (by decide) rfl rfl))
 clear e1 e2 e3 bT bX HP HQ HR
 go_upto_region 6 with (first | (go_at_call 24; ((with_reducible refine (counted_any (t : Int) x _).mono ?_); rintro e w3 ⟨v3', rfl, hi3, hb3⟩; have HI3 := zhd (HM0.out w3 v3' hi3); have B3 := zhd hb3; clear hi3 hb3)) | (go_at_call 11; ((with_reducible refine HI3.out.mono ?_); rintro e w4 ⟨c4, rfl, n4, m4, b4⟩)) | (refine wpList_store_row rfl 37 _ _ rfl (w4.heap.size) c4 rfl rfl 37 nil9 (zat w4 _) n4.info (by rw [zb2.size, n4.size]) n4.one ?_))
 obtain ⟨M0, hM0⟩ : ∃ y, y = zdS H (zcM (sumI t x)) 1 [] [] := ⟨_, rfl⟩
 rw [← hM0] at m4
 obtain ⟨w5, hw5⟩ : ∃ x, x = (w4.alloc (.cells nil9 37)).setRow w4.heap.size c4 := ⟨_, rfl⟩
 have hb5 : Below w2.heap.size w2 w5 := by rw [hw5]; exact zae (zae B3.out b4.out) (zeq w4 c4)
 have V5 : Hid (MVar w5 w4.heap.size c4 M0) := zhd (by rw [hw5]; exact zew w4 n4 m4.out)
 have hbm : w.heap.size ≤ w4.heap.size := Nat.le_trans (Nat.le_trans B2.out.size B3.out.size) b4.out.size
 have GM0 : Hid (GoodM M0 H 0) := zhd (by
  rw [hM0]
  exact zfZ hH (by have := zjE (sumI t x); have e : (sumI t x).length = 7 := rfl; omega) (zhl _) (by decide) (by simp) (by simp) rfl)
 have SI0 : Hid (SumM H t x (List.replicate H (0, 3 * t + 4)) M0) := zhd (by
  rw [hM0]
  exact sum_new (words_all (sum_right ⟨by omega, by omega⟩ hx1)) rfl rfl rfl rfl rfl)
 have B5 := zhd (zae B2.out hb5)
 have G3' := zhd (G3.out.below B5.out)
 rw [← hw5]
 clear hw5 hM0 m4 b4 B3 HI3 HM0 B2 hb5 G3
 generalize w4.heap.size = bm at *
 have hsl := zhr l3
 obtain ⟨sl, hsle⟩ : ∃ y, y = zcn l3 := ⟨_, rfl⟩
 have HSC : Hid (∀ w', Below w5.heap.size w5 w' → Calls Tryz.prog 16 #[.slice va l3.length vc] w' fun e w'' => ∃ sa sc, e = .returned (.slice sa sl.length sc) ∧ Hid (ArgS 4 choC w'' (.slice sa sl.length sc) sl) ∧ Hid (Below w'.heap.size w' w'')) := zhd (fun w' hb => by
  rw [hsle]; exact zjM (G3'.out.below hb) U3)
 rw [← hsle] at hsl
 obtain ⟨R, hR⟩ : ∃ y, y = (runR M0 sl).1 := ⟨_, rfl⟩
 obtain ⟨rn, hrn⟩ : ∃ y, y = (runR M0 sl).2 := ⟨_, rfl⟩
 have HRN : Hid (∀ w' sa sc, Below w5.heap.size w5 w' → ArgS 4 choC w' (.slice sa sl.length sc) sl → Calls Tryz.prog 22 #[.agg c4, .slice sa sl.length sc] w' fun e w'' => ∃ cs, e = .returned (.tuple #[.agg cs, .int .i64 rn]) ∧ Nine cs ∧ Hid (IsMac w'' (.agg cs) R) ∧ Hid (Below w'.heap.size w' w'')) := zhd (fun w' sa sc hb hs => by
  rw [hR, hrn]; exact zgH (V5.out.below hb).mac hs GM0 (by omega))
 have GR : Hid (GoodM R H sl.length) := zhd (by rw [hR]; have := zfv sl GM0.out; rwa [Nat.zero_add] at this)
 have SIR : Hid (∃ S, SumM H t x S R) := zhd (by rw [hR]; exact sum_run ht1 hH.2 hx1 sl SI0.out)
 clear hsle G3' U3 hR hrn GM0 SI0
 go_cut [] (fun wx => ∃ c6, MVar wx bm c6 R ∧ Below w.heap.size w wx)
 case first =>
  refine wp_region_any (by kernel_rfl) (zjy (C := fun _ => True) _ _ _ _ trivial ?_)
  change zbh _ _ _ _ _ 8 _ _ _
  refine zhe swL swCo [false, false, false, false, false, false, false, false] _ (fun a0 fl a w' => ∃ u38 u39 u40 u41 u37 u42 u43 cs, a = (((((((a0.put (some 38) u38).put (some 39) u39).put (some 40) u40).put (some 41) u41).put (some 37) u37).put (some 42) u42).put (some 43) u43) ∧ RunI w w5 bm c4 R rn va vc l3.length sl fl cs u38 u39 u40 u41 u37 u42 w') (by kernel_rfl) (by kernel_rfl) (by kernel_rfl) trivial ?s6 ?i6 ?e6 ?t6
  case s6 => exact ⟨undef, undef, undef, undef, undef, undef, undef, nil9, by simp only [Act.put, List.setIfInBounds_toArray, List.set_cons_succ, List.set_cons_zero], RunI.start V5.out B5.out⟩
  case i6 =>
   rintro fl a w7 w8 ⟨u38, u39, u40, u41, u37, u42, u43, cs, e, hI⟩ hu
   exact ⟨u38, u39, u40, u41, u37, u42, u43, cs, e, hI.up hu⟩
  case e6 =>
   rintro fl a w7 ha hm ⟨u38, u39, u40, u41, u37, u42, u43, cs, rfl, hI⟩ _
   have hV := hI.done ha hm
   clear ha hm HSC HRN
   simp only [Act.put, List.setIfInBounds_toArray, List.set_cons_succ, List.set_cons_zero]
   go_wp2_with fail
   go_meet
   case rel => exact ⟨cs, hV.1, hV.2⟩
  case t6 =>
   rintro fl a w7 i hm ⟨u38, u39, u40, u41, u37, u42, u43, cs, rfl, hI⟩ _ hco hf
   obtain ⟨f0, f1, f2, f3, f4, f5, f6, f7, rfl, hok⟩ := sw_mem hm
   have HI := zhd hI
   clear hI hm
   have hdep := sw_dep hok
   clear hok
   have hi8 : i < 8 := (List.getElem?_eq_some_iff.1 hf).1
   unfold swCo at hco
   rcases (by omega : i = 0 ∨ i = 1 ∨ i = 2 ∨ i = 3 ∨ i = 4 ∨ i = 5 ∨ i = 6 ∨ i = 7) with rfl | rfl | rfl | rfl | rfl | rfl | rfl | rfl
   all_goals (simp only [List.getElem?_cons_succ, List.getElem?_cons_zero, Option.some.injEq] at hf; subst hf; simp only [List.getD_cons_succ, List.getD_cons_zero, List.set_cons_succ, List.set_cons_zero] at hco ⊢)
   · refine zaP (i := 0) rfl ?_
     have hV := V5.out.below (HI.out.bel (hdep.d0 rfl))
     clear hdep
     simp only [Act.put, List.setIfInBounds_toArray, List.set_cons_succ, List.set_cons_zero]
     go_wp2_with (refine wpList_load_row rfl 37 _ rfl bm rfl 37 c4 (0, 0) _ hV.at_ Tryz.underlying37 rfl n4.info ?_)
     exact ⟨trivial, _, u39, u40, u41, u37, u42, u43, cs, rfl, HI.out.put0⟩
   · refine zaP (i := 1) rfl ?_
     clear hdep
     simp only [Act.put, List.setIfInBounds_toArray, List.set_cons_succ, List.set_cons_zero]
     go_wp2_with fail
     exact ⟨trivial, u38, _, u40, u41, u37, u42, u43, cs, rfl, HI.out.put1⟩
   · refine zaP (i := 2) rfl ?_
     obtain rfl := HI.out.f1 hco
     have HC := zhd (HSC.out w7 (HI.out.bel (hdep.d2 rfl)))
     clear hdep
     simp only [Act.put, List.setIfInBounds_toArray, List.set_cons_succ, List.set_cons_zero]
     go_wp2_with (go_at_call 16; ((with_reducible refine HC.out.mono ?_); rintro e w8 ⟨sa, sc, rfl, hs8, b8⟩))
     exact ⟨trivial, u38, _, _, u41, u37, u42, u43, cs, rfl, (HI.out.up b8.out).put2 hs8.out⟩
   · refine zaP (i := 3) rfl ?_
     have hco2 := hco
     simp only [Bool.and_eq_true] at hco2
     obtain rfl := HI.out.f0 hco2.1
     obtain ⟨sa, sc, rfl, hs7⟩ := HI.out.f2 hco2.2 rfl
     have HC := zhd (HRN.out w7 sa sc (HI.out.bel (hdep.d3 rfl).1) hs7)
     have HD := zhd (hdep.d3 rfl)
     clear hdep hs7 hco2
     simp only [Act.put, List.setIfInBounds_toArray, List.set_cons_succ, List.set_cons_zero]
     go_wp2_with (go_at_call 22; ((with_reducible refine HC.out.mono ?_); rintro e w8 ⟨c8, rfl, n8, m8, b8⟩))
     exact ⟨trivial, _, u39, _, _, u37, u42, u43, c8, rfl, (HI.out.up b8.out).put3 HD.out n8 m8.out⟩
   · refine zaP (i := 4) rfl ?_
     obtain ⟨rfl, _, _⟩ := HI.out.f3 hco
     clear hdep
     simp only [Act.put, List.setIfInBounds_toArray, List.set_cons_succ, List.set_cons_zero]
     go_wp2_with fail
     exact ⟨trivial, u38, u39, u40, _, _, u42, u43, cs, rfl, HI.out.put4⟩
   · refine zaP (i := 5) rfl ?_
     obtain rfl := HI.out.f4 hco
     clear hdep
     simp only [Act.put, List.setIfInBounds_toArray, List.set_cons_succ, List.set_cons_zero]
     go_wp2_with fail
     exact ⟨trivial, u38, u39, u40, u41, _, _, u43, cs, rfl, HI.out.put5⟩
   · refine zaP (i := 6) rfl ?_
     obtain rfl := HI.out.f4 hco
     clear hdep
     simp only [Act.put, List.setIfInBounds_toArray, List.set_cons_succ, List.set_cons_zero]
     go_wp2_with fail
     exact ⟨trivial, u38, u39, u40, u41, _, u42, _, cs, rfl, HI.out.put6⟩
   · refine zaP (i := 7) rfl ?_
     obtain rfl := HI.out.f5 hco
     have hV := V5.out.below (HI.out.bel rfl)
     have hn := HI.out.nine (hdep.d7 hco)
     have HS := zhd (HI.out.put7 (hdep.d7 hco) hbm hV)
     clear hdep
     simp only [Act.put, List.setIfInBounds_toArray, List.set_cons_succ, List.set_cons_zero]
     go_wp2_with (refine wpList_store_row rfl 37 _ _ rfl bm cs rfl rfl 37 c4 hV.at_ hn.info (by rw [n4.size, hn.size]) hn.one ?_)
     exact ⟨trivial, u38, u39, u40, u41, u37, _, u43, cs, rfl, HS.out⟩
 case rest =>
  obtain ⟨c6, hv6, hb6⟩ := hcut
  have V6 := zhd hv6; have B6 := zhd hb6
  clear hv6 hb6 V5 B5 n4 HSC HRN

  obtain ⟨S0, hs0⟩ := SIR.out
  have SI0 := zhd hs0
  clear hs0 SIR
  have n6 := V6.out.nine
  have hK : IntKind.i64.wrap (100 * (H : Int)) = 100 * (H : Int) := IntWalk.i64_in _ (by omega)
  go_wp2_with fail
  go_loopw [15] (fun j wr => ∃ (r : Nat) (c : Array Value) (M : Mac) (S : List (Nat × Nat)), r ≤ 100 * H ∧ j = .int .i64 r ∧ MVar wr bm c M ∧ GoodM M H (sl.length + r) ∧ SumM H t x S M ∧ SumB H r S ∧ Below w.heap.size w wr) (fun j _ => 100 * H - (intOf j).toNat)
  case atStart => exact ⟨0, c6, R, S0, Nat.zero_le _, rfl, V6.out, GR.out, SI0.out, sum_begin ht1.2 hH.1 SI0.out, B6.out⟩
  case round =>
   obtain ⟨r, c, M, S, hr, rfl, hv, hg, hsi, hsb, hb⟩ := hrel
   have HV := zhd hv; have HG := zhd hg; have HSI := zhd hsi; have HSB := zhd hsb; have HB := zhd hb
   clear hv hg hsi hsb hb V6 GR SI0 B6
   by_cases hlt : r < 100 * H

   · have hrk : r % H < H := Nat.mod_lt _ (by omega)
     have d0 : decide ((r : Int) < 100 * (H : Int)) = true := by simp; omega
     have q1 : ((H : Int) == 0) = false := by simp; omega
     have q2 : ¬ (H : Int) = 0 := by omega
     have q3 : IntKind.i64.wrap ((r : Int).tmod (H : Int)) = (r : Int) % (H : Int) := by rw [← Int.ofNat_tmod, ← Int.natCast_emod]; exact IntWalk.i64_in _ (by omega)
     have q4 : (r : Int).tmod (H : Int) = (r : Int) % (H : Int) := by rw [← Int.ofNat_tmod, Int.natCast_emod]
     obtain ⟨N', hN'⟩ : ∃ y, y = (doR M ⟨1, (r : Int) % (H : Int), 0, 0⟩).1 := ⟨_, rfl⟩
     obtain ⟨ne, hne⟩ : ∃ y, y = (doR M ⟨1, (r : Int) % (H : Int), 0, 0⟩).2 := ⟨_, rfl⟩
     have HDO : Hid (∀ w', Below wr.heap.size wr w' → Calls Tryz.prog 17 #[.agg c, .agg #[.int .i64 1, .int .i64 ((r : Int) % (H : Int)), .int .i64 0, .int .i64 0]] w' fun e w'' => ∃ cs, e = .returned (.tuple #[.agg cs, .int .i64 ne]) ∧ Nine cs ∧ Hid (IsMac w'' (.agg cs) N') ∧ Hid (Below w'.heap.size w' w'')) := zhd (fun w' hb' => by
      rw [hN', hne]; exact do_tup 1 ((r : Int) % (H : Int)) 0 0 (HV.out.below hb').mac HG (by omega))
     have HRD := sum_round ht1 hH hx1 HSI.out HSB.out
     rw [show ((r % H : Nat) : Int) = (r : Int) % (H : Int) from Int.natCast_emod r H] at HRD
     have HGN : Hid (ne = 0 → GoodM N' H (sl.length + (r + 1))) := zhd (fun h => by rw [hN']; exact good_do HG.out _ (by rw [← hne]; exact h))
     rw [← hN', ← hne] at HRD
     have HRN := zhd HRD
     clear hN' hne HRD
     go_upto_region 10 with (fail)
     refine zaV (fun w' => Below wr.heap.size wr w') [true, true, true, true, true] (by kernel_rfl) (by kernel_rfl) (by kernel_rfl) (fun a b h hu => zae h hu) (Below.refl _ _) ?aa16 ?hh16 ?ht16
     case hh16 =>
      intro w0 hb0
      have R0 : Hid (∀ w' : World, (∃ x : Wd w0, w' = x.val) → (loadVar 37 ⟨bm, 0, none⟩).run Tryz.prog w' = .ok (.agg c) w') := zhd (by rintro w' ⟨x, rfl⟩; exact zcE ((HV.out.below hb0).below x.bel))
      simp only [zbb]
      go_big_quiet_want
      refine zaM 37 _ ⟨bm, 0, none⟩ (.agg c) rfl rfl R0.out ?_
      simp only [Act.put, List.setIfInBounds_toArray, List.set_cons_succ, List.set_cons_zero]
      go_big_quiet_on
      repeat (go_big_quiet_step (fail))
      refine wpQuiet_nil ?_
      rfl
     case ht16 =>
      change zbh _ _ _ _ _ 7 _ _ _
      refine zhe (zlA 5) (zi9 5) [true, true, true, true, true, false, false, false, false, false, false, false] _ (fun a0 fl a w' => ∃ cs uc um u0 u1 ua uz, a = ((((((a0.put (some 56) uc).put (some 50) um).put (some 57) u0).put (some 58) u1).put (some 16) ua).put (some 17) uz) ∧ PairI wr N' ne (fl.drop 5) cs uc um u0 u1 ua uz w') (by kernel_rfl) (by kernel_rfl) (by kernel_rfl) (zak (Below.refl _ _)) ?s16 ?i16 ?e16 ?t16
      case s16 =>
       refine ⟨nil9, ?v1, ?v2, ?v3, ?v4, ?v5, ?v6, ?eq, PairI.start (zak (Below.refl _ _)) rfl⟩
       case eq => simp only [Act.put, List.setIfInBounds_toArray, List.set_cons_succ, List.set_cons_zero]; exact rfl
      case i16 =>
       rintro fl a w7 w8 ⟨cs, uc, um, u0, u1, ua, uz, e, hI⟩ hu
       exact ⟨cs, uc, um, u0, u1, ua, uz, e, hI.up hu⟩
      case t16 =>
       rintro fl a w7 i hm ⟨cs, uc, um, u0, u1, ua, uz, rfl, hI⟩ hc hco hf
       have hI' := zhd hI
       have hm7 := zfp hm
       clear hI
       unfold zi9 zk7 at hco
       simp only [Bool.or_eq_true, Bool.and_eq_true, beq_iff_eq, decide_eq_true_eq] at hco
       obtain ⟨hri, hco⟩ := hco
       obtain ⟨j, rfl⟩ : ∃ j, i = 5 + j := ⟨i - 5, by omega⟩
       rw [show 5 + j - 5 = j by omega] at hco
       have hd := zmD hf
       have hdp := zjq fl 5 j
       clear hri
       rcases hco with (((((rfl | rfl) | ⟨rfl, g0⟩) | ⟨rfl, g1⟩) | ⟨rfl, g1⟩) | ⟨rfl, g0, g2, g4⟩) | ⟨rfl, g3, g5⟩
       · refine zaP (i := 5) rfl ?_
         simp only [Act.put, List.setIfInBounds_toArray, List.set_cons_succ, List.set_cons_zero]
         have hcw := zhd hc
         go_wp2_with (go_at_call 17; ((with_reducible refine (HDO.out _ hcw.out).mono ?_); rintro e w8 ⟨c8, rfl, n8, m8, b8⟩))
         refine ⟨zae hcw.out b8.out, c8, _, um, u0, u1, ua, uz, rfl, ?_⟩
         rw [hdp]
         exact hI'.out.putc hm7 hd n8 m8.out b8.out
       · refine zaP (i := 9) rfl ?_
         simp only [Act.put, List.setIfInBounds_toArray, List.set_cons_succ, List.set_cons_zero]
         go_wp2_with fail
         refine ⟨zae hc (zan _ _), cs, uc, um, u0, u1, _, uz, rfl, ?_⟩
         rw [hdp]
         exact hI'.out.puta hm7 hd
       · refine zaP (i := 6) rfl ?_
         obtain ⟨rfl, _, _⟩ := hI'.out.fc g0
         simp only [Act.put, List.setIfInBounds_toArray, List.set_cons_succ, List.set_cons_zero]
         go_wp2_with fail
         refine ⟨hc, cs, _, _, u0, u1, ua, uz, rfl, ?_⟩
         rw [hdp]
         exact hI'.out.putm
       · refine zaP (i := 7) rfl ?_
         obtain rfl := hI'.out.fm g1
         simp only [Act.put, List.setIfInBounds_toArray, List.set_cons_succ, List.set_cons_zero]
         go_wp2_with fail
         refine ⟨hc, cs, uc, _, _, u1, ua, uz, rfl, ?_⟩
         rw [hdp]
         exact hI'.out.put0
       · refine zaP (i := 8) rfl ?_
         obtain rfl := hI'.out.fm g1
         simp only [Act.put, List.setIfInBounds_toArray, List.set_cons_succ, List.set_cons_zero]
         go_wp2_with fail
         refine ⟨hc, cs, uc, _, u0, _, ua, uz, rfl, ?_⟩
         rw [hdp]
         exact hI'.out.put1
       · refine zaP (i := 10) rfl ?_
         obtain rfl := hI'.out.f0 g2
         obtain ⟨b, e14, hb1, hx⟩ := hI'.out.fa g4
         have hn9 := (hI'.out.fc g0).2.1
         rw [zcQ hd, if_neg (by decide)] at hx
         have HX := zhd hx
         have HI2 := zhd (hI'.out.puts hm7 hx e14 hb1)
         subst e14
         clear hx hI'
         simp only [Act.put, List.setIfInBounds_toArray, List.set_cons_succ, List.set_cons_zero]
         go_wp2_with (refine wpList_store_row rfl 37 _ _ rfl (b) cs rfl rfl 37 nil9 HX.out hn9.info (by rw [zb2.size, hn9.size]) hn9.one ?_)
         refine ⟨below_setRow hc hb1 _, cs, uc, um, _, u1, _, uz, rfl, ?_⟩
         rw [hdp]
         exact HI2.out
       · refine zaP (i := 11) rfl ?_
         obtain rfl := hI'.out.f1 g3
         simp only [Act.put, List.setIfInBounds_toArray, List.set_cons_succ, List.set_cons_zero]
         go_wp2_with fail
         refine ⟨hc, cs, uc, um, u0, _, ua, _, rfl, ?_⟩
         rw [hdp]
         exact hI'.out.putz
      case e16 =>
       rintro fl a w16 ha hm ⟨c16, uc, um, u0, u1, ua, uz, rfl, hI⟩ hc
       obtain ⟨b16, rfl, rfl, rfl, rfl, rfl, rfl, hv, hbW⟩ := hI.done (zfp hm) (zjz 5 ha)
       have V16 := zhd hv
       have hb16 := hI.bel
       clear hI hc ha hm hv
       simp only [Act.put, List.setIfInBounds_toArray, List.set_cons_succ, List.set_cons_zero]
       have W16 := V16
       clear V16
       have V16 := zhd (HV.out.below hb16); have B16 := zhd (zae HB.out hb16)
       have hbn : bm ≠ b16 := by have := zao HV.out.at_; omega
       clear hb16 HDO q1 q2 q3 q4

       by_cases hz : ne = 0
       · subst hz
         obtain ⟨S', hs1, hs2⟩ := HRN.out.1 rfl
         have HS1 := zhd hs1; have HS2 := zhd hs2; have HGN' := zhd (HGN.out rfl)
         have A16 := zhd W16.out.at_; have A5 := zhd V16.out.at_
         have n16 := W16.out.nine; have n5 := V16.out.nine
         have HW : Hid (MVar (w16.setRow bm c16) bm c16 N') := zhd (zfr A5.out n5 n16 W16.out.mac)
         have HB' : Hid (Below w.heap.size w (w16.setRow bm c16)) := zhd (below_setRow B16.out hbm _)
         clear hs1 hs2 HGN HRN
         go_wp2_with (first | (refine wpList_load_row rfl 37 _ rfl b16 rfl 37 c16 (0, 0) _ A16.out Tryz.underlying37 rfl n16.info ?_) | (refine wpList_store_row rfl 37 _ _ rfl bm c16 rfl rfl 37 c A5.out n16.info (by rw [n5.size, n16.size]) n16.one ?_))
         go_roundw
         case rel => exact ⟨r + 1, c16, N', S', by omega, by go_num, HW.out, HGN'.out, HS1.out, HS2.out, HB'.out⟩
         case measure => simp [intOf]; omega
       · have hz' : (ne == 0) = false := by simpa using hz
         have HS2 := zhd (HRN.out.2 hz)
         clear HGN HRN
         go_wp2_with fail
         go_roundw
         case rel => exact ⟨r + 1, c, M, S, by omega, by go_num, V16.out, zbP HG.out (by omega), HSI.out, HS2.out, B16.out⟩
         case measure => simp [intOf]; omega

   · have hrn : r = 100 * H := by omega
     subst hrn
     have d0 : decide (100 * (H : Int) < 100 * (H : Int)) = false := by simp
     obtain ⟨hends, hword⟩ := sum_end (x := x) hH HSI.out HSB.out
     have HE := zhd hends
     have hel := HG.out.ends
     have hwl : M.mem.words.length = 1 := by rw [hword]; rfl
     obtain ⟨ea, ec, g, qc, cur, hc2, hc3, hg, hg0⟩ := mv_open HV.out (by rw [hwl]; decide)
     rw [hel] at hc2; rw [hwl] at hc3
     have hw0 : M.mem.words[0] = (H : Int) * t * x := by
      have e : M.mem.words[0]? = some ((H : Int) * t * x) := by rw [hword]; rfl
      rw [List.getElem?_eq_getElem (by rw [hwl]; decide)] at e
      exact Option.some.inj e
     rw [hw0] at hg0
     have HC2 := zhd hc2; have HC3 := zhd hc3; have HG0 := zhd hg0; have HEL := zhd hel; have HGG := zhd hg
     have q2 := zad HV.out.at_ hc2; have q3 := zad HV.out.at_ hc3
     have lbm := zao HV.out.at_
     clear hends hword hel hwl hc2 hc3 hg hg0 hw0 HSI HSB
     have d1 : ((H : Int) != (H : Int)) = false := by simp
     go_upto_region 15 with (fail)
     clear q2 q3 lbm
     go_wp2_with fail
     go_loopw [18] (fun j w' => ∃ k : Nat, k ≤ H ∧ j = .int .i64 k ∧ wr = w') (fun j _ => H - (intOf j).toNat)
     case atStart => exact ⟨0, Nat.zero_le _, rfl, rfl⟩
     case round =>
      obtain ⟨k, hk, rfl, rfl⟩ := hrel
      by_cases hkl : k < H
      · have d2 : decide ((k : Int) < (H : Int)) = true := by simpa using hkl
        have hkE : k < M.ends.length := by rw [HEL.out]; exact hkl
        obtain ⟨ge, ue, rfl, hge, hce⟩ := mv_end HV.out HC2.out hkE
        have he1 : M.ends[k] = 1 := by
         have := HE.out k hkl
         unfold zkv at this
         rw [Int.toNat_natCast, List.getD_eq_getElem?_getD, List.getElem?_eq_getElem hkE] at this
         exact this
        rw [he1] at hce
        have q2 := zad HV.out.at_ HC2.out
        have lbm := zao HV.out.at_; have lge := zao hge
        clear he1 hge hkE
        go_wp2_with fail
        go_roundw
        case rel => exact ⟨k + 1, by omega, by go_num, by first | rfl | trivial⟩
        case measure => simp [intOf]; omega
      · have hkn : k = H := by omega
        subst hkn
        have d2 : decide ((k : Int) < (k : Int)) = false := by simp
        have q3 := zad HV.out.at_ HC3.out
        have q0 := HG0.out
        have lbm := zao HV.out.at_; have lg := zao HGG.out
        have b1 := sum_bd (n := k * t) hx1 (by have : k * t ≤ 4 * 20 := Nat.mul_le_mul hH.2 ht1.2; omega)
        have hkt : k * t ≤ 4 * 20 := Nat.mul_le_mul hH.2 ht1.2
        have e1 : IntKind.i64.wrap ((k : Int) * (t : Int)) = (k : Int) * t := by rw [← Int.natCast_mul]; exact IntWalk.i64_in _ (by omega)
        have e2 : IntKind.i64.wrap ((k : Int) * t * x) = (k : Int) * t * x := by
         rw [← Int.natCast_mul, Int.mul_comm]; exact IntWalk.i64_in _ (by omega)
        clear b1 hkt
        go_wp2_with fail
        go_ret
        exact ⟨ret1 (za1 (by first | rfl | simp)), HB.out⟩

end Go.Proofs.YtdobddiibgfeaaaGreat
