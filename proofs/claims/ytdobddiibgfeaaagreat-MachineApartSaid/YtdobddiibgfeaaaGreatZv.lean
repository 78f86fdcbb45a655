/-
  What the walks of this statement lean on (MacEq, MacEqH, MacEqD, MacSame, MacIdx, MacImg, MacNewP): shown.
-/
import Derived.Test.YtdobddiibgfeaaaGreatZa
import Derived.Test.YtdobddiibgfeaaaGreatZu
import Derived.Test.YtdobddiibgfeaaaGreatZm
import Derived.Test.YtdobddiibgfeaaaGreatZo
import Derived.ChangeKeysEq
import Derived.Test.YtdobddiibgfeaaaGreatZj
import Derived.Test.YtdobddiibgfeaaaGreatZs
set_option linter.unusedVariables false
set_option linter.unusedSimpArgs false
namespace Go.Proofs.YtdobddiibgfeaaaGreat
section
open Go.RowKit
set_option maxRecDepth 100000
instance : DecidableEq Ln := fun x y => decidable_of_iff (x.h = y.h ∧ x.p = y.p ∧ x.r = y.r) (by cases x; cases y; simp)
theorem line_iff (x y : Ln) : decide (x = y) = (x.h == y.h && x.p == y.p && x.r == y.r) := by
 rw [Bool.eq_iff_iff]
 cases x; cases y; simp [and_assoc]
theorem zmv (r : Bool) (x y : Ln) (h : decide (x = y) = r) (w : World) : (Op.equalIn 10000 64 (.agg #[.int .i64 x.h, .int .i64 x.p, .bool x.r]) (.agg #[.int .i64 y.h, .int .i64 y.p, .bool y.r])).run Tryz.prog w = .ok r w := by
 have u3 := Tryz.underlying3
 have a3 := Tryz.isAgg3
 have z3 := Tryz.sizeOf3
 have u4 := Tryz.underlying4
 have a4 := Tryz.isAgg4
 have z4 := Tryz.sizeOf4
 have hS : Tryz.prog.underlying 64 = some (.struct (Tryz.prog.fieldsOf 64)) := by kernel_rfl
 have hp : Tryz.prog.stoodInHeld 64 = false := by kernel_rfl
 rw [← h, line_iff, show (10000 : Nat) = 9999 + 1 from rfl, run_equalIn_agg w 9999 64 _ _ hS hp]
 simp only [Program.fieldsOf, Tryz.underlying64]
 go_simp
 cases h0 : (x.h == y.h) <;> cases h1 : (x.p == y.p) <;> cases h2 : (x.r == y.r) <;> simp_all
set_option maxHeartbeats 2000000 in
theorem zkq (v v' : Value) (xs ys : List Ln) (w : World) (h : Reads w 3 xs.length v (zaT lnC xs)) (h' : Reads w 3 ys.length v' (zaT lnC ys)) :
 Calls Tryz.prog 57 #[v, v'] w fun e w' => e = .returned (.bool (decide (xs = ys))) ∧ Below w.heap.size w w' := by
 obtain ⟨a, c, rfl⟩ := h.shape
 obtain ⟨a', c', rfl⟩ := h'.shape
 have HR := zhd h; have HR' := zhd h'; clear h h'
 by_cases hl : xs.length = ys.length
 · have hlb : (((xs.length : Nat) : Int) != ((ys.length : Nat) : Int)) = false := by simp [hl]
   by_cases h0 : xs.length = 0
   · have hx0 : xs = [] := List.eq_nil_of_length_eq_zero h0
     have hy0 : ys = [] := List.eq_nil_of_length_eq_zero (by omega)
     subst hx0 hy0
     simp only [List.length_nil] at *
     go_enter Tryz.func57, Tryz.ntmps57
     go_wp2_with fail
     refine wp_loop_rounds 1 ?_
     rw [rounds_succ]
     go_wp2_with fail
     go_ret
     exact ⟨ret1 (za1 (by simp)), Below.refl _ _⟩
   · obtain ⟨b, o, c0, hv, hc, hm, hcell⟩ := zc8 HR.out (by omega)
     obtain ⟨b', o', c0', hv', hc', hm', hcell'⟩ := zc8 HR'.out (by omega)
     injection hv with e1 _ e2; injection hv' with e3 _ e4
     subst e1 e2 e3 e4
     have HL := zhd hl
     have HC := zhd hcell; have HC' := zhd hcell'
     clear hcell hcell' hl
     unfold maxLen at hm hm'
     go_enter Tryz.func57, Tryz.ntmps57
     go_wp2_with fail
     go_loopw [13] (fun i wr => ∃ k : Nat, k ≤ xs.length ∧ i = .int .i64 k ∧ xs.take k = ys.take k ∧ Below w.heap.size w wr ∧ (∀ a, wr.cell? a = w.cell? a)) (fun i _ => xs.length - (intOf i).toNat)
     case atStart => exact ⟨0, Nat.zero_le _, rfl, rfl, Below.refl _ _, fun _ => rfl⟩
     case round =>
      obtain ⟨k, hk, rfl, ht, hb, hw⟩ := hrel
      have HT := zhd ht; have HB := zhd hb; have HW := zhd hw; clear ht hb hw
      by_cases hlt : k < xs.length
      · have hlt' : k < ys.length := by rw [← HL.out]; exact hlt
        have gxs0 : wr.cell? ⟨b, o + k * 3, none⟩ = some (.int .i64 (xs[k]).h) := by rw [HW.out]; exact HC.out _ _ ((zaY (f := lnC) (k := 3) (fun y _ => rfl) (l := xs) (i := k) (x := xs[k]) (List.getElem?_eq_getElem (by assumption)) (j := 0) (by decide)).trans rfl)
        have gys0 : wr.cell? ⟨b', o' + k * 3, none⟩ = some (.int .i64 (ys[k]).h) := by rw [HW.out]; exact HC'.out _ _ ((zaY (f := lnC) (k := 3) (fun y _ => rfl) (l := ys) (i := k) (x := ys[k]) (List.getElem?_eq_getElem (by assumption)) (j := 0) (by decide)).trans rfl)
        have gxs1 : wr.cell? ⟨b, o + k * 3 + 1, none⟩ = some (.int .i64 (xs[k]).p) := by rw [HW.out]; exact HC.out _ _ ((zaY (f := lnC) (k := 3) (fun y _ => rfl) (l := xs) (i := k) (x := xs[k]) (List.getElem?_eq_getElem (by assumption)) (j := 1) (by decide)).trans rfl)
        have gys1 : wr.cell? ⟨b', o' + k * 3 + 1, none⟩ = some (.int .i64 (ys[k]).p) := by rw [HW.out]; exact HC'.out _ _ ((zaY (f := lnC) (k := 3) (fun y _ => rfl) (l := ys) (i := k) (x := ys[k]) (List.getElem?_eq_getElem (by assumption)) (j := 1) (by decide)).trans rfl)
        have gxs2 : wr.cell? ⟨b, o + k * 3 + 2, none⟩ = some (.bool (xs[k]).r) := by rw [HW.out]; exact HC.out _ _ ((zaY (f := lnC) (k := 3) (fun y _ => rfl) (l := xs) (i := k) (x := xs[k]) (List.getElem?_eq_getElem (by assumption)) (j := 2) (by decide)).trans rfl)
        have gys2 : wr.cell? ⟨b', o' + k * 3 + 2, none⟩ = some (.bool (ys[k]).r) := by rw [HW.out]; exact HC'.out _ _ ((zaY (f := lnC) (k := 3) (fun y _ => rfl) (l := ys) (i := k) (x := ys[k]) (List.getElem?_eq_getElem (by assumption)) (j := 2) (by decide)).trans rfl)
        by_cases hx : xs[k] = ys[k]
        · have hxb := fun w => zmv true xs[k] ys[k] (by simp [hx]) w
          have HX := zhd hx; clear hx
          go_wp2_with fail
          go_quiet (fail)
          go_wp2_with fail
          refine ⟨⟨k + 1, by omega, by go_num, ?_, zaF HB.out _, HW.out⟩, by simp [intOf]; omega⟩
          rw [List.take_succ_eq_append_getElem hlt, List.take_succ_eq_append_getElem hlt', HT.out, HX.out]
        · have hxb := fun w => zmv false xs[k] ys[k] (by simp [hx]) w
          have hd : decide (xs = ys) = false := decide_eq_false (fun e => hx (by subst e; rfl))
          have HD := zhd hd; clear hx hd
          go_wp2_with fail
          go_quiet (fail)
          go_wp2_with fail
          go_ret
          exact ⟨ret1 (za1 HD.out.symm), zaF HB.out _⟩
      · have hd : decide (xs = ys) = true := decide_eq_true (by
         have e1 := HT.out
         have hkx : k = xs.length := by omega
         rw [hkx, List.take_length, HL.out, List.take_length] at e1
         exact e1)
        have HD := zhd hd; clear hd
        go_wp2_with fail
        go_ret
        exact ⟨ret1 (za1 HD.out.symm), HB.out⟩
 · have hlb : (((xs.length : Nat) : Int) != ((ys.length : Nat) : Int)) = true := by simp; omega
   have hd : decide (xs = ys) = false := decide_eq_false (fun e => hl (by rw [e]))
   rw [hd]
   clear hl hd
   go_enter Tryz.func57, Tryz.ntmps57
   go_wp2_with fail
   go_ret
   exact ⟨ret1 (za1 rfl), Below.refl _ _⟩
instance : DecidableEq Ac := fun x y => decidable_of_iff (x.h = y.h ∧ x.d = y.d ∧ x.g = y.g ∧ x.w = y.w ∧ x.n = y.n) (by cases x; cases y; simp)
theorem acc_iff (x y : Ac) : decide (x = y) = (x.h == y.h && x.d == y.d && x.g == y.g && x.w == y.w && x.n == y.n) := by
 rw [Bool.eq_iff_iff]
 cases x; cases y; simp [and_assoc]
theorem eq_acc (r : Bool) (x y : Ac) (h : decide (x = y) = r) (w : World) : (Op.equalIn 10000 59 (.agg #[.int .i64 x.h, .int .i64 x.d, .int .i64 x.g, .bool x.w, .int .i64 x.n]) (.agg #[.int .i64 y.h, .int .i64 y.d, .int .i64 y.g, .bool y.w, .int .i64 y.n])).run Tryz.prog w = .ok r w := by
 have u3 := Tryz.underlying3
 have a3 := Tryz.isAgg3
 have z3 := Tryz.sizeOf3
 have u4 := Tryz.underlying4
 have a4 := Tryz.isAgg4
 have z4 := Tryz.sizeOf4
 have hS : Tryz.prog.underlying 59 = some (.struct (Tryz.prog.fieldsOf 59)) := by kernel_rfl
 have hp : Tryz.prog.stoodInHeld 59 = false := by kernel_rfl
 rw [← h, acc_iff, show (10000 : Nat) = 9999 + 1 from rfl, run_equalIn_agg w 9999 59 _ _ hS hp]
 simp only [Program.fieldsOf, Tryz.underlying59]
 go_simp
 cases h0 : (x.h == y.h) <;> cases h1 : (x.d == y.d) <;> cases h2 : (x.g == y.g) <;> cases h3 : (x.w == y.w) <;> cases h4 : (x.n == y.n) <;> simp_all
set_option maxHeartbeats 2000000 in
theorem zmu (v v' : Value) (xs ys : List Ac) (w : World) (h : Reads w 5 xs.length v (zaT acC xs)) (h' : Reads w 5 ys.length v' (zaT acC ys)) :
 Calls Tryz.prog 58 #[v, v'] w fun e w' => e = .returned (.bool (decide (xs = ys))) ∧ Below w.heap.size w w' := by
 obtain ⟨a, c, rfl⟩ := h.shape
 obtain ⟨a', c', rfl⟩ := h'.shape
 have HR := zhd h; have HR' := zhd h'; clear h h'
 by_cases hl : xs.length = ys.length
 · have hlb : (((xs.length : Nat) : Int) != ((ys.length : Nat) : Int)) = false := by simp [hl]
   by_cases h0 : xs.length = 0
   · have hx0 : xs = [] := List.eq_nil_of_length_eq_zero h0
     have hy0 : ys = [] := List.eq_nil_of_length_eq_zero (by omega)
     subst hx0 hy0
     simp only [List.length_nil] at *
     go_enter Tryz.func58, Tryz.ntmps58
     go_wp2_with fail
     refine wp_loop_rounds 1 ?_
     rw [rounds_succ]
     go_wp2_with fail
     go_ret
     exact ⟨ret1 (za1 (by simp)), Below.refl _ _⟩
   · obtain ⟨b, o, c0, hv, hc, hm, hcell⟩ := zc8 HR.out (by omega)
     obtain ⟨b', o', c0', hv', hc', hm', hcell'⟩ := zc8 HR'.out (by omega)
     injection hv with e1 _ e2; injection hv' with e3 _ e4
     subst e1 e2 e3 e4
     have HL := zhd hl
     have HC := zhd hcell; have HC' := zhd hcell'
     clear hcell hcell' hl
     unfold maxLen at hm hm'
     go_enter Tryz.func58, Tryz.ntmps58
     go_wp2_with fail
     go_loopw [13] (fun i wr => ∃ k : Nat, k ≤ xs.length ∧ i = .int .i64 k ∧ xs.take k = ys.take k ∧ Below w.heap.size w wr ∧ (∀ a, wr.cell? a = w.cell? a)) (fun i _ => xs.length - (intOf i).toNat)
     case atStart => exact ⟨0, Nat.zero_le _, rfl, rfl, Below.refl _ _, fun _ => rfl⟩
     case round =>
      obtain ⟨k, hk, rfl, ht, hb, hw⟩ := hrel
      have HT := zhd ht; have HB := zhd hb; have HW := zhd hw; clear ht hb hw
      by_cases hlt : k < xs.length
      · have hlt' : k < ys.length := by rw [← HL.out]; exact hlt
        have gxs0 : wr.cell? ⟨b, o + k * 5, none⟩ = some (.int .i64 (xs[k]).h) := by rw [HW.out]; exact HC.out _ _ ((zaY (f := acC) (k := 5) (fun y _ => rfl) (l := xs) (i := k) (x := xs[k]) (List.getElem?_eq_getElem (by assumption)) (j := 0) (by decide)).trans rfl)
        have gys0 : wr.cell? ⟨b', o' + k * 5, none⟩ = some (.int .i64 (ys[k]).h) := by rw [HW.out]; exact HC'.out _ _ ((zaY (f := acC) (k := 5) (fun y _ => rfl) (l := ys) (i := k) (x := ys[k]) (List.getElem?_eq_getElem (by assumption)) (j := 0) (by decide)).trans rfl)
        have gxs1 : wr.cell? ⟨b, o + k * 5 + 1, none⟩ = some (.int .i64 (xs[k]).d) := by rw [HW.out]; exact HC.out _ _ ((zaY (f := acC) (k := 5) (fun y _ => rfl) (l := xs) (i := k) (x := xs[k]) (List.getElem?_eq_getElem (by assumption)) (j := 1) (by decide)).trans rfl)
        have gys1 : wr.cell? ⟨b', o' + k * 5 + 1, none⟩ = some (.int .i64 (ys[k]).d) := by rw [HW.out]; exact HC'.out _ _ ((zaY (f := acC) (k := 5) (fun y _ => rfl) (l := ys) (i := k) (x := ys[k]) (List.getElem?_eq_getElem (by assumption)) (j := 1) (by decide)).trans rfl)
        have gxs2 : wr.cell? ⟨b, o + k * 5 + 2, none⟩ = some (.int .i64 (xs[k]).g) := by rw [HW.out]; exact HC.out _ _ ((zaY (f := acC) (k := 5) (fun y _ => rfl) (l := xs) (i := k) (x := xs[k]) (List.getElem?_eq_getElem (by assumption)) (j := 2) (by decide)).trans rfl)
        have gys2 : wr.cell? ⟨b', o' + k * 5 + 2, none⟩ = some (.int .i64 (ys[k]).g) := by rw [HW.out]; exact HC'.out _ _ ((zaY (f := acC) (k := 5) (fun y _ => rfl) (l := ys) (i := k) (x := ys[k]) (List.getElem?_eq_getElem (by assumption)) (j := 2) (by decide)).trans rfl)
        have gxs3 : wr.cell? ⟨b, o + k * 5 + 3, none⟩ = some (.bool (xs[k]).w) := by rw [HW.out]; exact HC.out _ _ ((zaY (f := acC) (k := 5) (fun y _ => rfl) (l := xs) (i := k) (x := xs[k]) (List.getElem?_eq_getElem (by assumption)) (j := 3) (by decide)).trans rfl)
        have gys3 : wr.cell? ⟨b', o' + k * 5 + 3, none⟩ = some (.bool (ys[k]).w) := by rw [HW.out]; exact HC'.out _ _ ((zaY (f := acC) (k := 5) (fun y _ => rfl) (l := ys) (i := k) (x := ys[k]) (List.getElem?_eq_getElem (by assumption)) (j := 3) (by decide)).trans rfl)
        have gxs4 : wr.cell? ⟨b, o + k * 5 + 4, none⟩ = some (.int .i64 (xs[k]).n) := by rw [HW.out]; exact HC.out _ _ ((zaY (f := acC) (k := 5) (fun y _ => rfl) (l := xs) (i := k) (x := xs[k]) (List.getElem?_eq_getElem (by assumption)) (j := 4) (by decide)).trans rfl)
        have gys4 : wr.cell? ⟨b', o' + k * 5 + 4, none⟩ = some (.int .i64 (ys[k]).n) := by rw [HW.out]; exact HC'.out _ _ ((zaY (f := acC) (k := 5) (fun y _ => rfl) (l := ys) (i := k) (x := ys[k]) (List.getElem?_eq_getElem (by assumption)) (j := 4) (by decide)).trans rfl)
        by_cases hx : xs[k] = ys[k]
        · have hxb := fun w => eq_acc true xs[k] ys[k] (by simp [hx]) w
          have HX := zhd hx; clear hx
          go_wp2_with fail
          go_quiet (fail)
          go_wp2_with fail
          refine ⟨⟨k + 1, by omega, by go_num, ?_, zaF HB.out _, HW.out⟩, by simp [intOf]; omega⟩
          rw [List.take_succ_eq_append_getElem hlt, List.take_succ_eq_append_getElem hlt', HT.out, HX.out]
        · have hxb := fun w => eq_acc false xs[k] ys[k] (by simp [hx]) w
          have hd : decide (xs = ys) = false := decide_eq_false (fun e => hx (by subst e; rfl))
          have HD := zhd hd; clear hx hd
          go_wp2_with fail
          go_quiet (fail)
          go_wp2_with fail
          go_ret
          exact ⟨ret1 (za1 HD.out.symm), zaF HB.out _⟩
      · have hd : decide (xs = ys) = true := decide_eq_true (by
         have e1 := HT.out
         have hkx : k = xs.length := by omega
         rw [hkx, List.take_length, HL.out, List.take_length] at e1
         exact e1)
        have HD := zhd hd; clear hd
        go_wp2_with fail
        go_ret
        exact ⟨ret1 (za1 HD.out.symm), HB.out⟩
 · have hlb : (((xs.length : Nat) : Int) != ((ys.length : Nat) : Int)) = true := by simp; omega
   have hd : decide (xs = ys) = false := decide_eq_false (fun e => hl (by rw [e]))
   rw [hd]
   clear hl hd
   go_enter Tryz.func58, Tryz.ntmps58
   go_wp2_with fail
   go_ret
   exact ⟨ret1 (za1 rfl), Below.refl _ _⟩
end
section
open Go.RowKit
set_option maxRecDepth 100000
theorem zl2 (d : Nat) (xs ys : Array Value) (f g : Nat → Int) (w : World) : ∀ (l : List Nat), (∀ i ∈ l, xs[i]? = some (.int .i64 (f i)) ∧ ys[i]? = some (.int .i64 (g i))) → (Op.eqItems (d + 1) 3 (Tryz.prog.cellsOf 3) xs ys l).run Tryz.prog w = .ok (l.all fun i => f i == g i) w := by
 have hc : Tryz.prog.cellsOf 3 = 1 := by kernel_rfl
 intro l
 induction l with
 | nil => intro _; simp [Op.eqItems]
 |
  cons i l ih =>
  intro h
  obtain ⟨h1, h2⟩ := h i (by simp)
  have p1 := zbL xs i _ h1
  have p2 := zbL ys i _ h2
  have e := fun a b w => zmw d a b w
  have ih' := ih fun j hj => h j (by simp [hj])
  rw [hc] at ih' ⊢
  simp only [Op.eqItems, Sem.run_bind, Nat.mul_one, p1, p2, e, Result.andThen_ok, List.all_cons]
  cases (f i == g i)
  · simp
  · simpa using ih'
theorem all_eq (x y : List Int) (hx : x.length = 32) (hy : y.length = 32) : ((List.range 32).all fun i => x.getD i 0 == y.getD i 0) = decide (x = y) := by
 rw [Bool.eq_iff_iff]
 simp only [List.all_eq_true, List.mem_range, beq_iff_eq, decide_eq_true_eq]
 constructor
 · intro h
   refine List.ext_getElem (by omega) fun i h1 h2 => ?_
   have := h i (by omega)
   simpa [List.getD_eq_getElem?_getD, h1, h2] using this
 · rintro rfl i _; rfl
theorem eq_regs2 (d : Nat) (x y : List Int) (hx : x.length = 32) (hy : y.length = 32) (w : World) : (Op.equalIn (d + 1 + 1) 54 (.agg (rA x)) (.agg (rA y))).run Tryz.prog w = .ok (decide (x = y)) w := by
 obtain ⟨i, hi⟩ : ∃ i, Tryz.prog.info? 3 = some i := info_of_underlying Tryz.underlying3
 rw [run_equalIn_array w (d + 1) _ _ Tryz.underlying54 hi, zl2 d (rA x) (rA y) (fun i => x.getD i 0) (fun i => y.getD i 0) w (List.range 32) (fun i hi => ⟨rA_get x hx i (by simpa using hi), rA_get y hy i (by simpa using hi)⟩), all_eq x y hx hy]
instance : DecidableEq Ht := fun x y => decidable_of_iff (x.r = y.r ∧ x.pc = y.pc ∧ x.st = y.st ∧ x.ve = y.ve ∧ x.sc = y.sc ∧ x.ep = y.ep ∧ x.ca = y.ca ∧ x.le = y.le) (by cases x; cases y; simp)
theorem hart_iff (x y : Ht) : decide (x = y) = (decide (x.r = y.r) && x.pc == y.pc && x.st == y.st && x.ve == y.ve && x.sc == y.sc && x.ep == y.ep && x.ca == y.ca && x.le == y.le) := by
 rw [Bool.eq_iff_iff]
 cases x; cases y; simp [and_assoc]
set_option maxHeartbeats 2000000 in
theorem eq_hart (r : Bool) (x y : Ht) (hx : x.r.length = 32) (hy : y.r.length = 32) (h : decide (x = y) = r) (w : World) : (Op.equalIn 10000 56 (.agg (hA x)) (.agg (hA y))).run Tryz.prog w = .ok r w := by
 have hS : Tryz.prog.underlying 56 = some (.struct (Tryz.prog.fieldsOf 56)) := by kernel_rfl
 have hp : Tryz.prog.stoodInHeld 56 = false := by kernel_rfl
 have hr := fun w => zhB x hx w
 have hr' := fun w => zhB y hy w
 obtain ⟨g32, g33, g34, g35, g36, g37, g38⟩ := zbr x hx
 obtain ⟨k32, k33, k34, k35, k36, k37, k38⟩ := zbr y hy
 have p32 := zbL _ _ _ g32; have p33 := zbL _ _ _ g33; have p34 := zbL _ _ _ g34; have p35 := zbL _ _ _ g35; have p36 := zbL _ _ _ g36; have p37 := zbL _ _ _ g37; have p38 := zbL _ _ _ g38
 have q32 := zbL _ _ _ k32; have q33 := zbL _ _ _ k33; have q34 := zbL _ _ _ k34; have q35 := zbL _ _ _ k35; have q36 := zbL _ _ _ k36; have q37 := zbL _ _ _ k37; have q38 := zbL _ _ _ k38
 have er := fun w => eq_regs2 9997 x.r y.r hx hy w
 have e := fun a b w => zmw 9998 a b w
 rw [← h, hart_iff, show (10000 : Nat) = 9999 + 1 from rfl, run_equalIn_agg w 9999 56 _ _ hS hp]
 simp only [Program.fieldsOf, Tryz.underlying56]
 simp [Op.eqFields, hr, hr', er, e, p32, p33, p34, p35, p36, p37, p38, q32, q33, q34, q35, q36, q37, q38]
 clear hr hr' er e p32 p33 p34 p35 p36 p37 p38 q32 q33 q34 q35 q36 q37 q38 g32 g33 g34 g35 g36 g37 g38 k32 k33 k34 k35 k36 k37 k38 hS hp
 by_cases h0 : x.r = y.r
 case neg => simp [h0]
 by_cases h1 : x.pc = y.pc
 case neg => simp [h0, h1]
 by_cases h2 : x.st = y.st
 case neg => simp [h0, h1, h2]
 by_cases h3 : x.ve = y.ve
 case neg => simp [h0, h1, h2, h3]
 by_cases h4 : x.sc = y.sc
 case neg => simp [h0, h1, h2, h3, h4]
 by_cases h5 : x.ep = y.ep
 case neg => simp [h0, h1, h2, h3, h4, h5]
 by_cases h6 : x.ca = y.ca
 case neg => simp [h0, h1, h2, h3, h4, h5, h6]
 by_cases h7 : x.le = y.le
 case neg => simp [h0, h1, h2, h3, h4, h5, h6, h7]
 simp [h0, h1, h2, h3, h4, h5, h6, h7]
theorem zdP {w w' : World} {b o : Nat} {cs : List Value} (hlt : b < w.heap.size) (hb : Below w.heap.size w w') (h : w.rangeAt b o cs) : w'.rangeAt b o cs := fun j v hv => by rw [hb.cell (p := ⟨b, o + j, none⟩) hlt]; exact h j v hv
theorem zfn {w : World} {b o k : Nat} {xs : List Value} {cs : List Value} (hc : ∀ j u, xs[j]? = some u → w.cell? ⟨b, o + j, none⟩ = some u) (i : Nat) (hcs : cs.length = k) (hx : ∀ j, j < k → xs[i * k + j]? = cs[j]?) : w.rangeAt b (o + i * k) cs := by
 intro j u hu
 have hj : j < k := by rw [← hcs]; exact (List.getElem?_eq_some_iff.1 hu).1
 have := hc (i * k + j) u (by rw [hx j hj, hu])
 rwa [← Nat.add_assoc] at this
set_option maxHeartbeats 4000000 in
theorem zkr (v v' : Value) (xs ys : List Ht) (w : World) (h : Reads w 39 xs.length v (zaT hC xs)) (h' : Reads w 39 ys.length v' (zaT hC ys)) (hr : ∀ x ∈ xs, x.r.length = 32) (hr' : ∀ x ∈ ys, x.r.length = 32) :
 Calls Tryz.prog 53 #[v, v'] w fun e w' => e = .returned (.bool (decide (xs = ys))) ∧ Below w.heap.size w w' := by
 obtain ⟨a, c, rfl⟩ := h.shape
 obtain ⟨a', c', rfl⟩ := h'.shape
 have HR := zhd h; have HR' := zhd h'; have H3 := zhd hr; have H3' := zhd hr'; clear h h' hr hr'
 by_cases hl : xs.length = ys.length
 · have hlb : (((xs.length : Nat) : Int) != ((ys.length : Nat) : Int)) = false := by simp [hl]
   by_cases h0 : xs.length = 0
   · have hx0 : xs = [] := List.eq_nil_of_length_eq_zero h0
     have hy0 : ys = [] := List.eq_nil_of_length_eq_zero (by omega)
     subst hx0 hy0
     simp only [List.length_nil] at *
     go_enter Tryz.func53, Tryz.ntmps53
     go_wp2_with fail
     refine wp_loop_rounds 1 ?_
     rw [rounds_succ]
     go_wp2_with fail
     go_ret
     exact ⟨ret1 (za1 (by simp)), Below.refl _ _⟩
   · obtain ⟨b, o, c0, hv, hlt0, hc, hm, hcell⟩ := HR.out.some (by omega)
     obtain ⟨b', o', c0', hv', hlt0', hc', hm', hcell'⟩ := HR'.out.some (by omega)
     injection hv with e1 _ e2; injection hv' with e3 _ e4
     subst e1 e2 e3 e4
     have HL := zhd hl
     have HC := zhd hcell; have HC' := zhd hcell'
     clear hcell hcell' hl
     unfold maxLen at hm hm'
     go_enter Tryz.func53, Tryz.ntmps53
     go_wp2_with fail
     go_loopw [13] (fun i wr => ∃ k : Nat, k ≤ xs.length ∧ i = .int .i64 k ∧ xs.take k = ys.take k ∧ Below w.heap.size w wr) (fun i _ => xs.length - (intOf i).toNat)
     case atStart => exact ⟨0, Nat.zero_le _, rfl, rfl, Below.refl _ _⟩
     case round =>
      obtain ⟨k, hk, rfl, ht, hb⟩ := hrel
      have HT := zhd ht; have HB := zhd hb; clear ht hb
      by_cases hlt : k < xs.length
      · have hlt' : k < ys.length := by rw [← HL.out]; exact hlt
        have l1 := H3.out xs[k] (List.getElem_mem _)
        have l2 := H3'.out ys[k] (List.getElem_mem _)
        have g1 : w.rangeAt b (o + k * 39) (hC xs[k]) := zfn HC.out k (zeC l1) fun j hj => zaY (fun y hy => zeC (H3.out y hy)) (List.getElem?_eq_getElem hlt) hj
        have g2 : w.rangeAt b' (o' + k * 39) (hC ys[k]) := zfn HC'.out k (zeC l2) fun j hj => zaY (fun y hy => zeC (H3'.out y hy)) (List.getElem?_eq_getElem hlt') hj
        have R0 : Hid (∀ w' : World, (∃ x : Wd wr, w' = x.val) → (loadVar 56 ⟨b, o + k * 39, none⟩).run Tryz.prog w' = .ok (.agg (hA xs[k])) w') := zhd (by
         rintro w' ⟨x, rfl⟩
         exact zdT l1 (zdp (Nat.lt_of_lt_of_le hlt0 HB.out.size) (zdP hlt0 HB.out g1) x))
        have R1 : Hid (∀ w' : World, (∃ x : Wd wr, w' = x.val) → (loadVar 56 ⟨b', o' + k * 39, none⟩).run Tryz.prog w' = .ok (.agg (hA ys[k])) w') := zhd (by
         rintro w' ⟨x, rfl⟩
         exact zdT l2 (zdp (Nat.lt_of_lt_of_le hlt0' HB.out.size) (zdP hlt0' HB.out g2) x))
        have d0 : decide ((xs.length : Int) ≤ (k : Int)) = false := by simpa using hlt
        have HTX := zhd (List.take_succ_eq_append_getElem hlt); have HTY := zhd (List.take_succ_eq_append_getElem hlt')
        have HNE : Hid (xs[k] ≠ ys[k] → decide (xs = ys) = false) := zhd fun hx => decide_eq_false (fun e => hx (by subst e; rfl))
        clear g1 g2
        generalize xs[k] = X at *
        generalize ys[k] = Y at *
        have hxb := fun w => eq_hart (decide (X = Y)) X Y l1 l2 rfl w
        go_wp2_with fail
        refine zaB (by kernel_rfl) (by kernel_rfl) ?_
        iterate 3 (go_big_quiet_step (fail))
        go_big_quiet_want
        refine zaM 56 _ ⟨b, o + k * 39, none⟩ (.agg (hA X)) rfl rfl R0.out ?_
        simp only [Act.put, List.setIfInBounds_toArray, List.set_cons_succ, List.set_cons_zero]
        go_big_quiet_on
        iterate 3 (go_big_quiet_step (fail))
        go_big_quiet_want
        refine zaM 56 _ ⟨b', o' + k * 39, none⟩ (.agg (hA Y)) rfl rfl R1.out ?_
        simp only [Act.put, List.setIfInBounds_toArray, List.set_cons_succ, List.set_cons_zero]
        go_big_quiet_on
        repeat (go_big_quiet_step (fail))
        refine wpQuiet_nil ?_
        rintro w6 ⟨⟨w6x, hb6⟩, rfl⟩
        have HB6 := zhd hb6
        clear R0 R1 hxb hb6
        by_cases hx : X = Y
        · have hd : decide (X = Y) = true := decide_eq_true hx
          have HX := zhd hx; clear hx
          rw [hd]
          go_wp2_with fail
          go_roundw
          case rel => exact ⟨k + 1, by omega, by go_num, by rw [HTX.out, HTY.out, HT.out, HX.out], zae HB.out HB6.out⟩
          case measure => simp [intOf]; omega
        · have hd : decide (X = Y) = false := decide_eq_false hx
          have HD := zhd (HNE.out hx); clear hx
          rw [hd]
          go_wp2_with fail
          go_ret
          exact ⟨ret1 (za1 HD.out.symm), zae HB.out HB6.out⟩
      · have hd : decide (xs = ys) = true := decide_eq_true (by
         have e1 := HT.out
         have hkx : k = xs.length := by omega
         rw [hkx, List.take_length, HL.out, List.take_length] at e1
         exact e1)
        have HD := zhd hd; clear hd
        go_wp2_with fail
        go_ret
        exact ⟨ret1 (za1 HD.out.symm), HB.out⟩
 · have hlb : (((xs.length : Nat) : Int) != ((ys.length : Nat) : Int)) = true := by simp; omega
   have hd : decide (xs = ys) = false := decide_eq_false (fun e => hl (by rw [e]))
   rw [hd]
   clear hl hd
   go_enter Tryz.func53, Tryz.ntmps53
   go_wp2_with fail
   go_ret
   exact ⟨ret1 (za1 rfl), Below.refl _ _⟩
end
section
open Go.RowKit
set_option maxRecDepth 100000
instance : DecidableEq St := fun x y => decidable_of_iff (x.k = y.k ∧ x.r0 = y.r0 ∧ x.r1 = y.r1 ∧ x.r2 = y.r2 ∧ x.r3 = y.r3 ∧ x.q = y.q ∧ x.sent = y.sent ∧ x.ra = y.ra) (by cases x; cases y; simp)
theorem zla (x y : St) : zeJ x y = decide (x = y) := by
 rw [Bool.eq_iff_iff]
 cases x; cases y
 simp [zeJ, zi2]
 intro _
 constructor
 · rintro ⟨⟨b, c, d, e⟩, f, g, h⟩; exact ⟨b, c, d, e, h, f, g⟩
 · rintro ⟨b, c, d, e, h, f, g⟩; exact ⟨⟨b, c, d, e⟩, f, g, h⟩
theorem ziZ (v v' : Value) (s t : St) (r : Bool) (w : World) (h : IsSt w v s) (h' : IsSt w v' t) (hr : decide (s = t) = r) :
 Calls Tryz.prog 56 #[v, v'] w fun e w' => e = .returned (.bool r) ∧ Below w.heap.size w w' := by
 subst hr
 rw [← zla]
 exact same_any v v' s t w h h'
set_option maxHeartbeats 4000000 in
theorem zks (a a' : Option Addr) (c c' : Nat) (qs qs' : List Value) (xs ys : List St) (w : World) (h : Reads w 8 xs.length (.slice a xs.length c) (zaT sC (xs.zip qs))) (h' : Reads w 8 ys.length (.slice a' ys.length c') (zaT sC (ys.zip qs'))) (hr : QuesAt w qs xs) (hr' : QuesAt w qs' ys) :
 Calls Tryz.prog 55 #[.slice a xs.length c, .slice a' ys.length c', .func (.func 56) #[] #[]] w fun e w' => e = .returned (.bool (decide (xs = ys))) ∧ Below w.heap.size w w' := by
 have HR := zhd h; have HR' := zhd h'; have HA := zhd hr; have HA' := zhd hr'; clear h h' hr hr'
 by_cases hl : xs.length = ys.length
 · have hlb : (((xs.length : Nat) : Int) != ((ys.length : Nat) : Int)) = false := by simp [hl]
   by_cases h0 : xs.length = 0
   · have hx0 : xs = [] := List.eq_nil_of_length_eq_zero h0
     have hy0 : ys = [] := List.eq_nil_of_length_eq_zero (by omega)
     subst hx0 hy0
     simp only [List.length_nil] at *
     go_enter Tryz.func55, Tryz.ntmps55
     go_wp2_with fail
     refine wp_loop_rounds 1 ?_
     rw [rounds_succ]
     go_wp2_with fail
     go_ret
     exact ⟨ret1 (za1 (by simp)), Below.refl _ _⟩
   · obtain ⟨b, o, c0, hv, hlt0, hc, hm, hcell⟩ := HR.out.some (by omega)
     obtain ⟨b', o', c0', hv', hlt0', hc', hm', hcell'⟩ := HR'.out.some (by omega)
     injection hv with e1 e1n e2; injection hv' with e3 e3n e4
     subst e1 e2 e3 e4
     clear e1n e3n
     obtain ⟨ln, hln⟩ : ∃ ln, xs.length = ln := ⟨_, rfl⟩
     have hln' : ys.length = ln := by omega
     have HLX := zhd hln; have HLY := zhd hln'
     have HC := zhd hcell; have HC' := zhd hcell'
     clear hcell hcell' hl hlb
     rw [hln] at hc h0 ⊢
     rw [hln'] at hc' ⊢
     clear hln hln'
     unfold maxLen at hm hm'
     go_enter Tryz.func55, Tryz.ntmps55
     go_wp2_with fail
     go_loopw [17] (fun i wr => ∃ k : Nat, k ≤ ln ∧ i = .int .i64 k ∧ xs.take k = ys.take k ∧ Below w.heap.size w wr) (fun i _ => ln - (intOf i).toNat)
     case atStart => exact ⟨0, Nat.zero_le _, rfl, rfl, Below.refl _ _⟩
     case round =>
      obtain ⟨k, hk, rfl, ht, hb⟩ := hrel
      have HT := zhd ht; have HB := zhd hb; clear ht hb
      by_cases hlt : k < ln
      · have hltx : k < xs.length := by rw [HLX.out]; exact hlt
        have hlty : k < ys.length := by rw [HLY.out]; exact hlt
        have hrx : k < qs.length := by rw [HA.out.1]; exact hltx
        have hry : k < qs'.length := by rw [HA'.out.1]; exact hlty
        have hzx : (xs.zip qs)[k]? = some (xs[k], qs[k]) := by rw [List.getElem?_zip_eq_some]; exact ⟨List.getElem?_eq_getElem hltx, List.getElem?_eq_getElem hrx⟩
        have hzy : (ys.zip qs')[k]? = some (ys[k], qs'[k]) := by rw [List.getElem?_zip_eq_some]; exact ⟨List.getElem?_eq_getElem hlty, List.getElem?_eq_getElem hry⟩
        have RX := HA.out.2 k qs[k] xs[k] (List.getElem?_eq_getElem hrx) (List.getElem?_eq_getElem hltx)
        have RY := HA'.out.2 k qs'[k] ys[k] (List.getElem?_eq_getElem hry) (List.getElem?_eq_getElem hlty)
        have gx : wr.rangeAt b (o + k * 8) (sC (xs[k], qs[k])) := zdP hlt0 HB.out (zfn HC.out k (zef _) fun j hj => zaY (fun y _ => zef y) hzx hj)
        have gy : wr.rangeAt b' (o' + k * 8) (sC (ys[k], qs'[k])) := zdP hlt0' HB.out (zfn HC'.out k (zef _) fun j hj => zaY (fun y _ => zef y) hzy hj)
        have HTX := zhd (List.take_succ_eq_append_getElem hltx); have HTY := zhd (List.take_succ_eq_append_getElem hlty)
        have HNE : Hid (xs[k] ≠ ys[k] → decide (xs = ys) = false) := zhd fun hx => decide_eq_false (fun e => hx (by subst e; rfl))
        obtain ⟨a1, a2, s1⟩ := RX.shape
        obtain ⟨a3, a4, s2⟩ := RY.shape
        have SX : Hid (IsSt wr (.agg (stC xs[k] qs[k])) xs[k]) := zhd ⟨_, rfl, RX.below HB.out⟩
        have SY : Hid (IsSt wr (.agg (stC ys[k] qs'[k])) ys[k]) := zhd ⟨_, rfl, RY.below HB.out⟩
        rw [s1] at gx SX
        rw [s2] at gy SY
        clear s1 s2 RX RY hzx hzy
        generalize xs[k] = X at *
        generalize ys[k] = Y at *
        obtain ⟨x0, x1, x2, x3, x4, x5, x6, x7⟩ := X
        obtain ⟨y0, y1, y2, y3, y4, y5, y6, y7⟩ := Y
        have GY := zhd gy
        have p0 := gx 0 _ rfl; have p1 := gx 1 _ rfl; have p2 := gx 2 _ rfl; have p3 := gx 3 _ rfl; have p4 := gx 4 _ rfl; have p5 := gx 5 _ rfl; have p6 := gx 6 _ rfl; have p7 := gx 7 _ rfl
        simp only [Nat.add_zero] at p0 p1 p2 p3 p4 p5 p6 p7
        clear gx gy
        unfold stC at SX SY
        obtain ⟨w4, hw4, hc4, hb4, _⟩ := zbY wr (.cells #[.int .i64 x0, .int .i64 x1, .int .i64 x2, .int .i64 x3, .int .i64 x4, .slice a1 (St.mk x0 x1 x2 x3 x4 x5 x6 x7).q.length a2, .int .i64 x6, .bool x7] 75)
        have hwr := Nat.lt_of_lt_of_le hlt0' HB.out.size
        have gy4 := zdP hwr hb4 GY.out
        have q0 := gy4 0 _ rfl; have q1 := gy4 1 _ rfl; have q2 := gy4 2 _ rfl; have q3 := gy4 3 _ rfl; have q4 := gy4 4 _ rfl; have q5 := gy4 5 _ rfl; have q6 := gy4 6 _ rfl; have q7 := gy4 7 _ rfl
        simp only [Nat.add_zero] at q0 q1 q2 q3 q4 q5 q6 q7
        have HC4 := zhd hc4; have HB4 := zhd hb4
        clear gy4 hc4 hb4 GY
        go_upto_region 6 with (fail)
        rw [← hw4]; clear hw4 p0 p1 p2 p3 p4 p5 p6 p7
        obtain ⟨w5, hw5, hc5, hb5, _⟩ := zbY w4 (.cells #[.int .i64 y0, .int .i64 y1, .int .i64 y2, .int .i64 y3, .int .i64 y4, .slice a3 (St.mk y0 y1 y2 y3 y4 y5 y6 y7).q.length a4, .int .i64 y6, .bool y7] 75)
        go_upto_region 7 with (fail)
        rw [← hw5]; clear hw5 q0 q1 q2 q3 q4 q5 q6 q7
        have HB5 := zhd (zae HB4.out hb5)
        obtain ⟨t0, t1, t2, t3, t4, t5, t6, t7, _⟩ := zba (zaf hb5 HC4.out)
        obtain ⟨u0, u1, u2, u3, u4, u5, u6, u7, _⟩ := zba hc5
        clear hc5 hb5
        by_cases hx : (St.mk x0 x1 x2 x3 x4 x5 x6 x7) = (St.mk y0 y1 y2 y3 y4 y5 y6 y7)
        · have HXX := zhd hx; clear hx
          have HD := zhd (decide_eq_true HXX.out)
          go_wp2_with (go_at_call 56; ((with_reducible refine (ziZ _ _ _ _ true _ (SX.out.below HB5.out) (SY.out.below HB5.out) HD.out).mono ?_); rintro e w1 ⟨rfl, hb1⟩))
          go_roundw
          case rel => exact ⟨k + 1, by omega, by go_num, by rw [HTX.out, HTY.out, HT.out, HXX.out], zae (zae HB.out HB5.out) hb1⟩
          case measure => simp [intOf]; omega
        · have hd : Hid (decide (xs = ys) = false) := zhd (HNE.out hx)
          have HD := zhd (decide_eq_false hx)
          clear hx
          go_wp2_with (go_at_call 56; ((with_reducible refine (ziZ _ _ _ _ false _ (SX.out.below HB5.out) (SY.out.below HB5.out) HD.out).mono ?_); rintro e w1 ⟨rfl, hb1⟩))
          go_ret
          exact ⟨ret1 (za1 hd.out.symm), zae (zae HB.out HB5.out) hb1⟩
      · have hd : Hid (decide (xs = ys) = true) := zhd (decide_eq_true (by
         have e1 := HT.out
         have hkx : k = ln := by omega
         rw [hkx, ← HLX.out, List.take_length, HLX.out, ← HLY.out, List.take_length] at e1
         exact e1))
        go_wp2_with fail
        go_ret
        exact ⟨ret1 (za1 hd.out.symm), HB.out⟩
 · have hlb : (((xs.length : Nat) : Int) != ((ys.length : Nat) : Int)) = true := by simp; omega
   have hd : decide (xs = ys) = false := decide_eq_false (fun e => hl (by rw [e]))
   rw [hd]
   clear hl hd
   go_enter Tryz.func55, Tryz.ntmps55
   go_wp2_with fail
   go_ret
   exact ⟨ret1 (za1 rfl), Below.refl _ _⟩
end
section
open Go.RowKit
set_option maxRecDepth 100000
instance : DecidableEq Mac := fun x y => decidable_of_iff (x.words = y.words ∧ x.harts = y.harts ∧ x.ends = y.ends ∧ x.mem = y.mem ∧ x.devs = y.devs ∧ x.lines = y.lines ∧ x.trace = y.trace) (by cases x; cases y; simp)
theorem mac_iff (x y : Mac) : decide (x = y) = (decide (x.words = y.words) && (decide (x.harts = y.harts) && (decide (x.ends = y.ends) && (decide (x.mem = y.mem) && (decide (x.devs = y.devs) && (decide (x.lines = y.lines) && decide (x.trace = y.trace))))))) := by
 rw [Bool.eq_iff_iff]
 cases x; cases y; simp
structure RMac (w : World) (cs : Array Value) (M : Mac) : Prop where
 shape : ∃ x0 xn0 xc0 x1 xn1 xc1 x2 xn2 xc2 x3 xn3 xc3 x4 xn4 xc4 x5 xn5 xc5 x6 xn6 xc6 x7 xn7 xc7 x8 xn8 xc8 qs, cs = #[.slice x0 xn0 xc0, .slice x1 xn1 xc1, .slice x2 xn2 xc2, .slice x3 xn3 xc3, .slice x4 xn4 xc4, .slice x5 xn5 xc5, .slice x6 xn6 xc6, .slice x7 xn7 xc7, .slice x8 xn8 xc8] ∧
  Reads w 1 M.words.length (.slice x0 xn0 xc0) (intC M.words) ∧ Reads w 39 M.harts.length (.slice x1 xn1 xc1) (zaT hC M.harts) ∧ Reads w 1 M.ends.length (.slice x2 xn2 xc2) (intC M.ends) ∧
  IsMem w (.agg #[.slice x3 xn3 xc3, .slice x4 xn4 xc4, .slice x5 xn5 xc5]) M.mem ∧ (xn6 = M.devs.length ∧ Reads w 8 M.devs.length (.slice x6 xn6 xc6) (zaT sC (M.devs.zip qs)) ∧ QuesAt w qs M.devs) ∧
  Reads w 3 M.lines.length (.slice x7 xn7 xc7) (zaT lnC M.lines) ∧ Reads w 5 M.trace.length (.slice x8 xn8 xc8) (zaT acC M.trace)
theorem zen {w : World} {v : Value} {M : Mac} (h : IsMac w v M) : ∃ cs, v = .agg cs ∧ RMac w cs M := by
 obtain ⟨wv, hv, ev, m1, m2, m3, dv, lv, tv, qs, rfl, hp⟩ := h
 obtain ⟨_, _, rfl⟩ := zai hp.words
 obtain ⟨_, _, rfl⟩ := zai hp.harts
 obtain ⟨_, _, rfl⟩ := zai hp.ends
 obtain ⟨_, _, rfl⟩ := zai hp.devs
 obtain ⟨_, _, rfl⟩ := zai hp.lines
 obtain ⟨_, _, rfl⟩ := zai hp.trace
 obtain ⟨b1, d1, b2, d2, b3, d3, rows, em, _⟩ := hp.mem.parts
 have hm := hp.mem
 injection em with em
 have f1 : m1 = .slice b1 M.mem.words.length d1 := by have := congrArg (·[0]?) em; simpa using this
 have f2 : m2 = .slice b2 M.mem.pend.length d2 := by have := congrArg (·[1]?) em; simpa using this
 have f3 : m3 = .slice b3 M.mem.res.length d3 := by have := congrArg (·[2]?) em; simpa using this
 subst f1 f2 f3
 refine ⟨_, rfl, ⟨_, _, _, _, _, _, _, _, _, _, _, _, _, _, _, _, _, _, _, _, _, _, _, _, _, _, _, qs, rfl, ?_, ?_, ?_, hm, ⟨rfl, ?_, hp.ques⟩, ?_, ?_⟩⟩
 · exact Reads.own hp.words (by simp [intC, Value.oneCell'])
 · exact Reads.own hp.harts (zdM fun x _ => hC_one x)
 · exact Reads.own hp.ends (by simp [intC, Value.oneCell'])
 · exact Reads.own hp.devs (zdM (zi3 hp.ques))
 · exact Reads.own hp.lines (zdM fun x _ => zgW x)
 · exact Reads.own hp.trace (zdM fun x _ => zhh x)
set_option maxHeartbeats 8000000 in
set_option maxRecDepth 100000 in
theorem zgG (v v' : Value) (M M' : Mac) (w : World) (h : IsMac w v M) (h' : IsMac w v' M') (hr : ∀ x ∈ M.harts, x.r.length = 32) (hr' : ∀ x ∈ M'.harts, x.r.length = 32) :
 Calls Tryz.prog 19 #[v, v'] w fun e w' => e = .returned (.bool (decide (M = M'))) ∧ Below w.heap.size w w' := by
 obtain ⟨cs, rfl, ⟨x0, xn0, xc0, x1, xn1, xc1, x2, xn2, xc2, x3, xn3, xc3, x4, xn4, xc4, x5, xn5, xc5, x6, xn6, xc6, x7, xn7, xc7, x8, xn8, xc8, qs, rfl, r1, r2, r3, r4, ⟨rn, r5, r5q⟩, r6, r7⟩⟩ := zen h
 obtain ⟨cs', rfl, ⟨y0, yn0, yc0, y1, yn1, yc1, y2, yn2, yc2, y3, yn3, yc3, y4, yn4, yc4, y5, yn5, yc5, y6, yn6, yc6, y7, yn7, yc7, y8, yn8, yc8, qs', rfl, s1, s2, s3, s4, ⟨sn, s5, s5q⟩, s6, s7⟩⟩ := zen h'
 subst rn sn
 clear h h'
 obtain ⟨w1, hw1, hx1, hz1, hb1, _⟩ := zcW w (.cells #[.slice x0 xn0 xc0, .slice x1 xn1 xc1, .slice x2 xn2 xc2, .slice x3 xn3 xc3, .slice x4 xn4 xc4, .slice x5 xn5 xc5, .slice x6 M.devs.length xc6, .slice x7 xn7 xc7, .slice x8 xn8 xc8] 37) (.cells #[.slice y0 yn0 yc0, .slice y1 yn1 yc1, .slice y2 yn2 yc2, .slice y3 yn3 yc3, .slice y4 yn4 yc4, .slice y5 yn5 yc5, .slice y6 M'.devs.length yc6, .slice y7 yn7 yc7, .slice y8 yn8 yc8] 37)
 have B1 := zhd hb1
 have HX1 := zhd hx1; have HZ1 := zhd hz1
 have R1 := zhd r1; have R2 := zhd r2; have R3 := zhd r3; have R4 := zhd r4; have R5 := zhd r5; have R5Q := zhd r5q; have R6 := zhd r6; have R7 := zhd r7
 have S1 := zhd s1; have S2 := zhd s2; have S3 := zhd s3; have S4 := zhd s4; have S5 := zhd s5; have S5Q := zhd s5q; have S6 := zhd s6; have S7 := zhd s7
 have H3 := zhd hr; have H3' := zhd hr'
 clear r1 r2 r3 r4 r5 r5q r6 r7 s1 s2 s3 s4 s5 s5q s6 s7 hr hr' hb1 hx1 hz1
 have HM := zhd (mac_iff M M')
 generalize decide (M = M') = res at *
 go_enter Tryz.func19, Tryz.ntmps19
 go_upto_region 1 with (fail)
 rw [← hw1]; clear hw1
 obtain ⟨c0, _, _, _, _, _, _, _, _⟩ := zam HX1.out
 obtain ⟨d0, _, _, _, _, _, _, _, _⟩ := zam HZ1.out
 go_wp2_with fail
 refine (zf3 _ _ M.words M'.words _ (R1.out.below B1.out) (S1.out.below B1.out)).mono ?_
 rintro e w2 ⟨rfl, hb⟩
 have B2 := zhd (zae B1.out hb)
 have HX2 := zhd (zaf hb HX1.out); have HZ2 := zhd (zaf hb HZ1.out)
 clear hb HX1 HZ1 B1 c0 d0
 generalize decide (M.words = M'.words) = q1 at *
 cases q1
 · have e : res = false := by rw [HM.out]; simp
   subst e
   go_wp2_with fail
   go_ret
   exact ⟨ret1 (za1 rfl), B2.out⟩
 simp only [Bool.true_and] at HM
 obtain ⟨_, c1, _, _, _, _, _, _, _⟩ := zam HX2.out
 obtain ⟨_, d1, _, _, _, _, _, _, _⟩ := zam HZ2.out
 go_wp2_with fail
 refine (zkr _ _ M.harts M'.harts _ (R2.out.below B2.out) (S2.out.below B2.out) H3.out H3'.out).mono ?_
 rintro e w3 ⟨rfl, hb⟩
 have B3 := zhd (zae B2.out hb)
 have HX3 := zhd (zaf hb HX2.out); have HZ3 := zhd (zaf hb HZ2.out)
 clear hb HX2 HZ2 B2 c1 d1
 generalize decide (M.harts = M'.harts) = q2 at *
 cases q2
 · have e : res = false := by rw [HM.out]; simp
   subst e
   go_wp2_with fail
   go_ret
   exact ⟨ret1 (za1 rfl), B3.out⟩
 simp only [Bool.true_and] at HM
 obtain ⟨_, _, c2, _, _, _, _, _, _⟩ := zam HX3.out
 obtain ⟨_, _, d2, _, _, _, _, _, _⟩ := zam HZ3.out
 go_wp2_with fail
 refine (zf3 _ _ M.ends M'.ends _ (R3.out.below B3.out) (S3.out.below B3.out)).mono ?_
 rintro e w4 ⟨rfl, hb⟩
 have B4 := zhd (zae B3.out hb)
 have HX4 := zhd (zaf hb HX3.out); have HZ4 := zhd (zaf hb HZ3.out)
 clear hb HX3 HZ3 B3 c2 d2
 generalize decide (M.ends = M'.ends) = q3 at *
 cases q3
 · have e : res = false := by rw [HM.out]; simp
   subst e
   go_wp2_with fail
   go_ret
   exact ⟨ret1 (za1 rfl), B4.out⟩
 simp only [Bool.true_and] at HM
 obtain ⟨_, _, _, c3, c4, c5, _, _, _⟩ := zam HX4.out
 obtain ⟨_, _, _, d3, d4, d5, _, _, _⟩ := zam HZ4.out
 go_wp2_with fail
 refine (same_mem _ _ M.mem M'.mem _ (R4.out.below B4.out) (S4.out.below B4.out)).mono ?_
 rintro e w5 ⟨rfl, hb⟩
 have B5 := zhd (zae B4.out hb)
 have HX5 := zhd (zaf hb HX4.out); have HZ5 := zhd (zaf hb HZ4.out)
 clear hb HX4 HZ4 B4 c3 d3 c4 d4 c5 d5
 generalize decide (M.mem = M'.mem) = q4 at *
 cases q4
 · have e : res = false := by rw [HM.out]; simp
   subst e
   go_wp2_with fail
   go_ret
   exact ⟨ret1 (za1 rfl), B5.out⟩
 simp only [Bool.true_and] at HM
 obtain ⟨_, _, _, _, _, _, c6, _, _⟩ := zam HX5.out
 obtain ⟨_, _, _, _, _, _, d6, _, _⟩ := zam HZ5.out
 go_wp2_with fail
 refine (zks _ _ _ _ qs qs' M.devs M'.devs _ (R5.out.below B5.out) (S5.out.below B5.out) (R5Q.out.below B5.out) (S5Q.out.below B5.out)).mono ?_
 rintro e w6 ⟨rfl, hb⟩
 have B6 := zhd (zae B5.out hb)
 have HX6 := zhd (zaf hb HX5.out); have HZ6 := zhd (zaf hb HZ5.out)
 clear hb HX5 HZ5 B5 c6 d6
 generalize decide (M.devs = M'.devs) = q5 at *
 cases q5
 · have e : res = false := by rw [HM.out]; simp
   subst e
   go_wp2_with fail
   go_ret
   exact ⟨ret1 (za1 rfl), B6.out⟩
 simp only [Bool.true_and] at HM
 obtain ⟨_, _, _, _, _, _, _, c7, _⟩ := zam HX6.out
 obtain ⟨_, _, _, _, _, _, _, d7, _⟩ := zam HZ6.out
 go_wp2_with fail
 refine (zkq _ _ M.lines M'.lines _ (R6.out.below B6.out) (S6.out.below B6.out)).mono ?_
 rintro e w7 ⟨rfl, hb⟩
 have B7 := zhd (zae B6.out hb)
 have HX7 := zhd (zaf hb HX6.out); have HZ7 := zhd (zaf hb HZ6.out)
 clear hb HX6 HZ6 B6 c7 d7
 generalize decide (M.lines = M'.lines) = q6 at *
 cases q6
 · have e : res = false := by rw [HM.out]; simp
   subst e
   go_wp2_with fail
   go_ret
   exact ⟨ret1 (za1 rfl), B7.out⟩
 simp only [Bool.true_and] at HM
 obtain ⟨_, _, _, _, _, _, _, _, c8⟩ := zam HX7.out
 obtain ⟨_, _, _, _, _, _, _, _, d8⟩ := zam HZ7.out
 go_wp2_with fail
 refine (zmu _ _ M.trace M'.trace _ (R7.out.below B7.out) (S7.out.below B7.out)).mono ?_
 rintro e w8 ⟨rfl, hb⟩
 have B8 := zhd (zae B7.out hb)
 clear hb HX7 HZ7 B7 c8 d8
 go_wp2_with fail
 go_ret
 exact ⟨ret1 (za1 HM.out.symm), B8.out⟩
end
section
open Go.RowKit
set_option maxRecDepth 100000
theorem zhc {α : Type} (p : α → Bool) (l : List α) (x : α) : (l ++ [x]).any p = (l.any p || p x) := by simp
theorem zhd9 {α : Type} {p : α → Bool} {l : List α} {j : Nat} {x : α} (hx : l[j]? = some x) (h : p x = true) : l.any p = true := List.any_eq_true.2 ⟨x, List.mem_of_getElem? hx, h⟩
def IdxP (w : World) (r : Bool) (e : Ending) (w' : World) : Prop := (∃ n : Int, e = .returned (.int .i64 n) ∧ decide (0 ≤ n) = r) ∧ Below w.heap.size w w'
def oddW (z : Int) : Bool := !(decide (0 ≤ z) && decide (z < 4294967296))
def badK (z : Int) : Bool := !(decide (1 ≤ z) && decide (z ≤ 3))
def oddL (H : Int) (l : Ln) : Bool := decide (l.h < 0) || (decide (H ≤ l.h) || (decide (l.p < 0) || decide (7 < l.p)))
theorem zmN (z : Int) (w : World) (hz : 0 ≤ z ∧ z < 4294967296) (r : Bool) (hr : oddW z = r) :
 Calls Tryz.prog 66 #[.int .i64 z] w fun e w' => e = .returned (.bool r) ∧ Below w.heap.size w w' := by
 have hr' : r = false := by rw [← hr]; simp [oddW, hz]
 subst hr'
 obtain ⟨h0, h1⟩ := hz
 have a1 : IntKind.u32.wrap z = z := by rw [IntKind.wrap_u32]; omega
 have a2 : IntKind.i64.wrap z = z := IntWalk.i64_in _ (by omega)
 have a3 : z % 4294967296 = z := by omega
 have a4 : (z != z) = false := by simp
 clear hr
 go_enter Tryz.func66, Tryz.ntmps66
 go_wp2_with fail
 go_ret
 exact ⟨ret1 (za1 (by simp [a1, a2])), Below.refl _ _⟩
theorem field_st (a b c d f g h k : Value) (w : World) : (Instr.field 75 (.agg #[a, b, c, d, f, g, h, k]) 0).run Tryz.prog w = .ok a w := by kernel_rfl
theorem zmO (z : Int) (w : World) (r : Bool) (hr : badK z = r) :
 Calls Tryz.prog 26 #[.int .i64 z] w fun e w' => e = .returned (.bool r) ∧ Below w.heap.size w w' := by
 obtain ⟨K, hK, hc⟩ : ∃ K : Int, (∀ w, Calls Tryz.prog 27 #[.int .i64 z] w fun e w' => ∃ v', e = .returned v' ∧ IsStF w.heap.size w' v' (newS K) ∧ Below w.heap.size w w') ∧ ((newS K).k == 0) = r := by
  by_cases h : 1 ≤ z ∧ z ≤ 3
  · refine ⟨z, fun w => zjr z w h, ?_⟩
    rw [← hr]
    have : z = 1 ∨ z = 2 ∨ z = 3 := by omega
    rcases this with rfl | rfl | rfl <;> rfl
  · refine ⟨0, fun w => zlG z (by omega) (by omega) (by omega) w, ?_⟩
    rw [← hr]
    have : badK z = true := by simp [badK]; omega
    rw [this]; rfl
 generalize newS K = S at *
 have HK := fun w => zhd (hK w)
 clear hr hK
 have hf := fun b c d f g h k w => field_st (.int .i64 S.k) b c d f g h k w
 go_enter Tryz.func26, Tryz.ntmps26
 go_wp2_with (go_at_call 27; ((with_reducible refine ((HK _).out).mono ?_); rintro e w1 ⟨v1, rfl, ⟨q1, rfl, _, _⟩, hb1⟩; unfold stC))
 go_ret
 exact ⟨ret1 (za1 (by first | rfl | exact hc)), hb1⟩
theorem zju (l : Ln) (H : Int) (hb : Nat) (w : World) (hq : w.cell? ⟨hb, 0, none⟩ = some (.int .i64 H)) (hlt : hb < w.heap.size) (r : Bool) (hr : oddL H l = r) :
 Calls Tryz.prog 28 #[.agg #[.int .i64 l.h, .int .i64 l.p, .bool l.r], .pointer (some ⟨hb, 0, none⟩)] w fun e w' => e = .returned (.bool r) ∧ Below w.heap.size w w' := by
 obtain ⟨lh, lp, lr⟩ := l
 simp only at *
 subst hr
 by_cases h0 : lh < 0
 · have e : oddL H ⟨lh, lp, lr⟩ = true := by simp [oddL, h0]
   rw [e]
   go_enter Tryz.func28, Tryz.ntmps28
   go_wp2_with fail
   go_ret
   exact ⟨ret1 (za1 rfl), zan _ _⟩
 · by_cases h1 : H ≤ lh
   · have e : oddL H ⟨lh, lp, lr⟩ = true := by simp [oddL, h1]
     rw [e]
     go_enter Tryz.func28, Tryz.ntmps28
     go_wp2_with fail
     go_ret
     exact ⟨ret1 (za1 rfl), zan _ _⟩
   · by_cases h2 : lp < 0
     · have e : oddL H ⟨lh, lp, lr⟩ = true := by simp [oddL, h2]
       rw [e]
       go_enter Tryz.func28, Tryz.ntmps28
       go_wp2_with fail
       go_ret
       exact ⟨ret1 (za1 rfl), zan _ _⟩
     · have e : oddL H ⟨lh, lp, lr⟩ = decide (7 < lp) := by simp [oddL, h0, h1, h2]
       rw [e]
       go_enter Tryz.func28, Tryz.ntmps28
       go_wp2_with fail
       go_ret
       exact ⟨ret1 (za1 (by simp)), zan _ _⟩
set_option maxHeartbeats 2000000 in
theorem zl9 (v : Value) (l : List Int) (w : World) (h : Reads w 1 l.length v (intC l)) (hw : ∀ z ∈ l, 0 ≤ z ∧ z < 4294967296) :
 Calls Tryz.prog 68 #[v, .func (.func 66) #[] #[]] w (IdxP w (l.any (oddW))) := by
 obtain ⟨a, c, rfl⟩ := h.shape
 have HR := zhd h; clear h
 have H_hw := zhd hw; clear hw
 unfold IdxP
 by_cases hl0 : l = []
 · subst hl0
   simp only [List.length_nil] at *
   go_enter Tryz.func68, Tryz.ntmps68
   go_wp2_with fail
   refine wp_loop_rounds 1 ?_
   rw [rounds_succ]
   go_wp2_with fail
   go_ret
   exact ⟨⟨_, rfl, by simp⟩, Below.refl _ _⟩
 · obtain ⟨b, o, c0, hv, hlt, hc, hm, hcell⟩ := HR.out.some (by cases l; exact absurd rfl hl0; simp)
   injection hv with e1 e1n e2
   subst e1 e2
   clear e1n
   have HC := zhd hcell
   obtain ⟨k, hk⟩ : ∃ k, l.length = k := ⟨_, rfl⟩
   have HL := zhd hk
   rw [hk] at hc ⊢
   clear hcell hk hl0
   unfold maxLen at hm
   go_enter Tryz.func68, Tryz.ntmps68
   go_wp2_with fail
   go_loopw [8, 5] (fun i _ wr => ∃ j : Nat, j ≤ k ∧ i = .int .i64 j ∧ (l.take j).any (oddW) = false ∧ Below w.heap.size w wr) (fun i _ _ => k - (intOf i).toNat)
   case atStart => exact ⟨0, Nat.zero_le _, rfl, rfl, Below.refl _ _⟩
   case round =>
    obtain ⟨j, hj, rfl, ha, hbb⟩ := hrel
    have HA := zhd ha; have HB := zhd hbb; clear ha hbb
    by_cases hjk : j < k
    · have hjl : j < l.length := by rw [HL.out]; exact hjk
      have g1 : wr.cell? ⟨b, o + j, none⟩ = some (.int .i64 l[j]) := (HB.out.cell (p := ⟨b, o + j, none⟩) hlt).trans (HC.out j _ (by simp [intC, hjl]))
      have hxx : Hid (0 ≤ l[j] ∧ l[j] < 4294967296) := zhd (H_hw.out _ (List.getElem_mem _))
      have HX : Hid (l[j]? = some l[j]) := zhd (by simp)
      have HS : Hid ((l.take (j + 1)).any (oddW) = ((l.take j).any (oddW) || (oddW) l[j])) := zhd (by rw [List.take_succ_eq_append_getElem hjl, zhc])
      generalize l[j] = x at *
      cases hx : (oddW) x
      · have HN : Hid ((l.take (j + 1)).any (oddW) = false) := zhd (by rw [HS.out, HA.out, hx]; rfl)
        have HE := zhd hx; clear hx
        go_wp2_with (go_at_call 66; ((with_reducible refine (zmN x _ hxx.out false HE.out).mono ?_); rintro e w1 ⟨rfl, hb1⟩))
        go_roundw
        case rel => exact ⟨j + 1, by omega, by go_num, HN.out, zae HB.out hb1⟩
        case measure => simp [intOf]; omega
      · have HT : Hid (l.any (oddW) = true) := zhd (zhd9 HX.out hx)
        have HE := zhd hx; clear hx
        go_wp2_with (go_at_call 66; ((with_reducible refine (zmN x _ hxx.out true HE.out).mono ?_); rintro e w1 ⟨rfl, hb1⟩))
        go_ret
        exact ⟨⟨_, rfl, by rw [HT.out]; simp⟩, zae HB.out hb1⟩
    · have hjn : j = k := by omega
      subst hjn
      go_wp2_with fail
      go_ret
      exact ⟨⟨_, rfl, by have h1 := HA.out; rw [show l.take j = l from by rw [← HL.out, List.take_length]] at h1; rw [h1]; rfl⟩, HB.out⟩
theorem has_odd (v : Value) (l : List Int) (r : Bool) (w : World) (hr : l.any (oddW) = r) (h : Reads w 1 l.length v (intC l)) (hw : ∀ z ∈ l, 0 ≤ z ∧ z < 4294967296) :
 Calls Tryz.prog 31 #[v, .func (.func 66) #[] #[]] w fun e w' => e = .returned (.bool r) ∧ Below w.heap.size w w' := by
 subst hr
 have HI := zhd (zl9 v l w h hw)
 clear h hw
 go_enter Tryz.func31, Tryz.ntmps31
 go_wp2_with (go_at_call 68; ((with_reducible refine (HI.out).mono ?_); rintro e w1 ⟨⟨n, rfl, hn⟩, hb1⟩; have HNN := zhd hn; clear hn))
 go_ret
 exact ⟨ret1 (za1 (by first | exact HNN.out | rfl)), hb1⟩
set_option maxHeartbeats 2000000 in
theorem zmb (v : Value) (l : List Int) (w : World) (h : Reads w 1 l.length v (intC l)) :
 Calls Tryz.prog 68 #[v, .func (.func 26) #[] #[]] w (IdxP w (l.any (badK))) := by
 obtain ⟨a, c, rfl⟩ := h.shape
 have HR := zhd h; clear h
 unfold IdxP
 by_cases hl0 : l = []
 · subst hl0
   simp only [List.length_nil] at *
   go_enter Tryz.func68, Tryz.ntmps68
   go_wp2_with fail
   refine wp_loop_rounds 1 ?_
   rw [rounds_succ]
   go_wp2_with fail
   go_ret
   exact ⟨⟨_, rfl, by simp⟩, Below.refl _ _⟩
 · obtain ⟨b, o, c0, hv, hlt, hc, hm, hcell⟩ := HR.out.some (by cases l; exact absurd rfl hl0; simp)
   injection hv with e1 e1n e2
   subst e1 e2
   clear e1n
   have HC := zhd hcell
   obtain ⟨k, hk⟩ : ∃ k, l.length = k := ⟨_, rfl⟩
   have HL := zhd hk
   rw [hk] at hc ⊢
   clear hcell hk hl0
   unfold maxLen at hm
   go_enter Tryz.func68, Tryz.ntmps68
   go_wp2_with fail
   go_loopw [8, 5] (fun i _ wr => ∃ j : Nat, j ≤ k ∧ i = .int .i64 j ∧ (l.take j).any (badK) = false ∧ Below w.heap.size w wr) (fun i _ _ => k - (intOf i).toNat)
   case atStart => exact ⟨0, Nat.zero_le _, rfl, rfl, Below.refl _ _⟩
   case round =>
    obtain ⟨j, hj, rfl, ha, hbb⟩ := hrel
    have HA := zhd ha; have HB := zhd hbb; clear ha hbb
    by_cases hjk : j < k
    · have hjl : j < l.length := by rw [HL.out]; exact hjk
      have g1 : wr.cell? ⟨b, o + j, none⟩ = some (.int .i64 l[j]) := (HB.out.cell (p := ⟨b, o + j, none⟩) hlt).trans (HC.out j _ (by simp [intC, hjl]))
      have HX : Hid (l[j]? = some l[j]) := zhd (by simp)
      have HS : Hid ((l.take (j + 1)).any (badK) = ((l.take j).any (badK) || (badK) l[j])) := zhd (by rw [List.take_succ_eq_append_getElem hjl, zhc])
      generalize l[j] = x at *
      cases hx : (badK) x
      · have HN : Hid ((l.take (j + 1)).any (badK) = false) := zhd (by rw [HS.out, HA.out, hx]; rfl)
        have HE := zhd hx; clear hx
        go_wp2_with (go_at_call 26; ((with_reducible refine (zmO x _ false HE.out).mono ?_); rintro e w1 ⟨rfl, hb1⟩))
        go_roundw
        case rel => exact ⟨j + 1, by omega, by go_num, HN.out, zae HB.out hb1⟩
        case measure => simp [intOf]; omega
      · have HT : Hid (l.any (badK) = true) := zhd (zhd9 HX.out hx)
        have HE := zhd hx; clear hx
        go_wp2_with (go_at_call 26; ((with_reducible refine (zmO x _ true HE.out).mono ?_); rintro e w1 ⟨rfl, hb1⟩))
        go_ret
        exact ⟨⟨_, rfl, by rw [HT.out]; simp⟩, zae HB.out hb1⟩
    · have hjn : j = k := by omega
      subst hjn
      go_wp2_with fail
      go_ret
      exact ⟨⟨_, rfl, by have h1 := HA.out; rw [show l.take j = l from by rw [← HL.out, List.take_length]] at h1; rw [h1]; rfl⟩, HB.out⟩
theorem has_bad (v : Value) (l : List Int) (r : Bool) (w : World) (hr : l.any (badK) = r) (h : Reads w 1 l.length v (intC l)) :
 Calls Tryz.prog 31 #[v, .func (.func 26) #[] #[]] w fun e w' => e = .returned (.bool r) ∧ Below w.heap.size w w' := by
 subst hr
 have HI := zhd (zmb v l w h )
 clear h 
 go_enter Tryz.func31, Tryz.ntmps31
 go_wp2_with (go_at_call 68; ((with_reducible refine (HI.out).mono ?_); rintro e w1 ⟨⟨n, rfl, hn⟩, hb1⟩; have HNN := zhd hn; clear hn))
 go_ret
 exact ⟨ret1 (za1 (by first | exact HNN.out | rfl)), hb1⟩
set_option maxHeartbeats 2000000 in
theorem zkf (H : Int) (v : Value) (l : List Ln) (w : World) (h : Reads w 3 l.length v (zaT lnC l)) (hb : Nat) (hq : w.cell? ⟨hb, 0, none⟩ = some (.int .i64 H)) (hbl : hb < w.heap.size) :
 Calls Tryz.prog 69 #[v, .func (.func 28) #[] #[.pointer (some ⟨hb, 0, none⟩)]] w (IdxP w (l.any (oddL H))) := by
 obtain ⟨a, c, rfl⟩ := h.shape
 have HR := zhd h; clear h
 have H_hq := zhd hq; clear hq
 have H_hbl := zhd hbl; clear hbl
 unfold IdxP
 by_cases hl0 : l = []
 · subst hl0
   simp only [List.length_nil] at *
   go_enter Tryz.func69, Tryz.ntmps69
   go_wp2_with fail
   refine wp_loop_rounds 1 ?_
   rw [rounds_succ]
   go_wp2_with fail
   go_ret
   exact ⟨⟨_, rfl, by simp⟩, Below.refl _ _⟩
 · obtain ⟨b, o, c0, hv, hlt, hc, hm, hcell⟩ := HR.out.some (by cases l; exact absurd rfl hl0; simp)
   injection hv with e1 e1n e2
   subst e1 e2
   clear e1n
   have HC := zhd hcell
   obtain ⟨k, hk⟩ : ∃ k, l.length = k := ⟨_, rfl⟩
   have HL := zhd hk
   rw [hk] at hc ⊢
   clear hcell hk hl0
   unfold maxLen at hm
   go_enter Tryz.func69, Tryz.ntmps69
   go_wp2_with fail
   go_loopw [8, 5] (fun i _ wr => ∃ j : Nat, j ≤ k ∧ i = .int .i64 j ∧ (l.take j).any (oddL H) = false ∧ Below w.heap.size w wr) (fun i _ _ => k - (intOf i).toNat)
   case atStart => exact ⟨0, Nat.zero_le _, rfl, rfl, Below.refl _ _⟩
   case round =>
    obtain ⟨j, hj, rfl, ha, hbb⟩ := hrel
    have HA := zhd ha; have HB := zhd hbb; clear ha hbb
    by_cases hjk : j < k
    · have hjl : j < l.length := by rw [HL.out]; exact hjk
      have g0 : wr.cell? ⟨b, o + j * 3, none⟩ = some (.int .i64 l[j].h) := (HB.out.cell (p := ⟨b, o + j * 3, none⟩) hlt).trans (HC.out (j * 3) _ ((zaY (f := lnC) (k := 3) (fun y _ => rfl) (l := l) (i := j) (x := l[j]) (List.getElem?_eq_getElem hjl) (j := 0) (by decide)).trans rfl))
      have g1 : wr.cell? ⟨b, o + j * 3 + 1, none⟩ = some (.int .i64 l[j].p) := (HB.out.cell (p := ⟨b, o + j * 3 + 1, none⟩) hlt).trans (HC.out (j * 3 + 1) _ ((zaY (f := lnC) (k := 3) (fun y _ => rfl) (l := l) (i := j) (x := l[j]) (List.getElem?_eq_getElem hjl) (j := 1) (by decide)).trans rfl))
      have g2 : wr.cell? ⟨b, o + j * 3 + 2, none⟩ = some (.bool l[j].r) := (HB.out.cell (p := ⟨b, o + j * 3 + 2, none⟩) hlt).trans (HC.out (j * 3 + 2) _ ((zaY (f := lnC) (k := 3) (fun y _ => rfl) (l := l) (i := j) (x := l[j]) (List.getElem?_eq_getElem hjl) (j := 2) (by decide)).trans rfl))
      have hqr : Hid (wr.cell? ⟨hb, 0, none⟩ = some (.int .i64 H)) := zhd ((HB.out.cell (p := ⟨hb, 0, none⟩) H_hbl.out).trans H_hq.out)
      have hlr : Hid (hb < wr.heap.size) := zhd (Nat.lt_of_lt_of_le H_hbl.out HB.out.size)
      have HX : Hid (l[j]? = some l[j]) := zhd (by simp)
      have HS : Hid ((l.take (j + 1)).any (oddL H) = ((l.take j).any (oddL H) || (oddL H) l[j])) := zhd (by rw [List.take_succ_eq_append_getElem hjl, zhc])
      generalize l[j] = x at *
      cases hx : (oddL H) x
      · have HN : Hid ((l.take (j + 1)).any (oddL H) = false) := zhd (by rw [HS.out, HA.out, hx]; rfl)
        have HE := zhd hx; clear hx
        go_wp2_with (go_at_call 28; ((with_reducible refine (zju x H hb _ hqr.out hlr.out false HE.out).mono ?_); rintro e w1 ⟨rfl, hb1⟩))
        go_roundw
        case rel => exact ⟨j + 1, by omega, by go_num, HN.out, zae HB.out hb1⟩
        case measure => simp [intOf]; omega
      · have HT : Hid (l.any (oddL H) = true) := zhd (zhd9 HX.out hx)
        have HE := zhd hx; clear hx
        go_wp2_with (go_at_call 28; ((with_reducible refine (zju x H hb _ hqr.out hlr.out true HE.out).mono ?_); rintro e w1 ⟨rfl, hb1⟩))
        go_ret
        exact ⟨⟨_, rfl, by rw [HT.out]; simp⟩, zae HB.out hb1⟩
    · have hjn : j = k := by omega
      subst hjn
      go_wp2_with fail
      go_ret
      exact ⟨⟨_, rfl, by have h1 := HA.out; rw [show l.take j = l from by rw [← HL.out, List.take_length]] at h1; rw [h1]; rfl⟩, HB.out⟩
theorem has_line (H : Int) (v : Value) (l : List Ln) (r : Bool) (w : World) (hr : l.any (oddL H) = r) (h : Reads w 3 l.length v (zaT lnC l)) (hb : Nat) (hq : w.cell? ⟨hb, 0, none⟩ = some (.int .i64 H)) (hbl : hb < w.heap.size) :
 Calls Tryz.prog 32 #[v, .func (.func 28) #[] #[.pointer (some ⟨hb, 0, none⟩)]] w fun e w' => e = .returned (.bool r) ∧ Below w.heap.size w w' := by
 subst hr
 have HI := zhd (zkf H v l w h hb hq hbl)
 clear h hq hbl
 go_enter Tryz.func32, Tryz.ntmps32
 go_wp2_with (go_at_call 69; ((with_reducible refine (HI.out).mono ?_); rintro e w1 ⟨⟨n, rfl, hn⟩, hb1⟩; have HNN := zhd hn; clear hn))
 go_ret
 exact ⟨ret1 (za1 (by first | exact HNN.out | rfl)), hb1⟩
end
section
open Go.RowKit
set_option maxRecDepth 100000
set_option maxHeartbeats 1000000 in
theorem zie (n : Int) (w : World) :
 Calls Tryz.prog 67 #[.slice none 0 0, .int .i64 n] w fun e w' => e = .returned (.bool true) ∧ Below w.heap.size w w' := by
 go_enter Tryz.func67, Tryz.ntmps67
 go_wp2_with fail
 refine wp_loop_rounds 1 ?_
 rw [rounds_succ]
 go_wp2_with fail
 go_ret
 exact ⟨ret1 (za1 rfl), Below.refl _ _⟩
structure IsImg (w : World) (v : Value) (ws : List Int) (mem : Nat) : Prop where
 shape : ∃ a c, v = .agg #[.slice a ws.length c, .int .i64 (mem : Int), .slice none 0 0] ∧ Reads w 1 ws.length (.slice a ws.length c) (intC ws)
 words : ∀ z ∈ ws, 0 ≤ z ∧ z < 4294967296
 few : ws.length ≤ 65536
 mem : mem ≤ 4096
theorem IsImg.below {w w' : World} {v : Value} {ws : List Int} {m : Nat} (h : IsImg w v ws m) (hb : Below w.heap.size w w') : IsImg w' v ws m := by
 obtain ⟨a, c, rfl, hr⟩ := h.shape
 exact ⟨⟨a, c, rfl, hr.below hb⟩, h.words, h.few, h.mem⟩
set_option maxHeartbeats 2000000 in
theorem zlc (v : Value) (ws : List Int) (mem : Nat) (w : World) (h : IsImg w v ws mem) :
 Calls Tryz.prog 30 #[v] w fun e w' => e = .returned (.bool true) ∧ Below w.heap.size w w' := by
 obtain ⟨a, c, rfl, hr⟩ := h.shape
 have HR := zhd hr; have HW := zhd h.words
 have hn := h.few; have hm := h.mem
 clear hr h
 have HO : Hid (ws.any oddW = false) := zhd (by
  rw [List.any_eq_false]
  intro z hz
  have := HW.out z hz
  simp [oddW, this])
 obtain ⟨n, hnl⟩ : ∃ n, ws.length = n := ⟨_, rfl⟩
 have HN := zhd hnl
 rw [hnl] at hn HR ⊢
 clear hnl
 obtain ⟨w1, hw1, hx1, hb1, _⟩ := zbY w (.cells #[.slice a n c, .int .i64 (mem : Int), .slice none 0 0] 43)
 have HB1 := zhd hb1
 obtain ⟨c0, c1, c2⟩ := zah hx1
 have HX1 := zhd hx1
 clear hb1 hx1
 go_enter Tryz.func30, Tryz.ntmps30
 go_upto_region 2 with (fail)
 rw [← hw1]; clear hw1
 go_wp2_with fail
 refine (has_odd _ ws false _ HO.out (by rw [HN.out]; exact HR.out.below HB1.out) HW.out).mono ?_
 rintro e w2 ⟨rfl, hb2⟩
 obtain ⟨d0, d1, d2⟩ := zah (zaf hb2 HX1.out)
 have HB2 := zhd (zae HB1.out hb2)
 clear c0 c1 c2 hb2 HB1 HX1
 go_wp2_with fail
 refine (zie _ _).mono ?_
 rintro e w3 ⟨rfl, hb3⟩
 have HB3 := zhd (zae HB2.out hb3)
 clear hb3
 go_wp2_with fail
 go_ret
 exact ⟨ret1 (za1 rfl), HB3.out⟩
end
section
open Go.RowKit
set_option maxRecDepth 100000
def letL (l : Ln) : Ln := { l with r := false }
def zdS (k : Nat) (ws : List Int) (mem : Nat) (kinds : List Int) (lines : List Ln) : Mac := ⟨ws, List.replicate k zHt, List.replicate k 0, zct k mem, kinds.map newS, lines.map letL, []⟩
theorem zkN : hC zHt = List.replicate 39 (.int .i64 0) := by
 simp [hC, hL, zHt]
theorem zlb (n : Nat) : zaT hC (List.replicate n zHt) = List.replicate (n * 39) (.int .i64 0) := by
 induction n with
 | zero => simp [zaT]
 |
  succ n ih =>
  rw [List.replicate_succ]
  have : zaT hC (zHt :: List.replicate n zHt) = hC zHt ++ zaT hC (List.replicate n zHt) := by simp [zaT]
  rw [this, ih, zkN, Nat.succ_mul, Nat.add_comm, List.replicate_append_replicate]
theorem zA_all (i : Nat) (h : i < 39) : zA[i]! = .int .i64 0 := by
 have : zA = Array.replicate 39 (.int .i64 0) := by rfl
 rw [this]
 simp [h]
theorem zlS (n : Nat) : (madeCells zA (n * 39)).toList = zaT hC (List.replicate n zHt) := by
 rw [zlb]
 apply List.ext_getElem?
 intro i
 have hz : zA.size = 39 := rfl
 simp only [madeCells, Array.toList_map, Array.toList_range, List.getElem?_map, List.getElem?_replicate, hz]
 by_cases h : i < n * 39
 · rw [List.getElem?_range h, if_pos h]
   simp only [Option.map_some]
   rw [zA_all _ (Nat.mod_lt _ (by decide))]
 · rw [if_neg h, List.getElem?_eq_none (by simpa using by omega)]; rfl
theorem zlR (n : Nat) : (madeCells #[.int .i64 0] (n * 1)).toList = intC (List.replicate n 0) := by rw [zgV]; simp [intC]
theorem zi4 {w w' : World} {qs : List Value} {devs : List St} (h : QuesAt w qs devs) (hn : ∀ s ∈ devs, s.q = []) (hs : w.heap.size ≤ w'.heap.size) : QuesAt w' qs devs := by
 refine ⟨h.1, fun i q s hq hd => ?_⟩
 have hr := h.2 i q s hq hd
 have e := hn s (List.mem_of_getElem? hd)
 unfold qL at hr ⊢
 rw [e] at hr ⊢
 refine ⟨hr.1, hr.2.1, ?_⟩
 rcases hr.2.2 with h | ⟨b, o, c, rfl, hlt, hc, hm, hcell⟩
 · exact .inl h
 · exact .inr ⟨b, o, c, rfl, Nat.lt_of_lt_of_le hlt hs, hc, hm, fun j u hj => by simp at hj⟩
theorem zly {w : World} {qs : List Value} {devs : List St} {q : Value} {s : St} (h : QuesAt w qs devs) (hq : Reads w 1 s.q.length q (qL s)) : QuesAt w (qs ++ [q]) (devs ++ [s]) := by
 refine ⟨by simp [h.1], fun i q' s' h1 h2 => ?_⟩
 by_cases hi : i < devs.length
 · rw [List.getElem?_append_left (by rw [h.1]; exact hi)] at h1
   rw [List.getElem?_append_left hi] at h2
   exact h.2 i q' s' h1 h2
 · have hl : i < devs.length + 1 := by have := (List.getElem?_eq_some_iff.1 h2).1; simpa using this
   have hi' : i = devs.length := by omega
   subst hi'
   rw [← h.1] at h1
   rw [List.getElem?_append_right (Nat.le_refl _)] at h1
   rw [List.getElem?_append_right (Nat.le_refl _)] at h2
   simp at h1 h2
   subst h1 h2
   exact hq
structure NewMid (w : World) (B b : Nat) (wv hv ev m1 m2 m3 dv lv : Value) (qs : List Value) (M : Mac) : Prop where
 at_ : w.heap[b]? = some (.cells #[wv, hv, ev, m1, m2, m3, dv, lv, .slice none 0 0] 37 (0, 0))
 base : B ≤ b
 parts : Parts w B wv hv ev m1 m2 m3 dv lv (.slice none 0 0) qs M
 noq : ∀ s ∈ M.devs, s.q = []
section
variable {w w' : World} {B b : Nat} {wv hv ev m1 m2 m3 dv lv : Value} {qs : List Value} {M : Mac}
theorem NewMid.below (h : NewMid w B b wv hv ev m1 m2 m3 dv lv qs M) (hb : Below w.heap.size w w') : NewMid w' B b wv hv ev m1 m2 m3 dv lv qs M :=
 ⟨zaq hb (zao h.at_) h.at_, h.base, h.parts.below hb, h.noq⟩
theorem NewMid.isMac (h : NewMid w B b wv hv ev m1 m2 m3 dv lv qs M) : IsMac w (.agg #[wv, hv, ev, m1, m2, m3, dv, lv, .slice none 0 0]) M := ⟨_, _, _, _, _, _, _, _, _, _, rfl, h.parts.zero⟩
theorem NewMid.dev (h : NewMid w B b wv hv ev m1 m2 m3 dv lv qs M) (hg : w.grownBy w' dv.ownBlock) {dv' q : Value} {s : St} (hs : s.q = [])
 (hd : w'.ownsRow B 75 8 dv' (M.devs.length + 1) (zaT sC (M.devs.zip qs) ++ sC (s, q))) (hq : Reads w 1 s.q.length q (qL s)) :
 NewMid (w'.setCell ⟨b, 6, none⟩ dv') B b wv hv ev m1 m2 m3 dv' lv (qs ++ [q]) { M with devs := M.devs ++ [s] } := by
 have T := h.parts.devs
 have hx : w'.heap[b]? = some (.cells #[wv, hv, ev, m1, m2, m3, dv, lv, .slice none 0 0] 37 (0, 0)) := by
  rw [hg.block b (zao h.at_) (fun e => zar T h.at_ (by decide) e.symm)]; exact h.at_
 have hm : IsMem w' (.agg #[m1, m2, m3]) M.mem := by
  obtain ⟨a, b, c, rows, e, k1, k2, k3, k4⟩ := h.parts.mem
  injection e with e
  have e1 : m1 = a := by have := congrArg (·[0]?) e; simpa using this
  have e2 : m2 = b := by have := congrArg (·[1]?) e; simpa using this
  have e3 : m3 = c := by have := congrArg (·[2]?) e; simpa using this
  subst e1 e2 e3
  exact ⟨_, _, _, rows, rfl, zbc k1 hg fun g e => zaC T k1 (by decide) e, zbc k2 hg fun g e => zaC T k2 (by decide) e, zbc k3 hg fun g e => zaC T k3 (by decide) e, k4.1, fun i r l hr hl => zbc (k4.2 i r l hr hl) hg fun g e => zaC T (k4.2 i r l hr hl) (by decide) e⟩
 have K := zby w' b 6 dv'
 have r1 := zbc h.parts.words hg fun g e => zaC T h.parts.words (by decide) e
 have r2 := zbc h.parts.harts hg fun g e => zaC T h.parts.harts (by decide) e
 have r3 := zbc h.parts.ends hg fun g e => zaC T h.parts.ends (by decide) e
 have r6 := zbc h.parts.lines hg fun g e => zaC T h.parts.lines (by decide) e
 have r7 := zbc h.parts.trace hg fun g e => zaC T h.parts.trace (by decide) e
 have hno : ∀ x ∈ M.devs ++ [s], x.q = [] := fun x hx => by
  rcases List.mem_append.1 hx with h1 | h1
  · exact h.noq x h1
  · simp at h1; subst h1; exact hs
 have hz : (M.devs ++ [s]).zip (qs ++ [q]) = M.devs.zip qs ++ [(s, q)] := by rw [List.zip_append h.parts.ques.1.symm]; rfl
 refine ⟨zaG hx 6 dv', h.base, ⟨zas r1 K (zar r1 hx (by decide)), zas r2 K (zar r2 hx (by decide)), zas r3 K (zar r3 hx (by decide)), zcu hm K hx (by decide) (by decide), ?_,
  zi4 (zly h.parts.ques hq) hno (Nat.le_trans hg.size K.1), zas r6 K (zar r6 hx (by decide)), zas r7 K (zar r7 hx (by decide))⟩, hno⟩
 have e : (M.devs ++ [s]).length = M.devs.length + 1 := by simp
 rw [hz, zbW]
 simp only
 rw [e]
 have := zas hd K (zar hd hx (by decide))
 simpa [zaT] using this
theorem NewMid.line (h : NewMid w B b wv hv ev m1 m2 m3 dv lv qs M) {g n c : Nat} (hlv : lv = .slice (some ⟨g, 0, none⟩) n c) {i : Nat} (hi : i < M.lines.length) :
 NewMid (w.setCell ⟨g, i * 3 + 2, none⟩ (.bool false)) B b wv hv ev m1 m2 m3 dv lv qs { M with lines := M.lines.set i (letL M.lines[i]) } := by
 have hb : lv.ownBlock = some g := by rw [hlv]; rfl
 obtain ⟨cur, hg⟩ := zbx h.parts.lines hb
 have K := zby w g (i * 3 + 2) (.bool false)
 have hpg : b ≠ g := by rintro rfl; have := h.at_; rw [hg] at this; injection this with e; injection e with _ e; exact absurd e (by decide)
 refine ⟨(K.2 b hpg).trans h.at_, h.base, ⟨zas h.parts.words K (zar h.parts.words hg (by decide)), zas h.parts.harts K (zar h.parts.harts hg (by decide)), zas h.parts.ends K (zar h.parts.ends hg (by decide)), zcu h.parts.mem K hg (by decide) (by decide), zas h.parts.devs K (zar h.parts.devs hg (by decide)),
  zi4 h.parts.ques h.noq K.1, ?_, zas h.parts.trace K (zar h.parts.trace hg (by decide))⟩, h.noq⟩
 have hn : n = M.lines.length := by obtain ⟨a, c', e⟩ := zai h.parts.lines; rw [hlv] at e; injection e
 have := h.parts.lines
 rw [hlv, hn] at this
 have := (World.ownsRow.stored this (i * 3 + 2) (.bool false)).1
 rw [hlv, hn]
 rw [zeK (fun y _ => zgX y) (x := M.lines[i]) (y := letL M.lines[i]) (List.getElem?_eq_getElem hi) (by decide) rfl] at this
 simpa using this
end
theorem zj6 (l : List Ln) (k : Nat) (hk : k < l.length) (h2 : k < ((l.take k).map letL ++ l.drop k).length) : ((l.take k).map letL ++ l.drop k).set k (letL ((l.take k).map letL ++ l.drop k)[k]) = (l.take (k + 1)).map letL ++ l.drop (k + 1) := by
 have hl : ((l.take k).map letL).length = k := by simp; omega
 have e : ((l.take k).map letL ++ l.drop k)[k] = l[k] := by
  rw [List.getElem_append_right (by omega)]
  simp only [List.getElem_drop, hl, Nat.sub_self, Nat.add_zero]
 rw [e]
 rw [List.set_append_right _ _ (by omega), hl, Nat.sub_self, List.drop_eq_getElem_cons hk, List.set_cons_zero, List.take_succ_eq_append_getElem hk, List.map_append]
 simp
end
end Go.Proofs.YtdobddiibgfeaaaGreat
