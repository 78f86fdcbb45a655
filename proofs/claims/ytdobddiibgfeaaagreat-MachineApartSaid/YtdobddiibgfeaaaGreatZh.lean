/-
  What the walks of this statement lean on (DevClone, DevMath, DevOf, DevMeth, DevDone, DevDone2, DevWrite, DevRead, DevInput, DevClo): shown.
-/
import Derived.Test.YtdobddiibgfeaaaGreatRows
import Derived.Test.YtdobddiibgfeaaaGreatZa
import Derived.Test.YtdobddiibgfeaaaGreatZb
import Derived.StillTailTactics
set_option linter.unusedVariables false
set_option linter.unusedSimpArgs false
namespace Go.Proofs.YtdobddiibgfeaaaGreat
section
open Go.RowKit

theorem zjj : (Tryz.prog.info? 3).map (fun i => (i.zero, i.size, i.bytes)) = some (some (.int .i64 0), 1, 8) := by kernel_rfl
set_option maxHeartbeats 1000000 in
theorem zbi (v : Value) (n : Nat) (xs : List Value) (w : World) (h : Reads w 1 n v xs) (hb : n * 8 ≤ 140737488355328) :
 Calls Tryz.prog 33 #[v] w fun e w' => ∃ v', e = .returned v' ∧ w'.ownsRow w.heap.size 3 1 v' n xs ∧ Below w.heap.size w w' := by
 obtain ⟨hl, h1, h2⟩ := h
 obtain ⟨i0, hi, hz0, hz1, hz2⟩ := info_parts zjj
 rcases h2 with ⟨rfl, rfl⟩ | ⟨b, o, c, rfl, hlt, hn, hm, hcell⟩
 · have hq := fun w : World => Lib.run_eql_slice_nil (P := Tryz.prog) w 24 3 none 0 0 0 0 Tryz.underlying24
   have hxs : xs = [] := List.eq_nil_of_length_eq_zero (by simpa using hl)
   have HX := zhd hxs; clear hxs hl hb
   go_enter Tryz.func33, Tryz.ntmps33
   go_wp2
   go_ret
   exact ⟨_, rfl, by rw [HX.out]; exact World.ownsRow_nil _ _ _ _, Below.refl _ _⟩
 · have hq := fun w : World => Lib.run_eql_slice_nil (P := Tryz.prog) w 24 3 (some ⟨b, o, none⟩) n c 0 0 Tryz.underlying24
   have hw0 : (w.alloc (.cells #[] 3)).ownsRow w.heap.size 3 1 (.slice (some ⟨w.heap.size, 0, none⟩) 0 0) 0 [] := World.ownsRow_made w #[] 0 (Nat.le_refl _) (by simp) (by simp)
   have hc' : ∀ j u, xs[j]? = some u → (w.alloc (.cells #[] 3)).cell? ((⟨b, o, none⟩ : Addr).add j) = some u := fun j u hj => by
    rw [← hcell j u hj]; rw [zaQ]; exact Below.cell (p := ⟨b, o + j, none⟩) ((Below.refl _ _).alloc (Nat.le_refl _) (.cells #[] 3)) hlt
   have H0 := zhd hw0; have HC := zhd hc'; have HL := zhd hl; have H1 := zhd h1
   clear hw0 hc' hl h1 hcell
   have hnm : 0 + n ≤ maxLen := by omega
   go_enter Tryz.func33, Tryz.ntmps33
   go_wp2_with (at_builtin; refine wpList_append_own _ rfl _ _ 24 rfl w.heap.size 3 i0 (.int .i64 0) 1 8 Tryz.underlying24 hi hz0 hz1 hz2 rfl (by decide) _ 0 [] rfl H0.out ⟨b, o, none⟩ n c xs rfl HL.out HC.out H1.out hnm (by omega) (by simp) ?_; intro v' w1 hown hgrow _)
   go_ret
   refine ⟨_, rfl, by simpa using hown, ?_⟩
   exact ((Below.refl _ _).alloc (Nat.le_refl _) _).grown hgrow (by simp) (fun k hk => by cases hk; exact Nat.le_refl _)
end
section
open Go.RowKit

structure St where
 k : Int
 r0 : Int
 r1 : Int
 r2 : Int
 r3 : Int
 q : List Int
 sent : Int
 ra : Bool

def stC (s : St) (qv : Value) : Array Value := #[.int .i64 s.k, .int .i64 s.r0, .int .i64 s.r1, .int .i64 s.r2, .int .i64 s.r3, qv, .int .i64 s.sent, .bool s.ra]
def qL (s : St) : List Value := s.q.map (Value.int .i64)
def IsSt (w : World) (v : Value) (s : St) : Prop := ∃ qv, v = .agg (stC s qv) ∧ Reads w 1 s.q.length qv (qL s)
theorem IsSt.below {w w' : World} {v : Value} {s : St} (h : IsSt w v s) (hb : Below w.heap.size w w') : IsSt w' v s := by
 obtain ⟨qv, hv, hr⟩ := h; exact ⟨qv, hv, hr.below hb⟩
theorem zcs (s : St) : ∀ u ∈ qL s, u.oneCell' = true := by
 intro u hu; simp only [qL, List.mem_map] at hu; obtain ⟨n, _, rfl⟩ := hu; rfl
theorem len_qL (s : St) : (qL s).length = s.q.length := by simp [qL]

theorem zba {w : World} {b : Nat} {t : TypeId} {c0 c1 c2 c3 c4 c5 c6 c7 : Value} (h : w.heap[b]? = some (.cells #[c0, c1, c2, c3, c4, c5, c6, c7] t (0, 0))) :
 w.cell? ⟨b, 0, none⟩ = some c0 ∧ w.cell? ⟨b, 1, none⟩ = some c1 ∧ w.cell? ⟨b, 2, none⟩ = some c2 ∧ w.cell? ⟨b, 3, none⟩ = some c3 ∧ w.cell? ⟨b, 4, none⟩ = some c4 ∧ w.cell? ⟨b, 5, none⟩ = some c5 ∧ w.cell? ⟨b, 6, none⟩ = some c6 ∧ w.cell? ⟨b, 7, none⟩ = some c7 ∧ w.frozen? ⟨b, 0, none⟩ = false ∧ w.frozen? ⟨b, 1, none⟩ = false ∧ w.frozen? ⟨b, 2, none⟩ = false ∧ w.frozen? ⟨b, 3, none⟩ = false ∧ w.frozen? ⟨b, 4, none⟩ = false ∧ w.frozen? ⟨b, 5, none⟩ = false ∧ w.frozen? ⟨b, 6, none⟩ = false ∧ w.frozen? ⟨b, 7, none⟩ = false :=
 ⟨zad h rfl, zad h rfl, zad h rfl, zad h rfl, zad h rfl, zad h rfl, zad h rfl, zad h rfl, zaa h 0, zaa h 1, zaa h 2, zaa h 3, zaa h 4, zaa h 5, zaa h 6, zaa h 7⟩
end
section
open Go.RowKit
def Works (B : Nat) (T : TypeId) (w : World) (b : Nat) (s : St) : Prop :=
 ∃ qv, w.heap[b]? = some (.cells (stC s qv) T (0, 0)) ∧ B ≤ b ∧ w.ownsRow B 3 1 qv s.q.length (qL s) ∧ qv.ownBlock ≠ some b

set_option maxHeartbeats 1000000 in
theorem zgS (v : Value) (s : St) (w : World) (h : IsSt w v s) (hk : s.k = 1) (hq : s.q.length ≤ 1000) :
 Calls Tryz.prog 64 #[v] w fun e w' => ∃ b, e = .returned (.iface 160 (.pointer (some ⟨b, 0, none⟩))) ∧ Works w.heap.size 164 w' b s ∧ Below w.heap.size w w' := by
 obtain ⟨qv, rfl, hr⟩ := h
 obtain ⟨qa, qc, rfl⟩ := hr.shape
 have hr' : Reads (w.alloc (.cells (stC s (.slice qa s.q.length qc)) 75)) 1 s.q.length (.slice qa s.q.length qc) (qL s) := hr.below ((Below.refl _ _).alloc (Nat.le_refl _) _)
 have HR := zhd hr'; have HK := zhd hk; clear hr hr'
 obtain ⟨k, r0, r1, r2, r3, q, sent, ra⟩ := s
 simp only at hk hq
 subst hk
 unfold stC at *
 go_enter Tryz.func64, Tryz.ntmps64
 go_wp2_with fail
 refine (zbi _ _ _ _ HR.out (by omega)).mono ?_
 rintro e w1 ⟨v1, rfl, hown, hbel⟩
 obtain ⟨a1, c1, rfl⟩ := zai hown
 have hbl := zaq hbel (by simp) (zat w _)
 have hlt := zao hbl
 obtain ⟨g0, g1, g2, g3, g4, g5, g6, g7, f0, f1, f2, f3, f4, f5, f6, f7⟩ := zba hbl
 have HB := zhd hbel; have HO := zhd hown; have HL := zhd hbl
 clear hbel hown hbl
 go_wp2_with fail
 go_ret
 refine ⟨w1.heap.size, rfl, ⟨_, zin _ _ _ _, Nat.le_of_lt hlt, ?_, ze1 HO.out (Nat.le_refl _)⟩, ?_⟩
 · exact za0 ((ownsRow_setCell_below HO.out (by simp) _).alloc _) (by simp)
 · exact ((((Below.refl _ _).alloc (Nat.le_refl _) _).trans (HB.out.mono (by simp))).setCell (Nat.le_refl _) _).alloc (by rw [zaH]; omega) _

set_option maxHeartbeats 1000000 in
theorem zfq (v : Value) (s : St) (w : World) (h : IsSt w v s) (hk : s.k = 2) (hq : s.q.length ≤ 1000) :
 Calls Tryz.prog 64 #[v] w fun e w' => ∃ b, e = .returned (.iface 165 (.pointer (some ⟨b, 0, none⟩))) ∧ Works w.heap.size 166 w' b s ∧ Below w.heap.size w w' := by
 obtain ⟨qv, rfl, hr⟩ := h
 obtain ⟨qa, qc, rfl⟩ := hr.shape
 have hr' : Reads (w.alloc (.cells (stC s (.slice qa s.q.length qc)) 75)) 1 s.q.length (.slice qa s.q.length qc) (qL s) := hr.below ((Below.refl _ _).alloc (Nat.le_refl _) _)
 have HR := zhd hr'; have HK := zhd hk; clear hr hr'
 obtain ⟨k, r0, r1, r2, r3, q, sent, ra⟩ := s
 simp only at hk hq
 subst hk
 unfold stC at *
 go_enter Tryz.func64, Tryz.ntmps64
 go_wp2_with fail
 refine (zbi _ _ _ _ HR.out (by omega)).mono ?_
 rintro e w1 ⟨v1, rfl, hown, hbel⟩
 obtain ⟨a1, c1, rfl⟩ := zai hown
 have hbl := zaq hbel (by simp) (zat w _)
 have hlt := zao hbl
 obtain ⟨g0, g1, g2, g3, g4, g5, g6, g7, f0, f1, f2, f3, f4, f5, f6, f7⟩ := zba hbl
 have HB := zhd hbel; have HO := zhd hown; have HL := zhd hbl
 clear hbel hown hbl
 go_wp2_with fail
 go_ret
 refine ⟨w1.heap.size, rfl, ⟨_, zin _ _ _ _, Nat.le_of_lt hlt, ?_, ze1 HO.out (Nat.le_refl _)⟩, ?_⟩
 · exact za0 ((ownsRow_setCell_below HO.out (by simp) _).alloc _) (by simp)
 · exact ((((Below.refl _ _).alloc (Nat.le_refl _) _).trans (HB.out.mono (by simp))).setCell (Nat.le_refl _) _).alloc (by rw [zaH]; omega) _

set_option maxHeartbeats 1000000 in
theorem zgT (v : Value) (s : St) (w : World) (h : IsSt w v s) (hk : s.k = 3) (hq : s.q.length ≤ 1000) :
 Calls Tryz.prog 64 #[v] w fun e w' => ∃ b, e = .returned (.iface 167 (.pointer (some ⟨b, 0, none⟩))) ∧ Works w.heap.size 168 w' b s ∧ Below w.heap.size w w' := by
 obtain ⟨qv, rfl, hr⟩ := h
 obtain ⟨qa, qc, rfl⟩ := hr.shape
 have hr' : Reads (w.alloc (.cells (stC s (.slice qa s.q.length qc)) 75)) 1 s.q.length (.slice qa s.q.length qc) (qL s) := hr.below ((Below.refl _ _).alloc (Nat.le_refl _) _)
 have HR := zhd hr'; have HK := zhd hk; clear hr hr'
 obtain ⟨k, r0, r1, r2, r3, q, sent, ra⟩ := s
 simp only at hk hq
 subst hk
 unfold stC at *
 go_enter Tryz.func64, Tryz.ntmps64
 go_wp2_with fail
 refine (zbi _ _ _ _ HR.out (by omega)).mono ?_
 rintro e w1 ⟨v1, rfl, hown, hbel⟩
 obtain ⟨a1, c1, rfl⟩ := zai hown
 have hbl := zaq hbel (by simp) (zat w _)
 have hlt := zao hbl
 obtain ⟨g0, g1, g2, g3, g4, g5, g6, g7, f0, f1, f2, f3, f4, f5, f6, f7⟩ := zba hbl
 have HB := zhd hbel; have HO := zhd hown; have HL := zhd hbl
 clear hbel hown hbl
 go_wp2_with fail
 go_ret
 refine ⟨w1.heap.size, rfl, ⟨_, zin _ _ _ _, Nat.le_of_lt hlt, ?_, ze1 HO.out (Nat.le_refl _)⟩, ?_⟩
 · exact za0 ((ownsRow_setCell_below HO.out (by simp) _).alloc _) (by simp)
 · exact ((((Below.refl _ _).alloc (Nat.le_refl _) _).trans (HB.out.mono (by simp))).setCell (Nat.le_refl _) _).alloc (by rw [zaH]; omega) _
end
section
open Go.RowKit
theorem zgf (a : Addr) (w : World) : (method 362 160 (.pointer (some a)) "headstock/device.told").run Tryz.prog w = .ok (214, .pointer (some a)) w := by kernel_rfl
theorem zfN (a : Addr) (w : World) : (method 362 165 (.pointer (some a)) "headstock/device.told").run Tryz.prog w = .ok (214, .pointer (some a)) w := by kernel_rfl
theorem zgg (a : Addr) (w : World) : (method 362 167 (.pointer (some a)) "headstock/device.told").run Tryz.prog w = .ok (214, .pointer (some a)) w := by kernel_rfl
theorem zfg (a : Addr) (w : World) : (method 362 160 (.pointer (some a)) "headstock/device.raises").run Tryz.prog w = .ok (212, .pointer (some a)) w := by kernel_rfl
theorem zeO (a : Addr) (w : World) : (method 362 165 (.pointer (some a)) "headstock/device.raises").run Tryz.prog w = .ok (218, .pointer (some a)) w := by kernel_rfl
theorem zfh (a : Addr) (w : World) : (method 362 167 (.pointer (some a)) "headstock/device.raises").run Tryz.prog w = .ok (222, .pointer (some a)) w := by kernel_rfl
theorem zgh (a : Addr) (w : World) : (method 362 160 (.pointer (some a)) "headstock/device.read").run Tryz.prog w = .ok (213, .pointer (some a)) w := by kernel_rfl
theorem zfO (a : Addr) (w : World) : (method 362 165 (.pointer (some a)) "headstock/device.read").run Tryz.prog w = .ok (219, .pointer (some a)) w := by kernel_rfl
theorem zgi (a : Addr) (w : World) : (method 362 167 (.pointer (some a)) "headstock/device.read").run Tryz.prog w = .ok (216, .pointer (some a)) w := by kernel_rfl
theorem zfL (a : Addr) (w : World) : (method 362 160 (.pointer (some a)) "headstock/device.write").run Tryz.prog w = .ok (215, .pointer (some a)) w := by kernel_rfl
theorem zfH (a : Addr) (w : World) : (nilAhead 362 160 (.pointer (some a)) "headstock/device.write").run Tryz.prog w = .ok (some false) w := by kernel_rfl
theorem zff (a : Addr) (w : World) : (method 362 165 (.pointer (some a)) "headstock/device.write").run Tryz.prog w = .ok (220, .pointer (some a)) w := by kernel_rfl
theorem zfc (a : Addr) (w : World) : (nilAhead 362 165 (.pointer (some a)) "headstock/device.write").run Tryz.prog w = .ok (some false) w := by kernel_rfl
theorem zfM (a : Addr) (w : World) : (method 362 167 (.pointer (some a)) "headstock/device.write").run Tryz.prog w = .ok (223, .pointer (some a)) w := by kernel_rfl
theorem zfI (a : Addr) (w : World) : (nilAhead 362 167 (.pointer (some a)) "headstock/device.write").run Tryz.prog w = .ok (some false) w := by kernel_rfl
theorem zfP (a : Addr) (w : World) : (method 362 160 (.pointer (some a)) "headstock/device.input").run Tryz.prog w = .ok (211, .pointer (some a)) w := by kernel_rfl
theorem zfJ (a : Addr) (w : World) : (nilAhead 362 160 (.pointer (some a)) "headstock/device.input").run Tryz.prog w = .ok (some false) w := by kernel_rfl
theorem zfi (a : Addr) (w : World) : (method 362 165 (.pointer (some a)) "headstock/device.input").run Tryz.prog w = .ok (217, .pointer (some a)) w := by kernel_rfl
theorem zfd (a : Addr) (w : World) : (nilAhead 362 165 (.pointer (some a)) "headstock/device.input").run Tryz.prog w = .ok (some false) w := by kernel_rfl
theorem zfQ (a : Addr) (w : World) : (method 362 167 (.pointer (some a)) "headstock/device.input").run Tryz.prog w = .ok (221, .pointer (some a)) w := by kernel_rfl
theorem zfK (a : Addr) (w : World) : (nilAhead 362 167 (.pointer (some a)) "headstock/device.input").run Tryz.prog w = .ok (some false) w := by kernel_rfl
end
section
open Go.RowKit
def en (s : St) : Bool := bits .and .i64 s.r2 1 != 0
theorem zgC (b : Nat) (T : TypeId) (c0 c1 c2 c3 c4 : Int) (qa : Option Addr) (qn qc : Nat) (c6 : Int) (c7 : Bool) (w : World)
 (h : w.heap[b]? = some (.cells #[.int .i64 c0, .int .i64 c1, .int .i64 c2, .int .i64 c3, .int .i64 c4, .slice qa qn qc, .int .i64 c6, .bool c7] T (0, 0))) :
 Calls Tryz.prog 214 #[.pointer (some ⟨b, 0, none⟩)] w fun e w' => e = .returned (.agg #[.int .i64 c0, .int .i64 c1, .int .i64 c2, .int .i64 c3, .int .i64 c4, .slice qa qn qc, .int .i64 c6, .bool c7]) ∧ Below w.heap.size w w' := by
 have hlt := zao h
 obtain ⟨g0, g1, g2, g3, g4, g5, g6, g7, f0, f1, f2, f3, f4, f5, f6, f7⟩ := zba h
 clear h
 go_enter Tryz.func214, Tryz.ntmps214
 go_wp2
 exact bodyPost_ret (v := .agg #[.int .i64 c0, .int .i64 c1, .int .i64 c2, .int .i64 c3, .int .i64 c4, .slice qa qn qc, .int .i64 c6, .bool c7]) (by simp [results, Tryz.results214, go_sem]) rfl ⟨rfl, (Below.refl _ _).alloc (Nat.le_refl _) _⟩

theorem zeo (b : Nat) (r2 : Int) (w : World) (h : w.cell? ⟨b, 3, none⟩ = some (.int .i64 r2)) :
 Calls Tryz.prog 210 #[.pointer (some ⟨b, 0, none⟩)] w fun e w' => e = .returned (.bool (bits .and .i64 r2 1 != 0)) ∧ w = w' := by
 go_enter Tryz.func210, Tryz.ntmps210
 go_wp2
 go_ret
 exact ⟨ret1 (za1 rfl), rfl⟩

theorem zhy (b : Nat) (ra : Bool) (w : World) (h : w.cell? ⟨b, 7, none⟩ = some (.bool ra)) :
 Calls Tryz.prog 218 #[.pointer (some ⟨b, 0, none⟩)] w fun e w' => e = .returned (.bool ra) ∧ w = w' := by
 go_enter Tryz.func218, Tryz.ntmps218
 go_wp2
 go_ret
 exact ⟨ret1 (za1 rfl), rfl⟩
theorem zij (b : Nat) (r3 : Int) (w : World) (h : w.cell? ⟨b, 4, none⟩ = some (.int .i64 r3)) :
 Calls Tryz.prog 222 #[.pointer (some ⟨b, 0, none⟩)] w fun e w' => e = .returned (.bool (r3 != 0)) ∧ w = w' := by
 go_enter Tryz.func222, Tryz.ntmps222
 go_wp2
 go_ret
 exact ⟨ret1 (za1 rfl), rfl⟩
theorem zii (b : Nat) (r2 : Int) (a : Option Addr) (n c : Nat) (w : World) (h : w.cell? ⟨b, 3, none⟩ = some (.int .i64 r2)) (hq : w.cell? ⟨b, 5, none⟩ = some (.slice a n c)) :
 Calls Tryz.prog 212 #[.pointer (some ⟨b, 0, none⟩)] w fun e w' => e = .returned (.bool (decide (0 < n) && (bits .and .i64 r2 1 != 0))) ∧ w = w' := by
 by_cases hn : 0 < n
 · go_enter Tryz.func212, Tryz.ntmps212
   go_wp2_with (go_at_call 210; refine (zeo _ r2 _ h).mono ?_; rintro e w' ⟨rfl, rfl⟩)
   go_ret
   exact ⟨ret1 (za1 (by simp [hn])), rfl⟩
 · go_enter Tryz.func212, Tryz.ntmps212
   go_wp2_with (go_at_call 210; refine (zeo _ r2 _ h).mono ?_; rintro e w' ⟨rfl, rfl⟩)
   go_ret
   exact ⟨ret1 (za1 (by simp [hn])), rfl⟩

def zh5 (B : Nat) (v : Value) : Prop := ∀ a n c, v = .slice (some a) n c → B ≤ a.block
theorem zbs {w : World} {B e k n : Nat} {v : Value} {xs : List Value} (h : w.ownsRow B e k v n xs) : zh5 B v := by
 intro a m c hv
 rcases h.2 with ⟨rfl, _⟩ | ⟨g, c', cur, rfl, hg, _⟩
 · cases hv
 · cases hv; exact hg
def After (B : Nat) (T : TypeId) (w : World) (b : Nat) (s : St) : Prop := ∃ qv, w.heap[b]? = some (.cells (stC s qv) T (0, 0)) ∧ Reads w 1 s.q.length qv (qL s) ∧ zh5 B qv
def IsStF (B : Nat) (w : World) (v : Value) (s : St) : Prop := ∃ qv, v = .agg (stC s qv) ∧ Reads w 1 s.q.length qv (qL s) ∧ zh5 B qv
theorem IsStF.set {B b o : Nat} {w : World} {v u : Value} {s : St} (h : IsStF B w v s) (hb : b < B) : IsStF B (w.setCell ⟨b, o, none⟩ u) v s := by
 obtain ⟨qv, hv, hr, hf⟩ := h
 refine ⟨qv, hv, ⟨hr.1, hr.2.1, ?_⟩, hf⟩
 rcases hr.2.2 with h' | ⟨g, o', c, rfl, hlt, hc, hm, hcell⟩
 · exact .inl h'
 · have := hf _ _ _ rfl
   refine .inr ⟨g, o', c, rfl, by rw [zaH]; exact hlt, hc, hm, fun j u' hj => ?_⟩
   rw [zbU (by simp only at this; omega)]; exact hcell j u' hj
def raisesS (s : St) : Bool := if s.k = 1 then (decide (0 < s.q.length) && en s) else if s.k = 2 then s.ra else s.r3 != 0
def za7 (s : St) : St := { s with ra := raisesS s }
theorem zgD {w W : World} {B F : Nat} {v : Value} {s s' : St} {qv : Value} (hr : Reads w 1 s.q.length qv (qL s)) (hf : zh5 F qv) (hq : s'.q = s.q) (hv : v = .agg (stC s' qv)) (hB : Below w.heap.size w W) (hB' : Below B w W) :
 ∃ v', Ending.returned v = .returned v' ∧ IsStF F W v' s' ∧ Below B w W := by
 refine ⟨v, rfl, ⟨qv, hv, ?_, hf⟩, hB'⟩
 unfold qL at *
 rw [hq]; exact hr.below hB

def zbl (s : St) (reg : Int) : Int :=
 if s.k = 1 then (if reg = 0 then s.q.headD (-1) else if reg = 1 then (if s.q.length = 0 then 2 else 3) else if reg = 3 then s.sent else s.r2)
 else if s.k = 2 then (if reg = 0 then s.r0 else if reg = 1 then s.r1 else if reg = 2 then s.r2 else flag s.ra)
 else (if reg = 0 then s.r0 else if reg = 1 then s.r1 else if reg = 2 then s.r2 else s.r3)
def zbI (s : St) (reg : Int) : St := if s.k = 1 ∧ reg = 0 then { s with q := s.q.tail } else s
def zbo (s : St) (reg n : Int) : St :=
 if s.k = 1 then (if reg = 0 then { s with sent := bits .and .i64 (s.sent + 1) 2147483647 } else if reg = 2 then { s with r2 := n } else s)
 else if s.k = 2 then (if reg = 1 then { s with r1 := n } else if reg = 2 then { s with r2 := n } else if reg = 3 then { s with ra := false } else s)
 else (if reg = 0 then { s with r0 := n } else if reg = 2 then { s with r2 := n } else if reg = 3 then { s with r3 := bits .andNot .i64 s.r3 n } else s)
def zbp (s : St) (n : Int) : St :=
 if s.k = 1 then (if s.q.length < 16 then { s with q := s.q ++ [bits .and .i64 n 255] } else s)
 else if s.k = 2 then { s with r0 := wrap32 (s.r0 + 1), ra := s.ra || ((wrap32 (s.r0 + 1) == s.r1) && en s) }
 else { s with r3 := bits .or .i64 s.r3 (bits .and .i64 (bits .xor .i64 n s.r1) s.r2), r1 := n }
theorem reg4 {reg : Int} (h : 0 ≤ reg ∧ reg < 4) : reg = 0 ∨ reg = 1 ∨ reg = 2 ∨ reg = 3 := by omega
theorem zhg {B : Nat} {T : TypeId} {w : World} {b : Nat} {s : St} {qv : Value} (h : w.heap[b]? = some (.cells (stC s qv) T (0, 0))) (hr : Reads w 1 s.q.length qv (qL s)) (hf : zh5 B qv) : After B T w b s := ⟨qv, h, hr, hf⟩
theorem zmj (w : World) (b o : Nat) (u : Value) : w.grownBy (w.setCell ⟨b, o, none⟩ u) (some b) :=
 ⟨rfl, rfl, rfl, by rw [zaH]; exact Nat.le_refl _, fun k _ hne => Below.heap_setCell w _ u k (fun e => hne (by rw [e]))⟩
theorem zeM {w : World} {base e k n : Nat} {v : Value} {xs : List Value} {b : Nat} (h : w.ownsRow base e k v n xs) (hne : v.ownBlock ≠ some b) (o : Nat) (u : Value) : (w.setCell ⟨b, o, none⟩ u).ownsRow base e k v n xs :=
 h.kept (zmj w b o u) (.inr hne)
theorem zbV {B : Nat} {T : TypeId} {w : World} {b : Nat} {s s' : St} {qv : Value} (hb : w.heap[b]? = some (.cells (stC s qv) T (0, 0))) (hown : w.ownsRow B 3 1 qv s.q.length (qL s)) (hne : qv.ownBlock ≠ some b) (o : Nat) (u : Value)
 (hq : s'.q = s.q) (hc : (stC s qv).setIfInBounds o u = stC s' qv) : After B T (w.setCell ⟨b, o, none⟩ u) b s' := by
 refine ⟨qv, by rw [zaG hb, hc], ?_, zbs hown⟩
 have h1 := Reads.own (zeM hown hne o u) (zcs s)
 unfold qL at *
 rw [hq]; exact h1
theorem Reads.drew {w : World} {k n : Nat} {v : Value} {xs : List Value} (h : Reads w k n v xs) : Reads w.drew k n v xs := h.below ((Below.refl _ _).drew)
theorem After.drew {B : Nat} {T : TypeId} {w : World} {b : Nat} {s : St} (h : After B T w b s) : After B T w.drew b s := by
 obtain ⟨qv, hb, hr, hf⟩ := h; exact ⟨qv, hb, hr.drew, hf⟩
theorem zik {w : World} {base e k n b : Nat} {v : Value} {xs : List Value} {cs : Array Value} {T : TypeId} (h : w.ownsRow base e k v n xs) (hb : w.heap[b]? = some (.cells cs T (0, 0))) (ht : T ≠ e) : v.ownBlock ≠ some b := by
 rcases h.2 with ⟨rfl, _⟩ | ⟨g, c, cur, rfl, _, hg, _⟩
 · simp [Value.ownBlock]
 · intro hh
   have : g = b := by simpa [Value.ownBlock] using hh
   subst this
   rw [hb] at hg
   injection hg with hg
   injection hg with _ h2 _
   exact ht h2
theorem ziu (s : St) (reg n : Int) {k : Int} (h : s.k = k) : (zbo s reg n).k = k := by
 subst h; unfold zbo; repeat' (first | rfl | split)
theorem zl0 (s : St) (reg : Int) {k : Int} (h : s.k = k) : (zbI s reg).k = k := by
 subst h; unfold zbI; repeat' (first | rfl | split)
theorem ziv (s : St) (n : Int) {k : Int} (h : s.k = k) : (zbp s n).k = k := by
 subst h; unfold zbp; repeat' (first | rfl | split)
theorem IsStF.mono {B B' : Nat} {w : World} {v : Value} {s : St} (hb : B' ≤ B) (h : IsStF B w v s) : IsStF B' w v s := by
 obtain ⟨qv, hv, hr, hf⟩ := h; exact ⟨qv, hv, hr, fun a n c e => Nat.le_trans hb (hf a n c e)⟩
theorem zdd {B b o : Nat} {w : World} {v u : Value} {s : St} (hb : b < B) (h : IsStF B w v s) : IsStF B (w.setCell ⟨b, o, none⟩ u) v s := h.set hb
theorem After.set {B p o : Nat} {T : TypeId} {w : World} {b : Nat} {s : St} {u : Value} (h : After B T w b s) (hp : p < B) (hb : B ≤ b) : After B T (w.setCell ⟨p, o, none⟩ u) b s := by
 obtain ⟨qv, hh, hr, hf⟩ := h
 obtain ⟨qv', e, hr', _⟩ := IsStF.set (o := o) (u := u) (⟨qv, rfl, hr, hf⟩ : IsStF B w (.agg (stC s qv)) s) hp
 have : qv' = qv := by
  have h1 : (stC s qv)[5]? = (stC s qv')[5]? := by injection e with e; rw [e]
  simp [stC] at h1; exact h1.symm
 subst this
 exact ⟨qv', zay (by omega) hh, hr', hf⟩
end
section
open Go.RowKit

set_option maxHeartbeats 1000000 in
theorem zf4 (F b : Nat) (s : St) (w : World) (h : After F 164 w b s) (hk : s.k = 1) :
 Calls Tryz.prog 170 #[.iface 160 (.pointer (some ⟨b, 0, none⟩))] w fun e w' => ∃ v, e = .returned v ∧ IsStF F w' v (za7 s) ∧ Below w.heap.size w w' := by
 obtain ⟨qv, hb, hr, hf⟩ := h
 obtain ⟨a1, c1, rfl⟩ := hr.shape
 obtain ⟨k, r0, r1, r2, r3, q, sent, ra⟩ := s
 simp only at hk
 subst hk
 unfold stC at hb
 simp only at hb
 have hlt := zao hb
 have HB := zhd hb; have HR := zhd hr
 clear hb hr
 have m1 := zgf
 have m2 := zfg
 go_enter Tryz.func170, Tryz.ntmps170
 go_wp2_with fail
 refine (zgC b _ _ _ _ _ _ _ _ _ _ _ _ (zaq ((Below.refl _ _).alloc (Nat.le_refl _) _) hlt HB.out)).mono ?_
 rintro e w1 ⟨rfl, hbel⟩
 have hn := zaq hbel (by simp) (zat w _)
 have hbb := zaq hbel (by simp; omega) (zaq ((Below.refl _ _).alloc (Nat.le_refl _) _) hlt HB.out)
 have hlt2 := zao hbb
 have hn2 := zao hn
 obtain ⟨_, _, _, z3, z4, z5, _, z7, _⟩ := zba hbb
 obtain ⟨_, _, _, _, _, _, _, _, t0, t1, t2, t3, t4, t5, t6, t7⟩ := zba hn
 obtain ⟨u0, u1, u2, u3, u4, u5, u6, u7, _⟩ := zba hn
 have HBEL := zhd hbel
 clear hbel hn hbb
 go_wp2_with fail
 refine (zii _ r2 a1 q.length c1 _ (by go_simp) (by go_simp)).mono ?_
 rintro e w' ⟨rfl, rfl⟩
 go_wp2_with fail
 have hw1 : Below w.heap.size w w1 := ((Below.refl _ _).alloc (Nat.le_refl _) _).trans (HBEL.out.mono (by simp))
 refine bodyPost_ret (v := .agg #[.int .i64 1, .int .i64 r0, .int .i64 r1, .int .i64 r2, .int .i64 r3, .slice a1 q.length c1, .int .i64 sent, .bool (decide (0 < q.length) && (bits .and .i64 r2 1 != 0))]) (by simp [results, Tryz.results170, go_sem, hn2, u0, u1, u2, u3, u4, u5, u6, u7]) rfl ?_
 have hb : ∀ W, Below w.heap.size w W → ∃ v', Ending.returned (Value.agg #[.int .i64 1, .int .i64 r0, .int .i64 r1, .int .i64 r2, .int .i64 r3, .slice a1 q.length c1, .int .i64 sent, .bool (decide (0 < q.length) && (bits .and .i64 r2 1 != 0))]) = .returned v' ∧ IsStF F W v' (za7 ⟨1, r0, r1, r2, r3, q, sent, ra⟩) ∧ Below w.heap.size w W := fun W hW => zgD HR.out hf rfl rfl hW hW
 refine hb _ ?_
 refine Below.alloc ?_ (by simp only [zaH]; omega) _
 have hle := Nat.le_refl w.heap.size
 iterate 8 apply za2 hle
 exact hw1

set_option maxHeartbeats 1000000 in
theorem zeQ (F b : Nat) (s : St) (w : World) (h : After F 166 w b s) (hk : s.k = 2) :
 Calls Tryz.prog 170 #[.iface 165 (.pointer (some ⟨b, 0, none⟩))] w fun e w' => ∃ v, e = .returned v ∧ IsStF F w' v (za7 s) ∧ Below w.heap.size w w' := by
 obtain ⟨qv, hb, hr, hf⟩ := h
 obtain ⟨a1, c1, rfl⟩ := hr.shape
 obtain ⟨k, r0, r1, r2, r3, q, sent, ra⟩ := s
 simp only at hk
 subst hk
 unfold stC at hb
 simp only at hb
 have hlt := zao hb
 have HB := zhd hb; have HR := zhd hr
 clear hb hr
 have m1 := zfN
 have m2 := zeO
 go_enter Tryz.func170, Tryz.ntmps170
 go_wp2_with fail
 refine (zgC b _ _ _ _ _ _ _ _ _ _ _ _ (zaq ((Below.refl _ _).alloc (Nat.le_refl _) _) hlt HB.out)).mono ?_
 rintro e w1 ⟨rfl, hbel⟩
 have hn := zaq hbel (by simp) (zat w _)
 have hbb := zaq hbel (by simp; omega) (zaq ((Below.refl _ _).alloc (Nat.le_refl _) _) hlt HB.out)
 have hlt2 := zao hbb
 have hn2 := zao hn
 obtain ⟨_, _, _, z3, z4, z5, _, z7, _⟩ := zba hbb
 obtain ⟨_, _, _, _, _, _, _, _, t0, t1, t2, t3, t4, t5, t6, t7⟩ := zba hn
 obtain ⟨u0, u1, u2, u3, u4, u5, u6, u7, _⟩ := zba hn
 have HBEL := zhd hbel
 clear hbel hn hbb
 go_wp2_with fail
 refine (zhy _ ra _ (by go_simp)).mono ?_
 rintro e w' ⟨rfl, rfl⟩
 go_wp2_with fail
 have hw1 : Below w.heap.size w w1 := ((Below.refl _ _).alloc (Nat.le_refl _) _).trans (HBEL.out.mono (by simp))
 refine bodyPost_ret (v := .agg #[.int .i64 2, .int .i64 r0, .int .i64 r1, .int .i64 r2, .int .i64 r3, .slice a1 q.length c1, .int .i64 sent, .bool ra]) (by simp [results, Tryz.results170, go_sem, hn2, u0, u1, u2, u3, u4, u5, u6, u7]) rfl ?_
 have hb : ∀ W, Below w.heap.size w W → ∃ v', Ending.returned (Value.agg #[.int .i64 2, .int .i64 r0, .int .i64 r1, .int .i64 r2, .int .i64 r3, .slice a1 q.length c1, .int .i64 sent, .bool ra]) = .returned v' ∧ IsStF F W v' (za7 ⟨2, r0, r1, r2, r3, q, sent, ra⟩) ∧ Below w.heap.size w W := fun W hW => zgD HR.out hf rfl rfl hW hW
 refine hb _ ?_
 refine Below.alloc ?_ (by simp only [zaH]; omega) _
 have hle := Nat.le_refl w.heap.size
 iterate 8 apply za2 hle
 exact hw1

set_option maxHeartbeats 1000000 in
theorem zf5 (F b : Nat) (s : St) (w : World) (h : After F 168 w b s) (hk : s.k = 3) :
 Calls Tryz.prog 170 #[.iface 167 (.pointer (some ⟨b, 0, none⟩))] w fun e w' => ∃ v, e = .returned v ∧ IsStF F w' v (za7 s) ∧ Below w.heap.size w w' := by
 obtain ⟨qv, hb, hr, hf⟩ := h
 obtain ⟨a1, c1, rfl⟩ := hr.shape
 obtain ⟨k, r0, r1, r2, r3, q, sent, ra⟩ := s
 simp only at hk
 subst hk
 unfold stC at hb
 simp only at hb
 have hlt := zao hb
 have HB := zhd hb; have HR := zhd hr
 clear hb hr
 have m1 := zgg
 have m2 := zfh
 go_enter Tryz.func170, Tryz.ntmps170
 go_wp2_with fail
 refine (zgC b _ _ _ _ _ _ _ _ _ _ _ _ (zaq ((Below.refl _ _).alloc (Nat.le_refl _) _) hlt HB.out)).mono ?_
 rintro e w1 ⟨rfl, hbel⟩
 have hn := zaq hbel (by simp) (zat w _)
 have hbb := zaq hbel (by simp; omega) (zaq ((Below.refl _ _).alloc (Nat.le_refl _) _) hlt HB.out)
 have hlt2 := zao hbb
 have hn2 := zao hn
 obtain ⟨_, _, _, z3, z4, z5, _, z7, _⟩ := zba hbb
 obtain ⟨_, _, _, _, _, _, _, _, t0, t1, t2, t3, t4, t5, t6, t7⟩ := zba hn
 obtain ⟨u0, u1, u2, u3, u4, u5, u6, u7, _⟩ := zba hn
 have HBEL := zhd hbel
 clear hbel hn hbb
 go_wp2_with fail
 refine (zij _ r3 _ (by go_simp)).mono ?_
 rintro e w' ⟨rfl, rfl⟩
 go_wp2_with fail
 have hw1 : Below w.heap.size w w1 := ((Below.refl _ _).alloc (Nat.le_refl _) _).trans (HBEL.out.mono (by simp))
 refine bodyPost_ret (v := .agg #[.int .i64 3, .int .i64 r0, .int .i64 r1, .int .i64 r2, .int .i64 r3, .slice a1 q.length c1, .int .i64 sent, .bool (r3 != 0)]) (by simp [results, Tryz.results170, go_sem, hn2, u0, u1, u2, u3, u4, u5, u6, u7]) rfl ?_
 have hb : ∀ W, Below w.heap.size w W → ∃ v', Ending.returned (Value.agg #[.int .i64 3, .int .i64 r0, .int .i64 r1, .int .i64 r2, .int .i64 r3, .slice a1 q.length c1, .int .i64 sent, .bool (r3 != 0)]) = .returned v' ∧ IsStF F W v' (za7 ⟨3, r0, r1, r2, r3, q, sent, ra⟩) ∧ Below w.heap.size w W := fun W hW => zgD HR.out hf rfl rfl hW hW
 refine hb _ ?_
 refine Below.alloc ?_ (by simp only [zaH]; omega) _
 have hle := Nat.le_refl w.heap.size
 iterate 8 apply za2 hle
 exact hw1
end
section
open Go.RowKit

set_option maxHeartbeats 1000000 in
theorem zjA (B b : Nat) (s : St) (reg n : Int) (w : World) (h : Works B 164 w b s) (hk : s.k = 1) (hreg : 0 ≤ reg ∧ reg < 4) (hs : 0 ≤ s.sent ∧ s.sent ≤ 2147483647) :
 Calls Tryz.prog 215 #[.pointer (some ⟨b, 0, none⟩), .int .i64 reg, .int .i64 n] w fun e w' => e = .returned (.tuple #[]) ∧ After B 164 w' b (zbo s reg n) ∧ Below B w w' := by
 obtain ⟨qv, hb, hB, hown, hne⟩ := h
 obtain ⟨a1, c1, rfl⟩ := zai hown
 obtain ⟨k, r0, r1, r2, r3, q, sent, ra⟩ := s
 simp only at hk
 subst hk
 unfold stC at hb
 simp only at hb hown hne
 have hlt := zao hb
 obtain ⟨g0, g1, g2, g3, g4, g5, g6, g7, f0, f1, f2, f3, f4, f5, f6, f7⟩ := zba hb
 have HB := zhd hb; have HO := zhd hown; have HN := zhd hne
 clear hb hown hne
 simp only at hs
 rcases reg4 hreg with rfl | rfl | rfl | rfl
 · clear hreg
   go_enter Tryz.func215, Tryz.ntmps215
   go_wp2_with fail
   go_end0
   exact ⟨rfl, zbV (s' := zbo ⟨1, r0, r1, r2, r3, q, sent, ra⟩ 0 n) HB.out HO.out HN.out 6 _ rfl rfl, za2 hB (Below.refl _ _)⟩
 · clear hreg
   go_enter Tryz.func215, Tryz.ntmps215
   go_wp2_with fail
   go_end0
   exact ⟨rfl, ⟨_, HB.out, Reads.own HO.out (zcs _), zbs HO.out⟩, Below.refl _ _⟩
 · clear hreg
   go_enter Tryz.func215, Tryz.ntmps215
   go_wp2_with fail
   go_end0
   exact ⟨rfl, zbV (s' := zbo ⟨1, r0, r1, r2, r3, q, sent, ra⟩ 2 n) HB.out HO.out HN.out 3 _ rfl rfl, za2 hB (Below.refl _ _)⟩
 · clear hreg
   go_enter Tryz.func215, Tryz.ntmps215
   go_wp2_with fail
   go_end0
   exact ⟨rfl, ⟨_, HB.out, Reads.own HO.out (zcs _), zbs HO.out⟩, Below.refl _ _⟩

set_option maxHeartbeats 1000000 in
theorem zh6 (B b : Nat) (s : St) (reg n : Int) (w : World) (h : Works B 166 w b s) (hk : s.k = 2) (hreg : 0 ≤ reg ∧ reg < 4) (hs : 0 ≤ s.sent ∧ s.sent ≤ 2147483647) :
 Calls Tryz.prog 220 #[.pointer (some ⟨b, 0, none⟩), .int .i64 reg, .int .i64 n] w fun e w' => e = .returned (.tuple #[]) ∧ After B 166 w' b (zbo s reg n) ∧ Below B w w' := by
 obtain ⟨qv, hb, hB, hown, hne⟩ := h
 obtain ⟨a1, c1, rfl⟩ := zai hown
 obtain ⟨k, r0, r1, r2, r3, q, sent, ra⟩ := s
 simp only at hk
 subst hk
 unfold stC at hb
 simp only at hb hown hne
 have hlt := zao hb
 obtain ⟨g0, g1, g2, g3, g4, g5, g6, g7, f0, f1, f2, f3, f4, f5, f6, f7⟩ := zba hb
 have HB := zhd hb; have HO := zhd hown; have HN := zhd hne
 clear hb hown hne
 simp only at hs
 rcases reg4 hreg with rfl | rfl | rfl | rfl
 · clear hreg
   go_enter Tryz.func220, Tryz.ntmps220
   go_wp2_with fail
   go_end0
   exact ⟨rfl, ⟨_, HB.out, Reads.own HO.out (zcs _), zbs HO.out⟩, Below.refl _ _⟩
 · clear hreg
   go_enter Tryz.func220, Tryz.ntmps220
   go_wp2_with fail
   go_end0
   exact ⟨rfl, zbV (s' := zbo ⟨2, r0, r1, r2, r3, q, sent, ra⟩ 1 n) HB.out HO.out HN.out 2 _ rfl rfl, za2 hB (Below.refl _ _)⟩
 · clear hreg
   go_enter Tryz.func220, Tryz.ntmps220
   go_wp2_with fail
   go_end0
   exact ⟨rfl, zbV (s' := zbo ⟨2, r0, r1, r2, r3, q, sent, ra⟩ 2 n) HB.out HO.out HN.out 3 _ rfl rfl, za2 hB (Below.refl _ _)⟩
 · clear hreg
   go_enter Tryz.func220, Tryz.ntmps220
   go_wp2_with fail
   go_end0
   exact ⟨rfl, zbV (s' := zbo ⟨2, r0, r1, r2, r3, q, sent, ra⟩ 3 n) HB.out HO.out HN.out 7 _ rfl rfl, za2 hB (Below.refl _ _)⟩

set_option maxHeartbeats 1000000 in
theorem zjB (B b : Nat) (s : St) (reg n : Int) (w : World) (h : Works B 168 w b s) (hk : s.k = 3) (hreg : 0 ≤ reg ∧ reg < 4) (hs : 0 ≤ s.sent ∧ s.sent ≤ 2147483647) :
 Calls Tryz.prog 223 #[.pointer (some ⟨b, 0, none⟩), .int .i64 reg, .int .i64 n] w fun e w' => e = .returned (.tuple #[]) ∧ After B 168 w' b (zbo s reg n) ∧ Below B w w' := by
 obtain ⟨qv, hb, hB, hown, hne⟩ := h
 obtain ⟨a1, c1, rfl⟩ := zai hown
 obtain ⟨k, r0, r1, r2, r3, q, sent, ra⟩ := s
 simp only at hk
 subst hk
 unfold stC at hb
 simp only at hb hown hne
 have hlt := zao hb
 obtain ⟨g0, g1, g2, g3, g4, g5, g6, g7, f0, f1, f2, f3, f4, f5, f6, f7⟩ := zba hb
 have HB := zhd hb; have HO := zhd hown; have HN := zhd hne
 clear hb hown hne
 simp only at hs
 rcases reg4 hreg with rfl | rfl | rfl | rfl
 · clear hreg
   go_enter Tryz.func223, Tryz.ntmps223
   go_wp2_with fail
   go_end0
   exact ⟨rfl, zbV (s' := zbo ⟨3, r0, r1, r2, r3, q, sent, ra⟩ 0 n) HB.out HO.out HN.out 1 _ rfl rfl, za2 hB (Below.refl _ _)⟩
 · clear hreg
   go_enter Tryz.func223, Tryz.ntmps223
   go_wp2_with fail
   go_end0
   exact ⟨rfl, ⟨_, HB.out, Reads.own HO.out (zcs _), zbs HO.out⟩, Below.refl _ _⟩
 · clear hreg
   go_enter Tryz.func223, Tryz.ntmps223
   go_wp2_with fail
   go_end0
   exact ⟨rfl, zbV (s' := zbo ⟨3, r0, r1, r2, r3, q, sent, ra⟩ 2 n) HB.out HO.out HN.out 3 _ rfl rfl, za2 hB (Below.refl _ _)⟩
 · clear hreg
   go_enter Tryz.func223, Tryz.ntmps223
   go_wp2_with fail
   go_region
   all_goals
    go_wp2_with fail
    go_end0
    exact ⟨rfl, After.drew (zbV (s' := zbo ⟨3, r0, r1, r2, r3, q, sent, ra⟩ 3 n) HB.out HO.out HN.out 4 _ rfl rfl), (za2 hB (Below.refl _ _)).drew⟩
end
section
open Go.RowKit

theorem zdO (b : Nat) (s : St) (T : TypeId) (qa : Option Addr) (qn qc : Nat) (reg : Int) (w : World) (hreg : 0 ≤ reg ∧ reg < 4)
 (hb : w.heap[b]? = some (.cells (stC s (.slice qa qn qc)) T (0, 0))) :
 Calls Tryz.prog 216 #[.pointer (some ⟨b, 0, none⟩), .int .i64 reg] w fun e w' => e = .returned (.int .i64 (if reg = 0 then s.r0 else if reg = 1 then s.r1 else if reg = 2 then s.r2 else s.r3)) ∧ w = w' := by
 obtain ⟨k, r0, r1, r2, r3, q, sent, ra⟩ := s
 unfold stC at hb
 simp only at hb
 obtain ⟨g0, g1, g2, g3, g4, g5, g6, g7, f0, f1, f2, f3, f4, f5, f6, f7⟩ := zba hb
 clear hb
 rcases reg4 hreg with rfl | rfl | rfl | rfl
 all_goals
  clear hreg
  go_enter Tryz.func216, Tryz.ntmps216
  go_wp2
  go_ret
  exact ⟨ret1 (rint rfl), rfl⟩

set_option maxHeartbeats 1000000 in
theorem zjW (B b : Nat) (s : St) (reg : Int) (w : World) (h : Works B 166 w b s) (hk : s.k = 2) (hreg : 0 ≤ reg ∧ reg < 4) :
 Calls Tryz.prog 219 #[.pointer (some ⟨b, 0, none⟩), .int .i64 reg] w fun e w' => e = .returned (.int .i64 (zbl s reg)) ∧ After B 166 w' b (zbI s reg) ∧ Below B w w' := by
 obtain ⟨qv, hb, hB, hown, hne⟩ := h
 obtain ⟨a1, c1, rfl⟩ := zai hown
 obtain ⟨k, r0, r1, r2, r3, q, sent, ra⟩ := s
 simp only at hk
 subst hk
 unfold stC at hb
 simp only at hb hown hne
 have hlt := zao hb
 obtain ⟨g0, g1, g2, g3, g4, g5, g6, g7, f0, f1, f2, f3, f4, f5, f6, f7⟩ := zba hb
 have HB := zhd hb; have HO := zhd hown; have HN := zhd hne
 clear hb hown hne
 have hc3 : ∀ r : Int, zbI ⟨2, r0, r1, r2, r3, q, sent, ra⟩ r = ⟨2, r0, r1, r2, r3, q, sent, ra⟩ := fun r => by unfold zbI; rw [if_neg]; simp
 rw [hc3]; clear hc3
 rcases reg4 hreg with rfl | rfl | rfl | rfl
 · go_enter Tryz.func219, Tryz.ntmps219
   go_wp2_with (go_at_call 216; refine (zdO _ ⟨2, r0, r1, r2, r3, q, sent, ra⟩ _ _ _ _ 0 _ hreg HB.out).mono ?_; rintro e w' ⟨rfl, rfl⟩)
   go_ret
   exact ⟨ret1 (rint rfl), ⟨_, HB.out, Reads.own HO.out (zcs _), zbs HO.out⟩, Below.refl _ _⟩
 · go_enter Tryz.func219, Tryz.ntmps219
   go_wp2_with (go_at_call 216; refine (zdO _ ⟨2, r0, r1, r2, r3, q, sent, ra⟩ _ _ _ _ 1 _ hreg HB.out).mono ?_; rintro e w' ⟨rfl, rfl⟩)
   go_ret
   exact ⟨ret1 (rint rfl), ⟨_, HB.out, Reads.own HO.out (zcs _), zbs HO.out⟩, Below.refl _ _⟩
 · go_enter Tryz.func219, Tryz.ntmps219
   go_wp2_with (go_at_call 216; refine (zdO _ ⟨2, r0, r1, r2, r3, q, sent, ra⟩ _ _ _ _ 2 _ hreg HB.out).mono ?_; rintro e w' ⟨rfl, rfl⟩)
   go_ret
   exact ⟨ret1 (rint rfl), ⟨_, HB.out, Reads.own HO.out (zcs _), zbs HO.out⟩, Below.refl _ _⟩
 · cases ra
   all_goals
    go_enter Tryz.func219, Tryz.ntmps219
    go_wp2_with fail
    go_ret
    exact ⟨ret1 (rint rfl), ⟨_, HB.out, Reads.own HO.out (zcs _), zbs HO.out⟩, Below.refl _ _⟩

set_option maxHeartbeats 1000000 in
theorem zlt (B b : Nat) (s : St) (reg : Int) (w : World) (h : Works B 168 w b s) (hk : s.k = 3) (hreg : 0 ≤ reg ∧ reg < 4) :
 Calls Tryz.prog 216 #[.pointer (some ⟨b, 0, none⟩), .int .i64 reg] w fun e w' => e = .returned (.int .i64 (zbl s reg)) ∧ After B 168 w' b (zbI s reg) ∧ Below B w w' := by
 obtain ⟨qv, hb, hB, hown, hne⟩ := h
 obtain ⟨a1, c1, rfl⟩ := zai hown
 obtain ⟨k, r0, r1, r2, r3, q, sent, ra⟩ := s
 simp only at hk
 subst hk
 unfold stC at hb
 simp only at hb hown hne
 have hlt := zao hb
 obtain ⟨g0, g1, g2, g3, g4, g5, g6, g7, f0, f1, f2, f3, f4, f5, f6, f7⟩ := zba hb
 have HB := zhd hb; have HO := zhd hown; have HN := zhd hne
 clear hb hown hne
 refine (zdO _ ⟨3, r0, r1, r2, r3, q, sent, ra⟩ _ _ _ _ reg _ hreg HB.out).mono ?_
 rintro e w' ⟨rfl, rfl⟩
 have hc3 : zbI ⟨3, r0, r1, r2, r3, q, sent, ra⟩ reg = ⟨3, r0, r1, r2, r3, q, sent, ra⟩ := by unfold zbI; rw [if_neg]; simp
 rw [hc3]
 exact ⟨ret1 (rint rfl), ⟨_, HB.out, Reads.own HO.out (zcs _), zbs HO.out⟩, Below.refl _ _⟩

set_option maxHeartbeats 1000000 in
theorem zls (B b : Nat) (s : St) (reg : Int) (w : World) (h : Works B 164 w b s) (hk : s.k = 1) (hreg : 0 ≤ reg ∧ reg < 4) :
 Calls Tryz.prog 213 #[.pointer (some ⟨b, 0, none⟩), .int .i64 reg] w fun e w' => e = .returned (.int .i64 (zbl s reg)) ∧ After B 164 w' b (zbI s reg) ∧ Below B w w' := by
 obtain ⟨qv, hb, hB, hown, hne⟩ := h
 obtain ⟨a1, c1, rfl⟩ := zai hown
 obtain ⟨k, r0, r1, r2, r3, q, sent, ra⟩ := s
 simp only at hk
 subst hk
 unfold stC at hb
 simp only at hb hown hne
 have hlt := zao hb
 obtain ⟨g0, g1, g2, g3, g4, g5, g6, g7, f0, f1, f2, f3, f4, f5, f6, f7⟩ := zba hb
 have HB := zhd hb; have HO := zhd hown; have HN := zhd hne
 clear hb hown hne
 rcases reg4 hreg with rfl | rfl | rfl | rfl
 · cases q with
   |
    nil =>
    simp only [List.length_nil] at *
    clear hreg
    go_enter Tryz.func213, Tryz.ntmps213
    go_wp2_with fail
    go_ret
    exact ⟨ret1 (rint rfl), ⟨_, HB.out, Reads.own HO.out (zcs _), zbs HO.out⟩, Below.refl _ _⟩
   |
    cons x q =>
    obtain ⟨g, c, cur, hv, hg, hcur, hn, hm, hcs, ht⟩ : ∃ g c cur, Value.slice a1 (q.length + 1) c1 = .slice (some ⟨g, 0, none⟩) (q.length + 1) c ∧ B ≤ g ∧ w.heap[g]? = some (.cells cur 3 (0, 0)) ∧ q.length + 1 ≤ c ∧ c ≤ maxLen ∧ cur.size = c * 1 ∧ cur.toList.take ((q.length + 1) * 1) = qL ⟨1, r0, r1, r2, r3, x :: q, sent, ra⟩ := by
     rcases HO.out.2 with ⟨h1, h2⟩ | h
     · simp at h2
     · simpa using h
    obtain ⟨rfl, rfl⟩ : a1 = some ⟨g, 0, none⟩ ∧ c1 = c := by simpa using hv
    have hgb : g ≠ b := fun e => HN.out (by rw [e]; rfl)
    have hall : ∀ j u, (qL ⟨1, r0, r1, r2, r3, x :: q, sent, ra⟩)[j]? = some u → w.cell? ⟨g, j, none⟩ = some u := fun j u hj => by
     have hj2 : j < (q.length + 1) * 1 := by
      have := (List.getElem?_eq_some_iff.1 hj).1
      rw [len_qL] at this; simpa using this
     have hk : w.ownsRow B 3 1 (.slice (some ⟨g, 0, none⟩) (q.length + 1) c1) (q.length + 1) (qL ⟨1, r0, r1, r2, r3, x :: q, sent, ra⟩) := HO.out
     rw [hk.cellAt j hj2, hj]
    have hx := hall 0 _ rfl
    have HALL := zhd hall; have HC := zhd hcur
    have hlg := zao hcur
    clear hall hcur ht hcs hv
    unfold maxLen at hm
    simp only [List.length_cons] at *
    clear hreg
    by_cases hc1 : c1 = 1
    · subst hc1
      go_enter Tryz.func213, Tryz.ntmps213
      go_wp2_with fail
      go_ret
      have hq0 : q = [] := List.eq_nil_of_length_eq_zero (by omega)
      subst hq0
      exact ⟨ret1 (rint rfl), zhg (s := ⟨1, r0, r1, r2, r3, [], sent, ra⟩) (zaG HB.out 5 _) ⟨rfl, by simp [qL], .inr ⟨g, 0, 0, rfl, by rw [zaH]; exact hlg, Nat.zero_le _, by simp, fun j u hj => by simp [qL] at hj⟩⟩ (fun a n c h => by cases h; exact hg), za2 hB (Below.refl _ _)⟩
    · go_enter Tryz.func213, Tryz.ntmps213
      go_wp2_with fail
      go_ret
      refine ⟨ret1 (rint rfl), zhg (s := ⟨1, r0, r1, r2, r3, q, sent, ra⟩) (zaG HB.out 5 _) ⟨by simp [qL], zcs _, .inr ⟨g, 1, c1 - 1, rfl, by rw [zaH]; exact hlg, by simp only; omega, by unfold maxLen; omega, fun j u hj => ?_⟩⟩ (fun a n c h => by cases h; exact hg), za2 hB (Below.refl _ _)⟩
      rw [zbU hgb]
      refine HALL.out (1 + j) u ?_
      rw [Nat.add_comm]; exact hj
 · cases q with
   |
    nil =>
    simp only [List.length_nil] at *
    clear hreg
    go_enter Tryz.func213, Tryz.ntmps213
    go_wp2_with fail
    go_ret
    exact ⟨ret1 (rint rfl), ⟨_, HB.out, Reads.own HO.out (zcs _), zbs HO.out⟩, Below.refl _ _⟩
   |
    cons x q =>
    simp only [List.length_cons] at *
    clear hreg
    go_enter Tryz.func213, Tryz.ntmps213
    go_wp2_with fail
    go_ret
    exact ⟨ret1 (rint rfl), ⟨_, HB.out, Reads.own HO.out (zcs _), zbs HO.out⟩, Below.refl _ _⟩
 · go_enter Tryz.func213, Tryz.ntmps213
   go_wp2_with (go_at_call 216; refine (zdO _ ⟨1, r0, r1, r2, r3, q, sent, ra⟩ _ _ _ _ 2 _ hreg HB.out).mono ?_; rintro e w' ⟨rfl, rfl⟩)
   go_ret
   exact ⟨ret1 (rint rfl), ⟨_, HB.out, Reads.own HO.out (zcs _), zbs HO.out⟩, Below.refl _ _⟩
 · clear hreg
   go_enter Tryz.func213, Tryz.ntmps213
   go_wp2_with fail
   go_ret
   exact ⟨ret1 (rint rfl), ⟨_, HB.out, Reads.own HO.out (zcs _), zbs HO.out⟩, Below.refl _ _⟩
end
section
open Go.RowKit
theorem zeW {P : Program} {ops : Array Oper} {w : World} {Q : Act → Prop} {a : Act} {o : Oper} {rest : List Oper} (hw : Region.wanted o (yielded ops a.tmps) = false) (h : wpStill P ops w Q rest (a.put o.dst undef)) : wpStill P ops w Q (o :: rest) a := by
 simp only [wpStill, hw]; exact h
theorem zcC {P : Program} {ops : Array Oper} {w : World} {Q : Act → Prop} {a : Act} {o : Oper} {rest : List Oper} (hw : Region.wanted o (yielded ops a.tmps) = true) (h : ∀ K : Act → Prop, (∀ a, wpStill P ops w Q rest a → K a) → o.still P a w K) : wpStill P ops w Q (o :: rest) a := by
 simp only [wpStill, hw]; exact h _ (fun _ h => h)
attribute [local irreducible] wpStill

set_option maxHeartbeats 1000000 in
theorem zkc (B b : Nat) (s : St) (n : Int) (w : World) (h : Works B 168 w b s) (hk : s.k = 3) (_ : -2147483648 ≤ n ∧ n ≤ 2147483647) (hr0 : -2147483648 ≤ s.r0 ∧ s.r0 ≤ 2147483647) :
 Calls Tryz.prog 221 #[.pointer (some ⟨b, 0, none⟩), .int .i64 n] w fun e w' => e = .returned (.tuple #[]) ∧ After B 168 w' b (zbp s n) ∧ Below B w w' := by
 obtain ⟨qv, hb, hB, hown, hne⟩ := h
 obtain ⟨a1, c1, rfl⟩ := zai hown
 obtain ⟨k, r0, r1, r2, r3, q, sent, ra⟩ := s
 simp only at hk
 subst hk
 unfold stC at hb
 simp only at hb hown hne
 have hlt := zao hb
 obtain ⟨g0, g1, g2, g3, g4, g5, g6, g7, f0, f1, f2, f3, f4, f5, f6, f7⟩ := zba hb
 have HB := zhd hb; have HO := zhd hown; have HN := zhd hne
 clear hb hown hne
 simp only at hr0
 go_enter Tryz.func221, Tryz.ntmps221
 go_wp2_with fail
 go_still_tail 30, (by kernel_rfl)
 change wpList _ _ _ _ _ w.drew
 go_wp2_with fail
 go_end0
 refine ⟨rfl, After.drew ?_, (za2 hB (za2 hB (Below.refl _ _))).drew⟩
 exact zbV (s := ⟨3, r0, r1, r2, bits .or .i64 r3 (bits .and .i64 (bits .xor .i64 n r1) r2), q, sent, ra⟩) (s' := zbp ⟨3, r0, r1, r2, r3, q, sent, ra⟩ n) (zaG HB.out 4 _) (zeM HO.out HN.out 4 _) HN.out 2 _ rfl rfl

set_option maxHeartbeats 1000000 in
theorem zix (B b : Nat) (s : St) (n : Int) (w : World) (h : Works B 166 w b s) (hk : s.k = 2) (_ : -2147483648 ≤ n ∧ n ≤ 2147483647) (hr0 : -2147483648 ≤ s.r0 ∧ s.r0 ≤ 2147483647) :
 Calls Tryz.prog 217 #[.pointer (some ⟨b, 0, none⟩), .int .i64 n] w fun e w' => e = .returned (.tuple #[]) ∧ After B 166 w' b (zbp s n) ∧ Below B w w' := by
 obtain ⟨qv, hb, hB, hown, hne⟩ := h
 obtain ⟨a1, c1, rfl⟩ := zai hown
 obtain ⟨k, r0, r1, r2, r3, q, sent, ra⟩ := s
 simp only at hk
 subst hk
 unfold stC at hb
 simp only at hb hown hne
 have hlt := zao hb
 obtain ⟨g0, g1, g2, g3, g4, g5, g6, g7, f0, f1, f2, f3, f4, f5, f6, f7⟩ := zba hb
 have HB := zhd hb; have HO := zhd hown; have HN := zhd hne
 clear hb hown hne
 simp only at hr0
 cases ra with
 |
  true =>
  go_enter Tryz.func217, Tryz.ntmps217
  go_wp2_with fail
  go_still_tail 15, (by kernel_rfl)
  still_call ((zaX _ _).mono fun _ _ ⟨h, hw⟩ => ⟨h, hw.symm⟩)
  repeat still_step
  refine wpStill_nil ?_
  change wpList _ _ _ _ _ w.drew
  go_wp2_with fail
  have hb1 := zaG HB.out 1 (Value.int IntKind.i64 (wrap32 (r0 + 1)))
  have hb2 : ((w.setCell ⟨b, 1, none⟩ (Value.int IntKind.i64 (wrap32 (r0 + 1)))).drew).heap[b]? = some (.cells #[.int .i64 2, .int .i64 (wrap32 (r0 + 1)), .int .i64 r1, .int .i64 r2, .int .i64 r3, .slice a1 q.length c1, .int .i64 sent, .bool true] 166 (0, 0)) := hb1
  have ho2 : ((w.setCell ⟨b, 1, none⟩ (Value.int IntKind.i64 (wrap32 (r0 + 1)))).drew).ownsRow B 3 1 (.slice a1 q.length c1) q.length (qL ⟨2, r0, r1, r2, r3, q, sent, true⟩) := zeM HO.out HN.out 1 _
  have hB2 : Below B w ((w.setCell ⟨b, 1, none⟩ (Value.int IntKind.i64 (wrap32 (r0 + 1)))).drew) := (za2 hB (Below.refl _ _)).drew
  have HB2 := zhd hb2; have HO2 := zhd ho2; have HBEL := zhd hB2
  clear hb1 hb2 ho2 hB2 HB HO g0 g1 g2 g3 g4 g5 g6 g7 f0 f1 f2 f3 f4 f5 f6 f7
  generalize (w.setCell ⟨b, 1, none⟩ (Value.int IntKind.i64 (wrap32 (r0 + 1)))).drew = w1 at *
  have hlt1 := zao HB2.out
  obtain ⟨g0, g1, g2, g3, g4, g5, g6, g7, f0, f1, f2, f3, f4, f5, f6, f7⟩ := zba HB2.out
  refine wp_region_still_tail 34 (by kernel_rfl) (by kernel_rfl) ?_
  simp only [List.take_succ_cons, List.take_zero, List.drop_succ_cons, List.drop_zero]
  iterate 8 still_step
  iterate 21 refine zeW (by kernel_rfl) ?_
  repeat still_step
  refine wpStill_nil ?_
  change wpList _ _ _ _ _ w1.drew
  go_wp2_with fail
  go_end0
  exact ⟨rfl, After.drew (zbV (s := ⟨2, wrap32 (r0 + 1), r1, r2, r3, q, sent, true⟩) (s' := zbp ⟨2, r0, r1, r2, r3, q, sent, true⟩ n) HB2.out HO2.out HN.out 7 _ rfl rfl), (za2 hB HBEL.out).drew⟩
 |
  false =>
  by_cases he : wrap32 (r0 + 1) = r1
  · skip
    have heb : (wrap32 (r0 + 1) == r1) = true := beq_iff_eq.2 he
    have hs : zbp ⟨2, r0, r1, r2, r3, q, sent, false⟩ n = ⟨2, wrap32 (r0 + 1), r1, r2, r3, q, sent, bits .and .i64 r2 1 != 0⟩ := by simp [zbp, heb, en]
    rw [hs]
    clear hs he
    go_enter Tryz.func217, Tryz.ntmps217
    go_wp2_with fail
    go_still_tail 15, (by kernel_rfl)
    still_call ((zaX _ _).mono fun _ _ ⟨h, hw⟩ => ⟨h, hw.symm⟩)
    repeat still_step
    refine wpStill_nil ?_
    change wpList _ _ _ _ _ w.drew
    go_wp2_with fail
    have hb1 := zaG HB.out 1 (Value.int IntKind.i64 (wrap32 (r0 + 1)))
    have hb2 : ((w.setCell ⟨b, 1, none⟩ (Value.int IntKind.i64 (wrap32 (r0 + 1)))).drew).heap[b]? = some (.cells #[.int .i64 2, .int .i64 (wrap32 (r0 + 1)), .int .i64 r1, .int .i64 r2, .int .i64 r3, .slice a1 q.length c1, .int .i64 sent, .bool false] 166 (0, 0)) := hb1
    have ho2 : ((w.setCell ⟨b, 1, none⟩ (Value.int IntKind.i64 (wrap32 (r0 + 1)))).drew).ownsRow B 3 1 (.slice a1 q.length c1) q.length (qL ⟨2, r0, r1, r2, r3, q, sent, false⟩) := zeM HO.out HN.out 1 _
    have hB2 : Below B w ((w.setCell ⟨b, 1, none⟩ (Value.int IntKind.i64 (wrap32 (r0 + 1)))).drew) := (za2 hB (Below.refl _ _)).drew
    have HB2 := zhd hb2; have HO2 := zhd ho2; have HBEL := zhd hB2
    clear hb1 hb2 ho2 hB2 HB HO g0 g1 g2 g3 g4 g5 g6 g7 f0 f1 f2 f3 f4 f5 f6 f7
    generalize (w.setCell ⟨b, 1, none⟩ (Value.int IntKind.i64 (wrap32 (r0 + 1)))).drew = w1 at *
    have hlt1 := zao HB2.out
    obtain ⟨g0, g1, g2, g3, g4, g5, g6, g7, f0, f1, f2, f3, f4, f5, f6, f7⟩ := zba HB2.out
    refine wp_region_still_tail 34 (by kernel_rfl) (by kernel_rfl) ?_
    simp only [List.take_succ_cons, List.take_zero, List.drop_succ_cons, List.drop_zero]
    iterate 8 still_step
    iterate 19 (refine zcC (by kernel_rfl) (fun K hK => ?_); go_simp; refine hK _ ?_; clear hK K)
    (refine zcC (by kernel_rfl) (fun K hK => ?_); go_simp; refine ⟨_, ((zeo _ r2 w1.drew g3).mono fun _ _ hh => ⟨hh.1, hh.2.symm⟩), hK _ ?_⟩; clear hK K)
    (refine zcC (by kernel_rfl) (fun K hK => ?_); go_simp; refine hK _ ?_; clear hK K)
    repeat still_step
    refine wpStill_nil ?_
    change wpList _ _ _ _ _ w1.drew
    go_wp2_with fail
    go_end0
    exact ⟨rfl, After.drew (zbV (s := ⟨2, wrap32 (r0 + 1), r1, r2, r3, q, sent, false⟩) (s' := ⟨2, wrap32 (r0 + 1), r1, r2, r3, q, sent, bits .and .i64 r2 1 != 0⟩) HB2.out HO2.out HN.out 7 _ rfl rfl), (za2 hB HBEL.out).drew⟩
  · skip
    have heb : (wrap32 (r0 + 1) == r1) = false := beq_eq_false_iff_ne.2 he
    have hs : zbp ⟨2, r0, r1, r2, r3, q, sent, false⟩ n = ⟨2, wrap32 (r0 + 1), r1, r2, r3, q, sent, false⟩ := by simp [zbp, heb]
    rw [hs]
    clear hs he
    go_enter Tryz.func217, Tryz.ntmps217
    go_wp2_with fail
    go_still_tail 15, (by kernel_rfl)
    still_call ((zaX _ _).mono fun _ _ ⟨h, hw⟩ => ⟨h, hw.symm⟩)
    repeat still_step
    refine wpStill_nil ?_
    change wpList _ _ _ _ _ w.drew
    go_wp2_with fail
    have hb1 := zaG HB.out 1 (Value.int IntKind.i64 (wrap32 (r0 + 1)))
    have hb2 : ((w.setCell ⟨b, 1, none⟩ (Value.int IntKind.i64 (wrap32 (r0 + 1)))).drew).heap[b]? = some (.cells #[.int .i64 2, .int .i64 (wrap32 (r0 + 1)), .int .i64 r1, .int .i64 r2, .int .i64 r3, .slice a1 q.length c1, .int .i64 sent, .bool false] 166 (0, 0)) := hb1
    have ho2 : ((w.setCell ⟨b, 1, none⟩ (Value.int IntKind.i64 (wrap32 (r0 + 1)))).drew).ownsRow B 3 1 (.slice a1 q.length c1) q.length (qL ⟨2, r0, r1, r2, r3, q, sent, false⟩) := zeM HO.out HN.out 1 _
    have hB2 : Below B w ((w.setCell ⟨b, 1, none⟩ (Value.int IntKind.i64 (wrap32 (r0 + 1)))).drew) := (za2 hB (Below.refl _ _)).drew
    have HB2 := zhd hb2; have HO2 := zhd ho2; have HBEL := zhd hB2
    clear hb1 hb2 ho2 hB2 HB HO g0 g1 g2 g3 g4 g5 g6 g7 f0 f1 f2 f3 f4 f5 f6 f7
    generalize (w.setCell ⟨b, 1, none⟩ (Value.int IntKind.i64 (wrap32 (r0 + 1)))).drew = w1 at *
    have hlt1 := zao HB2.out
    obtain ⟨g0, g1, g2, g3, g4, g5, g6, g7, f0, f1, f2, f3, f4, f5, f6, f7⟩ := zba HB2.out
    refine wp_region_still_tail 34 (by kernel_rfl) (by kernel_rfl) ?_
    simp only [List.take_succ_cons, List.take_zero, List.drop_succ_cons, List.drop_zero]
    iterate 8 still_step
    iterate 16 (refine zcC (by kernel_rfl) (fun K hK => ?_); go_simp; refine hK _ ?_; clear hK K)
    iterate 4 refine zeW (by kernel_rfl) ?_
    (refine zcC (by kernel_rfl) (fun K hK => ?_); go_simp; refine hK _ ?_; clear hK K)
    repeat still_step
    refine wpStill_nil ?_
    change wpList _ _ _ _ _ w1.drew
    go_wp2_with fail
    go_end0
    exact ⟨rfl, After.drew (zbV (s := ⟨2, wrap32 (r0 + 1), r1, r2, r3, q, sent, false⟩) (s' := ⟨2, wrap32 (r0 + 1), r1, r2, r3, q, sent, false⟩) HB2.out HO2.out HN.out 7 _ rfl rfl), (za2 hB HBEL.out).drew⟩

set_option maxRecDepth 100000 in
set_option maxHeartbeats 1000000 in
theorem zkb (B b : Nat) (s : St) (n : Int) (w : World) (h : Works B 164 w b s) (hk : s.k = 1) (_ : -2147483648 ≤ n ∧ n ≤ 2147483647) (hr0 : -2147483648 ≤ s.r0 ∧ s.r0 ≤ 2147483647) :
 Calls Tryz.prog 211 #[.pointer (some ⟨b, 0, none⟩), .int .i64 n] w fun e w' => e = .returned (.tuple #[]) ∧ After B 164 w' b (zbp s n) ∧ Below B w w' := by
 obtain ⟨qv, hb, hB, hown, hne⟩ := h
 obtain ⟨a1, c1, rfl⟩ := zai hown
 obtain ⟨k, r0, r1, r2, r3, q, sent, ra⟩ := s
 simp only at hk
 subst hk
 unfold stC at hb
 simp only at hb hown hne
 have hlt := zao hb
 obtain ⟨g0, g1, g2, g3, g4, g5, g6, g7, f0, f1, f2, f3, f4, f5, f6, f7⟩ := zba hb
 have HB := zhd hb; have HO := zhd hown; have HN := zhd hne
 clear hb hown hne
 simp only at hr0
 obtain ⟨i0, hi, hz0, hz1, hz2⟩ := info_parts zjj
 by_cases hlen : q.length < 16
 · have hnew : ∀ j u, [Value.int IntKind.i64 (bits .and .i64 n 255)][j]? = some u → (w.alloc (.cells #[.int .i64 (bits .and .i64 n 255)] 3)).cell? ((⟨w.heap.size, 0, none⟩ : Addr).add j) = some u := cell_one_new _ _ _
   have HN2 := zhd hnew; clear hnew
   go_enter Tryz.func211, Tryz.ntmps211
   go_wp2_with (at_builtin; refine wpList_append_own _ rfl _ _ 24 rfl B 3 i0 (.int .i64 0) 1 8 Tryz.underlying24 hi hz0 hz1 hz2 rfl (by decide) _ q.length _ rfl (HO.out.alloc _) ⟨w.heap.size, 0, none⟩ 1 1 [.int .i64 (bits .and .i64 n 255)] rfl rfl HN2.out (by simp [Value.oneCell']) (by unfold maxLen; omega) (by omega) (by simp; omega) ?_; intro v' w1 hown' hgrow _; obtain ⟨a2, c2, rfl⟩ := zai hown'; have hbw := (hgrow.block b (by simp; omega) (fun e => HN.out e.symm)).trans (zaq ((Below.refl _ _).alloc (Nat.le_refl _) _) hlt HB.out); have hlt1 := zao hbw; obtain ⟨z0, z1, z2, z3, z4, z5, z6, z7, y0, y1, y2, y3, y4, y5, y6, y7⟩ := zba hbw; have HBW := zhd hbw; have HOW := zhd hown'; have HGR := zhd hgrow; clear hbw hown' hgrow)
   go_end0
   have hne2 : (Value.slice a2 (q.length + 1) c2).ownBlock ≠ some b := zik HOW.out HBW.out (by decide)
   have hlen2 : (q ++ [bits .and .i64 n 255]).length = q.length + 1 := by simp
   have hr2 : Reads (w1.setCell ⟨b, 5, none⟩ (.slice a2 (q.length + 1) c2)) 1 (q ++ [bits .and .i64 n 255]).length (.slice a2 (q.length + 1) c2) (qL ⟨1, r0, r1, r2, r3, q ++ [bits .and .i64 n 255], sent, ra⟩) := by
    rw [hlen2]
    refine Reads.own (base := B) (e := 3) ?_ (zcs _)
    have := zeM HOW.out hne2 5 (.slice a2 (q.length + 1) c2)
    simpa [qL] using this
   have hs : zbp ⟨1, r0, r1, r2, r3, q, sent, ra⟩ n = ⟨1, r0, r1, r2, r3, q ++ [bits .and .i64 n 255], sent, ra⟩ := by simp [zbp, hlen]
   rw [hs]
   exact ⟨rfl, zhg (s := ⟨1, r0, r1, r2, r3, q ++ [bits .and .i64 n 255], sent, ra⟩) (zaG HBW.out 5 _) hr2 (zbs HOW.out), za2 hB ((((Below.refl B w).alloc (by omega) _).grown HGR.out (by simp; omega) (fun k hk => (HO.out.lt k hk).1)))⟩
 · have hs : zbp ⟨1, r0, r1, r2, r3, q, sent, ra⟩ n = ⟨1, r0, r1, r2, r3, q, sent, ra⟩ := by simp [zbp, hlen]
   rw [hs]; clear hs
   go_enter Tryz.func211, Tryz.ntmps211
   go_wp2_with fail
   go_end0
   exact ⟨rfl, ⟨_, HB.out, Reads.own HO.out (zcs _), zbs HO.out⟩, Below.refl _ _⟩
end
section
open Go.RowKit
set_option maxRecDepth 100000
theorem Works.drew {B : Nat} {T : TypeId} {w : World} {b : Nat} {s : St} (h : Works B T w b s) : Works B T w.drew b s := h
theorem Below.of_drew {B : Nat} {w w' : World} (h : Below B w.drew w') : Below B w w' := ⟨h.os, h.tape, h.output, h.size, h.block⟩

set_option maxHeartbeats 1000000 in
theorem zkP (B b pr pn : Nat) (s : St) (reg n : Int) (w : World) (h : Works B 164 w b s) (hk : s.k = 1) (hreg : 0 ≤ reg ∧ reg < 4) (hs : 0 ≤ s.sent ∧ s.sent ≤ 2147483647)
 (h1 : w.cell? ⟨pr, 0, none⟩ = some (.int .i64 reg)) (h2 : w.cell? ⟨pn, 0, none⟩ = some (.int .i64 n)) :
 Calls Tryz.prog 191 #[.iface 160 (.pointer (some ⟨b, 0, none⟩)), .pointer (some ⟨pr, 0, none⟩), .pointer (some ⟨pn, 0, none⟩)] w fun e w' => e = .returned (.tuple #[]) ∧ After B 164 w' b (zbo s reg (wrap32 n)) ∧ Below B w w' := by
 have m1 := zfL
 have m2 := zfH
 have HH := zhd h; have HK := zhd hk; clear h hk
 go_enter Tryz.func191, Tryz.ntmps191
 go_wp2_with fail
 go_still_tail 7, (by kernel_rfl)
 still_call ((zaX n _).mono fun _ _ hh => ⟨hh.1, hh.2.symm⟩)
 repeat still_step
 refine wpStill_nil ?_
 change wpList _ _ _ _ _ w.drew
 go_wp2_with fail
 refine (zjA B b s reg _ _ (Works.drew HH.out) HK.out hreg hs).mono ?_
 rintro e w1 ⟨rfl, ha, hb⟩
 have HA := zhd ha; have HBB := zhd hb; clear ha hb
 go_wp2_with fail
 go_end0
 exact ⟨rfl, HA.out, Below.of_drew HBB.out⟩
set_option maxHeartbeats 1000000 in
theorem zmc (B b pn : Nat) (s : St) (n : Int) (w : World) (h : Works B 164 w b s) (hk : s.k = 1) (hr0 : -2147483648 ≤ s.r0 ∧ s.r0 ≤ 2147483647)
 (h2 : w.cell? ⟨pn, 0, none⟩ = some (.int .i64 n)) :
 Calls Tryz.prog 126 #[.iface 160 (.pointer (some ⟨b, 0, none⟩)), .pointer (some ⟨pn, 0, none⟩)] w fun e w' => e = .returned (.tuple #[]) ∧ After B 164 w' b (zbp s (wrap32 n)) ∧ Below B w w' := by
 have m1 := zfP
 have m2 := zfJ
 have HH := zhd h; have HK := zhd hk; clear h hk
 go_enter Tryz.func126, Tryz.ntmps126
 go_wp2_with fail
 go_still_tail 6, (by kernel_rfl)
 still_call ((zaX n _).mono fun _ _ hh => ⟨hh.1, hh.2.symm⟩)
 repeat still_step
 refine wpStill_nil ?_
 change wpList _ _ _ _ _ w.drew
 go_wp2_with fail
 refine (zkb B b s _ _ (Works.drew HH.out) HK.out (zdI n) hr0).mono ?_
 rintro e w1 ⟨rfl, ha, hb⟩
 have HA := zhd ha; have HBB := zhd hb; clear ha hb
 go_wp2_with fail
 go_end0
 exact ⟨rfl, HA.out, Below.of_drew HBB.out⟩
set_option maxHeartbeats 1000000 in
theorem zlu (B b pr pn : Nat) (s : St) (reg : Int) (u : Value) (T : TypeId) (w : World) (h : Works B 164 w b s) (hk : s.k = 1) (hreg : 0 ≤ reg ∧ reg < 4)
 (h1 : w.cell? ⟨pr, 0, none⟩ = some (.int .i64 reg)) (h2 : w.heap[pn]? = some (.cells #[u] T (0, 0))) (hpn : pn < B) :
 Calls Tryz.prog 192 #[.iface 160 (.pointer (some ⟨b, 0, none⟩)), .pointer (some ⟨pr, 0, none⟩), .pointer (some ⟨pn, 0, none⟩)] w fun e w' => e = .returned (.tuple #[]) ∧ ∃ w1, w' = w1.setCell ⟨pn, 0, none⟩ (.int .i64 (zbl s reg)) ∧ After B 164 w1 b (zbI s reg) ∧ Below B w w1 := by
 have m1 := zgh
 have HH := zhd h; have HK := zhd hk; have H2 := zhd h2; clear h hk h2
 go_enter Tryz.func192, Tryz.ntmps192
 go_wp2_with fail
 refine (zls B b s reg _ HH.out HK.out hreg).mono ?_
 rintro e w1 ⟨rfl, ha, hb⟩
 have h3 := zaq hb hpn H2.out
 have g0 := zad (j := 0) h3 rfl
 have f0 := zaa h3 0
 simp only [List.getElem_toArray, List.getElem_cons_zero] at g0
 have HA := zhd ha; have HBB := zhd hb; clear ha hb h3
 go_wp2_with fail
 go_end0
 exact ⟨rfl, _, rfl, HA.out, HBB.out⟩

set_option maxHeartbeats 1000000 in
theorem zjF (B b pr pn : Nat) (s : St) (reg n : Int) (w : World) (h : Works B 166 w b s) (hk : s.k = 2) (hreg : 0 ≤ reg ∧ reg < 4) (hs : 0 ≤ s.sent ∧ s.sent ≤ 2147483647)
 (h1 : w.cell? ⟨pr, 0, none⟩ = some (.int .i64 reg)) (h2 : w.cell? ⟨pn, 0, none⟩ = some (.int .i64 n)) :
 Calls Tryz.prog 191 #[.iface 165 (.pointer (some ⟨b, 0, none⟩)), .pointer (some ⟨pr, 0, none⟩), .pointer (some ⟨pn, 0, none⟩)] w fun e w' => e = .returned (.tuple #[]) ∧ After B 166 w' b (zbo s reg (wrap32 n)) ∧ Below B w w' := by
 have m1 := zff
 have m2 := zfc
 have HH := zhd h; have HK := zhd hk; clear h hk
 go_enter Tryz.func191, Tryz.ntmps191
 go_wp2_with fail
 go_still_tail 7, (by kernel_rfl)
 still_call ((zaX n _).mono fun _ _ hh => ⟨hh.1, hh.2.symm⟩)
 repeat still_step
 refine wpStill_nil ?_
 change wpList _ _ _ _ _ w.drew
 go_wp2_with fail
 refine (zh6 B b s reg _ _ (Works.drew HH.out) HK.out hreg hs).mono ?_
 rintro e w1 ⟨rfl, ha, hb⟩
 have HA := zhd ha; have HBB := zhd hb; clear ha hb
 go_wp2_with fail
 go_end0
 exact ⟨rfl, HA.out, Below.of_drew HBB.out⟩
set_option maxHeartbeats 1000000 in
theorem zkg (B b pn : Nat) (s : St) (n : Int) (w : World) (h : Works B 166 w b s) (hk : s.k = 2) (hr0 : -2147483648 ≤ s.r0 ∧ s.r0 ≤ 2147483647)
 (h2 : w.cell? ⟨pn, 0, none⟩ = some (.int .i64 n)) :
 Calls Tryz.prog 126 #[.iface 165 (.pointer (some ⟨b, 0, none⟩)), .pointer (some ⟨pn, 0, none⟩)] w fun e w' => e = .returned (.tuple #[]) ∧ After B 166 w' b (zbp s (wrap32 n)) ∧ Below B w w' := by
 have m1 := zfi
 have m2 := zfd
 have HH := zhd h; have HK := zhd hk; clear h hk
 go_enter Tryz.func126, Tryz.ntmps126
 go_wp2_with fail
 go_still_tail 6, (by kernel_rfl)
 still_call ((zaX n _).mono fun _ _ hh => ⟨hh.1, hh.2.symm⟩)
 repeat still_step
 refine wpStill_nil ?_
 change wpList _ _ _ _ _ w.drew
 go_wp2_with fail
 refine (zix B b s _ _ (Works.drew HH.out) HK.out (zdI n) hr0).mono ?_
 rintro e w1 ⟨rfl, ha, hb⟩
 have HA := zhd ha; have HBB := zhd hb; clear ha hb
 go_wp2_with fail
 go_end0
 exact ⟨rfl, HA.out, Below.of_drew HBB.out⟩
set_option maxHeartbeats 1000000 in
theorem zjX (B b pr pn : Nat) (s : St) (reg : Int) (u : Value) (T : TypeId) (w : World) (h : Works B 166 w b s) (hk : s.k = 2) (hreg : 0 ≤ reg ∧ reg < 4)
 (h1 : w.cell? ⟨pr, 0, none⟩ = some (.int .i64 reg)) (h2 : w.heap[pn]? = some (.cells #[u] T (0, 0))) (hpn : pn < B) :
 Calls Tryz.prog 192 #[.iface 165 (.pointer (some ⟨b, 0, none⟩)), .pointer (some ⟨pr, 0, none⟩), .pointer (some ⟨pn, 0, none⟩)] w fun e w' => e = .returned (.tuple #[]) ∧ ∃ w1, w' = w1.setCell ⟨pn, 0, none⟩ (.int .i64 (zbl s reg)) ∧ After B 166 w1 b (zbI s reg) ∧ Below B w w1 := by
 have m1 := zfO
 have HH := zhd h; have HK := zhd hk; have H2 := zhd h2; clear h hk h2
 go_enter Tryz.func192, Tryz.ntmps192
 go_wp2_with fail
 refine (zjW B b s reg _ HH.out HK.out hreg).mono ?_
 rintro e w1 ⟨rfl, ha, hb⟩
 have h3 := zaq hb hpn H2.out
 have g0 := zad (j := 0) h3 rfl
 have f0 := zaa h3 0
 simp only [List.getElem_toArray, List.getElem_cons_zero] at g0
 have HA := zhd ha; have HBB := zhd hb; clear ha hb h3
 go_wp2_with fail
 go_end0
 exact ⟨rfl, _, rfl, HA.out, HBB.out⟩

set_option maxHeartbeats 1000000 in
theorem zkQ (B b pr pn : Nat) (s : St) (reg n : Int) (w : World) (h : Works B 168 w b s) (hk : s.k = 3) (hreg : 0 ≤ reg ∧ reg < 4) (hs : 0 ≤ s.sent ∧ s.sent ≤ 2147483647)
 (h1 : w.cell? ⟨pr, 0, none⟩ = some (.int .i64 reg)) (h2 : w.cell? ⟨pn, 0, none⟩ = some (.int .i64 n)) :
 Calls Tryz.prog 191 #[.iface 167 (.pointer (some ⟨b, 0, none⟩)), .pointer (some ⟨pr, 0, none⟩), .pointer (some ⟨pn, 0, none⟩)] w fun e w' => e = .returned (.tuple #[]) ∧ After B 168 w' b (zbo s reg (wrap32 n)) ∧ Below B w w' := by
 have m1 := zfM
 have m2 := zfI
 have HH := zhd h; have HK := zhd hk; clear h hk
 go_enter Tryz.func191, Tryz.ntmps191
 go_wp2_with fail
 go_still_tail 7, (by kernel_rfl)
 still_call ((zaX n _).mono fun _ _ hh => ⟨hh.1, hh.2.symm⟩)
 repeat still_step
 refine wpStill_nil ?_
 change wpList _ _ _ _ _ w.drew
 go_wp2_with fail
 refine (zjB B b s reg _ _ (Works.drew HH.out) HK.out hreg hs).mono ?_
 rintro e w1 ⟨rfl, ha, hb⟩
 have HA := zhd ha; have HBB := zhd hb; clear ha hb
 go_wp2_with fail
 go_end0
 exact ⟨rfl, HA.out, Below.of_drew HBB.out⟩
set_option maxHeartbeats 1000000 in
theorem zmd (B b pn : Nat) (s : St) (n : Int) (w : World) (h : Works B 168 w b s) (hk : s.k = 3) (hr0 : -2147483648 ≤ s.r0 ∧ s.r0 ≤ 2147483647)
 (h2 : w.cell? ⟨pn, 0, none⟩ = some (.int .i64 n)) :
 Calls Tryz.prog 126 #[.iface 167 (.pointer (some ⟨b, 0, none⟩)), .pointer (some ⟨pn, 0, none⟩)] w fun e w' => e = .returned (.tuple #[]) ∧ After B 168 w' b (zbp s (wrap32 n)) ∧ Below B w w' := by
 have m1 := zfQ
 have m2 := zfK
 have HH := zhd h; have HK := zhd hk; clear h hk
 go_enter Tryz.func126, Tryz.ntmps126
 go_wp2_with fail
 go_still_tail 6, (by kernel_rfl)
 still_call ((zaX n _).mono fun _ _ hh => ⟨hh.1, hh.2.symm⟩)
 repeat still_step
 refine wpStill_nil ?_
 change wpList _ _ _ _ _ w.drew
 go_wp2_with fail
 refine (zkc B b s _ _ (Works.drew HH.out) HK.out (zdI n) hr0).mono ?_
 rintro e w1 ⟨rfl, ha, hb⟩
 have HA := zhd ha; have HBB := zhd hb; clear ha hb
 go_wp2_with fail
 go_end0
 exact ⟨rfl, HA.out, Below.of_drew HBB.out⟩
set_option maxHeartbeats 1000000 in
theorem zlv (B b pr pn : Nat) (s : St) (reg : Int) (u : Value) (T : TypeId) (w : World) (h : Works B 168 w b s) (hk : s.k = 3) (hreg : 0 ≤ reg ∧ reg < 4)
 (h1 : w.cell? ⟨pr, 0, none⟩ = some (.int .i64 reg)) (h2 : w.heap[pn]? = some (.cells #[u] T (0, 0))) (hpn : pn < B) :
 Calls Tryz.prog 192 #[.iface 167 (.pointer (some ⟨b, 0, none⟩)), .pointer (some ⟨pr, 0, none⟩), .pointer (some ⟨pn, 0, none⟩)] w fun e w' => e = .returned (.tuple #[]) ∧ ∃ w1, w' = w1.setCell ⟨pn, 0, none⟩ (.int .i64 (zbl s reg)) ∧ After B 168 w1 b (zbI s reg) ∧ Below B w w1 := by
 have m1 := zgi
 have HH := zhd h; have HK := zhd hk; have H2 := zhd h2; clear h hk h2
 go_enter Tryz.func192, Tryz.ntmps192
 go_wp2_with fail
 refine (zlt B b s reg _ HH.out HK.out hreg).mono ?_
 rintro e w1 ⟨rfl, ha, hb⟩
 have h3 := zaq hb hpn H2.out
 have g0 := zad (j := 0) h3 rfl
 have f0 := zaa h3 0
 simp only [List.getElem_toArray, List.getElem_cons_zero] at g0
 have HA := zhd ha; have HBB := zhd hb; clear ha hb h3
 go_wp2_with fail
 go_end0
 exact ⟨rfl, _, rfl, HA.out, HBB.out⟩
end
end Go.Proofs.YtdobddiibgfeaaaGreat
