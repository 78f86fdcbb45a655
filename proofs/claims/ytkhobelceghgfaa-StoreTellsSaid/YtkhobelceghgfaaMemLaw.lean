/-
  What the laws of chapter 11 use: variables that hold memories, the contracts at known answers.
-/
import Derived.Test.YtkhobelceghgfaaMemNew
import Derived.Test.YtkhobelceghgfaaMemSame
import Derived.Test.YtkhobelceghgfaaOpen
namespace Go.Proofs.Ytkhobelceghgfaa
open Go.RowKit
/-- A variable that holds a memory. -/
def MV (w : World) (b : Nat) (x y z : Value) (m : Mem) : Prop := w.heap[b]? = some (.cells #[x, y, z] 27 (0, 0)) ∧ IsMem w (.agg #[x, y, z]) m
theorem MV.up {w w' : World} {b : Nat} {x y z : Value} {m : Mem} (h : MV w b x y z m) (hu : Below w.heap.size w w') : MV w' b x y z m := ⟨up_in hu h.1, h.2.below hu⟩
theorem mv_new {w : World} {x y z : Value} {m : Mem} (h : IsMem w (.agg #[x, y, z]) m) : MV (w.alloc (.cells #[x, y, z] 27)) w.heap.size x y z m := ⟨new_in w _, h.below (bel_new w _)⟩
theorem mv_set {w : World} {b : Nat} {x y z x' y' z' : Value} {m m' : Mem} (h : MV w b x y z m) (hm : IsMem w (.agg #[x', y', z']) m') : MV (((w.setCell ⟨b, 0, none⟩ x').setCell ⟨b, 1, none⟩ y').setCell ⟨b, 2, none⟩ z') b x' y' z' m' :=
  ⟨(set3_spec h.1).1, isMem_set3 x' y' z' hm h.1⟩
theorem mv_other {w : World} {b b' : Nat} {x y z u1 u2 u3 : Value} {m m' : Mem} (x' y' z' : Value) (h : MV w b x y z m) (h' : MV w b' u1 u2 u3 m') (hne : b ≠ b') : MV (((w.setCell ⟨b', 0, none⟩ x').setCell ⟨b', 1, none⟩ y').setCell ⟨b', 2, none⟩ z') b x y z m :=
  ⟨((set3_spec h'.1).2 b hne).trans h.1, isMem_set3 x' y' z' h.2 h'.1⟩
theorem mv_lt {w : World} {b : Nat} {x y z : Value} {m : Mem} (h : MV w b x y z m) : b < w.heap.size := lt_in h.1
theorem IsMem.parts9 {w : World} {v : Value} {m : Mem} (h : IsMem w v m) : ∃ a1 n1 b1 a2 n2 b2 a3 n3 b3, v = .agg #[.slice a1 n1 b1, .slice a2 n2 b2, .slice a3 n3 b3] ∧ Hid (n1 = m.words.length ∧ n2 = m.pend.length ∧ n3 = m.res.length) := by
  obtain ⟨a1, c1, a2, c2, a3, c3, _, rfl, _⟩ := h.parts
  exact ⟨_, _, _, _, _, _, _, _, _, rfl, Lib.hid ⟨rfl, rfl, rfl⟩⟩
theorem MemRet.parts {w : World} {B : Nat} {r : Mem × Int} {e : Ending} {w' : World} (h : MemRet w B r e w') : ∃ a1 n1 b1 a2 n2 b2 a3 n3 b3, e = .returned (.tuple #[.agg #[.slice a1 n1 b1, .slice a2 n2 b2, .slice a3 n3 b3], .int .i64 r.2]) ∧ IsMem w' (.agg #[.slice a1 n1 b1, .slice a2 n2 b2, .slice a3 n3 b3]) r.1 ∧ Hid (n1 = r.1.words.length ∧ n2 = r.1.pend.length ∧ n3 = r.1.res.length) ∧ Below B w w' := by
  obtain ⟨v, he, hm, hb⟩ := h
  obtain ⟨a1, n1, b1, a2, n2, b2, a3, n3, b3, rfl, ln⟩ := hm.parts9
  exact ⟨_, _, _, _, _, _, _, _, _, he, hm, ln, hb⟩
theorem MemRet3.parts {w : World} {B : Nat} {u : Value} {r : Mem × Int} {e : Ending} {w' : World} (h : MemRet3 w B u r e w') : ∃ a1 n1 b1 a2 n2 b2 a3 n3 b3, e = .returned (.tuple #[u, .agg #[.slice a1 n1 b1, .slice a2 n2 b2, .slice a3 n3 b3], .int .i64 r.2]) ∧ IsMem w' (.agg #[.slice a1 n1 b1, .slice a2 n2 b2, .slice a3 n3 b3]) r.1 ∧ Hid (n1 = r.1.words.length ∧ n2 = r.1.pend.length ∧ n3 = r.1.res.length) ∧ Below B w w' := by
  obtain ⟨v, he, hm, hb⟩ := h
  obtain ⟨a1, n1, b1, a2, n2, b2, a3, n3, b3, rfl, ln⟩ := hm.parts9
  exact ⟨_, _, _, _, _, _, _, _, _, he, hm, ln, hb⟩
theorem new_lit (h n : Int) (r : Mem × Int) (w : World) (hr : newR h n = r) : Calls Try.prog 11 #[.int .i64 h, .int .i64 n] w (MemRet w w.heap.size r) := by subst hr; exact new_any h n w
theorem store_lit (v : Value) (m : Mem) (h a n : Int) (r : Mem × Int) (w : World) (hm : IsMem w v m) (hs : Small m) (hr : storeR m h a n = r) : Calls Try.prog 14 #[v, .int .i64 h, .int .i64 a, .int .i64 n] w (MemRet w w.heap.size r) := by subst hr; exact store_any v m h a n w hm hs
theorem drain_lit (v : Value) (m : Mem) (h k : Int) (r : Mem × Int) (w : World) (hm : IsMem w v m) (hs : Small m) (hr : drainR m h k = r) : Calls Try.prog 13 #[v, .int .i64 h, .int .i64 k] w (MemRet w w.heap.size r) := by subst hr; exact sdrain_any v m h k w hm hs
theorem flush_lit (v : Value) (m : Mem) (h : Int) (r : Mem × Int) (w : World) (hm : IsMem w v m) (hs : Small m) (hr : flushR m h = r) : Calls Try.prog 17 #[v, .int .i64 h] w (MemRet w w.heap.size r) := by subst hr; exact flush_any v m h w hm hs
theorem reserve_lit (v : Value) (m : Mem) (h a u : Int) (r : Mem × Int) (w : World) (hm : IsMem w v m) (hs : Small m) (hr : reserveR m h a = (u, r)) : Calls Try.prog 20 #[v, .int .i64 h, .int .i64 a] w (MemRet3 w w.heap.size (.int .i64 u) r) := by
  have := reserve_any v m h a w hm hs
  rwa [hr] at this
theorem cond_lit (v : Value) (m : Mem) (h a n : Int) (u : Bool) (r : Mem × Int) (w : World) (hm : IsMem w v m) (hs : Small m) (hr : condR m h a n = (u, r)) : Calls Try.prog 22 #[v, .int .i64 h, .int .i64 a, .int .i64 n] w (MemRet3 w w.heap.size (.bool u) r) := by
  have := cond_any v m h a n w hm hs
  rwa [hr] at this
theorem change_lit (v : Value) (m : Mem) (h a op n u : Int) (r : Mem × Int) (w : World) (hm : IsMem w v m) (hs : Small m) (hr : changeR m h a op n = (u, r)) : Calls Try.prog 21 #[v, .int .i64 h, .int .i64 a, .int .i64 op, .int .i64 n] w (MemRet3 w w.heap.size (.int .i64 u) r) := by
  have := change_any v m h a op n w hm hs
  rwa [hr] at this
theorem samem_lit (v v' : Value) (a b : Mem) (r : Bool) (w : World) (h : IsMem w v a) (h' : IsMem w v' b) (hr : decide (a = b) = r) : Calls Try.prog 19 #[v, v'] w fun e w' => e = .returned (.bool r) ∧ Below w.heap.size w w' := by subst hr; exact same_mem v v' a b w h h'
theorem pick11 (c n r : Int) (w : World) (hc : I64 c) (hn : 0 < n ∧ n ≤ 9223372036854775807) (hr : pickN c n = r) :
    Calls Try.prog 12 #[.int .i64 c, .int .i64 n] w fun e w' => e = .returned (.int .i64 r) ∧ w = w' := by
  subst hr
  have hn0 : (n == 0) = false := by simp; omega
  have hb := pickN_bd c n hn.1
  by_cases h : c < 0
  · have E := Lib.hid (pick_neg c n h)
    go_enter Try.func12, Try.ntmps12
    go_wp2
    go_ret
    exact ⟨ret1 (rint E.out), rfl⟩
  · have E := Lib.hid (pick_pos c n h)
    go_enter Try.func12, Try.ntmps12
    go_wp2
    go_ret
    exact ⟨ret1 (rint E.out), rfl⟩
end Go.Proofs.Ytkhobelceghgfaa
