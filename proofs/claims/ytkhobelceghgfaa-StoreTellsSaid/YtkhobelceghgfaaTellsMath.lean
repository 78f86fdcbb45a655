/-
  What StoreTells keeps of a memory, plain; headstockref11's contracts at known answers.
-/
import Derived.Test.YtkhobelceghgfaaRef11Flush
import Derived.Test.YtkhobelceghgfaaRef11New
import Derived.Test.YtkhobelceghgfaaRef11Same
import Derived.Test.YtkhobelceghgfaaMemRes
namespace Go.Proofs.Ytkhobelceghgfaa
open Go.RowKit
/-- All numbers of a memory are numbers. -/
def WOk (m : Mem) : Prop := (∀ x ∈ m.words, I64 x) ∧ (∀ l ∈ m.pend, ∀ e ∈ l, I64 e.2)
theorem w32_i64 (a : Int) : I64 (wrap32 a) := by unfold wrap32 I64; omega
theorem two_i64 (op a b : Int) : I64 (twoN op a b) := by rw [← twoN_w32]; exact w32_i64 _
theorem chN_i64 (op a b : Int) : I64 (changeN op a b) := by
  unfold changeN; split
  · exact w32_i64 _
  · exact two_i64 _ _ _
theorem wok_new (h n : Nat) : WOk (newMem h n) := by
  refine ⟨fun x hx => ?_, fun l hl e he => ?_⟩
  · simp [newMem] at hx; rw [hx.2]; exact ⟨by decide, by decide⟩
  · simp [newMem] at hl; rw [hl.2] at he; simp at he
theorem wok_goes {m : Mem} (h : WOk m) {k a n : Int} (hn : I64 n) : WOk (goesM m k a n) := by
  refine ⟨fun x hx => ?_, h.2⟩
  rcases List.mem_or_eq_of_mem_set hx with h' | h'
  · exact h.1 x h'
  · rw [h']; exact hn
theorem wok_pend {m : Mem} (h : WOk m) {k : Int} {l : List (Int × Int)} (hl : ∀ e ∈ l, I64 e.2) : WOk (setPend m k l) := by
  refine ⟨h.1, fun l' hl' => ?_⟩
  rcases List.mem_or_eq_of_mem_set hl' with h' | h'
  · exact h.2 l' h'
  · rw [h']; exact hl
theorem wok_res {m : Mem} (h : WOk m) (k a : Int) : WOk (setRes m k a) := h
theorem wok_of {m : Mem} (h : WOk m) (k : Int) : ∀ e ∈ pendOf m k, I64 e.2 := by
  unfold pendOf
  rw [List.getD_eq_getElem?_getD]
  cases hx : m.pend[k.toNat]? with
  | none => intro e he; simp at he
  | some l => exact h.2 l (List.mem_of_getElem? hx)
theorem wok_word {m : Mem} (h : WOk m) (a : Int) : I64 (wordOf m a) := by
  unfold wordOf
  rw [List.getD_eq_getElem?_getD]
  cases hx : m.words[a.toNat]? with
  | none => exact ⟨by decide, by decide⟩
  | some x => exact h.1 x (List.mem_of_getElem? hx)
theorem wok_drainX {m : Mem} (h : WOk m) (k : Int) (i : Nat) : WOk (drainX m k i) := by
  unfold drainX
  refine wok_pend (wok_goes h ?_) (fun e he => wok_of h k e (List.mem_of_mem_eraseIdx he))
  rw [List.getD_eq_getElem?_getD]
  cases hx : (pendOf m k)[i]? with
  | none => exact ⟨by decide, by decide⟩
  | some x => exact wok_of h k x (List.mem_of_getElem? hx)
theorem wok_store {m m' : Mem} {h a n : Int} (k : WOk m) (e : storeR m h a n = (m', 0)) : WOk m' := by
  obtain ⟨_, _, rfl⟩ := store_ok e
  refine wok_pend k (fun e he => ?_)
  rcases List.mem_append.1 he with he | he
  · exact wok_of k h e he
  · simp at he; rw [he]; exact w32_i64 n
theorem wok_drain {m m' : Mem} {h d : Int} (k : WOk m) (e : drainR m h d = (m', 0)) : WOk m' := by
  obtain ⟨_, _, _, rfl⟩ := drain_ok e; exact wok_drainX k _ _
theorem wok_flushL (h : Int) : ∀ (n : Nat) (m m' : Mem), WOk m → flushL h n m = (m', 0) → WOk m' := by
  intro n
  induction n with
  | zero => intro m m' k e; unfold flushL at e; injection e with e _; subst e; exact k
  | succ n ih =>
    intro m m' k e
    unfold flushL at e
    split at e
    · exact ih _ _ (wok_drainX k _ _) e
    · cases e
theorem wok_flush {m m' : Mem} {h : Int} (k : WOk m) (e : flushR m h = (m', 0)) : WOk m' := by
  unfold flushR at e
  split at e
  · exact wok_flushL h _ _ _ k e
  · cases e
theorem good_flush {m m' : Mem} {H W : Nat} {h : Int} (g : Good m H W) (e : flushR m h = (m', 0)) : Good m' H W := by
  by_cases hh : hartB m h = true
  · obtain ⟨h0, h1⟩ := hart_range g hh
    obtain ⟨m2, e2, g2, _⟩ := flush_ok g h0 h1
    rw [e2] at e; injection e with e _; subst e; exact g2
  · unfold flushR at e; rw [if_neg hh] at e; cases e
theorem wok_reserve {m m' : Mem} {h a u : Int} (k : WOk m) (e : reserveR m h a = (u, m', 0)) : WOk m' := by
  obtain ⟨_, _, rfl⟩ := reserve_ok e; exact k
theorem wok_cond {m m' : Mem} {h a n : Int} {u : Bool} (k : WOk m) (e : condR m h a n = (u, m', 0)) : WOk m' := by
  obtain ⟨_, _, rfl⟩ := cond_ok e
  split
  · exact wok_goes (k := h) (a := a) k (w32_i64 n)
  · exact k
theorem wok_change {m m' : Mem} {h a op n u : Int} (k : WOk m) (e : changeR m h a op n = (u, m', 0)) : WOk m' := by
  obtain ⟨_, _, rfl⟩ := change_ok e; exact wok_goes k (chN_i64 _ _ _)
theorem newR_tell (p q : Nat) (hp : p < 4) (hq : q < 5) : newR (1 + p) q = (newMem (1 + p) q, 0) := by
  unfold newR
  rw [if_pos (by omega)]
  congr 2 <;> omega
theorem rnew_lit (h n : Int) (r : Mem × Int) (w : World) (hr : newR h n = r) : Calls Try.prog 24 #[.int .i64 h, .int .i64 n] w (MemRet w w.heap.size r) := by subst hr; exact rnew_any h n w
theorem rstore_lit (v : Value) (m : Mem) (h a n : Int) (r : Mem × Int) (w : World) (hm : IsMem w v m) (hs : Small m) (hn : I64 n) (hr : storeR m h a n = r) : Calls Try.prog 27 #[v, .int .i64 h, .int .i64 a, .int .i64 n] w (MemRet w w.heap.size r) := by subst hr; exact rstore_any v m h a n w hm hs hn
theorem rdrain_lit (v : Value) (m : Mem) (h k : Int) (r : Mem × Int) (w : World) (hm : IsMem w v m) (hs : Small m) (hr : drainR m h k = r) : Calls Try.prog 28 #[v, .int .i64 h, .int .i64 k] w (MemRet w w.heap.size r) := by subst hr; exact rdrain_any v m h k w hm hs
theorem rflush_lit (v : Value) (m : Mem) (h : Int) (r : Mem × Int) (w : World) (hm : IsMem w v m) (hs : Small m) (hr : flushR m h = r) : Calls Try.prog 29 #[v, .int .i64 h] w (MemRet w w.heap.size r) := by subst hr; exact rflush_any v m h w hm hs
theorem rreserve_lit (v : Value) (m : Mem) (h a u : Int) (r : Mem × Int) (w : World) (hm : IsMem w v m) (hs : Small m) (hr : reserveR m h a = (u, r)) : Calls Try.prog 30 #[v, .int .i64 h, .int .i64 a] w (MemRet3 w w.heap.size (.int .i64 u) r) := by
  have := rreserve_any v m h a w hm hs
  rwa [hr] at this
theorem rcond_lit (v : Value) (m : Mem) (h a n : Int) (u : Bool) (r : Mem × Int) (w : World) (hm : IsMem w v m) (hs : Small m) (hn : I64 n) (hr : condR m h a n = (u, r)) : Calls Try.prog 31 #[v, .int .i64 h, .int .i64 a, .int .i64 n] w (MemRet3 w w.heap.size (.bool u) r) := by
  have := rcond_any v m h a n w hm hs hn
  rwa [hr] at this
theorem rchange_lit (v : Value) (m : Mem) (h a op n u : Int) (r : Mem × Int) (w : World) (hm : IsMem w v m) (hs : Small m) (hn : I64 n) (hk : WOk m) (hr : changeR m h a op n = (u, r)) : Calls Try.prog 32 #[v, .int .i64 h, .int .i64 a, .int .i64 op, .int .i64 n] w (MemRet3 w w.heap.size (.int .i64 u) r) := by
  have := rchange_any v m h a op n w hm hs hn (wok_word hk a)
  rwa [hr] at this
theorem rsame_lit (v v' : Value) (a b : Mem) (r : Bool) (w : World) (h : IsMem w v a) (h' : IsMem w v' b) (hr : decide (a = b) = r) : Calls Try.prog 25 #[v, v'] w fun e w' => e = .returned (.bool r) ∧ Below w.heap.size w w' := by subst hr; exact rsame_any v v' a b w h h'
/-- The law's memory at a loop's head. -/
def TellAt (w : World) (bm H W : Nat) : Prop := ∃ x y z m, MV w bm x y z m ∧ Good m H W ∧ WOk m
end Go.Proofs.Ytkhobelceghgfaa
