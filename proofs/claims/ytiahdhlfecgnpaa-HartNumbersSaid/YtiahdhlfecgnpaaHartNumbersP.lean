/-
  What HartNumbers's steps do; label.Number.
-/
import Derived.Test.YtiahdhlfecgnpaaHartOperatorsP
import Derived.StillTailTactics
import Derived.Deep.QuietTactic
import Derived.BigQuiet
import Derived.Outline
namespace Go.Proofs.Ytiahdhlfecgnpaa
open Go.RowKit
def loN (m : Int) : Int := (m + 2048) % 4096 - 2048
def hiN (m : Int) : Int := (m - loN m) % 4294967296 / 4096
def smallB (m : Int) : Bool := decide (-2048 ≤ m ∧ m ≤ 2047)
def numL (k m : Int) : List Ins := if smallB m = true then [⟨13, k, 0, 0, m⟩] else [⟨1, k, 0, 0, hiN m⟩, ⟨13, k, k, 0, loN m⟩]
theorem lo_bd (m : Int) : -2048 ≤ loN m ∧ loN m ≤ 2047 := by unfold loN; omega
theorem hi_bd (m : Int) : 0 ≤ hiN m ∧ hiN m ≤ 1048575 := by unfold hiN; omega
theorem hi_lo (m : Int) (h : I32 m) : wrap32 (hiN m * 4096 + loN m) = m := by obtain ⟨h1, h2⟩ := h; unfold hiN loN wrap32; omega
theorem lo_shift (m : Int) : wrap64 (m * 4503599627370496) / 4503599627370496 = loN m := by unfold wrap64 loN; omega
theorem nu_1 (h : Ht) (hl : h.r.length = 32) (h0 : h.r.getD 0 0 = 0) (k : Nat) (m : Int) (hk : 1 ≤ k ∧ k < 32) (hm : -2048 ≤ m ∧ m ≤ 2047) : ∃ g : Ht, stepX h 0 ⟨13, k, 0, 0, m⟩ = (g, ⟨0, 0, 0, 0, 0⟩) ∧ g.r.getD k 0 = m ∧ g.pc = wrap32 (h.pc + 4) := by
  refine ⟨{ putH h k (makesN 13 (h.r.getD 0 0) m) with pc := wrap32 (h.pc + 4) }, ?_, ?_, rfl⟩
  · rw [stepX_ok (right_mk _ (shI 13 (by omega)) (by omega) ⟨by omega, by omega, .inl rfl⟩ ⟨by omega, by omega, .inl rfl⟩ ⟨by omega, by omega, .inr rfl⟩ hm rfl) (by simp) (by simp)]
    simp [stepN, effX, putX, leadsN]
  · refine (put_get h hl k hk _).trans ?_
    have : makesN 13 (h.r.getD 0 0) m = twoN 1 (h.r.getD 0 0) m := by simp [makesN, opsT, opsL]
    rw [this, twoN_w32, h0, two1]
    unfold wrap32; omega
theorem nu_2 (h : Ht) (k : Nat) (n : Int) (hk : 1 ≤ k ∧ k < 32) (hn : 0 ≤ n ∧ n ≤ 1048575) (hl : h.r.length = 32) : ∃ g : Ht, stepX h 0 ⟨1, k, 0, 0, n⟩ = (g, ⟨0, 0, 0, 0, 0⟩) ∧ g.r.getD k 0 = wrap32 (n * 4096) ∧ g.pc = wrap32 (h.pc + 4) ∧ g.r.length = 32 := by
  refine ⟨{ putH h k (n * 4096) with pc := wrap32 (h.pc + 4) }, ?_, put_get h hl k hk _, rfl, put_len hl _ _⟩
  rw [stepX_ok (right_mk _ (shU 1 (by omega)) (by omega) ⟨by omega, by omega, .inl rfl⟩ ⟨by omega, by omega, .inr rfl⟩ ⟨by omega, by omega, .inr rfl⟩ hn rfl) (by simp) (by simp)]
  simp [stepN, effX, putX, leadsN]
theorem nu_3 (h : Ht) (hl : h.r.length = 32) (k : Nat) (n : Int) (hk : 1 ≤ k ∧ k < 32) (hn : -2048 ≤ n ∧ n ≤ 2047) : ∃ g : Ht, stepX h 0 ⟨13, k, k, 0, n⟩ = (g, ⟨0, 0, 0, 0, 0⟩) ∧ g.r.getD k 0 = wrap32 (h.r.getD k 0 + n) ∧ g.pc = wrap32 (h.pc + 4) := by
  refine ⟨{ putH h k (makesN 13 (h.r.getD k 0) n) with pc := wrap32 (h.pc + 4) }, ?_, ?_, rfl⟩
  · rw [stepX_ok (right_mk _ (shI 13 (by omega)) (by omega) ⟨by omega, by omega, .inl rfl⟩ ⟨by omega, by omega, .inl rfl⟩ ⟨by omega, by omega, .inr rfl⟩ hn rfl) (by simp) (by simp)]
    simp [stepN, effX, putX, leadsN]
  · refine (put_get h hl k hk _).trans ?_
    have : makesN 13 (h.r.getD k 0) n = twoN 1 (h.r.getD k 0) n := by simp [makesN, opsT, opsL]
    rw [this, twoN_w32, two1]
theorem numbers_all (h : Ht) (f : Fine h) (k : Nat) (m : Int) (hk : 1 ≤ k ∧ k < 32) (hm : I32 m) : ∃ G : Nat → Ht, G 0 = h ∧ (∀ i, i < (numL k m).length → ∃ x, (numL k m)[i]? = some x ∧ stepX (G i) 0 x = (G (i + 1), ⟨0, 0, 0, 0, 0⟩)) ∧ (∀ i, i ≤ (numL k m).length → (G i).r.length = 32) ∧
    (G (numL k m).length).r.getD k 0 = m ∧ (G (numL k m).length).pc = wrap32 (h.pc + 4 * (numL k m).length) ∧ 1 ≤ (numL k m).length ∧ (numL k m).length ≤ 2 := by
  by_cases hs : smallB m = true
  · have e : numL k m = [⟨13, k, 0, 0, m⟩] := by unfold numL; rw [if_pos hs]
    obtain ⟨g, s, r, p⟩ := nu_1 h f.len f.zero k m hk (by simpa [smallB] using hs)
    rw [e]
    refine ⟨fun i => if i = 0 then h else g, rfl, fun i hi => ?_, fun i hi => ?_, r, p, by simp, by simp⟩
    · obtain rfl : i = 0 := by simpa using hi
      exact ⟨_, rfl, s⟩
    · simp only; split
      · exact f.len
      · exact len_at f.len s
  · have e : numL k m = [⟨1, k, 0, 0, hiN m⟩, ⟨13, k, k, 0, loN m⟩] := by unfold numL; rw [if_neg hs]
    obtain ⟨g, s, r, p, l⟩ := nu_2 h k (hiN m) hk (hi_bd m) f.len
    obtain ⟨g', s', r', p'⟩ := nu_3 g l k (loN m) hk (lo_bd m)
    rw [e]
    refine ⟨fun i => if i = 0 then h else if i = 1 then g else g', rfl, fun i hi => ?_, fun i hi => ?_, ?_, ?_, by simp, by simp⟩
    · have : i = 0 ∨ i = 1 := by simp at hi; omega
      rcases this with rfl | rfl
      · exact ⟨_, rfl, s⟩
      · exact ⟨_, rfl, s'⟩
    · simp only; split
      · exact f.len
      · split
        · exact l
        · exact len_at l s'
    · show g'.r.getD k 0 = m
      rw [r', r, w32_add_l, hi_lo m hm]
    · show g'.pc = wrap32 (h.pc + 4 * 2)
      rw [p', p]; unfold wrap32; omega
/-- The cells of a list of instructions. -/
def insC (l : List Ins) : Array Value := (l.flatMap fun x => [Value.int .i64 x.op, .int .i64 x.d, .int .i64 x.a, .int .i64 x.b, .int .i64 x.n]).toArray
def NumPost (k m : Int) (w : World) (e : Ending) (w' : World) : Prop := ∃ B : Nat, e = .returned (.slice (some ⟨B, 0, none⟩) (numL k m).length (numL k m).length) ∧ w'.heap[B]? = some (.cells (insC (numL k m)) 24 (0, 0)) ∧ w.heap.size ≤ B ∧ Below w.heap.size w w'
end Go.Proofs.Ytiahdhlfecgnpaa
