/-
  Two registers turned into one another: plain. No program in sight.
-/
import Derived.Test.YtefebnicclbhjaaCodePlain
import Derived.Test.YtefebnicclbhjaaCodeReads
namespace Go.Proofs.Ytefebnicclbhjaa
open Go.RowKit
def sw (a b z : Int) : Int := if z = a then b else if z = b then a else z
theorem sw_bd {a b z : Int} (ha : 1 ≤ a ∧ a < 32) (hb : 1 ≤ b ∧ b < 32) (hz : 0 ≤ z ∧ z < 32) : 0 ≤ sw a b z ∧ sw a b z < 32 := by
  unfold sw; repeat' split
  all_goals omega
theorem sw_zero {a b : Int} (ha : 1 ≤ a ∧ a < 32) (hb : 1 ≤ b ∧ b < 32) : sw a b 0 = 0 := by
  unfold sw; rw [if_neg (by omega), if_neg (by omega)]
theorem sw_inj {a b z z' : Int} (h : sw a b z = sw a b z') : z = z' := by
  unfold sw at h
  repeat' split at h
  all_goals omega
theorem sw_eq (a b z z' : Int) : (sw a b z == sw a b z') = (z == z') := by
  rw [Bool.eq_iff_iff]; simp only [beq_iff_eq]
  exact ⟨sw_inj, fun h => by rw [h]⟩
theorem sw_eq0 {a b : Int} (z : Int) (ha : 1 ≤ a ∧ a < 32) (hb : 1 ≤ b ∧ b < 32) : (sw a b z == 0) = (z == 0) := by
  have := sw_eq a b z 0
  rwa [sw_zero ha hb] at this
theorem may_sw {a b z : Int} {s : Bool} (ha : 1 ≤ a ∧ a < 32) (hb : 1 ≤ b ∧ b < 32) (h : mayB z s = true) : mayB (sw a b z) s = true := by
  simp only [mayB, Bool.and_eq_true, Bool.or_eq_true, decide_eq_true_eq] at h ⊢
  obtain ⟨h1, h2, h3⟩ := h
  have := sw_bd ha hb ⟨h1, h2⟩
  refine ⟨this.1, this.2, ?_⟩
  rcases h3 with h3 | h3
  · exact .inl h3
  · rw [sw_eq0 z ha hb]; exact .inr h3
def swX (a b : Int) (x : Ins) : Ins := ⟨x.op, sw a b x.d, sw a b x.a, sw a b x.b, x.n⟩
theorem sw_right {a b : Int} {x : Ins} (ha : 1 ≤ a ∧ a < 32) (hb : 1 ≤ b ∧ b < 32) (h : rightB x = true) : rightB (swX a b x) = true := by
  simp only [rightB, Bool.and_eq_true] at h
  obtain ⟨h1, h2, h3, h4, h5⟩ := h
  have e : rightB (swX a b x) = (isOp x.op && (mayB (sw a b x.d) (shX x).d && (mayB (sw a b x.a) (shX x).a && (mayB (sw a b x.b) (shX x).b && (decide ((shX x).least ≤ x.n) && (decide (x.n ≤ (shX x).most) && modB x.n (shX x).step)))))) := rfl
  rw [e, h1, may_sw ha hb h2, may_sw ha hb h3, may_sw ha hb h4, h5.1, h5.2.1, h5.2.2]; rfl
theorem sw_reads {a b : Int} {x : Ins} (ha : 1 ≤ a ∧ a < 32) (hb : 1 ≤ b ∧ b < 32) (h : rightB x = true) : readsL (swX a b x) = (readsL x).map (sw a b) := by
  unfold readsL
  rw [sw_right ha hb h, h]
  rw [show (swX a b x).a = sw a b x.a from rfl, show (swX a b x).b = sw a b x.b from rfl, sw_eq0 _ ha hb, sw_eq0 _ ha hb, sw_eq]
  repeat' split
  all_goals simp_all
theorem sw_writes {a b : Int} {x : Ins} (ha : 1 ≤ a ∧ a < 32) (hb : 1 ≤ b ∧ b < 32) (h : rightB x = true) : writesN (swX a b x) = sw a b x.d := by
  unfold writesN
  rw [sw_right ha hb h]; rfl
/-- Three registers, of which so many have been turned. -/
def turnL (a b d e f : Int) (k : Nat) : Array Value := #[.int .i64 (if 0 < k then sw a b d else d), .int .i64 (if 1 < k then sw a b e else e), .int .i64 (if 2 < k then sw a b f else f)]
def turnZ (d e f : Int) (k : Nat) : Int := if k = 0 then d else if k = 1 then e else f
theorem turn_at (a b d e f : Int) (k : Nat) (h : k < 3) : (turnL a b d e f k)[k]? = some (.int .i64 (turnZ d e f k)) := by
  rcases (by omega : k = 0 ∨ k = 1 ∨ k = 2) with rfl | rfl | rfl <;> rfl
theorem turn_set (a b d e f : Int) (k : Nat) (h : k < 3) : (turnL a b d e f k).setIfInBounds k (.int .i64 (sw a b (turnZ d e f k))) = turnL a b d e f (k + 1) := by
  rcases (by omega : k = 0 ∨ k = 1 ∨ k = 2) with rfl | rfl | rfl <;> rfl
theorem turn_same (a b d e f : Int) (k : Nat) (h : k < 3) (hs : sw a b (turnZ d e f k) = turnZ d e f k) : turnL a b d e f k = turnL a b d e f (k + 1) := by
  rcases (by omega : k = 0 ∨ k = 1 ∨ k = 2) with rfl | rfl | rfl
  all_goals
    simp [turnZ] at hs
    simp [turnL, hs]
theorem sw_a {a b z : Int} (h : (z == a) = true) : sw a b z = b := by simp at h; simp [sw, h]
theorem sw_b {a b z : Int} (h : (z == a) = false) (h2 : (z == b) = true) : sw a b z = a := by simp at h h2; unfold sw; rw [if_neg h, if_pos h2]
theorem sw_n {a b z : Int} (h : (z == a) = false) (h2 : (z == b) = false) : sw a b z = z := by simp at h h2; unfold sw; rw [if_neg h, if_neg h2]
theorem reads_len (x : Ins) : (readsL x).length ≤ 2 := by
  unfold readsL
  repeat' split
  all_goals simp
end Go.Proofs.Ytefebnicclbhjaa
