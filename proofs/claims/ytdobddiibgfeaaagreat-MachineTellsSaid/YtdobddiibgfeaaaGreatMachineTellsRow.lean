/- 'MachineTells': the law returns true, for every input, and what was there is as it was: no condition. -/
import Derived.Test.YtdobddiibgfeaaaGreatRows
import Derived.Test.YtdobddiibgfeaaaGreatZa
import Derived.Test.YtdobddiibgfeaaaGreatYn
import Derived.WalkKit
import Derived.ProofKit
import Derived.OpenShut
import Derived.ShutString
import Derived.ChangeOld
import Derived.Below
import Derived.Carry
namespace Go.Proofs.YtdobddiibgfeaaaGreat.machineTellsRow
open Go.ChangeShapes Go.WideShapes Go.ChangeAt Go.RowKit
open Go.ChangeMaps (open_string shut_string)
set_option linter.unusedVariables false
theorem own : ownKnob Tryz.prog.godebug = none := by kernel_rfl
theorem laid : laidOutB Tryz.prog = true := by kernel_rfl
set_option maxRecDepth 100000 in
theorem lifted (os : Os) (started : os.Started) (H : Type) (enc : TypeId × Value → H) :
    ReturnsInHanded {} Tryz.checked os 3 .any (Rows.machineTellsSpec.pre6 enc Tryz.prog Tryz.f3 Rows.machineTellsRow.domain false) (Rows.machineTellsSpec.post enc Tryz.prog Tryz.f3 false true false false) := by
  refine returnsInHanded_of_change (C := Tryz.checked) own started (by kernel_rfl) Tryz.func3
    (ChangeSpec.witness6 (enc := enc) (C := Tryz.checked) false ⟨#[], #[.slice none 0 0, .agg #[.int .i64 0, .int .i64 0, .int .i64 0], .slice none 0 0, .slice none 0 0, .slice none 0 0, .agg #[.int .i64 0, .int .i64 0, .int .i64 0, .int .i64 0]], []⟩ 8 (by kernel_rfl) (by kernel_rfl) (by kernel_rfl) (by kernel_rfl)) ?_
  intro W base args ds gs before hval0 hW hcnd _
  have hval : ∀ (j : Nat) t v, Tryz.f3.params[j]? = some t → args[j]? = some v → Value.okWide Tryz.prog W .any base t v := hval0
  have hW' := hW
  have hlt0 := hW.lt
  obtain ⟨p, q, hA0, hV, rfl, hfz, hnd⟩ := hW
  have hA : DataW.TrodAll enc Tryz.prog W 0 (fun _ => true) true Tryz.f3.params.toList args.toList ds p := hA0
  rw [Tryz.params3] at hA hval
  obtain ⟨v0, vs0, d0, ds0, p0, q0, hargs, rfl, rfl, h0, r0⟩ := trodAll_cons hA
  obtain ⟨v1, vs1, d1, ds1, p1, q1, rfl, rfl, rfl, h1, r1⟩ := trodAll_cons r0
  obtain ⟨v2, vs2, d2, ds2, p2, q2, rfl, rfl, rfl, h2, r2⟩ := trodAll_cons r1
  obtain ⟨v3, vs3, d3, ds3, p3, q3, rfl, rfl, rfl, h3, r3⟩ := trodAll_cons r2
  obtain ⟨v4, vs4, d4, ds4, p4, q4, rfl, rfl, rfl, h4, r4⟩ := trodAll_cons r3
  obtain ⟨v5, vs5, d5, ds5, p5, q5, rfl, rfl, rfl, h5, r5⟩ := trodAll_cons r4
  obtain ⟨rfl, rfl, rfl⟩ := trodAll_nil r5
  obtain rfl : args = #[v0, v1, v2, v3, v4, v5] := by cases args; simp_all
  obtain ⟨rfl, rfl⟩ := trodVars_none hV
  have lt0 : ∀ x ∈ p0, x.block < W.heap.size := fun x hx => hlt0 x (by simp [hx])
  have k0 := h0
  obtain ⟨l0, g0, u0⟩ := jN c4 4 C6 Tryz.underlying22 (by kernel_rfl) (by decide) (fun _ _ _ => ui Tryz.underlying73 Tryz.underlying3 (by kernel_rfl) (by kernel_rfl)) (hval 0 22 v0 rfl rfl) h0
  have lt1 : ∀ x ∈ p1, x.block < W.heap.size := fun x hx => hlt0 x (by simp [hx])
  have k1 := h1
  obtain ⟨cs1, rfl⟩ := pg Tryz.underlying23 (hval 1 23 v1 rfl rfl)
  obtain ⟨fu1, hf1⟩ := h1
  obtain ⟨r1_, e1, u1⟩ := nT Tryz.underlying23 Tryz.underlying3 (by kernel_rfl) (by kernel_rfl) hf1
  obtain ⟨a1, b1, c1⟩ := r1_
  obtain ⟨u1_0, u1_1, u1_2⟩ := u1
  obtain rfl : cs1 = #[.int .i64 a1, .int .i64 b1, .int .i64 c1] := by cases cs1; simpa [Value.cells] using e1
  have lt2 : ∀ x ∈ p2, x.block < W.heap.size := fun x hx => hlt0 x (by simp [hx])
  have k2 := h2
  obtain ⟨l2, g2, u2⟩ := jN Go.Proofs.YtdobddiibgfeaaaGreat.c1 1 iy Tryz.underlying24 (by kernel_rfl) (by decide) (fun _ _ _ => w_ Tryz.underlying3) (hval 2 24 v2 rfl rfl) h2
  have lt3 : ∀ x ∈ p3, x.block < W.heap.size := fun x hx => hlt0 x (by simp [hx])
  have k3 := h3
  obtain ⟨l3, g3, u3⟩ := jN jZ 3 ph Tryz.underlying25 (by kernel_rfl) (by decide) (fun _ _ _ => uj) (hval 3 25 v3 rfl rfl) h3
  have lt4 : ∀ x ∈ p4, x.block < W.heap.size := fun x hx => hlt0 x (by simp [hx])
  have k4 := h4
  obtain ⟨l4, g4, u4⟩ := jN c3 3 CZ Tryz.underlying26 (by kernel_rfl) (by decide) (fun _ _ _ => nT Tryz.underlying23 Tryz.underlying3 (by kernel_rfl) (by kernel_rfl)) (hval 4 26 v4 rfl rfl) h4
  have lt5 : ∀ x ∈ p5, x.block < W.heap.size := fun x hx => hlt0 x (by simp [hx])
  have k5 := h5
  obtain ⟨cs5, rfl, _⟩ := okWide_struct Tryz.underlying28 (hval 5 28 v5 rfl rfl)
  obtain ⟨fu5, hf5⟩ := h5
  obtain ⟨x5, e5, u5⟩ := qp hf5
  obtain rfl : cs5 = (ky x5).toArray := by cases cs5; simpa [Value.cells] using e5
  clear hA0 hval0
  refine (walkTells v0 l0 a1 b1 c1 v2 l2 v3 l3 v4 l4 x5 W g0 u0 u1_0 u1_1 u1_2 g2 u2 g3 u3 g4 u4 u5).mono fun e W' ⟨he, bel⟩ => ?_
  subst he
  exact ⟨_, rfl, _, _, _, [], _, [], hW', trodAll_mk1 (shut_bool Tryz.underlying4 _), (trodAll_cons_mk (Below.trod laid (by kernel_rfl) (of_decide_eq_true (by kernel_rfl)) k0 bel lt0) (trodAll_cons_mk (Below.trod laid (by kernel_rfl) (of_decide_eq_true (by kernel_rfl)) k1 bel lt1) (trodAll_cons_mk (Below.trod laid (by kernel_rfl) (of_decide_eq_true (by kernel_rfl)) k2 bel lt2) (trodAll_cons_mk (Below.trod laid (by kernel_rfl) (of_decide_eq_true (by kernel_rfl)) k3 bel lt3) (trodAll_cons_mk (Below.trod laid (by kernel_rfl) (of_decide_eq_true (by kernel_rfl)) k4 bel lt4) (trodAll_cons_mk (Below.trod laid (by kernel_rfl) (of_decide_eq_true (by kernel_rfl)) k5 bel lt5) trodAll_mk0)))))), rfl, bel.frame _, fun h => by cases h⟩
theorem over : Rows.machineTellsRow.holds Tryz.pinned (OpenSpec.ofChange Rows.machineTellsSpec) :=
  OpenClaim.holds_of_wide 3 Tryz.f3 rfl rfl rfl rfl rfl rfl rfl ⟨rfl, rfl, rfl, rfl, rfl⟩ rfl rfl rfl rfl rfl (by kernel_rfl) Tryz.func3 (by kernel_rfl)
    (of_decide_eq_true (by kernel_rfl)) (by unfold Func.isWrapper; first | (rw [if_pos (by decide +kernel)]; kernel_rfl) | (rw [if_neg (by decide +kernel)]; exact ⟨rfl, rfl⟩))
    (fun os started H enc _ => lifted os started H enc)
theorem proved : Rows.MachineTellsSaid := over
#print axioms proved
end Go.Proofs.YtdobddiibgfeaaaGreat.machineTellsRow
