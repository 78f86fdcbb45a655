/-
  The contracts of code.fixed, code.field, code.lay.
-/
import Derived.Test.YtfepdieeiplbnaaCodeRow
import Derived.Test.YtfepdieeiplbnaaHeap
import Derived.Test.YtfepdieeiplbnaaCodeMath
namespace Go.Proofs.Ytfepdieeiplbnaa
open Go.RowKit
theorem ret1n {k : IntKind} {a b : Int} (h : a = b) : Ending.returned (.int k a) = .returned (.int k b) := by rw [h]
theorem field_any (word : Nat) (fr mn : Nat) (w : World) (hf : fr < 32) (hm : mn < 32) (hw : word < 4294967296) :
    Calls Try.prog 47 #[.int .i64 word, .int .i64 fr, .int .i64 mn] w fun e w' => e = .returned (.int .i64 (fieldN word fr mn : Nat)) ∧ Below w.heap.size w w' := by
  have E := Lib.hid (field_eq word fr mn hm hw)
  go_enter Try.func47, Try.ntmps47
  go_wp2_with fail
  go_quiet (fail)
  go_wp2_with fail
  go_ret
  exact ⟨ret1n (by simpa using E.out), below_drewN (Below.refl _ _) _⟩
def fixedN (op : Int) : Int := if op = 44 then 2 else if op = 45 then 5 else 0
theorem fixed_any (op : Int) (w : World) :
    Calls Try.prog 65 #[.int .i64 op] w fun e w' => e = .returned (.int .i64 (fixedN op)) ∧ w = w' := by
  by_cases h1 : op = 44
  · subst h1
    go_enter Try.func65, Try.ntmps65
    go_wp2_with fail
    go_ret
    exact ⟨rfl, rfl⟩
  · by_cases h2 : op = 45
    · subst h2
      go_enter Try.func65, Try.ntmps65
      go_wp2_with fail
      go_ret
      exact ⟨rfl, rfl⟩
    · have E : Hid (fixedN op = 0) := by unfold fixedN; rw [if_neg h1, if_neg h2]; exact rfl
      have q1 : (op == 44) = false := by simp [h1]
      have q2 : (op == 45) = false := by simp [h2]
      clear h1 h2
      go_enter Try.func65, Try.ntmps65
      go_wp2_with fail
      go_ret
      exact ⟨ret1n E.out.symm, rfl⟩
set_option maxHeartbeats 1000000 in
theorem lay_any (v : Value) (l : List Pc) (w : World) (h : Reads w 4 l.length v (l.flatMap pcC)) (hok : ∀ p ∈ l, okP p) :
    Calls Try.prog 66 #[v] w fun e w' => e = .returned (.int .i64 (layN l : Nat)) ∧ Below w.heap.size w w' := by
  have HR := Lib.hid h
  obtain ⟨a, c, rfl⟩ := h.shape
  clear h
  have HOK := Lib.hid hok; clear hok
  go_enter Try.func66, Try.ntmps66
  go_wp2_with fail
  go_loopw [3, 8] (fun x i wr => ∃ j : Nat, j ≤ l.length ∧ i = .int .i64 j ∧ x = .int .u32 ((layN (l.take j) : Nat) : Int) ∧ Below w.heap.size w wr) (fun _ i _ => l.length - (intOf i).toNat)
  case atStart => exact ⟨0, Nat.zero_le _, rfl, rfl, (by repeat (first | (with_reducible exact Below.refl _ _) | (with_reducible refine bw_set ?_ ?_ _) | (with_reducible apply bw_alloc) | (with_reducible refine bw_tr ?_ (by with_reducible assumption)) | (with_reducible apply bw_drew) | omega))⟩
  case round =>
    obtain ⟨j, hj, rfl, rfl, hbb⟩ := hrel
    have hy := layN_lt (l.take j)
    by_cases hlt : j < l.length
    · obtain ⟨b, o, c', ev, hblt, hn, hm, hc⟩ : ∃ b o c', Value.slice a l.length c = .slice (some ⟨b, o, none⟩) l.length c' ∧ b < w.heap.size ∧ l.length ≤ c' ∧ c' ≤ maxLen ∧ ∀ j u, (l.flatMap pcC)[j]? = some u → w.cell? ⟨b, o + j, none⟩ = some u := by
        rcases HR.out.2.2 with ⟨_, h0⟩ | h
        · omega
        · exact h
      injection ev with e1 _ e2
      subst e1 e2
      unfold maxLen at hm
      have g : wr.cell? ⟨b, o + j * 4, none⟩ = some (.int .i64 l[j].n) ∧ wr.cell? ⟨b, o + j * 4 + 1, none⟩ = some (.int .i64 l[j].fr) ∧ wr.cell? ⟨b, o + j * 4 + 2, none⟩ = some (.int .i64 l[j].mn) ∧ wr.cell? ⟨b, o + j * 4 + 3, none⟩ = some (.int .i64 l[j].at') := by
        refine ⟨?_, ?_, ?_, ?_⟩
        · rw [hbb.cell (p := ⟨b, _, none⟩) hblt]; exact hc (j * 4) _ (by have := flat_get hlt 0 (by omega); simpa [pcC] using this)
        · rw [hbb.cell (p := ⟨b, _, none⟩) hblt, show o + j * 4 + 1 = o + (j * 4 + 1) by omega]; exact hc (j * 4 + 1) _ (by have := flat_get hlt 1 (by omega); simpa [pcC] using this)
        · rw [hbb.cell (p := ⟨b, _, none⟩) hblt, show o + j * 4 + 2 = o + (j * 4 + 2) by omega]; exact hc (j * 4 + 2) _ (by have := flat_get hlt 2 (by omega); simpa [pcC] using this)
        · rw [hbb.cell (p := ⟨b, _, none⟩) hblt, show o + j * 4 + 3 = o + (j * 4 + 3) by omega]; exact hc (j * 4 + 3) _ (by have := flat_get hlt 3 (by omega); simpa [pcC] using this)
      obtain ⟨g0, g1, g2, g3⟩ := g
      have hp := HOK.out l[j] (List.getElem_mem hlt)
      have HP := Lib.hid (piece_eq l[j] hp (layN (l.take j)) hy)
      have HS := Lib.hid (layN_snoc l j hlt)
      obtain ⟨k0, k1, k2, k3, k4, k5⟩ := hp
      clear hc
      generalize l[j] = p at *
      generalize layN (l.take j) = y at *
      obtain ⟨pn, pf, pm, pa⟩ := p
      simp only at g0 g1 g2 g3 k0 k1 k2 k3 k4 k5
      have hyi : (0 : Int) ≤ (y : Int) := by omega
      have hyj : (y : Int) < 4294967296 := by omega
      go_wp2_with fail
      go_quiet (fail)
      go_wp2_with fail
      refine ⟨⟨j + 1, by omega, by go_num, by rw [HS.out, ← HP.out], below_drewN (by repeat (first | (with_reducible exact Below.refl _ _) | (with_reducible refine bw_set ?_ ?_ _) | (with_reducible apply bw_alloc) | (with_reducible refine bw_tr ?_ (by with_reducible assumption)) | (with_reducible apply bw_drew) | omega)) _⟩, by simp [intOf]; omega⟩
    · have e : l.take j = l := List.take_of_length_le (by omega)
      rw [e] at *
      have hy2 := layN_lt l
      have hyj : ((layN l : Nat) : Int) < 4294967296 := by omega
      have hyi : (0 : Int) ≤ ((layN l : Nat) : Int) := by omega
      go_wp2_with fail
      go_ret
      exact ⟨rfl, hbb⟩
end Go.Proofs.Ytfepdieeiplbnaa
