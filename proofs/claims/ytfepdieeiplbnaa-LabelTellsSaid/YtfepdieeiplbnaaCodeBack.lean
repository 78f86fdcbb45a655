/-
  The contract of code.back: the number whose bits stand in a word.
-/
import Derived.Test.YtfepdieeiplbnaaCodeNum
namespace Go.Proofs.Ytfepdieeiplbnaa
open Go.RowKit
theorem field_q (word : Nat) (fr mn : Nat) (w : World) (hf : fr < 32) (hm : mn < 32) (hw : word < 4294967296) :
    Calls Try.prog 47 #[.int .i64 word, .int .i64 fr, .int .i64 mn] w fun e w' => e = .returned (.int .i64 (fieldN word fr mn : Nat)) ∧ ∃ q, w' = w.drewN q := by
  have E := Lib.hid (field_eq word fr mn hm hw)
  go_enter Try.func47, Try.ntmps47
  go_wp2_with fail
  go_quiet (fail)
  go_wp2_with fail
  go_ret
  exact ⟨ret1n (by simpa using E.out), _, rfl⟩
/-- The bits of one piece, read back. -/
def unpieceN (word : Nat) (p : Pc) : Nat := fieldN word p.at'.toNat p.mn.toNat * 2 ^ p.fr.toNat
def backFold (word : Nat) (l : List Pc) : Nat := l.foldl (fun y p => y ||| unpieceN word p) 0
def backMax (l : List Pc) : Int := l.foldl (fun m p => max m (p.fr + p.mn)) 0
def okQ (p : Pc) : Prop := okP p ∧ p.fr + p.mn ≤ 31
theorem num_okQ (f n : Int) : ∀ p ∈ numP f n, okQ p := by
  unfold numP okQ okP
  repeat' split
  all_goals simp
theorem back_snoc (word : Nat) (l : List Pc) (k : Nat) (h : k < l.length) : backFold word (l.take (k + 1)) = backFold word (l.take k) ||| unpieceN word l[k] := by
  unfold backFold; rw [List.take_succ_eq_append_getElem h, List.foldl_append]; rfl
theorem max_snoc (l : List Pc) (k : Nat) (h : k < l.length) : backMax (l.take (k + 1)) = max (backMax (l.take k)) (l[k].fr + l[k].mn) := by
  unfold backMax; rw [List.take_succ_eq_append_getElem h, List.foldl_append]; rfl
theorem unpiece_lt (word : Nat) (p : Pc) (h : okQ p) : unpieceN word p < 4294967296 := by
  obtain ⟨⟨a, b, c, d, e, f⟩, g⟩ := h
  have h1 := field_lt word p.at'.toNat p.mn.toNat
  have h2 : 2 ^ p.mn.toNat * 2 ^ p.fr.toNat ≤ 2147483648 := by
    rw [← Nat.pow_add]; exact pow_le31 _ (by omega)
  have h3 : 0 < 2 ^ p.fr.toNat := Nat.two_pow_pos _
  have := Nat.mul_lt_mul_of_pos_right h1 h3
  unfold unpieceN; omega
theorem backFrom_lt (word : Nat) (l : List Pc) (hl : ∀ p ∈ l, okQ p) : ∀ y, y < 4294967296 → l.foldl (fun y p => y ||| unpieceN word p) y < 4294967296 := by
  induction l with
  | nil => intro y h; exact h
  | cons p l ih => intro y h; exact ih (fun q hq => hl q (by simp [hq])) _ (or_lt h (unpiece_lt word p (hl p (by simp))))
theorem backFold_lt (word : Nat) (l : List Pc) (hl : ∀ p ∈ l, okQ p) : backFold word l < 4294967296 := backFrom_lt word l hl 0 (by decide)
theorem max_bd (l : List Pc) (hl : ∀ p ∈ l, okQ p) (m : Int) (hm : 0 ≤ m ∧ m ≤ 31) : 0 ≤ l.foldl (fun m p => max m (p.fr + p.mn)) m ∧ l.foldl (fun m p => max m (p.fr + p.mn)) m ≤ 31 := by
  induction l generalizing m with
  | nil => exact hm
  | cons p l ih =>
    have := hl p (by simp)
    obtain ⟨⟨a, b, c, d, e, f⟩, g⟩ := this
    refine ih (fun q hq => hl q (by simp [hq])) _ ?_
    show 0 ≤ max m (p.fr + p.mn) ∧ max m (p.fr + p.mn) ≤ 31
    omega
theorem unpiece_eq (word : Nat) (p : Pc) (h : okQ p) : wrap64 (((fieldN word p.at'.toNat p.mn.toNat : Nat) : Int) * 2 ^ p.fr.toNat) = ((unpieceN word p : Nat) : Int) := by
  have := unpiece_lt word p h
  rw [pow_int, ← Int.natCast_mul]
  unfold unpieceN at *
  unfold wrap64; omega
set_option maxHeartbeats 2000000 in
theorem back_any (f : Int) (word : Nat) (w : World) (hw : word < 4294967296) :
    Calls Try.prog 46 #[.int .i32 f, .int .i64 word] w fun e w' => e = .returned (.tuple #[.int .i64 (backFold word (numP f 0) : Nat), .int .i64 (backMax (numP f 0))]) ∧ Below w.heap.size w w' := by
  go_enter Try.func46, Try.ntmps46
  go_wp2_with fail
  refine (number_any f 0 _).mono ?_
  rintro e w1 ⟨v1, rfl, hr1, hb1⟩
  have HOK := Lib.hid (num_okQ f 0)
  have hlen := num_len f 0
  generalize hl : numP f 0 = l at *
  have HL := Lib.hid hl; clear hl
  have HR := Lib.hid hr1
  obtain ⟨a, c, rfl⟩ := hr1.shape
  clear hr1
  go_wp2_with fail
  go_loopw [4, 5, 11] (fun x m i wr => ∃ j : Nat, j ≤ l.length ∧ i = .int .i64 j ∧ x = .int .i64 ((backFold word (l.take j) : Nat) : Int) ∧ m = .int .i64 (backMax (l.take j)) ∧ Below w1.heap.size w1 wr) (fun _ _ i _ => l.length - (intOf i).toNat)
  case atStart => exact ⟨0, Nat.zero_le _, rfl, rfl, rfl, (by repeat (first | (with_reducible exact Below.refl _ _) | (with_reducible refine bw_set ?_ ?_ _) | (with_reducible apply bw_alloc) | (with_reducible refine bw_tr ?_ (by with_reducible assumption)) | (with_reducible apply bw_drew) | omega))⟩
  case round =>
    obtain ⟨j, hj, rfl, rfl, rfl, hbb⟩ := hrel
    by_cases hlt : j < l.length
    · obtain ⟨b, o, c', ev, hblt, hn, hm, hc⟩ : ∃ b o c', Value.slice a l.length c = .slice (some ⟨b, o, none⟩) l.length c' ∧ b < w1.heap.size ∧ l.length ≤ c' ∧ c' ≤ maxLen ∧ ∀ j u, (l.flatMap pcC)[j]? = some u → w1.cell? ⟨b, o + j, none⟩ = some u := by
        rcases HR.out.2.2 with ⟨_, h0⟩ | h
        · omega
        · exact h
      injection ev with e1 _ e2
      subst e1 e2
      unfold maxLen at hm
      have g : wr.cell? ⟨b, o + j * 4, none⟩ = some (.int .i64 l[j].n) ∧ wr.cell? ⟨b, o + j * 4 + 1, none⟩ = some (.int .i64 l[j].fr) ∧ wr.cell? ⟨b, o + j * 4 + 2, none⟩ = some (.int .i64 l[j].mn) ∧ wr.cell? ⟨b, o + j * 4 + 3, none⟩ = some (.int .i64 l[j].at') := by
        refine ⟨?_, ?_, ?_, ?_⟩
        · rw [hbb.cell (p := ⟨b, _, none⟩) hblt]; exact hc (j * 4) _ (by have := flat_get hlt 0 (by omega); simpa [pcC] using this)
        · rw [hbb.cell (p := ⟨b, _, none⟩) hblt, show o + j * 4 + 1 = o + (j * 4 + 1) by omega]; exact hc (j * 4 + 1) _ (by have := flat_get hlt 1 (by omega); simpa [pcC] using this)
        · rw [hbb.cell (p := ⟨b, _, none⟩) hblt, show o + j * 4 + 2 = o + (j * 4 + 2) by omega]; exact hc (j * 4 + 2) _ (by have := flat_get hlt 2 (by omega); simpa [pcC] using this)
        · rw [hbb.cell (p := ⟨b, _, none⟩) hblt, show o + j * 4 + 3 = o + (j * 4 + 3) by omega]; exact hc (j * 4 + 3) _ (by have := flat_get hlt 3 (by omega); simpa [pcC] using this)
      obtain ⟨g0, g1, g2, g3⟩ := g
      have hp := HOK.out l[j] (List.getElem_mem hlt)
      have hq := unpiece_eq word l[j] hp
      have hql := unpiece_lt word l[j] hp
      have HS := Lib.hid (back_snoc word l j hlt)
      have HM := Lib.hid (max_snoc l j hlt)
      have hy := backFold_lt word (l.take j) (fun p hp => HOK.out p (List.mem_of_mem_take hp))
      have hmx := max_bd (l.take j) (fun p hp => HOK.out p (List.mem_of_mem_take hp)) 0 (by omega)
      have hmx' : 0 ≤ backMax (l.take j) ∧ backMax (l.take j) ≤ 31 := hmx
      have HO := Lib.hid (or_i64 (backFold word (l.take j)) (unpieceN word l[j]) hy hql)
      clear hmx
      obtain ⟨⟨k0, k1, k2, k3, k4, k5⟩, k6⟩ := hp
      clear hc
      generalize l[j] = p at *
      generalize backFold word (l.take j) = y at *
      generalize backMax (l.take j) = mx at *
      obtain ⟨pn, pf, pm, pa⟩ := p
      simp only at g0 g1 g2 g3 k0 k1 k2 k3 k4 k5 k6 hq hql
      obtain ⟨pf, rfl⟩ : ∃ m : Nat, pf = m := ⟨pf.toNat, by omega⟩
      obtain ⟨pm, rfl⟩ : ∃ m : Nat, pm = m := ⟨pm.toNat, by omega⟩
      obtain ⟨pa, rfl⟩ : ∃ m : Nat, pa = m := ⟨pa.toNat, by omega⟩
      simp only [Int.toNat_natCast] at hq
      go_wp2_with fail
      go_quiet ((go_at_call 47; exact Calls.quiet_of (field_q word pa pm _ (by omega) (by omega) hw)))
      go_wp2_with fail
      refine ⟨⟨j + 1, by omega, by go_num, by rw [HS.out, ← HO.out], by rw [HM.out]; split <;> (congr 1; omega), below_drewN (by repeat (first | (with_reducible exact Below.refl _ _) | (with_reducible refine bw_set ?_ ?_ _) | (with_reducible apply bw_alloc) | (with_reducible refine bw_tr ?_ (by with_reducible assumption)) | (with_reducible apply bw_drew) | omega)) _⟩, by simp [intOf]; omega⟩
    · have e : l.take j = l := List.take_of_length_le (by omega)
      rw [e] at *
      go_wp2_with fail
      go_ret2
      exact ⟨by rw [HL.out]; rfl, (by repeat (first | (with_reducible exact Below.refl _ _) | (with_reducible refine bw_set ?_ ?_ _) | (with_reducible apply bw_alloc) | (with_reducible refine bw_tr ?_ (by with_reducible assumption)) | (with_reducible apply bw_drew) | omega))⟩
end Go.Proofs.Ytfepdieeiplbnaa
