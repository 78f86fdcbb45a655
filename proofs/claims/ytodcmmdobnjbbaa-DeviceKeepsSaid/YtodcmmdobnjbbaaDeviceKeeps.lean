/-
  The walk of the law DeviceKeeps.
-/
import Derived.Test.YtodcmmdobnjbbaaLaws10
namespace Go.Proofs.Ytodcmmdobnjbbaa
open Go.RowKit
/-- Which registers keep what is written. -/
def keepsR (k r : Int) : Prop := k = 1 ∧ r = 2 ∨ k = 2 ∧ (r = 1 ∨ r = 2) ∨ k = 3 ∧ (r = 0 ∨ r = 2)
theorem read_kept {s : St} {r : Int} (h : keepsR s.k r) (n : Int) : readN (doneS (writeS s r n)) r = n := by
  rcases h with ⟨hk, rfl⟩ | ⟨hk, rfl | rfl⟩ | ⟨hk, rfl | rfl⟩ <;> simp [readN, doneS, writeS, hk]
theorem read_stays {s : St} {r : Int} (h : keepsR s.k r) (n : Int) : readS (doneS (writeS s r n)) r = doneS (writeS s r n) := by
  rcases h with ⟨hk, rfl⟩ | ⟨hk, rfl | rfl⟩ | ⟨hk, rfl | rfl⟩ <;> simp [readS, doneS, writeS, hk]
set_option maxHeartbeats 4000000 in
theorem walkDeviceKeeps (k : Int) (v : Value) (raw : List (Int × Int × Int)) (which n : Int) (w : World) (hk : I64 k) (hv : ArgS 3 c3 w v raw) (hok : ∀ r ∈ raw, ok3 r) (hwh : I64 which) (_ : I64 n) :
    Calls Try.prog 3 #[.int .i64 k, v, .int .i64 which, .int .i64 n] w fun e w' => e = .returned (.bool true) ∧ Below w.heap.size w w' := by
  obtain ⟨a, len, cap, rfl, h⟩ := rows3_of hv hok
  have H := Lib.hid h; clear h hv hok
  have HI := Lib.hid (inv_made k raw)
  go_enter Try.func3, Try.ntmps3
  go_wp2_with fail
  refine (awake_any _).mono ?_
  rintro e w1 ⟨rfl, hb1⟩
  go_wp2_with fail
  refine (made_any _ _ _ _ _ _ hk (H.out.below hb1)).mono ?_
  generalize hs : madeS k raw = s at *
  have HS := Lib.hid hs; clear hs
  rintro e w2 ⟨v2, rfl, hv2, hb2⟩
  have HV2 := Lib.hid hv2.st
  obtain ⟨c2, f2⟩ := bcell hb2
  have s2 := hb2.size
  obtain ⟨qv, hv, hr, hf⟩ := hv2
  obtain ⟨qa2, qc2, rfl⟩ := hr.shape
  clear hr hf
  subst hv
  unfold stC at HV2 ⊢
  have hkk := HI.out.k
  obtain ⟨sk, r0, r1, r2, r3, q, sent, ra⟩ := s
  simp only at hkk
  simp only
  have hall : ∃ m r, keepsR sk r ∧ (sk = 1 ∧ m = 0 ∧ r = 2 ∧ pickN which 1 = 0 ∨ sk = 2 ∧ m = 0 ∧ r = 1 ∧ pickN which 2 = 0 ∨ sk = 2 ∧ m = 1 ∧ r = 2 ∧ pickN which 2 = 1 ∨ sk = 3 ∧ m = 0 ∧ r = 0 ∧ pickN which 2 = 0 ∨ sk = 3 ∧ m = 1 ∧ r = 2 ∧ pickN which 2 = 1) := by
    have p1 := pickN_bd which 1 (by omega)
    have p2 := pickN_bd which 2 (by omega)
    unfold keepsR
    have : sk = 1 ∨ sk = 2 ∨ sk = 3 := by omega
    rcases this with rfl | rfl | rfl
    · exact ⟨0, 2, by simp, by left; omega⟩
    · have : pickN which 2 = 0 ∨ pickN which 2 = 1 := by omega
      rcases this with e | e
      · exact ⟨0, 1, by simp, by simp [e]⟩
      · exact ⟨1, 2, by simp, by simp [e]⟩
    · have : pickN which 2 = 0 ∨ pickN which 2 = 1 := by omega
      rcases this with e | e
      · exact ⟨0, 0, by simp, by simp [e]⟩
      · exact ⟨1, 2, by simp, by simp [e]⟩
  obtain ⟨m, r, hkr, hall⟩ := hall
  have E1 := Lib.hid (read_kept (s := ⟨sk, r0, r1, r2, r3, q, sent, ra⟩) hkr (wrap32 n))
  have E2 := Lib.hid (read_stays (s := ⟨sk, r0, r1, r2, r3, q, sent, ra⟩) hkr (wrap32 n))
  have E3 := Lib.hid (doneS_idem (writeS ⟨sk, r0, r1, r2, r3, q, sent, ra⟩ r (wrap32 n)))
  have HI2 := Lib.hid (inv_done (inv_write HI.out r (wrap32 n) (w32_bd _)))
  generalize hu : doneS (writeS ⟨sk, r0, r1, r2, r3, q, sent, ra⟩ r (wrap32 n)) = u at *
  have HU := Lib.hid hu; clear hu hkr
  have E5 := Lib.hid (sameS_self u)
  rcases hall with ⟨rfl, rfl, rfl, hp⟩ | ⟨rfl, rfl, rfl, hp⟩ | ⟨rfl, rfl, rfl, hp⟩ | ⟨rfl, rfl, rfl, hp⟩ | ⟨rfl, rfl, rfl, hp⟩
  all_goals
    have HP := Lib.hid hp; clear hp hkk
    go_wp2_with (go_at_call 13; refine (pick_lit _ _ _ _ HP.out hwh (by omega)).mono ?_; rintro e w' ⟨rfl, rfl⟩)
    refine (write_any _ _ _ n _ (HV2.out.below (by repeat (first | exact Below.refl _ _ | (with_reducible apply bw_alloc) | (with_reducible refine bw_tr ?_ (by with_reducible assumption)) | (with_reducible refine bw_set ?_ ?_ _) | (with_reducible apply bw_drew) | omega))) HI.out (by decide)).mono ?_
    rw [HU.out]
    rintro e w3 ⟨v3, rfl, hv3, hb3⟩
    have HV3 := Lib.hid hv3.st
    obtain ⟨c3, f3⟩ := bcell hb3
    have z3 : w2.heap.size < w3.heap.size := by have := hb3.size; simp at this; omega
    obtain ⟨qv, hv, hr, hf⟩ := hv3
    obtain ⟨qa3, qc3, rfl⟩ := hr.shape
    clear hr hf
    subst hv
    unfold stC at HV3 ⊢
    go_wp2_with fail
    refine (read_any _ u _ _ (HV3.out.below (by repeat (first | exact Below.refl _ _ | (with_reducible apply bw_alloc) | (with_reducible refine bw_tr ?_ (by with_reducible assumption)) | (with_reducible refine bw_set ?_ ?_ _) | (with_reducible apply bw_drew) | omega))) HI2.out (by decide)).mono ?_
    rw [E1.out, E2.out, E3.out]
    rintro e w4 ⟨v4, rfl, hv4, hb4⟩
    have HV4 := Lib.hid hv4.st
    obtain ⟨c4, f4⟩ := bcell hb4
    have z4 : w3.heap.size < w4.heap.size := by have := hb4.size; simp at this; omega
    obtain ⟨qv, hv, hr, hf⟩ := hv4
    obtain ⟨qa4, qc4, rfl⟩ := hr.shape
    clear hr hf
    subst hv
    unfold stC at HV4 ⊢
    go_wp2_with fail
    refine (read_any _ u _ _ (HV4.out.below (by repeat (first | exact Below.refl _ _ | (with_reducible apply bw_alloc) | (with_reducible refine bw_tr ?_ (by with_reducible assumption)) | (with_reducible refine bw_set ?_ ?_ _) | (with_reducible apply bw_drew) | omega))) HI2.out (by decide)).mono ?_
    rw [E1.out, E2.out, E3.out]
    rintro e w5 ⟨v5, rfl, hv5, hb5⟩
    have HV5 := Lib.hid hv5.st
    obtain ⟨c5, f5⟩ := bcell hb5
    have z5 : w4.heap.size < w5.heap.size := by have := hb5.size; simp at this; omega
    obtain ⟨qv, hv, hr, hf⟩ := hv5
    obtain ⟨qa5, qc5, rfl⟩ := hr.shape
    clear hr hf
    subst hv
    unfold stC at HV5 ⊢
    have yyw2w3 : w2.heap.size ≤ w3.heap.size := by omega
    have zzw2w4 : w2.heap.size < w4.heap.size := by omega
    have yyw2w4 : w2.heap.size ≤ w4.heap.size := by omega
    have zzw2w5 : w2.heap.size < w5.heap.size := by omega
    have yyw2w5 : w2.heap.size ≤ w5.heap.size := by omega
    have yyw3w4 : w3.heap.size ≤ w4.heap.size := by omega
    have zzw3w5 : w3.heap.size < w5.heap.size := by omega
    have yyw3w5 : w3.heap.size ≤ w5.heap.size := by omega
    have yyw4w5 : w4.heap.size ≤ w5.heap.size := by omega
    go_wp2_with (first | (go_at_call 16; refine (wrap_any _ _).mono ?_; rintro e w' ⟨rfl, rfl⟩) | (go_at_call 17; ((with_reducible refine (same_lit _ _ u u true _ _ _ E5.out HV3.out HV4.out (by repeat (first | exact Below.refl _ _ | (with_reducible apply bw_alloc) | (with_reducible refine bw_tr ?_ (by with_reducible assumption)) | (with_reducible refine bw_set ?_ ?_ _) | (with_reducible apply bw_drew) | omega)) (by repeat (first | exact Below.refl _ _ | (with_reducible apply bw_alloc) | (with_reducible refine bw_tr ?_ (by with_reducible assumption)) | (with_reducible refine bw_set ?_ ?_ _) | (with_reducible apply bw_drew) | omega))).mono ?_); rintro e w6 ⟨rfl, hb6⟩)))
    go_ret
    exact ⟨ret1 (rbool rfl), (by repeat (first | exact Below.refl _ _ | (with_reducible apply bw_alloc) | (with_reducible refine bw_tr ?_ (by with_reducible assumption)) | (with_reducible refine bw_set ?_ ?_ _) | (with_reducible apply bw_drew) | omega))⟩
end Go.Proofs.Ytodcmmdobnjbbaa
