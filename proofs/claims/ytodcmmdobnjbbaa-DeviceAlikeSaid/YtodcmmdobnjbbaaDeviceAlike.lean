/-
  The walk of the law DeviceAlike.
-/
import Derived.Test.YtodcmmdobnjbbaaAlikeMath
import Derived.Test.YtodcmmdobnjbbaaBw
import Derived.Test.YtodcmmdobnjbbaaOpen
namespace Go.Proofs.Ytodcmmdobnjbbaa
open Go.RowKit
theorem same_lit (v v' : Value) (s t : St) (r : Bool) (w0 w0' w : World) (hr : sameS s t = r) (h : IsSt w0 v s) (h' : IsSt w0' v' t) (hb : Below w0.heap.size w0 w) (hb' : Below w0'.heap.size w0' w) :
    Calls Try.prog 17 #[v, v'] w fun e w' => e = .returned (.bool r) ∧ Below w.heap.size w w' := by
  subst hr
  exact same_any v v' s t w (h.below hb) (h'.below hb')
theorem same_write {s : St} (h : Inv s) (hd : doneS s = s) (n : Int) : sameS s (doneS (writeS s 2 n)) = (s.r2 == n) := by
  by_cases e : s.r2 = n
  · rw [done_same h hd n e, sameS_self, beq_iff_eq.2 e]
  · rw [beq_eq_false_iff_ne.2 e]
    have : regsEq s (doneS (writeS s 2 n)) = false := by
      unfold regsEq
      apply decide_eq_false
      rintro ⟨_, _, h2, _⟩
      apply e
      rw [h2]
      unfold writeS doneS
      rcases k3 h.k with hk | hk | hk <;> simp [hk]
    simp [sameS, this]
theorem read_write {s : St} (h : Inv s) (n : Int) : readN (doneS (writeS s 2 n)) 2 = n := by
  rcases k3 h.k with hk | hk | hk <;> simp [readN, doneS, writeS, hk]
theorem readS_two (s : St) : readS s 2 = s := by simp [readS]
theorem made_done (k : Int) (raw : List (Int × Int × Int)) : doneS (madeS k raw) = madeS k raw := by
  refine done_steps _ ?_ _
  have := pickN_bd k 3 (by omega)
  have h3 : 1 + pickN k 3 = 1 ∨ 1 + pickN k 3 = 2 ∨ 1 + pickN k 3 = 3 := by omega
  rcases h3 with e | e | e <;> rw [e] <;> rfl
theorem rows3_of {w : World} {v : Value} {raw : List (Int × Int × Int)} (h : ArgS 3 c3 w v raw) (hok : ∀ r ∈ raw, ok3 r) : ∃ a len cap, v = .slice a len cap ∧ Rows3 w a len cap raw := by
  obtain ⟨a, c, hv, h1, h2, h3⟩ := h
  refine ⟨a, raw.length, c, hv, rfl, hok, h1, h2, ?_⟩
  rcases h3 with rfl | ⟨b, o, ha, hlt, hc⟩
  · exact .inl rfl
  · refine .inr ⟨b, o, ha, hlt, fun i r hr => ⟨hc i r hr 0 _ rfl, hc i r hr 1 _ rfl, hc i r hr 2 _ rfl⟩⟩
set_option maxHeartbeats 4000000 in
theorem walkDeviceAlike (k : Int) (v : Value) (raw : List (Int × Int × Int)) (n : Int) (w : World) (hk : I64 k) (hv : ArgS 3 c3 w v raw) (hok : ∀ r ∈ raw, ok3 r) (_ : I64 n) :
    Calls Try.prog 9 #[.int .i64 k, v, .int .i64 n] w fun e w' => e = .returned (.bool true) ∧ Below w.heap.size w w' := by
  obtain ⟨a, len, cap, rfl, h⟩ := rows3_of hv hok
  have H := Lib.hid h; clear h hv hok
  have HI := Lib.hid (inv_made k raw)
  have HD := Lib.hid (made_done k raw)
  go_enter Try.func9, Try.ntmps9
  go_wp2_with fail
  refine (awake_any _).mono ?_
  rintro e w1 ⟨rfl, hb1⟩
  go_wp2_with fail
  refine (made_any _ _ _ _ _ _ hk (H.out.below hb1)).mono ?_
  generalize hs : madeS k raw = s at *
  have HS := Lib.hid hs; clear hs
  rintro e w2 ⟨v2, rfl, hv2, hb2⟩
  have HV2 := Lib.hid hv2.st
  obtain ⟨c2, f2⟩ := bcell hb2
  skip
  obtain ⟨qv, hv, hr, hf⟩ := hv2
  obtain ⟨qa2, qc2, rfl⟩ := hr.shape
  clear hr hf
  subst hv
  unfold stC at HV2 ⊢
  go_wp2_with fail
  refine (made_any _ _ _ _ _ _ hk ((H.out.below hb1).below (by repeat (first | exact Below.refl _ _ | (with_reducible apply bw_alloc) | (with_reducible refine bw_tr ?_ (by with_reducible assumption)) | (with_reducible refine bw_set ?_ ?_ _) | (with_reducible apply bw_drew) | omega)))).mono ?_
  rw [HS.out]
  rintro e w3 ⟨v3, rfl, hv3, hb3⟩
  have HV3 := Lib.hid hv3.st
  obtain ⟨c3, f3⟩ := bcell hb3
  have z3 : w2.heap.size < w3.heap.size := by have := hb3.size; simp at this; omega
  obtain ⟨qv, hv, hr, hf⟩ := hv3
  obtain ⟨qa3, qc3, rfl⟩ := hr.shape
  clear hr hf
  subst hv
  unfold stC at HV3 ⊢
  go_wp2_with fail
  refine (write_any _ s 2 n _ (HV2.out.below (by repeat (first | exact Below.refl _ _ | (with_reducible apply bw_alloc) | (with_reducible refine bw_tr ?_ (by with_reducible assumption)) | (with_reducible refine bw_set ?_ ?_ _) | (with_reducible apply bw_drew) | omega))) HI.out (by decide)).mono ?_
  have HI2 := Lib.hid (inv_done (inv_write HI.out 2 (wrap32 n) (w32_bd _)))
  have E1 := Lib.hid (read_write HI.out (wrap32 n))
  have E2 := Lib.hid (doneS_idem (writeS s 2 (wrap32 n)))
  have E3 := Lib.hid (same_write HI.out HD.out (wrap32 n))
  generalize doneS (writeS s 2 (wrap32 n)) = u at *
  rintro e w4 ⟨v4, rfl, hv4, hb4⟩
  have HV4 := Lib.hid hv4.st
  obtain ⟨c4, f4⟩ := bcell hb4
  have z4 : w3.heap.size < w4.heap.size := by have := hb4.size; simp at this; omega
  obtain ⟨qv, hv, hr, hf⟩ := hv4
  obtain ⟨qa4, qc4, rfl⟩ := hr.shape
  clear hr hf
  subst hv
  unfold stC at HV4 ⊢
  go_wp2_with fail
  refine (read_any _ u 2 _ (HV4.out.below (by repeat (first | exact Below.refl _ _ | (with_reducible apply bw_alloc) | (with_reducible refine bw_tr ?_ (by with_reducible assumption)) | (with_reducible refine bw_set ?_ ?_ _) | (with_reducible apply bw_drew) | omega))) HI2.out (by decide)).mono ?_
  rw [readS_two, E1.out, E2.out]
  rintro e w5 ⟨v5, rfl, hv5, hb5⟩
  have HV5 := Lib.hid hv5.st
  obtain ⟨c5, f5⟩ := bcell hb5
  have z5 : w4.heap.size < w5.heap.size := by have := hb5.size; simp at this; omega
  obtain ⟨qv, hv, hr, hf⟩ := hv5
  obtain ⟨qa5, qc5, rfl⟩ := hr.shape
  clear hr hf
  subst hv
  unfold stC at HV5 ⊢
  have E5 := Lib.hid (sameS_self s)
  have E6 := Lib.hid (sameS_self u)
  have hq := E3.out
  cases hc : (s.r2 == wrap32 n) <;> rw [hc] at hq <;> have E7 := Lib.hid hq <;> clear hq
  all_goals
    have yyw2w3 : w2.heap.size ≤ w3.heap.size := by omega
    have zzw2w4 : w2.heap.size < w4.heap.size := by omega
    have yyw2w4 : w2.heap.size ≤ w4.heap.size := by omega
    have zzw2w5 : w2.heap.size < w5.heap.size := by omega
    have yyw2w5 : w2.heap.size ≤ w5.heap.size := by omega
    have yyw3w4 : w3.heap.size ≤ w4.heap.size := by omega
    have zzw3w5 : w3.heap.size < w5.heap.size := by omega
    have yyw3w5 : w3.heap.size ≤ w5.heap.size := by omega
    have yyw4w5 : w4.heap.size ≤ w5.heap.size := by omega
    go_wp2_with fail
    go_region_held3 (fun w' => SBel (w5.alloc (.cells #[.int .i64 u.k, .int .i64 u.r0, .int .i64 u.r1, .int .i64 u.r2, .int .i64 u.r3, .slice qa5 u.q.length qc5, .int .i64 u.sent, .bool u.ra] 27)) w') (first | with_reducible assumption | exact sbel_drew _ | exact sbel_tr (by with_reducible assumption) (by with_reducible assumption) | exact sbel_alloc (by with_reducible assumption) _)
      (first | (go_at_call 16; refine (wrap_any _ _).mono ?_; rintro e w' ⟨rfl, rfl⟩) | (go_at_call 17; ((with_reducible refine (same_lit _ _ s s true _ _ _ E5.out HV2.out HV3.out (by repeat (first | exact Below.refl _ _ | (with_reducible apply bw_alloc) | (with_reducible refine bw_tr ?_ (by with_reducible assumption)) | (with_reducible refine bw_set ?_ ?_ _) | (with_reducible apply bw_drew) | omega)) (by repeat (first | exact Below.refl _ _ | (with_reducible apply bw_alloc) | (with_reducible refine bw_tr ?_ (by with_reducible assumption)) | (with_reducible refine bw_set ?_ ?_ _) | (with_reducible apply bw_drew) | omega))).mono ?_); rintro e w6 ⟨rfl, hb6⟩)) | (go_at_call 17; ((with_reducible refine (same_lit _ _ u u true _ _ _ E6.out HV4.out HV5.out (by repeat (first | exact Below.refl _ _ | (with_reducible apply bw_alloc) | (with_reducible refine bw_tr ?_ (by with_reducible assumption)) | (with_reducible refine bw_set ?_ ?_ _) | (with_reducible apply bw_drew) | omega)) (by repeat (first | exact Below.refl _ _ | (with_reducible apply bw_alloc) | (with_reducible refine bw_tr ?_ (by with_reducible assumption)) | (with_reducible refine bw_set ?_ ?_ _) | (with_reducible apply bw_drew) | omega))).mono ?_); rintro e w6 ⟨rfl, hb6⟩)) | (go_at_call 17; ((with_reducible refine (same_lit _ _ s u _ _ _ _ E7.out HV2.out HV4.out (by repeat (first | exact Below.refl _ _ | (with_reducible apply bw_alloc) | (with_reducible refine bw_tr ?_ (by with_reducible assumption)) | (with_reducible refine bw_set ?_ ?_ _) | (with_reducible apply bw_drew) | omega)) (by repeat (first | exact Below.refl _ _ | (with_reducible apply bw_alloc) | (with_reducible refine bw_tr ?_ (by with_reducible assumption)) | (with_reducible refine bw_set ?_ ?_ _) | (with_reducible apply bw_drew) | omega))).mono ?_); rintro e w6 ⟨rfl, hb6⟩)))
    go_wp2_with fail
    go_ret
    exact ⟨ret1 (rbool rfl), (by repeat (first | exact Below.refl _ _ | (with_reducible apply bw_alloc) | (with_reducible refine bw_tr ?_ (by with_reducible assumption)) | (with_reducible refine bw_set ?_ ?_ _) | (with_reducible apply bw_drew) | omega))⟩
end Go.Proofs.Ytodcmmdobnjbbaa
