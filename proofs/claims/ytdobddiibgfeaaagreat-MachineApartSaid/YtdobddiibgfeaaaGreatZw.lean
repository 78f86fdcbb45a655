/-
  What the walks of this statement lean on (MacNew): shown.
-/
import Derived.Test.YtdobddiibgfeaaaGreatZv
import Derived.Test.YtdobddiibgfeaaaGreatZa
set_option linter.unusedVariables false
set_option linter.unusedSimpArgs false
namespace Go.Proofs.YtdobddiibgfeaaaGreat
section
open Go.RowKit
set_option maxRecDepth 100000
theorem zgl (w : World) (o1 o2 o3 : Obj) : ∃ w0 : World, w0 = ((w.alloc o1).alloc o2).alloc o3 ∧ w0.heap[w.heap.size]? = some o1 ∧ w0.heap[w.heap.size + 1]? = some o2 ∧ w0.heap[w.heap.size + 2]? = some o3 ∧ Below w.heap.size w w0 ∧ w0.heap.size = w.heap.size + 3 := by
 refine ⟨_, rfl, ?_, ?_, ?_, zae (zae (zan _ _) (zan _ _)) (zan _ _), by simp⟩
 · exact zaf (zan _ _) (zaf (zan _ _) (zat w o1))
 · have := zaf (zan _ o3) (zat (w.alloc o1) o2); simpa using this
 · have := zat ((w.alloc o1).alloc o2) o3; simpa using this
structure NewI (W : World) (B H : Nat) (ws : List Int) (lines : List Ln) (m1 m2 m3 : Value) (fl : List Bool) (u56 u58 u60 u63 u64 u14 : Value) (w : World) : Prop where
 bel : Below W.heap.size W w
 f2 : fl.getD 2 false = true → w.ownsRow B 3 1 u56 ws.length (intC ws)
 f4 : fl.getD 4 false = true → w.ownsRow B 56 39 u58 H (zaT hC (List.replicate H zHt))
 f6 : fl.getD 6 false = true → w.ownsRow B 3 1 u60 H (intC (List.replicate H 0))
 f9 : fl.getD 9 false = true → w.ownsRow B 64 3 u63 lines.length (zaT lnC lines)
 f10 : fl.getD 10 false = true → u64 = .agg #[u56, u58, u60, m1, m2, m3, .slice none 0 0, u63, .slice none 0 0]
 f11 : fl.getD 11 false = true → ∃ b, u14 = .pointer (some ⟨b, 0, none⟩) ∧ B ≤ b ∧ W.heap.size ≤ b ∧ w.heap[b]? = some (.cells (if fl.getD 12 false = true then #[u56, u58, u60, m1, m2, m3, .slice none 0 0, u63, .slice none 0 0] else nil9) 37 (0, 0))
theorem NewI.up {W : World} {B H : Nat} {ws : List Int} {lines : List Ln} {m1 m2 m3 : Value} {fl : List Bool} {u56 u58 u60 u63 u64 u14 : Value} {w w1 : World} (h : NewI W B H ws lines m1 m2 m3 fl u56 u58 u60 u63 u64 u14 w) (hu : Up w w1) : NewI W B H ws lines m1 m2 m3 fl u56 u58 u60 u63 u64 u14 w1 :=
 ⟨zae h.bel hu, fun x => zab (h.f2 x) hu, fun x => zab (h.f4 x) hu, fun x => zab (h.f6 x) hu, fun x => zab (h.f9 x) hu, h.f10, fun x => by
  obtain ⟨b, e, h1, h2, h3⟩ := h.f11 x
  exact ⟨b, e, h1, h2, zaf hu h3⟩⟩
def zfe : List (List Bool) :=
 [false, true].flatMap fun b2 => [false, true].flatMap fun b4 => [false, true].flatMap fun b6 => [false, true].flatMap fun b9 => [false, true].flatMap fun b10 => [false, true].flatMap fun b11 => [false, true].flatMap fun b12 =>
  if (b2 || !b9) && ((!b10 || (b2 && (b4 && (b6 && b9)))) && (!b12 || (b10 && b11))) then [[true, true, b2, true, b4, true, b6, true, true, b9, b10, b11, b12]] else []
def newCo (fl : List Bool) (i : Nat) : Bool :=
 i == 2 || i == 4 || i == 6 || (i == 9 && fl.getD 2 false) || (i == 10 && (fl.getD 2 false && (fl.getD 4 false && (fl.getD 6 false && fl.getD 9 false)))) || i == 11 || (i == 12 && (fl.getD 2 false && (fl.getD 4 false && (fl.getD 6 false && (fl.getD 9 false && (fl.getD 10 false && fl.getD 11 false))))))
theorem zlI : ∀ fl ∈ zfe, fl.length = 13 := by
 have : (zfe.all fun fl => fl.length == 13) = true := by kernel_rfl
 intro fl h
 simpa using List.all_eq_true.1 this fl h
theorem zlJ : ∀ fl ∈ zfe, (fl.getD 10 false = true → fl.getD 2 false = true ∧ fl.getD 4 false = true ∧ fl.getD 6 false = true ∧ fl.getD 9 false = true) ∧ (fl.getD 12 false = true → fl.getD 10 false = true ∧ fl.getD 11 false = true) := by
 have : (zfe.all fun fl => (!fl.getD 10 false || (fl.getD 2 false && (fl.getD 4 false && (fl.getD 6 false && fl.getD 9 false)))) && (!fl.getD 12 false || (fl.getD 10 false && fl.getD 11 false))) = true := by kernel_rfl
 intro fl h
 have := List.all_eq_true.1 this fl h
 simp only [Bool.and_eq_true, Bool.or_eq_true, Bool.not_eq_true'] at this
 refine ⟨fun h => ?_, fun h => ?_⟩
 · rcases this.1 with h1 | h1
   · rw [h1] at h; cases h
   · exact h1
 · rcases this.2 with h1 | h1
   · rw [h1] at h; cases h
   · exact h1
section
variable {W : World} {B H : Nat} {ws : List Int} {lines : List Ln} {m1 m2 m3 : Value} {fl : List Bool} {u56 u58 u60 u63 u64 u14 : Value} {w w1 : World}
theorem NewI.off12 (hm : fl ∈ zfe) {i : Nat} (hi : i = 2 ∨ i = 4 ∨ i = 6 ∨ i = 9) (hf : fl[i]? = some false) : fl.getD 10 false = false ∧ fl.getD 12 false = false := by
 obtain ⟨h1, h2⟩ := zlJ fl hm
 have h := zcQ hf
 have d10 : fl.getD 10 false = false := by
  cases h10 : fl.getD 10 false
  · rfl
  · have := h1 h10
    rcases hi with rfl | rfl | rfl | rfl
    · rw [this.1] at h; cases h
    · rw [this.2.1] at h; cases h
    · rw [this.2.2.1] at h; cases h
    · rw [this.2.2.2] at h; cases h
 refine ⟨d10, ?_⟩
 cases h12 : fl.getD 12 false
 · rfl
 · rw [(h2 h12).1] at d10; cases d10
theorem NewI.put2 (hI : NewI W B H ws lines m1 m2 m3 fl u56 u58 u60 u63 u64 u14 w) (hm : fl ∈ zfe) (hf : fl[2]? = some false) {v : Value} (ho : w1.ownsRow B 3 1 v ws.length (intC ws)) (hb : Below w.heap.size w w1) : NewI W B H ws lines m1 m2 m3 (fl.set 2 true) v u58 u60 u63 u64 u14 w1 := by
 obtain ⟨d10, d12⟩ := NewI.off12 hm (i := 2) (by simp) hf
 refine ⟨zae hI.bel hb, fun _ => ho, fun h => zab (hI.f4 (by rwa [zap _ 2 4 (by decide)] at h)) hb, fun h => zab (hI.f6 (by rwa [zap _ 2 6 (by decide)] at h)) hb, fun h => zab (hI.f9 (by rwa [zap _ 2 9 (by decide)] at h)) hb, fun h => (by rw [zap _ 2 10 (by decide), d10] at h; cases h), fun h => ?_⟩
 obtain ⟨b, e, h1, h2, h3⟩ := hI.f11 (by rwa [zap _ 2 11 (by decide)] at h)
 refine ⟨b, e, h1, h2, ?_⟩
 rw [zap _ 2 12 (by decide), d12, if_neg (by decide)]
 rw [d12, if_neg (by decide)] at h3
 exact zaf hb h3
theorem NewI.put4 (hI : NewI W B H ws lines m1 m2 m3 fl u56 u58 u60 u63 u64 u14 w) (hm : fl ∈ zfe) (hf : fl[4]? = some false) {v : Value} (ho : w1.ownsRow B 56 39 v H (zaT hC (List.replicate H zHt))) (hb : Below w.heap.size w w1) : NewI W B H ws lines m1 m2 m3 (fl.set 4 true) u56 v u60 u63 u64 u14 w1 := by
 obtain ⟨d10, d12⟩ := NewI.off12 hm (i := 4) (by simp) hf
 refine ⟨zae hI.bel hb, fun h => zab (hI.f2 (by rwa [zap _ 4 2 (by decide)] at h)) hb, fun _ => ho, fun h => zab (hI.f6 (by rwa [zap _ 4 6 (by decide)] at h)) hb, fun h => zab (hI.f9 (by rwa [zap _ 4 9 (by decide)] at h)) hb, fun h => (by rw [zap _ 4 10 (by decide), d10] at h; cases h), fun h => ?_⟩
 obtain ⟨b, e, h1, h2, h3⟩ := hI.f11 (by rwa [zap _ 4 11 (by decide)] at h)
 refine ⟨b, e, h1, h2, ?_⟩
 rw [zap _ 4 12 (by decide), d12, if_neg (by decide)]
 rw [d12, if_neg (by decide)] at h3
 exact zaf hb h3
theorem NewI.put6 (hI : NewI W B H ws lines m1 m2 m3 fl u56 u58 u60 u63 u64 u14 w) (hm : fl ∈ zfe) (hf : fl[6]? = some false) {v : Value} (ho : w1.ownsRow B 3 1 v H (intC (List.replicate H 0))) (hb : Below w.heap.size w w1) : NewI W B H ws lines m1 m2 m3 (fl.set 6 true) u56 u58 v u63 u64 u14 w1 := by
 obtain ⟨d10, d12⟩ := NewI.off12 hm (i := 6) (by simp) hf
 refine ⟨zae hI.bel hb, fun h => zab (hI.f2 (by rwa [zap _ 6 2 (by decide)] at h)) hb, fun h => zab (hI.f4 (by rwa [zap _ 6 4 (by decide)] at h)) hb, fun _ => ho, fun h => zab (hI.f9 (by rwa [zap _ 6 9 (by decide)] at h)) hb, fun h => (by rw [zap _ 6 10 (by decide), d10] at h; cases h), fun h => ?_⟩
 obtain ⟨b, e, h1, h2, h3⟩ := hI.f11 (by rwa [zap _ 6 11 (by decide)] at h)
 refine ⟨b, e, h1, h2, ?_⟩
 rw [zap _ 6 12 (by decide), d12, if_neg (by decide)]
 rw [d12, if_neg (by decide)] at h3
 exact zaf hb h3
theorem NewI.put9 (hI : NewI W B H ws lines m1 m2 m3 fl u56 u58 u60 u63 u64 u14 w) (hm : fl ∈ zfe) (hf : fl[9]? = some false) {v : Value} (ho : w1.ownsRow B 64 3 v lines.length (zaT lnC lines)) (hb : Below w.heap.size w w1) : NewI W B H ws lines m1 m2 m3 (fl.set 9 true) u56 u58 u60 v u64 u14 w1 := by
 obtain ⟨d10, d12⟩ := NewI.off12 hm (i := 9) (by simp) hf
 refine ⟨zae hI.bel hb, fun h => zab (hI.f2 (by rwa [zap _ 9 2 (by decide)] at h)) hb, fun h => zab (hI.f4 (by rwa [zap _ 9 4 (by decide)] at h)) hb, fun h => zab (hI.f6 (by rwa [zap _ 9 6 (by decide)] at h)) hb, fun _ => ho, fun h => (by rw [zap _ 9 10 (by decide), d10] at h; cases h), fun h => ?_⟩
 obtain ⟨b, e, h1, h2, h3⟩ := hI.f11 (by rwa [zap _ 9 11 (by decide)] at h)
 refine ⟨b, e, h1, h2, ?_⟩
 rw [zap _ 9 12 (by decide), d12, if_neg (by decide)]
 rw [d12, if_neg (by decide)] at h3
 exact zaf hb h3
theorem NewI.put10 (hI : NewI W B H ws lines m1 m2 m3 fl u56 u58 u60 u63 u64 u14 w) : NewI W B H ws lines m1 m2 m3 (fl.set 10 true) u56 u58 u60 u63 (.agg #[u56, u58, u60, m1, m2, m3, .slice none 0 0, u63, .slice none 0 0]) u14 w := by
 refine ⟨hI.bel, fun h => (hI.f2 (by rwa [zap _ 10 2 (by decide)] at h)), fun h => (hI.f4 (by rwa [zap _ 10 4 (by decide)] at h)), fun h => (hI.f6 (by rwa [zap _ 10 6 (by decide)] at h)), fun h => (hI.f9 (by rwa [zap _ 10 9 (by decide)] at h)), fun _ => rfl, fun h => ?_⟩
 obtain ⟨b, e, h1, h2, h3⟩ := hI.f11 (by rwa [zap _ 10 11 (by decide)] at h)
 refine ⟨b, e, h1, h2, ?_⟩
 rw [zap _ 10 12 (by decide)]
 exact h3
theorem NewI.put11 (hI : NewI W B H ws lines m1 m2 m3 fl u56 u58 u60 u63 u64 u14 w) (hm : fl ∈ zfe) (hf : fl[11]? = some false) (hB : B ≤ W.heap.size) : NewI W B H ws lines m1 m2 m3 (fl.set 11 true) u56 u58 u60 u63 u64 (.pointer (some ⟨w.heap.size, 0, none⟩)) (w.alloc (.cells nil9 37)) := by
 have hb := zan w (.cells nil9 37)
 have d12 : fl.getD 12 false = false := by
  cases h12 : fl.getD 12 false
  · rfl
  · have := ((zlJ fl hm).2 h12).2
    rw [zcQ hf] at this; cases this
 have hz := hI.bel.size
 refine ⟨zae hI.bel hb, fun h => zab (hI.f2 (by rwa [zap _ 11 2 (by decide)] at h)) hb, fun h => zab (hI.f4 (by rwa [zap _ 11 4 (by decide)] at h)) hb, fun h => zab (hI.f6 (by rwa [zap _ 11 6 (by decide)] at h)) hb, fun h => zab (hI.f9 (by rwa [zap _ 11 9 (by decide)] at h)) hb, fun h => hI.f10 (by rwa [zap _ 11 10 (by decide)] at h), fun _ => ⟨_, rfl, by omega, hz, ?_⟩⟩
 rw [zap _ 11 12 (by decide), d12, if_neg (by decide)]
 exact zat w _
theorem NewI.put12 (hI : NewI W B H ws lines m1 m2 m3 fl u56 u58 u60 u63 u64 u14 w) (hm : fl ∈ zfe) {b : Nat} {old : Array Value} (hx : w.heap[b]? = some (.cells old 37 (0, 0))) (h14 : u14 = .pointer (some ⟨b, 0, none⟩)) (hB : B ≤ b) (hW : W.heap.size ≤ b) :
 NewI W B H ws lines m1 m2 m3 (fl.set 12 true) u56 u58 u60 u63 u64 u14 (w.setRow b #[u56, u58, u60, m1, m2, m3, .slice none 0 0, u63, .slice none 0 0]) := by
 have K := zf8 w b #[u56, u58, u60, m1, m2, m3, .slice none 0 0, u63, .slice none 0 0]
 refine ⟨below_setRow hI.bel hW _, fun h => zas (hI.f2 (by rwa [zap _ 12 2 (by decide)] at h)) K (zar (hI.f2 (by rwa [zap _ 12 2 (by decide)] at h)) hx (by decide)), fun h => zas (hI.f4 (by rwa [zap _ 12 4 (by decide)] at h)) K (zar (hI.f4 (by rwa [zap _ 12 4 (by decide)] at h)) hx (by decide)), fun h => zas (hI.f6 (by rwa [zap _ 12 6 (by decide)] at h)) K (zar (hI.f6 (by rwa [zap _ 12 6 (by decide)] at h)) hx (by decide)), fun h => zas (hI.f9 (by rwa [zap _ 12 9 (by decide)] at h)) K (zar (hI.f9 (by rwa [zap _ 12 9 (by decide)] at h)) hx (by decide)), fun h => hI.f10 (by rwa [zap _ 12 10 (by decide)] at h), fun h => ⟨b, h14, hB, hW, ?_⟩⟩
 rw [if_pos ((zfA fl 12).2 (by have := zlI fl hm; omega))]
 exact setRow_heap _ _ _ _ _ _ hx
end
theorem infoM : (Tryz.prog.info? 33).map (·.size) = some 3 := by kernel_rfl
set_option maxHeartbeats 8000000 in
theorem zlH (H : Nat) (v kv lv : Value) (ws : List Int) (mem : Nat) (kinds : List Int) (lines : List Ln) (w : World) (hi : IsImg w v ws mem) (hk : Reads w 1 kinds.length kv (intC kinds)) (hl : Reads w 3 lines.length lv (zaT lnC lines)) (hH : 1 ≤ H ∧ H ≤ 4)
 (hk8 : kinds.length ≤ 8) (hl8 : lines.length ≤ 8) (hka : kinds.any badK = false) (hla : lines.any (oddL H) = false) :
 Calls Tryz.prog 11 #[.int .i64 (H : Int), v, kv, lv] w fun e w' => ∃ v', e = .returned (.tuple #[v', .int .i64 0]) ∧ IsMac w' v' (zdS H ws mem kinds lines) ∧ Below w.heap.size w w' := by
 have HI := zhd hi
 have HW16 := hi.few
 have HM12 := hi.mem
 obtain ⟨ia, ic, rfl, hir⟩ := hi.shape
 obtain ⟨ka, kc, rfl⟩ := hk.shape
 obtain ⟨la, lc, rfl⟩ := hl.shape
 have HR := zhd hir; have HK := zhd hk; have HL := zhd hl; have HKA := zhd hka; have HLA := zhd hla
 obtain ⟨nk, hnk⟩ : ∃ n, n = kinds.length := ⟨_, rfl⟩
 obtain ⟨nl, hnl⟩ : ∃ n, n = lines.length := ⟨_, rfl⟩
 obtain ⟨nw, hnw⟩ : ∃ n, n = ws.length := ⟨_, rfl⟩
 have NK := zhd hnk; have NL := zhd hnl; have NW := zhd hnw
 rw [← hnk] at hk8 ⊢; rw [← hnl] at hl8 ⊢; rw [← hnw] at HW16 ⊢
 have d1 : (Value.int .i64 (nk : Int)) = .int .i64 (nk : Int) := rfl
 obtain ⟨hH1, hH4⟩ := hH
 clear hi hir hk hl hka hla hnk hnl hnw d1
 obtain ⟨w1, hw1, hx1, hy1, hz1, hb1, hs1⟩ := zgl w (.cells #[.int .i64 (H : Int)] 3) (.cells #[.slice ia nw ic, .int .i64 (mem : Int), .slice none 0 0] 43) (.cells nil9 37)
 have HX1 := zhd hx1; have HY1 := zhd hy1; have HZ1 := zhd hz1; have HB1 := zhd hb1
 clear hx1 hy1 hz1 hb1 hs1
 go_enter Tryz.func11, Tryz.ntmps11
 go_upto_region 3 with (fail)
 rw [← hw1]; clear hw1
 have q0 := zad HX1.out (j := 0) rfl
 obtain ⟨r0, r1, r2⟩ := zah HY1.out
 have E2 : Hid (newR (H : Int) (mem : Int) = (zct H mem, 0)) := zhd (by unfold newR; rw [if_pos (by omega)]; simp)
 have HN : Hid (∀ w, Calls Tryz.prog 29 #[.int .i64 (H : Int), .int .i64 (mem : Int)] w (zej w w.heap.size (zct H mem, 0))) := zhd (fun w => by have := new_any (H : Int) (mem : Int) w; rw [E2.out] at this; exact this)
 go_upto_region 4 with (first | (go_at_call 29; ((with_reducible refine (HN.out _).mono ?_); rintro e w2 ⟨v2, rfl, hm2, hb2⟩; obtain ⟨x1, n1, y1, x2, n2, y2, x3, n3, y3, rfl⟩ := zb8 hm2; have HM2 := zhd hm2; have HB2' := zhd hb2; clear hm2 hb2)) | (refine wpList_store_row rfl 33 _ _ rfl w2.heap.size #[.slice x1 n1 y1, .slice x2 n2 y2, .slice x3 n3 y3] rfl rfl 33 #[.slice none 0 0, .slice none 0 0, .slice none 0 0] (zat w2 _) infoM rfl (by simp [Value.oneCell']) ?_))
 have hbm : Below w2.heap.size w2 ((w2.alloc zM).setRow w2.heap.size #[.slice x1 n1 y1, .slice x2 n2 y2, .slice x3 n3 y3]) := below_setRow (zan w2 _) (Nat.le_refl _) _
 have HM3' : Hid (((w2.alloc zM).setRow w2.heap.size #[.slice x1 n1 y1, .slice x2 n2 y2, .slice x3 n3 y3]).heap[w2.heap.size]? = some (.cells #[.slice x1 n1 y1, .slice x2 n2 y2, .slice x3 n3 y3] 33 (0, 0))) := zhd (setRow_heap _ _ _ _ _ _ (zat w2 _))
 have HB12 := zhd (zae HB1.out HB2'.out)
 have HX3 := zhd (zaf hbm (zaf HB2'.out HX1.out)); have HY3 := zhd (zaf hbm (zaf HB2'.out HY1.out)); have HZ3 := zhd (zaf hbm (zaf HB2'.out HZ1.out)); have HM3 := zhd (HM2.out.below hbm); have HB3 := zhd (zae HB12.out hbm)
 have hlt2 : w.heap.size + 2 < w2.heap.size := zao (zaf HB2'.out HZ1.out)
 clear hbm q0 r0 r1 r2 HX1 HY1 HZ1 HB1 HM2 HB12 HB2'
 obtain ⟨w3, hw3⟩ : ∃ x, x = (w2.alloc zM).setRow w2.heap.size #[.slice x1 n1 y1, .slice x2 n2 y2, .slice x3 n3 y3] := ⟨_, rfl⟩
 rw [← hw3] at HM3' HX3 HY3 HZ3 HM3 HB3 ⊢
 clear hw3
 obtain ⟨r0, r1, r2⟩ := zah HY3.out
 have hlt3 := zao HM3'.out
 have hmlt : w.heap.size + 2 < w2.heap.size := hlt2
 generalize w2.heap.size = bm at *
 have hq0 : w3.cell? ⟨w.heap.size, 0, none⟩ = some (.int .i64 (H : Int)) := zad HX3.out (j := 0) rfl
 have hlx := zao HX3.out
 have HK' : Hid (Reads w 1 kinds.length (.slice ka nk kc) (intC kinds)) := zhd (by rw [NK.out]; exact HK.out)
 have HL' : Hid (Reads w 3 lines.length (.slice la nl lc) (zaT lnC lines)) := zhd (by rw [NL.out]; exact HL.out)
 clear HK HL
 have g1 : decide (8 < (nk : Int)) = false := by simp; omega
 have g2 : decide (8 < (nl : Int)) = false := by simp; omega
 go_upto_region 6 with (first | (go_at_call 30; ((with_reducible refine (zlc _ ws mem _ (by rw [NW.out]; exact HI.out.below HB3.out)).mono ?_); rintro e w4 ⟨rfl, hb4⟩; have HB4 := zhd hb4; clear hb4)) | (go_at_call 31; ((with_reducible refine (has_bad _ kinds false _ HKA.out (HK'.out.below (zae HB3.out HB4.out))).mono ?_); rintro e w5 ⟨rfl, hb5⟩; have HB5 := zhd (zae HB4.out hb5); clear hb5)) | (go_at_call 32; ((with_reducible refine (has_line (H : Int) _ lines false _ HLA.out (HL'.out.below (zae HB3.out HB5.out)) w.heap.size ((HB5.out.cell (p := ⟨w.heap.size, 0, none⟩) hlx).trans hq0) (Nat.lt_of_lt_of_le hlx HB5.out.size)).mono ?_); rintro e w6 ⟨rfl, hb6⟩; have HB6 := zhd (zae HB5.out hb6); clear hb6)))
 have HX7 := zhd (zaf HB6.out HX3.out); have HY7 := zhd (zaf HB6.out HY3.out); have HZ7 := zhd (zaf HB6.out HZ3.out); have HC7 := zhd (zaf HB6.out HM3'.out); have HM7 := zhd (HM3.out.below HB6.out); have HB7 := zhd (zae HB3.out HB6.out)
 clear r0 r1 r2 hlt3 hq0 hlx HB4 HB5 HX3 HY3 HZ3 HM3' HM3 HB3 HB6 HN E2
 obtain ⟨w9, hw9⟩ : ∃ x, x = w6 := ⟨_, rfl⟩
 rw [← hw9] at HX7 HY7 HZ7 HC7 HM7 HB7 ⊢
 clear hw9
 obtain ⟨i0, hi0, hz00, hz01, hz02⟩ := info_parts zgu
 obtain ⟨i1, hi1, hz10, hz11, hz12⟩ := info_parts zeA
 refine zaV (fun w' => Below w9.heap.size w9 w') [true, true, false, true, false, true, false, true, true] (by kernel_rfl) (by kernel_rfl) (by kernel_rfl) (fun a b h hu => zae h hu) (Below.refl _ _) ?a' ?h ?ht
 case h =>
  intro w0 hb0
  have k0 : w0.cell? ⟨w.heap.size, 0, none⟩ = some (.int .i64 (H : Int)) := zad (zaf hb0 HX7.out) (j := 0) rfl
  obtain ⟨k1, k2, k3⟩ := zah (zaf hb0 HY7.out)
  obtain ⟨k4, k5, k6⟩ := zah (zaf hb0 HC7.out)
  have l0 := zao (zaf hb0 HX7.out); have l1 := zao (zaf hb0 HY7.out); have l2 := zao (zaf hb0 HC7.out)
  have x0 := fun x => zal l0 k0 x; have x1 := fun x => zal l1 k1 x; have x4 := fun x => zal l2 k4 x; have x5 := fun x => zal l2 k5 x; have x6 := fun x => zal l2 k6 x
  clear hb0 k0 k1 k2 k3 k4 k5 k6
  simp only [zbb]
  repeat (go_big_quiet_step (fail))
  refine wpQuiet_nil ?_
  rfl
 case ht =>
  change zbh _ _ _ _ _ 7 _ _ _
  have HW9 : Hid (Reads w9 1 ws.length (.slice ia nw ic) (intC ws)) := zhd (by rw [NW.out]; exact HR.out.below HB7.out)
  have HL9 : Hid (Reads w9 3 lines.length (.slice la nl lc) (zaT lnC lines)) := zhd (HL'.out.below HB7.out)
  have hbyw : ws.length * 8 ≤ 140737488355328 := by rw [← NW.out]; omega
  have hbyl : lines.length * 24 ≤ 140737488355328 := by rw [← NL.out]; omega
  have hWB : w.heap.size ≤ w9.heap.size := HB7.out.size
  refine zhe zfe newCo [true, true, false, true, false, true, false, true, true, false, false, false, false] _ (fun a0 fl a w' => ∃ u56 u58 u60 u63 u64 u14, a = ((((((a0.put (some 56) u56).put (some 58) u58).put (some 60) u60).put (some 63) u63).put (some 64) u64).put (some 14) u14) ∧ NewI w9 w.heap.size H ws lines (.slice x1 n1 y1) (.slice x2 n2 y2) (.slice x3 n3 y3) fl u56 u58 u60 u63 u64 u14 w') (by kernel_rfl) (by kernel_rfl) (by kernel_rfl) (zak (Below.refl _ _)) ?s ?i ?e ?t
  case s =>
   refine ⟨undef, undef, undef, undef, undef, undef, by simp only [Act.put, List.setIfInBounds_toArray, List.set_cons_succ, List.set_cons_zero], ⟨zak (Below.refl _ _), ?_, ?_, ?_, ?_, ?_, ?_⟩⟩
   all_goals exact fun h => absurd h (by decide)
  case i =>
   rintro fl a w7 w8 ⟨u56, u58, u60, u63, u64, u14, e, hI⟩ hu
   exact ⟨u56, u58, u60, u63, u64, u14, e, hI.up hu⟩
  case t =>
   rintro fl a w7 i hm ⟨u56, u58, u60, u63, u64, u14, rfl, hI⟩ hc hco hf
   have hI' := zhd hI
   have HWc := zhd (HW9.out.below hI.bel); have HLc := zhd (HL9.out.below hI.bel)
   have hsz : w.heap.size ≤ w7.heap.size := Nat.le_trans hWB hI.bel.size
   clear hI
   unfold newCo at hco
   simp only [Bool.or_eq_true, Bool.and_eq_true, beq_iff_eq] at hco
   rcases hco with (((((rfl | rfl) | rfl) | ⟨rfl, h2⟩) | ⟨rfl, h2, h4, h6, h9⟩) | rfl) | ⟨rfl, h2, h4, h6, h9, h10, h11⟩
   · refine zaP (i := 2) rfl ?_
     simp only [Act.put, List.setIfInBounds_toArray, List.set_cons_succ, List.set_cons_zero]
     go_wp2_with (go_at_call 33; ((with_reducible refine (zbi _ _ _ _ HWc.out hbyw).mono ?_); rintro e w8 ⟨v8, rfl, ho8, hb8⟩; have HO8 := zhd ho8; have HB8 := zhd hb8; clear ho8 hb8))
     exact ⟨zae hc HB8.out, v8, u58, u60, u63, u64, u14, rfl, hI'.out.put2 hm hf (za0 HO8.out hsz) HB8.out⟩
   · refine zaP (i := 4) rfl ?_
     simp only [Act.put, List.setIfInBounds_toArray, List.set_cons_succ, List.set_cons_zero]
     obtain ⟨w8, hmk, ho8, hg8⟩ := run_make_full (P := Tryz.prog) w7 w.heap.size 30 56 i0 (.agg zA) 39 Tryz.underlying30 hi0 hz00 hz01 .i64 .i64 H (by rw [hz02]; omega) (by unfold maxLen; omega) hsz
     rw [show (Value.agg zA).cells = zA from rfl, zlS] at ho8
     have HO8 := zhd ho8; have HB8 := zhd (zfu hg8)
     clear ho8 hg8
     go_wp2_with fail
     exact ⟨zae hc HB8.out, u56, _, u60, u63, u64, u14, rfl, hI'.out.put4 hm hf HO8.out HB8.out⟩
   · refine zaP (i := 6) rfl ?_
     simp only [Act.put, List.setIfInBounds_toArray, List.set_cons_succ, List.set_cons_zero]
     obtain ⟨w8, hmk, ho8, hg8⟩ := run_make_full (P := Tryz.prog) w7 w.heap.size 24 3 i1 (.int .i64 0) 1 Tryz.underlying24 hi1 hz10 hz11 .i64 .i64 H (by rw [hz12]; omega) (by unfold maxLen; omega) hsz
     rw [show (Value.int .i64 0 : Value).cells = #[Value.int .i64 0] from rfl, zlR] at ho8
     have HO8 := zhd ho8; have HB8 := zhd (zfu hg8)
     clear ho8 hg8
     go_wp2_with fail
     exact ⟨zae hc HB8.out, u56, u58, _, u63, u64, u14, rfl, hI'.out.put6 hm hf HO8.out HB8.out⟩
   · refine zaP (i := 9) rfl ?_
     simp only [Act.put, List.setIfInBounds_toArray, List.set_cons_succ, List.set_cons_zero]
     go_wp2_with (go_at_call 34; ((with_reducible refine (zeS _ _ _ _ HLc.out hbyl).mono ?_); rintro e w8 ⟨v8, rfl, ho8, hb8⟩; have HO8 := zhd ho8; have HB8 := zhd hb8; clear ho8 hb8))
     exact ⟨zae hc HB8.out, u56, u58, u60, v8, u64, u14, rfl, hI'.out.put9 hm hf (za0 HO8.out hsz) HB8.out⟩
   · refine zaP (i := 10) rfl ?_
     obtain ⟨_, _, rfl⟩ := zai (hI'.out.f2 h2)
     obtain ⟨_, _, rfl⟩ := zai (hI'.out.f4 h4)
     obtain ⟨_, _, rfl⟩ := zai (hI'.out.f6 h6)
     obtain ⟨_, _, rfl⟩ := zai (hI'.out.f9 h9)
     simp only [Act.put, List.setIfInBounds_toArray, List.set_cons_succ, List.set_cons_zero]
     go_wp2_with fail
     exact ⟨hc, _, _, _, _, _, u14, rfl, hI'.out.put10⟩
   · refine zaP (i := 11) rfl ?_
     simp only [Act.put, List.setIfInBounds_toArray, List.set_cons_succ, List.set_cons_zero]
     go_wp2_with fail
     exact ⟨zae hc (zan _ _), u56, u58, u60, u63, u64, _, rfl, hI'.out.put11 hm hf hWB⟩
   · refine zaP (i := 12) rfl ?_
     have e64 := hI'.out.f10 h10
     obtain ⟨b, e14, hb1, hb2, hx⟩ := hI'.out.f11 h11
     have d12 := zcQ hf
     rw [d12, if_neg (by decide)] at hx
     have HX := zhd hx
     have HI2 := zhd (hI'.out.put12 hm hx e14 hb1 hb2)
     obtain ⟨_, _, rfl⟩ := zai (hI'.out.f2 h2)
     obtain ⟨_, _, rfl⟩ := zai (hI'.out.f4 h4)
     obtain ⟨_, _, rfl⟩ := zai (hI'.out.f6 h6)
     obtain ⟨_, _, rfl⟩ := zai (hI'.out.f9 h9)
     subst e64 e14
     clear hx hI'
     simp only [Act.put, List.setIfInBounds_toArray, List.set_cons_succ, List.set_cons_zero]
     go_wp2_with (refine wpList_store_row rfl 37 _ _ rfl b _ rfl rfl 37 nil9 HX.out zeB rfl (by simp [Value.oneCell']) ?_)
     exact ⟨below_setRow hc hb2 _, _, _, _, _, _, _, rfl, HI2.out⟩
  case e =>
   rintro fl a w7 ha hm ⟨u56, u58, u60, u63, u64, u14, rfl, hI⟩ hc
   have hlen := zlI fl hm
   have T := fun (i : Nat) (hi : i < 13) => zhf ha (i := i) (by omega)
   have e64 := hI.f10 (T 10 (by decide))
   obtain ⟨b, e14, hb1, hb2, hx⟩ := hI.f11 (T 11 (by decide))
   rw [if_pos (T 12 (by decide))] at hx
   have o2 := hI.f2 (T 2 (by decide)); have o4 := hI.f4 (T 4 (by decide)); have o6 := hI.f6 (T 6 (by decide)); have o9 := hI.f9 (T 9 (by decide))
   obtain ⟨a56, c56, rfl⟩ := zai o2
   obtain ⟨a58, c58, rfl⟩ := zai o4
   obtain ⟨a60, c60, rfl⟩ := zai o6
   obtain ⟨a63, c63, rfl⟩ := zai o9
   subst e64 e14
   have HP : Hid (NewMid w7 w.heap.size b (.slice a56 ws.length c56) (.slice a58 H c58) (.slice a60 H c60) (.slice x1 n1 y1) (.slice x2 n2 y2) (.slice x3 n3 y3) (.slice none 0 0) (.slice a63 lines.length c63) [] ⟨ws, List.replicate H zHt, List.replicate H 0, zct H mem, [], lines, []⟩) := zhd ⟨hx, hb1, ⟨o2, by simpa using o4, by simpa using o6, HM7.out.below hI.bel, World.ownsRow_nil _ _ _ _, ⟨rfl, fun i q s h => by simp at h⟩, o9, World.ownsRow_nil _ _ _ _⟩, fun s hs => by cases hs⟩
   have HZ8 := zhd (zaf hI.bel HZ7.out); have HB8 := zhd (zae HB7.out hI.bel)
   have hbne : b ≠ w.heap.size + 2 := by rintro rfl; have := zao HZ7.out; omega
   clear hI hx o2 o4 o6 o9 T ha hm hlen hc hb1 hb2 HM7 HX7 HY7 HZ7 HC7 HB7 HR HI HW9 HL9 hi0 hz00 hz01 hz02 hi1 hz10 hz11 hz12
   simp only [Act.put, List.setIfInBounds_toArray, List.set_cons_succ, List.set_cons_zero]
   go_wp2_with fail
   go_loopw [67] (fun j wr => ∃ (k : Nat) (da : Option Addr) (dc : Nat) (qs : List Value), k ≤ nk ∧ j = .int .i64 k ∧ NewMid wr w.heap.size b (.slice a56 ws.length c56) (.slice a58 H c58) (.slice a60 H c60) (.slice x1 n1 y1) (.slice x2 n2 y2) (.slice x3 n3 y3) (.slice da k dc) (.slice a63 lines.length c63) qs ⟨ws, List.replicate H zHt, List.replicate H 0, zct H mem, (kinds.take k).map newS, lines, []⟩ ∧ wr.heap[w.heap.size + 2]? = some (.cells nil9 37 (0, 0)) ∧ Below w.heap.size w wr) (fun j _ => nk - (intOf j).toNat)
   case atStart => exact ⟨0, none, 0, [], Nat.zero_le _, rfl, HP.out, HZ8.out, HB8.out⟩
   case round =>
    obtain ⟨k, da, dc, qs, hk, rfl, hp, hz, hb⟩ := hrel
    have HM := zhd hp; have HZ := zhd hz; have HB := zhd hb
    clear hp hz hb HP HZ8 HB8
    by_cases hlt : k < nk
    · have hkl : k < kinds.length := by rw [← NK.out]; exact hlt
      obtain ⟨kb, ko, kc0, hkv, hklt, hkc, hkm, hkcell⟩ := HK'.out.some (by omega)
      injection hkv with e1 e1n e2
      subst e1 e2
      clear e1n
      have p0 : wr.cell? ⟨kb, ko + k, none⟩ = some (.int .i64 kinds[k]) := (HB.out.cell (p := ⟨kb, ko + k, none⟩) hklt).trans (hkcell k _ (by simp [intC, hkl]))
      have hx13 : 1 ≤ kinds[k] ∧ kinds[k] ≤ 3 := by
       have := List.any_eq_false.1 HKA.out kinds[k] (List.getElem_mem _)
       simpa [badK] using this
      have HTK := zhd (List.take_succ_eq_append_getElem hkl)
      generalize kinds[k] = x at *
      clear hkcell hkl
      go_upto_region 10 with (fail)
      obtain ⟨_, _, _, _, _, _, k6, _, _⟩ := zam HM.out.at_
      have hlb := zao HM.out.at_
      refine zaL (fun w' => b < w'.heap.size ∧ w'.cell? ⟨b, 6, none⟩ = some (.slice da k dc)) 6 [true, true, true] (by kernel_rfl) (by kernel_rfl) (by kernel_rfl) (fun a b' h hu => ⟨Nat.lt_of_lt_of_le h.1 hu.size, by rw [hu.cell (p := ⟨b, 6, none⟩) h.1]; exact h.2⟩) ⟨hlb, k6⟩ ?a3 ?h3 ?ht3
      case h3 =>
       intro w0 ⟨hl0, q6⟩
       have z6 := fun x => zal hl0 q6 x
       clear q6
       simp only [zbb]
       repeat (go_big_quiet_step (fail))
       refine wpQuiet_nil ?_
       rfl
      case ht3 =>

       change zbO _ _ _ _ _ _ 3 _ _ _
       refine zaz (i := 3) (by kernel_rfl) (by decide) rfl ?_
       intro wa hua' ⟨hla, kpa⟩
       have hua : Below wr.heap.size wr wa := (by repeat (first | (with_reducible first | exact Below.refl _ _ | refine zaj ?_ ?_ _ | apply zag | refine zae ?_ (by assumption) | apply zak) | omega))
       have HMa := zhd (HM.out.below hua); have HZa := zhd (zaf hua HZ.out); have HBa := zhd (zae HB.out hua)
       clear hua hua'
       go_wp2_with (go_at_call 27; ((with_reducible refine (zjr x _ hx13).mono ?_); rintro e wb ⟨vs, rfl, hst, hbb⟩; have HBB := zhd hbb; obtain ⟨q, hvs, hrq, _⟩ := hst; subst hvs; obtain ⟨qx, qy, rfl⟩ := hrq.shape; have HRQ := zhd hrq; clear hbb hrq))
       unfold stC
       refine ⟨⟨Nat.lt_of_lt_of_le hla HBB.out.size, (HBB.out.cell (p := ⟨b, 6, none⟩) hla).trans kpa⟩, ?_⟩
       refine zaz (i := 4) (by kernel_rfl) (by decide) rfl ?_
       intro wc huc ⟨hlc, kpc⟩
       have HMc := zhd (HMa.out.below (zae HBB.out huc)); have HZc := zhd (zaf (zae HBB.out huc) HZa.out); have HBc := zhd (zae HBa.out (zae HBB.out huc)); have HRc := zhd (HRQ.out.below huc)
       clear huc HBB HMa HZa HBa HRQ kpa hla
       go_wp2_with fail
       refine ⟨⟨Nat.lt_of_lt_of_le hlc (zan wc _).size, ((zan wc _).cell (p := ⟨b, 6, none⟩) hlc).trans kpc⟩, ?_⟩
       refine zaz (i := 5) (by kernel_rfl) (by decide) rfl ?_
       intro wd hud ⟨hld, kpd⟩
       have hud' := zae (zan wc (.cells (sC (newS x, .slice qx (newS x).q.length qy)).toArray 75)) hud
       have HMd := zhd (HMc.out.below hud'); have HZd := zhd (zaf hud' HZc.out); have HBd := zhd (zae HBc.out hud'); have HRd := zhd (HRc.out.below hud')
       have hnew : wd.heap[wc.heap.size]? = some (.cells (sC (newS x, .slice qx (newS x).q.length qy)).toArray 75 (0, 0)) := zaf hud (zat wc _)
       have HC : Hid (∀ j u, (sC (newS x, .slice qx (newS x).q.length qy))[j]? = some u → wd.cell? ((⟨wc.heap.size, 0, none⟩ : Addr).add j) = some u) := zhd (fun j u hj => by
        rw [zaQ, Nat.zero_add]
        exact zad hnew (by simpa using hj))
       have hkT : ((kinds.take k).map newS).length = k := by simp; rw [← NK.out]; omega
       have HDV : Hid (wd.ownsRow w.heap.size 75 8 (.slice da k dc) k (zaT sC (((kinds.take k).map newS).zip qs))) := zhd (by have := HMd.out.parts.devs; rwa [hkT] at this)
       have hob := zar HDV.out HMd.out.at_ (by decide)
       have hby : (k + 1) * 80 ≤ 140737488355328 := by omega
       have hmx : k + 1 ≤ maxLen := by unfold maxLen; omega
       have hsz : w.heap.size ≤ wd.heap.size := HBd.out.size
       have ho1 : ∀ u ∈ sC (newS x, Value.slice qx (newS x).q.length qy), u.oneCell' = true := by simp [sC, stC, Value.oneCell']
       obtain ⟨is, his, hs0, hs1, hs2⟩ := info_parts zfW
       clear hud hud' hnew HMc HZc HBc HRc kpc hlc
       refine wpList_append_own _ rfl _ _ 34 rfl w.heap.size 75 is (.agg #[.int .i64 0, .int .i64 0, .int .i64 0, .int .i64 0, .int .i64 0, .slice none 0 0, .int .i64 0, .bool false]) 8 80 Tryz.underlying34 his hs0 hs1 hs2 rfl (by decide) _ _ _ rfl HDV.out ⟨wc.heap.size, 0, none⟩ 1 1 (sC (newS x, .slice qx (newS x).q.length qy)) rfl rfl HC.out ho1 hmx hby hsz ?_
       intro v' we hown hgrow _
       obtain ⟨xt, yt, rfl⟩ := zai hown
       have HOWN := zhd hown; have HGR := zhd hgrow
       have hp6 : we.cell? ⟨b, 6, none⟩ = some (.slice da k dc) := by
        simp only [World.cell?] at kpd ⊢
        rw [hgrow.block b hld (fun e => hob e.symm)]; exact kpd
       have HPe := zhd ((hgrow.block b hld (fun e => hob e.symm)).trans HMd.out.at_)
       have hz2 := zar HDV.out HZd.out (by decide)
       have HZe := zhd ((hgrow.block (w.heap.size + 2) (zao HZd.out) (fun e => hz2 e.symm)).trans HZd.out)
       have HBe : Hid (Below w.heap.size w we) := zhd (HBd.out.grown hgrow hsz (fun g' e => (HDV.out.lt g' e).1))
       have HCe := zhd (And.intro (Nat.lt_of_lt_of_le hld hgrow.size) hp6)
       clear hown hgrow hp6 kpd hz2 hob
       go_wp2_with fail
       refine ⟨HCe.out, ?_⟩
       refine zaO (by kernel_rfl) ?_
       intro wf hue _
       have HMf := zhd (HMd.out.dev (w' := wf) (dv' := .slice xt (k + 1) yt) (q := .slice qx (newS x).q.length qy) (s := newS x) (zdv HGR.out HGR.out.size hue) rfl (by
        rw [hkT]; exact zab HOWN.out hue) HRd.out)
       have hpe := zaf hue HPe.out
       have k6e := zad hpe (j := 6) rfl
       have f6e := zaa hpe 6
       have HZf := zhd (zaf hue HZe.out); have HBf := zhd (zae HBe.out hue)
       clear hue hpe
       try simp only [List.drop_succ_cons, List.drop_zero]
       go_wp2_with fail
       go_roundw
       case rel => exact ⟨k + 1, _, _, _, by omega, by go_num, by rw [HTK.out, List.map_append]; exact HMf.out, (zaD (by omega)).trans HZf.out, zaj HBf.out HM.out.base _⟩
       case measure => simp [intOf]; omega
    · have hkn : k = nk := by omega
      subst hkn
      have HTL : Hid (kinds.take k = kinds) := zhd (by rw [NK.out, List.take_length])
      have HM2 : Hid (NewMid wr w.heap.size b (.slice a56 ws.length c56) (.slice a58 H c58) (.slice a60 H c60) (.slice x1 n1 y1) (.slice x2 n2 y2) (.slice x3 n3 y3) (.slice da k dc) (.slice a63 nl c63) qs ⟨ws, List.replicate H zHt, List.replicate H 0, zct H mem, kinds.map newS, lines, []⟩) := zhd (by have := HM.out; rw [HTL.out, ← NL.out] at this; exact this)
      obtain ⟨_, _, _, _, _, _, _, k7, _⟩ := zam HM2.out.at_
      have hlb := zao HM2.out.at_
      obtain ⟨M2, hM2⟩ : ∃ v, v = wr := ⟨_, rfl⟩
      rw [← hM2] at HM2 HZ HB k7 hlb ⊢
      clear HM HTL hM2
      go_wp2_with fail
      clear k7
      go_loopw [82] (fun i wr => ∃ j : Nat, j ≤ nl ∧ i = .int .i64 j ∧ NewMid wr w.heap.size b (.slice a56 ws.length c56) (.slice a58 H c58) (.slice a60 H c60) (.slice x1 n1 y1) (.slice x2 n2 y2) (.slice x3 n3 y3) (.slice da k dc) (.slice a63 nl c63) qs ⟨ws, List.replicate H zHt, List.replicate H 0, zct H mem, kinds.map newS, (lines.take j).map letL ++ lines.drop j, []⟩ ∧ wr.heap[w.heap.size + 2]? = some (.cells nil9 37 (0, 0)) ∧ Below w.heap.size w wr) (fun i _ => nl - (intOf i).toNat)
      case atStart => exact ⟨0, Nat.zero_le _, rfl, HM2.out, HZ.out, HB.out⟩
      case round =>
       obtain ⟨j, hj, rfl, hp, hz, hb⟩ := hrel
       have HM3 := zhd hp; have HZ3 := zhd hz; have HB3 := zhd hb
       clear hp hz hb HM2 HZ HB hlb
       by_cases hjl : j < nl
       · have hll : ((lines.take j).map letL ++ lines.drop j).length = nl := by simp; rw [← NL.out]; omega
         have HJ : Hid (j < lines.length) := zhd (by rw [← NL.out]; exact hjl)
         obtain ⟨g, gc, cur, hgv, hgx, hgB⟩ := zcb HM3.out.parts.lines (by rw [hll]; omega)
         injection hgv with e1 e2 e3
         subst e1 e3
         clear e2
         have hlv := HM3.out.line rfl (i := j) (by rw [hll]; exact hjl)
         have HS := zhd (zj6 lines j HJ.out (by rw [hll]; exact hjl))
         have HLV : Hid (NewMid (wr.setCell ⟨g, j * 3 + 2, none⟩ (.bool false)) w.heap.size b (.slice a56 ws.length c56) (.slice a58 H c58) (.slice a60 H c60) (.slice x1 n1 y1) (.slice x2 n2 y2) (.slice x3 n3 y3) (.slice da k dc) (.slice (some ⟨g, 0, none⟩) nl c63) qs ⟨ws, List.replicate H zHt, List.replicate H 0, zct H mem, kinds.map newS, (lines.take (j + 1)).map letL ++ lines.drop (j + 1), []⟩) := zhd (by simp only at hlv; rw [HS.out] at hlv; exact hlv)
         obtain ⟨_, _, _, _, _, _, _, k7, _⟩ := zam HM3.out.at_
         have hlb := zao HM3.out.at_
         have hcell : ∃ u, wr.cell? ⟨g, j * 3 + 2, none⟩ = some u := by
          have := HM3.out.parts.lines
          simp only at this
          rw [hll] at this
          have h0 : j * 3 + 2 < nl * 3 := by omega
          exact ⟨_, (this.cellAt (j * 3 + 2) h0).trans (List.getElem?_eq_getElem (by rw [this.1]; exact h0))⟩
         obtain ⟨u, hcell⟩ := hcell
         have hfz := zaa hgx (j * 3 + 2)
         have hgne : w.heap.size + 2 ≠ g := by
          intro e
          have h1 := HZ3.out
          rw [e, hgx] at h1
          injection h1 with h1; injection h1 with _ h1; exact absurd h1 (by decide)
         have HZ4 : Hid ((wr.setCell ⟨g, j * 3 + 2, none⟩ (.bool false)).heap[w.heap.size + 2]? = some (.cells nil9 37 (0, 0))) := zhd ((zaD hgne).trans HZ3.out)
         clear hlv HS hgx hll
         go_wp2_with fail
         go_roundw
         case rel => exact ⟨j + 1, by omega, by go_num, HLV.out, HZ4.out, zaj HB3.out hgB _⟩
         case measure => simp [intOf]; omega
       · have hjn : j = nl := by omega
         subst hjn
         have HM4 : Hid (NewMid wr w.heap.size b (.slice a56 ws.length c56) (.slice a58 H c58) (.slice a60 H c60) (.slice x1 n1 y1) (.slice x2 n2 y2) (.slice x3 n3 y3) (.slice da k dc) (.slice a63 j c63) qs (zdS H ws mem kinds lines)) := zhd (by
          have := HM3.out
          rw [NL.out, List.take_length, List.drop_length, List.append_nil, ← NL.out] at this
          exact this)
         have HA := zhd HM4.out.at_
         have HI4 := zhd (HM4.out.isMac.row9 (cs' := #[.slice a56 ws.length c56, .slice a58 H c58, .slice a60 H c60, .slice x1 n1 y1, .slice x2 n2 y2, .slice x3 n3 y3, .slice da k dc, .slice a63 j c63, .slice none 0 0]) HZ3.out (fun i v h => ⟨none, 0, 0, zim h⟩))
         have HZ9 : Hid ((wr.setRow (w.heap.size + 2) #[.slice a56 ws.length c56, .slice a58 H c58, .slice a60 H c60, .slice x1 n1 y1, .slice x2 n2 y2, .slice x3 n3 y3, .slice da k dc, .slice a63 j c63, .slice none 0 0]).heap[w.heap.size + 2]? = some (.cells #[.slice a56 ws.length c56, .slice a58 H c58, .slice a60 H c60, .slice x1 n1 y1, .slice x2 n2 y2, .slice x3 n3 y3, .slice da k dc, .slice a63 j c63, .slice none 0 0] 37 (0, 0))) := zhd (setRow_heap _ _ _ _ _ _ HZ3.out)
         obtain ⟨r0, r1, r2, r3, r4, r5, r6, r7, r8⟩ := zam HZ9.out
         have R0 := zhd r0; have R1 := zhd r1; have R2 := zhd r2; have R3 := zhd r3; have R4 := zhd r4; have R5 := zhd r5; have R6 := zhd r6; have R7 := zhd r7; have R8 := zhd r8
         clear r0 r1 r2 r3 r4 r5 r6 r7 r8 HZ9 HM3
         go_wp2_with (first | (refine wpList_load_row rfl 37 _ rfl b rfl 37 #[.slice a56 ws.length c56, .slice a58 H c58, .slice a60 H c60, .slice x1 n1 y1, .slice x2 n2 y2, .slice x3 n3 y3, .slice da k dc, .slice a63 j c63, .slice none 0 0] (0, 0) _ HA.out Tryz.underlying37 rfl zeB ?_) | (refine wpList_store_row rfl 37 _ _ rfl (w.heap.size + 2) #[.slice a56 ws.length c56, .slice a58 H c58, .slice a60 H c60, .slice x1 n1 y1, .slice x2 n2 y2, .slice x3 n3 y3, .slice da k dc, .slice a63 j c63, .slice none 0 0] rfl rfl 37 nil9 HZ3.out zeB rfl (by simp [Value.oneCell']) ?_))
         exact bodyPost_ret (v := .tuple #[.agg #[.slice a56 ws.length c56, .slice a58 H c58, .slice a60 H c60, .slice x1 n1 y1, .slice x2 n2 y2, .slice x3 n3 y3, .slice da k dc, .slice a63 j c63, .slice none 0 0], .int .i64 0]) (by simp [results, Tryz.results11, go_sem, R0.out, R1.out, R2.out, R3.out, R4.out, R5.out, R6.out, R7.out, R8.out]) rfl ⟨_, rfl, HI4.out, below_setRow HB3.out (by omega) _⟩
end
end Go.Proofs.YtdobddiibgfeaaaGreat
