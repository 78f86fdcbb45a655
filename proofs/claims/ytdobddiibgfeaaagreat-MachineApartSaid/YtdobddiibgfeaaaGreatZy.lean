/-
  What the walks of this statement lean on (MacStart, MacVar, MacAwake, MacPair): shown.
-/
import Derived.Test.YtdobddiibgfeaaaGreatZx
import Derived.Test.YtdobddiibgfeaaaGreatZw
import Derived.Test.YtdobddiibgfeaaaGreatZu
import Derived.Test.YtdobddiibgfeaaaGreatZv
import Derived.Test.YtdobddiibgfeaaaGreatZa
set_option linter.unusedVariables false
set_option linter.unusedSimpArgs false
namespace Go.Proofs.YtdobddiibgfeaaaGreat
section
open Go.RowKit
set_option maxRecDepth 100000
def ze3 (Q : Int) (i : Nat) : Int := 1 + (Q + i).tmod 3
def zey (Q n : Int) (i : Nat) : Ln := ⟨(Q + i).tmod n, 1 + (Q + 2 * i).tmod 7, false⟩
def zdf (k : Int) : List Int := (List.range (zax k 4).toNat).map (ze3 ((zax k 100).tdiv 4))
def zde (n l : Int) : List Ln := (List.range (zax l 4).toNat).map (zey ((zax l 100).tdiv 4) n)
def zc3 (h : Int) : Nat := (1 + zax h 4).toNat
def zhn (raw : List (Int × Int × Int × Int)) (h k l : Int) : Mac := zdS (zc3 h) (zgk raw) 4 (zdf k) (zde (zc3 h) l)
theorem zgv (h : Int) : 1 ≤ zc3 h ∧ zc3 h ≤ 4 := by
 have := za5 h 4 (by omega)
 unfold zc3; omega
theorem ziA (h : Int) : ((zc3 h : Nat) : Int) = 1 + zax h 4 := by
 have := za5 h 4 (by omega)
 unfold zc3; omega
theorem zd4 (c : Int) : 0 ≤ (zax c 100).tdiv 4 ∧ (zax c 100).tdiv 4 < 25 := by
 have := za5 c 100 (by omega)
 rw [Int.tdiv_eq_ediv_of_nonneg this.1]
 omega
theorem zhJ {Q : Int} (hQ : 0 ≤ Q) (i : Nat) : 1 ≤ ze3 Q i ∧ ze3 Q i ≤ 3 := by
 unfold ze3
 rw [Int.tmod_eq_emod_of_nonneg (by omega)]
 omega
theorem zhH {Q : Int} (hQ : 0 ≤ Q) {n : Int} (hn : 0 < n) (i : Nat) : (0 ≤ (zey Q n i).h ∧ (zey Q n i).h < n) ∧ 1 ≤ (zey Q n i).p ∧ (zey Q n i).p ≤ 7 := by
 unfold zey
 simp only
 rw [Int.tmod_eq_emod_of_nonneg (by omega), Int.tmod_eq_emod_of_nonneg (by omega)]
 exact ⟨⟨Int.emod_nonneg _ (by omega), Int.emod_lt_of_pos _ hn⟩, by omega, by omega⟩
theorem zfU (k : Int) : (zdf k).length ≤ 3 := by
 have := za5 k 4 (by omega)
 simp [zdf]; omega
theorem zfS (n l : Int) : (zde n l).length ≤ 3 := by
 have := za5 l 4 (by omega)
 simp [zde]; omega
theorem zgs (k : Int) : (zdf k).any badK = false := by
 rw [List.any_eq_false]
 intro x hx
 obtain ⟨i, _, rfl⟩ := List.mem_map.1 hx
 have := zhJ (zd4 k).1 i
 simp [badK, this]
theorem zj7 (n : Nat) (hn : 0 < n) (l : Int) : (zde n l).any (oddL n) = false := by
 rw [List.any_eq_false]
 intro x hx
 obtain ⟨i, _, rfl⟩ := List.mem_map.1 hx
 have := zhH (zd4 l).1 (n := (n : Int)) (by omega) i
 simp [oddL]; omega
theorem zmM (raw : List (Int × Int × Int × Int)) : (zgk raw).length ≤ 36 := by
 have := zjE (zkE raw)
 have h2 : (zkE raw).length = (zdU raw).length + 1 := by simp [zkE]
 have := zfR raw
 unfold zgk; omega
theorem zfZ {n : Nat} {ws : List Int} {mem : Nat} {ks : List Int} {ls : List Ln} (hn : 1 ≤ n ∧ n ≤ 4) (hw : ws.length ≤ 65536) (hb : ∀ z ∈ ws, 0 ≤ z ∧ z < 4294967296) (hm : mem ≤ 4096) (hk : ks.length ≤ 8) (hl : ls.length ≤ 8) (hka : ks.any badK = false) : GoodM (zdS n ws mem ks ls) n 0 where
 words := by show ws.length ≤ _; omega
 word := fun z hz => by have := hb z hz; unfold I64; omega
 few := hn
 harts := by simp [zdS]
 regs := fun h hh => by obtain ⟨_, rfl⟩ := List.mem_replicate.1 hh; exact zlD.1
 pcs := fun h hh => by obtain ⟨_, rfl⟩ := List.mem_replicate.1 hh; exact zlD.2
 ends := by simp [zdS]
 mem := ⟨mem, by omega, good_new n mem⟩
 devs := by simpa [zdS] using hk
 dev := fun s hs => by
  obtain ⟨k, hk, rfl⟩ := List.mem_map.1 hs
  refine inv_new k ?_
  have := List.any_eq_false.1 hka k hk
  simpa [badK] using this
 lines := by simpa [zdS] using hl
 trace := by simp [zdS]
theorem zkm (raw : List (Int × Int × Int × Int)) (h k l : Int) : GoodM (zhn raw h k l) (zc3 h) 0 :=
 zfZ (zgv h) (by have := zmM raw; omega) (zhl _) (by decide) (by have := zfU k; omega) (by have := zfS (zc3 h) l; omega) (zgs k)
theorem infoLn : (Tryz.prog.info? 64).map (fun i => (i.zero, i.size, i.bytes)) = some (some (.agg #[.int .i64 0, .int .i64 0, .bool false]), 3, 24) := by kernel_rfl
theorem zjd {α : Type} (f : Nat → α) (j : Nat) : (List.range (j + 1)).map f = (List.range j).map f ++ [f j] := by rw [List.range_succ, List.map_append]; rfl
set_option maxHeartbeats 16000000 in
theorem zk3 (v : Value) (raw : List (Int × Int × Int × Int)) (hh kk ll : Int) (w : World) (hs : ArgS 4 c4 w v raw) (hok : ∀ r ∈ raw, ok4 r) (ih : I64 hh) (ik : I64 kk) (il : I64 ll) :
 Calls Tryz.prog 15 #[v, .int .i64 hh, .int .i64 kk, .int .i64 ll] w fun e w' => ∃ v', e = .returned v' ∧ IsMac w' v' (zhn raw hh kk ll) ∧ Below w.heap.size w w' := by
 obtain ⟨sa, sc, rfl, hs1, hs2, hs3⟩ := hs
 have HS : Hid (ArgS 4 c4 w (.slice sa raw.length sc) raw) := zhd ⟨sa, sc, rfl, hs1, hs2, hs3⟩
 have HOK := zhd hok
 obtain ⟨len, hlen⟩ : ∃ n, n = raw.length := ⟨_, rfl⟩
 have HLN := zhd hlen
 rw [← hlen]
 clear hs3 hs1 hs2 hok hlen
 have bH := za5 hh 4 (by omega)
 obtain ⟨n, hn⟩ : ∃ m : Nat, m = zc3 hh := ⟨_, rfl⟩
 have hnb : 1 ≤ n ∧ n ≤ 4 := by rw [hn]; exact zgv hh
 have hni : 1 + zax hh 4 = (n : Int) := by rw [hn]; exact (ziA hh).symm
 have HSM : Hid (zhn raw hh kk ll = zdS n (zgk raw) 4 (zdf kk) (zde n ll)) := zhd (by rw [hn]; rfl)
 clear hn
 obtain ⟨PH, hPH⟩ : ∃ v, zax hh 4 = v := ⟨_, rfl⟩
 rw [hPH] at hni
 have HPH := zhd hPH
 clear hPH
 have e1 : IntKind.i64.wrap (1 + PH) = (n : Int) := by rw [hni]; exact IntWalk.i64_in _ (by omega)
 have bK := za5 kk 4 (by omega); have bL := za5 ll 4 (by omega)
 obtain ⟨nk, hnk⟩ : ∃ m : Nat, zax kk 4 = m := ⟨(zax kk 4).toNat, by omega⟩
 obtain ⟨nl, hnl⟩ : ∃ m : Nat, zax ll 4 = m := ⟨(zax ll 4).toNat, by omega⟩
 have qK := zd4 kk; have qL := zd4 ll
 have p1K := za5 kk 100 (by omega); have p1L := za5 ll 100 (by omega)
 have HKO : Hid (zdf kk = (List.range nk).map (ze3 ((zax kk 100).tdiv 4))) := zhd (by unfold zdf; rw [hnk]; rfl)
 have HLO : Hid (zde n ll = (List.range nl).map (zey ((zax ll 100).tdiv 4) n)) := zhd (by unfold zde; rw [hnl]; rfl)
 rw [hnk] at bK; rw [hnl] at bL
 have HNK := zhd hnk; have HNL := zhd hnl
 obtain ⟨K1, hK1⟩ : ∃ v, zax kk 100 = v := ⟨_, rfl⟩
 obtain ⟨L1, hL1⟩ : ∃ v, zax ll 100 = v := ⟨_, rfl⟩
 have HK1 := zhd hK1; have HL1 := zhd hL1
 rw [hK1] at qK p1K HKO; rw [hL1] at qL p1L HLO
 clear hnk hnl hK1 hL1
 have e2 : IntKind.i64.wrap (K1.tdiv 4) = K1.tdiv 4 := IntWalk.i64_in _ (by omega)
 have e3 : IntKind.i64.wrap (L1.tdiv 4) = L1.tdiv 4 := IntWalk.i64_in _ (by omega)
 obtain ⟨QK, hQK⟩ : ∃ v, K1.tdiv 4 = v := ⟨_, rfl⟩
 obtain ⟨QL, hQL⟩ : ∃ v, L1.tdiv 4 = v := ⟨_, rfl⟩
 have dK : IntKind.i64.wrap (K1.tdiv 4) = QK := e2.trans hQK
 have dL : IntKind.i64.wrap (L1.tdiv 4) = QL := e3.trans hQL
 rw [hQK] at qK HKO; rw [hQL] at qL HLO
 clear e2 e3 hQK hQL
 obtain ⟨i1, hi1, hz10, hz11, hz12⟩ := info_parts zeA
 obtain ⟨i2, hi2, hz20, hz21, hz22⟩ := info_parts infoLn
 obtain ⟨w1, hw1, hx1, hb1, _⟩ := zbY w (.cells nil9 37)
 have HX1 := zhd hx1; have HB1 := zhd hb1
 clear hx1 hb1 p1K p1L bH
 go_enter Tryz.func15, Tryz.ntmps15
 go_upto_region 1 with (fail)
 rw [← hw1]; clear hw1
 go_wp2_with (go_at_call 23; ((with_reducible refine (zbK hh 4 PH _ ih (by omega) HPH).mono ?_); rintro e w' ⟨rfl, rfl⟩))
 go_loopw [10, 11] (fun kv i wr => ∃ (j : Nat) (ka : Option Addr) (kc : Nat), j ≤ nk ∧ i = .int .i64 j ∧ kv = .slice ka j kc ∧ wr.ownsRow w.heap.size 3 1 (.slice ka j kc) j (intC ((List.range j).map (ze3 QK))) ∧ wr.heap[w.heap.size]? = some (.cells nil9 37 (0, 0)) ∧ Below w.heap.size w wr) (fun _ i _ => nk - (intOf i).toNat)
 case atStart => exact ⟨0, none, 0, Nat.zero_le _, rfl, rfl, World.ownsRow_nil _ _ _ _, HX1.out, HB1.out⟩
 case round =>
  obtain ⟨j, ka, kc, hj, rfl, rfl, ho, hx, hb⟩ := hrel
  have HO := zhd ho; have HX := zhd hx; have HB := zhd hb
  clear ho hx hb HX1 HB1
  by_cases hjn : j < nk
  · have hk3 := zhJ qK.1 j
    have e4 : IntKind.i64.wrap (QK + j) = QK + j := IntWalk.i64_in _ (by omega)
    obtain ⟨R3, hR3⟩ : ∃ v, (QK + (j : Int)).tmod 3 = v := ⟨_, rfl⟩
    have HE : Hid (ze3 QK j = 1 + R3) := zhd (by rw [← hR3]; rfl)
    rw [HE.out] at hk3
    have e6 : IntKind.i64.wrap R3 = R3 := IntWalk.i64_in _ (by omega)
    have e7 : IntKind.i64.wrap (1 + R3) = 1 + R3 := IntWalk.i64_in _ (by omega)
    have HO2 := zhd (zab HO.out (zan wr (.cells #[.int .i64 (1 + R3)] 3)))
    have HX2 := zhd (zaf (zan wr (.cells #[.int .i64 (1 + R3)] 3)) HX.out)
    have HB2 := zhd (zae HB.out (zan wr (.cells #[.int .i64 (1 + R3)] 3)))
    have HC : Hid (∀ j u, (intC [1 + R3])[j]? = some u → (wr.alloc (.cells #[.int .i64 (1 + R3)] 3)).cell? ((⟨wr.heap.size, 0, none⟩ : Addr).add j) = some u) := zhd (fun j u hj => by
     rw [zaQ, Nat.zero_add]
     exact zad (zat wr _) (by simpa [intC] using hj))
    have hsz : w.heap.size ≤ (wr.alloc (.cells #[.int .i64 (1 + R3)] 3)).heap.size := HB2.out.size
    have hmx : j + 1 ≤ maxLen := by unfold maxLen; omega
    have hby : (j + 1) * 8 ≤ 140737488355328 := by omega
    have hob := zar HO2.out HX2.out (by decide)
    go_wp2_with (first | (go_at_call 23; first | ((with_reducible refine (zbK kk 4 nk _ ik (by omega) HNK).mono ?_); rintro e w' ⟨rfl, rfl⟩) | ((with_reducible refine (zbK kk 100 K1 _ ik (by omega) HK1).mono ?_); rintro e w' ⟨rfl, rfl⟩)) | (at_builtin; refine wpList_append_own _ rfl _ _ 24 rfl w.heap.size 3 i1 (.int .i64 0) 1 8 Tryz.underlying24 hi1 hz10 hz11 hz12 rfl (by decide) _ _ _ rfl HO2.out ⟨wr.heap.size, 0, none⟩ 1 1 (intC [1 + R3]) rfl rfl HC.out (by simp [intC, Value.oneCell']) hmx hby hsz ?_; intro v' w8 hown8 hgrow8 _; obtain ⟨xt, yt, rfl⟩ := zai hown8; have HO8 := zhd hown8; have HG8 := zhd hgrow8; clear hown8 hgrow8))
    go_roundw
    case rel => exact ⟨j + 1, xt, yt, by omega, by go_num, rfl, by rw [zjd, HE.out]; simpa [intC] using HO8.out, (HG8.out.block w.heap.size (zao HX2.out) (fun e => hob e.symm)).trans HX2.out, HB2.out.grown HG8.out hsz (fun g e => (HO2.out.lt g e).1)⟩
    case measure => simp [intOf]; omega
  · have hjk : j = nk := by omega
    subst hjk
    obtain ⟨w2, hw2⟩ : ∃ x, x = wr := ⟨_, rfl⟩
    rw [← hw2] at HO HX HB ⊢
    clear hw2
    go_wp2_with (go_at_call 23; ((with_reducible refine (zbK kk 4 j _ ik (by omega) HNK).mono ?_); rintro e w' ⟨rfl, rfl⟩))
    have hn0 : ((n : Int) == 0) = false := by simp; omega
    go_loopw [12, 13] (fun lv i wr => ∃ (m : Nat) (la : Option Addr) (lc : Nat), m ≤ nl ∧ i = .int .i64 m ∧ lv = .slice la m lc ∧ wr.ownsRow w.heap.size 64 3 (.slice la m lc) m (zaT lnC ((List.range m).map (zey QL n))) ∧ wr.ownsRow w.heap.size 3 1 (.slice ka j kc) j (intC ((List.range j).map (ze3 QK))) ∧ wr.heap[w.heap.size]? = some (.cells nil9 37 (0, 0)) ∧ Below w.heap.size w wr) (fun _ i _ => nl - (intOf i).toNat)
    case atStart => exact ⟨0, none, 0, Nat.zero_le _, rfl, rfl, World.ownsRow_nil _ _ _ _, HO.out, HX.out, HB.out⟩
    case round =>
     obtain ⟨m, la, lc, hm, rfl, rfl, hl, ho, hx, hb⟩ := hrel
     have HLW := zhd hl; have HOW := zhd ho; have HXW := zhd hx; have HBW := zhd hb
     clear hl ho hx hb HO HX HB
     by_cases hmn : m < nl
     · have hl7 := zhH qL.1 (n := (n : Int)) (by omega) m
       have e4 : IntKind.i64.wrap (QL + m) = QL + m := IntWalk.i64_in _ (by omega)
       have e4' : IntKind.i64.wrap (2 * (m : Int)) = 2 * (m : Int) := IntWalk.i64_in _ (by omega)
       have e4b : IntKind.i64.wrap (QL + 2 * (m : Int)) = QL + 2 * (m : Int) := IntWalk.i64_in _ (by omega)
       obtain ⟨R1, hR1⟩ : ∃ v, (QL + (m : Int)).tmod n = v := ⟨_, rfl⟩
       obtain ⟨R2, hR2⟩ : ∃ v, (QL + 2 * (m : Int)).tmod 7 = v := ⟨_, rfl⟩
       have HE : Hid (zey QL n m = ⟨R1, 1 + R2, false⟩) := zhd (by rw [← hR1, ← hR2]; rfl)
       rw [HE.out] at hl7
       simp only at hl7
       have e5 : IntKind.i64.wrap R1 = R1 := IntWalk.i64_in _ (by omega)
       have e6 : IntKind.i64.wrap R2 = R2 := IntWalk.i64_in _ (by omega)
       have e7 : IntKind.i64.wrap (1 + R2) = 1 + R2 := IntWalk.i64_in _ (by omega)
       obtain ⟨w3, hw3⟩ : ∃ x, x = wr := ⟨_, rfl⟩
       rw [← hw3] at HLW HOW HXW HBW ⊢
       clear hw3
       go_upto_region 11 with (go_at_call 23; ((with_reducible refine (zbK ll 4 nl _ il (by omega) HNL).mono ?_); rintro e w' ⟨rfl, rfl⟩))
       refine zaL (fun w' => Below w3.heap.size w3 w') 18 [true, true, true, true, true, true, true, true, true, true, true, true, true, true, true, true, true] (by kernel_rfl) (by kernel_rfl) (by kernel_rfl) (fun a b h hu => zae h hu) (Below.refl _ _) ?a3 ?h3 ?ht3
       case h3 =>
        intro w0 _
        simp only [zbb]
        repeat (go_big_quiet_step ((go_at_call 23; with_reducible exact zcp (zbK ll 100 L1 _ il (by omega) HL1))))
        refine wpQuiet_nil ?_
        rfl
       case ht3 =>
        change zbO _ _ _ _ _ _ 1 _ _ _
        refine zaz (i := 17) (by kernel_rfl) (by decide) rfl ?_
        intro w4 hu4' hc4
        go_wp2_with fail
        refine ⟨zae hc4 (zan _ _), ?_⟩
        refine zaO (by kernel_rfl) ?_
        intro w5 hu5 _
        have hu5' := zae hc4 (zae (zan w4 (.cells #[.int .i64 R1, .int .i64 (1 + R2), .bool false] 64)) hu5)
        have hnew : w5.heap[w4.heap.size]? = some (.cells #[.int .i64 R1, .int .i64 (1 + R2), .bool false] 64 (0, 0)) := zaf hu5 (zat w4 _)
        have HL5 := zhd (zab HLW.out hu5'); have HO5 := zhd (zab HOW.out hu5'); have HX5 := zhd (zaf hu5' HXW.out); have HB5 := zhd (zae HBW.out hu5')
        have HC : Hid (∀ j u, (lnC ⟨R1, 1 + R2, false⟩)[j]? = some u → w5.cell? ((⟨w4.heap.size, 0, none⟩ : Addr).add j) = some u) := zhd (fun j u hj => by
         rw [zaQ, Nat.zero_add]
         exact zad hnew (by simpa [lnC] using hj))
        have hsz : w.heap.size ≤ w5.heap.size := HB5.out.size
        have hmx : m + 1 ≤ maxLen := by unfold maxLen; omega
        have hby : (m + 1) * 24 ≤ 140737488355328 := by omega
        have hob := zar HL5.out HX5.out (by decide)
        clear hu5 hu5' hnew hc4 hu4' HLW HOW HXW HBW
        try simp only [List.drop_succ_cons, List.drop_zero]
        go_wp2_with (at_builtin; refine wpList_append_own _ rfl _ _ 25 rfl w.heap.size 64 i2 (.agg #[.int .i64 0, .int .i64 0, .bool false]) 3 24 Tryz.underlying25 hi2 hz20 hz21 hz22 rfl (by decide) _ _ _ rfl HL5.out ⟨w4.heap.size, 0, none⟩ 1 1 (lnC ⟨R1, 1 + R2, false⟩) rfl rfl HC.out (zgW _) hmx hby hsz ?_; intro v' w8 hown8 hgrow8 _; obtain ⟨xt, yt, rfl⟩ := zai hown8; have HO8 := zhd hown8; have HG8 := zhd hgrow8; clear hown8 hgrow8)
        go_roundw
        case rel => exact ⟨m + 1, xt, yt, by omega, by go_num, rfl, by rw [zjd, HE.out, zbW]; simpa [zaT] using HO8.out, zbc HO5.out HG8.out (fun g e => zaC HL5.out HO5.out (by decide) e), (HG8.out.block w.heap.size (zao HX5.out) (fun e => hob e.symm)).trans HX5.out, HB5.out.grown HG8.out hsz (fun g e => (HL5.out.lt g e).1)⟩
        case measure => simp [intOf]; omega
     · have hml : m = nl := by omega
       subst hml
       have HKR : Hid (Reads wr 1 (zdf kk).length (.slice ka j kc) (intC (zdf kk))) := zhd (by
        have := Reads.own HOW.out (by simp [intC, Value.oneCell'])
        rw [HKO.out]; simpa using this)
       have HLR : Hid (Reads wr 3 (zde n ll).length (.slice la m lc) (zaT lnC (zde n ll))) := zhd (by
        have := Reads.own HLW.out (zdM fun x _ => zgW x)
        rw [HLO.out]; simpa using this)
       have k8 := zfU kk; have l8 := zfS n ll
       have HKA := zhd (zgs kk); have HLA := zhd (zj7 n (by omega) ll)
       have HSA : Hid (ArgS 4 c4 wr (.slice sa len sc) raw) := zhd (by rw [HLN.out]; exact HS.out.below HBW.out)
       obtain ⟨w3, hw3⟩ : ∃ x, x = wr := ⟨_, rfl⟩
       rw [← hw3] at HKR HLR HSA HXW HBW ⊢
       clear hw3 HKO HLO HLW HOW HS
       go_upto_region 12 with (go_at_call 23; ((with_reducible refine (zbK ll 4 m _ il (by omega) HNL).mono ?_); rintro e w' ⟨rfl, rfl⟩))
       go_upto_region 13 with (first | (go_at_call 12; ((with_reducible refine (code_any _ raw _ HSA.out HOK.out).mono ?_); rintro e w4 ⟨v4, rfl, hi4, hb4⟩; have HI4 := zhd hi4; have HB4 := zhd hb4; clear hi4 hb4)) | (go_at_call 11; ((with_reducible refine (zlH n _ _ _ (zgk raw) 4 (zdf kk) (zde n ll) _ HI4.out (HKR.out.below HB4.out) (HLR.out.below HB4.out) hnb (by omega) (by omega) HKA.out HLA.out).mono ?_); rintro e w5 ⟨v5, rfl, hm5, hb5⟩; have HM5 := zhd hm5; have HB5 := zhd (zae HB4.out hb5); obtain ⟨x0, xn0, xc0, x1, xn1, xc1, x2, xn2, xc2, x3, xn3, xc3, x4, xn4, xc4, x5, xn5, xc5, x6, xn6, xc6, x7, xn7, xc7, x8, xn8, xc8, rfl⟩ := ze4 hm5; clear hm5 hb5)) | (refine wpList_store_row rfl 37 _ _ rfl w5.heap.size #[.slice x0 xn0 xc0, .slice x1 xn1 xc1, .slice x2 xn2 xc2, .slice x3 xn3 xc3, .slice x4 xn4 xc4, .slice x5 xn5 xc5, .slice x6 xn6 xc6, .slice x7 xn7 xc7, .slice x8 xn8 xc8] rfl rfl 37 nil9 (zat w5 _) zeB rfl (by simp [Value.oneCell']) ?_))
       have hb6 : Below w5.heap.size w5 ((w5.alloc (.cells nil9 37)).setRow w5.heap.size #[.slice x0 xn0 xc0, .slice x1 xn1 xc1, .slice x2 xn2 xc2, .slice x3 xn3 xc3, .slice x4 xn4 xc4, .slice x5 xn5 xc5, .slice x6 xn6 xc6, .slice x7 xn7 xc7, .slice x8 xn8 xc8]) := below_setRow (zan w5 _) (Nat.le_refl _) _
       have HN6 : Hid (((w5.alloc (.cells nil9 37)).setRow w5.heap.size #[.slice x0 xn0 xc0, .slice x1 xn1 xc1, .slice x2 xn2 xc2, .slice x3 xn3 xc3, .slice x4 xn4 xc4, .slice x5 xn5 xc5, .slice x6 xn6 xc6, .slice x7 xn7 xc7, .slice x8 xn8 xc8]).heap[w5.heap.size]? = some (.cells #[.slice x0 xn0 xc0, .slice x1 xn1 xc1, .slice x2 xn2 xc2, .slice x3 xn3 xc3, .slice x4 xn4 xc4, .slice x5 xn5 xc5, .slice x6 xn6 xc6, .slice x7 xn7 xc7, .slice x8 xn8 xc8] 37 (0, 0))) := zhd (setRow_heap _ _ _ _ _ _ (zat w5 _))
       have HM6 := zhd (HM5.out.below hb6); have HX6 := zhd (zaf hb6 (zaf HB5.out HXW.out)); have HB6 := zhd (zae (zae HBW.out HB5.out) hb6)
       clear hb6
       obtain ⟨w6, hw6⟩ : ∃ x, x = (w5.alloc (.cells nil9 37)).setRow w5.heap.size #[.slice x0 xn0 xc0, .slice x1 xn1 xc1, .slice x2 xn2 xc2, .slice x3 xn3 xc3, .slice x4 xn4 xc4, .slice x5 xn5 xc5, .slice x6 xn6 xc6, .slice x7 xn7 xc7, .slice x8 xn8 xc8] := ⟨_, rfl⟩
       rw [← hw6] at HN6 HM6 HX6 HB6 ⊢
       clear hw6 HM5 HB5 HXW HBW
       have HI9 := zhd (HM6.out.row9 (cs' := #[.slice x0 xn0 xc0, .slice x1 xn1 xc1, .slice x2 xn2 xc2, .slice x3 xn3 xc3, .slice x4 xn4 xc4, .slice x5 xn5 xc5, .slice x6 xn6 xc6, .slice x7 xn7 xc7, .slice x8 xn8 xc8]) HX6.out (fun i v h => ⟨none, 0, 0, zim h⟩))
       have HZ9 : Hid ((w6.setRow w.heap.size #[.slice x0 xn0 xc0, .slice x1 xn1 xc1, .slice x2 xn2 xc2, .slice x3 xn3 xc3, .slice x4 xn4 xc4, .slice x5 xn5 xc5, .slice x6 xn6 xc6, .slice x7 xn7 xc7, .slice x8 xn8 xc8]).heap[w.heap.size]? = some (.cells #[.slice x0 xn0 xc0, .slice x1 xn1 xc1, .slice x2 xn2 xc2, .slice x3 xn3 xc3, .slice x4 xn4 xc4, .slice x5 xn5 xc5, .slice x6 xn6 xc6, .slice x7 xn7 xc7, .slice x8 xn8 xc8] 37 (0, 0))) := zhd (setRow_heap _ _ _ _ _ _ HX6.out)
       obtain ⟨r0, r1, r2, r3, r4, r5, r6, r7, r8⟩ := zam HZ9.out
       have R0 := zhd r0; have R1 := zhd r1; have R2 := zhd r2; have R3 := zhd r3; have R4 := zhd r4; have R5 := zhd r5; have R6 := zhd r6; have R7 := zhd r7; have R8 := zhd r8
       clear r0 r1 r2 r3 r4 r5 r6 r7 r8 HZ9
       generalize w5.heap.size = b5 at *
       go_wp2_with (first | (refine wpList_load_row rfl 37 _ rfl b5 rfl 37 #[.slice x0 xn0 xc0, .slice x1 xn1 xc1, .slice x2 xn2 xc2, .slice x3 xn3 xc3, .slice x4 xn4 xc4, .slice x5 xn5 xc5, .slice x6 xn6 xc6, .slice x7 xn7 xc7, .slice x8 xn8 xc8] (0, 0) _ HN6.out Tryz.underlying37 rfl zeB ?_) | (refine wpList_store_row rfl 37 _ _ rfl w.heap.size #[.slice x0 xn0 xc0, .slice x1 xn1 xc1, .slice x2 xn2 xc2, .slice x3 xn3 xc3, .slice x4 xn4 xc4, .slice x5 xn5 xc5, .slice x6 xn6 xc6, .slice x7 xn7 xc7, .slice x8 xn8 xc8] rfl rfl 37 nil9 HX6.out zeB rfl (by simp [Value.oneCell']) ?_))
       exact bodyPost_ret (v := .agg #[.slice x0 xn0 xc0, .slice x1 xn1 xc1, .slice x2 xn2 xc2, .slice x3 xn3 xc3, .slice x4 xn4 xc4, .slice x5 xn5 xc5, .slice x6 xn6 xc6, .slice x7 xn7 xc7, .slice x8 xn8 xc8]) (by simp [results, Tryz.results15, go_sem, R0.out, R1.out, R2.out, R3.out, R4.out, R5.out, R6.out, R7.out, R8.out]) rfl ⟨_, rfl, by rw [HSM.out]; exact HI9.out, below_setRow HB6.out (Nat.le_refl _) _⟩
end
section
open Go.RowKit
set_option maxRecDepth 100000
section
variable {w : World} {M : Mac}
theorem zl3 {v : Value} {old cs' : Array Value} {b' : Nat} (h : IsMac w v M) (hx : w.heap[b']? = some (.cells old 37 (0, 0))) (hn : Nine old) : IsMac (w.setRow b' cs') v M := h.row9 hx hn.all
end
theorem zjw {α : Type} {k B e n : Nat} {f : α → List Value} {w : World} {v : Value} {l : List α} (h : w.ownsRow B e k v n (zaT f l)) (hn : n = l.length) (hf : ∀ x ∈ l, (f x).length = k) : ArgS k f w v l := by
 subst hn
 have h0 := h
 obtain ⟨h1, h2⟩ := h
 rcases h2 with ⟨rfl, h2⟩ | ⟨g, c, cur, rfl, hB, hx, hc, hm, hs, ht⟩
 · exact ⟨none, 0, by rw [h2], by omega, by unfold maxLen; omega, .inl (List.eq_nil_of_length_eq_zero h2)⟩
 · refine ⟨some ⟨g, 0, none⟩, c, rfl, hc, hm, .inr ⟨g, 0, rfl, zao hx, fun i r hr j u hj => ?_⟩⟩
   have hi : i < l.length := (List.getElem?_eq_some_iff.1 hr).1
   have hj2 : j < k := by
    have := (List.getElem?_eq_some_iff.1 hj).1
    rw [hf r (List.mem_of_getElem? hr)] at this
    exact this
   have hlt : i * k + j < l.length * k := by
    have : (i + 1) * k ≤ l.length * k := Nat.mul_le_mul_right k hi
    rw [Nat.succ_mul] at this
    omega
   rw [Nat.zero_add]
   exact (h0.cellAt (i * k + j) hlt).trans ((zaY hf hr hj2).trans hj)
theorem ArgS.take {α : Type} {k : Nat} {f : α → List Value} {w : World} {a : Option Addr} {n c : Nat} {l : List α} (h : ArgS k f w (.slice a n c) l) {m : Nat} (hm : m ≤ n) : ArgS k f w (.slice a m c) (l.take m) := by
 obtain ⟨a', c', e, h1, h2, h3⟩ := h
 injection e with e1 e2 e3
 subst e1 e2 e3
 refine ⟨_, _, by rw [List.length_take, Nat.min_eq_left hm], by rw [List.length_take]; omega, h2, ?_⟩
 rcases h3 with rfl | ⟨b, o, rfl, hb, hc⟩
 · exact .inl (by simp)
 · refine .inr ⟨b, o, rfl, hb, fun i r hr j u hj => hc i r ?_ j u hj⟩
   rw [List.getElem?_take] at hr
   split at hr
   · exact hr
   · cases hr
theorem ArgS.drop {α : Type} {k : Nat} {f : α → List Value} {w : World} {b o n c : Nat} {l : List α} (h : ArgS k f w (.slice (some ⟨b, o, none⟩) n c) l) {m : Nat} (hm : m ≤ n) : ArgS k f w (.slice (some ⟨b, o + m * k, none⟩) (n - m) (c - m)) (l.drop m) := by
 obtain ⟨a', c', e, h1, h2, h3⟩ := h
 injection e with e1 e2 e3
 subst e1 e2 e3
 refine ⟨_, _, by rw [List.length_drop], by rw [List.length_drop]; omega, by omega, ?_⟩
 rcases h3 with rfl | ⟨b', o', e, hb, hc⟩
 · exact .inl (by simp)
 · injection e with e
   injection e with e1 e2
   subst e1 e2
   refine .inr ⟨_, _, rfl, hb, fun i r hr j u hj => ?_⟩
   rw [List.getElem?_drop] at hr
   have := hc (m + i) r hr j u hj
   rw [← this, Nat.add_mul]
   congr 2
   omega
end
section
open Go.RowKit
set_option maxRecDepth 100000
theorem infoC4 : (Tryz.prog.info? 28).map (·.size) = some 4 := by kernel_rfl
theorem zcE {w : World} {b : Nat} {cs : Array Value} {M : Mac} (h : MVar w b cs M) : (loadVar 37 ⟨b, 0, none⟩).run Tryz.prog w = .ok (.agg cs) w := run_loadVar_row w b _ _ cs (0, 0) _ h.at_ Tryz.underlying37 rfl h.nine.info
def aw0 : Mac := zdS 1 [268436151, 5414947] 0 [1] [⟨0, 1, false⟩]
def awS : List Cho := [⟨1, 0, 0, 0⟩, ⟨1, 0, 0, 0⟩, ⟨1, 0, 0, 0⟩, ⟨1, 0, 0, 0⟩, ⟨3, 0, 0, 0⟩]
theorem aw_e1 : Hid (encV ⟨1, 5, 0, 0, 65536⟩ = 268436151) ∧ Hid (encE ⟨1, 5, 0, 0, 65536⟩ = 0) := ⟨zhd (by kernel_rfl), zhd (by kernel_rfl)⟩
theorem aw_e2 : Hid (encV ⟨12, 0, 5, 5, 0⟩ = 5414947) ∧ Hid (encE ⟨12, 0, 5, 5, 0⟩ = 0) := ⟨zhd (by kernel_rfl), zhd (by kernel_rfl)⟩
theorem aw_run : (runR aw0 awS).2 = 4 := by kernel_rfl
theorem aw_tr : (runR aw0 awS).1.trace = [⟨0, 0, 0, true, 268435456⟩] := by kernel_rfl
theorem aw_en : (runR aw0 awS).1.ends = [2] := by kernel_rfl
theorem aw_ln : (runR aw0 awS).1.lines = [⟨0, 1, true⟩] := by kernel_rfl
theorem aw_fi : zeh (runR aw0 awS).1 0 = -1 := by kernel_rfl
theorem aw_st : (doR (runR aw0 awS).1 ⟨1, 0, 0, 0⟩).2 = 100 := by kernel_rfl
theorem aw_tk : (doR aw0 ⟨4, 0, 0, 0⟩).2 = 101 := by kernel_rfl
theorem aw_ne : decide (aw0 = (runR aw0 awS).1) = false := decide_eq_false fun h => by
 have := congrArg Mac.ends h
 rw [aw_en] at this
 exact absurd this (by decide)
theorem zmV : GoodM aw0 1 0 := zfZ (by decide) (by decide) (by decide) (by decide) (by decide) (by decide) rfl
theorem new_tup {P : Program} {F : Nat} {args : Array Value} {w : World} {M : Mac} (h : Calls P F args w fun e w' => ∃ v', e = .returned (.tuple #[v', .int .i64 0]) ∧ IsMac w' v' M ∧ Below w.heap.size w w') :
 Calls P F args w fun e w' => ∃ cs, e = .returned (.tuple #[.agg cs, .int .i64 0]) ∧ Nine cs ∧ Hid (IsMac w' (.agg cs) M) ∧ Hid (Below w.heap.size w w') := h.mono fun e w' ⟨v', he, hm, hb⟩ => by
 obtain ⟨cs, rfl, hn⟩ := zcF hm
 exact ⟨cs, he, hn, zhd hm, zhd hb⟩
theorem do_tup {w : World} {v : Value} {M : Mac} {H N : Nat} (k h x n : Int) (hm : IsMac w v M) (hg : Hid (GoodM M H N)) (hN : N ≤ 100000) :
 Calls Tryz.prog 17 #[v, .agg #[.int .i64 k, .int .i64 h, .int .i64 x, .int .i64 n]] w fun e w' => ∃ cs, e = .returned (.tuple #[.agg cs, .int .i64 (doR M ⟨k, h, x, n⟩).2]) ∧ Nine cs ∧ Hid (IsMac w' (.agg cs) (doR M ⟨k, h, x, n⟩).1) ∧ Hid (Below w.heap.size w w') := (do_lit v M H N w k h x n hm hg.out hN).mono fun e w' ⟨v', he, hm, hb⟩ => by
 obtain ⟨cs, rfl, hn⟩ := zcF hm
 exact ⟨cs, he, hn, zhd hm, zhd hb⟩
theorem zgH {w : World} {v sv : Value} {M : Mac} {l : List Cho} {H N : Nat} (hm : IsMac w v M) (hs : ArgS 4 choC w sv l) (hg : Hid (GoodM M H N)) (hN : N + l.length ≤ 100000) :
 Calls Tryz.prog 22 #[v, sv] w fun e w' => ∃ cs, e = .returned (.tuple #[.agg cs, .int .i64 (runR M l).2]) ∧ Nine cs ∧ Hid (IsMac w' (.agg cs) (runR M l).1) ∧ Hid (Below w.heap.size w w') := (run_mac v sv M l H N w hm hs hg.out hN).mono fun e w' ⟨v', he, hm, hb⟩ => by
 obtain ⟨cs, rfl, hn⟩ := zcF hm
 exact ⟨cs, he, hn, zhd hm, zhd hb⟩
theorem zhb {P : Program} {F : Nat} {args : Array Value} {w : World} {n m : Int} {M : Mac} (e : n = m) (h : Calls P F args w fun e w' => ∃ cs, e = .returned (.tuple #[.agg cs, .int .i64 n]) ∧ Nine cs ∧ Hid (IsMac w' (.agg cs) M) ∧ Hid (Below w.heap.size w w')) :
 Calls P F args w fun e w' => ∃ cs, e = .returned (.tuple #[.agg cs, .int .i64 m]) ∧ Nine cs ∧ Hid (IsMac w' (.agg cs) M) ∧ Hid (Below w.heap.size w w') := by rw [← e]; exact h
set_option maxHeartbeats 16000000 in
theorem awake15 (w : World) : Calls Tryz.prog 10 #[] w fun e w' => e = .returned (.bool true) ∧ Below w.heap.size w w' := by
 go_enter Tryz.func10, Tryz.ntmps10
 go_upto_region 3 with (go_at_call 25; first | ((with_reducible refine (ziK 1 5 0 0 65536 268436151 0 _ aw_e1.1 aw_e1.2).mono ?_); rintro e w1 ⟨rfl, hb1⟩; have B1 := zhd hb1; clear hb1) | ((with_reducible refine (ziK 12 0 5 5 0 5414947 0 _ aw_e2.1 aw_e2.2).mono ?_); rintro e w2 ⟨rfl, hb2⟩; have B2 := zhd (zae B1.out hb2); clear hb2))
 obtain ⟨w3, hw3, hx3, hy3, hz3, hb3, hs3⟩ := zgl w2 (.cells #[.int .i64 268436151, .int .i64 5414947] 3) (.cells #[.int .i64 1] 3) (.cells #[.int .i64 0, .int .i64 1, .bool false] 64)
 have r1 : Reads w3 1 2 (.slice (some ⟨w2.heap.size, 0, none⟩) 2 2) (intC [268436151, 5414947]) := Reads.own (zdj (B := 0) hx3 (by omega) rfl (by decide)) (by simp [intC, Value.oneCell'])
 have r2 : Reads w3 1 1 (.slice (some ⟨w2.heap.size + 1, 0, none⟩) 1 1) (intC [1]) := Reads.own (zdj (B := 0) hy3 (by omega) rfl (by decide)) (by simp [intC, Value.oneCell'])
 have r3 : Reads w3 3 1 (.slice (some ⟨w2.heap.size + 2, 0, none⟩) 1 1) (zaT lnC [⟨0, 1, false⟩]) := Reads.own (zdj (B := 0) hz3 (by omega) rfl (by decide)) (by simp [zaT, lnC, Value.oneCell'])
 have HN : Hid (Calls Tryz.prog 11 #[.int .i64 1, .agg #[.slice (some ⟨w2.heap.size, 0, none⟩) 2 2, .int .i64 0, .slice none 0 0], .slice (some ⟨w2.heap.size + 1, 0, none⟩) 1 1, .slice (some ⟨w2.heap.size + 2, 0, none⟩) 1 1] w3 fun e w' => ∃ cs, e = .returned (.tuple #[.agg cs, .int .i64 0]) ∧ Nine cs ∧ Hid (IsMac w' (.agg cs) aw0) ∧ Hid (Below w3.heap.size w3 w')) := zhd
  (new_tup (zlH 1 _ _ _ [268436151, 5414947] 0 [1] [⟨0, 1, false⟩] w3 ⟨⟨_, _, rfl, r1⟩, by decide, by decide, by decide⟩ r2 r3 (by decide) (by decide) (by decide) rfl rfl))
 have B3 := zhd (zae B2.out hb3)
 clear r1 r2 r3 hx3 hy3 hz3 hb3 hs3 B1 B2
 go_upto_region 4 with (first | (go_at_call 11; rw [← hw3]; ((with_reducible refine HN.out.mono ?_); rintro e w4 ⟨c4, rfl, n4, m4, b4⟩)) | (refine wpList_store_row rfl 37 _ _ rfl (w4.heap.size) c4 rfl rfl 37 nil9 (zat w4 _) n4.info (by rw [zb2.size, n4.size]) n4.one ?_))
 obtain ⟨w5, hw5⟩ : ∃ x, x = (w4.alloc (.cells nil9 37)).setRow w4.heap.size c4 := ⟨_, rfl⟩
 have V5 : Hid (MVar w5 w4.heap.size c4 aw0) := zhd (by rw [hw5]; exact zew w4 n4 m4.out)
 have B5 : Hid (Below w.heap.size w w5) := zhd (by rw [hw5]; exact zae (zae B3.out b4.out) (zeq w4 c4))
 rw [← hw5]
 clear hw5 hw3 HN B3 b4 m4
 generalize w4.heap.size = b5 at *
 go_upto_region 5 with (refine wpList_store_row rfl 28 _ _ rfl w5.heap.size #[.int .i64 1, .int .i64 0, .int .i64 0, .int .i64 0] rfl rfl 28 #[.int .i64 0, .int .i64 0, .int .i64 0, .int .i64 0] (zat w5 _) infoC4 rfl (by simp [Value.oneCell']) ?_)
 obtain ⟨w6, hw6⟩ : ∃ x, x = (w5.alloc (.cells #[.int .i64 0, .int .i64 0, .int .i64 0, .int .i64 0] 28)).setRow w5.heap.size #[.int .i64 1, .int .i64 0, .int .i64 0, .int .i64 0] := ⟨_, rfl⟩
 have hb6 : Below w5.heap.size w5 w6 := by rw [hw6]; exact below_setRow (zan w5 _) (Nat.le_refl _) _
 have X6 : Hid (w6.heap[w5.heap.size]? = some (.cells #[.int .i64 1, .int .i64 0, .int .i64 0, .int .i64 0] 28 (0, 0))) := zhd (by rw [hw6]; exact setRow_heap _ _ _ _ _ _ (zat w5 _))
 have V6 := zhd (V5.out.below hb6); have B6 := zhd (zae B5.out hb6)
 rw [← hw6]
 clear hw6 hb6 V5 B5
 generalize w5.heap.size = b6 at *
 obtain ⟨t0, t1, t2, t3⟩ := zaE X6.out
 obtain ⟨w7, hw7, hx7, hb7, _⟩ := zbY w6 (.cells #[.int .i64 1, .int .i64 0, .int .i64 0, .int .i64 0, .int .i64 1, .int .i64 0, .int .i64 0, .int .i64 0, .int .i64 1, .int .i64 0, .int .i64 0, .int .i64 0, .int .i64 1, .int .i64 0, .int .i64 0, .int .i64 0, .int .i64 3, .int .i64 0, .int .i64 0, .int .i64 0] 28)
 have hs7 : ArgS 4 choC w7 (.slice (some ⟨w6.heap.size, 0, none⟩) 5 5) awS := zjw (zdj (B := 0) (xs := zaT choC awS) (n := 5) (k := 4) hx7 (by omega) rfl (by decide)) rfl (fun x _ => rfl)
 have V7 := zhd (V6.out.below hb7); have X7 := zhd (zaf hb7 X6.out); have B7 := zhd (zae B6.out hb7)
 have AG := zhd zmV
 have HR := zhd (zhb aw_run (zgH V7.out.mac hs7 AG (by decide)))
 have A6 := zhd V6.out.at_
 have hb6lt := zao X6.out
 clear hs7 hx7 hb7 B6
 go_upto_region 6 with (first | (refine wpList_load_row rfl 37 _ rfl (b5) rfl 37 c4 (0, 0) _ A6.out Tryz.underlying37 rfl n4.info ?_) | (go_at_call 22; rw [← hw7]; ((with_reducible refine HR.out.mono ?_); rintro e w8 ⟨c8, rfl, n8, m8, b8⟩)) | (refine wpList_store_row rfl 37 _ _ rfl (w8.heap.size) c8 rfl rfl 37 nil9 (zat w8 _) n8.info (by rw [zb2.size, n8.size]) n8.one ?_))
 obtain ⟨w9, hw9⟩ : ∃ x, x = (w8.alloc (.cells nil9 37)).setRow w8.heap.size c8 := ⟨_, rfl⟩
 obtain ⟨N, hN⟩ : ∃ x, x = (runR aw0 awS).1 := ⟨_, rfl⟩
 have HNN := zhd hN
 rw [← hN] at m8
 have hb9 : Below w7.heap.size w7 w9 := by rw [hw9]; exact zae b8.out (zeq w8 c8)
 have V9 : Hid (MVar w9 w8.heap.size c8 N) := zhd (by rw [hw9]; exact zew w8 n8 m8.out)
 have U9 := zhd (V7.out.below hb9); have X9 := zhd (zaf hb9 X7.out); have B9 := zhd (zae B7.out hb9)
 rw [← hw9]
 clear hw9 hw7 HR V7 X7 B7 b8 m8 hb9 hN V6 X6 A6 t0 t1 t2 t3 hb6lt
 generalize w8.heap.size = b9 at *
 obtain ⟨t0, t1, t2, t3⟩ := zaE X9.out
 have GN : Hid (GoodM N 1 5) := zhd (by rw [HNN.out]; exact zfv awS zmV)
 have A9 := zhd V9.out.at_
 have HD := zhd (zhb (m := 100) (by rw [HNN.out]; exact aw_st) (do_tup 1 0 0 0 V9.out.mac GN (by decide)))
 go_upto_region 7 with (first | (refine wpList_load_row rfl 37 _ rfl (b9) rfl 37 c8 (0, 0) _ A9.out Tryz.underlying37 rfl n8.info ?_) | (go_at_call 17; ((with_reducible refine HD.out.mono ?_); rintro e w10 ⟨c10, rfl, n10, _, b10⟩)) | (refine wpList_store_row rfl 37 _ _ rfl (w10.heap.size) c10 rfl rfl 37 nil9 (zat w10 _) n10.info (by rw [zb2.size, n10.size]) n10.one ?_))
 obtain ⟨w11, hw11⟩ : ∃ x, x = (w10.alloc (.cells nil9 37)).setRow w10.heap.size c10 := ⟨_, rfl⟩
 have hb11 : Below w9.heap.size w9 w11 := by rw [hw11]; exact zae b10.out (zeq w10 c10)
 have V11 := zhd (V9.out.below hb11); have U11 := zhd (U9.out.below hb11); have B11 := zhd (zae B9.out hb11)
 rw [← hw11]
 clear hw11 hb11 V9 U9 X9 B9 b10 t0 t1 t2 t3 HD A9
 have C11 := zhd U11.out.at_
 have HE := zhd (zhb aw_tk (do_tup 4 0 0 0 U11.out.mac AG (by decide)))
 go_upto_region 8 with (first | (refine wpList_load_row rfl 37 _ rfl (b5) rfl 37 c4 (0, 0) _ C11.out Tryz.underlying37 rfl n4.info ?_) | (go_at_call 17; ((with_reducible refine HE.out.mono ?_); rintro e w12 ⟨c12, rfl, n12, _, b12⟩)) | (refine wpList_store_row rfl 37 _ _ rfl (w12.heap.size) c12 rfl rfl 37 nil9 (zat w12 _) n12.info (by rw [zb2.size, n12.size]) n12.one ?_))
 obtain ⟨w13, hw13⟩ : ∃ x, x = (w12.alloc (.cells nil9 37)).setRow w12.heap.size c12 := ⟨_, rfl⟩
 have hb13 : Below w11.heap.size w11 w13 := by rw [hw13]; exact zae b12.out (zeq w12 c12)
 have V13 := zhd (V11.out.below hb13); have U13 := zhd (U11.out.below hb13); have B13 := zhd (zae B11.out hb13)
 rw [← hw13]
 clear hw13 hb13 V11 U11 B11 b12 HE C11
 obtain ⟨cs, ecs, rm⟩ := zen V13.out.mac
 injection ecs with ecs
 subst ecs
 obtain ⟨x0, xn0, xc0, x1, xn1, xc1, x2, xn2, xc2, x3, xn3, xc3, x4, xn4, xc4, x5, xn5, xc5, x6, xn6, xc6, x7, xn7, xc7, x8, xn8, xc8, qs, rfl, r1, r2, r3, r4, r5, r6, r7⟩ := rm.shape
 clear r1 r2 r4 r5
 have e3 : N.ends = [2] := HNN.out ▸ aw_en
 have e6 : N.lines = [⟨0, 1, true⟩] := HNN.out ▸ aw_ln
 have e7 : N.trace = [⟨0, 0, 0, true, 268435456⟩] := HNN.out ▸ aw_tr
 rw [e3] at r3; rw [e6] at r6; rw [e7] at r7
 have r3' : Reads w13 1 1 _ _ := r3; have r6' : Reads w13 3 1 _ _ := r6; have r7' : Reads w13 5 1 _ _ := r7
 obtain ⟨g3, o3, k3, v3, l3, _, _, q3⟩ := r3'.some (by decide)
 obtain ⟨g6, o6, k6, v6, l6, _, _, q6⟩ := r6'.some (by decide)
 obtain ⟨g7, o7, k7, v7, l7, _, _, q7⟩ := r7'.some (by decide)
 injection v3 with v30 v31 v32; injection v6 with v60 v61 v62; injection v7 with v70 v71 v72
 subst v30 v31 v32 v60 v61 v62 v70 v71 v72
 have p30 := q3 0 _ rfl; have p62 := q6 2 _ rfl; have p70 := q7 0 _ rfl; have p71 := q7 1 _ rfl; have p72 := q7 2 _ rfl; have p73 := q7 3 _ rfl; have p74 := q7 4 _ rfl
 simp only [Nat.add_zero] at p30 p70
 obtain ⟨_, _, m2, _, _, _, _, m7, m8⟩ := zam V13.out.at_
 clear q3 q6 q7 r3 r6 r7 r3' r6' r7' rm e3 e6 e7
 have HF : Hid (Calls Tryz.prog 20 #[.agg _, .int .i64 0] w13 fun e w' => e = .returned (.int .i64 (-1)) ∧ Below w13.heap.size w13 w') := zhd (by
  have := zhV _ w13 N 0 V13.out.mac GN.out.regs GN.out.lines
  rw [HNN.out, aw_fi] at this
  exact this)
 have LV := zhd (zcE V13.out)
 have hne : decide (aw0 = N) = false := by rw [HNN.out]; exact aw_ne
 have heq : decide (aw0 = aw0) = true := by simp
 try simp only [List.append_eq, List.cons_append, List.nil_append]
 go_wp2_with (first | (go_at_call 20; ((with_reducible refine HF.out.mono ?_); rintro e w14 ⟨rfl, b14⟩; have V14 := zhd (V13.out.below b14); have U14 := zhd (U13.out.below b14); have B14 := zhd (zae B13.out b14); have LU := zhd (zcE U14.out); have HS := zhd (zgG _ _ aw0 aw0 w14 U14.out.mac U14.out.mac AG.out.regs AG.out.regs); clear b14)) | (go_at_call 19; ((with_reducible refine HS.out.mono ?_); rintro e w15 ⟨rfl, b15⟩; have V15 := zhd (V14.out.below b15); have U15 := zhd (U14.out.below b15); have B15 := zhd (zae B14.out b15); have LU2 := zhd (zcE U15.out); have LV2 := zhd (zcE V15.out); have HS2 := zhd (zgG _ _ aw0 N w15 U15.out.mac V15.out.mac AG.out.regs GN.out.regs); clear b15)) | (go_at_call 19; ((with_reducible refine HS2.out.mono ?_); rintro e w16 ⟨rfl, b16⟩; have B16 := zhd (zae B15.out b16); clear b16)) | ((with_reducible refine zcU (o := ⟨_, .load _ _, _, _, _, _⟩) ?_ 37 _ rfl (b9) ?_ (.agg _) LV.out ?_); rotate_left; exact rfl; rotate_left; exact rfl) | ((with_reducible refine zcU (o := ⟨_, .load _ _, _, _, _, _⟩) ?_ 37 _ rfl (b5) ?_ (.agg _) LU.out ?_); rotate_left; exact rfl; rotate_left; exact rfl) | ((with_reducible refine zcU (o := ⟨_, .load _ _, _, _, _, _⟩) ?_ 37 _ rfl (b5) ?_ (.agg _) LU2.out ?_); rotate_left; exact rfl; rotate_left; exact rfl) | ((with_reducible refine zcU (o := ⟨_, .load _ _, _, _, _, _⟩) ?_ 37 _ rfl (b9) ?_ (.agg _) LV2.out ?_); rotate_left; exact rfl; rotate_left; exact rfl))
 go_ret
 exact ⟨ret1 (za1 (by first | rfl | simp)), B16.out⟩
end
section
open Go.RowKit
set_option maxRecDepth 100000
def zdJ : List (List Bool) :=
 [false, true].flatMap fun c => [false, true].flatMap fun m => [false, true].flatMap fun x => [false, true].flatMap fun y => [false, true].flatMap fun a => [false, true].flatMap fun s => [false, true].flatMap fun z =>
  if (c || !m) && ((m || !x) && ((m || !y) && ((!s || (x && a)) && (!z || (s && y))))) then [[c, m, x, y, a, s, z]] else []
def zlA (r : Nat) : List (List Bool) := zdJ.map (List.replicate r true ++ ·)
def zk7 (t : List Bool) (i : Nat) : Bool :=
 i == 0 || i == 4 || (i == 1 && t.getD 0 false) || (i == 2 && t.getD 1 false) || (i == 3 && t.getD 1 false) || (i == 5 && (t.getD 0 false && (t.getD 2 false && t.getD 4 false))) || (i == 6 && (t.getD 3 false && t.getD 5 false))
def zi9 (r : Nat) (fl : List Bool) (i : Nat) : Bool := decide (r ≤ i) && zk7 (fl.drop r) (i - r)
theorem zfp {r : Nat} {fl : List Bool} (h : fl ∈ zlA r) : fl.drop r ∈ zdJ := by
 obtain ⟨t, ht, rfl⟩ := List.mem_map.1 h
 rw [List.drop_append_of_le_length (by simp)]
 simpa using ht
theorem zhp : ∀ t ∈ zdJ, t.length = 7 := by
 have : (zdJ.all fun t => t.length == 7) = true := by kernel_rfl
 intro t h
 simpa using List.all_eq_true.1 this t h
theorem zhq : ∀ t ∈ zdJ, (t.getD 1 false = true → t.getD 0 false = true) ∧ (t.getD 2 false = true → t.getD 1 false = true) ∧ (t.getD 3 false = true → t.getD 1 false = true) ∧ (t.getD 5 false = true → t.getD 2 false = true ∧ t.getD 4 false = true) ∧ (t.getD 6 false = true → t.getD 5 false = true ∧ t.getD 3 false = true) := by
 have : (zdJ.all fun t => (!t.getD 1 false || t.getD 0 false) && ((!t.getD 2 false || t.getD 1 false) && ((!t.getD 3 false || t.getD 1 false) && ((!t.getD 5 false || (t.getD 2 false && t.getD 4 false)) && (!t.getD 6 false || (t.getD 5 false && t.getD 3 false)))))) = true := by kernel_rfl
 intro t h
 have := List.all_eq_true.1 this t h
 simp only [Bool.and_eq_true, Bool.or_eq_true, Bool.not_eq_true'] at this
 obtain ⟨a, b, c, d, e⟩ := this
 refine ⟨fun h => ?_, fun h => ?_, fun h => ?_, fun h => ?_, fun h => ?_⟩
 · rcases a with a | a
   · rw [a] at h; cases h
   · exact a
 · rcases b with a | a
   · rw [a] at h; cases h
   · exact a
 · rcases c with a | a
   · rw [a] at h; cases h
   · exact a
 · rcases d with a | a
   · rw [a] at h; cases h
   · exact a
 · rcases e with a | a
   · rw [a] at h; cases h
   · exact a
theorem zmD {fl : List Bool} {r i : Nat} (h : fl[r + i]? = some false) : (fl.drop r)[i]? = some false := by rw [List.getElem?_drop]; exact h
theorem zjq (fl : List Bool) (r i : Nat) : (fl.set (r + i) true).drop r = (fl.drop r).set i true := by
 apply List.ext_getElem?
 intro j
 rw [List.getElem?_drop, List.getElem?_set, List.getElem?_set]
 by_cases h : i = j
 · subst h
   simp [List.getElem?_drop]
   by_cases hl : r + i < fl.length
   · simp [hl, show i < fl.length - r by omega]
   · simp [hl, show ¬ i < fl.length - r by omega]
 · simp [h, List.getElem?_drop]
structure PairI (W : World) (M : Mac) (n : Int) (t : List Bool) (cs : Array Value) (uc um u0 u1 ua uz : Value) (w : World) : Prop where
 bel : Below W.heap.size W w
 fc : t.getD 0 false = true → uc = .tuple #[.agg cs, .int .i64 n] ∧ Nine cs ∧ IsMac w (.agg cs) M
 fm : t.getD 1 false = true → um = .tuple #[.agg cs, .int .i64 n]
 f0 : t.getD 2 false = true → u0 = .agg cs
 f1 : t.getD 3 false = true → u1 = .int .i64 n
 fa : t.getD 4 false = true → ∃ b, ua = .pointer (some ⟨b, 0, none⟩) ∧ W.heap.size ≤ b ∧ w.heap[b]? = some (.cells (if t.getD 5 false = true then cs else nil9) 37 (0, 0))
 fz : t.getD 6 false = true → uz = .int .i64 n
section
variable {W : World} {M : Mac} {n : Int} {t : List Bool} {cs : Array Value} {uc um u0 u1 ua uz : Value} {w w1 : World}
theorem PairI.up (h : PairI W M n t cs uc um u0 u1 ua uz w) (hu : Up w w1) : PairI W M n t cs uc um u0 u1 ua uz w1 :=
 ⟨zae h.bel hu, fun x => ⟨(h.fc x).1, (h.fc x).2.1, (h.fc x).2.2.below hu⟩, h.fm, h.f0, h.f1, fun x => by
  obtain ⟨b, e, h1, h2⟩ := h.fa x
  exact ⟨b, e, h1, zaf hu h2⟩, h.fz⟩
theorem PairI.offc (ht : t ∈ zdJ) (hf : t[0]? = some false) : t.getD 1 false = false ∧ t.getD 2 false = false ∧ t.getD 3 false = false ∧ t.getD 5 false = false ∧ t.getD 6 false = false := by
 obtain ⟨d1, d2, d3, d4, d5⟩ := zhq t ht
 have h := zcQ hf
 have e1 : t.getD 1 false = false := by
  cases e : t.getD 1 false
  · rfl
  · have := d1 e; rw [h] at this; cases this
 have e2 : t.getD 2 false = false := by
  cases e : t.getD 2 false
  · rfl
  · have := d2 e; rw [e1] at this; cases this
 have e3 : t.getD 3 false = false := by
  cases e : t.getD 3 false
  · rfl
  · have := d3 e; rw [e1] at this; cases this
 have e5 : t.getD 5 false = false := by
  cases e : t.getD 5 false
  · rfl
  · have := (d4 e).1; rw [e2] at this; cases this
 refine ⟨e1, e2, e3, e5, ?_⟩
 cases e : t.getD 6 false
 · rfl
 · have := (d5 e).1; rw [e5] at this; cases this
theorem PairI.putc (h : PairI W M n t cs uc um u0 u1 ua uz w) (ht : t ∈ zdJ) (hf : t[0]? = some false) {c : Array Value} (hn : Nine c) (hm : IsMac w1 (.agg c) M) (hb : Below w.heap.size w w1) : PairI W M n (t.set 0 true) c (.tuple #[.agg c, .int .i64 n]) um u0 u1 ua uz w1 := by
 obtain ⟨e1, e2, e3, e5, e6⟩ := PairI.offc ht hf
 refine ⟨zae h.bel hb, fun _ => ⟨rfl, hn, hm⟩, fun x => ?_, fun x => ?_, fun x => ?_, fun x => ?_, fun x => ?_⟩
 · rw [zap _ 0 1 (by decide), e1] at x; cases x
 · rw [zap _ 0 2 (by decide), e2] at x; cases x
 · rw [zap _ 0 3 (by decide), e3] at x; cases x
 · obtain ⟨b, e, h1, h2⟩ := h.fa (by rwa [zap _ 0 4 (by decide)] at x)
   refine ⟨b, e, h1, ?_⟩
   rw [zap _ 0 5 (by decide), e5, if_neg (by decide)]
   rw [e5, if_neg (by decide)] at h2
   exact zaf hb h2
 · rw [zap _ 0 6 (by decide), e6] at x; cases x
theorem PairI.putm (h : PairI W M n t cs uc um u0 u1 ua uz w) : PairI W M n (t.set 1 true) cs uc (.tuple #[.agg cs, .int .i64 n]) u0 u1 ua uz w :=
 ⟨h.bel, fun x => h.fc (by rwa [zap _ 1 0 (by decide)] at x), fun _ => rfl, fun x => h.f0 (by rwa [zap _ 1 2 (by decide)] at x), fun x => h.f1 (by rwa [zap _ 1 3 (by decide)] at x), fun x => by
  rw [zap _ 1 5 (by decide)]; exact h.fa (by rwa [zap _ 1 4 (by decide)] at x), fun x => h.fz (by rwa [zap _ 1 6 (by decide)] at x)⟩
theorem PairI.put0 (h : PairI W M n t cs uc um u0 u1 ua uz w) : PairI W M n (t.set 2 true) cs uc um (.agg cs) u1 ua uz w :=
 ⟨h.bel, fun x => h.fc (by rwa [zap _ 2 0 (by decide)] at x), fun x => h.fm (by rwa [zap _ 2 1 (by decide)] at x), fun _ => rfl, fun x => h.f1 (by rwa [zap _ 2 3 (by decide)] at x), fun x => by
  rw [zap _ 2 5 (by decide)]; exact h.fa (by rwa [zap _ 2 4 (by decide)] at x), fun x => h.fz (by rwa [zap _ 2 6 (by decide)] at x)⟩
theorem PairI.put1 (h : PairI W M n t cs uc um u0 u1 ua uz w) : PairI W M n (t.set 3 true) cs uc um u0 (.int .i64 n) ua uz w :=
 ⟨h.bel, fun x => h.fc (by rwa [zap _ 3 0 (by decide)] at x), fun x => h.fm (by rwa [zap _ 3 1 (by decide)] at x), fun x => h.f0 (by rwa [zap _ 3 2 (by decide)] at x), fun _ => rfl, fun x => by
  rw [zap _ 3 5 (by decide)]; exact h.fa (by rwa [zap _ 3 4 (by decide)] at x), fun x => h.fz (by rwa [zap _ 3 6 (by decide)] at x)⟩
theorem PairI.puta (h : PairI W M n t cs uc um u0 u1 ua uz w) (ht : t ∈ zdJ) (hf : t[4]? = some false) : PairI W M n (t.set 4 true) cs uc um u0 u1 (.pointer (some ⟨w.heap.size, 0, none⟩)) uz (w.alloc (.cells nil9 37)) := by
 have hb := zan w (.cells nil9 37)
 have e5 : t.getD 5 false = false := by
  cases e : t.getD 5 false
  · rfl
  · have := ((zhq t ht).2.2.2.1 e).2; rw [zcQ hf] at this; cases this
 refine ⟨zae h.bel hb, fun x => ?_, fun x => h.fm (by rwa [zap _ 4 1 (by decide)] at x), fun x => h.f0 (by rwa [zap _ 4 2 (by decide)] at x), fun x => h.f1 (by rwa [zap _ 4 3 (by decide)] at x), fun _ => ⟨_, rfl, h.bel.size, ?_⟩, fun x => h.fz (by rwa [zap _ 4 6 (by decide)] at x)⟩
 · obtain ⟨h1, h2, h3⟩ := h.fc (by rwa [zap _ 4 0 (by decide)] at x)
   exact ⟨h1, h2, h3.below hb⟩
 · rw [zap _ 4 5 (by decide), e5, if_neg (by decide)]; exact zat w _
theorem PairI.puts (h : PairI W M n t cs uc um u0 u1 ua uz w) (ht : t ∈ zdJ) {b : Nat} (hx : w.heap[b]? = some (.cells nil9 37 (0, 0))) (ha : ua = .pointer (some ⟨b, 0, none⟩)) (hW : W.heap.size ≤ b) : PairI W M n (t.set 5 true) cs uc um u0 u1 ua uz (w.setRow b cs) := by
 refine ⟨below_setRow h.bel hW _, fun x => ?_, fun x => h.fm (by rwa [zap _ 5 1 (by decide)] at x), fun x => h.f0 (by rwa [zap _ 5 2 (by decide)] at x), fun x => h.f1 (by rwa [zap _ 5 3 (by decide)] at x), fun _ => ⟨b, ha, hW, ?_⟩, fun x => h.fz (by rwa [zap _ 5 6 (by decide)] at x)⟩
 · obtain ⟨h1, h2, h3⟩ := h.fc (by rwa [zap _ 5 0 (by decide)] at x)
   exact ⟨h1, h2, zl3 h3 hx zb2⟩
 · rw [if_pos ((zfA t 5).2 (by have := zhp t ht; omega))]
   exact setRow_heap _ _ _ _ _ _ hx
theorem PairI.putz (h : PairI W M n t cs uc um u0 u1 ua uz w) : PairI W M n (t.set 6 true) cs uc um u0 u1 ua (.int .i64 n) w :=
 ⟨h.bel, fun x => h.fc (by rwa [zap _ 6 0 (by decide)] at x), fun x => h.fm (by rwa [zap _ 6 1 (by decide)] at x), fun x => h.f0 (by rwa [zap _ 6 2 (by decide)] at x), fun x => h.f1 (by rwa [zap _ 6 3 (by decide)] at x), fun x => by
  rw [zap _ 6 5 (by decide)]; exact h.fa (by rwa [zap _ 6 4 (by decide)] at x), fun _ => rfl⟩
theorem PairI.start (h : Below W.heap.size W w) (ht : t = List.replicate 7 false) : PairI W M n t cs uc um u0 u1 ua uz w := by
 subst ht
 exact ⟨h, fun x => absurd x (by decide), fun x => absurd x (by decide), fun x => absurd x (by decide), fun x => absurd x (by decide), fun x => absurd x (by decide), fun x => absurd x (by decide)⟩
theorem PairI.done (h : PairI W M n t cs uc um u0 u1 ua uz w) (ht : t ∈ zdJ) (ha : t.all id = true) : ∃ b, uc = .tuple #[.agg cs, .int .i64 n] ∧ um = .tuple #[.agg cs, .int .i64 n] ∧ u0 = .agg cs ∧ u1 = .int .i64 n ∧ ua = .pointer (some ⟨b, 0, none⟩) ∧ uz = .int .i64 n ∧ MVar w b cs M ∧ W.heap.size ≤ b := by
 have hl := zhp t ht
 have T := fun (i : Nat) (hi : i < 7) => zhf ha (i := i) (by omega)
 obtain ⟨h1, h2, h3⟩ := h.fc (T 0 (by decide))
 obtain ⟨b, e, hb, hx⟩ := h.fa (T 4 (by decide))
 rw [if_pos (T 5 (by decide))] at hx
 exact ⟨b, h1, h.fm (T 1 (by decide)), h.f0 (T 2 (by decide)), h.f1 (T 3 (by decide)), e, h.fz (T 6 (by decide)), ⟨hx, h2, h3⟩, hb⟩
end
theorem zjz {fl : List Bool} (r : Nat) (h : fl.all id = true) : (fl.drop r).all id = true := by
 rw [List.all_eq_true] at h ⊢
 exact fun x hx => h x (List.mem_of_mem_drop hx)
theorem ArgS.rest {w : World} {a : Option Addr} {n c : Nat} {l : List Cho} (h : ArgS 4 choC w (.slice a n c) l) {m : Nat} (hm : m ≤ n) : ArgS 4 choC w (.slice (if c = m then a else Option.map (fun x => x.add (m * 4)) a) (n - m) (c - m)) (l.drop m) := by
 have h0 := h
 obtain ⟨a', c', e, h1, h2, h3⟩ := h
 injection e with e1 e2 e3
 subst e1 e2 e3
 rcases h3 with rfl | ⟨b, o, rfl, hb, hc⟩
 · have : m = 0 := by simpa using hm
   subst this
   exact ⟨_, _, rfl, by simp, by unfold maxLen at *; omega, .inl rfl⟩
 · by_cases hcm : c = m
   · rw [if_pos hcm]
     have : m = l.length := by omega
     refine ⟨_, _, by rw [List.length_drop], by rw [List.length_drop]; omega, by unfold maxLen at *; omega, .inl (by rw [this, List.drop_length])⟩
   · rw [if_neg hcm]
     have := h0.drop hm
     simp only [Option.map_some, zaQ]
     exact this
theorem zk2 {w : World} {v : Value} {raw : List (Int × Int × Int × Int)} {hh kk ll : Int} (hs : ArgS 4 c4 w v raw) (hok : Hid (∀ r ∈ raw, ok4 r)) (ih : I64 hh) (ik : I64 kk) (il : I64 ll) :
 Calls Tryz.prog 15 #[v, .int .i64 hh, .int .i64 kk, .int .i64 ll] w fun e w' => ∃ cs, e = .returned (.agg cs) ∧ Nine cs ∧ Hid (IsMac w' (.agg cs) (zhn raw hh kk ll)) ∧ Hid (Below w.heap.size w w') := (zk3 v raw hh kk ll w hs hok.out ih ik il).mono fun e w' ⟨v', he, hm, hb⟩ => by
 obtain ⟨cs, rfl, hn⟩ := zcF hm
 exact ⟨cs, he, hn, zhd hm, zhd hb⟩
theorem zjM {w : World} {v : Value} {raw : List (Int × Int × Int)} (hs : ArgS 3 c3 w v raw) (hok : Hid (∀ r ∈ raw, ok3 r)) :
 Calls Tryz.prog 16 #[v] w fun e w' => ∃ a c, e = .returned (.slice a (zcn raw).length c) ∧ Hid (ArgS 4 choC w' (.slice a (zcn raw).length c) (zcn raw)) ∧ Hid (Below w.heap.size w w') := (zjN v raw w hs hok.out).mono fun e w' ⟨v', he, ho, hb⟩ => by
 obtain ⟨a, c, rfl⟩ := zai ho
 exact ⟨a, c, he, zhd (zjw ho rfl (fun x _ => rfl)), zhd hb⟩
theorem zhr (raw : List (Int × Int × Int)) : (zcn raw).length ≤ 120 := by simp [zcn]; omega
end
end Go.Proofs.YtdobddiibgfeaaaGreat
