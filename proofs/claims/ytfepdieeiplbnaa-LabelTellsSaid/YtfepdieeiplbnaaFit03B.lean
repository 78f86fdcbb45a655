/-
  Right instructions, made. No program in sight. What headstocklaw03.Fit makes of raw items: plain.
-/
import Derived.Test.YtfepdieeiplbnaaCodeRight
import Derived.Test.YtfepdieeiplbnaaCodeEnc
import Derived.Test.YtfepdieeiplbnaaLabB
import Derived.Test.YtfepdieeiplbnaaLabRight
import Derived.Test.YtfepdieeiplbnaaLabLay
import Derived.Test.YtfepdieeiplbnaaFit02
import Derived.Test.YtfepdieeiplbnaaWrapMath
import Derived.Test.YtfepdieeiplbnaaPickMath
namespace Go.Proofs.Ytfepdieeiplbnaa
open Go.RowKit
theorem right_mk {op d a b n : Int} (s : Sh) (hs : shapeT (rowT op).form = s) (ho : 1 ≤ op ∧ op ≤ 49) (hd : 0 ≤ d ∧ d < 32 ∧ (s.d = true ∨ d = 0)) (ha : 0 ≤ a ∧ a < 32 ∧ (s.a = true ∨ a = 0)) (hb : 0 ≤ b ∧ b < 32 ∧ (s.b = true ∨ b = 0))
    (hn : s.least ≤ n ∧ n ≤ s.most) (hm : modB n s.step = true) : rightB ⟨op, d, a, b, n⟩ = true := by
  have m : ∀ (x : Int) (i : Bool), 0 ≤ x ∧ x < 32 ∧ (i = true ∨ x = 0) → mayB x i = true := by
    intro x i ⟨h1, h2, h3⟩
    unfold mayB
    rw [decide_eq_true h1, decide_eq_true h2]
    rcases h3 with h3 | h3
    · rw [h3]; rfl
    · subst h3; cases i <;> rfl
  unfold rightB shX
  simp only
  rw [hs, isOp_yes ho, m _ _ hd, m _ _ ha, m _ _ hb, decide_eq_true hn.1, decide_eq_true hn.2, hm]
  rfl
theorem shI (op : Int) (h : op = 11 ∨ op = 13 ∨ op = 16 ∨ op = 4) : shapeT (rowT op).form = ⟨true, true, false, -2048, 2047, 0⟩ := by rcases h with rfl | rfl | rfl | rfl <;> kernel_rfl
theorem shU (op : Int) (h : op = 1 ∨ op = 2) : shapeT (rowT op).form = ⟨true, false, false, 0, 1048575, 0⟩ := by rcases h with rfl | rfl <;> kernel_rfl
theorem shJ : shapeT (rowT 3).form = ⟨true, false, false, -1048576, 1048574, 2⟩ := by kernel_rfl
theorem shBr (op : Int) (h : 5 ≤ op ∧ op ≤ 10) : shapeT (rowT op).form = ⟨false, true, true, -4096, 4094, 2⟩ := by
  rcases (by omega : op = 5 ∨ op = 6 ∨ op = 7 ∨ op = 8 ∨ op = 9 ∨ op = 10) with rfl | rfl | rfl | rfl | rfl | rfl <;> kernel_rfl
end Go.Proofs.Ytfepdieeiplbnaa
namespace Go.Proofs.Ytfepdieeiplbnaa
open Go.RowKit
instance decMem (s : ByteArray) (l : List ByteArray) : Decidable (s ∈ l) := decidable_of_iff (l.any (fun t => decide (t = s)) = true) (by simp)
def nameT : List ByteArray := [⟨#[97]⟩, ⟨#[98]⟩, ⟨#[46, 101, 110, 100]⟩, ⟨#[102, 58, 49]⟩, ⟨#[109, 97, 105, 110]⟩, ⟨#[126]⟩, ⟨#[76, 48]⟩, ⟨#[76, 49]⟩]
def nameN (n : Int) : ByteArray := nameT.getD (pickN n 8).toNat ⟨#[]⟩
def endS : ByteArray := ⟨#[101, 110, 100]⟩
def toIns (x : Itm) : Ins := if pickN x.i.d 4 = 0 then ⟨3, pickN x.i.a 32, 0, 0, 0⟩ else ⟨5 + pickN x.i.op 6, 0, pickN x.i.a 32, pickN x.i.b 32, 0⟩
def fitNop (x : Itm) : Int := if pickN x.i.d 3 = 0 then 900 + pickN x.n 240 else pickN x.n 40
abbrev FS := List Itm × List ByteArray
def fitS (s : FS) (x : Itm) : FS :=
  if pickN x.kind 5 = 0 then (s.1 ++ [⟨1, fitX x.i, ⟨#[]⟩, 0⟩], s.2)
  else if pickN x.kind 5 = 1 then (if nameN x.n ∈ s.2 then s else (s.1 ++ [⟨2, noI, nameN x.n, 0⟩], s.2 ++ [nameN x.n]))
  else if pickN x.kind 5 = 2 then (s.1 ++ [⟨3, toIns x, nameN x.n, 0⟩], s.2)
  else if pickN x.kind 5 = 3 then (s.1 ++ [⟨4, ⟨0, 1 + pickN x.i.d 31, 0, 0, 0⟩, ⟨#[]⟩, wrap32 x.n⟩], s.2)
  else (s.1 ++ [⟨5, noI, ⟨#[]⟩, fitNop x⟩], s.2)
def fitR (raw : List Itm) : Nat → FS
  | 0 => ([], [])
  | k + 1 => fitS (fitR raw k) (it raw k)
/-- The end label, if there is none. -/
def fitE (s : FS) : FS := if s.2 = [] then (s.1 ++ [⟨2, noI, endS, 0⟩], [endS]) else s
def renN (ns : List ByteArray) (i : Nat) (x : Itm) : Itm := if x.kind = 3 then ⟨x.kind, x.i, ns.getD ((x.name.size + i) % ns.length) ⟨#[]⟩, x.n⟩ else x
def renTo (s : FS) (k : Nat) : List Itm := (List.range s.1.length).map fun i => if i < k then renN s.2 i (it s.1 i) else it s.1 i
def fit3 (raw : List Itm) : FS := fitE (fitR raw (min raw.length 16))
def fitL (raw : List Itm) : List Itm := renTo (fit3 raw) (fit3 raw).1.length
/-! ### what it is -/
structure FitOK (s : FS) : Prop where
  good : ∀ i, i < s.1.length → itemB (it s.1 i) = true ∧ ((it s.1 i).kind = 5 → (it s.1 i).n ≤ 1139)
  labs : ∀ i, i < s.1.length → (it s.1 i).kind = 2 → (it s.1 i).name ∈ s.2
  uniq : ∀ i j, j < s.1.length → i < j → (it s.1 i).kind = 2 → (it s.1 j).kind = 2 → (it s.1 i).name ≠ (it s.1 j).name
  have_ : ∀ nm ∈ s.2, labelB nm = true ∧ ∃ i, i < s.1.length ∧ (it s.1 i).kind = 2 ∧ (it s.1 i).name = nm
theorem name_mem (n : Int) : nameN n ∈ nameT := by
  have hb := pickN_bd n 8 (by omega)
  unfold nameN
  obtain ⟨k, hk, hk8⟩ : ∃ k : Nat, (pickN n 8).toNat = k ∧ k < 8 := ⟨_, rfl, by omega⟩
  rw [hk]
  have : ∀ k : Fin 8, nameT.getD k.val ⟨#[]⟩ ∈ nameT := by decide +kernel
  exact this ⟨k, hk8⟩
theorem name_ok (n : Int) : labelB (nameN n) = true := by
  have : ∀ s ∈ nameT, labelB s = true := by decide +kernel
  exact this _ (name_mem n)
theorem it_left {l l' : List Itm} {i : Nat} (h : i < l.length) : it (l ++ l') i = it l i := by
  rw [it_at (by simp; omega), it_at h, List.getElem_append_left h]
theorem it_last (l : List Itm) (x : Itm) : it (l ++ [x]) l.length = x := by
  rw [it_at (by simp)]; simp
theorem FitOK.snoc {s : FS} (h : FitOK s) (x : Itm) (h1 : itemB x = true) (h5 : x.kind = 5 → x.n ≤ 1139) (h2 : x.kind ≠ 2) : FitOK (s.1 ++ [x], s.2) := by
  have e : ∀ i, i < (s.1 ++ [x]).length → i < s.1.length ∨ i = s.1.length := fun i hi => by simp at hi; omega
  refine ⟨fun i hi => ?_, fun i hi => ?_, fun i j hj hij => ?_, fun nm hn => ?_⟩
  · rcases e i hi with h' | rfl
    · simp only; rw [it_left h']; exact h.good i h'
    · simp only; rw [it_last]; exact ⟨h1, h5⟩
  · rcases e i hi with h' | rfl
    · simp only; rw [it_left h']; exact h.labs i h'
    · simp only; rw [it_last]; exact fun hh => absurd hh h2
  · rcases e j hj with h' | rfl
    · simp only; rw [it_left h', it_left (by omega)]; exact h.uniq i j h' hij
    · simp only; rw [it_last]; exact fun _ hh => absurd hh h2
  · obtain ⟨a, i, b, c⟩ := h.have_ nm hn
    exact ⟨a, i, by simp; omega, by simp only; rw [it_left b]; exact c⟩
theorem FitOK.label {s : FS} (h : FitOK s) (nm : ByteArray) (hl : labelB nm = true) (hn : nm ∉ s.2) : FitOK (s.1 ++ [⟨2, noI, nm, 0⟩], s.2 ++ [nm]) := by
  have e : ∀ i, i < (s.1 ++ [(⟨2, noI, nm, 0⟩ : Itm)]).length → i < s.1.length ∨ i = s.1.length := fun i hi => by simp at hi; omega
  have hi2 : itemB ⟨2, noI, nm, 0⟩ = true := by
    unfold noI; rw [itemB_2, hl]; simp [noI]
  refine ⟨fun i hi => ?_, fun i hi => ?_, fun i j hj hij => ?_, fun n2 hn2 => ?_⟩
  · rcases e i hi with h' | rfl
    · simp only; rw [it_left h']; exact h.good i h'
    · simp only; rw [it_last]; exact ⟨hi2, fun hh => by cases hh⟩
  · rcases e i hi with h' | rfl
    · simp only; rw [it_left h']; exact fun hh => List.mem_append_left _ (h.labs i h' hh)
    · simp only; rw [it_last]; exact fun _ => by simp
  · rcases e j hj with h' | rfl
    · simp only; rw [it_left h', it_left (by omega)]; exact h.uniq i j h' hij
    · simp only; rw [it_last, it_left hij]; exact fun hh _ he => hn (by have := h.labs i hij hh; rwa [he] at this)
  · rcases List.mem_append.1 hn2 with h' | h'
    · obtain ⟨a, i, b, c⟩ := h.have_ n2 h'
      exact ⟨a, i, by simp; omega, by simp only; rw [it_left b]; exact c⟩
    · have h' : n2 = nm := by simpa using h'
      subst h'
      exact ⟨hl, s.1.length, by simp, by simp only; rw [it_last]; exact ⟨rfl, rfl⟩⟩
theorem toIns_ok (x : Itm) : rightB (toIns x) = true ∧ (toIns x).n = 0 ∧ (isBr (toIns x).op || decide ((toIns x).op = 3)) = true := by
  have h1 := pickN_bd x.i.a 32 (by omega)
  have h2 := pickN_bd x.i.b 32 (by omega)
  have h3 := pickN_bd x.i.op 6 (by omega)
  unfold toIns
  by_cases h : pickN x.i.d 4 = 0
  · rw [if_pos h]
    exact ⟨right_mk _ shJ (by omega) ⟨by omega, by omega, .inl rfl⟩ ⟨by omega, by omega, .inr rfl⟩ ⟨by omega, by omega, .inr rfl⟩ ⟨by decide, by decide⟩ rfl, rfl, by simp⟩
  · rw [if_neg h]
    refine ⟨right_mk _ (shBr (5 + pickN x.i.op 6) (by omega)) (by omega) ⟨by omega, by omega, .inr rfl⟩ ⟨by omega, by omega, .inl rfl⟩ ⟨by omega, by omega, .inl rfl⟩ ⟨by decide, by decide⟩ rfl, rfl, ?_⟩
    simp [isBr]; omega
theorem to_item (i : Ins) (nm : ByteArray) (h1 : rightB i = true) (h2 : i.n = 0) (h3 : (isBr i.op || decide (i.op = 3)) = true) (h4 : labelB nm = true) : itemB ⟨3, i, nm, 0⟩ = true := by
  obtain ⟨op, d, a, b, n⟩ := i
  simp only at h2 h3
  rw [itemB_3, h1, h3, h4, h2]
  simp
theorem fitS_ok {s : FS} (h : FitOK s) (x : Itm) : FitOK (fitS s x) := by
  have hp := pickN_bd x.kind 5 (by omega)
  unfold fitS
  by_cases h0 : pickN x.kind 5 = 0
  · rw [if_pos h0]
    refine h.snoc _ ?_ (fun hh => by cases hh) (by simp)
    have hr := fit_right x.i
    generalize fitX x.i = y at hr
    obtain ⟨op, d, a, b, n⟩ := y
    rw [itemB_1, hr]; simp
  rw [if_neg h0]
  by_cases h1 : pickN x.kind 5 = 1
  · rw [if_pos h1]
    by_cases hm : nameN x.n ∈ s.2
    · rw [if_pos hm]; exact h
    · rw [if_neg hm]; exact h.label _ (name_ok _) hm
  rw [if_neg h1]
  by_cases h2 : pickN x.kind 5 = 2
  · rw [if_pos h2]
    obtain ⟨a, b, c⟩ := toIns_ok x
    exact h.snoc _ (to_item _ _ a b c (name_ok _)) (fun hh => by cases hh) (by simp)
  rw [if_neg h2]
  by_cases h3 : pickN x.kind 5 = 3
  · rw [if_pos h3]
    refine h.snoc _ ?_ (fun hh => by cases hh) (by simp)
    have hq := pickN_bd x.i.d 31 (by omega)
    rw [itemB_4]
    simp [numB, w32_w32]; omega
  rw [if_neg h3]
  have ha := pickN_bd x.n 240 (by omega)
  have hb := pickN_bd x.n 40 (by omega)
  have hf : 0 ≤ fitNop x ∧ fitNop x ≤ 1139 := by unfold fitNop; split <;> omega
  refine h.snoc _ ?_ (fun _ => hf.2) (by simp)
  unfold noI
  rw [itemB_5]; simp [noI]; omega
theorem fitR_ok (raw : List Itm) (k : Nat) : FitOK (fitR raw k) := by
  induction k with
  | zero => exact ⟨fun i hi => by simp [fitR] at hi, fun i hi => by simp [fitR] at hi, fun i j hj => by simp [fitR] at hj, fun nm hn => by simp [fitR] at hn⟩
  | succ k ih => exact fitS_ok ih _
theorem fitE_ok {s : FS} (h : FitOK s) : FitOK (fitE s) ∧ (fitE s).2 ≠ [] := by
  unfold fitE
  by_cases e : s.2 = []
  · rw [if_pos e]
    have := h.label endS (by decide +kernel) (by rw [e]; simp)
    rw [e] at this
    exact ⟨this, by simp⟩
  · rw [if_neg e]; exact ⟨h, e⟩
theorem fit3_ok (raw : List Itm) : FitOK (fit3 raw) ∧ (fit3 raw).2 ≠ [] := fitE_ok (fitR_ok _ _)
theorem fitS_len (s : FS) (x : Itm) : (fitS s x).1.length ≤ s.1.length + 1 ∧ (fitS s x).2.length ≤ s.2.length + 1 := by
  unfold fitS
  repeat' split
  all_goals simp
theorem fitR_len (raw : List Itm) (k : Nat) : (fitR raw k).1.length ≤ k ∧ (fitR raw k).2.length ≤ k := by
  induction k with
  | zero => simp [fitR]
  | succ k ih => have := fitS_len (fitR raw k) (it raw k); simp only [fitR]; omega
theorem fit3_len (raw : List Itm) : (fit3 raw).1.length ≤ 17 ∧ (fit3 raw).2.length ≤ 17 := by
  have := fitR_len raw (min raw.length 16)
  unfold fit3 fitE
  split
  · simp; omega
  · omega
theorem renTo_len (s : FS) (k : Nat) : (renTo s k).length = s.1.length := by simp [renTo]
theorem renTo_at (s : FS) (k i : Nat) (hi : i < s.1.length) : it (renTo s k) i = if i < k then renN s.2 i (it s.1 i) else it s.1 i := by
  rw [it_at (by rw [renTo_len]; exact hi)]; simp [renTo]
theorem renN_kind (ns : List ByteArray) (i : Nat) (x : Itm) : (renN ns i x).kind = x.kind := by unfold renN; split <;> rfl
theorem renN_same (ns : List ByteArray) (i : Nat) (x : Itm) (h : x.kind ≠ 3) : renN ns i x = x := by unfold renN; rw [if_neg h]
theorem fitL_len (raw : List Itm) : (fitL raw).length = (fit3 raw).1.length := renTo_len _ _
theorem fitL_at (raw : List Itm) (i : Nat) (hi : i < (fitL raw).length) : it (fitL raw) i = renN (fit3 raw).2 i (it (fit3 raw).1 i) := by
  rw [fitL_len] at hi
  unfold fitL
  rw [renTo_at _ _ _ hi, if_pos hi]
theorem getD_mem {ns : List ByteArray} (h : ns ≠ []) (j : Nat) : ns.getD (j % ns.length) ⟨#[]⟩ ∈ ns := by
  have hl : 0 < ns.length := List.length_pos_iff.2 h
  have hj : j % ns.length < ns.length := Nat.mod_lt _ hl
  rw [List.getD_eq_getElem?_getD, List.getElem?_eq_getElem hj]
  exact List.getElem_mem hj
theorem to_parts' {x : Itm} (h : itemB x = true) (hk : x.kind = 3) : rightB x.i = true ∧ x.i.n = 0 ∧ (isBr x.i.op || decide (x.i.op = 3)) = true ∧ x.n = 0 ∧ labelB x.name = true := by
  unfold itemB at h
  rw [if_neg (by omega), if_neg (by omega), if_pos hk] at h
  simp only [Bool.and_eq_true, toB, decide_eq_true_eq] at h
  obtain ⟨h1, h2, h3, h4, h5⟩ := h
  refine ⟨h2, h3, h4, ?_, h5⟩
  rw [h1]
theorem fitL_good (raw : List Itm) (i : Nat) (hi : i < (fitL raw).length) : itemB (it (fitL raw) i) = true ∧ ((it (fitL raw) i).kind = 5 → (it (fitL raw) i).n ≤ 1139) := by
  obtain ⟨f, hne⟩ := fit3_ok raw
  rw [fitL_at raw i hi]
  rw [fitL_len] at hi
  obtain ⟨g1, g2⟩ := f.good i hi
  by_cases h3 : (it (fit3 raw).1 i).kind = 3
  · generalize it (fit3 raw).1 i = x at *
    obtain ⟨k, ins, nm, n⟩ := x
    obtain ⟨a, b, c, d, _⟩ := to_parts' g1 h3
    simp only at h3 a b c d
    subst h3
    unfold renN
    rw [if_pos rfl]
    subst d
    exact ⟨to_item _ _ a b c (f.have_ _ (getD_mem hne _)).1, fun hh => by cases hh⟩
  · rw [renN_same _ _ _ h3]; exact ⟨g1, g2⟩
theorem fitL_all (raw : List Itm) : allB (fitL raw) := fun i hi => (fitL_good raw i hi).1
theorem fitL_lab (raw : List Itm) {nm : ByteArray} (h : nm ∈ (fit3 raw).2) : ∃ i, i < (fitL raw).length ∧ (it (fitL raw) i).kind = 2 ∧ (it (fitL raw) i).name = nm := by
  obtain ⟨f, _⟩ := fit3_ok raw
  obtain ⟨_, i, hi, h2, hn⟩ := f.have_ nm h
  refine ⟨i, by rw [fitL_len]; exact hi, ?_⟩
  rw [fitL_at raw i (by rw [fitL_len]; exact hi), renN_same _ _ _ (by omega)]
  exact ⟨h2, hn⟩
theorem fitL_known (raw : List Itm) : knownB (fitL raw) = true := by
  obtain ⟨f, hne⟩ := fit3_ok raw
  unfold knownB
  rw [Bool.and_eq_true]
  constructor
  · refine okL_of fun i j hj hij h2 h2' => ?_
    rw [fitL_at raw i (by omega), renN_kind] at h2
    rw [fitL_at raw j hj, renN_kind] at h2'
    rw [fitL_at raw i (by omega), fitL_at raw j hj, renN_same _ _ _ (by omega), renN_same _ _ _ (by omega)]
    rw [fitL_len] at hj
    exact f.uniq i j hj hij h2 h2'
  · refine nmL_of fun j hj h3 => ?_
    have hj' := hj
    rw [fitL_len] at hj'
    have hnm : (it (fitL raw) j).name ∈ (fit3 raw).2 := by
      rw [fitL_at raw j hj]
      rw [fitL_at raw j hj, renN_kind] at h3
      unfold renN
      rw [if_pos h3]
      exact getD_mem hne _
    obtain ⟨i, hi, h2, hn⟩ := fitL_lab raw hnm
    cases hm : labI (fitL raw) (it (fitL raw) j).name with
    | some k => exact ⟨k, rfl⟩
    | none => exact absurd hn (mp_none hm i hi h2)
theorem size_small {x : Itm} (h : itemB x = true) (h5 : x.kind = 5 → x.n ≤ 1139) (g : Bool) : 0 ≤ sizeZ x g ∧ sizeZ x g ≤ 1139 := by
  have hb := size_bd h g
  refine ⟨hb.1, ?_⟩
  unfold sizeZ
  split
  · omega
  split
  · rename_i h'; exact h5 h'
  split
  · have := labL_len x.i.d x.n; omega
  split <;> omega
theorem fitL_pl (raw : List Itm) (L : Nat → Bool) (k : Nat) (hk : k ≤ (fitL raw).length) : 0 ≤ pl (fitL raw) L k ∧ pl (fitL raw) L k ≤ 4556 * k := by
  induction k with
  | zero => simp [pl]
  | succ k ih =>
    have := ih (by omega)
    obtain ⟨a, b⟩ := fitL_good raw k (by omega)
    have := size_small a b (L k)
    simp only [pl]; omega
theorem fitL_ok (raw : List Itm) : errOf (fitL raw) = 0 := by
  have hl := (fit3_len raw).1
  have := fitL_pl raw (longF (fitL raw)) _ (Nat.le_refl _)
  rw [fitL_len] at this
  refine err_ok (by rw [fitL_len]; omega) (fitL_all raw) (fitL_known raw) (by rw [fitL_len]; omega)
end Go.Proofs.Ytfepdieeiplbnaa
