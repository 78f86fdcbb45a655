/-
  What the walks of this statement lean on (CodeDec, InsEq): shown.
-/
import Derived.Test.YtdobddiibgfeaaaGreatZa
import Derived.Test.YtdobddiibgfeaaaGreatZd
import Derived.WalkSpells
import Derived.WalkLawsBesides
set_option linter.unusedVariables false
set_option linter.unusedSimpArgs false
namespace Go.Proofs.YtdobddiibgfeaaaGreat
section
open Go.RowKit
theorem zkC (word : Int) (w : World) (_ : I64 word) (hw : word < 0 ∨ 4294967296 ≤ word) :
 Calls Tryz.prog 108 #[.int .i64 word] w fun e w' => e = .returned (.tuple #[insV zdt, .int .i64 20]) ∧ Below w.heap.size w w' := by
 have q1 : wrap64 (word % 4294967296) = word % 4294967296 := by unfold wrap64; omega
 have q2 : (word != word % 4294967296) = true := by simp; omega
 go_enter Tryz.func108, Tryz.ntmps108
 go_wp2_with fail
 refine bodyPost_ret (v := .tuple #[insV zdt, .int .i64 20]) (by simp [results, Tryz.results108, go_sem, insV, zdt]) rfl ⟨rfl, (by repeat (first | (with_reducible first | exact Below.refl _ _ | refine zaj ?_ ?_ _ | apply zag | refine zae ?_ (by assumption) | apply zak) | omega))⟩
theorem field_7 (word : Nat) (w : World) (hw : word < 4294967296) :
 Calls Tryz.prog 150 #[.int .i64 word, .int .i64 7, .int .i64 5] w fun e w' => e = .returned (.int .i64 (zac word 7 5 : Nat)) ∧ Below w.heap.size w w' := zf2 word 7 5 w (by omega) (by omega) hw
theorem field_15 (word : Nat) (w : World) (hw : word < 4294967296) :
 Calls Tryz.prog 150 #[.int .i64 word, .int .i64 15, .int .i64 5] w fun e w' => e = .returned (.int .i64 (zac word 15 5 : Nat)) ∧ Below w.heap.size w w' := zf2 word 15 5 w (by omega) (by omega) hw
theorem field_20 (word : Nat) (w : World) (hw : word < 4294967296) :
 Calls Tryz.prog 150 #[.int .i64 word, .int .i64 20, .int .i64 5] w fun e w' => e = .returned (.int .i64 (zac word 20 5 : Nat)) ∧ Below w.heap.size w w' := zf2 word 20 5 w (by omega) (by omega) hw
theorem zmz (v : Value) (x : Ins) (w : World) (hv : v = insV x) :
 Calls Tryz.prog 151 #[v] w fun e w' => e = .returned (.tuple #[.int .i64 (encV x), .int .i64 (encE x)]) ∧ Below w.heap.size w w' := by subst hv; exact zkw x w
set_option maxRecDepth 100000 in
set_option maxHeartbeats 60000000 in
theorem ziM (word : Nat) (w : World) (hw : word < 4294967296) :
 Calls Tryz.prog 108 #[.int .i64 word] w fun e w' => e = .returned (.tuple #[insV (decX word), .int .i64 (decE word)]) ∧ Below w.heap.size w w' := by
 have q0 : (word : Int) % 4294967296 = word := by omega
 have q1 : wrap64 (word : Int) = word := by unfold wrap64; omega
 go_enter Tryz.func108, Tryz.ntmps108
 go_wp2_with fail
 clear q0 q1
 go_loopw [4] (fun i wr => ∃ op : Nat, 1 ≤ op ∧ op ≤ 50 ∧ i = .int .i64 op ∧ (∀ o, 1 ≤ o → o < op → zgx word o = false) ∧ wr.heap[w.heap.size]? = some (.cells #[.int .i64 0, .int .i64 0, .int .i64 0, .int .i64 0, .int .i64 0] 72 (0, 0)) ∧ Below w.heap.size w wr) (fun i _ => 50 - (intOf i).toNat)
 case atStart => exact ⟨1, by omega, by omega, rfl, fun o h1 h2 => by omega, zat _ _, (by repeat (first | (with_reducible first | exact Below.refl _ _ | refine zaj ?_ ?_ _ | apply zag | refine zae ?_ (by assumption) | apply zak) | omega))⟩
 case round =>
  obtain ⟨op, hop1, hop2, rfl, hno, hx, hbb⟩ := hrel
  have HNO := zhd hno; have HX := zhd hx
  have ltx : w.heap.size < wr.heap.size := zao hx
  have k0 : wr.cell? ⟨w.heap.size, 0, none⟩ = some (.int .i64 0) := zad hx rfl
  have g0 := zaa hx 0
  have k1 : wr.cell? ⟨w.heap.size, 1, none⟩ = some (.int .i64 0) := zad hx rfl
  have g1 := zaa hx 1
  have k2 : wr.cell? ⟨w.heap.size, 2, none⟩ = some (.int .i64 0) := zad hx rfl
  have g2 := zaa hx 2
  have k3 : wr.cell? ⟨w.heap.size, 3, none⟩ = some (.int .i64 0) := zad hx rfl
  have g3 := zaa hx 3
  have k4 : wr.cell? ⟨w.heap.size, 4, none⟩ = some (.int .i64 0) := zad hx rfl
  have g4 := zaa hx 4
  by_cases hlt : (op : Int) ≤ 49
  · clear hno hx
    go_wp2_with fail
    refine (zb6 _ _).mono ?_
    have HD := zhd (show decI op word = decR (rowT op).form op word from rfl)
    generalize hrw : rowT (op : Int) = r at *
    have HRW := zhd hrw; clear hrw
    obtain ⟨nm, f, lo, mi, hi⟩ := r
    rintro e w1 ⟨rfl, hb1⟩
    obtain ⟨c1, f1⟩ := za8 hb1
    have z1 : wr.heap.size ≤ w1.heap.size := hb1.size
    have z1x : w.heap.size < w1.heap.size := by omega
    unfold rwV
    simp only at HD
    go_wp2_with fail
    refine (zbF _ _).mono ?_
    rintro e w2 ⟨rfl, hb2⟩
    obtain ⟨c2, f2⟩ := za8 hb2
    have z2 : w1.heap.size < w2.heap.size := by have := hb2.size; simp at this; omega
    have z2x : w.heap.size < w2.heap.size := by omega
    have z2p : w.heap.size ≤ w2.heap.size + 1 := by omega
    have z2q : w.heap.size < w2.heap.size + 1 + 1 := by omega
    have z2r : w1.heap.size ≤ w2.heap.size + 1 := by omega
    have z2s : w1.heap.size < w2.heap.size + 1 + 1 := by omega
    have z2t : w.heap.size ≤ w2.heap.size := by omega
    have z2u : w1.heap.size ≤ w2.heap.size := by omega
    have z2v : w.heap.size ≤ w1.heap.size := by omega
    by_cases hf82 : f = 82
    case' pos =>
     subst hf82
     rw [show zaI 82 = ⟨true, true, true, 0, 0, 0⟩ from rfl]
     unfold shV
     go_wp2_with fail
     refine (zcg 82 word _ hw).mono ?_
     rw [show zbG (numP 82 0) = 0 from rfl]
     have hbl := zbw word (numP 82 0) (zcK 82 0)
     have HD1 := zhd (show decR 82 op word = ⟨op, ((zac word 7 5 : Nat) : Int), ((zac word 15 5 : Nat) : Int), ((zac word 20 5 : Nat) : Int), zbH (0) (zaZ word (numP 82 0)) 0⟩ from rfl)
     generalize zaZ word (numP 82 0) = bn at *
     have HDD : Hid (decI op word = ⟨op, ((zac word 7 5 : Nat) : Int), ((zac word 15 5 : Nat) : Int), ((zac word 20 5 : Nat) : Int), (bn : Int)⟩) := by
      rw [HD.out, HD1.out]
      have : zbH (0) bn 0 = (bn : Int) := by unfold zbH; rw [if_neg]; simp
      rw [this]; exact rfl
     obtain ⟨XX, hXX⟩ : ∃ y, y = (⟨op, ((zac word 7 5 : Nat) : Int), ((zac word 15 5 : Nat) : Int), ((zac word 20 5 : Nat) : Int), (bn : Int)⟩ : Ins) := ⟨_, rfl⟩
     have HXX := zhd hXX
     clear hXX
    case' neg =>
     by_cases hf73 : f = 73
     case' pos =>
      subst hf73
      rw [show zaI 73 = ⟨true, true, false, -2048, 2047, 0⟩ from rfl]
      unfold shV
      go_wp2_with fail
      refine (zcg 73 word _ hw).mono ?_
      rw [show zbG (numP 73 0) = 12 from rfl]
      have hbl := zbw word (numP 73 0) (zcK 73 0)
      have HD1 := zhd (show decR 73 op word = ⟨op, ((zac word 7 5 : Nat) : Int), ((zac word 15 5 : Nat) : Int), 0, zbH (-2048) (zaZ word (numP 73 0)) 12⟩ from rfl)
      generalize zaZ word (numP 73 0) = bn at *
      have hbi : (0 : Int) ≤ (bn : Int) := by omega
      have hbj : (bn : Int) < 4294967296 := by omega
      cases hsg : ((bn : Int) / 2048 != 0)
      case' false =>
       have HDD : Hid (decI op word = ⟨op, ((zac word 7 5 : Nat) : Int), ((zac word 15 5 : Nat) : Int), 0, (bn : Int)⟩) := by
        rw [HD.out, HD1.out]
        have : zbH (-2048) bn 12 = (bn : Int) := by unfold zbH; rw [if_neg]; simp at hsg ⊢; omega
        rw [this]; exact rfl
       obtain ⟨XX, hXX⟩ : ∃ y, y = (⟨op, ((zac word 7 5 : Nat) : Int), ((zac word 15 5 : Nat) : Int), 0, (bn : Int)⟩ : Ins) := ⟨_, rfl⟩
       have HXX := zhd hXX
       clear hXX

      case' true =>
       have HDD : Hid (decI op word = ⟨op, ((zac word 7 5 : Nat) : Int), ((zac word 15 5 : Nat) : Int), 0, (bn : Int) - 4096⟩) := by
        rw [HD.out, HD1.out]
        have : zbH (-2048) bn 12 = (bn : Int) - 4096 := by unfold zbH; rw [if_pos]; rfl; simp at hsg ⊢; omega
        rw [this]; exact rfl
       obtain ⟨XX, hXX⟩ : ∃ y, y = (⟨op, ((zac word 7 5 : Nat) : Int), ((zac word 15 5 : Nat) : Int), 0, (bn : Int) - 4096⟩ : Ins) := ⟨_, rfl⟩
       have HXX := zhd hXX
       clear hXX
     case' neg =>
      by_cases hf72 : f = 72
      case' pos =>
       subst hf72
       rw [show zaI 72 = ⟨true, true, false, 0, 31, 0⟩ from rfl]
       unfold shV
       go_wp2_with fail
       refine (zcg 72 word _ hw).mono ?_
       rw [show zbG (numP 72 0) = 5 from rfl]
       have hbl := zbw word (numP 72 0) (zcK 72 0)
       have HD1 := zhd (show decR 72 op word = ⟨op, ((zac word 7 5 : Nat) : Int), ((zac word 15 5 : Nat) : Int), 0, zbH (0) (zaZ word (numP 72 0)) 5⟩ from rfl)
       generalize zaZ word (numP 72 0) = bn at *
       have HDD : Hid (decI op word = ⟨op, ((zac word 7 5 : Nat) : Int), ((zac word 15 5 : Nat) : Int), 0, (bn : Int)⟩) := by
        rw [HD.out, HD1.out]
        have : zbH (0) bn 5 = (bn : Int) := by unfold zbH; rw [if_neg]; simp
        rw [this]; exact rfl
       obtain ⟨XX, hXX⟩ : ∃ y, y = (⟨op, ((zac word 7 5 : Nat) : Int), ((zac word 15 5 : Nat) : Int), 0, (bn : Int)⟩ : Ins) := ⟨_, rfl⟩
       have HXX := zhd hXX
       clear hXX
      case' neg =>
       by_cases hf83 : f = 83
       case' pos =>
        subst hf83
        rw [show zaI 83 = ⟨false, true, true, -2048, 2047, 0⟩ from rfl]
        unfold shV
        go_wp2_with fail
        refine (zcg 83 word _ hw).mono ?_
        rw [show zbG (numP 83 0) = 12 from rfl]
        have hbl := zbw word (numP 83 0) (zcK 83 0)
        have HD1 := zhd (show decR 83 op word = ⟨op, 0, ((zac word 15 5 : Nat) : Int), ((zac word 20 5 : Nat) : Int), zbH (-2048) (zaZ word (numP 83 0)) 12⟩ from rfl)
        generalize zaZ word (numP 83 0) = bn at *
        have hbi : (0 : Int) ≤ (bn : Int) := by omega
        have hbj : (bn : Int) < 4294967296 := by omega
        cases hsg : ((bn : Int) / 2048 != 0)
        case' false =>
         have HDD : Hid (decI op word = ⟨op, 0, ((zac word 15 5 : Nat) : Int), ((zac word 20 5 : Nat) : Int), (bn : Int)⟩) := by
          rw [HD.out, HD1.out]
          have : zbH (-2048) bn 12 = (bn : Int) := by unfold zbH; rw [if_neg]; simp at hsg ⊢; omega
          rw [this]; exact rfl
         obtain ⟨XX, hXX⟩ : ∃ y, y = (⟨op, 0, ((zac word 15 5 : Nat) : Int), ((zac word 20 5 : Nat) : Int), (bn : Int)⟩ : Ins) := ⟨_, rfl⟩
         have HXX := zhd hXX
         clear hXX

        case' true =>
         have HDD : Hid (decI op word = ⟨op, 0, ((zac word 15 5 : Nat) : Int), ((zac word 20 5 : Nat) : Int), (bn : Int) - 4096⟩) := by
          rw [HD.out, HD1.out]
          have : zbH (-2048) bn 12 = (bn : Int) - 4096 := by unfold zbH; rw [if_pos]; rfl; simp at hsg ⊢; omega
          rw [this]; exact rfl
         obtain ⟨XX, hXX⟩ : ∃ y, y = (⟨op, 0, ((zac word 15 5 : Nat) : Int), ((zac word 20 5 : Nat) : Int), (bn : Int) - 4096⟩ : Ins) := ⟨_, rfl⟩
         have HXX := zhd hXX
         clear hXX
       case' neg =>
        by_cases hf66 : f = 66
        case' pos =>
         subst hf66
         rw [show zaI 66 = ⟨false, true, true, -4096, 4094, 2⟩ from rfl]
         unfold shV
         go_wp2_with fail
         refine (zcg 66 word _ hw).mono ?_
         rw [show zbG (numP 66 0) = 13 from rfl]
         have hbl := zbw word (numP 66 0) (zcK 66 0)
         have HD1 := zhd (show decR 66 op word = ⟨op, 0, ((zac word 15 5 : Nat) : Int), ((zac word 20 5 : Nat) : Int), zbH (-4096) (zaZ word (numP 66 0)) 13⟩ from rfl)
         generalize zaZ word (numP 66 0) = bn at *
         have hbi : (0 : Int) ≤ (bn : Int) := by omega
         have hbj : (bn : Int) < 4294967296 := by omega
         cases hsg : ((bn : Int) / 4096 != 0)
         case' false =>
          have HDD : Hid (decI op word = ⟨op, 0, ((zac word 15 5 : Nat) : Int), ((zac word 20 5 : Nat) : Int), (bn : Int)⟩) := by
           rw [HD.out, HD1.out]
           have : zbH (-4096) bn 13 = (bn : Int) := by unfold zbH; rw [if_neg]; simp at hsg ⊢; omega
           rw [this]; exact rfl
          obtain ⟨XX, hXX⟩ : ∃ y, y = (⟨op, 0, ((zac word 15 5 : Nat) : Int), ((zac word 20 5 : Nat) : Int), (bn : Int)⟩ : Ins) := ⟨_, rfl⟩
          have HXX := zhd hXX
          clear hXX

         case' true =>
          have HDD : Hid (decI op word = ⟨op, 0, ((zac word 15 5 : Nat) : Int), ((zac word 20 5 : Nat) : Int), (bn : Int) - 8192⟩) := by
           rw [HD.out, HD1.out]
           have : zbH (-4096) bn 13 = (bn : Int) - 8192 := by unfold zbH; rw [if_pos]; rfl; simp at hsg ⊢; omega
           rw [this]; exact rfl
          obtain ⟨XX, hXX⟩ : ∃ y, y = (⟨op, 0, ((zac word 15 5 : Nat) : Int), ((zac word 20 5 : Nat) : Int), (bn : Int) - 8192⟩ : Ins) := ⟨_, rfl⟩
          have HXX := zhd hXX
          clear hXX
        case' neg =>
         by_cases hf85 : f = 85
         case' pos =>
          subst hf85
          rw [show zaI 85 = ⟨true, false, false, 0, 1048575, 0⟩ from rfl]
          unfold shV
          go_wp2_with fail
          refine (zcg 85 word _ hw).mono ?_
          rw [show zbG (numP 85 0) = 20 from rfl]
          have hbl := zbw word (numP 85 0) (zcK 85 0)
          have HD1 := zhd (show decR 85 op word = ⟨op, ((zac word 7 5 : Nat) : Int), 0, 0, zbH (0) (zaZ word (numP 85 0)) 20⟩ from rfl)
          generalize zaZ word (numP 85 0) = bn at *
          have HDD : Hid (decI op word = ⟨op, ((zac word 7 5 : Nat) : Int), 0, 0, (bn : Int)⟩) := by
           rw [HD.out, HD1.out]
           have : zbH (0) bn 20 = (bn : Int) := by unfold zbH; rw [if_neg]; simp
           rw [this]; exact rfl
          obtain ⟨XX, hXX⟩ : ∃ y, y = (⟨op, ((zac word 7 5 : Nat) : Int), 0, 0, (bn : Int)⟩ : Ins) := ⟨_, rfl⟩
          have HXX := zhd hXX
          clear hXX
         case' neg =>
          by_cases hf74 : f = 74
          case' pos =>
           subst hf74
           rw [show zaI 74 = ⟨true, false, false, -1048576, 1048574, 2⟩ from rfl]
           unfold shV
           go_wp2_with fail
           refine (zcg 74 word _ hw).mono ?_
           rw [show zbG (numP 74 0) = 21 from rfl]
           have hbl := zbw word (numP 74 0) (zcK 74 0)
           have HD1 := zhd (show decR 74 op word = ⟨op, ((zac word 7 5 : Nat) : Int), 0, 0, zbH (-1048576) (zaZ word (numP 74 0)) 21⟩ from rfl)
           generalize zaZ word (numP 74 0) = bn at *
           have hbi : (0 : Int) ≤ (bn : Int) := by omega
           have hbj : (bn : Int) < 4294967296 := by omega
           cases hsg : ((bn : Int) / 1048576 != 0)
           case' false =>
            have HDD : Hid (decI op word = ⟨op, ((zac word 7 5 : Nat) : Int), 0, 0, (bn : Int)⟩) := by
             rw [HD.out, HD1.out]
             have : zbH (-1048576) bn 21 = (bn : Int) := by unfold zbH; rw [if_neg]; simp at hsg ⊢; omega
             rw [this]; exact rfl
            obtain ⟨XX, hXX⟩ : ∃ y, y = (⟨op, ((zac word 7 5 : Nat) : Int), 0, 0, (bn : Int)⟩ : Ins) := ⟨_, rfl⟩
            have HXX := zhd hXX
            clear hXX

           case' true =>
            have HDD : Hid (decI op word = ⟨op, ((zac word 7 5 : Nat) : Int), 0, 0, (bn : Int) - 2097152⟩) := by
             rw [HD.out, HD1.out]
             have : zbH (-1048576) bn 21 = (bn : Int) - 2097152 := by unfold zbH; rw [if_pos]; rfl; simp at hsg ⊢; omega
             rw [this]; exact rfl
            obtain ⟨XX, hXX⟩ : ∃ y, y = (⟨op, ((zac word 7 5 : Nat) : Int), 0, 0, (bn : Int) - 2097152⟩ : Ins) := ⟨_, rfl⟩
            have HXX := zhd hXX
            clear hXX
          case' neg =>
           by_cases hf70 : f = 70
           case' pos =>
            subst hf70
            rw [show zaI 70 = ⟨false, false, false, 0, 255, 0⟩ from rfl]
            unfold shV
            go_wp2_with fail
            refine (zcg 70 word _ hw).mono ?_
            rw [show zbG (numP 70 0) = 8 from rfl]
            have hbl := zbw word (numP 70 0) (zcK 70 0)
            have HD1 := zhd (show decR 70 op word = ⟨op, 0, 0, 0, zbH (0) (zaZ word (numP 70 0)) 8⟩ from rfl)
            generalize zaZ word (numP 70 0) = bn at *
            have HDD : Hid (decI op word = ⟨op, 0, 0, 0, (bn : Int)⟩) := by
             rw [HD.out, HD1.out]
             have : zbH (0) bn 8 = (bn : Int) := by unfold zbH; rw [if_neg]; simp
             rw [this]; exact rfl
            obtain ⟨XX, hXX⟩ : ∃ y, y = (⟨op, 0, 0, 0, (bn : Int)⟩ : Ins) := ⟨_, rfl⟩
            have HXX := zhd hXX
            clear hXX
           case' neg =>
            by_cases hf67 : f = 67
            case' pos =>
             subst hf67
             rw [show zaI 67 = ⟨true, true, false, 0, 4095, 0⟩ from rfl]
             unfold shV
             go_wp2_with fail
             refine (zcg 67 word _ hw).mono ?_
             rw [show zbG (numP 67 0) = 12 from rfl]
             have hbl := zbw word (numP 67 0) (zcK 67 0)
             have HD1 := zhd (show decR 67 op word = ⟨op, ((zac word 7 5 : Nat) : Int), ((zac word 15 5 : Nat) : Int), 0, zbH (0) (zaZ word (numP 67 0)) 12⟩ from rfl)
             generalize zaZ word (numP 67 0) = bn at *
             have HDD : Hid (decI op word = ⟨op, ((zac word 7 5 : Nat) : Int), ((zac word 15 5 : Nat) : Int), 0, (bn : Int)⟩) := by
              rw [HD.out, HD1.out]
              have : zbH (0) bn 12 = (bn : Int) := by unfold zbH; rw [if_neg]; simp
              rw [this]; exact rfl
             obtain ⟨XX, hXX⟩ : ∃ y, y = (⟨op, ((zac word 7 5 : Nat) : Int), ((zac word 15 5 : Nat) : Int), 0, (bn : Int)⟩ : Ins) := ⟨_, rfl⟩
             have HXX := zhd hXX
             clear hXX
            case' neg =>
             by_cases hf76 : f = 76
             case' pos =>
              subst hf76
              rw [show zaI 76 = ⟨true, true, false, 0, 3, 0⟩ from rfl]
              unfold shV
              go_wp2_with fail
              refine (zcg 76 word _ hw).mono ?_
              rw [show zbG (numP 76 0) = 2 from rfl]
              have hbl := zbw word (numP 76 0) (zcK 76 0)
              have HD1 := zhd (show decR 76 op word = ⟨op, ((zac word 7 5 : Nat) : Int), ((zac word 15 5 : Nat) : Int), 0, zbH (0) (zaZ word (numP 76 0)) 2⟩ from rfl)
              generalize zaZ word (numP 76 0) = bn at *
              have HDD : Hid (decI op word = ⟨op, ((zac word 7 5 : Nat) : Int), ((zac word 15 5 : Nat) : Int), 0, (bn : Int)⟩) := by
               rw [HD.out, HD1.out]
               have : zbH (0) bn 2 = (bn : Int) := by unfold zbH; rw [if_neg]; simp
               rw [this]; exact rfl
              obtain ⟨XX, hXX⟩ : ∃ y, y = (⟨op, ((zac word 7 5 : Nat) : Int), ((zac word 15 5 : Nat) : Int), 0, (bn : Int)⟩ : Ins) := ⟨_, rfl⟩
              have HXX := zhd hXX
              clear hXX
             case' neg =>
              by_cases hf65 : f = 65
              case' pos =>
               subst hf65
               rw [show zaI 65 = ⟨true, true, true, 0, 3, 0⟩ from rfl]
               unfold shV
               go_wp2_with fail
               refine (zcg 65 word _ hw).mono ?_
               rw [show zbG (numP 65 0) = 2 from rfl]
               have hbl := zbw word (numP 65 0) (zcK 65 0)
               have HD1 := zhd (show decR 65 op word = ⟨op, ((zac word 7 5 : Nat) : Int), ((zac word 15 5 : Nat) : Int), ((zac word 20 5 : Nat) : Int), zbH (0) (zaZ word (numP 65 0)) 2⟩ from rfl)
               generalize zaZ word (numP 65 0) = bn at *
               have HDD : Hid (decI op word = ⟨op, ((zac word 7 5 : Nat) : Int), ((zac word 15 5 : Nat) : Int), ((zac word 20 5 : Nat) : Int), (bn : Int)⟩) := by
                rw [HD.out, HD1.out]
                have : zbH (0) bn 2 = (bn : Int) := by unfold zbH; rw [if_neg]; simp
                rw [this]; exact rfl
               obtain ⟨XX, hXX⟩ : ∃ y, y = (⟨op, ((zac word 7 5 : Nat) : Int), ((zac word 15 5 : Nat) : Int), ((zac word 20 5 : Nat) : Int), (bn : Int)⟩ : Ins) := ⟨_, rfl⟩
               have HXX := zhd hXX
               clear hXX
              case' neg =>
               have hsh : zaI f = ⟨false, false, false, 0, 0, 0⟩ := by simp [zaI, hf82, hf73, hf72, hf83, hf66, hf85, hf74, hf70, hf67, hf76, hf65]
               have hnm : numP f 0 = [] := by simp [numP, hf73, hf72, hf83, hf66, hf85, hf74, hf70, hf67, hf76, hf65]
               rw [hsh]
               unfold shV
               go_wp2_with fail
               refine (zcg f word _ hw).mono ?_
               rw [hnm]
               rw [show zbG [] = 0 from rfl, show zaZ word [] = 0 from rfl]
               have HDD : Hid (decI op word = ⟨op, 0, 0, 0, 0⟩) := by
                rw [HD.out]; unfold decR; rw [hsh, hnm]; rfl
               clear hsh hnm hf82 hf73 hf72 hf83 hf66 hf85 hf74 hf70 hf67 hf76 hf65
               obtain ⟨XX, hXX⟩ : ∃ y, y = (⟨op, 0, 0, 0, 0⟩ : Ins) := ⟨_, rfl⟩
               have HXX := zhd hXX
               clear hXX
    all_goals
     rintro e w3 ⟨rfl, hb3⟩
     obtain ⟨c3, f3⟩ := za8 hb3
     have z3 : w2.heap.size + 1 < w3.heap.size := by have := hb3.size; simp at this; omega
     have z3x : w.heap.size < w3.heap.size := by omega
     have z3y : w1.heap.size < w3.heap.size := by omega
     have z3z : w2.heap.size < w3.heap.size := by omega
     go_wp2_with (go_at_call 150; (first | ((with_reducible refine (field_7 word _ hw).mono ?_); rintro e w5 ⟨rfl, hb5⟩; obtain ⟨c5, f5⟩ := za8 hb5; have s5 := hb5.size; simp at s5; have y5 : w2.heap.size + 1 < w5.heap.size := (by omega); have y5x : w.heap.size < w5.heap.size := (by omega); have y5y : w1.heap.size < w5.heap.size := (by omega); have y5z : w2.heap.size < w5.heap.size := (by omega)) | ((with_reducible refine (field_15 word _ hw).mono ?_); rintro e w6 ⟨rfl, hb6⟩; obtain ⟨c6, f6⟩ := za8 hb6; have s6 := hb6.size; simp at s6; have y6 : w2.heap.size + 1 < w6.heap.size := (by omega); have y6x : w.heap.size < w6.heap.size := (by omega); have y6y : w1.heap.size < w6.heap.size := (by omega); have y6z : w2.heap.size < w6.heap.size := (by omega)) | ((with_reducible refine (field_20 word _ hw).mono ?_); rintro e w7 ⟨rfl, hb7⟩; obtain ⟨c7, f7⟩ := za8 hb7; have s7 := hb7.size; simp at s7; have y7 : w2.heap.size + 1 < w7.heap.size := (by omega); have y7x : w.heap.size < w7.heap.size := (by omega); have y7y : w1.heap.size < w7.heap.size := (by omega); have y7z : w2.heap.size < w7.heap.size := (by omega))))
     refine (zmz _ (decI op word) _ (by rw [HDD.out]; rfl)).mono ?_
     rintro e w8 ⟨rfl, hb8⟩
     obtain ⟨c8, f8⟩ := za8 hb8
     have s8 := hb8.size
     simp at s8
     have y8 : w2.heap.size + 1 < w8.heap.size := by omega
     have y8x : w.heap.size < w8.heap.size := by omega
     have hk := zaq (w := wr) (w' := w8) (B := wr.heap.size) (by repeat (first | (with_reducible first | exact Below.refl _ _ | refine zaj ?_ ?_ _ | apply zag | refine zae ?_ (by assumption) | apply zak) | omega)) ltx HX.out
     have HK := zhd hk
     clear hk
     try clear hsg hbi hbj
     have hh0 : zgx word op = (encE (decI op word) == 0 && encV (decI op word) == (word : Int)) := rfl
     cases hh1 : (encE (decI op word) == 0) <;> cases hh2 : (encV (decI op word) == (word : Int))
     all_goals
      rw [hh1, hh2] at hh0
      have HH := zhd hh0
      clear hh0
      generalize encE (decI op word) = ee at *
      generalize encV (decI op word) = ev at *
      go_wp2_with fail
      first
       | (refine ⟨⟨op + 1, by omega, by omega, by go_num, fun o h1 h2 => ?_, HK.out, (by repeat (first | (with_reducible first | exact Below.refl _ _ | refine zaj ?_ ?_ _ | apply zag | refine zae ?_ (by assumption) | apply zak) | omega))⟩, by simp [intOf]; omega⟩; by_cases ho : o = op; (subst ho; exact HH.out); (exact HNO.out o h1 (by omega)))
       | ((try simp only [Exit.inBlock, Exit.then]); have k0 : w8.cell? ⟨w.heap.size, 0, none⟩ = some (.int .i64 0) := zad HK.out rfl; have k1 : w8.cell? ⟨w.heap.size, 1, none⟩ = some (.int .i64 0) := zad HK.out rfl; have k2 : w8.cell? ⟨w.heap.size, 2, none⟩ = some (.int .i64 0) := zad HK.out rfl; have k3 : w8.cell? ⟨w.heap.size, 3, none⟩ = some (.int .i64 0) := zad HK.out rfl; have k4 : w8.cell? ⟨w.heap.size, 4, none⟩ = some (.int .i64 0) := zad HK.out rfl; obtain ⟨d1, d2⟩ := dec_hit (by omega) HH.out HNO.out; rw [HDD.out] at d1; refine bodyPost_ret (v := .tuple #[insV XX, .int .i64 0]) (by simp [results, Tryz.results108, go_sem, insV, HXX.out, k0, k1, k2, k3, k4]) rfl ⟨by rw [d1, d2, HXX.out], (by repeat (first | (with_reducible first | exact Below.refl _ _ | refine zaj ?_ ?_ _ | apply zag | refine zae ?_ (by assumption) | apply zak) | omega))⟩)
  · have hop : op = 50 := by omega
    subst hop
    obtain ⟨d1, d2⟩ := dec_none (fun o h1 h2 => HNO.out o h1 h2)
    clear hno hx
    have HD1 := zhd d1; have HD2 := zhd d2
    clear d1 d2
    go_wp2_with fail
    try simp only [Exit.inBlock, Exit.then]
    refine bodyPost_ret (v := .tuple #[insV zdt, .int .i64 20]) (by simp [results, Tryz.results108, go_sem, insV, zdt, k0, k1, k2, k3, k4]) rfl ⟨by rw [HD1.out, HD2.out], (by repeat (first | (with_reducible first | exact Below.refl _ _ | refine zaj ?_ ?_ _ | apply zag | refine zae ?_ (by assumption) | apply zak) | omega))⟩
end
section
open Go.RowKit
theorem ins_iff (x y : Ins) : (x.op = y.op ∧ x.d = y.d ∧ x.a = y.a ∧ x.b = y.b ∧ x.n = y.n) ↔ x = y := by
 obtain ⟨a, b, c, d, e⟩ := x
 obtain ⟨a', b', c', d', e'⟩ := y
 simp
instance : DecidableEq Ins := fun x y => decidable_of_iff _ (ins_iff x y)
def dX (z : Int) : Ins := if 0 ≤ z ∧ z < 4294967296 then decX z.toNat else zdt
def dE (z : Int) : Int := if 0 ≤ z ∧ z < 4294967296 then decE z.toNat else 20
theorem zkD (z : Int) (w : World) (h : I64 z) :
 Calls Tryz.prog 108 #[.int .i64 z] w fun e w' => e = .returned (.tuple #[insV (dX z), .int .i64 (dE z)]) ∧ Below w.heap.size w w' := by
 unfold dX dE
 by_cases hz : 0 ≤ z ∧ z < 4294967296
 · rw [if_pos hz, if_pos hz]
   have := ziM z.toNat w (by omega)
   rw [show ((z.toNat : Nat) : Int) = z by omega] at this
   exact this
 · rw [if_neg hz, if_neg hz]
   exact zkC z w h (by omega)
end
end Go.Proofs.YtdobddiibgfeaaaGreat
