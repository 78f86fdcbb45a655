/-
  No cell of these rows narrows 'for every input' (looked for: loops, veiled, ifaces, maps, wideKeys, modest, calm, conditions, laid).
  DERIVED. THE GIVEN ROWS OF THIS SEAT. 7 by the template 'for every input the law returns true; each argument reads behind the call as it read before'; 0 by the template 'total and deterministic' (their statements: YtdobddiibgfeaaaGreatTotals.lean).
  GIVEN WITH THE SEED: the statements are not yours to turn. If you find one false, say at which input.
  Laid BY PROGRAM, IN A SANDBOX (cutbox-rows.mjs): the forced cells as the released guide's own fill.sh prints them over the translation c8ae8041b0605494… (all of the seat's roots in one cut). By AI agents, Wed Nov 11 2026. No macro, syntax, notation, axiom, sorry.
-/
import Derived.Test.YtdobddiibgfeaaaGreatChecked
import GoSem.Claim
import GoSem.ClaimJoined
import GoSem.ClaimMapViews
import Derived.JoinedTies
import Derived.KernelRfl
namespace Go.Proofs.YtdobddiibgfeaaaGreat
/- THE CELL 'sum', in the pinned program and in every row, IS THE sha256 OF THE DUMP (.gsa) THAT YtdobddiibgfeaaaGreatProg.lean LOADS. Nothing in Lean hashes anything: it is a label: what it is worth is what the hold of that sum in a sandbox is worth. -/
noncomputable def Tryz.pinned : Pinned := { name := "ytdobddiibgfeaaagreat", sum := "c8ae8041b06054942e1493a6450c041721a0529329dde4bb6df964f71552d8c4", checked := Tryz.checked }
namespace Rows
def none {H : Type} : Left H := { results := [], args := [] }

/-- 'headstocklaw15.MachineTells': WHATEVER THE INPUT: true; the input reads as it did. -/
def machineTellsSpec : ChangeSpec := { name := "machineTells", fn := fun _ => fun
  | [d1, d2, d3, d4, d5, d6] => { results := [.lit (.bool true)], args := [d1, d2, d3, d4, d5, d6] }
  | _ => none }
def machineTellsRow : OpenClaim := { program := "ytdobddiibgfeaaagreat", sum := "c8ae8041b06054942e1493a6450c041721a0529329dde4bb6df964f71552d8c4", func := "headstock/headstocklaw15.MachineTells", spec := "machineTells", unfollowed := true, recurses := true, apart := false }
def MachineTellsSaid : Prop := machineTellsRow.holds Tryz.pinned (OpenSpec.ofChange machineTellsSpec)

/-- ITS FALSE NEIGHBOUR: 'it returns false'. Refute it at one input. -/
def machineTellsWrong : ChangeSpec := { name := "machineTells", fn := fun _ => fun
  | [d1, d2, d3, d4, d5, d6] => { results := [.lit (.bool false)], args := [d1, d2, d3, d4, d5, d6] }
  | _ => none }
def MachineTellsWrongFalsely : Prop := machineTellsRow.holds Tryz.pinned (OpenSpec.ofChange machineTellsWrong)

/-- 'headstocklaw15.MachineApart': WHATEVER THE INPUT: true; the input reads as it did. -/
def machineApartSpec : ChangeSpec := { name := "machineApart", fn := fun _ => fun
  | [d1, d2, d3] => { results := [.lit (.bool true)], args := [d1, d2, d3] }
  | _ => none }
def machineApartRow : OpenClaim := { program := "ytdobddiibgfeaaagreat", sum := "c8ae8041b06054942e1493a6450c041721a0529329dde4bb6df964f71552d8c4", func := "headstock/headstocklaw15.MachineApart", spec := "machineApart", unfollowed := true, recurses := true, apart := false }
def MachineApartSaid : Prop := machineApartRow.holds Tryz.pinned (OpenSpec.ofChange machineApartSpec)

/-- ITS FALSE NEIGHBOUR: 'it returns false'. Refute it at one input. -/
def machineApartWrong : ChangeSpec := { name := "machineApart", fn := fun _ => fun
  | [d1, d2, d3] => { results := [.lit (.bool false)], args := [d1, d2, d3] }
  | _ => none }
def MachineApartWrongFalsely : Prop := machineApartRow.holds Tryz.pinned (OpenSpec.ofChange machineApartWrong)

/-- 'headstocklaw15.MachineTurns': WHATEVER THE INPUT: true; the input reads as it did. -/
def machineTurnsSpec : ChangeSpec := { name := "machineTurns", fn := fun _ => fun
  | [d1, d2, d3, d4, d5] => { results := [.lit (.bool true)], args := [d1, d2, d3, d4, d5] }
  | _ => none }
def machineTurnsRow : OpenClaim := { program := "ytdobddiibgfeaaagreat", sum := "c8ae8041b06054942e1493a6450c041721a0529329dde4bb6df964f71552d8c4", func := "headstock/headstocklaw15.MachineTurns", spec := "machineTurns", unfollowed := true, recurses := true, apart := false }
def MachineTurnsSaid : Prop := machineTurnsRow.holds Tryz.pinned (OpenSpec.ofChange machineTurnsSpec)

/-- ITS FALSE NEIGHBOUR: 'it returns false'. Refute it at one input. -/
def machineTurnsWrong : ChangeSpec := { name := "machineTurns", fn := fun _ => fun
  | [d1, d2, d3, d4, d5] => { results := [.lit (.bool false)], args := [d1, d2, d3, d4, d5] }
  | _ => none }
def MachineTurnsWrongFalsely : Prop := machineTurnsRow.holds Tryz.pinned (OpenSpec.ofChange machineTurnsWrong)

/-- 'headstocklaw15.MachineLets': WHATEVER THE INPUT: true; the input reads as it did. -/
def machineLetsSpec : ChangeSpec := { name := "machineLets", fn := fun _ => fun
  | [d1, d2, d3, d4] => { results := [.lit (.bool true)], args := [d1, d2, d3, d4] }
  | _ => none }
def machineLetsRow : OpenClaim := { program := "ytdobddiibgfeaaagreat", sum := "c8ae8041b06054942e1493a6450c041721a0529329dde4bb6df964f71552d8c4", func := "headstock/headstocklaw15.MachineLets", spec := "machineLets", unfollowed := true, recurses := true, apart := false }
def MachineLetsSaid : Prop := machineLetsRow.holds Tryz.pinned (OpenSpec.ofChange machineLetsSpec)

/-- ITS FALSE NEIGHBOUR: 'it returns false'. Refute it at one input. -/
def machineLetsWrong : ChangeSpec := { name := "machineLets", fn := fun _ => fun
  | [d1, d2, d3, d4] => { results := [.lit (.bool false)], args := [d1, d2, d3, d4] }
  | _ => none }
def MachineLetsWrongFalsely : Prop := machineLetsRow.holds Tryz.pinned (OpenSpec.ofChange machineLetsWrong)

/-- 'headstocklaw15.MachineCuts': WHATEVER THE INPUT: true; the input reads as it did. -/
def machineCutsSpec : ChangeSpec := { name := "machineCuts", fn := fun _ => fun
  | [d1, d2, d3, d4] => { results := [.lit (.bool true)], args := [d1, d2, d3, d4] }
  | _ => none }
def machineCutsRow : OpenClaim := { program := "ytdobddiibgfeaaagreat", sum := "c8ae8041b06054942e1493a6450c041721a0529329dde4bb6df964f71552d8c4", func := "headstock/headstocklaw15.MachineCuts", spec := "machineCuts", unfollowed := true, recurses := true, apart := false }
def MachineCutsSaid : Prop := machineCutsRow.holds Tryz.pinned (OpenSpec.ofChange machineCutsSpec)

/-- ITS FALSE NEIGHBOUR: 'it returns false'. Refute it at one input. -/
def machineCutsWrong : ChangeSpec := { name := "machineCuts", fn := fun _ => fun
  | [d1, d2, d3, d4] => { results := [.lit (.bool false)], args := [d1, d2, d3, d4] }
  | _ => none }
def MachineCutsWrongFalsely : Prop := machineCutsRow.holds Tryz.pinned (OpenSpec.ofChange machineCutsWrong)

/-- 'headstocklaw15.MachineSums': WHATEVER THE INPUT: true; the input reads as it did. -/
def machineSumsSpec : ChangeSpec := { name := "machineSums", fn := fun _ => fun
  | [d1, d2, d3, d4] => { results := [.lit (.bool true)], args := [d1, d2, d3, d4] }
  | _ => none }
def machineSumsRow : OpenClaim := { program := "ytdobddiibgfeaaagreat", sum := "c8ae8041b06054942e1493a6450c041721a0529329dde4bb6df964f71552d8c4", func := "headstock/headstocklaw15.MachineSums", spec := "machineSums", unfollowed := true, recurses := true, apart := false }
def MachineSumsSaid : Prop := machineSumsRow.holds Tryz.pinned (OpenSpec.ofChange machineSumsSpec)

/-- ITS FALSE NEIGHBOUR: 'it returns false'. Refute it at one input. -/
def machineSumsWrong : ChangeSpec := { name := "machineSums", fn := fun _ => fun
  | [d1, d2, d3, d4] => { results := [.lit (.bool false)], args := [d1, d2, d3, d4] }
  | _ => none }
def MachineSumsWrongFalsely : Prop := machineSumsRow.holds Tryz.pinned (OpenSpec.ofChange machineSumsWrong)

/-- 'headstocklaw15.MachineEnds': WHATEVER THE INPUT: true; the input reads as it did. -/
def machineEndsSpec : ChangeSpec := { name := "machineEnds", fn := fun _ => fun
  | [d1, d2, d3, d4] => { results := [.lit (.bool true)], args := [d1, d2, d3, d4] }
  | _ => none }
def machineEndsRow : OpenClaim := { program := "ytdobddiibgfeaaagreat", sum := "c8ae8041b06054942e1493a6450c041721a0529329dde4bb6df964f71552d8c4", func := "headstock/headstocklaw15.MachineEnds", spec := "machineEnds", unfollowed := true, recurses := true, apart := false }
def MachineEndsSaid : Prop := machineEndsRow.holds Tryz.pinned (OpenSpec.ofChange machineEndsSpec)

/-- ITS FALSE NEIGHBOUR: 'it returns false'. Refute it at one input. -/
def machineEndsWrong : ChangeSpec := { name := "machineEnds", fn := fun _ => fun
  | [d1, d2, d3, d4] => { results := [.lit (.bool false)], args := [d1, d2, d3, d4] }
  | _ => none }
def MachineEndsWrongFalsely : Prop := machineEndsRow.holds Tryz.pinned (OpenSpec.ofChange machineEndsWrong)

/- THE SECOND FORM. 'bulk': how many values and letters a reading holds, each counted each time it is reached (what is shared counts as often as it is met; a slice's spare places count too). A statement '..UptoSaid' is the law's where the arguments, and the package variables that the reading takes, are together of bulk at most 1048576: NARROWER than '..Said'. Prove '..Said' where nothing that the law and all that it calls make is longer than what came in: it says more and counts as full. Else prove '..UptoSaid'. A law counts once. -/
mutual
def uptoBulk {H : Type} : DataW H → Nat
  | .lit (.string bytes) => bytes.length + 1
  | .lit _ => 1
  | .nil => 1
  | .ptr d => uptoBulk d + 1
  | .slice elems spare => uptoBulkAll elems + uptoBulkAll spare + 1
  | .agg parts => uptoBulkAll parts + 1
  | .iface _ d => uptoBulk d + 1
  | .map entries => uptoBulkEntries entries + 1
  | .held _ => 1
def uptoBulkAll {H : Type} : List (DataW H) → Nat
  | [] => 0
  | d :: r => uptoBulk d + uptoBulkAll r
def uptoBulkEntries {H : Type} : List (Lit × DataW H) → Nat
  | [] => 0
  | x :: r => uptoBulkEntry x + uptoBulkEntries r
def uptoBulkEntry {H : Type} : Lit × DataW H → Nat
  | (.string bytes, d) => bytes.length + uptoBulk d + 1
  | (_, d) => uptoBulk d + 1
 end
def uptoSmall : (H : Type) → List (DataW H) → Bool := fun _ ds => decide (uptoBulkAll ds ≤ 1048576)
def OpenSpec.upto (s : _root_.Go.ChangeSpec) : _root_.Go.OpenSpec := { _root_.Go.OpenSpec.ofChange s with cond := some uptoSmall }

/-- 'headstocklaw15.MachineTells', WHERE WHAT IT READS IS OF BULK AT MOST 1048576: true; the input reads as it did. -/
def machineTellsUptoRow : OpenClaim := { program := "ytdobddiibgfeaaagreat", sum := "c8ae8041b06054942e1493a6450c041721a0529329dde4bb6df964f71552d8c4", func := "headstock/headstocklaw15.MachineTells", spec := "machineTells", unfollowed := true, recurses := true, apart := false, narrowed := true }
def MachineTellsUptoSaid : Prop := machineTellsUptoRow.holds Tryz.pinned (OpenSpec.upto machineTellsSpec)

/-- 'headstocklaw15.MachineApart', WHERE WHAT IT READS IS OF BULK AT MOST 1048576: true; the input reads as it did. -/
def machineApartUptoRow : OpenClaim := { program := "ytdobddiibgfeaaagreat", sum := "c8ae8041b06054942e1493a6450c041721a0529329dde4bb6df964f71552d8c4", func := "headstock/headstocklaw15.MachineApart", spec := "machineApart", unfollowed := true, recurses := true, apart := false, narrowed := true }
def MachineApartUptoSaid : Prop := machineApartUptoRow.holds Tryz.pinned (OpenSpec.upto machineApartSpec)

/-- 'headstocklaw15.MachineTurns', WHERE WHAT IT READS IS OF BULK AT MOST 1048576: true; the input reads as it did. -/
def machineTurnsUptoRow : OpenClaim := { program := "ytdobddiibgfeaaagreat", sum := "c8ae8041b06054942e1493a6450c041721a0529329dde4bb6df964f71552d8c4", func := "headstock/headstocklaw15.MachineTurns", spec := "machineTurns", unfollowed := true, recurses := true, apart := false, narrowed := true }
def MachineTurnsUptoSaid : Prop := machineTurnsUptoRow.holds Tryz.pinned (OpenSpec.upto machineTurnsSpec)

/-- 'headstocklaw15.MachineLets', WHERE WHAT IT READS IS OF BULK AT MOST 1048576: true; the input reads as it did. -/
def machineLetsUptoRow : OpenClaim := { program := "ytdobddiibgfeaaagreat", sum := "c8ae8041b06054942e1493a6450c041721a0529329dde4bb6df964f71552d8c4", func := "headstock/headstocklaw15.MachineLets", spec := "machineLets", unfollowed := true, recurses := true, apart := false, narrowed := true }
def MachineLetsUptoSaid : Prop := machineLetsUptoRow.holds Tryz.pinned (OpenSpec.upto machineLetsSpec)

/-- 'headstocklaw15.MachineCuts', WHERE WHAT IT READS IS OF BULK AT MOST 1048576: true; the input reads as it did. -/
def machineCutsUptoRow : OpenClaim := { program := "ytdobddiibgfeaaagreat", sum := "c8ae8041b06054942e1493a6450c041721a0529329dde4bb6df964f71552d8c4", func := "headstock/headstocklaw15.MachineCuts", spec := "machineCuts", unfollowed := true, recurses := true, apart := false, narrowed := true }
def MachineCutsUptoSaid : Prop := machineCutsUptoRow.holds Tryz.pinned (OpenSpec.upto machineCutsSpec)

/-- 'headstocklaw15.MachineSums', WHERE WHAT IT READS IS OF BULK AT MOST 1048576: true; the input reads as it did. -/
def machineSumsUptoRow : OpenClaim := { program := "ytdobddiibgfeaaagreat", sum := "c8ae8041b06054942e1493a6450c041721a0529329dde4bb6df964f71552d8c4", func := "headstock/headstocklaw15.MachineSums", spec := "machineSums", unfollowed := true, recurses := true, apart := false, narrowed := true }
def MachineSumsUptoSaid : Prop := machineSumsUptoRow.holds Tryz.pinned (OpenSpec.upto machineSumsSpec)

/-- 'headstocklaw15.MachineEnds', WHERE WHAT IT READS IS OF BULK AT MOST 1048576: true; the input reads as it did. -/
def machineEndsUptoRow : OpenClaim := { program := "ytdobddiibgfeaaagreat", sum := "c8ae8041b06054942e1493a6450c041721a0529329dde4bb6df964f71552d8c4", func := "headstock/headstocklaw15.MachineEnds", spec := "machineEnds", unfollowed := true, recurses := true, apart := false, narrowed := true }
def MachineEndsUptoSaid : Prop := machineEndsUptoRow.holds Tryz.pinned (OpenSpec.upto machineEndsSpec)

end Rows
end Go.Proofs.YtdobddiibgfeaaaGreat
