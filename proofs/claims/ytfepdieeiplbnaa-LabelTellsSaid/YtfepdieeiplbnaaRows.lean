/-
  No cell of these rows narrows 'for every input' (looked for: loops, veiled, ifaces, maps, wideKeys, modest, calm, conditions, laid).
  DERIVED. THE GIVEN ROWS OF THIS SEAT. 8 by the template 'for every input the law returns true; each argument reads behind the call as it read before'; 0 by the template 'total and deterministic' (their statements: YtfepdieeiplbnaaTotals.lean).
  GIVEN WITH THE SEED: the statements are not yours to turn. If you find one false, say at which input.
  Laid BY PROGRAM, IN A SANDBOX (cutbox-rows.mjs): the forced cells as the released guide's own fill.sh prints them over the translation a382040242874589… (all of the seat's roots in one cut). By AI agents, Wed Nov 11 2026. No macro, syntax, notation, axiom, sorry.
-/
import Derived.Test.YtfepdieeiplbnaaChecked
import GoSem.Claim
import GoSem.ClaimJoined
import GoSem.ClaimMapViews
import Derived.JoinedTies
import Derived.KernelRfl
namespace Go.Proofs.Ytfepdieeiplbnaa
/- THE CELL 'sum', in the pinned program and in every row, IS THE sha256 OF THE DUMP (.gsa) THAT YtfepdieeiplbnaaProg.lean LOADS. Nothing in Lean hashes anything: it is a label: what it is worth is what the hold of that sum in a sandbox is worth. -/
noncomputable def Try.pinned : Pinned := { name := "ytfepdieeiplbnaa", sum := "a38204024287458971c4adc1fe6c66d368d72195fb65f0c08a1e175414cdcfc8", checked := Try.checked }
namespace Rows
def none {H : Type} : Left H := { results := [], args := [] }

/-- 'headstocklaw03.LabelTells': WHATEVER THE INPUT: true; the input reads as it did. -/
def labelTellsSpec : ChangeSpec := { name := "labelTells", fn := fun _ => fun
  | [d1, d2, d3, d4, d5, d6, d7] => { results := [.lit (.bool true)], args := [d1, d2, d3, d4, d5, d6, d7] }
  | _ => none }
def labelTellsRow : OpenClaim := { program := "ytfepdieeiplbnaa", sum := "a38204024287458971c4adc1fe6c66d368d72195fb65f0c08a1e175414cdcfc8", func := "headstock/headstocklaw03.LabelTells", spec := "labelTells", apart := false }
def LabelTellsSaid : Prop := labelTellsRow.holds Try.pinned (OpenSpec.ofChange labelTellsSpec)

/-- ITS FALSE NEIGHBOUR: 'it returns false'. Refute it at one input. -/
def labelTellsWrong : ChangeSpec := { name := "labelTells", fn := fun _ => fun
  | [d1, d2, d3, d4, d5, d6, d7] => { results := [.lit (.bool false)], args := [d1, d2, d3, d4, d5, d6, d7] }
  | _ => none }
def LabelTellsWrongFalsely : Prop := labelTellsRow.holds Try.pinned (OpenSpec.ofChange labelTellsWrong)

/-- 'headstocklaw03.LabelShort': WHATEVER THE INPUT: true; the input reads as it did. -/
def labelShortSpec : ChangeSpec := { name := "labelShort", fn := fun _ => fun
  | [d] => { results := [.lit (.bool true)], args := [d] }
  | _ => none }
def labelShortRow : OpenClaim := { program := "ytfepdieeiplbnaa", sum := "a38204024287458971c4adc1fe6c66d368d72195fb65f0c08a1e175414cdcfc8", func := "headstock/headstocklaw03.LabelShort", spec := "labelShort", apart := false }
def LabelShortSaid : Prop := labelShortRow.holds Try.pinned (OpenSpec.ofChange labelShortSpec)

/-- ITS FALSE NEIGHBOUR: 'it returns false'. Refute it at one input. -/
def labelShortWrong : ChangeSpec := { name := "labelShort", fn := fun _ => fun
  | [d] => { results := [.lit (.bool false)], args := [d] }
  | _ => none }
def LabelShortWrongFalsely : Prop := labelShortRow.holds Try.pinned (OpenSpec.ofChange labelShortWrong)

/-- 'headstocklaw03.LabelWrong': WHATEVER THE INPUT: true; the input reads as it did. -/
def labelWrongSpec : ChangeSpec := { name := "labelWrong", fn := fun _ => fun
  | [d1, d2, d3] => { results := [.lit (.bool true)], args := [d1, d2, d3] }
  | _ => none }
def labelWrongRow : OpenClaim := { program := "ytfepdieeiplbnaa", sum := "a38204024287458971c4adc1fe6c66d368d72195fb65f0c08a1e175414cdcfc8", func := "headstock/headstocklaw03.LabelWrong", spec := "labelWrong", apart := false }
def LabelWrongSaid : Prop := labelWrongRow.holds Try.pinned (OpenSpec.ofChange labelWrongSpec)

/-- ITS FALSE NEIGHBOUR: 'it returns false'. Refute it at one input. -/
def labelWrongWrong : ChangeSpec := { name := "labelWrong", fn := fun _ => fun
  | [d1, d2, d3] => { results := [.lit (.bool false)], args := [d1, d2, d3] }
  | _ => none }
def LabelWrongWrongFalsely : Prop := labelWrongRow.holds Try.pinned (OpenSpec.ofChange labelWrongWrong)

/-- 'headstocklaw03.LabelMoved': WHATEVER THE INPUT: true; the input reads as it did. -/
def labelMovedSpec : ChangeSpec := { name := "labelMoved", fn := fun _ => fun
  | [d1, d2] => { results := [.lit (.bool true)], args := [d1, d2] }
  | _ => none }
def labelMovedRow : OpenClaim := { program := "ytfepdieeiplbnaa", sum := "a38204024287458971c4adc1fe6c66d368d72195fb65f0c08a1e175414cdcfc8", func := "headstock/headstocklaw03.LabelMoved", spec := "labelMoved", apart := false }
def LabelMovedSaid : Prop := labelMovedRow.holds Try.pinned (OpenSpec.ofChange labelMovedSpec)

/-- ITS FALSE NEIGHBOUR: 'it returns false'. Refute it at one input. -/
def labelMovedWrong : ChangeSpec := { name := "labelMoved", fn := fun _ => fun
  | [d1, d2] => { results := [.lit (.bool false)], args := [d1, d2] }
  | _ => none }
def LabelMovedWrongFalsely : Prop := labelMovedRow.holds Try.pinned (OpenSpec.ofChange labelMovedWrong)

/-- 'headstocklaw03.LabelIdle': WHATEVER THE INPUT: true; the input reads as it did. -/
def labelIdleSpec : ChangeSpec := { name := "labelIdle", fn := fun _ => fun
  | [d1, d2] => { results := [.lit (.bool true)], args := [d1, d2] }
  | _ => none }
def labelIdleRow : OpenClaim := { program := "ytfepdieeiplbnaa", sum := "a38204024287458971c4adc1fe6c66d368d72195fb65f0c08a1e175414cdcfc8", func := "headstock/headstocklaw03.LabelIdle", spec := "labelIdle", apart := false }
def LabelIdleSaid : Prop := labelIdleRow.holds Try.pinned (OpenSpec.ofChange labelIdleSpec)

/-- ITS FALSE NEIGHBOUR: 'it returns false'. Refute it at one input. -/
def labelIdleWrong : ChangeSpec := { name := "labelIdle", fn := fun _ => fun
  | [d1, d2] => { results := [.lit (.bool false)], args := [d1, d2] }
  | _ => none }
def LabelIdleWrongFalsely : Prop := labelIdleRow.holds Try.pinned (OpenSpec.ofChange labelIdleWrong)

/-- 'headstocklaw03.LabelLeads': WHATEVER THE INPUT: true; the input reads as it did. -/
def labelLeadsSpec : ChangeSpec := { name := "labelLeads", fn := fun _ => fun
  | [d] => { results := [.lit (.bool true)], args := [d] }
  | _ => none }
def labelLeadsRow : OpenClaim := { program := "ytfepdieeiplbnaa", sum := "a38204024287458971c4adc1fe6c66d368d72195fb65f0c08a1e175414cdcfc8", func := "headstock/headstocklaw03.LabelLeads", spec := "labelLeads", apart := false }
def LabelLeadsSaid : Prop := labelLeadsRow.holds Try.pinned (OpenSpec.ofChange labelLeadsSpec)

/-- ITS FALSE NEIGHBOUR: 'it returns false'. Refute it at one input. -/
def labelLeadsWrong : ChangeSpec := { name := "labelLeads", fn := fun _ => fun
  | [d] => { results := [.lit (.bool false)], args := [d] }
  | _ => none }
def LabelLeadsWrongFalsely : Prop := labelLeadsRow.holds Try.pinned (OpenSpec.ofChange labelLeadsWrong)

/-- 'headstocklaw03.LabelBetween': WHATEVER THE INPUT: true; the input reads as it did. -/
def labelBetweenSpec : ChangeSpec := { name := "labelBetween", fn := fun _ => fun
  | [d] => { results := [.lit (.bool true)], args := [d] }
  | _ => none }
def labelBetweenRow : OpenClaim := { program := "ytfepdieeiplbnaa", sum := "a38204024287458971c4adc1fe6c66d368d72195fb65f0c08a1e175414cdcfc8", func := "headstock/headstocklaw03.LabelBetween", spec := "labelBetween", apart := false }
def LabelBetweenSaid : Prop := labelBetweenRow.holds Try.pinned (OpenSpec.ofChange labelBetweenSpec)

/-- ITS FALSE NEIGHBOUR: 'it returns false'. Refute it at one input. -/
def labelBetweenWrong : ChangeSpec := { name := "labelBetween", fn := fun _ => fun
  | [d] => { results := [.lit (.bool false)], args := [d] }
  | _ => none }
def LabelBetweenWrongFalsely : Prop := labelBetweenRow.holds Try.pinned (OpenSpec.ofChange labelBetweenWrong)

/-- 'headstocklaw03.LabelNumbers': WHATEVER THE INPUT: true; the input reads as it did. -/
def labelNumbersSpec : ChangeSpec := { name := "labelNumbers", fn := fun _ => fun
  | [d1, d2] => { results := [.lit (.bool true)], args := [d1, d2] }
  | _ => none }
def labelNumbersRow : OpenClaim := { program := "ytfepdieeiplbnaa", sum := "a38204024287458971c4adc1fe6c66d368d72195fb65f0c08a1e175414cdcfc8", func := "headstock/headstocklaw03.LabelNumbers", spec := "labelNumbers", apart := false }
def LabelNumbersSaid : Prop := labelNumbersRow.holds Try.pinned (OpenSpec.ofChange labelNumbersSpec)

/-- ITS FALSE NEIGHBOUR: 'it returns false'. Refute it at one input. -/
def labelNumbersWrong : ChangeSpec := { name := "labelNumbers", fn := fun _ => fun
  | [d1, d2] => { results := [.lit (.bool false)], args := [d1, d2] }
  | _ => none }
def LabelNumbersWrongFalsely : Prop := labelNumbersRow.holds Try.pinned (OpenSpec.ofChange labelNumbersWrong)

/- THE SECOND FORM. 'bulk': how many values and letters a reading holds, each counted each time it is reached (what is shared counts as often as it is met; a slice's spare places count too). A statement '..UptoSaid' is the law's where the arguments, and the package variables that the reading takes, are together of bulk at most 1048576: NARROWER than '..Said'. Prove '..Said' where nothing that the law and all that it calls make is longer than what came in: it says more and counts as full. Else prove '..UptoSaid'. A law counts once. -/
mutual
def uptoBulk {H : Type} : DataW H → Nat
  | .lit (.string bytes) => bytes.length + 1
  | .lit _ => 1
  | .nil => 1
  | .ptr d => uptoBulk d + 1
  | .slice elems spare => uptoBulkAll elems + uptoBulkAll spare + 1
  | .agg parts => uptoBulkAll parts + 1
  | .iface _ d => uptoBulk d + 1
  | .map entries => uptoBulkEntries entries + 1
  | .held _ => 1
def uptoBulkAll {H : Type} : List (DataW H) → Nat
  | [] => 0
  | d :: r => uptoBulk d + uptoBulkAll r
def uptoBulkEntries {H : Type} : List (Lit × DataW H) → Nat
  | [] => 0
  | x :: r => uptoBulkEntry x + uptoBulkEntries r
def uptoBulkEntry {H : Type} : Lit × DataW H → Nat
  | (.string bytes, d) => bytes.length + uptoBulk d + 1
  | (_, d) => uptoBulk d + 1
 end
def uptoSmall : (H : Type) → List (DataW H) → Bool := fun _ ds => decide (uptoBulkAll ds ≤ 1048576)
def OpenSpec.upto (s : _root_.Go.ChangeSpec) : _root_.Go.OpenSpec := { _root_.Go.OpenSpec.ofChange s with cond := some uptoSmall }

/-- 'headstocklaw03.LabelTells', WHERE WHAT IT READS IS OF BULK AT MOST 1048576: true; the input reads as it did. -/
def labelTellsUptoRow : OpenClaim := { program := "ytfepdieeiplbnaa", sum := "a38204024287458971c4adc1fe6c66d368d72195fb65f0c08a1e175414cdcfc8", func := "headstock/headstocklaw03.LabelTells", spec := "labelTells", apart := false, narrowed := true }
def LabelTellsUptoSaid : Prop := labelTellsUptoRow.holds Try.pinned (OpenSpec.upto labelTellsSpec)

/-- 'headstocklaw03.LabelShort', WHERE WHAT IT READS IS OF BULK AT MOST 1048576: true; the input reads as it did. -/
def labelShortUptoRow : OpenClaim := { program := "ytfepdieeiplbnaa", sum := "a38204024287458971c4adc1fe6c66d368d72195fb65f0c08a1e175414cdcfc8", func := "headstock/headstocklaw03.LabelShort", spec := "labelShort", apart := false, narrowed := true }
def LabelShortUptoSaid : Prop := labelShortUptoRow.holds Try.pinned (OpenSpec.upto labelShortSpec)

/-- 'headstocklaw03.LabelWrong', WHERE WHAT IT READS IS OF BULK AT MOST 1048576: true; the input reads as it did. -/
def labelWrongUptoRow : OpenClaim := { program := "ytfepdieeiplbnaa", sum := "a38204024287458971c4adc1fe6c66d368d72195fb65f0c08a1e175414cdcfc8", func := "headstock/headstocklaw03.LabelWrong", spec := "labelWrong", apart := false, narrowed := true }
def LabelWrongUptoSaid : Prop := labelWrongUptoRow.holds Try.pinned (OpenSpec.upto labelWrongSpec)

/-- 'headstocklaw03.LabelMoved', WHERE WHAT IT READS IS OF BULK AT MOST 1048576: true; the input reads as it did. -/
def labelMovedUptoRow : OpenClaim := { program := "ytfepdieeiplbnaa", sum := "a38204024287458971c4adc1fe6c66d368d72195fb65f0c08a1e175414cdcfc8", func := "headstock/headstocklaw03.LabelMoved", spec := "labelMoved", apart := false, narrowed := true }
def LabelMovedUptoSaid : Prop := labelMovedUptoRow.holds Try.pinned (OpenSpec.upto labelMovedSpec)

/-- 'headstocklaw03.LabelIdle', WHERE WHAT IT READS IS OF BULK AT MOST 1048576: true; the input reads as it did. -/
def labelIdleUptoRow : OpenClaim := { program := "ytfepdieeiplbnaa", sum := "a38204024287458971c4adc1fe6c66d368d72195fb65f0c08a1e175414cdcfc8", func := "headstock/headstocklaw03.LabelIdle", spec := "labelIdle", apart := false, narrowed := true }
def LabelIdleUptoSaid : Prop := labelIdleUptoRow.holds Try.pinned (OpenSpec.upto labelIdleSpec)

/-- 'headstocklaw03.LabelLeads', WHERE WHAT IT READS IS OF BULK AT MOST 1048576: true; the input reads as it did. -/
def labelLeadsUptoRow : OpenClaim := { program := "ytfepdieeiplbnaa", sum := "a38204024287458971c4adc1fe6c66d368d72195fb65f0c08a1e175414cdcfc8", func := "headstock/headstocklaw03.LabelLeads", spec := "labelLeads", apart := false, narrowed := true }
def LabelLeadsUptoSaid : Prop := labelLeadsUptoRow.holds Try.pinned (OpenSpec.upto labelLeadsSpec)

/-- 'headstocklaw03.LabelBetween', WHERE WHAT IT READS IS OF BULK AT MOST 1048576: true; the input reads as it did. -/
def labelBetweenUptoRow : OpenClaim := { program := "ytfepdieeiplbnaa", sum := "a38204024287458971c4adc1fe6c66d368d72195fb65f0c08a1e175414cdcfc8", func := "headstock/headstocklaw03.LabelBetween", spec := "labelBetween", apart := false, narrowed := true }
def LabelBetweenUptoSaid : Prop := labelBetweenUptoRow.holds Try.pinned (OpenSpec.upto labelBetweenSpec)

/-- 'headstocklaw03.LabelNumbers', WHERE WHAT IT READS IS OF BULK AT MOST 1048576: true; the input reads as it did. -/
def labelNumbersUptoRow : OpenClaim := { program := "ytfepdieeiplbnaa", sum := "a38204024287458971c4adc1fe6c66d368d72195fb65f0c08a1e175414cdcfc8", func := "headstock/headstocklaw03.LabelNumbers", spec := "labelNumbers", apart := false, narrowed := true }
def LabelNumbersUptoSaid : Prop := labelNumbersUptoRow.holds Try.pinned (OpenSpec.upto labelNumbersSpec)

end Rows
end Go.Proofs.Ytfepdieeiplbnaa
