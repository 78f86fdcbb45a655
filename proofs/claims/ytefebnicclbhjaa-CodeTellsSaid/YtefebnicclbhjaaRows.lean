/-
  No cell of these rows narrows 'for every input' (looked for: loops, veiled, ifaces, maps, wideKeys, modest, calm, conditions, laid).
  DERIVED. THE GIVEN ROWS OF THIS SEAT. 8 by the template 'for every input the law returns true; each argument reads behind the call as it read before'; 0 by the template 'total and deterministic' (their statements: YtefebnicclbhjaaTotals.lean).
  GIVEN WITH THE SEED: the statements are not yours to turn. If you find one false, say at which input.
  Laid BY PROGRAM, IN A SANDBOX (cutbox-rows.mjs): the forced cells as the released guide's own fill.sh prints them over the translation 964d75356982605b… (all of the seat's roots in one cut). By AI agents, Wed Nov 11 2026. No macro, syntax, notation, axiom, sorry.
-/
import Derived.Test.YtefebnicclbhjaaChecked
import GoSem.Claim
import GoSem.ClaimJoined
import GoSem.ClaimMapViews
import Derived.JoinedTies
import Derived.KernelRfl
namespace Go.Proofs.Ytefebnicclbhjaa
/- THE CELL 'sum', in the pinned program and in every row, IS THE sha256 OF THE DUMP (.gsa) THAT YtefebnicclbhjaaProg.lean LOADS. Nothing in Lean hashes anything: it is a label: what it is worth is what the hold of that sum in a sandbox is worth. -/
noncomputable def Try.pinned : Pinned := { name := "ytefebnicclbhjaa", sum := "964d75356982605b3f1c760fc2a42e2197161a18a81f631483e6db21444b2b91", checked := Try.checked }
namespace Rows
def none {H : Type} : Left H := { results := [], args := [] }

/-- 'headstocklaw02.CodeTells': WHATEVER THE INPUT: true; the input reads as it did. -/
def codeTellsSpec : ChangeSpec := { name := "codeTells", fn := fun _ => fun
  | [d1, d2, d3] => { results := [.lit (.bool true)], args := [d1, d2, d3] }
  | _ => none }
def codeTellsRow : OpenClaim := { program := "ytefebnicclbhjaa", sum := "964d75356982605b3f1c760fc2a42e2197161a18a81f631483e6db21444b2b91", func := "headstock/headstocklaw02.CodeTells", spec := "codeTells", unfollowed := true, recurses := true, apart := false }
def CodeTellsSaid : Prop := codeTellsRow.holds Try.pinned (OpenSpec.ofChange codeTellsSpec)

/-- ITS FALSE NEIGHBOUR: 'it returns false'. Refute it at one input. -/
def codeTellsWrong : ChangeSpec := { name := "codeTells", fn := fun _ => fun
  | [d1, d2, d3] => { results := [.lit (.bool false)], args := [d1, d2, d3] }
  | _ => none }
def CodeTellsWrongFalsely : Prop := codeTellsRow.holds Try.pinned (OpenSpec.ofChange codeTellsWrong)

/-- 'headstocklaw02.CodeBack': WHATEVER THE INPUT: true; the input reads as it did. -/
def codeBackSpec : ChangeSpec := { name := "codeBack", fn := fun _ => fun
  | [d1, d2] => { results := [.lit (.bool true)], args := [d1, d2] }
  | _ => none }
def codeBackRow : OpenClaim := { program := "ytefebnicclbhjaa", sum := "964d75356982605b3f1c760fc2a42e2197161a18a81f631483e6db21444b2b91", func := "headstock/headstocklaw02.CodeBack", spec := "codeBack", unfollowed := true, recurses := true, apart := false }
def CodeBackSaid : Prop := codeBackRow.holds Try.pinned (OpenSpec.ofChange codeBackSpec)

/-- ITS FALSE NEIGHBOUR: 'it returns false'. Refute it at one input. -/
def codeBackWrong : ChangeSpec := { name := "codeBack", fn := fun _ => fun
  | [d1, d2] => { results := [.lit (.bool false)], args := [d1, d2] }
  | _ => none }
def CodeBackWrongFalsely : Prop := codeBackRow.holds Try.pinned (OpenSpec.ofChange codeBackWrong)

/-- 'headstocklaw02.CodeForth': WHATEVER THE INPUT: true; the input reads as it did. -/
def codeForthSpec : ChangeSpec := { name := "codeForth", fn := fun _ => fun
  | [d1, d2, d3] => { results := [.lit (.bool true)], args := [d1, d2, d3] }
  | _ => none }
def codeForthRow : OpenClaim := { program := "ytefebnicclbhjaa", sum := "964d75356982605b3f1c760fc2a42e2197161a18a81f631483e6db21444b2b91", func := "headstock/headstocklaw02.CodeForth", spec := "codeForth", unfollowed := true, recurses := true, apart := false }
def CodeForthSaid : Prop := codeForthRow.holds Try.pinned (OpenSpec.ofChange codeForthSpec)

/-- ITS FALSE NEIGHBOUR: 'it returns false'. Refute it at one input. -/
def codeForthWrong : ChangeSpec := { name := "codeForth", fn := fun _ => fun
  | [d1, d2, d3] => { results := [.lit (.bool false)], args := [d1, d2, d3] }
  | _ => none }
def CodeForthWrongFalsely : Prop := codeForthRow.holds Try.pinned (OpenSpec.ofChange codeForthWrong)

/-- 'headstocklaw02.CodeFields': WHATEVER THE INPUT: true; the input reads as it did. -/
def codeFieldsSpec : ChangeSpec := { name := "codeFields", fn := fun _ => fun
  | [d1, d2, d3] => { results := [.lit (.bool true)], args := [d1, d2, d3] }
  | _ => none }
def codeFieldsRow : OpenClaim := { program := "ytefebnicclbhjaa", sum := "964d75356982605b3f1c760fc2a42e2197161a18a81f631483e6db21444b2b91", func := "headstock/headstocklaw02.CodeFields", spec := "codeFields", unfollowed := true, recurses := true, apart := false }
def CodeFieldsSaid : Prop := codeFieldsRow.holds Try.pinned (OpenSpec.ofChange codeFieldsSpec)

/-- ITS FALSE NEIGHBOUR: 'it returns false'. Refute it at one input. -/
def codeFieldsWrong : ChangeSpec := { name := "codeFields", fn := fun _ => fun
  | [d1, d2, d3] => { results := [.lit (.bool false)], args := [d1, d2, d3] }
  | _ => none }
def CodeFieldsWrongFalsely : Prop := codeFieldsRow.holds Try.pinned (OpenSpec.ofChange codeFieldsWrong)

/-- 'headstocklaw02.CodeBeyond': WHATEVER THE INPUT: true; the input reads as it did. -/
def codeBeyondSpec : ChangeSpec := { name := "codeBeyond", fn := fun _ => fun
  | [d1, d2, d3] => { results := [.lit (.bool true)], args := [d1, d2, d3] }
  | _ => none }
def codeBeyondRow : OpenClaim := { program := "ytefebnicclbhjaa", sum := "964d75356982605b3f1c760fc2a42e2197161a18a81f631483e6db21444b2b91", func := "headstock/headstocklaw02.CodeBeyond", spec := "codeBeyond", unfollowed := true, recurses := true, apart := false }
def CodeBeyondSaid : Prop := codeBeyondRow.holds Try.pinned (OpenSpec.ofChange codeBeyondSpec)

/-- ITS FALSE NEIGHBOUR: 'it returns false'. Refute it at one input. -/
def codeBeyondWrong : ChangeSpec := { name := "codeBeyond", fn := fun _ => fun
  | [d1, d2, d3] => { results := [.lit (.bool false)], args := [d1, d2, d3] }
  | _ => none }
def CodeBeyondWrongFalsely : Prop := codeBeyondRow.holds Try.pinned (OpenSpec.ofChange codeBeyondWrong)

/-- 'headstocklaw02.CodeNames': WHATEVER THE INPUT: true; the input reads as it did. -/
def codeNamesSpec : ChangeSpec := { name := "codeNames", fn := fun _ => fun
  | [d1, d2] => { results := [.lit (.bool true)], args := [d1, d2] }
  | _ => none }
def codeNamesRow : OpenClaim := { program := "ytefebnicclbhjaa", sum := "964d75356982605b3f1c760fc2a42e2197161a18a81f631483e6db21444b2b91", func := "headstock/headstocklaw02.CodeNames", spec := "codeNames", unfollowed := true, recurses := true, apart := false }
def CodeNamesSaid : Prop := codeNamesRow.holds Try.pinned (OpenSpec.ofChange codeNamesSpec)

/-- ITS FALSE NEIGHBOUR: 'it returns false'. Refute it at one input. -/
def codeNamesWrong : ChangeSpec := { name := "codeNames", fn := fun _ => fun
  | [d1, d2] => { results := [.lit (.bool false)], args := [d1, d2] }
  | _ => none }
def CodeNamesWrongFalsely : Prop := codeNamesRow.holds Try.pinned (OpenSpec.ofChange codeNamesWrong)

/-- 'headstocklaw02.CodeFlips': WHATEVER THE INPUT: true; the input reads as it did. -/
def codeFlipsSpec : ChangeSpec := { name := "codeFlips", fn := fun _ => fun
  | [d1, d2] => { results := [.lit (.bool true)], args := [d1, d2] }
  | _ => none }
def codeFlipsRow : OpenClaim := { program := "ytefebnicclbhjaa", sum := "964d75356982605b3f1c760fc2a42e2197161a18a81f631483e6db21444b2b91", func := "headstock/headstocklaw02.CodeFlips", spec := "codeFlips", unfollowed := true, recurses := true, apart := false }
def CodeFlipsSaid : Prop := codeFlipsRow.holds Try.pinned (OpenSpec.ofChange codeFlipsSpec)

/-- ITS FALSE NEIGHBOUR: 'it returns false'. Refute it at one input. -/
def codeFlipsWrong : ChangeSpec := { name := "codeFlips", fn := fun _ => fun
  | [d1, d2] => { results := [.lit (.bool false)], args := [d1, d2] }
  | _ => none }
def CodeFlipsWrongFalsely : Prop := codeFlipsRow.holds Try.pinned (OpenSpec.ofChange codeFlipsWrong)

/-- 'headstocklaw02.CodeMoves': WHATEVER THE INPUT: true; the input reads as it did. -/
def codeMovesSpec : ChangeSpec := { name := "codeMoves", fn := fun _ => fun
  | [d1, d2, d3] => { results := [.lit (.bool true)], args := [d1, d2, d3] }
  | _ => none }
def codeMovesRow : OpenClaim := { program := "ytefebnicclbhjaa", sum := "964d75356982605b3f1c760fc2a42e2197161a18a81f631483e6db21444b2b91", func := "headstock/headstocklaw02.CodeMoves", spec := "codeMoves", unfollowed := true, recurses := true, apart := false }
def CodeMovesSaid : Prop := codeMovesRow.holds Try.pinned (OpenSpec.ofChange codeMovesSpec)

/-- ITS FALSE NEIGHBOUR: 'it returns false'. Refute it at one input. -/
def codeMovesWrong : ChangeSpec := { name := "codeMoves", fn := fun _ => fun
  | [d1, d2, d3] => { results := [.lit (.bool false)], args := [d1, d2, d3] }
  | _ => none }
def CodeMovesWrongFalsely : Prop := codeMovesRow.holds Try.pinned (OpenSpec.ofChange codeMovesWrong)

/- THE SECOND FORM. 'bulk': how many values and letters a reading holds, each counted each time it is reached (what is shared counts as often as it is met; a slice's spare places count too). A statement '..UptoSaid' is the law's where the arguments, and the package variables that the reading takes, are together of bulk at most 1048576: NARROWER than '..Said'. Prove '..Said' where nothing that the law and all that it calls make is longer than what came in: it says more and counts as full. Else prove '..UptoSaid'. A law counts once. -/
mutual
def uptoBulk {H : Type} : DataW H → Nat
  | .lit (.string bytes) => bytes.length + 1
  | .lit _ => 1
  | .nil => 1
  | .ptr d => uptoBulk d + 1
  | .slice elems spare => uptoBulkAll elems + uptoBulkAll spare + 1
  | .agg parts => uptoBulkAll parts + 1
  | .iface _ d => uptoBulk d + 1
  | .map entries => uptoBulkEntries entries + 1
  | .held _ => 1
def uptoBulkAll {H : Type} : List (DataW H) → Nat
  | [] => 0
  | d :: r => uptoBulk d + uptoBulkAll r
def uptoBulkEntries {H : Type} : List (Lit × DataW H) → Nat
  | [] => 0
  | x :: r => uptoBulkEntry x + uptoBulkEntries r
def uptoBulkEntry {H : Type} : Lit × DataW H → Nat
  | (.string bytes, d) => bytes.length + uptoBulk d + 1
  | (_, d) => uptoBulk d + 1
 end
def uptoSmall : (H : Type) → List (DataW H) → Bool := fun _ ds => decide (uptoBulkAll ds ≤ 1048576)
def OpenSpec.upto (s : _root_.Go.ChangeSpec) : _root_.Go.OpenSpec := { _root_.Go.OpenSpec.ofChange s with cond := some uptoSmall }

/-- 'headstocklaw02.CodeTells', WHERE WHAT IT READS IS OF BULK AT MOST 1048576: true; the input reads as it did. -/
def codeTellsUptoRow : OpenClaim := { program := "ytefebnicclbhjaa", sum := "964d75356982605b3f1c760fc2a42e2197161a18a81f631483e6db21444b2b91", func := "headstock/headstocklaw02.CodeTells", spec := "codeTells", unfollowed := true, recurses := true, apart := false, narrowed := true }
def CodeTellsUptoSaid : Prop := codeTellsUptoRow.holds Try.pinned (OpenSpec.upto codeTellsSpec)

/-- 'headstocklaw02.CodeBack', WHERE WHAT IT READS IS OF BULK AT MOST 1048576: true; the input reads as it did. -/
def codeBackUptoRow : OpenClaim := { program := "ytefebnicclbhjaa", sum := "964d75356982605b3f1c760fc2a42e2197161a18a81f631483e6db21444b2b91", func := "headstock/headstocklaw02.CodeBack", spec := "codeBack", unfollowed := true, recurses := true, apart := false, narrowed := true }
def CodeBackUptoSaid : Prop := codeBackUptoRow.holds Try.pinned (OpenSpec.upto codeBackSpec)

/-- 'headstocklaw02.CodeForth', WHERE WHAT IT READS IS OF BULK AT MOST 1048576: true; the input reads as it did. -/
def codeForthUptoRow : OpenClaim := { program := "ytefebnicclbhjaa", sum := "964d75356982605b3f1c760fc2a42e2197161a18a81f631483e6db21444b2b91", func := "headstock/headstocklaw02.CodeForth", spec := "codeForth", unfollowed := true, recurses := true, apart := false, narrowed := true }
def CodeForthUptoSaid : Prop := codeForthUptoRow.holds Try.pinned (OpenSpec.upto codeForthSpec)

/-- 'headstocklaw02.CodeFields', WHERE WHAT IT READS IS OF BULK AT MOST 1048576: true; the input reads as it did. -/
def codeFieldsUptoRow : OpenClaim := { program := "ytefebnicclbhjaa", sum := "964d75356982605b3f1c760fc2a42e2197161a18a81f631483e6db21444b2b91", func := "headstock/headstocklaw02.CodeFields", spec := "codeFields", unfollowed := true, recurses := true, apart := false, narrowed := true }
def CodeFieldsUptoSaid : Prop := codeFieldsUptoRow.holds Try.pinned (OpenSpec.upto codeFieldsSpec)

/-- 'headstocklaw02.CodeBeyond', WHERE WHAT IT READS IS OF BULK AT MOST 1048576: true; the input reads as it did. -/
def codeBeyondUptoRow : OpenClaim := { program := "ytefebnicclbhjaa", sum := "964d75356982605b3f1c760fc2a42e2197161a18a81f631483e6db21444b2b91", func := "headstock/headstocklaw02.CodeBeyond", spec := "codeBeyond", unfollowed := true, recurses := true, apart := false, narrowed := true }
def CodeBeyondUptoSaid : Prop := codeBeyondUptoRow.holds Try.pinned (OpenSpec.upto codeBeyondSpec)

/-- 'headstocklaw02.CodeNames', WHERE WHAT IT READS IS OF BULK AT MOST 1048576: true; the input reads as it did. -/
def codeNamesUptoRow : OpenClaim := { program := "ytefebnicclbhjaa", sum := "964d75356982605b3f1c760fc2a42e2197161a18a81f631483e6db21444b2b91", func := "headstock/headstocklaw02.CodeNames", spec := "codeNames", unfollowed := true, recurses := true, apart := false, narrowed := true }
def CodeNamesUptoSaid : Prop := codeNamesUptoRow.holds Try.pinned (OpenSpec.upto codeNamesSpec)

/-- 'headstocklaw02.CodeFlips', WHERE WHAT IT READS IS OF BULK AT MOST 1048576: true; the input reads as it did. -/
def codeFlipsUptoRow : OpenClaim := { program := "ytefebnicclbhjaa", sum := "964d75356982605b3f1c760fc2a42e2197161a18a81f631483e6db21444b2b91", func := "headstock/headstocklaw02.CodeFlips", spec := "codeFlips", unfollowed := true, recurses := true, apart := false, narrowed := true }
def CodeFlipsUptoSaid : Prop := codeFlipsUptoRow.holds Try.pinned (OpenSpec.upto codeFlipsSpec)

/-- 'headstocklaw02.CodeMoves', WHERE WHAT IT READS IS OF BULK AT MOST 1048576: true; the input reads as it did. -/
def codeMovesUptoRow : OpenClaim := { program := "ytefebnicclbhjaa", sum := "964d75356982605b3f1c760fc2a42e2197161a18a81f631483e6db21444b2b91", func := "headstock/headstocklaw02.CodeMoves", spec := "codeMoves", unfollowed := true, recurses := true, apart := false, narrowed := true }
def CodeMovesUptoSaid : Prop := codeMovesUptoRow.holds Try.pinned (OpenSpec.upto codeMovesSpec)

end Rows
end Go.Proofs.Ytefebnicclbhjaa
